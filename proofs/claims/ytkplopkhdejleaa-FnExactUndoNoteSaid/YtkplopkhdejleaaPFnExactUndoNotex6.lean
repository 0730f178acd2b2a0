-- Written by xprint.py (this claim's own program, over the kit's printer); Lean checks it.
import Derived.Test.YtkplopkhdejleaaPFnExactUndoNotex0
import Derived.Test.YtkplopkhdejleaaPFnExactUndoNotex1
namespace Go.Proofs.Ytkplopkhdejleaa.PFnExactUndoNote
open Go.RowKit Go.Proofs.YtkplopkhdejleaaW.PrintWords Go.Proofs.YtkplopkhdejleaaW.PrintLast Go.Proofs.YtkplopkhdejleaaW.PrintMore
attribute [local go_sem] max2_int min2_int max_two min_two max_three min_three max_four min_four   -- for this text's walks alone
set_option linter.unusedVariables false
set_option linter.unusedSimpArgs false   -- squeezed
set_option maxHeartbeats 8000000
set_option maxRecDepth 100000

/-! ### laws_eqBufS: function 54 -/
@[reducible] def b54_0 : Array Bool := (br true [0, 10]).toArray
@[reducible] def b54_1 : Array Bool := (br true [1, 9]).toArray
@[reducible] def b54_2 : Array Bool := (br true [2, 8]).toArray
@[reducible] def b54_3 : Array Bool := (br true [3, 7]).toArray
@[reducible] def b54_4 : Array Bool := (br true [3, 1, 1, 5]).toArray
@[reducible] def b54_5 : Array Bool := (br true [3, 1, 2, 4]).toArray
@[reducible] def b54_6 : Array Bool := (br true [3, 1, 3, 3]).toArray
@[reducible] def b54_7 : Array Bool := (br true [7, 3]).toArray
@[reducible] def b54_8 : Array Bool := (br true [8, 2]).toArray
@[reducible] def b54_9 : Array Bool := (br true [9, 1]).toArray
@[reducible] def b54_10 : Array Bool := (br true [10]).toArray
def laws_eqBufS.l0 : Nat → List (S31) → List (S31) → Int → Option (Bool)
 | 0, _, _, _ => none
 | k + 1, x0, x1, x5 => if x5 < (x0.length : Int) then (if 0 ≤ x5 then (if x5 < (x1.length : Int) then ((laws_eqBuf.f k ((rd_T31 x0 x5).f0) ((rd_T31 x0 x5).f1) ((rd_T31 x0 x5).f2) ((rd_T31 x1 x5).f0) ((rd_T31 x1 x5).f1) ((rd_T31 x1 x5).f2)).bind fun t302 => (if t302 = true then (laws_eqBufS.l0 k x0 x1 (wrap64 (x5 + 1))) else (some false))) else (none)) else (none)) else (some true)
def laws_eqBufS.f (k : Nat) (l0 : List (S31)) (l1 : List (S31)) : Option (Bool) := if (l0.length : Int) = (l1.length : Int) then (laws_eqBufS.l0 k l0 l1 0) else (some false)
theorem laws_eqBufS.mono_l : ∀ k, (∀ y0 y1 y2, LeO (laws_eqBufS.l0 k y0 y1 y2) (laws_eqBufS.l0 (k + 1) y0 y1 y2))
 | 0 => fun _ _ _ r h => by simp [laws_eqBufS.l0] at h
 | k + 1 => by
  have ih0 := laws_eqBufS.mono_l k
  ·intro y0 y1 y2
   unfold laws_eqBufS.l0
   repeat' first
   | (with_reducible exact ih0 _ _ _)
   | (with_reducible exact laws_eqBuf.mono _ _ _ _ _ _ _)
   | (with_reducible exact LeO.refl _)
   | (with_reducible exact LeO.none _)
   | (with_reducible refine LeO.ite ?_ ?_)
   | (with_reducible refine LeO.bind ?_ (fun _ => ?_))
   | exact ih0 _ _ _
   | exact laws_eqBuf.mono _ _ _ _ _ _ _
   | refine LeO.bind ?_ (fun _ => ?_)
theorem laws_eqBufS.mono : ∀ a0 a1 k, LeO (laws_eqBufS.f k a0 a1) (laws_eqBufS.f (k + 1) a0 a1) := by
 intro a0 a1 k
 have ih0 := laws_eqBufS.mono_l k
 unfold laws_eqBufS.f
 repeat' first
   | (with_reducible exact ih0 _ _ _)
   | (with_reducible exact laws_eqBuf.mono _ _ _ _ _ _ _)
   | (with_reducible exact LeO.refl _)
   | (with_reducible exact LeO.none _)
   | (with_reducible refine LeO.ite ?_ ?_)
   | (with_reducible refine LeO.bind ?_ (fun _ => ?_))
   | exact ih0 _ _ _
   | exact laws_eqBuf.mono _ _ _ _ _ _ _
   | refine LeO.bind ?_ (fun _ => ?_)
def laws_eqBufS.T6 : Bool × List (List Nat × List Nat) := (true, [([], []), ([], []), ([0, 1], [0, 1]), ([2], [2]), ([], []), ([], []), ([4, 5], [4, 5]), ([6], [6]), ([3, 7], [3, 7]), ([8], [8])])
def laws_eqBufS.B6 : List Nat := [0, 0, 3, 7, 0, 0, 48, 112, 255, 511]
theorem laws_eqBufS.tab6 : rtab .any (opsOf Try.f54 6) = laws_eqBufS.T6 := by kernel_rfl
theorem laws_eqBufS.bits6 : waitsOk laws_eqBufS.T6.2 laws_eqBufS.B6 = true := by kernel_rfl
theorem laws_eqBufS.calls (k : Nat) (A0 : Option Addr) (c0 : Nat) (l0 : List (S31)) (A1 : Option Addr) (c1 : Nat) (l1 : List (S31)) (r : Bool) (w : World) (hr0 : Kd.C k31 w A0 l0.length l0) (hc0 : l0.length ≤ c0) (hr1 : Kd.C k31 w A1 l1.length l1) (hc1 : l1.length ≤ c1) (h : laws_eqBufS.f k l0 l1 = some r) :
  Calls Try.prog 54 #[.slice A0 l0.length c0, .slice A1 l1.length c1] w fun e w' => e = .returned (.bool r) ∧ Below w.heap.size w w' := by
 have hu31 := Try.underlying31
 have HR0 := am hr0
 have HC0 := am hc0
 clear hr0 hc0
 have HR1 := am hr1
 have HC1 := am hc1
 clear hr1 hc1
 have HB := am (Below.refl w.heap.size w)
 have H : (if (l0.length : Int) = (l1.length : Int) then (laws_eqBufS.l0 k l0 l1 0) else (some false)) = some r := h
 clear h
 by_cases c3 : (l0.length : Int) = (l1.length : Int)
 ·rw [if_pos c3] at H
  have c3b0 : ((l0.length : Int) == (l1.length : Int)) = true := beq_iff_eq.mpr c3
  have c3b1 : ((l0.length : Int) != (l1.length : Int)) = false := bne_eq_false_iff_eq.mpr c3
  have c3b2 : (l0.length == l1.length) = true := by first | simpa using c3 | (simp at c3 ⊢; omega)
  clear c3
  have H' := Aside0.mk H
  clear H
  go_enter Try.func54, Try.ntmps54
  go_wp2
  go_loopg [5] k (fun kq v5 w' => ∃ (x5_1 : Int), v5 = .int .i64 x5_1 ∧ Aside0 (laws_eqBufS.l0 kq l0 l1 x5_1 = some r) ∧ Aside0 (kq ≤ k) ∧ Aside0 (Below w.heap.size w w'))
  case atStart => exact ⟨(0), (by first | rfl | (simp; done) | (simp [*]; done)), H', ⟨Nat.le_refl _⟩, ⟨by repeat (first | (with_reducible first | exact HB.out | apply below_alloc | apply pw_below_drewN | apply below_drew1) | exact HB.out)⟩⟩
  case round =>
   clear H'
   try clear c1
   try clear p2
   try clear c3
   try clear c3b0
   try clear c3b1
   try clear c3b2
   obtain ⟨x5_1, rfl, HA, HK1, HB⟩ := hrel
   cases gk with
   | zero => exact absurd HA.out (by simp [laws_eqBufS.l0])
   | succ k1 =>
    have H := HA.out
    clear HA
    simp only [laws_eqBufS.l0] at H
    by_cases c4 : x5_1 < (l0.length : Int)
    ·rw [if_pos c4] at H
     have c4b0 : decide (x5_1 < (l0.length : Int)) = true := decide_eq_true c4
     clear c4
     by_cases c5 : 0 ≤ x5_1
     ·rw [if_pos c5] at H
      have c5b0 : decide (0 ≤ x5_1) = true := decide_eq_true c5
      clear c5
      by_cases c6 : x5_1 < (l1.length : Int)
      ·rw [if_pos c6] at H
       have c6b0 : decide (x5_1 < (l1.length : Int)) = true := decide_eq_true c6
       clear c6
       replace H := Option.bind_eq_some_iff.mp H
       obtain ⟨t302, A70, H⟩ := H
       replace H : (if t302 = true then (laws_eqBufS.l0 k1 l0 l1 (wrap64 (x5_1 + 1))) else (some false)) = some r := H
       have A7 := Aside0.mk A70
       clear A70
       by_cases c8 : t302 = true
       ·subst c8
        have H1 : (laws_eqBufS.l0 k1 l0 l1 (wrap64 (x5_1 + 1))) = some r := by rw [if_pos rfl] at H; exact H
        clear H
        have H := H1
        clear H1
        have H' := Aside0.mk H
        clear H
        try go_wp2
        replace HB := am (below_drew1 HB.out)
        have p300 : 0 ≤ (x5_1 : Int) := of_decide_eq_true (by first | (with_reducible assumption) | assumption)
        have q300 : x5_1 < (l0.length : Int) := of_decide_eq_true (by first | (with_reducible assumption) | assumption)
        obtain ⟨ad300, A300_0, c300_0, e300, hx300_0, hx300_1, hx300_2, hl300_0, hi300_0⟩ := at_T31 HR0.out x5_1 p300 q300
        have hw300_2 := hx300_2
        have hw300_1 := hx300_1
        have hw300_0 := hx300_0
        cases e300
        have hxw300_0 := hx300_0
        replace hx300_0 := (HB.out.cell (World.block_lt_of_cell? w _ hx300_0)).trans hx300_0
        have hxw300_1 := hx300_1
        replace hx300_1 := (HB.out.cell (World.block_lt_of_cell? w _ hx300_1)).trans hx300_1
        have hxw300_2 := hx300_2
        replace hx300_2 := (HB.out.cell (World.block_lt_of_cell? w _ hx300_2)).trans hx300_2
        have HR300_0 := am hi300_0
        have HC300_0 := am hl300_0
        clear hi300_0 hl300_0
        replace p300 := eq_true p300
        replace q300 := eq_true q300
        have p301 : 0 ≤ (x5_1 : Int) := of_decide_eq_true (by first | (with_reducible assumption) | assumption)
        have q301 : x5_1 < (l1.length : Int) := of_decide_eq_true (by first | (with_reducible assumption) | assumption)
        obtain ⟨ad301, A301_0, c301_0, e301, hx301_0, hx301_1, hx301_2, hl301_0, hi301_0⟩ := at_T31 HR1.out x5_1 p301 q301
        have hw301_2 := hx301_2
        have hw301_1 := hx301_1
        have hw301_0 := hx301_0
        cases e301
        have hxw301_0 := hx301_0
        replace hx301_0 := (HB.out.cell (World.block_lt_of_cell? w _ hx301_0)).trans hx301_0
        have hxw301_1 := hx301_1
        replace hx301_1 := (HB.out.cell (World.block_lt_of_cell? w _ hx301_1)).trans hx301_1
        have hxw301_2 := hx301_2
        replace hx301_2 := (HB.out.cell (World.block_lt_of_cell? w _ hx301_2)).trans hx301_2
        have HR301_0 := am hi301_0
        have HC301_0 := am hl301_0
        clear hi301_0 hl301_0
        replace p301 := eq_true p301
        replace q301 := eq_true q301
        refine start_ (n := 10) (S := fun w' => w'.cell? (ad300.add ((x5_1).toNat * 3)) = some (.slice A300_0 ((rd_T31 l0 x5_1).f0).length c300_0) ∧ w'.cell? ⟨(ad300.add ((x5_1).toNat * 3)).block, (ad300.add ((x5_1).toNat * 3)).off + 1, none⟩ = some (.int .i64 ((rd_T31 l0 x5_1).f1)) ∧ w'.cell? ⟨(ad300.add ((x5_1).toNat * 3)).block, (ad300.add ((x5_1).toNat * 3)).off + 2, none⟩ = some (.int .i64 ((rd_T31 l0 x5_1).f2)) ∧ w'.cell? (ad301.add ((x5_1).toNat * 3)) = some (.slice A301_0 ((rd_T31 l1 x5_1).f0).length c301_0) ∧ w'.cell? ⟨(ad301.add ((x5_1).toNat * 3)).block, (ad301.add ((x5_1).toNat * 3)).off + 1, none⟩ = some (.int .i64 ((rd_T31 l1 x5_1).f1)) ∧ w'.cell? ⟨(ad301.add ((x5_1).toNat * 3)).block, (ad301.add ((x5_1).toNat * 3)).off + 2, none⟩ = some (.int .i64 ((rd_T31 l1 x5_1).f2))) (ds := []) b54_0 (by kernel_rfl) rfl rfl ⟨((HB.out.cell (World.block_lt_of_cell? _ _ hw300_0)).trans hw300_0), ((HB.out.cell (World.block_lt_of_cell? _ _ hw300_1)).trans hw300_1), ((HB.out.cell (World.block_lt_of_cell? _ _ hw300_2)).trans hw300_2), ((HB.out.cell (World.block_lt_of_cell? _ _ hw301_0)).trans hw301_0), ((HB.out.cell (World.block_lt_of_cell? _ _ hw301_1)).trans hw301_1), ((HB.out.cell (World.block_lt_of_cell? _ _ hw301_2)).trans hw301_2)⟩ (fun hHeld => ?_); refine with_tabW laws_eqBufS.tab6 laws_eqBufS.bits6 (fun HT_ HW_ => ?_)
        generalize wr.drew = w9 at HB HR300_0 HR301_0 hx300_0 hx300_1 hx300_2 hx301_0 hx301_1 hx301_2 hHeld ⊢
        refine pu_ 0 (some 17) ?_ b54_1 rfl rfl HT_.out (by kernel_rfl) (fun _ _ _ h => h) (Or.inl ⟨by rfl, ?_⟩) ?_ ?_ ?_; rotate_left
        ·intro w'; go_simp; with_reducible rfl
        rotate_left
        ·simp only [Act.put, sa_, s0_, ss_, i64_w, i32_w]; rfl
        refine pu_ 1 (some 18) ?_ b54_2 rfl rfl HT_.out (by kernel_rfl) (fun _ _ _ h => h) (Or.inl ⟨by rfl, ?_⟩) ?_ ?_ ?_; rotate_left
        ·intro w'; go_simp; with_reducible rfl
        rotate_left
        ·simp only [Act.put, sa_, s0_, ss_, i64_w, i32_w]; rfl
        refine pu_ 2 (some 19) ?_ b54_3 rfl rfl HT_.out (by kernel_rfl) (fun _ _ _ h => h) (Or.inl ⟨by rfl, ?_⟩) ?_ ?_ ?_; rotate_left
        ·intro w'; go_simp; with_reducible rfl
        rotate_left
        ·simp only [Act.put, sa_, s0_, ss_, i64_w, i32_w]; rfl
        refine pu_ 4 (some 21) ?_ b54_4 rfl rfl HT_.out (by kernel_rfl) (fun _ _ _ h => h) (Or.inl ⟨by rfl, ?_⟩) ?_ ?_ ?_; rotate_left
        ·intro w'; go_simp; with_reducible rfl
        rotate_left
        ·simp only [Act.put, sa_, s0_, ss_, i64_w, i32_w]; rfl
        refine pu_ 5 (some 22) ?_ b54_5 rfl rfl HT_.out (by kernel_rfl) (fun _ _ _ h => h) (Or.inl ⟨by rfl, ?_⟩) ?_ ?_ ?_; rotate_left
        ·intro w'; go_simp; with_reducible rfl
        rotate_left
        ·simp only [Act.put, sa_, s0_, ss_, i64_w, i32_w]; rfl
        refine pu_ 6 (some 23) ?_ b54_6 rfl rfl HT_.out (by kernel_rfl) (fun _ _ _ h => h) (Or.inl ⟨by rfl, ?_⟩) ?_ ?_ ?_; rotate_left
        ·intro w'; go_simp; with_reducible rfl
        rotate_left
        ·simp only [Act.put, sa_, s0_, ss_, i64_w, i32_w]; rfl
        refine tk_ 3 (some 20) ?_ b54_7 rfl rfl HT_.out HW_.out (by kernel_rfl) (fun _ _ _ h => h) (Or.inl ⟨by rfl, ?_⟩) hHeld ?_ ?_ ?_; rotate_left
        ·rintro w' ⟨s0, s1, s2, s3, s4, s5⟩; go_simp; with_reducible rfl
        rotate_left
        ·simp only [Act.put, sa_, s0_, ss_, i64_w, i32_w]; rfl
        refine tk_ 7 (some 24) ?_ b54_8 rfl rfl HT_.out HW_.out (by kernel_rfl) (fun _ _ _ h => h) (Or.inl ⟨by rfl, ?_⟩) hHeld ?_ ?_ ?_; rotate_left
        ·rintro w' ⟨s0, s1, s2, s3, s4, s5⟩; go_simp; with_reducible rfl
        rotate_left
        ·simp only [Act.put, sa_, s0_, ss_, i64_w, i32_w]; rfl
        refine one_ (i := 8) (N := some 25) b54_9 rfl rfl (one_of HT_.out (by kernel_rfl)) (by decide) (fun K hK => ?_)
        refine gs_ Try.func13 #[.agg #[.slice A300_0 ((rd_T31 l0 x5_1).f0).length c300_0, .int .i64 ((rd_T31 l0 x5_1).f1), .int .i64 ((rd_T31 l0 x5_1).f2)], .agg #[.slice A301_0 ((rd_T31 l1 x5_1).f0).length c301_0, .int .i64 ((rd_T31 l1 x5_1).f1), .int .i64 ((rd_T31 l1 x5_1).f2)]] ?_
        with_reducible refine (laws_eqBuf.calls k1 _ _ ((rd_T31 l0 x5_1).f0) ((rd_T31 l0 x5_1).f1) ((rd_T31 l0 x5_1).f2) _ _ ((rd_T31 l1 x5_1).f0) ((rd_T31 l1 x5_1).f1) ((rd_T31 l1 x5_1).f2) true _ ?side1 ?side2 ?side3 ?side4 A7.out).mono ?_
        (case side1 => repeat (first | exact (Kd.C_below HR300_0.out HB.out) | (with_reducible refine Kd.C_alloc ?_ _) | (with_reducible refine Kd.C_drewN ?_ _) | (with_reducible refine Kd.C_drew ?_)))
        (case side2 => exact HC300_0.out)
        (case side3 => repeat (first | exact (Kd.C_below HR301_0.out HB.out) | (with_reducible refine Kd.C_alloc ?_ _) | (with_reducible refine Kd.C_drewN ?_ _) | (with_reducible refine Kd.C_drew ?_)))
        (case side4 => exact HC301_0.out)
        rintro e w10 ⟨rfl, hb⟩
        refine ⟨_, rfl, ?_⟩
        replace HB := am (below_step (bl HB.out) hb)
        (try clear hb)
        (try clear hb2)
        (try clear hk)
        (try clear hi)
        refine hK.out _ _ ⟨((HB.out.cell (World.block_lt_of_cell? _ _ hw300_0)).trans hw300_0), ((HB.out.cell (World.block_lt_of_cell? _ _ hw300_1)).trans hw300_1), ((HB.out.cell (World.block_lt_of_cell? _ _ hw300_2)).trans hw300_2), ((HB.out.cell (World.block_lt_of_cell? _ _ hw301_0)).trans hw301_0), ((HB.out.cell (World.block_lt_of_cell? _ _ hw301_1)).trans hw301_1), ((HB.out.cell (World.block_lt_of_cell? _ _ hw301_2)).trans hw301_2)⟩ (fun hHeld => ?_)
        clear hK K
        refine norm_ (a' := ?_) ?_ ?_
        rotate_left
        ·show Act.put _ (some 25) _ = _
         simp only [Act.put, sa_, s0_, ss_, i64_w, i32_w]
         rfl
        refine pu_ 9 (some 26) ?_ b54_10 rfl rfl HT_.out (by kernel_rfl) (fun _ _ _ h => h) (Or.inl ⟨by rfl, ?_⟩) ?_ ?_ ?_; rotate_left
        ·intro w'; go_simp; with_reducible rfl
        rotate_left
        ·simp only [Act.put, sa_, s0_, ss_, i64_w, i32_w]; rfl
        refine done_ (done_of HT_.out (by kernel_rfl)) ?_
        try go_wp2
        go_roundg k1
        case measure => have := HK1.out; omega
        case rel => exact ⟨(wrap64 (x5_1 + 1)), (by first | rfl | (simp; done) | (simp [*]; done)), H', ⟨by have := HK1.out; omega⟩, ⟨by repeat (first | (with_reducible first | exact HB.out | apply below_alloc | apply pw_below_drewN | apply below_drew1) | exact HB.out)⟩⟩
       ·replace c8 := Bool.eq_false_iff.mpr c8
        subst c8
        have H1 : (some false) = some r := by rw [if_neg (show ¬ (false = true) by decide)] at H; exact H
        clear H
        have H := H1
        clear H1
        obtain rfl := Option.some.inj H
        try go_wp2
        replace HB := am (below_drew1 HB.out)
        have p300 : 0 ≤ (x5_1 : Int) := of_decide_eq_true (by first | (with_reducible assumption) | assumption)
        have q300 : x5_1 < (l0.length : Int) := of_decide_eq_true (by first | (with_reducible assumption) | assumption)
        obtain ⟨ad300, A300_0, c300_0, e300, hx300_0, hx300_1, hx300_2, hl300_0, hi300_0⟩ := at_T31 HR0.out x5_1 p300 q300
        have hw300_2 := hx300_2
        have hw300_1 := hx300_1
        have hw300_0 := hx300_0
        cases e300
        have hxw300_0 := hx300_0
        replace hx300_0 := (HB.out.cell (World.block_lt_of_cell? w _ hx300_0)).trans hx300_0
        have hxw300_1 := hx300_1
        replace hx300_1 := (HB.out.cell (World.block_lt_of_cell? w _ hx300_1)).trans hx300_1
        have hxw300_2 := hx300_2
        replace hx300_2 := (HB.out.cell (World.block_lt_of_cell? w _ hx300_2)).trans hx300_2
        have HR300_0 := am hi300_0
        have HC300_0 := am hl300_0
        clear hi300_0 hl300_0
        replace p300 := eq_true p300
        replace q300 := eq_true q300
        have p301 : 0 ≤ (x5_1 : Int) := of_decide_eq_true (by first | (with_reducible assumption) | assumption)
        have q301 : x5_1 < (l1.length : Int) := of_decide_eq_true (by first | (with_reducible assumption) | assumption)
        obtain ⟨ad301, A301_0, c301_0, e301, hx301_0, hx301_1, hx301_2, hl301_0, hi301_0⟩ := at_T31 HR1.out x5_1 p301 q301
        have hw301_2 := hx301_2
        have hw301_1 := hx301_1
        have hw301_0 := hx301_0
        cases e301
        have hxw301_0 := hx301_0
        replace hx301_0 := (HB.out.cell (World.block_lt_of_cell? w _ hx301_0)).trans hx301_0
        have hxw301_1 := hx301_1
        replace hx301_1 := (HB.out.cell (World.block_lt_of_cell? w _ hx301_1)).trans hx301_1
        have hxw301_2 := hx301_2
        replace hx301_2 := (HB.out.cell (World.block_lt_of_cell? w _ hx301_2)).trans hx301_2
        have HR301_0 := am hi301_0
        have HC301_0 := am hl301_0
        clear hi301_0 hl301_0
        replace p301 := eq_true p301
        replace q301 := eq_true q301
        refine start_ (n := 10) (S := fun w' => w'.cell? (ad300.add ((x5_1).toNat * 3)) = some (.slice A300_0 ((rd_T31 l0 x5_1).f0).length c300_0) ∧ w'.cell? ⟨(ad300.add ((x5_1).toNat * 3)).block, (ad300.add ((x5_1).toNat * 3)).off + 1, none⟩ = some (.int .i64 ((rd_T31 l0 x5_1).f1)) ∧ w'.cell? ⟨(ad300.add ((x5_1).toNat * 3)).block, (ad300.add ((x5_1).toNat * 3)).off + 2, none⟩ = some (.int .i64 ((rd_T31 l0 x5_1).f2)) ∧ w'.cell? (ad301.add ((x5_1).toNat * 3)) = some (.slice A301_0 ((rd_T31 l1 x5_1).f0).length c301_0) ∧ w'.cell? ⟨(ad301.add ((x5_1).toNat * 3)).block, (ad301.add ((x5_1).toNat * 3)).off + 1, none⟩ = some (.int .i64 ((rd_T31 l1 x5_1).f1)) ∧ w'.cell? ⟨(ad301.add ((x5_1).toNat * 3)).block, (ad301.add ((x5_1).toNat * 3)).off + 2, none⟩ = some (.int .i64 ((rd_T31 l1 x5_1).f2))) (ds := []) b54_0 (by kernel_rfl) rfl rfl ⟨((HB.out.cell (World.block_lt_of_cell? _ _ hw300_0)).trans hw300_0), ((HB.out.cell (World.block_lt_of_cell? _ _ hw300_1)).trans hw300_1), ((HB.out.cell (World.block_lt_of_cell? _ _ hw300_2)).trans hw300_2), ((HB.out.cell (World.block_lt_of_cell? _ _ hw301_0)).trans hw301_0), ((HB.out.cell (World.block_lt_of_cell? _ _ hw301_1)).trans hw301_1), ((HB.out.cell (World.block_lt_of_cell? _ _ hw301_2)).trans hw301_2)⟩ (fun hHeld => ?_); refine with_tabW laws_eqBufS.tab6 laws_eqBufS.bits6 (fun HT_ HW_ => ?_)
        generalize wr.drew = w11 at HB HR300_0 HR301_0 hx300_0 hx300_1 hx300_2 hx301_0 hx301_1 hx301_2 hHeld ⊢
        refine pu_ 0 (some 17) ?_ b54_1 rfl rfl HT_.out (by kernel_rfl) (fun _ _ _ h => h) (Or.inl ⟨by rfl, ?_⟩) ?_ ?_ ?_; rotate_left
        ·intro w'; go_simp; with_reducible rfl
        rotate_left
        ·simp only [Act.put, sa_, s0_, ss_, i64_w, i32_w]; rfl
        refine pu_ 1 (some 18) ?_ b54_2 rfl rfl HT_.out (by kernel_rfl) (fun _ _ _ h => h) (Or.inl ⟨by rfl, ?_⟩) ?_ ?_ ?_; rotate_left
        ·intro w'; go_simp; with_reducible rfl
        rotate_left
        ·simp only [Act.put, sa_, s0_, ss_, i64_w, i32_w]; rfl
        refine pu_ 2 (some 19) ?_ b54_3 rfl rfl HT_.out (by kernel_rfl) (fun _ _ _ h => h) (Or.inl ⟨by rfl, ?_⟩) ?_ ?_ ?_; rotate_left
        ·intro w'; go_simp; with_reducible rfl
        rotate_left
        ·simp only [Act.put, sa_, s0_, ss_, i64_w, i32_w]; rfl
        refine pu_ 4 (some 21) ?_ b54_4 rfl rfl HT_.out (by kernel_rfl) (fun _ _ _ h => h) (Or.inl ⟨by rfl, ?_⟩) ?_ ?_ ?_; rotate_left
        ·intro w'; go_simp; with_reducible rfl
        rotate_left
        ·simp only [Act.put, sa_, s0_, ss_, i64_w, i32_w]; rfl
        refine pu_ 5 (some 22) ?_ b54_5 rfl rfl HT_.out (by kernel_rfl) (fun _ _ _ h => h) (Or.inl ⟨by rfl, ?_⟩) ?_ ?_ ?_; rotate_left
        ·intro w'; go_simp; with_reducible rfl
        rotate_left
        ·simp only [Act.put, sa_, s0_, ss_, i64_w, i32_w]; rfl
        refine pu_ 6 (some 23) ?_ b54_6 rfl rfl HT_.out (by kernel_rfl) (fun _ _ _ h => h) (Or.inl ⟨by rfl, ?_⟩) ?_ ?_ ?_; rotate_left
        ·intro w'; go_simp; with_reducible rfl
        rotate_left
        ·simp only [Act.put, sa_, s0_, ss_, i64_w, i32_w]; rfl
        refine tk_ 3 (some 20) ?_ b54_7 rfl rfl HT_.out HW_.out (by kernel_rfl) (fun _ _ _ h => h) (Or.inl ⟨by rfl, ?_⟩) hHeld ?_ ?_ ?_; rotate_left
        ·rintro w' ⟨s0, s1, s2, s3, s4, s5⟩; go_simp; with_reducible rfl
        rotate_left
        ·simp only [Act.put, sa_, s0_, ss_, i64_w, i32_w]; rfl
        refine tk_ 7 (some 24) ?_ b54_8 rfl rfl HT_.out HW_.out (by kernel_rfl) (fun _ _ _ h => h) (Or.inl ⟨by rfl, ?_⟩) hHeld ?_ ?_ ?_; rotate_left
        ·rintro w' ⟨s0, s1, s2, s3, s4, s5⟩; go_simp; with_reducible rfl
        rotate_left
        ·simp only [Act.put, sa_, s0_, ss_, i64_w, i32_w]; rfl
        refine one_ (i := 8) (N := some 25) b54_9 rfl rfl (one_of HT_.out (by kernel_rfl)) (by decide) (fun K hK => ?_)
        refine gs_ Try.func13 #[.agg #[.slice A300_0 ((rd_T31 l0 x5_1).f0).length c300_0, .int .i64 ((rd_T31 l0 x5_1).f1), .int .i64 ((rd_T31 l0 x5_1).f2)], .agg #[.slice A301_0 ((rd_T31 l1 x5_1).f0).length c301_0, .int .i64 ((rd_T31 l1 x5_1).f1), .int .i64 ((rd_T31 l1 x5_1).f2)]] ?_
        with_reducible refine (laws_eqBuf.calls k1 _ _ ((rd_T31 l0 x5_1).f0) ((rd_T31 l0 x5_1).f1) ((rd_T31 l0 x5_1).f2) _ _ ((rd_T31 l1 x5_1).f0) ((rd_T31 l1 x5_1).f1) ((rd_T31 l1 x5_1).f2) false _ ?side1 ?side2 ?side3 ?side4 A7.out).mono ?_
        (case side1 => repeat (first | exact (Kd.C_below HR300_0.out HB.out) | (with_reducible refine Kd.C_alloc ?_ _) | (with_reducible refine Kd.C_drewN ?_ _) | (with_reducible refine Kd.C_drew ?_)))
        (case side2 => exact HC300_0.out)
        (case side3 => repeat (first | exact (Kd.C_below HR301_0.out HB.out) | (with_reducible refine Kd.C_alloc ?_ _) | (with_reducible refine Kd.C_drewN ?_ _) | (with_reducible refine Kd.C_drew ?_)))
        (case side4 => exact HC301_0.out)
        rintro e w12 ⟨rfl, hb⟩
        refine ⟨_, rfl, ?_⟩
        replace HB := am (below_step (bl HB.out) hb)
        (try clear hb)
        (try clear hb2)
        (try clear hk)
        (try clear hi)
        refine hK.out _ _ ⟨((HB.out.cell (World.block_lt_of_cell? _ _ hw300_0)).trans hw300_0), ((HB.out.cell (World.block_lt_of_cell? _ _ hw300_1)).trans hw300_1), ((HB.out.cell (World.block_lt_of_cell? _ _ hw300_2)).trans hw300_2), ((HB.out.cell (World.block_lt_of_cell? _ _ hw301_0)).trans hw301_0), ((HB.out.cell (World.block_lt_of_cell? _ _ hw301_1)).trans hw301_1), ((HB.out.cell (World.block_lt_of_cell? _ _ hw301_2)).trans hw301_2)⟩ (fun hHeld => ?_)
        clear hK K
        refine norm_ (a' := ?_) ?_ ?_
        rotate_left
        ·show Act.put _ (some 25) _ = _
         simp only [Act.put, sa_, s0_, ss_, i64_w, i32_w]
         rfl
        refine pu_ 9 (some 26) ?_ b54_10 rfl rfl HT_.out (by kernel_rfl) (fun _ _ _ h => h) (Or.inl ⟨by rfl, ?_⟩) ?_ ?_ ?_; rotate_left
        ·intro w'; go_simp; with_reducible rfl
        rotate_left
        ·simp only [Act.put, sa_, s0_, ss_, i64_w, i32_w]; rfl
        refine done_ (done_of HT_.out (by kernel_rfl)) ?_
        try go_wp2
        go_ret
        exact ⟨by first | rfl | (simp [errW_none, errW_some] <;> rfl) | (simp [*, errW_none, errW_some] <;> rfl), by repeat (first | (with_reducible first | exact HB.out | apply below_alloc | apply pw_below_drewN | apply below_drew1) | exact HB.out)⟩
      ·rw [if_neg c6] at H
       exact absurd H (by simp)
     ·rw [if_neg c5] at H
      exact absurd H (by simp)
    ·rw [if_neg c4] at H
     have c4b0 : decide (x5_1 < (l0.length : Int)) = false := decide_eq_false c4
     clear c4
     obtain rfl := Option.some.inj H
     go_wp2
     go_ret
     exact ⟨by first | rfl | (simp [errW_none, errW_some] <;> rfl) | (simp [*, errW_none, errW_some] <;> rfl), by repeat (first | (with_reducible first | exact HB.out | apply below_alloc | apply pw_below_drewN | apply below_drew1) | exact HB.out)⟩
 ·rw [if_neg c3] at H
  have c3b0 : ((l0.length : Int) == (l1.length : Int)) = false := beq_eq_false_iff_ne.mpr c3
  have c3b1 : ((l0.length : Int) != (l1.length : Int)) = true := bne_iff_ne.mpr c3
  have c3b2 : (l0.length == l1.length) = false := by first | simpa using c3 | (simp at c3 ⊢; omega)
  obtain rfl := Option.some.inj H
  go_enter Try.func54, Try.ntmps54
  go_wp2
  go_ret
  exact ⟨by first | rfl | (simp [errW_none, errW_some] <;> rfl) | (simp [*, errW_none, errW_some] <;> rfl), by repeat (first | (with_reducible first | exact HB.out | apply below_alloc | apply pw_below_drewN | apply below_drew1) | exact HB.out)⟩

/-! ### laws_eqUndo: function 23 -/
def laws_eqUndo.f (k : Nat) (l0_0 : List (S31)) (l0_1 : List (S31)) (l1_0 : List (S31)) (l1_1 : List (S31)) : Option (Bool) := (laws_eqBufS.f k l0_0 l1_0).bind fun t305 => (if t305 = true then ((laws_eqBufS.f k l0_1 l1_1).bind fun t306 => (if t306 = true then (some true) else (some false))) else (some false))
theorem laws_eqUndo.mono : ∀ a0 a1 a2 a3 k, LeO (laws_eqUndo.f k a0 a1 a2 a3) (laws_eqUndo.f (k + 1) a0 a1 a2 a3) := by
 intro a0 a1 a2 a3 k
 unfold laws_eqUndo.f
 repeat' first
   | (with_reducible exact laws_eqBufS.mono _ _ _)
   | (with_reducible exact LeO.refl _)
   | (with_reducible exact LeO.none _)
   | (with_reducible refine LeO.ite ?_ ?_)
   | (with_reducible refine LeO.bind ?_ (fun _ => ?_))
   | exact laws_eqBufS.mono _ _ _
   | refine LeO.bind ?_ (fun _ => ?_)
theorem laws_eqUndo.calls (k : Nat) (A0_0 : Option Addr) (c0_0 : Nat) (l0_0 : List (S31)) (A0_1 : Option Addr) (c0_1 : Nat) (l0_1 : List (S31)) (A1_0 : Option Addr) (c1_0 : Nat) (l1_0 : List (S31)) (A1_1 : Option Addr) (c1_1 : Nat) (l1_1 : List (S31)) (r : Bool) (w : World) (hr0_0 : Kd.C k31 w A0_0 l0_0.length l0_0) (hc0_0 : l0_0.length ≤ c0_0) (hr0_1 : Kd.C k31 w A0_1 l0_1.length l0_1) (hc0_1 : l0_1.length ≤ c0_1) (hr1_0 : Kd.C k31 w A1_0 l1_0.length l1_0) (hc1_0 : l1_0.length ≤ c1_0) (hr1_1 : Kd.C k31 w A1_1 l1_1.length l1_1) (hc1_1 : l1_1.length ≤ c1_1) (h : laws_eqUndo.f k l0_0 l0_1 l1_0 l1_1 = some r) :
  Calls Try.prog 23 #[.agg #[.slice A0_0 l0_0.length c0_0, .slice A0_1 l0_1.length c0_1], .agg #[.slice A1_0 l1_0.length c1_0, .slice A1_1 l1_1.length c1_1]] w fun e w' => e = .returned (.bool r) ∧ Below w.heap.size w w' := by
 have hu30 := Try.underlying30
 have HR0_0 := am hr0_0
 have HC0_0 := am hc0_0
 clear hr0_0 hc0_0
 have HR0_1 := am hr0_1
 have HC0_1 := am hc0_1
 clear hr0_1 hc0_1
 have HR1_0 := am hr1_0
 have HC1_0 := am hc1_0
 clear hr1_0 hc1_0
 have HR1_1 := am hr1_1
 have HC1_1 := am hc1_1
 clear hr1_1 hc1_1
 have HB := am (Below.refl w.heap.size w)
 have H : ((laws_eqBufS.f k l0_0 l1_0).bind fun t305 => (if t305 = true then ((laws_eqBufS.f k l0_1 l1_1).bind fun t306 => (if t306 = true then (some true) else (some false))) else (some false))) = some r := h
 clear h
 replace H := Option.bind_eq_some_iff.mp H
 obtain ⟨t305, A30, H⟩ := H
 replace H : (if t305 = true then ((laws_eqBufS.f k l0_1 l1_1).bind fun t306 => (if t306 = true then (some true) else (some false))) else (some false)) = some r := H
 have A3 := Aside0.mk A30
 clear A30
 by_cases c4 : t305 = true
 ·subst c4
  have H1 : ((laws_eqBufS.f k l0_1 l1_1).bind fun t306 => (if t306 = true then (some true) else (some false))) = some r := by rw [if_pos rfl] at H; exact H
  clear H
  have H := H1
  clear H1
  replace H := Option.bind_eq_some_iff.mp H
  obtain ⟨t306, A50, H⟩ := H
  replace H : (if t306 = true then (some true) else (some false)) = some r := H
  have A5 := Aside0.mk A50
  clear A50
  by_cases c6 : t306 = true
  ·subst c6
   have H1 : (some true) = some r := by rw [if_pos rfl] at H; exact H
   clear H
   have H := H1
   clear H1
   obtain rfl := Option.some.inj H
   go_enter Try.func23, Try.ntmps23
   go_wp2_with (first | ((with_reducible refine gate_dst (N := 2) rfl ?_); refine box_event ?hg (N := 2) ?hd (cs := #[.slice A0_0 l0_0.length c0_0, .slice A0_1 l0_1.length c0_1]) (t := 30) ?hr ?_; (case hd => rfl); (case hg => rfl); (case hr => first | (go_simp; done) | (go_simp; rfl)); intro gb303 hg w7 hbox hb; have BK303 := am (hbox); have GW303 := am ((by rw [hg]; exact (below_size (bl HB.out)) : w.heap.size ≤ gb303)); have GE303 := GW303; replace HB := am (below_step (bl HB.out) hb); clear hb hbox hg) | ((with_reducible refine gate_dst (N := 3) rfl ?_); refine box_event ?hg (N := 3) ?hd (cs := #[.slice A1_0 l1_0.length c1_0, .slice A1_1 l1_1.length c1_1]) (t := 30) ?hr ?_; (case hd => rfl); (case hg => rfl); (case hr => first | (go_simp; done) | (go_simp; rfl)); intro gb304 hg w8 hbox hb; have BK304 := am (hbox); have GW304 := am ((by rw [hg]; exact (below_size (bl HB.out)) : w.heap.size ≤ gb304)); have GE304 := GW304; replace HB := am (below_step (bl HB.out) hb); have NB303_304 := am ((by rw [hg]; exact Nat.ne_of_lt (blk_lt (pk BK303.out)) : gb303 ≠ gb304)); have NB304_303 := am ((by rw [hg]; exact Nat.ne_of_gt (blk_lt (pk BK303.out)) : gb304 ≠ gb303)); replace BK303 := am (blk_below (pk BK303.out) hb); clear hb hbox hg; have hnb9 := NB303_304.out; have hnc9 := NB304_303.out; have hcz10_0 : w8.cell? ⟨gb303, 0, none⟩ = some (.slice A0_0 l0_0.length c0_0) := bc BK303.out 0; have hcz10_1 : w8.cell? ⟨gb303, 1, none⟩ = some (.slice A0_1 l0_1.length c0_1) := bc BK303.out 1; have hcz11_0 : w8.cell? ⟨gb304, 0, none⟩ = some (.slice A1_0 l1_0.length c1_0) := bc BK304.out 0; have hcz11_1 : w8.cell? ⟨gb304, 1, none⟩ = some (.slice A1_1 l1_1.length c1_1) := bc BK304.out 1) | ((with_reducible refine gate_callee (f := 54) rfl ?_); refine gl (some 9) Try.func54 #[.slice A0_0 l0_0.length c0_0, .slice A1_0 l1_0.length c1_0] ?_; (with_reducible refine (laws_eqBufS.calls k _ _ l0_0 _ _ l1_0 true _ ?side1 ?side2 ?side3 ?side4 A3.out).mono ?_); (case side1 => repeat (first | exact (Kd.C_below HR0_0.out HB.out) | (with_reducible refine Kd.C_alloc ?_ _) | (with_reducible refine Kd.C_drewN ?_ _) | (with_reducible refine Kd.C_drew ?_))); (case side2 => exact HC0_0.out); (case side3 => repeat (first | exact (Kd.C_below HR1_0.out HB.out) | (with_reducible refine Kd.C_alloc ?_ _) | (with_reducible refine Kd.C_drewN ?_ _) | (with_reducible refine Kd.C_drew ?_))); (case side4 => exact HC1_0.out); rintro e w12 ⟨rfl, hb⟩; refine ⟨_, rfl, ?_⟩; replace BK303 := am (blk_below (pk BK303.out) hb); replace BK304 := am (blk_below (pk BK304.out) hb); replace HB := am (below_step (bl HB.out) hb); (try clear hb); (try clear hb2); (try clear hk); (try clear hi); have hcz13_0 : w12.cell? ⟨gb303, 0, none⟩ = some (.slice A0_0 l0_0.length c0_0) := bc BK303.out 0; have hcz13_1 : w12.cell? ⟨gb303, 1, none⟩ = some (.slice A0_1 l0_1.length c0_1) := bc BK303.out 1; have hcz14_0 : w12.cell? ⟨gb304, 0, none⟩ = some (.slice A1_0 l1_0.length c1_0) := bc BK304.out 0; have hcz14_1 : w12.cell? ⟨gb304, 1, none⟩ = some (.slice A1_1 l1_1.length c1_1) := bc BK304.out 1) | ((with_reducible refine gate_callee (f := 54) rfl ?_); refine gl (some 15) Try.func54 #[.slice A0_1 l0_1.length c0_1, .slice A1_1 l1_1.length c1_1] ?_; (with_reducible refine (laws_eqBufS.calls k _ _ l0_1 _ _ l1_1 true _ ?side1 ?side2 ?side3 ?side4 A5.out).mono ?_); (case side1 => repeat (first | exact (Kd.C_below HR0_1.out HB.out) | (with_reducible refine Kd.C_alloc ?_ _) | (with_reducible refine Kd.C_drewN ?_ _) | (with_reducible refine Kd.C_drew ?_))); (case side2 => exact HC0_1.out); (case side3 => repeat (first | exact (Kd.C_below HR1_1.out HB.out) | (with_reducible refine Kd.C_alloc ?_ _) | (with_reducible refine Kd.C_drewN ?_ _) | (with_reducible refine Kd.C_drew ?_))); (case side4 => exact HC1_1.out); rintro e w15 ⟨rfl, hb⟩; refine ⟨_, rfl, ?_⟩; replace BK303 := am (blk_below (pk BK303.out) hb); replace BK304 := am (blk_below (pk BK304.out) hb); replace HB := am (below_step (bl HB.out) hb); (try clear hb); (try clear hb2); (try clear hk); (try clear hi)))
   go_ret
   exact ⟨by first | rfl | (simp [errW_none, errW_some] <;> rfl) | (simp [*, errW_none, errW_some] <;> rfl), by repeat (first | (with_reducible first | exact HB.out | apply below_alloc | apply pw_below_drewN | apply below_drew1 | refine below_set ?_ GE303.out | refine below_set ?_ GE304.out) | exact HB.out)⟩
  ·replace c6 := Bool.eq_false_iff.mpr c6
   subst c6
   have H1 : (some false) = some r := by rw [if_neg (show ¬ (false = true) by decide)] at H; exact H
   clear H
   have H := H1
   clear H1
   obtain rfl := Option.some.inj H
   go_enter Try.func23, Try.ntmps23
   go_wp2_with (first | ((with_reducible refine gate_dst (N := 2) rfl ?_); refine box_event ?hg (N := 2) ?hd (cs := #[.slice A0_0 l0_0.length c0_0, .slice A0_1 l0_1.length c0_1]) (t := 30) ?hr ?_; (case hd => rfl); (case hg => rfl); (case hr => first | (go_simp; done) | (go_simp; rfl)); intro gb303 hg w16 hbox hb; have BK303 := am (hbox); have GW303 := am ((by rw [hg]; exact (below_size (bl HB.out)) : w.heap.size ≤ gb303)); have GE303 := GW303; replace HB := am (below_step (bl HB.out) hb); clear hb hbox hg) | ((with_reducible refine gate_dst (N := 3) rfl ?_); refine box_event ?hg (N := 3) ?hd (cs := #[.slice A1_0 l1_0.length c1_0, .slice A1_1 l1_1.length c1_1]) (t := 30) ?hr ?_; (case hd => rfl); (case hg => rfl); (case hr => first | (go_simp; done) | (go_simp; rfl)); intro gb304 hg w17 hbox hb; have BK304 := am (hbox); have GW304 := am ((by rw [hg]; exact (below_size (bl HB.out)) : w.heap.size ≤ gb304)); have GE304 := GW304; replace HB := am (below_step (bl HB.out) hb); have NB303_304 := am ((by rw [hg]; exact Nat.ne_of_lt (blk_lt (pk BK303.out)) : gb303 ≠ gb304)); have NB304_303 := am ((by rw [hg]; exact Nat.ne_of_gt (blk_lt (pk BK303.out)) : gb304 ≠ gb303)); replace BK303 := am (blk_below (pk BK303.out) hb); clear hb hbox hg; have hnb18 := NB303_304.out; have hnc18 := NB304_303.out; have hcz19_0 : w17.cell? ⟨gb303, 0, none⟩ = some (.slice A0_0 l0_0.length c0_0) := bc BK303.out 0; have hcz19_1 : w17.cell? ⟨gb303, 1, none⟩ = some (.slice A0_1 l0_1.length c0_1) := bc BK303.out 1; have hcz20_0 : w17.cell? ⟨gb304, 0, none⟩ = some (.slice A1_0 l1_0.length c1_0) := bc BK304.out 0; have hcz20_1 : w17.cell? ⟨gb304, 1, none⟩ = some (.slice A1_1 l1_1.length c1_1) := bc BK304.out 1) | ((with_reducible refine gate_callee (f := 54) rfl ?_); refine gl (some 9) Try.func54 #[.slice A0_0 l0_0.length c0_0, .slice A1_0 l1_0.length c1_0] ?_; (with_reducible refine (laws_eqBufS.calls k _ _ l0_0 _ _ l1_0 true _ ?side1 ?side2 ?side3 ?side4 A3.out).mono ?_); (case side1 => repeat (first | exact (Kd.C_below HR0_0.out HB.out) | (with_reducible refine Kd.C_alloc ?_ _) | (with_reducible refine Kd.C_drewN ?_ _) | (with_reducible refine Kd.C_drew ?_))); (case side2 => exact HC0_0.out); (case side3 => repeat (first | exact (Kd.C_below HR1_0.out HB.out) | (with_reducible refine Kd.C_alloc ?_ _) | (with_reducible refine Kd.C_drewN ?_ _) | (with_reducible refine Kd.C_drew ?_))); (case side4 => exact HC1_0.out); rintro e w21 ⟨rfl, hb⟩; refine ⟨_, rfl, ?_⟩; replace BK303 := am (blk_below (pk BK303.out) hb); replace BK304 := am (blk_below (pk BK304.out) hb); replace HB := am (below_step (bl HB.out) hb); (try clear hb); (try clear hb2); (try clear hk); (try clear hi); have hcz22_0 : w21.cell? ⟨gb303, 0, none⟩ = some (.slice A0_0 l0_0.length c0_0) := bc BK303.out 0; have hcz22_1 : w21.cell? ⟨gb303, 1, none⟩ = some (.slice A0_1 l0_1.length c0_1) := bc BK303.out 1; have hcz23_0 : w21.cell? ⟨gb304, 0, none⟩ = some (.slice A1_0 l1_0.length c1_0) := bc BK304.out 0; have hcz23_1 : w21.cell? ⟨gb304, 1, none⟩ = some (.slice A1_1 l1_1.length c1_1) := bc BK304.out 1) | ((with_reducible refine gate_callee (f := 54) rfl ?_); refine gl (some 15) Try.func54 #[.slice A0_1 l0_1.length c0_1, .slice A1_1 l1_1.length c1_1] ?_; (with_reducible refine (laws_eqBufS.calls k _ _ l0_1 _ _ l1_1 false _ ?side1 ?side2 ?side3 ?side4 A5.out).mono ?_); (case side1 => repeat (first | exact (Kd.C_below HR0_1.out HB.out) | (with_reducible refine Kd.C_alloc ?_ _) | (with_reducible refine Kd.C_drewN ?_ _) | (with_reducible refine Kd.C_drew ?_))); (case side2 => exact HC0_1.out); (case side3 => repeat (first | exact (Kd.C_below HR1_1.out HB.out) | (with_reducible refine Kd.C_alloc ?_ _) | (with_reducible refine Kd.C_drewN ?_ _) | (with_reducible refine Kd.C_drew ?_))); (case side4 => exact HC1_1.out); rintro e w24 ⟨rfl, hb⟩; refine ⟨_, rfl, ?_⟩; replace BK303 := am (blk_below (pk BK303.out) hb); replace BK304 := am (blk_below (pk BK304.out) hb); replace HB := am (below_step (bl HB.out) hb); (try clear hb); (try clear hb2); (try clear hk); (try clear hi)))
   go_ret
   exact ⟨by first | rfl | (simp [errW_none, errW_some] <;> rfl) | (simp [*, errW_none, errW_some] <;> rfl), by repeat (first | (with_reducible first | exact HB.out | apply below_alloc | apply pw_below_drewN | apply below_drew1 | refine below_set ?_ GE303.out | refine below_set ?_ GE304.out) | exact HB.out)⟩
 ·replace c4 := Bool.eq_false_iff.mpr c4
  subst c4
  have H1 : (some false) = some r := by rw [if_neg (show ¬ (false = true) by decide)] at H; exact H
  clear H
  have H := H1
  clear H1
  obtain rfl := Option.some.inj H
  go_enter Try.func23, Try.ntmps23
  go_wp2_with (first | ((with_reducible refine gate_dst (N := 2) rfl ?_); refine box_event ?hg (N := 2) ?hd (cs := #[.slice A0_0 l0_0.length c0_0, .slice A0_1 l0_1.length c0_1]) (t := 30) ?hr ?_; (case hd => rfl); (case hg => rfl); (case hr => first | (go_simp; done) | (go_simp; rfl)); intro gb303 hg w25 hbox hb; have BK303 := am (hbox); have GW303 := am ((by rw [hg]; exact (below_size (bl HB.out)) : w.heap.size ≤ gb303)); have GE303 := GW303; replace HB := am (below_step (bl HB.out) hb); clear hb hbox hg) | ((with_reducible refine gate_dst (N := 3) rfl ?_); refine box_event ?hg (N := 3) ?hd (cs := #[.slice A1_0 l1_0.length c1_0, .slice A1_1 l1_1.length c1_1]) (t := 30) ?hr ?_; (case hd => rfl); (case hg => rfl); (case hr => first | (go_simp; done) | (go_simp; rfl)); intro gb304 hg w26 hbox hb; have BK304 := am (hbox); have GW304 := am ((by rw [hg]; exact (below_size (bl HB.out)) : w.heap.size ≤ gb304)); have GE304 := GW304; replace HB := am (below_step (bl HB.out) hb); have NB303_304 := am ((by rw [hg]; exact Nat.ne_of_lt (blk_lt (pk BK303.out)) : gb303 ≠ gb304)); have NB304_303 := am ((by rw [hg]; exact Nat.ne_of_gt (blk_lt (pk BK303.out)) : gb304 ≠ gb303)); replace BK303 := am (blk_below (pk BK303.out) hb); clear hb hbox hg; have hnb27 := NB303_304.out; have hnc27 := NB304_303.out; have hcz28_0 : w26.cell? ⟨gb303, 0, none⟩ = some (.slice A0_0 l0_0.length c0_0) := bc BK303.out 0; have hcz28_1 : w26.cell? ⟨gb303, 1, none⟩ = some (.slice A0_1 l0_1.length c0_1) := bc BK303.out 1; have hcz29_0 : w26.cell? ⟨gb304, 0, none⟩ = some (.slice A1_0 l1_0.length c1_0) := bc BK304.out 0; have hcz29_1 : w26.cell? ⟨gb304, 1, none⟩ = some (.slice A1_1 l1_1.length c1_1) := bc BK304.out 1) | ((with_reducible refine gate_callee (f := 54) rfl ?_); refine gl (some 9) Try.func54 #[.slice A0_0 l0_0.length c0_0, .slice A1_0 l1_0.length c1_0] ?_; (with_reducible refine (laws_eqBufS.calls k _ _ l0_0 _ _ l1_0 false _ ?side1 ?side2 ?side3 ?side4 A3.out).mono ?_); (case side1 => repeat (first | exact (Kd.C_below HR0_0.out HB.out) | (with_reducible refine Kd.C_alloc ?_ _) | (with_reducible refine Kd.C_drewN ?_ _) | (with_reducible refine Kd.C_drew ?_))); (case side2 => exact HC0_0.out); (case side3 => repeat (first | exact (Kd.C_below HR1_0.out HB.out) | (with_reducible refine Kd.C_alloc ?_ _) | (with_reducible refine Kd.C_drewN ?_ _) | (with_reducible refine Kd.C_drew ?_))); (case side4 => exact HC1_0.out); rintro e w30 ⟨rfl, hb⟩; refine ⟨_, rfl, ?_⟩; replace BK303 := am (blk_below (pk BK303.out) hb); replace BK304 := am (blk_below (pk BK304.out) hb); replace HB := am (below_step (bl HB.out) hb); (try clear hb); (try clear hb2); (try clear hk); (try clear hi)))
  go_ret
  exact ⟨by first | rfl | (simp [errW_none, errW_some] <;> rfl) | (simp [*, errW_none, errW_some] <;> rfl), by repeat (first | (with_reducible first | exact HB.out | apply below_alloc | apply pw_below_drewN | apply below_drew1 | refine below_set ?_ GE303.out | refine below_set ?_ GE304.out) | exact HB.out)⟩

/-! ### laws_markBufS: function 55 -/
def laws_markBufS.l0 : Nat → List S31 → Int → Int → Option (Int × List S31)
 | 0, _, _, _ => none
 | k + 1, x0, x1, x5 => if x5 < (x0.length : Int) then (if 0 ≤ x5 then ((laws_markInt64S.f k (x0.getD x5.toNat z31).f0 x1).bind fun bt => laws_markBufS.l0 k (x0.set x5.toNat ⟨bt.2, bt.1, wrap64 (bt.1 + 1)⟩) (wrap64 (wrap64 (bt.1 + 1) + 1)) (wrap64 (x5 + 1))) else none) else some (x1, x0)
def laws_markBufS.f (k : Nat) (l0 : List S31) (a1 : Int) : Option (Int × List S31) := laws_markBufS.l0 k l0 a1 0
theorem laws_markBufS.marks (k : Nat) (P : Nat → Prop) (u : Value) (l0 : List S31) (a1 r1 : Int) (r2 : List S31) (w0 w : World) (hB : Below w0.heap.size w0 w) (ho : Kd.S k31 31 w w0.heap.size P u l0) (h : laws_markBufS.f k l0 a1 = some (r1, r2)) :
 Calls Try.prog 55 #[u, .int .i64 a1] w fun e w' => e = .returned (.int .i64 r1) ∧ Kd.S k31 31 w' w0.heap.size P u r2 ∧ Below w0.heap.size w0 w' ∧ Kept w w' P := by
 have HO0 := am ho
 have HK := am (Kept.refl w P)
 have HB := am hB
 clear hB ho
 have H' := am (show laws_markBufS.l0 k l0 a1 0 = some (r1, r2) from h)
 clear h
 obtain ⟨Au, cu, rfl⟩ := Kd.S_slice HO0.out
 go_enter Try.func55, Try.ntmps55
 go_wp2
 go_loopg [1, 5] k (fun kq v1 v5 w' => ∃ (x0_1 : List S31) (x1_1 : Int) (x5_1 : Int), x0_1.length = l0.length ∧ v1 = .int .i64 x1_1 ∧ v5 = .int .i64 x5_1 ∧ Aside0 (laws_markBufS.l0 kq x0_1 x1_1 x5_1 = some (r1, r2)) ∧ Aside0 (kq ≤ k) ∧ Aside0 (Kd.S k31 31 w' w0.heap.size P (.slice Au l0.length cu) x0_1) ∧ Aside0 (Kept w w' P) ∧ Aside0 (Below w0.heap.size w0 w'))
 case atStart => exact ⟨l0, a1, 0, rfl, (by first | rfl | (simp; done) | (simp [*]; done)), (by first | rfl | (simp; done) | (simp [*]; done)), H', ⟨Nat.le_refl _⟩, ⟨ks HO0.out⟩, ⟨by repeat (first | (with_reducible first | exact HK.out | apply Kept.alloc | apply Kept.drewN | apply Kept.drew) | exact HK.out)⟩, ⟨by repeat (first | (with_reducible first | exact HB.out | apply below_alloc | apply pw_below_drewN | apply below_drew1) | exact HB.out)⟩⟩
 case round =>
 clear H'
 obtain ⟨x0_1, x1_1, x5_1, hlen, rfl, rfl, HA, HK1, HO_0, HK, HB⟩ := hrel
 cases gk with
 | zero => exact absurd HA.out (by simp [laws_markBufS.l0])
 | succ k1 =>
  have H := HA.out
  clear HA
  simp only [laws_markBufS.l0] at H
  by_cases c3 : x5_1 < (x0_1.length : Int)
  ·rw [if_pos c3] at H
   have c3b0 : decide (x5_1 < (l0.length : Int)) = true := decide_eq_true (by omega)
   by_cases c4 : 0 ≤ x5_1
   ·rw [if_pos c4] at H
    have c4b0 : decide (0 ≤ x5_1) = true := decide_eq_true c4
    obtain ⟨⟨t1, t2⟩, A0, H⟩ := Option.bind_eq_some_iff.mp H
    have H' := Aside0.mk H
    clear H
    obtain ⟨g, cap, eo, hbg, hgl, hcl0⟩ := Kd.S_form HO_0.out (by omega)
    injection eo with ea_ en_ ec_
    clear en_
    subst ea_
    subst ec_
    have HPg := am ((Kd.S_R HO_0.out).1 g rfl)
    have GEg := am hbg
    have hlt0 : (x5_1 : Int) < (l0.length : Int) := by omega
    obtain ⟨oki, ce, hcl, hM, hcc, hfr, hoki, hH⟩ := Kd.S_elem HO_0.out z31 x5_1 c4 hlt0
    obtain ⟨ve, rfl, hR⟩ := k31_openM hM
    generalize x0_1.getD x5_1.toNat z31 = xe at hR A0 hcc hH hM hcl
    have A := Aside0.mk A0
    clear A0
    have hv := hcc 0 _ rfl
    rw [show k31.sz = 3 from rfl, Nat.add_zero] at hv
    obtain ⟨Ae, cce, rfl⟩ := Kd.R_slice hR
    have p5 : (0 ≤ (x5_1 : Int)) = True := eq_true c4
    have q5 : ((x5_1 : Int) < ((l0.length : Int) : Int)) = True := eq_true (by omega)
    have HR := am hR
    have HH := am hH
    have HI := am hoki
    have HC4 := Aside0.mk c4
    have HL0 := am hlt0
    have hilt : x5_1.toNat < x0_1.length := by omega
    have HG := am (show ∀ e_ : S31, (x0_1.set x5_1.toNat e_).getD x5_1.toNat z31 = e_ from fun e_ => by rw [List.getD_eq_getElem?_getD, List.getElem?_set_self hilt]; rfl)
    clear hilt hR hH hcc hfr hcl hM hbg hgl hcl0 hoki HO_0 hlt0
    go_wp2_with (first | (go_at_call 44; (refine (laws_markInt64S.calls k1 oki _ _ x1_1 t1 t2 w0 _ ?side1 ?side2 A.out).mono ?_); (case side1 => repeat (first | (with_reducible first | exact HB.out | apply below_alloc | apply pw_below_drewN | apply below_drew1) | exact HB.out)); (case side2 => (with_reducible repeat (first | apply Kd.R_alloc | apply Kd.R_drewN | apply Kd.R_drew)); exact HR.out); rintro e w8 ⟨rfl, hy, hb, hkp⟩; replace HH := am (Kd.H_step (by (with_reducible repeat (first | apply Kd.H_alloc | apply Kd.H_drewN | apply Kd.H_drew)); exact HH.out) (fun k_ _ hn hlt => hkp.2 k_ hlt hn)); replace HB := am hb; replace HK := am (Kept.then_ (S := P) (by repeat (first | (with_reducible first | exact HK.out | apply Kept.alloc | apply Kept.drewN | apply Kept.drew) | exact HK.out)) hkp (fun k_ hk_ => .inl (HI.out k_ hk_).1)); replace HR := am (Kd.R_reok (ok := oki) rfl hy (fun k_ e_ => HR.out.1 k_ e_)); clear hy hb hkp; obtain ⟨hcc8, hfr8⟩ := Kd.H_at HH.out HC4.out HL0.out; have hx1 := hcc8 1 _ rfl; have hf1 := hfr8 1; rw [show k31.sz = 3 from rfl] at hx1 hf1; have HP := am (Kd.S_seg0 HH.out HC4.out HL0.out (seg := [.int .i64 t1]) (j := 1) (show 1 + 1 ≤ 3 from by decide) (x' := (⟨t2, t1, xe.f2⟩ : S31)) (k31_mkM w8 w0.heap.size oki ⟨t2, t1, xe.f2⟩ HR.out) (fun _ h_ => h_)); clear hcc8 hfr8) | ((with_reducible refine gate_store (t := 2) (p := 23) rfl ?_); refine store_event (t := 2) (p := 23) (v := ?vo) (w1 := (w8.setCell ⟨g, x5_1.toNat * 3 + 1, none⟩ (.int .i64 t1))) ?hg ?ho ?hn ?hr ?_; (case ho => rfl); (case hg => rfl); (case hn => rfl); (case hr => first | (go_simp; done) | (go_simp; rfl)); intro w9 hw; have hp9 : Kd.S k31 31 w9 w0.heap.size P (.slice (some ⟨g, 0, none⟩) l0.length cu) (x0_1.set x5_1.toNat ⟨t2, t1, xe.f2⟩) := (by rw [hw]; exact HP.out.1); have hg9 : w8.grownBy w9 (some g) := (by rw [hw]; exact HP.out.2); have n1_ := am (show Below w0.heap.size w0 w9 from (by rw [hw]; exact below_set HB.out GEg.out)); have n2_ := am (Kept.of_grown hg9 HK.out (fun k_ e_ => .inl (by injection e_ with e_; rw [← e_]; exact HPg.out))); clear hw HP HH HB HK HR hx1 hf1 hg9; have HO_0 := am hp9; have HB := n1_; have HK := n2_; clear n1_ n2_ hp9; obtain ⟨oki2, ce2, hcl2, hM2, hcc2, hfr2, hoki2, hH2⟩ := Kd.S_elem HO_0.out z31 x5_1 HC4.out HL0.out; rw [HG.out] at hM2; obtain ⟨ve2, rfl, hR2⟩ := k31_openM hM2; have hx2 := hcc2 2 _ rfl; have hf2 := hfr2 2; rw [show k31.sz = 3 from rfl] at hx2 hf2; have hs2 := Kd.S_seg0 hH2 HC4.out HL0.out (seg := [.int .i64 (wrap64 (t1 + 1))]) (j := 2) (show 2 + 1 ≤ 3 from by decide) (x' := (⟨t2, t1, wrap64 (t1 + 1)⟩ : S31)) (k31_mkM w9 w0.heap.size oki2 ⟨t2, t1, wrap64 (t1 + 1)⟩ hR2) (fun _ h_ => h_); rw [List.set_set] at hs2; have HP := am hs2; clear hs2 hcl2 hM2 hcc2 hfr2 hoki2 hH2 hR2) | ((with_reducible refine gate_store (t := 2) (p := 30) rfl ?_); refine store_event (t := 2) (p := 30) (v := ?vo2) (w1 := (w9.setCell ⟨g, x5_1.toNat * 3 + 2, none⟩ (.int .i64 (wrap64 (t1 + 1))))) ?hg ?ho ?hn ?hr ?_; (case ho => rfl); (case hg => rfl); (case hn => rfl); (case hr => first | (go_simp; done) | (go_simp; rfl)); intro w10 hw; have hp10 : Kd.S k31 31 w10 w0.heap.size P (.slice (some ⟨g, 0, none⟩) l0.length cu) (x0_1.set x5_1.toNat ⟨t2, t1, wrap64 (t1 + 1)⟩) := (by rw [hw]; exact HP.out.1); have hg10 : w9.grownBy w10 (some g) := (by rw [hw]; exact HP.out.2); have n1_ := am (show Below w0.heap.size w0 w10 from (by rw [hw]; exact below_set HB.out GEg.out)); have n2_ := am (Kept.of_grown hg10 HK.out (fun k_ e_ => .inl (by injection e_ with e_; rw [← e_]; exact HPg.out))); clear hw HP HO_0 HB HK hx2 hf2 hg10; have HO_0 := am hp10; have HB := n1_; have HK := n2_; clear n1_ n2_ hp10))
    go_roundg k1
    case measure => have := HK1.out; omega
    case rel => exact ⟨_, (wrap64 (wrap64 (t1 + 1) + 1)), (wrap64 (x5_1 + 1)), (by rw [List.length_set]; exact hlen), (by first | rfl | (simp; done) | (simp [*]; done)), (by first | rfl | (simp; done) | (simp [*]; done)), H', ⟨by have := HK1.out; omega⟩, ⟨ks HO_0.out⟩, ⟨by repeat (first | (with_reducible first | exact HK.out | apply Kept.alloc | apply Kept.drewN | apply Kept.drew) | exact HK.out)⟩, ⟨by repeat (first | (with_reducible first | exact HB.out | apply below_alloc | apply pw_below_drewN | apply below_drew1) | exact HB.out)⟩⟩
   ·rw [if_neg c4] at H
    exact absurd H (by simp)
  ·rw [if_neg c3] at H
   have c3b0 : decide (x5_1 < (l0.length : Int)) = false := decide_eq_false (by omega)
   simp only [Option.some.injEq, Prod.mk.injEq] at H
   obtain ⟨rfl, rfl⟩ := H
   go_wp2
   go_ret
   exact ⟨by first | rfl | (simp [*]; done), ks HO_0.out, by repeat (first | (with_reducible first | exact HB.out | apply below_alloc | apply pw_below_drewN | apply below_drew1) | exact HB.out), by repeat (first | (with_reducible first | exact HK.out | apply Kept.alloc | apply Kept.drewN | apply Kept.drew) | exact HK.out)⟩
theorem laws_markBufS.marksT (k : Nat) (P : Nat → Prop) (u : Value) (l0 : List S31) (a1 r1 : Int) (r2 : List S31) (w0 w : World) (hB : Below w0.heap.size w0 w) (ho : Kd.T k31 31 w w0.heap.size P u l0) (h : laws_markBufS.f k l0 a1 = some (r1, r2)) :
 Calls Try.prog 55 #[u, .int .i64 a1] w fun e w' => e = .returned (.int .i64 r1) ∧ Kd.T k31 31 w' w0.heap.size P u r2 ∧ Below w0.heap.size w0 w' ∧ Kept w w' P := by
 have HO0 := am ho
 have HK := am (Kept.refl w P)
 have HB := am hB
 clear hB ho
 have H' := am (show laws_markBufS.l0 k l0 a1 0 = some (r1, r2) from h)
 clear h
 obtain ⟨Au, cu, rfl, _⟩ := Kd.T_slice HO0.out
 go_enter Try.func55, Try.ntmps55
 go_wp2
 go_loopg [1, 5] k (fun kq v1 v5 w' => ∃ (x0_1 : List S31) (x1_1 : Int) (x5_1 : Int), x0_1.length = l0.length ∧ v1 = .int .i64 x1_1 ∧ v5 = .int .i64 x5_1 ∧ Aside0 (laws_markBufS.l0 kq x0_1 x1_1 x5_1 = some (r1, r2)) ∧ Aside0 (kq ≤ k) ∧ Aside0 (Kd.T k31 31 w' w0.heap.size P (.slice Au l0.length cu) x0_1) ∧ Aside0 (Kept w w' P) ∧ Aside0 (Below w0.heap.size w0 w'))
 case atStart => exact ⟨l0, a1, 0, rfl, (by first | rfl | (simp; done) | (simp [*]; done)), (by first | rfl | (simp; done) | (simp [*]; done)), H', ⟨Nat.le_refl _⟩, ⟨by (with_reducible repeat (first | apply Kd.T_alloc | apply Kd.T_drewN | apply Kd.T_drew)); exact HO0.out⟩, ⟨by repeat (first | (with_reducible first | exact HK.out | apply Kept.alloc | apply Kept.drewN | apply Kept.drew) | exact HK.out)⟩, ⟨by repeat (first | (with_reducible first | exact HB.out | apply below_alloc | apply pw_below_drewN | apply below_drew1) | exact HB.out)⟩⟩
 case round =>
 clear H'
 obtain ⟨x0_1, x1_1, x5_1, hlen, rfl, rfl, HA, HK1, HO_0, HK, HB⟩ := hrel
 cases gk with
 | zero => exact absurd HA.out (by simp [laws_markBufS.l0])
 | succ k1 =>
  have H := HA.out
  clear HA
  simp only [laws_markBufS.l0] at H
  by_cases c3 : x5_1 < (x0_1.length : Int)
  ·rw [if_pos c3] at H
   have c3b0 : decide (x5_1 < (l0.length : Int)) = true := decide_eq_true (by omega)
   by_cases c4 : 0 ≤ x5_1
   ·rw [if_pos c4] at H
    have c4b0 : decide (0 ≤ x5_1) = true := decide_eq_true c4
    obtain ⟨⟨t1, t2⟩, A0, H⟩ := Option.bind_eq_some_iff.mp H
    have H' := Aside0.mk H
    clear H
    obtain ⟨g, og_, cap, eo, hbg, hgl, hcl0⟩ := Kd.T_form HO_0.out (by omega)
    injection eo with ea_ en_ ec_
    clear en_
    subst ea_
    subst ec_
    have HPg := am ((Kd.T_Q HO_0.out).1 g rfl)
    have GEg := am hbg
    have hlt0 : (x5_1 : Int) < (l0.length : Int) := by omega
    obtain ⟨oki, ce, hcl, hM, hcc, hfr, hoki, hH⟩ := Kd.T_elem HO_0.out z31 x5_1 c4 hlt0
    obtain ⟨ve, rfl, hR⟩ := k31_openM hM
    generalize x0_1.getD x5_1.toNat z31 = xe at hR A0 hcc hH hM hcl
    have A := Aside0.mk A0
    clear A0
    have hv := hcc 0 _ rfl
    rw [show k31.sz = 3 from rfl, Nat.add_zero] at hv
    obtain ⟨Ae, cce, rfl⟩ := Kd.R_slice hR
    have p5 : (0 ≤ (x5_1 : Int)) = True := eq_true c4
    have q5 : ((x5_1 : Int) < ((l0.length : Int) : Int)) = True := eq_true (by omega)
    have HR := am hR
    have HH := am hH
    have HI := am hoki
    have HC4 := Aside0.mk c4
    have HL0 := am hlt0
    have hilt : x5_1.toNat < x0_1.length := by omega
    have HG := am (show ∀ e_ : S31, (x0_1.set x5_1.toNat e_).getD x5_1.toNat z31 = e_ from fun e_ => by rw [List.getD_eq_getElem?_getD, List.getElem?_set_self hilt]; rfl)
    clear hilt hR hH hcc hfr hcl hM hbg hgl hcl0 hoki HO_0 hlt0
    go_wp2_with (first | (go_at_call 44; (refine (laws_markInt64S.calls k1 oki _ _ x1_1 t1 t2 w0 _ ?side1 ?side2 A.out).mono ?_); (case side1 => repeat (first | (with_reducible first | exact HB.out | apply below_alloc | apply pw_below_drewN | apply below_drew1) | exact HB.out)); (case side2 => (with_reducible repeat (first | apply Kd.R_alloc | apply Kd.R_drewN | apply Kd.R_drew)); exact HR.out); rintro e w8 ⟨rfl, hy, hb, hkp⟩; have n0_ := am (Kd.HT_step (by (with_reducible repeat (first | apply Kd.HT_alloc | apply Kd.HT_drewN | apply Kd.HT_drew)); exact HH.out) (fun k_ _ hn hlt => hkp.2 k_ hlt hn)); have n1_ := am hb; have n2_ := am (Kept.then_ (S := P) (by repeat (first | (with_reducible first | exact HK.out | apply Kept.alloc | apply Kept.drewN | apply Kept.drew) | exact HK.out)) hkp (fun k_ hk_ => .inl (HI.out k_ hk_).1)); have n3_ := am (Kd.R_reok (ok := oki) rfl hy (fun k_ e_ => HR.out.1 k_ e_)); clear HR HH HB HK hy hb hkp; have HB := n1_; have HK := n2_; have HO_0 := am (Kd.HT_back (d := k31) (x' := (⟨t2, xe.f1, xe.f2⟩ : S31)) (okp := oki) n0_.out (k31_mkM _ _ _ (⟨t2, xe.f1, xe.f2⟩ : S31) n3_.out) (fun _ h_ => h_)); clear n0_ n1_ n2_ n3_; obtain ⟨oq1, cq1, hl1, hM1, hcc1, hfr1, ho1, hH1⟩ := Kd.T_elem HO_0.out z31 x5_1 HC4.out HL0.out; rw [HG.out] at hM1; obtain ⟨vq1, rfl, hR1⟩ := k31_openM hM1; have hx1 := hcc1 1 _ rfl; have hf1 := hfr1 1; rw [show k31.sz = 3 from rfl] at hx1 hf1; clear hl1 hM1 hcc1 hfr1 ho1 hH1 hR1; have hs_ := Kd.T_put HO_0.out z31 x5_1 HC4.out HL0.out (seg := [.int .i64 t1]) (j := 1) (show 1 + 1 ≤ 3 from by decide) (x' := (⟨t2, t1, xe.f2⟩ : S31)) (fun okp_ c_ hM_ => by rw [HG.out] at hM_; obtain ⟨v0_, rfl, hR_⟩ := k31_openM hM_; exact k31_mkM _ _ _ (⟨t2, t1, xe.f2⟩ : S31) hR_); rw [List.set_set] at hs_; have HP := am hs_; clear hs_) | ((with_reducible refine gate_store (t := 2) (p := 23) rfl ?_); refine store_event (t := 2) (p := 23) (v := ?vo) (w1 := (w8.setCell ⟨g, og_ + x5_1.toNat * 3 + 1, none⟩ (.int .i64 t1))) ?hg ?ho ?hn ?hr ?_; (case ho => rfl); (case hg => rfl); (case hn => rfl); (case hr => first | (go_simp; done) | (go_simp; rfl)); intro w9 hw; have hp9 : Kd.T k31 31 w9 w0.heap.size P (.slice (some ⟨g, og_, none⟩) l0.length cu) (x0_1.set x5_1.toNat ⟨t2, t1, xe.f2⟩) := (by rw [hw]; exact HP.out.1); have hg9 : w8.grownBy w9 (some g) := (by rw [hw]; exact HP.out.2); have n1_ := am (show Below w0.heap.size w0 w9 from (by rw [hw]; exact below_set HB.out GEg.out)); have n2_ := am (Kept.of_grown hg9 HK.out (fun k_ e_ => .inl (by injection e_ with e_; rw [← e_]; exact HPg.out))); clear hw HP HO_0 HB HK hx1 hf1 hg9; have HO_0 := am hp9; have HB := n1_; have HK := n2_; clear n1_ n2_ hp9; obtain ⟨oq2, cq2, hl2, hM2, hcc2, hfr2, ho2, hH2⟩ := Kd.T_elem HO_0.out z31 x5_1 HC4.out HL0.out; rw [HG.out] at hM2; obtain ⟨vq2, rfl, hR2⟩ := k31_openM hM2; have hx2 := hcc2 2 _ rfl; have hf2 := hfr2 2; rw [show k31.sz = 3 from rfl] at hx2 hf2; clear hl2 hM2 hcc2 hfr2 ho2 hH2 hR2; have hs_ := Kd.T_put HO_0.out z31 x5_1 HC4.out HL0.out (seg := [.int .i64 (wrap64 (t1 + 1))]) (j := 2) (show 2 + 1 ≤ 3 from by decide) (x' := (⟨t2, t1, wrap64 (t1 + 1)⟩ : S31)) (fun okp_ c_ hM_ => by rw [HG.out] at hM_; obtain ⟨v0_, rfl, hR_⟩ := k31_openM hM_; exact k31_mkM _ _ _ (⟨t2, t1, wrap64 (t1 + 1)⟩ : S31) hR_); rw [List.set_set] at hs_; have HP := am hs_; clear hs_) | ((with_reducible refine gate_store (t := 2) (p := 30) rfl ?_); refine store_event (t := 2) (p := 30) (v := ?vo2) (w1 := (w9.setCell ⟨g, og_ + x5_1.toNat * 3 + 2, none⟩ (.int .i64 (wrap64 (t1 + 1))))) ?hg ?ho ?hn ?hr ?_; (case ho => rfl); (case hg => rfl); (case hn => rfl); (case hr => first | (go_simp; done) | (go_simp; rfl)); intro w10 hw; have hp10 : Kd.T k31 31 w10 w0.heap.size P (.slice (some ⟨g, og_, none⟩) l0.length cu) (x0_1.set x5_1.toNat ⟨t2, t1, wrap64 (t1 + 1)⟩) := (by rw [hw]; exact HP.out.1); have hg10 : w9.grownBy w10 (some g) := (by rw [hw]; exact HP.out.2); have n1_ := am (show Below w0.heap.size w0 w10 from (by rw [hw]; exact below_set HB.out GEg.out)); have n2_ := am (Kept.of_grown hg10 HK.out (fun k_ e_ => .inl (by injection e_ with e_; rw [← e_]; exact HPg.out))); clear hw HP HO_0 HB HK hx2 hf2 hg10; have HO_0 := am hp10; have HB := n1_; have HK := n2_; clear n1_ n2_ hp10))
    go_roundg k1
    case measure => have := HK1.out; omega
    case rel => exact ⟨_, (wrap64 (wrap64 (t1 + 1) + 1)), (wrap64 (x5_1 + 1)), (by rw [List.length_set]; exact hlen), (by first | rfl | (simp; done) | (simp [*]; done)), (by first | rfl | (simp; done) | (simp [*]; done)), H', ⟨by have := HK1.out; omega⟩, ⟨by (with_reducible repeat (first | apply Kd.T_alloc | apply Kd.T_drewN | apply Kd.T_drew)); exact HO_0.out⟩, ⟨by repeat (first | (with_reducible first | exact HK.out | apply Kept.alloc | apply Kept.drewN | apply Kept.drew) | exact HK.out)⟩, ⟨by repeat (first | (with_reducible first | exact HB.out | apply below_alloc | apply pw_below_drewN | apply below_drew1) | exact HB.out)⟩⟩
   ·rw [if_neg c4] at H
    exact absurd H (by simp)
  ·rw [if_neg c3] at H
   have c3b0 : decide (x5_1 < (l0.length : Int)) = false := decide_eq_false (by omega)
   simp only [Option.some.injEq, Prod.mk.injEq] at H
   obtain ⟨rfl, rfl⟩ := H
   go_wp2
   go_ret
   exact ⟨by first | rfl | (simp [*]; done), by (with_reducible repeat (first | apply Kd.T_alloc | apply Kd.T_drewN | apply Kd.T_drew)); exact HO_0.out, by repeat (first | (with_reducible first | exact HB.out | apply below_alloc | apply pw_below_drewN | apply below_drew1) | exact HB.out), by repeat (first | (with_reducible first | exact HK.out | apply Kept.alloc | apply Kept.drewN | apply Kept.drew) | exact HK.out)⟩

/-! ### laws_markUndo: function 24 -/
def laws_markUndo.f (k : Nat) (l0_0 : List (S31)) (l0_1 : List (S31)) (a1 : Int) : Option (Int × List (S31) × List (S31)) := (laws_markBufS.f k l0_0 a1).bind fun b0 => (laws_markBufS.f k l0_1 b0.1).bind fun b1 => some (b1.1, b0.2, b1.2)
theorem laws_markUndo.marks (k : Nat) (P0_0_ : Nat → Prop) (u0_0_ : Value) (P0_1_ : Nat → Prop) (u0_1_ : Value) (l0_0 : List (S31)) (l0_1 : List (S31)) (a1 r1 : Int) (r0_0_ : List (S31)) (r0_1_ : List (S31)) (w0 w : World) (hB : Below w0.heap.size w0 w) (ho0_0 : Kd.S k31 31 w w0.heap.size P0_0_ u0_0_ l0_0) (ho0_1 : Kd.S k31 31 w w0.heap.size P0_1_ u0_1_ l0_1) (hp0_0_0_1 : ∀ k_, P0_0_ k_ → ¬ P0_1_ k_) (h : laws_markUndo.f k l0_0 l0_1 a1 = some (r1, r0_0_, r0_1_)) :
 Calls Try.prog 24 #[.agg #[u0_0_, u0_1_], .int .i64 a1] w fun e w' => e = .returned (.int .i64 r1) ∧ Kd.S k31 31 w' w0.heap.size P0_0_ u0_0_ r0_0_ ∧ Kd.S k31 31 w' w0.heap.size P0_1_ u0_1_ r0_1_ ∧ Below w0.heap.size w0 w' ∧ Kept w w' (fun k_ => P0_0_ k_ ∨ P0_1_ k_) := by
 have HO0_0 := am (Kd.S_mono (ok' := fun k_ => P0_0_ k_ ∧ k_ < w.heap.size) (Kd.S_bound ho0_0) (fun k_ hk_ => ⟨hk_.1, hk_.2.2.1⟩))
 have HO0_1 := am (Kd.S_mono (ok' := fun k_ => P0_1_ k_ ∧ k_ < w.heap.size) (Kd.S_bound ho0_1) (fun k_ hk_ => ⟨hk_.1, hk_.2.2.1⟩))
 obtain ⟨A0_0_, c0_0_, eu0_0⟩ := Kd.S_slice HO0_0.out
 subst eu0_0
 obtain ⟨A0_1_, c0_1_, eu0_1⟩ := Kd.S_slice HO0_1.out
 subst eu0_1
 have HK := am (Kept.refl w (fun k_ => P0_0_ k_ ∨ P0_1_ k_))
 have HB := am hB
 clear hB ho0_0 ho0_1
 have H : ((laws_markBufS.f k l0_0 a1).bind fun b0 => (laws_markBufS.f k l0_1 b0.1).bind fun b1 => some (b1.1, b0.2, b1.2)) = some (r1, r0_0_, r0_1_) := h
 clear h
 obtain ⟨⟨t0, t0_0_0⟩, E0, H⟩ := Option.bind_eq_some_iff.mp H
 (try dsimp only at H)
 have A0 := Aside0.mk E0
 clear E0
 obtain ⟨⟨t1, t1_0_1⟩, E1, H⟩ := Option.bind_eq_some_iff.mp H
 (try dsimp only at H)
 have A1 := Aside0.mk E1
 clear E1
 simp only [Option.some.injEq, Prod.mk.injEq] at H
 obtain ⟨rfl, rfl, rfl⟩ := H
 go_enter Try.func24, Try.ntmps24
 go_wp2_with (first | ((with_reducible refine gate_dst (N := 2) rfl ?_); refine box_event ?hg (N := 2) ?hd (cs := #[.slice A0_0_ l0_0.length c0_0_, .slice A0_1_ l0_1.length c0_1_]) (t := 30) ?hr ?_; (case hd => rfl); (case hg => rfl); (case hr => first | (go_simp; done) | (go_simp; rfl)); intro gb hg wb hbox hb; have BK := am hbox; have GB : w.heap.size ≤ gb := (by rw [hg]; exact Nat.le_refl _); replace HO0_0 := am (Kd.S_below (ks HO0_0.out) hb); replace HO0_1 := am (Kd.S_below (ks HO0_1.out) hb); replace HB := am (below_then HB.out HB.out.size hb); replace HK := am (Kept.below (by repeat (first | (with_reducible first | exact HK.out | apply Kept.alloc | apply Kept.drewN | apply Kept.drew) | exact HK.out)) hb); clear hb hbox hg; have hc_0 : wb.cell? ⟨gb, 0, none⟩ = some (.slice A0_0_ l0_0.length c0_0_) := (blk_cell BK.out 0).trans rfl; have hc_1 : wb.cell? ⟨gb, 1, none⟩ = some (.slice A0_1_ l0_1.length c0_1_) := (blk_cell BK.out 1).trans rfl) | ((go_at_call 55); (with_reducible refine (laws_markBufS.marks k (fun k_ => P0_0_ k_ ∧ k_ < w.heap.size) (.slice A0_0_ l0_0.length c0_0_) l0_0 a1 t0 t0_0_0 w0 _ ?s0 ?s1 A0.out).mono ?_); (case s0 => repeat (first | (with_reducible first | exact HB.out | apply below_alloc | apply pw_below_drewN | apply below_drew1) | exact HB.out)); (case s1 => ((with_reducible repeat (first | apply Kd.S_alloc | apply Kd.S_drewN | apply Kd.S_drew)); exact HO0_0.out)); rintro e wm0 ⟨rfl, hy0_0, hb, hkp⟩; replace HO0_0 := am (hy0_0); replace HO0_1 := am (Kd.S_kept (ok := fun k_ => P0_1_ k_ ∧ k_ < w.heap.size) (ks HO0_1.out) hkp (fun k_ hk_ hs_ => hp0_0_0_1 k_ hs_.1 hk_.1)); replace BK := am (blk_kept (g := gb) (o := .cells #[.slice A0_0_ l0_0.length c0_0_, .slice A0_1_ l0_1.length c0_1_] 30 (0, 0)) (pk BK.out) hkp (fun hs_ => absurd hs_.2 (Nat.not_lt.2 GB))); replace HB := am (hb); replace HK := am (Kept.then_ (S := (fun k_ => P0_0_ k_ ∨ P0_1_ k_)) (by repeat (first | (with_reducible first | exact HK.out | apply Kept.alloc | apply Kept.drewN | apply Kept.drew) | exact HK.out)) hkp (fun k_ hs_ => (.inl (.inl hs_.1)))); clear hb hkp; have hc_0 : wm0.cell? ⟨gb, 0, none⟩ = some (.slice A0_0_ l0_0.length c0_0_) := (blk_cell BK.out 0).trans rfl; have hc_1 : wm0.cell? ⟨gb, 1, none⟩ = some (.slice A0_1_ l0_1.length c0_1_) := (blk_cell BK.out 1).trans rfl) | ((go_at_call 55); (with_reducible refine (laws_markBufS.marks k (fun k_ => P0_1_ k_ ∧ k_ < w.heap.size) (.slice A0_1_ l0_1.length c0_1_) l0_1 t0 t1 t1_0_1 w0 _ ?s0 ?s1 A1.out).mono ?_); (case s0 => repeat (first | (with_reducible first | exact HB.out | apply below_alloc | apply pw_below_drewN | apply below_drew1) | exact HB.out)); (case s1 => ((with_reducible repeat (first | apply Kd.S_alloc | apply Kd.S_drewN | apply Kd.S_drew)); exact HO0_1.out)); rintro e wm1 ⟨rfl, hy0_1, hb, hkp⟩; replace HO0_0 := am (Kd.S_kept (ok := fun k_ => P0_0_ k_ ∧ k_ < w.heap.size) (ks HO0_0.out) hkp (fun k_ hk_ hs_ => hp0_0_0_1 k_ hk_.1 hs_.1)); replace HO0_1 := am (hy0_1); replace BK := am (blk_kept (g := gb) (o := .cells #[.slice A0_0_ l0_0.length c0_0_, .slice A0_1_ l0_1.length c0_1_] 30 (0, 0)) (pk BK.out) hkp (fun hs_ => absurd hs_.2 (Nat.not_lt.2 GB))); replace HB := am (hb); replace HK := am (Kept.then_ (S := (fun k_ => P0_0_ k_ ∨ P0_1_ k_)) (by repeat (first | (with_reducible first | exact HK.out | apply Kept.alloc | apply Kept.drewN | apply Kept.drew) | exact HK.out)) hkp (fun k_ hs_ => (.inl (.inr hs_.1)))); clear hb hkp; have hc_0 : wm1.cell? ⟨gb, 0, none⟩ = some (.slice A0_0_ l0_0.length c0_0_) := (blk_cell BK.out 0).trans rfl; have hc_1 : wm1.cell? ⟨gb, 1, none⟩ = some (.slice A0_1_ l0_1.length c0_1_) := (blk_cell BK.out 1).trans rfl))
 go_ret
 exact ⟨by first | rfl | (simp [*]; done), Kd.S_mono (ok := fun k_ => P0_0_ k_ ∧ k_ < w.heap.size) (ks HO0_0.out) (fun k_ hk_ => hk_.1), Kd.S_mono (ok := fun k_ => P0_1_ k_ ∧ k_ < w.heap.size) (ks HO0_1.out) (fun k_ hk_ => hk_.1), by repeat (first | (with_reducible first | exact HB.out | apply below_alloc | apply pw_below_drewN | apply below_drew1) | exact HB.out), by repeat (first | (with_reducible first | exact HK.out | apply Kept.alloc | apply Kept.drewN | apply Kept.drew) | exact HK.out)⟩
theorem laws_markUndo.marksT (k : Nat) (P0_0_ : Nat → Prop) (u0_0_ : Value) (P0_1_ : Nat → Prop) (u0_1_ : Value) (l0_0 : List (S31)) (l0_1 : List (S31)) (a1 r1 : Int) (r0_0_ : List (S31)) (r0_1_ : List (S31)) (w0 w : World) (hB : Below w0.heap.size w0 w) (ho0_0 : Kd.T k31 31 w w0.heap.size P0_0_ u0_0_ l0_0) (ho0_1 : Kd.T k31 31 w w0.heap.size P0_1_ u0_1_ l0_1) (hp0_0_0_1 : ∀ k_, P0_0_ k_ → ¬ P0_1_ k_) (h : laws_markUndo.f k l0_0 l0_1 a1 = some (r1, r0_0_, r0_1_)) :
 Calls Try.prog 24 #[.agg #[u0_0_, u0_1_], .int .i64 a1] w fun e w' => e = .returned (.int .i64 r1) ∧ Kd.T k31 31 w' w0.heap.size P0_0_ u0_0_ r0_0_ ∧ Kd.T k31 31 w' w0.heap.size P0_1_ u0_1_ r0_1_ ∧ Below w0.heap.size w0 w' ∧ Kept w w' (fun k_ => P0_0_ k_ ∨ P0_1_ k_) := by
 have HO0_0 := am (Kd.T_mono (ok' := fun k_ => P0_0_ k_ ∧ k_ < w.heap.size) (Kd.T_bound ho0_0) (fun k_ hk_ => ⟨hk_.1, hk_.2.2.1⟩))
 have HO0_1 := am (Kd.T_mono (ok' := fun k_ => P0_1_ k_ ∧ k_ < w.heap.size) (Kd.T_bound ho0_1) (fun k_ hk_ => ⟨hk_.1, hk_.2.2.1⟩))
 obtain ⟨A0_0_, c0_0_, eu0_0, _⟩ := Kd.T_slice HO0_0.out
 subst eu0_0
 obtain ⟨A0_1_, c0_1_, eu0_1, _⟩ := Kd.T_slice HO0_1.out
 subst eu0_1
 have HK := am (Kept.refl w (fun k_ => P0_0_ k_ ∨ P0_1_ k_))
 have HB := am hB
 clear hB ho0_0 ho0_1
 have H : ((laws_markBufS.f k l0_0 a1).bind fun b0 => (laws_markBufS.f k l0_1 b0.1).bind fun b1 => some (b1.1, b0.2, b1.2)) = some (r1, r0_0_, r0_1_) := h
 clear h
 obtain ⟨⟨t0, t0_0_0⟩, E0, H⟩ := Option.bind_eq_some_iff.mp H
 (try dsimp only at H)
 have A0 := Aside0.mk E0
 clear E0
 obtain ⟨⟨t1, t1_0_1⟩, E1, H⟩ := Option.bind_eq_some_iff.mp H
 (try dsimp only at H)
 have A1 := Aside0.mk E1
 clear E1
 simp only [Option.some.injEq, Prod.mk.injEq] at H
 obtain ⟨rfl, rfl, rfl⟩ := H
 go_enter Try.func24, Try.ntmps24
 go_wp2_with (first | ((with_reducible refine gate_dst (N := 2) rfl ?_); refine box_event ?hg (N := 2) ?hd (cs := #[.slice A0_0_ l0_0.length c0_0_, .slice A0_1_ l0_1.length c0_1_]) (t := 30) ?hr ?_; (case hd => rfl); (case hg => rfl); (case hr => first | (go_simp; done) | (go_simp; rfl)); intro gb hg wb hbox hb; have BK := am hbox; have GB : w.heap.size ≤ gb := (by rw [hg]; exact Nat.le_refl _); replace HO0_0 := am (Kd.T_below (by (with_reducible repeat (first | apply Kd.T_alloc | apply Kd.T_drewN | apply Kd.T_drew)); exact HO0_0.out) hb); replace HO0_1 := am (Kd.T_below (by (with_reducible repeat (first | apply Kd.T_alloc | apply Kd.T_drewN | apply Kd.T_drew)); exact HO0_1.out) hb); replace HB := am (below_then HB.out HB.out.size hb); replace HK := am (Kept.below (by repeat (first | (with_reducible first | exact HK.out | apply Kept.alloc | apply Kept.drewN | apply Kept.drew) | exact HK.out)) hb); clear hb hbox hg; have hc_0 : wb.cell? ⟨gb, 0, none⟩ = some (.slice A0_0_ l0_0.length c0_0_) := (blk_cell BK.out 0).trans rfl; have hc_1 : wb.cell? ⟨gb, 1, none⟩ = some (.slice A0_1_ l0_1.length c0_1_) := (blk_cell BK.out 1).trans rfl) | ((go_at_call 55); (with_reducible refine (laws_markBufS.marksT k (fun k_ => P0_0_ k_ ∧ k_ < w.heap.size) (.slice A0_0_ l0_0.length c0_0_) l0_0 a1 t0 t0_0_0 w0 _ ?s0 ?s1 A0.out).mono ?_); (case s0 => repeat (first | (with_reducible first | exact HB.out | apply below_alloc | apply pw_below_drewN | apply below_drew1) | exact HB.out)); (case s1 => ((with_reducible repeat (first | apply Kd.T_alloc | apply Kd.T_drewN | apply Kd.T_drew)); exact HO0_0.out)); rintro e wm0 ⟨rfl, hy0_0, hb, hkp⟩; replace HO0_0 := am (hy0_0); replace HO0_1 := am (Kd.T_kept (ok := fun k_ => P0_1_ k_ ∧ k_ < w.heap.size) (by (with_reducible repeat (first | apply Kd.T_alloc | apply Kd.T_drewN | apply Kd.T_drew)); exact HO0_1.out) hkp (fun k_ hk_ hs_ => hp0_0_0_1 k_ hs_.1 hk_.1)); replace BK := am (blk_kept (g := gb) (o := .cells #[.slice A0_0_ l0_0.length c0_0_, .slice A0_1_ l0_1.length c0_1_] 30 (0, 0)) (pk BK.out) hkp (fun hs_ => absurd hs_.2 (Nat.not_lt.2 GB))); replace HB := am (hb); replace HK := am (Kept.then_ (S := (fun k_ => P0_0_ k_ ∨ P0_1_ k_)) (by repeat (first | (with_reducible first | exact HK.out | apply Kept.alloc | apply Kept.drewN | apply Kept.drew) | exact HK.out)) hkp (fun k_ hs_ => (.inl (.inl hs_.1)))); clear hb hkp; have hc_0 : wm0.cell? ⟨gb, 0, none⟩ = some (.slice A0_0_ l0_0.length c0_0_) := (blk_cell BK.out 0).trans rfl; have hc_1 : wm0.cell? ⟨gb, 1, none⟩ = some (.slice A0_1_ l0_1.length c0_1_) := (blk_cell BK.out 1).trans rfl) | ((go_at_call 55); (with_reducible refine (laws_markBufS.marksT k (fun k_ => P0_1_ k_ ∧ k_ < w.heap.size) (.slice A0_1_ l0_1.length c0_1_) l0_1 t0 t1 t1_0_1 w0 _ ?s0 ?s1 A1.out).mono ?_); (case s0 => repeat (first | (with_reducible first | exact HB.out | apply below_alloc | apply pw_below_drewN | apply below_drew1) | exact HB.out)); (case s1 => ((with_reducible repeat (first | apply Kd.T_alloc | apply Kd.T_drewN | apply Kd.T_drew)); exact HO0_1.out)); rintro e wm1 ⟨rfl, hy0_1, hb, hkp⟩; replace HO0_0 := am (Kd.T_kept (ok := fun k_ => P0_0_ k_ ∧ k_ < w.heap.size) (by (with_reducible repeat (first | apply Kd.T_alloc | apply Kd.T_drewN | apply Kd.T_drew)); exact HO0_0.out) hkp (fun k_ hk_ hs_ => hp0_0_0_1 k_ hk_.1 hs_.1)); replace HO0_1 := am (hy0_1); replace BK := am (blk_kept (g := gb) (o := .cells #[.slice A0_0_ l0_0.length c0_0_, .slice A0_1_ l0_1.length c0_1_] 30 (0, 0)) (pk BK.out) hkp (fun hs_ => absurd hs_.2 (Nat.not_lt.2 GB))); replace HB := am (hb); replace HK := am (Kept.then_ (S := (fun k_ => P0_0_ k_ ∨ P0_1_ k_)) (by repeat (first | (with_reducible first | exact HK.out | apply Kept.alloc | apply Kept.drewN | apply Kept.drew) | exact HK.out)) hkp (fun k_ hs_ => (.inl (.inr hs_.1)))); clear hb hkp; have hc_0 : wm1.cell? ⟨gb, 0, none⟩ = some (.slice A0_0_ l0_0.length c0_0_) := (blk_cell BK.out 0).trans rfl; have hc_1 : wm1.cell? ⟨gb, 1, none⟩ = some (.slice A0_1_ l0_1.length c0_1_) := (blk_cell BK.out 1).trans rfl))
 go_ret
 exact ⟨by first | rfl | (simp [*]; done), Kd.T_mono (ok := fun k_ => P0_0_ k_ ∧ k_ < w.heap.size) (by (with_reducible repeat (first | apply Kd.T_alloc | apply Kd.T_drewN | apply Kd.T_drew)); exact HO0_0.out) (fun k_ hk_ => hk_.1), Kd.T_mono (ok := fun k_ => P0_1_ k_ ∧ k_ < w.heap.size) (by (with_reducible repeat (first | apply Kd.T_alloc | apply Kd.T_drewN | apply Kd.T_drew)); exact HO0_1.out) (fun k_ hk_ => hk_.1), by repeat (first | (with_reducible first | exact HB.out | apply below_alloc | apply pw_below_drewN | apply below_drew1) | exact HB.out), by repeat (first | (with_reducible first | exact HK.out | apply Kept.alloc | apply Kept.drewN | apply Kept.drew) | exact HK.out)⟩

/-! ### laws_heldInt64S: function 71 -/
def laws_heldInt64S.l0 : Nat → List Int → Int → Int → Option (Int)
 | 0, _, _, _ => none
 | k + 1, x0, x1, x5 => if x5 < (x0.length : Int) then (if 0 ≤ x5 then (if (rd x0 x5) = x1 then (laws_heldInt64S.l0 k x0 (wrap64 (x1 + 1)) (wrap64 (x5 + 1))) else (some (-1))) else (none)) else (some x1)
def laws_heldInt64S.f (k : Nat) (l0 : List Int) (a1 : Int) : Option (Int) := laws_heldInt64S.l0 k l0 a1 0
theorem laws_heldInt64S.mono_l : ∀ k, (∀ y0 y1 y2, LeO (laws_heldInt64S.l0 k y0 y1 y2) (laws_heldInt64S.l0 (k + 1) y0 y1 y2))
 | 0 => fun _ _ _ r h => by simp [laws_heldInt64S.l0] at h
 | k + 1 => by
  have ih0 := laws_heldInt64S.mono_l k
  ·intro y0 y1 y2
   unfold laws_heldInt64S.l0
   repeat' first
   | (with_reducible exact ih0 _ _ _)
   | (with_reducible exact LeO.refl _)
   | (with_reducible exact LeO.none _)
   | (with_reducible refine LeO.ite ?_ ?_)
   | (with_reducible refine LeO.bind ?_ (fun _ => ?_))
   | exact ih0 _ _ _
   | refine LeO.bind ?_ (fun _ => ?_)
theorem laws_heldInt64S.mono : ∀ a0 a1 k, LeO (laws_heldInt64S.f k a0 a1) (laws_heldInt64S.f (k + 1) a0 a1) := by
 intro a0 a1 k
 have ih0 := laws_heldInt64S.mono_l k
 unfold laws_heldInt64S.f
 repeat' first
   | (with_reducible exact ih0 _ _ _)
   | (with_reducible exact LeO.refl _)
   | (with_reducible exact LeO.none _)
   | (with_reducible refine LeO.ite ?_ ?_)
   | (with_reducible refine LeO.bind ?_ (fun _ => ?_))
   | exact ih0 _ _ _
   | refine LeO.bind ?_ (fun _ => ?_)
theorem laws_heldInt64S.calls (k : Nat) (A0 : Option Addr) (c0 : Nat) (l0 : List Int) (a1 : Int) (r : Int) (w : World) (hr0 : Kd.C (Kd.int .i64) w A0 l0.length l0) (hc0 : l0.length ≤ c0) (h : laws_heldInt64S.f k l0 a1 = some r) :
  Calls Try.prog 71 #[.slice A0 l0.length c0, .int .i64 a1] w fun e w' => e = .returned (.int .i64 r) ∧ Drawn0 w w' := by
 have HR0 := am hr0
 have HC0 := am hc0
 clear hr0 hc0
 have H : (laws_heldInt64S.l0 k l0 a1 0) = some r := h
 clear h
 have H' := Aside0.mk H
 clear H
 go_enter Try.func71, Try.ntmps71
 go_wp2
 go_loopg [1, 5] k (fun kq v1 v5 w' => ∃ (x1_1 : Int) (x5_1 : Int), v1 = .int .i64 x1_1 ∧ v5 = .int .i64 x5_1 ∧ Aside0 (laws_heldInt64S.l0 kq l0 x1_1 x5_1 = some r) ∧ Aside0 (kq ≤ k) ∧ Drawn0 w w')
 case atStart => exact ⟨(a1), (0), (by first | rfl | (simp; done) | (simp [*]; done)), (by first | rfl | (simp; done) | (simp [*]; done)), H', ⟨Nat.le_refl _⟩, by repeat (first | exact Drawn0.refl _ | apply Drawn0.step)⟩
 case round =>
  clear H'
  try clear p2
  obtain ⟨x1_1, x5_1, rfl, rfl, HA, HK1, ⟨m1, rfl⟩⟩ := hrel
  cases gk with
  | zero => exact absurd HA.out (by simp [laws_heldInt64S.l0])
  | succ k1 =>
   have H := HA.out
   clear HA
   simp only [laws_heldInt64S.l0] at H
   by_cases c3 : x5_1 < (l0.length : Int)
   ·rw [if_pos c3] at H
    have c3b0 : decide (x5_1 < (l0.length : Int)) = true := decide_eq_true c3
    clear c3
    by_cases c4 : 0 ≤ x5_1
    ·rw [if_pos c4] at H
     have c4b0 : decide (0 ≤ x5_1) = true := decide_eq_true c4
     clear c4
     by_cases c5 : (rd l0 x5_1) = x1_1
     ·rw [if_pos c5] at H
      have c5b0 : ((rd l0 x5_1) == x1_1) = true := beq_iff_eq.mpr c5
      have c5b1 : ((rd l0 x5_1) != x1_1) = false := bne_eq_false_iff_eq.mpr c5
      clear c5
      have H' := Aside0.mk H
      clear H
      have p307 : 0 ≤ (x5_1 : Int) := of_decide_eq_true (by first | (with_reducible assumption) | assumption)
      have q307 : x5_1 < (l0.length : Int) := of_decide_eq_true (by first | (with_reducible assumption) | assumption)
      obtain ⟨ad307, e307, hx307_0⟩ := Kd.at_int HR0.out x5_1 p307 q307
      cases e307
      replace p307 := eq_true p307
      replace q307 := eq_true q307
      go_wp2
      go_roundg k1
      case measure => have := HK1.out; omega
      case rel => exact ⟨(wrap64 (x1_1 + 1)), (wrap64 (x5_1 + 1)), (by first | rfl | (simp; done) | (simp [*]; done)), (by first | rfl | (simp; done) | (simp [*]; done)), H', ⟨by have := HK1.out; omega⟩, by repeat (first | exact Drawn0.refl _ | apply Drawn0.step)⟩
     ·rw [if_neg c5] at H
      have c5b0 : ((rd l0 x5_1) == x1_1) = false := beq_eq_false_iff_ne.mpr c5
      have c5b1 : ((rd l0 x5_1) != x1_1) = true := bne_iff_ne.mpr c5
      obtain rfl := Option.some.inj H
      have p307 : 0 ≤ (x5_1 : Int) := of_decide_eq_true (by first | (with_reducible assumption) | assumption)
      have q307 : x5_1 < (l0.length : Int) := of_decide_eq_true (by first | (with_reducible assumption) | assumption)
      obtain ⟨ad307, e307, hx307_0⟩ := Kd.at_int HR0.out x5_1 p307 q307
      cases e307
      replace p307 := eq_true p307
      replace q307 := eq_true q307
      go_wp2
      go_ret
      exact ⟨by first | rfl | (simp; done) | (simp [*]; done), by repeat (first | exact Drawn0.refl _ | apply Drawn0.step)⟩
    ·rw [if_neg c4] at H
     exact absurd H (by simp)
   ·rw [if_neg c3] at H
    have c3b0 : decide (x5_1 < (l0.length : Int)) = false := decide_eq_false c3
    clear c3
    obtain rfl := Option.some.inj H
    go_wp2
    go_ret
    exact ⟨by first | rfl | (simp; done) | (simp [*]; done), by repeat (first | exact Drawn0.refl _ | apply Drawn0.step)⟩

end Go.Proofs.Ytkplopkhdejleaa.PFnExactUndoNote
