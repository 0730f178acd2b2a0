-- Written by xprint.py (this claim's own program, over the kit's printer); Lean checks it.
import Derived.Test.YtabinbmcfeknjaaPFnExactUndoRunx0
import Derived.Test.YtabinbmcfeknjaaPFnExactUndoRunx10
namespace Go.Proofs.Ytabinbmcfeknjaa.PFnExactUndoRun
open Go.RowKit Go.Proofs.YtabinbmcfeknjaaW.PrintWords Go.Proofs.YtabinbmcfeknjaaW.PrintLast Go.Proofs.YtabinbmcfeknjaaW.PrintMore
attribute [local go_sem] max2_int min2_int max_two min_two max_three min_three max_four min_four   -- for this text's walks alone
set_option linter.unusedVariables false
set_option linter.unusedSimpArgs false   -- squeezed
set_option maxHeartbeats 8000000
set_option maxRecDepth 100000

/-! ### laws_eqBufS: function 60 -/
@[reducible] def b60_0 : Array Bool := (br true [0, 10]).toArray
@[reducible] def b60_1 : Array Bool := (br true [1, 9]).toArray
@[reducible] def b60_2 : Array Bool := (br true [2, 8]).toArray
@[reducible] def b60_3 : Array Bool := (br true [3, 7]).toArray
@[reducible] def b60_4 : Array Bool := (br true [3, 1, 1, 5]).toArray
@[reducible] def b60_5 : Array Bool := (br true [3, 1, 2, 4]).toArray
@[reducible] def b60_6 : Array Bool := (br true [3, 1, 3, 3]).toArray
@[reducible] def b60_7 : Array Bool := (br true [7, 3]).toArray
@[reducible] def b60_8 : Array Bool := (br true [8, 2]).toArray
@[reducible] def b60_9 : Array Bool := (br true [9, 1]).toArray
@[reducible] def b60_10 : Array Bool := (br true [10]).toArray
def laws_eqBufS.l0 : Nat → List (S31) → List (S31) → Int → Option (Bool)
 | 0, _, _, _ => none
 | k + 1, x0, x1, x5 => if x5 < (x0.length : Int) then (if 0 ≤ x5 then (if x5 < (x1.length : Int) then ((laws_eqBuf.f k ((rd_T31 x0 x5).f0) ((rd_T31 x0 x5).f1) ((rd_T31 x0 x5).f2) ((rd_T31 x1 x5).f0) ((rd_T31 x1 x5).f1) ((rd_T31 x1 x5).f2)).bind fun t353 => (if t353 = true then (laws_eqBufS.l0 k x0 x1 (wrap64 (x5 + 1))) else (some false))) else (none)) else (none)) else (some true)
def laws_eqBufS.f (k : Nat) (l0 : List (S31)) (l1 : List (S31)) : Option (Bool) := if (l0.length : Int) = (l1.length : Int) then (laws_eqBufS.l0 k l0 l1 0) else (some false)
def laws_eqBufS.T6 : Bool × List (List Nat × List Nat) := (true, [([], []), ([], []), ([0, 1], [0, 1]), ([2], [2]), ([], []), ([], []), ([4, 5], [4, 5]), ([6], [6]), ([3, 7], [3, 7]), ([8], [8])])
def laws_eqBufS.B6 : List Nat := [0, 0, 3, 7, 0, 0, 48, 112, 255, 511]
theorem laws_eqBufS.tab6 : rtab .any (opsOf Try.f60 6) = laws_eqBufS.T6 := by kernel_rfl
theorem laws_eqBufS.bits6 : waitsOk laws_eqBufS.T6.2 laws_eqBufS.B6 = true := by kernel_rfl
theorem laws_eqBufS.calls (k : Nat) (A0 : Option Addr) (c0 : Nat) (l0 : List (S31)) (A1 : Option Addr) (c1 : Nat) (l1 : List (S31)) (r : Bool) (w : World) (hr0 : Kd.C k31 w A0 l0.length l0) (hc0 : l0.length ≤ c0) (hr1 : Kd.C k31 w A1 l1.length l1) (hc1 : l1.length ≤ c1) (h : laws_eqBufS.f k l0 l1 = some r) :
  Calls Try.prog 60 #[.slice A0 l0.length c0, .slice A1 l1.length c1] w fun e w' => e = .returned (.bool r) ∧ Below w.heap.size w w' := by
 have hu31 := Try.underlying31
 have HR0 := am hr0
 have HC0 := am hc0
 clear hr0 hc0
 have HR1 := am hr1
 have HC1 := am hc1
 clear hr1 hc1
 have HB := am (Below.refl w.heap.size w)
 have H : (if (l0.length : Int) = (l1.length : Int) then (laws_eqBufS.l0 k l0 l1 0) else (some false)) = some r := h
 clear h
 by_cases c3 : (l0.length : Int) = (l1.length : Int)
 ·rw [if_pos c3] at H
  have c3b0 : ((l0.length : Int) == (l1.length : Int)) = true := beq_iff_eq.mpr c3
  have c3b1 : ((l0.length : Int) != (l1.length : Int)) = false := bne_eq_false_iff_eq.mpr c3
  have c3b2 : (l0.length == l1.length) = true := by first | simpa using c3 | (simp at c3 ⊢; omega)
  clear c3
  have H' := Aside0.mk H
  clear H
  go_enter Try.func60, Try.ntmps60
  go_wp2
  go_loopg [5] k (fun kq v5 w' => ∃ (x5_1 : Int), v5 = .int .i64 x5_1 ∧ Aside0 (laws_eqBufS.l0 kq l0 l1 x5_1 = some r) ∧ Aside0 (kq ≤ k) ∧ Aside0 (Below w.heap.size w w'))
  case atStart => exact ⟨(0), (by first | rfl | (simp; done) | (simp [*]; done)), H', ⟨Nat.le_refl _⟩, ⟨by repeat (first | (with_reducible first | exact HB.out | apply below_alloc | apply pw_below_drewN | apply below_drew1) | exact HB.out)⟩⟩
  case round =>
   clear H'
   try clear c1
   try clear p2
   try clear c3
   try clear c3b0
   try clear c3b1
   try clear c3b2
   obtain ⟨x5_1, rfl, HA, HK1, HB⟩ := hrel
   cases gk with
   | zero => exact absurd HA.out (by simp [laws_eqBufS.l0])
   | succ k1 =>
    have H := HA.out
    clear HA
    simp only [laws_eqBufS.l0] at H
    by_cases c4 : x5_1 < (l0.length : Int)
    ·rw [if_pos c4] at H
     have c4b0 : decide (x5_1 < (l0.length : Int)) = true := decide_eq_true c4
     clear c4
     by_cases c5 : 0 ≤ x5_1
     ·rw [if_pos c5] at H
      have c5b0 : decide (0 ≤ x5_1) = true := decide_eq_true c5
      clear c5
      by_cases c6 : x5_1 < (l1.length : Int)
      ·rw [if_pos c6] at H
       have c6b0 : decide (x5_1 < (l1.length : Int)) = true := decide_eq_true c6
       clear c6
       replace H := Option.bind_eq_some_iff.mp H
       obtain ⟨t353, A70, H⟩ := H
       replace H : (if t353 = true then (laws_eqBufS.l0 k1 l0 l1 (wrap64 (x5_1 + 1))) else (some false)) = some r := H
       have A7 := Aside0.mk A70
       clear A70
       by_cases c8 : t353 = true
       ·subst c8
        have H1 : (laws_eqBufS.l0 k1 l0 l1 (wrap64 (x5_1 + 1))) = some r := by rw [if_pos rfl] at H; exact H
        clear H
        have H := H1
        clear H1
        have H' := Aside0.mk H
        clear H
        try go_wp2
        replace HB := am (below_drew1 HB.out)
        have p351 : 0 ≤ (x5_1 : Int) := of_decide_eq_true (by first | (with_reducible assumption) | assumption)
        have q351 : x5_1 < (l0.length : Int) := of_decide_eq_true (by first | (with_reducible assumption) | assumption)
        obtain ⟨ad351, A351_0, c351_0, e351, hx351_0, hx351_1, hx351_2, hl351_0, hi351_0⟩ := at_T31 HR0.out x5_1 p351 q351
        have hw351_2 := hx351_2
        have hw351_1 := hx351_1
        have hw351_0 := hx351_0
        cases e351
        have hxw351_0 := hx351_0
        replace hx351_0 := (HB.out.cell (World.block_lt_of_cell? w _ hx351_0)).trans hx351_0
        have hxw351_1 := hx351_1
        replace hx351_1 := (HB.out.cell (World.block_lt_of_cell? w _ hx351_1)).trans hx351_1
        have hxw351_2 := hx351_2
        replace hx351_2 := (HB.out.cell (World.block_lt_of_cell? w _ hx351_2)).trans hx351_2
        have HR351_0 := am hi351_0
        have HC351_0 := am hl351_0
        clear hi351_0 hl351_0
        replace p351 := eq_true p351
        replace q351 := eq_true q351
        have p352 : 0 ≤ (x5_1 : Int) := of_decide_eq_true (by first | (with_reducible assumption) | assumption)
        have q352 : x5_1 < (l1.length : Int) := of_decide_eq_true (by first | (with_reducible assumption) | assumption)
        obtain ⟨ad352, A352_0, c352_0, e352, hx352_0, hx352_1, hx352_2, hl352_0, hi352_0⟩ := at_T31 HR1.out x5_1 p352 q352
        have hw352_2 := hx352_2
        have hw352_1 := hx352_1
        have hw352_0 := hx352_0
        cases e352
        have hxw352_0 := hx352_0
        replace hx352_0 := (HB.out.cell (World.block_lt_of_cell? w _ hx352_0)).trans hx352_0
        have hxw352_1 := hx352_1
        replace hx352_1 := (HB.out.cell (World.block_lt_of_cell? w _ hx352_1)).trans hx352_1
        have hxw352_2 := hx352_2
        replace hx352_2 := (HB.out.cell (World.block_lt_of_cell? w _ hx352_2)).trans hx352_2
        have HR352_0 := am hi352_0
        have HC352_0 := am hl352_0
        clear hi352_0 hl352_0
        replace p352 := eq_true p352
        replace q352 := eq_true q352
        refine start_ (n := 10) (S := fun w' => w'.cell? (ad351.add ((x5_1).toNat * 3)) = some (.slice A351_0 ((rd_T31 l0 x5_1).f0).length c351_0) ∧ w'.cell? ⟨(ad351.add ((x5_1).toNat * 3)).block, (ad351.add ((x5_1).toNat * 3)).off + 1, none⟩ = some (.int .i64 ((rd_T31 l0 x5_1).f1)) ∧ w'.cell? ⟨(ad351.add ((x5_1).toNat * 3)).block, (ad351.add ((x5_1).toNat * 3)).off + 2, none⟩ = some (.int .i64 ((rd_T31 l0 x5_1).f2)) ∧ w'.cell? (ad352.add ((x5_1).toNat * 3)) = some (.slice A352_0 ((rd_T31 l1 x5_1).f0).length c352_0) ∧ w'.cell? ⟨(ad352.add ((x5_1).toNat * 3)).block, (ad352.add ((x5_1).toNat * 3)).off + 1, none⟩ = some (.int .i64 ((rd_T31 l1 x5_1).f1)) ∧ w'.cell? ⟨(ad352.add ((x5_1).toNat * 3)).block, (ad352.add ((x5_1).toNat * 3)).off + 2, none⟩ = some (.int .i64 ((rd_T31 l1 x5_1).f2))) (ds := []) b60_0 (by kernel_rfl) rfl rfl ⟨((HB.out.cell (World.block_lt_of_cell? _ _ hw351_0)).trans hw351_0), ((HB.out.cell (World.block_lt_of_cell? _ _ hw351_1)).trans hw351_1), ((HB.out.cell (World.block_lt_of_cell? _ _ hw351_2)).trans hw351_2), ((HB.out.cell (World.block_lt_of_cell? _ _ hw352_0)).trans hw352_0), ((HB.out.cell (World.block_lt_of_cell? _ _ hw352_1)).trans hw352_1), ((HB.out.cell (World.block_lt_of_cell? _ _ hw352_2)).trans hw352_2)⟩ (fun hHeld => ?_); refine with_tabW laws_eqBufS.tab6 laws_eqBufS.bits6 (fun HT_ HW_ => ?_)
        generalize wr.drew = w9 at HB HR351_0 HR352_0 hx351_0 hx351_1 hx351_2 hx352_0 hx352_1 hx352_2 hHeld ⊢
        refine pu_ 0 (some 17) ?_ b60_1 rfl rfl HT_.out (by kernel_rfl) (fun _ _ _ h => h) (Or.inl ⟨by rfl, ?_⟩) ?_ ?_ ?_; rotate_left
        ·intro w'; go_simp; with_reducible rfl
        rotate_left
        ·simp only [Act.put, sa_, s0_, ss_, i64_w, i32_w]; rfl
        refine pu_ 1 (some 18) ?_ b60_2 rfl rfl HT_.out (by kernel_rfl) (fun _ _ _ h => h) (Or.inl ⟨by rfl, ?_⟩) ?_ ?_ ?_; rotate_left
        ·intro w'; go_simp; with_reducible rfl
        rotate_left
        ·simp only [Act.put, sa_, s0_, ss_, i64_w, i32_w]; rfl
        refine pu_ 2 (some 19) ?_ b60_3 rfl rfl HT_.out (by kernel_rfl) (fun _ _ _ h => h) (Or.inl ⟨by rfl, ?_⟩) ?_ ?_ ?_; rotate_left
        ·intro w'; go_simp; with_reducible rfl
        rotate_left
        ·simp only [Act.put, sa_, s0_, ss_, i64_w, i32_w]; rfl
        refine pu_ 4 (some 21) ?_ b60_4 rfl rfl HT_.out (by kernel_rfl) (fun _ _ _ h => h) (Or.inl ⟨by rfl, ?_⟩) ?_ ?_ ?_; rotate_left
        ·intro w'; go_simp; with_reducible rfl
        rotate_left
        ·simp only [Act.put, sa_, s0_, ss_, i64_w, i32_w]; rfl
        refine pu_ 5 (some 22) ?_ b60_5 rfl rfl HT_.out (by kernel_rfl) (fun _ _ _ h => h) (Or.inl ⟨by rfl, ?_⟩) ?_ ?_ ?_; rotate_left
        ·intro w'; go_simp; with_reducible rfl
        rotate_left
        ·simp only [Act.put, sa_, s0_, ss_, i64_w, i32_w]; rfl
        refine pu_ 6 (some 23) ?_ b60_6 rfl rfl HT_.out (by kernel_rfl) (fun _ _ _ h => h) (Or.inl ⟨by rfl, ?_⟩) ?_ ?_ ?_; rotate_left
        ·intro w'; go_simp; with_reducible rfl
        rotate_left
        ·simp only [Act.put, sa_, s0_, ss_, i64_w, i32_w]; rfl
        refine tk_ 3 (some 20) ?_ b60_7 rfl rfl HT_.out HW_.out (by kernel_rfl) (fun _ _ _ h => h) (Or.inl ⟨by rfl, ?_⟩) hHeld ?_ ?_ ?_; rotate_left
        ·rintro w' ⟨s0, s1, s2, s3, s4, s5⟩; go_simp; with_reducible rfl
        rotate_left
        ·simp only [Act.put, sa_, s0_, ss_, i64_w, i32_w]; rfl
        refine tk_ 7 (some 24) ?_ b60_8 rfl rfl HT_.out HW_.out (by kernel_rfl) (fun _ _ _ h => h) (Or.inl ⟨by rfl, ?_⟩) hHeld ?_ ?_ ?_; rotate_left
        ·rintro w' ⟨s0, s1, s2, s3, s4, s5⟩; go_simp; with_reducible rfl
        rotate_left
        ·simp only [Act.put, sa_, s0_, ss_, i64_w, i32_w]; rfl
        refine one_ (i := 8) (N := some 25) b60_9 rfl rfl (one_of HT_.out (by kernel_rfl)) (by decide) (fun K hK => ?_)
        refine gs_ Try.func11 #[.agg #[.slice A351_0 ((rd_T31 l0 x5_1).f0).length c351_0, .int .i64 ((rd_T31 l0 x5_1).f1), .int .i64 ((rd_T31 l0 x5_1).f2)], .agg #[.slice A352_0 ((rd_T31 l1 x5_1).f0).length c352_0, .int .i64 ((rd_T31 l1 x5_1).f1), .int .i64 ((rd_T31 l1 x5_1).f2)]] ?_
        with_reducible refine (laws_eqBuf.calls k1 _ _ ((rd_T31 l0 x5_1).f0) ((rd_T31 l0 x5_1).f1) ((rd_T31 l0 x5_1).f2) _ _ ((rd_T31 l1 x5_1).f0) ((rd_T31 l1 x5_1).f1) ((rd_T31 l1 x5_1).f2) true _ ?side1 ?side2 ?side3 ?side4 A7.out).mono ?_
        (case side1 => repeat (first | exact (Kd.C_below HR351_0.out HB.out) | (with_reducible refine Kd.C_alloc ?_ _) | (with_reducible refine Kd.C_drewN ?_ _) | (with_reducible refine Kd.C_drew ?_)))
        (case side2 => exact HC351_0.out)
        (case side3 => repeat (first | exact (Kd.C_below HR352_0.out HB.out) | (with_reducible refine Kd.C_alloc ?_ _) | (with_reducible refine Kd.C_drewN ?_ _) | (with_reducible refine Kd.C_drew ?_)))
        (case side4 => exact HC352_0.out)
        rintro e w10 ⟨rfl, hb⟩
        refine ⟨_, rfl, ?_⟩
        replace HB := am (below_step (bl HB.out) hb)
        (try clear hb)
        (try clear hb2)
        (try clear hk)
        (try clear hi)
        refine hK.out _ _ ⟨((HB.out.cell (World.block_lt_of_cell? _ _ hw351_0)).trans hw351_0), ((HB.out.cell (World.block_lt_of_cell? _ _ hw351_1)).trans hw351_1), ((HB.out.cell (World.block_lt_of_cell? _ _ hw351_2)).trans hw351_2), ((HB.out.cell (World.block_lt_of_cell? _ _ hw352_0)).trans hw352_0), ((HB.out.cell (World.block_lt_of_cell? _ _ hw352_1)).trans hw352_1), ((HB.out.cell (World.block_lt_of_cell? _ _ hw352_2)).trans hw352_2)⟩ (fun hHeld => ?_)
        clear hK K
        refine norm_ (a' := ?_) ?_ ?_
        rotate_left
        ·show Act.put _ (some 25) _ = _
         simp only [Act.put, sa_, s0_, ss_, i64_w, i32_w]
         rfl
        refine pu_ 9 (some 26) ?_ b60_10 rfl rfl HT_.out (by kernel_rfl) (fun _ _ _ h => h) (Or.inl ⟨by rfl, ?_⟩) ?_ ?_ ?_; rotate_left
        ·intro w'; go_simp; with_reducible rfl
        rotate_left
        ·simp only [Act.put, sa_, s0_, ss_, i64_w, i32_w]; rfl
        refine done_ (done_of HT_.out (by kernel_rfl)) ?_
        try go_wp2
        go_roundg k1
        case measure => have := HK1.out; omega
        case rel => exact ⟨(wrap64 (x5_1 + 1)), (by first | rfl | (simp; done) | (simp [*]; done)), H', ⟨by have := HK1.out; omega⟩, ⟨by repeat (first | (with_reducible first | exact HB.out | apply below_alloc | apply pw_below_drewN | apply below_drew1) | exact HB.out)⟩⟩
       ·replace c8 := Bool.eq_false_iff.mpr c8
        subst c8
        have H1 : (some false) = some r := by rw [if_neg (show ¬ (false = true) by decide)] at H; exact H
        clear H
        have H := H1
        clear H1
        obtain rfl := Option.some.inj H
        try go_wp2
        replace HB := am (below_drew1 HB.out)
        have p351 : 0 ≤ (x5_1 : Int) := of_decide_eq_true (by first | (with_reducible assumption) | assumption)
        have q351 : x5_1 < (l0.length : Int) := of_decide_eq_true (by first | (with_reducible assumption) | assumption)
        obtain ⟨ad351, A351_0, c351_0, e351, hx351_0, hx351_1, hx351_2, hl351_0, hi351_0⟩ := at_T31 HR0.out x5_1 p351 q351
        have hw351_2 := hx351_2
        have hw351_1 := hx351_1
        have hw351_0 := hx351_0
        cases e351
        have hxw351_0 := hx351_0
        replace hx351_0 := (HB.out.cell (World.block_lt_of_cell? w _ hx351_0)).trans hx351_0
        have hxw351_1 := hx351_1
        replace hx351_1 := (HB.out.cell (World.block_lt_of_cell? w _ hx351_1)).trans hx351_1
        have hxw351_2 := hx351_2
        replace hx351_2 := (HB.out.cell (World.block_lt_of_cell? w _ hx351_2)).trans hx351_2
        have HR351_0 := am hi351_0
        have HC351_0 := am hl351_0
        clear hi351_0 hl351_0
        replace p351 := eq_true p351
        replace q351 := eq_true q351
        have p352 : 0 ≤ (x5_1 : Int) := of_decide_eq_true (by first | (with_reducible assumption) | assumption)
        have q352 : x5_1 < (l1.length : Int) := of_decide_eq_true (by first | (with_reducible assumption) | assumption)
        obtain ⟨ad352, A352_0, c352_0, e352, hx352_0, hx352_1, hx352_2, hl352_0, hi352_0⟩ := at_T31 HR1.out x5_1 p352 q352
        have hw352_2 := hx352_2
        have hw352_1 := hx352_1
        have hw352_0 := hx352_0
        cases e352
        have hxw352_0 := hx352_0
        replace hx352_0 := (HB.out.cell (World.block_lt_of_cell? w _ hx352_0)).trans hx352_0
        have hxw352_1 := hx352_1
        replace hx352_1 := (HB.out.cell (World.block_lt_of_cell? w _ hx352_1)).trans hx352_1
        have hxw352_2 := hx352_2
        replace hx352_2 := (HB.out.cell (World.block_lt_of_cell? w _ hx352_2)).trans hx352_2
        have HR352_0 := am hi352_0
        have HC352_0 := am hl352_0
        clear hi352_0 hl352_0
        replace p352 := eq_true p352
        replace q352 := eq_true q352
        refine start_ (n := 10) (S := fun w' => w'.cell? (ad351.add ((x5_1).toNat * 3)) = some (.slice A351_0 ((rd_T31 l0 x5_1).f0).length c351_0) ∧ w'.cell? ⟨(ad351.add ((x5_1).toNat * 3)).block, (ad351.add ((x5_1).toNat * 3)).off + 1, none⟩ = some (.int .i64 ((rd_T31 l0 x5_1).f1)) ∧ w'.cell? ⟨(ad351.add ((x5_1).toNat * 3)).block, (ad351.add ((x5_1).toNat * 3)).off + 2, none⟩ = some (.int .i64 ((rd_T31 l0 x5_1).f2)) ∧ w'.cell? (ad352.add ((x5_1).toNat * 3)) = some (.slice A352_0 ((rd_T31 l1 x5_1).f0).length c352_0) ∧ w'.cell? ⟨(ad352.add ((x5_1).toNat * 3)).block, (ad352.add ((x5_1).toNat * 3)).off + 1, none⟩ = some (.int .i64 ((rd_T31 l1 x5_1).f1)) ∧ w'.cell? ⟨(ad352.add ((x5_1).toNat * 3)).block, (ad352.add ((x5_1).toNat * 3)).off + 2, none⟩ = some (.int .i64 ((rd_T31 l1 x5_1).f2))) (ds := []) b60_0 (by kernel_rfl) rfl rfl ⟨((HB.out.cell (World.block_lt_of_cell? _ _ hw351_0)).trans hw351_0), ((HB.out.cell (World.block_lt_of_cell? _ _ hw351_1)).trans hw351_1), ((HB.out.cell (World.block_lt_of_cell? _ _ hw351_2)).trans hw351_2), ((HB.out.cell (World.block_lt_of_cell? _ _ hw352_0)).trans hw352_0), ((HB.out.cell (World.block_lt_of_cell? _ _ hw352_1)).trans hw352_1), ((HB.out.cell (World.block_lt_of_cell? _ _ hw352_2)).trans hw352_2)⟩ (fun hHeld => ?_); refine with_tabW laws_eqBufS.tab6 laws_eqBufS.bits6 (fun HT_ HW_ => ?_)
        generalize wr.drew = w11 at HB HR351_0 HR352_0 hx351_0 hx351_1 hx351_2 hx352_0 hx352_1 hx352_2 hHeld ⊢
        refine pu_ 0 (some 17) ?_ b60_1 rfl rfl HT_.out (by kernel_rfl) (fun _ _ _ h => h) (Or.inl ⟨by rfl, ?_⟩) ?_ ?_ ?_; rotate_left
        ·intro w'; go_simp; with_reducible rfl
        rotate_left
        ·simp only [Act.put, sa_, s0_, ss_, i64_w, i32_w]; rfl
        refine pu_ 1 (some 18) ?_ b60_2 rfl rfl HT_.out (by kernel_rfl) (fun _ _ _ h => h) (Or.inl ⟨by rfl, ?_⟩) ?_ ?_ ?_; rotate_left
        ·intro w'; go_simp; with_reducible rfl
        rotate_left
        ·simp only [Act.put, sa_, s0_, ss_, i64_w, i32_w]; rfl
        refine pu_ 2 (some 19) ?_ b60_3 rfl rfl HT_.out (by kernel_rfl) (fun _ _ _ h => h) (Or.inl ⟨by rfl, ?_⟩) ?_ ?_ ?_; rotate_left
        ·intro w'; go_simp; with_reducible rfl
        rotate_left
        ·simp only [Act.put, sa_, s0_, ss_, i64_w, i32_w]; rfl
        refine pu_ 4 (some 21) ?_ b60_4 rfl rfl HT_.out (by kernel_rfl) (fun _ _ _ h => h) (Or.inl ⟨by rfl, ?_⟩) ?_ ?_ ?_; rotate_left
        ·intro w'; go_simp; with_reducible rfl
        rotate_left
        ·simp only [Act.put, sa_, s0_, ss_, i64_w, i32_w]; rfl
        refine pu_ 5 (some 22) ?_ b60_5 rfl rfl HT_.out (by kernel_rfl) (fun _ _ _ h => h) (Or.inl ⟨by rfl, ?_⟩) ?_ ?_ ?_; rotate_left
        ·intro w'; go_simp; with_reducible rfl
        rotate_left
        ·simp only [Act.put, sa_, s0_, ss_, i64_w, i32_w]; rfl
        refine pu_ 6 (some 23) ?_ b60_6 rfl rfl HT_.out (by kernel_rfl) (fun _ _ _ h => h) (Or.inl ⟨by rfl, ?_⟩) ?_ ?_ ?_; rotate_left
        ·intro w'; go_simp; with_reducible rfl
        rotate_left
        ·simp only [Act.put, sa_, s0_, ss_, i64_w, i32_w]; rfl
        refine tk_ 3 (some 20) ?_ b60_7 rfl rfl HT_.out HW_.out (by kernel_rfl) (fun _ _ _ h => h) (Or.inl ⟨by rfl, ?_⟩) hHeld ?_ ?_ ?_; rotate_left
        ·rintro w' ⟨s0, s1, s2, s3, s4, s5⟩; go_simp; with_reducible rfl
        rotate_left
        ·simp only [Act.put, sa_, s0_, ss_, i64_w, i32_w]; rfl
        refine tk_ 7 (some 24) ?_ b60_8 rfl rfl HT_.out HW_.out (by kernel_rfl) (fun _ _ _ h => h) (Or.inl ⟨by rfl, ?_⟩) hHeld ?_ ?_ ?_; rotate_left
        ·rintro w' ⟨s0, s1, s2, s3, s4, s5⟩; go_simp; with_reducible rfl
        rotate_left
        ·simp only [Act.put, sa_, s0_, ss_, i64_w, i32_w]; rfl
        refine one_ (i := 8) (N := some 25) b60_9 rfl rfl (one_of HT_.out (by kernel_rfl)) (by decide) (fun K hK => ?_)
        refine gs_ Try.func11 #[.agg #[.slice A351_0 ((rd_T31 l0 x5_1).f0).length c351_0, .int .i64 ((rd_T31 l0 x5_1).f1), .int .i64 ((rd_T31 l0 x5_1).f2)], .agg #[.slice A352_0 ((rd_T31 l1 x5_1).f0).length c352_0, .int .i64 ((rd_T31 l1 x5_1).f1), .int .i64 ((rd_T31 l1 x5_1).f2)]] ?_
        with_reducible refine (laws_eqBuf.calls k1 _ _ ((rd_T31 l0 x5_1).f0) ((rd_T31 l0 x5_1).f1) ((rd_T31 l0 x5_1).f2) _ _ ((rd_T31 l1 x5_1).f0) ((rd_T31 l1 x5_1).f1) ((rd_T31 l1 x5_1).f2) false _ ?side1 ?side2 ?side3 ?side4 A7.out).mono ?_
        (case side1 => repeat (first | exact (Kd.C_below HR351_0.out HB.out) | (with_reducible refine Kd.C_alloc ?_ _) | (with_reducible refine Kd.C_drewN ?_ _) | (with_reducible refine Kd.C_drew ?_)))
        (case side2 => exact HC351_0.out)
        (case side3 => repeat (first | exact (Kd.C_below HR352_0.out HB.out) | (with_reducible refine Kd.C_alloc ?_ _) | (with_reducible refine Kd.C_drewN ?_ _) | (with_reducible refine Kd.C_drew ?_)))
        (case side4 => exact HC352_0.out)
        rintro e w12 ⟨rfl, hb⟩
        refine ⟨_, rfl, ?_⟩
        replace HB := am (below_step (bl HB.out) hb)
        (try clear hb)
        (try clear hb2)
        (try clear hk)
        (try clear hi)
        refine hK.out _ _ ⟨((HB.out.cell (World.block_lt_of_cell? _ _ hw351_0)).trans hw351_0), ((HB.out.cell (World.block_lt_of_cell? _ _ hw351_1)).trans hw351_1), ((HB.out.cell (World.block_lt_of_cell? _ _ hw351_2)).trans hw351_2), ((HB.out.cell (World.block_lt_of_cell? _ _ hw352_0)).trans hw352_0), ((HB.out.cell (World.block_lt_of_cell? _ _ hw352_1)).trans hw352_1), ((HB.out.cell (World.block_lt_of_cell? _ _ hw352_2)).trans hw352_2)⟩ (fun hHeld => ?_)
        clear hK K
        refine norm_ (a' := ?_) ?_ ?_
        rotate_left
        ·show Act.put _ (some 25) _ = _
         simp only [Act.put, sa_, s0_, ss_, i64_w, i32_w]
         rfl
        refine pu_ 9 (some 26) ?_ b60_10 rfl rfl HT_.out (by kernel_rfl) (fun _ _ _ h => h) (Or.inl ⟨by rfl, ?_⟩) ?_ ?_ ?_; rotate_left
        ·intro w'; go_simp; with_reducible rfl
        rotate_left
        ·simp only [Act.put, sa_, s0_, ss_, i64_w, i32_w]; rfl
        refine done_ (done_of HT_.out (by kernel_rfl)) ?_
        try go_wp2
        go_ret
        exact ⟨by first | rfl | (simp [errW_none, errW_some] <;> rfl) | (simp [*, errW_none, errW_some] <;> rfl), by repeat (first | (with_reducible first | exact HB.out | apply below_alloc | apply pw_below_drewN | apply below_drew1) | exact HB.out)⟩
      ·rw [if_neg c6] at H
       exact absurd H (by simp)
     ·rw [if_neg c5] at H
      exact absurd H (by simp)
    ·rw [if_neg c4] at H
     have c4b0 : decide (x5_1 < (l0.length : Int)) = false := decide_eq_false c4
     clear c4
     obtain rfl := Option.some.inj H
     go_wp2
     go_ret
     exact ⟨by first | rfl | (simp [errW_none, errW_some] <;> rfl) | (simp [*, errW_none, errW_some] <;> rfl), by repeat (first | (with_reducible first | exact HB.out | apply below_alloc | apply pw_below_drewN | apply below_drew1) | exact HB.out)⟩
 ·rw [if_neg c3] at H
  have c3b0 : ((l0.length : Int) == (l1.length : Int)) = false := beq_eq_false_iff_ne.mpr c3
  have c3b1 : ((l0.length : Int) != (l1.length : Int)) = true := bne_iff_ne.mpr c3
  have c3b2 : (l0.length == l1.length) = false := by first | simpa using c3 | (simp at c3 ⊢; omega)
  obtain rfl := Option.some.inj H
  go_enter Try.func60, Try.ntmps60
  go_wp2
  go_ret
  exact ⟨by first | rfl | (simp [errW_none, errW_some] <;> rfl) | (simp [*, errW_none, errW_some] <;> rfl), by repeat (first | (with_reducible first | exact HB.out | apply below_alloc | apply pw_below_drewN | apply below_drew1) | exact HB.out)⟩

/-! ### laws_eqUndo: function 34 -/
def laws_eqUndo.f (k : Nat) (l0_0 : List (S31)) (l0_1 : List (S31)) (l1_0 : List (S31)) (l1_1 : List (S31)) : Option (Bool) := (laws_eqBufS.f k l0_0 l1_0).bind fun t356 => (if t356 = true then ((laws_eqBufS.f k l0_1 l1_1).bind fun t357 => (if t357 = true then (some true) else (some false))) else (some false))
theorem laws_eqUndo.calls (k : Nat) (A0_0 : Option Addr) (c0_0 : Nat) (l0_0 : List (S31)) (A0_1 : Option Addr) (c0_1 : Nat) (l0_1 : List (S31)) (A1_0 : Option Addr) (c1_0 : Nat) (l1_0 : List (S31)) (A1_1 : Option Addr) (c1_1 : Nat) (l1_1 : List (S31)) (r : Bool) (w : World) (hr0_0 : Kd.C k31 w A0_0 l0_0.length l0_0) (hc0_0 : l0_0.length ≤ c0_0) (hr0_1 : Kd.C k31 w A0_1 l0_1.length l0_1) (hc0_1 : l0_1.length ≤ c0_1) (hr1_0 : Kd.C k31 w A1_0 l1_0.length l1_0) (hc1_0 : l1_0.length ≤ c1_0) (hr1_1 : Kd.C k31 w A1_1 l1_1.length l1_1) (hc1_1 : l1_1.length ≤ c1_1) (h : laws_eqUndo.f k l0_0 l0_1 l1_0 l1_1 = some r) :
  Calls Try.prog 34 #[.agg #[.slice A0_0 l0_0.length c0_0, .slice A0_1 l0_1.length c0_1], .agg #[.slice A1_0 l1_0.length c1_0, .slice A1_1 l1_1.length c1_1]] w fun e w' => e = .returned (.bool r) ∧ Below w.heap.size w w' := by
 have hu30 := Try.underlying30
 have HR0_0 := am hr0_0
 have HC0_0 := am hc0_0
 clear hr0_0 hc0_0
 have HR0_1 := am hr0_1
 have HC0_1 := am hc0_1
 clear hr0_1 hc0_1
 have HR1_0 := am hr1_0
 have HC1_0 := am hc1_0
 clear hr1_0 hc1_0
 have HR1_1 := am hr1_1
 have HC1_1 := am hc1_1
 clear hr1_1 hc1_1
 have HB := am (Below.refl w.heap.size w)
 have H : ((laws_eqBufS.f k l0_0 l1_0).bind fun t356 => (if t356 = true then ((laws_eqBufS.f k l0_1 l1_1).bind fun t357 => (if t357 = true then (some true) else (some false))) else (some false))) = some r := h
 clear h
 replace H := Option.bind_eq_some_iff.mp H
 obtain ⟨t356, A30, H⟩ := H
 replace H : (if t356 = true then ((laws_eqBufS.f k l0_1 l1_1).bind fun t357 => (if t357 = true then (some true) else (some false))) else (some false)) = some r := H
 have A3 := Aside0.mk A30
 clear A30
 by_cases c4 : t356 = true
 ·subst c4
  have H1 : ((laws_eqBufS.f k l0_1 l1_1).bind fun t357 => (if t357 = true then (some true) else (some false))) = some r := by rw [if_pos rfl] at H; exact H
  clear H
  have H := H1
  clear H1
  replace H := Option.bind_eq_some_iff.mp H
  obtain ⟨t357, A50, H⟩ := H
  replace H : (if t357 = true then (some true) else (some false)) = some r := H
  have A5 := Aside0.mk A50
  clear A50
  by_cases c6 : t357 = true
  ·subst c6
   have H1 : (some true) = some r := by rw [if_pos rfl] at H; exact H
   clear H
   have H := H1
   clear H1
   obtain rfl := Option.some.inj H
   go_enter Try.func34, Try.ntmps34
   go_wp2_with (first | ((with_reducible refine gate_dst (N := 2) rfl ?_); refine box_event ?hg (N := 2) ?hd (cs := #[.slice A0_0 l0_0.length c0_0, .slice A0_1 l0_1.length c0_1]) (t := 30) ?hr ?_; (case hd => rfl); (case hg => rfl); (case hr => first | (go_simp; done) | (go_simp; rfl)); intro gb354 hg w7 hbox hb; have BK354 := am (hbox); have GW354 := am ((by rw [hg]; exact (below_size (bl HB.out)) : w.heap.size ≤ gb354)); have GE354 := GW354; replace HB := am (below_step (bl HB.out) hb); clear hb hbox hg) | ((with_reducible refine gate_dst (N := 3) rfl ?_); refine box_event ?hg (N := 3) ?hd (cs := #[.slice A1_0 l1_0.length c1_0, .slice A1_1 l1_1.length c1_1]) (t := 30) ?hr ?_; (case hd => rfl); (case hg => rfl); (case hr => first | (go_simp; done) | (go_simp; rfl)); intro gb355 hg w8 hbox hb; have BK355 := am (hbox); have GW355 := am ((by rw [hg]; exact (below_size (bl HB.out)) : w.heap.size ≤ gb355)); have GE355 := GW355; replace HB := am (below_step (bl HB.out) hb); have NB354_355 := am ((by rw [hg]; exact Nat.ne_of_lt (blk_lt (pk BK354.out)) : gb354 ≠ gb355)); have NB355_354 := am ((by rw [hg]; exact Nat.ne_of_gt (blk_lt (pk BK354.out)) : gb355 ≠ gb354)); replace BK354 := am (blk_below (pk BK354.out) hb); clear hb hbox hg; have hnb9 := NB354_355.out; have hnc9 := NB355_354.out; have hcz10_0 : w8.cell? ⟨gb354, 0, none⟩ = some (.slice A0_0 l0_0.length c0_0) := bc BK354.out 0; have hcz10_1 : w8.cell? ⟨gb354, 1, none⟩ = some (.slice A0_1 l0_1.length c0_1) := bc BK354.out 1; have hcz11_0 : w8.cell? ⟨gb355, 0, none⟩ = some (.slice A1_0 l1_0.length c1_0) := bc BK355.out 0; have hcz11_1 : w8.cell? ⟨gb355, 1, none⟩ = some (.slice A1_1 l1_1.length c1_1) := bc BK355.out 1) | ((with_reducible refine gate_callee (f := 60) rfl ?_); refine gl (some 9) Try.func60 #[.slice A0_0 l0_0.length c0_0, .slice A1_0 l1_0.length c1_0] ?_; (with_reducible refine (laws_eqBufS.calls k _ _ l0_0 _ _ l1_0 true _ ?side1 ?side2 ?side3 ?side4 A3.out).mono ?_); (case side1 => repeat (first | exact (Kd.C_below HR0_0.out HB.out) | (with_reducible refine Kd.C_alloc ?_ _) | (with_reducible refine Kd.C_drewN ?_ _) | (with_reducible refine Kd.C_drew ?_))); (case side2 => exact HC0_0.out); (case side3 => repeat (first | exact (Kd.C_below HR1_0.out HB.out) | (with_reducible refine Kd.C_alloc ?_ _) | (with_reducible refine Kd.C_drewN ?_ _) | (with_reducible refine Kd.C_drew ?_))); (case side4 => exact HC1_0.out); rintro e w12 ⟨rfl, hb⟩; refine ⟨_, rfl, ?_⟩; replace BK354 := am (blk_below (pk BK354.out) hb); replace BK355 := am (blk_below (pk BK355.out) hb); replace HB := am (below_step (bl HB.out) hb); (try clear hb); (try clear hb2); (try clear hk); (try clear hi); have hcz13_0 : w12.cell? ⟨gb354, 0, none⟩ = some (.slice A0_0 l0_0.length c0_0) := bc BK354.out 0; have hcz13_1 : w12.cell? ⟨gb354, 1, none⟩ = some (.slice A0_1 l0_1.length c0_1) := bc BK354.out 1; have hcz14_0 : w12.cell? ⟨gb355, 0, none⟩ = some (.slice A1_0 l1_0.length c1_0) := bc BK355.out 0; have hcz14_1 : w12.cell? ⟨gb355, 1, none⟩ = some (.slice A1_1 l1_1.length c1_1) := bc BK355.out 1) | ((with_reducible refine gate_callee (f := 60) rfl ?_); refine gl (some 15) Try.func60 #[.slice A0_1 l0_1.length c0_1, .slice A1_1 l1_1.length c1_1] ?_; (with_reducible refine (laws_eqBufS.calls k _ _ l0_1 _ _ l1_1 true _ ?side1 ?side2 ?side3 ?side4 A5.out).mono ?_); (case side1 => repeat (first | exact (Kd.C_below HR0_1.out HB.out) | (with_reducible refine Kd.C_alloc ?_ _) | (with_reducible refine Kd.C_drewN ?_ _) | (with_reducible refine Kd.C_drew ?_))); (case side2 => exact HC0_1.out); (case side3 => repeat (first | exact (Kd.C_below HR1_1.out HB.out) | (with_reducible refine Kd.C_alloc ?_ _) | (with_reducible refine Kd.C_drewN ?_ _) | (with_reducible refine Kd.C_drew ?_))); (case side4 => exact HC1_1.out); rintro e w15 ⟨rfl, hb⟩; refine ⟨_, rfl, ?_⟩; replace BK354 := am (blk_below (pk BK354.out) hb); replace BK355 := am (blk_below (pk BK355.out) hb); replace HB := am (below_step (bl HB.out) hb); (try clear hb); (try clear hb2); (try clear hk); (try clear hi)))
   go_ret
   exact ⟨by first | rfl | (simp [errW_none, errW_some] <;> rfl) | (simp [*, errW_none, errW_some] <;> rfl), by repeat (first | (with_reducible first | exact HB.out | apply below_alloc | apply pw_below_drewN | apply below_drew1 | refine below_set ?_ GE354.out | refine below_set ?_ GE355.out) | exact HB.out)⟩
  ·replace c6 := Bool.eq_false_iff.mpr c6
   subst c6
   have H1 : (some false) = some r := by rw [if_neg (show ¬ (false = true) by decide)] at H; exact H
   clear H
   have H := H1
   clear H1
   obtain rfl := Option.some.inj H
   go_enter Try.func34, Try.ntmps34
   go_wp2_with (first | ((with_reducible refine gate_dst (N := 2) rfl ?_); refine box_event ?hg (N := 2) ?hd (cs := #[.slice A0_0 l0_0.length c0_0, .slice A0_1 l0_1.length c0_1]) (t := 30) ?hr ?_; (case hd => rfl); (case hg => rfl); (case hr => first | (go_simp; done) | (go_simp; rfl)); intro gb354 hg w16 hbox hb; have BK354 := am (hbox); have GW354 := am ((by rw [hg]; exact (below_size (bl HB.out)) : w.heap.size ≤ gb354)); have GE354 := GW354; replace HB := am (below_step (bl HB.out) hb); clear hb hbox hg) | ((with_reducible refine gate_dst (N := 3) rfl ?_); refine box_event ?hg (N := 3) ?hd (cs := #[.slice A1_0 l1_0.length c1_0, .slice A1_1 l1_1.length c1_1]) (t := 30) ?hr ?_; (case hd => rfl); (case hg => rfl); (case hr => first | (go_simp; done) | (go_simp; rfl)); intro gb355 hg w17 hbox hb; have BK355 := am (hbox); have GW355 := am ((by rw [hg]; exact (below_size (bl HB.out)) : w.heap.size ≤ gb355)); have GE355 := GW355; replace HB := am (below_step (bl HB.out) hb); have NB354_355 := am ((by rw [hg]; exact Nat.ne_of_lt (blk_lt (pk BK354.out)) : gb354 ≠ gb355)); have NB355_354 := am ((by rw [hg]; exact Nat.ne_of_gt (blk_lt (pk BK354.out)) : gb355 ≠ gb354)); replace BK354 := am (blk_below (pk BK354.out) hb); clear hb hbox hg; have hnb18 := NB354_355.out; have hnc18 := NB355_354.out; have hcz19_0 : w17.cell? ⟨gb354, 0, none⟩ = some (.slice A0_0 l0_0.length c0_0) := bc BK354.out 0; have hcz19_1 : w17.cell? ⟨gb354, 1, none⟩ = some (.slice A0_1 l0_1.length c0_1) := bc BK354.out 1; have hcz20_0 : w17.cell? ⟨gb355, 0, none⟩ = some (.slice A1_0 l1_0.length c1_0) := bc BK355.out 0; have hcz20_1 : w17.cell? ⟨gb355, 1, none⟩ = some (.slice A1_1 l1_1.length c1_1) := bc BK355.out 1) | ((with_reducible refine gate_callee (f := 60) rfl ?_); refine gl (some 9) Try.func60 #[.slice A0_0 l0_0.length c0_0, .slice A1_0 l1_0.length c1_0] ?_; (with_reducible refine (laws_eqBufS.calls k _ _ l0_0 _ _ l1_0 true _ ?side1 ?side2 ?side3 ?side4 A3.out).mono ?_); (case side1 => repeat (first | exact (Kd.C_below HR0_0.out HB.out) | (with_reducible refine Kd.C_alloc ?_ _) | (with_reducible refine Kd.C_drewN ?_ _) | (with_reducible refine Kd.C_drew ?_))); (case side2 => exact HC0_0.out); (case side3 => repeat (first | exact (Kd.C_below HR1_0.out HB.out) | (with_reducible refine Kd.C_alloc ?_ _) | (with_reducible refine Kd.C_drewN ?_ _) | (with_reducible refine Kd.C_drew ?_))); (case side4 => exact HC1_0.out); rintro e w21 ⟨rfl, hb⟩; refine ⟨_, rfl, ?_⟩; replace BK354 := am (blk_below (pk BK354.out) hb); replace BK355 := am (blk_below (pk BK355.out) hb); replace HB := am (below_step (bl HB.out) hb); (try clear hb); (try clear hb2); (try clear hk); (try clear hi); have hcz22_0 : w21.cell? ⟨gb354, 0, none⟩ = some (.slice A0_0 l0_0.length c0_0) := bc BK354.out 0; have hcz22_1 : w21.cell? ⟨gb354, 1, none⟩ = some (.slice A0_1 l0_1.length c0_1) := bc BK354.out 1; have hcz23_0 : w21.cell? ⟨gb355, 0, none⟩ = some (.slice A1_0 l1_0.length c1_0) := bc BK355.out 0; have hcz23_1 : w21.cell? ⟨gb355, 1, none⟩ = some (.slice A1_1 l1_1.length c1_1) := bc BK355.out 1) | ((with_reducible refine gate_callee (f := 60) rfl ?_); refine gl (some 15) Try.func60 #[.slice A0_1 l0_1.length c0_1, .slice A1_1 l1_1.length c1_1] ?_; (with_reducible refine (laws_eqBufS.calls k _ _ l0_1 _ _ l1_1 false _ ?side1 ?side2 ?side3 ?side4 A5.out).mono ?_); (case side1 => repeat (first | exact (Kd.C_below HR0_1.out HB.out) | (with_reducible refine Kd.C_alloc ?_ _) | (with_reducible refine Kd.C_drewN ?_ _) | (with_reducible refine Kd.C_drew ?_))); (case side2 => exact HC0_1.out); (case side3 => repeat (first | exact (Kd.C_below HR1_1.out HB.out) | (with_reducible refine Kd.C_alloc ?_ _) | (with_reducible refine Kd.C_drewN ?_ _) | (with_reducible refine Kd.C_drew ?_))); (case side4 => exact HC1_1.out); rintro e w24 ⟨rfl, hb⟩; refine ⟨_, rfl, ?_⟩; replace BK354 := am (blk_below (pk BK354.out) hb); replace BK355 := am (blk_below (pk BK355.out) hb); replace HB := am (below_step (bl HB.out) hb); (try clear hb); (try clear hb2); (try clear hk); (try clear hi)))
   go_ret
   exact ⟨by first | rfl | (simp [errW_none, errW_some] <;> rfl) | (simp [*, errW_none, errW_some] <;> rfl), by repeat (first | (with_reducible first | exact HB.out | apply below_alloc | apply pw_below_drewN | apply below_drew1 | refine below_set ?_ GE354.out | refine below_set ?_ GE355.out) | exact HB.out)⟩
 ·replace c4 := Bool.eq_false_iff.mpr c4
  subst c4
  have H1 : (some false) = some r := by rw [if_neg (show ¬ (false = true) by decide)] at H; exact H
  clear H
  have H := H1
  clear H1
  obtain rfl := Option.some.inj H
  go_enter Try.func34, Try.ntmps34
  go_wp2_with (first | ((with_reducible refine gate_dst (N := 2) rfl ?_); refine box_event ?hg (N := 2) ?hd (cs := #[.slice A0_0 l0_0.length c0_0, .slice A0_1 l0_1.length c0_1]) (t := 30) ?hr ?_; (case hd => rfl); (case hg => rfl); (case hr => first | (go_simp; done) | (go_simp; rfl)); intro gb354 hg w25 hbox hb; have BK354 := am (hbox); have GW354 := am ((by rw [hg]; exact (below_size (bl HB.out)) : w.heap.size ≤ gb354)); have GE354 := GW354; replace HB := am (below_step (bl HB.out) hb); clear hb hbox hg) | ((with_reducible refine gate_dst (N := 3) rfl ?_); refine box_event ?hg (N := 3) ?hd (cs := #[.slice A1_0 l1_0.length c1_0, .slice A1_1 l1_1.length c1_1]) (t := 30) ?hr ?_; (case hd => rfl); (case hg => rfl); (case hr => first | (go_simp; done) | (go_simp; rfl)); intro gb355 hg w26 hbox hb; have BK355 := am (hbox); have GW355 := am ((by rw [hg]; exact (below_size (bl HB.out)) : w.heap.size ≤ gb355)); have GE355 := GW355; replace HB := am (below_step (bl HB.out) hb); have NB354_355 := am ((by rw [hg]; exact Nat.ne_of_lt (blk_lt (pk BK354.out)) : gb354 ≠ gb355)); have NB355_354 := am ((by rw [hg]; exact Nat.ne_of_gt (blk_lt (pk BK354.out)) : gb355 ≠ gb354)); replace BK354 := am (blk_below (pk BK354.out) hb); clear hb hbox hg; have hnb27 := NB354_355.out; have hnc27 := NB355_354.out; have hcz28_0 : w26.cell? ⟨gb354, 0, none⟩ = some (.slice A0_0 l0_0.length c0_0) := bc BK354.out 0; have hcz28_1 : w26.cell? ⟨gb354, 1, none⟩ = some (.slice A0_1 l0_1.length c0_1) := bc BK354.out 1; have hcz29_0 : w26.cell? ⟨gb355, 0, none⟩ = some (.slice A1_0 l1_0.length c1_0) := bc BK355.out 0; have hcz29_1 : w26.cell? ⟨gb355, 1, none⟩ = some (.slice A1_1 l1_1.length c1_1) := bc BK355.out 1) | ((with_reducible refine gate_callee (f := 60) rfl ?_); refine gl (some 9) Try.func60 #[.slice A0_0 l0_0.length c0_0, .slice A1_0 l1_0.length c1_0] ?_; (with_reducible refine (laws_eqBufS.calls k _ _ l0_0 _ _ l1_0 false _ ?side1 ?side2 ?side3 ?side4 A3.out).mono ?_); (case side1 => repeat (first | exact (Kd.C_below HR0_0.out HB.out) | (with_reducible refine Kd.C_alloc ?_ _) | (with_reducible refine Kd.C_drewN ?_ _) | (with_reducible refine Kd.C_drew ?_))); (case side2 => exact HC0_0.out); (case side3 => repeat (first | exact (Kd.C_below HR1_0.out HB.out) | (with_reducible refine Kd.C_alloc ?_ _) | (with_reducible refine Kd.C_drewN ?_ _) | (with_reducible refine Kd.C_drew ?_))); (case side4 => exact HC1_0.out); rintro e w30 ⟨rfl, hb⟩; refine ⟨_, rfl, ?_⟩; replace BK354 := am (blk_below (pk BK354.out) hb); replace BK355 := am (blk_below (pk BK355.out) hb); replace HB := am (below_step (bl HB.out) hb); (try clear hb); (try clear hb2); (try clear hk); (try clear hi)))
  go_ret
  exact ⟨by first | rfl | (simp [errW_none, errW_some] <;> rfl) | (simp [*, errW_none, errW_some] <;> rfl), by repeat (first | (with_reducible first | exact HB.out | apply below_alloc | apply pw_below_drewN | apply below_drew1 | refine below_set ?_ GE354.out | refine below_set ?_ GE355.out) | exact HB.out)⟩

/-! ### laws_eqUndoOut: function 10 -/
def laws_eqUndoOut.f (k : Nat) (l0_0 : List (S31)) (l0_1 : List (S31)) (l0_2 : List Int) (a0_3 : Int) (a0_4 : Int) (a0_5 : Int) (l1_0 : List (S31)) (l1_1 : List (S31)) (l1_2 : List Int) (a1_3 : Int) (a1_4 : Int) (a1_5 : Int) : Option (Bool) := (laws_eqUndo.f k l0_0 l0_1 l1_0 l1_1).bind fun t360 => (if t360 = true then ((laws_eqBuf.f k l0_2 a0_3 a0_4 l1_2 a1_3 a1_4).bind fun t361 => (if t361 = true then (if a0_5 = a1_5 then (some true) else (some false)) else (some false))) else (some false))
theorem laws_eqUndoOut.calls (k : Nat) (A0_0 : Option Addr) (c0_0 : Nat) (l0_0 : List (S31)) (A0_1 : Option Addr) (c0_1 : Nat) (l0_1 : List (S31)) (A0_2 : Option Addr) (c0_2 : Nat) (l0_2 : List Int) (a0_3 : Int) (a0_4 : Int) (a0_5 : Int) (A1_0 : Option Addr) (c1_0 : Nat) (l1_0 : List (S31)) (A1_1 : Option Addr) (c1_1 : Nat) (l1_1 : List (S31)) (A1_2 : Option Addr) (c1_2 : Nat) (l1_2 : List Int) (a1_3 : Int) (a1_4 : Int) (a1_5 : Int) (r : Bool) (w : World) (hr0_0 : Kd.C k31 w A0_0 l0_0.length l0_0) (hc0_0 : l0_0.length ≤ c0_0) (hr0_1 : Kd.C k31 w A0_1 l0_1.length l0_1) (hc0_1 : l0_1.length ≤ c0_1) (hr0_2 : Kd.C (Kd.int .i64) w A0_2 l0_2.length l0_2) (hc0_2 : l0_2.length ≤ c0_2) (hr1_0 : Kd.C k31 w A1_0 l1_0.length l1_0) (hc1_0 : l1_0.length ≤ c1_0) (hr1_1 : Kd.C k31 w A1_1 l1_1.length l1_1) (hc1_1 : l1_1.length ≤ c1_1) (hr1_2 : Kd.C (Kd.int .i64) w A1_2 l1_2.length l1_2) (hc1_2 : l1_2.length ≤ c1_2) (h : laws_eqUndoOut.f k l0_0 l0_1 l0_2 a0_3 a0_4 a0_5 l1_0 l1_1 l1_2 a1_3 a1_4 a1_5 = some r) :
  Calls Try.prog 10 #[.agg #[.slice A0_0 l0_0.length c0_0, .slice A0_1 l0_1.length c0_1, .slice A0_2 l0_2.length c0_2, .int .i64 a0_3, .int .i64 a0_4, .int .i64 a0_5], .agg #[.slice A1_0 l1_0.length c1_0, .slice A1_1 l1_1.length c1_1, .slice A1_2 l1_2.length c1_2, .int .i64 a1_3, .int .i64 a1_4, .int .i64 a1_5]] w fun e w' => e = .returned (.bool r) ∧ Below w.heap.size w w' := by
 have hu33 := Try.underlying33
 have hu30 := Try.underlying30
 have hu31 := Try.underlying31
 have HR0_0 := am hr0_0
 have HC0_0 := am hc0_0
 clear hr0_0 hc0_0
 have HR0_1 := am hr0_1
 have HC0_1 := am hc0_1
 clear hr0_1 hc0_1
 have HR0_2 := am hr0_2
 have HC0_2 := am hc0_2
 clear hr0_2 hc0_2
 have HR1_0 := am hr1_0
 have HC1_0 := am hc1_0
 clear hr1_0 hc1_0
 have HR1_1 := am hr1_1
 have HC1_1 := am hc1_1
 clear hr1_1 hc1_1
 have HR1_2 := am hr1_2
 have HC1_2 := am hc1_2
 clear hr1_2 hc1_2
 have HB := am (Below.refl w.heap.size w)
 have H : ((laws_eqUndo.f k l0_0 l0_1 l1_0 l1_1).bind fun t360 => (if t360 = true then ((laws_eqBuf.f k l0_2 a0_3 a0_4 l1_2 a1_3 a1_4).bind fun t361 => (if t361 = true then (if a0_5 = a1_5 then (some true) else (some false)) else (some false))) else (some false))) = some r := h
 clear h
 replace H := Option.bind_eq_some_iff.mp H
 obtain ⟨t360, A30, H⟩ := H
 replace H : (if t360 = true then ((laws_eqBuf.f k l0_2 a0_3 a0_4 l1_2 a1_3 a1_4).bind fun t361 => (if t361 = true then (if a0_5 = a1_5 then (some true) else (some false)) else (some false))) else (some false)) = some r := H
 have A3 := Aside0.mk A30
 clear A30
 by_cases c4 : t360 = true
 ·subst c4
  have H1 : ((laws_eqBuf.f k l0_2 a0_3 a0_4 l1_2 a1_3 a1_4).bind fun t361 => (if t361 = true then (if a0_5 = a1_5 then (some true) else (some false)) else (some false))) = some r := by rw [if_pos rfl] at H; exact H
  clear H
  have H := H1
  clear H1
  replace H := Option.bind_eq_some_iff.mp H
  obtain ⟨t361, A50, H⟩ := H
  replace H : (if t361 = true then (if a0_5 = a1_5 then (some true) else (some false)) else (some false)) = some r := H
  have A5 := Aside0.mk A50
  clear A50
  by_cases c6 : t361 = true
  ·subst c6
   have H1 : (if a0_5 = a1_5 then (some true) else (some false)) = some r := by rw [if_pos rfl] at H; exact H
   clear H
   have H := H1
   clear H1
   by_cases c7 : a0_5 = a1_5
   ·rw [if_pos c7] at H
    have c7b0 : (a0_5 == a1_5) = true := beq_iff_eq.mpr c7
    have c7b1 : (a0_5 != a1_5) = false := bne_eq_false_iff_eq.mpr c7
    clear c7
    obtain rfl := Option.some.inj H
    go_enter Try.func10, Try.ntmps10
    go_wp2_with (first | ((with_reducible refine gate_dst (N := 2) rfl ?_); refine box_event ?hg (N := 2) ?hd (cs := #[.slice A0_0 l0_0.length c0_0, .slice A0_1 l0_1.length c0_1, .slice A0_2 l0_2.length c0_2, .int .i64 a0_3, .int .i64 a0_4, .int .i64 a0_5]) (t := 33) ?hr ?_; (case hd => rfl); (case hg => rfl); (case hr => first | (go_simp; done) | (go_simp; rfl)); intro gb358 hg w8 hbox hb; have BK358 := am (hbox); have GW358 := am ((by rw [hg]; exact (below_size (bl HB.out)) : w.heap.size ≤ gb358)); have GE358 := GW358; replace HB := am (below_step (bl HB.out) hb); clear hb hbox hg) | ((with_reducible refine gate_dst (N := 3) rfl ?_); refine box_event ?hg (N := 3) ?hd (cs := #[.slice A1_0 l1_0.length c1_0, .slice A1_1 l1_1.length c1_1, .slice A1_2 l1_2.length c1_2, .int .i64 a1_3, .int .i64 a1_4, .int .i64 a1_5]) (t := 33) ?hr ?_; (case hd => rfl); (case hg => rfl); (case hr => first | (go_simp; done) | (go_simp; rfl)); intro gb359 hg w9 hbox hb; have BK359 := am (hbox); have GW359 := am ((by rw [hg]; exact (below_size (bl HB.out)) : w.heap.size ≤ gb359)); have GE359 := GW359; replace HB := am (below_step (bl HB.out) hb); have NB358_359 := am ((by rw [hg]; exact Nat.ne_of_lt (blk_lt (pk BK358.out)) : gb358 ≠ gb359)); have NB359_358 := am ((by rw [hg]; exact Nat.ne_of_gt (blk_lt (pk BK358.out)) : gb359 ≠ gb358)); replace BK358 := am (blk_below (pk BK358.out) hb); clear hb hbox hg; have hnb10 := NB358_359.out; have hnc10 := NB359_358.out; have hcz11_0 : w9.cell? ⟨gb358, 0, none⟩ = some (.slice A0_0 l0_0.length c0_0) := bc BK358.out 0; have hcz11_1 : w9.cell? ⟨gb358, 1, none⟩ = some (.slice A0_1 l0_1.length c0_1) := bc BK358.out 1; have hcz11_2 : w9.cell? ⟨gb358, 2, none⟩ = some (.slice A0_2 l0_2.length c0_2) := bc BK358.out 2; have hcz11_3 : w9.cell? ⟨gb358, 3, none⟩ = some (.int .i64 a0_3) := bc BK358.out 3; have hcz11_4 : w9.cell? ⟨gb358, 4, none⟩ = some (.int .i64 a0_4) := bc BK358.out 4; have hcz11_5 : w9.cell? ⟨gb358, 5, none⟩ = some (.int .i64 a0_5) := bc BK358.out 5; have hcz12_0 : w9.cell? ⟨gb359, 0, none⟩ = some (.slice A1_0 l1_0.length c1_0) := bc BK359.out 0; have hcz12_1 : w9.cell? ⟨gb359, 1, none⟩ = some (.slice A1_1 l1_1.length c1_1) := bc BK359.out 1; have hcz12_2 : w9.cell? ⟨gb359, 2, none⟩ = some (.slice A1_2 l1_2.length c1_2) := bc BK359.out 2; have hcz12_3 : w9.cell? ⟨gb359, 3, none⟩ = some (.int .i64 a1_3) := bc BK359.out 3; have hcz12_4 : w9.cell? ⟨gb359, 4, none⟩ = some (.int .i64 a1_4) := bc BK359.out 4; have hcz12_5 : w9.cell? ⟨gb359, 5, none⟩ = some (.int .i64 a1_5) := bc BK359.out 5) | ((with_reducible refine gate_callee (f := 34) rfl ?_); refine gl (some 9) Try.func34 #[.agg #[.slice A0_0 l0_0.length c0_0, .slice A0_1 l0_1.length c0_1], .agg #[.slice A1_0 l1_0.length c1_0, .slice A1_1 l1_1.length c1_1]] ?_; (with_reducible refine (laws_eqUndo.calls k _ _ l0_0 _ _ l0_1 _ _ l1_0 _ _ l1_1 true _ ?side1 ?side2 ?side3 ?side4 ?side5 ?side6 ?side7 ?side8 A3.out).mono ?_); (case side1 => repeat (first | exact (Kd.C_below HR0_0.out HB.out) | (with_reducible refine Kd.C_alloc ?_ _) | (with_reducible refine Kd.C_drewN ?_ _) | (with_reducible refine Kd.C_drew ?_))); (case side2 => exact HC0_0.out); (case side3 => repeat (first | exact (Kd.C_below HR0_1.out HB.out) | (with_reducible refine Kd.C_alloc ?_ _) | (with_reducible refine Kd.C_drewN ?_ _) | (with_reducible refine Kd.C_drew ?_))); (case side4 => exact HC0_1.out); (case side5 => repeat (first | exact (Kd.C_below HR1_0.out HB.out) | (with_reducible refine Kd.C_alloc ?_ _) | (with_reducible refine Kd.C_drewN ?_ _) | (with_reducible refine Kd.C_drew ?_))); (case side6 => exact HC1_0.out); (case side7 => repeat (first | exact (Kd.C_below HR1_1.out HB.out) | (with_reducible refine Kd.C_alloc ?_ _) | (with_reducible refine Kd.C_drewN ?_ _) | (with_reducible refine Kd.C_drew ?_))); (case side8 => exact HC1_1.out); rintro e w13 ⟨rfl, hb⟩; refine ⟨_, rfl, ?_⟩; replace BK358 := am (blk_below (pk BK358.out) hb); replace BK359 := am (blk_below (pk BK359.out) hb); replace HB := am (below_step (bl HB.out) hb); (try clear hb); (try clear hb2); (try clear hk); (try clear hi); have hcz14_0 : w13.cell? ⟨gb358, 0, none⟩ = some (.slice A0_0 l0_0.length c0_0) := bc BK358.out 0; have hcz14_1 : w13.cell? ⟨gb358, 1, none⟩ = some (.slice A0_1 l0_1.length c0_1) := bc BK358.out 1; have hcz14_2 : w13.cell? ⟨gb358, 2, none⟩ = some (.slice A0_2 l0_2.length c0_2) := bc BK358.out 2; have hcz14_3 : w13.cell? ⟨gb358, 3, none⟩ = some (.int .i64 a0_3) := bc BK358.out 3; have hcz14_4 : w13.cell? ⟨gb358, 4, none⟩ = some (.int .i64 a0_4) := bc BK358.out 4; have hcz14_5 : w13.cell? ⟨gb358, 5, none⟩ = some (.int .i64 a0_5) := bc BK358.out 5; have hcz15_0 : w13.cell? ⟨gb359, 0, none⟩ = some (.slice A1_0 l1_0.length c1_0) := bc BK359.out 0; have hcz15_1 : w13.cell? ⟨gb359, 1, none⟩ = some (.slice A1_1 l1_1.length c1_1) := bc BK359.out 1; have hcz15_2 : w13.cell? ⟨gb359, 2, none⟩ = some (.slice A1_2 l1_2.length c1_2) := bc BK359.out 2; have hcz15_3 : w13.cell? ⟨gb359, 3, none⟩ = some (.int .i64 a1_3) := bc BK359.out 3; have hcz15_4 : w13.cell? ⟨gb359, 4, none⟩ = some (.int .i64 a1_4) := bc BK359.out 4; have hcz15_5 : w13.cell? ⟨gb359, 5, none⟩ = some (.int .i64 a1_5) := bc BK359.out 5) | ((with_reducible refine gate_callee (f := 11) rfl ?_); refine gl (some 15) Try.func11 #[.agg #[.slice A0_2 l0_2.length c0_2, .int .i64 a0_3, .int .i64 a0_4], .agg #[.slice A1_2 l1_2.length c1_2, .int .i64 a1_3, .int .i64 a1_4]] ?_; (with_reducible refine (laws_eqBuf.calls k _ _ l0_2 a0_3 a0_4 _ _ l1_2 a1_3 a1_4 true _ ?side1 ?side2 ?side3 ?side4 A5.out).mono ?_); (case side1 => repeat (first | exact (Kd.C_below HR0_2.out HB.out) | (with_reducible refine Kd.C_alloc ?_ _) | (with_reducible refine Kd.C_drewN ?_ _) | (with_reducible refine Kd.C_drew ?_))); (case side2 => exact HC0_2.out); (case side3 => repeat (first | exact (Kd.C_below HR1_2.out HB.out) | (with_reducible refine Kd.C_alloc ?_ _) | (with_reducible refine Kd.C_drewN ?_ _) | (with_reducible refine Kd.C_drew ?_))); (case side4 => exact HC1_2.out); rintro e w16 ⟨rfl, hb⟩; refine ⟨_, rfl, ?_⟩; replace BK358 := am (blk_below (pk BK358.out) hb); replace BK359 := am (blk_below (pk BK359.out) hb); replace HB := am (below_step (bl HB.out) hb); (try clear hb); (try clear hb2); (try clear hk); (try clear hi); have hcz17_0 : w16.cell? ⟨gb358, 0, none⟩ = some (.slice A0_0 l0_0.length c0_0) := bc BK358.out 0; have hcz17_1 : w16.cell? ⟨gb358, 1, none⟩ = some (.slice A0_1 l0_1.length c0_1) := bc BK358.out 1; have hcz17_2 : w16.cell? ⟨gb358, 2, none⟩ = some (.slice A0_2 l0_2.length c0_2) := bc BK358.out 2; have hcz17_3 : w16.cell? ⟨gb358, 3, none⟩ = some (.int .i64 a0_3) := bc BK358.out 3; have hcz17_4 : w16.cell? ⟨gb358, 4, none⟩ = some (.int .i64 a0_4) := bc BK358.out 4; have hcz17_5 : w16.cell? ⟨gb358, 5, none⟩ = some (.int .i64 a0_5) := bc BK358.out 5; have hcz18_0 : w16.cell? ⟨gb359, 0, none⟩ = some (.slice A1_0 l1_0.length c1_0) := bc BK359.out 0; have hcz18_1 : w16.cell? ⟨gb359, 1, none⟩ = some (.slice A1_1 l1_1.length c1_1) := bc BK359.out 1; have hcz18_2 : w16.cell? ⟨gb359, 2, none⟩ = some (.slice A1_2 l1_2.length c1_2) := bc BK359.out 2; have hcz18_3 : w16.cell? ⟨gb359, 3, none⟩ = some (.int .i64 a1_3) := bc BK359.out 3; have hcz18_4 : w16.cell? ⟨gb359, 4, none⟩ = some (.int .i64 a1_4) := bc BK359.out 4; have hcz18_5 : w16.cell? ⟨gb359, 5, none⟩ = some (.int .i64 a1_5) := bc BK359.out 5))
    go_ret
    exact ⟨by first | rfl | (simp [errW_none, errW_some] <;> rfl) | (simp [*, errW_none, errW_some] <;> rfl), by repeat (first | (with_reducible first | exact HB.out | apply below_alloc | apply pw_below_drewN | apply below_drew1 | refine below_set ?_ GE358.out | refine below_set ?_ GE359.out) | exact HB.out)⟩
   ·rw [if_neg c7] at H
    have c7b0 : (a0_5 == a1_5) = false := beq_eq_false_iff_ne.mpr c7
    have c7b1 : (a0_5 != a1_5) = true := bne_iff_ne.mpr c7
    obtain rfl := Option.some.inj H
    go_enter Try.func10, Try.ntmps10
    go_wp2_with (first | ((with_reducible refine gate_dst (N := 2) rfl ?_); refine box_event ?hg (N := 2) ?hd (cs := #[.slice A0_0 l0_0.length c0_0, .slice A0_1 l0_1.length c0_1, .slice A0_2 l0_2.length c0_2, .int .i64 a0_3, .int .i64 a0_4, .int .i64 a0_5]) (t := 33) ?hr ?_; (case hd => rfl); (case hg => rfl); (case hr => first | (go_simp; done) | (go_simp; rfl)); intro gb358 hg w19 hbox hb; have BK358 := am (hbox); have GW358 := am ((by rw [hg]; exact (below_size (bl HB.out)) : w.heap.size ≤ gb358)); have GE358 := GW358; replace HB := am (below_step (bl HB.out) hb); clear hb hbox hg) | ((with_reducible refine gate_dst (N := 3) rfl ?_); refine box_event ?hg (N := 3) ?hd (cs := #[.slice A1_0 l1_0.length c1_0, .slice A1_1 l1_1.length c1_1, .slice A1_2 l1_2.length c1_2, .int .i64 a1_3, .int .i64 a1_4, .int .i64 a1_5]) (t := 33) ?hr ?_; (case hd => rfl); (case hg => rfl); (case hr => first | (go_simp; done) | (go_simp; rfl)); intro gb359 hg w20 hbox hb; have BK359 := am (hbox); have GW359 := am ((by rw [hg]; exact (below_size (bl HB.out)) : w.heap.size ≤ gb359)); have GE359 := GW359; replace HB := am (below_step (bl HB.out) hb); have NB358_359 := am ((by rw [hg]; exact Nat.ne_of_lt (blk_lt (pk BK358.out)) : gb358 ≠ gb359)); have NB359_358 := am ((by rw [hg]; exact Nat.ne_of_gt (blk_lt (pk BK358.out)) : gb359 ≠ gb358)); replace BK358 := am (blk_below (pk BK358.out) hb); clear hb hbox hg; have hnb21 := NB358_359.out; have hnc21 := NB359_358.out; have hcz22_0 : w20.cell? ⟨gb358, 0, none⟩ = some (.slice A0_0 l0_0.length c0_0) := bc BK358.out 0; have hcz22_1 : w20.cell? ⟨gb358, 1, none⟩ = some (.slice A0_1 l0_1.length c0_1) := bc BK358.out 1; have hcz22_2 : w20.cell? ⟨gb358, 2, none⟩ = some (.slice A0_2 l0_2.length c0_2) := bc BK358.out 2; have hcz22_3 : w20.cell? ⟨gb358, 3, none⟩ = some (.int .i64 a0_3) := bc BK358.out 3; have hcz22_4 : w20.cell? ⟨gb358, 4, none⟩ = some (.int .i64 a0_4) := bc BK358.out 4; have hcz22_5 : w20.cell? ⟨gb358, 5, none⟩ = some (.int .i64 a0_5) := bc BK358.out 5; have hcz23_0 : w20.cell? ⟨gb359, 0, none⟩ = some (.slice A1_0 l1_0.length c1_0) := bc BK359.out 0; have hcz23_1 : w20.cell? ⟨gb359, 1, none⟩ = some (.slice A1_1 l1_1.length c1_1) := bc BK359.out 1; have hcz23_2 : w20.cell? ⟨gb359, 2, none⟩ = some (.slice A1_2 l1_2.length c1_2) := bc BK359.out 2; have hcz23_3 : w20.cell? ⟨gb359, 3, none⟩ = some (.int .i64 a1_3) := bc BK359.out 3; have hcz23_4 : w20.cell? ⟨gb359, 4, none⟩ = some (.int .i64 a1_4) := bc BK359.out 4; have hcz23_5 : w20.cell? ⟨gb359, 5, none⟩ = some (.int .i64 a1_5) := bc BK359.out 5) | ((with_reducible refine gate_callee (f := 34) rfl ?_); refine gl (some 9) Try.func34 #[.agg #[.slice A0_0 l0_0.length c0_0, .slice A0_1 l0_1.length c0_1], .agg #[.slice A1_0 l1_0.length c1_0, .slice A1_1 l1_1.length c1_1]] ?_; (with_reducible refine (laws_eqUndo.calls k _ _ l0_0 _ _ l0_1 _ _ l1_0 _ _ l1_1 true _ ?side1 ?side2 ?side3 ?side4 ?side5 ?side6 ?side7 ?side8 A3.out).mono ?_); (case side1 => repeat (first | exact (Kd.C_below HR0_0.out HB.out) | (with_reducible refine Kd.C_alloc ?_ _) | (with_reducible refine Kd.C_drewN ?_ _) | (with_reducible refine Kd.C_drew ?_))); (case side2 => exact HC0_0.out); (case side3 => repeat (first | exact (Kd.C_below HR0_1.out HB.out) | (with_reducible refine Kd.C_alloc ?_ _) | (with_reducible refine Kd.C_drewN ?_ _) | (with_reducible refine Kd.C_drew ?_))); (case side4 => exact HC0_1.out); (case side5 => repeat (first | exact (Kd.C_below HR1_0.out HB.out) | (with_reducible refine Kd.C_alloc ?_ _) | (with_reducible refine Kd.C_drewN ?_ _) | (with_reducible refine Kd.C_drew ?_))); (case side6 => exact HC1_0.out); (case side7 => repeat (first | exact (Kd.C_below HR1_1.out HB.out) | (with_reducible refine Kd.C_alloc ?_ _) | (with_reducible refine Kd.C_drewN ?_ _) | (with_reducible refine Kd.C_drew ?_))); (case side8 => exact HC1_1.out); rintro e w24 ⟨rfl, hb⟩; refine ⟨_, rfl, ?_⟩; replace BK358 := am (blk_below (pk BK358.out) hb); replace BK359 := am (blk_below (pk BK359.out) hb); replace HB := am (below_step (bl HB.out) hb); (try clear hb); (try clear hb2); (try clear hk); (try clear hi); have hcz25_0 : w24.cell? ⟨gb358, 0, none⟩ = some (.slice A0_0 l0_0.length c0_0) := bc BK358.out 0; have hcz25_1 : w24.cell? ⟨gb358, 1, none⟩ = some (.slice A0_1 l0_1.length c0_1) := bc BK358.out 1; have hcz25_2 : w24.cell? ⟨gb358, 2, none⟩ = some (.slice A0_2 l0_2.length c0_2) := bc BK358.out 2; have hcz25_3 : w24.cell? ⟨gb358, 3, none⟩ = some (.int .i64 a0_3) := bc BK358.out 3; have hcz25_4 : w24.cell? ⟨gb358, 4, none⟩ = some (.int .i64 a0_4) := bc BK358.out 4; have hcz25_5 : w24.cell? ⟨gb358, 5, none⟩ = some (.int .i64 a0_5) := bc BK358.out 5; have hcz26_0 : w24.cell? ⟨gb359, 0, none⟩ = some (.slice A1_0 l1_0.length c1_0) := bc BK359.out 0; have hcz26_1 : w24.cell? ⟨gb359, 1, none⟩ = some (.slice A1_1 l1_1.length c1_1) := bc BK359.out 1; have hcz26_2 : w24.cell? ⟨gb359, 2, none⟩ = some (.slice A1_2 l1_2.length c1_2) := bc BK359.out 2; have hcz26_3 : w24.cell? ⟨gb359, 3, none⟩ = some (.int .i64 a1_3) := bc BK359.out 3; have hcz26_4 : w24.cell? ⟨gb359, 4, none⟩ = some (.int .i64 a1_4) := bc BK359.out 4; have hcz26_5 : w24.cell? ⟨gb359, 5, none⟩ = some (.int .i64 a1_5) := bc BK359.out 5) | ((with_reducible refine gate_callee (f := 11) rfl ?_); refine gl (some 15) Try.func11 #[.agg #[.slice A0_2 l0_2.length c0_2, .int .i64 a0_3, .int .i64 a0_4], .agg #[.slice A1_2 l1_2.length c1_2, .int .i64 a1_3, .int .i64 a1_4]] ?_; (with_reducible refine (laws_eqBuf.calls k _ _ l0_2 a0_3 a0_4 _ _ l1_2 a1_3 a1_4 true _ ?side1 ?side2 ?side3 ?side4 A5.out).mono ?_); (case side1 => repeat (first | exact (Kd.C_below HR0_2.out HB.out) | (with_reducible refine Kd.C_alloc ?_ _) | (with_reducible refine Kd.C_drewN ?_ _) | (with_reducible refine Kd.C_drew ?_))); (case side2 => exact HC0_2.out); (case side3 => repeat (first | exact (Kd.C_below HR1_2.out HB.out) | (with_reducible refine Kd.C_alloc ?_ _) | (with_reducible refine Kd.C_drewN ?_ _) | (with_reducible refine Kd.C_drew ?_))); (case side4 => exact HC1_2.out); rintro e w27 ⟨rfl, hb⟩; refine ⟨_, rfl, ?_⟩; replace BK358 := am (blk_below (pk BK358.out) hb); replace BK359 := am (blk_below (pk BK359.out) hb); replace HB := am (below_step (bl HB.out) hb); (try clear hb); (try clear hb2); (try clear hk); (try clear hi); have hcz28_0 : w27.cell? ⟨gb358, 0, none⟩ = some (.slice A0_0 l0_0.length c0_0) := bc BK358.out 0; have hcz28_1 : w27.cell? ⟨gb358, 1, none⟩ = some (.slice A0_1 l0_1.length c0_1) := bc BK358.out 1; have hcz28_2 : w27.cell? ⟨gb358, 2, none⟩ = some (.slice A0_2 l0_2.length c0_2) := bc BK358.out 2; have hcz28_3 : w27.cell? ⟨gb358, 3, none⟩ = some (.int .i64 a0_3) := bc BK358.out 3; have hcz28_4 : w27.cell? ⟨gb358, 4, none⟩ = some (.int .i64 a0_4) := bc BK358.out 4; have hcz28_5 : w27.cell? ⟨gb358, 5, none⟩ = some (.int .i64 a0_5) := bc BK358.out 5; have hcz29_0 : w27.cell? ⟨gb359, 0, none⟩ = some (.slice A1_0 l1_0.length c1_0) := bc BK359.out 0; have hcz29_1 : w27.cell? ⟨gb359, 1, none⟩ = some (.slice A1_1 l1_1.length c1_1) := bc BK359.out 1; have hcz29_2 : w27.cell? ⟨gb359, 2, none⟩ = some (.slice A1_2 l1_2.length c1_2) := bc BK359.out 2; have hcz29_3 : w27.cell? ⟨gb359, 3, none⟩ = some (.int .i64 a1_3) := bc BK359.out 3; have hcz29_4 : w27.cell? ⟨gb359, 4, none⟩ = some (.int .i64 a1_4) := bc BK359.out 4; have hcz29_5 : w27.cell? ⟨gb359, 5, none⟩ = some (.int .i64 a1_5) := bc BK359.out 5))
    go_ret
    exact ⟨by first | rfl | (simp [errW_none, errW_some] <;> rfl) | (simp [*, errW_none, errW_some] <;> rfl), by repeat (first | (with_reducible first | exact HB.out | apply below_alloc | apply pw_below_drewN | apply below_drew1 | refine below_set ?_ GE358.out | refine below_set ?_ GE359.out) | exact HB.out)⟩
  ·replace c6 := Bool.eq_false_iff.mpr c6
   subst c6
   have H1 : (some false) = some r := by rw [if_neg (show ¬ (false = true) by decide)] at H; exact H
   clear H
   have H := H1
   clear H1
   obtain rfl := Option.some.inj H
   go_enter Try.func10, Try.ntmps10
   go_wp2_with (first | ((with_reducible refine gate_dst (N := 2) rfl ?_); refine box_event ?hg (N := 2) ?hd (cs := #[.slice A0_0 l0_0.length c0_0, .slice A0_1 l0_1.length c0_1, .slice A0_2 l0_2.length c0_2, .int .i64 a0_3, .int .i64 a0_4, .int .i64 a0_5]) (t := 33) ?hr ?_; (case hd => rfl); (case hg => rfl); (case hr => first | (go_simp; done) | (go_simp; rfl)); intro gb358 hg w30 hbox hb; have BK358 := am (hbox); have GW358 := am ((by rw [hg]; exact (below_size (bl HB.out)) : w.heap.size ≤ gb358)); have GE358 := GW358; replace HB := am (below_step (bl HB.out) hb); clear hb hbox hg) | ((with_reducible refine gate_dst (N := 3) rfl ?_); refine box_event ?hg (N := 3) ?hd (cs := #[.slice A1_0 l1_0.length c1_0, .slice A1_1 l1_1.length c1_1, .slice A1_2 l1_2.length c1_2, .int .i64 a1_3, .int .i64 a1_4, .int .i64 a1_5]) (t := 33) ?hr ?_; (case hd => rfl); (case hg => rfl); (case hr => first | (go_simp; done) | (go_simp; rfl)); intro gb359 hg w31 hbox hb; have BK359 := am (hbox); have GW359 := am ((by rw [hg]; exact (below_size (bl HB.out)) : w.heap.size ≤ gb359)); have GE359 := GW359; replace HB := am (below_step (bl HB.out) hb); have NB358_359 := am ((by rw [hg]; exact Nat.ne_of_lt (blk_lt (pk BK358.out)) : gb358 ≠ gb359)); have NB359_358 := am ((by rw [hg]; exact Nat.ne_of_gt (blk_lt (pk BK358.out)) : gb359 ≠ gb358)); replace BK358 := am (blk_below (pk BK358.out) hb); clear hb hbox hg; have hnb32 := NB358_359.out; have hnc32 := NB359_358.out; have hcz33_0 : w31.cell? ⟨gb358, 0, none⟩ = some (.slice A0_0 l0_0.length c0_0) := bc BK358.out 0; have hcz33_1 : w31.cell? ⟨gb358, 1, none⟩ = some (.slice A0_1 l0_1.length c0_1) := bc BK358.out 1; have hcz33_2 : w31.cell? ⟨gb358, 2, none⟩ = some (.slice A0_2 l0_2.length c0_2) := bc BK358.out 2; have hcz33_3 : w31.cell? ⟨gb358, 3, none⟩ = some (.int .i64 a0_3) := bc BK358.out 3; have hcz33_4 : w31.cell? ⟨gb358, 4, none⟩ = some (.int .i64 a0_4) := bc BK358.out 4; have hcz33_5 : w31.cell? ⟨gb358, 5, none⟩ = some (.int .i64 a0_5) := bc BK358.out 5; have hcz34_0 : w31.cell? ⟨gb359, 0, none⟩ = some (.slice A1_0 l1_0.length c1_0) := bc BK359.out 0; have hcz34_1 : w31.cell? ⟨gb359, 1, none⟩ = some (.slice A1_1 l1_1.length c1_1) := bc BK359.out 1; have hcz34_2 : w31.cell? ⟨gb359, 2, none⟩ = some (.slice A1_2 l1_2.length c1_2) := bc BK359.out 2; have hcz34_3 : w31.cell? ⟨gb359, 3, none⟩ = some (.int .i64 a1_3) := bc BK359.out 3; have hcz34_4 : w31.cell? ⟨gb359, 4, none⟩ = some (.int .i64 a1_4) := bc BK359.out 4; have hcz34_5 : w31.cell? ⟨gb359, 5, none⟩ = some (.int .i64 a1_5) := bc BK359.out 5) | ((with_reducible refine gate_callee (f := 34) rfl ?_); refine gl (some 9) Try.func34 #[.agg #[.slice A0_0 l0_0.length c0_0, .slice A0_1 l0_1.length c0_1], .agg #[.slice A1_0 l1_0.length c1_0, .slice A1_1 l1_1.length c1_1]] ?_; (with_reducible refine (laws_eqUndo.calls k _ _ l0_0 _ _ l0_1 _ _ l1_0 _ _ l1_1 true _ ?side1 ?side2 ?side3 ?side4 ?side5 ?side6 ?side7 ?side8 A3.out).mono ?_); (case side1 => repeat (first | exact (Kd.C_below HR0_0.out HB.out) | (with_reducible refine Kd.C_alloc ?_ _) | (with_reducible refine Kd.C_drewN ?_ _) | (with_reducible refine Kd.C_drew ?_))); (case side2 => exact HC0_0.out); (case side3 => repeat (first | exact (Kd.C_below HR0_1.out HB.out) | (with_reducible refine Kd.C_alloc ?_ _) | (with_reducible refine Kd.C_drewN ?_ _) | (with_reducible refine Kd.C_drew ?_))); (case side4 => exact HC0_1.out); (case side5 => repeat (first | exact (Kd.C_below HR1_0.out HB.out) | (with_reducible refine Kd.C_alloc ?_ _) | (with_reducible refine Kd.C_drewN ?_ _) | (with_reducible refine Kd.C_drew ?_))); (case side6 => exact HC1_0.out); (case side7 => repeat (first | exact (Kd.C_below HR1_1.out HB.out) | (with_reducible refine Kd.C_alloc ?_ _) | (with_reducible refine Kd.C_drewN ?_ _) | (with_reducible refine Kd.C_drew ?_))); (case side8 => exact HC1_1.out); rintro e w35 ⟨rfl, hb⟩; refine ⟨_, rfl, ?_⟩; replace BK358 := am (blk_below (pk BK358.out) hb); replace BK359 := am (blk_below (pk BK359.out) hb); replace HB := am (below_step (bl HB.out) hb); (try clear hb); (try clear hb2); (try clear hk); (try clear hi); have hcz36_0 : w35.cell? ⟨gb358, 0, none⟩ = some (.slice A0_0 l0_0.length c0_0) := bc BK358.out 0; have hcz36_1 : w35.cell? ⟨gb358, 1, none⟩ = some (.slice A0_1 l0_1.length c0_1) := bc BK358.out 1; have hcz36_2 : w35.cell? ⟨gb358, 2, none⟩ = some (.slice A0_2 l0_2.length c0_2) := bc BK358.out 2; have hcz36_3 : w35.cell? ⟨gb358, 3, none⟩ = some (.int .i64 a0_3) := bc BK358.out 3; have hcz36_4 : w35.cell? ⟨gb358, 4, none⟩ = some (.int .i64 a0_4) := bc BK358.out 4; have hcz36_5 : w35.cell? ⟨gb358, 5, none⟩ = some (.int .i64 a0_5) := bc BK358.out 5; have hcz37_0 : w35.cell? ⟨gb359, 0, none⟩ = some (.slice A1_0 l1_0.length c1_0) := bc BK359.out 0; have hcz37_1 : w35.cell? ⟨gb359, 1, none⟩ = some (.slice A1_1 l1_1.length c1_1) := bc BK359.out 1; have hcz37_2 : w35.cell? ⟨gb359, 2, none⟩ = some (.slice A1_2 l1_2.length c1_2) := bc BK359.out 2; have hcz37_3 : w35.cell? ⟨gb359, 3, none⟩ = some (.int .i64 a1_3) := bc BK359.out 3; have hcz37_4 : w35.cell? ⟨gb359, 4, none⟩ = some (.int .i64 a1_4) := bc BK359.out 4; have hcz37_5 : w35.cell? ⟨gb359, 5, none⟩ = some (.int .i64 a1_5) := bc BK359.out 5) | ((with_reducible refine gate_callee (f := 11) rfl ?_); refine gl (some 15) Try.func11 #[.agg #[.slice A0_2 l0_2.length c0_2, .int .i64 a0_3, .int .i64 a0_4], .agg #[.slice A1_2 l1_2.length c1_2, .int .i64 a1_3, .int .i64 a1_4]] ?_; (with_reducible refine (laws_eqBuf.calls k _ _ l0_2 a0_3 a0_4 _ _ l1_2 a1_3 a1_4 false _ ?side1 ?side2 ?side3 ?side4 A5.out).mono ?_); (case side1 => repeat (first | exact (Kd.C_below HR0_2.out HB.out) | (with_reducible refine Kd.C_alloc ?_ _) | (with_reducible refine Kd.C_drewN ?_ _) | (with_reducible refine Kd.C_drew ?_))); (case side2 => exact HC0_2.out); (case side3 => repeat (first | exact (Kd.C_below HR1_2.out HB.out) | (with_reducible refine Kd.C_alloc ?_ _) | (with_reducible refine Kd.C_drewN ?_ _) | (with_reducible refine Kd.C_drew ?_))); (case side4 => exact HC1_2.out); rintro e w38 ⟨rfl, hb⟩; refine ⟨_, rfl, ?_⟩; replace BK358 := am (blk_below (pk BK358.out) hb); replace BK359 := am (blk_below (pk BK359.out) hb); replace HB := am (below_step (bl HB.out) hb); (try clear hb); (try clear hb2); (try clear hk); (try clear hi)))
   go_ret
   exact ⟨by first | rfl | (simp [errW_none, errW_some] <;> rfl) | (simp [*, errW_none, errW_some] <;> rfl), by repeat (first | (with_reducible first | exact HB.out | apply below_alloc | apply pw_below_drewN | apply below_drew1 | refine below_set ?_ GE358.out | refine below_set ?_ GE359.out) | exact HB.out)⟩
 ·replace c4 := Bool.eq_false_iff.mpr c4
  subst c4
  have H1 : (some false) = some r := by rw [if_neg (show ¬ (false = true) by decide)] at H; exact H
  clear H
  have H := H1
  clear H1
  obtain rfl := Option.some.inj H
  go_enter Try.func10, Try.ntmps10
  go_wp2_with (first | ((with_reducible refine gate_dst (N := 2) rfl ?_); refine box_event ?hg (N := 2) ?hd (cs := #[.slice A0_0 l0_0.length c0_0, .slice A0_1 l0_1.length c0_1, .slice A0_2 l0_2.length c0_2, .int .i64 a0_3, .int .i64 a0_4, .int .i64 a0_5]) (t := 33) ?hr ?_; (case hd => rfl); (case hg => rfl); (case hr => first | (go_simp; done) | (go_simp; rfl)); intro gb358 hg w39 hbox hb; have BK358 := am (hbox); have GW358 := am ((by rw [hg]; exact (below_size (bl HB.out)) : w.heap.size ≤ gb358)); have GE358 := GW358; replace HB := am (below_step (bl HB.out) hb); clear hb hbox hg) | ((with_reducible refine gate_dst (N := 3) rfl ?_); refine box_event ?hg (N := 3) ?hd (cs := #[.slice A1_0 l1_0.length c1_0, .slice A1_1 l1_1.length c1_1, .slice A1_2 l1_2.length c1_2, .int .i64 a1_3, .int .i64 a1_4, .int .i64 a1_5]) (t := 33) ?hr ?_; (case hd => rfl); (case hg => rfl); (case hr => first | (go_simp; done) | (go_simp; rfl)); intro gb359 hg w40 hbox hb; have BK359 := am (hbox); have GW359 := am ((by rw [hg]; exact (below_size (bl HB.out)) : w.heap.size ≤ gb359)); have GE359 := GW359; replace HB := am (below_step (bl HB.out) hb); have NB358_359 := am ((by rw [hg]; exact Nat.ne_of_lt (blk_lt (pk BK358.out)) : gb358 ≠ gb359)); have NB359_358 := am ((by rw [hg]; exact Nat.ne_of_gt (blk_lt (pk BK358.out)) : gb359 ≠ gb358)); replace BK358 := am (blk_below (pk BK358.out) hb); clear hb hbox hg; have hnb41 := NB358_359.out; have hnc41 := NB359_358.out; have hcz42_0 : w40.cell? ⟨gb358, 0, none⟩ = some (.slice A0_0 l0_0.length c0_0) := bc BK358.out 0; have hcz42_1 : w40.cell? ⟨gb358, 1, none⟩ = some (.slice A0_1 l0_1.length c0_1) := bc BK358.out 1; have hcz42_2 : w40.cell? ⟨gb358, 2, none⟩ = some (.slice A0_2 l0_2.length c0_2) := bc BK358.out 2; have hcz42_3 : w40.cell? ⟨gb358, 3, none⟩ = some (.int .i64 a0_3) := bc BK358.out 3; have hcz42_4 : w40.cell? ⟨gb358, 4, none⟩ = some (.int .i64 a0_4) := bc BK358.out 4; have hcz42_5 : w40.cell? ⟨gb358, 5, none⟩ = some (.int .i64 a0_5) := bc BK358.out 5; have hcz43_0 : w40.cell? ⟨gb359, 0, none⟩ = some (.slice A1_0 l1_0.length c1_0) := bc BK359.out 0; have hcz43_1 : w40.cell? ⟨gb359, 1, none⟩ = some (.slice A1_1 l1_1.length c1_1) := bc BK359.out 1; have hcz43_2 : w40.cell? ⟨gb359, 2, none⟩ = some (.slice A1_2 l1_2.length c1_2) := bc BK359.out 2; have hcz43_3 : w40.cell? ⟨gb359, 3, none⟩ = some (.int .i64 a1_3) := bc BK359.out 3; have hcz43_4 : w40.cell? ⟨gb359, 4, none⟩ = some (.int .i64 a1_4) := bc BK359.out 4; have hcz43_5 : w40.cell? ⟨gb359, 5, none⟩ = some (.int .i64 a1_5) := bc BK359.out 5) | ((with_reducible refine gate_callee (f := 34) rfl ?_); refine gl (some 9) Try.func34 #[.agg #[.slice A0_0 l0_0.length c0_0, .slice A0_1 l0_1.length c0_1], .agg #[.slice A1_0 l1_0.length c1_0, .slice A1_1 l1_1.length c1_1]] ?_; (with_reducible refine (laws_eqUndo.calls k _ _ l0_0 _ _ l0_1 _ _ l1_0 _ _ l1_1 false _ ?side1 ?side2 ?side3 ?side4 ?side5 ?side6 ?side7 ?side8 A3.out).mono ?_); (case side1 => repeat (first | exact (Kd.C_below HR0_0.out HB.out) | (with_reducible refine Kd.C_alloc ?_ _) | (with_reducible refine Kd.C_drewN ?_ _) | (with_reducible refine Kd.C_drew ?_))); (case side2 => exact HC0_0.out); (case side3 => repeat (first | exact (Kd.C_below HR0_1.out HB.out) | (with_reducible refine Kd.C_alloc ?_ _) | (with_reducible refine Kd.C_drewN ?_ _) | (with_reducible refine Kd.C_drew ?_))); (case side4 => exact HC0_1.out); (case side5 => repeat (first | exact (Kd.C_below HR1_0.out HB.out) | (with_reducible refine Kd.C_alloc ?_ _) | (with_reducible refine Kd.C_drewN ?_ _) | (with_reducible refine Kd.C_drew ?_))); (case side6 => exact HC1_0.out); (case side7 => repeat (first | exact (Kd.C_below HR1_1.out HB.out) | (with_reducible refine Kd.C_alloc ?_ _) | (with_reducible refine Kd.C_drewN ?_ _) | (with_reducible refine Kd.C_drew ?_))); (case side8 => exact HC1_1.out); rintro e w44 ⟨rfl, hb⟩; refine ⟨_, rfl, ?_⟩; replace BK358 := am (blk_below (pk BK358.out) hb); replace BK359 := am (blk_below (pk BK359.out) hb); replace HB := am (below_step (bl HB.out) hb); (try clear hb); (try clear hb2); (try clear hk); (try clear hi)))
  go_ret
  exact ⟨by first | rfl | (simp [errW_none, errW_some] <;> rfl) | (simp [*, errW_none, errW_some] <;> rfl), by repeat (first | (with_reducible first | exact HB.out | apply below_alloc | apply pw_below_drewN | apply below_drew1 | refine below_set ?_ GE358.out | refine below_set ?_ GE359.out) | exact HB.out)⟩

/-! ### laws_eqInt64SS: function 12 -/
def laws_eqInt64SS.l0 : Nat → List (List Int) → List (List Int) → Int → Option (Bool)
 | 0, _, _, _ => none
 | k + 1, x0, x1, x5 => if x5 < (x0.length : Int) then (if 0 ≤ x5 then (if x5 < (x1.length : Int) then ((laws_eqInt64S.f k (rd_L1 x0 x5) (rd_L1 x1 x5)).bind fun t364 => (if t364 = true then (laws_eqInt64SS.l0 k x0 x1 (wrap64 (x5 + 1))) else (some false))) else (none)) else (none)) else (some true)
def laws_eqInt64SS.f (k : Nat) (l0 : List (List Int)) (l1 : List (List Int)) : Option (Bool) := if (l0.length : Int) = (l1.length : Int) then (laws_eqInt64SS.l0 k l0 l1 0) else (some false)
theorem laws_eqInt64SS.calls (k : Nat) (A0 : Option Addr) (c0 : Nat) (l0 : List (List Int)) (A1 : Option Addr) (c1 : Nat) (l1 : List (List Int)) (r : Bool) (w : World) (hr0 : Kd.C (Kd.slice 2 (Kd.int .i64)) w A0 l0.length l0) (hc0 : l0.length ≤ c0) (hr1 : Kd.C (Kd.slice 2 (Kd.int .i64)) w A1 l1.length l1) (hc1 : l1.length ≤ c1) (h : laws_eqInt64SS.f k l0 l1 = some r) :
  Calls Try.prog 12 #[.slice A0 l0.length c0, .slice A1 l1.length c1] w fun e w' => e = .returned (.bool r) ∧ Drawn0 w w' := by
 have HR0 := am hr0
 have HC0 := am hc0
 clear hr0 hc0
 have HR1 := am hr1
 have HC1 := am hc1
 clear hr1 hc1
 have H : (if (l0.length : Int) = (l1.length : Int) then (laws_eqInt64SS.l0 k l0 l1 0) else (some false)) = some r := h
 clear h
 by_cases c3 : (l0.length : Int) = (l1.length : Int)
 ·rw [if_pos c3] at H
  have c3b0 : ((l0.length : Int) == (l1.length : Int)) = true := beq_iff_eq.mpr c3
  have c3b1 : ((l0.length : Int) != (l1.length : Int)) = false := bne_eq_false_iff_eq.mpr c3
  have c3b2 : (l0.length == l1.length) = true := by first | simpa using c3 | (simp at c3 ⊢; omega)
  clear c3
  have H' := Aside0.mk H
  clear H
  go_enter Try.func12, Try.ntmps12
  go_wp2
  repeat (go_quiet (fail); try go_wp2)
  go_loopg [5] k (fun kq v5 w' => ∃ (x5_1 : Int), v5 = .int .i64 x5_1 ∧ Aside0 (laws_eqInt64SS.l0 kq l0 l1 x5_1 = some r) ∧ Aside0 (kq ≤ k) ∧ Drawn0 w w')
  case atStart => exact ⟨(0), (by first | rfl | (simp; done) | (simp [*]; done)), H', ⟨Nat.le_refl _⟩, by repeat (first | exact Drawn0.refl _ | apply Drawn0.step)⟩
  case round =>
   clear H'
   try clear c1
   try clear p2
   try clear c3
   try clear c3b0
   try clear c3b1
   try clear c3b2
   obtain ⟨x5_1, rfl, HA, HK1, ⟨m1, rfl⟩⟩ := hrel
   cases gk with
   | zero => exact absurd HA.out (by simp [laws_eqInt64SS.l0])
   | succ k1 =>
    have H := HA.out
    clear HA
    simp only [laws_eqInt64SS.l0] at H
    by_cases c4 : x5_1 < (l0.length : Int)
    ·rw [if_pos c4] at H
     have c4b0 : decide (x5_1 < (l0.length : Int)) = true := decide_eq_true c4
     clear c4
     by_cases c5 : 0 ≤ x5_1
     ·rw [if_pos c5] at H
      have c5b0 : decide (0 ≤ x5_1) = true := decide_eq_true c5
      clear c5
      by_cases c6 : x5_1 < (l1.length : Int)
      ·rw [if_pos c6] at H
       have c6b0 : decide (x5_1 < (l1.length : Int)) = true := decide_eq_true c6
       clear c6
       replace H := Option.bind_eq_some_iff.mp H
       obtain ⟨t364, A70, H⟩ := H
       replace H : (if t364 = true then (laws_eqInt64SS.l0 k1 l0 l1 (wrap64 (x5_1 + 1))) else (some false)) = some r := H
       have A7 := Aside0.mk A70
       clear A70
       by_cases c8 : t364 = true
       ·subst c8
        have H1 : (laws_eqInt64SS.l0 k1 l0 l1 (wrap64 (x5_1 + 1))) = some r := by rw [if_pos rfl] at H; exact H
        clear H
        have H := H1
        clear H1
        have H' := Aside0.mk H
        clear H
        have p362 : 0 ≤ (x5_1 : Int) := of_decide_eq_true (by first | (with_reducible assumption) | assumption)
        have q362 : x5_1 < (l0.length : Int) := of_decide_eq_true (by first | (with_reducible assumption) | assumption)
        obtain ⟨ad362, A362_0, c362_0, e362, hx362_0, hl362_0, hi362_0⟩ := at_L1 HR0.out x5_1 p362 q362
        cases e362
        have HR362_0 := am hi362_0
        have HC362_0 := am hl362_0
        clear hi362_0 hl362_0
        replace p362 := eq_true p362
        replace q362 := eq_true q362
        have p363 : 0 ≤ (x5_1 : Int) := of_decide_eq_true (by first | (with_reducible assumption) | assumption)
        have q363 : x5_1 < (l1.length : Int) := of_decide_eq_true (by first | (with_reducible assumption) | assumption)
        obtain ⟨ad363, A363_0, c363_0, e363, hx363_0, hl363_0, hi363_0⟩ := at_L1 HR1.out x5_1 p363 q363
        cases e363
        have HR363_0 := am hi363_0
        have HC363_0 := am hl363_0
        clear hi363_0 hl363_0
        replace p363 := eq_true p363
        replace q363 := eq_true q363
        go_wp2_with (first | (go_at_call 35; (with_reducible refine (laws_eqInt64S.calls k1 _ _ (rd_L1 l0 x5_1) _ _ (rd_L1 l1 x5_1) true _ ?side1 ?side2 ?side3 ?side4 A7.out).mono ?_); (case side1 => repeat (first | exact HR362_0.out | (with_reducible refine Kd.C_alloc ?_ _) | (with_reducible refine Kd.C_drewN ?_ _) | (with_reducible refine Kd.C_drew ?_))); (case side2 => exact HC362_0.out); (case side3 => repeat (first | exact HR363_0.out | (with_reducible refine Kd.C_alloc ?_ _) | (with_reducible refine Kd.C_drewN ?_ _) | (with_reducible refine Kd.C_drew ?_))); (case side4 => exact HC363_0.out); rintro e w' ⟨rfl, ⟨nd, rfl⟩⟩; (try first | exact ⟨rfl, _, World.drewN_drewN _ _ _⟩ | exact ⟨rfl, _, Eq.trans (World.drewN_drewN _ _ _) (congrArg (World.drewN _) (Nat.add_assoc _ _ _))⟩)))
        repeat (go_quiet (first | (go_at_call 35; (with_reducible refine (laws_eqInt64S.calls k1 _ _ (rd_L1 l0 x5_1) _ _ (rd_L1 l1 x5_1) true _ ?side1 ?side2 ?side3 ?side4 A7.out).mono ?_); (case side1 => repeat (first | exact HR362_0.out | (with_reducible refine Kd.C_alloc ?_ _) | (with_reducible refine Kd.C_drewN ?_ _) | (with_reducible refine Kd.C_drew ?_))); (case side2 => exact HC362_0.out); (case side3 => repeat (first | exact HR363_0.out | (with_reducible refine Kd.C_alloc ?_ _) | (with_reducible refine Kd.C_drewN ?_ _) | (with_reducible refine Kd.C_drew ?_))); (case side4 => exact HC363_0.out); rintro e w' ⟨rfl, ⟨nd, rfl⟩⟩; (try first | exact ⟨rfl, _, World.drewN_drewN _ _ _⟩ | exact ⟨rfl, _, Eq.trans (World.drewN_drewN _ _ _) (congrArg (World.drewN _) (Nat.add_assoc _ _ _))⟩))); try go_wp2_with (first | (go_at_call 35; (with_reducible refine (laws_eqInt64S.calls k1 _ _ (rd_L1 l0 x5_1) _ _ (rd_L1 l1 x5_1) true _ ?side1 ?side2 ?side3 ?side4 A7.out).mono ?_); (case side1 => repeat (first | exact HR362_0.out | (with_reducible refine Kd.C_alloc ?_ _) | (with_reducible refine Kd.C_drewN ?_ _) | (with_reducible refine Kd.C_drew ?_))); (case side2 => exact HC362_0.out); (case side3 => repeat (first | exact HR363_0.out | (with_reducible refine Kd.C_alloc ?_ _) | (with_reducible refine Kd.C_drewN ?_ _) | (with_reducible refine Kd.C_drew ?_))); (case side4 => exact HC363_0.out); rintro e w' ⟨rfl, ⟨nd, rfl⟩⟩; (try first | exact ⟨rfl, _, World.drewN_drewN _ _ _⟩ | exact ⟨rfl, _, Eq.trans (World.drewN_drewN _ _ _) (congrArg (World.drewN _) (Nat.add_assoc _ _ _))⟩))))
        go_roundg k1
        case measure => have := HK1.out; omega
        case rel => exact ⟨(wrap64 (x5_1 + 1)), (by first | rfl | (simp; done) | (simp [*]; done)), H', ⟨by have := HK1.out; omega⟩, by repeat (first | exact Drawn0.refl _ | apply Drawn0.step)⟩
       ·replace c8 := Bool.eq_false_iff.mpr c8
        subst c8
        have H1 : (some false) = some r := by rw [if_neg (show ¬ (false = true) by decide)] at H; exact H
        clear H
        have H := H1
        clear H1
        obtain rfl := Option.some.inj H
        have p362 : 0 ≤ (x5_1 : Int) := of_decide_eq_true (by first | (with_reducible assumption) | assumption)
        have q362 : x5_1 < (l0.length : Int) := of_decide_eq_true (by first | (with_reducible assumption) | assumption)
        obtain ⟨ad362, A362_0, c362_0, e362, hx362_0, hl362_0, hi362_0⟩ := at_L1 HR0.out x5_1 p362 q362
        cases e362
        have HR362_0 := am hi362_0
        have HC362_0 := am hl362_0
        clear hi362_0 hl362_0
        replace p362 := eq_true p362
        replace q362 := eq_true q362
        have p363 : 0 ≤ (x5_1 : Int) := of_decide_eq_true (by first | (with_reducible assumption) | assumption)
        have q363 : x5_1 < (l1.length : Int) := of_decide_eq_true (by first | (with_reducible assumption) | assumption)
        obtain ⟨ad363, A363_0, c363_0, e363, hx363_0, hl363_0, hi363_0⟩ := at_L1 HR1.out x5_1 p363 q363
        cases e363
        have HR363_0 := am hi363_0
        have HC363_0 := am hl363_0
        clear hi363_0 hl363_0
        replace p363 := eq_true p363
        replace q363 := eq_true q363
        go_wp2_with (first | (go_at_call 35; (with_reducible refine (laws_eqInt64S.calls k1 _ _ (rd_L1 l0 x5_1) _ _ (rd_L1 l1 x5_1) false _ ?side1 ?side2 ?side3 ?side4 A7.out).mono ?_); (case side1 => repeat (first | exact HR362_0.out | (with_reducible refine Kd.C_alloc ?_ _) | (with_reducible refine Kd.C_drewN ?_ _) | (with_reducible refine Kd.C_drew ?_))); (case side2 => exact HC362_0.out); (case side3 => repeat (first | exact HR363_0.out | (with_reducible refine Kd.C_alloc ?_ _) | (with_reducible refine Kd.C_drewN ?_ _) | (with_reducible refine Kd.C_drew ?_))); (case side4 => exact HC363_0.out); rintro e w' ⟨rfl, ⟨nd, rfl⟩⟩; (try first | exact ⟨rfl, _, World.drewN_drewN _ _ _⟩ | exact ⟨rfl, _, Eq.trans (World.drewN_drewN _ _ _) (congrArg (World.drewN _) (Nat.add_assoc _ _ _))⟩)))
        repeat (go_quiet (first | (go_at_call 35; (with_reducible refine (laws_eqInt64S.calls k1 _ _ (rd_L1 l0 x5_1) _ _ (rd_L1 l1 x5_1) false _ ?side1 ?side2 ?side3 ?side4 A7.out).mono ?_); (case side1 => repeat (first | exact HR362_0.out | (with_reducible refine Kd.C_alloc ?_ _) | (with_reducible refine Kd.C_drewN ?_ _) | (with_reducible refine Kd.C_drew ?_))); (case side2 => exact HC362_0.out); (case side3 => repeat (first | exact HR363_0.out | (with_reducible refine Kd.C_alloc ?_ _) | (with_reducible refine Kd.C_drewN ?_ _) | (with_reducible refine Kd.C_drew ?_))); (case side4 => exact HC363_0.out); rintro e w' ⟨rfl, ⟨nd, rfl⟩⟩; (try first | exact ⟨rfl, _, World.drewN_drewN _ _ _⟩ | exact ⟨rfl, _, Eq.trans (World.drewN_drewN _ _ _) (congrArg (World.drewN _) (Nat.add_assoc _ _ _))⟩))); try go_wp2_with (first | (go_at_call 35; (with_reducible refine (laws_eqInt64S.calls k1 _ _ (rd_L1 l0 x5_1) _ _ (rd_L1 l1 x5_1) false _ ?side1 ?side2 ?side3 ?side4 A7.out).mono ?_); (case side1 => repeat (first | exact HR362_0.out | (with_reducible refine Kd.C_alloc ?_ _) | (with_reducible refine Kd.C_drewN ?_ _) | (with_reducible refine Kd.C_drew ?_))); (case side2 => exact HC362_0.out); (case side3 => repeat (first | exact HR363_0.out | (with_reducible refine Kd.C_alloc ?_ _) | (with_reducible refine Kd.C_drewN ?_ _) | (with_reducible refine Kd.C_drew ?_))); (case side4 => exact HC363_0.out); rintro e w' ⟨rfl, ⟨nd, rfl⟩⟩; (try first | exact ⟨rfl, _, World.drewN_drewN _ _ _⟩ | exact ⟨rfl, _, Eq.trans (World.drewN_drewN _ _ _) (congrArg (World.drewN _) (Nat.add_assoc _ _ _))⟩))))
        go_ret
        exact ⟨by first | rfl | (simp; done) | (simp [*]; done), by repeat (first | exact Drawn0.refl _ | apply Drawn0.step)⟩
      ·rw [if_neg c6] at H
       exact absurd H (by simp)
     ·rw [if_neg c5] at H
      exact absurd H (by simp)
    ·rw [if_neg c4] at H
     have c4b0 : decide (x5_1 < (l0.length : Int)) = false := decide_eq_false c4
     clear c4
     obtain rfl := Option.some.inj H
     go_wp2
     repeat (go_quiet (fail); try go_wp2)
     go_ret
     exact ⟨by first | rfl | (simp; done) | (simp [*]; done), by repeat (first | exact Drawn0.refl _ | apply Drawn0.step)⟩
 ·rw [if_neg c3] at H
  have c3b0 : ((l0.length : Int) == (l1.length : Int)) = false := beq_eq_false_iff_ne.mpr c3
  have c3b1 : ((l0.length : Int) != (l1.length : Int)) = true := bne_iff_ne.mpr c3
  have c3b2 : (l0.length == l1.length) = false := by first | simpa using c3 | (simp at c3 ⊢; omega)
  obtain rfl := Option.some.inj H
  go_enter Try.func12, Try.ntmps12
  go_wp2
  repeat (go_quiet (fail); try go_wp2)
  go_ret
  exact ⟨by first | rfl | (simp; done) | (simp [*]; done), by repeat (first | exact Drawn0.refl _ | apply Drawn0.step)⟩

end Go.Proofs.Ytabinbmcfeknjaa.PFnExactUndoRun
