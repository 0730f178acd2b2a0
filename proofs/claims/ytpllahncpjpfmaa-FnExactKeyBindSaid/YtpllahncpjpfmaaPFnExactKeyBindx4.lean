-- Written by xprint.py (this claim's own program, over the kit's printer); Lean checks it.
import Derived.Test.YtpllahncpjpfmaaPFnExactKeyBindx0
import Derived.Test.YtpllahncpjpfmaaPFnExactKeyBindx2
import Derived.Test.YtpllahncpjpfmaaPFnExactKeyBindx3
namespace Go.Proofs.Ytpllahncpjpfmaa.PFnExactKeyBind
open Go.RowKit Go.Proofs.YtpllahncpjpfmaaW.PrintWords Go.Proofs.YtpllahncpjpfmaaW.PrintLast Go.Proofs.YtpllahncpjpfmaaW.PrintMore
attribute [local go_sem] max2_int min2_int max_two min_two max_three min_three max_four min_four   -- for this text's walks alone
set_option linter.unusedVariables false
set_option linter.unusedSimpArgs false   -- squeezed

/-! ### spec_KeysRight: function 16 -/
@[reducible] def b16_0 : Array Bool := (br true [0, 40]).toArray
@[reducible] def b16_1 : Array Bool := (br true [1, 39]).toArray
@[reducible] def b16_2 : Array Bool := (br true [2, 38]).toArray
@[reducible] def b16_3 : Array Bool := (br true [3, 37]).toArray
@[reducible] def b16_4 : Array Bool := (br true [4, 36]).toArray
@[reducible] def b16_5 : Array Bool := (br true [5, 35]).toArray
@[reducible] def b16_6 : Array Bool := (br true [6, 34]).toArray
@[reducible] def b16_7 : Array Bool := (br true [7, 33]).toArray
@[reducible] def b16_8 : Array Bool := (br true [8, 32]).toArray
@[reducible] def b16_9 : Array Bool := (br true [9, 31]).toArray
@[reducible] def b16_10 : Array Bool := (br true [10, 30]).toArray
@[reducible] def b16_11 : Array Bool := (br true [11, 29]).toArray
@[reducible] def b16_12 : Array Bool := (br true [12, 28]).toArray
@[reducible] def b16_13 : Array Bool := (br true [13, 27]).toArray
@[reducible] def b16_14 : Array Bool := (br true [14, 26]).toArray
@[reducible] def b16_15 : Array Bool := (br true [15, 25]).toArray
@[reducible] def b16_16 : Array Bool := (br true [16, 24]).toArray
@[reducible] def b16_17 : Array Bool := (br true [17, 23]).toArray
@[reducible] def b16_18 : Array Bool := (br true [18, 22]).toArray
@[reducible] def b16_19 : Array Bool := (br true [19, 21]).toArray
@[reducible] def b16_20 : Array Bool := (br true [20, 20]).toArray
@[reducible] def b16_21 : Array Bool := (br true [21, 19]).toArray
@[reducible] def b16_22 : Array Bool := (br true [22, 18]).toArray
@[reducible] def b16_23 : Array Bool := (br true [23, 17]).toArray
@[reducible] def b16_24 : Array Bool := (br true [24, 16]).toArray
@[reducible] def b16_25 : Array Bool := (br true [25, 15]).toArray
@[reducible] def b16_26 : Array Bool := (br true [26, 14]).toArray
@[reducible] def b16_27 : Array Bool := (br true [27, 13]).toArray
@[reducible] def b16_28 : Array Bool := (br true [28, 12]).toArray
@[reducible] def b16_29 : Array Bool := (br true [29, 11]).toArray
@[reducible] def b16_30 : Array Bool := (br true [30, 10]).toArray
@[reducible] def b16_31 : Array Bool := (br true [31, 9]).toArray
@[reducible] def b16_32 : Array Bool := (br true [32, 8]).toArray
@[reducible] def b16_33 : Array Bool := (br true [33, 7]).toArray
@[reducible] def b16_34 : Array Bool := (br true [34, 6]).toArray
@[reducible] def b16_35 : Array Bool := (br true [35, 5]).toArray
@[reducible] def b16_36 : Array Bool := (br true [36, 4]).toArray
@[reducible] def b16_37 : Array Bool := (br true [37, 3]).toArray
@[reducible] def b16_38 : Array Bool := (br true [38, 2]).toArray
@[reducible] def b16_39 : Array Bool := (br true [39, 1]).toArray
@[reducible] def b16_40 : Array Bool := (br true [40]).toArray
def spec_KeysRight.l0 : Nat → List (S34) → Int → Option (Bool)
 | 0, _, _ => none
 | k + 1, x0, x3 => if x3 < (x0.length : Int) then (if 0 ≤ x3 then (if ((rd_T34 x0 x3).f0) < 1 then (some false) else (if ((rd_T34 x0 x3).f0) > 9 then (some false) else (if (((rd_T34 x0 x3).f1).size : Int) < 1 then (some false) else (if (((rd_T34 x0 x3).f1).size : Int) > 6 then (some false) else ((spec_l07Name.f k ((rd_T34 x0 x3).f2)).bind fun t137 => (if t137 = true then (if x3 > 0 then (if 0 ≤ (wrap64 (x3 - 1)) then (if (wrap64 (x3 - 1)) < (x0.length : Int) then ((spec_l07Before.f ((rd_T34 x0 (wrap64 (x3 - 1))).f0) ((rd_T34 x0 (wrap64 (x3 - 1))).f1) ((rd_T34 x0 (wrap64 (x3 - 1))).f2) ((rd_T34 x0 x3).f0) ((rd_T34 x0 x3).f1) ((rd_T34 x0 x3).f2)).bind fun t139 => (if t139 = true then (spec_KeysRight.l0 k x0 (wrap64 (x3 + 1))) else (some false))) else (none)) else (none)) else (spec_KeysRight.l0 k x0 (wrap64 (x3 + 1)))) else (some false))))))) else (none)) else (some true)
def spec_KeysRight.f (k : Nat) (l0 : List (S34)) : Option (Bool) := if (l0.length : Int) > 60 then (some false) else (spec_KeysRight.l0 k l0 0)
theorem spec_KeysRight.mono_l : ∀ k, (∀ y0 y1, LeO (spec_KeysRight.l0 k y0 y1) (spec_KeysRight.l0 (k + 1) y0 y1))
 | 0 => fun _ _ r h => by simp [spec_KeysRight.l0] at h
 | k + 1 => by
  have ih0 := spec_KeysRight.mono_l k
  ·intro y0 y1
   unfold spec_KeysRight.l0
   repeat' first
   | (with_reducible exact ih0 _ _)
   | (with_reducible exact spec_l07Name.mono _ _)
   | (with_reducible exact LeO.refl _)
   | (with_reducible exact LeO.none _)
   | (with_reducible refine LeO.ite ?_ ?_)
   | (with_reducible refine LeO.bind ?_ (fun _ => ?_))
   | exact ih0 _ _
   | exact spec_l07Name.mono _ _
   | refine LeO.bind ?_ (fun _ => ?_)
theorem spec_KeysRight.mono : ∀ a0 k, LeO (spec_KeysRight.f k a0) (spec_KeysRight.f (k + 1) a0) := by
 intro a0 k
 have ih0 := spec_KeysRight.mono_l k
 unfold spec_KeysRight.f
 repeat' first
   | (with_reducible exact ih0 _ _)
   | (with_reducible exact spec_l07Name.mono _ _)
   | (with_reducible exact LeO.refl _)
   | (with_reducible exact LeO.none _)
   | (with_reducible refine LeO.ite ?_ ?_)
   | (with_reducible refine LeO.bind ?_ (fun _ => ?_))
   | exact ih0 _ _
   | exact spec_l07Name.mono _ _
   | refine LeO.bind ?_ (fun _ => ?_)
def spec_KeysRight.T7 : Bool × List (List Nat × List Nat) := (true, [([], []), ([0], [0]), ([1], [1]), ([2], [2]), ([3], [3]), ([4, 3], [3, 4]), ([5, 3], [3, 5]), ([3, 6], [3, 6]), ([7, 3], [7]), ([8], [8]), ([9, 8], [8, 9]), ([10, 8], [8, 10]), ([11, 8], [8, 11]), ([8, 12], [8, 12]), ([13, 8], [13]), ([14], [14]), ([15, 14], [14, 15]), ([16, 14], [14, 16]), ([17, 14], [14, 17]), ([14, 18], [14, 18]), ([19, 14], [19]), ([20], [20]), ([21, 20], [20, 21]), ([22, 20, 20], [20, 22]), ([23, 20], [20, 23]), ([20, 24], [20, 24]), ([25, 23], [25]), ([26], [26]), ([27, 26], [26, 27]), ([28, 26, 26], [26, 28]), ([29], [29]), ([29], [29]), ([31, 29], [29, 31]), ([30, 32, 29], [29, 30, 32]), ([33, 29], [29, 33]), ([29], [29]), ([34, 35, 29, 29], [29, 34, 35]), ([36, 29], [29, 36]), ([29, 37, 26], [26, 29, 37]), ([26, 38], [26, 38])])
def spec_KeysRight.B7 : List Nat := [0, 1, 3, 7, 15, 31, 63, 127, 255, 511, 1023, 2047, 4095, 8191, 16383, 32767, 65535, 131071, 262143, 524287, 1048575, 2097151, 4194303, 8388607, 16777215, 33554431, 67108863, 134217727, 268435455, 536870911, 1073741823, 1073741823, 3221225471, 8589934591, 17179869183, 1073741823, 68719476735, 137438953471, 274877906943, 549755813887]
theorem spec_KeysRight.tab7 : rtab .any (opsOf Try.f16 7) = spec_KeysRight.T7 := by kernel_rfl
theorem spec_KeysRight.bits7 : waitsOk spec_KeysRight.T7.2 spec_KeysRight.B7 = true := by kernel_rfl
set_option maxHeartbeats 8000000 in
set_option maxRecDepth 100000 in
theorem spec_KeysRight.calls (k : Nat) (A0 : Option Addr) (c0 : Nat) (l0 : List (S34)) (r : Bool) (w : World) (hr0 : Kd.C k34 w A0 l0.length l0) (hc0 : l0.length ≤ c0) (h : spec_KeysRight.f k l0 = some r) :
  Calls Try.prog 16 #[.slice A0 l0.length c0] w fun e w' => e = .returned (.bool r) ∧ Below w.heap.size w w' := by
 have hu34 := Try.underlying34
 have HR0 := am hr0
 have HC0 := am hc0
 clear hr0 hc0
 have HB := am (Below.refl w.heap.size w)
 have H : (if (l0.length : Int) > 60 then (some false) else (spec_KeysRight.l0 k l0 0)) = some r := h
 clear h
 by_cases c2 : (l0.length : Int) > 60
 ·rw [if_pos c2] at H
  have c2b0 : decide (60 < (l0.length : Int)) = true := decide_eq_true c2
  have c2b1 : decide (60 < l0.length) = true := decide_eq_true (by omega)
  clear c2
  obtain rfl := Option.some.inj H
  go_enter Try.func16, Try.ntmps16
  go_wp2
  go_ret
  exact ⟨by first | rfl | (simp [errW_none, errW_some] <;> rfl) | (simp [*, errW_none, errW_some] <;> rfl), by repeat (first | (with_reducible first | exact HB.out | apply below_alloc | apply pw_below_drewN | apply below_drew1) | exact HB.out)⟩
 ·rw [if_neg c2] at H
  have c2b0 : decide (60 < (l0.length : Int)) = false := decide_eq_false c2
  have c2b1 : decide (60 < l0.length) = false := decide_eq_false (by omega)
  clear c2
  have H' := Aside0.mk H
  clear H
  go_enter Try.func16, Try.ntmps16
  go_wp2
  go_loopg [3] k (fun kq v3 w' => ∃ (x3_1 : Int), v3 = .int .i64 x3_1 ∧ Aside0 (spec_KeysRight.l0 kq l0 x3_1 = some r) ∧ Aside0 (kq ≤ k) ∧ Aside0 (Below w.heap.size w w'))
  case atStart => exact ⟨(0), (by first | rfl | (simp; done) | (simp [*]; done)), H', ⟨Nat.le_refl _⟩, ⟨by repeat (first | (with_reducible first | exact HB.out | apply below_alloc | apply pw_below_drewN | apply below_drew1) | exact HB.out)⟩⟩
  case round =>
   clear H'
   try clear c1
   try clear c2
   try clear c2b0
   try clear c2b1
   try clear p2
   obtain ⟨x3_1, rfl, HA, HK1, HB⟩ := hrel
   cases gk with
   | zero => exact absurd HA.out (by simp [spec_KeysRight.l0])
   | succ k1 =>
    have H := HA.out
    clear HA
    simp only [spec_KeysRight.l0] at H
    by_cases c3 : x3_1 < (l0.length : Int)
    ·rw [if_pos c3] at H
     have c3b0 : decide (x3_1 < (l0.length : Int)) = true := decide_eq_true c3
     clear c3
     by_cases c4 : 0 ≤ x3_1
     ·rw [if_pos c4] at H
      have c4b0 : decide (0 ≤ x3_1) = true := decide_eq_true c4
      clear c4
      by_cases c5 : ((rd_T34 l0 x3_1).f0) < 1
      ·rw [if_pos c5] at H
       have c5b0 : decide (((rd_T34 l0 x3_1).f0) < 1) = true := decide_eq_true c5
       clear c5
       obtain rfl := Option.some.inj H
       have p135 : 0 ≤ (x3_1 : Int) := of_decide_eq_true (by first | (with_reducible assumption) | assumption)
       have q135 : x3_1 < (l0.length : Int) := of_decide_eq_true (by first | (with_reducible assumption) | assumption)
       obtain ⟨ad135, e135, hx135_0, hx135_1, hx135_2⟩ := at_T34 HR0.out x3_1 p135 q135
       cases e135
       replace hx135_0 := (HB.out.cell (World.block_lt_of_cell? w _ hx135_0)).trans hx135_0
       replace hx135_1 := (HB.out.cell (World.block_lt_of_cell? w _ hx135_1)).trans hx135_1
       replace hx135_2 := (HB.out.cell (World.block_lt_of_cell? w _ hx135_2)).trans hx135_2
       replace p135 := eq_true p135
       replace q135 := eq_true q135
       try go_wp2_with (first | ((with_reducible refine gate_dst (N := 4) rfl ?_); (try (refine gate_guard (by rfl) ?_; dsimp only)); refine box_event ?hg (N := 4) ?hd (cs := #[.int .i64 0, .string (⟨#[]⟩ : ByteArray), .string (⟨#[]⟩ : ByteArray)]) (t := 34) ?hr ?_; (case hd => rfl); (case hg => rfl); (case hr => first | (go_simp; done) | (go_simp; rfl)); intro gb136 hg w6 hbox hb; have BK136 := am (hbox); have GW136 := am ((by rw [hg]; exact (below_size (bl HB.out)) : w.heap.size ≤ gb136)); have GE136 := GW136; replace HB := am (below_step (bl HB.out) hb); clear hb hbox hg; have hcz7_0 : w6.cell? ⟨gb136, 0, none⟩ = some (.int .i64 0) := bc BK136.out 0; have hcz7_1 : w6.cell? ⟨gb136, 1, none⟩ = some (.string (⟨#[]⟩ : ByteArray)) := bc BK136.out 1; have hcz7_2 : w6.cell? ⟨gb136, 2, none⟩ = some (.string (⟨#[]⟩ : ByteArray)) := bc BK136.out 2; have hfz7_0 := blk_frozen BK136.out 0; have hfz7_1 := blk_frozen BK136.out 1; have hfz7_2 := blk_frozen BK136.out 2))
       have n0_ : Aside0 ((((w6.setCell ⟨gb136, 0, none⟩ (.int .i64 ((rd_T34 l0 x3_1).f0))).setCell ⟨gb136, 1, none⟩ (.string ((rd_T34 l0 x3_1).f1))).setCell ⟨gb136, 2, none⟩ (.string ((rd_T34 l0 x3_1).f2))).heap[gb136]? = some (.cells #[.int .i64 ((rd_T34 l0 x3_1).f0), .string ((rd_T34 l0 x3_1).f1), .string ((rd_T34 l0 x3_1).f2)] 34 (0, 0))) := ⟨by refine pk ?_; refine blk_put (cs := #[.int .i64 ((rd_T34 l0 x3_1).f0), .string ((rd_T34 l0 x3_1).f1), .string (⟨#[]⟩ : ByteArray)]) ?_ 2 _ rfl; refine pk ?_; refine blk_put (cs := #[.int .i64 ((rd_T34 l0 x3_1).f0), .string (⟨#[]⟩ : ByteArray), .string (⟨#[]⟩ : ByteArray)]) ?_ 1 _ rfl; refine pk ?_; refine blk_put (cs := #[.int .i64 0, .string (⟨#[]⟩ : ByteArray), .string (⟨#[]⟩ : ByteArray)]) ?_ 0 _ rfl; refine pk ?_; exact BK136.out⟩
       have n1_ : Aside0 (Below w.heap.size w (((w6.setCell ⟨gb136, 0, none⟩ (.int .i64 ((rd_T34 l0 x3_1).f0))).setCell ⟨gb136, 1, none⟩ (.string ((rd_T34 l0 x3_1).f1))).setCell ⟨gb136, 2, none⟩ (.string ((rd_T34 l0 x3_1).f2)))) := ⟨by repeat (first | (with_reducible first | exact HB.out | apply below_alloc | apply pw_below_drewN | apply below_drew1 | refine below_set ?_ GE136.out) | exact HB.out)⟩
       (try clear BK136)
       (try clear HB)
       generalize (((w6.setCell ⟨gb136, 0, none⟩ (.int .i64 ((rd_T34 l0 x3_1).f0))).setCell ⟨gb136, 1, none⟩ (.string ((rd_T34 l0 x3_1).f1))).setCell ⟨gb136, 2, none⟩ (.string ((rd_T34 l0 x3_1).f2))) = w8 at n0_ n1_ ⊢
       have BK136 := n0_
       have HB := n1_
       clear n0_ n1_
       replace BK136 := am (blk_drew BK136.out)
       replace HB := am (below_drew1 HB.out)
       refine start_ (n := 40) (S := fun w' => w'.cell? ⟨gb136, 0, none⟩ = some (.int .i64 ((rd_T34 l0 x3_1).f0)) ∧ w'.cell? ⟨gb136, 1, none⟩ = some (.string ((rd_T34 l0 x3_1).f1)) ∧ w'.cell? ⟨gb136, 2, none⟩ = some (.string ((rd_T34 l0 x3_1).f2))) (ds := []) b16_0 (by kernel_rfl) rfl rfl ⟨bc BK136.out 0, bc BK136.out 1, bc BK136.out 2⟩ (fun hHeld => ?_); refine with_tabW spec_KeysRight.tab7 spec_KeysRight.bits7 (fun HT_ HW_ => ?_)
       generalize w8.drew = w9 at BK136 HB hHeld ⊢
       refine pu_ 0 (some 18) ?_ b16_1 rfl rfl HT_.out (by kernel_rfl) (fun _ _ _ h => h) (Or.inl ⟨by rfl, ?_⟩) ?_ ?_ ?_; rotate_left
       ·intro w'; go_simp; with_reducible rfl
       rotate_left
       ·simp only [Act.put, sa_, s0_, ss_, i64_w, i32_w]; rfl
       refine tk_ 1 (some 19) ?_ b16_2 rfl rfl HT_.out HW_.out (by kernel_rfl) (fun _ _ _ h => h) (Or.inl ⟨by rfl, ?_⟩) hHeld ?_ ?_ ?_; rotate_left
       ·rintro w' ⟨s0, s1, s2⟩; go_simp; with_reducible rfl
       rotate_left
       ·simp only [Act.put, sa_, s0_, ss_, i64_w, i32_w]; rfl
       refine pu_ 2 (some 20) ?_ b16_3 rfl rfl HT_.out (by kernel_rfl) (fun _ _ _ h => h) (Or.inl ⟨by rfl, ?_⟩) ?_ ?_ ?_; rotate_left
       ·intro w'; go_simp; with_reducible rfl
       rotate_left
       ·simp only [Act.put, sa_, s0_, ss_, i64_w, i32_w]; rfl
       refine pu_ 3 (some 21) ?_ b16_4 rfl rfl HT_.out (by kernel_rfl) (fun _ _ _ h => h) (Or.inl ⟨by rfl, ?_⟩) ?_ ?_ ?_; rotate_left
       ·intro w'; go_simp; with_reducible rfl
       rotate_left
       ·simp only [Act.put, sa_, s0_, ss_, i64_w, i32_w]; rfl
       refine pu_ 4 (some 22) undef b16_5 rfl rfl HT_.out (by kernel_rfl) (fun _ _ _ h => h) (Or.inr ⟨by rfl, rfl⟩) ?_ ?_ ?_; rotate_left
       ·simp only [Act.put, sa_, s0_, ss_, i64_w, i32_w]; rfl
       refine pu_ 5 (some 23) undef b16_6 rfl rfl HT_.out (by kernel_rfl) (fun _ _ _ h => h) (Or.inr ⟨by rfl, rfl⟩) ?_ ?_ ?_; rotate_left
       ·simp only [Act.put, sa_, s0_, ss_, i64_w, i32_w]; rfl
       refine pu_ 6 (some 24) undef b16_7 rfl rfl HT_.out (by kernel_rfl) (fun _ _ _ h => h) (Or.inr ⟨by rfl, rfl⟩) ?_ ?_ ?_; rotate_left
       ·simp only [Act.put, sa_, s0_, ss_, i64_w, i32_w]; rfl
       refine pu_ 7 (some 25) ?_ b16_8 rfl rfl HT_.out (by kernel_rfl) (fun _ _ _ h => h) (Or.inl ⟨by rfl, ?_⟩) ?_ ?_ ?_; rotate_left
       ·intro w'; go_simp; with_reducible rfl
       rotate_left
       ·simp only [Act.put, sa_, s0_, ss_, i64_w, i32_w]; rfl
       refine pu_ 8 (some 26) ?_ b16_9 rfl rfl HT_.out (by kernel_rfl) (fun _ _ _ h => h) (Or.inl ⟨by rfl, ?_⟩) ?_ ?_ ?_; rotate_left
       ·intro w'; go_simp; with_reducible rfl
       rotate_left
       ·simp only [Act.put, sa_, s0_, ss_, i64_w, i32_w]; rfl
       refine pu_ 9 (some 27) undef b16_10 rfl rfl HT_.out (by kernel_rfl) (fun _ _ _ h => h) (Or.inr ⟨by rfl, rfl⟩) ?_ ?_ ?_; rotate_left
       ·simp only [Act.put, sa_, s0_, ss_, i64_w, i32_w]; rfl
       refine pu_ 10 (some 28) undef b16_11 rfl rfl HT_.out (by kernel_rfl) (fun _ _ _ h => h) (Or.inr ⟨by rfl, rfl⟩) ?_ ?_ ?_; rotate_left
       ·simp only [Act.put, sa_, s0_, ss_, i64_w, i32_w]; rfl
       refine pu_ 11 (some 29) undef b16_12 rfl rfl HT_.out (by kernel_rfl) (fun _ _ _ h => h) (Or.inr ⟨by rfl, rfl⟩) ?_ ?_ ?_; rotate_left
       ·simp only [Act.put, sa_, s0_, ss_, i64_w, i32_w]; rfl
       refine pu_ 12 (some 30) undef b16_13 rfl rfl HT_.out (by kernel_rfl) (fun _ _ _ h => h) (Or.inr ⟨by rfl, rfl⟩) ?_ ?_ ?_; rotate_left
       ·simp only [Act.put, sa_, s0_, ss_, i64_w, i32_w]; rfl
       refine pu_ 13 (some 31) ?_ b16_14 rfl rfl HT_.out (by kernel_rfl) (fun _ _ _ h => h) (Or.inl ⟨by rfl, ?_⟩) ?_ ?_ ?_; rotate_left
       ·intro w'; go_simp; with_reducible rfl
       rotate_left
       ·simp only [Act.put, sa_, s0_, ss_, i64_w, i32_w]; rfl
       refine pu_ 14 (some 32) ?_ b16_15 rfl rfl HT_.out (by kernel_rfl) (fun _ _ _ h => h) (Or.inl ⟨by rfl, ?_⟩) ?_ ?_ ?_; rotate_left
       ·intro w'; go_simp; with_reducible rfl
       rotate_left
       ·simp only [Act.put, sa_, s0_, ss_, i64_w, i32_w]; rfl
       refine pu_ 15 (some 33) undef b16_16 rfl rfl HT_.out (by kernel_rfl) (fun _ _ _ h => h) (Or.inr ⟨by rfl, rfl⟩) ?_ ?_ ?_; rotate_left
       ·simp only [Act.put, sa_, s0_, ss_, i64_w, i32_w]; rfl
       refine pu_ 16 (some 34) undef b16_17 rfl rfl HT_.out (by kernel_rfl) (fun _ _ _ h => h) (Or.inr ⟨by rfl, rfl⟩) ?_ ?_ ?_; rotate_left
       ·simp only [Act.put, sa_, s0_, ss_, i64_w, i32_w]; rfl
       refine pu_ 17 (some 35) undef b16_18 rfl rfl HT_.out (by kernel_rfl) (fun _ _ _ h => h) (Or.inr ⟨by rfl, rfl⟩) ?_ ?_ ?_; rotate_left
       ·simp only [Act.put, sa_, s0_, ss_, i64_w, i32_w]; rfl
       refine pu_ 18 (some 36) undef b16_19 rfl rfl HT_.out (by kernel_rfl) (fun _ _ _ h => h) (Or.inr ⟨by rfl, rfl⟩) ?_ ?_ ?_; rotate_left
       ·simp only [Act.put, sa_, s0_, ss_, i64_w, i32_w]; rfl
       refine pu_ 19 (some 37) ?_ b16_20 rfl rfl HT_.out (by kernel_rfl) (fun _ _ _ h => h) (Or.inl ⟨by rfl, ?_⟩) ?_ ?_ ?_; rotate_left
       ·intro w'; go_simp; with_reducible rfl
       rotate_left
       ·simp only [Act.put, sa_, s0_, ss_, i64_w, i32_w]; rfl
       refine pu_ 20 (some 38) ?_ b16_21 rfl rfl HT_.out (by kernel_rfl) (fun _ _ _ h => h) (Or.inl ⟨by rfl, ?_⟩) ?_ ?_ ?_; rotate_left
       ·intro w'; go_simp; with_reducible rfl
       rotate_left
       ·simp only [Act.put, sa_, s0_, ss_, i64_w, i32_w]; rfl
       refine pu_ 21 (some 39) undef b16_22 rfl rfl HT_.out (by kernel_rfl) (fun _ _ _ h => h) (Or.inr ⟨by rfl, rfl⟩) ?_ ?_ ?_; rotate_left
       ·simp only [Act.put, sa_, s0_, ss_, i64_w, i32_w]; rfl
       refine pu_ 22 (some 40) undef b16_23 rfl rfl HT_.out (by kernel_rfl) (fun _ _ _ h => h) (Or.inr ⟨by rfl, rfl⟩) ?_ ?_ ?_; rotate_left
       ·simp only [Act.put, sa_, s0_, ss_, i64_w, i32_w]; rfl
       refine pu_ 23 (some 41) undef b16_24 rfl rfl HT_.out (by kernel_rfl) (fun _ _ _ h => h) (Or.inr ⟨by rfl, rfl⟩) ?_ ?_ ?_; rotate_left
       ·simp only [Act.put, sa_, s0_, ss_, i64_w, i32_w]; rfl
       refine pu_ 24 (some 42) undef b16_25 rfl rfl HT_.out (by kernel_rfl) (fun _ _ _ h => h) (Or.inr ⟨by rfl, rfl⟩) ?_ ?_ ?_; rotate_left
       ·simp only [Act.put, sa_, s0_, ss_, i64_w, i32_w]; rfl
       refine pu_ 25 (some 43) ?_ b16_26 rfl rfl HT_.out (by kernel_rfl) (fun _ _ _ h => h) (Or.inl ⟨by rfl, ?_⟩) ?_ ?_ ?_; rotate_left
       ·intro w'; go_simp; with_reducible rfl
       rotate_left
       ·simp only [Act.put, sa_, s0_, ss_, i64_w, i32_w]; rfl
       refine pu_ 26 (some 44) ?_ b16_27 rfl rfl HT_.out (by kernel_rfl) (fun _ _ _ h => h) (Or.inl ⟨by rfl, ?_⟩) ?_ ?_ ?_; rotate_left
       ·intro w'; go_simp; with_reducible rfl
       rotate_left
       ·simp only [Act.put, sa_, s0_, ss_, i64_w, i32_w]; rfl
       refine pu_ 27 (some 45) undef b16_28 rfl rfl HT_.out (by kernel_rfl) (fun _ _ _ h => h) (Or.inr ⟨by rfl, rfl⟩) ?_ ?_ ?_; rotate_left
       ·simp only [Act.put, sa_, s0_, ss_, i64_w, i32_w]; rfl
       refine pu_ 28 (some 46) undef b16_29 rfl rfl HT_.out (by kernel_rfl) (fun _ _ _ h => h) (Or.inr ⟨by rfl, rfl⟩) ?_ ?_ ?_; rotate_left
       ·simp only [Act.put, sa_, s0_, ss_, i64_w, i32_w]; rfl
       refine pu_ 29 (some 47) undef b16_30 rfl rfl HT_.out (by kernel_rfl) (fun _ _ _ h => h) (Or.inr ⟨by rfl, rfl⟩) ?_ ?_ ?_; rotate_left
       ·simp only [Act.put, sa_, s0_, ss_, i64_w, i32_w]; rfl
       refine pu_ 30 (some 48) undef b16_31 rfl rfl HT_.out (by kernel_rfl) (fun _ _ _ h => h) (Or.inr ⟨by rfl, rfl⟩) ?_ ?_ ?_; rotate_left
       ·simp only [Act.put, sa_, s0_, ss_, i64_w, i32_w]; rfl
       refine pu_ 31 (some 49) undef b16_32 rfl rfl HT_.out (by kernel_rfl) (fun _ _ _ h => h) (Or.inr ⟨by rfl, rfl⟩) ?_ ?_ ?_; rotate_left
       ·simp only [Act.put, sa_, s0_, ss_, i64_w, i32_w]; rfl
       refine pu_ 32 (some 50) undef b16_33 rfl rfl HT_.out (by kernel_rfl) (fun _ _ _ h => h) (Or.inr ⟨by rfl, rfl⟩) ?_ ?_ ?_; rotate_left
       ·simp only [Act.put, sa_, s0_, ss_, i64_w, i32_w]; rfl
       refine pu_ 33 (some 51) undef b16_34 rfl rfl HT_.out (by kernel_rfl) (fun _ _ _ h => h) (Or.inr ⟨by rfl, rfl⟩) ?_ ?_ ?_; rotate_left
       ·simp only [Act.put, sa_, s0_, ss_, i64_w, i32_w]; rfl
       refine pu_ 34 (some 52) undef b16_35 rfl rfl HT_.out (by kernel_rfl) (fun _ _ _ h => h) (Or.inr ⟨by rfl, rfl⟩) ?_ ?_ ?_; rotate_left
       ·simp only [Act.put, sa_, s0_, ss_, i64_w, i32_w]; rfl
       refine pu_ 35 (some 53) undef b16_36 rfl rfl HT_.out (by kernel_rfl) (fun _ _ _ h => h) (Or.inr ⟨by rfl, rfl⟩) ?_ ?_ ?_; rotate_left
       ·simp only [Act.put, sa_, s0_, ss_, i64_w, i32_w]; rfl
       refine pu_ 36 (some 54) undef b16_37 rfl rfl HT_.out (by kernel_rfl) (fun _ _ _ h => h) (Or.inr ⟨by rfl, rfl⟩) ?_ ?_ ?_; rotate_left
       ·simp only [Act.put, sa_, s0_, ss_, i64_w, i32_w]; rfl
       refine pu_ 37 (some 55) undef b16_38 rfl rfl HT_.out (by kernel_rfl) (fun _ _ _ h => h) (Or.inr ⟨by rfl, rfl⟩) ?_ ?_ ?_; rotate_left
       ·simp only [Act.put, sa_, s0_, ss_, i64_w, i32_w]; rfl
       refine pu_ 38 (some 56) undef b16_39 rfl rfl HT_.out (by kernel_rfl) (fun _ _ _ h => h) (Or.inr ⟨by rfl, rfl⟩) ?_ ?_ ?_; rotate_left
       ·simp only [Act.put, sa_, s0_, ss_, i64_w, i32_w]; rfl
       refine pu_ 39 (some 57) ?_ b16_40 rfl rfl HT_.out (by kernel_rfl) (fun _ _ _ h => h) (Or.inl ⟨by rfl, ?_⟩) ?_ ?_ ?_; rotate_left
       ·intro w'; go_simp; with_reducible rfl
       rotate_left
       ·simp only [Act.put, sa_, s0_, ss_, i64_w, i32_w]; rfl
       refine done_ (done_of HT_.out (by kernel_rfl)) ?_
       try go_wp2
       go_ret
       exact ⟨by first | rfl | (simp [errW_none, errW_some] <;> rfl) | (simp [*, errW_none, errW_some] <;> rfl), by repeat (first | (with_reducible first | exact HB.out | apply below_alloc | apply pw_below_drewN | apply below_drew1 | refine below_set ?_ GE136.out) | exact HB.out)⟩
      ·rw [if_neg c5] at H
       have c5b0 : decide (((rd_T34 l0 x3_1).f0) < 1) = false := decide_eq_false c5
       clear c5
       by_cases c10 : ((rd_T34 l0 x3_1).f0) > 9
       ·rw [if_pos c10] at H
        have c10b0 : decide (9 < ((rd_T34 l0 x3_1).f0)) = true := decide_eq_true c10
        clear c10
        obtain rfl := Option.some.inj H
        have p135 : 0 ≤ (x3_1 : Int) := of_decide_eq_true (by first | (with_reducible assumption) | assumption)
        have q135 : x3_1 < (l0.length : Int) := of_decide_eq_true (by first | (with_reducible assumption) | assumption)
        obtain ⟨ad135, e135, hx135_0, hx135_1, hx135_2⟩ := at_T34 HR0.out x3_1 p135 q135
        cases e135
        replace hx135_0 := (HB.out.cell (World.block_lt_of_cell? w _ hx135_0)).trans hx135_0
        replace hx135_1 := (HB.out.cell (World.block_lt_of_cell? w _ hx135_1)).trans hx135_1
        replace hx135_2 := (HB.out.cell (World.block_lt_of_cell? w _ hx135_2)).trans hx135_2
        replace p135 := eq_true p135
        replace q135 := eq_true q135
        try go_wp2_with (first | ((with_reducible refine gate_dst (N := 4) rfl ?_); (try (refine gate_guard (by rfl) ?_; dsimp only)); refine box_event ?hg (N := 4) ?hd (cs := #[.int .i64 0, .string (⟨#[]⟩ : ByteArray), .string (⟨#[]⟩ : ByteArray)]) (t := 34) ?hr ?_; (case hd => rfl); (case hg => rfl); (case hr => first | (go_simp; done) | (go_simp; rfl)); intro gb136 hg w11 hbox hb; have BK136 := am (hbox); have GW136 := am ((by rw [hg]; exact (below_size (bl HB.out)) : w.heap.size ≤ gb136)); have GE136 := GW136; replace HB := am (below_step (bl HB.out) hb); clear hb hbox hg; have hcz12_0 : w11.cell? ⟨gb136, 0, none⟩ = some (.int .i64 0) := bc BK136.out 0; have hcz12_1 : w11.cell? ⟨gb136, 1, none⟩ = some (.string (⟨#[]⟩ : ByteArray)) := bc BK136.out 1; have hcz12_2 : w11.cell? ⟨gb136, 2, none⟩ = some (.string (⟨#[]⟩ : ByteArray)) := bc BK136.out 2; have hfz12_0 := blk_frozen BK136.out 0; have hfz12_1 := blk_frozen BK136.out 1; have hfz12_2 := blk_frozen BK136.out 2))
        have n0_ : Aside0 ((((w11.setCell ⟨gb136, 0, none⟩ (.int .i64 ((rd_T34 l0 x3_1).f0))).setCell ⟨gb136, 1, none⟩ (.string ((rd_T34 l0 x3_1).f1))).setCell ⟨gb136, 2, none⟩ (.string ((rd_T34 l0 x3_1).f2))).heap[gb136]? = some (.cells #[.int .i64 ((rd_T34 l0 x3_1).f0), .string ((rd_T34 l0 x3_1).f1), .string ((rd_T34 l0 x3_1).f2)] 34 (0, 0))) := ⟨by refine pk ?_; refine blk_put (cs := #[.int .i64 ((rd_T34 l0 x3_1).f0), .string ((rd_T34 l0 x3_1).f1), .string (⟨#[]⟩ : ByteArray)]) ?_ 2 _ rfl; refine pk ?_; refine blk_put (cs := #[.int .i64 ((rd_T34 l0 x3_1).f0), .string (⟨#[]⟩ : ByteArray), .string (⟨#[]⟩ : ByteArray)]) ?_ 1 _ rfl; refine pk ?_; refine blk_put (cs := #[.int .i64 0, .string (⟨#[]⟩ : ByteArray), .string (⟨#[]⟩ : ByteArray)]) ?_ 0 _ rfl; refine pk ?_; exact BK136.out⟩
        have n1_ : Aside0 (Below w.heap.size w (((w11.setCell ⟨gb136, 0, none⟩ (.int .i64 ((rd_T34 l0 x3_1).f0))).setCell ⟨gb136, 1, none⟩ (.string ((rd_T34 l0 x3_1).f1))).setCell ⟨gb136, 2, none⟩ (.string ((rd_T34 l0 x3_1).f2)))) := ⟨by repeat (first | (with_reducible first | exact HB.out | apply below_alloc | apply pw_below_drewN | apply below_drew1 | refine below_set ?_ GE136.out) | exact HB.out)⟩
        (try clear BK136)
        (try clear HB)
        generalize (((w11.setCell ⟨gb136, 0, none⟩ (.int .i64 ((rd_T34 l0 x3_1).f0))).setCell ⟨gb136, 1, none⟩ (.string ((rd_T34 l0 x3_1).f1))).setCell ⟨gb136, 2, none⟩ (.string ((rd_T34 l0 x3_1).f2))) = w13 at n0_ n1_ ⊢
        have BK136 := n0_
        have HB := n1_
        clear n0_ n1_
        replace BK136 := am (blk_drew BK136.out)
        replace HB := am (below_drew1 HB.out)
        refine start_ (n := 40) (S := fun w' => w'.cell? ⟨gb136, 0, none⟩ = some (.int .i64 ((rd_T34 l0 x3_1).f0)) ∧ w'.cell? ⟨gb136, 1, none⟩ = some (.string ((rd_T34 l0 x3_1).f1)) ∧ w'.cell? ⟨gb136, 2, none⟩ = some (.string ((rd_T34 l0 x3_1).f2))) (ds := []) b16_0 (by kernel_rfl) rfl rfl ⟨bc BK136.out 0, bc BK136.out 1, bc BK136.out 2⟩ (fun hHeld => ?_); refine with_tabW spec_KeysRight.tab7 spec_KeysRight.bits7 (fun HT_ HW_ => ?_)
        generalize w13.drew = w14 at BK136 HB hHeld ⊢
        refine pu_ 0 (some 18) ?_ b16_1 rfl rfl HT_.out (by kernel_rfl) (fun _ _ _ h => h) (Or.inl ⟨by rfl, ?_⟩) ?_ ?_ ?_; rotate_left
        ·intro w'; go_simp; with_reducible rfl
        rotate_left
        ·simp only [Act.put, sa_, s0_, ss_, i64_w, i32_w]; rfl
        refine tk_ 1 (some 19) ?_ b16_2 rfl rfl HT_.out HW_.out (by kernel_rfl) (fun _ _ _ h => h) (Or.inl ⟨by rfl, ?_⟩) hHeld ?_ ?_ ?_; rotate_left
        ·rintro w' ⟨s0, s1, s2⟩; go_simp; with_reducible rfl
        rotate_left
        ·simp only [Act.put, sa_, s0_, ss_, i64_w, i32_w]; rfl
        refine pu_ 2 (some 20) ?_ b16_3 rfl rfl HT_.out (by kernel_rfl) (fun _ _ _ h => h) (Or.inl ⟨by rfl, ?_⟩) ?_ ?_ ?_; rotate_left
        ·intro w'; go_simp; with_reducible rfl
        rotate_left
        ·simp only [Act.put, sa_, s0_, ss_, i64_w, i32_w]; rfl
        refine pu_ 3 (some 21) ?_ b16_4 rfl rfl HT_.out (by kernel_rfl) (fun _ _ _ h => h) (Or.inl ⟨by rfl, ?_⟩) ?_ ?_ ?_; rotate_left
        ·intro w'; go_simp; with_reducible rfl
        rotate_left
        ·simp only [Act.put, sa_, s0_, ss_, i64_w, i32_w]; rfl
        refine pu_ 4 (some 22) ?_ b16_5 rfl rfl HT_.out (by kernel_rfl) (fun _ _ _ h => h) (Or.inl ⟨by rfl, ?_⟩) ?_ ?_ ?_; rotate_left
        ·intro w'; go_simp; with_reducible rfl
        rotate_left
        ·simp only [Act.put, sa_, s0_, ss_, i64_w, i32_w]; rfl
        refine tk_ 5 (some 23) ?_ b16_6 rfl rfl HT_.out HW_.out (by kernel_rfl) (fun _ _ _ h => h) (Or.inl ⟨by rfl, ?_⟩) hHeld ?_ ?_ ?_; rotate_left
        ·rintro w' ⟨s0, s1, s2⟩; go_simp; with_reducible rfl
        rotate_left
        ·simp only [Act.put, sa_, s0_, ss_, i64_w, i32_w]; rfl
        refine pu_ 6 (some 24) ?_ b16_7 rfl rfl HT_.out (by kernel_rfl) (fun _ _ _ h => h) (Or.inl ⟨by rfl, ?_⟩) ?_ ?_ ?_; rotate_left
        ·intro w'; go_simp; with_reducible rfl
        rotate_left
        ·simp only [Act.put, sa_, s0_, ss_, i64_w, i32_w]; rfl
        refine pu_ 7 (some 25) ?_ b16_8 rfl rfl HT_.out (by kernel_rfl) (fun _ _ _ h => h) (Or.inl ⟨by rfl, ?_⟩) ?_ ?_ ?_; rotate_left
        ·intro w'; go_simp; with_reducible rfl
        rotate_left
        ·simp only [Act.put, sa_, s0_, ss_, i64_w, i32_w]; rfl
        refine pu_ 8 (some 26) ?_ b16_9 rfl rfl HT_.out (by kernel_rfl) (fun _ _ _ h => h) (Or.inl ⟨by rfl, ?_⟩) ?_ ?_ ?_; rotate_left
        ·intro w'; go_simp; with_reducible rfl
        rotate_left
        ·simp only [Act.put, sa_, s0_, ss_, i64_w, i32_w]; rfl
        refine pu_ 9 (some 27) undef b16_10 rfl rfl HT_.out (by kernel_rfl) (fun _ _ _ h => h) (Or.inr ⟨by rfl, rfl⟩) ?_ ?_ ?_; rotate_left
        ·simp only [Act.put, sa_, s0_, ss_, i64_w, i32_w]; rfl
        refine pu_ 10 (some 28) undef b16_11 rfl rfl HT_.out (by kernel_rfl) (fun _ _ _ h => h) (Or.inr ⟨by rfl, rfl⟩) ?_ ?_ ?_; rotate_left
        ·simp only [Act.put, sa_, s0_, ss_, i64_w, i32_w]; rfl
        refine pu_ 11 (some 29) undef b16_12 rfl rfl HT_.out (by kernel_rfl) (fun _ _ _ h => h) (Or.inr ⟨by rfl, rfl⟩) ?_ ?_ ?_; rotate_left
        ·simp only [Act.put, sa_, s0_, ss_, i64_w, i32_w]; rfl
        refine pu_ 12 (some 30) undef b16_13 rfl rfl HT_.out (by kernel_rfl) (fun _ _ _ h => h) (Or.inr ⟨by rfl, rfl⟩) ?_ ?_ ?_; rotate_left
        ·simp only [Act.put, sa_, s0_, ss_, i64_w, i32_w]; rfl
        refine pu_ 13 (some 31) ?_ b16_14 rfl rfl HT_.out (by kernel_rfl) (fun _ _ _ h => h) (Or.inl ⟨by rfl, ?_⟩) ?_ ?_ ?_; rotate_left
        ·intro w'; go_simp; with_reducible rfl
        rotate_left
        ·simp only [Act.put, sa_, s0_, ss_, i64_w, i32_w]; rfl
        refine pu_ 14 (some 32) ?_ b16_15 rfl rfl HT_.out (by kernel_rfl) (fun _ _ _ h => h) (Or.inl ⟨by rfl, ?_⟩) ?_ ?_ ?_; rotate_left
        ·intro w'; go_simp; with_reducible rfl
        rotate_left
        ·simp only [Act.put, sa_, s0_, ss_, i64_w, i32_w]; rfl
        refine pu_ 15 (some 33) undef b16_16 rfl rfl HT_.out (by kernel_rfl) (fun _ _ _ h => h) (Or.inr ⟨by rfl, rfl⟩) ?_ ?_ ?_; rotate_left
        ·simp only [Act.put, sa_, s0_, ss_, i64_w, i32_w]; rfl
        refine pu_ 16 (some 34) undef b16_17 rfl rfl HT_.out (by kernel_rfl) (fun _ _ _ h => h) (Or.inr ⟨by rfl, rfl⟩) ?_ ?_ ?_; rotate_left
        ·simp only [Act.put, sa_, s0_, ss_, i64_w, i32_w]; rfl
        refine pu_ 17 (some 35) undef b16_18 rfl rfl HT_.out (by kernel_rfl) (fun _ _ _ h => h) (Or.inr ⟨by rfl, rfl⟩) ?_ ?_ ?_; rotate_left
        ·simp only [Act.put, sa_, s0_, ss_, i64_w, i32_w]; rfl
        refine pu_ 18 (some 36) undef b16_19 rfl rfl HT_.out (by kernel_rfl) (fun _ _ _ h => h) (Or.inr ⟨by rfl, rfl⟩) ?_ ?_ ?_; rotate_left
        ·simp only [Act.put, sa_, s0_, ss_, i64_w, i32_w]; rfl
        refine pu_ 19 (some 37) ?_ b16_20 rfl rfl HT_.out (by kernel_rfl) (fun _ _ _ h => h) (Or.inl ⟨by rfl, ?_⟩) ?_ ?_ ?_; rotate_left
        ·intro w'; go_simp; with_reducible rfl
        rotate_left
        ·simp only [Act.put, sa_, s0_, ss_, i64_w, i32_w]; rfl
        refine pu_ 20 (some 38) ?_ b16_21 rfl rfl HT_.out (by kernel_rfl) (fun _ _ _ h => h) (Or.inl ⟨by rfl, ?_⟩) ?_ ?_ ?_; rotate_left
        ·intro w'; go_simp; with_reducible rfl
        rotate_left
        ·simp only [Act.put, sa_, s0_, ss_, i64_w, i32_w]; rfl
        refine pu_ 21 (some 39) undef b16_22 rfl rfl HT_.out (by kernel_rfl) (fun _ _ _ h => h) (Or.inr ⟨by rfl, rfl⟩) ?_ ?_ ?_; rotate_left
        ·simp only [Act.put, sa_, s0_, ss_, i64_w, i32_w]; rfl
        refine pu_ 22 (some 40) undef b16_23 rfl rfl HT_.out (by kernel_rfl) (fun _ _ _ h => h) (Or.inr ⟨by rfl, rfl⟩) ?_ ?_ ?_; rotate_left
        ·simp only [Act.put, sa_, s0_, ss_, i64_w, i32_w]; rfl
        refine pu_ 23 (some 41) undef b16_24 rfl rfl HT_.out (by kernel_rfl) (fun _ _ _ h => h) (Or.inr ⟨by rfl, rfl⟩) ?_ ?_ ?_; rotate_left
        ·simp only [Act.put, sa_, s0_, ss_, i64_w, i32_w]; rfl
        refine pu_ 24 (some 42) undef b16_25 rfl rfl HT_.out (by kernel_rfl) (fun _ _ _ h => h) (Or.inr ⟨by rfl, rfl⟩) ?_ ?_ ?_; rotate_left
        ·simp only [Act.put, sa_, s0_, ss_, i64_w, i32_w]; rfl
        refine pu_ 25 (some 43) ?_ b16_26 rfl rfl HT_.out (by kernel_rfl) (fun _ _ _ h => h) (Or.inl ⟨by rfl, ?_⟩) ?_ ?_ ?_; rotate_left
        ·intro w'; go_simp; with_reducible rfl
        rotate_left
        ·simp only [Act.put, sa_, s0_, ss_, i64_w, i32_w]; rfl
        refine pu_ 26 (some 44) ?_ b16_27 rfl rfl HT_.out (by kernel_rfl) (fun _ _ _ h => h) (Or.inl ⟨by rfl, ?_⟩) ?_ ?_ ?_; rotate_left
        ·intro w'; go_simp; with_reducible rfl
        rotate_left
        ·simp only [Act.put, sa_, s0_, ss_, i64_w, i32_w]; rfl
        refine pu_ 27 (some 45) undef b16_28 rfl rfl HT_.out (by kernel_rfl) (fun _ _ _ h => h) (Or.inr ⟨by rfl, rfl⟩) ?_ ?_ ?_; rotate_left
        ·simp only [Act.put, sa_, s0_, ss_, i64_w, i32_w]; rfl
        refine pu_ 28 (some 46) undef b16_29 rfl rfl HT_.out (by kernel_rfl) (fun _ _ _ h => h) (Or.inr ⟨by rfl, rfl⟩) ?_ ?_ ?_; rotate_left
        ·simp only [Act.put, sa_, s0_, ss_, i64_w, i32_w]; rfl
        refine pu_ 29 (some 47) undef b16_30 rfl rfl HT_.out (by kernel_rfl) (fun _ _ _ h => h) (Or.inr ⟨by rfl, rfl⟩) ?_ ?_ ?_; rotate_left
        ·simp only [Act.put, sa_, s0_, ss_, i64_w, i32_w]; rfl
        refine pu_ 30 (some 48) undef b16_31 rfl rfl HT_.out (by kernel_rfl) (fun _ _ _ h => h) (Or.inr ⟨by rfl, rfl⟩) ?_ ?_ ?_; rotate_left
        ·simp only [Act.put, sa_, s0_, ss_, i64_w, i32_w]; rfl
        refine pu_ 31 (some 49) undef b16_32 rfl rfl HT_.out (by kernel_rfl) (fun _ _ _ h => h) (Or.inr ⟨by rfl, rfl⟩) ?_ ?_ ?_; rotate_left
        ·simp only [Act.put, sa_, s0_, ss_, i64_w, i32_w]; rfl
        refine pu_ 32 (some 50) undef b16_33 rfl rfl HT_.out (by kernel_rfl) (fun _ _ _ h => h) (Or.inr ⟨by rfl, rfl⟩) ?_ ?_ ?_; rotate_left
        ·simp only [Act.put, sa_, s0_, ss_, i64_w, i32_w]; rfl
        refine pu_ 33 (some 51) undef b16_34 rfl rfl HT_.out (by kernel_rfl) (fun _ _ _ h => h) (Or.inr ⟨by rfl, rfl⟩) ?_ ?_ ?_; rotate_left
        ·simp only [Act.put, sa_, s0_, ss_, i64_w, i32_w]; rfl
        refine pu_ 34 (some 52) undef b16_35 rfl rfl HT_.out (by kernel_rfl) (fun _ _ _ h => h) (Or.inr ⟨by rfl, rfl⟩) ?_ ?_ ?_; rotate_left
        ·simp only [Act.put, sa_, s0_, ss_, i64_w, i32_w]; rfl
        refine pu_ 35 (some 53) undef b16_36 rfl rfl HT_.out (by kernel_rfl) (fun _ _ _ h => h) (Or.inr ⟨by rfl, rfl⟩) ?_ ?_ ?_; rotate_left
        ·simp only [Act.put, sa_, s0_, ss_, i64_w, i32_w]; rfl
        refine pu_ 36 (some 54) undef b16_37 rfl rfl HT_.out (by kernel_rfl) (fun _ _ _ h => h) (Or.inr ⟨by rfl, rfl⟩) ?_ ?_ ?_; rotate_left
        ·simp only [Act.put, sa_, s0_, ss_, i64_w, i32_w]; rfl
        refine pu_ 37 (some 55) undef b16_38 rfl rfl HT_.out (by kernel_rfl) (fun _ _ _ h => h) (Or.inr ⟨by rfl, rfl⟩) ?_ ?_ ?_; rotate_left
        ·simp only [Act.put, sa_, s0_, ss_, i64_w, i32_w]; rfl
        refine pu_ 38 (some 56) undef b16_39 rfl rfl HT_.out (by kernel_rfl) (fun _ _ _ h => h) (Or.inr ⟨by rfl, rfl⟩) ?_ ?_ ?_; rotate_left
        ·simp only [Act.put, sa_, s0_, ss_, i64_w, i32_w]; rfl
        refine pu_ 39 (some 57) ?_ b16_40 rfl rfl HT_.out (by kernel_rfl) (fun _ _ _ h => h) (Or.inl ⟨by rfl, ?_⟩) ?_ ?_ ?_; rotate_left
        ·intro w'; go_simp; with_reducible rfl
        rotate_left
        ·simp only [Act.put, sa_, s0_, ss_, i64_w, i32_w]; rfl
        refine done_ (done_of HT_.out (by kernel_rfl)) ?_
        try go_wp2
        go_ret
        exact ⟨by first | rfl | (simp [errW_none, errW_some] <;> rfl) | (simp [*, errW_none, errW_some] <;> rfl), by repeat (first | (with_reducible first | exact HB.out | apply below_alloc | apply pw_below_drewN | apply below_drew1 | refine below_set ?_ GE136.out) | exact HB.out)⟩
       ·rw [if_neg c10] at H
        have c10b0 : decide (9 < ((rd_T34 l0 x3_1).f0)) = false := decide_eq_false c10
        clear c10
        by_cases c15 : (((rd_T34 l0 x3_1).f1).size : Int) < 1
        ·rw [if_pos c15] at H
         have c15b0 : decide ((((rd_T34 l0 x3_1).f1).size : Int) < 1) = true := decide_eq_true c15
         have c15b1 : decide (((rd_T34 l0 x3_1).f1).size < 1) = true := decide_eq_true (by omega)
         clear c15
         obtain rfl := Option.some.inj H
         have p135 : 0 ≤ (x3_1 : Int) := of_decide_eq_true (by first | (with_reducible assumption) | assumption)
         have q135 : x3_1 < (l0.length : Int) := of_decide_eq_true (by first | (with_reducible assumption) | assumption)
         obtain ⟨ad135, e135, hx135_0, hx135_1, hx135_2⟩ := at_T34 HR0.out x3_1 p135 q135
         cases e135
         replace hx135_0 := (HB.out.cell (World.block_lt_of_cell? w _ hx135_0)).trans hx135_0
         replace hx135_1 := (HB.out.cell (World.block_lt_of_cell? w _ hx135_1)).trans hx135_1
         replace hx135_2 := (HB.out.cell (World.block_lt_of_cell? w _ hx135_2)).trans hx135_2
         replace p135 := eq_true p135
         replace q135 := eq_true q135
         try go_wp2_with (first | ((with_reducible refine gate_dst (N := 4) rfl ?_); (try (refine gate_guard (by rfl) ?_; dsimp only)); refine box_event ?hg (N := 4) ?hd (cs := #[.int .i64 0, .string (⟨#[]⟩ : ByteArray), .string (⟨#[]⟩ : ByteArray)]) (t := 34) ?hr ?_; (case hd => rfl); (case hg => rfl); (case hr => first | (go_simp; done) | (go_simp; rfl)); intro gb136 hg w16 hbox hb; have BK136 := am (hbox); have GW136 := am ((by rw [hg]; exact (below_size (bl HB.out)) : w.heap.size ≤ gb136)); have GE136 := GW136; replace HB := am (below_step (bl HB.out) hb); clear hb hbox hg; have hcz17_0 : w16.cell? ⟨gb136, 0, none⟩ = some (.int .i64 0) := bc BK136.out 0; have hcz17_1 : w16.cell? ⟨gb136, 1, none⟩ = some (.string (⟨#[]⟩ : ByteArray)) := bc BK136.out 1; have hcz17_2 : w16.cell? ⟨gb136, 2, none⟩ = some (.string (⟨#[]⟩ : ByteArray)) := bc BK136.out 2; have hfz17_0 := blk_frozen BK136.out 0; have hfz17_1 := blk_frozen BK136.out 1; have hfz17_2 := blk_frozen BK136.out 2))
         have n0_ : Aside0 ((((w16.setCell ⟨gb136, 0, none⟩ (.int .i64 ((rd_T34 l0 x3_1).f0))).setCell ⟨gb136, 1, none⟩ (.string ((rd_T34 l0 x3_1).f1))).setCell ⟨gb136, 2, none⟩ (.string ((rd_T34 l0 x3_1).f2))).heap[gb136]? = some (.cells #[.int .i64 ((rd_T34 l0 x3_1).f0), .string ((rd_T34 l0 x3_1).f1), .string ((rd_T34 l0 x3_1).f2)] 34 (0, 0))) := ⟨by refine pk ?_; refine blk_put (cs := #[.int .i64 ((rd_T34 l0 x3_1).f0), .string ((rd_T34 l0 x3_1).f1), .string (⟨#[]⟩ : ByteArray)]) ?_ 2 _ rfl; refine pk ?_; refine blk_put (cs := #[.int .i64 ((rd_T34 l0 x3_1).f0), .string (⟨#[]⟩ : ByteArray), .string (⟨#[]⟩ : ByteArray)]) ?_ 1 _ rfl; refine pk ?_; refine blk_put (cs := #[.int .i64 0, .string (⟨#[]⟩ : ByteArray), .string (⟨#[]⟩ : ByteArray)]) ?_ 0 _ rfl; refine pk ?_; exact BK136.out⟩
         have n1_ : Aside0 (Below w.heap.size w (((w16.setCell ⟨gb136, 0, none⟩ (.int .i64 ((rd_T34 l0 x3_1).f0))).setCell ⟨gb136, 1, none⟩ (.string ((rd_T34 l0 x3_1).f1))).setCell ⟨gb136, 2, none⟩ (.string ((rd_T34 l0 x3_1).f2)))) := ⟨by repeat (first | (with_reducible first | exact HB.out | apply below_alloc | apply pw_below_drewN | apply below_drew1 | refine below_set ?_ GE136.out) | exact HB.out)⟩
         (try clear BK136)
         (try clear HB)
         generalize (((w16.setCell ⟨gb136, 0, none⟩ (.int .i64 ((rd_T34 l0 x3_1).f0))).setCell ⟨gb136, 1, none⟩ (.string ((rd_T34 l0 x3_1).f1))).setCell ⟨gb136, 2, none⟩ (.string ((rd_T34 l0 x3_1).f2))) = w18 at n0_ n1_ ⊢
         have BK136 := n0_
         have HB := n1_
         clear n0_ n1_
         replace BK136 := am (blk_drew BK136.out)
         replace HB := am (below_drew1 HB.out)
         refine start_ (n := 40) (S := fun w' => w'.cell? ⟨gb136, 0, none⟩ = some (.int .i64 ((rd_T34 l0 x3_1).f0)) ∧ w'.cell? ⟨gb136, 1, none⟩ = some (.string ((rd_T34 l0 x3_1).f1)) ∧ w'.cell? ⟨gb136, 2, none⟩ = some (.string ((rd_T34 l0 x3_1).f2))) (ds := []) b16_0 (by kernel_rfl) rfl rfl ⟨bc BK136.out 0, bc BK136.out 1, bc BK136.out 2⟩ (fun hHeld => ?_); refine with_tabW spec_KeysRight.tab7 spec_KeysRight.bits7 (fun HT_ HW_ => ?_)
         generalize w18.drew = w19 at BK136 HB hHeld ⊢
         refine pu_ 0 (some 18) ?_ b16_1 rfl rfl HT_.out (by kernel_rfl) (fun _ _ _ h => h) (Or.inl ⟨by rfl, ?_⟩) ?_ ?_ ?_; rotate_left
         ·intro w'; go_simp; with_reducible rfl
         rotate_left
         ·simp only [Act.put, sa_, s0_, ss_, i64_w, i32_w]; rfl
         refine tk_ 1 (some 19) ?_ b16_2 rfl rfl HT_.out HW_.out (by kernel_rfl) (fun _ _ _ h => h) (Or.inl ⟨by rfl, ?_⟩) hHeld ?_ ?_ ?_; rotate_left
         ·rintro w' ⟨s0, s1, s2⟩; go_simp; with_reducible rfl
         rotate_left
         ·simp only [Act.put, sa_, s0_, ss_, i64_w, i32_w]; rfl
         refine pu_ 2 (some 20) ?_ b16_3 rfl rfl HT_.out (by kernel_rfl) (fun _ _ _ h => h) (Or.inl ⟨by rfl, ?_⟩) ?_ ?_ ?_; rotate_left
         ·intro w'; go_simp; with_reducible rfl
         rotate_left
         ·simp only [Act.put, sa_, s0_, ss_, i64_w, i32_w]; rfl
         refine pu_ 3 (some 21) ?_ b16_4 rfl rfl HT_.out (by kernel_rfl) (fun _ _ _ h => h) (Or.inl ⟨by rfl, ?_⟩) ?_ ?_ ?_; rotate_left
         ·intro w'; go_simp; with_reducible rfl
         rotate_left
         ·simp only [Act.put, sa_, s0_, ss_, i64_w, i32_w]; rfl
         refine pu_ 4 (some 22) ?_ b16_5 rfl rfl HT_.out (by kernel_rfl) (fun _ _ _ h => h) (Or.inl ⟨by rfl, ?_⟩) ?_ ?_ ?_; rotate_left
         ·intro w'; go_simp; with_reducible rfl
         rotate_left
         ·simp only [Act.put, sa_, s0_, ss_, i64_w, i32_w]; rfl
         refine tk_ 5 (some 23) ?_ b16_6 rfl rfl HT_.out HW_.out (by kernel_rfl) (fun _ _ _ h => h) (Or.inl ⟨by rfl, ?_⟩) hHeld ?_ ?_ ?_; rotate_left
         ·rintro w' ⟨s0, s1, s2⟩; go_simp; with_reducible rfl
         rotate_left
         ·simp only [Act.put, sa_, s0_, ss_, i64_w, i32_w]; rfl
         refine pu_ 6 (some 24) ?_ b16_7 rfl rfl HT_.out (by kernel_rfl) (fun _ _ _ h => h) (Or.inl ⟨by rfl, ?_⟩) ?_ ?_ ?_; rotate_left
         ·intro w'; go_simp; with_reducible rfl
         rotate_left
         ·simp only [Act.put, sa_, s0_, ss_, i64_w, i32_w]; rfl
         refine pu_ 7 (some 25) ?_ b16_8 rfl rfl HT_.out (by kernel_rfl) (fun _ _ _ h => h) (Or.inl ⟨by rfl, ?_⟩) ?_ ?_ ?_; rotate_left
         ·intro w'; go_simp; with_reducible rfl
         rotate_left
         ·simp only [Act.put, sa_, s0_, ss_, i64_w, i32_w]; rfl
         refine pu_ 8 (some 26) ?_ b16_9 rfl rfl HT_.out (by kernel_rfl) (fun _ _ _ h => h) (Or.inl ⟨by rfl, ?_⟩) ?_ ?_ ?_; rotate_left
         ·intro w'; go_simp; with_reducible rfl
         rotate_left
         ·simp only [Act.put, sa_, s0_, ss_, i64_w, i32_w]; rfl
         refine pu_ 9 (some 27) ?_ b16_10 rfl rfl HT_.out (by kernel_rfl) (fun _ _ _ h => h) (Or.inl ⟨by rfl, ?_⟩) ?_ ?_ ?_; rotate_left
         ·intro w'; go_simp; with_reducible rfl
         rotate_left
         ·simp only [Act.put, sa_, s0_, ss_, i64_w, i32_w]; rfl
         refine tk_ 10 (some 28) ?_ b16_11 rfl rfl HT_.out HW_.out (by kernel_rfl) (fun _ _ _ h => h) (Or.inl ⟨by rfl, ?_⟩) hHeld ?_ ?_ ?_; rotate_left
         ·rintro w' ⟨s0, s1, s2⟩; go_simp; with_reducible rfl
         rotate_left
         ·simp only [Act.put, sa_, s0_, ss_, i64_w, i32_w]; rfl
         refine pu_ 11 (some 29) ?_ b16_12 rfl rfl HT_.out (by kernel_rfl) (fun _ _ _ h => h) (Or.inl ⟨by rfl, ?_⟩) ?_ ?_ ?_; rotate_left
         ·intro w'; go_simp; with_reducible rfl
         rotate_left
         ·simp only [Act.put, sa_, s0_, ss_, i64_w, i32_w]; rfl
         refine pu_ 12 (some 30) ?_ b16_13 rfl rfl HT_.out (by kernel_rfl) (fun _ _ _ h => h) (Or.inl ⟨by rfl, ?_⟩) ?_ ?_ ?_; rotate_left
         ·intro w'; go_simp; with_reducible rfl
         rotate_left
         ·simp only [Act.put, sa_, s0_, ss_, i64_w, i32_w]; rfl
         refine pu_ 13 (some 31) ?_ b16_14 rfl rfl HT_.out (by kernel_rfl) (fun _ _ _ h => h) (Or.inl ⟨by rfl, ?_⟩) ?_ ?_ ?_; rotate_left
         ·intro w'; go_simp; with_reducible rfl
         rotate_left
         ·simp only [Act.put, sa_, s0_, ss_, i64_w, i32_w]; rfl
         refine pu_ 14 (some 32) ?_ b16_15 rfl rfl HT_.out (by kernel_rfl) (fun _ _ _ h => h) (Or.inl ⟨by rfl, ?_⟩) ?_ ?_ ?_; rotate_left
         ·intro w'; go_simp; with_reducible rfl
         rotate_left
         ·simp only [Act.put, sa_, s0_, ss_, i64_w, i32_w]; rfl
         refine pu_ 15 (some 33) undef b16_16 rfl rfl HT_.out (by kernel_rfl) (fun _ _ _ h => h) (Or.inr ⟨by rfl, rfl⟩) ?_ ?_ ?_; rotate_left
         ·simp only [Act.put, sa_, s0_, ss_, i64_w, i32_w]; rfl
         refine pu_ 16 (some 34) undef b16_17 rfl rfl HT_.out (by kernel_rfl) (fun _ _ _ h => h) (Or.inr ⟨by rfl, rfl⟩) ?_ ?_ ?_; rotate_left
         ·simp only [Act.put, sa_, s0_, ss_, i64_w, i32_w]; rfl
         refine pu_ 17 (some 35) undef b16_18 rfl rfl HT_.out (by kernel_rfl) (fun _ _ _ h => h) (Or.inr ⟨by rfl, rfl⟩) ?_ ?_ ?_; rotate_left
         ·simp only [Act.put, sa_, s0_, ss_, i64_w, i32_w]; rfl
         refine pu_ 18 (some 36) undef b16_19 rfl rfl HT_.out (by kernel_rfl) (fun _ _ _ h => h) (Or.inr ⟨by rfl, rfl⟩) ?_ ?_ ?_; rotate_left
         ·simp only [Act.put, sa_, s0_, ss_, i64_w, i32_w]; rfl
         refine pu_ 19 (some 37) ?_ b16_20 rfl rfl HT_.out (by kernel_rfl) (fun _ _ _ h => h) (Or.inl ⟨by rfl, ?_⟩) ?_ ?_ ?_; rotate_left
         ·intro w'; go_simp; with_reducible rfl
         rotate_left
         ·simp only [Act.put, sa_, s0_, ss_, i64_w, i32_w]; rfl
         refine pu_ 20 (some 38) ?_ b16_21 rfl rfl HT_.out (by kernel_rfl) (fun _ _ _ h => h) (Or.inl ⟨by rfl, ?_⟩) ?_ ?_ ?_; rotate_left
         ·intro w'; go_simp; with_reducible rfl
         rotate_left
         ·simp only [Act.put, sa_, s0_, ss_, i64_w, i32_w]; rfl
         refine pu_ 21 (some 39) undef b16_22 rfl rfl HT_.out (by kernel_rfl) (fun _ _ _ h => h) (Or.inr ⟨by rfl, rfl⟩) ?_ ?_ ?_; rotate_left
         ·simp only [Act.put, sa_, s0_, ss_, i64_w, i32_w]; rfl
         refine pu_ 22 (some 40) undef b16_23 rfl rfl HT_.out (by kernel_rfl) (fun _ _ _ h => h) (Or.inr ⟨by rfl, rfl⟩) ?_ ?_ ?_; rotate_left
         ·simp only [Act.put, sa_, s0_, ss_, i64_w, i32_w]; rfl
         refine pu_ 23 (some 41) undef b16_24 rfl rfl HT_.out (by kernel_rfl) (fun _ _ _ h => h) (Or.inr ⟨by rfl, rfl⟩) ?_ ?_ ?_; rotate_left
         ·simp only [Act.put, sa_, s0_, ss_, i64_w, i32_w]; rfl
         refine pu_ 24 (some 42) undef b16_25 rfl rfl HT_.out (by kernel_rfl) (fun _ _ _ h => h) (Or.inr ⟨by rfl, rfl⟩) ?_ ?_ ?_; rotate_left
         ·simp only [Act.put, sa_, s0_, ss_, i64_w, i32_w]; rfl
         refine pu_ 25 (some 43) ?_ b16_26 rfl rfl HT_.out (by kernel_rfl) (fun _ _ _ h => h) (Or.inl ⟨by rfl, ?_⟩) ?_ ?_ ?_; rotate_left
         ·intro w'; go_simp; with_reducible rfl
         rotate_left
         ·simp only [Act.put, sa_, s0_, ss_, i64_w, i32_w]; rfl
         refine pu_ 26 (some 44) ?_ b16_27 rfl rfl HT_.out (by kernel_rfl) (fun _ _ _ h => h) (Or.inl ⟨by rfl, ?_⟩) ?_ ?_ ?_; rotate_left
         ·intro w'; go_simp; with_reducible rfl
         rotate_left
         ·simp only [Act.put, sa_, s0_, ss_, i64_w, i32_w]; rfl
         refine pu_ 27 (some 45) undef b16_28 rfl rfl HT_.out (by kernel_rfl) (fun _ _ _ h => h) (Or.inr ⟨by rfl, rfl⟩) ?_ ?_ ?_; rotate_left
         ·simp only [Act.put, sa_, s0_, ss_, i64_w, i32_w]; rfl
         refine pu_ 28 (some 46) undef b16_29 rfl rfl HT_.out (by kernel_rfl) (fun _ _ _ h => h) (Or.inr ⟨by rfl, rfl⟩) ?_ ?_ ?_; rotate_left
         ·simp only [Act.put, sa_, s0_, ss_, i64_w, i32_w]; rfl
         refine pu_ 29 (some 47) undef b16_30 rfl rfl HT_.out (by kernel_rfl) (fun _ _ _ h => h) (Or.inr ⟨by rfl, rfl⟩) ?_ ?_ ?_; rotate_left
         ·simp only [Act.put, sa_, s0_, ss_, i64_w, i32_w]; rfl
         refine pu_ 30 (some 48) undef b16_31 rfl rfl HT_.out (by kernel_rfl) (fun _ _ _ h => h) (Or.inr ⟨by rfl, rfl⟩) ?_ ?_ ?_; rotate_left
         ·simp only [Act.put, sa_, s0_, ss_, i64_w, i32_w]; rfl
         refine pu_ 31 (some 49) undef b16_32 rfl rfl HT_.out (by kernel_rfl) (fun _ _ _ h => h) (Or.inr ⟨by rfl, rfl⟩) ?_ ?_ ?_; rotate_left
         ·simp only [Act.put, sa_, s0_, ss_, i64_w, i32_w]; rfl
         refine pu_ 32 (some 50) undef b16_33 rfl rfl HT_.out (by kernel_rfl) (fun _ _ _ h => h) (Or.inr ⟨by rfl, rfl⟩) ?_ ?_ ?_; rotate_left
         ·simp only [Act.put, sa_, s0_, ss_, i64_w, i32_w]; rfl
         refine pu_ 33 (some 51) undef b16_34 rfl rfl HT_.out (by kernel_rfl) (fun _ _ _ h => h) (Or.inr ⟨by rfl, rfl⟩) ?_ ?_ ?_; rotate_left
         ·simp only [Act.put, sa_, s0_, ss_, i64_w, i32_w]; rfl
         refine pu_ 34 (some 52) undef b16_35 rfl rfl HT_.out (by kernel_rfl) (fun _ _ _ h => h) (Or.inr ⟨by rfl, rfl⟩) ?_ ?_ ?_; rotate_left
         ·simp only [Act.put, sa_, s0_, ss_, i64_w, i32_w]; rfl
         refine pu_ 35 (some 53) undef b16_36 rfl rfl HT_.out (by kernel_rfl) (fun _ _ _ h => h) (Or.inr ⟨by rfl, rfl⟩) ?_ ?_ ?_; rotate_left
         ·simp only [Act.put, sa_, s0_, ss_, i64_w, i32_w]; rfl
         refine pu_ 36 (some 54) undef b16_37 rfl rfl HT_.out (by kernel_rfl) (fun _ _ _ h => h) (Or.inr ⟨by rfl, rfl⟩) ?_ ?_ ?_; rotate_left
         ·simp only [Act.put, sa_, s0_, ss_, i64_w, i32_w]; rfl
         refine pu_ 37 (some 55) undef b16_38 rfl rfl HT_.out (by kernel_rfl) (fun _ _ _ h => h) (Or.inr ⟨by rfl, rfl⟩) ?_ ?_ ?_; rotate_left
         ·simp only [Act.put, sa_, s0_, ss_, i64_w, i32_w]; rfl
         refine pu_ 38 (some 56) undef b16_39 rfl rfl HT_.out (by kernel_rfl) (fun _ _ _ h => h) (Or.inr ⟨by rfl, rfl⟩) ?_ ?_ ?_; rotate_left
         ·simp only [Act.put, sa_, s0_, ss_, i64_w, i32_w]; rfl
         refine pu_ 39 (some 57) ?_ b16_40 rfl rfl HT_.out (by kernel_rfl) (fun _ _ _ h => h) (Or.inl ⟨by rfl, ?_⟩) ?_ ?_ ?_; rotate_left
         ·intro w'; go_simp; with_reducible rfl
         rotate_left
         ·simp only [Act.put, sa_, s0_, ss_, i64_w, i32_w]; rfl
         refine done_ (done_of HT_.out (by kernel_rfl)) ?_
         try go_wp2
         go_ret
         exact ⟨by first | rfl | (simp [errW_none, errW_some] <;> rfl) | (simp [*, errW_none, errW_some] <;> rfl), by repeat (first | (with_reducible first | exact HB.out | apply below_alloc | apply pw_below_drewN | apply below_drew1 | refine below_set ?_ GE136.out) | exact HB.out)⟩
        ·rw [if_neg c15] at H
         have c15b0 : decide ((((rd_T34 l0 x3_1).f1).size : Int) < 1) = false := decide_eq_false c15
         have c15b1 : decide (((rd_T34 l0 x3_1).f1).size < 1) = false := decide_eq_false (by omega)
         clear c15
         by_cases c20 : (((rd_T34 l0 x3_1).f1).size : Int) > 6
         ·rw [if_pos c20] at H
          have c20b0 : decide (6 < (((rd_T34 l0 x3_1).f1).size : Int)) = true := decide_eq_true c20
          have c20b1 : decide (6 < ((rd_T34 l0 x3_1).f1).size) = true := decide_eq_true (by omega)
          clear c20
          obtain rfl := Option.some.inj H
          have p135 : 0 ≤ (x3_1 : Int) := of_decide_eq_true (by first | (with_reducible assumption) | assumption)
          have q135 : x3_1 < (l0.length : Int) := of_decide_eq_true (by first | (with_reducible assumption) | assumption)
          obtain ⟨ad135, e135, hx135_0, hx135_1, hx135_2⟩ := at_T34 HR0.out x3_1 p135 q135
          cases e135
          replace hx135_0 := (HB.out.cell (World.block_lt_of_cell? w _ hx135_0)).trans hx135_0
          replace hx135_1 := (HB.out.cell (World.block_lt_of_cell? w _ hx135_1)).trans hx135_1
          replace hx135_2 := (HB.out.cell (World.block_lt_of_cell? w _ hx135_2)).trans hx135_2
          replace p135 := eq_true p135
          replace q135 := eq_true q135
          try go_wp2_with (first | ((with_reducible refine gate_dst (N := 4) rfl ?_); (try (refine gate_guard (by rfl) ?_; dsimp only)); refine box_event ?hg (N := 4) ?hd (cs := #[.int .i64 0, .string (⟨#[]⟩ : ByteArray), .string (⟨#[]⟩ : ByteArray)]) (t := 34) ?hr ?_; (case hd => rfl); (case hg => rfl); (case hr => first | (go_simp; done) | (go_simp; rfl)); intro gb136 hg w21 hbox hb; have BK136 := am (hbox); have GW136 := am ((by rw [hg]; exact (below_size (bl HB.out)) : w.heap.size ≤ gb136)); have GE136 := GW136; replace HB := am (below_step (bl HB.out) hb); clear hb hbox hg; have hcz22_0 : w21.cell? ⟨gb136, 0, none⟩ = some (.int .i64 0) := bc BK136.out 0; have hcz22_1 : w21.cell? ⟨gb136, 1, none⟩ = some (.string (⟨#[]⟩ : ByteArray)) := bc BK136.out 1; have hcz22_2 : w21.cell? ⟨gb136, 2, none⟩ = some (.string (⟨#[]⟩ : ByteArray)) := bc BK136.out 2; have hfz22_0 := blk_frozen BK136.out 0; have hfz22_1 := blk_frozen BK136.out 1; have hfz22_2 := blk_frozen BK136.out 2))
          have n0_ : Aside0 ((((w21.setCell ⟨gb136, 0, none⟩ (.int .i64 ((rd_T34 l0 x3_1).f0))).setCell ⟨gb136, 1, none⟩ (.string ((rd_T34 l0 x3_1).f1))).setCell ⟨gb136, 2, none⟩ (.string ((rd_T34 l0 x3_1).f2))).heap[gb136]? = some (.cells #[.int .i64 ((rd_T34 l0 x3_1).f0), .string ((rd_T34 l0 x3_1).f1), .string ((rd_T34 l0 x3_1).f2)] 34 (0, 0))) := ⟨by refine pk ?_; refine blk_put (cs := #[.int .i64 ((rd_T34 l0 x3_1).f0), .string ((rd_T34 l0 x3_1).f1), .string (⟨#[]⟩ : ByteArray)]) ?_ 2 _ rfl; refine pk ?_; refine blk_put (cs := #[.int .i64 ((rd_T34 l0 x3_1).f0), .string (⟨#[]⟩ : ByteArray), .string (⟨#[]⟩ : ByteArray)]) ?_ 1 _ rfl; refine pk ?_; refine blk_put (cs := #[.int .i64 0, .string (⟨#[]⟩ : ByteArray), .string (⟨#[]⟩ : ByteArray)]) ?_ 0 _ rfl; refine pk ?_; exact BK136.out⟩
          have n1_ : Aside0 (Below w.heap.size w (((w21.setCell ⟨gb136, 0, none⟩ (.int .i64 ((rd_T34 l0 x3_1).f0))).setCell ⟨gb136, 1, none⟩ (.string ((rd_T34 l0 x3_1).f1))).setCell ⟨gb136, 2, none⟩ (.string ((rd_T34 l0 x3_1).f2)))) := ⟨by repeat (first | (with_reducible first | exact HB.out | apply below_alloc | apply pw_below_drewN | apply below_drew1 | refine below_set ?_ GE136.out) | exact HB.out)⟩
          (try clear BK136)
          (try clear HB)
          generalize (((w21.setCell ⟨gb136, 0, none⟩ (.int .i64 ((rd_T34 l0 x3_1).f0))).setCell ⟨gb136, 1, none⟩ (.string ((rd_T34 l0 x3_1).f1))).setCell ⟨gb136, 2, none⟩ (.string ((rd_T34 l0 x3_1).f2))) = w23 at n0_ n1_ ⊢
          have BK136 := n0_
          have HB := n1_
          clear n0_ n1_
          replace BK136 := am (blk_drew BK136.out)
          replace HB := am (below_drew1 HB.out)
          refine start_ (n := 40) (S := fun w' => w'.cell? ⟨gb136, 0, none⟩ = some (.int .i64 ((rd_T34 l0 x3_1).f0)) ∧ w'.cell? ⟨gb136, 1, none⟩ = some (.string ((rd_T34 l0 x3_1).f1)) ∧ w'.cell? ⟨gb136, 2, none⟩ = some (.string ((rd_T34 l0 x3_1).f2))) (ds := []) b16_0 (by kernel_rfl) rfl rfl ⟨bc BK136.out 0, bc BK136.out 1, bc BK136.out 2⟩ (fun hHeld => ?_); refine with_tabW spec_KeysRight.tab7 spec_KeysRight.bits7 (fun HT_ HW_ => ?_)
          generalize w23.drew = w24 at BK136 HB hHeld ⊢
          refine pu_ 0 (some 18) ?_ b16_1 rfl rfl HT_.out (by kernel_rfl) (fun _ _ _ h => h) (Or.inl ⟨by rfl, ?_⟩) ?_ ?_ ?_; rotate_left
          ·intro w'; go_simp; with_reducible rfl
          rotate_left
          ·simp only [Act.put, sa_, s0_, ss_, i64_w, i32_w]; rfl
          refine tk_ 1 (some 19) ?_ b16_2 rfl rfl HT_.out HW_.out (by kernel_rfl) (fun _ _ _ h => h) (Or.inl ⟨by rfl, ?_⟩) hHeld ?_ ?_ ?_; rotate_left
          ·rintro w' ⟨s0, s1, s2⟩; go_simp; with_reducible rfl
          rotate_left
          ·simp only [Act.put, sa_, s0_, ss_, i64_w, i32_w]; rfl
          refine pu_ 2 (some 20) ?_ b16_3 rfl rfl HT_.out (by kernel_rfl) (fun _ _ _ h => h) (Or.inl ⟨by rfl, ?_⟩) ?_ ?_ ?_; rotate_left
          ·intro w'; go_simp; with_reducible rfl
          rotate_left
          ·simp only [Act.put, sa_, s0_, ss_, i64_w, i32_w]; rfl
          refine pu_ 3 (some 21) ?_ b16_4 rfl rfl HT_.out (by kernel_rfl) (fun _ _ _ h => h) (Or.inl ⟨by rfl, ?_⟩) ?_ ?_ ?_; rotate_left
          ·intro w'; go_simp; with_reducible rfl
          rotate_left
          ·simp only [Act.put, sa_, s0_, ss_, i64_w, i32_w]; rfl
          refine pu_ 4 (some 22) ?_ b16_5 rfl rfl HT_.out (by kernel_rfl) (fun _ _ _ h => h) (Or.inl ⟨by rfl, ?_⟩) ?_ ?_ ?_; rotate_left
          ·intro w'; go_simp; with_reducible rfl
          rotate_left
          ·simp only [Act.put, sa_, s0_, ss_, i64_w, i32_w]; rfl
          refine tk_ 5 (some 23) ?_ b16_6 rfl rfl HT_.out HW_.out (by kernel_rfl) (fun _ _ _ h => h) (Or.inl ⟨by rfl, ?_⟩) hHeld ?_ ?_ ?_; rotate_left
          ·rintro w' ⟨s0, s1, s2⟩; go_simp; with_reducible rfl
          rotate_left
          ·simp only [Act.put, sa_, s0_, ss_, i64_w, i32_w]; rfl
          refine pu_ 6 (some 24) ?_ b16_7 rfl rfl HT_.out (by kernel_rfl) (fun _ _ _ h => h) (Or.inl ⟨by rfl, ?_⟩) ?_ ?_ ?_; rotate_left
          ·intro w'; go_simp; with_reducible rfl
          rotate_left
          ·simp only [Act.put, sa_, s0_, ss_, i64_w, i32_w]; rfl
          refine pu_ 7 (some 25) ?_ b16_8 rfl rfl HT_.out (by kernel_rfl) (fun _ _ _ h => h) (Or.inl ⟨by rfl, ?_⟩) ?_ ?_ ?_; rotate_left
          ·intro w'; go_simp; with_reducible rfl
          rotate_left
          ·simp only [Act.put, sa_, s0_, ss_, i64_w, i32_w]; rfl
          refine pu_ 8 (some 26) ?_ b16_9 rfl rfl HT_.out (by kernel_rfl) (fun _ _ _ h => h) (Or.inl ⟨by rfl, ?_⟩) ?_ ?_ ?_; rotate_left
          ·intro w'; go_simp; with_reducible rfl
          rotate_left
          ·simp only [Act.put, sa_, s0_, ss_, i64_w, i32_w]; rfl
          refine pu_ 9 (some 27) ?_ b16_10 rfl rfl HT_.out (by kernel_rfl) (fun _ _ _ h => h) (Or.inl ⟨by rfl, ?_⟩) ?_ ?_ ?_; rotate_left
          ·intro w'; go_simp; with_reducible rfl
          rotate_left
          ·simp only [Act.put, sa_, s0_, ss_, i64_w, i32_w]; rfl
          refine tk_ 10 (some 28) ?_ b16_11 rfl rfl HT_.out HW_.out (by kernel_rfl) (fun _ _ _ h => h) (Or.inl ⟨by rfl, ?_⟩) hHeld ?_ ?_ ?_; rotate_left
          ·rintro w' ⟨s0, s1, s2⟩; go_simp; with_reducible rfl
          rotate_left
          ·simp only [Act.put, sa_, s0_, ss_, i64_w, i32_w]; rfl
          refine pu_ 11 (some 29) ?_ b16_12 rfl rfl HT_.out (by kernel_rfl) (fun _ _ _ h => h) (Or.inl ⟨by rfl, ?_⟩) ?_ ?_ ?_; rotate_left
          ·intro w'; go_simp; with_reducible rfl
          rotate_left
          ·simp only [Act.put, sa_, s0_, ss_, i64_w, i32_w]; rfl
          refine pu_ 12 (some 30) ?_ b16_13 rfl rfl HT_.out (by kernel_rfl) (fun _ _ _ h => h) (Or.inl ⟨by rfl, ?_⟩) ?_ ?_ ?_; rotate_left
          ·intro w'; go_simp; with_reducible rfl
          rotate_left
          ·simp only [Act.put, sa_, s0_, ss_, i64_w, i32_w]; rfl
          refine pu_ 13 (some 31) ?_ b16_14 rfl rfl HT_.out (by kernel_rfl) (fun _ _ _ h => h) (Or.inl ⟨by rfl, ?_⟩) ?_ ?_ ?_; rotate_left
          ·intro w'; go_simp; with_reducible rfl
          rotate_left
          ·simp only [Act.put, sa_, s0_, ss_, i64_w, i32_w]; rfl
          refine pu_ 14 (some 32) ?_ b16_15 rfl rfl HT_.out (by kernel_rfl) (fun _ _ _ h => h) (Or.inl ⟨by rfl, ?_⟩) ?_ ?_ ?_; rotate_left
          ·intro w'; go_simp; with_reducible rfl
          rotate_left
          ·simp only [Act.put, sa_, s0_, ss_, i64_w, i32_w]; rfl
          refine pu_ 15 (some 33) ?_ b16_16 rfl rfl HT_.out (by kernel_rfl) (fun _ _ _ h => h) (Or.inl ⟨by rfl, ?_⟩) ?_ ?_ ?_; rotate_left
          ·intro w'; go_simp; with_reducible rfl
          rotate_left
          ·simp only [Act.put, sa_, s0_, ss_, i64_w, i32_w]; rfl
          refine tk_ 16 (some 34) ?_ b16_17 rfl rfl HT_.out HW_.out (by kernel_rfl) (fun _ _ _ h => h) (Or.inl ⟨by rfl, ?_⟩) hHeld ?_ ?_ ?_; rotate_left
          ·rintro w' ⟨s0, s1, s2⟩; go_simp; with_reducible rfl
          rotate_left
          ·simp only [Act.put, sa_, s0_, ss_, i64_w, i32_w]; rfl
          refine pu_ 17 (some 35) ?_ b16_18 rfl rfl HT_.out (by kernel_rfl) (fun _ _ _ h => h) (Or.inl ⟨by rfl, ?_⟩) ?_ ?_ ?_; rotate_left
          ·intro w'; go_simp; with_reducible rfl
          rotate_left
          ·simp only [Act.put, sa_, s0_, ss_, i64_w, i32_w]; rfl
          refine pu_ 18 (some 36) ?_ b16_19 rfl rfl HT_.out (by kernel_rfl) (fun _ _ _ h => h) (Or.inl ⟨by rfl, ?_⟩) ?_ ?_ ?_; rotate_left
          ·intro w'; go_simp; with_reducible rfl
          rotate_left
          ·simp only [Act.put, sa_, s0_, ss_, i64_w, i32_w]; rfl
          refine pu_ 19 (some 37) ?_ b16_20 rfl rfl HT_.out (by kernel_rfl) (fun _ _ _ h => h) (Or.inl ⟨by rfl, ?_⟩) ?_ ?_ ?_; rotate_left
          ·intro w'; go_simp; with_reducible rfl
          rotate_left
          ·simp only [Act.put, sa_, s0_, ss_, i64_w, i32_w]; rfl
          refine pu_ 20 (some 38) ?_ b16_21 rfl rfl HT_.out (by kernel_rfl) (fun _ _ _ h => h) (Or.inl ⟨by rfl, ?_⟩) ?_ ?_ ?_; rotate_left
          ·intro w'; go_simp; with_reducible rfl
          rotate_left
          ·simp only [Act.put, sa_, s0_, ss_, i64_w, i32_w]; rfl
          refine pu_ 21 (some 39) undef b16_22 rfl rfl HT_.out (by kernel_rfl) (fun _ _ _ h => h) (Or.inr ⟨by rfl, rfl⟩) ?_ ?_ ?_; rotate_left
          ·simp only [Act.put, sa_, s0_, ss_, i64_w, i32_w]; rfl
          refine pu_ 22 (some 40) undef b16_23 rfl rfl HT_.out (by kernel_rfl) (fun _ _ _ h => h) (Or.inr ⟨by rfl, rfl⟩) ?_ ?_ ?_; rotate_left
          ·simp only [Act.put, sa_, s0_, ss_, i64_w, i32_w]; rfl
          refine pu_ 23 (some 41) undef b16_24 rfl rfl HT_.out (by kernel_rfl) (fun _ _ _ h => h) (Or.inr ⟨by rfl, rfl⟩) ?_ ?_ ?_; rotate_left
          ·simp only [Act.put, sa_, s0_, ss_, i64_w, i32_w]; rfl
          refine pu_ 24 (some 42) undef b16_25 rfl rfl HT_.out (by kernel_rfl) (fun _ _ _ h => h) (Or.inr ⟨by rfl, rfl⟩) ?_ ?_ ?_; rotate_left
          ·simp only [Act.put, sa_, s0_, ss_, i64_w, i32_w]; rfl
          refine pu_ 25 (some 43) ?_ b16_26 rfl rfl HT_.out (by kernel_rfl) (fun _ _ _ h => h) (Or.inl ⟨by rfl, ?_⟩) ?_ ?_ ?_; rotate_left
          ·intro w'; go_simp; with_reducible rfl
          rotate_left
          ·simp only [Act.put, sa_, s0_, ss_, i64_w, i32_w]; rfl
          refine pu_ 26 (some 44) ?_ b16_27 rfl rfl HT_.out (by kernel_rfl) (fun _ _ _ h => h) (Or.inl ⟨by rfl, ?_⟩) ?_ ?_ ?_; rotate_left
          ·intro w'; go_simp; with_reducible rfl
          rotate_left
          ·simp only [Act.put, sa_, s0_, ss_, i64_w, i32_w]; rfl
          refine pu_ 27 (some 45) undef b16_28 rfl rfl HT_.out (by kernel_rfl) (fun _ _ _ h => h) (Or.inr ⟨by rfl, rfl⟩) ?_ ?_ ?_; rotate_left
          ·simp only [Act.put, sa_, s0_, ss_, i64_w, i32_w]; rfl
          refine pu_ 28 (some 46) undef b16_29 rfl rfl HT_.out (by kernel_rfl) (fun _ _ _ h => h) (Or.inr ⟨by rfl, rfl⟩) ?_ ?_ ?_; rotate_left
          ·simp only [Act.put, sa_, s0_, ss_, i64_w, i32_w]; rfl
          refine pu_ 29 (some 47) undef b16_30 rfl rfl HT_.out (by kernel_rfl) (fun _ _ _ h => h) (Or.inr ⟨by rfl, rfl⟩) ?_ ?_ ?_; rotate_left
          ·simp only [Act.put, sa_, s0_, ss_, i64_w, i32_w]; rfl
          refine pu_ 30 (some 48) undef b16_31 rfl rfl HT_.out (by kernel_rfl) (fun _ _ _ h => h) (Or.inr ⟨by rfl, rfl⟩) ?_ ?_ ?_; rotate_left
          ·simp only [Act.put, sa_, s0_, ss_, i64_w, i32_w]; rfl
          refine pu_ 31 (some 49) undef b16_32 rfl rfl HT_.out (by kernel_rfl) (fun _ _ _ h => h) (Or.inr ⟨by rfl, rfl⟩) ?_ ?_ ?_; rotate_left
          ·simp only [Act.put, sa_, s0_, ss_, i64_w, i32_w]; rfl
          refine pu_ 32 (some 50) undef b16_33 rfl rfl HT_.out (by kernel_rfl) (fun _ _ _ h => h) (Or.inr ⟨by rfl, rfl⟩) ?_ ?_ ?_; rotate_left
          ·simp only [Act.put, sa_, s0_, ss_, i64_w, i32_w]; rfl
          refine pu_ 33 (some 51) undef b16_34 rfl rfl HT_.out (by kernel_rfl) (fun _ _ _ h => h) (Or.inr ⟨by rfl, rfl⟩) ?_ ?_ ?_; rotate_left
          ·simp only [Act.put, sa_, s0_, ss_, i64_w, i32_w]; rfl
          refine pu_ 34 (some 52) undef b16_35 rfl rfl HT_.out (by kernel_rfl) (fun _ _ _ h => h) (Or.inr ⟨by rfl, rfl⟩) ?_ ?_ ?_; rotate_left
          ·simp only [Act.put, sa_, s0_, ss_, i64_w, i32_w]; rfl
          refine pu_ 35 (some 53) undef b16_36 rfl rfl HT_.out (by kernel_rfl) (fun _ _ _ h => h) (Or.inr ⟨by rfl, rfl⟩) ?_ ?_ ?_; rotate_left
          ·simp only [Act.put, sa_, s0_, ss_, i64_w, i32_w]; rfl
          refine pu_ 36 (some 54) undef b16_37 rfl rfl HT_.out (by kernel_rfl) (fun _ _ _ h => h) (Or.inr ⟨by rfl, rfl⟩) ?_ ?_ ?_; rotate_left
          ·simp only [Act.put, sa_, s0_, ss_, i64_w, i32_w]; rfl
          refine pu_ 37 (some 55) undef b16_38 rfl rfl HT_.out (by kernel_rfl) (fun _ _ _ h => h) (Or.inr ⟨by rfl, rfl⟩) ?_ ?_ ?_; rotate_left
          ·simp only [Act.put, sa_, s0_, ss_, i64_w, i32_w]; rfl
          refine pu_ 38 (some 56) undef b16_39 rfl rfl HT_.out (by kernel_rfl) (fun _ _ _ h => h) (Or.inr ⟨by rfl, rfl⟩) ?_ ?_ ?_; rotate_left
          ·simp only [Act.put, sa_, s0_, ss_, i64_w, i32_w]; rfl
          refine pu_ 39 (some 57) ?_ b16_40 rfl rfl HT_.out (by kernel_rfl) (fun _ _ _ h => h) (Or.inl ⟨by rfl, ?_⟩) ?_ ?_ ?_; rotate_left
          ·intro w'; go_simp; with_reducible rfl
          rotate_left
          ·simp only [Act.put, sa_, s0_, ss_, i64_w, i32_w]; rfl
          refine done_ (done_of HT_.out (by kernel_rfl)) ?_
          try go_wp2
          go_ret
          exact ⟨by first | rfl | (simp [errW_none, errW_some] <;> rfl) | (simp [*, errW_none, errW_some] <;> rfl), by repeat (first | (with_reducible first | exact HB.out | apply below_alloc | apply pw_below_drewN | apply below_drew1 | refine below_set ?_ GE136.out) | exact HB.out)⟩
         ·rw [if_neg c20] at H
          have c20b0 : decide (6 < (((rd_T34 l0 x3_1).f1).size : Int)) = false := decide_eq_false c20
          have c20b1 : decide (6 < ((rd_T34 l0 x3_1).f1).size) = false := decide_eq_false (by omega)
          clear c20
          replace H := Option.bind_eq_some_iff.mp H
          obtain ⟨t137, A250, H⟩ := H
          replace H : (if t137 = true then (if x3_1 > 0 then (if 0 ≤ (wrap64 (x3_1 - 1)) then (if (wrap64 (x3_1 - 1)) < (l0.length : Int) then ((spec_l07Before.f ((rd_T34 l0 (wrap64 (x3_1 - 1))).f0) ((rd_T34 l0 (wrap64 (x3_1 - 1))).f1) ((rd_T34 l0 (wrap64 (x3_1 - 1))).f2) ((rd_T34 l0 x3_1).f0) ((rd_T34 l0 x3_1).f1) ((rd_T34 l0 x3_1).f2)).bind fun t139 => (if t139 = true then (spec_KeysRight.l0 k1 l0 (wrap64 (x3_1 + 1))) else (some false))) else (none)) else (none)) else (spec_KeysRight.l0 k1 l0 (wrap64 (x3_1 + 1)))) else (some false)) = some r := H
          have A25 := Aside0.mk A250
          clear A250
          by_cases c26 : t137 = true
          ·subst c26
           have H1 : (if x3_1 > 0 then (if 0 ≤ (wrap64 (x3_1 - 1)) then (if (wrap64 (x3_1 - 1)) < (l0.length : Int) then ((spec_l07Before.f ((rd_T34 l0 (wrap64 (x3_1 - 1))).f0) ((rd_T34 l0 (wrap64 (x3_1 - 1))).f1) ((rd_T34 l0 (wrap64 (x3_1 - 1))).f2) ((rd_T34 l0 x3_1).f0) ((rd_T34 l0 x3_1).f1) ((rd_T34 l0 x3_1).f2)).bind fun t139 => (if t139 = true then (spec_KeysRight.l0 k1 l0 (wrap64 (x3_1 + 1))) else (some false))) else (none)) else (none)) else (spec_KeysRight.l0 k1 l0 (wrap64 (x3_1 + 1)))) = some r := by rw [if_pos rfl] at H; exact H
           clear H
           have H := H1
           clear H1
           by_cases c27 : x3_1 > 0
           ·rw [if_pos c27] at H
            have c27b0 : decide (0 < x3_1) = true := decide_eq_true c27
            clear c27
            obtain ⟨ji28, hji28⟩ : ∃ j_ : Int, (wrap64 (x3_1 - 1)) = j_ := ⟨_, rfl⟩
            replace H : (if 0 ≤ (ji28) then (if (ji28) < (l0.length : Int) then ((spec_l07Before.f ((rd_T34 l0 (ji28)).f0) ((rd_T34 l0 (ji28)).f1) ((rd_T34 l0 (ji28)).f2) ((rd_T34 l0 x3_1).f0) ((rd_T34 l0 x3_1).f1) ((rd_T34 l0 x3_1).f2)).bind fun t139 => (if t139 = true then (spec_KeysRight.l0 k1 l0 (wrap64 (x3_1 + 1))) else (some false))) else (none)) else (none)) = some r := by first | (rw [hji28] at H; exact H) | (simp only [hji28] at H ⊢; exact H)
            (try rw [hji28] at A25)
            have hji28w : (IntKind.i64.wrap (x3_1 - 1)) = ji28 := (i64_w _).trans hji28
            by_cases c29 : 0 ≤ (ji28)
            ·rw [if_pos c29] at H
             have c29b0 : decide (0 ≤ (ji28)) = true := decide_eq_true c29
             clear c29
             by_cases c30 : (ji28) < (l0.length : Int)
             ·rw [if_pos c30] at H
              have c30b0 : decide ((ji28) < (l0.length : Int)) = true := decide_eq_true c30
              clear c30
              replace H := Option.bind_eq_some_iff.mp H
              obtain ⟨t139, A310, H⟩ := H
              replace H : (if t139 = true then (spec_KeysRight.l0 k1 l0 (wrap64 (x3_1 + 1))) else (some false)) = some r := H
              have A31 := Aside0.mk A310
              clear A310
              by_cases c32 : t139 = true
              ·subst c32
               have H1 : (spec_KeysRight.l0 k1 l0 (wrap64 (x3_1 + 1))) = some r := by rw [if_pos rfl] at H; exact H
               clear H
               have H := H1
               clear H1
               have H' := Aside0.mk H
               clear H
               have p135 : 0 ≤ (x3_1 : Int) := of_decide_eq_true (by first | (with_reducible assumption) | assumption)
               have q135 : x3_1 < (l0.length : Int) := of_decide_eq_true (by first | (with_reducible assumption) | assumption)
               obtain ⟨ad135, e135, hx135_0, hx135_1, hx135_2⟩ := at_T34 HR0.out x3_1 p135 q135
               cases e135
               replace hx135_0 := (HB.out.cell (World.block_lt_of_cell? w _ hx135_0)).trans hx135_0
               replace hx135_1 := (HB.out.cell (World.block_lt_of_cell? w _ hx135_1)).trans hx135_1
               replace hx135_2 := (HB.out.cell (World.block_lt_of_cell? w _ hx135_2)).trans hx135_2
               replace p135 := eq_true p135
               replace q135 := eq_true q135
               try go_wp2_with (first | ((with_reducible refine gate_dst (N := 4) rfl ?_); (try (refine gate_guard (by rfl) ?_; dsimp only)); refine box_event ?hg (N := 4) ?hd (cs := #[.int .i64 0, .string (⟨#[]⟩ : ByteArray), .string (⟨#[]⟩ : ByteArray)]) (t := 34) ?hr ?_; (case hd => rfl); (case hg => rfl); (case hr => first | (go_simp; done) | (go_simp; rfl)); intro gb136 hg w33 hbox hb; have BK136 := am (hbox); have GW136 := am ((by rw [hg]; exact (below_size (bl HB.out)) : w.heap.size ≤ gb136)); have GE136 := GW136; replace HB := am (below_step (bl HB.out) hb); clear hb hbox hg; have hcz34_0 : w33.cell? ⟨gb136, 0, none⟩ = some (.int .i64 0) := bc BK136.out 0; have hcz34_1 : w33.cell? ⟨gb136, 1, none⟩ = some (.string (⟨#[]⟩ : ByteArray)) := bc BK136.out 1; have hcz34_2 : w33.cell? ⟨gb136, 2, none⟩ = some (.string (⟨#[]⟩ : ByteArray)) := bc BK136.out 2; have hfz34_0 := blk_frozen BK136.out 0; have hfz34_1 := blk_frozen BK136.out 1; have hfz34_2 := blk_frozen BK136.out 2))
               have n0_ : Aside0 ((((w33.setCell ⟨gb136, 0, none⟩ (.int .i64 ((rd_T34 l0 x3_1).f0))).setCell ⟨gb136, 1, none⟩ (.string ((rd_T34 l0 x3_1).f1))).setCell ⟨gb136, 2, none⟩ (.string ((rd_T34 l0 x3_1).f2))).heap[gb136]? = some (.cells #[.int .i64 ((rd_T34 l0 x3_1).f0), .string ((rd_T34 l0 x3_1).f1), .string ((rd_T34 l0 x3_1).f2)] 34 (0, 0))) := ⟨by refine pk ?_; refine blk_put (cs := #[.int .i64 ((rd_T34 l0 x3_1).f0), .string ((rd_T34 l0 x3_1).f1), .string (⟨#[]⟩ : ByteArray)]) ?_ 2 _ rfl; refine pk ?_; refine blk_put (cs := #[.int .i64 ((rd_T34 l0 x3_1).f0), .string (⟨#[]⟩ : ByteArray), .string (⟨#[]⟩ : ByteArray)]) ?_ 1 _ rfl; refine pk ?_; refine blk_put (cs := #[.int .i64 0, .string (⟨#[]⟩ : ByteArray), .string (⟨#[]⟩ : ByteArray)]) ?_ 0 _ rfl; refine pk ?_; exact BK136.out⟩
               have n1_ : Aside0 (Below w.heap.size w (((w33.setCell ⟨gb136, 0, none⟩ (.int .i64 ((rd_T34 l0 x3_1).f0))).setCell ⟨gb136, 1, none⟩ (.string ((rd_T34 l0 x3_1).f1))).setCell ⟨gb136, 2, none⟩ (.string ((rd_T34 l0 x3_1).f2)))) := ⟨by repeat (first | (with_reducible first | exact HB.out | apply below_alloc | apply pw_below_drewN | apply below_drew1 | refine below_set ?_ GE136.out) | exact HB.out)⟩
               (try clear BK136)
               (try clear HB)
               generalize (((w33.setCell ⟨gb136, 0, none⟩ (.int .i64 ((rd_T34 l0 x3_1).f0))).setCell ⟨gb136, 1, none⟩ (.string ((rd_T34 l0 x3_1).f1))).setCell ⟨gb136, 2, none⟩ (.string ((rd_T34 l0 x3_1).f2))) = w35 at n0_ n1_ ⊢
               have BK136 := n0_
               have HB := n1_
               clear n0_ n1_
               replace BK136 := am (blk_drew BK136.out)
               replace HB := am (below_drew1 HB.out)
               have p138 : 0 ≤ ((ji28) : Int) := of_decide_eq_true (by first | (with_reducible assumption) | assumption)
               have q138 : (ji28) < (l0.length : Int) := of_decide_eq_true (by first | (with_reducible assumption) | assumption)
               obtain ⟨ad138, e138, hx138_0, hx138_1, hx138_2⟩ := at_T34 HR0.out (ji28) p138 q138
               have hw138_2 := hx138_2
               have hw138_1 := hx138_1
               have hw138_0 := hx138_0
               obtain rfl : ad135 = ad138 := (by injection e138)
               replace hx138_0 := (HB.out.cell (World.block_lt_of_cell? w _ hx138_0)).trans hx138_0
               replace hx138_1 := (HB.out.cell (World.block_lt_of_cell? w _ hx138_1)).trans hx138_1
               replace hx138_2 := (HB.out.cell (World.block_lt_of_cell? w _ hx138_2)).trans hx138_2
               replace p138 := eq_true p138
               replace q138 := eq_true q138
               refine start_ (n := 40) (S := fun w' => w'.cell? ⟨gb136, 0, none⟩ = some (.int .i64 ((rd_T34 l0 x3_1).f0)) ∧ w'.cell? ⟨gb136, 1, none⟩ = some (.string ((rd_T34 l0 x3_1).f1)) ∧ w'.cell? ⟨gb136, 2, none⟩ = some (.string ((rd_T34 l0 x3_1).f2)) ∧ w'.cell? (ad135.add (((ji28)).toNat * 3)) = some (.int .i64 ((rd_T34 l0 (ji28)).f0)) ∧ w'.cell? ⟨(ad135.add (((ji28)).toNat * 3)).block, (ad135.add (((ji28)).toNat * 3)).off + 1, none⟩ = some (.string ((rd_T34 l0 (ji28)).f1)) ∧ w'.cell? ⟨(ad135.add (((ji28)).toNat * 3)).block, (ad135.add (((ji28)).toNat * 3)).off + 2, none⟩ = some (.string ((rd_T34 l0 (ji28)).f2))) (ds := []) b16_0 (by kernel_rfl) rfl rfl ⟨bc BK136.out 0, bc BK136.out 1, bc BK136.out 2, ((HB.out.cell (World.block_lt_of_cell? _ _ hw138_0)).trans hw138_0), ((HB.out.cell (World.block_lt_of_cell? _ _ hw138_1)).trans hw138_1), ((HB.out.cell (World.block_lt_of_cell? _ _ hw138_2)).trans hw138_2)⟩ (fun hHeld => ?_); refine with_tabW spec_KeysRight.tab7 spec_KeysRight.bits7 (fun HT_ HW_ => ?_)
               generalize w35.drew = w36 at BK136 HB hx138_0 hx138_1 hx138_2 hHeld ⊢
               refine pu_ 0 (some 18) ?_ b16_1 rfl rfl HT_.out (by kernel_rfl) (fun _ _ _ h => h) (Or.inl ⟨by rfl, ?_⟩) ?_ ?_ ?_; rotate_left
               ·intro w'; go_simp; with_reducible rfl
               rotate_left
               ·simp only [Act.put, sa_, s0_, ss_, i64_w, i32_w]; rfl
               refine tk_ 1 (some 19) ?_ b16_2 rfl rfl HT_.out HW_.out (by kernel_rfl) (fun _ _ _ h => h) (Or.inl ⟨by rfl, ?_⟩) hHeld ?_ ?_ ?_; rotate_left
               ·rintro w' ⟨s0, s1, s2, s3, s4, s5⟩; go_simp; with_reducible rfl
               rotate_left
               ·simp only [Act.put, sa_, s0_, ss_, i64_w, i32_w]; rfl
               refine pu_ 2 (some 20) ?_ b16_3 rfl rfl HT_.out (by kernel_rfl) (fun _ _ _ h => h) (Or.inl ⟨by rfl, ?_⟩) ?_ ?_ ?_; rotate_left
               ·intro w'; go_simp; with_reducible rfl
               rotate_left
               ·simp only [Act.put, sa_, s0_, ss_, i64_w, i32_w]; rfl
               refine pu_ 3 (some 21) ?_ b16_4 rfl rfl HT_.out (by kernel_rfl) (fun _ _ _ h => h) (Or.inl ⟨by rfl, ?_⟩) ?_ ?_ ?_; rotate_left
               ·intro w'; go_simp; with_reducible rfl
               rotate_left
               ·simp only [Act.put, sa_, s0_, ss_, i64_w, i32_w]; rfl
               refine pu_ 4 (some 22) ?_ b16_5 rfl rfl HT_.out (by kernel_rfl) (fun _ _ _ h => h) (Or.inl ⟨by rfl, ?_⟩) ?_ ?_ ?_; rotate_left
               ·intro w'; go_simp; with_reducible rfl
               rotate_left
               ·simp only [Act.put, sa_, s0_, ss_, i64_w, i32_w]; rfl
               refine tk_ 5 (some 23) ?_ b16_6 rfl rfl HT_.out HW_.out (by kernel_rfl) (fun _ _ _ h => h) (Or.inl ⟨by rfl, ?_⟩) hHeld ?_ ?_ ?_; rotate_left
               ·rintro w' ⟨s0, s1, s2, s3, s4, s5⟩; go_simp; with_reducible rfl
               rotate_left
               ·simp only [Act.put, sa_, s0_, ss_, i64_w, i32_w]; rfl
               refine pu_ 6 (some 24) ?_ b16_7 rfl rfl HT_.out (by kernel_rfl) (fun _ _ _ h => h) (Or.inl ⟨by rfl, ?_⟩) ?_ ?_ ?_; rotate_left
               ·intro w'; go_simp; with_reducible rfl
               rotate_left
               ·simp only [Act.put, sa_, s0_, ss_, i64_w, i32_w]; rfl
               refine pu_ 7 (some 25) ?_ b16_8 rfl rfl HT_.out (by kernel_rfl) (fun _ _ _ h => h) (Or.inl ⟨by rfl, ?_⟩) ?_ ?_ ?_; rotate_left
               ·intro w'; go_simp; with_reducible rfl
               rotate_left
               ·simp only [Act.put, sa_, s0_, ss_, i64_w, i32_w]; rfl
               refine pu_ 8 (some 26) ?_ b16_9 rfl rfl HT_.out (by kernel_rfl) (fun _ _ _ h => h) (Or.inl ⟨by rfl, ?_⟩) ?_ ?_ ?_; rotate_left
               ·intro w'; go_simp; with_reducible rfl
               rotate_left
               ·simp only [Act.put, sa_, s0_, ss_, i64_w, i32_w]; rfl
               refine pu_ 9 (some 27) ?_ b16_10 rfl rfl HT_.out (by kernel_rfl) (fun _ _ _ h => h) (Or.inl ⟨by rfl, ?_⟩) ?_ ?_ ?_; rotate_left
               ·intro w'; go_simp; with_reducible rfl
               rotate_left
               ·simp only [Act.put, sa_, s0_, ss_, i64_w, i32_w]; rfl
               refine tk_ 10 (some 28) ?_ b16_11 rfl rfl HT_.out HW_.out (by kernel_rfl) (fun _ _ _ h => h) (Or.inl ⟨by rfl, ?_⟩) hHeld ?_ ?_ ?_; rotate_left
               ·rintro w' ⟨s0, s1, s2, s3, s4, s5⟩; go_simp; with_reducible rfl
               rotate_left
               ·simp only [Act.put, sa_, s0_, ss_, i64_w, i32_w]; rfl
               refine pu_ 11 (some 29) ?_ b16_12 rfl rfl HT_.out (by kernel_rfl) (fun _ _ _ h => h) (Or.inl ⟨by rfl, ?_⟩) ?_ ?_ ?_; rotate_left
               ·intro w'; go_simp; with_reducible rfl
               rotate_left
               ·simp only [Act.put, sa_, s0_, ss_, i64_w, i32_w]; rfl
               refine pu_ 12 (some 30) ?_ b16_13 rfl rfl HT_.out (by kernel_rfl) (fun _ _ _ h => h) (Or.inl ⟨by rfl, ?_⟩) ?_ ?_ ?_; rotate_left
               ·intro w'; go_simp; with_reducible rfl
               rotate_left
               ·simp only [Act.put, sa_, s0_, ss_, i64_w, i32_w]; rfl
               refine pu_ 13 (some 31) ?_ b16_14 rfl rfl HT_.out (by kernel_rfl) (fun _ _ _ h => h) (Or.inl ⟨by rfl, ?_⟩) ?_ ?_ ?_; rotate_left
               ·intro w'; go_simp; with_reducible rfl
               rotate_left
               ·simp only [Act.put, sa_, s0_, ss_, i64_w, i32_w]; rfl
               refine pu_ 14 (some 32) ?_ b16_15 rfl rfl HT_.out (by kernel_rfl) (fun _ _ _ h => h) (Or.inl ⟨by rfl, ?_⟩) ?_ ?_ ?_; rotate_left
               ·intro w'; go_simp; with_reducible rfl
               rotate_left
               ·simp only [Act.put, sa_, s0_, ss_, i64_w, i32_w]; rfl
               refine pu_ 15 (some 33) ?_ b16_16 rfl rfl HT_.out (by kernel_rfl) (fun _ _ _ h => h) (Or.inl ⟨by rfl, ?_⟩) ?_ ?_ ?_; rotate_left
               ·intro w'; go_simp; with_reducible rfl
               rotate_left
               ·simp only [Act.put, sa_, s0_, ss_, i64_w, i32_w]; rfl
               refine tk_ 16 (some 34) ?_ b16_17 rfl rfl HT_.out HW_.out (by kernel_rfl) (fun _ _ _ h => h) (Or.inl ⟨by rfl, ?_⟩) hHeld ?_ ?_ ?_; rotate_left
               ·rintro w' ⟨s0, s1, s2, s3, s4, s5⟩; go_simp; with_reducible rfl
               rotate_left
               ·simp only [Act.put, sa_, s0_, ss_, i64_w, i32_w]; rfl
               refine pu_ 17 (some 35) ?_ b16_18 rfl rfl HT_.out (by kernel_rfl) (fun _ _ _ h => h) (Or.inl ⟨by rfl, ?_⟩) ?_ ?_ ?_; rotate_left
               ·intro w'; go_simp; with_reducible rfl
               rotate_left
               ·simp only [Act.put, sa_, s0_, ss_, i64_w, i32_w]; rfl
               refine pu_ 18 (some 36) ?_ b16_19 rfl rfl HT_.out (by kernel_rfl) (fun _ _ _ h => h) (Or.inl ⟨by rfl, ?_⟩) ?_ ?_ ?_; rotate_left
               ·intro w'; go_simp; with_reducible rfl
               rotate_left
               ·simp only [Act.put, sa_, s0_, ss_, i64_w, i32_w]; rfl
               refine pu_ 19 (some 37) ?_ b16_20 rfl rfl HT_.out (by kernel_rfl) (fun _ _ _ h => h) (Or.inl ⟨by rfl, ?_⟩) ?_ ?_ ?_; rotate_left
               ·intro w'; go_simp; with_reducible rfl
               rotate_left
               ·simp only [Act.put, sa_, s0_, ss_, i64_w, i32_w]; rfl
               refine pu_ 20 (some 38) ?_ b16_21 rfl rfl HT_.out (by kernel_rfl) (fun _ _ _ h => h) (Or.inl ⟨by rfl, ?_⟩) ?_ ?_ ?_; rotate_left
               ·intro w'; go_simp; with_reducible rfl
               rotate_left
               ·simp only [Act.put, sa_, s0_, ss_, i64_w, i32_w]; rfl
               refine pu_ 21 (some 39) ?_ b16_22 rfl rfl HT_.out (by kernel_rfl) (fun _ _ _ h => h) (Or.inl ⟨by rfl, ?_⟩) ?_ ?_ ?_; rotate_left
               ·intro w'; go_simp; with_reducible rfl
               rotate_left
               ·simp only [Act.put, sa_, s0_, ss_, i64_w, i32_w]; rfl
               refine tk_ 22 (some 40) ?_ b16_23 rfl rfl HT_.out HW_.out (by kernel_rfl) (fun _ _ _ h => h) (Or.inl ⟨by rfl, ?_⟩) hHeld ?_ ?_ ?_; rotate_left
               ·rintro w' ⟨s0, s1, s2, s3, s4, s5⟩; go_simp; with_reducible rfl
               rotate_left
               ·simp only [Act.put, sa_, s0_, ss_, i64_w, i32_w]; rfl
               refine one_ (i := 23) (N := some 41) b16_24 rfl rfl (one_of HT_.out (by kernel_rfl)) (by decide) (fun K hK => ?_)
               refine gs_ Try.func30 #[.string ((rd_T34 l0 x3_1).f2)] ?_
               with_reducible refine (spec_l07Name.calls k1 ((rd_T34 l0 x3_1).f2) true _ A25.out).mono ?_
               rintro e w' ⟨rfl, ⟨nd, rfl⟩⟩
               refine ⟨_, rfl, ?_⟩
               refine hK.out _ _ ⟨bc BK136.out 0, bc BK136.out 1, bc BK136.out 2, ((HB.out.cell (World.block_lt_of_cell? _ _ hw138_0)).trans hw138_0), ((HB.out.cell (World.block_lt_of_cell? _ _ hw138_1)).trans hw138_1), ((HB.out.cell (World.block_lt_of_cell? _ _ hw138_2)).trans hw138_2)⟩ (fun hHeld => ?_)
               clear hK K
               refine norm_ (a' := ?_) ?_ ?_
               rotate_left
               ·show Act.put _ (some 41) _ = _
                simp only [Act.put, sa_, s0_, ss_, i64_w, i32_w]
                rfl
               refine pu_ 24 (some 42) ?_ b16_25 rfl rfl HT_.out (by kernel_rfl) (fun _ _ _ h => h) (Or.inl ⟨by rfl, ?_⟩) ?_ ?_ ?_; rotate_left
               ·intro w'; go_simp; with_reducible rfl
               rotate_left
               ·simp only [Act.put, sa_, s0_, ss_, i64_w, i32_w]; rfl
               refine pu_ 25 (some 43) ?_ b16_26 rfl rfl HT_.out (by kernel_rfl) (fun _ _ _ h => h) (Or.inl ⟨by rfl, ?_⟩) ?_ ?_ ?_; rotate_left
               ·intro w'; go_simp; with_reducible rfl
               rotate_left
               ·simp only [Act.put, sa_, s0_, ss_, i64_w, i32_w]; rfl
               refine pu_ 26 (some 44) ?_ b16_27 rfl rfl HT_.out (by kernel_rfl) (fun _ _ _ h => h) (Or.inl ⟨by rfl, ?_⟩) ?_ ?_ ?_; rotate_left
               ·intro w'; go_simp; with_reducible rfl
               rotate_left
               ·simp only [Act.put, sa_, s0_, ss_, i64_w, i32_w]; rfl
               refine pu_ 27 (some 45) ?_ b16_28 rfl rfl HT_.out (by kernel_rfl) (fun _ _ _ h => h) (Or.inl ⟨by rfl, ?_⟩) ?_ ?_ ?_; rotate_left
               ·intro w'; go_simp; with_reducible rfl
               rotate_left
               ·simp only [Act.put, sa_, s0_, ss_, i64_w, i32_w]; rfl
               refine pu_ 28 (some 46) ?_ b16_29 rfl rfl HT_.out (by kernel_rfl) (fun _ _ _ h => h) (Or.inl ⟨by rfl, ?_⟩) ?_ ?_ ?_; rotate_left
               ·intro w'; go_simp; with_reducible rfl
               rotate_left
               ·simp only [Act.put, sa_, s0_, ss_, i64_w, i32_w]; rfl
               refine pu_ 29 (some 47) ?_ b16_30 rfl rfl HT_.out (by kernel_rfl) (fun _ _ _ h => h) (Or.inl ⟨by rfl, ?_⟩) ?_ ?_ ?_; rotate_left
               ·intro w'; go_simp; with_reducible rfl
               rotate_left
               ·simp only [Act.put, sa_, s0_, ss_, i64_w, i32_w]; rfl
               refine pu_ 30 (some 48) ?_ b16_31 rfl rfl HT_.out (by kernel_rfl) (fun _ _ _ h => h) (Or.inl ⟨by rfl, ?_⟩) ?_ ?_ ?_; rotate_left
               ·intro w'; go_simp; with_reducible rfl
               rotate_left
               ·simp only [Act.put, sa_, s0_, ss_, i64_w, i32_w]; rfl
               refine pu_ 31 (some 49) ?_ b16_32 rfl rfl HT_.out (by kernel_rfl) (fun _ _ _ h => h) (Or.inl ⟨by rfl, ?_⟩) ?_ ?_ ?_; rotate_left
               ·intro w'; go_simp; with_reducible rfl
               rotate_left
               ·simp only [Act.put, sa_, s0_, ss_, i64_w, i32_w]; rfl
               refine pu_ 32 (some 50) ?_ b16_33 rfl rfl HT_.out (by kernel_rfl) (fun _ _ _ h => h) (Or.inl ⟨by rfl, ?_⟩) ?_ ?_ ?_; rotate_left
               ·intro w'; go_simp; with_reducible rfl
               rotate_left
               ·simp only [Act.put, sa_, s0_, ss_, i64_w, i32_w]; rfl
               refine pu_ 33 (some 51) ?_ b16_34 rfl rfl HT_.out (by kernel_rfl) (fun _ _ _ h => h) (Or.inl ⟨by rfl, ?_⟩) ?_ ?_ ?_; rotate_left
               ·intro w'; go_simp; with_reducible rfl
               rotate_left
               ·simp only [Act.put, sa_, s0_, ss_, i64_w, i32_w]; rfl
               refine tk_ 34 (some 52) ?_ b16_35 rfl rfl HT_.out HW_.out (by kernel_rfl) (fun _ _ _ h => h) (Or.inl ⟨by rfl, ?_⟩) hHeld ?_ ?_ ?_; rotate_left
               ·rintro w' ⟨s0, s1, s2, s3, s4, s5⟩; go_simp; with_reducible rfl
               rotate_left
               ·simp only [Act.put, sa_, s0_, ss_, i64_w, i32_w]; rfl
               refine tk_ 35 (some 53) ?_ b16_36 rfl rfl HT_.out HW_.out (by kernel_rfl) (fun _ _ _ h => h) (Or.inl ⟨by rfl, ?_⟩) hHeld ?_ ?_ ?_; rotate_left
               ·rintro w' ⟨s0, s1, s2, s3, s4, s5⟩; go_simp; with_reducible rfl
               rotate_left
               ·simp only [Act.put, sa_, s0_, ss_, i64_w, i32_w]; rfl
               refine one_ (i := 36) (N := some 54) b16_37 rfl rfl (one_of HT_.out (by kernel_rfl)) (by decide) (fun K hK => ?_)
               refine goes_ Try.func25 (by kernel_rfl) rfl #[.agg #[.int .i64 ((rd_T34 l0 (ji28)).f0), .string ((rd_T34 l0 (ji28)).f1), .string ((rd_T34 l0 (ji28)).f2)], .agg #[.int .i64 ((rd_T34 l0 x3_1).f0), .string ((rd_T34 l0 x3_1).f1), .string ((rd_T34 l0 x3_1).f2)]] (by rfl) rfl rfl (by (try simp only [List.map_toArray, List.map_cons, List.map_nil]); first | done | (simp only [hji28]; rfl) | rfl | (simp only [List.length_drop, List.length_take]; rfl)) ?_
               with_reducible refine (spec_l07Before.calls ((rd_T34 l0 (ji28)).f0) ((rd_T34 l0 (ji28)).f1) ((rd_T34 l0 (ji28)).f2) ((rd_T34 l0 x3_1).f0) ((rd_T34 l0 x3_1).f1) ((rd_T34 l0 x3_1).f2) true _ A31.out).mono ?_
               rintro e w37 ⟨rfl, hb⟩
               refine ⟨_, rfl, ?_⟩
               replace BK136 := am (blk_below (pk BK136.out) hb)
               replace HB := am (below_step (bl HB.out) hb)
               (try clear hb)
               (try clear hb2)
               (try clear hk)
               (try clear hi)
               refine hK.out _ _ ⟨bc BK136.out 0, bc BK136.out 1, bc BK136.out 2, ((HB.out.cell (World.block_lt_of_cell? _ _ hw138_0)).trans hw138_0), ((HB.out.cell (World.block_lt_of_cell? _ _ hw138_1)).trans hw138_1), ((HB.out.cell (World.block_lt_of_cell? _ _ hw138_2)).trans hw138_2)⟩ (fun hHeld => ?_)
               clear hK K
               refine norm_ (a' := ?_) ?_ ?_
               rotate_left
               ·show Act.put _ (some 54) _ = _
                simp only [Act.put, sa_, s0_, ss_, i64_w, i32_w]
                rfl
               refine pu_ 37 (some 55) ?_ b16_38 rfl rfl HT_.out (by kernel_rfl) (fun _ _ _ h => h) (Or.inl ⟨by rfl, ?_⟩) ?_ ?_ ?_; rotate_left
               ·intro w'; go_simp; with_reducible rfl
               rotate_left
               ·simp only [Act.put, sa_, s0_, ss_, i64_w, i32_w]; rfl
               refine pu_ 38 (some 56) ?_ b16_39 rfl rfl HT_.out (by kernel_rfl) (fun _ _ _ h => h) (Or.inl ⟨by rfl, ?_⟩) ?_ ?_ ?_; rotate_left
               ·intro w'; go_simp; with_reducible rfl
               rotate_left
               ·simp only [Act.put, sa_, s0_, ss_, i64_w, i32_w]; rfl
               refine pu_ 39 (some 57) ?_ b16_40 rfl rfl HT_.out (by kernel_rfl) (fun _ _ _ h => h) (Or.inl ⟨by rfl, ?_⟩) ?_ ?_ ?_; rotate_left
               ·intro w'; go_simp; with_reducible rfl
               rotate_left
               ·simp only [Act.put, sa_, s0_, ss_, i64_w, i32_w]; rfl
               refine done_ (done_of HT_.out (by kernel_rfl)) ?_
               (try (rw [drewN_self w37]; generalize hq_ : World.drewN w37 _ = w37; replace BK136 := am (blk_at hq_ BK136.out); replace HB := am (below_at hq_ HB.out); clear hq_))
               try go_wp2
               go_roundg k1
               case measure => have := HK1.out; omega
               case rel => exact ⟨(wrap64 (x3_1 + 1)), (by first | rfl | (simp; done) | (simp [*]; done)), H', ⟨by have := HK1.out; omega⟩, ⟨by repeat (first | (with_reducible first | exact HB.out | apply below_alloc | apply pw_below_drewN | apply below_drew1 | refine below_set ?_ GE136.out) | exact HB.out)⟩⟩
              ·replace c32 := Bool.eq_false_iff.mpr c32
               subst c32
               have H1 : (some false) = some r := by rw [if_neg (show ¬ (false = true) by decide)] at H; exact H
               clear H
               have H := H1
               clear H1
               obtain rfl := Option.some.inj H
               have p135 : 0 ≤ (x3_1 : Int) := of_decide_eq_true (by first | (with_reducible assumption) | assumption)
               have q135 : x3_1 < (l0.length : Int) := of_decide_eq_true (by first | (with_reducible assumption) | assumption)
               obtain ⟨ad135, e135, hx135_0, hx135_1, hx135_2⟩ := at_T34 HR0.out x3_1 p135 q135
               cases e135
               replace hx135_0 := (HB.out.cell (World.block_lt_of_cell? w _ hx135_0)).trans hx135_0
               replace hx135_1 := (HB.out.cell (World.block_lt_of_cell? w _ hx135_1)).trans hx135_1
               replace hx135_2 := (HB.out.cell (World.block_lt_of_cell? w _ hx135_2)).trans hx135_2
               replace p135 := eq_true p135
               replace q135 := eq_true q135
               try go_wp2_with (first | ((with_reducible refine gate_dst (N := 4) rfl ?_); (try (refine gate_guard (by rfl) ?_; dsimp only)); refine box_event ?hg (N := 4) ?hd (cs := #[.int .i64 0, .string (⟨#[]⟩ : ByteArray), .string (⟨#[]⟩ : ByteArray)]) (t := 34) ?hr ?_; (case hd => rfl); (case hg => rfl); (case hr => first | (go_simp; done) | (go_simp; rfl)); intro gb136 hg w38 hbox hb; have BK136 := am (hbox); have GW136 := am ((by rw [hg]; exact (below_size (bl HB.out)) : w.heap.size ≤ gb136)); have GE136 := GW136; replace HB := am (below_step (bl HB.out) hb); clear hb hbox hg; have hcz39_0 : w38.cell? ⟨gb136, 0, none⟩ = some (.int .i64 0) := bc BK136.out 0; have hcz39_1 : w38.cell? ⟨gb136, 1, none⟩ = some (.string (⟨#[]⟩ : ByteArray)) := bc BK136.out 1; have hcz39_2 : w38.cell? ⟨gb136, 2, none⟩ = some (.string (⟨#[]⟩ : ByteArray)) := bc BK136.out 2; have hfz39_0 := blk_frozen BK136.out 0; have hfz39_1 := blk_frozen BK136.out 1; have hfz39_2 := blk_frozen BK136.out 2))
               have n0_ : Aside0 ((((w38.setCell ⟨gb136, 0, none⟩ (.int .i64 ((rd_T34 l0 x3_1).f0))).setCell ⟨gb136, 1, none⟩ (.string ((rd_T34 l0 x3_1).f1))).setCell ⟨gb136, 2, none⟩ (.string ((rd_T34 l0 x3_1).f2))).heap[gb136]? = some (.cells #[.int .i64 ((rd_T34 l0 x3_1).f0), .string ((rd_T34 l0 x3_1).f1), .string ((rd_T34 l0 x3_1).f2)] 34 (0, 0))) := ⟨by refine pk ?_; refine blk_put (cs := #[.int .i64 ((rd_T34 l0 x3_1).f0), .string ((rd_T34 l0 x3_1).f1), .string (⟨#[]⟩ : ByteArray)]) ?_ 2 _ rfl; refine pk ?_; refine blk_put (cs := #[.int .i64 ((rd_T34 l0 x3_1).f0), .string (⟨#[]⟩ : ByteArray), .string (⟨#[]⟩ : ByteArray)]) ?_ 1 _ rfl; refine pk ?_; refine blk_put (cs := #[.int .i64 0, .string (⟨#[]⟩ : ByteArray), .string (⟨#[]⟩ : ByteArray)]) ?_ 0 _ rfl; refine pk ?_; exact BK136.out⟩
               have n1_ : Aside0 (Below w.heap.size w (((w38.setCell ⟨gb136, 0, none⟩ (.int .i64 ((rd_T34 l0 x3_1).f0))).setCell ⟨gb136, 1, none⟩ (.string ((rd_T34 l0 x3_1).f1))).setCell ⟨gb136, 2, none⟩ (.string ((rd_T34 l0 x3_1).f2)))) := ⟨by repeat (first | (with_reducible first | exact HB.out | apply below_alloc | apply pw_below_drewN | apply below_drew1 | refine below_set ?_ GE136.out) | exact HB.out)⟩
               (try clear BK136)
               (try clear HB)
               generalize (((w38.setCell ⟨gb136, 0, none⟩ (.int .i64 ((rd_T34 l0 x3_1).f0))).setCell ⟨gb136, 1, none⟩ (.string ((rd_T34 l0 x3_1).f1))).setCell ⟨gb136, 2, none⟩ (.string ((rd_T34 l0 x3_1).f2))) = w40 at n0_ n1_ ⊢
               have BK136 := n0_
               have HB := n1_
               clear n0_ n1_
               replace BK136 := am (blk_drew BK136.out)
               replace HB := am (below_drew1 HB.out)
               have p138 : 0 ≤ ((ji28) : Int) := of_decide_eq_true (by first | (with_reducible assumption) | assumption)
               have q138 : (ji28) < (l0.length : Int) := of_decide_eq_true (by first | (with_reducible assumption) | assumption)
               obtain ⟨ad138, e138, hx138_0, hx138_1, hx138_2⟩ := at_T34 HR0.out (ji28) p138 q138
               have hw138_2 := hx138_2
               have hw138_1 := hx138_1
               have hw138_0 := hx138_0
               obtain rfl : ad135 = ad138 := (by injection e138)
               replace hx138_0 := (HB.out.cell (World.block_lt_of_cell? w _ hx138_0)).trans hx138_0
               replace hx138_1 := (HB.out.cell (World.block_lt_of_cell? w _ hx138_1)).trans hx138_1
               replace hx138_2 := (HB.out.cell (World.block_lt_of_cell? w _ hx138_2)).trans hx138_2
               replace p138 := eq_true p138
               replace q138 := eq_true q138
               refine start_ (n := 40) (S := fun w' => w'.cell? ⟨gb136, 0, none⟩ = some (.int .i64 ((rd_T34 l0 x3_1).f0)) ∧ w'.cell? ⟨gb136, 1, none⟩ = some (.string ((rd_T34 l0 x3_1).f1)) ∧ w'.cell? ⟨gb136, 2, none⟩ = some (.string ((rd_T34 l0 x3_1).f2)) ∧ w'.cell? (ad135.add (((ji28)).toNat * 3)) = some (.int .i64 ((rd_T34 l0 (ji28)).f0)) ∧ w'.cell? ⟨(ad135.add (((ji28)).toNat * 3)).block, (ad135.add (((ji28)).toNat * 3)).off + 1, none⟩ = some (.string ((rd_T34 l0 (ji28)).f1)) ∧ w'.cell? ⟨(ad135.add (((ji28)).toNat * 3)).block, (ad135.add (((ji28)).toNat * 3)).off + 2, none⟩ = some (.string ((rd_T34 l0 (ji28)).f2))) (ds := []) b16_0 (by kernel_rfl) rfl rfl ⟨bc BK136.out 0, bc BK136.out 1, bc BK136.out 2, ((HB.out.cell (World.block_lt_of_cell? _ _ hw138_0)).trans hw138_0), ((HB.out.cell (World.block_lt_of_cell? _ _ hw138_1)).trans hw138_1), ((HB.out.cell (World.block_lt_of_cell? _ _ hw138_2)).trans hw138_2)⟩ (fun hHeld => ?_); refine with_tabW spec_KeysRight.tab7 spec_KeysRight.bits7 (fun HT_ HW_ => ?_)
               generalize w40.drew = w41 at BK136 HB hx138_0 hx138_1 hx138_2 hHeld ⊢
               refine pu_ 0 (some 18) ?_ b16_1 rfl rfl HT_.out (by kernel_rfl) (fun _ _ _ h => h) (Or.inl ⟨by rfl, ?_⟩) ?_ ?_ ?_; rotate_left
               ·intro w'; go_simp; with_reducible rfl
               rotate_left
               ·simp only [Act.put, sa_, s0_, ss_, i64_w, i32_w]; rfl
               refine tk_ 1 (some 19) ?_ b16_2 rfl rfl HT_.out HW_.out (by kernel_rfl) (fun _ _ _ h => h) (Or.inl ⟨by rfl, ?_⟩) hHeld ?_ ?_ ?_; rotate_left
               ·rintro w' ⟨s0, s1, s2, s3, s4, s5⟩; go_simp; with_reducible rfl
               rotate_left
               ·simp only [Act.put, sa_, s0_, ss_, i64_w, i32_w]; rfl
               refine pu_ 2 (some 20) ?_ b16_3 rfl rfl HT_.out (by kernel_rfl) (fun _ _ _ h => h) (Or.inl ⟨by rfl, ?_⟩) ?_ ?_ ?_; rotate_left
               ·intro w'; go_simp; with_reducible rfl
               rotate_left
               ·simp only [Act.put, sa_, s0_, ss_, i64_w, i32_w]; rfl
               refine pu_ 3 (some 21) ?_ b16_4 rfl rfl HT_.out (by kernel_rfl) (fun _ _ _ h => h) (Or.inl ⟨by rfl, ?_⟩) ?_ ?_ ?_; rotate_left
               ·intro w'; go_simp; with_reducible rfl
               rotate_left
               ·simp only [Act.put, sa_, s0_, ss_, i64_w, i32_w]; rfl
               refine pu_ 4 (some 22) ?_ b16_5 rfl rfl HT_.out (by kernel_rfl) (fun _ _ _ h => h) (Or.inl ⟨by rfl, ?_⟩) ?_ ?_ ?_; rotate_left
               ·intro w'; go_simp; with_reducible rfl
               rotate_left
               ·simp only [Act.put, sa_, s0_, ss_, i64_w, i32_w]; rfl
               refine tk_ 5 (some 23) ?_ b16_6 rfl rfl HT_.out HW_.out (by kernel_rfl) (fun _ _ _ h => h) (Or.inl ⟨by rfl, ?_⟩) hHeld ?_ ?_ ?_; rotate_left
               ·rintro w' ⟨s0, s1, s2, s3, s4, s5⟩; go_simp; with_reducible rfl
               rotate_left
               ·simp only [Act.put, sa_, s0_, ss_, i64_w, i32_w]; rfl
               refine pu_ 6 (some 24) ?_ b16_7 rfl rfl HT_.out (by kernel_rfl) (fun _ _ _ h => h) (Or.inl ⟨by rfl, ?_⟩) ?_ ?_ ?_; rotate_left
               ·intro w'; go_simp; with_reducible rfl
               rotate_left
               ·simp only [Act.put, sa_, s0_, ss_, i64_w, i32_w]; rfl
               refine pu_ 7 (some 25) ?_ b16_8 rfl rfl HT_.out (by kernel_rfl) (fun _ _ _ h => h) (Or.inl ⟨by rfl, ?_⟩) ?_ ?_ ?_; rotate_left
               ·intro w'; go_simp; with_reducible rfl
               rotate_left
               ·simp only [Act.put, sa_, s0_, ss_, i64_w, i32_w]; rfl
               refine pu_ 8 (some 26) ?_ b16_9 rfl rfl HT_.out (by kernel_rfl) (fun _ _ _ h => h) (Or.inl ⟨by rfl, ?_⟩) ?_ ?_ ?_; rotate_left
               ·intro w'; go_simp; with_reducible rfl
               rotate_left
               ·simp only [Act.put, sa_, s0_, ss_, i64_w, i32_w]; rfl
               refine pu_ 9 (some 27) ?_ b16_10 rfl rfl HT_.out (by kernel_rfl) (fun _ _ _ h => h) (Or.inl ⟨by rfl, ?_⟩) ?_ ?_ ?_; rotate_left
               ·intro w'; go_simp; with_reducible rfl
               rotate_left
               ·simp only [Act.put, sa_, s0_, ss_, i64_w, i32_w]; rfl
               refine tk_ 10 (some 28) ?_ b16_11 rfl rfl HT_.out HW_.out (by kernel_rfl) (fun _ _ _ h => h) (Or.inl ⟨by rfl, ?_⟩) hHeld ?_ ?_ ?_; rotate_left
               ·rintro w' ⟨s0, s1, s2, s3, s4, s5⟩; go_simp; with_reducible rfl
               rotate_left
               ·simp only [Act.put, sa_, s0_, ss_, i64_w, i32_w]; rfl
               refine pu_ 11 (some 29) ?_ b16_12 rfl rfl HT_.out (by kernel_rfl) (fun _ _ _ h => h) (Or.inl ⟨by rfl, ?_⟩) ?_ ?_ ?_; rotate_left
               ·intro w'; go_simp; with_reducible rfl
               rotate_left
               ·simp only [Act.put, sa_, s0_, ss_, i64_w, i32_w]; rfl
               refine pu_ 12 (some 30) ?_ b16_13 rfl rfl HT_.out (by kernel_rfl) (fun _ _ _ h => h) (Or.inl ⟨by rfl, ?_⟩) ?_ ?_ ?_; rotate_left
               ·intro w'; go_simp; with_reducible rfl
               rotate_left
               ·simp only [Act.put, sa_, s0_, ss_, i64_w, i32_w]; rfl
               refine pu_ 13 (some 31) ?_ b16_14 rfl rfl HT_.out (by kernel_rfl) (fun _ _ _ h => h) (Or.inl ⟨by rfl, ?_⟩) ?_ ?_ ?_; rotate_left
               ·intro w'; go_simp; with_reducible rfl
               rotate_left
               ·simp only [Act.put, sa_, s0_, ss_, i64_w, i32_w]; rfl
               refine pu_ 14 (some 32) ?_ b16_15 rfl rfl HT_.out (by kernel_rfl) (fun _ _ _ h => h) (Or.inl ⟨by rfl, ?_⟩) ?_ ?_ ?_; rotate_left
               ·intro w'; go_simp; with_reducible rfl
               rotate_left
               ·simp only [Act.put, sa_, s0_, ss_, i64_w, i32_w]; rfl
               refine pu_ 15 (some 33) ?_ b16_16 rfl rfl HT_.out (by kernel_rfl) (fun _ _ _ h => h) (Or.inl ⟨by rfl, ?_⟩) ?_ ?_ ?_; rotate_left
               ·intro w'; go_simp; with_reducible rfl
               rotate_left
               ·simp only [Act.put, sa_, s0_, ss_, i64_w, i32_w]; rfl
               refine tk_ 16 (some 34) ?_ b16_17 rfl rfl HT_.out HW_.out (by kernel_rfl) (fun _ _ _ h => h) (Or.inl ⟨by rfl, ?_⟩) hHeld ?_ ?_ ?_; rotate_left
               ·rintro w' ⟨s0, s1, s2, s3, s4, s5⟩; go_simp; with_reducible rfl
               rotate_left
               ·simp only [Act.put, sa_, s0_, ss_, i64_w, i32_w]; rfl
               refine pu_ 17 (some 35) ?_ b16_18 rfl rfl HT_.out (by kernel_rfl) (fun _ _ _ h => h) (Or.inl ⟨by rfl, ?_⟩) ?_ ?_ ?_; rotate_left
               ·intro w'; go_simp; with_reducible rfl
               rotate_left
               ·simp only [Act.put, sa_, s0_, ss_, i64_w, i32_w]; rfl
               refine pu_ 18 (some 36) ?_ b16_19 rfl rfl HT_.out (by kernel_rfl) (fun _ _ _ h => h) (Or.inl ⟨by rfl, ?_⟩) ?_ ?_ ?_; rotate_left
               ·intro w'; go_simp; with_reducible rfl
               rotate_left
               ·simp only [Act.put, sa_, s0_, ss_, i64_w, i32_w]; rfl
               refine pu_ 19 (some 37) ?_ b16_20 rfl rfl HT_.out (by kernel_rfl) (fun _ _ _ h => h) (Or.inl ⟨by rfl, ?_⟩) ?_ ?_ ?_; rotate_left
               ·intro w'; go_simp; with_reducible rfl
               rotate_left
               ·simp only [Act.put, sa_, s0_, ss_, i64_w, i32_w]; rfl
               refine pu_ 20 (some 38) ?_ b16_21 rfl rfl HT_.out (by kernel_rfl) (fun _ _ _ h => h) (Or.inl ⟨by rfl, ?_⟩) ?_ ?_ ?_; rotate_left
               ·intro w'; go_simp; with_reducible rfl
               rotate_left
               ·simp only [Act.put, sa_, s0_, ss_, i64_w, i32_w]; rfl
               refine pu_ 21 (some 39) ?_ b16_22 rfl rfl HT_.out (by kernel_rfl) (fun _ _ _ h => h) (Or.inl ⟨by rfl, ?_⟩) ?_ ?_ ?_; rotate_left
               ·intro w'; go_simp; with_reducible rfl
               rotate_left
               ·simp only [Act.put, sa_, s0_, ss_, i64_w, i32_w]; rfl
               refine tk_ 22 (some 40) ?_ b16_23 rfl rfl HT_.out HW_.out (by kernel_rfl) (fun _ _ _ h => h) (Or.inl ⟨by rfl, ?_⟩) hHeld ?_ ?_ ?_; rotate_left
               ·rintro w' ⟨s0, s1, s2, s3, s4, s5⟩; go_simp; with_reducible rfl
               rotate_left
               ·simp only [Act.put, sa_, s0_, ss_, i64_w, i32_w]; rfl
               refine one_ (i := 23) (N := some 41) b16_24 rfl rfl (one_of HT_.out (by kernel_rfl)) (by decide) (fun K hK => ?_)
               refine gs_ Try.func30 #[.string ((rd_T34 l0 x3_1).f2)] ?_
               with_reducible refine (spec_l07Name.calls k1 ((rd_T34 l0 x3_1).f2) true _ A25.out).mono ?_
               rintro e w' ⟨rfl, ⟨nd, rfl⟩⟩
               refine ⟨_, rfl, ?_⟩
               refine hK.out _ _ ⟨bc BK136.out 0, bc BK136.out 1, bc BK136.out 2, ((HB.out.cell (World.block_lt_of_cell? _ _ hw138_0)).trans hw138_0), ((HB.out.cell (World.block_lt_of_cell? _ _ hw138_1)).trans hw138_1), ((HB.out.cell (World.block_lt_of_cell? _ _ hw138_2)).trans hw138_2)⟩ (fun hHeld => ?_)
               clear hK K
               refine norm_ (a' := ?_) ?_ ?_
               rotate_left
               ·show Act.put _ (some 41) _ = _
                simp only [Act.put, sa_, s0_, ss_, i64_w, i32_w]
                rfl
               refine pu_ 24 (some 42) ?_ b16_25 rfl rfl HT_.out (by kernel_rfl) (fun _ _ _ h => h) (Or.inl ⟨by rfl, ?_⟩) ?_ ?_ ?_; rotate_left
               ·intro w'; go_simp; with_reducible rfl
               rotate_left
               ·simp only [Act.put, sa_, s0_, ss_, i64_w, i32_w]; rfl
               refine pu_ 25 (some 43) ?_ b16_26 rfl rfl HT_.out (by kernel_rfl) (fun _ _ _ h => h) (Or.inl ⟨by rfl, ?_⟩) ?_ ?_ ?_; rotate_left
               ·intro w'; go_simp; with_reducible rfl
               rotate_left
               ·simp only [Act.put, sa_, s0_, ss_, i64_w, i32_w]; rfl
               refine pu_ 26 (some 44) ?_ b16_27 rfl rfl HT_.out (by kernel_rfl) (fun _ _ _ h => h) (Or.inl ⟨by rfl, ?_⟩) ?_ ?_ ?_; rotate_left
               ·intro w'; go_simp; with_reducible rfl
               rotate_left
               ·simp only [Act.put, sa_, s0_, ss_, i64_w, i32_w]; rfl
               refine pu_ 27 (some 45) ?_ b16_28 rfl rfl HT_.out (by kernel_rfl) (fun _ _ _ h => h) (Or.inl ⟨by rfl, ?_⟩) ?_ ?_ ?_; rotate_left
               ·intro w'; go_simp; with_reducible rfl
               rotate_left
               ·simp only [Act.put, sa_, s0_, ss_, i64_w, i32_w]; rfl
               refine pu_ 28 (some 46) ?_ b16_29 rfl rfl HT_.out (by kernel_rfl) (fun _ _ _ h => h) (Or.inl ⟨by rfl, ?_⟩) ?_ ?_ ?_; rotate_left
               ·intro w'; go_simp; with_reducible rfl
               rotate_left
               ·simp only [Act.put, sa_, s0_, ss_, i64_w, i32_w]; rfl
               refine pu_ 29 (some 47) ?_ b16_30 rfl rfl HT_.out (by kernel_rfl) (fun _ _ _ h => h) (Or.inl ⟨by rfl, ?_⟩) ?_ ?_ ?_; rotate_left
               ·intro w'; go_simp; with_reducible rfl
               rotate_left
               ·simp only [Act.put, sa_, s0_, ss_, i64_w, i32_w]; rfl
               refine pu_ 30 (some 48) ?_ b16_31 rfl rfl HT_.out (by kernel_rfl) (fun _ _ _ h => h) (Or.inl ⟨by rfl, ?_⟩) ?_ ?_ ?_; rotate_left
               ·intro w'; go_simp; with_reducible rfl
               rotate_left
               ·simp only [Act.put, sa_, s0_, ss_, i64_w, i32_w]; rfl
               refine pu_ 31 (some 49) ?_ b16_32 rfl rfl HT_.out (by kernel_rfl) (fun _ _ _ h => h) (Or.inl ⟨by rfl, ?_⟩) ?_ ?_ ?_; rotate_left
               ·intro w'; go_simp; with_reducible rfl
               rotate_left
               ·simp only [Act.put, sa_, s0_, ss_, i64_w, i32_w]; rfl
               refine pu_ 32 (some 50) ?_ b16_33 rfl rfl HT_.out (by kernel_rfl) (fun _ _ _ h => h) (Or.inl ⟨by rfl, ?_⟩) ?_ ?_ ?_; rotate_left
               ·intro w'; go_simp; with_reducible rfl
               rotate_left
               ·simp only [Act.put, sa_, s0_, ss_, i64_w, i32_w]; rfl
               refine pu_ 33 (some 51) ?_ b16_34 rfl rfl HT_.out (by kernel_rfl) (fun _ _ _ h => h) (Or.inl ⟨by rfl, ?_⟩) ?_ ?_ ?_; rotate_left
               ·intro w'; go_simp; with_reducible rfl
               rotate_left
               ·simp only [Act.put, sa_, s0_, ss_, i64_w, i32_w]; rfl
               refine tk_ 34 (some 52) ?_ b16_35 rfl rfl HT_.out HW_.out (by kernel_rfl) (fun _ _ _ h => h) (Or.inl ⟨by rfl, ?_⟩) hHeld ?_ ?_ ?_; rotate_left
               ·rintro w' ⟨s0, s1, s2, s3, s4, s5⟩; go_simp; with_reducible rfl
               rotate_left
               ·simp only [Act.put, sa_, s0_, ss_, i64_w, i32_w]; rfl
               refine tk_ 35 (some 53) ?_ b16_36 rfl rfl HT_.out HW_.out (by kernel_rfl) (fun _ _ _ h => h) (Or.inl ⟨by rfl, ?_⟩) hHeld ?_ ?_ ?_; rotate_left
               ·rintro w' ⟨s0, s1, s2, s3, s4, s5⟩; go_simp; with_reducible rfl
               rotate_left
               ·simp only [Act.put, sa_, s0_, ss_, i64_w, i32_w]; rfl
               refine one_ (i := 36) (N := some 54) b16_37 rfl rfl (one_of HT_.out (by kernel_rfl)) (by decide) (fun K hK => ?_)
               refine goes_ Try.func25 (by kernel_rfl) rfl #[.agg #[.int .i64 ((rd_T34 l0 (ji28)).f0), .string ((rd_T34 l0 (ji28)).f1), .string ((rd_T34 l0 (ji28)).f2)], .agg #[.int .i64 ((rd_T34 l0 x3_1).f0), .string ((rd_T34 l0 x3_1).f1), .string ((rd_T34 l0 x3_1).f2)]] (by rfl) rfl rfl (by (try simp only [List.map_toArray, List.map_cons, List.map_nil]); first | done | (simp only [hji28]; rfl) | rfl | (simp only [List.length_drop, List.length_take]; rfl)) ?_
               with_reducible refine (spec_l07Before.calls ((rd_T34 l0 (ji28)).f0) ((rd_T34 l0 (ji28)).f1) ((rd_T34 l0 (ji28)).f2) ((rd_T34 l0 x3_1).f0) ((rd_T34 l0 x3_1).f1) ((rd_T34 l0 x3_1).f2) false _ A31.out).mono ?_
               rintro e w42 ⟨rfl, hb⟩
               refine ⟨_, rfl, ?_⟩
               replace BK136 := am (blk_below (pk BK136.out) hb)
               replace HB := am (below_step (bl HB.out) hb)
               (try clear hb)
               (try clear hb2)
               (try clear hk)
               (try clear hi)
               refine hK.out _ _ ⟨bc BK136.out 0, bc BK136.out 1, bc BK136.out 2, ((HB.out.cell (World.block_lt_of_cell? _ _ hw138_0)).trans hw138_0), ((HB.out.cell (World.block_lt_of_cell? _ _ hw138_1)).trans hw138_1), ((HB.out.cell (World.block_lt_of_cell? _ _ hw138_2)).trans hw138_2)⟩ (fun hHeld => ?_)
               clear hK K
               refine norm_ (a' := ?_) ?_ ?_
               rotate_left
               ·show Act.put _ (some 54) _ = _
                simp only [Act.put, sa_, s0_, ss_, i64_w, i32_w]
                rfl
               refine pu_ 37 (some 55) ?_ b16_38 rfl rfl HT_.out (by kernel_rfl) (fun _ _ _ h => h) (Or.inl ⟨by rfl, ?_⟩) ?_ ?_ ?_; rotate_left
               ·intro w'; go_simp; with_reducible rfl
               rotate_left
               ·simp only [Act.put, sa_, s0_, ss_, i64_w, i32_w]; rfl
               refine pu_ 38 (some 56) ?_ b16_39 rfl rfl HT_.out (by kernel_rfl) (fun _ _ _ h => h) (Or.inl ⟨by rfl, ?_⟩) ?_ ?_ ?_; rotate_left
               ·intro w'; go_simp; with_reducible rfl
               rotate_left
               ·simp only [Act.put, sa_, s0_, ss_, i64_w, i32_w]; rfl
               refine pu_ 39 (some 57) ?_ b16_40 rfl rfl HT_.out (by kernel_rfl) (fun _ _ _ h => h) (Or.inl ⟨by rfl, ?_⟩) ?_ ?_ ?_; rotate_left
               ·intro w'; go_simp; with_reducible rfl
               rotate_left
               ·simp only [Act.put, sa_, s0_, ss_, i64_w, i32_w]; rfl
               refine done_ (done_of HT_.out (by kernel_rfl)) ?_
               (try (rw [drewN_self w42]; generalize hq_ : World.drewN w42 _ = w42; replace BK136 := am (blk_at hq_ BK136.out); replace HB := am (below_at hq_ HB.out); clear hq_))
               try go_wp2
               go_ret
               exact ⟨by first | rfl | (simp [errW_none, errW_some] <;> rfl) | (simp only [← hji28]; first | rfl | (simp [errW_none, errW_some] <;> rfl)) | (simp [*, errW_none, errW_some] <;> rfl), by repeat (first | (with_reducible first | exact HB.out | apply below_alloc | apply pw_below_drewN | apply below_drew1 | refine below_set ?_ GE136.out) | exact HB.out)⟩
             ·rw [if_neg c30] at H
              exact absurd H (by simp)
            ·rw [if_neg c29] at H
             exact absurd H (by simp)
           ·rw [if_neg c27] at H
            have c27b0 : decide (0 < x3_1) = false := decide_eq_false c27
            clear c27
            have H' := Aside0.mk H
            clear H
            have p135 : 0 ≤ (x3_1 : Int) := of_decide_eq_true (by first | (with_reducible assumption) | assumption)
            have q135 : x3_1 < (l0.length : Int) := of_decide_eq_true (by first | (with_reducible assumption) | assumption)
            obtain ⟨ad135, e135, hx135_0, hx135_1, hx135_2⟩ := at_T34 HR0.out x3_1 p135 q135
            cases e135
            replace hx135_0 := (HB.out.cell (World.block_lt_of_cell? w _ hx135_0)).trans hx135_0
            replace hx135_1 := (HB.out.cell (World.block_lt_of_cell? w _ hx135_1)).trans hx135_1
            replace hx135_2 := (HB.out.cell (World.block_lt_of_cell? w _ hx135_2)).trans hx135_2
            replace p135 := eq_true p135
            replace q135 := eq_true q135
            try go_wp2_with (first | ((with_reducible refine gate_dst (N := 4) rfl ?_); (try (refine gate_guard (by rfl) ?_; dsimp only)); refine box_event ?hg (N := 4) ?hd (cs := #[.int .i64 0, .string (⟨#[]⟩ : ByteArray), .string (⟨#[]⟩ : ByteArray)]) (t := 34) ?hr ?_; (case hd => rfl); (case hg => rfl); (case hr => first | (go_simp; done) | (go_simp; rfl)); intro gb136 hg w43 hbox hb; have BK136 := am (hbox); have GW136 := am ((by rw [hg]; exact (below_size (bl HB.out)) : w.heap.size ≤ gb136)); have GE136 := GW136; replace HB := am (below_step (bl HB.out) hb); clear hb hbox hg; have hcz44_0 : w43.cell? ⟨gb136, 0, none⟩ = some (.int .i64 0) := bc BK136.out 0; have hcz44_1 : w43.cell? ⟨gb136, 1, none⟩ = some (.string (⟨#[]⟩ : ByteArray)) := bc BK136.out 1; have hcz44_2 : w43.cell? ⟨gb136, 2, none⟩ = some (.string (⟨#[]⟩ : ByteArray)) := bc BK136.out 2; have hfz44_0 := blk_frozen BK136.out 0; have hfz44_1 := blk_frozen BK136.out 1; have hfz44_2 := blk_frozen BK136.out 2))
            have n0_ : Aside0 ((((w43.setCell ⟨gb136, 0, none⟩ (.int .i64 ((rd_T34 l0 x3_1).f0))).setCell ⟨gb136, 1, none⟩ (.string ((rd_T34 l0 x3_1).f1))).setCell ⟨gb136, 2, none⟩ (.string ((rd_T34 l0 x3_1).f2))).heap[gb136]? = some (.cells #[.int .i64 ((rd_T34 l0 x3_1).f0), .string ((rd_T34 l0 x3_1).f1), .string ((rd_T34 l0 x3_1).f2)] 34 (0, 0))) := ⟨by refine pk ?_; refine blk_put (cs := #[.int .i64 ((rd_T34 l0 x3_1).f0), .string ((rd_T34 l0 x3_1).f1), .string (⟨#[]⟩ : ByteArray)]) ?_ 2 _ rfl; refine pk ?_; refine blk_put (cs := #[.int .i64 ((rd_T34 l0 x3_1).f0), .string (⟨#[]⟩ : ByteArray), .string (⟨#[]⟩ : ByteArray)]) ?_ 1 _ rfl; refine pk ?_; refine blk_put (cs := #[.int .i64 0, .string (⟨#[]⟩ : ByteArray), .string (⟨#[]⟩ : ByteArray)]) ?_ 0 _ rfl; refine pk ?_; exact BK136.out⟩
            have n1_ : Aside0 (Below w.heap.size w (((w43.setCell ⟨gb136, 0, none⟩ (.int .i64 ((rd_T34 l0 x3_1).f0))).setCell ⟨gb136, 1, none⟩ (.string ((rd_T34 l0 x3_1).f1))).setCell ⟨gb136, 2, none⟩ (.string ((rd_T34 l0 x3_1).f2)))) := ⟨by repeat (first | (with_reducible first | exact HB.out | apply below_alloc | apply pw_below_drewN | apply below_drew1 | refine below_set ?_ GE136.out) | exact HB.out)⟩
            (try clear BK136)
            (try clear HB)
            generalize (((w43.setCell ⟨gb136, 0, none⟩ (.int .i64 ((rd_T34 l0 x3_1).f0))).setCell ⟨gb136, 1, none⟩ (.string ((rd_T34 l0 x3_1).f1))).setCell ⟨gb136, 2, none⟩ (.string ((rd_T34 l0 x3_1).f2))) = w45 at n0_ n1_ ⊢
            have BK136 := n0_
            have HB := n1_
            clear n0_ n1_
            replace BK136 := am (blk_drew BK136.out)
            replace HB := am (below_drew1 HB.out)
            refine start_ (n := 40) (S := fun w' => w'.cell? ⟨gb136, 0, none⟩ = some (.int .i64 ((rd_T34 l0 x3_1).f0)) ∧ w'.cell? ⟨gb136, 1, none⟩ = some (.string ((rd_T34 l0 x3_1).f1)) ∧ w'.cell? ⟨gb136, 2, none⟩ = some (.string ((rd_T34 l0 x3_1).f2))) (ds := []) b16_0 (by kernel_rfl) rfl rfl ⟨bc BK136.out 0, bc BK136.out 1, bc BK136.out 2⟩ (fun hHeld => ?_); refine with_tabW spec_KeysRight.tab7 spec_KeysRight.bits7 (fun HT_ HW_ => ?_)
            generalize w45.drew = w46 at BK136 HB hHeld ⊢
            refine pu_ 0 (some 18) ?_ b16_1 rfl rfl HT_.out (by kernel_rfl) (fun _ _ _ h => h) (Or.inl ⟨by rfl, ?_⟩) ?_ ?_ ?_; rotate_left
            ·intro w'; go_simp; with_reducible rfl
            rotate_left
            ·simp only [Act.put, sa_, s0_, ss_, i64_w, i32_w]; rfl
            refine tk_ 1 (some 19) ?_ b16_2 rfl rfl HT_.out HW_.out (by kernel_rfl) (fun _ _ _ h => h) (Or.inl ⟨by rfl, ?_⟩) hHeld ?_ ?_ ?_; rotate_left
            ·rintro w' ⟨s0, s1, s2⟩; go_simp; with_reducible rfl
            rotate_left
            ·simp only [Act.put, sa_, s0_, ss_, i64_w, i32_w]; rfl
            refine pu_ 2 (some 20) ?_ b16_3 rfl rfl HT_.out (by kernel_rfl) (fun _ _ _ h => h) (Or.inl ⟨by rfl, ?_⟩) ?_ ?_ ?_; rotate_left
            ·intro w'; go_simp; with_reducible rfl
            rotate_left
            ·simp only [Act.put, sa_, s0_, ss_, i64_w, i32_w]; rfl
            refine pu_ 3 (some 21) ?_ b16_4 rfl rfl HT_.out (by kernel_rfl) (fun _ _ _ h => h) (Or.inl ⟨by rfl, ?_⟩) ?_ ?_ ?_; rotate_left
            ·intro w'; go_simp; with_reducible rfl
            rotate_left
            ·simp only [Act.put, sa_, s0_, ss_, i64_w, i32_w]; rfl
            refine pu_ 4 (some 22) ?_ b16_5 rfl rfl HT_.out (by kernel_rfl) (fun _ _ _ h => h) (Or.inl ⟨by rfl, ?_⟩) ?_ ?_ ?_; rotate_left
            ·intro w'; go_simp; with_reducible rfl
            rotate_left
            ·simp only [Act.put, sa_, s0_, ss_, i64_w, i32_w]; rfl
            refine tk_ 5 (some 23) ?_ b16_6 rfl rfl HT_.out HW_.out (by kernel_rfl) (fun _ _ _ h => h) (Or.inl ⟨by rfl, ?_⟩) hHeld ?_ ?_ ?_; rotate_left
            ·rintro w' ⟨s0, s1, s2⟩; go_simp; with_reducible rfl
            rotate_left
            ·simp only [Act.put, sa_, s0_, ss_, i64_w, i32_w]; rfl
            refine pu_ 6 (some 24) ?_ b16_7 rfl rfl HT_.out (by kernel_rfl) (fun _ _ _ h => h) (Or.inl ⟨by rfl, ?_⟩) ?_ ?_ ?_; rotate_left
            ·intro w'; go_simp; with_reducible rfl
            rotate_left
            ·simp only [Act.put, sa_, s0_, ss_, i64_w, i32_w]; rfl
            refine pu_ 7 (some 25) ?_ b16_8 rfl rfl HT_.out (by kernel_rfl) (fun _ _ _ h => h) (Or.inl ⟨by rfl, ?_⟩) ?_ ?_ ?_; rotate_left
            ·intro w'; go_simp; with_reducible rfl
            rotate_left
            ·simp only [Act.put, sa_, s0_, ss_, i64_w, i32_w]; rfl
            refine pu_ 8 (some 26) ?_ b16_9 rfl rfl HT_.out (by kernel_rfl) (fun _ _ _ h => h) (Or.inl ⟨by rfl, ?_⟩) ?_ ?_ ?_; rotate_left
            ·intro w'; go_simp; with_reducible rfl
            rotate_left
            ·simp only [Act.put, sa_, s0_, ss_, i64_w, i32_w]; rfl
            refine pu_ 9 (some 27) ?_ b16_10 rfl rfl HT_.out (by kernel_rfl) (fun _ _ _ h => h) (Or.inl ⟨by rfl, ?_⟩) ?_ ?_ ?_; rotate_left
            ·intro w'; go_simp; with_reducible rfl
            rotate_left
            ·simp only [Act.put, sa_, s0_, ss_, i64_w, i32_w]; rfl
            refine tk_ 10 (some 28) ?_ b16_11 rfl rfl HT_.out HW_.out (by kernel_rfl) (fun _ _ _ h => h) (Or.inl ⟨by rfl, ?_⟩) hHeld ?_ ?_ ?_; rotate_left
            ·rintro w' ⟨s0, s1, s2⟩; go_simp; with_reducible rfl
            rotate_left
            ·simp only [Act.put, sa_, s0_, ss_, i64_w, i32_w]; rfl
            refine pu_ 11 (some 29) ?_ b16_12 rfl rfl HT_.out (by kernel_rfl) (fun _ _ _ h => h) (Or.inl ⟨by rfl, ?_⟩) ?_ ?_ ?_; rotate_left
            ·intro w'; go_simp; with_reducible rfl
            rotate_left
            ·simp only [Act.put, sa_, s0_, ss_, i64_w, i32_w]; rfl
            refine pu_ 12 (some 30) ?_ b16_13 rfl rfl HT_.out (by kernel_rfl) (fun _ _ _ h => h) (Or.inl ⟨by rfl, ?_⟩) ?_ ?_ ?_; rotate_left
            ·intro w'; go_simp; with_reducible rfl
            rotate_left
            ·simp only [Act.put, sa_, s0_, ss_, i64_w, i32_w]; rfl
            refine pu_ 13 (some 31) ?_ b16_14 rfl rfl HT_.out (by kernel_rfl) (fun _ _ _ h => h) (Or.inl ⟨by rfl, ?_⟩) ?_ ?_ ?_; rotate_left
            ·intro w'; go_simp; with_reducible rfl
            rotate_left
            ·simp only [Act.put, sa_, s0_, ss_, i64_w, i32_w]; rfl
            refine pu_ 14 (some 32) ?_ b16_15 rfl rfl HT_.out (by kernel_rfl) (fun _ _ _ h => h) (Or.inl ⟨by rfl, ?_⟩) ?_ ?_ ?_; rotate_left
            ·intro w'; go_simp; with_reducible rfl
            rotate_left
            ·simp only [Act.put, sa_, s0_, ss_, i64_w, i32_w]; rfl
            refine pu_ 15 (some 33) ?_ b16_16 rfl rfl HT_.out (by kernel_rfl) (fun _ _ _ h => h) (Or.inl ⟨by rfl, ?_⟩) ?_ ?_ ?_; rotate_left
            ·intro w'; go_simp; with_reducible rfl
            rotate_left
            ·simp only [Act.put, sa_, s0_, ss_, i64_w, i32_w]; rfl
            refine tk_ 16 (some 34) ?_ b16_17 rfl rfl HT_.out HW_.out (by kernel_rfl) (fun _ _ _ h => h) (Or.inl ⟨by rfl, ?_⟩) hHeld ?_ ?_ ?_; rotate_left
            ·rintro w' ⟨s0, s1, s2⟩; go_simp; with_reducible rfl
            rotate_left
            ·simp only [Act.put, sa_, s0_, ss_, i64_w, i32_w]; rfl
            refine pu_ 17 (some 35) ?_ b16_18 rfl rfl HT_.out (by kernel_rfl) (fun _ _ _ h => h) (Or.inl ⟨by rfl, ?_⟩) ?_ ?_ ?_; rotate_left
            ·intro w'; go_simp; with_reducible rfl
            rotate_left
            ·simp only [Act.put, sa_, s0_, ss_, i64_w, i32_w]; rfl
            refine pu_ 18 (some 36) ?_ b16_19 rfl rfl HT_.out (by kernel_rfl) (fun _ _ _ h => h) (Or.inl ⟨by rfl, ?_⟩) ?_ ?_ ?_; rotate_left
            ·intro w'; go_simp; with_reducible rfl
            rotate_left
            ·simp only [Act.put, sa_, s0_, ss_, i64_w, i32_w]; rfl
            refine pu_ 19 (some 37) ?_ b16_20 rfl rfl HT_.out (by kernel_rfl) (fun _ _ _ h => h) (Or.inl ⟨by rfl, ?_⟩) ?_ ?_ ?_; rotate_left
            ·intro w'; go_simp; with_reducible rfl
            rotate_left
            ·simp only [Act.put, sa_, s0_, ss_, i64_w, i32_w]; rfl
            refine pu_ 20 (some 38) ?_ b16_21 rfl rfl HT_.out (by kernel_rfl) (fun _ _ _ h => h) (Or.inl ⟨by rfl, ?_⟩) ?_ ?_ ?_; rotate_left
            ·intro w'; go_simp; with_reducible rfl
            rotate_left
            ·simp only [Act.put, sa_, s0_, ss_, i64_w, i32_w]; rfl
            refine pu_ 21 (some 39) ?_ b16_22 rfl rfl HT_.out (by kernel_rfl) (fun _ _ _ h => h) (Or.inl ⟨by rfl, ?_⟩) ?_ ?_ ?_; rotate_left
            ·intro w'; go_simp; with_reducible rfl
            rotate_left
            ·simp only [Act.put, sa_, s0_, ss_, i64_w, i32_w]; rfl
            refine tk_ 22 (some 40) ?_ b16_23 rfl rfl HT_.out HW_.out (by kernel_rfl) (fun _ _ _ h => h) (Or.inl ⟨by rfl, ?_⟩) hHeld ?_ ?_ ?_; rotate_left
            ·rintro w' ⟨s0, s1, s2⟩; go_simp; with_reducible rfl
            rotate_left
            ·simp only [Act.put, sa_, s0_, ss_, i64_w, i32_w]; rfl
            refine one_ (i := 23) (N := some 41) b16_24 rfl rfl (one_of HT_.out (by kernel_rfl)) (by decide) (fun K hK => ?_)
            refine gs_ Try.func30 #[.string ((rd_T34 l0 x3_1).f2)] ?_
            with_reducible refine (spec_l07Name.calls k1 ((rd_T34 l0 x3_1).f2) true _ A25.out).mono ?_
            rintro e w' ⟨rfl, ⟨nd, rfl⟩⟩
            refine ⟨_, rfl, ?_⟩
            refine hK.out _ _ ⟨bc BK136.out 0, bc BK136.out 1, bc BK136.out 2⟩ (fun hHeld => ?_)
            clear hK K
            refine norm_ (a' := ?_) ?_ ?_
            rotate_left
            ·show Act.put _ (some 41) _ = _
             simp only [Act.put, sa_, s0_, ss_, i64_w, i32_w]
             rfl
            refine pu_ 24 (some 42) ?_ b16_25 rfl rfl HT_.out (by kernel_rfl) (fun _ _ _ h => h) (Or.inl ⟨by rfl, ?_⟩) ?_ ?_ ?_; rotate_left
            ·intro w'; go_simp; with_reducible rfl
            rotate_left
            ·simp only [Act.put, sa_, s0_, ss_, i64_w, i32_w]; rfl
            refine pu_ 25 (some 43) ?_ b16_26 rfl rfl HT_.out (by kernel_rfl) (fun _ _ _ h => h) (Or.inl ⟨by rfl, ?_⟩) ?_ ?_ ?_; rotate_left
            ·intro w'; go_simp; with_reducible rfl
            rotate_left
            ·simp only [Act.put, sa_, s0_, ss_, i64_w, i32_w]; rfl
            refine pu_ 26 (some 44) ?_ b16_27 rfl rfl HT_.out (by kernel_rfl) (fun _ _ _ h => h) (Or.inl ⟨by rfl, ?_⟩) ?_ ?_ ?_; rotate_left
            ·intro w'; go_simp; with_reducible rfl
            rotate_left
            ·simp only [Act.put, sa_, s0_, ss_, i64_w, i32_w]; rfl
            refine pu_ 27 (some 45) ?_ b16_28 rfl rfl HT_.out (by kernel_rfl) (fun _ _ _ h => h) (Or.inl ⟨by rfl, ?_⟩) ?_ ?_ ?_; rotate_left
            ·intro w'; go_simp; with_reducible rfl
            rotate_left
            ·simp only [Act.put, sa_, s0_, ss_, i64_w, i32_w]; rfl
            refine pu_ 28 (some 46) ?_ b16_29 rfl rfl HT_.out (by kernel_rfl) (fun _ _ _ h => h) (Or.inl ⟨by rfl, ?_⟩) ?_ ?_ ?_; rotate_left
            ·intro w'; go_simp; with_reducible rfl
            rotate_left
            ·simp only [Act.put, sa_, s0_, ss_, i64_w, i32_w]; rfl
            refine pu_ 29 (some 47) ?_ b16_30 rfl rfl HT_.out (by kernel_rfl) (fun _ _ _ h => h) (Or.inl ⟨by rfl, ?_⟩) ?_ ?_ ?_; rotate_left
            ·intro w'; go_simp; with_reducible rfl
            rotate_left
            ·simp only [Act.put, sa_, s0_, ss_, i64_w, i32_w]; rfl
            refine pu_ 30 (some 48) undef b16_31 rfl rfl HT_.out (by kernel_rfl) (fun _ _ _ h => h) (Or.inr ⟨by rfl, rfl⟩) ?_ ?_ ?_; rotate_left
            ·simp only [Act.put, sa_, s0_, ss_, i64_w, i32_w]; rfl
            refine pu_ 31 (some 49) undef b16_32 rfl rfl HT_.out (by kernel_rfl) (fun _ _ _ h => h) (Or.inr ⟨by rfl, rfl⟩) ?_ ?_ ?_; rotate_left
            ·simp only [Act.put, sa_, s0_, ss_, i64_w, i32_w]; rfl
            refine pu_ 32 (some 50) undef b16_33 rfl rfl HT_.out (by kernel_rfl) (fun _ _ _ h => h) (Or.inr ⟨by rfl, rfl⟩) ?_ ?_ ?_; rotate_left
            ·simp only [Act.put, sa_, s0_, ss_, i64_w, i32_w]; rfl
            refine pu_ 33 (some 51) undef b16_34 rfl rfl HT_.out (by kernel_rfl) (fun _ _ _ h => h) (Or.inr ⟨by rfl, rfl⟩) ?_ ?_ ?_; rotate_left
            ·simp only [Act.put, sa_, s0_, ss_, i64_w, i32_w]; rfl
            refine pu_ 34 (some 52) undef b16_35 rfl rfl HT_.out (by kernel_rfl) (fun _ _ _ h => h) (Or.inr ⟨by rfl, rfl⟩) ?_ ?_ ?_; rotate_left
            ·simp only [Act.put, sa_, s0_, ss_, i64_w, i32_w]; rfl
            refine pu_ 35 (some 53) undef b16_36 rfl rfl HT_.out (by kernel_rfl) (fun _ _ _ h => h) (Or.inr ⟨by rfl, rfl⟩) ?_ ?_ ?_; rotate_left
            ·simp only [Act.put, sa_, s0_, ss_, i64_w, i32_w]; rfl
            refine pu_ 36 (some 54) undef b16_37 rfl rfl HT_.out (by kernel_rfl) (fun _ _ _ h => h) (Or.inr ⟨by rfl, rfl⟩) ?_ ?_ ?_; rotate_left
            ·simp only [Act.put, sa_, s0_, ss_, i64_w, i32_w]; rfl
            refine pu_ 37 (some 55) undef b16_38 rfl rfl HT_.out (by kernel_rfl) (fun _ _ _ h => h) (Or.inr ⟨by rfl, rfl⟩) ?_ ?_ ?_; rotate_left
            ·simp only [Act.put, sa_, s0_, ss_, i64_w, i32_w]; rfl
            refine pu_ 38 (some 56) ?_ b16_39 rfl rfl HT_.out (by kernel_rfl) (fun _ _ _ h => h) (Or.inl ⟨by rfl, ?_⟩) ?_ ?_ ?_; rotate_left
            ·intro w'; go_simp; with_reducible rfl
            rotate_left
            ·simp only [Act.put, sa_, s0_, ss_, i64_w, i32_w]; rfl
            refine pu_ 39 (some 57) ?_ b16_40 rfl rfl HT_.out (by kernel_rfl) (fun _ _ _ h => h) (Or.inl ⟨by rfl, ?_⟩) ?_ ?_ ?_; rotate_left
            ·intro w'; go_simp; with_reducible rfl
            rotate_left
            ·simp only [Act.put, sa_, s0_, ss_, i64_w, i32_w]; rfl
            refine done_ (done_of HT_.out (by kernel_rfl)) ?_
            (try (rw [drewN_self w46]; generalize hq_ : World.drewN w46 _ = w46; replace BK136 := am (blk_at hq_ BK136.out); replace HB := am (below_at hq_ HB.out); clear hq_))
            try go_wp2
            go_roundg k1
            case measure => have := HK1.out; omega
            case rel => exact ⟨(wrap64 (x3_1 + 1)), (by first | rfl | (simp; done) | (simp [*]; done)), H', ⟨by have := HK1.out; omega⟩, ⟨by repeat (first | (with_reducible first | exact HB.out | apply below_alloc | apply pw_below_drewN | apply below_drew1 | refine below_set ?_ GE136.out) | exact HB.out)⟩⟩
          ·replace c26 := Bool.eq_false_iff.mpr c26
           subst c26
           have H1 : (some false) = some r := by rw [if_neg (show ¬ (false = true) by decide)] at H; exact H
           clear H
           have H := H1
           clear H1
           obtain rfl := Option.some.inj H
           have p135 : 0 ≤ (x3_1 : Int) := of_decide_eq_true (by first | (with_reducible assumption) | assumption)
           have q135 : x3_1 < (l0.length : Int) := of_decide_eq_true (by first | (with_reducible assumption) | assumption)
           obtain ⟨ad135, e135, hx135_0, hx135_1, hx135_2⟩ := at_T34 HR0.out x3_1 p135 q135
           cases e135
           replace hx135_0 := (HB.out.cell (World.block_lt_of_cell? w _ hx135_0)).trans hx135_0
           replace hx135_1 := (HB.out.cell (World.block_lt_of_cell? w _ hx135_1)).trans hx135_1
           replace hx135_2 := (HB.out.cell (World.block_lt_of_cell? w _ hx135_2)).trans hx135_2
           replace p135 := eq_true p135
           replace q135 := eq_true q135
           try go_wp2_with (first | ((with_reducible refine gate_dst (N := 4) rfl ?_); (try (refine gate_guard (by rfl) ?_; dsimp only)); refine box_event ?hg (N := 4) ?hd (cs := #[.int .i64 0, .string (⟨#[]⟩ : ByteArray), .string (⟨#[]⟩ : ByteArray)]) (t := 34) ?hr ?_; (case hd => rfl); (case hg => rfl); (case hr => first | (go_simp; done) | (go_simp; rfl)); intro gb136 hg w47 hbox hb; have BK136 := am (hbox); have GW136 := am ((by rw [hg]; exact (below_size (bl HB.out)) : w.heap.size ≤ gb136)); have GE136 := GW136; replace HB := am (below_step (bl HB.out) hb); clear hb hbox hg; have hcz48_0 : w47.cell? ⟨gb136, 0, none⟩ = some (.int .i64 0) := bc BK136.out 0; have hcz48_1 : w47.cell? ⟨gb136, 1, none⟩ = some (.string (⟨#[]⟩ : ByteArray)) := bc BK136.out 1; have hcz48_2 : w47.cell? ⟨gb136, 2, none⟩ = some (.string (⟨#[]⟩ : ByteArray)) := bc BK136.out 2; have hfz48_0 := blk_frozen BK136.out 0; have hfz48_1 := blk_frozen BK136.out 1; have hfz48_2 := blk_frozen BK136.out 2))
           have n0_ : Aside0 ((((w47.setCell ⟨gb136, 0, none⟩ (.int .i64 ((rd_T34 l0 x3_1).f0))).setCell ⟨gb136, 1, none⟩ (.string ((rd_T34 l0 x3_1).f1))).setCell ⟨gb136, 2, none⟩ (.string ((rd_T34 l0 x3_1).f2))).heap[gb136]? = some (.cells #[.int .i64 ((rd_T34 l0 x3_1).f0), .string ((rd_T34 l0 x3_1).f1), .string ((rd_T34 l0 x3_1).f2)] 34 (0, 0))) := ⟨by refine pk ?_; refine blk_put (cs := #[.int .i64 ((rd_T34 l0 x3_1).f0), .string ((rd_T34 l0 x3_1).f1), .string (⟨#[]⟩ : ByteArray)]) ?_ 2 _ rfl; refine pk ?_; refine blk_put (cs := #[.int .i64 ((rd_T34 l0 x3_1).f0), .string (⟨#[]⟩ : ByteArray), .string (⟨#[]⟩ : ByteArray)]) ?_ 1 _ rfl; refine pk ?_; refine blk_put (cs := #[.int .i64 0, .string (⟨#[]⟩ : ByteArray), .string (⟨#[]⟩ : ByteArray)]) ?_ 0 _ rfl; refine pk ?_; exact BK136.out⟩
           have n1_ : Aside0 (Below w.heap.size w (((w47.setCell ⟨gb136, 0, none⟩ (.int .i64 ((rd_T34 l0 x3_1).f0))).setCell ⟨gb136, 1, none⟩ (.string ((rd_T34 l0 x3_1).f1))).setCell ⟨gb136, 2, none⟩ (.string ((rd_T34 l0 x3_1).f2)))) := ⟨by repeat (first | (with_reducible first | exact HB.out | apply below_alloc | apply pw_below_drewN | apply below_drew1 | refine below_set ?_ GE136.out) | exact HB.out)⟩
           (try clear BK136)
           (try clear HB)
           generalize (((w47.setCell ⟨gb136, 0, none⟩ (.int .i64 ((rd_T34 l0 x3_1).f0))).setCell ⟨gb136, 1, none⟩ (.string ((rd_T34 l0 x3_1).f1))).setCell ⟨gb136, 2, none⟩ (.string ((rd_T34 l0 x3_1).f2))) = w49 at n0_ n1_ ⊢
           have BK136 := n0_
           have HB := n1_
           clear n0_ n1_
           replace BK136 := am (blk_drew BK136.out)
           replace HB := am (below_drew1 HB.out)
           refine start_ (n := 40) (S := fun w' => w'.cell? ⟨gb136, 0, none⟩ = some (.int .i64 ((rd_T34 l0 x3_1).f0)) ∧ w'.cell? ⟨gb136, 1, none⟩ = some (.string ((rd_T34 l0 x3_1).f1)) ∧ w'.cell? ⟨gb136, 2, none⟩ = some (.string ((rd_T34 l0 x3_1).f2))) (ds := []) b16_0 (by kernel_rfl) rfl rfl ⟨bc BK136.out 0, bc BK136.out 1, bc BK136.out 2⟩ (fun hHeld => ?_); refine with_tabW spec_KeysRight.tab7 spec_KeysRight.bits7 (fun HT_ HW_ => ?_)
           generalize w49.drew = w50 at BK136 HB hHeld ⊢
           refine pu_ 0 (some 18) ?_ b16_1 rfl rfl HT_.out (by kernel_rfl) (fun _ _ _ h => h) (Or.inl ⟨by rfl, ?_⟩) ?_ ?_ ?_; rotate_left
           ·intro w'; go_simp; with_reducible rfl
           rotate_left
           ·simp only [Act.put, sa_, s0_, ss_, i64_w, i32_w]; rfl
           refine tk_ 1 (some 19) ?_ b16_2 rfl rfl HT_.out HW_.out (by kernel_rfl) (fun _ _ _ h => h) (Or.inl ⟨by rfl, ?_⟩) hHeld ?_ ?_ ?_; rotate_left
           ·rintro w' ⟨s0, s1, s2⟩; go_simp; with_reducible rfl
           rotate_left
           ·simp only [Act.put, sa_, s0_, ss_, i64_w, i32_w]; rfl
           refine pu_ 2 (some 20) ?_ b16_3 rfl rfl HT_.out (by kernel_rfl) (fun _ _ _ h => h) (Or.inl ⟨by rfl, ?_⟩) ?_ ?_ ?_; rotate_left
           ·intro w'; go_simp; with_reducible rfl
           rotate_left
           ·simp only [Act.put, sa_, s0_, ss_, i64_w, i32_w]; rfl
           refine pu_ 3 (some 21) ?_ b16_4 rfl rfl HT_.out (by kernel_rfl) (fun _ _ _ h => h) (Or.inl ⟨by rfl, ?_⟩) ?_ ?_ ?_; rotate_left
           ·intro w'; go_simp; with_reducible rfl
           rotate_left
           ·simp only [Act.put, sa_, s0_, ss_, i64_w, i32_w]; rfl
           refine pu_ 4 (some 22) ?_ b16_5 rfl rfl HT_.out (by kernel_rfl) (fun _ _ _ h => h) (Or.inl ⟨by rfl, ?_⟩) ?_ ?_ ?_; rotate_left
           ·intro w'; go_simp; with_reducible rfl
           rotate_left
           ·simp only [Act.put, sa_, s0_, ss_, i64_w, i32_w]; rfl
           refine tk_ 5 (some 23) ?_ b16_6 rfl rfl HT_.out HW_.out (by kernel_rfl) (fun _ _ _ h => h) (Or.inl ⟨by rfl, ?_⟩) hHeld ?_ ?_ ?_; rotate_left
           ·rintro w' ⟨s0, s1, s2⟩; go_simp; with_reducible rfl
           rotate_left
           ·simp only [Act.put, sa_, s0_, ss_, i64_w, i32_w]; rfl
           refine pu_ 6 (some 24) ?_ b16_7 rfl rfl HT_.out (by kernel_rfl) (fun _ _ _ h => h) (Or.inl ⟨by rfl, ?_⟩) ?_ ?_ ?_; rotate_left
           ·intro w'; go_simp; with_reducible rfl
           rotate_left
           ·simp only [Act.put, sa_, s0_, ss_, i64_w, i32_w]; rfl
           refine pu_ 7 (some 25) ?_ b16_8 rfl rfl HT_.out (by kernel_rfl) (fun _ _ _ h => h) (Or.inl ⟨by rfl, ?_⟩) ?_ ?_ ?_; rotate_left
           ·intro w'; go_simp; with_reducible rfl
           rotate_left
           ·simp only [Act.put, sa_, s0_, ss_, i64_w, i32_w]; rfl
           refine pu_ 8 (some 26) ?_ b16_9 rfl rfl HT_.out (by kernel_rfl) (fun _ _ _ h => h) (Or.inl ⟨by rfl, ?_⟩) ?_ ?_ ?_; rotate_left
           ·intro w'; go_simp; with_reducible rfl
           rotate_left
           ·simp only [Act.put, sa_, s0_, ss_, i64_w, i32_w]; rfl
           refine pu_ 9 (some 27) ?_ b16_10 rfl rfl HT_.out (by kernel_rfl) (fun _ _ _ h => h) (Or.inl ⟨by rfl, ?_⟩) ?_ ?_ ?_; rotate_left
           ·intro w'; go_simp; with_reducible rfl
           rotate_left
           ·simp only [Act.put, sa_, s0_, ss_, i64_w, i32_w]; rfl
           refine tk_ 10 (some 28) ?_ b16_11 rfl rfl HT_.out HW_.out (by kernel_rfl) (fun _ _ _ h => h) (Or.inl ⟨by rfl, ?_⟩) hHeld ?_ ?_ ?_; rotate_left
           ·rintro w' ⟨s0, s1, s2⟩; go_simp; with_reducible rfl
           rotate_left
           ·simp only [Act.put, sa_, s0_, ss_, i64_w, i32_w]; rfl
           refine pu_ 11 (some 29) ?_ b16_12 rfl rfl HT_.out (by kernel_rfl) (fun _ _ _ h => h) (Or.inl ⟨by rfl, ?_⟩) ?_ ?_ ?_; rotate_left
           ·intro w'; go_simp; with_reducible rfl
           rotate_left
           ·simp only [Act.put, sa_, s0_, ss_, i64_w, i32_w]; rfl
           refine pu_ 12 (some 30) ?_ b16_13 rfl rfl HT_.out (by kernel_rfl) (fun _ _ _ h => h) (Or.inl ⟨by rfl, ?_⟩) ?_ ?_ ?_; rotate_left
           ·intro w'; go_simp; with_reducible rfl
           rotate_left
           ·simp only [Act.put, sa_, s0_, ss_, i64_w, i32_w]; rfl
           refine pu_ 13 (some 31) ?_ b16_14 rfl rfl HT_.out (by kernel_rfl) (fun _ _ _ h => h) (Or.inl ⟨by rfl, ?_⟩) ?_ ?_ ?_; rotate_left
           ·intro w'; go_simp; with_reducible rfl
           rotate_left
           ·simp only [Act.put, sa_, s0_, ss_, i64_w, i32_w]; rfl
           refine pu_ 14 (some 32) ?_ b16_15 rfl rfl HT_.out (by kernel_rfl) (fun _ _ _ h => h) (Or.inl ⟨by rfl, ?_⟩) ?_ ?_ ?_; rotate_left
           ·intro w'; go_simp; with_reducible rfl
           rotate_left
           ·simp only [Act.put, sa_, s0_, ss_, i64_w, i32_w]; rfl
           refine pu_ 15 (some 33) ?_ b16_16 rfl rfl HT_.out (by kernel_rfl) (fun _ _ _ h => h) (Or.inl ⟨by rfl, ?_⟩) ?_ ?_ ?_; rotate_left
           ·intro w'; go_simp; with_reducible rfl
           rotate_left
           ·simp only [Act.put, sa_, s0_, ss_, i64_w, i32_w]; rfl
           refine tk_ 16 (some 34) ?_ b16_17 rfl rfl HT_.out HW_.out (by kernel_rfl) (fun _ _ _ h => h) (Or.inl ⟨by rfl, ?_⟩) hHeld ?_ ?_ ?_; rotate_left
           ·rintro w' ⟨s0, s1, s2⟩; go_simp; with_reducible rfl
           rotate_left
           ·simp only [Act.put, sa_, s0_, ss_, i64_w, i32_w]; rfl
           refine pu_ 17 (some 35) ?_ b16_18 rfl rfl HT_.out (by kernel_rfl) (fun _ _ _ h => h) (Or.inl ⟨by rfl, ?_⟩) ?_ ?_ ?_; rotate_left
           ·intro w'; go_simp; with_reducible rfl
           rotate_left
           ·simp only [Act.put, sa_, s0_, ss_, i64_w, i32_w]; rfl
           refine pu_ 18 (some 36) ?_ b16_19 rfl rfl HT_.out (by kernel_rfl) (fun _ _ _ h => h) (Or.inl ⟨by rfl, ?_⟩) ?_ ?_ ?_; rotate_left
           ·intro w'; go_simp; with_reducible rfl
           rotate_left
           ·simp only [Act.put, sa_, s0_, ss_, i64_w, i32_w]; rfl
           refine pu_ 19 (some 37) ?_ b16_20 rfl rfl HT_.out (by kernel_rfl) (fun _ _ _ h => h) (Or.inl ⟨by rfl, ?_⟩) ?_ ?_ ?_; rotate_left
           ·intro w'; go_simp; with_reducible rfl
           rotate_left
           ·simp only [Act.put, sa_, s0_, ss_, i64_w, i32_w]; rfl
           refine pu_ 20 (some 38) ?_ b16_21 rfl rfl HT_.out (by kernel_rfl) (fun _ _ _ h => h) (Or.inl ⟨by rfl, ?_⟩) ?_ ?_ ?_; rotate_left
           ·intro w'; go_simp; with_reducible rfl
           rotate_left
           ·simp only [Act.put, sa_, s0_, ss_, i64_w, i32_w]; rfl
           refine pu_ 21 (some 39) ?_ b16_22 rfl rfl HT_.out (by kernel_rfl) (fun _ _ _ h => h) (Or.inl ⟨by rfl, ?_⟩) ?_ ?_ ?_; rotate_left
           ·intro w'; go_simp; with_reducible rfl
           rotate_left
           ·simp only [Act.put, sa_, s0_, ss_, i64_w, i32_w]; rfl
           refine tk_ 22 (some 40) ?_ b16_23 rfl rfl HT_.out HW_.out (by kernel_rfl) (fun _ _ _ h => h) (Or.inl ⟨by rfl, ?_⟩) hHeld ?_ ?_ ?_; rotate_left
           ·rintro w' ⟨s0, s1, s2⟩; go_simp; with_reducible rfl
           rotate_left
           ·simp only [Act.put, sa_, s0_, ss_, i64_w, i32_w]; rfl
           refine one_ (i := 23) (N := some 41) b16_24 rfl rfl (one_of HT_.out (by kernel_rfl)) (by decide) (fun K hK => ?_)
           refine gs_ Try.func30 #[.string ((rd_T34 l0 x3_1).f2)] ?_
           with_reducible refine (spec_l07Name.calls k1 ((rd_T34 l0 x3_1).f2) false _ A25.out).mono ?_
           rintro e w' ⟨rfl, ⟨nd, rfl⟩⟩
           refine ⟨_, rfl, ?_⟩
           refine hK.out _ _ ⟨bc BK136.out 0, bc BK136.out 1, bc BK136.out 2⟩ (fun hHeld => ?_)
           clear hK K
           refine norm_ (a' := ?_) ?_ ?_
           rotate_left
           ·show Act.put _ (some 41) _ = _
            simp only [Act.put, sa_, s0_, ss_, i64_w, i32_w]
            rfl
           refine pu_ 24 (some 42) ?_ b16_25 rfl rfl HT_.out (by kernel_rfl) (fun _ _ _ h => h) (Or.inl ⟨by rfl, ?_⟩) ?_ ?_ ?_; rotate_left
           ·intro w'; go_simp; with_reducible rfl
           rotate_left
           ·simp only [Act.put, sa_, s0_, ss_, i64_w, i32_w]; rfl
           refine pu_ 25 (some 43) ?_ b16_26 rfl rfl HT_.out (by kernel_rfl) (fun _ _ _ h => h) (Or.inl ⟨by rfl, ?_⟩) ?_ ?_ ?_; rotate_left
           ·intro w'; go_simp; with_reducible rfl
           rotate_left
           ·simp only [Act.put, sa_, s0_, ss_, i64_w, i32_w]; rfl
           refine pu_ 26 (some 44) ?_ b16_27 rfl rfl HT_.out (by kernel_rfl) (fun _ _ _ h => h) (Or.inl ⟨by rfl, ?_⟩) ?_ ?_ ?_; rotate_left
           ·intro w'; go_simp; with_reducible rfl
           rotate_left
           ·simp only [Act.put, sa_, s0_, ss_, i64_w, i32_w]; rfl
           refine pu_ 27 (some 45) undef b16_28 rfl rfl HT_.out (by kernel_rfl) (fun _ _ _ h => h) (Or.inr ⟨by rfl, rfl⟩) ?_ ?_ ?_; rotate_left
           ·simp only [Act.put, sa_, s0_, ss_, i64_w, i32_w]; rfl
           refine pu_ 28 (some 46) undef b16_29 rfl rfl HT_.out (by kernel_rfl) (fun _ _ _ h => h) (Or.inr ⟨by rfl, rfl⟩) ?_ ?_ ?_; rotate_left
           ·simp only [Act.put, sa_, s0_, ss_, i64_w, i32_w]; rfl
           refine pu_ 29 (some 47) undef b16_30 rfl rfl HT_.out (by kernel_rfl) (fun _ _ _ h => h) (Or.inr ⟨by rfl, rfl⟩) ?_ ?_ ?_; rotate_left
           ·simp only [Act.put, sa_, s0_, ss_, i64_w, i32_w]; rfl
           refine pu_ 30 (some 48) undef b16_31 rfl rfl HT_.out (by kernel_rfl) (fun _ _ _ h => h) (Or.inr ⟨by rfl, rfl⟩) ?_ ?_ ?_; rotate_left
           ·simp only [Act.put, sa_, s0_, ss_, i64_w, i32_w]; rfl
           refine pu_ 31 (some 49) undef b16_32 rfl rfl HT_.out (by kernel_rfl) (fun _ _ _ h => h) (Or.inr ⟨by rfl, rfl⟩) ?_ ?_ ?_; rotate_left
           ·simp only [Act.put, sa_, s0_, ss_, i64_w, i32_w]; rfl
           refine pu_ 32 (some 50) undef b16_33 rfl rfl HT_.out (by kernel_rfl) (fun _ _ _ h => h) (Or.inr ⟨by rfl, rfl⟩) ?_ ?_ ?_; rotate_left
           ·simp only [Act.put, sa_, s0_, ss_, i64_w, i32_w]; rfl
           refine pu_ 33 (some 51) undef b16_34 rfl rfl HT_.out (by kernel_rfl) (fun _ _ _ h => h) (Or.inr ⟨by rfl, rfl⟩) ?_ ?_ ?_; rotate_left
           ·simp only [Act.put, sa_, s0_, ss_, i64_w, i32_w]; rfl
           refine pu_ 34 (some 52) undef b16_35 rfl rfl HT_.out (by kernel_rfl) (fun _ _ _ h => h) (Or.inr ⟨by rfl, rfl⟩) ?_ ?_ ?_; rotate_left
           ·simp only [Act.put, sa_, s0_, ss_, i64_w, i32_w]; rfl
           refine pu_ 35 (some 53) undef b16_36 rfl rfl HT_.out (by kernel_rfl) (fun _ _ _ h => h) (Or.inr ⟨by rfl, rfl⟩) ?_ ?_ ?_; rotate_left
           ·simp only [Act.put, sa_, s0_, ss_, i64_w, i32_w]; rfl
           refine pu_ 36 (some 54) undef b16_37 rfl rfl HT_.out (by kernel_rfl) (fun _ _ _ h => h) (Or.inr ⟨by rfl, rfl⟩) ?_ ?_ ?_; rotate_left
           ·simp only [Act.put, sa_, s0_, ss_, i64_w, i32_w]; rfl
           refine pu_ 37 (some 55) undef b16_38 rfl rfl HT_.out (by kernel_rfl) (fun _ _ _ h => h) (Or.inr ⟨by rfl, rfl⟩) ?_ ?_ ?_; rotate_left
           ·simp only [Act.put, sa_, s0_, ss_, i64_w, i32_w]; rfl
           refine pu_ 38 (some 56) undef b16_39 rfl rfl HT_.out (by kernel_rfl) (fun _ _ _ h => h) (Or.inr ⟨by rfl, rfl⟩) ?_ ?_ ?_; rotate_left
           ·simp only [Act.put, sa_, s0_, ss_, i64_w, i32_w]; rfl
           refine pu_ 39 (some 57) ?_ b16_40 rfl rfl HT_.out (by kernel_rfl) (fun _ _ _ h => h) (Or.inl ⟨by rfl, ?_⟩) ?_ ?_ ?_; rotate_left
           ·intro w'; go_simp; with_reducible rfl
           rotate_left
           ·simp only [Act.put, sa_, s0_, ss_, i64_w, i32_w]; rfl
           refine done_ (done_of HT_.out (by kernel_rfl)) ?_
           (try (rw [drewN_self w50]; generalize hq_ : World.drewN w50 _ = w50; replace BK136 := am (blk_at hq_ BK136.out); replace HB := am (below_at hq_ HB.out); clear hq_))
           try go_wp2
           go_ret
           exact ⟨by first | rfl | (simp [errW_none, errW_some] <;> rfl) | (simp [*, errW_none, errW_some] <;> rfl), by repeat (first | (with_reducible first | exact HB.out | apply below_alloc | apply pw_below_drewN | apply below_drew1 | refine below_set ?_ GE136.out) | exact HB.out)⟩
     ·rw [if_neg c4] at H
      exact absurd H (by simp)
    ·rw [if_neg c3] at H
     have c3b0 : decide (x3_1 < (l0.length : Int)) = false := decide_eq_false c3
     clear c3
     obtain rfl := Option.some.inj H
     go_wp2
     go_ret
     exact ⟨by first | rfl | (simp [errW_none, errW_some] <;> rfl) | (simp [*, errW_none, errW_some] <;> rfl), by repeat (first | (with_reducible first | exact HB.out | apply below_alloc | apply pw_below_drewN | apply below_drew1) | exact HB.out)⟩

end Go.Proofs.Ytpllahncpjpfmaa.PFnExactKeyBind
