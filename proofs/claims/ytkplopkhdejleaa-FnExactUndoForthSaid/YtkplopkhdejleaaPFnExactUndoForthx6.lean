-- Written by xprint.py (this claim's own program, over the kit's printer); Lean checks it.
import Derived.Test.YtkplopkhdejleaaPFnExactUndoForthx0
import Derived.Test.YtkplopkhdejleaaPFnExactUndoForthx4
import Derived.Test.YtkplopkhdejleaaPFnExactUndoForthx5
namespace Go.Proofs.Ytkplopkhdejleaa.PFnExactUndoForth
open Go.RowKit Go.Proofs.YtkplopkhdejleaaW.PrintWords Go.Proofs.YtkplopkhdejleaaW.PrintLast Go.Proofs.YtkplopkhdejleaaW.PrintMore
attribute [local go_sem] max2_int min2_int max_two min_two max_three min_three max_four min_four   -- for this text's walks alone
set_option linter.unusedVariables false
set_option linter.unusedSimpArgs false   -- squeezed

/-! ### spec_UndoForth: function 26 -/
@[reducible] def b26_0 : Array Bool := (br true [12, 1]).toArray
@[reducible] def b26_1 : Array Bool := (br true [9, 2, 1, 1]).toArray
@[reducible] def b26_2 : Array Bool := (br true [10, 1, 1, 1]).toArray
def spec_UndoForth.j0 : Nat → Bool → List (S31) → List (S31) → List Int → Int → Int → Option ((List (S31)) × (List (S31)) × List Int × Int × Int × Int)
 | 0, _, _, _, _, _, _ => none
 | k + 1, x14, x220000, x220001, x221000, x221001, x221002 => if x14 = true then (some (([] : List (S31)), ([] : List (S31)), ([] : List Int), 0, 0, 1)) else (if (x220001.length : Int) = 0 then (some (([] : List (S31)), ([] : List (S31)), ([] : List Int), 0, 0, 4)) else ((spec_l05Put.f k x220000 x221000 x221001 x221002).bind fun t224 => (if 0 ≤ (wrap64 ((x220001.length : Int) - 1)) then (if (wrap64 ((x220001.length : Int) - 1)) ≤ (x220001.length : Int) then ((spec_l05CopyBufs.f k (x220001.take ((wrap64 ((x220001.length : Int) - 1)) : Int).toNat)).bind fun t231 => (if (wrap64 ((x220001.length : Int) - 1)) < (x220001.length : Int) then ((spec_l02Copy.f ((rd_T31 x220001 (wrap64 ((x220001.length : Int) - 1))).f0) ((rd_T31 x220001 (wrap64 ((x220001.length : Int) - 1))).f1) ((rd_T31 x220001 (wrap64 ((x220001.length : Int) - 1))).f2)).bind fun bt236 => (some (t224, t231, bt236.1, bt236.2.1, bt236.2.2, 0))) else (none))) else (none)) else (none))))
def spec_UndoForth.f (k : Nat) (l0_0 : List (S31)) (l0_1 : List (S31)) (l1_0 : List Int) (a1_1 : Int) (a1_2 : Int) : Option ((List (S31)) × (List (S31)) × List Int × Int × Int × Int) := (spec_UndoRight.f k l0_0 l0_1).bind fun t222 => (if t222 = true then ((spec_BufRight.f k l1_0 a1_1 a1_2).bind fun t223 => (spec_UndoForth.j0 k (!t223) l0_0 l0_1 l1_0 a1_1 a1_2)) else (spec_UndoForth.j0 k true l0_0 l0_1 l1_0 a1_1 a1_2))
theorem spec_UndoForth.mono_l : ∀ k, (∀ y0 y1 y2 y3 y4 y5, LeO (spec_UndoForth.j0 k y0 y1 y2 y3 y4 y5) (spec_UndoForth.j0 (k + 1) y0 y1 y2 y3 y4 y5))
 | 0 => fun _ _ _ _ _ _ r h => by simp [spec_UndoForth.j0] at h
 | k + 1 => by
  have ih0 := spec_UndoForth.mono_l k
  ·intro y0 y1 y2 y3 y4 y5
   unfold spec_UndoForth.j0
   repeat' first
   | (with_reducible exact ih0 _ _ _ _ _ _)
   | (with_reducible exact spec_BufRight.mono _ _ _ _)
   | (with_reducible exact spec_UndoRight.mono _ _ _)
   | (with_reducible exact spec_l05CopyBufs.mono _ _)
   | (with_reducible exact spec_l05Put.mono _ _ _ _ _)
   | (with_reducible exact LeO.refl _)
   | (with_reducible exact LeO.none _)
   | (with_reducible refine LeO.ite ?_ ?_)
   | (with_reducible refine LeO.bind ?_ (fun _ => ?_))
   | exact ih0 _ _ _ _ _ _
   | exact spec_BufRight.mono _ _ _ _
   | exact spec_UndoRight.mono _ _ _
   | exact spec_l05CopyBufs.mono _ _
   | exact spec_l05Put.mono _ _ _ _ _
   | refine LeO.bind ?_ (fun _ => ?_)
theorem spec_UndoForth.mono : ∀ a0 a1 a2 a3 a4 k, LeO (spec_UndoForth.f k a0 a1 a2 a3 a4) (spec_UndoForth.f (k + 1) a0 a1 a2 a3 a4) := by
 intro a0 a1 a2 a3 a4 k
 have ih0 := spec_UndoForth.mono_l k
 unfold spec_UndoForth.f
 repeat' first
   | (with_reducible exact ih0 _ _ _ _ _ _)
   | (with_reducible exact spec_BufRight.mono _ _ _ _)
   | (with_reducible exact spec_UndoRight.mono _ _ _)
   | (with_reducible exact spec_l05CopyBufs.mono _ _)
   | (with_reducible exact spec_l05Put.mono _ _ _ _ _)
   | (with_reducible exact LeO.refl _)
   | (with_reducible exact LeO.none _)
   | (with_reducible refine LeO.ite ?_ ?_)
   | (with_reducible refine LeO.bind ?_ (fun _ => ?_))
   | exact ih0 _ _ _ _ _ _
   | exact spec_BufRight.mono _ _ _ _
   | exact spec_UndoRight.mono _ _ _
   | exact spec_l05CopyBufs.mono _ _
   | exact spec_l05Put.mono _ _ _ _ _
   | refine LeO.bind ?_ (fun _ => ?_)
def spec_UndoForth.T6 : Bool × List (List Nat × List Nat) := (true, [([], []), ([0], [0]), ([], []), ([1, 2], [1, 2]), ([], []), ([4], [4]), ([], []), ([6], [6]), ([5, 7], [5, 7]), ([8, 3], [8]), ([3, 9], [3, 9]), ([], []), ([11, 10, 9, 0, 1, 2, 3, 4, 5, 6, 7, 8, 9, 10, 11], [10, 11])])
def spec_UndoForth.B6 : List Nat := [0, 1, 0, 7, 0, 16, 0, 64, 240, 511, 1023, 0, 4095]
theorem spec_UndoForth.tab6 : rtab .any (opsOf Try.f26 6) = spec_UndoForth.T6 := by kernel_rfl
theorem spec_UndoForth.bits6 : waitsOk spec_UndoForth.T6.2 spec_UndoForth.B6 = true := by kernel_rfl
def spec_UndoForth.T7 : Bool × List (List Nat × List Nat) := (true, [([], []), ([], []), ([1], [1]), ([], []), ([3], [3]), ([2, 4], [2, 4]), ([5], [5]), ([6], [6]), ([0, 7], [0, 7]), ([8, 7, 0, 1, 2, 3, 4, 5, 6, 7, 8], [8])])
def spec_UndoForth.B7 : List Nat := [0, 0, 2, 0, 8, 30, 62, 126, 255, 511]
theorem spec_UndoForth.tab7 : rtab .any (opsOf Try.f26 7) = spec_UndoForth.T7 := by kernel_rfl
theorem spec_UndoForth.bits7 : waitsOk spec_UndoForth.T7.2 spec_UndoForth.B7 = true := by kernel_rfl
set_option maxHeartbeats 8000000 in
set_option maxRecDepth 100000 in
theorem spec_UndoForth.calls (k : Nat) (A0_0 : Option Addr) (c0_0 : Nat) (l0_0 : List (S31)) (A0_1 : Option Addr) (c0_1 : Nat) (l0_1 : List (S31)) (A1_0 : Option Addr) (c1_0 : Nat) (l1_0 : List Int) (a1_1 : Int) (a1_2 : Int) (r1 : List (S31)) (r2 : List (S31)) (r3 : List Int) (r4 : Int) (r5 : Int) (r6 : Int) (w : World) (hr0_0 : Kd.C k31 w A0_0 l0_0.length l0_0) (hc0_0 : l0_0.length ≤ c0_0) (hr0_1 : Kd.C k31 w A0_1 l0_1.length l0_1) (hc0_1 : l0_1.length ≤ c0_1) (hr1_0 : Kd.C (Kd.int .i64) w A1_0 l1_0.length l1_0) (hc1_0 : l1_0.length ≤ c1_0) (h : spec_UndoForth.f k l0_0 l0_1 l1_0 a1_1 a1_2 = some (r1, r2, r3, r4, r5, r6)) :
  Calls Try.prog 26 #[.agg #[.slice A0_0 l0_0.length c0_0, .slice A0_1 l0_1.length c0_1], .agg #[.slice A1_0 l1_0.length c1_0, .int .i64 a1_1, .int .i64 a1_2]] w fun e w' => ∃ v0_ v1_ v2_ : Value, e = .returned (.agg #[v0_, v1_, v2_, .int .i64 r4, .int .i64 r5, .int .i64 r6]) ∧ Kd.T k31 31 w' w.heap.size (fun k_ => some k_ ≠ (v1_ : Value).ownBlock ∧ some k_ ≠ (v2_ : Value).ownBlock) v0_ r1 ∧ Kd.S k31 31 w' w.heap.size (fun k_ => some k_ ≠ (v0_ : Value).ownBlock ∧ some k_ ≠ (v2_ : Value).ownBlock) v1_ r2 ∧ Kd.R (Kd.int .i64) 2 w' w.heap.size (fun _ => True) v2_ r3 ∧ Below w.heap.size w w' := by
 have hu30 := Try.underlying30
 have hu31 := Try.underlying31
 have hu33 := Try.underlying33
 have HR0_0 := am hr0_0
 have HC0_0 := am hc0_0
 clear hr0_0 hc0_0
 have HR0_1 := am hr0_1
 have HC0_1 := am hc0_1
 clear hr0_1 hc0_1
 have HR1_0 := am hr1_0
 have HC1_0 := am hc1_0
 clear hr1_0 hc1_0
 have HB := am (Below.refl w.heap.size w)
 have H : ((spec_UndoRight.f k l0_0 l0_1).bind fun t222 => (if t222 = true then ((spec_BufRight.f k l1_0 a1_1 a1_2).bind fun t223 => (spec_UndoForth.j0 k (!t223) l0_0 l0_1 l1_0 a1_1 a1_2)) else (spec_UndoForth.j0 k true l0_0 l0_1 l1_0 a1_1 a1_2))) = some (r1, r2, r3, r4, r5, r6) := h
 clear h
 have HC3 := Aside0.mk H
 clear H
 go_enter Try.func26, Try.ntmps26
 go_upto_region 1 with (first | ((with_reducible refine gate_dst (N := 2) rfl ?_); refine box_event ?hg (N := 2) ?hd (cs := #[.slice A0_0 l0_0.length c0_0, .slice A0_1 l0_1.length c0_1]) (t := 30) ?hr ?_; (case hd => rfl); (case hg => rfl); (case hr => first | (go_simp; done) | (go_simp; rfl)); intro gb219 hg w4 hbox hb; have BK219 := am (hbox); have GW219 := am ((by rw [hg]; exact (below_size (bl HB.out)) : w.heap.size ≤ gb219)); have GE219 := GW219; replace HB := am (below_step (bl HB.out) hb); clear hb hbox hg) | ((with_reducible refine gate_dst (N := 3) rfl ?_); refine box_event ?hg (N := 3) ?hd (cs := #[.slice A1_0 l1_0.length c1_0, .int .i64 a1_1, .int .i64 a1_2]) (t := 31) ?hr ?_; (case hd => rfl); (case hg => rfl); (case hr => first | (go_simp; done) | (go_simp; rfl)); intro gb220 hg w5 hbox hb; have BK220 := am (hbox); have GW220 := am ((by rw [hg]; exact (below_size (bl HB.out)) : w.heap.size ≤ gb220)); have GE220 := GW220; replace HB := am (below_step (bl HB.out) hb); have NB219_220 := am ((by rw [hg]; exact Nat.ne_of_lt (blk_lt (pk BK219.out)) : gb219 ≠ gb220)); have NB220_219 := am ((by rw [hg]; exact Nat.ne_of_gt (blk_lt (pk BK219.out)) : gb220 ≠ gb219)); replace BK219 := am (blk_below (pk BK219.out) hb); clear hb hbox hg) | ((with_reducible refine gate_dst (N := 4) rfl ?_); refine box_event ?hg (N := 4) ?hd (cs := #[.slice none 0 0, .slice none 0 0, .slice none 0 0, .int .i64 0, .int .i64 0, .int .i64 0]) (t := 33) ?hr ?_; (case hd => rfl); (case hg => rfl); (case hr => first | (go_simp; done) | (go_simp; rfl)); intro gb221 hg w6 hbox hb; have BK221 := am (hbox); have GW221 := am ((by rw [hg]; exact (below_size (bl HB.out)) : w.heap.size ≤ gb221)); have GE221 := GW221; replace HB := am (below_step (bl HB.out) hb); have NB219_221 := am ((by rw [hg]; exact Nat.ne_of_lt (blk_lt (pk BK219.out)) : gb219 ≠ gb221)); have NB221_219 := am ((by rw [hg]; exact Nat.ne_of_gt (blk_lt (pk BK219.out)) : gb221 ≠ gb219)); replace BK219 := am (blk_below (pk BK219.out) hb); have NB220_221 := am ((by rw [hg]; exact Nat.ne_of_lt (blk_lt (pk BK220.out)) : gb220 ≠ gb221)); have NB221_220 := am ((by rw [hg]; exact Nat.ne_of_gt (blk_lt (pk BK220.out)) : gb221 ≠ gb220)); replace BK220 := am (blk_below (pk BK220.out) hb); clear hb hbox hg))
 (try simp only [Act.put, sa_, s0_, ss_])
 go_cut [14] (fun v14 wc => ∃ (kq : Nat) (x14_2 : Bool), v14 = .bool x14_2 ∧ Aside0 (spec_UndoForth.j0 kq x14_2 l0_0 l0_1 l1_0 a1_1 a1_2 = some (r1, r2, r3, r4, r5, r6)) ∧ Aside0 (kq ≤ k) ∧ Aside0 (wc.heap[gb219]? = some (.cells #[(.slice A0_0 l0_0.length c0_0), (.slice A0_1 l0_1.length c0_1)] 30 (0, 0))) ∧ Aside0 (wc.heap[gb220]? = some (.cells #[(.slice A1_0 l1_0.length c1_0), .int .i64 a1_1, .int .i64 a1_2] 31 (0, 0))) ∧ Aside0 (wc.heap[gb221]? = some (.cells #[(.slice none 0 0), (.slice none 0 0), (.slice none 0 0), .int .i64 0, .int .i64 0, .int .i64 0] 33 (0, 0))) ∧ Aside0 (Below w.heap.size w wc))
 case first =>
  have H := HC3.out
  clear HC3
  replace H := Option.bind_eq_some_iff.mp H
  obtain ⟨t222, A70, H⟩ := H
  replace H : (if t222 = true then ((spec_BufRight.f k l1_0 a1_1 a1_2).bind fun t223 => (spec_UndoForth.j0 k (!t223) l0_0 l0_1 l1_0 a1_1 a1_2)) else (spec_UndoForth.j0 k true l0_0 l0_1 l1_0 a1_1 a1_2)) = some (r1, r2, r3, r4, r5, r6) := H
  have A7 := Aside0.mk A70
  clear A70
  by_cases c8 : t222 = true
  ·subst c8
   have H1 : ((spec_BufRight.f k l1_0 a1_1 a1_2).bind fun t223 => (spec_UndoForth.j0 k (!t223) l0_0 l0_1 l1_0 a1_1 a1_2)) = some (r1, r2, r3, r4, r5, r6) := by rw [if_pos rfl] at H; exact H
   clear H
   have H := H1
   clear H1
   replace H := Option.bind_eq_some_iff.mp H
   obtain ⟨t223, A90, H⟩ := H
   replace H : (spec_UndoForth.j0 k (!t223) l0_0 l0_1 l1_0 a1_1 a1_2) = some (r1, r2, r3, r4, r5, r6) := H
   have A9 := Aside0.mk A90
   clear A90
   have H' := Aside0.mk H
   clear H
   have hnb10 := NB219_220.out
   have hnc10 := NB220_219.out
   have hnb11 := NB219_221.out
   have hnc11 := NB221_219.out
   have hcz12_0 : w6.cell? ⟨gb219, 0, none⟩ = some (.slice A0_0 l0_0.length c0_0) := bc BK219.out 0
   have hcz12_1 : w6.cell? ⟨gb219, 1, none⟩ = some (.slice A0_1 l0_1.length c0_1) := bc BK219.out 1
   have hfz12_0 := blk_frozen BK219.out 0
   have hfz12_1 := blk_frozen BK219.out 1
   go_wp2_with (first | ((with_reducible refine gate_callee (f := 47) rfl ?_); refine gl (some 8) Try.func47 #[.agg #[.slice A0_0 l0_0.length c0_0, .slice A0_1 l0_1.length c0_1]] ?_; (with_reducible refine (spec_UndoRight.calls k _ _ l0_0 _ _ l0_1 true _ ?side1 ?side2 ?side3 ?side4 A7.out).mono ?_); (case side1 => repeat (first | exact (Kd.C_below HR0_0.out HB.out) | (with_reducible refine Kd.C_alloc ?_ _) | (with_reducible refine Kd.C_drewN ?_ _) | (with_reducible refine Kd.C_drew ?_))); (case side2 => exact HC0_0.out); (case side3 => repeat (first | exact (Kd.C_below HR0_1.out HB.out) | (with_reducible refine Kd.C_alloc ?_ _) | (with_reducible refine Kd.C_drewN ?_ _) | (with_reducible refine Kd.C_drew ?_))); (case side4 => exact HC0_1.out); rintro e w13 ⟨rfl, hb⟩; refine ⟨_, rfl, ?_⟩; replace BK219 := am (blk_below (pk BK219.out) hb); replace BK220 := am (blk_below (pk BK220.out) hb); replace BK221 := am (blk_below (pk BK221.out) hb); replace HB := am (below_step (bl HB.out) hb); (try clear hb); (try clear hb2); (try clear hk); (try clear hi); have hnb14 := NB220_221.out; have hnc14 := NB221_220.out; have hcz15_0 : w13.cell? ⟨gb220, 0, none⟩ = some (.slice A1_0 l1_0.length c1_0) := bc BK220.out 0; have hcz15_1 : w13.cell? ⟨gb220, 1, none⟩ = some (.int .i64 a1_1) := bc BK220.out 1; have hcz15_2 : w13.cell? ⟨gb220, 2, none⟩ = some (.int .i64 a1_2) := bc BK220.out 2; have hfz15_0 := blk_frozen BK220.out 0; have hfz15_1 := blk_frozen BK220.out 1; have hfz15_2 := blk_frozen BK220.out 2) | (go_at_call 29; (with_reducible refine (spec_BufRight.calls k _ _ l1_0 a1_1 a1_2 t223 _ ?side1 ?side2 A9.out).mono ?_); (case side1 => repeat (first | exact (Kd.C_below HR1_0.out HB.out) | (with_reducible refine Kd.C_alloc ?_ _) | (with_reducible refine Kd.C_drewN ?_ _) | (with_reducible refine Kd.C_drew ?_))); (case side2 => exact HC1_0.out); rintro e w16 ⟨rfl, hb⟩; replace BK219 := am (blk_below (pk BK219.out) hb); replace BK220 := am (blk_below (pk BK220.out) hb); replace BK221 := am (blk_below (pk BK221.out) hb); replace HB := am (below_step (bl HB.out) hb); (try clear hb); (try clear hb2); (try clear hk); (try clear hi)))
   go_meet
   case rel => exact ⟨_, (!t223), (by first | rfl | (simp; done) | (simp [*]; done)), H', ⟨by first | omega | exact Nat.le_refl _⟩, ⟨pk BK219.out⟩, ⟨pk BK220.out⟩, ⟨pk BK221.out⟩, ⟨by repeat (first | (with_reducible first | exact HB.out | apply below_alloc | apply pw_below_drewN | apply below_drew1 | refine below_set ?_ GE219.out | refine below_set ?_ GE220.out | refine below_set ?_ GE221.out) | exact HB.out)⟩⟩
  ·replace c8 := Bool.eq_false_iff.mpr c8
   subst c8
   have H1 : (spec_UndoForth.j0 k true l0_0 l0_1 l1_0 a1_1 a1_2) = some (r1, r2, r3, r4, r5, r6) := by rw [if_neg (show ¬ (false = true) by decide)] at H; exact H
   clear H
   have H := H1
   clear H1
   have H' := Aside0.mk H
   clear H
   have hnb17 := NB219_220.out
   have hnc17 := NB220_219.out
   have hnb18 := NB219_221.out
   have hnc18 := NB221_219.out
   have hcz19_0 : w6.cell? ⟨gb219, 0, none⟩ = some (.slice A0_0 l0_0.length c0_0) := bc BK219.out 0
   have hcz19_1 : w6.cell? ⟨gb219, 1, none⟩ = some (.slice A0_1 l0_1.length c0_1) := bc BK219.out 1
   have hfz19_0 := blk_frozen BK219.out 0
   have hfz19_1 := blk_frozen BK219.out 1
   go_wp2_with (first | ((with_reducible refine gate_callee (f := 47) rfl ?_); refine gl (some 8) Try.func47 #[.agg #[.slice A0_0 l0_0.length c0_0, .slice A0_1 l0_1.length c0_1]] ?_; (with_reducible refine (spec_UndoRight.calls k _ _ l0_0 _ _ l0_1 false _ ?side1 ?side2 ?side3 ?side4 A7.out).mono ?_); (case side1 => repeat (first | exact (Kd.C_below HR0_0.out HB.out) | (with_reducible refine Kd.C_alloc ?_ _) | (with_reducible refine Kd.C_drewN ?_ _) | (with_reducible refine Kd.C_drew ?_))); (case side2 => exact HC0_0.out); (case side3 => repeat (first | exact (Kd.C_below HR0_1.out HB.out) | (with_reducible refine Kd.C_alloc ?_ _) | (with_reducible refine Kd.C_drewN ?_ _) | (with_reducible refine Kd.C_drew ?_))); (case side4 => exact HC0_1.out); rintro e w20 ⟨rfl, hb⟩; refine ⟨_, rfl, ?_⟩; replace BK219 := am (blk_below (pk BK219.out) hb); replace BK220 := am (blk_below (pk BK220.out) hb); replace BK221 := am (blk_below (pk BK221.out) hb); replace HB := am (below_step (bl HB.out) hb); (try clear hb); (try clear hb2); (try clear hk); (try clear hi)))
   go_meet
   case rel => exact ⟨_, (true), (by first | rfl | (simp; done) | (simp [*]; done)), H', ⟨by first | omega | exact Nat.le_refl _⟩, ⟨pk BK219.out⟩, ⟨pk BK220.out⟩, ⟨pk BK221.out⟩, ⟨by repeat (first | (with_reducible first | exact HB.out | apply below_alloc | apply pw_below_drewN | apply below_drew1 | refine below_set ?_ GE219.out | refine below_set ?_ GE220.out | refine below_set ?_ GE221.out) | exact HB.out)⟩⟩
 case rest =>
  clear HC3
  try clear c1
  try clear c2
  try clear p2
  try clear c4
  try clear c8
  try clear c10
  try clear c11
  try clear c14
  try clear c17
  try clear c18
  try clear hcz12_0
  try clear hcz12_1
  try clear hcz15_0
  try clear hcz15_1
  try clear hcz15_2
  try clear hcz19_0
  try clear hcz19_1
  try clear hfz12_0
  try clear hfz12_1
  try clear hfz15_0
  try clear hfz15_1
  try clear hfz15_2
  try clear hfz19_0
  try clear hfz19_1
  obtain ⟨kq, x14_2, rfl, HA, HJ2, BK219, BK220, BK221, HB⟩ := hcut
  cases kq with
  | zero => exact absurd HA.out (by simp [spec_UndoForth.j0])
  | succ kj2 =>
   have H := HA.out
   clear HA
   simp only [spec_UndoForth.j0] at H
   by_cases c21 : x14_2 = true
   ·subst c21
    have H1 : (some (([] : List (S31)), ([] : List (S31)), ([] : List Int), 0, 0, 1)) = some (r1, r2, r3, r4, r5, r6) := by rw [if_pos rfl] at H; exact H
    clear H
    have H := H1
    clear H1
    simp only [Option.some.injEq, Prod.mk.injEq] at H
    obtain ⟨rfl, rfl, rfl, rfl, rfl, rfl⟩ := H
    have hnb22 := NB221_219.out
    have hnc22 := NB219_221.out
    have hnb23 := NB221_220.out
    have hnc23 := NB220_221.out
    have hcz24_0 : wc.cell? ⟨gb221, 0, none⟩ = some (.slice none 0 0) := bc BK221.out 0
    have hcz24_1 : wc.cell? ⟨gb221, 1, none⟩ = some (.slice none 0 0) := bc BK221.out 1
    have hcz24_2 : wc.cell? ⟨gb221, 2, none⟩ = some (.slice none 0 0) := bc BK221.out 2
    have hcz24_3 : wc.cell? ⟨gb221, 3, none⟩ = some (.int .i64 0) := bc BK221.out 3
    have hcz24_4 : wc.cell? ⟨gb221, 4, none⟩ = some (.int .i64 0) := bc BK221.out 4
    have hcz24_5 : wc.cell? ⟨gb221, 5, none⟩ = some (.int .i64 0) := bc BK221.out 5
    have hfz24_0 := blk_frozen BK221.out 0
    have hfz24_1 := blk_frozen BK221.out 1
    have hfz24_2 := blk_frozen BK221.out 2
    have hfz24_3 := blk_frozen BK221.out 3
    have hfz24_4 := blk_frozen BK221.out 4
    have hfz24_5 := blk_frozen BK221.out 5
    go_wp2
    refine bodyPost_ret (results_cell_row rfl _ _ gb221 33 #[.slice none 0 0, .slice none 0 0, .slice none 0 0, .int .i64 0, .int .i64 0, .int .i64 1] (0, 0) _ rfl (by refine pk ?_; refine blk_put (cs := #[.slice none 0 0, .slice none 0 0, .slice none 0 0, .int .i64 0, .int .i64 0, .int .i64 0]) ?_ 5 _ rfl; refine pk ?_; refine blk_put (cs := #[.slice none 0 0, .slice none 0 0, .slice none 0 0, .int .i64 0, .int .i64 0, .int .i64 0]) ?_ 4 _ rfl; refine pk ?_; refine blk_put (cs := #[.slice none 0 0, .slice none 0 0, .slice none 0 0, .int .i64 0, .int .i64 0, .int .i64 0]) ?_ 3 _ rfl; refine pk ?_; refine blk_put (cs := #[.slice none 0 0, .slice none 0 0, .slice none 0 0, .int .i64 0, .int .i64 0, .int .i64 0]) ?_ 2 _ rfl; refine pk ?_; refine blk_put (cs := #[.slice none 0 0, .slice none 0 0, .slice none 0 0, .int .i64 0, .int .i64 0, .int .i64 0]) ?_ 1 _ rfl; refine pk ?_; refine blk_put (cs := #[.slice none 0 0, .slice none 0 0, .slice none 0 0, .int .i64 0, .int .i64 0, .int .i64 0]) ?_ 0 _ rfl; refine pk ?_; exact BK221.out) Try.underlying33 rfl (by kernel_rfl)) rfl ?_
    exact ⟨_, _, _, by first | rfl | (simp [errW_none, errW_some] <;> rfl) | (simp [*, errW_none, errW_some] <;> rfl), Kd.T_of_S (by first | exact Kd.S_nil _ _ _ _ _ | exact Kd.N_nil _ _ _ _ _ | exact Kd.V_nil _ _ _ _ _ | exact Kd.T_nil _ _ _ _ _ | exact Kd.R_nil _ _ _ _ _), by first | exact Kd.S_nil _ _ _ _ _ | exact Kd.N_nil _ _ _ _ _ | exact Kd.V_nil _ _ _ _ _ | exact Kd.T_nil _ _ _ _ _ | exact Kd.R_nil _ _ _ _ _, by first | exact Kd.R_nil _ _ _ _ _ | exact Kd.N_nil _ _ _ _ _ | exact Kd.V_nil _ _ _ _ _ | exact Kd.T_nil _ _ _ _ _ | exact Kd.S_nil _ _ _ _ _, by repeat (first | (with_reducible first | exact HB.out | apply below_alloc | apply pw_below_drewN | apply below_drew1 | refine below_set ?_ GE219.out | refine below_set ?_ GE220.out | refine below_set ?_ GE221.out) | exact HB.out)⟩
   ·replace c21 := Bool.eq_false_iff.mpr c21
    subst c21
    have H1 : (if (l0_1.length : Int) = 0 then (some (([] : List (S31)), ([] : List (S31)), ([] : List Int), 0, 0, 4)) else ((spec_l05Put.f kj2 l0_0 l1_0 a1_1 a1_2).bind fun t224 => (if 0 ≤ (wrap64 ((l0_1.length : Int) - 1)) then (if (wrap64 ((l0_1.length : Int) - 1)) ≤ (l0_1.length : Int) then ((spec_l05CopyBufs.f kj2 (l0_1.take ((wrap64 ((l0_1.length : Int) - 1)) : Int).toNat)).bind fun t231 => (if (wrap64 ((l0_1.length : Int) - 1)) < (l0_1.length : Int) then ((spec_l02Copy.f ((rd_T31 l0_1 (wrap64 ((l0_1.length : Int) - 1))).f0) ((rd_T31 l0_1 (wrap64 ((l0_1.length : Int) - 1))).f1) ((rd_T31 l0_1 (wrap64 ((l0_1.length : Int) - 1))).f2)).bind fun bt236 => (some (t224, t231, bt236.1, bt236.2.1, bt236.2.2, 0))) else (none))) else (none)) else (none)))) = some (r1, r2, r3, r4, r5, r6) := by rw [if_neg (show ¬ (false = true) by decide)] at H; exact H
    clear H
    have H := H1
    clear H1
    by_cases c25 : (l0_1.length : Int) = 0
    ·rw [if_pos c25] at H
     have c25b0 : ((l0_1.length : Int) == 0) = true := beq_iff_eq.mpr c25
     have c25b1 : ((l0_1.length : Int) != 0) = false := bne_eq_false_iff_eq.mpr c25
     clear c25
     simp only [Option.some.injEq, Prod.mk.injEq] at H
     obtain ⟨rfl, rfl, rfl, rfl, rfl, rfl⟩ := H
     have hnb26 := NB219_220.out
     have hnc26 := NB220_219.out
     have hnb27 := NB219_221.out
     have hnc27 := NB221_219.out
     have hcz28_0 : wc.cell? ⟨gb219, 0, none⟩ = some (.slice A0_0 l0_0.length c0_0) := bc BK219.out 0
     have hcz28_1 : wc.cell? ⟨gb219, 1, none⟩ = some (.slice A0_1 l0_1.length c0_1) := bc BK219.out 1
     have hfz28_0 := blk_frozen BK219.out 0
     have hfz28_1 := blk_frozen BK219.out 1
     have hnb29 := NB221_220.out
     have hnc29 := NB220_221.out
     have hcz30_0 : wc.cell? ⟨gb221, 0, none⟩ = some (.slice none 0 0) := bc BK221.out 0
     have hcz30_1 : wc.cell? ⟨gb221, 1, none⟩ = some (.slice none 0 0) := bc BK221.out 1
     have hcz30_2 : wc.cell? ⟨gb221, 2, none⟩ = some (.slice none 0 0) := bc BK221.out 2
     have hcz30_3 : wc.cell? ⟨gb221, 3, none⟩ = some (.int .i64 0) := bc BK221.out 3
     have hcz30_4 : wc.cell? ⟨gb221, 4, none⟩ = some (.int .i64 0) := bc BK221.out 4
     have hcz30_5 : wc.cell? ⟨gb221, 5, none⟩ = some (.int .i64 0) := bc BK221.out 5
     have hfz30_0 := blk_frozen BK221.out 0
     have hfz30_1 := blk_frozen BK221.out 1
     have hfz30_2 := blk_frozen BK221.out 2
     have hfz30_3 := blk_frozen BK221.out 3
     have hfz30_4 := blk_frozen BK221.out 4
     have hfz30_5 := blk_frozen BK221.out 5
     go_wp2
     refine bodyPost_ret (results_cell_row rfl _ _ gb221 33 #[.slice none 0 0, .slice none 0 0, .slice none 0 0, .int .i64 0, .int .i64 0, .int .i64 4] (0, 0) _ rfl (by refine pk ?_; refine blk_put (cs := #[.slice none 0 0, .slice none 0 0, .slice none 0 0, .int .i64 0, .int .i64 0, .int .i64 0]) ?_ 5 _ rfl; refine pk ?_; refine blk_put (cs := #[.slice none 0 0, .slice none 0 0, .slice none 0 0, .int .i64 0, .int .i64 0, .int .i64 0]) ?_ 4 _ rfl; refine pk ?_; refine blk_put (cs := #[.slice none 0 0, .slice none 0 0, .slice none 0 0, .int .i64 0, .int .i64 0, .int .i64 0]) ?_ 3 _ rfl; refine pk ?_; refine blk_put (cs := #[.slice none 0 0, .slice none 0 0, .slice none 0 0, .int .i64 0, .int .i64 0, .int .i64 0]) ?_ 2 _ rfl; refine pk ?_; refine blk_put (cs := #[.slice none 0 0, .slice none 0 0, .slice none 0 0, .int .i64 0, .int .i64 0, .int .i64 0]) ?_ 1 _ rfl; refine pk ?_; refine blk_put (cs := #[.slice none 0 0, .slice none 0 0, .slice none 0 0, .int .i64 0, .int .i64 0, .int .i64 0]) ?_ 0 _ rfl; refine pk ?_; exact BK221.out) Try.underlying33 rfl (by kernel_rfl)) rfl ?_
     exact ⟨_, _, _, by first | rfl | (simp [errW_none, errW_some] <;> rfl) | (simp [*, errW_none, errW_some] <;> rfl), Kd.T_of_S (by first | exact Kd.S_nil _ _ _ _ _ | exact Kd.N_nil _ _ _ _ _ | exact Kd.V_nil _ _ _ _ _ | exact Kd.T_nil _ _ _ _ _ | exact Kd.R_nil _ _ _ _ _), by first | exact Kd.S_nil _ _ _ _ _ | exact Kd.N_nil _ _ _ _ _ | exact Kd.V_nil _ _ _ _ _ | exact Kd.T_nil _ _ _ _ _ | exact Kd.R_nil _ _ _ _ _, by first | exact Kd.R_nil _ _ _ _ _ | exact Kd.N_nil _ _ _ _ _ | exact Kd.V_nil _ _ _ _ _ | exact Kd.T_nil _ _ _ _ _ | exact Kd.S_nil _ _ _ _ _, by repeat (first | (with_reducible first | exact HB.out | apply below_alloc | apply pw_below_drewN | apply below_drew1 | refine below_set ?_ GE219.out | refine below_set ?_ GE220.out | refine below_set ?_ GE221.out) | exact HB.out)⟩
    ·rw [if_neg c25] at H
     have c25b0 : ((l0_1.length : Int) == 0) = false := beq_eq_false_iff_ne.mpr c25
     have c25b1 : ((l0_1.length : Int) != 0) = true := bne_iff_ne.mpr c25
     have c25b2 : ¬ (l0_1 = []) := fun h_ => c25 (by rw [h_]; rfl)
     replace H := Option.bind_eq_some_iff.mp H
     obtain ⟨t224, A310, H⟩ := H
     replace H : (if 0 ≤ (wrap64 ((l0_1.length : Int) - 1)) then (if (wrap64 ((l0_1.length : Int) - 1)) ≤ (l0_1.length : Int) then ((spec_l05CopyBufs.f kj2 (l0_1.take ((wrap64 ((l0_1.length : Int) - 1)) : Int).toNat)).bind fun t231 => (if (wrap64 ((l0_1.length : Int) - 1)) < (l0_1.length : Int) then ((spec_l02Copy.f ((rd_T31 l0_1 (wrap64 ((l0_1.length : Int) - 1))).f0) ((rd_T31 l0_1 (wrap64 ((l0_1.length : Int) - 1))).f1) ((rd_T31 l0_1 (wrap64 ((l0_1.length : Int) - 1))).f2)).bind fun bt236 => (some (t224, t231, bt236.1, bt236.2.1, bt236.2.2, 0))) else (none))) else (none)) else (none)) = some (r1, r2, r3, r4, r5, r6) := H
     have A31 := Aside0.mk A310
     clear A310
     obtain ⟨ji32, hji32⟩ : ∃ j_ : Int, (wrap64 ((l0_1.length : Int) - 1)) = j_ := ⟨_, rfl⟩
     replace H : (if 0 ≤ (ji32) then (if (ji32) ≤ (l0_1.length : Int) then ((spec_l05CopyBufs.f kj2 (l0_1.take ((ji32) : Int).toNat)).bind fun t231 => (if (ji32) < (l0_1.length : Int) then ((spec_l02Copy.f ((rd_T31 l0_1 (ji32)).f0) ((rd_T31 l0_1 (ji32)).f1) ((rd_T31 l0_1 (ji32)).f2)).bind fun bt236 => (some (t224, t231, bt236.1, bt236.2.1, bt236.2.2, 0))) else (none))) else (none)) else (none)) = some (r1, r2, r3, r4, r5, r6) := by first | (rw [hji32] at H; exact H) | (simp only [hji32] at H ⊢; exact H)
     (try rw [hji32] at A31)
     have hji32w : (IntKind.i64.wrap ((l0_1.length : Int) - 1)) = ji32 := (i64_w _).trans hji32
     by_cases c33 : 0 ≤ (ji32)
     ·rw [if_pos c33] at H
      have c33b0 := eq_true c33
      have c33b1 : decide (0 ≤ (ji32)) = true := decide_eq_true c33
      clear c33
      by_cases c34 : (ji32) ≤ (l0_1.length : Int)
      ·rw [if_pos c34] at H
       have c34b0 := eq_true c34
       have c34b1 : decide ((ji32) ≤ (l0_1.length : Int)) = true := decide_eq_true c34
       clear c34
       obtain ⟨y227, hy227⟩ : ∃ y_ : List (S31), y_ = (l0_1.take ((ji32) : Int).toNat) := ⟨_, rfl⟩
       replace H : ((spec_l05CopyBufs.f kj2 y227).bind fun t231 => (if (ji32) < (l0_1.length : Int) then ((spec_l02Copy.f ((rd_T31 l0_1 (ji32)).f0) ((rd_T31 l0_1 (ji32)).f1) ((rd_T31 l0_1 (ji32)).f2)).bind fun bt236 => (some (t224, t231, bt236.1, bt236.2.1, bt236.2.2, 0))) else (none))) = some (r1, r2, r3, r4, r5, r6) := by first | (rw [hy227]; with_reducible exact H) | (have H2_ := (Option.bind_some _ _).symm.trans H; rw [hy227]; with_reducible exact H2_) | (have H2_ := (Option.bind_some _ _).symm.trans H; with_reducible exact H2_) | with_reducible exact H | (rw [hy227]; exact H) | exact H
       have Ny227 := am hy227
       clear hy227
       replace H := Option.bind_eq_some_iff.mp H
       obtain ⟨t231, A350, H⟩ := H
       replace H : (if (ji32) < (l0_1.length : Int) then ((spec_l02Copy.f ((rd_T31 l0_1 (ji32)).f0) ((rd_T31 l0_1 (ji32)).f1) ((rd_T31 l0_1 (ji32)).f2)).bind fun bt236 => (some (t224, t231, bt236.1, bt236.2.1, bt236.2.2, 0))) else (none)) = some (r1, r2, r3, r4, r5, r6) := H
       have A35 := Aside0.mk A350
       clear A350
       by_cases c36 : (ji32) < (l0_1.length : Int)
       ·rw [if_pos c36] at H
        have c36b0 : decide ((ji32) < (l0_1.length : Int)) = true := decide_eq_true c36
        clear c36
        replace H := Option.bind_eq_some_iff.mp H
        obtain ⟨⟨t236, t239, t240⟩, A370, H⟩ := H
        replace H : (some (t224, t231, t236, t239, t240, 0)) = some (r1, r2, r3, r4, r5, r6) := H
        have A37 := Aside0.mk A370
        clear A370
        simp only [Option.some.injEq, Prod.mk.injEq] at H
        obtain ⟨rfl, rfl, rfl, rfl, rfl, rfl⟩ := H
        have hnb38 := NB219_220.out
        have hnc38 := NB220_219.out
        have hnb39 := NB219_221.out
        have hnc39 := NB221_219.out
        have hcz40_0 : wc.cell? ⟨gb219, 0, none⟩ = some (.slice A0_0 l0_0.length c0_0) := bc BK219.out 0
        have hcz40_1 : wc.cell? ⟨gb219, 1, none⟩ = some (.slice A0_1 l0_1.length c0_1) := bc BK219.out 1
        have hfz40_0 := blk_frozen BK219.out 0
        have hfz40_1 := blk_frozen BK219.out 1
        try go_wp2
        replace BK219 := am (blk_drew BK219.out)
        replace BK220 := am (blk_drew BK220.out)
        replace BK221 := am (blk_drew BK221.out)
        replace HB := am (below_drew1 HB.out)
        have q42 : ((ji32) : Int) ≤ ((l0_1.length : Int) : Int) := of_decide_eq_true (by first | (with_reducible assumption) | assumption)
        obtain ⟨i042, hi042, _, hsz42, _⟩ := info_parts info31
        have hroom42 : l0_1.length ≤ c0_1 := HC0_1.out
        have hC42 : Kd.C k31 _ A0_1 l0_1.length l0_1 := HR0_1.out
        have hcut42 := cut_to (P := Try.prog) 28 31 .i64 Try.underlying28 hi042 A0_1 l0_1.length c0_1 (ji32) (of_decide_eq_true (by first | (with_reducible assumption) | assumption)) q42 hroom42
        have hr42 := Kd.C_take (m := ((ji32) : Int).toNat) hC42 (by omega)
        have hy42 : y227.length = ((ji32) : Int).toNat := (by rw [Ny227.out, List.length_take]; omega)
        rw [← Ny227.out] at hr42
        rw [← hy42] at hcut42
        have HR230 := am hr42
        have HC230 := am (show y227.length ≤ c0_1 from by omega)
        clear hr42 hC42 hroom42 hi042 hsz42
        have KY42 := am hy42
        clear hy42
        replace q42 := eq_true q42
        refine start_ (n := 13) (S := fun w' => w'.cell? ⟨gb219, 0, none⟩ = some (.slice A0_0 l0_0.length c0_0) ∧ w'.cell? ⟨gb219, 1, none⟩ = some (.slice A0_1 l0_1.length c0_1) ∧ w'.cell? ⟨gb220, 0, none⟩ = some (.slice A1_0 l1_0.length c1_0) ∧ w'.cell? ⟨gb220, 1, none⟩ = some (.int .i64 a1_1) ∧ w'.cell? ⟨gb220, 2, none⟩ = some (.int .i64 a1_2)) (ds := []) #[false, false, false, false, false, false, false, false, false, false, false, false, false] (by kernel_rfl) rfl rfl ⟨bc BK219.out 0, bc BK219.out 1, bc BK220.out 0, bc BK220.out 1, bc BK220.out 2⟩ (fun hHeld => ?_); refine with_tabW spec_UndoForth.tab6 spec_UndoForth.bits6 (fun HT_ HW_ => ?_)
        generalize wc.drew = w41 at BK219 BK220 BK221 HB HR230 hHeld ⊢
        refine pure_ (i := 0) (N := some 22) (v := ?_) (a' := ?_) #[true, false, false, false, false, false, false, false, false, false, false, false, false] rfl rfl (any_of HT_.out (by kernel_rfl)) (fun _ _ _ h => h) (Or.inl ⟨by rfl, ?_⟩) ?_ ?_; rotate_left
        ·intro w'; go_simp; with_reducible rfl
        rotate_left
        ·simp only [Act.put, sa_, s0_, ss_, i64_w, i32_w]; rfl
        refine pure_ (i := 4) (N := some 26) (v := ?_) (a' := ?_) #[true, false, false, false, true, false, false, false, false, false, false, false, false] rfl rfl (any_of HT_.out (by kernel_rfl)) (fun _ _ _ h => h) (Or.inl ⟨by rfl, ?_⟩) ?_ ?_; rotate_left
        ·intro w'; go_simp; with_reducible rfl
        rotate_left
        ·simp only [Act.put, sa_, s0_, ss_, i64_w, i32_w]; rfl
        refine pure_ (i := 6) (N := some 28) (v := ?_) (a' := ?_) #[true, false, false, false, true, false, true, false, false, false, false, false, false] rfl rfl (any_of HT_.out (by kernel_rfl)) (fun _ _ _ h => h) (Or.inl ⟨by rfl, ?_⟩) ?_ ?_; rotate_left
        ·intro w'; go_simp; with_reducible rfl
        rotate_left
        ·simp only [Act.put, sa_, s0_, ss_, i64_w, i32_w]; rfl
        refine pure_ (i := 7) (N := some 29) (v := ?_) (a' := ?_) #[true, false, false, false, true, false, true, true, false, false, false, false, false] rfl rfl (any_of HT_.out (by kernel_rfl)) (fun _ _ _ h => h) (Or.inl ⟨by rfl, ?_⟩) ?_ ?_; rotate_left
        ·intro w'; go_simp; with_reducible rfl
        rotate_left
        ·simp only [Act.put, sa_, s0_, ss_, i64_w, i32_w]; rfl
        refine take_ (i := 1) (N := some 23) (v := ?_) (a' := ?_) #[true, true, false, false, true, false, true, true, false, false, false, false, false] rfl rfl (take_ofW HT_.out HW_.out (by kernel_rfl)) (fun _ _ _ h => h) (Or.inl ⟨by rfl, ?_⟩) hHeld ?_ ?_; rotate_left
        ·rintro w' ⟨s0, s1, s2, s3, s4⟩; go_simp; with_reducible rfl
        rotate_left
        ·simp only [Act.put, sa_, s0_, ss_, i64_w, i32_w]; rfl
        refine take_ (i := 2) (N := some 24) (v := ?_) (a' := ?_) #[true, true, true, false, true, false, true, true, false, false, false, false, false] rfl rfl (take_ofW HT_.out HW_.out (by kernel_rfl)) (fun _ _ _ h => h) (Or.inl ⟨by rfl, ?_⟩) hHeld ?_ ?_; rotate_left
        ·rintro w' ⟨s0, s1, s2, s3, s4⟩; go_simp; with_reducible rfl
        rotate_left
        ·simp only [Act.put, sa_, s0_, ss_, i64_w, i32_w]; rfl
        refine take_ (i := 5) (N := some 27) (v := ?_) (a' := ?_) #[true, true, true, false, true, true, true, true, false, false, false, false, false] rfl rfl (take_ofW HT_.out HW_.out (by kernel_rfl)) (fun _ _ _ h => h) (Or.inl ⟨by rfl, ?_⟩) hHeld ?_ ?_; rotate_left
        ·rintro w' ⟨s0, s1, s2, s3, s4⟩; go_simp; with_reducible rfl
        rotate_left
        ·simp only [Act.put, sa_, s0_, ss_, i64_w, i32_w]; rfl
        refine pure_ (i := 8) (N := some 30) (v := ?_) (a' := ?_) #[true, true, true, false, true, true, true, true, true, false, false, false, false] rfl rfl (any_of HT_.out (by kernel_rfl)) (fun _ _ _ h => h) (Or.inl ⟨by rfl, ?_⟩) ?_ ?_; rotate_left
        ·intro w'; go_simp; with_reducible rfl
        rotate_left
        ·simp only [Act.put, sa_, s0_, ss_, i64_w, i32_w]; rfl
        refine join_ (σ := Value × Value × Nat) 1 b26_0 (fun s_ => [(25, s_.1), (31, s_.2.1), (6, .pointer (some ⟨s_.2.2, 0, none⟩)), (32, .agg #[s_.1, s_.2.1])]) (fun s_ w' => (w'.cell? ⟨gb219, 0, none⟩ = some (.slice A0_0 l0_0.length c0_0) ∧ w'.cell? ⟨gb219, 1, none⟩ = some (.slice A0_1 l0_1.length c0_1) ∧ w'.cell? ⟨gb220, 0, none⟩ = some (.slice A1_0 l1_0.length c1_0) ∧ w'.cell? ⟨gb220, 1, none⟩ = some (.int .i64 a1_1) ∧ w'.cell? ⟨gb220, 2, none⟩ = some (.int .i64 a1_2)) ∧ (Kd.T k31 31 w' w.heap.size (fun k_ => some k_ ≠ (s_.2.1 : Value).ownBlock ∧ k_ ≠ gb220) s_.1 t224) ∧ (Kd.S k31 31 w' w.heap.size (fun k_ => some k_ ≠ (s_.1 : Value).ownBlock ∧ k_ ≠ gb220) s_.2.1 t231) ∧ (w'.heap[gb219]? = some (.cells #[.slice A0_0 l0_0.length c0_0, .slice A0_1 l0_1.length c0_1] 30 (0, 0))) ∧ (w'.heap[gb220]? = some (.cells #[.slice A1_0 l1_0.length c1_0, .int .i64 a1_1, .int .i64 a1_2] 31 (0, 0))) ∧ (w'.heap[gb221]? = some (.cells #[.slice none 0 0, .slice none 0 0, .slice none 0 0, .int .i64 0, .int .i64 0, .int .i64 0] 33 (0, 0))) ∧ (w'.heap[s_.2.2]? = some (.cells #[.slice none 0 0, .slice none 0 0] 30 (0, 0))) ∧ (w.heap.size ≤ s_.2.2) ∧ (w.heap.size ≤ s_.2.2) ∧ (gb219 ≠ s_.2.2) ∧ (s_.2.2 ≠ gb219) ∧ (gb220 ≠ s_.2.2) ∧ (s_.2.2 ≠ gb220) ∧ (gb221 ≠ s_.2.2) ∧ (s_.2.2 ≠ gb221) ∧ (Below w.heap.size w w')) ?_ ?_
        rotate_left
        ·intro hCont
         refine two_ (i := 3) (j := 11) (Ni := some 25) (Nj := some 6) #[true, true, true, true, true, true, true, true, true, false, false, false, false] #[true, true, true, false, true, true, true, true, true, false, false, true, false] rfl rfl rfl rfl (two_of HT_.out (by kernel_rfl)) (by decide) (by decide) (fun K hK => ?_) (fun K hK => ?_)
         ·skip
          refine gs_ Try.func49 #[.slice A0_0 l0_0.length c0_0, .agg #[.slice A1_0 l1_0.length c1_0, .int .i64 a1_1, .int .i64 a1_2]] ?_
          with_reducible refine (spec_l05Put.calls kj2 _ _ l0_0 _ _ l1_0 a1_1 a1_2 t224 _ ?side1 ?side2 ?side3 ?side4 A31.out).mono ?_
          (case side1 => repeat (first | exact (Kd.C_below HR0_0.out HB.out) | (with_reducible refine Kd.C_alloc ?_ _) | (with_reducible refine Kd.C_drewN ?_ _) | (with_reducible refine Kd.C_drew ?_)))
          (case side2 => exact HC0_0.out)
          (case side3 => repeat (first | exact (Kd.C_below HR1_0.out HB.out) | (with_reducible refine Kd.C_alloc ?_ _) | (with_reducible refine Kd.C_drewN ?_ _) | (with_reducible refine Kd.C_drew ?_)))
          (case side4 => exact HC1_0.out)
          rintro e w43 ⟨v225, rfl, ho0, hb⟩
          refine ⟨_, rfl, ?_⟩
          have HO226 := am (Kd.T_lower (Kd.T_newB ho0 (g := gb220) (o := .cells #[.slice A1_0 l1_0.length c1_0, .int .i64 a1_1, .int .i64 a1_2] 31 (0, 0)) (pk BK220.out)) (below_size (bl HB.out)))
          replace BK219 := am (blk_below (pk BK219.out) hb)
          replace BK220 := am (blk_below (pk BK220.out) hb)
          replace BK221 := am (blk_below (pk BK221.out) hb)
          replace HB := am (below_step (bl HB.out) hb)
          (try clear hb)
          (try clear hb2)
          (try clear hk)
          (try clear hi)
          (try clear ho0)
          refine hK.out _ _ ⟨bc BK219.out 0, bc BK219.out 1, bc BK220.out 0, bc BK220.out 1, bc BK220.out 2⟩ (fun hHeld => ?_)
          clear hK K
          refine norm_ (a' := ?_) ?_ ?_
          rotate_left
          ·show Act.put _ (some 25) _ = _
           simp only [Act.put, sa_, s0_, ss_, i64_w, i32_w]
           rfl
          refine two_ (i := 9) (j := 11) (Ni := some 31) (Nj := some 6) #[true, true, true, true, true, true, true, true, true, true, false, false, false] b26_1 rfl rfl rfl rfl (two_of HT_.out (by kernel_rfl)) (by decide) (by decide) (fun K hK => ?_) (fun K hK => ?_)
          ·skip
           refine gs_ Try.func57 #[.slice A0_1 y227.length c0_1] ?_
           with_reducible refine (spec_l05CopyBufs.calls kj2 _ _ y227 t231 _ ?side1 ?side2 A35.out).mono ?_
           (case side1 => repeat (first | exact (Kd.C_below HR230.out HB.out) | (with_reducible refine Kd.C_alloc ?_ _) | (with_reducible refine Kd.C_drewN ?_ _) | (with_reducible refine Kd.C_drew ?_)))
           (case side2 => exact HC230.out)
           rintro e w44 ⟨v232, rfl, ho0, hb⟩
           refine ⟨_, rfl, ?_⟩
           have HO233 := am (Kd.S_lower (Kd.S_newB (Kd.S_new' ho0 (Kd.T_lt (by (with_reducible repeat (first | apply Kd.T_alloc | apply Kd.T_drewN | apply Kd.T_drew)); exact HO226.out))) (g := gb220) (o := .cells #[.slice A1_0 l1_0.length c1_0, .int .i64 a1_1, .int .i64 a1_2] 31 (0, 0)) (pk BK220.out)) (below_size (bl HB.out)))
           replace HO226 := am (Kd.T_elder' (by (with_reducible repeat (first | apply Kd.T_alloc | apply Kd.T_drewN | apply Kd.T_drew)); exact HO226.out) (Kd.S_base ho0) hb)
           replace BK219 := am (blk_below (pk BK219.out) hb)
           replace BK220 := am (blk_below (pk BK220.out) hb)
           replace BK221 := am (blk_below (pk BK221.out) hb)
           replace HB := am (below_step (bl HB.out) hb)
           (try clear hb)
           (try clear hb2)
           (try clear hk)
           (try clear hi)
           (try clear ho0)
           obtain ⟨Ao45, co45, eo45⟩ := Kd.S_slice HO233.out
           (first | subst eo45 | (injection eo45 with f1_ f2_ f3_; have f4_ := f1_.symm; have f5_ := f3_.symm; clear f1_ f2_ f3_; subst f4_; subst f5_))
           obtain ⟨Ao46, co46, eo46, _⟩ := Kd.T_slice HO226.out
           (first | subst eo46 | (injection eo46 with f1_ f2_ f3_; have f4_ := f1_.symm; have f5_ := f3_.symm; clear f1_ f2_ f3_; subst f4_; subst f5_))
           refine hK.out _ _ ⟨bc BK219.out 0, bc BK219.out 1, bc BK220.out 0, bc BK220.out 1, bc BK220.out 2⟩ (fun hHeld => ?_)
           clear hK K
           refine norm_ (a' := ?_) ?_ ?_
           rotate_left
           ·show Act.put _ (some 31) _ = _
            simp only [Act.put, sa_, s0_, ss_, i64_w, i32_w]
            rfl
           refine pure_ (i := 10) (N := some 32) (v := ?_) (a' := ?_) #[true, true, true, true, true, true, true, true, true, true, true, false, false] rfl rfl (any_of HT_.out (by kernel_rfl)) (fun _ _ _ h => h) (Or.inl ⟨by rfl, ?_⟩) ?_ ?_; rotate_left
           ·intro w'; go_simp; with_reducible rfl
           rotate_left
           ·simp only [Act.put, sa_, s0_, ss_, i64_w, i32_w]; rfl
           refine one_ (i := 11) (N := some 6) b26_0 rfl rfl (one_of HT_.out (by kernel_rfl)) (by decide) (fun K hK => ?_)
           refine box_step ?hg (N := 6) ?hd (cs := #[.slice none 0 0, .slice none 0 0]) (t := 30) ?hr ?_; (case hd => rfl); (case hg => rfl); (case hr => first | (go_simp; done) | (go_simp; rfl))
           intro gb234 hg w47 hbox hb
           replace HO226 := am (Kd.T_below (by (with_reducible repeat (first | apply Kd.T_alloc | apply Kd.T_drewN | apply Kd.T_drew)); exact HO226.out) hb)
           replace HO233 := am (Kd.S_below (ks HO233.out) hb)
           have BK234 := am (hbox)
           have GW234 := am ((by rw [hg]; exact (below_size (bl HB.out)) : w.heap.size ≤ gb234))
           have GE234 := GW234
           replace HB := am (below_step (bl HB.out) hb)
           have NB219_234 := am ((by rw [hg]; exact Nat.ne_of_lt (blk_lt (pk BK219.out)) : gb219 ≠ gb234))
           have NB234_219 := am ((by rw [hg]; exact Nat.ne_of_gt (blk_lt (pk BK219.out)) : gb234 ≠ gb219))
           replace BK219 := am (blk_below (pk BK219.out) hb)
           have NB220_234 := am ((by rw [hg]; exact Nat.ne_of_lt (blk_lt (pk BK220.out)) : gb220 ≠ gb234))
           have NB234_220 := am ((by rw [hg]; exact Nat.ne_of_gt (blk_lt (pk BK220.out)) : gb234 ≠ gb220))
           replace BK220 := am (blk_below (pk BK220.out) hb)
           have NB221_234 := am ((by rw [hg]; exact Nat.ne_of_lt (blk_lt (pk BK221.out)) : gb221 ≠ gb234))
           have NB234_221 := am ((by rw [hg]; exact Nat.ne_of_gt (blk_lt (pk BK221.out)) : gb234 ≠ gb221))
           replace BK221 := am (blk_below (pk BK221.out) hb)
           clear hb hbox hg
           refine hK.out _ _ ⟨bc BK219.out 0, bc BK219.out 1, bc BK220.out 0, bc BK220.out 1, bc BK220.out 2⟩ (fun hHeld => ?_)
           clear hK K
           refine norm_ (a' := ?_) ?_ ?_
           rotate_left
           ·show Act.put _ (some 6) _ = _
            simp only [Act.put, sa_, s0_, ss_, i64_w, i32_w]
            rfl
           exact norm_ (by simp only [putAll, Act.put, sa_, s0_, ss_]) (hCont (.slice Ao46 t224.length co46, .slice Ao45 t231.length co45, gb234) _ ⟨hHeld, (by (with_reducible repeat (first | apply Kd.T_alloc | apply Kd.T_drewN | apply Kd.T_drew)); exact Kd.T_mono HO226.out (fun _ hk => ⟨hk.2, hk.1.2⟩)), (ks (Kd.S_mono HO233.out (fun _ hk => ⟨hk.1.2, hk.2⟩))), (pk BK219.out), (pk BK220.out), (pk BK221.out), (pk BK234.out), GW234.out, GE234.out, NB219_234.out, NB234_219.out, NB220_234.out, NB234_220.out, NB221_234.out, NB234_221.out, (bl HB.out)⟩)
          ·skip
           refine box_step ?hg (N := 6) ?hd (cs := #[.slice none 0 0, .slice none 0 0]) (t := 30) ?hr ?_; (case hd => rfl); (case hg => rfl); (case hr => first | (go_simp; done) | (go_simp; rfl))
           intro gb234 hg w44 hbox hb
           replace HO226 := am (Kd.T_below (by (with_reducible repeat (first | apply Kd.T_alloc | apply Kd.T_drewN | apply Kd.T_drew)); exact HO226.out) hb)
           have BK234 := am (hbox)
           have GW234 := am ((by rw [hg]; exact (below_size (bl HB.out)) : w.heap.size ≤ gb234))
           have GE234 := GW234
           replace HB := am (below_step (bl HB.out) hb)
           have NB219_234 := am ((by rw [hg]; exact Nat.ne_of_lt (blk_lt (pk BK219.out)) : gb219 ≠ gb234))
           have NB234_219 := am ((by rw [hg]; exact Nat.ne_of_gt (blk_lt (pk BK219.out)) : gb234 ≠ gb219))
           replace BK219 := am (blk_below (pk BK219.out) hb)
           have NB220_234 := am ((by rw [hg]; exact Nat.ne_of_lt (blk_lt (pk BK220.out)) : gb220 ≠ gb234))
           have NB234_220 := am ((by rw [hg]; exact Nat.ne_of_gt (blk_lt (pk BK220.out)) : gb234 ≠ gb220))
           replace BK220 := am (blk_below (pk BK220.out) hb)
           have NB221_234 := am ((by rw [hg]; exact Nat.ne_of_lt (blk_lt (pk BK221.out)) : gb221 ≠ gb234))
           have NB234_221 := am ((by rw [hg]; exact Nat.ne_of_gt (blk_lt (pk BK221.out)) : gb234 ≠ gb221))
           replace BK221 := am (blk_below (pk BK221.out) hb)
           clear hb hbox hg
           refine hK.out _ _ ⟨bc BK219.out 0, bc BK219.out 1, bc BK220.out 0, bc BK220.out 1, bc BK220.out 2⟩ (fun hHeld => ?_)
           clear hK K
           refine norm_ (a' := ?_) ?_ ?_
           rotate_left
           ·show Act.put _ (some 6) _ = _
            simp only [Act.put, sa_, s0_, ss_, i64_w, i32_w]
            rfl
           refine one_ (i := 9) (N := some 31) b26_2 rfl rfl (one_of HT_.out (by kernel_rfl)) (by decide) (fun K hK => ?_)
           refine gs_ Try.func57 #[.slice A0_1 y227.length c0_1] ?_
           with_reducible refine (spec_l05CopyBufs.calls kj2 _ _ y227 t231 _ ?side1 ?side2 A35.out).mono ?_
           (case side1 => repeat (first | exact (Kd.C_below HR230.out HB.out) | (with_reducible refine Kd.C_alloc ?_ _) | (with_reducible refine Kd.C_drewN ?_ _) | (with_reducible refine Kd.C_drew ?_)))
           (case side2 => exact HC230.out)
           rintro e w45 ⟨v232, rfl, ho0, hb⟩
           refine ⟨_, rfl, ?_⟩
           have HO233 := am (Kd.S_lower (Kd.S_newB (Kd.S_new' ho0 (Kd.T_lt (by (with_reducible repeat (first | apply Kd.T_alloc | apply Kd.T_drewN | apply Kd.T_drew)); exact HO226.out))) (g := gb220) (o := .cells #[.slice A1_0 l1_0.length c1_0, .int .i64 a1_1, .int .i64 a1_2] 31 (0, 0)) (pk BK220.out)) (below_size (bl HB.out)))
           replace HO226 := am (Kd.T_elder' (by (with_reducible repeat (first | apply Kd.T_alloc | apply Kd.T_drewN | apply Kd.T_drew)); exact HO226.out) (Kd.S_base ho0) hb)
           replace BK219 := am (blk_below (pk BK219.out) hb)
           replace BK220 := am (blk_below (pk BK220.out) hb)
           replace BK221 := am (blk_below (pk BK221.out) hb)
           replace BK234 := am (blk_below (pk BK234.out) hb)
           replace HB := am (below_step (bl HB.out) hb)
           (try clear hb)
           (try clear hb2)
           (try clear hk)
           (try clear hi)
           (try clear ho0)
           obtain ⟨Ao46, co46, eo46⟩ := Kd.S_slice HO233.out
           (first | subst eo46 | (injection eo46 with f1_ f2_ f3_; have f4_ := f1_.symm; have f5_ := f3_.symm; clear f1_ f2_ f3_; subst f4_; subst f5_))
           obtain ⟨Ao47, co47, eo47, _⟩ := Kd.T_slice HO226.out
           (first | subst eo47 | (injection eo47 with f1_ f2_ f3_; have f4_ := f1_.symm; have f5_ := f3_.symm; clear f1_ f2_ f3_; subst f4_; subst f5_))
           refine hK.out _ _ ⟨bc BK219.out 0, bc BK219.out 1, bc BK220.out 0, bc BK220.out 1, bc BK220.out 2⟩ (fun hHeld => ?_)
           clear hK K
           refine norm_ (a' := ?_) ?_ ?_
           rotate_left
           ·show Act.put _ (some 31) _ = _
            simp only [Act.put, sa_, s0_, ss_, i64_w, i32_w]
            rfl
           refine pu_ 10 (some 32) ?_ b26_0 rfl rfl HT_.out (by kernel_rfl) (fun _ _ _ h => h) (Or.inl ⟨by rfl, ?_⟩) ?_ ?_ ?_; rotate_left
           ·intro w'; go_simp; with_reducible rfl
           rotate_left
           ·simp only [Act.put, sa_, s0_, ss_, i64_w, i32_w]; rfl
           exact norm_ (by simp only [putAll, Act.put, sa_, s0_, ss_]) (hCont (.slice Ao47 t224.length co47, .slice Ao46 t231.length co46, gb234) _ ⟨hHeld, (by (with_reducible repeat (first | apply Kd.T_alloc | apply Kd.T_drewN | apply Kd.T_drew)); exact Kd.T_mono HO226.out (fun _ hk => ⟨hk.2, hk.1.2⟩)), (ks (Kd.S_mono HO233.out (fun _ hk => ⟨hk.1.2, hk.2⟩))), (pk BK219.out), (pk BK220.out), (pk BK221.out), (pk BK234.out), GW234.out, GE234.out, NB219_234.out, NB234_219.out, NB220_234.out, NB234_220.out, NB221_234.out, NB234_221.out, (bl HB.out)⟩)
         ·skip
          refine box_step ?hg (N := 6) ?hd (cs := #[.slice none 0 0, .slice none 0 0]) (t := 30) ?hr ?_; (case hd => rfl); (case hg => rfl); (case hr => first | (go_simp; done) | (go_simp; rfl))
          intro gb234 hg w43 hbox hb
          have BK234 := am (hbox)
          have GW234 := am ((by rw [hg]; exact (below_size (bl HB.out)) : w.heap.size ≤ gb234))
          have GE234 := GW234
          replace HB := am (below_step (bl HB.out) hb)
          have NB219_234 := am ((by rw [hg]; exact Nat.ne_of_lt (blk_lt (pk BK219.out)) : gb219 ≠ gb234))
          have NB234_219 := am ((by rw [hg]; exact Nat.ne_of_gt (blk_lt (pk BK219.out)) : gb234 ≠ gb219))
          replace BK219 := am (blk_below (pk BK219.out) hb)
          have NB220_234 := am ((by rw [hg]; exact Nat.ne_of_lt (blk_lt (pk BK220.out)) : gb220 ≠ gb234))
          have NB234_220 := am ((by rw [hg]; exact Nat.ne_of_gt (blk_lt (pk BK220.out)) : gb234 ≠ gb220))
          replace BK220 := am (blk_below (pk BK220.out) hb)
          have NB221_234 := am ((by rw [hg]; exact Nat.ne_of_lt (blk_lt (pk BK221.out)) : gb221 ≠ gb234))
          have NB234_221 := am ((by rw [hg]; exact Nat.ne_of_gt (blk_lt (pk BK221.out)) : gb234 ≠ gb221))
          replace BK221 := am (blk_below (pk BK221.out) hb)
          clear hb hbox hg
          refine hK.out _ _ ⟨bc BK219.out 0, bc BK219.out 1, bc BK220.out 0, bc BK220.out 1, bc BK220.out 2⟩ (fun hHeld => ?_)
          clear hK K
          refine norm_ (a' := ?_) ?_ ?_
          rotate_left
          ·show Act.put _ (some 6) _ = _
           simp only [Act.put, sa_, s0_, ss_, i64_w, i32_w]
           rfl
          refine one_ (i := 3) (N := some 25) b26_1 rfl rfl (one_of HT_.out (by kernel_rfl)) (by decide) (fun K hK => ?_)
          refine gs_ Try.func49 #[.slice A0_0 l0_0.length c0_0, .agg #[.slice A1_0 l1_0.length c1_0, .int .i64 a1_1, .int .i64 a1_2]] ?_
          with_reducible refine (spec_l05Put.calls kj2 _ _ l0_0 _ _ l1_0 a1_1 a1_2 t224 _ ?side1 ?side2 ?side3 ?side4 A31.out).mono ?_
          (case side1 => repeat (first | exact (Kd.C_below HR0_0.out HB.out) | (with_reducible refine Kd.C_alloc ?_ _) | (with_reducible refine Kd.C_drewN ?_ _) | (with_reducible refine Kd.C_drew ?_)))
          (case side2 => exact HC0_0.out)
          (case side3 => repeat (first | exact (Kd.C_below HR1_0.out HB.out) | (with_reducible refine Kd.C_alloc ?_ _) | (with_reducible refine Kd.C_drewN ?_ _) | (with_reducible refine Kd.C_drew ?_)))
          (case side4 => exact HC1_0.out)
          rintro e w44 ⟨v225, rfl, ho0, hb⟩
          refine ⟨_, rfl, ?_⟩
          have HO226 := am (Kd.T_lower (Kd.T_newB ho0 (g := gb220) (o := .cells #[.slice A1_0 l1_0.length c1_0, .int .i64 a1_1, .int .i64 a1_2] 31 (0, 0)) (pk BK220.out)) (below_size (bl HB.out)))
          replace BK219 := am (blk_below (pk BK219.out) hb)
          replace BK220 := am (blk_below (pk BK220.out) hb)
          replace BK221 := am (blk_below (pk BK221.out) hb)
          replace BK234 := am (blk_below (pk BK234.out) hb)
          replace HB := am (below_step (bl HB.out) hb)
          (try clear hb)
          (try clear hb2)
          (try clear hk)
          (try clear hi)
          (try clear ho0)
          refine hK.out _ _ ⟨bc BK219.out 0, bc BK219.out 1, bc BK220.out 0, bc BK220.out 1, bc BK220.out 2⟩ (fun hHeld => ?_)
          clear hK K
          refine norm_ (a' := ?_) ?_ ?_
          rotate_left
          ·show Act.put _ (some 25) _ = _
           simp only [Act.put, sa_, s0_, ss_, i64_w, i32_w]
           rfl
          refine one_ (i := 9) (N := some 31) b26_2 rfl rfl (one_of HT_.out (by kernel_rfl)) (by decide) (fun K hK => ?_)
          refine gs_ Try.func57 #[.slice A0_1 y227.length c0_1] ?_
          with_reducible refine (spec_l05CopyBufs.calls kj2 _ _ y227 t231 _ ?side1 ?side2 A35.out).mono ?_
          (case side1 => repeat (first | exact (Kd.C_below HR230.out HB.out) | (with_reducible refine Kd.C_alloc ?_ _) | (with_reducible refine Kd.C_drewN ?_ _) | (with_reducible refine Kd.C_drew ?_)))
          (case side2 => exact HC230.out)
          rintro e w45 ⟨v232, rfl, ho0, hb⟩
          refine ⟨_, rfl, ?_⟩
          have HO233 := am (Kd.S_lower (Kd.S_newB (Kd.S_new' ho0 (Kd.T_lt (by (with_reducible repeat (first | apply Kd.T_alloc | apply Kd.T_drewN | apply Kd.T_drew)); exact HO226.out))) (g := gb220) (o := .cells #[.slice A1_0 l1_0.length c1_0, .int .i64 a1_1, .int .i64 a1_2] 31 (0, 0)) (pk BK220.out)) (below_size (bl HB.out)))
          replace HO226 := am (Kd.T_elder' (by (with_reducible repeat (first | apply Kd.T_alloc | apply Kd.T_drewN | apply Kd.T_drew)); exact HO226.out) (Kd.S_base ho0) hb)
          replace BK219 := am (blk_below (pk BK219.out) hb)
          replace BK220 := am (blk_below (pk BK220.out) hb)
          replace BK221 := am (blk_below (pk BK221.out) hb)
          replace BK234 := am (blk_below (pk BK234.out) hb)
          replace HB := am (below_step (bl HB.out) hb)
          (try clear hb)
          (try clear hb2)
          (try clear hk)
          (try clear hi)
          (try clear ho0)
          obtain ⟨Ao46, co46, eo46⟩ := Kd.S_slice HO233.out
          (first | subst eo46 | (injection eo46 with f1_ f2_ f3_; have f4_ := f1_.symm; have f5_ := f3_.symm; clear f1_ f2_ f3_; subst f4_; subst f5_))
          obtain ⟨Ao47, co47, eo47, _⟩ := Kd.T_slice HO226.out
          (first | subst eo47 | (injection eo47 with f1_ f2_ f3_; have f4_ := f1_.symm; have f5_ := f3_.symm; clear f1_ f2_ f3_; subst f4_; subst f5_))
          refine hK.out _ _ ⟨bc BK219.out 0, bc BK219.out 1, bc BK220.out 0, bc BK220.out 1, bc BK220.out 2⟩ (fun hHeld => ?_)
          clear hK K
          refine norm_ (a' := ?_) ?_ ?_
          rotate_left
          ·show Act.put _ (some 31) _ = _
           simp only [Act.put, sa_, s0_, ss_, i64_w, i32_w]
           rfl
          refine pu_ 10 (some 32) ?_ b26_0 rfl rfl HT_.out (by kernel_rfl) (fun _ _ _ h => h) (Or.inl ⟨by rfl, ?_⟩) ?_ ?_ ?_; rotate_left
          ·intro w'; go_simp; with_reducible rfl
          rotate_left
          ·simp only [Act.put, sa_, s0_, ss_, i64_w, i32_w]; rfl
          exact norm_ (by simp only [putAll, Act.put, sa_, s0_, ss_]) (hCont (.slice Ao47 t224.length co47, .slice Ao46 t231.length co46, gb234) _ ⟨hHeld, (by (with_reducible repeat (first | apply Kd.T_alloc | apply Kd.T_drewN | apply Kd.T_drew)); exact Kd.T_mono HO226.out (fun _ hk => ⟨hk.2, hk.1.2⟩)), (ks (Kd.S_mono HO233.out (fun _ hk => ⟨hk.1.2, hk.2⟩))), (pk BK219.out), (pk BK220.out), (pk BK221.out), (pk BK234.out), GW234.out, GE234.out, NB219_234.out, NB234_219.out, NB220_234.out, NB234_220.out, NB221_234.out, NB234_221.out, (bl HB.out)⟩)
        rintro ⟨v225, v232, gb234⟩ w48 ⟨hS_, h0_, h1_, h2_, h3_, h4_, h5_, h6_, h7_, h8_, h9_, h10_, h11_, h12_, h13_, h14_⟩
        have HO226 : Aside0 (Kd.T k31 31 w48 w.heap.size (fun k_ => some k_ ≠ (v232 : Value).ownBlock ∧ k_ ≠ gb220) v225 t224) := ⟨h0_⟩
        have HO233 : Aside0 (Kd.S k31 31 w48 w.heap.size (fun k_ => some k_ ≠ (v225 : Value).ownBlock ∧ k_ ≠ gb220) v232 t231) := ⟨h1_⟩
        replace BK219 : Aside0 (w48.heap[gb219]? = some (.cells #[.slice A0_0 l0_0.length c0_0, .slice A0_1 l0_1.length c0_1] 30 (0, 0))) := ⟨h2_⟩
        replace BK220 : Aside0 (w48.heap[gb220]? = some (.cells #[.slice A1_0 l1_0.length c1_0, .int .i64 a1_1, .int .i64 a1_2] 31 (0, 0))) := ⟨h3_⟩
        replace BK221 : Aside0 (w48.heap[gb221]? = some (.cells #[.slice none 0 0, .slice none 0 0, .slice none 0 0, .int .i64 0, .int .i64 0, .int .i64 0] 33 (0, 0))) := ⟨h4_⟩
        have BK234 : Aside0 (w48.heap[gb234]? = some (.cells #[.slice none 0 0, .slice none 0 0] 30 (0, 0))) := ⟨h5_⟩
        have GW234 : Aside0 (w.heap.size ≤ gb234) := ⟨h6_⟩
        have GE234 : Aside0 (w.heap.size ≤ gb234) := ⟨h7_⟩
        have NB219_234 : Aside0 (gb219 ≠ gb234) := ⟨h8_⟩
        have NB234_219 : Aside0 (gb234 ≠ gb219) := ⟨h9_⟩
        have NB220_234 : Aside0 (gb220 ≠ gb234) := ⟨h10_⟩
        have NB234_220 : Aside0 (gb234 ≠ gb220) := ⟨h11_⟩
        have NB221_234 : Aside0 (gb221 ≠ gb234) := ⟨h12_⟩
        have NB234_221 : Aside0 (gb234 ≠ gb221) := ⟨h13_⟩
        replace HB : Aside0 (Below w.heap.size w w48) := ⟨h14_⟩
        clear h0_ h1_ h2_ h3_ h4_ h5_ h6_ h7_ h8_ h9_ h10_ h11_ h12_ h13_ h14_
        have hHeld : w48.cell? ⟨gb219, 0, none⟩ = some (.slice A0_0 l0_0.length c0_0) ∧ w48.cell? ⟨gb219, 1, none⟩ = some (.slice A0_1 l0_1.length c0_1) ∧ w48.cell? ⟨gb220, 0, none⟩ = some (.slice A1_0 l1_0.length c1_0) ∧ w48.cell? ⟨gb220, 1, none⟩ = some (.int .i64 a1_1) ∧ w48.cell? ⟨gb220, 2, none⟩ = some (.int .i64 a1_2) := hS_
        obtain ⟨Ao49, co49, eo49⟩ := Kd.S_slice HO233.out
        (first | subst eo49 | (injection eo49 with f1_ f2_ f3_; have f4_ := f1_.symm; have f5_ := f3_.symm; clear f1_ f2_ f3_; subst f4_; subst f5_))
        obtain ⟨Ao50, co50, eo50, _⟩ := Kd.T_slice HO226.out
        (first | subst eo50 | (injection eo50 with f1_ f2_ f3_; have f4_ := f1_.symm; have f5_ := f3_.symm; clear f1_ f2_ f3_; subst f4_; subst f5_))
        refine norm_ (a' := ?_) ?_ ?_
        rotate_left
        ·simp only [putAll, Act.put, sa_, s0_, ss_]
         rfl
        refine one_ (i := 12) (N := none) #[true, true, true, true, true, true, true, true, true, true, true, true, true] rfl rfl (one_of HT_.out (by kernel_rfl)) (by decide) (fun K hK => ?_)
        have hs51 : w48.cell? ⟨gb234, 0, none⟩ = some (.slice none 0 0) := bc BK234.out 0
        have hfs51 := blk_frozen BK234.out 0
        have hns51_0 := NB219_234.out
        have hns51_1 := NB220_234.out
        have hns51_2 := NB221_234.out
        have hms51_0 := NB234_219.out
        have hms51_1 := NB234_220.out
        have hms51_2 := NB234_221.out
        have hs52 : w48.cell? ⟨gb234, 1, none⟩ = some (.slice none 0 0) := bc BK234.out 1
        have hfs52 := blk_frozen BK234.out 1
        refine skip_ (w1 := ?_) (by rfl) rfl ?_ ?_
        rotate_left
        ·go_simp
         rfl
        refine hK.out _ _ ⟨((cell_far (p := ⟨gb234, _, none⟩) NB219_234.out _).trans (((cell_far (p := ⟨gb234, _, none⟩) NB219_234.out _).trans (hHeld.1)))), ((cell_far (p := ⟨gb234, _, none⟩) NB219_234.out _).trans (((cell_far (p := ⟨gb234, _, none⟩) NB219_234.out _).trans (hHeld.2.1)))), ((cell_far (p := ⟨gb234, _, none⟩) NB220_234.out _).trans (((cell_far (p := ⟨gb234, _, none⟩) NB220_234.out _).trans (hHeld.2.2.1)))), ((cell_far (p := ⟨gb234, _, none⟩) NB220_234.out _).trans (((cell_far (p := ⟨gb234, _, none⟩) NB220_234.out _).trans (hHeld.2.2.2.1)))), ((cell_far (p := ⟨gb234, _, none⟩) NB220_234.out _).trans (((cell_far (p := ⟨gb234, _, none⟩) NB220_234.out _).trans (hHeld.2.2.2.2))))⟩ (fun hHeld => ?_)
        clear hK K
        refine done_ (done_of HT_.out (by kernel_rfl)) ?_
        try go_wp2
        have n0_ : Aside0 (Kd.T k31 31 ((w48.setCell ⟨gb234, 0, none⟩ (.slice Ao50 t224.length co50)).setCell ⟨gb234, 1, none⟩ (.slice Ao49 t231.length co49)) w.heap.size (fun k_ => some k_ ≠ (.slice Ao49 t231.length co49 : Value).ownBlock ∧ k_ ≠ gb220) (.slice Ao50 t224.length co50) t224) := ⟨by (with_reducible repeat (first | apply Kd.T_alloc | apply Kd.T_drewN | apply Kd.T_drew)); exact Kd.T_mono (Kd.T_far (p := ⟨gb234, 1, none⟩) (Kd.T_far (p := ⟨gb234, 0, none⟩) (Kd.T_types HO226.out BK234.out (by decide)) (fun _ hk => hk.2) (.slice Ao50 t224.length co50)) (fun _ hk => hk.2) (.slice Ao49 t231.length co49)) (fun _ hk => ⟨hk.1.1, hk.1.2⟩)⟩
        have n1_ : Aside0 (Kd.S k31 31 ((w48.setCell ⟨gb234, 0, none⟩ (.slice Ao50 t224.length co50)).setCell ⟨gb234, 1, none⟩ (.slice Ao49 t231.length co49)) w.heap.size (fun k_ => some k_ ≠ (.slice Ao50 t224.length co50 : Value).ownBlock ∧ k_ ≠ gb220) (.slice Ao49 t231.length co49) t231) := ⟨ks (Kd.S_mono (Kd.S_far (p := ⟨gb234, 1, none⟩) (Kd.S_far (p := ⟨gb234, 0, none⟩) (Kd.S_types HO233.out BK234.out (by decide)) (fun _ hk => hk.2) (.slice Ao50 t224.length co50)) (fun _ hk => hk.2) (.slice Ao49 t231.length co49)) (fun _ hk => ⟨hk.1.1, hk.1.2⟩))⟩
        have n2_ : Aside0 (((w48.setCell ⟨gb234, 0, none⟩ (.slice Ao50 t224.length co50)).setCell ⟨gb234, 1, none⟩ (.slice Ao49 t231.length co49)).heap[gb219]? = some (.cells #[.slice A0_0 l0_0.length c0_0, .slice A0_1 l0_1.length c0_1] 30 (0, 0))) := ⟨by refine pk ?_; refine blk_far ?_ NB219_234.out _; refine pk ?_; refine blk_far ?_ NB219_234.out _; refine pk ?_; exact BK219.out⟩
        have n3_ : Aside0 (((w48.setCell ⟨gb234, 0, none⟩ (.slice Ao50 t224.length co50)).setCell ⟨gb234, 1, none⟩ (.slice Ao49 t231.length co49)).heap[gb220]? = some (.cells #[.slice A1_0 l1_0.length c1_0, .int .i64 a1_1, .int .i64 a1_2] 31 (0, 0))) := ⟨by refine pk ?_; refine blk_far ?_ NB220_234.out _; refine pk ?_; refine blk_far ?_ NB220_234.out _; refine pk ?_; exact BK220.out⟩
        have n4_ : Aside0 (((w48.setCell ⟨gb234, 0, none⟩ (.slice Ao50 t224.length co50)).setCell ⟨gb234, 1, none⟩ (.slice Ao49 t231.length co49)).heap[gb221]? = some (.cells #[.slice none 0 0, .slice none 0 0, .slice none 0 0, .int .i64 0, .int .i64 0, .int .i64 0] 33 (0, 0))) := ⟨by refine pk ?_; refine blk_far ?_ NB221_234.out _; refine pk ?_; refine blk_far ?_ NB221_234.out _; refine pk ?_; exact BK221.out⟩
        have n5_ : Aside0 (((w48.setCell ⟨gb234, 0, none⟩ (.slice Ao50 t224.length co50)).setCell ⟨gb234, 1, none⟩ (.slice Ao49 t231.length co49)).heap[gb234]? = some (.cells #[.slice Ao50 t224.length co50, .slice Ao49 t231.length co49] 30 (0, 0))) := ⟨by refine pk ?_; refine blk_put (cs := #[.slice Ao50 t224.length co50, .slice none 0 0]) ?_ 1 _ rfl; refine pk ?_; refine blk_put (cs := #[.slice none 0 0, .slice none 0 0]) ?_ 0 _ rfl; refine pk ?_; exact BK234.out⟩
        have n6_ : Aside0 (Below w.heap.size w ((w48.setCell ⟨gb234, 0, none⟩ (.slice Ao50 t224.length co50)).setCell ⟨gb234, 1, none⟩ (.slice Ao49 t231.length co49))) := ⟨by repeat (first | (with_reducible first | exact HB.out | apply below_alloc | apply pw_below_drewN | apply below_drew1 | refine below_set ?_ GE219.out | refine below_set ?_ GE220.out | refine below_set ?_ GE221.out | refine below_set ?_ GE234.out) | exact HB.out)⟩
        (try clear HO226)
        (try clear HO233)
        (try clear BK219)
        (try clear BK220)
        (try clear BK221)
        (try clear BK234)
        (try clear HB)
        generalize ((w48.setCell ⟨gb234, 0, none⟩ (.slice Ao50 t224.length co50)).setCell ⟨gb234, 1, none⟩ (.slice Ao49 t231.length co49)) = w53 at n0_ n1_ n2_ n3_ n4_ n5_ n6_ ⊢
        have HO226 := n0_
        have HO233 := n1_
        have BK219 := n2_
        have BK220 := n3_
        have BK221 := n4_
        have BK234 := n5_
        have HB := n6_
        clear n0_ n1_ n2_ n3_ n4_ n5_ n6_
        replace HO226 := am (Kd.T_drew HO226.out)
        replace HO233 := am (Kd.S_drew HO233.out)
        replace BK219 := am (blk_drew BK219.out)
        replace BK220 := am (blk_drew BK220.out)
        replace BK221 := am (blk_drew BK221.out)
        replace BK234 := am (blk_drew BK234.out)
        replace HB := am (below_drew1 HB.out)
        have p235 : 0 ≤ ((ji32) : Int) := of_decide_eq_true (by first | (with_reducible assumption) | assumption)
        have q235 : (ji32) < (l0_1.length : Int) := of_decide_eq_true (by first | (with_reducible assumption) | assumption)
        obtain ⟨ad235, A235_0, c235_0, e235, hx235_0, hx235_1, hx235_2, hl235_0, hi235_0⟩ := at_T31 HR0_1.out (ji32) p235 q235
        have hw235_2 := hx235_2
        have hw235_1 := hx235_1
        have hw235_0 := hx235_0
        cases e235
        have hxw235_0 := hx235_0
        replace hx235_0 := (HB.out.cell (World.block_lt_of_cell? w _ hx235_0)).trans hx235_0
        have hxw235_1 := hx235_1
        replace hx235_1 := (HB.out.cell (World.block_lt_of_cell? w _ hx235_1)).trans hx235_1
        have hxw235_2 := hx235_2
        replace hx235_2 := (HB.out.cell (World.block_lt_of_cell? w _ hx235_2)).trans hx235_2
        have HR235_0 := am hi235_0
        have HC235_0 := am hl235_0
        clear hi235_0 hl235_0
        replace p235 := eq_true p235
        replace q235 := eq_true q235
        refine start_ (n := 10) (S := fun w' => w'.cell? ⟨gb234, 0, none⟩ = some (.slice Ao50 t224.length co50) ∧ w'.cell? ⟨gb234, 1, none⟩ = some (.slice Ao49 t231.length co49) ∧ w'.cell? ⟨gb219, 0, none⟩ = some (.slice A0_0 l0_0.length c0_0) ∧ w'.cell? ⟨gb219, 1, none⟩ = some (.slice (some ad235) l0_1.length c0_1) ∧ w'.cell? (ad235.add (((ji32)).toNat * 3)) = some (.slice A235_0 ((rd_T31 l0_1 (ji32)).f0).length c235_0) ∧ w'.cell? ⟨(ad235.add (((ji32)).toNat * 3)).block, (ad235.add (((ji32)).toNat * 3)).off + 1, none⟩ = some (.int .i64 ((rd_T31 l0_1 (ji32)).f1)) ∧ w'.cell? ⟨(ad235.add (((ji32)).toNat * 3)).block, (ad235.add (((ji32)).toNat * 3)).off + 2, none⟩ = some (.int .i64 ((rd_T31 l0_1 (ji32)).f2))) (ds := []) #[false, false, false, false, false, false, false, false, false, false] (by kernel_rfl) rfl rfl ⟨bc BK234.out 0, bc BK234.out 1, bc BK219.out 0, bc BK219.out 1, ((HB.out.cell (World.block_lt_of_cell? _ _ hw235_0)).trans hw235_0), ((HB.out.cell (World.block_lt_of_cell? _ _ hw235_1)).trans hw235_1), ((HB.out.cell (World.block_lt_of_cell? _ _ hw235_2)).trans hw235_2)⟩ (fun hHeld => ?_); refine with_tabW spec_UndoForth.tab7 spec_UndoForth.bits7 (fun HT_ HW_ => ?_)
        generalize w53.drew = w54 at HO226 HO233 BK219 BK220 BK221 BK234 HB HR235_0 hx235_0 hx235_1 hx235_2 hHeld ⊢
        refine pure_ (i := 1) (N := some 34) (v := ?_) (a' := ?_) #[false, true, false, false, false, false, false, false, false, false] rfl rfl (any_of HT_.out (by kernel_rfl)) (fun _ _ _ h => h) (Or.inl ⟨by rfl, ?_⟩) ?_ ?_; rotate_left
        ·intro w'; go_simp; with_reducible rfl
        rotate_left
        ·simp only [Act.put, sa_, s0_, ss_, i64_w, i32_w]; rfl
        refine pure_ (i := 3) (N := some 36) (v := ?_) (a' := ?_) #[false, true, false, true, false, false, false, false, false, false] rfl rfl (any_of HT_.out (by kernel_rfl)) (fun _ _ _ h => h) (Or.inl ⟨by rfl, ?_⟩) ?_ ?_; rotate_left
        ·intro w'; go_simp; with_reducible rfl
        rotate_left
        ·simp only [Act.put, sa_, s0_, ss_, i64_w, i32_w]; rfl
        refine pure_ (i := 4) (N := some 37) (v := ?_) (a' := ?_) #[false, true, false, true, true, false, false, false, false, false] rfl rfl (any_of HT_.out (by kernel_rfl)) (fun _ _ _ h => h) (Or.inl ⟨by rfl, ?_⟩) ?_ ?_; rotate_left
        ·intro w'; go_simp; with_reducible rfl
        rotate_left
        ·simp only [Act.put, sa_, s0_, ss_, i64_w, i32_w]; rfl
        refine take_ (i := 0) (N := some 33) (v := ?_) (a' := ?_) #[true, true, false, true, true, false, false, false, false, false] rfl rfl (take_ofW HT_.out HW_.out (by kernel_rfl)) (fun _ _ _ h => h) (Or.inl ⟨by rfl, ?_⟩) hHeld ?_ ?_; rotate_left
        ·rintro w' ⟨s0, s1, s2, s3, s4, s5, s6⟩; go_simp; with_reducible rfl
        rotate_left
        ·simp only [Act.put, sa_, s0_, ss_, i64_w, i32_w]; rfl
        refine take_ (i := 2) (N := some 35) (v := ?_) (a' := ?_) #[true, true, true, true, true, false, false, false, false, false] rfl rfl (take_ofW HT_.out HW_.out (by kernel_rfl)) (fun _ _ _ h => h) (Or.inl ⟨by rfl, ?_⟩) hHeld ?_ ?_; rotate_left
        ·rintro w' ⟨s0, s1, s2, s3, s4, s5, s6⟩; go_simp; with_reducible rfl
        rotate_left
        ·simp only [Act.put, sa_, s0_, ss_, i64_w, i32_w]; rfl
        refine pure_ (i := 5) (N := some 38) (v := ?_) (a' := ?_) #[true, true, true, true, true, true, false, false, false, false] rfl rfl (any_of HT_.out (by kernel_rfl)) (fun _ _ _ h => h) (Or.inl ⟨by rfl, ?_⟩) ?_ ?_; rotate_left
        ·intro w'; go_simp; with_reducible rfl
        rotate_left
        ·simp only [Act.put, sa_, s0_, ss_, i64_w, i32_w]; rfl
        refine take_ (i := 6) (N := some 39) (v := ?_) (a' := ?_) #[true, true, true, true, true, true, true, false, false, false] rfl rfl (take_ofW HT_.out HW_.out (by kernel_rfl)) (fun _ _ _ h => h) (Or.inl ⟨by rfl, ?_⟩) hHeld ?_ ?_; rotate_left
        ·rintro w' ⟨s0, s1, s2, s3, s4, s5, s6⟩; go_simp; with_reducible rfl
        rotate_left
        ·simp only [Act.put, sa_, s0_, ss_, i64_w, i32_w]; rfl
        refine one_ (i := 7) (N := some 40) #[true, true, true, true, true, true, true, true, false, false] rfl rfl (one_of HT_.out (by kernel_rfl)) (by decide) (fun K hK => ?_)
        refine goes_ Try.func31 (by kernel_rfl) rfl #[.agg #[.slice A235_0 ((rd_T31 l0_1 (ji32)).f0).length c235_0, .int .i64 ((rd_T31 l0_1 (ji32)).f1), .int .i64 ((rd_T31 l0_1 (ji32)).f2)]] (by rfl) rfl rfl (by (try simp only [List.map_toArray, List.map_cons, List.map_nil]); first | done | (simp only [hji32]; rfl) | rfl | (simp only [List.length_drop, List.length_take]; rfl)) ?_
        with_reducible refine (spec_l02Copy.calls _ _ ((rd_T31 l0_1 (ji32)).f0) ((rd_T31 l0_1 (ji32)).f1) ((rd_T31 l0_1 (ji32)).f2) t236 t239 t240 _ ?side1 ?side2 A37.out).mono ?_
        (case side1 => repeat (first | exact (Kd.C_below HR235_0.out HB.out) | (with_reducible refine Kd.C_alloc ?_ _) | (with_reducible refine Kd.C_drewN ?_ _) | (with_reducible refine Kd.C_drew ?_)))
        (case side2 => exact HC235_0.out)
        rintro e w55 ⟨v237, rfl, ho0, hb⟩
        refine ⟨_, rfl, ?_⟩
        replace HO226 := am (Kd.T_elder' (by (with_reducible repeat (first | apply Kd.T_alloc | apply Kd.T_drewN | apply Kd.T_drew)); exact HO226.out) (Kd.R_base ho0) hb)
        replace HO233 := am (Kd.S_elder' (ks HO233.out) (Kd.R_base ho0) hb)
        have HO238 := am (Kd.R_lower ho0 (below_size (bl HB.out)))
        replace BK219 := am (blk_below (pk BK219.out) hb)
        replace BK220 := am (blk_below (pk BK220.out) hb)
        replace BK221 := am (blk_below (pk BK221.out) hb)
        replace BK234 := am (blk_below (pk BK234.out) hb)
        replace HB := am (below_step (bl HB.out) hb)
        (try clear hb)
        (try clear hb2)
        (try clear hk)
        (try clear hi)
        (try clear ho0)
        obtain ⟨Ao56, co56, eo56⟩ := Kd.R_slice HO238.out
        (first | subst eo56 | (injection eo56 with f1_ f2_ f3_; have f4_ := f1_.symm; have f5_ := f3_.symm; clear f1_ f2_ f3_; subst f4_; subst f5_))
        refine hK.out _ _ ⟨bc BK234.out 0, bc BK234.out 1, bc BK219.out 0, bc BK219.out 1, ((HB.out.cell (World.block_lt_of_cell? _ _ hw235_0)).trans hw235_0), ((HB.out.cell (World.block_lt_of_cell? _ _ hw235_1)).trans hw235_1), ((HB.out.cell (World.block_lt_of_cell? _ _ hw235_2)).trans hw235_2)⟩ (fun hHeld => ?_)
        clear hK K
        refine norm_ (a' := ?_) ?_ ?_
        rotate_left
        ·show Act.put _ (some 40) _ = _
         simp only [Act.put, sa_, s0_, ss_, i64_w, i32_w]
         rfl
        refine pure_ (i := 8) (N := some 41) (v := ?_) (a' := ?_) #[true, true, true, true, true, true, true, true, true, false] rfl rfl (any_of HT_.out (by kernel_rfl)) (fun _ _ _ h => h) (Or.inl ⟨by rfl, ?_⟩) ?_ ?_; rotate_left
        ·intro w'; go_simp; with_reducible rfl
        rotate_left
        ·simp only [Act.put, sa_, s0_, ss_, i64_w, i32_w]; rfl
        refine one_ (i := 9) (N := none) #[true, true, true, true, true, true, true, true, true, true] rfl rfl (one_of HT_.out (by kernel_rfl)) (by decide) (fun K hK => ?_)
        have hs57 : w55.cell? ⟨gb221, 0, none⟩ = some (.slice none 0 0) := bc BK221.out 0
        have hfs57 := blk_frozen BK221.out 0
        have hns57_0 := NB219_221.out
        have hns57_1 := NB220_221.out
        have hns57_3 := NB234_221.out
        have hms57_0 := NB221_219.out
        have hms57_1 := NB221_220.out
        have hms57_3 := NB221_234.out
        have hs58 : w55.cell? ⟨gb221, 1, none⟩ = some (.slice none 0 0) := bc BK221.out 1
        have hfs58 := blk_frozen BK221.out 1
        have hs59 : w55.cell? ⟨gb221, 2, none⟩ = some (.slice none 0 0) := bc BK221.out 2
        have hfs59 := blk_frozen BK221.out 2
        have hs60 : w55.cell? ⟨gb221, 3, none⟩ = some (.int .i64 0) := bc BK221.out 3
        have hfs60 := blk_frozen BK221.out 3
        have hs61 : w55.cell? ⟨gb221, 4, none⟩ = some (.int .i64 0) := bc BK221.out 4
        have hfs61 := blk_frozen BK221.out 4
        have hs62 : w55.cell? ⟨gb221, 5, none⟩ = some (.int .i64 0) := bc BK221.out 5
        have hfs62 := blk_frozen BK221.out 5
        refine skip_ (w1 := ?_) (by rfl) rfl ?_ ?_
        rotate_left
        ·go_simp
         rfl
        refine hK.out _ _ ⟨((cell_far (p := ⟨gb221, _, none⟩) NB234_221.out _).trans (((cell_far (p := ⟨gb221, _, none⟩) NB234_221.out _).trans (((cell_far (p := ⟨gb221, _, none⟩) NB234_221.out _).trans (((cell_far (p := ⟨gb221, _, none⟩) NB234_221.out _).trans (((cell_far (p := ⟨gb221, _, none⟩) NB234_221.out _).trans (((cell_far (p := ⟨gb221, _, none⟩) NB234_221.out _).trans (hHeld.1)))))))))))), ((cell_far (p := ⟨gb221, _, none⟩) NB234_221.out _).trans (((cell_far (p := ⟨gb221, _, none⟩) NB234_221.out _).trans (((cell_far (p := ⟨gb221, _, none⟩) NB234_221.out _).trans (((cell_far (p := ⟨gb221, _, none⟩) NB234_221.out _).trans (((cell_far (p := ⟨gb221, _, none⟩) NB234_221.out _).trans (((cell_far (p := ⟨gb221, _, none⟩) NB234_221.out _).trans (hHeld.2.1)))))))))))), ((cell_far (p := ⟨gb221, _, none⟩) NB219_221.out _).trans (((cell_far (p := ⟨gb221, _, none⟩) NB219_221.out _).trans (((cell_far (p := ⟨gb221, _, none⟩) NB219_221.out _).trans (((cell_far (p := ⟨gb221, _, none⟩) NB219_221.out _).trans (((cell_far (p := ⟨gb221, _, none⟩) NB219_221.out _).trans (((cell_far (p := ⟨gb221, _, none⟩) NB219_221.out _).trans (hHeld.2.2.1)))))))))))), ((cell_far (p := ⟨gb221, _, none⟩) NB219_221.out _).trans (((cell_far (p := ⟨gb221, _, none⟩) NB219_221.out _).trans (((cell_far (p := ⟨gb221, _, none⟩) NB219_221.out _).trans (((cell_far (p := ⟨gb221, _, none⟩) NB219_221.out _).trans (((cell_far (p := ⟨gb221, _, none⟩) NB219_221.out _).trans (((cell_far (p := ⟨gb221, _, none⟩) NB219_221.out _).trans (hHeld.2.2.2.1)))))))))))), ((cell_far (p := ⟨gb221, _, none⟩) (by first | exact Nat.ne_of_lt (Nat.lt_of_lt_of_le (by have := World.block_lt_of_cell? _ _ hw235_0; first | rwa [add_block] at this | exact this) GW221.out) | (rw [add_block]; exact Nat.ne_of_lt (Nat.lt_of_lt_of_le (by have := World.block_lt_of_cell? _ _ hw235_0; first | rwa [add_block] at this | exact this) GW221.out)) | (show (Addr.add _ _).block ≠ _; rw [add_block]; exact Nat.ne_of_lt (Nat.lt_of_lt_of_le (by have := World.block_lt_of_cell? _ _ hw235_0; first | rwa [add_block] at this | exact this) GW221.out)) | (dsimp only; exact Nat.ne_of_lt (Nat.lt_of_lt_of_le (by have := World.block_lt_of_cell? _ _ hw235_0; first | rwa [add_block] at this | exact this) GW221.out))) _).trans (((cell_far (p := ⟨gb221, _, none⟩) (by first | exact Nat.ne_of_lt (Nat.lt_of_lt_of_le (by have := World.block_lt_of_cell? _ _ hw235_0; first | rwa [add_block] at this | exact this) GW221.out) | (rw [add_block]; exact Nat.ne_of_lt (Nat.lt_of_lt_of_le (by have := World.block_lt_of_cell? _ _ hw235_0; first | rwa [add_block] at this | exact this) GW221.out)) | (show (Addr.add _ _).block ≠ _; rw [add_block]; exact Nat.ne_of_lt (Nat.lt_of_lt_of_le (by have := World.block_lt_of_cell? _ _ hw235_0; first | rwa [add_block] at this | exact this) GW221.out)) | (dsimp only; exact Nat.ne_of_lt (Nat.lt_of_lt_of_le (by have := World.block_lt_of_cell? _ _ hw235_0; first | rwa [add_block] at this | exact this) GW221.out))) _).trans (((cell_far (p := ⟨gb221, _, none⟩) (by first | exact Nat.ne_of_lt (Nat.lt_of_lt_of_le (by have := World.block_lt_of_cell? _ _ hw235_0; first | rwa [add_block] at this | exact this) GW221.out) | (rw [add_block]; exact Nat.ne_of_lt (Nat.lt_of_lt_of_le (by have := World.block_lt_of_cell? _ _ hw235_0; first | rwa [add_block] at this | exact this) GW221.out)) | (show (Addr.add _ _).block ≠ _; rw [add_block]; exact Nat.ne_of_lt (Nat.lt_of_lt_of_le (by have := World.block_lt_of_cell? _ _ hw235_0; first | rwa [add_block] at this | exact this) GW221.out)) | (dsimp only; exact Nat.ne_of_lt (Nat.lt_of_lt_of_le (by have := World.block_lt_of_cell? _ _ hw235_0; first | rwa [add_block] at this | exact this) GW221.out))) _).trans (((cell_far (p := ⟨gb221, _, none⟩) (by first | exact Nat.ne_of_lt (Nat.lt_of_lt_of_le (by have := World.block_lt_of_cell? _ _ hw235_0; first | rwa [add_block] at this | exact this) GW221.out) | (rw [add_block]; exact Nat.ne_of_lt (Nat.lt_of_lt_of_le (by have := World.block_lt_of_cell? _ _ hw235_0; first | rwa [add_block] at this | exact this) GW221.out)) | (show (Addr.add _ _).block ≠ _; rw [add_block]; exact Nat.ne_of_lt (Nat.lt_of_lt_of_le (by have := World.block_lt_of_cell? _ _ hw235_0; first | rwa [add_block] at this | exact this) GW221.out)) | (dsimp only; exact Nat.ne_of_lt (Nat.lt_of_lt_of_le (by have := World.block_lt_of_cell? _ _ hw235_0; first | rwa [add_block] at this | exact this) GW221.out))) _).trans (((cell_far (p := ⟨gb221, _, none⟩) (by first | exact Nat.ne_of_lt (Nat.lt_of_lt_of_le (by have := World.block_lt_of_cell? _ _ hw235_0; first | rwa [add_block] at this | exact this) GW221.out) | (rw [add_block]; exact Nat.ne_of_lt (Nat.lt_of_lt_of_le (by have := World.block_lt_of_cell? _ _ hw235_0; first | rwa [add_block] at this | exact this) GW221.out)) | (show (Addr.add _ _).block ≠ _; rw [add_block]; exact Nat.ne_of_lt (Nat.lt_of_lt_of_le (by have := World.block_lt_of_cell? _ _ hw235_0; first | rwa [add_block] at this | exact this) GW221.out)) | (dsimp only; exact Nat.ne_of_lt (Nat.lt_of_lt_of_le (by have := World.block_lt_of_cell? _ _ hw235_0; first | rwa [add_block] at this | exact this) GW221.out))) _).trans (((cell_far (p := ⟨gb221, _, none⟩) (by first | exact Nat.ne_of_lt (Nat.lt_of_lt_of_le (by have := World.block_lt_of_cell? _ _ hw235_0; first | rwa [add_block] at this | exact this) GW221.out) | (rw [add_block]; exact Nat.ne_of_lt (Nat.lt_of_lt_of_le (by have := World.block_lt_of_cell? _ _ hw235_0; first | rwa [add_block] at this | exact this) GW221.out)) | (show (Addr.add _ _).block ≠ _; rw [add_block]; exact Nat.ne_of_lt (Nat.lt_of_lt_of_le (by have := World.block_lt_of_cell? _ _ hw235_0; first | rwa [add_block] at this | exact this) GW221.out)) | (dsimp only; exact Nat.ne_of_lt (Nat.lt_of_lt_of_le (by have := World.block_lt_of_cell? _ _ hw235_0; first | rwa [add_block] at this | exact this) GW221.out))) _).trans (hHeld.2.2.2.2.1)))))))))))), ((cell_far (p := ⟨gb221, _, none⟩) (by first | exact Nat.ne_of_lt (Nat.lt_of_lt_of_le (by have := World.block_lt_of_cell? _ _ hw235_1; first | rwa [add_block] at this | exact this) GW221.out) | (rw [add_block]; exact Nat.ne_of_lt (Nat.lt_of_lt_of_le (by have := World.block_lt_of_cell? _ _ hw235_1; first | rwa [add_block] at this | exact this) GW221.out)) | (show (Addr.add _ _).block ≠ _; rw [add_block]; exact Nat.ne_of_lt (Nat.lt_of_lt_of_le (by have := World.block_lt_of_cell? _ _ hw235_1; first | rwa [add_block] at this | exact this) GW221.out)) | (dsimp only; exact Nat.ne_of_lt (Nat.lt_of_lt_of_le (by have := World.block_lt_of_cell? _ _ hw235_1; first | rwa [add_block] at this | exact this) GW221.out))) _).trans (((cell_far (p := ⟨gb221, _, none⟩) (by first | exact Nat.ne_of_lt (Nat.lt_of_lt_of_le (by have := World.block_lt_of_cell? _ _ hw235_1; first | rwa [add_block] at this | exact this) GW221.out) | (rw [add_block]; exact Nat.ne_of_lt (Nat.lt_of_lt_of_le (by have := World.block_lt_of_cell? _ _ hw235_1; first | rwa [add_block] at this | exact this) GW221.out)) | (show (Addr.add _ _).block ≠ _; rw [add_block]; exact Nat.ne_of_lt (Nat.lt_of_lt_of_le (by have := World.block_lt_of_cell? _ _ hw235_1; first | rwa [add_block] at this | exact this) GW221.out)) | (dsimp only; exact Nat.ne_of_lt (Nat.lt_of_lt_of_le (by have := World.block_lt_of_cell? _ _ hw235_1; first | rwa [add_block] at this | exact this) GW221.out))) _).trans (((cell_far (p := ⟨gb221, _, none⟩) (by first | exact Nat.ne_of_lt (Nat.lt_of_lt_of_le (by have := World.block_lt_of_cell? _ _ hw235_1; first | rwa [add_block] at this | exact this) GW221.out) | (rw [add_block]; exact Nat.ne_of_lt (Nat.lt_of_lt_of_le (by have := World.block_lt_of_cell? _ _ hw235_1; first | rwa [add_block] at this | exact this) GW221.out)) | (show (Addr.add _ _).block ≠ _; rw [add_block]; exact Nat.ne_of_lt (Nat.lt_of_lt_of_le (by have := World.block_lt_of_cell? _ _ hw235_1; first | rwa [add_block] at this | exact this) GW221.out)) | (dsimp only; exact Nat.ne_of_lt (Nat.lt_of_lt_of_le (by have := World.block_lt_of_cell? _ _ hw235_1; first | rwa [add_block] at this | exact this) GW221.out))) _).trans (((cell_far (p := ⟨gb221, _, none⟩) (by first | exact Nat.ne_of_lt (Nat.lt_of_lt_of_le (by have := World.block_lt_of_cell? _ _ hw235_1; first | rwa [add_block] at this | exact this) GW221.out) | (rw [add_block]; exact Nat.ne_of_lt (Nat.lt_of_lt_of_le (by have := World.block_lt_of_cell? _ _ hw235_1; first | rwa [add_block] at this | exact this) GW221.out)) | (show (Addr.add _ _).block ≠ _; rw [add_block]; exact Nat.ne_of_lt (Nat.lt_of_lt_of_le (by have := World.block_lt_of_cell? _ _ hw235_1; first | rwa [add_block] at this | exact this) GW221.out)) | (dsimp only; exact Nat.ne_of_lt (Nat.lt_of_lt_of_le (by have := World.block_lt_of_cell? _ _ hw235_1; first | rwa [add_block] at this | exact this) GW221.out))) _).trans (((cell_far (p := ⟨gb221, _, none⟩) (by first | exact Nat.ne_of_lt (Nat.lt_of_lt_of_le (by have := World.block_lt_of_cell? _ _ hw235_1; first | rwa [add_block] at this | exact this) GW221.out) | (rw [add_block]; exact Nat.ne_of_lt (Nat.lt_of_lt_of_le (by have := World.block_lt_of_cell? _ _ hw235_1; first | rwa [add_block] at this | exact this) GW221.out)) | (show (Addr.add _ _).block ≠ _; rw [add_block]; exact Nat.ne_of_lt (Nat.lt_of_lt_of_le (by have := World.block_lt_of_cell? _ _ hw235_1; first | rwa [add_block] at this | exact this) GW221.out)) | (dsimp only; exact Nat.ne_of_lt (Nat.lt_of_lt_of_le (by have := World.block_lt_of_cell? _ _ hw235_1; first | rwa [add_block] at this | exact this) GW221.out))) _).trans (((cell_far (p := ⟨gb221, _, none⟩) (by first | exact Nat.ne_of_lt (Nat.lt_of_lt_of_le (by have := World.block_lt_of_cell? _ _ hw235_1; first | rwa [add_block] at this | exact this) GW221.out) | (rw [add_block]; exact Nat.ne_of_lt (Nat.lt_of_lt_of_le (by have := World.block_lt_of_cell? _ _ hw235_1; first | rwa [add_block] at this | exact this) GW221.out)) | (show (Addr.add _ _).block ≠ _; rw [add_block]; exact Nat.ne_of_lt (Nat.lt_of_lt_of_le (by have := World.block_lt_of_cell? _ _ hw235_1; first | rwa [add_block] at this | exact this) GW221.out)) | (dsimp only; exact Nat.ne_of_lt (Nat.lt_of_lt_of_le (by have := World.block_lt_of_cell? _ _ hw235_1; first | rwa [add_block] at this | exact this) GW221.out))) _).trans (hHeld.2.2.2.2.2.1)))))))))))), ((cell_far (p := ⟨gb221, _, none⟩) (by first | exact Nat.ne_of_lt (Nat.lt_of_lt_of_le (by have := World.block_lt_of_cell? _ _ hw235_2; first | rwa [add_block] at this | exact this) GW221.out) | (rw [add_block]; exact Nat.ne_of_lt (Nat.lt_of_lt_of_le (by have := World.block_lt_of_cell? _ _ hw235_2; first | rwa [add_block] at this | exact this) GW221.out)) | (show (Addr.add _ _).block ≠ _; rw [add_block]; exact Nat.ne_of_lt (Nat.lt_of_lt_of_le (by have := World.block_lt_of_cell? _ _ hw235_2; first | rwa [add_block] at this | exact this) GW221.out)) | (dsimp only; exact Nat.ne_of_lt (Nat.lt_of_lt_of_le (by have := World.block_lt_of_cell? _ _ hw235_2; first | rwa [add_block] at this | exact this) GW221.out))) _).trans (((cell_far (p := ⟨gb221, _, none⟩) (by first | exact Nat.ne_of_lt (Nat.lt_of_lt_of_le (by have := World.block_lt_of_cell? _ _ hw235_2; first | rwa [add_block] at this | exact this) GW221.out) | (rw [add_block]; exact Nat.ne_of_lt (Nat.lt_of_lt_of_le (by have := World.block_lt_of_cell? _ _ hw235_2; first | rwa [add_block] at this | exact this) GW221.out)) | (show (Addr.add _ _).block ≠ _; rw [add_block]; exact Nat.ne_of_lt (Nat.lt_of_lt_of_le (by have := World.block_lt_of_cell? _ _ hw235_2; first | rwa [add_block] at this | exact this) GW221.out)) | (dsimp only; exact Nat.ne_of_lt (Nat.lt_of_lt_of_le (by have := World.block_lt_of_cell? _ _ hw235_2; first | rwa [add_block] at this | exact this) GW221.out))) _).trans (((cell_far (p := ⟨gb221, _, none⟩) (by first | exact Nat.ne_of_lt (Nat.lt_of_lt_of_le (by have := World.block_lt_of_cell? _ _ hw235_2; first | rwa [add_block] at this | exact this) GW221.out) | (rw [add_block]; exact Nat.ne_of_lt (Nat.lt_of_lt_of_le (by have := World.block_lt_of_cell? _ _ hw235_2; first | rwa [add_block] at this | exact this) GW221.out)) | (show (Addr.add _ _).block ≠ _; rw [add_block]; exact Nat.ne_of_lt (Nat.lt_of_lt_of_le (by have := World.block_lt_of_cell? _ _ hw235_2; first | rwa [add_block] at this | exact this) GW221.out)) | (dsimp only; exact Nat.ne_of_lt (Nat.lt_of_lt_of_le (by have := World.block_lt_of_cell? _ _ hw235_2; first | rwa [add_block] at this | exact this) GW221.out))) _).trans (((cell_far (p := ⟨gb221, _, none⟩) (by first | exact Nat.ne_of_lt (Nat.lt_of_lt_of_le (by have := World.block_lt_of_cell? _ _ hw235_2; first | rwa [add_block] at this | exact this) GW221.out) | (rw [add_block]; exact Nat.ne_of_lt (Nat.lt_of_lt_of_le (by have := World.block_lt_of_cell? _ _ hw235_2; first | rwa [add_block] at this | exact this) GW221.out)) | (show (Addr.add _ _).block ≠ _; rw [add_block]; exact Nat.ne_of_lt (Nat.lt_of_lt_of_le (by have := World.block_lt_of_cell? _ _ hw235_2; first | rwa [add_block] at this | exact this) GW221.out)) | (dsimp only; exact Nat.ne_of_lt (Nat.lt_of_lt_of_le (by have := World.block_lt_of_cell? _ _ hw235_2; first | rwa [add_block] at this | exact this) GW221.out))) _).trans (((cell_far (p := ⟨gb221, _, none⟩) (by first | exact Nat.ne_of_lt (Nat.lt_of_lt_of_le (by have := World.block_lt_of_cell? _ _ hw235_2; first | rwa [add_block] at this | exact this) GW221.out) | (rw [add_block]; exact Nat.ne_of_lt (Nat.lt_of_lt_of_le (by have := World.block_lt_of_cell? _ _ hw235_2; first | rwa [add_block] at this | exact this) GW221.out)) | (show (Addr.add _ _).block ≠ _; rw [add_block]; exact Nat.ne_of_lt (Nat.lt_of_lt_of_le (by have := World.block_lt_of_cell? _ _ hw235_2; first | rwa [add_block] at this | exact this) GW221.out)) | (dsimp only; exact Nat.ne_of_lt (Nat.lt_of_lt_of_le (by have := World.block_lt_of_cell? _ _ hw235_2; first | rwa [add_block] at this | exact this) GW221.out))) _).trans (((cell_far (p := ⟨gb221, _, none⟩) (by first | exact Nat.ne_of_lt (Nat.lt_of_lt_of_le (by have := World.block_lt_of_cell? _ _ hw235_2; first | rwa [add_block] at this | exact this) GW221.out) | (rw [add_block]; exact Nat.ne_of_lt (Nat.lt_of_lt_of_le (by have := World.block_lt_of_cell? _ _ hw235_2; first | rwa [add_block] at this | exact this) GW221.out)) | (show (Addr.add _ _).block ≠ _; rw [add_block]; exact Nat.ne_of_lt (Nat.lt_of_lt_of_le (by have := World.block_lt_of_cell? _ _ hw235_2; first | rwa [add_block] at this | exact this) GW221.out)) | (dsimp only; exact Nat.ne_of_lt (Nat.lt_of_lt_of_le (by have := World.block_lt_of_cell? _ _ hw235_2; first | rwa [add_block] at this | exact this) GW221.out))) _).trans (hHeld.2.2.2.2.2.2))))))))))))⟩ (fun hHeld => ?_)
        clear hK K
        refine done_ (done_of HT_.out (by kernel_rfl)) ?_
        try go_wp2
        refine bodyPost_ret (results_cell_row rfl _ _ gb221 33 #[.slice Ao50 t224.length co50, .slice Ao49 t231.length co49, .slice Ao56 t236.length co56, .int .i64 t239, .int .i64 t240, .int .i64 0] (0, 0) _ rfl (by refine pk ?_; refine blk_put (cs := #[.slice Ao50 t224.length co50, .slice Ao49 t231.length co49, .slice Ao56 t236.length co56, .int .i64 t239, .int .i64 t240, .int .i64 0]) ?_ 5 _ rfl; refine pk ?_; refine blk_put (cs := #[.slice Ao50 t224.length co50, .slice Ao49 t231.length co49, .slice Ao56 t236.length co56, .int .i64 t239, .int .i64 0, .int .i64 0]) ?_ 4 _ rfl; refine pk ?_; refine blk_put (cs := #[.slice Ao50 t224.length co50, .slice Ao49 t231.length co49, .slice Ao56 t236.length co56, .int .i64 0, .int .i64 0, .int .i64 0]) ?_ 3 _ rfl; refine pk ?_; refine blk_put (cs := #[.slice Ao50 t224.length co50, .slice Ao49 t231.length co49, .slice none 0 0, .int .i64 0, .int .i64 0, .int .i64 0]) ?_ 2 _ rfl; refine pk ?_; refine blk_put (cs := #[.slice Ao50 t224.length co50, .slice none 0 0, .slice none 0 0, .int .i64 0, .int .i64 0, .int .i64 0]) ?_ 1 _ rfl; refine pk ?_; refine blk_put (cs := #[.slice none 0 0, .slice none 0 0, .slice none 0 0, .int .i64 0, .int .i64 0, .int .i64 0]) ?_ 0 _ rfl; refine pk ?_; exact BK221.out) Try.underlying33 rfl (by kernel_rfl)) rfl ?_
        exact ⟨_, _, _, by first | rfl | (simp [errW_none, errW_some] <;> rfl) | (simp only [← hji32]; first | rfl | (simp [errW_none, errW_some] <;> rfl)) | (simp [*, errW_none, errW_some] <;> rfl), by (with_reducible repeat (first | apply Kd.T_alloc | apply Kd.T_drewN | apply Kd.T_drew)); exact Kd.T_mono (Kd.T_far (p := ⟨gb221, 5, none⟩) (Kd.T_far (p := ⟨gb221, 4, none⟩) (Kd.T_far (p := ⟨gb221, 3, none⟩) (Kd.T_far (p := ⟨gb221, 2, none⟩) (Kd.T_far (p := ⟨gb221, 1, none⟩) (Kd.T_far (p := ⟨gb221, 0, none⟩) (Kd.T_types HO226.out BK221.out (by decide)) (fun _ hk => hk.2) (.slice Ao50 t224.length co50)) (fun _ hk => hk.2) (.slice Ao49 t231.length co49)) (fun _ hk => hk.2) (.slice Ao56 t236.length co56)) (fun _ hk => hk.2) (.int .i64 t239)) (fun _ hk => hk.2) (.int .i64 t240)) (fun _ hk => hk.2) (.int .i64 0)) (fun _ hk => ⟨hk.1.1.1, hk.1.2⟩), ks (Kd.S_mono (Kd.S_far (p := ⟨gb221, 5, none⟩) (Kd.S_far (p := ⟨gb221, 4, none⟩) (Kd.S_far (p := ⟨gb221, 3, none⟩) (Kd.S_far (p := ⟨gb221, 2, none⟩) (Kd.S_far (p := ⟨gb221, 1, none⟩) (Kd.S_far (p := ⟨gb221, 0, none⟩) (Kd.S_types HO233.out BK221.out (by decide)) (fun _ hk => hk.2) (.slice Ao50 t224.length co50)) (fun _ hk => hk.2) (.slice Ao49 t231.length co49)) (fun _ hk => hk.2) (.slice Ao56 t236.length co56)) (fun _ hk => hk.2) (.int .i64 t239)) (fun _ hk => hk.2) (.int .i64 t240)) (fun _ hk => hk.2) (.int .i64 0)) (fun _ hk => ⟨hk.1.1.1, hk.1.2⟩)), kr (Kd.R_mono (Kd.R_far (p := ⟨gb221, 5, none⟩) (Kd.R_far (p := ⟨gb221, 4, none⟩) (Kd.R_far (p := ⟨gb221, 3, none⟩) (Kd.R_far (p := ⟨gb221, 2, none⟩) (Kd.R_far (p := ⟨gb221, 1, none⟩) (Kd.R_far (p := ⟨gb221, 0, none⟩) (Kd.R_types HO238.out BK221.out (by decide)) (fun _ hk => hk.2) (.slice Ao50 t224.length co50)) (fun _ hk => hk.2) (.slice Ao49 t231.length co49)) (fun _ hk => hk.2) (.slice Ao56 t236.length co56)) (fun _ hk => hk.2) (.int .i64 t239)) (fun _ hk => hk.2) (.int .i64 t240)) (fun _ hk => hk.2) (.int .i64 0)) (fun _ hk => trivial)), by repeat (first | (with_reducible first | exact HB.out | apply below_alloc | apply pw_below_drewN | apply below_drew1 | refine below_set ?_ GE219.out | refine below_set ?_ GE220.out | refine below_set ?_ GE221.out | refine below_set ?_ GE234.out) | exact HB.out)⟩
       ·rw [if_neg c36] at H
        exact absurd H (by simp)
      ·rw [if_neg c34] at H
       exact absurd H (by simp)
     ·rw [if_neg c33] at H
      exact absurd H (by simp)

end Go.Proofs.Ytkplopkhdejleaa.PFnExactUndoForth
