-- Written by xprint.py (this claim's own program, over the kit's printer); Lean checks it.
import Derived.Test.YtkplopkhdejleaaPFnExactUndoForthx0
import Derived.Test.YtkplopkhdejleaaPFnExactUndoForthx3
import Derived.Test.YtkplopkhdejleaaPFnExactUndoForthx7
import Derived.Test.YtkplopkhdejleaaPFnExactUndoForthx8
namespace Go.Proofs.Ytkplopkhdejleaa.PFnExactUndoForth
open Go.RowKit Go.Proofs.YtkplopkhdejleaaW.PrintWords Go.Proofs.YtkplopkhdejleaaW.PrintLast Go.Proofs.YtkplopkhdejleaaW.PrintMore
attribute [local go_sem] max2_int min2_int max_two min_two max_three min_three max_four min_four   -- for this text's walks alone
set_option linter.unusedVariables false
set_option linter.unusedSimpArgs false   -- squeezed
set_option maxHeartbeats 8000000
set_option maxRecDepth 100000

/-! ### impl_UndoBack: function 41 -/
def impl_UndoBack.j0 : Nat → Int → Bool → List (S31) → List (S31) → List Int → Int → Int → Option ((List (S31)) × (List (S31)) × List Int × Int × Int × Int)
 | 0, _, _, _, _, _, _, _ => none
 | k + 1, x5, x10, x303000, x303001, x304000, x304001, x304002 => if x10 = true then (some (([] : List (S31)), ([] : List (S31)), ([] : List Int), 0, 0, 1)) else (if x5 < 0 then (some (([] : List (S31)), ([] : List (S31)), ([] : List Int), 0, 0, 4)) else (if 0 ≤ x5 then (if x5 ≤ (x303000.length : Int) then ((impl_ownBufs.f k (x303000.take (x5 : Int).toNat)).bind fun t311 => ((impl_behindBufs.f k x303001 x304000 x304001 x304002).bind fun t314 => (if x5 < (x303000.length : Int) then ((impl_ownBuf.f ((rd_T31 x303000 x5).f0) ((rd_T31 x303000 x5).f1) ((rd_T31 x303000 x5).f2)).bind fun bt318 => (some (t311, t314, bt318.1, bt318.2.1, bt318.2.2, 0))) else (none)))) else (none)) else (none)))
def impl_UndoBack.f (k : Nat) (l0_0 : List (S31)) (l0_1 : List (S31)) (l1_0 : List Int) (a1_1 : Int) (a1_2 : Int) : Option ((List (S31)) × (List (S31)) × List Int × Int × Int × Int) := (impl_UndoRight.f k l0_0 l0_1).bind fun t305 => (if t305 = true then ((impl_BufRight.f k l1_0 a1_1 a1_2).bind fun t306 => (impl_UndoBack.j0 k (wrap64 ((l0_0.length : Int) - 1)) (!t306) l0_0 l0_1 l1_0 a1_1 a1_2)) else (impl_UndoBack.j0 k (wrap64 ((l0_0.length : Int) - 1)) true l0_0 l0_1 l1_0 a1_1 a1_2))
theorem impl_UndoBack.mono_l : ∀ k, (∀ y0 y1 y2 y3 y4 y5 y6, LeO (impl_UndoBack.j0 k y0 y1 y2 y3 y4 y5 y6) (impl_UndoBack.j0 (k + 1) y0 y1 y2 y3 y4 y5 y6))
 | 0 => fun _ _ _ _ _ _ _ r h => by simp [impl_UndoBack.j0] at h
 | k + 1 => by
  have ih0 := impl_UndoBack.mono_l k
  ·intro y0 y1 y2 y3 y4 y5 y6
   unfold impl_UndoBack.j0
   repeat' first
   | (with_reducible exact ih0 _ _ _ _ _ _ _)
   | (with_reducible exact impl_BufRight.mono _ _ _ _)
   | (with_reducible exact impl_UndoRight.mono _ _ _)
   | (with_reducible exact impl_behindBufs.mono _ _ _ _ _)
   | (with_reducible exact impl_ownBufs.mono _ _)
   | (with_reducible exact LeO.refl _)
   | (with_reducible exact LeO.none _)
   | (with_reducible refine LeO.ite ?_ ?_)
   | (with_reducible refine LeO.bind ?_ (fun _ => ?_))
   | exact ih0 _ _ _ _ _ _ _
   | exact impl_BufRight.mono _ _ _ _
   | exact impl_UndoRight.mono _ _ _
   | exact impl_behindBufs.mono _ _ _ _ _
   | exact impl_ownBufs.mono _ _
   | refine LeO.bind ?_ (fun _ => ?_)
theorem impl_UndoBack.mono : ∀ a0 a1 a2 a3 a4 k, LeO (impl_UndoBack.f k a0 a1 a2 a3 a4) (impl_UndoBack.f (k + 1) a0 a1 a2 a3 a4) := by
 intro a0 a1 a2 a3 a4 k
 have ih0 := impl_UndoBack.mono_l k
 unfold impl_UndoBack.f
 repeat' first
   | (with_reducible exact ih0 _ _ _ _ _ _ _)
   | (with_reducible exact impl_BufRight.mono _ _ _ _)
   | (with_reducible exact impl_UndoRight.mono _ _ _)
   | (with_reducible exact impl_behindBufs.mono _ _ _ _ _)
   | (with_reducible exact impl_ownBufs.mono _ _)
   | (with_reducible exact LeO.refl _)
   | (with_reducible exact LeO.none _)
   | (with_reducible refine LeO.ite ?_ ?_)
   | (with_reducible refine LeO.bind ?_ (fun _ => ?_))
   | exact ih0 _ _ _ _ _ _ _
   | exact impl_BufRight.mono _ _ _ _
   | exact impl_UndoRight.mono _ _ _
   | exact impl_behindBufs.mono _ _ _ _ _
   | exact impl_ownBufs.mono _ _
   | refine LeO.bind ?_ (fun _ => ?_)
def impl_UndoBack.T6 : Bool × List (List Nat × List Nat) := (true, [([], []), ([0], [0]), ([], []), ([1, 2], [1, 2]), ([3], [3]), ([], []), ([5], [5]), ([], []), ([6, 7, 4], [6, 7]), ([4, 8], [4, 8]), ([], []), ([10], [10]), ([], []), ([11, 12], [11, 12]), ([13], [13]), ([14, 8], [14]), ([9, 15], [9, 15]), ([16, 15, 0, 1, 2, 3, 4, 5, 6, 7, 8, 9, 10, 11, 12, 13, 14, 15, 16], [16])])
def impl_UndoBack.B6 : List Nat := [0, 1, 0, 7, 15, 0, 32, 0, 255, 511, 0, 1024, 0, 7168, 15360, 32255, 65535, 131071]
theorem impl_UndoBack.tab6 : rtab .any (opsOf Try.f41 6) = impl_UndoBack.T6 := by kernel_rfl
theorem impl_UndoBack.bits6 : waitsOk impl_UndoBack.T6.2 impl_UndoBack.B6 = true := by kernel_rfl
theorem impl_UndoBack.callsA (k : Nat) (A0_0 : Option Addr) (c0_0 : Nat) (l0_0 : List (S31)) (A0_1 : Option Addr) (c0_1 : Nat) (l0_1 : List (S31)) (A1_0 : Option Addr) (c1_0 : Nat) (l1_0 : List Int) (a1_1 : Int) (a1_2 : Int) (r1 : List (S31)) (r2 : List (S31)) (r3 : List Int) (r4 : Int) (r5 : Int) (r6 : Int) (w : World) (hr0_0 : Kd.C k31 w A0_0 l0_0.length l0_0) (hc0_0 : l0_0.length ≤ c0_0) (hr0_1 : Kd.C k31 w A0_1 l0_1.length l0_1) (hc0_1 : l0_1.length ≤ c0_1) (hr1_0 : Kd.C (Kd.int .i64) w A1_0 l1_0.length l1_0) (hc1_0 : l1_0.length ≤ c1_0) (h : impl_UndoBack.f k l0_0 l0_1 l1_0 a1_1 a1_2 = some (r1, r2, r3, r4, r5, r6)) :
  Calls Try.prog 41 #[.agg #[.slice A0_0 l0_0.length c0_0, .slice A0_1 l0_1.length c0_1], .agg #[.slice A1_0 l1_0.length c1_0, .int .i64 a1_1, .int .i64 a1_2]] w fun e w' => ∃ m1_ m2_ : Nat, (w.heap.size ≤ m1_ ∧ m1_ ≤ m2_ ∧ m2_ ≤ w'.heap.size) ∧ ∃ v0_ v1_ v2_ : Value, e = .returned (.agg #[v0_, v1_, v2_, .int .i64 r4, .int .i64 r5, .int .i64 r6]) ∧ Kd.S k31 31 w' w.heap.size (fun k_ => k_ < m1_) v0_ r1 ∧ Kd.T k31 31 w' w.heap.size (fun k_ => m1_ ≤ k_ ∧ k_ < m2_) v1_ r2 ∧ Kd.R (Kd.int .i64) 2 w' w.heap.size (fun k_ => m2_ ≤ k_) v2_ r3 ∧ Below w.heap.size w w' := by
 have hu30 := Try.underlying30
 have hu31 := Try.underlying31
 have hu33 := Try.underlying33
 have HR0_0 := am hr0_0
 have HC0_0 := am hc0_0
 clear hr0_0 hc0_0
 have HR0_1 := am hr0_1
 have HC0_1 := am hc0_1
 clear hr0_1 hc0_1
 have HR1_0 := am hr1_0
 have HC1_0 := am hc1_0
 clear hr1_0 hc1_0
 have HB := am (Below.refl w.heap.size w)
 have H : ((impl_UndoRight.f k l0_0 l0_1).bind fun t305 => (if t305 = true then ((impl_BufRight.f k l1_0 a1_1 a1_2).bind fun t306 => (impl_UndoBack.j0 k (wrap64 ((l0_0.length : Int) - 1)) (!t306) l0_0 l0_1 l1_0 a1_1 a1_2)) else (impl_UndoBack.j0 k (wrap64 ((l0_0.length : Int) - 1)) true l0_0 l0_1 l1_0 a1_1 a1_2))) = some (r1, r2, r3, r4, r5, r6) := h
 clear h
 have HC3 := Aside0.mk H
 clear H
 go_enter Try.func41, Try.ntmps41
 go_upto_region 2 with (first | ((with_reducible refine gate_dst (N := 2) rfl ?_); refine box_event ?hg (N := 2) ?hd (cs := #[.slice A0_0 l0_0.length c0_0, .slice A0_1 l0_1.length c0_1]) (t := 30) ?hr ?_; (case hd => rfl); (case hg => rfl); (case hr => first | (go_simp; done) | (go_simp; rfl)); intro gb302 hg w4 hbox hb; have BK302 := am (hbox); have GW302 := am ((by rw [hg]; exact (below_size (bl HB.out)) : w.heap.size ≤ gb302)); have GE302 := GW302; replace HB := am (below_step (bl HB.out) hb); clear hb hbox hg) | ((with_reducible refine gate_dst (N := 3) rfl ?_); refine box_event ?hg (N := 3) ?hd (cs := #[.slice A1_0 l1_0.length c1_0, .int .i64 a1_1, .int .i64 a1_2]) (t := 31) ?hr ?_; (case hd => rfl); (case hg => rfl); (case hr => first | (go_simp; done) | (go_simp; rfl)); intro gb303 hg w5 hbox hb; have BK303 := am (hbox); have GW303 := am ((by rw [hg]; exact (below_size (bl HB.out)) : w.heap.size ≤ gb303)); have GE303 := GW303; replace HB := am (below_step (bl HB.out) hb); have NB302_303 := am ((by rw [hg]; exact Nat.ne_of_lt (blk_lt (pk BK302.out)) : gb302 ≠ gb303)); have NB303_302 := am ((by rw [hg]; exact Nat.ne_of_gt (blk_lt (pk BK302.out)) : gb303 ≠ gb302)); replace BK302 := am (blk_below (pk BK302.out) hb); clear hb hbox hg) | ((with_reducible refine gate_dst (N := 4) rfl ?_); refine box_event ?hg (N := 4) ?hd (cs := #[.slice none 0 0, .slice none 0 0, .slice none 0 0, .int .i64 0, .int .i64 0, .int .i64 0]) (t := 33) ?hr ?_; (case hd => rfl); (case hg => rfl); (case hr => first | (go_simp; done) | (go_simp; rfl)); intro gb304 hg w6 hbox hb; have BK304 := am (hbox); have GW304 := am ((by rw [hg]; exact (below_size (bl HB.out)) : w.heap.size ≤ gb304)); have GE304 := GW304; replace HB := am (below_step (bl HB.out) hb); have NB302_304 := am ((by rw [hg]; exact Nat.ne_of_lt (blk_lt (pk BK302.out)) : gb302 ≠ gb304)); have NB304_302 := am ((by rw [hg]; exact Nat.ne_of_gt (blk_lt (pk BK302.out)) : gb304 ≠ gb302)); replace BK302 := am (blk_below (pk BK302.out) hb); have NB303_304 := am ((by rw [hg]; exact Nat.ne_of_lt (blk_lt (pk BK303.out)) : gb303 ≠ gb304)); have NB304_303 := am ((by rw [hg]; exact Nat.ne_of_gt (blk_lt (pk BK303.out)) : gb304 ≠ gb303)); replace BK303 := am (blk_below (pk BK303.out) hb); clear hb hbox hg; have hnb7 := NB302_303.out; have hnc7 := NB303_302.out; have hnb8 := NB302_304.out; have hnc8 := NB304_302.out; have hcz9_0 : w6.cell? ⟨gb302, 0, none⟩ = some (.slice A0_0 l0_0.length c0_0) := bc BK302.out 0; have hcz9_1 : w6.cell? ⟨gb302, 1, none⟩ = some (.slice A0_1 l0_1.length c0_1) := bc BK302.out 1; have hfz9_0 := blk_frozen BK302.out 0; have hfz9_1 := blk_frozen BK302.out 1))
 (try simp only [Act.put, sa_, s0_, ss_])
 go_cut [10] (fun v10 wc => ∃ (kq : Nat) (x10_2 : Bool), v10 = .bool x10_2 ∧ Aside0 (impl_UndoBack.j0 kq (wrap64 ((l0_0.length : Int) - 1)) x10_2 l0_0 l0_1 l1_0 a1_1 a1_2 = some (r1, r2, r3, r4, r5, r6)) ∧ Aside0 (kq ≤ k) ∧ Aside0 (wc.heap[gb302]? = some (.cells #[(.slice A0_0 l0_0.length c0_0), (.slice A0_1 l0_1.length c0_1)] 30 (0, 0))) ∧ Aside0 (wc.heap[gb303]? = some (.cells #[(.slice A1_0 l1_0.length c1_0), .int .i64 a1_1, .int .i64 a1_2] 31 (0, 0))) ∧ Aside0 (wc.heap[gb304]? = some (.cells #[(.slice none 0 0), (.slice none 0 0), (.slice none 0 0), .int .i64 0, .int .i64 0, .int .i64 0] 33 (0, 0))) ∧ Aside0 (Below w.heap.size w wc))
 case first =>
  have H := HC3.out
  clear HC3
  replace H := Option.bind_eq_some_iff.mp H
  obtain ⟨t305, A100, H⟩ := H
  replace H : (if t305 = true then ((impl_BufRight.f k l1_0 a1_1 a1_2).bind fun t306 => (impl_UndoBack.j0 k (wrap64 ((l0_0.length : Int) - 1)) (!t306) l0_0 l0_1 l1_0 a1_1 a1_2)) else (impl_UndoBack.j0 k (wrap64 ((l0_0.length : Int) - 1)) true l0_0 l0_1 l1_0 a1_1 a1_2)) = some (r1, r2, r3, r4, r5, r6) := H
  have A10 := Aside0.mk A100
  clear A100
  by_cases c11 : t305 = true
  ·subst c11
   have H1 : ((impl_BufRight.f k l1_0 a1_1 a1_2).bind fun t306 => (impl_UndoBack.j0 k (wrap64 ((l0_0.length : Int) - 1)) (!t306) l0_0 l0_1 l1_0 a1_1 a1_2)) = some (r1, r2, r3, r4, r5, r6) := by rw [if_pos rfl] at H; exact H
   clear H
   have H := H1
   clear H1
   replace H := Option.bind_eq_some_iff.mp H
   obtain ⟨t306, A120, H⟩ := H
   replace H : (impl_UndoBack.j0 k (wrap64 ((l0_0.length : Int) - 1)) (!t306) l0_0 l0_1 l1_0 a1_1 a1_2) = some (r1, r2, r3, r4, r5, r6) := H
   have A12 := Aside0.mk A120
   clear A120
   have H' := Aside0.mk H
   clear H
   have hnb13 := NB302_303.out
   have hnc13 := NB303_302.out
   have hnb14 := NB302_304.out
   have hnc14 := NB304_302.out
   have hcz15_0 : w6.cell? ⟨gb302, 0, none⟩ = some (.slice A0_0 l0_0.length c0_0) := bc BK302.out 0
   have hcz15_1 : w6.cell? ⟨gb302, 1, none⟩ = some (.slice A0_1 l0_1.length c0_1) := bc BK302.out 1
   have hfz15_0 := blk_frozen BK302.out 0
   have hfz15_1 := blk_frozen BK302.out 1
   go_wp2_with (first | ((with_reducible refine gate_callee (f := 51) rfl ?_); refine gl (some 12) Try.func51 #[.agg #[.slice A0_0 l0_0.length c0_0, .slice A0_1 l0_1.length c0_1]] ?_; (with_reducible refine (impl_UndoRight.calls k _ _ l0_0 _ _ l0_1 true _ ?side1 ?side2 ?side3 ?side4 A10.out).mono ?_); (case side1 => repeat (first | exact (Kd.C_below HR0_0.out HB.out) | (with_reducible refine Kd.C_alloc ?_ _) | (with_reducible refine Kd.C_drewN ?_ _) | (with_reducible refine Kd.C_drew ?_))); (case side2 => exact HC0_0.out); (case side3 => repeat (first | exact (Kd.C_below HR0_1.out HB.out) | (with_reducible refine Kd.C_alloc ?_ _) | (with_reducible refine Kd.C_drewN ?_ _) | (with_reducible refine Kd.C_drew ?_))); (case side4 => exact HC0_1.out); rintro e w16 ⟨rfl, hb⟩; refine ⟨_, rfl, ?_⟩; replace BK302 := am (blk_below (pk BK302.out) hb); replace BK303 := am (blk_below (pk BK303.out) hb); replace BK304 := am (blk_below (pk BK304.out) hb); replace HB := am (below_step (bl HB.out) hb); (try clear hb); (try clear hb2); (try clear hk); (try clear hi); have hnb17 := NB303_304.out; have hnc17 := NB304_303.out; have hcz18_0 : w16.cell? ⟨gb303, 0, none⟩ = some (.slice A1_0 l1_0.length c1_0) := bc BK303.out 0; have hcz18_1 : w16.cell? ⟨gb303, 1, none⟩ = some (.int .i64 a1_1) := bc BK303.out 1; have hcz18_2 : w16.cell? ⟨gb303, 2, none⟩ = some (.int .i64 a1_2) := bc BK303.out 2; have hfz18_0 := blk_frozen BK303.out 0; have hfz18_1 := blk_frozen BK303.out 1; have hfz18_2 := blk_frozen BK303.out 2) | (go_at_call 36; (with_reducible refine (impl_BufRight.calls k _ _ l1_0 a1_1 a1_2 t306 _ ?side1 ?side2 A12.out).mono ?_); (case side1 => repeat (first | exact (Kd.C_below HR1_0.out HB.out) | (with_reducible refine Kd.C_alloc ?_ _) | (with_reducible refine Kd.C_drewN ?_ _) | (with_reducible refine Kd.C_drew ?_))); (case side2 => exact HC1_0.out); rintro e w19 ⟨rfl, hb⟩; replace BK302 := am (blk_below (pk BK302.out) hb); replace BK303 := am (blk_below (pk BK303.out) hb); replace BK304 := am (blk_below (pk BK304.out) hb); replace HB := am (below_step (bl HB.out) hb); (try clear hb); (try clear hb2); (try clear hk); (try clear hi)))
   go_meet
   case rel => exact ⟨_, (!t306), (by first | rfl | (simp; done) | (simp [*]; done)), H', ⟨by first | omega | exact Nat.le_refl _⟩, ⟨pk BK302.out⟩, ⟨pk BK303.out⟩, ⟨pk BK304.out⟩, ⟨by repeat (first | (with_reducible first | exact HB.out | apply below_alloc | apply pw_below_drewN | apply below_drew1 | refine below_set ?_ GE302.out | refine below_set ?_ GE303.out | refine below_set ?_ GE304.out) | exact HB.out)⟩⟩
  ·replace c11 := Bool.eq_false_iff.mpr c11
   subst c11
   have H1 : (impl_UndoBack.j0 k (wrap64 ((l0_0.length : Int) - 1)) true l0_0 l0_1 l1_0 a1_1 a1_2) = some (r1, r2, r3, r4, r5, r6) := by rw [if_neg (show ¬ (false = true) by decide)] at H; exact H
   clear H
   have H := H1
   clear H1
   have H' := Aside0.mk H
   clear H
   have hnb20 := NB302_303.out
   have hnc20 := NB303_302.out
   have hnb21 := NB302_304.out
   have hnc21 := NB304_302.out
   have hcz22_0 : w6.cell? ⟨gb302, 0, none⟩ = some (.slice A0_0 l0_0.length c0_0) := bc BK302.out 0
   have hcz22_1 : w6.cell? ⟨gb302, 1, none⟩ = some (.slice A0_1 l0_1.length c0_1) := bc BK302.out 1
   have hfz22_0 := blk_frozen BK302.out 0
   have hfz22_1 := blk_frozen BK302.out 1
   go_wp2_with (first | ((with_reducible refine gate_callee (f := 51) rfl ?_); refine gl (some 12) Try.func51 #[.agg #[.slice A0_0 l0_0.length c0_0, .slice A0_1 l0_1.length c0_1]] ?_; (with_reducible refine (impl_UndoRight.calls k _ _ l0_0 _ _ l0_1 false _ ?side1 ?side2 ?side3 ?side4 A10.out).mono ?_); (case side1 => repeat (first | exact (Kd.C_below HR0_0.out HB.out) | (with_reducible refine Kd.C_alloc ?_ _) | (with_reducible refine Kd.C_drewN ?_ _) | (with_reducible refine Kd.C_drew ?_))); (case side2 => exact HC0_0.out); (case side3 => repeat (first | exact (Kd.C_below HR0_1.out HB.out) | (with_reducible refine Kd.C_alloc ?_ _) | (with_reducible refine Kd.C_drewN ?_ _) | (with_reducible refine Kd.C_drew ?_))); (case side4 => exact HC0_1.out); rintro e w23 ⟨rfl, hb⟩; refine ⟨_, rfl, ?_⟩; replace BK302 := am (blk_below (pk BK302.out) hb); replace BK303 := am (blk_below (pk BK303.out) hb); replace BK304 := am (blk_below (pk BK304.out) hb); replace HB := am (below_step (bl HB.out) hb); (try clear hb); (try clear hb2); (try clear hk); (try clear hi)))
   go_meet
   case rel => exact ⟨_, (true), (by first | rfl | (simp; done) | (simp [*]; done)), H', ⟨by first | omega | exact Nat.le_refl _⟩, ⟨pk BK302.out⟩, ⟨pk BK303.out⟩, ⟨pk BK304.out⟩, ⟨by repeat (first | (with_reducible first | exact HB.out | apply below_alloc | apply pw_below_drewN | apply below_drew1 | refine below_set ?_ GE302.out | refine below_set ?_ GE303.out | refine below_set ?_ GE304.out) | exact HB.out)⟩⟩
 case rest =>
  clear HC3
  try clear c1
  try clear c2
  try clear p2
  try clear c4
  try clear c5
  try clear p6
  try clear c7
  try clear c8
  try clear c11
  try clear c13
  try clear c14
  try clear c17
  try clear c20
  try clear c21
  try clear hcz15_0
  try clear hcz15_1
  try clear hcz18_0
  try clear hcz18_1
  try clear hcz18_2
  try clear hcz22_0
  try clear hcz22_1
  try clear hcz9_0
  try clear hcz9_1
  try clear hfz15_0
  try clear hfz15_1
  try clear hfz18_0
  try clear hfz18_1
  try clear hfz18_2
  try clear hfz22_0
  try clear hfz22_1
  try clear hfz9_0
  try clear hfz9_1
  obtain ⟨kq, x10_2, rfl, HA, HJ2, BK302, BK303, BK304, HB⟩ := hcut
  cases kq with
  | zero => exact absurd HA.out (by simp [impl_UndoBack.j0])
  | succ kj2 =>
   have H := HA.out
   clear HA
   simp only [impl_UndoBack.j0] at H
   by_cases c24 : x10_2 = true
   ·subst c24
    have H1 : (some (([] : List (S31)), ([] : List (S31)), ([] : List Int), 0, 0, 1)) = some (r1, r2, r3, r4, r5, r6) := by rw [if_pos rfl] at H; exact H
    clear H
    have H := H1
    clear H1
    simp only [Option.some.injEq, Prod.mk.injEq] at H
    obtain ⟨rfl, rfl, rfl, rfl, rfl, rfl⟩ := H
    have hnb25 := NB304_302.out
    have hnc25 := NB302_304.out
    have hnb26 := NB304_303.out
    have hnc26 := NB303_304.out
    have hcz27_0 : wc.cell? ⟨gb304, 0, none⟩ = some (.slice none 0 0) := bc BK304.out 0
    have hcz27_1 : wc.cell? ⟨gb304, 1, none⟩ = some (.slice none 0 0) := bc BK304.out 1
    have hcz27_2 : wc.cell? ⟨gb304, 2, none⟩ = some (.slice none 0 0) := bc BK304.out 2
    have hcz27_3 : wc.cell? ⟨gb304, 3, none⟩ = some (.int .i64 0) := bc BK304.out 3
    have hcz27_4 : wc.cell? ⟨gb304, 4, none⟩ = some (.int .i64 0) := bc BK304.out 4
    have hcz27_5 : wc.cell? ⟨gb304, 5, none⟩ = some (.int .i64 0) := bc BK304.out 5
    have hfz27_0 := blk_frozen BK304.out 0
    have hfz27_1 := blk_frozen BK304.out 1
    have hfz27_2 := blk_frozen BK304.out 2
    have hfz27_3 := blk_frozen BK304.out 3
    have hfz27_4 := blk_frozen BK304.out 4
    have hfz27_5 := blk_frozen BK304.out 5
    go_wp2
    refine bodyPost_ret (results_cell_row rfl _ _ gb304 33 #[.slice none 0 0, .slice none 0 0, .slice none 0 0, .int .i64 0, .int .i64 0, .int .i64 1] (0, 0) _ rfl (by refine pk ?_; refine blk_put (cs := #[.slice none 0 0, .slice none 0 0, .slice none 0 0, .int .i64 0, .int .i64 0, .int .i64 0]) ?_ 5 _ rfl; refine pk ?_; refine blk_put (cs := #[.slice none 0 0, .slice none 0 0, .slice none 0 0, .int .i64 0, .int .i64 0, .int .i64 0]) ?_ 4 _ rfl; refine pk ?_; refine blk_put (cs := #[.slice none 0 0, .slice none 0 0, .slice none 0 0, .int .i64 0, .int .i64 0, .int .i64 0]) ?_ 3 _ rfl; refine pk ?_; refine blk_put (cs := #[.slice none 0 0, .slice none 0 0, .slice none 0 0, .int .i64 0, .int .i64 0, .int .i64 0]) ?_ 2 _ rfl; refine pk ?_; refine blk_put (cs := #[.slice none 0 0, .slice none 0 0, .slice none 0 0, .int .i64 0, .int .i64 0, .int .i64 0]) ?_ 1 _ rfl; refine pk ?_; refine blk_put (cs := #[.slice none 0 0, .slice none 0 0, .slice none 0 0, .int .i64 0, .int .i64 0, .int .i64 0]) ?_ 0 _ rfl; refine pk ?_; exact BK304.out) Try.underlying33 rfl (by kernel_rfl)) rfl ?_
    exact ⟨w.heap.size, w.heap.size, ⟨Nat.le_refl _, Nat.le_refl _, below_size (bl HB.out)⟩, _, _, _, by first | rfl | (simp [errW_none, errW_some] <;> rfl) | (simp [*, errW_none, errW_some] <;> rfl), by first | exact Kd.S_nil _ _ _ _ _ | exact Kd.N_nil _ _ _ _ _ | exact Kd.V_nil _ _ _ _ _ | exact Kd.T_nil _ _ _ _ _ | exact Kd.R_nil _ _ _ _ _, Kd.T_of_S (by first | exact Kd.S_nil _ _ _ _ _ | exact Kd.N_nil _ _ _ _ _ | exact Kd.V_nil _ _ _ _ _ | exact Kd.T_nil _ _ _ _ _ | exact Kd.R_nil _ _ _ _ _), by first | exact Kd.R_nil _ _ _ _ _ | exact Kd.N_nil _ _ _ _ _ | exact Kd.V_nil _ _ _ _ _ | exact Kd.T_nil _ _ _ _ _ | exact Kd.S_nil _ _ _ _ _, by repeat (first | (with_reducible first | exact HB.out | apply below_alloc | apply pw_below_drewN | apply below_drew1 | refine below_set ?_ GE302.out | refine below_set ?_ GE303.out | refine below_set ?_ GE304.out) | exact HB.out)⟩
   ·replace c24 := Bool.eq_false_iff.mpr c24
    subst c24
    have H1 : (if (wrap64 ((l0_0.length : Int) - 1)) < 0 then (some (([] : List (S31)), ([] : List (S31)), ([] : List Int), 0, 0, 4)) else (if 0 ≤ (wrap64 ((l0_0.length : Int) - 1)) then (if (wrap64 ((l0_0.length : Int) - 1)) ≤ (l0_0.length : Int) then ((impl_ownBufs.f kj2 (l0_0.take ((wrap64 ((l0_0.length : Int) - 1)) : Int).toNat)).bind fun t311 => ((impl_behindBufs.f kj2 l0_1 l1_0 a1_1 a1_2).bind fun t314 => (if (wrap64 ((l0_0.length : Int) - 1)) < (l0_0.length : Int) then ((impl_ownBuf.f ((rd_T31 l0_0 (wrap64 ((l0_0.length : Int) - 1))).f0) ((rd_T31 l0_0 (wrap64 ((l0_0.length : Int) - 1))).f1) ((rd_T31 l0_0 (wrap64 ((l0_0.length : Int) - 1))).f2)).bind fun bt318 => (some (t311, t314, bt318.1, bt318.2.1, bt318.2.2, 0))) else (none)))) else (none)) else (none))) = some (r1, r2, r3, r4, r5, r6) := by rw [if_neg (show ¬ (false = true) by decide)] at H; exact H
    clear H
    have H := H1
    clear H1
    by_cases c28 : (wrap64 ((l0_0.length : Int) - 1)) < 0
    ·rw [if_pos c28] at H
     have c28b0 : decide ((wrap64 ((l0_0.length : Int) - 1)) < 0) = true := decide_eq_true c28
     clear c28
     simp only [Option.some.injEq, Prod.mk.injEq] at H
     obtain ⟨rfl, rfl, rfl, rfl, rfl, rfl⟩ := H
     have hnb29 := NB304_302.out
     have hnc29 := NB302_304.out
     have hnb30 := NB304_303.out
     have hnc30 := NB303_304.out
     have hcz31_0 : wc.cell? ⟨gb304, 0, none⟩ = some (.slice none 0 0) := bc BK304.out 0
     have hcz31_1 : wc.cell? ⟨gb304, 1, none⟩ = some (.slice none 0 0) := bc BK304.out 1
     have hcz31_2 : wc.cell? ⟨gb304, 2, none⟩ = some (.slice none 0 0) := bc BK304.out 2
     have hcz31_3 : wc.cell? ⟨gb304, 3, none⟩ = some (.int .i64 0) := bc BK304.out 3
     have hcz31_4 : wc.cell? ⟨gb304, 4, none⟩ = some (.int .i64 0) := bc BK304.out 4
     have hcz31_5 : wc.cell? ⟨gb304, 5, none⟩ = some (.int .i64 0) := bc BK304.out 5
     have hfz31_0 := blk_frozen BK304.out 0
     have hfz31_1 := blk_frozen BK304.out 1
     have hfz31_2 := blk_frozen BK304.out 2
     have hfz31_3 := blk_frozen BK304.out 3
     have hfz31_4 := blk_frozen BK304.out 4
     have hfz31_5 := blk_frozen BK304.out 5
     go_wp2
     refine bodyPost_ret (results_cell_row rfl _ _ gb304 33 #[.slice none 0 0, .slice none 0 0, .slice none 0 0, .int .i64 0, .int .i64 0, .int .i64 4] (0, 0) _ rfl (by refine pk ?_; refine blk_put (cs := #[.slice none 0 0, .slice none 0 0, .slice none 0 0, .int .i64 0, .int .i64 0, .int .i64 0]) ?_ 5 _ rfl; refine pk ?_; refine blk_put (cs := #[.slice none 0 0, .slice none 0 0, .slice none 0 0, .int .i64 0, .int .i64 0, .int .i64 0]) ?_ 4 _ rfl; refine pk ?_; refine blk_put (cs := #[.slice none 0 0, .slice none 0 0, .slice none 0 0, .int .i64 0, .int .i64 0, .int .i64 0]) ?_ 3 _ rfl; refine pk ?_; refine blk_put (cs := #[.slice none 0 0, .slice none 0 0, .slice none 0 0, .int .i64 0, .int .i64 0, .int .i64 0]) ?_ 2 _ rfl; refine pk ?_; refine blk_put (cs := #[.slice none 0 0, .slice none 0 0, .slice none 0 0, .int .i64 0, .int .i64 0, .int .i64 0]) ?_ 1 _ rfl; refine pk ?_; refine blk_put (cs := #[.slice none 0 0, .slice none 0 0, .slice none 0 0, .int .i64 0, .int .i64 0, .int .i64 0]) ?_ 0 _ rfl; refine pk ?_; exact BK304.out) Try.underlying33 rfl (by kernel_rfl)) rfl ?_
     exact ⟨w.heap.size, w.heap.size, ⟨Nat.le_refl _, Nat.le_refl _, below_size (bl HB.out)⟩, _, _, _, by first | rfl | (simp [errW_none, errW_some] <;> rfl) | (simp [*, errW_none, errW_some] <;> rfl), by first | exact Kd.S_nil _ _ _ _ _ | exact Kd.N_nil _ _ _ _ _ | exact Kd.V_nil _ _ _ _ _ | exact Kd.T_nil _ _ _ _ _ | exact Kd.R_nil _ _ _ _ _, Kd.T_of_S (by first | exact Kd.S_nil _ _ _ _ _ | exact Kd.N_nil _ _ _ _ _ | exact Kd.V_nil _ _ _ _ _ | exact Kd.T_nil _ _ _ _ _ | exact Kd.R_nil _ _ _ _ _), by first | exact Kd.R_nil _ _ _ _ _ | exact Kd.N_nil _ _ _ _ _ | exact Kd.V_nil _ _ _ _ _ | exact Kd.T_nil _ _ _ _ _ | exact Kd.S_nil _ _ _ _ _, by repeat (first | (with_reducible first | exact HB.out | apply below_alloc | apply pw_below_drewN | apply below_drew1 | refine below_set ?_ GE302.out | refine below_set ?_ GE303.out | refine below_set ?_ GE304.out) | exact HB.out)⟩
    ·rw [if_neg c28] at H
     have c28b0 : decide ((wrap64 ((l0_0.length : Int) - 1)) < 0) = false := decide_eq_false c28
     clear c28
     obtain ⟨ji32, hji32⟩ : ∃ j_ : Int, (wrap64 ((l0_0.length : Int) - 1)) = j_ := ⟨_, rfl⟩
     replace H : (if 0 ≤ (ji32) then (if (ji32) ≤ (l0_0.length : Int) then ((impl_ownBufs.f kj2 (l0_0.take ((ji32) : Int).toNat)).bind fun t311 => ((impl_behindBufs.f kj2 l0_1 l1_0 a1_1 a1_2).bind fun t314 => (if (ji32) < (l0_0.length : Int) then ((impl_ownBuf.f ((rd_T31 l0_0 (ji32)).f0) ((rd_T31 l0_0 (ji32)).f1) ((rd_T31 l0_0 (ji32)).f2)).bind fun bt318 => (some (t311, t314, bt318.1, bt318.2.1, bt318.2.2, 0))) else (none)))) else (none)) else (none)) = some (r1, r2, r3, r4, r5, r6) := by first | (rw [hji32] at H; exact H) | (simp only [hji32] at H ⊢; exact H)
     (try rw [hji32] at c28b0)
     have hji32w : (IntKind.i64.wrap ((l0_0.length : Int) - 1)) = ji32 := (i64_w _).trans hji32
     by_cases c33 : 0 ≤ (ji32)
     ·rw [if_pos c33] at H
      have c33b0 := eq_true c33
      have c33b1 : decide (0 ≤ (ji32)) = true := decide_eq_true c33
      clear c33
      by_cases c34 : (ji32) ≤ (l0_0.length : Int)
      ·rw [if_pos c34] at H
       have c34b0 := eq_true c34
       have c34b1 : decide ((ji32) ≤ (l0_0.length : Int)) = true := decide_eq_true c34
       clear c34
       obtain ⟨y307, hy307⟩ : ∃ y_ : List (S31), y_ = (l0_0.take ((ji32) : Int).toNat) := ⟨_, rfl⟩
       replace H : ((impl_ownBufs.f kj2 y307).bind fun t311 => ((impl_behindBufs.f kj2 l0_1 l1_0 a1_1 a1_2).bind fun t314 => (if (ji32) < (l0_0.length : Int) then ((impl_ownBuf.f ((rd_T31 l0_0 (ji32)).f0) ((rd_T31 l0_0 (ji32)).f1) ((rd_T31 l0_0 (ji32)).f2)).bind fun bt318 => (some (t311, t314, bt318.1, bt318.2.1, bt318.2.2, 0))) else (none)))) = some (r1, r2, r3, r4, r5, r6) := by first | (rw [hy307]; with_reducible exact H) | (have H2_ := (Option.bind_some _ _).symm.trans H; rw [hy307]; with_reducible exact H2_) | (have H2_ := (Option.bind_some _ _).symm.trans H; with_reducible exact H2_) | with_reducible exact H | (rw [hy307]; exact H) | exact H
       have Ny307 := am hy307
       clear hy307
       replace H := Option.bind_eq_some_iff.mp H
       obtain ⟨t311, A350, H⟩ := H
       replace H : ((impl_behindBufs.f kj2 l0_1 l1_0 a1_1 a1_2).bind fun t314 => (if (ji32) < (l0_0.length : Int) then ((impl_ownBuf.f ((rd_T31 l0_0 (ji32)).f0) ((rd_T31 l0_0 (ji32)).f1) ((rd_T31 l0_0 (ji32)).f2)).bind fun bt318 => (some (t311, t314, bt318.1, bt318.2.1, bt318.2.2, 0))) else (none))) = some (r1, r2, r3, r4, r5, r6) := H
       have A35 := Aside0.mk A350
       clear A350
       replace H := Option.bind_eq_some_iff.mp H
       obtain ⟨t314, A360, H⟩ := H
       replace H : (if (ji32) < (l0_0.length : Int) then ((impl_ownBuf.f ((rd_T31 l0_0 (ji32)).f0) ((rd_T31 l0_0 (ji32)).f1) ((rd_T31 l0_0 (ji32)).f2)).bind fun bt318 => (some (t311, t314, bt318.1, bt318.2.1, bt318.2.2, 0))) else (none)) = some (r1, r2, r3, r4, r5, r6) := H
       have A36 := Aside0.mk A360
       clear A360
       by_cases c37 : (ji32) < (l0_0.length : Int)
       ·rw [if_pos c37] at H
        have c37b0 : decide ((ji32) < (l0_0.length : Int)) = true := decide_eq_true c37
        clear c37
        replace H := Option.bind_eq_some_iff.mp H
        obtain ⟨⟨t318, t321, t322⟩, A380, H⟩ := H
        replace H : (some (t311, t314, t318, t321, t322, 0)) = some (r1, r2, r3, r4, r5, r6) := H
        have A38 := Aside0.mk A380
        clear A380
        simp only [Option.some.injEq, Prod.mk.injEq] at H
        obtain ⟨rfl, rfl, rfl, rfl, rfl, rfl⟩ := H
        try go_wp2
        replace BK302 := am (blk_drew BK302.out)
        replace BK303 := am (blk_drew BK303.out)
        replace BK304 := am (blk_drew BK304.out)
        replace HB := am (below_drew1 HB.out)
        have q40 : ((ji32) : Int) ≤ ((l0_0.length : Int) : Int) := of_decide_eq_true (by first | (with_reducible assumption) | assumption)
        obtain ⟨i040, hi040, _, hsz40, _⟩ := info_parts info31
        have hroom40 : l0_0.length ≤ c0_0 := HC0_0.out
        have hC40 : Kd.C k31 _ A0_0 l0_0.length l0_0 := HR0_0.out
        have hcut40 := cut_to (P := Try.prog) 28 31 .i64 Try.underlying28 hi040 A0_0 l0_0.length c0_0 (ji32) (of_decide_eq_true (by first | (with_reducible assumption) | assumption)) q40 hroom40
        have hr40 := Kd.C_take (m := ((ji32) : Int).toNat) hC40 (by omega)
        have hy40 : y307.length = ((ji32) : Int).toNat := (by rw [Ny307.out, List.length_take]; omega)
        rw [← Ny307.out] at hr40
        rw [← hy40] at hcut40
        have HR310 := am hr40
        have HC310 := am (show y307.length ≤ c0_0 from by omega)
        clear hr40 hC40 hroom40 hi040 hsz40
        have KY40 := am hy40
        clear hy40
        replace q40 := eq_true q40
        have p317 : 0 ≤ ((ji32) : Int) := of_decide_eq_true (by first | (with_reducible assumption) | assumption)
        have q317 : (ji32) < (l0_0.length : Int) := of_decide_eq_true (by first | (with_reducible assumption) | assumption)
        obtain ⟨ad317, A317_0, c317_0, e317, hx317_0, hx317_1, hx317_2, hl317_0, hi317_0⟩ := at_T31 HR0_0.out (ji32) p317 q317
        have hw317_2 := hx317_2
        have hw317_1 := hx317_1
        have hw317_0 := hx317_0
        cases e317
        have hxw317_0 := hx317_0
        replace hx317_0 := (HB.out.cell (World.block_lt_of_cell? w _ hx317_0)).trans hx317_0
        have hxw317_1 := hx317_1
        replace hx317_1 := (HB.out.cell (World.block_lt_of_cell? w _ hx317_1)).trans hx317_1
        have hxw317_2 := hx317_2
        replace hx317_2 := (HB.out.cell (World.block_lt_of_cell? w _ hx317_2)).trans hx317_2
        have HR317_0 := am hi317_0
        have HC317_0 := am hl317_0
        clear hi317_0 hl317_0
        replace p317 := eq_true p317
        replace q317 := eq_true q317
        refine start_ (n := 18) (S := fun w' => w'.cell? ⟨gb302, 0, none⟩ = some (.slice (some ad317) l0_0.length c0_0) ∧ w'.cell? ⟨gb302, 1, none⟩ = some (.slice A0_1 l0_1.length c0_1) ∧ w'.cell? ⟨gb303, 0, none⟩ = some (.slice A1_0 l1_0.length c1_0) ∧ w'.cell? ⟨gb303, 1, none⟩ = some (.int .i64 a1_1) ∧ w'.cell? ⟨gb303, 2, none⟩ = some (.int .i64 a1_2) ∧ w'.cell? (ad317.add (((ji32)).toNat * 3)) = some (.slice A317_0 ((rd_T31 l0_0 (ji32)).f0).length c317_0) ∧ w'.cell? ⟨(ad317.add (((ji32)).toNat * 3)).block, (ad317.add (((ji32)).toNat * 3)).off + 1, none⟩ = some (.int .i64 ((rd_T31 l0_0 (ji32)).f1)) ∧ w'.cell? ⟨(ad317.add (((ji32)).toNat * 3)).block, (ad317.add (((ji32)).toNat * 3)).off + 2, none⟩ = some (.int .i64 ((rd_T31 l0_0 (ji32)).f2))) (ds := []) #[false, false, false, false, false, false, false, false, false, false, false, false, false, false, false, false, false, false] (by kernel_rfl) rfl rfl ⟨bc BK302.out 0, bc BK302.out 1, bc BK303.out 0, bc BK303.out 1, bc BK303.out 2, ((HB.out.cell (World.block_lt_of_cell? _ _ hw317_0)).trans hw317_0), ((HB.out.cell (World.block_lt_of_cell? _ _ hw317_1)).trans hw317_1), ((HB.out.cell (World.block_lt_of_cell? _ _ hw317_2)).trans hw317_2)⟩ (fun hHeld => ?_); refine with_tabW impl_UndoBack.tab6 impl_UndoBack.bits6 (fun HT_ HW_ => ?_)
        generalize wc.drew = w39 at BK302 BK303 BK304 HB HR310 HR317_0 hx317_0 hx317_1 hx317_2 hHeld ⊢
        refine pure_ (i := 0) (N := some 24) (v := ?_) (a' := ?_) #[true, false, false, false, false, false, false, false, false, false, false, false, false, false, false, false, false, false] rfl rfl (any_of HT_.out (by kernel_rfl)) (fun _ _ _ h => h) (Or.inl ⟨by rfl, ?_⟩) ?_ ?_; rotate_left
        ·intro w'; go_simp; with_reducible rfl
        rotate_left
        ·simp only [Act.put, sa_, s0_, ss_, i64_w, i32_w]; rfl
        refine pure_ (i := 2) (N := some 26) (v := ?_) (a' := ?_) #[true, false, true, false, false, false, false, false, false, false, false, false, false, false, false, false, false, false] rfl rfl (any_of HT_.out (by kernel_rfl)) (fun _ _ _ h => h) (Or.inl ⟨by rfl, ?_⟩) ?_ ?_; rotate_left
        ·intro w'; go_simp; with_reducible rfl
        rotate_left
        ·simp only [Act.put, sa_, s0_, ss_, i64_w, i32_w]; rfl
        refine pure_ (i := 5) (N := some 29) (v := ?_) (a' := ?_) #[true, false, true, false, false, true, false, false, false, false, false, false, false, false, false, false, false, false] rfl rfl (any_of HT_.out (by kernel_rfl)) (fun _ _ _ h => h) (Or.inl ⟨by rfl, ?_⟩) ?_ ?_; rotate_left
        ·intro w'; go_simp; with_reducible rfl
        rotate_left
        ·simp only [Act.put, sa_, s0_, ss_, i64_w, i32_w]; rfl
        refine pure_ (i := 10) (N := some 34) (v := ?_) (a' := ?_) #[true, false, true, false, false, true, false, false, false, false, true, false, false, false, false, false, false, false] rfl rfl (any_of HT_.out (by kernel_rfl)) (fun _ _ _ h => h) (Or.inl ⟨by rfl, ?_⟩) ?_ ?_; rotate_left
        ·intro w'; go_simp; with_reducible rfl
        rotate_left
        ·simp only [Act.put, sa_, s0_, ss_, i64_w, i32_w]; rfl
        refine pure_ (i := 12) (N := some 36) (v := ?_) (a' := ?_) #[true, false, true, false, false, true, false, false, false, false, true, false, true, false, false, false, false, false] rfl rfl (any_of HT_.out (by kernel_rfl)) (fun _ _ _ h => h) (Or.inl ⟨by rfl, ?_⟩) ?_ ?_; rotate_left
        ·intro w'; go_simp; with_reducible rfl
        rotate_left
        ·simp only [Act.put, sa_, s0_, ss_, i64_w, i32_w]; rfl
        refine take_ (i := 1) (N := some 25) (v := ?_) (a' := ?_) #[true, true, true, false, false, true, false, false, false, false, true, false, true, false, false, false, false, false] rfl rfl (take_ofW HT_.out HW_.out (by kernel_rfl)) (fun _ _ _ h => h) (Or.inl ⟨by rfl, ?_⟩) hHeld ?_ ?_; rotate_left
        ·rintro w' ⟨s0, s1, s2, s3, s4, s5, s6, s7⟩; go_simp; with_reducible rfl
        rotate_left
        ·simp only [Act.put, sa_, s0_, ss_, i64_w, i32_w]; rfl
        refine pure_ (i := 3) (N := some 27) (v := ?_) (a' := ?_) #[true, true, true, true, false, true, false, false, false, false, true, false, true, false, false, false, false, false] rfl rfl (any_of HT_.out (by kernel_rfl)) (fun _ _ _ h => h) (Or.inl ⟨by rfl, ?_⟩) ?_ ?_; rotate_left
        ·intro w'; go_simp; with_reducible rfl
        rotate_left
        ·simp only [Act.put, sa_, s0_, ss_, i64_w, i32_w]; rfl
        refine take_ (i := 6) (N := some 30) (v := ?_) (a' := ?_) #[true, true, true, true, false, true, true, false, false, false, true, false, true, false, false, false, false, false] rfl rfl (take_ofW HT_.out HW_.out (by kernel_rfl)) (fun _ _ _ h => h) (Or.inl ⟨by rfl, ?_⟩) hHeld ?_ ?_; rotate_left
        ·rintro w' ⟨s0, s1, s2, s3, s4, s5, s6, s7⟩; go_simp; with_reducible rfl
        rotate_left
        ·simp only [Act.put, sa_, s0_, ss_, i64_w, i32_w]; rfl
        refine take_ (i := 7) (N := some 31) (v := ?_) (a' := ?_) #[true, true, true, true, false, true, true, true, false, false, true, false, true, false, false, false, false, false] rfl rfl (take_ofW HT_.out HW_.out (by kernel_rfl)) (fun _ _ _ h => h) (Or.inl ⟨by rfl, ?_⟩) hHeld ?_ ?_; rotate_left
        ·rintro w' ⟨s0, s1, s2, s3, s4, s5, s6, s7⟩; go_simp; with_reducible rfl
        rotate_left
        ·simp only [Act.put, sa_, s0_, ss_, i64_w, i32_w]; rfl
        refine take_ (i := 11) (N := some 35) (v := ?_) (a' := ?_) #[true, true, true, true, false, true, true, true, false, false, true, true, true, false, false, false, false, false] rfl rfl (take_ofW HT_.out HW_.out (by kernel_rfl)) (fun _ _ _ h => h) (Or.inl ⟨by rfl, ?_⟩) hHeld ?_ ?_; rotate_left
        ·rintro w' ⟨s0, s1, s2, s3, s4, s5, s6, s7⟩; go_simp; with_reducible rfl
        rotate_left
        ·simp only [Act.put, sa_, s0_, ss_, i64_w, i32_w]; rfl
        refine pure_ (i := 13) (N := some 37) (v := ?_) (a' := ?_) #[true, true, true, true, false, true, true, true, false, false, true, true, true, true, false, false, false, false] rfl rfl (any_of HT_.out (by kernel_rfl)) (fun _ _ _ h => h) (Or.inl ⟨by rfl, ?_⟩) ?_ ?_; rotate_left
        ·intro w'; go_simp; with_reducible rfl
        rotate_left
        ·simp only [Act.put, sa_, s0_, ss_, i64_w, i32_w]; rfl
        refine take_ (i := 14) (N := some 38) (v := ?_) (a' := ?_) #[true, true, true, true, false, true, true, true, false, false, true, true, true, true, true, false, false, false] rfl rfl (take_ofW HT_.out HW_.out (by kernel_rfl)) (fun _ _ _ h => h) (Or.inl ⟨by rfl, ?_⟩) hHeld ?_ ?_; rotate_left
        ·rintro w' ⟨s0, s1, s2, s3, s4, s5, s6, s7⟩; go_simp; with_reducible rfl
        rotate_left
        ·simp only [Act.put, sa_, s0_, ss_, i64_w, i32_w]; rfl
        refine one_ (i := 4) (N := some 28) #[true, true, true, true, true, true, true, true, false, false, true, true, true, true, true, false, false, false] rfl rfl (one_of HT_.out (by kernel_rfl)) (by decide) (fun K hK => ?_)
        refine gs_ Try.func67 #[.slice (some ad317) y307.length c0_0] ?_
        with_reducible refine (impl_ownBufs.calls kj2 _ _ y307 t311 _ ?side1 ?side2 A35.out).mono ?_
        (case side1 => repeat (first | exact (Kd.C_below HR310.out HB.out) | (with_reducible refine Kd.C_alloc ?_ _) | (with_reducible refine Kd.C_drewN ?_ _) | (with_reducible refine Kd.C_drew ?_)))
        (case side2 => exact HC310.out)
        rintro e w41 ⟨v312, rfl, ho0, hb⟩
        refine ⟨_, rfl, ?_⟩
        have HO313 := am (Kd.S_lower (Kd.S_newB ho0 (g := gb303) (o := .cells #[.slice A1_0 l1_0.length c1_0, .int .i64 a1_1, .int .i64 a1_2] 31 (0, 0)) (pk BK303.out)) (below_size (bl HB.out)))
        replace BK302 := am (blk_below (pk BK302.out) hb)
        replace BK303 := am (blk_below (pk BK303.out) hb)
        replace BK304 := am (blk_below (pk BK304.out) hb)
        replace HB := am (below_step (bl HB.out) hb)
        (try clear hb)
        (try clear hb2)
        (try clear hk)
        (try clear hi)
        (try clear ho0)
        refine hK.out _ _ ⟨bc BK302.out 0, bc BK302.out 1, bc BK303.out 0, bc BK303.out 1, bc BK303.out 2, ((HB.out.cell (World.block_lt_of_cell? _ _ hw317_0)).trans hw317_0), ((HB.out.cell (World.block_lt_of_cell? _ _ hw317_1)).trans hw317_1), ((HB.out.cell (World.block_lt_of_cell? _ _ hw317_2)).trans hw317_2)⟩ (fun hHeld => ?_)
        clear hK K
        refine norm_ (a' := ?_) ?_ ?_
        rotate_left
        ·show Act.put _ (some 28) _ = _
         simp only [Act.put, sa_, s0_, ss_, i64_w, i32_w]
         rfl
        refine one_ (i := 8) (N := some 32) #[true, true, true, true, true, true, true, true, true, false, true, true, true, true, true, false, false, false] rfl rfl (one_of HT_.out (by kernel_rfl)) (by decide) (fun K hK => ?_)
        refine gs_ Try.func53 #[.slice A0_1 l0_1.length c0_1, .agg #[.slice A1_0 l1_0.length c1_0, .int .i64 a1_1, .int .i64 a1_2]] ?_
        with_reducible refine (impl_behindBufs.calls kj2 _ _ l0_1 _ _ l1_0 a1_1 a1_2 t314 _ ?side1 ?side2 ?side3 ?side4 A36.out).mono ?_
        (case side1 => repeat (first | exact (Kd.C_below HR0_1.out HB.out) | (with_reducible refine Kd.C_alloc ?_ _) | (with_reducible refine Kd.C_drewN ?_ _) | (with_reducible refine Kd.C_drew ?_)))
        (case side2 => exact HC0_1.out)
        (case side3 => repeat (first | exact (Kd.C_below HR1_0.out HB.out) | (with_reducible refine Kd.C_alloc ?_ _) | (with_reducible refine Kd.C_drewN ?_ _) | (with_reducible refine Kd.C_drew ?_)))
        (case side4 => exact HC1_0.out)
        rintro e w42 ⟨v315, rfl, ho0, hb⟩
        obtain ⟨m1_, mb1_, ha1_, hz1_, hc1_⟩ := nxt_ hb
        have hw1_ : w.heap.size ≤ m1_ := (by rw [ha1_]; exact below_size (bl HB.out))
        refine ⟨_, rfl, ?_⟩
        have HO316 := am (Kd.T_mono (ok' := fun k_ => m1_ ≤ k_) (Kd.T_lower (Kd.T_newB (Kd.T_new' (Kd.T_bound ho0) (Kd.S_lt (ks HO313.out))) (g := gb303) (o := .cells #[.slice A1_0 l1_0.length c1_0, .int .i64 a1_1, .int .i64 a1_2] 31 (0, 0)) (pk BK303.out)) (below_size (bl HB.out))) (fun _ hk => by rw [ha1_]; exact hk.1.1.2.1))
        replace HO313 := am (Kd.S_mono (ok' := fun k_ => k_ < m1_) (Kd.S_elder' (Kd.S_bound (ks HO313.out)) (Kd.T_base ho0) hb) (fun _ hk => by rw [ha1_]; exact hk.1.2.2.1))
        replace BK302 := am (blk_below (pk BK302.out) hb)
        replace BK303 := am (blk_below (pk BK303.out) hb)
        replace BK304 := am (blk_below (pk BK304.out) hb)
        replace HB := am (below_step (bl HB.out) hb)
        (try clear hb)
        (try clear hb2)
        (try clear hk)
        (try clear hi)
        (try clear ho0)
        obtain ⟨Ao43, co43, eo43, _⟩ := Kd.T_slice HO316.out
        (first | subst eo43 | (injection eo43 with f1_ f2_ f3_; have f4_ := f1_.symm; have f5_ := f3_.symm; clear f1_ f2_ f3_; subst f4_; subst f5_))
        obtain ⟨Ao44, co44, eo44⟩ := Kd.S_slice HO313.out
        (first | subst eo44 | (injection eo44 with f1_ f2_ f3_; have f4_ := f1_.symm; have f5_ := f3_.symm; clear f1_ f2_ f3_; subst f4_; subst f5_))
        refine hK.out _ _ ⟨bc BK302.out 0, bc BK302.out 1, bc BK303.out 0, bc BK303.out 1, bc BK303.out 2, ((HB.out.cell (World.block_lt_of_cell? _ _ hw317_0)).trans hw317_0), ((HB.out.cell (World.block_lt_of_cell? _ _ hw317_1)).trans hw317_1), ((HB.out.cell (World.block_lt_of_cell? _ _ hw317_2)).trans hw317_2)⟩ (fun hHeld => ?_)
        clear hK K
        refine norm_ (a' := ?_) ?_ ?_
        rotate_left
        ·show Act.put _ (some 32) _ = _
         simp only [Act.put, sa_, s0_, ss_, i64_w, i32_w]
         rfl
        refine pure_ (i := 9) (N := some 33) (v := ?_) (a' := ?_) #[true, true, true, true, true, true, true, true, true, true, true, true, true, true, true, false, false, false] rfl rfl (any_of HT_.out (by kernel_rfl)) (fun _ _ _ h => h) (Or.inl ⟨by rfl, ?_⟩) ?_ ?_; rotate_left
        ·intro w'; go_simp; with_reducible rfl
        rotate_left
        ·simp only [Act.put, sa_, s0_, ss_, i64_w, i32_w]; rfl
        refine one_ (i := 15) (N := some 39) #[true, true, true, true, true, true, true, true, true, true, true, true, true, true, true, true, false, false] rfl rfl (one_of HT_.out (by kernel_rfl)) (by decide) (fun K hK => ?_)
        refine goes_ Try.func40 (by kernel_rfl) rfl #[.agg #[.slice A317_0 ((rd_T31 l0_0 (ji32)).f0).length c317_0, .int .i64 ((rd_T31 l0_0 (ji32)).f1), .int .i64 ((rd_T31 l0_0 (ji32)).f2)]] (by rfl) rfl rfl (by (try simp only [List.map_toArray, List.map_cons, List.map_nil]); first | done | (simp only [hji32]; rfl) | rfl | (simp only [List.length_drop, List.length_take]; rfl)) ?_
        with_reducible refine (impl_ownBuf.calls _ _ ((rd_T31 l0_0 (ji32)).f0) ((rd_T31 l0_0 (ji32)).f1) ((rd_T31 l0_0 (ji32)).f2) t318 t321 t322 _ ?side1 ?side2 A38.out).mono ?_
        (case side1 => repeat (first | exact (Kd.C_below HR317_0.out HB.out) | (with_reducible refine Kd.C_alloc ?_ _) | (with_reducible refine Kd.C_drewN ?_ _) | (with_reducible refine Kd.C_drew ?_)))
        (case side2 => exact HC317_0.out)
        rintro e w45 ⟨v319, rfl, ho0, hb⟩
        obtain ⟨m2_, mb2_, ha2_, hz2_, hc2_⟩ := nxt_ hb
        refine ⟨_, rfl, ?_⟩
        replace HO313 := am (Kd.S_mono (ok' := fun k_ => k_ < m1_) (Kd.S_elder' (ks HO313.out) (Kd.R_base ho0) hb) (fun _ hk => hk.1))
        replace HO316 := am (Kd.T_mono (ok' := fun k_ => m1_ ≤ k_ ∧ k_ < m2_) (Kd.T_elder' (Kd.T_bound (by (with_reducible repeat (first | apply Kd.T_alloc | apply Kd.T_drewN | apply Kd.T_drew)); exact HO316.out)) (Kd.R_base ho0) hb) (fun _ hk => ⟨hk.1.1, by rw [ha2_]; exact hk.1.2.2.1⟩))
        have HO320 := am (Kd.R_mono (ok' := fun k_ => m2_ ≤ k_) (Kd.R_lower (Kd.R_bound ho0) (below_size (bl HB.out))) (fun _ hk => by rw [ha2_]; exact hk.2.1))
        replace BK302 := am (blk_below (pk BK302.out) hb)
        replace BK303 := am (blk_below (pk BK303.out) hb)
        replace BK304 := am (blk_below (pk BK304.out) hb)
        replace HB := am (below_step (bl HB.out) hb)
        (try clear hb)
        (try clear hb2)
        (try clear hk)
        (try clear hi)
        (try clear ho0)
        obtain ⟨Ao46, co46, eo46⟩ := Kd.R_slice HO320.out
        (first | subst eo46 | (injection eo46 with f1_ f2_ f3_; have f4_ := f1_.symm; have f5_ := f3_.symm; clear f1_ f2_ f3_; subst f4_; subst f5_))
        refine hK.out _ _ ⟨bc BK302.out 0, bc BK302.out 1, bc BK303.out 0, bc BK303.out 1, bc BK303.out 2, ((HB.out.cell (World.block_lt_of_cell? _ _ hw317_0)).trans hw317_0), ((HB.out.cell (World.block_lt_of_cell? _ _ hw317_1)).trans hw317_1), ((HB.out.cell (World.block_lt_of_cell? _ _ hw317_2)).trans hw317_2)⟩ (fun hHeld => ?_)
        clear hK K
        refine norm_ (a' := ?_) ?_ ?_
        rotate_left
        ·show Act.put _ (some 39) _ = _
         simp only [Act.put, sa_, s0_, ss_, i64_w, i32_w]
         rfl
        refine pure_ (i := 16) (N := some 40) (v := ?_) (a' := ?_) #[true, true, true, true, true, true, true, true, true, true, true, true, true, true, true, true, true, false] rfl rfl (any_of HT_.out (by kernel_rfl)) (fun _ _ _ h => h) (Or.inl ⟨by rfl, ?_⟩) ?_ ?_; rotate_left
        ·intro w'; go_simp; with_reducible rfl
        rotate_left
        ·simp only [Act.put, sa_, s0_, ss_, i64_w, i32_w]; rfl
        refine one_ (i := 17) (N := none) #[true, true, true, true, true, true, true, true, true, true, true, true, true, true, true, true, true, true] rfl rfl (one_of HT_.out (by kernel_rfl)) (by decide) (fun K hK => ?_)
        have hs47 : w45.cell? ⟨gb304, 0, none⟩ = some (.slice none 0 0) := bc BK304.out 0
        have hfs47 := blk_frozen BK304.out 0
        have hns47_0 := NB302_304.out
        have hns47_1 := NB303_304.out
        have hms47_0 := NB304_302.out
        have hms47_1 := NB304_303.out
        have hs48 : w45.cell? ⟨gb304, 1, none⟩ = some (.slice none 0 0) := bc BK304.out 1
        have hfs48 := blk_frozen BK304.out 1
        have hs49 : w45.cell? ⟨gb304, 2, none⟩ = some (.slice none 0 0) := bc BK304.out 2
        have hfs49 := blk_frozen BK304.out 2
        have hs50 : w45.cell? ⟨gb304, 3, none⟩ = some (.int .i64 0) := bc BK304.out 3
        have hfs50 := blk_frozen BK304.out 3
        have hs51 : w45.cell? ⟨gb304, 4, none⟩ = some (.int .i64 0) := bc BK304.out 4
        have hfs51 := blk_frozen BK304.out 4
        have hs52 : w45.cell? ⟨gb304, 5, none⟩ = some (.int .i64 0) := bc BK304.out 5
        have hfs52 := blk_frozen BK304.out 5
        refine skip_ (w1 := ?_) (by rfl) rfl ?_ ?_
        rotate_left
        ·go_simp
         rfl
        refine hK.out _ _ ⟨((cell_far (p := ⟨gb304, _, none⟩) NB302_304.out _).trans (((cell_far (p := ⟨gb304, _, none⟩) NB302_304.out _).trans (((cell_far (p := ⟨gb304, _, none⟩) NB302_304.out _).trans (((cell_far (p := ⟨gb304, _, none⟩) NB302_304.out _).trans (((cell_far (p := ⟨gb304, _, none⟩) NB302_304.out _).trans (((cell_far (p := ⟨gb304, _, none⟩) NB302_304.out _).trans (hHeld.1)))))))))))), ((cell_far (p := ⟨gb304, _, none⟩) NB302_304.out _).trans (((cell_far (p := ⟨gb304, _, none⟩) NB302_304.out _).trans (((cell_far (p := ⟨gb304, _, none⟩) NB302_304.out _).trans (((cell_far (p := ⟨gb304, _, none⟩) NB302_304.out _).trans (((cell_far (p := ⟨gb304, _, none⟩) NB302_304.out _).trans (((cell_far (p := ⟨gb304, _, none⟩) NB302_304.out _).trans (hHeld.2.1)))))))))))), ((cell_far (p := ⟨gb304, _, none⟩) NB303_304.out _).trans (((cell_far (p := ⟨gb304, _, none⟩) NB303_304.out _).trans (((cell_far (p := ⟨gb304, _, none⟩) NB303_304.out _).trans (((cell_far (p := ⟨gb304, _, none⟩) NB303_304.out _).trans (((cell_far (p := ⟨gb304, _, none⟩) NB303_304.out _).trans (((cell_far (p := ⟨gb304, _, none⟩) NB303_304.out _).trans (hHeld.2.2.1)))))))))))), ((cell_far (p := ⟨gb304, _, none⟩) NB303_304.out _).trans (((cell_far (p := ⟨gb304, _, none⟩) NB303_304.out _).trans (((cell_far (p := ⟨gb304, _, none⟩) NB303_304.out _).trans (((cell_far (p := ⟨gb304, _, none⟩) NB303_304.out _).trans (((cell_far (p := ⟨gb304, _, none⟩) NB303_304.out _).trans (((cell_far (p := ⟨gb304, _, none⟩) NB303_304.out _).trans (hHeld.2.2.2.1)))))))))))), ((cell_far (p := ⟨gb304, _, none⟩) NB303_304.out _).trans (((cell_far (p := ⟨gb304, _, none⟩) NB303_304.out _).trans (((cell_far (p := ⟨gb304, _, none⟩) NB303_304.out _).trans (((cell_far (p := ⟨gb304, _, none⟩) NB303_304.out _).trans (((cell_far (p := ⟨gb304, _, none⟩) NB303_304.out _).trans (((cell_far (p := ⟨gb304, _, none⟩) NB303_304.out _).trans (hHeld.2.2.2.2.1)))))))))))), ((cell_far (p := ⟨gb304, _, none⟩) (by first | exact Nat.ne_of_lt (Nat.lt_of_lt_of_le (by have := World.block_lt_of_cell? _ _ hw317_0; first | rwa [add_block] at this | exact this) GW304.out) | (rw [add_block]; exact Nat.ne_of_lt (Nat.lt_of_lt_of_le (by have := World.block_lt_of_cell? _ _ hw317_0; first | rwa [add_block] at this | exact this) GW304.out)) | (show (Addr.add _ _).block ≠ _; rw [add_block]; exact Nat.ne_of_lt (Nat.lt_of_lt_of_le (by have := World.block_lt_of_cell? _ _ hw317_0; first | rwa [add_block] at this | exact this) GW304.out)) | (dsimp only; exact Nat.ne_of_lt (Nat.lt_of_lt_of_le (by have := World.block_lt_of_cell? _ _ hw317_0; first | rwa [add_block] at this | exact this) GW304.out))) _).trans (((cell_far (p := ⟨gb304, _, none⟩) (by first | exact Nat.ne_of_lt (Nat.lt_of_lt_of_le (by have := World.block_lt_of_cell? _ _ hw317_0; first | rwa [add_block] at this | exact this) GW304.out) | (rw [add_block]; exact Nat.ne_of_lt (Nat.lt_of_lt_of_le (by have := World.block_lt_of_cell? _ _ hw317_0; first | rwa [add_block] at this | exact this) GW304.out)) | (show (Addr.add _ _).block ≠ _; rw [add_block]; exact Nat.ne_of_lt (Nat.lt_of_lt_of_le (by have := World.block_lt_of_cell? _ _ hw317_0; first | rwa [add_block] at this | exact this) GW304.out)) | (dsimp only; exact Nat.ne_of_lt (Nat.lt_of_lt_of_le (by have := World.block_lt_of_cell? _ _ hw317_0; first | rwa [add_block] at this | exact this) GW304.out))) _).trans (((cell_far (p := ⟨gb304, _, none⟩) (by first | exact Nat.ne_of_lt (Nat.lt_of_lt_of_le (by have := World.block_lt_of_cell? _ _ hw317_0; first | rwa [add_block] at this | exact this) GW304.out) | (rw [add_block]; exact Nat.ne_of_lt (Nat.lt_of_lt_of_le (by have := World.block_lt_of_cell? _ _ hw317_0; first | rwa [add_block] at this | exact this) GW304.out)) | (show (Addr.add _ _).block ≠ _; rw [add_block]; exact Nat.ne_of_lt (Nat.lt_of_lt_of_le (by have := World.block_lt_of_cell? _ _ hw317_0; first | rwa [add_block] at this | exact this) GW304.out)) | (dsimp only; exact Nat.ne_of_lt (Nat.lt_of_lt_of_le (by have := World.block_lt_of_cell? _ _ hw317_0; first | rwa [add_block] at this | exact this) GW304.out))) _).trans (((cell_far (p := ⟨gb304, _, none⟩) (by first | exact Nat.ne_of_lt (Nat.lt_of_lt_of_le (by have := World.block_lt_of_cell? _ _ hw317_0; first | rwa [add_block] at this | exact this) GW304.out) | (rw [add_block]; exact Nat.ne_of_lt (Nat.lt_of_lt_of_le (by have := World.block_lt_of_cell? _ _ hw317_0; first | rwa [add_block] at this | exact this) GW304.out)) | (show (Addr.add _ _).block ≠ _; rw [add_block]; exact Nat.ne_of_lt (Nat.lt_of_lt_of_le (by have := World.block_lt_of_cell? _ _ hw317_0; first | rwa [add_block] at this | exact this) GW304.out)) | (dsimp only; exact Nat.ne_of_lt (Nat.lt_of_lt_of_le (by have := World.block_lt_of_cell? _ _ hw317_0; first | rwa [add_block] at this | exact this) GW304.out))) _).trans (((cell_far (p := ⟨gb304, _, none⟩) (by first | exact Nat.ne_of_lt (Nat.lt_of_lt_of_le (by have := World.block_lt_of_cell? _ _ hw317_0; first | rwa [add_block] at this | exact this) GW304.out) | (rw [add_block]; exact Nat.ne_of_lt (Nat.lt_of_lt_of_le (by have := World.block_lt_of_cell? _ _ hw317_0; first | rwa [add_block] at this | exact this) GW304.out)) | (show (Addr.add _ _).block ≠ _; rw [add_block]; exact Nat.ne_of_lt (Nat.lt_of_lt_of_le (by have := World.block_lt_of_cell? _ _ hw317_0; first | rwa [add_block] at this | exact this) GW304.out)) | (dsimp only; exact Nat.ne_of_lt (Nat.lt_of_lt_of_le (by have := World.block_lt_of_cell? _ _ hw317_0; first | rwa [add_block] at this | exact this) GW304.out))) _).trans (((cell_far (p := ⟨gb304, _, none⟩) (by first | exact Nat.ne_of_lt (Nat.lt_of_lt_of_le (by have := World.block_lt_of_cell? _ _ hw317_0; first | rwa [add_block] at this | exact this) GW304.out) | (rw [add_block]; exact Nat.ne_of_lt (Nat.lt_of_lt_of_le (by have := World.block_lt_of_cell? _ _ hw317_0; first | rwa [add_block] at this | exact this) GW304.out)) | (show (Addr.add _ _).block ≠ _; rw [add_block]; exact Nat.ne_of_lt (Nat.lt_of_lt_of_le (by have := World.block_lt_of_cell? _ _ hw317_0; first | rwa [add_block] at this | exact this) GW304.out)) | (dsimp only; exact Nat.ne_of_lt (Nat.lt_of_lt_of_le (by have := World.block_lt_of_cell? _ _ hw317_0; first | rwa [add_block] at this | exact this) GW304.out))) _).trans (hHeld.2.2.2.2.2.1)))))))))))), ((cell_far (p := ⟨gb304, _, none⟩) (by first | exact Nat.ne_of_lt (Nat.lt_of_lt_of_le (by have := World.block_lt_of_cell? _ _ hw317_1; first | rwa [add_block] at this | exact this) GW304.out) | (rw [add_block]; exact Nat.ne_of_lt (Nat.lt_of_lt_of_le (by have := World.block_lt_of_cell? _ _ hw317_1; first | rwa [add_block] at this | exact this) GW304.out)) | (show (Addr.add _ _).block ≠ _; rw [add_block]; exact Nat.ne_of_lt (Nat.lt_of_lt_of_le (by have := World.block_lt_of_cell? _ _ hw317_1; first | rwa [add_block] at this | exact this) GW304.out)) | (dsimp only; exact Nat.ne_of_lt (Nat.lt_of_lt_of_le (by have := World.block_lt_of_cell? _ _ hw317_1; first | rwa [add_block] at this | exact this) GW304.out))) _).trans (((cell_far (p := ⟨gb304, _, none⟩) (by first | exact Nat.ne_of_lt (Nat.lt_of_lt_of_le (by have := World.block_lt_of_cell? _ _ hw317_1; first | rwa [add_block] at this | exact this) GW304.out) | (rw [add_block]; exact Nat.ne_of_lt (Nat.lt_of_lt_of_le (by have := World.block_lt_of_cell? _ _ hw317_1; first | rwa [add_block] at this | exact this) GW304.out)) | (show (Addr.add _ _).block ≠ _; rw [add_block]; exact Nat.ne_of_lt (Nat.lt_of_lt_of_le (by have := World.block_lt_of_cell? _ _ hw317_1; first | rwa [add_block] at this | exact this) GW304.out)) | (dsimp only; exact Nat.ne_of_lt (Nat.lt_of_lt_of_le (by have := World.block_lt_of_cell? _ _ hw317_1; first | rwa [add_block] at this | exact this) GW304.out))) _).trans (((cell_far (p := ⟨gb304, _, none⟩) (by first | exact Nat.ne_of_lt (Nat.lt_of_lt_of_le (by have := World.block_lt_of_cell? _ _ hw317_1; first | rwa [add_block] at this | exact this) GW304.out) | (rw [add_block]; exact Nat.ne_of_lt (Nat.lt_of_lt_of_le (by have := World.block_lt_of_cell? _ _ hw317_1; first | rwa [add_block] at this | exact this) GW304.out)) | (show (Addr.add _ _).block ≠ _; rw [add_block]; exact Nat.ne_of_lt (Nat.lt_of_lt_of_le (by have := World.block_lt_of_cell? _ _ hw317_1; first | rwa [add_block] at this | exact this) GW304.out)) | (dsimp only; exact Nat.ne_of_lt (Nat.lt_of_lt_of_le (by have := World.block_lt_of_cell? _ _ hw317_1; first | rwa [add_block] at this | exact this) GW304.out))) _).trans (((cell_far (p := ⟨gb304, _, none⟩) (by first | exact Nat.ne_of_lt (Nat.lt_of_lt_of_le (by have := World.block_lt_of_cell? _ _ hw317_1; first | rwa [add_block] at this | exact this) GW304.out) | (rw [add_block]; exact Nat.ne_of_lt (Nat.lt_of_lt_of_le (by have := World.block_lt_of_cell? _ _ hw317_1; first | rwa [add_block] at this | exact this) GW304.out)) | (show (Addr.add _ _).block ≠ _; rw [add_block]; exact Nat.ne_of_lt (Nat.lt_of_lt_of_le (by have := World.block_lt_of_cell? _ _ hw317_1; first | rwa [add_block] at this | exact this) GW304.out)) | (dsimp only; exact Nat.ne_of_lt (Nat.lt_of_lt_of_le (by have := World.block_lt_of_cell? _ _ hw317_1; first | rwa [add_block] at this | exact this) GW304.out))) _).trans (((cell_far (p := ⟨gb304, _, none⟩) (by first | exact Nat.ne_of_lt (Nat.lt_of_lt_of_le (by have := World.block_lt_of_cell? _ _ hw317_1; first | rwa [add_block] at this | exact this) GW304.out) | (rw [add_block]; exact Nat.ne_of_lt (Nat.lt_of_lt_of_le (by have := World.block_lt_of_cell? _ _ hw317_1; first | rwa [add_block] at this | exact this) GW304.out)) | (show (Addr.add _ _).block ≠ _; rw [add_block]; exact Nat.ne_of_lt (Nat.lt_of_lt_of_le (by have := World.block_lt_of_cell? _ _ hw317_1; first | rwa [add_block] at this | exact this) GW304.out)) | (dsimp only; exact Nat.ne_of_lt (Nat.lt_of_lt_of_le (by have := World.block_lt_of_cell? _ _ hw317_1; first | rwa [add_block] at this | exact this) GW304.out))) _).trans (((cell_far (p := ⟨gb304, _, none⟩) (by first | exact Nat.ne_of_lt (Nat.lt_of_lt_of_le (by have := World.block_lt_of_cell? _ _ hw317_1; first | rwa [add_block] at this | exact this) GW304.out) | (rw [add_block]; exact Nat.ne_of_lt (Nat.lt_of_lt_of_le (by have := World.block_lt_of_cell? _ _ hw317_1; first | rwa [add_block] at this | exact this) GW304.out)) | (show (Addr.add _ _).block ≠ _; rw [add_block]; exact Nat.ne_of_lt (Nat.lt_of_lt_of_le (by have := World.block_lt_of_cell? _ _ hw317_1; first | rwa [add_block] at this | exact this) GW304.out)) | (dsimp only; exact Nat.ne_of_lt (Nat.lt_of_lt_of_le (by have := World.block_lt_of_cell? _ _ hw317_1; first | rwa [add_block] at this | exact this) GW304.out))) _).trans (hHeld.2.2.2.2.2.2.1)))))))))))), ((cell_far (p := ⟨gb304, _, none⟩) (by first | exact Nat.ne_of_lt (Nat.lt_of_lt_of_le (by have := World.block_lt_of_cell? _ _ hw317_2; first | rwa [add_block] at this | exact this) GW304.out) | (rw [add_block]; exact Nat.ne_of_lt (Nat.lt_of_lt_of_le (by have := World.block_lt_of_cell? _ _ hw317_2; first | rwa [add_block] at this | exact this) GW304.out)) | (show (Addr.add _ _).block ≠ _; rw [add_block]; exact Nat.ne_of_lt (Nat.lt_of_lt_of_le (by have := World.block_lt_of_cell? _ _ hw317_2; first | rwa [add_block] at this | exact this) GW304.out)) | (dsimp only; exact Nat.ne_of_lt (Nat.lt_of_lt_of_le (by have := World.block_lt_of_cell? _ _ hw317_2; first | rwa [add_block] at this | exact this) GW304.out))) _).trans (((cell_far (p := ⟨gb304, _, none⟩) (by first | exact Nat.ne_of_lt (Nat.lt_of_lt_of_le (by have := World.block_lt_of_cell? _ _ hw317_2; first | rwa [add_block] at this | exact this) GW304.out) | (rw [add_block]; exact Nat.ne_of_lt (Nat.lt_of_lt_of_le (by have := World.block_lt_of_cell? _ _ hw317_2; first | rwa [add_block] at this | exact this) GW304.out)) | (show (Addr.add _ _).block ≠ _; rw [add_block]; exact Nat.ne_of_lt (Nat.lt_of_lt_of_le (by have := World.block_lt_of_cell? _ _ hw317_2; first | rwa [add_block] at this | exact this) GW304.out)) | (dsimp only; exact Nat.ne_of_lt (Nat.lt_of_lt_of_le (by have := World.block_lt_of_cell? _ _ hw317_2; first | rwa [add_block] at this | exact this) GW304.out))) _).trans (((cell_far (p := ⟨gb304, _, none⟩) (by first | exact Nat.ne_of_lt (Nat.lt_of_lt_of_le (by have := World.block_lt_of_cell? _ _ hw317_2; first | rwa [add_block] at this | exact this) GW304.out) | (rw [add_block]; exact Nat.ne_of_lt (Nat.lt_of_lt_of_le (by have := World.block_lt_of_cell? _ _ hw317_2; first | rwa [add_block] at this | exact this) GW304.out)) | (show (Addr.add _ _).block ≠ _; rw [add_block]; exact Nat.ne_of_lt (Nat.lt_of_lt_of_le (by have := World.block_lt_of_cell? _ _ hw317_2; first | rwa [add_block] at this | exact this) GW304.out)) | (dsimp only; exact Nat.ne_of_lt (Nat.lt_of_lt_of_le (by have := World.block_lt_of_cell? _ _ hw317_2; first | rwa [add_block] at this | exact this) GW304.out))) _).trans (((cell_far (p := ⟨gb304, _, none⟩) (by first | exact Nat.ne_of_lt (Nat.lt_of_lt_of_le (by have := World.block_lt_of_cell? _ _ hw317_2; first | rwa [add_block] at this | exact this) GW304.out) | (rw [add_block]; exact Nat.ne_of_lt (Nat.lt_of_lt_of_le (by have := World.block_lt_of_cell? _ _ hw317_2; first | rwa [add_block] at this | exact this) GW304.out)) | (show (Addr.add _ _).block ≠ _; rw [add_block]; exact Nat.ne_of_lt (Nat.lt_of_lt_of_le (by have := World.block_lt_of_cell? _ _ hw317_2; first | rwa [add_block] at this | exact this) GW304.out)) | (dsimp only; exact Nat.ne_of_lt (Nat.lt_of_lt_of_le (by have := World.block_lt_of_cell? _ _ hw317_2; first | rwa [add_block] at this | exact this) GW304.out))) _).trans (((cell_far (p := ⟨gb304, _, none⟩) (by first | exact Nat.ne_of_lt (Nat.lt_of_lt_of_le (by have := World.block_lt_of_cell? _ _ hw317_2; first | rwa [add_block] at this | exact this) GW304.out) | (rw [add_block]; exact Nat.ne_of_lt (Nat.lt_of_lt_of_le (by have := World.block_lt_of_cell? _ _ hw317_2; first | rwa [add_block] at this | exact this) GW304.out)) | (show (Addr.add _ _).block ≠ _; rw [add_block]; exact Nat.ne_of_lt (Nat.lt_of_lt_of_le (by have := World.block_lt_of_cell? _ _ hw317_2; first | rwa [add_block] at this | exact this) GW304.out)) | (dsimp only; exact Nat.ne_of_lt (Nat.lt_of_lt_of_le (by have := World.block_lt_of_cell? _ _ hw317_2; first | rwa [add_block] at this | exact this) GW304.out))) _).trans (((cell_far (p := ⟨gb304, _, none⟩) (by first | exact Nat.ne_of_lt (Nat.lt_of_lt_of_le (by have := World.block_lt_of_cell? _ _ hw317_2; first | rwa [add_block] at this | exact this) GW304.out) | (rw [add_block]; exact Nat.ne_of_lt (Nat.lt_of_lt_of_le (by have := World.block_lt_of_cell? _ _ hw317_2; first | rwa [add_block] at this | exact this) GW304.out)) | (show (Addr.add _ _).block ≠ _; rw [add_block]; exact Nat.ne_of_lt (Nat.lt_of_lt_of_le (by have := World.block_lt_of_cell? _ _ hw317_2; first | rwa [add_block] at this | exact this) GW304.out)) | (dsimp only; exact Nat.ne_of_lt (Nat.lt_of_lt_of_le (by have := World.block_lt_of_cell? _ _ hw317_2; first | rwa [add_block] at this | exact this) GW304.out))) _).trans (hHeld.2.2.2.2.2.2.2))))))))))))⟩ (fun hHeld => ?_)
        clear hK K
        refine done_ (done_of HT_.out (by kernel_rfl)) ?_
        try go_wp2
        refine bodyPost_ret (results_cell_row rfl _ _ gb304 33 #[.slice Ao44 t311.length co44, .slice Ao43 t314.length co43, .slice Ao46 t318.length co46, .int .i64 t321, .int .i64 t322, .int .i64 0] (0, 0) _ rfl (by refine pk ?_; refine blk_put (cs := #[.slice Ao44 t311.length co44, .slice Ao43 t314.length co43, .slice Ao46 t318.length co46, .int .i64 t321, .int .i64 t322, .int .i64 0]) ?_ 5 _ rfl; refine pk ?_; refine blk_put (cs := #[.slice Ao44 t311.length co44, .slice Ao43 t314.length co43, .slice Ao46 t318.length co46, .int .i64 t321, .int .i64 0, .int .i64 0]) ?_ 4 _ rfl; refine pk ?_; refine blk_put (cs := #[.slice Ao44 t311.length co44, .slice Ao43 t314.length co43, .slice Ao46 t318.length co46, .int .i64 0, .int .i64 0, .int .i64 0]) ?_ 3 _ rfl; refine pk ?_; refine blk_put (cs := #[.slice Ao44 t311.length co44, .slice Ao43 t314.length co43, .slice none 0 0, .int .i64 0, .int .i64 0, .int .i64 0]) ?_ 2 _ rfl; refine pk ?_; refine blk_put (cs := #[.slice Ao44 t311.length co44, .slice none 0 0, .slice none 0 0, .int .i64 0, .int .i64 0, .int .i64 0]) ?_ 1 _ rfl; refine pk ?_; refine blk_put (cs := #[.slice none 0 0, .slice none 0 0, .slice none 0 0, .int .i64 0, .int .i64 0, .int .i64 0]) ?_ 0 _ rfl; refine pk ?_; exact BK304.out) Try.underlying33 rfl (by kernel_rfl)) rfl ?_
        exact ⟨m1_, m2_, ⟨hw1_, (by omega), (by (try simp only [World.size_setCell]); omega)⟩, _, _, _, by first | rfl | (simp [errW_none, errW_some] <;> rfl) | (simp only [← hji32]; first | rfl | (simp [errW_none, errW_some] <;> rfl)) | (simp [*, errW_none, errW_some] <;> rfl), ks (Kd.S_mono (Kd.S_far (p := ⟨gb304, 5, none⟩) (Kd.S_far (p := ⟨gb304, 4, none⟩) (Kd.S_far (p := ⟨gb304, 3, none⟩) (Kd.S_far (p := ⟨gb304, 2, none⟩) (Kd.S_far (p := ⟨gb304, 1, none⟩) (Kd.S_far (p := ⟨gb304, 0, none⟩) (Kd.S_types HO313.out BK304.out (by decide)) (fun _ hk => hk.2) (.slice Ao44 t311.length co44)) (fun _ hk => hk.2) (.slice Ao43 t314.length co43)) (fun _ hk => hk.2) (.slice Ao46 t318.length co46)) (fun _ hk => hk.2) (.int .i64 t321)) (fun _ hk => hk.2) (.int .i64 t322)) (fun _ hk => hk.2) (.int .i64 0)) (fun _ hk => hk.1)), by (with_reducible repeat (first | apply Kd.T_alloc | apply Kd.T_drewN | apply Kd.T_drew)); exact Kd.T_mono (Kd.T_far (p := ⟨gb304, 5, none⟩) (Kd.T_far (p := ⟨gb304, 4, none⟩) (Kd.T_far (p := ⟨gb304, 3, none⟩) (Kd.T_far (p := ⟨gb304, 2, none⟩) (Kd.T_far (p := ⟨gb304, 1, none⟩) (Kd.T_far (p := ⟨gb304, 0, none⟩) (Kd.T_types HO316.out BK304.out (by decide)) (fun _ hk => hk.2) (.slice Ao44 t311.length co44)) (fun _ hk => hk.2) (.slice Ao43 t314.length co43)) (fun _ hk => hk.2) (.slice Ao46 t318.length co46)) (fun _ hk => hk.2) (.int .i64 t321)) (fun _ hk => hk.2) (.int .i64 t322)) (fun _ hk => hk.2) (.int .i64 0)) (fun _ hk => hk.1), kr (Kd.R_mono (Kd.R_far (p := ⟨gb304, 5, none⟩) (Kd.R_far (p := ⟨gb304, 4, none⟩) (Kd.R_far (p := ⟨gb304, 3, none⟩) (Kd.R_far (p := ⟨gb304, 2, none⟩) (Kd.R_far (p := ⟨gb304, 1, none⟩) (Kd.R_far (p := ⟨gb304, 0, none⟩) (Kd.R_types HO320.out BK304.out (by decide)) (fun _ hk => hk.2) (.slice Ao44 t311.length co44)) (fun _ hk => hk.2) (.slice Ao43 t314.length co43)) (fun _ hk => hk.2) (.slice Ao46 t318.length co46)) (fun _ hk => hk.2) (.int .i64 t321)) (fun _ hk => hk.2) (.int .i64 t322)) (fun _ hk => hk.2) (.int .i64 0)) (fun _ hk => hk.1)), by repeat (first | (with_reducible first | exact HB.out | apply below_alloc | apply pw_below_drewN | apply below_drew1 | refine below_set ?_ GE302.out | refine below_set ?_ GE303.out | refine below_set ?_ GE304.out) | exact HB.out)⟩
       ·rw [if_neg c37] at H
        exact absurd H (by simp)
      ·rw [if_neg c34] at H
       exact absurd H (by simp)
     ·rw [if_neg c33] at H
      exact absurd H (by simp)
theorem impl_UndoBack.calls (k : Nat) (A0_0 : Option Addr) (c0_0 : Nat) (l0_0 : List (S31)) (A0_1 : Option Addr) (c0_1 : Nat) (l0_1 : List (S31)) (A1_0 : Option Addr) (c1_0 : Nat) (l1_0 : List Int) (a1_1 : Int) (a1_2 : Int) (r1 : List (S31)) (r2 : List (S31)) (r3 : List Int) (r4 : Int) (r5 : Int) (r6 : Int) (w : World) (hr0_0 : Kd.C k31 w A0_0 l0_0.length l0_0) (hc0_0 : l0_0.length ≤ c0_0) (hr0_1 : Kd.C k31 w A0_1 l0_1.length l0_1) (hc0_1 : l0_1.length ≤ c0_1) (hr1_0 : Kd.C (Kd.int .i64) w A1_0 l1_0.length l1_0) (hc1_0 : l1_0.length ≤ c1_0) (h : impl_UndoBack.f k l0_0 l0_1 l1_0 a1_1 a1_2 = some (r1, r2, r3, r4, r5, r6)) :
  Calls Try.prog 41 #[.agg #[.slice A0_0 l0_0.length c0_0, .slice A0_1 l0_1.length c0_1], .agg #[.slice A1_0 l1_0.length c1_0, .int .i64 a1_1, .int .i64 a1_2]] w fun e w' => ∃ v0_ v1_ v2_ : Value, e = .returned (.agg #[v0_, v1_, v2_, .int .i64 r4, .int .i64 r5, .int .i64 r6]) ∧ Kd.S k31 31 w' w.heap.size (fun k_ => some k_ ≠ (v1_ : Value).ownBlock ∧ some k_ ≠ (v2_ : Value).ownBlock) v0_ r1 ∧ Kd.T k31 31 w' w.heap.size (fun k_ => some k_ ≠ (v0_ : Value).ownBlock ∧ some k_ ≠ (v2_ : Value).ownBlock) v1_ r2 ∧ Kd.R (Kd.int .i64) 2 w' w.heap.size (fun _ => True) v2_ r3 ∧ Below w.heap.size w w' := by
 refine (impl_UndoBack.callsA k A0_0 c0_0 l0_0 A0_1 c0_1 l0_1 A1_0 c1_0 l1_0 a1_1 a1_2 r1 r2 r3 r4 r5 r6 w hr0_0 hc0_0 hr0_1 hc0_1 hr1_0 hc1_0 h).mono ?_
 rintro e w' ⟨m1_, m2_, _, v0_, v1_, v2_, he_, h0_, h1_, h2_, hb_⟩
 exact ⟨v0_, v1_, v2_, he_, Kd.S_mono h0_ (fun k_ hk_ => ⟨(fun e_ => by have z_ : (fun k_ => m1_ ≤ k_ ∧ k_ < m2_) k_ := Kd.T_own h1_ k_ e_.symm; have y_ : (fun k_ => k_ < m1_) k_ := hk_; dsimp only at z_ y_; omega), (fun e_ => by have z_ : (fun k_ => m2_ ≤ k_) k_ := Kd.R_own h2_ k_ e_.symm; have y_ : (fun k_ => k_ < m1_) k_ := hk_; dsimp only at z_ y_; omega)⟩), Kd.T_mono h1_ (fun k_ hk_ => ⟨(fun e_ => by have z_ : (fun k_ => k_ < m1_) k_ := Kd.S_own h0_ k_ e_.symm; have y_ : (fun k_ => m1_ ≤ k_ ∧ k_ < m2_) k_ := hk_; dsimp only at z_ y_; omega), (fun e_ => by have z_ : (fun k_ => m2_ ≤ k_) k_ := Kd.R_own h2_ k_ e_.symm; have y_ : (fun k_ => m1_ ≤ k_ ∧ k_ < m2_) k_ := hk_; dsimp only at z_ y_; omega)⟩), Kd.R_mono h2_ (fun k_ hk_ => trivial), hb_⟩


/-! ### impl_UndoForth: function 27 -/
def impl_UndoForth.f (k : Nat) (l0_0 : List (S31)) (l0_1 : List (S31)) (l1_0 : List Int) (a1_1 : Int) (a1_2 : Int) : Option ((List (S31)) × (List (S31)) × List Int × Int × Int × Int) := (impl_UndoBack.f k l0_1 l0_0 l1_0 a1_1 a1_2).bind fun bt326 => (some (bt326.2.1, bt326.1, bt326.2.2.1, bt326.2.2.2.1, bt326.2.2.2.2.1, bt326.2.2.2.2.2))
theorem impl_UndoForth.mono : ∀ a0 a1 a2 a3 a4 k, LeO (impl_UndoForth.f k a0 a1 a2 a3 a4) (impl_UndoForth.f (k + 1) a0 a1 a2 a3 a4) := by
 intro a0 a1 a2 a3 a4 k
 unfold impl_UndoForth.f
 repeat' first
   | (with_reducible exact impl_UndoBack.mono _ _ _ _ _ _)
   | (with_reducible exact LeO.refl _)
   | (with_reducible exact LeO.none _)
   | (with_reducible refine LeO.ite ?_ ?_)
   | (with_reducible refine LeO.bind ?_ (fun _ => ?_))
   | exact impl_UndoBack.mono _ _ _ _ _ _
   | refine LeO.bind ?_ (fun _ => ?_)
theorem impl_UndoForth.callsA (k : Nat) (A0_0 : Option Addr) (c0_0 : Nat) (l0_0 : List (S31)) (A0_1 : Option Addr) (c0_1 : Nat) (l0_1 : List (S31)) (A1_0 : Option Addr) (c1_0 : Nat) (l1_0 : List Int) (a1_1 : Int) (a1_2 : Int) (r1 : List (S31)) (r2 : List (S31)) (r3 : List Int) (r4 : Int) (r5 : Int) (r6 : Int) (w : World) (hr0_0 : Kd.C k31 w A0_0 l0_0.length l0_0) (hc0_0 : l0_0.length ≤ c0_0) (hr0_1 : Kd.C k31 w A0_1 l0_1.length l0_1) (hc0_1 : l0_1.length ≤ c0_1) (hr1_0 : Kd.C (Kd.int .i64) w A1_0 l1_0.length l1_0) (hc1_0 : l1_0.length ≤ c1_0) (h : impl_UndoForth.f k l0_0 l0_1 l1_0 a1_1 a1_2 = some (r1, r2, r3, r4, r5, r6)) :
  Calls Try.prog 27 #[.agg #[.slice A0_0 l0_0.length c0_0, .slice A0_1 l0_1.length c0_1], .agg #[.slice A1_0 l1_0.length c1_0, .int .i64 a1_1, .int .i64 a1_2]] w fun e w' => ∃ m1_ m2_ : Nat, (w.heap.size ≤ m1_ ∧ m1_ ≤ m2_ ∧ m2_ ≤ w'.heap.size) ∧ ∃ v0_ v1_ v2_ : Value, e = .returned (.agg #[v0_, v1_, v2_, .int .i64 r4, .int .i64 r5, .int .i64 r6]) ∧ Kd.T k31 31 w' w.heap.size (fun k_ => m1_ ≤ k_ ∧ k_ < m2_) v0_ r1 ∧ Kd.S k31 31 w' w.heap.size (fun k_ => k_ < m1_) v1_ r2 ∧ Kd.R (Kd.int .i64) 2 w' w.heap.size (fun k_ => m2_ ≤ k_) v2_ r3 ∧ Below w.heap.size w w' := by
 have hu30 := Try.underlying30
 have hu31 := Try.underlying31
 have hu33 := Try.underlying33
 have HR0_0 := am hr0_0
 have HC0_0 := am hc0_0
 clear hr0_0 hc0_0
 have HR0_1 := am hr0_1
 have HC0_1 := am hc0_1
 clear hr0_1 hc0_1
 have HR1_0 := am hr1_0
 have HC1_0 := am hc1_0
 clear hr1_0 hc1_0
 have HB := am (Below.refl w.heap.size w)
 have H : ((impl_UndoBack.f k l0_1 l0_0 l1_0 a1_1 a1_2).bind fun bt326 => (some (bt326.2.1, bt326.1, bt326.2.2.1, bt326.2.2.2.1, bt326.2.2.2.2.1, bt326.2.2.2.2.2))) = some (r1, r2, r3, r4, r5, r6) := h
 clear h
 replace H := Option.bind_eq_some_iff.mp H
 obtain ⟨⟨t326, t329, t332, t335, t336, t337⟩, A30, H⟩ := H
 replace H : (some (t329, t326, t332, t335, t336, t337)) = some (r1, r2, r3, r4, r5, r6) := H
 have A3 := Aside0.mk A30
 clear A30
 simp only [Option.some.injEq, Prod.mk.injEq] at H
 obtain ⟨rfl, rfl, rfl, rfl, rfl, rfl⟩ := H
 go_enter Try.func27, Try.ntmps27
 go_upto_region 2 with (first | ((with_reducible refine gate_dst (N := 2) rfl ?_); refine box_event ?hg (N := 2) ?hd (cs := #[.slice A0_0 l0_0.length c0_0, .slice A0_1 l0_1.length c0_1]) (t := 30) ?hr ?_; (case hd => rfl); (case hg => rfl); (case hr => first | (go_simp; done) | (go_simp; rfl)); intro gb323 hg w4 hbox hb; have BK323 := am (hbox); have GW323 := am ((by rw [hg]; exact (below_size (bl HB.out)) : w.heap.size ≤ gb323)); have GE323 := GW323; replace HB := am (below_step (bl HB.out) hb); clear hb hbox hg) | ((with_reducible refine gate_dst (N := 3) rfl ?_); refine box_event ?hg (N := 3) ?hd (cs := #[.slice A1_0 l1_0.length c1_0, .int .i64 a1_1, .int .i64 a1_2]) (t := 31) ?hr ?_; (case hd => rfl); (case hg => rfl); (case hr => first | (go_simp; done) | (go_simp; rfl)); intro gb324 hg w5 hbox hb; have BK324 := am (hbox); have GW324 := am ((by rw [hg]; exact (below_size (bl HB.out)) : w.heap.size ≤ gb324)); have GE324 := GW324; replace HB := am (below_step (bl HB.out) hb); have NB323_324 := am ((by rw [hg]; exact Nat.ne_of_lt (blk_lt (pk BK323.out)) : gb323 ≠ gb324)); have NB324_323 := am ((by rw [hg]; exact Nat.ne_of_gt (blk_lt (pk BK323.out)) : gb324 ≠ gb323)); replace BK323 := am (blk_below (pk BK323.out) hb); clear hb hbox hg) | ((with_reducible refine gate_dst (N := 4) rfl ?_); refine box_event ?hg (N := 4) ?hd (cs := #[.slice none 0 0, .slice none 0 0, .slice none 0 0, .int .i64 0, .int .i64 0, .int .i64 0]) (t := 33) ?hr ?_; (case hd => rfl); (case hg => rfl); (case hr => first | (go_simp; done) | (go_simp; rfl)); intro gb325 hg w6 hbox hb; have BK325 := am (hbox); have GW325 := am ((by rw [hg]; exact (below_size (bl HB.out)) : w.heap.size ≤ gb325)); have GE325 := GW325; replace HB := am (below_step (bl HB.out) hb); have NB323_325 := am ((by rw [hg]; exact Nat.ne_of_lt (blk_lt (pk BK323.out)) : gb323 ≠ gb325)); have NB325_323 := am ((by rw [hg]; exact Nat.ne_of_gt (blk_lt (pk BK323.out)) : gb325 ≠ gb323)); replace BK323 := am (blk_below (pk BK323.out) hb); have NB324_325 := am ((by rw [hg]; exact Nat.ne_of_lt (blk_lt (pk BK324.out)) : gb324 ≠ gb325)); have NB325_324 := am ((by rw [hg]; exact Nat.ne_of_gt (blk_lt (pk BK324.out)) : gb325 ≠ gb324)); replace BK324 := am (blk_below (pk BK324.out) hb); clear hb hbox hg; have hnb7 := NB323_324.out; have hnc7 := NB324_323.out; have hnb8 := NB323_325.out; have hnc8 := NB325_323.out; have hcz9_0 : w6.cell? ⟨gb323, 0, none⟩ = some (.slice A0_0 l0_0.length c0_0) := bc BK323.out 0; have hcz9_1 : w6.cell? ⟨gb323, 1, none⟩ = some (.slice A0_1 l0_1.length c0_1) := bc BK323.out 1; have hfz9_0 := blk_frozen BK323.out 0; have hfz9_1 := blk_frozen BK323.out 1; have hnb10 := NB324_325.out; have hnc10 := NB325_324.out; have hcz11_0 : w6.cell? ⟨gb324, 0, none⟩ = some (.slice A1_0 l1_0.length c1_0) := bc BK324.out 0; have hcz11_1 : w6.cell? ⟨gb324, 1, none⟩ = some (.int .i64 a1_1) := bc BK324.out 1; have hcz11_2 : w6.cell? ⟨gb324, 2, none⟩ = some (.int .i64 a1_2) := bc BK324.out 2; have hfz11_0 := blk_frozen BK324.out 0; have hfz11_1 := blk_frozen BK324.out 1; have hfz11_2 := blk_frozen BK324.out 2) | ((with_reducible refine gate_callee (f := 41) rfl ?_); refine gl (some 12) Try.func41 #[.agg #[.slice A0_1 l0_1.length c0_1, .slice A0_0 l0_0.length c0_0], .agg #[.slice A1_0 l1_0.length c1_0, .int .i64 a1_1, .int .i64 a1_2]] ?_; (with_reducible refine (impl_UndoBack.callsA k _ _ l0_1 _ _ l0_0 _ _ l1_0 a1_1 a1_2 t326 t329 t332 t335 t336 t337 _ ?side1 ?side2 ?side3 ?side4 ?side5 ?side6 A3.out).mono ?_); (case side1 => repeat (first | exact (Kd.C_below HR0_1.out HB.out) | (with_reducible refine Kd.C_alloc ?_ _) | (with_reducible refine Kd.C_drewN ?_ _) | (with_reducible refine Kd.C_drew ?_))); (case side2 => exact HC0_1.out); (case side3 => repeat (first | exact (Kd.C_below HR0_0.out HB.out) | (with_reducible refine Kd.C_alloc ?_ _) | (with_reducible refine Kd.C_drewN ?_ _) | (with_reducible refine Kd.C_drew ?_))); (case side4 => exact HC0_0.out); (case side5 => repeat (first | exact (Kd.C_below HR1_0.out HB.out) | (with_reducible refine Kd.C_alloc ?_ _) | (with_reducible refine Kd.C_drewN ?_ _) | (with_reducible refine Kd.C_drew ?_))); (case side6 => exact HC1_0.out); rintro e w12 ⟨m1_, m2_, ⟨hsa_, hsb_, hsc_⟩, v327, v330, v333, rfl, ho0, ho1, ho2, hb⟩; have hw1_ : w.heap.size ≤ m1_ := (Nat.le_trans (below_size (bl HB.out)) hsa_); refine ⟨_, rfl, ?_⟩; have HO328 := am (Kd.S_lower (Kd.S_newB ho0 (g := gb324) (o := .cells #[.slice A1_0 l1_0.length c1_0, .int .i64 a1_1, .int .i64 a1_2] 31 (0, 0)) (pk BK324.out)) (below_size (bl HB.out))); have HO331 := am (Kd.T_lower (Kd.T_newB ho1 (g := gb324) (o := .cells #[.slice A1_0 l1_0.length c1_0, .int .i64 a1_1, .int .i64 a1_2] 31 (0, 0)) (pk BK324.out)) (below_size (bl HB.out))); have HO334 := am (Kd.R_lower ho2 (below_size (bl HB.out))); replace BK323 := am (blk_below (pk BK323.out) hb); replace BK324 := am (blk_below (pk BK324.out) hb); replace BK325 := am (blk_below (pk BK325.out) hb); replace HB := am (below_step (bl HB.out) hb); (try clear hb); (try clear hb2); (try clear hk); (try clear hi); (try clear ho0); (try clear ho1); (try clear ho2)) | ((with_reducible refine gate_dst (N := 5) rfl ?_); refine box_event ?hg (N := 5) ?hd (cs := #[.slice none 0 0, .slice none 0 0, .slice none 0 0, .int .i64 0, .int .i64 0, .int .i64 0]) (t := 33) ?hr ?_; (case hd => rfl); (case hg => rfl); (case hr => first | (go_simp; done) | (go_simp; rfl)); intro gb338 hg w13 hbox hb; have HZ_ := am (Nat.le_trans hsc_ hb.size); replace HO328 := am (Kd.S_below (ks HO328.out) hb); replace HO331 := am (Kd.T_below (by (with_reducible repeat (first | apply Kd.T_alloc | apply Kd.T_drewN | apply Kd.T_drew)); exact HO331.out) hb); replace HO334 := am (Kd.R_below (kr HO334.out) hb); have BK338 := am (hbox); have GW338 := am ((by rw [hg]; exact (below_size (bl HB.out)) : w.heap.size ≤ gb338)); have GE338 := GW338; replace HB := am (below_step (bl HB.out) hb); have NB323_338 := am ((by rw [hg]; exact Nat.ne_of_lt (blk_lt (pk BK323.out)) : gb323 ≠ gb338)); have NB338_323 := am ((by rw [hg]; exact Nat.ne_of_gt (blk_lt (pk BK323.out)) : gb338 ≠ gb323)); replace BK323 := am (blk_below (pk BK323.out) hb); have NB324_338 := am ((by rw [hg]; exact Nat.ne_of_lt (blk_lt (pk BK324.out)) : gb324 ≠ gb338)); have NB338_324 := am ((by rw [hg]; exact Nat.ne_of_gt (blk_lt (pk BK324.out)) : gb338 ≠ gb324)); replace BK324 := am (blk_below (pk BK324.out) hb); have NB325_338 := am ((by rw [hg]; exact Nat.ne_of_lt (blk_lt (pk BK325.out)) : gb325 ≠ gb338)); have NB338_325 := am ((by rw [hg]; exact Nat.ne_of_gt (blk_lt (pk BK325.out)) : gb338 ≠ gb325)); replace BK325 := am (blk_below (pk BK325.out) hb); clear hb hbox hg; obtain ⟨Ao14, co14, eo14⟩ := Kd.S_slice HO328.out; subst eo14; have hnb15 := NB338_323.out; have hnc15 := NB323_338.out; have hnb16 := NB338_324.out; have hnc16 := NB324_338.out; have hnb17 := NB338_325.out; have hnc17 := NB325_338.out; have hcz18_0 : w13.cell? ⟨gb338, 0, none⟩ = some (.slice none 0 0) := bc BK338.out 0; have hcz18_1 : w13.cell? ⟨gb338, 1, none⟩ = some (.slice none 0 0) := bc BK338.out 1; have hcz18_2 : w13.cell? ⟨gb338, 2, none⟩ = some (.slice none 0 0) := bc BK338.out 2; have hcz18_3 : w13.cell? ⟨gb338, 3, none⟩ = some (.int .i64 0) := bc BK338.out 3; have hcz18_4 : w13.cell? ⟨gb338, 4, none⟩ = some (.int .i64 0) := bc BK338.out 4; have hcz18_5 : w13.cell? ⟨gb338, 5, none⟩ = some (.int .i64 0) := bc BK338.out 5; have hfz18_0 := blk_frozen BK338.out 0; have hfz18_1 := blk_frozen BK338.out 1; have hfz18_2 := blk_frozen BK338.out 2; have hfz18_3 := blk_frozen BK338.out 3; have hfz18_4 := blk_frozen BK338.out 4; have hfz18_5 := blk_frozen BK338.out 5; obtain ⟨Ao19, co19, eo19, _⟩ := Kd.T_slice HO331.out; subst eo19; obtain ⟨Ao20, co20, eo20⟩ := Kd.R_slice HO334.out; subst eo20; have hcz21_0 : w13.cell? ⟨gb325, 0, none⟩ = some (.slice none 0 0) := bc BK325.out 0; have hcz21_1 : w13.cell? ⟨gb325, 1, none⟩ = some (.slice none 0 0) := bc BK325.out 1; have hcz21_2 : w13.cell? ⟨gb325, 2, none⟩ = some (.slice none 0 0) := bc BK325.out 2; have hcz21_3 : w13.cell? ⟨gb325, 3, none⟩ = some (.int .i64 0) := bc BK325.out 3; have hcz21_4 : w13.cell? ⟨gb325, 4, none⟩ = some (.int .i64 0) := bc BK325.out 4; have hcz21_5 : w13.cell? ⟨gb325, 5, none⟩ = some (.int .i64 0) := bc BK325.out 5; have hfz21_0 := blk_frozen BK325.out 0; have hfz21_1 := blk_frozen BK325.out 1; have hfz21_2 := blk_frozen BK325.out 2; have hfz21_3 := blk_frozen BK325.out 3; have hfz21_4 := blk_frozen BK325.out 4; have hfz21_5 := blk_frozen BK325.out 5))
 replace HO328 := am (Kd.S_types (Kd.S_types HO328.out BK338.out (by decide)) BK325.out (by decide))
 replace HO331 := am (Kd.T_types (Kd.T_types HO331.out BK338.out (by decide)) BK325.out (by decide))
 replace HO334 := am (Kd.R_types (Kd.R_types HO334.out BK338.out (by decide)) BK325.out (by decide))
 clear hcz9_0 hcz9_1 hfz9_0 hfz9_1 hcz11_0 hcz11_1 hcz11_2 hfz11_0 hfz11_1 hfz11_2 hcz18_0 hcz18_1 hcz18_2 hcz18_3 hcz18_4 hcz18_5 hfz18_0 hfz18_1 hfz18_2 hfz18_3 hfz18_4 hfz18_5 hcz21_0 hcz21_1 hcz21_2 hcz21_3 hcz21_4 hcz21_5 hfz21_0 hfz21_1 hfz21_2 hfz21_3 hfz21_4 hfz21_5
 have N_ := am (show ((((((w13.setCell ⟨gb338, 0, none⟩ (.slice Ao14 t326.length co14)).setCell ⟨gb338, 1, none⟩ (.slice Ao19 t329.length co19)).setCell ⟨gb338, 2, none⟩ (.slice Ao20 t332.length co20)).setCell ⟨gb338, 3, none⟩ (.int .i64 t335)).setCell ⟨gb338, 4, none⟩ (.int .i64 t336)).setCell ⟨gb338, 5, none⟩ (.int .i64 t337)).heap[gb338]? = some (.cells #[.slice Ao14 t326.length co14, .slice Ao19 t329.length co19, .slice Ao20 t332.length co20, .int .i64 t335, .int .i64 t336, .int .i64 t337] 33 (0, 0)) from (by refine blk_put (cs := #[.slice Ao14 t326.length co14, .slice Ao19 t329.length co19, .slice Ao20 t332.length co20, .int .i64 t335, .int .i64 t336, .int .i64 0]) ?_ 5 _ rfl; refine blk_put (cs := #[.slice Ao14 t326.length co14, .slice Ao19 t329.length co19, .slice Ao20 t332.length co20, .int .i64 t335, .int .i64 0, .int .i64 0]) ?_ 4 _ rfl; refine blk_put (cs := #[.slice Ao14 t326.length co14, .slice Ao19 t329.length co19, .slice Ao20 t332.length co20, .int .i64 0, .int .i64 0, .int .i64 0]) ?_ 3 _ rfl; refine blk_put (cs := #[.slice Ao14 t326.length co14, .slice Ao19 t329.length co19, .slice none 0 0, .int .i64 0, .int .i64 0, .int .i64 0]) ?_ 2 _ rfl; refine blk_put (cs := #[.slice Ao14 t326.length co14, .slice none 0 0, .slice none 0 0, .int .i64 0, .int .i64 0, .int .i64 0]) ?_ 1 _ rfl; refine blk_put (cs := #[.slice none 0 0, .slice none 0 0, .slice none 0 0, .int .i64 0, .int .i64 0, .int .i64 0]) ?_ 0 _ rfl; exact BK338.out))
 have M_ := am (show ((((((w13.setCell ⟨gb338, 0, none⟩ (.slice Ao14 t326.length co14)).setCell ⟨gb338, 1, none⟩ (.slice Ao19 t329.length co19)).setCell ⟨gb338, 2, none⟩ (.slice Ao20 t332.length co20)).setCell ⟨gb338, 3, none⟩ (.int .i64 t335)).setCell ⟨gb338, 4, none⟩ (.int .i64 t336)).setCell ⟨gb338, 5, none⟩ (.int .i64 t337)).heap[gb325]? = some (.cells #[.slice none 0 0, .slice none 0 0, .slice none 0 0, .int .i64 0, .int .i64 0, .int .i64 0] 33 (0, 0)) from (by refine blk_far ?_ NB325_338.out _; refine blk_far ?_ NB325_338.out _; refine blk_far ?_ NB325_338.out _; refine blk_far ?_ NB325_338.out _; refine blk_far ?_ NB325_338.out _; refine blk_far ?_ NB325_338.out _; exact BK325.out))
 replace HO328 := am (Kd.S_far (p := ⟨gb338, 5, none⟩) (Kd.S_far (p := ⟨gb338, 4, none⟩) (Kd.S_far (p := ⟨gb338, 3, none⟩) (Kd.S_far (p := ⟨gb338, 2, none⟩) (Kd.S_far (p := ⟨gb338, 1, none⟩) (Kd.S_far (p := ⟨gb338, 0, none⟩) HO328.out (fun _ hk => hk.1.2) (.slice Ao14 t326.length co14)) (fun _ hk => hk.1.2) (.slice Ao19 t329.length co19)) (fun _ hk => hk.1.2) (.slice Ao20 t332.length co20)) (fun _ hk => hk.1.2) (.int .i64 t335)) (fun _ hk => hk.1.2) (.int .i64 t336)) (fun _ hk => hk.1.2) (.int .i64 t337))
 replace HO331 := am (Kd.T_far (p := ⟨gb338, 5, none⟩) (Kd.T_far (p := ⟨gb338, 4, none⟩) (Kd.T_far (p := ⟨gb338, 3, none⟩) (Kd.T_far (p := ⟨gb338, 2, none⟩) (Kd.T_far (p := ⟨gb338, 1, none⟩) (Kd.T_far (p := ⟨gb338, 0, none⟩) HO331.out (fun _ hk => hk.1.2) (.slice Ao14 t326.length co14)) (fun _ hk => hk.1.2) (.slice Ao19 t329.length co19)) (fun _ hk => hk.1.2) (.slice Ao20 t332.length co20)) (fun _ hk => hk.1.2) (.int .i64 t335)) (fun _ hk => hk.1.2) (.int .i64 t336)) (fun _ hk => hk.1.2) (.int .i64 t337))
 replace HO334 := am (Kd.R_far (p := ⟨gb338, 5, none⟩) (Kd.R_far (p := ⟨gb338, 4, none⟩) (Kd.R_far (p := ⟨gb338, 3, none⟩) (Kd.R_far (p := ⟨gb338, 2, none⟩) (Kd.R_far (p := ⟨gb338, 1, none⟩) (Kd.R_far (p := ⟨gb338, 0, none⟩) HO334.out (fun _ hk => hk.1.2) (.slice Ao14 t326.length co14)) (fun _ hk => hk.1.2) (.slice Ao19 t329.length co19)) (fun _ hk => hk.1.2) (.slice Ao20 t332.length co20)) (fun _ hk => hk.1.2) (.int .i64 t335)) (fun _ hk => hk.1.2) (.int .i64 t336)) (fun _ hk => hk.1.2) (.int .i64 t337))
 have B_ := am (show Below w.heap.size w ((((((w13.setCell ⟨gb338, 0, none⟩ (.slice Ao14 t326.length co14)).setCell ⟨gb338, 1, none⟩ (.slice Ao19 t329.length co19)).setCell ⟨gb338, 2, none⟩ (.slice Ao20 t332.length co20)).setCell ⟨gb338, 3, none⟩ (.int .i64 t335)).setCell ⟨gb338, 4, none⟩ (.int .i64 t336)).setCell ⟨gb338, 5, none⟩ (.int .i64 t337)) from (bl HB.out))
 have Z_ := am (show m2_ ≤ ((((((w13.setCell ⟨gb338, 0, none⟩ (.slice Ao14 t326.length co14)).setCell ⟨gb338, 1, none⟩ (.slice Ao19 t329.length co19)).setCell ⟨gb338, 2, none⟩ (.slice Ao20 t332.length co20)).setCell ⟨gb338, 3, none⟩ (.int .i64 t335)).setCell ⟨gb338, 4, none⟩ (.int .i64 t336)).setCell ⟨gb338, 5, none⟩ (.int .i64 t337)).heap.size from (by simp only [World.size_setCell]; exact HZ_.out))
 clear BK338 BK325 HB HZ_
 generalize ((((((w13.setCell ⟨gb338, 0, none⟩ (.slice Ao14 t326.length co14)).setCell ⟨gb338, 1, none⟩ (.slice Ao19 t329.length co19)).setCell ⟨gb338, 2, none⟩ (.slice Ao20 t332.length co20)).setCell ⟨gb338, 3, none⟩ (.int .i64 t335)).setCell ⟨gb338, 4, none⟩ (.int .i64 t336)).setCell ⟨gb338, 5, none⟩ (.int .i64 t337)) = w20 at N_ M_ B_ Z_ HO328 HO331 HO334 ⊢
 have BK338 := N_
 have BK325 := M_
 have HB := B_
 have HZ_ := Z_
 clear N_ M_ B_ Z_
 have hcza338_0 : w20.cell? ⟨gb338, 0, none⟩ = some (.slice Ao14 t326.length co14) := bc BK338.out 0
 have hfza338_0 := blk_frozen BK338.out 0
 have hcza338_1 : w20.cell? ⟨gb338, 1, none⟩ = some (.slice Ao19 t329.length co19) := bc BK338.out 1
 have hfza338_1 := blk_frozen BK338.out 1
 have hcza338_2 : w20.cell? ⟨gb338, 2, none⟩ = some (.slice Ao20 t332.length co20) := bc BK338.out 2
 have hfza338_2 := blk_frozen BK338.out 2
 have hcza338_3 : w20.cell? ⟨gb338, 3, none⟩ = some (.int .i64 t335) := bc BK338.out 3
 have hfza338_3 := blk_frozen BK338.out 3
 have hcza338_4 : w20.cell? ⟨gb338, 4, none⟩ = some (.int .i64 t336) := bc BK338.out 4
 have hfza338_4 := blk_frozen BK338.out 4
 have hcza338_5 : w20.cell? ⟨gb338, 5, none⟩ = some (.int .i64 t337) := bc BK338.out 5
 have hfza338_5 := blk_frozen BK338.out 5
 have hcza325_0 : w20.cell? ⟨gb325, 0, none⟩ = some (.slice none 0 0) := bc BK325.out 0
 have hfza325_0 := blk_frozen BK325.out 0
 have hcza325_1 : w20.cell? ⟨gb325, 1, none⟩ = some (.slice none 0 0) := bc BK325.out 1
 have hfza325_1 := blk_frozen BK325.out 1
 have hcza325_2 : w20.cell? ⟨gb325, 2, none⟩ = some (.slice none 0 0) := bc BK325.out 2
 have hfza325_2 := blk_frozen BK325.out 2
 have hcza325_3 : w20.cell? ⟨gb325, 3, none⟩ = some (.int .i64 0) := bc BK325.out 3
 have hfza325_3 := blk_frozen BK325.out 3
 have hcza325_4 : w20.cell? ⟨gb325, 4, none⟩ = some (.int .i64 0) := bc BK325.out 4
 have hfza325_4 := blk_frozen BK325.out 4
 have hcza325_5 : w20.cell? ⟨gb325, 5, none⟩ = some (.int .i64 0) := bc BK325.out 5
 have hfza325_5 := blk_frozen BK325.out 5
 go_upto_region 3 with (fail)
 clear hcza338_0 hfza338_0 hcza338_1 hfza338_1 hcza338_2 hfza338_2 hcza338_3 hfza338_3 hcza338_4 hfza338_4 hcza338_5 hfza338_5 hcza325_0 hfza325_0 hcza325_1 hfza325_1 hcza325_2 hfza325_2 hcza325_3 hfza325_3 hcza325_4 hfza325_4 hcza325_5 hfza325_5
 have N_ := am (show ((w20.setCell ⟨gb338, 0, none⟩ (.slice Ao19 t329.length co19)).setCell ⟨gb338, 1, none⟩ (.slice Ao14 t326.length co14)).heap[gb338]? = some (.cells #[.slice Ao19 t329.length co19, .slice Ao14 t326.length co14, .slice Ao20 t332.length co20, .int .i64 t335, .int .i64 t336, .int .i64 t337] 33 (0, 0)) from (by refine blk_put (cs := #[.slice Ao19 t329.length co19, .slice Ao19 t329.length co19, .slice Ao20 t332.length co20, .int .i64 t335, .int .i64 t336, .int .i64 t337]) ?_ 1 _ rfl; refine blk_put (cs := #[.slice Ao14 t326.length co14, .slice Ao19 t329.length co19, .slice Ao20 t332.length co20, .int .i64 t335, .int .i64 t336, .int .i64 t337]) ?_ 0 _ rfl; exact BK338.out))
 have M_ := am (show ((w20.setCell ⟨gb338, 0, none⟩ (.slice Ao19 t329.length co19)).setCell ⟨gb338, 1, none⟩ (.slice Ao14 t326.length co14)).heap[gb325]? = some (.cells #[.slice none 0 0, .slice none 0 0, .slice none 0 0, .int .i64 0, .int .i64 0, .int .i64 0] 33 (0, 0)) from (by refine blk_far ?_ NB325_338.out _; refine blk_far ?_ NB325_338.out _; exact BK325.out))
 replace HO328 := am (Kd.S_far (p := ⟨gb338, 1, none⟩) (Kd.S_far (p := ⟨gb338, 0, none⟩) HO328.out (fun _ hk => hk.1.2) (.slice Ao19 t329.length co19)) (fun _ hk => hk.1.2) (.slice Ao14 t326.length co14))
 replace HO331 := am (Kd.T_far (p := ⟨gb338, 1, none⟩) (Kd.T_far (p := ⟨gb338, 0, none⟩) HO331.out (fun _ hk => hk.1.2) (.slice Ao19 t329.length co19)) (fun _ hk => hk.1.2) (.slice Ao14 t326.length co14))
 replace HO334 := am (Kd.R_far (p := ⟨gb338, 1, none⟩) (Kd.R_far (p := ⟨gb338, 0, none⟩) HO334.out (fun _ hk => hk.1.2) (.slice Ao19 t329.length co19)) (fun _ hk => hk.1.2) (.slice Ao14 t326.length co14))
 have B_ := am (show Below w.heap.size w ((w20.setCell ⟨gb338, 0, none⟩ (.slice Ao19 t329.length co19)).setCell ⟨gb338, 1, none⟩ (.slice Ao14 t326.length co14)) from (bl HB.out))
 have Z_ := am (show m2_ ≤ ((w20.setCell ⟨gb338, 0, none⟩ (.slice Ao19 t329.length co19)).setCell ⟨gb338, 1, none⟩ (.slice Ao14 t326.length co14)).heap.size from (by simp only [World.size_setCell]; exact HZ_.out))
 clear BK338 BK325 HB HZ_
 generalize ((w20.setCell ⟨gb338, 0, none⟩ (.slice Ao19 t329.length co19)).setCell ⟨gb338, 1, none⟩ (.slice Ao14 t326.length co14)) = w21 at N_ M_ B_ Z_ HO328 HO331 HO334 ⊢
 have BK338 := N_
 have BK325 := M_
 have HB := B_
 have HZ_ := Z_
 clear N_ M_ B_ Z_
 have hczb338_0 : w21.cell? ⟨gb338, 0, none⟩ = some (.slice Ao19 t329.length co19) := bc BK338.out 0
 have hfzb338_0 := blk_frozen BK338.out 0
 have hczb338_1 : w21.cell? ⟨gb338, 1, none⟩ = some (.slice Ao14 t326.length co14) := bc BK338.out 1
 have hfzb338_1 := blk_frozen BK338.out 1
 have hczb338_2 : w21.cell? ⟨gb338, 2, none⟩ = some (.slice Ao20 t332.length co20) := bc BK338.out 2
 have hfzb338_2 := blk_frozen BK338.out 2
 have hczb338_3 : w21.cell? ⟨gb338, 3, none⟩ = some (.int .i64 t335) := bc BK338.out 3
 have hfzb338_3 := blk_frozen BK338.out 3
 have hczb338_4 : w21.cell? ⟨gb338, 4, none⟩ = some (.int .i64 t336) := bc BK338.out 4
 have hfzb338_4 := blk_frozen BK338.out 4
 have hczb338_5 : w21.cell? ⟨gb338, 5, none⟩ = some (.int .i64 t337) := bc BK338.out 5
 have hfzb338_5 := blk_frozen BK338.out 5
 have hczb325_0 : w21.cell? ⟨gb325, 0, none⟩ = some (.slice none 0 0) := bc BK325.out 0
 have hfzb325_0 := blk_frozen BK325.out 0
 have hczb325_1 : w21.cell? ⟨gb325, 1, none⟩ = some (.slice none 0 0) := bc BK325.out 1
 have hfzb325_1 := blk_frozen BK325.out 1
 have hczb325_2 : w21.cell? ⟨gb325, 2, none⟩ = some (.slice none 0 0) := bc BK325.out 2
 have hfzb325_2 := blk_frozen BK325.out 2
 have hczb325_3 : w21.cell? ⟨gb325, 3, none⟩ = some (.int .i64 0) := bc BK325.out 3
 have hfzb325_3 := blk_frozen BK325.out 3
 have hczb325_4 : w21.cell? ⟨gb325, 4, none⟩ = some (.int .i64 0) := bc BK325.out 4
 have hfzb325_4 := blk_frozen BK325.out 4
 have hczb325_5 : w21.cell? ⟨gb325, 5, none⟩ = some (.int .i64 0) := bc BK325.out 5
 have hfzb325_5 := blk_frozen BK325.out 5
 go_wp2
 refine bodyPost_ret (results_cell_row rfl _ _ gb325 33 #[.slice Ao19 t329.length co19, .slice Ao14 t326.length co14, .slice Ao20 t332.length co20, .int .i64 t335, .int .i64 t336, .int .i64 t337] (0, 0) _ rfl (by refine blk_put (cs := #[.slice Ao19 t329.length co19, .slice Ao14 t326.length co14, .slice Ao20 t332.length co20, .int .i64 t335, .int .i64 t336, .int .i64 0]) ?_ 5 _ rfl; refine blk_put (cs := #[.slice Ao19 t329.length co19, .slice Ao14 t326.length co14, .slice Ao20 t332.length co20, .int .i64 t335, .int .i64 0, .int .i64 0]) ?_ 4 _ rfl; refine blk_put (cs := #[.slice Ao19 t329.length co19, .slice Ao14 t326.length co14, .slice Ao20 t332.length co20, .int .i64 0, .int .i64 0, .int .i64 0]) ?_ 3 _ rfl; refine blk_put (cs := #[.slice Ao19 t329.length co19, .slice Ao14 t326.length co14, .slice none 0 0, .int .i64 0, .int .i64 0, .int .i64 0]) ?_ 2 _ rfl; refine blk_put (cs := #[.slice Ao19 t329.length co19, .slice none 0 0, .slice none 0 0, .int .i64 0, .int .i64 0, .int .i64 0]) ?_ 1 _ rfl; refine blk_put (cs := #[.slice none 0 0, .slice none 0 0, .slice none 0 0, .int .i64 0, .int .i64 0, .int .i64 0]) ?_ 0 _ rfl; exact BK325.out) Try.underlying33 rfl (by kernel_rfl)) rfl ?_
 exact ⟨m1_, m2_, ⟨hw1_, hsb_, (by (try simp only [World.size_setCell]); exact HZ_.out)⟩, _, _, _, by first | rfl | (simp [errW_none, errW_some] <;> rfl) | (simp [*, errW_none, errW_some] <;> rfl), Kd.T_mono (Kd.T_far (p := ⟨gb325, 5, none⟩) (Kd.T_far (p := ⟨gb325, 4, none⟩) (Kd.T_far (p := ⟨gb325, 3, none⟩) (Kd.T_far (p := ⟨gb325, 2, none⟩) (Kd.T_far (p := ⟨gb325, 1, none⟩) (Kd.T_far (p := ⟨gb325, 0, none⟩) HO331.out (fun _ hk => hk.2) (.slice Ao19 t329.length co19)) (fun _ hk => hk.2) (.slice Ao14 t326.length co14)) (fun _ hk => hk.2) (.slice Ao20 t332.length co20)) (fun _ hk => hk.2) (.int .i64 t335)) (fun _ hk => hk.2) (.int .i64 t336)) (fun _ hk => hk.2) (.int .i64 t337)) (fun _ hk => hk.1.1.1), Kd.S_mono (Kd.S_far (p := ⟨gb325, 5, none⟩) (Kd.S_far (p := ⟨gb325, 4, none⟩) (Kd.S_far (p := ⟨gb325, 3, none⟩) (Kd.S_far (p := ⟨gb325, 2, none⟩) (Kd.S_far (p := ⟨gb325, 1, none⟩) (Kd.S_far (p := ⟨gb325, 0, none⟩) HO328.out (fun _ hk => hk.2) (.slice Ao19 t329.length co19)) (fun _ hk => hk.2) (.slice Ao14 t326.length co14)) (fun _ hk => hk.2) (.slice Ao20 t332.length co20)) (fun _ hk => hk.2) (.int .i64 t335)) (fun _ hk => hk.2) (.int .i64 t336)) (fun _ hk => hk.2) (.int .i64 t337)) (fun _ hk => hk.1.1.1), Kd.R_mono (Kd.R_far (p := ⟨gb325, 5, none⟩) (Kd.R_far (p := ⟨gb325, 4, none⟩) (Kd.R_far (p := ⟨gb325, 3, none⟩) (Kd.R_far (p := ⟨gb325, 2, none⟩) (Kd.R_far (p := ⟨gb325, 1, none⟩) (Kd.R_far (p := ⟨gb325, 0, none⟩) HO334.out (fun _ hk => hk.2) (.slice Ao19 t329.length co19)) (fun _ hk => hk.2) (.slice Ao14 t326.length co14)) (fun _ hk => hk.2) (.slice Ao20 t332.length co20)) (fun _ hk => hk.2) (.int .i64 t335)) (fun _ hk => hk.2) (.int .i64 t336)) (fun _ hk => hk.2) (.int .i64 t337)) (fun _ hk => hk.1.1), (bl HB.out)⟩
theorem impl_UndoForth.calls (k : Nat) (A0_0 : Option Addr) (c0_0 : Nat) (l0_0 : List (S31)) (A0_1 : Option Addr) (c0_1 : Nat) (l0_1 : List (S31)) (A1_0 : Option Addr) (c1_0 : Nat) (l1_0 : List Int) (a1_1 : Int) (a1_2 : Int) (r1 : List (S31)) (r2 : List (S31)) (r3 : List Int) (r4 : Int) (r5 : Int) (r6 : Int) (w : World) (hr0_0 : Kd.C k31 w A0_0 l0_0.length l0_0) (hc0_0 : l0_0.length ≤ c0_0) (hr0_1 : Kd.C k31 w A0_1 l0_1.length l0_1) (hc0_1 : l0_1.length ≤ c0_1) (hr1_0 : Kd.C (Kd.int .i64) w A1_0 l1_0.length l1_0) (hc1_0 : l1_0.length ≤ c1_0) (h : impl_UndoForth.f k l0_0 l0_1 l1_0 a1_1 a1_2 = some (r1, r2, r3, r4, r5, r6)) :
  Calls Try.prog 27 #[.agg #[.slice A0_0 l0_0.length c0_0, .slice A0_1 l0_1.length c0_1], .agg #[.slice A1_0 l1_0.length c1_0, .int .i64 a1_1, .int .i64 a1_2]] w fun e w' => ∃ v0_ v1_ v2_ : Value, e = .returned (.agg #[v0_, v1_, v2_, .int .i64 r4, .int .i64 r5, .int .i64 r6]) ∧ Kd.T k31 31 w' w.heap.size (fun k_ => some k_ ≠ (v1_ : Value).ownBlock ∧ some k_ ≠ (v2_ : Value).ownBlock) v0_ r1 ∧ Kd.S k31 31 w' w.heap.size (fun k_ => some k_ ≠ (v0_ : Value).ownBlock ∧ some k_ ≠ (v2_ : Value).ownBlock) v1_ r2 ∧ Kd.R (Kd.int .i64) 2 w' w.heap.size (fun _ => True) v2_ r3 ∧ Below w.heap.size w w' := by
 refine (impl_UndoForth.callsA k A0_0 c0_0 l0_0 A0_1 c0_1 l0_1 A1_0 c1_0 l1_0 a1_1 a1_2 r1 r2 r3 r4 r5 r6 w hr0_0 hc0_0 hr0_1 hc0_1 hr1_0 hc1_0 h).mono ?_
 rintro e w' ⟨m1_, m2_, _, v0_, v1_, v2_, he_, h0_, h1_, h2_, hb_⟩
 exact ⟨v0_, v1_, v2_, he_, Kd.T_mono h0_ (fun k_ hk_ => ⟨(fun e_ => by have z_ : (fun k_ => k_ < m1_) k_ := Kd.S_own h1_ k_ e_.symm; have y_ : (fun k_ => m1_ ≤ k_ ∧ k_ < m2_) k_ := hk_; dsimp only at z_ y_; omega), (fun e_ => by have z_ : (fun k_ => m2_ ≤ k_) k_ := Kd.R_own h2_ k_ e_.symm; have y_ : (fun k_ => m1_ ≤ k_ ∧ k_ < m2_) k_ := hk_; dsimp only at z_ y_; omega)⟩), Kd.S_mono h1_ (fun k_ hk_ => ⟨(fun e_ => by have z_ : (fun k_ => m1_ ≤ k_ ∧ k_ < m2_) k_ := Kd.T_own h0_ k_ e_.symm; have y_ : (fun k_ => k_ < m1_) k_ := hk_; dsimp only at z_ y_; omega), (fun e_ => by have z_ : (fun k_ => m2_ ≤ k_) k_ := Kd.R_own h2_ k_ e_.symm; have y_ : (fun k_ => k_ < m1_) k_ := hk_; dsimp only at z_ y_; omega)⟩), Kd.R_mono h2_ (fun k_ hk_ => trivial), hb_⟩


end Go.Proofs.Ytkplopkhdejleaa.PFnExactUndoForth
