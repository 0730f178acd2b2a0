-- Written by xprint.py (this claim's own program, over the kit's printer); Lean checks it.
import Derived.Test.YtfkghjdhimhjjaaPFnUndox0
import Derived.Test.YtfkghjdhimhjjaaPFnUndox8
import Derived.Test.YtfkghjdhimhjjaaPFnUndox9
namespace Go.Proofs.Ytfkghjdhimhjjaa.PFnUndo
open Go.RowKit Go.Proofs.YtfkghjdhimhjjaaW.PrintWords Go.Proofs.YtfkghjdhimhjjaaW.PrintLast Go.Proofs.YtfkghjdhimhjjaaW.PrintMore
attribute [local go_sem] max2_int min2_int max_two min_two max_three min_three max_four min_four   -- for this text's walks alone
set_option linter.unusedVariables false
set_option linter.unusedSimpArgs false   -- squeezed

/-! ### impl_UndoBack: function 16 -/
def impl_UndoBack.j0 : Nat → Int → Bool → List (S39) → List (S39) → List Int → Int → Int → Option ((List (S39)) × (List (S39)) × List Int × Int × Int × Int)
 | 0, _, _, _, _, _, _, _ => none
 | k + 1, x5, x10, x450000, x450001, x451000, x451001, x451002 => if x10 = true then (some (([] : List (S39)), ([] : List (S39)), ([] : List Int), 0, 0, 1)) else (if x5 < 0 then (some (([] : List (S39)), ([] : List (S39)), ([] : List Int), 0, 0, 4)) else (if 0 ≤ x5 then (if x5 ≤ (x450000.length : Int) then ((impl_ownBufs.f k (x450000.take (x5 : Int).toNat)).bind fun t458 => ((impl_behindBufs.f k x450001 x451000 x451001 x451002).bind fun t461 => (if x5 < (x450000.length : Int) then ((impl_ownBuf.f ((rd_T39 x450000 x5).f0) ((rd_T39 x450000 x5).f1) ((rd_T39 x450000 x5).f2)).bind fun bt465 => (some (t458, t461, bt465.1, bt465.2.1, bt465.2.2, 0))) else (none)))) else (none)) else (none)))
def impl_UndoBack.f (k : Nat) (l0_0 : List (S39)) (l0_1 : List (S39)) (l1_0 : List Int) (a1_1 : Int) (a1_2 : Int) : Option ((List (S39)) × (List (S39)) × List Int × Int × Int × Int) := (impl_UndoRight.f k l0_0 l0_1).bind fun t452 => (if t452 = true then ((impl_BufRight.f k l1_0 a1_1 a1_2).bind fun t453 => (impl_UndoBack.j0 k (wrap64 ((l0_0.length : Int) - 1)) (!t453) l0_0 l0_1 l1_0 a1_1 a1_2)) else (impl_UndoBack.j0 k (wrap64 ((l0_0.length : Int) - 1)) true l0_0 l0_1 l1_0 a1_1 a1_2))
theorem impl_UndoBack.mono_l : ∀ k, (∀ y0 y1 y2 y3 y4 y5 y6, LeO (impl_UndoBack.j0 k y0 y1 y2 y3 y4 y5 y6) (impl_UndoBack.j0 (k + 1) y0 y1 y2 y3 y4 y5 y6))
 | 0 => fun _ _ _ _ _ _ _ r h => by simp [impl_UndoBack.j0] at h
 | k + 1 => by
  have ih0 := impl_UndoBack.mono_l k
  ·intro y0 y1 y2 y3 y4 y5 y6
   unfold impl_UndoBack.j0
   repeat' first
   | (with_reducible exact ih0 _ _ _ _ _ _ _)
   | (with_reducible exact impl_BufRight.mono _ _ _ _)
   | (with_reducible exact impl_UndoRight.mono _ _ _)
   | (with_reducible exact impl_behindBufs.mono _ _ _ _ _)
   | (with_reducible exact impl_ownBufs.mono _ _)
   | (with_reducible exact LeO.refl _)
   | (with_reducible exact LeO.none _)
   | (with_reducible refine LeO.ite ?_ ?_)
   | (with_reducible refine LeO.bind ?_ (fun _ => ?_))
   | exact ih0 _ _ _ _ _ _ _
   | exact impl_BufRight.mono _ _ _ _
   | exact impl_UndoRight.mono _ _ _
   | exact impl_behindBufs.mono _ _ _ _ _
   | exact impl_ownBufs.mono _ _
   | exact LeO.none _
   | refine LeO.ite ?_ ?_
   | refine LeO.bind ?_ (fun _ => ?_)
theorem impl_UndoBack.mono : ∀ a0 a1 a2 a3 a4 k, LeO (impl_UndoBack.f k a0 a1 a2 a3 a4) (impl_UndoBack.f (k + 1) a0 a1 a2 a3 a4) := by
 intro a0 a1 a2 a3 a4 k
 have ih0 := impl_UndoBack.mono_l k
 unfold impl_UndoBack.f
 repeat' first
   | (with_reducible exact ih0 _ _ _ _ _ _ _)
   | (with_reducible exact impl_BufRight.mono _ _ _ _)
   | (with_reducible exact impl_UndoRight.mono _ _ _)
   | (with_reducible exact impl_behindBufs.mono _ _ _ _ _)
   | (with_reducible exact impl_ownBufs.mono _ _)
   | (with_reducible exact LeO.refl _)
   | (with_reducible exact LeO.none _)
   | (with_reducible refine LeO.ite ?_ ?_)
   | (with_reducible refine LeO.bind ?_ (fun _ => ?_))
   | exact ih0 _ _ _ _ _ _ _
   | exact impl_BufRight.mono _ _ _ _
   | exact impl_UndoRight.mono _ _ _
   | exact impl_behindBufs.mono _ _ _ _ _
   | exact impl_ownBufs.mono _ _
   | exact LeO.none _
   | refine LeO.ite ?_ ?_
   | refine LeO.bind ?_ (fun _ => ?_)
def impl_UndoBack.T6 : Bool × List (List Nat × List Nat) := (true, [([], []), ([0], [0]), ([], []), ([1, 2], [1, 2]), ([3], [3]), ([], []), ([5], [5]), ([], []), ([6, 7, 4], [6, 7]), ([4, 8], [4, 8]), ([], []), ([10], [10]), ([], []), ([11, 12], [11, 12]), ([13], [13]), ([14, 8], [14]), ([9, 15], [9, 15]), ([16, 15, 0, 1, 2, 3, 4, 5, 6, 7, 8, 9, 10, 11, 12, 13, 14, 15, 16], [16])])
def impl_UndoBack.B6 : List Nat := [0, 1, 0, 7, 15, 0, 32, 0, 255, 511, 0, 1024, 0, 7168, 15360, 32255, 65535, 131071]
theorem impl_UndoBack.tab6 : rtab .any (opsOf Try.f16 6) = impl_UndoBack.T6 := by kernel_rfl
theorem impl_UndoBack.bits6 : waitsOk impl_UndoBack.T6.2 impl_UndoBack.B6 = true := by kernel_rfl
set_option maxHeartbeats 8000000 in
set_option maxRecDepth 100000 in
theorem impl_UndoBack.calls (k : Nat) (A0_0 : Option Addr) (c0_0 : Nat) (l0_0 : List (S39)) (A0_1 : Option Addr) (c0_1 : Nat) (l0_1 : List (S39)) (A1_0 : Option Addr) (c1_0 : Nat) (l1_0 : List Int) (a1_1 : Int) (a1_2 : Int) (r1 : List (S39)) (r2 : List (S39)) (r3 : List Int) (r4 : Int) (r5 : Int) (r6 : Int) (w : World) (hr0_0 : Kd.C k39 w A0_0 l0_0.length l0_0) (hc0_0 : l0_0.length ≤ c0_0) (hr0_1 : Kd.C k39 w A0_1 l0_1.length l0_1) (hc0_1 : l0_1.length ≤ c0_1) (hr1_0 : Kd.C (Kd.int .i64) w A1_0 l1_0.length l1_0) (hc1_0 : l1_0.length ≤ c1_0) (h : impl_UndoBack.f k l0_0 l0_1 l1_0 a1_1 a1_2 = some (r1, r2, r3, r4, r5, r6)) :
  Calls Try.prog 16 #[.agg #[.slice A0_0 l0_0.length c0_0, .slice A0_1 l0_1.length c0_1], .agg #[.slice A1_0 l1_0.length c1_0, .int .i64 a1_1, .int .i64 a1_2]] w fun e w' => ∃ v0_ v1_ v2_ : Value, e = .returned (.agg #[v0_, v1_, v2_, .int .i64 r4, .int .i64 r5, .int .i64 r6]) ∧ Kd.S k39 39 w' w.heap.size (fun k_ => some k_ ≠ (v1_ : Value).ownBlock ∧ some k_ ≠ (v2_ : Value).ownBlock) v0_ r1 ∧ Kd.Q k39 39 w' w.heap.size (fun k_ => some k_ ≠ (v0_ : Value).ownBlock ∧ some k_ ≠ (v2_ : Value).ownBlock) v1_ r2 ∧ Kd.R (Kd.int .i64) 2 w' w.heap.size (fun _ => True) v2_ r3 ∧ Below w.heap.size w w' := by
 have hu36 := Try.underlying36
 have hu39 := Try.underlying39
 have hu43 := Try.underlying43
 have HR0_0 := am hr0_0
 have HC0_0 := am hc0_0
 clear hr0_0 hc0_0
 have HR0_1 := am hr0_1
 have HC0_1 := am hc0_1
 clear hr0_1 hc0_1
 have HR1_0 := am hr1_0
 have HC1_0 := am hc1_0
 clear hr1_0 hc1_0
 have HB := am (Below.refl w.heap.size w)
 have H : ((impl_UndoRight.f k l0_0 l0_1).bind fun t452 => (if t452 = true then ((impl_BufRight.f k l1_0 a1_1 a1_2).bind fun t453 => (impl_UndoBack.j0 k (wrap64 ((l0_0.length : Int) - 1)) (!t453) l0_0 l0_1 l1_0 a1_1 a1_2)) else (impl_UndoBack.j0 k (wrap64 ((l0_0.length : Int) - 1)) true l0_0 l0_1 l1_0 a1_1 a1_2))) = some (r1, r2, r3, r4, r5, r6) := h
 clear h
 have HC3 := Aside0.mk H
 clear H
 go_enter Try.func16, Try.ntmps16
 go_upto_region 2 with (first | ((with_reducible refine gate_dst (N := 2) rfl ?_); refine box_event ?hg (N := 2) ?hd (cs := #[.slice A0_0 l0_0.length c0_0, .slice A0_1 l0_1.length c0_1]) (t := 36) ?hr ?_; (case hd => rfl); (case hg => rfl); (case hr => first | (go_simp; done) | (go_simp; rfl)); intro gb449 hg w4 hbox hb; have BK449 := am (hbox); have GW449 := am ((by rw [hg]; exact (below_size (bl HB.out)) : w.heap.size ≤ gb449)); have GE449 := GW449; replace HB := am (below_step (bl HB.out) hb); clear hb hbox hg) | ((with_reducible refine gate_dst (N := 3) rfl ?_); refine box_event ?hg (N := 3) ?hd (cs := #[.slice A1_0 l1_0.length c1_0, .int .i64 a1_1, .int .i64 a1_2]) (t := 39) ?hr ?_; (case hd => rfl); (case hg => rfl); (case hr => first | (go_simp; done) | (go_simp; rfl)); intro gb450 hg w5 hbox hb; have BK450 := am (hbox); have GW450 := am ((by rw [hg]; exact (below_size (bl HB.out)) : w.heap.size ≤ gb450)); have GE450 := GW450; replace HB := am (below_step (bl HB.out) hb); have NB449_450 := am ((by rw [hg]; exact Nat.ne_of_lt (blk_lt (pk BK449.out)) : gb449 ≠ gb450)); have NB450_449 := am ((by rw [hg]; exact Nat.ne_of_gt (blk_lt (pk BK449.out)) : gb450 ≠ gb449)); replace BK449 := am (blk_below (pk BK449.out) hb); clear hb hbox hg) | ((with_reducible refine gate_dst (N := 4) rfl ?_); refine box_event ?hg (N := 4) ?hd (cs := #[.slice none 0 0, .slice none 0 0, .slice none 0 0, .int .i64 0, .int .i64 0, .int .i64 0]) (t := 43) ?hr ?_; (case hd => rfl); (case hg => rfl); (case hr => first | (go_simp; done) | (go_simp; rfl)); intro gb451 hg w6 hbox hb; have BK451 := am (hbox); have GW451 := am ((by rw [hg]; exact (below_size (bl HB.out)) : w.heap.size ≤ gb451)); have GE451 := GW451; replace HB := am (below_step (bl HB.out) hb); have NB449_451 := am ((by rw [hg]; exact Nat.ne_of_lt (blk_lt (pk BK449.out)) : gb449 ≠ gb451)); have NB451_449 := am ((by rw [hg]; exact Nat.ne_of_gt (blk_lt (pk BK449.out)) : gb451 ≠ gb449)); replace BK449 := am (blk_below (pk BK449.out) hb); have NB450_451 := am ((by rw [hg]; exact Nat.ne_of_lt (blk_lt (pk BK450.out)) : gb450 ≠ gb451)); have NB451_450 := am ((by rw [hg]; exact Nat.ne_of_gt (blk_lt (pk BK450.out)) : gb451 ≠ gb450)); replace BK450 := am (blk_below (pk BK450.out) hb); clear hb hbox hg; have hnb7 := NB449_450.out; have hnc7 := NB450_449.out; have hnb8 := NB449_451.out; have hnc8 := NB451_449.out; have hcz9_0 : w6.cell? ⟨gb449, 0, none⟩ = some (.slice A0_0 l0_0.length c0_0) := bc BK449.out 0; have hcz9_1 : w6.cell? ⟨gb449, 1, none⟩ = some (.slice A0_1 l0_1.length c0_1) := bc BK449.out 1; have hfz9_0 := blk_frozen BK449.out 0; have hfz9_1 := blk_frozen BK449.out 1))
 (try simp only [Act.put, sa_, s0_, ss_])
 go_cut [10] (fun v10 wc => ∃ (kq : Nat) (x10_2 : Bool), v10 = .bool x10_2 ∧ Aside0 (impl_UndoBack.j0 kq (wrap64 ((l0_0.length : Int) - 1)) x10_2 l0_0 l0_1 l1_0 a1_1 a1_2 = some (r1, r2, r3, r4, r5, r6)) ∧ Aside0 (kq ≤ k) ∧ Aside0 (wc.heap[gb449]? = some (.cells #[(.slice A0_0 l0_0.length c0_0), (.slice A0_1 l0_1.length c0_1)] 36 (0, 0))) ∧ Aside0 (wc.heap[gb450]? = some (.cells #[(.slice A1_0 l1_0.length c1_0), .int .i64 a1_1, .int .i64 a1_2] 39 (0, 0))) ∧ Aside0 (wc.heap[gb451]? = some (.cells #[(.slice none 0 0), (.slice none 0 0), (.slice none 0 0), .int .i64 0, .int .i64 0, .int .i64 0] 43 (0, 0))) ∧ Aside0 (Below w.heap.size w wc))
 case first =>
  have H := HC3.out
  clear HC3
  replace H := Option.bind_eq_some_iff.mp H
  obtain ⟨t452, A100, H⟩ := H
  replace H : (if t452 = true then ((impl_BufRight.f k l1_0 a1_1 a1_2).bind fun t453 => (impl_UndoBack.j0 k (wrap64 ((l0_0.length : Int) - 1)) (!t453) l0_0 l0_1 l1_0 a1_1 a1_2)) else (impl_UndoBack.j0 k (wrap64 ((l0_0.length : Int) - 1)) true l0_0 l0_1 l1_0 a1_1 a1_2)) = some (r1, r2, r3, r4, r5, r6) := H
  have A10 := Aside0.mk A100
  clear A100
  by_cases c11 : t452 = true
  ·subst c11
   have H1 : ((impl_BufRight.f k l1_0 a1_1 a1_2).bind fun t453 => (impl_UndoBack.j0 k (wrap64 ((l0_0.length : Int) - 1)) (!t453) l0_0 l0_1 l1_0 a1_1 a1_2)) = some (r1, r2, r3, r4, r5, r6) := by rw [if_pos rfl] at H; exact H
   clear H
   have H := H1
   clear H1
   replace H := Option.bind_eq_some_iff.mp H
   obtain ⟨t453, A120, H⟩ := H
   replace H : (impl_UndoBack.j0 k (wrap64 ((l0_0.length : Int) - 1)) (!t453) l0_0 l0_1 l1_0 a1_1 a1_2) = some (r1, r2, r3, r4, r5, r6) := H
   have A12 := Aside0.mk A120
   clear A120
   have H' := Aside0.mk H
   clear H
   have hnb13 := NB449_450.out
   have hnc13 := NB450_449.out
   have hnb14 := NB449_451.out
   have hnc14 := NB451_449.out
   have hcz15_0 : w6.cell? ⟨gb449, 0, none⟩ = some (.slice A0_0 l0_0.length c0_0) := bc BK449.out 0
   have hcz15_1 : w6.cell? ⟨gb449, 1, none⟩ = some (.slice A0_1 l0_1.length c0_1) := bc BK449.out 1
   have hfz15_0 := blk_frozen BK449.out 0
   have hfz15_1 := blk_frozen BK449.out 1
   go_wp2_with (first | ((with_reducible refine gate_callee (f := 18) rfl ?_); refine gl (some 12) Try.func18 #[.agg #[.slice A0_0 l0_0.length c0_0, .slice A0_1 l0_1.length c0_1]] ?_; (with_reducible refine (impl_UndoRight.calls k _ _ l0_0 _ _ l0_1 true _ ?side1 ?side2 ?side3 ?side4 A10.out).mono ?_); (case side1 => repeat (first | exact (Kd.C_below HR0_0.out HB.out) | (with_reducible refine Kd.C_alloc ?_ _) | (with_reducible refine Kd.C_drewN ?_ _) | (with_reducible refine Kd.C_drew ?_))); (case side2 => exact HC0_0.out); (case side3 => repeat (first | exact (Kd.C_below HR0_1.out HB.out) | (with_reducible refine Kd.C_alloc ?_ _) | (with_reducible refine Kd.C_drewN ?_ _) | (with_reducible refine Kd.C_drew ?_))); (case side4 => exact HC0_1.out); rintro e w16 ⟨rfl, hb⟩; refine ⟨_, rfl, ?_⟩; replace BK449 := am (blk_below (pk BK449.out) hb); replace BK450 := am (blk_below (pk BK450.out) hb); replace BK451 := am (blk_below (pk BK451.out) hb); replace HB := am (below_step (bl HB.out) hb); (try clear hb); (try clear hb2); (try clear hk); (try clear hi); have hnb17 := NB450_451.out; have hnc17 := NB451_450.out; have hcz18_0 : w16.cell? ⟨gb450, 0, none⟩ = some (.slice A1_0 l1_0.length c1_0) := bc BK450.out 0; have hcz18_1 : w16.cell? ⟨gb450, 1, none⟩ = some (.int .i64 a1_1) := bc BK450.out 1; have hcz18_2 : w16.cell? ⟨gb450, 2, none⟩ = some (.int .i64 a1_2) := bc BK450.out 2; have hfz18_0 := blk_frozen BK450.out 0; have hfz18_1 := blk_frozen BK450.out 1; have hfz18_2 := blk_frozen BK450.out 2) | (go_at_call 63; (with_reducible refine (impl_BufRight.calls k _ _ l1_0 a1_1 a1_2 t453 _ ?side1 ?side2 A12.out).mono ?_); (case side1 => repeat (first | exact (Kd.C_below HR1_0.out HB.out) | (with_reducible refine Kd.C_alloc ?_ _) | (with_reducible refine Kd.C_drewN ?_ _) | (with_reducible refine Kd.C_drew ?_))); (case side2 => exact HC1_0.out); rintro e w19 ⟨rfl, hb⟩; replace BK449 := am (blk_below (pk BK449.out) hb); replace BK450 := am (blk_below (pk BK450.out) hb); replace BK451 := am (blk_below (pk BK451.out) hb); replace HB := am (below_step (bl HB.out) hb); (try clear hb); (try clear hb2); (try clear hk); (try clear hi)))
   go_meet
   case rel => exact ⟨_, (!t453), (by first | rfl | (simp; done) | (simp [*]; done)), H', ⟨by first | omega | exact Nat.le_refl _⟩, ⟨pk BK449.out⟩, ⟨pk BK450.out⟩, ⟨pk BK451.out⟩, ⟨by repeat (first | (with_reducible first | exact HB.out | apply below_alloc | apply pw_below_drewN | apply below_drew1 | refine below_set ?_ GE449.out | refine below_set ?_ GE450.out | refine below_set ?_ GE451.out) | exact HB.out)⟩⟩
  ·replace c11 := Bool.eq_false_iff.mpr c11
   subst c11
   have H1 : (impl_UndoBack.j0 k (wrap64 ((l0_0.length : Int) - 1)) true l0_0 l0_1 l1_0 a1_1 a1_2) = some (r1, r2, r3, r4, r5, r6) := by rw [if_neg (show ¬ (false = true) by decide)] at H; exact H
   clear H
   have H := H1
   clear H1
   have H' := Aside0.mk H
   clear H
   have hnb20 := NB449_450.out
   have hnc20 := NB450_449.out
   have hnb21 := NB449_451.out
   have hnc21 := NB451_449.out
   have hcz22_0 : w6.cell? ⟨gb449, 0, none⟩ = some (.slice A0_0 l0_0.length c0_0) := bc BK449.out 0
   have hcz22_1 : w6.cell? ⟨gb449, 1, none⟩ = some (.slice A0_1 l0_1.length c0_1) := bc BK449.out 1
   have hfz22_0 := blk_frozen BK449.out 0
   have hfz22_1 := blk_frozen BK449.out 1
   go_wp2_with (first | ((with_reducible refine gate_callee (f := 18) rfl ?_); refine gl (some 12) Try.func18 #[.agg #[.slice A0_0 l0_0.length c0_0, .slice A0_1 l0_1.length c0_1]] ?_; (with_reducible refine (impl_UndoRight.calls k _ _ l0_0 _ _ l0_1 false _ ?side1 ?side2 ?side3 ?side4 A10.out).mono ?_); (case side1 => repeat (first | exact (Kd.C_below HR0_0.out HB.out) | (with_reducible refine Kd.C_alloc ?_ _) | (with_reducible refine Kd.C_drewN ?_ _) | (with_reducible refine Kd.C_drew ?_))); (case side2 => exact HC0_0.out); (case side3 => repeat (first | exact (Kd.C_below HR0_1.out HB.out) | (with_reducible refine Kd.C_alloc ?_ _) | (with_reducible refine Kd.C_drewN ?_ _) | (with_reducible refine Kd.C_drew ?_))); (case side4 => exact HC0_1.out); rintro e w23 ⟨rfl, hb⟩; refine ⟨_, rfl, ?_⟩; replace BK449 := am (blk_below (pk BK449.out) hb); replace BK450 := am (blk_below (pk BK450.out) hb); replace BK451 := am (blk_below (pk BK451.out) hb); replace HB := am (below_step (bl HB.out) hb); (try clear hb); (try clear hb2); (try clear hk); (try clear hi)))
   go_meet
   case rel => exact ⟨_, (true), (by first | rfl | (simp; done) | (simp [*]; done)), H', ⟨by first | omega | exact Nat.le_refl _⟩, ⟨pk BK449.out⟩, ⟨pk BK450.out⟩, ⟨pk BK451.out⟩, ⟨by repeat (first | (with_reducible first | exact HB.out | apply below_alloc | apply pw_below_drewN | apply below_drew1 | refine below_set ?_ GE449.out | refine below_set ?_ GE450.out | refine below_set ?_ GE451.out) | exact HB.out)⟩⟩
 case rest =>
  clear HC3
  try clear c1
  try clear c2
  try clear p2
  try clear p6
  try clear c7
  try clear c8
  try clear c11
  try clear c13
  try clear c14
  try clear c16
  try clear c17
  try clear c18
  try clear c20
  try clear c21
  try clear hcz15_0
  try clear hcz15_1
  try clear hcz18_0
  try clear hcz18_1
  try clear hcz18_2
  try clear hcz22_0
  try clear hcz22_1
  try clear hcz9_0
  try clear hcz9_1
  try clear hfz15_0
  try clear hfz15_1
  try clear hfz18_0
  try clear hfz18_1
  try clear hfz18_2
  try clear hfz22_0
  try clear hfz22_1
  try clear hfz9_0
  try clear hfz9_1
  obtain ⟨kq, x10_2, rfl, HA, HJ2, BK449, BK450, BK451, HB⟩ := hcut
  cases kq with
  | zero => exact absurd HA.out (by simp [impl_UndoBack.j0])
  | succ kj2 =>
   have H := HA.out
   clear HA
   simp only [impl_UndoBack.j0] at H
   by_cases c24 : x10_2 = true
   ·subst c24
    have H1 : (some (([] : List (S39)), ([] : List (S39)), ([] : List Int), 0, 0, 1)) = some (r1, r2, r3, r4, r5, r6) := by rw [if_pos rfl] at H; exact H
    clear H
    have H := H1
    clear H1
    simp only [Option.some.injEq, Prod.mk.injEq] at H
    obtain ⟨rfl, rfl, rfl, rfl, rfl, rfl⟩ := H
    have hnb25 := NB451_449.out
    have hnc25 := NB449_451.out
    have hnb26 := NB451_450.out
    have hnc26 := NB450_451.out
    have hcz27_0 : wc.cell? ⟨gb451, 0, none⟩ = some (.slice none 0 0) := bc BK451.out 0
    have hcz27_1 : wc.cell? ⟨gb451, 1, none⟩ = some (.slice none 0 0) := bc BK451.out 1
    have hcz27_2 : wc.cell? ⟨gb451, 2, none⟩ = some (.slice none 0 0) := bc BK451.out 2
    have hcz27_3 : wc.cell? ⟨gb451, 3, none⟩ = some (.int .i64 0) := bc BK451.out 3
    have hcz27_4 : wc.cell? ⟨gb451, 4, none⟩ = some (.int .i64 0) := bc BK451.out 4
    have hcz27_5 : wc.cell? ⟨gb451, 5, none⟩ = some (.int .i64 0) := bc BK451.out 5
    have hfz27_0 := blk_frozen BK451.out 0
    have hfz27_1 := blk_frozen BK451.out 1
    have hfz27_2 := blk_frozen BK451.out 2
    have hfz27_3 := blk_frozen BK451.out 3
    have hfz27_4 := blk_frozen BK451.out 4
    have hfz27_5 := blk_frozen BK451.out 5
    go_wp2
    refine bodyPost_ret (results_cell_row rfl _ _ gb451 43 #[.slice none 0 0, .slice none 0 0, .slice none 0 0, .int .i64 0, .int .i64 0, .int .i64 1] (0, 0) _ rfl (by (with_reducible repeat (first | refine blk_drewN ?_ _ | refine blk_drew ?_ | refine blk_alloc ?_ _)); refine blk_put (cs := #[.slice none 0 0, .slice none 0 0, .slice none 0 0, .int .i64 0, .int .i64 0, .int .i64 0]) ?_ 5 _ rfl; (with_reducible repeat (first | refine blk_drewN ?_ _ | refine blk_drew ?_ | refine blk_alloc ?_ _)); refine blk_put (cs := #[.slice none 0 0, .slice none 0 0, .slice none 0 0, .int .i64 0, .int .i64 0, .int .i64 0]) ?_ 4 _ rfl; (with_reducible repeat (first | refine blk_drewN ?_ _ | refine blk_drew ?_ | refine blk_alloc ?_ _)); refine blk_put (cs := #[.slice none 0 0, .slice none 0 0, .slice none 0 0, .int .i64 0, .int .i64 0, .int .i64 0]) ?_ 3 _ rfl; (with_reducible repeat (first | refine blk_drewN ?_ _ | refine blk_drew ?_ | refine blk_alloc ?_ _)); refine blk_put (cs := #[.slice none 0 0, .slice none 0 0, .slice none 0 0, .int .i64 0, .int .i64 0, .int .i64 0]) ?_ 2 _ rfl; (with_reducible repeat (first | refine blk_drewN ?_ _ | refine blk_drew ?_ | refine blk_alloc ?_ _)); refine blk_put (cs := #[.slice none 0 0, .slice none 0 0, .slice none 0 0, .int .i64 0, .int .i64 0, .int .i64 0]) ?_ 1 _ rfl; (with_reducible repeat (first | refine blk_drewN ?_ _ | refine blk_drew ?_ | refine blk_alloc ?_ _)); refine blk_put (cs := #[.slice none 0 0, .slice none 0 0, .slice none 0 0, .int .i64 0, .int .i64 0, .int .i64 0]) ?_ 0 _ rfl; (with_reducible repeat (first | refine blk_drewN ?_ _ | refine blk_drew ?_ | refine blk_alloc ?_ _)); exact BK451.out) Try.underlying43 rfl (by kernel_rfl)) rfl ?_
    exact ⟨_, _, _, by first | rfl | (simp [errW_none, errW_some] <;> rfl) | (simp [*, errW_none, errW_some] <;> rfl), by first | exact Kd.S_nil _ _ _ _ _ | exact Kd.N_nil _ _ _ _ _ | exact Kd.V_nil _ _ _ _ _ | exact Kd.Q_nil _ _ _ _ _ | exact Kd.R_nil _ _ _ _ _, Kd.Q_of_R ((Kd.S_R (by first | exact Kd.S_nil _ _ _ _ _ | exact Kd.N_nil _ _ _ _ _ | exact Kd.V_nil _ _ _ _ _ | exact Kd.Q_nil _ _ _ _ _ | exact Kd.R_nil _ _ _ _ _))), by first | exact Kd.R_nil _ _ _ _ _ | exact Kd.N_nil _ _ _ _ _ | exact Kd.V_nil _ _ _ _ _ | exact Kd.Q_nil _ _ _ _ _ | exact Kd.S_nil _ _ _ _ _, by repeat (first | (with_reducible first | exact HB.out | apply below_alloc | apply pw_below_drewN | apply below_drew1 | refine below_set ?_ GE449.out | refine below_set ?_ GE450.out | refine below_set ?_ GE451.out) | exact HB.out)⟩
   ·replace c24 := Bool.eq_false_iff.mpr c24
    subst c24
    have H1 : (if (wrap64 ((l0_0.length : Int) - 1)) < 0 then (some (([] : List (S39)), ([] : List (S39)), ([] : List Int), 0, 0, 4)) else (if 0 ≤ (wrap64 ((l0_0.length : Int) - 1)) then (if (wrap64 ((l0_0.length : Int) - 1)) ≤ (l0_0.length : Int) then ((impl_ownBufs.f kj2 (l0_0.take ((wrap64 ((l0_0.length : Int) - 1)) : Int).toNat)).bind fun t458 => ((impl_behindBufs.f kj2 l0_1 l1_0 a1_1 a1_2).bind fun t461 => (if (wrap64 ((l0_0.length : Int) - 1)) < (l0_0.length : Int) then ((impl_ownBuf.f ((rd_T39 l0_0 (wrap64 ((l0_0.length : Int) - 1))).f0) ((rd_T39 l0_0 (wrap64 ((l0_0.length : Int) - 1))).f1) ((rd_T39 l0_0 (wrap64 ((l0_0.length : Int) - 1))).f2)).bind fun bt465 => (some (t458, t461, bt465.1, bt465.2.1, bt465.2.2, 0))) else (none)))) else (none)) else (none))) = some (r1, r2, r3, r4, r5, r6) := by rw [if_neg (show ¬ (false = true) by decide)] at H; exact H
    clear H
    have H := H1
    clear H1
    by_cases c28 : (wrap64 ((l0_0.length : Int) - 1)) < 0
    ·rw [if_pos c28] at H
     have c28b0 : decide ((wrap64 ((l0_0.length : Int) - 1)) < 0) = true := decide_eq_true c28
     clear c28
     simp only [Option.some.injEq, Prod.mk.injEq] at H
     obtain ⟨rfl, rfl, rfl, rfl, rfl, rfl⟩ := H
     have hnb29 := NB451_449.out
     have hnc29 := NB449_451.out
     have hnb30 := NB451_450.out
     have hnc30 := NB450_451.out
     have hcz31_0 : wc.cell? ⟨gb451, 0, none⟩ = some (.slice none 0 0) := bc BK451.out 0
     have hcz31_1 : wc.cell? ⟨gb451, 1, none⟩ = some (.slice none 0 0) := bc BK451.out 1
     have hcz31_2 : wc.cell? ⟨gb451, 2, none⟩ = some (.slice none 0 0) := bc BK451.out 2
     have hcz31_3 : wc.cell? ⟨gb451, 3, none⟩ = some (.int .i64 0) := bc BK451.out 3
     have hcz31_4 : wc.cell? ⟨gb451, 4, none⟩ = some (.int .i64 0) := bc BK451.out 4
     have hcz31_5 : wc.cell? ⟨gb451, 5, none⟩ = some (.int .i64 0) := bc BK451.out 5
     have hfz31_0 := blk_frozen BK451.out 0
     have hfz31_1 := blk_frozen BK451.out 1
     have hfz31_2 := blk_frozen BK451.out 2
     have hfz31_3 := blk_frozen BK451.out 3
     have hfz31_4 := blk_frozen BK451.out 4
     have hfz31_5 := blk_frozen BK451.out 5
     go_wp2
     refine bodyPost_ret (results_cell_row rfl _ _ gb451 43 #[.slice none 0 0, .slice none 0 0, .slice none 0 0, .int .i64 0, .int .i64 0, .int .i64 4] (0, 0) _ rfl (by (with_reducible repeat (first | refine blk_drewN ?_ _ | refine blk_drew ?_ | refine blk_alloc ?_ _)); refine blk_put (cs := #[.slice none 0 0, .slice none 0 0, .slice none 0 0, .int .i64 0, .int .i64 0, .int .i64 0]) ?_ 5 _ rfl; (with_reducible repeat (first | refine blk_drewN ?_ _ | refine blk_drew ?_ | refine blk_alloc ?_ _)); refine blk_put (cs := #[.slice none 0 0, .slice none 0 0, .slice none 0 0, .int .i64 0, .int .i64 0, .int .i64 0]) ?_ 4 _ rfl; (with_reducible repeat (first | refine blk_drewN ?_ _ | refine blk_drew ?_ | refine blk_alloc ?_ _)); refine blk_put (cs := #[.slice none 0 0, .slice none 0 0, .slice none 0 0, .int .i64 0, .int .i64 0, .int .i64 0]) ?_ 3 _ rfl; (with_reducible repeat (first | refine blk_drewN ?_ _ | refine blk_drew ?_ | refine blk_alloc ?_ _)); refine blk_put (cs := #[.slice none 0 0, .slice none 0 0, .slice none 0 0, .int .i64 0, .int .i64 0, .int .i64 0]) ?_ 2 _ rfl; (with_reducible repeat (first | refine blk_drewN ?_ _ | refine blk_drew ?_ | refine blk_alloc ?_ _)); refine blk_put (cs := #[.slice none 0 0, .slice none 0 0, .slice none 0 0, .int .i64 0, .int .i64 0, .int .i64 0]) ?_ 1 _ rfl; (with_reducible repeat (first | refine blk_drewN ?_ _ | refine blk_drew ?_ | refine blk_alloc ?_ _)); refine blk_put (cs := #[.slice none 0 0, .slice none 0 0, .slice none 0 0, .int .i64 0, .int .i64 0, .int .i64 0]) ?_ 0 _ rfl; (with_reducible repeat (first | refine blk_drewN ?_ _ | refine blk_drew ?_ | refine blk_alloc ?_ _)); exact BK451.out) Try.underlying43 rfl (by kernel_rfl)) rfl ?_
     exact ⟨_, _, _, by first | rfl | (simp [errW_none, errW_some] <;> rfl) | (simp [*, errW_none, errW_some] <;> rfl), by first | exact Kd.S_nil _ _ _ _ _ | exact Kd.N_nil _ _ _ _ _ | exact Kd.V_nil _ _ _ _ _ | exact Kd.Q_nil _ _ _ _ _ | exact Kd.R_nil _ _ _ _ _, Kd.Q_of_R ((Kd.S_R (by first | exact Kd.S_nil _ _ _ _ _ | exact Kd.N_nil _ _ _ _ _ | exact Kd.V_nil _ _ _ _ _ | exact Kd.Q_nil _ _ _ _ _ | exact Kd.R_nil _ _ _ _ _))), by first | exact Kd.R_nil _ _ _ _ _ | exact Kd.N_nil _ _ _ _ _ | exact Kd.V_nil _ _ _ _ _ | exact Kd.Q_nil _ _ _ _ _ | exact Kd.S_nil _ _ _ _ _, by repeat (first | (with_reducible first | exact HB.out | apply below_alloc | apply pw_below_drewN | apply below_drew1 | refine below_set ?_ GE449.out | refine below_set ?_ GE450.out | refine below_set ?_ GE451.out) | exact HB.out)⟩
    ·rw [if_neg c28] at H
     have c28b0 : decide ((wrap64 ((l0_0.length : Int) - 1)) < 0) = false := decide_eq_false c28
     clear c28
     obtain ⟨ji32, hji32⟩ : ∃ j_ : Int, (wrap64 ((l0_0.length : Int) - 1)) = j_ := ⟨_, rfl⟩
     replace H : (if 0 ≤ (ji32) then (if (ji32) ≤ (l0_0.length : Int) then ((impl_ownBufs.f kj2 (l0_0.take ((ji32) : Int).toNat)).bind fun t458 => ((impl_behindBufs.f kj2 l0_1 l1_0 a1_1 a1_2).bind fun t461 => (if (ji32) < (l0_0.length : Int) then ((impl_ownBuf.f ((rd_T39 l0_0 (ji32)).f0) ((rd_T39 l0_0 (ji32)).f1) ((rd_T39 l0_0 (ji32)).f2)).bind fun bt465 => (some (t458, t461, bt465.1, bt465.2.1, bt465.2.2, 0))) else (none)))) else (none)) else (none)) = some (r1, r2, r3, r4, r5, r6) := by first | (rw [hji32] at H; exact H) | (simp only [hji32] at H ⊢; exact H)
     (try rw [hji32] at c28b0)
     have hji32w : (IntKind.i64.wrap ((l0_0.length : Int) - 1)) = ji32 := (i64_w _).trans hji32
     by_cases c33 : 0 ≤ (ji32)
     ·rw [if_pos c33] at H
      have c33b0 := eq_true c33
      have c33b1 : decide (0 ≤ (ji32)) = true := decide_eq_true c33
      clear c33
      by_cases c34 : (ji32) ≤ (l0_0.length : Int)
      ·rw [if_pos c34] at H
       have c34b0 := eq_true c34
       have c34b1 : decide ((ji32) ≤ (l0_0.length : Int)) = true := decide_eq_true c34
       clear c34
       obtain ⟨y454, hy454⟩ : ∃ y_ : List (S39), y_ = (l0_0.take ((ji32) : Int).toNat) := ⟨_, rfl⟩
       replace H : ((impl_ownBufs.f kj2 y454).bind fun t458 => ((impl_behindBufs.f kj2 l0_1 l1_0 a1_1 a1_2).bind fun t461 => (if (ji32) < (l0_0.length : Int) then ((impl_ownBuf.f ((rd_T39 l0_0 (ji32)).f0) ((rd_T39 l0_0 (ji32)).f1) ((rd_T39 l0_0 (ji32)).f2)).bind fun bt465 => (some (t458, t461, bt465.1, bt465.2.1, bt465.2.2, 0))) else (none)))) = some (r1, r2, r3, r4, r5, r6) := by first | (rw [hy454]; with_reducible exact H) | (have H2_ := (Option.bind_some _ _).symm.trans H; rw [hy454]; with_reducible exact H2_) | (have H2_ := (Option.bind_some _ _).symm.trans H; with_reducible exact H2_) | with_reducible exact H | (rw [hy454]; exact H) | exact H
       have Ny454 := am hy454
       clear hy454
       replace H := Option.bind_eq_some_iff.mp H
       obtain ⟨t458, A350, H⟩ := H
       replace H : ((impl_behindBufs.f kj2 l0_1 l1_0 a1_1 a1_2).bind fun t461 => (if (ji32) < (l0_0.length : Int) then ((impl_ownBuf.f ((rd_T39 l0_0 (ji32)).f0) ((rd_T39 l0_0 (ji32)).f1) ((rd_T39 l0_0 (ji32)).f2)).bind fun bt465 => (some (t458, t461, bt465.1, bt465.2.1, bt465.2.2, 0))) else (none))) = some (r1, r2, r3, r4, r5, r6) := H
       have A35 := Aside0.mk A350
       clear A350
       replace H := Option.bind_eq_some_iff.mp H
       obtain ⟨t461, A360, H⟩ := H
       replace H : (if (ji32) < (l0_0.length : Int) then ((impl_ownBuf.f ((rd_T39 l0_0 (ji32)).f0) ((rd_T39 l0_0 (ji32)).f1) ((rd_T39 l0_0 (ji32)).f2)).bind fun bt465 => (some (t458, t461, bt465.1, bt465.2.1, bt465.2.2, 0))) else (none)) = some (r1, r2, r3, r4, r5, r6) := H
       have A36 := Aside0.mk A360
       clear A360
       by_cases c37 : (ji32) < (l0_0.length : Int)
       ·rw [if_pos c37] at H
        have c37b0 : decide ((ji32) < (l0_0.length : Int)) = true := decide_eq_true c37
        clear c37
        replace H := Option.bind_eq_some_iff.mp H
        obtain ⟨⟨t465, t468, t469⟩, A380, H⟩ := H
        replace H : (some (t458, t461, t465, t468, t469, 0)) = some (r1, r2, r3, r4, r5, r6) := H
        have A38 := Aside0.mk A380
        clear A380
        simp only [Option.some.injEq, Prod.mk.injEq] at H
        obtain ⟨rfl, rfl, rfl, rfl, rfl, rfl⟩ := H
        try go_wp2
        replace BK449 := am (blk_drew BK449.out)
        replace BK450 := am (blk_drew BK450.out)
        replace BK451 := am (blk_drew BK451.out)
        replace HB := am (below_drew1 HB.out)
        have q40 : ((ji32) : Int) ≤ ((l0_0.length : Int) : Int) := of_decide_eq_true (by first | (with_reducible assumption) | assumption)
        obtain ⟨i040, hi040, _, hsz40, _⟩ := info_parts info39
        have hroom40 : l0_0.length ≤ c0_0 := HC0_0.out
        have hC40 : Kd.C k39 _ A0_0 l0_0.length l0_0 := HR0_0.out
        have hcut40 := cut_to (P := Try.prog) 34 39 .i64 Try.underlying34 hi040 A0_0 l0_0.length c0_0 (ji32) (of_decide_eq_true (by first | (with_reducible assumption) | assumption)) q40 hroom40
        have hr40 := Kd.C_take (m := ((ji32) : Int).toNat) hC40 (by omega)
        have hy40 : y454.length = ((ji32) : Int).toNat := (by rw [Ny454.out, List.length_take]; omega)
        rw [← Ny454.out] at hr40
        rw [← hy40] at hcut40
        have HR457 := am hr40
        have HC457 := am (show y454.length ≤ c0_0 from by omega)
        clear hr40 hC40 hroom40 hi040 hsz40
        have KY40 := am hy40
        clear hy40
        replace q40 := eq_true q40
        have p464 : 0 ≤ ((ji32) : Int) := of_decide_eq_true (by first | (with_reducible assumption) | assumption)
        have q464 : (ji32) < (l0_0.length : Int) := of_decide_eq_true (by first | (with_reducible assumption) | assumption)
        obtain ⟨ad464, A464_0, c464_0, e464, hx464_0, hx464_1, hx464_2, hl464_0, hi464_0⟩ := at_T39 HR0_0.out (ji32) p464 q464
        have hw464_2 := hx464_2
        have hw464_1 := hx464_1
        have hw464_0 := hx464_0
        cases e464
        have hxw464_0 := hx464_0
        replace hx464_0 := (HB.out.cell (World.block_lt_of_cell? w _ hx464_0)).trans hx464_0
        have hxw464_1 := hx464_1
        replace hx464_1 := (HB.out.cell (World.block_lt_of_cell? w _ hx464_1)).trans hx464_1
        have hxw464_2 := hx464_2
        replace hx464_2 := (HB.out.cell (World.block_lt_of_cell? w _ hx464_2)).trans hx464_2
        have HR464_0 := am hi464_0
        have HC464_0 := am hl464_0
        clear hi464_0 hl464_0
        replace p464 := eq_true p464
        replace q464 := eq_true q464
        refine start_ (n := 18) (S := fun w' => w'.cell? ⟨gb449, 0, none⟩ = some (.slice (some ad464) l0_0.length c0_0) ∧ w'.cell? ⟨gb449, 1, none⟩ = some (.slice A0_1 l0_1.length c0_1) ∧ w'.cell? ⟨gb450, 0, none⟩ = some (.slice A1_0 l1_0.length c1_0) ∧ w'.cell? ⟨gb450, 1, none⟩ = some (.int .i64 a1_1) ∧ w'.cell? ⟨gb450, 2, none⟩ = some (.int .i64 a1_2) ∧ w'.cell? (ad464.add (((ji32)).toNat * 3)) = some (.slice A464_0 ((rd_T39 l0_0 (ji32)).f0).length c464_0) ∧ w'.cell? ⟨(ad464.add (((ji32)).toNat * 3)).block, (ad464.add (((ji32)).toNat * 3)).off + 1, none⟩ = some (.int .i64 ((rd_T39 l0_0 (ji32)).f1)) ∧ w'.cell? ⟨(ad464.add (((ji32)).toNat * 3)).block, (ad464.add (((ji32)).toNat * 3)).off + 2, none⟩ = some (.int .i64 ((rd_T39 l0_0 (ji32)).f2))) (ds := []) #[false, false, false, false, false, false, false, false, false, false, false, false, false, false, false, false, false, false] (by kernel_rfl) rfl rfl ⟨bc BK449.out 0, bc BK449.out 1, bc BK450.out 0, bc BK450.out 1, bc BK450.out 2, ((HB.out.cell (World.block_lt_of_cell? _ _ hw464_0)).trans hw464_0), ((HB.out.cell (World.block_lt_of_cell? _ _ hw464_1)).trans hw464_1), ((HB.out.cell (World.block_lt_of_cell? _ _ hw464_2)).trans hw464_2)⟩ (fun hHeld => ?_); refine with_tabW impl_UndoBack.tab6 impl_UndoBack.bits6 (fun HT_ HW_ => ?_)
        generalize wc.drew = w39 at BK449 BK450 BK451 HB HR457 HR464_0 hx464_0 hx464_1 hx464_2 hHeld ⊢
        refine pure_ (i := 0) (N := some 24) (v := ?_) (a' := ?_) #[true, false, false, false, false, false, false, false, false, false, false, false, false, false, false, false, false, false] rfl rfl (any_of HT_.out (by kernel_rfl)) (fun _ _ _ h => h) (Or.inl ⟨by rfl, ?_⟩) ?_ ?_; rotate_left
        ·intro w'; go_simp; with_reducible rfl
        rotate_left
        ·simp only [Act.put, sa_, s0_, ss_, i64_w, i32_w]; rfl
        refine pure_ (i := 2) (N := some 26) (v := ?_) (a' := ?_) #[true, false, true, false, false, false, false, false, false, false, false, false, false, false, false, false, false, false] rfl rfl (any_of HT_.out (by kernel_rfl)) (fun _ _ _ h => h) (Or.inl ⟨by rfl, ?_⟩) ?_ ?_; rotate_left
        ·intro w'; go_simp; with_reducible rfl
        rotate_left
        ·simp only [Act.put, sa_, s0_, ss_, i64_w, i32_w]; rfl
        refine pure_ (i := 5) (N := some 29) (v := ?_) (a' := ?_) #[true, false, true, false, false, true, false, false, false, false, false, false, false, false, false, false, false, false] rfl rfl (any_of HT_.out (by kernel_rfl)) (fun _ _ _ h => h) (Or.inl ⟨by rfl, ?_⟩) ?_ ?_; rotate_left
        ·intro w'; go_simp; with_reducible rfl
        rotate_left
        ·simp only [Act.put, sa_, s0_, ss_, i64_w, i32_w]; rfl
        refine pure_ (i := 10) (N := some 34) (v := ?_) (a' := ?_) #[true, false, true, false, false, true, false, false, false, false, true, false, false, false, false, false, false, false] rfl rfl (any_of HT_.out (by kernel_rfl)) (fun _ _ _ h => h) (Or.inl ⟨by rfl, ?_⟩) ?_ ?_; rotate_left
        ·intro w'; go_simp; with_reducible rfl
        rotate_left
        ·simp only [Act.put, sa_, s0_, ss_, i64_w, i32_w]; rfl
        refine pure_ (i := 12) (N := some 36) (v := ?_) (a' := ?_) #[true, false, true, false, false, true, false, false, false, false, true, false, true, false, false, false, false, false] rfl rfl (any_of HT_.out (by kernel_rfl)) (fun _ _ _ h => h) (Or.inl ⟨by rfl, ?_⟩) ?_ ?_; rotate_left
        ·intro w'; go_simp; with_reducible rfl
        rotate_left
        ·simp only [Act.put, sa_, s0_, ss_, i64_w, i32_w]; rfl
        refine take_ (i := 1) (N := some 25) (v := ?_) (a' := ?_) #[true, true, true, false, false, true, false, false, false, false, true, false, true, false, false, false, false, false] rfl rfl (take_ofW HT_.out HW_.out (by kernel_rfl)) (fun _ _ _ h => h) (Or.inl ⟨by rfl, ?_⟩) hHeld ?_ ?_; rotate_left
        ·rintro w' ⟨s0, s1, s2, s3, s4, s5, s6, s7⟩; go_simp; with_reducible rfl
        rotate_left
        ·simp only [Act.put, sa_, s0_, ss_, i64_w, i32_w]; rfl
        refine pure_ (i := 3) (N := some 27) (v := ?_) (a' := ?_) #[true, true, true, true, false, true, false, false, false, false, true, false, true, false, false, false, false, false] rfl rfl (any_of HT_.out (by kernel_rfl)) (fun _ _ _ h => h) (Or.inl ⟨by rfl, ?_⟩) ?_ ?_; rotate_left
        ·intro w'; go_simp; with_reducible rfl
        rotate_left
        ·simp only [Act.put, sa_, s0_, ss_, i64_w, i32_w]; rfl
        refine take_ (i := 6) (N := some 30) (v := ?_) (a' := ?_) #[true, true, true, true, false, true, true, false, false, false, true, false, true, false, false, false, false, false] rfl rfl (take_ofW HT_.out HW_.out (by kernel_rfl)) (fun _ _ _ h => h) (Or.inl ⟨by rfl, ?_⟩) hHeld ?_ ?_; rotate_left
        ·rintro w' ⟨s0, s1, s2, s3, s4, s5, s6, s7⟩; go_simp; with_reducible rfl
        rotate_left
        ·simp only [Act.put, sa_, s0_, ss_, i64_w, i32_w]; rfl
        refine take_ (i := 7) (N := some 31) (v := ?_) (a' := ?_) #[true, true, true, true, false, true, true, true, false, false, true, false, true, false, false, false, false, false] rfl rfl (take_ofW HT_.out HW_.out (by kernel_rfl)) (fun _ _ _ h => h) (Or.inl ⟨by rfl, ?_⟩) hHeld ?_ ?_; rotate_left
        ·rintro w' ⟨s0, s1, s2, s3, s4, s5, s6, s7⟩; go_simp; with_reducible rfl
        rotate_left
        ·simp only [Act.put, sa_, s0_, ss_, i64_w, i32_w]; rfl
        refine take_ (i := 11) (N := some 35) (v := ?_) (a' := ?_) #[true, true, true, true, false, true, true, true, false, false, true, true, true, false, false, false, false, false] rfl rfl (take_ofW HT_.out HW_.out (by kernel_rfl)) (fun _ _ _ h => h) (Or.inl ⟨by rfl, ?_⟩) hHeld ?_ ?_; rotate_left
        ·rintro w' ⟨s0, s1, s2, s3, s4, s5, s6, s7⟩; go_simp; with_reducible rfl
        rotate_left
        ·simp only [Act.put, sa_, s0_, ss_, i64_w, i32_w]; rfl
        refine pure_ (i := 13) (N := some 37) (v := ?_) (a' := ?_) #[true, true, true, true, false, true, true, true, false, false, true, true, true, true, false, false, false, false] rfl rfl (any_of HT_.out (by kernel_rfl)) (fun _ _ _ h => h) (Or.inl ⟨by rfl, ?_⟩) ?_ ?_; rotate_left
        ·intro w'; go_simp; with_reducible rfl
        rotate_left
        ·simp only [Act.put, sa_, s0_, ss_, i64_w, i32_w]; rfl
        refine take_ (i := 14) (N := some 38) (v := ?_) (a' := ?_) #[true, true, true, true, false, true, true, true, false, false, true, true, true, true, true, false, false, false] rfl rfl (take_ofW HT_.out HW_.out (by kernel_rfl)) (fun _ _ _ h => h) (Or.inl ⟨by rfl, ?_⟩) hHeld ?_ ?_; rotate_left
        ·rintro w' ⟨s0, s1, s2, s3, s4, s5, s6, s7⟩; go_simp; with_reducible rfl
        rotate_left
        ·simp only [Act.put, sa_, s0_, ss_, i64_w, i32_w]; rfl
        refine one_ (i := 4) (N := some 28) #[true, true, true, true, true, true, true, true, false, false, true, true, true, true, true, false, false, false] rfl rfl (one_of HT_.out (by kernel_rfl)) (by decide) (fun K hK => ?_)
        refine goes_ Try.func64 (by kernel_rfl) rfl #[.slice (some ad464) y454.length c0_0] (by rfl) rfl rfl (by (try simp only [List.map_toArray, List.map_cons, List.map_nil]); first | done | rfl | (simp only [List.length_drop, List.length_take]; rfl)) ?_
        with_reducible refine (impl_ownBufs.calls kj2 _ _ y454 t458 _ ?side1 ?side2 A35.out).mono ?_
        (case side1 => repeat (first | exact (Kd.C_below HR457.out HB.out) | (with_reducible refine Kd.C_alloc ?_ _) | (with_reducible refine Kd.C_drewN ?_ _) | (with_reducible refine Kd.C_drew ?_)))
        (case side2 => exact HC457.out)
        rintro e w41 ⟨v459, rfl, ho0, hb⟩
        refine ⟨_, rfl, ?_⟩
        have HO460 := am (Kd.S_lower (Kd.S_newB ho0 (g := gb450) (o := .cells #[.slice A1_0 l1_0.length c1_0, .int .i64 a1_1, .int .i64 a1_2] 39 (0, 0)) (pk BK450.out)) (below_size (bl HB.out)))
        replace BK449 := am (blk_below (pk BK449.out) hb)
        replace BK450 := am (blk_below (pk BK450.out) hb)
        replace BK451 := am (blk_below (pk BK451.out) hb)
        replace HB := am (below_step (bl HB.out) hb)
        (try clear hb)
        (try clear hb2)
        (try clear hk)
        (try clear hi)
        (try clear ho0)
        refine hK.out _ _ ⟨bc BK449.out 0, bc BK449.out 1, bc BK450.out 0, bc BK450.out 1, bc BK450.out 2, ((HB.out.cell (World.block_lt_of_cell? _ _ hw464_0)).trans hw464_0), ((HB.out.cell (World.block_lt_of_cell? _ _ hw464_1)).trans hw464_1), ((HB.out.cell (World.block_lt_of_cell? _ _ hw464_2)).trans hw464_2)⟩ (fun hHeld => ?_)
        clear hK K
        refine norm_ (a' := ?_) ?_ ?_
        rotate_left
        ·show Act.put _ (some 28) _ = _
         simp only [Act.put, sa_, s0_, ss_, i64_w, i32_w]
         rfl
        refine one_ (i := 8) (N := some 32) #[true, true, true, true, true, true, true, true, true, false, true, true, true, true, true, false, false, false] rfl rfl (one_of HT_.out (by kernel_rfl)) (by decide) (fun K hK => ?_)
        refine goes_ Try.func65 (by kernel_rfl) rfl #[.slice A0_1 l0_1.length c0_1, .agg #[.slice A1_0 l1_0.length c1_0, .int .i64 a1_1, .int .i64 a1_2]] (by rfl) rfl rfl (by (try simp only [List.map_toArray, List.map_cons, List.map_nil]); first | done | rfl | (simp only [List.length_drop, List.length_take]; rfl)) ?_
        with_reducible refine (impl_behindBufs.calls kj2 _ _ l0_1 _ _ l1_0 a1_1 a1_2 t461 _ ?side1 ?side2 ?side3 ?side4 A36.out).mono ?_
        (case side1 => repeat (first | exact (Kd.C_below HR0_1.out HB.out) | (with_reducible refine Kd.C_alloc ?_ _) | (with_reducible refine Kd.C_drewN ?_ _) | (with_reducible refine Kd.C_drew ?_)))
        (case side2 => exact HC0_1.out)
        (case side3 => repeat (first | exact (Kd.C_below HR1_0.out HB.out) | (with_reducible refine Kd.C_alloc ?_ _) | (with_reducible refine Kd.C_drewN ?_ _) | (with_reducible refine Kd.C_drew ?_)))
        (case side4 => exact HC1_0.out)
        rintro e w42 ⟨v462, rfl, ho0, hb⟩
        refine ⟨_, rfl, ?_⟩
        have HO463 := am (Kd.Q_lower (Kd.Q_newB (Kd.Q_new' ho0 (Kd.S_lt (ks HO460.out))) (g := gb450) (o := .cells #[.slice A1_0 l1_0.length c1_0, .int .i64 a1_1, .int .i64 a1_2] 39 (0, 0)) (pk BK450.out)) (below_size (bl HB.out)))
        replace HO460 := am (Kd.S_elder' (ks HO460.out) (Kd.Q_base ho0) hb)
        replace BK449 := am (blk_below (pk BK449.out) hb)
        replace BK450 := am (blk_below (pk BK450.out) hb)
        replace BK451 := am (blk_below (pk BK451.out) hb)
        replace HB := am (below_step (bl HB.out) hb)
        (try clear hb)
        (try clear hb2)
        (try clear hk)
        (try clear hi)
        (try clear ho0)
        obtain ⟨Ao43, co43, eo43, _⟩ := Kd.Q_slice HO463.out
        (first | subst eo43 | (injection eo43 with f1_ f2_ f3_; have f4_ := f1_.symm; have f5_ := f3_.symm; clear f1_ f2_ f3_; subst f4_; subst f5_))
        obtain ⟨Ao44, co44, eo44⟩ := Kd.S_slice HO460.out
        (first | subst eo44 | (injection eo44 with f1_ f2_ f3_; have f4_ := f1_.symm; have f5_ := f3_.symm; clear f1_ f2_ f3_; subst f4_; subst f5_))
        refine hK.out _ _ ⟨bc BK449.out 0, bc BK449.out 1, bc BK450.out 0, bc BK450.out 1, bc BK450.out 2, ((HB.out.cell (World.block_lt_of_cell? _ _ hw464_0)).trans hw464_0), ((HB.out.cell (World.block_lt_of_cell? _ _ hw464_1)).trans hw464_1), ((HB.out.cell (World.block_lt_of_cell? _ _ hw464_2)).trans hw464_2)⟩ (fun hHeld => ?_)
        clear hK K
        refine norm_ (a' := ?_) ?_ ?_
        rotate_left
        ·show Act.put _ (some 32) _ = _
         simp only [Act.put, sa_, s0_, ss_, i64_w, i32_w]
         rfl
        refine pure_ (i := 9) (N := some 33) (v := ?_) (a' := ?_) #[true, true, true, true, true, true, true, true, true, true, true, true, true, true, true, false, false, false] rfl rfl (any_of HT_.out (by kernel_rfl)) (fun _ _ _ h => h) (Or.inl ⟨by rfl, ?_⟩) ?_ ?_; rotate_left
        ·intro w'; go_simp; with_reducible rfl
        rotate_left
        ·simp only [Act.put, sa_, s0_, ss_, i64_w, i32_w]; rfl
        refine one_ (i := 15) (N := some 39) #[true, true, true, true, true, true, true, true, true, true, true, true, true, true, true, true, false, false] rfl rfl (one_of HT_.out (by kernel_rfl)) (by decide) (fun K hK => ?_)
        refine goes_ Try.func66 (by kernel_rfl) rfl #[.agg #[.slice A464_0 ((rd_T39 l0_0 (ji32)).f0).length c464_0, .int .i64 ((rd_T39 l0_0 (ji32)).f1), .int .i64 ((rd_T39 l0_0 (ji32)).f2)]] (by rfl) rfl rfl (by (try simp only [List.map_toArray, List.map_cons, List.map_nil]); first | done | (simp only [hji32]; rfl) | rfl | (simp only [List.length_drop, List.length_take]; rfl)) ?_
        with_reducible refine (impl_ownBuf.calls _ _ ((rd_T39 l0_0 (ji32)).f0) ((rd_T39 l0_0 (ji32)).f1) ((rd_T39 l0_0 (ji32)).f2) t465 t468 t469 _ ?side1 ?side2 A38.out).mono ?_
        (case side1 => repeat (first | exact (Kd.C_below HR464_0.out HB.out) | (with_reducible refine Kd.C_alloc ?_ _) | (with_reducible refine Kd.C_drewN ?_ _) | (with_reducible refine Kd.C_drew ?_)))
        (case side2 => exact HC464_0.out)
        rintro e w45 ⟨v466, rfl, ho0, hb⟩
        refine ⟨_, rfl, ?_⟩
        replace HO460 := am (Kd.S_elder' (ks HO460.out) (Kd.R_base ho0) hb)
        replace HO463 := am (Kd.Q_elder' (by (with_reducible repeat (first | apply Kd.Q_alloc | apply Kd.Q_drewN | apply Kd.Q_drew)); exact HO463.out) (Kd.R_base ho0) hb)
        have HO467 := am (Kd.R_lower ho0 (below_size (bl HB.out)))
        replace BK449 := am (blk_below (pk BK449.out) hb)
        replace BK450 := am (blk_below (pk BK450.out) hb)
        replace BK451 := am (blk_below (pk BK451.out) hb)
        replace HB := am (below_step (bl HB.out) hb)
        (try clear hb)
        (try clear hb2)
        (try clear hk)
        (try clear hi)
        (try clear ho0)
        obtain ⟨Ao46, co46, eo46⟩ := Kd.R_slice HO467.out
        (first | subst eo46 | (injection eo46 with f1_ f2_ f3_; have f4_ := f1_.symm; have f5_ := f3_.symm; clear f1_ f2_ f3_; subst f4_; subst f5_))
        refine hK.out _ _ ⟨bc BK449.out 0, bc BK449.out 1, bc BK450.out 0, bc BK450.out 1, bc BK450.out 2, ((HB.out.cell (World.block_lt_of_cell? _ _ hw464_0)).trans hw464_0), ((HB.out.cell (World.block_lt_of_cell? _ _ hw464_1)).trans hw464_1), ((HB.out.cell (World.block_lt_of_cell? _ _ hw464_2)).trans hw464_2)⟩ (fun hHeld => ?_)
        clear hK K
        refine norm_ (a' := ?_) ?_ ?_
        rotate_left
        ·show Act.put _ (some 39) _ = _
         simp only [Act.put, sa_, s0_, ss_, i64_w, i32_w]
         rfl
        refine pure_ (i := 16) (N := some 40) (v := ?_) (a' := ?_) #[true, true, true, true, true, true, true, true, true, true, true, true, true, true, true, true, true, false] rfl rfl (any_of HT_.out (by kernel_rfl)) (fun _ _ _ h => h) (Or.inl ⟨by rfl, ?_⟩) ?_ ?_; rotate_left
        ·intro w'; go_simp; with_reducible rfl
        rotate_left
        ·simp only [Act.put, sa_, s0_, ss_, i64_w, i32_w]; rfl
        refine one_ (i := 17) (N := none) #[true, true, true, true, true, true, true, true, true, true, true, true, true, true, true, true, true, true] rfl rfl (one_of HT_.out (by kernel_rfl)) (by decide) (fun K hK => ?_)
        have hs47 : w45.cell? ⟨gb451, 0, none⟩ = some (.slice none 0 0) := bc BK451.out 0
        have hfs47 := blk_frozen BK451.out 0
        have hns47_0 := NB449_451.out
        have hns47_1 := NB450_451.out
        have hms47_0 := NB451_449.out
        have hms47_1 := NB451_450.out
        have hs48 : w45.cell? ⟨gb451, 1, none⟩ = some (.slice none 0 0) := bc BK451.out 1
        have hfs48 := blk_frozen BK451.out 1
        have hns48_0 := NB449_451.out
        have hns48_1 := NB450_451.out
        have hms48_0 := NB451_449.out
        have hms48_1 := NB451_450.out
        have hs49 : w45.cell? ⟨gb451, 2, none⟩ = some (.slice none 0 0) := bc BK451.out 2
        have hfs49 := blk_frozen BK451.out 2
        have hns49_0 := NB449_451.out
        have hns49_1 := NB450_451.out
        have hms49_0 := NB451_449.out
        have hms49_1 := NB451_450.out
        have hs50 : w45.cell? ⟨gb451, 3, none⟩ = some (.int .i64 0) := bc BK451.out 3
        have hfs50 := blk_frozen BK451.out 3
        have hns50_0 := NB449_451.out
        have hns50_1 := NB450_451.out
        have hms50_0 := NB451_449.out
        have hms50_1 := NB451_450.out
        have hs51 : w45.cell? ⟨gb451, 4, none⟩ = some (.int .i64 0) := bc BK451.out 4
        have hfs51 := blk_frozen BK451.out 4
        have hns51_0 := NB449_451.out
        have hns51_1 := NB450_451.out
        have hms51_0 := NB451_449.out
        have hms51_1 := NB451_450.out
        have hs52 : w45.cell? ⟨gb451, 5, none⟩ = some (.int .i64 0) := bc BK451.out 5
        have hfs52 := blk_frozen BK451.out 5
        have hns52_0 := NB449_451.out
        have hns52_1 := NB450_451.out
        have hms52_0 := NB451_449.out
        have hms52_1 := NB451_450.out
        refine skip_ (w1 := ?_) (by rfl) rfl ?_ ?_
        rotate_left
        ·go_simp
         rfl
        refine hK.out _ _ ⟨((cell_far (p := ⟨gb451, _, none⟩) NB449_451.out _).trans (((cell_far (p := ⟨gb451, _, none⟩) NB449_451.out _).trans (((cell_far (p := ⟨gb451, _, none⟩) NB449_451.out _).trans (((cell_far (p := ⟨gb451, _, none⟩) NB449_451.out _).trans (((cell_far (p := ⟨gb451, _, none⟩) NB449_451.out _).trans (((cell_far (p := ⟨gb451, _, none⟩) NB449_451.out _).trans (hHeld.1)))))))))))), ((cell_far (p := ⟨gb451, _, none⟩) NB449_451.out _).trans (((cell_far (p := ⟨gb451, _, none⟩) NB449_451.out _).trans (((cell_far (p := ⟨gb451, _, none⟩) NB449_451.out _).trans (((cell_far (p := ⟨gb451, _, none⟩) NB449_451.out _).trans (((cell_far (p := ⟨gb451, _, none⟩) NB449_451.out _).trans (((cell_far (p := ⟨gb451, _, none⟩) NB449_451.out _).trans (hHeld.2.1)))))))))))), ((cell_far (p := ⟨gb451, _, none⟩) NB450_451.out _).trans (((cell_far (p := ⟨gb451, _, none⟩) NB450_451.out _).trans (((cell_far (p := ⟨gb451, _, none⟩) NB450_451.out _).trans (((cell_far (p := ⟨gb451, _, none⟩) NB450_451.out _).trans (((cell_far (p := ⟨gb451, _, none⟩) NB450_451.out _).trans (((cell_far (p := ⟨gb451, _, none⟩) NB450_451.out _).trans (hHeld.2.2.1)))))))))))), ((cell_far (p := ⟨gb451, _, none⟩) NB450_451.out _).trans (((cell_far (p := ⟨gb451, _, none⟩) NB450_451.out _).trans (((cell_far (p := ⟨gb451, _, none⟩) NB450_451.out _).trans (((cell_far (p := ⟨gb451, _, none⟩) NB450_451.out _).trans (((cell_far (p := ⟨gb451, _, none⟩) NB450_451.out _).trans (((cell_far (p := ⟨gb451, _, none⟩) NB450_451.out _).trans (hHeld.2.2.2.1)))))))))))), ((cell_far (p := ⟨gb451, _, none⟩) NB450_451.out _).trans (((cell_far (p := ⟨gb451, _, none⟩) NB450_451.out _).trans (((cell_far (p := ⟨gb451, _, none⟩) NB450_451.out _).trans (((cell_far (p := ⟨gb451, _, none⟩) NB450_451.out _).trans (((cell_far (p := ⟨gb451, _, none⟩) NB450_451.out _).trans (((cell_far (p := ⟨gb451, _, none⟩) NB450_451.out _).trans (hHeld.2.2.2.2.1)))))))))))), ((cell_far (p := ⟨gb451, _, none⟩) (by first | exact Nat.ne_of_lt (Nat.lt_of_lt_of_le (by have := World.block_lt_of_cell? _ _ hw464_0; first | rwa [add_block] at this | exact this) GW451.out) | (rw [add_block]; exact Nat.ne_of_lt (Nat.lt_of_lt_of_le (by have := World.block_lt_of_cell? _ _ hw464_0; first | rwa [add_block] at this | exact this) GW451.out)) | (show (Addr.add _ _).block ≠ _; rw [add_block]; exact Nat.ne_of_lt (Nat.lt_of_lt_of_le (by have := World.block_lt_of_cell? _ _ hw464_0; first | rwa [add_block] at this | exact this) GW451.out)) | (dsimp only; exact Nat.ne_of_lt (Nat.lt_of_lt_of_le (by have := World.block_lt_of_cell? _ _ hw464_0; first | rwa [add_block] at this | exact this) GW451.out))) _).trans (((cell_far (p := ⟨gb451, _, none⟩) (by first | exact Nat.ne_of_lt (Nat.lt_of_lt_of_le (by have := World.block_lt_of_cell? _ _ hw464_0; first | rwa [add_block] at this | exact this) GW451.out) | (rw [add_block]; exact Nat.ne_of_lt (Nat.lt_of_lt_of_le (by have := World.block_lt_of_cell? _ _ hw464_0; first | rwa [add_block] at this | exact this) GW451.out)) | (show (Addr.add _ _).block ≠ _; rw [add_block]; exact Nat.ne_of_lt (Nat.lt_of_lt_of_le (by have := World.block_lt_of_cell? _ _ hw464_0; first | rwa [add_block] at this | exact this) GW451.out)) | (dsimp only; exact Nat.ne_of_lt (Nat.lt_of_lt_of_le (by have := World.block_lt_of_cell? _ _ hw464_0; first | rwa [add_block] at this | exact this) GW451.out))) _).trans (((cell_far (p := ⟨gb451, _, none⟩) (by first | exact Nat.ne_of_lt (Nat.lt_of_lt_of_le (by have := World.block_lt_of_cell? _ _ hw464_0; first | rwa [add_block] at this | exact this) GW451.out) | (rw [add_block]; exact Nat.ne_of_lt (Nat.lt_of_lt_of_le (by have := World.block_lt_of_cell? _ _ hw464_0; first | rwa [add_block] at this | exact this) GW451.out)) | (show (Addr.add _ _).block ≠ _; rw [add_block]; exact Nat.ne_of_lt (Nat.lt_of_lt_of_le (by have := World.block_lt_of_cell? _ _ hw464_0; first | rwa [add_block] at this | exact this) GW451.out)) | (dsimp only; exact Nat.ne_of_lt (Nat.lt_of_lt_of_le (by have := World.block_lt_of_cell? _ _ hw464_0; first | rwa [add_block] at this | exact this) GW451.out))) _).trans (((cell_far (p := ⟨gb451, _, none⟩) (by first | exact Nat.ne_of_lt (Nat.lt_of_lt_of_le (by have := World.block_lt_of_cell? _ _ hw464_0; first | rwa [add_block] at this | exact this) GW451.out) | (rw [add_block]; exact Nat.ne_of_lt (Nat.lt_of_lt_of_le (by have := World.block_lt_of_cell? _ _ hw464_0; first | rwa [add_block] at this | exact this) GW451.out)) | (show (Addr.add _ _).block ≠ _; rw [add_block]; exact Nat.ne_of_lt (Nat.lt_of_lt_of_le (by have := World.block_lt_of_cell? _ _ hw464_0; first | rwa [add_block] at this | exact this) GW451.out)) | (dsimp only; exact Nat.ne_of_lt (Nat.lt_of_lt_of_le (by have := World.block_lt_of_cell? _ _ hw464_0; first | rwa [add_block] at this | exact this) GW451.out))) _).trans (((cell_far (p := ⟨gb451, _, none⟩) (by first | exact Nat.ne_of_lt (Nat.lt_of_lt_of_le (by have := World.block_lt_of_cell? _ _ hw464_0; first | rwa [add_block] at this | exact this) GW451.out) | (rw [add_block]; exact Nat.ne_of_lt (Nat.lt_of_lt_of_le (by have := World.block_lt_of_cell? _ _ hw464_0; first | rwa [add_block] at this | exact this) GW451.out)) | (show (Addr.add _ _).block ≠ _; rw [add_block]; exact Nat.ne_of_lt (Nat.lt_of_lt_of_le (by have := World.block_lt_of_cell? _ _ hw464_0; first | rwa [add_block] at this | exact this) GW451.out)) | (dsimp only; exact Nat.ne_of_lt (Nat.lt_of_lt_of_le (by have := World.block_lt_of_cell? _ _ hw464_0; first | rwa [add_block] at this | exact this) GW451.out))) _).trans (((cell_far (p := ⟨gb451, _, none⟩) (by first | exact Nat.ne_of_lt (Nat.lt_of_lt_of_le (by have := World.block_lt_of_cell? _ _ hw464_0; first | rwa [add_block] at this | exact this) GW451.out) | (rw [add_block]; exact Nat.ne_of_lt (Nat.lt_of_lt_of_le (by have := World.block_lt_of_cell? _ _ hw464_0; first | rwa [add_block] at this | exact this) GW451.out)) | (show (Addr.add _ _).block ≠ _; rw [add_block]; exact Nat.ne_of_lt (Nat.lt_of_lt_of_le (by have := World.block_lt_of_cell? _ _ hw464_0; first | rwa [add_block] at this | exact this) GW451.out)) | (dsimp only; exact Nat.ne_of_lt (Nat.lt_of_lt_of_le (by have := World.block_lt_of_cell? _ _ hw464_0; first | rwa [add_block] at this | exact this) GW451.out))) _).trans (hHeld.2.2.2.2.2.1)))))))))))), ((cell_far (p := ⟨gb451, _, none⟩) (by first | exact Nat.ne_of_lt (Nat.lt_of_lt_of_le (by have := World.block_lt_of_cell? _ _ hw464_1; first | rwa [add_block] at this | exact this) GW451.out) | (rw [add_block]; exact Nat.ne_of_lt (Nat.lt_of_lt_of_le (by have := World.block_lt_of_cell? _ _ hw464_1; first | rwa [add_block] at this | exact this) GW451.out)) | (show (Addr.add _ _).block ≠ _; rw [add_block]; exact Nat.ne_of_lt (Nat.lt_of_lt_of_le (by have := World.block_lt_of_cell? _ _ hw464_1; first | rwa [add_block] at this | exact this) GW451.out)) | (dsimp only; exact Nat.ne_of_lt (Nat.lt_of_lt_of_le (by have := World.block_lt_of_cell? _ _ hw464_1; first | rwa [add_block] at this | exact this) GW451.out))) _).trans (((cell_far (p := ⟨gb451, _, none⟩) (by first | exact Nat.ne_of_lt (Nat.lt_of_lt_of_le (by have := World.block_lt_of_cell? _ _ hw464_1; first | rwa [add_block] at this | exact this) GW451.out) | (rw [add_block]; exact Nat.ne_of_lt (Nat.lt_of_lt_of_le (by have := World.block_lt_of_cell? _ _ hw464_1; first | rwa [add_block] at this | exact this) GW451.out)) | (show (Addr.add _ _).block ≠ _; rw [add_block]; exact Nat.ne_of_lt (Nat.lt_of_lt_of_le (by have := World.block_lt_of_cell? _ _ hw464_1; first | rwa [add_block] at this | exact this) GW451.out)) | (dsimp only; exact Nat.ne_of_lt (Nat.lt_of_lt_of_le (by have := World.block_lt_of_cell? _ _ hw464_1; first | rwa [add_block] at this | exact this) GW451.out))) _).trans (((cell_far (p := ⟨gb451, _, none⟩) (by first | exact Nat.ne_of_lt (Nat.lt_of_lt_of_le (by have := World.block_lt_of_cell? _ _ hw464_1; first | rwa [add_block] at this | exact this) GW451.out) | (rw [add_block]; exact Nat.ne_of_lt (Nat.lt_of_lt_of_le (by have := World.block_lt_of_cell? _ _ hw464_1; first | rwa [add_block] at this | exact this) GW451.out)) | (show (Addr.add _ _).block ≠ _; rw [add_block]; exact Nat.ne_of_lt (Nat.lt_of_lt_of_le (by have := World.block_lt_of_cell? _ _ hw464_1; first | rwa [add_block] at this | exact this) GW451.out)) | (dsimp only; exact Nat.ne_of_lt (Nat.lt_of_lt_of_le (by have := World.block_lt_of_cell? _ _ hw464_1; first | rwa [add_block] at this | exact this) GW451.out))) _).trans (((cell_far (p := ⟨gb451, _, none⟩) (by first | exact Nat.ne_of_lt (Nat.lt_of_lt_of_le (by have := World.block_lt_of_cell? _ _ hw464_1; first | rwa [add_block] at this | exact this) GW451.out) | (rw [add_block]; exact Nat.ne_of_lt (Nat.lt_of_lt_of_le (by have := World.block_lt_of_cell? _ _ hw464_1; first | rwa [add_block] at this | exact this) GW451.out)) | (show (Addr.add _ _).block ≠ _; rw [add_block]; exact Nat.ne_of_lt (Nat.lt_of_lt_of_le (by have := World.block_lt_of_cell? _ _ hw464_1; first | rwa [add_block] at this | exact this) GW451.out)) | (dsimp only; exact Nat.ne_of_lt (Nat.lt_of_lt_of_le (by have := World.block_lt_of_cell? _ _ hw464_1; first | rwa [add_block] at this | exact this) GW451.out))) _).trans (((cell_far (p := ⟨gb451, _, none⟩) (by first | exact Nat.ne_of_lt (Nat.lt_of_lt_of_le (by have := World.block_lt_of_cell? _ _ hw464_1; first | rwa [add_block] at this | exact this) GW451.out) | (rw [add_block]; exact Nat.ne_of_lt (Nat.lt_of_lt_of_le (by have := World.block_lt_of_cell? _ _ hw464_1; first | rwa [add_block] at this | exact this) GW451.out)) | (show (Addr.add _ _).block ≠ _; rw [add_block]; exact Nat.ne_of_lt (Nat.lt_of_lt_of_le (by have := World.block_lt_of_cell? _ _ hw464_1; first | rwa [add_block] at this | exact this) GW451.out)) | (dsimp only; exact Nat.ne_of_lt (Nat.lt_of_lt_of_le (by have := World.block_lt_of_cell? _ _ hw464_1; first | rwa [add_block] at this | exact this) GW451.out))) _).trans (((cell_far (p := ⟨gb451, _, none⟩) (by first | exact Nat.ne_of_lt (Nat.lt_of_lt_of_le (by have := World.block_lt_of_cell? _ _ hw464_1; first | rwa [add_block] at this | exact this) GW451.out) | (rw [add_block]; exact Nat.ne_of_lt (Nat.lt_of_lt_of_le (by have := World.block_lt_of_cell? _ _ hw464_1; first | rwa [add_block] at this | exact this) GW451.out)) | (show (Addr.add _ _).block ≠ _; rw [add_block]; exact Nat.ne_of_lt (Nat.lt_of_lt_of_le (by have := World.block_lt_of_cell? _ _ hw464_1; first | rwa [add_block] at this | exact this) GW451.out)) | (dsimp only; exact Nat.ne_of_lt (Nat.lt_of_lt_of_le (by have := World.block_lt_of_cell? _ _ hw464_1; first | rwa [add_block] at this | exact this) GW451.out))) _).trans (hHeld.2.2.2.2.2.2.1)))))))))))), ((cell_far (p := ⟨gb451, _, none⟩) (by first | exact Nat.ne_of_lt (Nat.lt_of_lt_of_le (by have := World.block_lt_of_cell? _ _ hw464_2; first | rwa [add_block] at this | exact this) GW451.out) | (rw [add_block]; exact Nat.ne_of_lt (Nat.lt_of_lt_of_le (by have := World.block_lt_of_cell? _ _ hw464_2; first | rwa [add_block] at this | exact this) GW451.out)) | (show (Addr.add _ _).block ≠ _; rw [add_block]; exact Nat.ne_of_lt (Nat.lt_of_lt_of_le (by have := World.block_lt_of_cell? _ _ hw464_2; first | rwa [add_block] at this | exact this) GW451.out)) | (dsimp only; exact Nat.ne_of_lt (Nat.lt_of_lt_of_le (by have := World.block_lt_of_cell? _ _ hw464_2; first | rwa [add_block] at this | exact this) GW451.out))) _).trans (((cell_far (p := ⟨gb451, _, none⟩) (by first | exact Nat.ne_of_lt (Nat.lt_of_lt_of_le (by have := World.block_lt_of_cell? _ _ hw464_2; first | rwa [add_block] at this | exact this) GW451.out) | (rw [add_block]; exact Nat.ne_of_lt (Nat.lt_of_lt_of_le (by have := World.block_lt_of_cell? _ _ hw464_2; first | rwa [add_block] at this | exact this) GW451.out)) | (show (Addr.add _ _).block ≠ _; rw [add_block]; exact Nat.ne_of_lt (Nat.lt_of_lt_of_le (by have := World.block_lt_of_cell? _ _ hw464_2; first | rwa [add_block] at this | exact this) GW451.out)) | (dsimp only; exact Nat.ne_of_lt (Nat.lt_of_lt_of_le (by have := World.block_lt_of_cell? _ _ hw464_2; first | rwa [add_block] at this | exact this) GW451.out))) _).trans (((cell_far (p := ⟨gb451, _, none⟩) (by first | exact Nat.ne_of_lt (Nat.lt_of_lt_of_le (by have := World.block_lt_of_cell? _ _ hw464_2; first | rwa [add_block] at this | exact this) GW451.out) | (rw [add_block]; exact Nat.ne_of_lt (Nat.lt_of_lt_of_le (by have := World.block_lt_of_cell? _ _ hw464_2; first | rwa [add_block] at this | exact this) GW451.out)) | (show (Addr.add _ _).block ≠ _; rw [add_block]; exact Nat.ne_of_lt (Nat.lt_of_lt_of_le (by have := World.block_lt_of_cell? _ _ hw464_2; first | rwa [add_block] at this | exact this) GW451.out)) | (dsimp only; exact Nat.ne_of_lt (Nat.lt_of_lt_of_le (by have := World.block_lt_of_cell? _ _ hw464_2; first | rwa [add_block] at this | exact this) GW451.out))) _).trans (((cell_far (p := ⟨gb451, _, none⟩) (by first | exact Nat.ne_of_lt (Nat.lt_of_lt_of_le (by have := World.block_lt_of_cell? _ _ hw464_2; first | rwa [add_block] at this | exact this) GW451.out) | (rw [add_block]; exact Nat.ne_of_lt (Nat.lt_of_lt_of_le (by have := World.block_lt_of_cell? _ _ hw464_2; first | rwa [add_block] at this | exact this) GW451.out)) | (show (Addr.add _ _).block ≠ _; rw [add_block]; exact Nat.ne_of_lt (Nat.lt_of_lt_of_le (by have := World.block_lt_of_cell? _ _ hw464_2; first | rwa [add_block] at this | exact this) GW451.out)) | (dsimp only; exact Nat.ne_of_lt (Nat.lt_of_lt_of_le (by have := World.block_lt_of_cell? _ _ hw464_2; first | rwa [add_block] at this | exact this) GW451.out))) _).trans (((cell_far (p := ⟨gb451, _, none⟩) (by first | exact Nat.ne_of_lt (Nat.lt_of_lt_of_le (by have := World.block_lt_of_cell? _ _ hw464_2; first | rwa [add_block] at this | exact this) GW451.out) | (rw [add_block]; exact Nat.ne_of_lt (Nat.lt_of_lt_of_le (by have := World.block_lt_of_cell? _ _ hw464_2; first | rwa [add_block] at this | exact this) GW451.out)) | (show (Addr.add _ _).block ≠ _; rw [add_block]; exact Nat.ne_of_lt (Nat.lt_of_lt_of_le (by have := World.block_lt_of_cell? _ _ hw464_2; first | rwa [add_block] at this | exact this) GW451.out)) | (dsimp only; exact Nat.ne_of_lt (Nat.lt_of_lt_of_le (by have := World.block_lt_of_cell? _ _ hw464_2; first | rwa [add_block] at this | exact this) GW451.out))) _).trans (((cell_far (p := ⟨gb451, _, none⟩) (by first | exact Nat.ne_of_lt (Nat.lt_of_lt_of_le (by have := World.block_lt_of_cell? _ _ hw464_2; first | rwa [add_block] at this | exact this) GW451.out) | (rw [add_block]; exact Nat.ne_of_lt (Nat.lt_of_lt_of_le (by have := World.block_lt_of_cell? _ _ hw464_2; first | rwa [add_block] at this | exact this) GW451.out)) | (show (Addr.add _ _).block ≠ _; rw [add_block]; exact Nat.ne_of_lt (Nat.lt_of_lt_of_le (by have := World.block_lt_of_cell? _ _ hw464_2; first | rwa [add_block] at this | exact this) GW451.out)) | (dsimp only; exact Nat.ne_of_lt (Nat.lt_of_lt_of_le (by have := World.block_lt_of_cell? _ _ hw464_2; first | rwa [add_block] at this | exact this) GW451.out))) _).trans (hHeld.2.2.2.2.2.2.2))))))))))))⟩ (fun hHeld => ?_)
        clear hK K
        refine done_ (done_of HT_.out (by kernel_rfl)) ?_
        try go_wp2
        refine bodyPost_ret (results_cell_row rfl _ _ gb451 43 #[.slice Ao44 t458.length co44, .slice Ao43 t461.length co43, .slice Ao46 t465.length co46, .int .i64 t468, .int .i64 t469, .int .i64 0] (0, 0) _ rfl (by (with_reducible repeat (first | refine blk_drewN ?_ _ | refine blk_drew ?_ | refine blk_alloc ?_ _)); refine blk_put (cs := #[.slice Ao44 t458.length co44, .slice Ao43 t461.length co43, .slice Ao46 t465.length co46, .int .i64 t468, .int .i64 t469, .int .i64 0]) ?_ 5 _ rfl; (with_reducible repeat (first | refine blk_drewN ?_ _ | refine blk_drew ?_ | refine blk_alloc ?_ _)); refine blk_put (cs := #[.slice Ao44 t458.length co44, .slice Ao43 t461.length co43, .slice Ao46 t465.length co46, .int .i64 t468, .int .i64 0, .int .i64 0]) ?_ 4 _ rfl; (with_reducible repeat (first | refine blk_drewN ?_ _ | refine blk_drew ?_ | refine blk_alloc ?_ _)); refine blk_put (cs := #[.slice Ao44 t458.length co44, .slice Ao43 t461.length co43, .slice Ao46 t465.length co46, .int .i64 0, .int .i64 0, .int .i64 0]) ?_ 3 _ rfl; (with_reducible repeat (first | refine blk_drewN ?_ _ | refine blk_drew ?_ | refine blk_alloc ?_ _)); refine blk_put (cs := #[.slice Ao44 t458.length co44, .slice Ao43 t461.length co43, .slice none 0 0, .int .i64 0, .int .i64 0, .int .i64 0]) ?_ 2 _ rfl; (with_reducible repeat (first | refine blk_drewN ?_ _ | refine blk_drew ?_ | refine blk_alloc ?_ _)); refine blk_put (cs := #[.slice Ao44 t458.length co44, .slice none 0 0, .slice none 0 0, .int .i64 0, .int .i64 0, .int .i64 0]) ?_ 1 _ rfl; (with_reducible repeat (first | refine blk_drewN ?_ _ | refine blk_drew ?_ | refine blk_alloc ?_ _)); refine blk_put (cs := #[.slice none 0 0, .slice none 0 0, .slice none 0 0, .int .i64 0, .int .i64 0, .int .i64 0]) ?_ 0 _ rfl; (with_reducible repeat (first | refine blk_drewN ?_ _ | refine blk_drew ?_ | refine blk_alloc ?_ _)); exact BK451.out) Try.underlying43 rfl (by kernel_rfl)) rfl ?_
        exact ⟨_, _, _, by first | rfl | (simp [errW_none, errW_some] <;> rfl) | (simp only [← hji32]; first | rfl | (simp [errW_none, errW_some] <;> rfl)) | (simp [*, errW_none, errW_some] <;> rfl), ks (Kd.S_mono (Kd.S_far (p := ⟨gb451, 5, none⟩) (Kd.S_far (p := ⟨gb451, 4, none⟩) (Kd.S_far (p := ⟨gb451, 3, none⟩) (Kd.S_far (p := ⟨gb451, 2, none⟩) (Kd.S_far (p := ⟨gb451, 1, none⟩) (Kd.S_far (p := ⟨gb451, 0, none⟩) (Kd.S_types HO460.out BK451.out (by decide)) (fun _ hk => hk.2) (.slice Ao44 t458.length co44)) (fun _ hk => hk.2) (.slice Ao43 t461.length co43)) (fun _ hk => hk.2) (.slice Ao46 t465.length co46)) (fun _ hk => hk.2) (.int .i64 t468)) (fun _ hk => hk.2) (.int .i64 t469)) (fun _ hk => hk.2) (.int .i64 0)) (fun _ hk => ⟨hk.1.1.2, hk.1.2⟩)), by (with_reducible repeat (first | apply Kd.Q_alloc | apply Kd.Q_drewN | apply Kd.Q_drew)); exact Kd.Q_mono (Kd.Q_far (p := ⟨gb451, 5, none⟩) (Kd.Q_far (p := ⟨gb451, 4, none⟩) (Kd.Q_far (p := ⟨gb451, 3, none⟩) (Kd.Q_far (p := ⟨gb451, 2, none⟩) (Kd.Q_far (p := ⟨gb451, 1, none⟩) (Kd.Q_far (p := ⟨gb451, 0, none⟩) (Kd.Q_types HO463.out BK451.out (by decide)) (fun _ hk => hk.2) (.slice Ao44 t458.length co44)) (fun _ hk => hk.2) (.slice Ao43 t461.length co43)) (fun _ hk => hk.2) (.slice Ao46 t465.length co46)) (fun _ hk => hk.2) (.int .i64 t468)) (fun _ hk => hk.2) (.int .i64 t469)) (fun _ hk => hk.2) (.int .i64 0)) (fun _ hk => ⟨hk.1.1.1.2, hk.1.2⟩), kr (Kd.R_mono (Kd.R_far (p := ⟨gb451, 5, none⟩) (Kd.R_far (p := ⟨gb451, 4, none⟩) (Kd.R_far (p := ⟨gb451, 3, none⟩) (Kd.R_far (p := ⟨gb451, 2, none⟩) (Kd.R_far (p := ⟨gb451, 1, none⟩) (Kd.R_far (p := ⟨gb451, 0, none⟩) (Kd.R_types HO467.out BK451.out (by decide)) (fun _ hk => hk.2) (.slice Ao44 t458.length co44)) (fun _ hk => hk.2) (.slice Ao43 t461.length co43)) (fun _ hk => hk.2) (.slice Ao46 t465.length co46)) (fun _ hk => hk.2) (.int .i64 t468)) (fun _ hk => hk.2) (.int .i64 t469)) (fun _ hk => hk.2) (.int .i64 0)) (fun _ hk => trivial)), by repeat (first | (with_reducible first | exact HB.out | apply below_alloc | apply pw_below_drewN | apply below_drew1 | refine below_set ?_ GE449.out | refine below_set ?_ GE450.out | refine below_set ?_ GE451.out) | exact HB.out)⟩
       ·rw [if_neg c37] at H
        exact absurd H (by simp)
      ·rw [if_neg c34] at H
       exact absurd H (by simp)
     ·rw [if_neg c33] at H
      exact absurd H (by simp)

/-! ### impl_UndoForth: function 17 -/
def impl_UndoForth.f (k : Nat) (l0_0 : List (S39)) (l0_1 : List (S39)) (l1_0 : List Int) (a1_1 : Int) (a1_2 : Int) : Option ((List (S39)) × (List (S39)) × List Int × Int × Int × Int) := (impl_UndoBack.f k l0_1 l0_0 l1_0 a1_1 a1_2).bind fun bt473 => (some (bt473.2.1, bt473.1, bt473.2.2.1, bt473.2.2.2.1, bt473.2.2.2.2.1, bt473.2.2.2.2.2))
theorem impl_UndoForth.mono : ∀ a0 a1 a2 a3 a4 k, LeO (impl_UndoForth.f k a0 a1 a2 a3 a4) (impl_UndoForth.f (k + 1) a0 a1 a2 a3 a4) := by
 intro a0 a1 a2 a3 a4 k
 unfold impl_UndoForth.f
 repeat' first
   | (with_reducible exact impl_UndoBack.mono _ _ _ _ _ _)
   | (with_reducible exact LeO.refl _)
   | (with_reducible exact LeO.none _)
   | (with_reducible refine LeO.ite ?_ ?_)
   | (with_reducible refine LeO.bind ?_ (fun _ => ?_))
   | exact impl_UndoBack.mono _ _ _ _ _ _
   | exact LeO.none _
   | refine LeO.ite ?_ ?_
   | refine LeO.bind ?_ (fun _ => ?_)
set_option maxHeartbeats 8000000 in
set_option maxRecDepth 100000 in
theorem impl_UndoForth.calls (k : Nat) (A0_0 : Option Addr) (c0_0 : Nat) (l0_0 : List (S39)) (A0_1 : Option Addr) (c0_1 : Nat) (l0_1 : List (S39)) (A1_0 : Option Addr) (c1_0 : Nat) (l1_0 : List Int) (a1_1 : Int) (a1_2 : Int) (r1 : List (S39)) (r2 : List (S39)) (r3 : List Int) (r4 : Int) (r5 : Int) (r6 : Int) (w : World) (hr0_0 : Kd.C k39 w A0_0 l0_0.length l0_0) (hc0_0 : l0_0.length ≤ c0_0) (hr0_1 : Kd.C k39 w A0_1 l0_1.length l0_1) (hc0_1 : l0_1.length ≤ c0_1) (hr1_0 : Kd.C (Kd.int .i64) w A1_0 l1_0.length l1_0) (hc1_0 : l1_0.length ≤ c1_0) (h : impl_UndoForth.f k l0_0 l0_1 l1_0 a1_1 a1_2 = some (r1, r2, r3, r4, r5, r6)) :
  Calls Try.prog 17 #[.agg #[.slice A0_0 l0_0.length c0_0, .slice A0_1 l0_1.length c0_1], .agg #[.slice A1_0 l1_0.length c1_0, .int .i64 a1_1, .int .i64 a1_2]] w fun e w' => ∃ v0_ v1_ v2_ : Value, e = .returned (.agg #[v0_, v1_, v2_, .int .i64 r4, .int .i64 r5, .int .i64 r6]) ∧ Kd.Q k39 39 w' w.heap.size (fun k_ => some k_ ≠ (v1_ : Value).ownBlock ∧ some k_ ≠ (v2_ : Value).ownBlock) v0_ r1 ∧ Kd.S k39 39 w' w.heap.size (fun k_ => some k_ ≠ (v0_ : Value).ownBlock ∧ some k_ ≠ (v2_ : Value).ownBlock) v1_ r2 ∧ Kd.R (Kd.int .i64) 2 w' w.heap.size (fun _ => True) v2_ r3 ∧ Below w.heap.size w w' := by
 have hu36 := Try.underlying36
 have hu39 := Try.underlying39
 have hu43 := Try.underlying43
 have HR0_0 := am hr0_0
 have HC0_0 := am hc0_0
 clear hr0_0 hc0_0
 have HR0_1 := am hr0_1
 have HC0_1 := am hc0_1
 clear hr0_1 hc0_1
 have HR1_0 := am hr1_0
 have HC1_0 := am hc1_0
 clear hr1_0 hc1_0
 have HB := am (Below.refl w.heap.size w)
 have H : ((impl_UndoBack.f k l0_1 l0_0 l1_0 a1_1 a1_2).bind fun bt473 => (some (bt473.2.1, bt473.1, bt473.2.2.1, bt473.2.2.2.1, bt473.2.2.2.2.1, bt473.2.2.2.2.2))) = some (r1, r2, r3, r4, r5, r6) := h
 clear h
 replace H := Option.bind_eq_some_iff.mp H
 obtain ⟨⟨t473, t476, t479, t482, t483, t484⟩, A30, H⟩ := H
 replace H : (some (t476, t473, t479, t482, t483, t484)) = some (r1, r2, r3, r4, r5, r6) := H
 have A3 := Aside0.mk A30
 clear A30
 simp only [Option.some.injEq, Prod.mk.injEq] at H
 obtain ⟨rfl, rfl, rfl, rfl, rfl, rfl⟩ := H
 go_enter Try.func17, Try.ntmps17
 go_upto_region 2 with (first | ((with_reducible refine gate_dst (N := 2) rfl ?_); refine box_event ?hg (N := 2) ?hd (cs := #[.slice A0_0 l0_0.length c0_0, .slice A0_1 l0_1.length c0_1]) (t := 36) ?hr ?_; (case hd => rfl); (case hg => rfl); (case hr => first | (go_simp; done) | (go_simp; rfl)); intro gb470 hg w4 hbox hb; have BK470 := am (hbox); have GW470 := am ((by rw [hg]; exact (below_size (bl HB.out)) : w.heap.size ≤ gb470)); have GE470 := GW470; replace HB := am (below_step (bl HB.out) hb); clear hb hbox hg) | ((with_reducible refine gate_dst (N := 3) rfl ?_); refine box_event ?hg (N := 3) ?hd (cs := #[.slice A1_0 l1_0.length c1_0, .int .i64 a1_1, .int .i64 a1_2]) (t := 39) ?hr ?_; (case hd => rfl); (case hg => rfl); (case hr => first | (go_simp; done) | (go_simp; rfl)); intro gb471 hg w5 hbox hb; have BK471 := am (hbox); have GW471 := am ((by rw [hg]; exact (below_size (bl HB.out)) : w.heap.size ≤ gb471)); have GE471 := GW471; replace HB := am (below_step (bl HB.out) hb); have NB470_471 := am ((by rw [hg]; exact Nat.ne_of_lt (blk_lt (pk BK470.out)) : gb470 ≠ gb471)); have NB471_470 := am ((by rw [hg]; exact Nat.ne_of_gt (blk_lt (pk BK470.out)) : gb471 ≠ gb470)); replace BK470 := am (blk_below (pk BK470.out) hb); clear hb hbox hg) | ((with_reducible refine gate_dst (N := 4) rfl ?_); refine box_event ?hg (N := 4) ?hd (cs := #[.slice none 0 0, .slice none 0 0, .slice none 0 0, .int .i64 0, .int .i64 0, .int .i64 0]) (t := 43) ?hr ?_; (case hd => rfl); (case hg => rfl); (case hr => first | (go_simp; done) | (go_simp; rfl)); intro gb472 hg w6 hbox hb; have BK472 := am (hbox); have GW472 := am ((by rw [hg]; exact (below_size (bl HB.out)) : w.heap.size ≤ gb472)); have GE472 := GW472; replace HB := am (below_step (bl HB.out) hb); have NB470_472 := am ((by rw [hg]; exact Nat.ne_of_lt (blk_lt (pk BK470.out)) : gb470 ≠ gb472)); have NB472_470 := am ((by rw [hg]; exact Nat.ne_of_gt (blk_lt (pk BK470.out)) : gb472 ≠ gb470)); replace BK470 := am (blk_below (pk BK470.out) hb); have NB471_472 := am ((by rw [hg]; exact Nat.ne_of_lt (blk_lt (pk BK471.out)) : gb471 ≠ gb472)); have NB472_471 := am ((by rw [hg]; exact Nat.ne_of_gt (blk_lt (pk BK471.out)) : gb472 ≠ gb471)); replace BK471 := am (blk_below (pk BK471.out) hb); clear hb hbox hg; have hnb7 := NB470_471.out; have hnc7 := NB471_470.out; have hnb8 := NB470_472.out; have hnc8 := NB472_470.out; have hcz9_0 : w6.cell? ⟨gb470, 0, none⟩ = some (.slice A0_0 l0_0.length c0_0) := bc BK470.out 0; have hcz9_1 : w6.cell? ⟨gb470, 1, none⟩ = some (.slice A0_1 l0_1.length c0_1) := bc BK470.out 1; have hfz9_0 := blk_frozen BK470.out 0; have hfz9_1 := blk_frozen BK470.out 1; have hnb10 := NB471_472.out; have hnc10 := NB472_471.out; have hcz11_0 : w6.cell? ⟨gb471, 0, none⟩ = some (.slice A1_0 l1_0.length c1_0) := bc BK471.out 0; have hcz11_1 : w6.cell? ⟨gb471, 1, none⟩ = some (.int .i64 a1_1) := bc BK471.out 1; have hcz11_2 : w6.cell? ⟨gb471, 2, none⟩ = some (.int .i64 a1_2) := bc BK471.out 2; have hfz11_0 := blk_frozen BK471.out 0; have hfz11_1 := blk_frozen BK471.out 1; have hfz11_2 := blk_frozen BK471.out 2) | ((with_reducible refine gate_callee (f := 16) rfl ?_); refine gl (some 12) Try.func16 #[.agg #[.slice A0_1 l0_1.length c0_1, .slice A0_0 l0_0.length c0_0], .agg #[.slice A1_0 l1_0.length c1_0, .int .i64 a1_1, .int .i64 a1_2]] ?_; (with_reducible refine (impl_UndoBack.calls k _ _ l0_1 _ _ l0_0 _ _ l1_0 a1_1 a1_2 t473 t476 t479 t482 t483 t484 _ ?side1 ?side2 ?side3 ?side4 ?side5 ?side6 A3.out).mono ?_); (case side1 => repeat (first | exact (Kd.C_below HR0_1.out HB.out) | (with_reducible refine Kd.C_alloc ?_ _) | (with_reducible refine Kd.C_drewN ?_ _) | (with_reducible refine Kd.C_drew ?_))); (case side2 => exact HC0_1.out); (case side3 => repeat (first | exact (Kd.C_below HR0_0.out HB.out) | (with_reducible refine Kd.C_alloc ?_ _) | (with_reducible refine Kd.C_drewN ?_ _) | (with_reducible refine Kd.C_drew ?_))); (case side4 => exact HC0_0.out); (case side5 => repeat (first | exact (Kd.C_below HR1_0.out HB.out) | (with_reducible refine Kd.C_alloc ?_ _) | (with_reducible refine Kd.C_drewN ?_ _) | (with_reducible refine Kd.C_drew ?_))); (case side6 => exact HC1_0.out); rintro e w12 ⟨v474, v477, v480, rfl, ho0, ho1, ho2, hb⟩; refine ⟨_, rfl, ?_⟩; have HO475 := am (Kd.S_lower (Kd.S_newB ho0 (g := gb471) (o := .cells #[.slice A1_0 l1_0.length c1_0, .int .i64 a1_1, .int .i64 a1_2] 39 (0, 0)) (pk BK471.out)) (below_size (bl HB.out))); have HO478 := am (Kd.Q_lower (Kd.Q_newB ho1 (g := gb471) (o := .cells #[.slice A1_0 l1_0.length c1_0, .int .i64 a1_1, .int .i64 a1_2] 39 (0, 0)) (pk BK471.out)) (below_size (bl HB.out))); have HO481 := am (Kd.R_lower ho2 (below_size (bl HB.out))); replace BK470 := am (blk_below (pk BK470.out) hb); replace BK471 := am (blk_below (pk BK471.out) hb); replace BK472 := am (blk_below (pk BK472.out) hb); replace HB := am (below_step (bl HB.out) hb); (try clear hb); (try clear hb2); (try clear hk); (try clear hi); (try clear ho0); (try clear ho1); (try clear ho2)) | ((with_reducible refine gate_dst (N := 5) rfl ?_); refine box_event ?hg (N := 5) ?hd (cs := #[.slice none 0 0, .slice none 0 0, .slice none 0 0, .int .i64 0, .int .i64 0, .int .i64 0]) (t := 43) ?hr ?_; (case hd => rfl); (case hg => rfl); (case hr => first | (go_simp; done) | (go_simp; rfl)); intro gb485 hg w13 hbox hb; replace HO475 := am (Kd.S_below (ks HO475.out) hb); replace HO478 := am (Kd.Q_below (by (with_reducible repeat (first | apply Kd.Q_alloc | apply Kd.Q_drewN | apply Kd.Q_drew)); exact HO478.out) hb); replace HO481 := am (Kd.R_below (kr HO481.out) hb); have BK485 := am (hbox); have GW485 := am ((by rw [hg]; exact (below_size (bl HB.out)) : w.heap.size ≤ gb485)); have GE485 := GW485; replace HB := am (below_step (bl HB.out) hb); have NB470_485 := am ((by rw [hg]; exact Nat.ne_of_lt (blk_lt (pk BK470.out)) : gb470 ≠ gb485)); have NB485_470 := am ((by rw [hg]; exact Nat.ne_of_gt (blk_lt (pk BK470.out)) : gb485 ≠ gb470)); replace BK470 := am (blk_below (pk BK470.out) hb); have NB471_485 := am ((by rw [hg]; exact Nat.ne_of_lt (blk_lt (pk BK471.out)) : gb471 ≠ gb485)); have NB485_471 := am ((by rw [hg]; exact Nat.ne_of_gt (blk_lt (pk BK471.out)) : gb485 ≠ gb471)); replace BK471 := am (blk_below (pk BK471.out) hb); have NB472_485 := am ((by rw [hg]; exact Nat.ne_of_lt (blk_lt (pk BK472.out)) : gb472 ≠ gb485)); have NB485_472 := am ((by rw [hg]; exact Nat.ne_of_gt (blk_lt (pk BK472.out)) : gb485 ≠ gb472)); replace BK472 := am (blk_below (pk BK472.out) hb); clear hb hbox hg; obtain ⟨Ao14, co14, eo14⟩ := Kd.S_slice HO475.out; subst eo14; have hnb15 := NB485_470.out; have hnc15 := NB470_485.out; have hnb16 := NB485_471.out; have hnc16 := NB471_485.out; have hnb17 := NB485_472.out; have hnc17 := NB472_485.out; have hcz18_0 : w13.cell? ⟨gb485, 0, none⟩ = some (.slice none 0 0) := bc BK485.out 0; have hcz18_1 : w13.cell? ⟨gb485, 1, none⟩ = some (.slice none 0 0) := bc BK485.out 1; have hcz18_2 : w13.cell? ⟨gb485, 2, none⟩ = some (.slice none 0 0) := bc BK485.out 2; have hcz18_3 : w13.cell? ⟨gb485, 3, none⟩ = some (.int .i64 0) := bc BK485.out 3; have hcz18_4 : w13.cell? ⟨gb485, 4, none⟩ = some (.int .i64 0) := bc BK485.out 4; have hcz18_5 : w13.cell? ⟨gb485, 5, none⟩ = some (.int .i64 0) := bc BK485.out 5; have hfz18_0 := blk_frozen BK485.out 0; have hfz18_1 := blk_frozen BK485.out 1; have hfz18_2 := blk_frozen BK485.out 2; have hfz18_3 := blk_frozen BK485.out 3; have hfz18_4 := blk_frozen BK485.out 4; have hfz18_5 := blk_frozen BK485.out 5; obtain ⟨Ao19, co19, eo19, _⟩ := Kd.Q_slice HO478.out; subst eo19; obtain ⟨Ao20, co20, eo20⟩ := Kd.R_slice HO481.out; subst eo20; have hcz21_0 : w13.cell? ⟨gb472, 0, none⟩ = some (.slice none 0 0) := bc BK472.out 0; have hcz21_1 : w13.cell? ⟨gb472, 1, none⟩ = some (.slice none 0 0) := bc BK472.out 1; have hcz21_2 : w13.cell? ⟨gb472, 2, none⟩ = some (.slice none 0 0) := bc BK472.out 2; have hcz21_3 : w13.cell? ⟨gb472, 3, none⟩ = some (.int .i64 0) := bc BK472.out 3; have hcz21_4 : w13.cell? ⟨gb472, 4, none⟩ = some (.int .i64 0) := bc BK472.out 4; have hcz21_5 : w13.cell? ⟨gb472, 5, none⟩ = some (.int .i64 0) := bc BK472.out 5; have hfz21_0 := blk_frozen BK472.out 0; have hfz21_1 := blk_frozen BK472.out 1; have hfz21_2 := blk_frozen BK472.out 2; have hfz21_3 := blk_frozen BK472.out 3; have hfz21_4 := blk_frozen BK472.out 4; have hfz21_5 := blk_frozen BK472.out 5))
 replace HO475 := am (Kd.S_types (Kd.S_types HO475.out BK485.out (by decide)) BK472.out (by decide))
 replace HO478 := am (Kd.Q_types (Kd.Q_types HO478.out BK485.out (by decide)) BK472.out (by decide))
 replace HO481 := am (Kd.R_types (Kd.R_types HO481.out BK485.out (by decide)) BK472.out (by decide))
 clear hcz9_0 hcz9_1 hfz9_0 hfz9_1 hcz11_0 hcz11_1 hcz11_2 hfz11_0 hfz11_1 hfz11_2 hcz18_0 hcz18_1 hcz18_2 hcz18_3 hcz18_4 hcz18_5 hfz18_0 hfz18_1 hfz18_2 hfz18_3 hfz18_4 hfz18_5 hcz21_0 hcz21_1 hcz21_2 hcz21_3 hcz21_4 hcz21_5 hfz21_0 hfz21_1 hfz21_2 hfz21_3 hfz21_4 hfz21_5
 have N_ := am (show ((((((w13.setCell ⟨gb485, 0, none⟩ (.slice Ao14 t473.length co14)).setCell ⟨gb485, 1, none⟩ (.slice Ao19 t476.length co19)).setCell ⟨gb485, 2, none⟩ (.slice Ao20 t479.length co20)).setCell ⟨gb485, 3, none⟩ (.int .i64 t482)).setCell ⟨gb485, 4, none⟩ (.int .i64 t483)).setCell ⟨gb485, 5, none⟩ (.int .i64 t484)).heap[gb485]? = some (.cells #[.slice Ao14 t473.length co14, .slice Ao19 t476.length co19, .slice Ao20 t479.length co20, .int .i64 t482, .int .i64 t483, .int .i64 t484] 43 (0, 0)) from (by refine blk_put (cs := #[.slice Ao14 t473.length co14, .slice Ao19 t476.length co19, .slice Ao20 t479.length co20, .int .i64 t482, .int .i64 t483, .int .i64 0]) ?_ 5 _ rfl; refine blk_put (cs := #[.slice Ao14 t473.length co14, .slice Ao19 t476.length co19, .slice Ao20 t479.length co20, .int .i64 t482, .int .i64 0, .int .i64 0]) ?_ 4 _ rfl; refine blk_put (cs := #[.slice Ao14 t473.length co14, .slice Ao19 t476.length co19, .slice Ao20 t479.length co20, .int .i64 0, .int .i64 0, .int .i64 0]) ?_ 3 _ rfl; refine blk_put (cs := #[.slice Ao14 t473.length co14, .slice Ao19 t476.length co19, .slice none 0 0, .int .i64 0, .int .i64 0, .int .i64 0]) ?_ 2 _ rfl; refine blk_put (cs := #[.slice Ao14 t473.length co14, .slice none 0 0, .slice none 0 0, .int .i64 0, .int .i64 0, .int .i64 0]) ?_ 1 _ rfl; refine blk_put (cs := #[.slice none 0 0, .slice none 0 0, .slice none 0 0, .int .i64 0, .int .i64 0, .int .i64 0]) ?_ 0 _ rfl; exact BK485.out))
 have M_ := am (show ((((((w13.setCell ⟨gb485, 0, none⟩ (.slice Ao14 t473.length co14)).setCell ⟨gb485, 1, none⟩ (.slice Ao19 t476.length co19)).setCell ⟨gb485, 2, none⟩ (.slice Ao20 t479.length co20)).setCell ⟨gb485, 3, none⟩ (.int .i64 t482)).setCell ⟨gb485, 4, none⟩ (.int .i64 t483)).setCell ⟨gb485, 5, none⟩ (.int .i64 t484)).heap[gb472]? = some (.cells #[.slice none 0 0, .slice none 0 0, .slice none 0 0, .int .i64 0, .int .i64 0, .int .i64 0] 43 (0, 0)) from (by refine blk_far ?_ NB472_485.out _; refine blk_far ?_ NB472_485.out _; refine blk_far ?_ NB472_485.out _; refine blk_far ?_ NB472_485.out _; refine blk_far ?_ NB472_485.out _; refine blk_far ?_ NB472_485.out _; exact BK472.out))
 replace HO475 := am (Kd.S_far (p := ⟨gb485, 5, none⟩) (Kd.S_far (p := ⟨gb485, 4, none⟩) (Kd.S_far (p := ⟨gb485, 3, none⟩) (Kd.S_far (p := ⟨gb485, 2, none⟩) (Kd.S_far (p := ⟨gb485, 1, none⟩) (Kd.S_far (p := ⟨gb485, 0, none⟩) HO475.out (fun _ hk => hk.1.2) (.slice Ao14 t473.length co14)) (fun _ hk => hk.1.2) (.slice Ao19 t476.length co19)) (fun _ hk => hk.1.2) (.slice Ao20 t479.length co20)) (fun _ hk => hk.1.2) (.int .i64 t482)) (fun _ hk => hk.1.2) (.int .i64 t483)) (fun _ hk => hk.1.2) (.int .i64 t484))
 replace HO478 := am (Kd.Q_far (p := ⟨gb485, 5, none⟩) (Kd.Q_far (p := ⟨gb485, 4, none⟩) (Kd.Q_far (p := ⟨gb485, 3, none⟩) (Kd.Q_far (p := ⟨gb485, 2, none⟩) (Kd.Q_far (p := ⟨gb485, 1, none⟩) (Kd.Q_far (p := ⟨gb485, 0, none⟩) HO478.out (fun _ hk => hk.1.2) (.slice Ao14 t473.length co14)) (fun _ hk => hk.1.2) (.slice Ao19 t476.length co19)) (fun _ hk => hk.1.2) (.slice Ao20 t479.length co20)) (fun _ hk => hk.1.2) (.int .i64 t482)) (fun _ hk => hk.1.2) (.int .i64 t483)) (fun _ hk => hk.1.2) (.int .i64 t484))
 replace HO481 := am (Kd.R_far (p := ⟨gb485, 5, none⟩) (Kd.R_far (p := ⟨gb485, 4, none⟩) (Kd.R_far (p := ⟨gb485, 3, none⟩) (Kd.R_far (p := ⟨gb485, 2, none⟩) (Kd.R_far (p := ⟨gb485, 1, none⟩) (Kd.R_far (p := ⟨gb485, 0, none⟩) HO481.out (fun _ hk => hk.1.2) (.slice Ao14 t473.length co14)) (fun _ hk => hk.1.2) (.slice Ao19 t476.length co19)) (fun _ hk => hk.1.2) (.slice Ao20 t479.length co20)) (fun _ hk => hk.1.2) (.int .i64 t482)) (fun _ hk => hk.1.2) (.int .i64 t483)) (fun _ hk => hk.1.2) (.int .i64 t484))
 have B_ := am (show Below w.heap.size w ((((((w13.setCell ⟨gb485, 0, none⟩ (.slice Ao14 t473.length co14)).setCell ⟨gb485, 1, none⟩ (.slice Ao19 t476.length co19)).setCell ⟨gb485, 2, none⟩ (.slice Ao20 t479.length co20)).setCell ⟨gb485, 3, none⟩ (.int .i64 t482)).setCell ⟨gb485, 4, none⟩ (.int .i64 t483)).setCell ⟨gb485, 5, none⟩ (.int .i64 t484)) from (bl HB.out))
 clear BK485 BK472 HB
 generalize ((((((w13.setCell ⟨gb485, 0, none⟩ (.slice Ao14 t473.length co14)).setCell ⟨gb485, 1, none⟩ (.slice Ao19 t476.length co19)).setCell ⟨gb485, 2, none⟩ (.slice Ao20 t479.length co20)).setCell ⟨gb485, 3, none⟩ (.int .i64 t482)).setCell ⟨gb485, 4, none⟩ (.int .i64 t483)).setCell ⟨gb485, 5, none⟩ (.int .i64 t484)) = w20 at N_ M_ B_ HO475 HO478 HO481 ⊢
 have BK485 := N_
 have BK472 := M_
 have HB := B_
 clear N_ M_ B_
 have hcza485_0 : w20.cell? ⟨gb485, 0, none⟩ = some (.slice Ao14 t473.length co14) := bc BK485.out 0
 have hfza485_0 := blk_frozen BK485.out 0
 have hcza485_1 : w20.cell? ⟨gb485, 1, none⟩ = some (.slice Ao19 t476.length co19) := bc BK485.out 1
 have hfza485_1 := blk_frozen BK485.out 1
 have hcza485_2 : w20.cell? ⟨gb485, 2, none⟩ = some (.slice Ao20 t479.length co20) := bc BK485.out 2
 have hfza485_2 := blk_frozen BK485.out 2
 have hcza485_3 : w20.cell? ⟨gb485, 3, none⟩ = some (.int .i64 t482) := bc BK485.out 3
 have hfza485_3 := blk_frozen BK485.out 3
 have hcza485_4 : w20.cell? ⟨gb485, 4, none⟩ = some (.int .i64 t483) := bc BK485.out 4
 have hfza485_4 := blk_frozen BK485.out 4
 have hcza485_5 : w20.cell? ⟨gb485, 5, none⟩ = some (.int .i64 t484) := bc BK485.out 5
 have hfza485_5 := blk_frozen BK485.out 5
 have hcza472_0 : w20.cell? ⟨gb472, 0, none⟩ = some (.slice none 0 0) := bc BK472.out 0
 have hfza472_0 := blk_frozen BK472.out 0
 have hcza472_1 : w20.cell? ⟨gb472, 1, none⟩ = some (.slice none 0 0) := bc BK472.out 1
 have hfza472_1 := blk_frozen BK472.out 1
 have hcza472_2 : w20.cell? ⟨gb472, 2, none⟩ = some (.slice none 0 0) := bc BK472.out 2
 have hfza472_2 := blk_frozen BK472.out 2
 have hcza472_3 : w20.cell? ⟨gb472, 3, none⟩ = some (.int .i64 0) := bc BK472.out 3
 have hfza472_3 := blk_frozen BK472.out 3
 have hcza472_4 : w20.cell? ⟨gb472, 4, none⟩ = some (.int .i64 0) := bc BK472.out 4
 have hfza472_4 := blk_frozen BK472.out 4
 have hcza472_5 : w20.cell? ⟨gb472, 5, none⟩ = some (.int .i64 0) := bc BK472.out 5
 have hfza472_5 := blk_frozen BK472.out 5
 go_upto_region 3 with (fail)
 clear hcza485_0 hfza485_0 hcza485_1 hfza485_1 hcza485_2 hfza485_2 hcza485_3 hfza485_3 hcza485_4 hfza485_4 hcza485_5 hfza485_5 hcza472_0 hfza472_0 hcza472_1 hfza472_1 hcza472_2 hfza472_2 hcza472_3 hfza472_3 hcza472_4 hfza472_4 hcza472_5 hfza472_5
 have N_ := am (show ((w20.setCell ⟨gb485, 0, none⟩ (.slice Ao19 t476.length co19)).setCell ⟨gb485, 1, none⟩ (.slice Ao14 t473.length co14)).heap[gb485]? = some (.cells #[.slice Ao19 t476.length co19, .slice Ao14 t473.length co14, .slice Ao20 t479.length co20, .int .i64 t482, .int .i64 t483, .int .i64 t484] 43 (0, 0)) from (by refine blk_put (cs := #[.slice Ao19 t476.length co19, .slice Ao19 t476.length co19, .slice Ao20 t479.length co20, .int .i64 t482, .int .i64 t483, .int .i64 t484]) ?_ 1 _ rfl; refine blk_put (cs := #[.slice Ao14 t473.length co14, .slice Ao19 t476.length co19, .slice Ao20 t479.length co20, .int .i64 t482, .int .i64 t483, .int .i64 t484]) ?_ 0 _ rfl; exact BK485.out))
 have M_ := am (show ((w20.setCell ⟨gb485, 0, none⟩ (.slice Ao19 t476.length co19)).setCell ⟨gb485, 1, none⟩ (.slice Ao14 t473.length co14)).heap[gb472]? = some (.cells #[.slice none 0 0, .slice none 0 0, .slice none 0 0, .int .i64 0, .int .i64 0, .int .i64 0] 43 (0, 0)) from (by refine blk_far ?_ NB472_485.out _; refine blk_far ?_ NB472_485.out _; exact BK472.out))
 replace HO475 := am (Kd.S_far (p := ⟨gb485, 1, none⟩) (Kd.S_far (p := ⟨gb485, 0, none⟩) HO475.out (fun _ hk => hk.1.2) (.slice Ao19 t476.length co19)) (fun _ hk => hk.1.2) (.slice Ao14 t473.length co14))
 replace HO478 := am (Kd.Q_far (p := ⟨gb485, 1, none⟩) (Kd.Q_far (p := ⟨gb485, 0, none⟩) HO478.out (fun _ hk => hk.1.2) (.slice Ao19 t476.length co19)) (fun _ hk => hk.1.2) (.slice Ao14 t473.length co14))
 replace HO481 := am (Kd.R_far (p := ⟨gb485, 1, none⟩) (Kd.R_far (p := ⟨gb485, 0, none⟩) HO481.out (fun _ hk => hk.1.2) (.slice Ao19 t476.length co19)) (fun _ hk => hk.1.2) (.slice Ao14 t473.length co14))
 have B_ := am (show Below w.heap.size w ((w20.setCell ⟨gb485, 0, none⟩ (.slice Ao19 t476.length co19)).setCell ⟨gb485, 1, none⟩ (.slice Ao14 t473.length co14)) from (bl HB.out))
 clear BK485 BK472 HB
 generalize ((w20.setCell ⟨gb485, 0, none⟩ (.slice Ao19 t476.length co19)).setCell ⟨gb485, 1, none⟩ (.slice Ao14 t473.length co14)) = w21 at N_ M_ B_ HO475 HO478 HO481 ⊢
 have BK485 := N_
 have BK472 := M_
 have HB := B_
 clear N_ M_ B_
 have hczb485_0 : w21.cell? ⟨gb485, 0, none⟩ = some (.slice Ao19 t476.length co19) := bc BK485.out 0
 have hfzb485_0 := blk_frozen BK485.out 0
 have hczb485_1 : w21.cell? ⟨gb485, 1, none⟩ = some (.slice Ao14 t473.length co14) := bc BK485.out 1
 have hfzb485_1 := blk_frozen BK485.out 1
 have hczb485_2 : w21.cell? ⟨gb485, 2, none⟩ = some (.slice Ao20 t479.length co20) := bc BK485.out 2
 have hfzb485_2 := blk_frozen BK485.out 2
 have hczb485_3 : w21.cell? ⟨gb485, 3, none⟩ = some (.int .i64 t482) := bc BK485.out 3
 have hfzb485_3 := blk_frozen BK485.out 3
 have hczb485_4 : w21.cell? ⟨gb485, 4, none⟩ = some (.int .i64 t483) := bc BK485.out 4
 have hfzb485_4 := blk_frozen BK485.out 4
 have hczb485_5 : w21.cell? ⟨gb485, 5, none⟩ = some (.int .i64 t484) := bc BK485.out 5
 have hfzb485_5 := blk_frozen BK485.out 5
 have hczb472_0 : w21.cell? ⟨gb472, 0, none⟩ = some (.slice none 0 0) := bc BK472.out 0
 have hfzb472_0 := blk_frozen BK472.out 0
 have hczb472_1 : w21.cell? ⟨gb472, 1, none⟩ = some (.slice none 0 0) := bc BK472.out 1
 have hfzb472_1 := blk_frozen BK472.out 1
 have hczb472_2 : w21.cell? ⟨gb472, 2, none⟩ = some (.slice none 0 0) := bc BK472.out 2
 have hfzb472_2 := blk_frozen BK472.out 2
 have hczb472_3 : w21.cell? ⟨gb472, 3, none⟩ = some (.int .i64 0) := bc BK472.out 3
 have hfzb472_3 := blk_frozen BK472.out 3
 have hczb472_4 : w21.cell? ⟨gb472, 4, none⟩ = some (.int .i64 0) := bc BK472.out 4
 have hfzb472_4 := blk_frozen BK472.out 4
 have hczb472_5 : w21.cell? ⟨gb472, 5, none⟩ = some (.int .i64 0) := bc BK472.out 5
 have hfzb472_5 := blk_frozen BK472.out 5
 go_wp2
 refine bodyPost_ret (results_cell_row rfl _ _ gb472 43 #[.slice Ao19 t476.length co19, .slice Ao14 t473.length co14, .slice Ao20 t479.length co20, .int .i64 t482, .int .i64 t483, .int .i64 t484] (0, 0) _ rfl (by refine blk_put (cs := #[.slice Ao19 t476.length co19, .slice Ao14 t473.length co14, .slice Ao20 t479.length co20, .int .i64 t482, .int .i64 t483, .int .i64 0]) ?_ 5 _ rfl; refine blk_put (cs := #[.slice Ao19 t476.length co19, .slice Ao14 t473.length co14, .slice Ao20 t479.length co20, .int .i64 t482, .int .i64 0, .int .i64 0]) ?_ 4 _ rfl; refine blk_put (cs := #[.slice Ao19 t476.length co19, .slice Ao14 t473.length co14, .slice Ao20 t479.length co20, .int .i64 0, .int .i64 0, .int .i64 0]) ?_ 3 _ rfl; refine blk_put (cs := #[.slice Ao19 t476.length co19, .slice Ao14 t473.length co14, .slice none 0 0, .int .i64 0, .int .i64 0, .int .i64 0]) ?_ 2 _ rfl; refine blk_put (cs := #[.slice Ao19 t476.length co19, .slice none 0 0, .slice none 0 0, .int .i64 0, .int .i64 0, .int .i64 0]) ?_ 1 _ rfl; refine blk_put (cs := #[.slice none 0 0, .slice none 0 0, .slice none 0 0, .int .i64 0, .int .i64 0, .int .i64 0]) ?_ 0 _ rfl; exact BK472.out) Try.underlying43 rfl (by kernel_rfl)) rfl ?_
 exact ⟨_, _, _, by first | rfl | (simp [errW_none, errW_some] <;> rfl) | (simp [*, errW_none, errW_some] <;> rfl), Kd.Q_mono (Kd.Q_far (p := ⟨gb472, 5, none⟩) (Kd.Q_far (p := ⟨gb472, 4, none⟩) (Kd.Q_far (p := ⟨gb472, 3, none⟩) (Kd.Q_far (p := ⟨gb472, 2, none⟩) (Kd.Q_far (p := ⟨gb472, 1, none⟩) (Kd.Q_far (p := ⟨gb472, 0, none⟩) HO478.out (fun _ hk => hk.2) (.slice Ao19 t476.length co19)) (fun _ hk => hk.2) (.slice Ao14 t473.length co14)) (fun _ hk => hk.2) (.slice Ao20 t479.length co20)) (fun _ hk => hk.2) (.int .i64 t482)) (fun _ hk => hk.2) (.int .i64 t483)) (fun _ hk => hk.2) (.int .i64 t484)) (fun _ hk => ⟨hk.1.1.1.1, hk.1.1.1.2⟩), Kd.S_mono (Kd.S_far (p := ⟨gb472, 5, none⟩) (Kd.S_far (p := ⟨gb472, 4, none⟩) (Kd.S_far (p := ⟨gb472, 3, none⟩) (Kd.S_far (p := ⟨gb472, 2, none⟩) (Kd.S_far (p := ⟨gb472, 1, none⟩) (Kd.S_far (p := ⟨gb472, 0, none⟩) HO475.out (fun _ hk => hk.2) (.slice Ao19 t476.length co19)) (fun _ hk => hk.2) (.slice Ao14 t473.length co14)) (fun _ hk => hk.2) (.slice Ao20 t479.length co20)) (fun _ hk => hk.2) (.int .i64 t482)) (fun _ hk => hk.2) (.int .i64 t483)) (fun _ hk => hk.2) (.int .i64 t484)) (fun _ hk => ⟨hk.1.1.1.1, hk.1.1.1.2⟩), Kd.R_mono (Kd.R_far (p := ⟨gb472, 5, none⟩) (Kd.R_far (p := ⟨gb472, 4, none⟩) (Kd.R_far (p := ⟨gb472, 3, none⟩) (Kd.R_far (p := ⟨gb472, 2, none⟩) (Kd.R_far (p := ⟨gb472, 1, none⟩) (Kd.R_far (p := ⟨gb472, 0, none⟩) HO481.out (fun _ hk => hk.2) (.slice Ao19 t476.length co19)) (fun _ hk => hk.2) (.slice Ao14 t473.length co14)) (fun _ hk => hk.2) (.slice Ao20 t479.length co20)) (fun _ hk => hk.2) (.int .i64 t482)) (fun _ hk => hk.2) (.int .i64 t483)) (fun _ hk => hk.2) (.int .i64 t484)) (fun _ hk => trivial), bl HB.out⟩

/-! ### laws_lwSame: function 68 -/
def laws_lwSame.l0 : Nat → List Int → List Int → Int → Option (Bool)
 | 0, _, _, _ => none
 | k + 1, x0, x1, x5 => if x5 < (x0.length : Int) then (if 0 ≤ x5 then (if x5 < (x1.length : Int) then (if (rd x0 x5) = (rd x1 x5) then (laws_lwSame.l0 k x0 x1 (wrap64 (x5 + 1))) else (some false)) else (none)) else (none)) else (some true)
def laws_lwSame.f (k : Nat) (l0 : List Int) (l1 : List Int) : Option (Bool) := if (l0.length : Int) = (l1.length : Int) then (laws_lwSame.l0 k l0 l1 0) else (some false)
theorem laws_lwSame.mono_l : ∀ k, (∀ y0 y1 y2, LeO (laws_lwSame.l0 k y0 y1 y2) (laws_lwSame.l0 (k + 1) y0 y1 y2))
 | 0 => fun _ _ _ r h => by simp [laws_lwSame.l0] at h
 | k + 1 => by
  have ih0 := laws_lwSame.mono_l k
  ·intro y0 y1 y2
   unfold laws_lwSame.l0
   repeat' first
   | (with_reducible exact ih0 _ _ _)
   | (with_reducible exact LeO.refl _)
   | (with_reducible exact LeO.none _)
   | (with_reducible refine LeO.ite ?_ ?_)
   | (with_reducible refine LeO.bind ?_ (fun _ => ?_))
   | exact ih0 _ _ _
   | exact LeO.none _
   | refine LeO.ite ?_ ?_
   | refine LeO.bind ?_ (fun _ => ?_)
theorem laws_lwSame.mono : ∀ a0 a1 k, LeO (laws_lwSame.f k a0 a1) (laws_lwSame.f (k + 1) a0 a1) := by
 intro a0 a1 k
 have ih0 := laws_lwSame.mono_l k
 unfold laws_lwSame.f
 repeat' first
   | (with_reducible exact ih0 _ _ _)
   | (with_reducible exact LeO.refl _)
   | (with_reducible exact LeO.none _)
   | (with_reducible refine LeO.ite ?_ ?_)
   | (with_reducible refine LeO.bind ?_ (fun _ => ?_))
   | exact ih0 _ _ _
   | exact LeO.none _
   | refine LeO.ite ?_ ?_
   | refine LeO.bind ?_ (fun _ => ?_)
set_option maxHeartbeats 8000000 in
set_option maxRecDepth 100000 in
theorem laws_lwSame.calls (k : Nat) (A0 : Option Addr) (c0 : Nat) (l0 : List Int) (A1 : Option Addr) (c1 : Nat) (l1 : List Int) (r : Bool) (w : World) (hr0 : Kd.C (Kd.int .i64) w A0 l0.length l0) (hc0 : l0.length ≤ c0) (hr1 : Kd.C (Kd.int .i64) w A1 l1.length l1) (hc1 : l1.length ≤ c1) (h : laws_lwSame.f k l0 l1 = some r) :
  Calls Try.prog 68 #[.slice A0 l0.length c0, .slice A1 l1.length c1] w fun e w' => e = .returned (.bool r) ∧ Drawn0 w w' := by
 have HR0 := am hr0
 have HC0 := am hc0
 clear hr0 hc0
 have HR1 := am hr1
 have HC1 := am hc1
 clear hr1 hc1
 have H : (if (l0.length : Int) = (l1.length : Int) then (laws_lwSame.l0 k l0 l1 0) else (some false)) = some r := h
 clear h
 by_cases c3 : (l0.length : Int) = (l1.length : Int)
 ·rw [if_pos c3] at H
  have c3b0 : ((l0.length : Int) == (l1.length : Int)) = true := beq_iff_eq.mpr c3
  have c3b1 : ((l0.length : Int) != (l1.length : Int)) = false := bne_eq_false_iff_eq.mpr c3
  have c3b2 : (l0.length == l1.length) = true := by first | simpa using c3 | (simp at c3 ⊢; omega)
  clear c3
  have H' := Aside0.mk H
  clear H
  go_enter Try.func68, Try.ntmps68
  go_wp2
  repeat (go_quiet (fail); try go_wp2)
  go_loopg [5] k (fun kq v5 w' => ∃ (x5_1 : Int), v5 = .int .i64 x5_1 ∧ Aside0 (laws_lwSame.l0 kq l0 l1 x5_1 = some r) ∧ Aside0 (kq ≤ k) ∧ Drawn0 w w')
  case atStart => exact ⟨(0), (by first | rfl | (simp; done) | (simp [*]; done)), H', ⟨Nat.le_refl _⟩, by repeat (first | exact Drawn0.refl _ | apply Drawn0.step)⟩
  case round =>
   clear H'
   try clear c1
   try clear p2
   try clear c3
   try clear c3b0
   try clear c3b1
   try clear c3b2
   obtain ⟨x5_1, rfl, HA, HK1, ⟨m1, rfl⟩⟩ := hrel
   cases gk with
   | zero => exact absurd HA.out (by simp [laws_lwSame.l0])
   | succ k1 =>
    have H := HA.out
    clear HA
    simp only [laws_lwSame.l0] at H
    by_cases c4 : x5_1 < (l0.length : Int)
    ·rw [if_pos c4] at H
     have c4b0 : decide (x5_1 < (l0.length : Int)) = true := decide_eq_true c4
     clear c4
     by_cases c5 : 0 ≤ x5_1
     ·rw [if_pos c5] at H
      have c5b0 : decide (0 ≤ x5_1) = true := decide_eq_true c5
      clear c5
      by_cases c6 : x5_1 < (l1.length : Int)
      ·rw [if_pos c6] at H
       have c6b0 : decide (x5_1 < (l1.length : Int)) = true := decide_eq_true c6
       clear c6
       by_cases c7 : (rd l0 x5_1) = (rd l1 x5_1)
       ·rw [if_pos c7] at H
        have c7b0 : ((rd l0 x5_1) == (rd l1 x5_1)) = true := beq_iff_eq.mpr c7
        have c7b1 : ((rd l0 x5_1) != (rd l1 x5_1)) = false := bne_eq_false_iff_eq.mpr c7
        clear c7
        have H' := Aside0.mk H
        clear H
        have p486 : 0 ≤ (x5_1 : Int) := of_decide_eq_true (by first | (with_reducible assumption) | assumption)
        have q486 : x5_1 < (l0.length : Int) := of_decide_eq_true (by first | (with_reducible assumption) | assumption)
        obtain ⟨ad486, e486, hx486_0⟩ := Kd.at_int HR0.out x5_1 p486 q486
        cases e486
        replace p486 := eq_true p486
        replace q486 := eq_true q486
        have p487 : 0 ≤ (x5_1 : Int) := of_decide_eq_true (by first | (with_reducible assumption) | assumption)
        have q487 : x5_1 < (l1.length : Int) := of_decide_eq_true (by first | (with_reducible assumption) | assumption)
        obtain ⟨ad487, e487, hx487_0⟩ := Kd.at_int HR1.out x5_1 p487 q487
        cases e487
        replace p487 := eq_true p487
        replace q487 := eq_true q487
        go_wp2
        repeat (go_quiet (fail); try go_wp2)
        go_roundg k1
        case measure => have := HK1.out; omega
        case rel => exact ⟨(wrap64 (x5_1 + 1)), (by first | rfl | (simp; done) | (simp [*]; done)), H', ⟨by have := HK1.out; omega⟩, by repeat (first | exact Drawn0.refl _ | apply Drawn0.step)⟩
       ·rw [if_neg c7] at H
        have c7b0 : ((rd l0 x5_1) == (rd l1 x5_1)) = false := beq_eq_false_iff_ne.mpr c7
        have c7b1 : ((rd l0 x5_1) != (rd l1 x5_1)) = true := bne_iff_ne.mpr c7
        obtain rfl := Option.some.inj H
        have p486 : 0 ≤ (x5_1 : Int) := of_decide_eq_true (by first | (with_reducible assumption) | assumption)
        have q486 : x5_1 < (l0.length : Int) := of_decide_eq_true (by first | (with_reducible assumption) | assumption)
        obtain ⟨ad486, e486, hx486_0⟩ := Kd.at_int HR0.out x5_1 p486 q486
        cases e486
        replace p486 := eq_true p486
        replace q486 := eq_true q486
        have p487 : 0 ≤ (x5_1 : Int) := of_decide_eq_true (by first | (with_reducible assumption) | assumption)
        have q487 : x5_1 < (l1.length : Int) := of_decide_eq_true (by first | (with_reducible assumption) | assumption)
        obtain ⟨ad487, e487, hx487_0⟩ := Kd.at_int HR1.out x5_1 p487 q487
        cases e487
        replace p487 := eq_true p487
        replace q487 := eq_true q487
        go_wp2
        repeat (go_quiet (fail); try go_wp2)
        go_ret
        exact ⟨by first | rfl | (simp; done) | (simp [*]; done), by repeat (first | exact Drawn0.refl _ | apply Drawn0.step)⟩
      ·rw [if_neg c6] at H
       exact absurd H (by simp)
     ·rw [if_neg c5] at H
      exact absurd H (by simp)
    ·rw [if_neg c4] at H
     have c4b0 : decide (x5_1 < (l0.length : Int)) = false := decide_eq_false c4
     clear c4
     obtain rfl := Option.some.inj H
     go_wp2
     repeat (go_quiet (fail); try go_wp2)
     go_ret
     exact ⟨by first | rfl | (simp; done) | (simp [*]; done), by repeat (first | exact Drawn0.refl _ | apply Drawn0.step)⟩
 ·rw [if_neg c3] at H
  have c3b0 : ((l0.length : Int) == (l1.length : Int)) = false := beq_eq_false_iff_ne.mpr c3
  have c3b1 : ((l0.length : Int) != (l1.length : Int)) = true := bne_iff_ne.mpr c3
  have c3b2 : (l0.length == l1.length) = false := by first | simpa using c3 | (simp at c3 ⊢; omega)
  obtain rfl := Option.some.inj H
  go_enter Try.func68, Try.ntmps68
  go_wp2
  repeat (go_quiet (fail); try go_wp2)
  go_ret
  exact ⟨by first | rfl | (simp; done) | (simp [*]; done), by repeat (first | exact Drawn0.refl _ | apply Drawn0.step)⟩

/-! ### laws_lwBuf: function 19 -/
def laws_lwBuf.f (k : Nat) (l0_0 : List Int) (a0_1 : Int) (a0_2 : Int) (l1_0 : List Int) (a1_1 : Int) (a1_2 : Int) : Option (Bool) := (laws_lwSame.f k l0_0 l1_0).bind fun t490 => (if t490 = true then (if a0_1 = a1_1 then (some (a0_2 == a1_2)) else (some false)) else (some false))
theorem laws_lwBuf.mono : ∀ a0 a1 a2 a3 a4 a5 k, LeO (laws_lwBuf.f k a0 a1 a2 a3 a4 a5) (laws_lwBuf.f (k + 1) a0 a1 a2 a3 a4 a5) := by
 intro a0 a1 a2 a3 a4 a5 k
 unfold laws_lwBuf.f
 repeat' first
   | (with_reducible exact laws_lwSame.mono _ _ _)
   | (with_reducible exact LeO.refl _)
   | (with_reducible exact LeO.none _)
   | (with_reducible refine LeO.ite ?_ ?_)
   | (with_reducible refine LeO.bind ?_ (fun _ => ?_))
   | exact laws_lwSame.mono _ _ _
   | exact LeO.none _
   | refine LeO.ite ?_ ?_
   | refine LeO.bind ?_ (fun _ => ?_)
set_option maxHeartbeats 8000000 in
set_option maxRecDepth 100000 in
theorem laws_lwBuf.calls (k : Nat) (A0_0 : Option Addr) (c0_0 : Nat) (l0_0 : List Int) (a0_1 : Int) (a0_2 : Int) (A1_0 : Option Addr) (c1_0 : Nat) (l1_0 : List Int) (a1_1 : Int) (a1_2 : Int) (r : Bool) (w : World) (hr0_0 : Kd.C (Kd.int .i64) w A0_0 l0_0.length l0_0) (hc0_0 : l0_0.length ≤ c0_0) (hr1_0 : Kd.C (Kd.int .i64) w A1_0 l1_0.length l1_0) (hc1_0 : l1_0.length ≤ c1_0) (h : laws_lwBuf.f k l0_0 a0_1 a0_2 l1_0 a1_1 a1_2 = some r) :
  Calls Try.prog 19 #[.agg #[.slice A0_0 l0_0.length c0_0, .int .i64 a0_1, .int .i64 a0_2], .agg #[.slice A1_0 l1_0.length c1_0, .int .i64 a1_1, .int .i64 a1_2]] w fun e w' => e = .returned (.bool r) ∧ Below w.heap.size w w' := by
 have hu39 := Try.underlying39
 have HR0_0 := am hr0_0
 have HC0_0 := am hc0_0
 clear hr0_0 hc0_0
 have HR1_0 := am hr1_0
 have HC1_0 := am hc1_0
 clear hr1_0 hc1_0
 have HB := am (Below.refl w.heap.size w)
 have H : ((laws_lwSame.f k l0_0 l1_0).bind fun t490 => (if t490 = true then (if a0_1 = a1_1 then (some (a0_2 == a1_2)) else (some false)) else (some false))) = some r := h
 clear h
 replace H := Option.bind_eq_some_iff.mp H
 obtain ⟨t490, A30, H⟩ := H
 replace H : (if t490 = true then (if a0_1 = a1_1 then (some (a0_2 == a1_2)) else (some false)) else (some false)) = some r := H
 have A3 := Aside0.mk A30
 clear A30
 by_cases c4 : t490 = true
 ·subst c4
  have H1 : (if a0_1 = a1_1 then (some (a0_2 == a1_2)) else (some false)) = some r := by rw [if_pos rfl] at H; exact H
  clear H
  have H := H1
  clear H1
  by_cases c5 : a0_1 = a1_1
  ·rw [if_pos c5] at H
   have c5b0 : (a0_1 == a1_1) = true := beq_iff_eq.mpr c5
   have c5b1 : (a0_1 != a1_1) = false := bne_eq_false_iff_eq.mpr c5
   clear c5
   obtain rfl := Option.some.inj H
   go_enter Try.func19, Try.ntmps19
   go_wp2_with (first | ((with_reducible refine gate_dst (N := 2) rfl ?_); refine box_event ?hg (N := 2) ?hd (cs := #[.slice A0_0 l0_0.length c0_0, .int .i64 a0_1, .int .i64 a0_2]) (t := 39) ?hr ?_; (case hd => rfl); (case hg => rfl); (case hr => first | (go_simp; done) | (go_simp; rfl)); intro gb488 hg w6 hbox hb; have BK488 := am (hbox); have GW488 := am ((by rw [hg]; exact (below_size (bl HB.out)) : w.heap.size ≤ gb488)); have GE488 := GW488; replace HB := am (below_step (bl HB.out) hb); clear hb hbox hg) | ((with_reducible refine gate_dst (N := 3) rfl ?_); refine box_event ?hg (N := 3) ?hd (cs := #[.slice A1_0 l1_0.length c1_0, .int .i64 a1_1, .int .i64 a1_2]) (t := 39) ?hr ?_; (case hd => rfl); (case hg => rfl); (case hr => first | (go_simp; done) | (go_simp; rfl)); intro gb489 hg w7 hbox hb; have BK489 := am (hbox); have GW489 := am ((by rw [hg]; exact (below_size (bl HB.out)) : w.heap.size ≤ gb489)); have GE489 := GW489; replace HB := am (below_step (bl HB.out) hb); have NB488_489 := am ((by rw [hg]; exact Nat.ne_of_lt (blk_lt (pk BK488.out)) : gb488 ≠ gb489)); have NB489_488 := am ((by rw [hg]; exact Nat.ne_of_gt (blk_lt (pk BK488.out)) : gb489 ≠ gb488)); replace BK488 := am (blk_below (pk BK488.out) hb); clear hb hbox hg; have hnb8 := NB488_489.out; have hnc8 := NB489_488.out; have hcz9_0 : w7.cell? ⟨gb488, 0, none⟩ = some (.slice A0_0 l0_0.length c0_0) := bc BK488.out 0; have hcz9_1 : w7.cell? ⟨gb488, 1, none⟩ = some (.int .i64 a0_1) := bc BK488.out 1; have hcz9_2 : w7.cell? ⟨gb488, 2, none⟩ = some (.int .i64 a0_2) := bc BK488.out 2; have hcz10_0 : w7.cell? ⟨gb489, 0, none⟩ = some (.slice A1_0 l1_0.length c1_0) := bc BK489.out 0; have hcz10_1 : w7.cell? ⟨gb489, 1, none⟩ = some (.int .i64 a1_1) := bc BK489.out 1; have hcz10_2 : w7.cell? ⟨gb489, 2, none⟩ = some (.int .i64 a1_2) := bc BK489.out 2) | ((with_reducible refine gate_callee (f := 68) rfl ?_); refine gl (some 9) Try.func68 #[.slice A0_0 l0_0.length c0_0, .slice A1_0 l1_0.length c1_0] ?_; (with_reducible refine (laws_lwSame.calls k _ _ l0_0 _ _ l1_0 true _ ?side1 ?side2 ?side3 ?side4 A3.out).mono ?_); (case side1 => repeat (first | exact (Kd.C_below HR0_0.out HB.out) | (with_reducible refine Kd.C_alloc ?_ _) | (with_reducible refine Kd.C_drewN ?_ _) | (with_reducible refine Kd.C_drew ?_))); (case side2 => exact HC0_0.out); (case side3 => repeat (first | exact (Kd.C_below HR1_0.out HB.out) | (with_reducible refine Kd.C_alloc ?_ _) | (with_reducible refine Kd.C_drewN ?_ _) | (with_reducible refine Kd.C_drew ?_))); (case side4 => exact HC1_0.out); rintro e w' ⟨rfl, ⟨nd, rfl⟩⟩; refine ⟨_, rfl, ?_⟩))
   go_ret
   exact ⟨by first | rfl | (simp [errW_none, errW_some] <;> rfl) | (simp [*, errW_none, errW_some] <;> rfl), by repeat (first | (with_reducible first | exact HB.out | apply below_alloc | apply pw_below_drewN | apply below_drew1 | refine below_set ?_ GE488.out | refine below_set ?_ GE489.out) | exact HB.out)⟩
  ·rw [if_neg c5] at H
   have c5b0 : (a0_1 == a1_1) = false := beq_eq_false_iff_ne.mpr c5
   have c5b1 : (a0_1 != a1_1) = true := bne_iff_ne.mpr c5
   obtain rfl := Option.some.inj H
   go_enter Try.func19, Try.ntmps19
   go_wp2_with (first | ((with_reducible refine gate_dst (N := 2) rfl ?_); refine box_event ?hg (N := 2) ?hd (cs := #[.slice A0_0 l0_0.length c0_0, .int .i64 a0_1, .int .i64 a0_2]) (t := 39) ?hr ?_; (case hd => rfl); (case hg => rfl); (case hr => first | (go_simp; done) | (go_simp; rfl)); intro gb488 hg w11 hbox hb; have BK488 := am (hbox); have GW488 := am ((by rw [hg]; exact (below_size (bl HB.out)) : w.heap.size ≤ gb488)); have GE488 := GW488; replace HB := am (below_step (bl HB.out) hb); clear hb hbox hg) | ((with_reducible refine gate_dst (N := 3) rfl ?_); refine box_event ?hg (N := 3) ?hd (cs := #[.slice A1_0 l1_0.length c1_0, .int .i64 a1_1, .int .i64 a1_2]) (t := 39) ?hr ?_; (case hd => rfl); (case hg => rfl); (case hr => first | (go_simp; done) | (go_simp; rfl)); intro gb489 hg w12 hbox hb; have BK489 := am (hbox); have GW489 := am ((by rw [hg]; exact (below_size (bl HB.out)) : w.heap.size ≤ gb489)); have GE489 := GW489; replace HB := am (below_step (bl HB.out) hb); have NB488_489 := am ((by rw [hg]; exact Nat.ne_of_lt (blk_lt (pk BK488.out)) : gb488 ≠ gb489)); have NB489_488 := am ((by rw [hg]; exact Nat.ne_of_gt (blk_lt (pk BK488.out)) : gb489 ≠ gb488)); replace BK488 := am (blk_below (pk BK488.out) hb); clear hb hbox hg; have hnb13 := NB488_489.out; have hnc13 := NB489_488.out; have hcz14_0 : w12.cell? ⟨gb488, 0, none⟩ = some (.slice A0_0 l0_0.length c0_0) := bc BK488.out 0; have hcz14_1 : w12.cell? ⟨gb488, 1, none⟩ = some (.int .i64 a0_1) := bc BK488.out 1; have hcz14_2 : w12.cell? ⟨gb488, 2, none⟩ = some (.int .i64 a0_2) := bc BK488.out 2; have hcz15_0 : w12.cell? ⟨gb489, 0, none⟩ = some (.slice A1_0 l1_0.length c1_0) := bc BK489.out 0; have hcz15_1 : w12.cell? ⟨gb489, 1, none⟩ = some (.int .i64 a1_1) := bc BK489.out 1; have hcz15_2 : w12.cell? ⟨gb489, 2, none⟩ = some (.int .i64 a1_2) := bc BK489.out 2) | ((with_reducible refine gate_callee (f := 68) rfl ?_); refine gl (some 9) Try.func68 #[.slice A0_0 l0_0.length c0_0, .slice A1_0 l1_0.length c1_0] ?_; (with_reducible refine (laws_lwSame.calls k _ _ l0_0 _ _ l1_0 true _ ?side1 ?side2 ?side3 ?side4 A3.out).mono ?_); (case side1 => repeat (first | exact (Kd.C_below HR0_0.out HB.out) | (with_reducible refine Kd.C_alloc ?_ _) | (with_reducible refine Kd.C_drewN ?_ _) | (with_reducible refine Kd.C_drew ?_))); (case side2 => exact HC0_0.out); (case side3 => repeat (first | exact (Kd.C_below HR1_0.out HB.out) | (with_reducible refine Kd.C_alloc ?_ _) | (with_reducible refine Kd.C_drewN ?_ _) | (with_reducible refine Kd.C_drew ?_))); (case side4 => exact HC1_0.out); rintro e w' ⟨rfl, ⟨nd, rfl⟩⟩; refine ⟨_, rfl, ?_⟩))
   go_ret
   exact ⟨by first | rfl | (simp [errW_none, errW_some] <;> rfl) | (simp [*, errW_none, errW_some] <;> rfl), by repeat (first | (with_reducible first | exact HB.out | apply below_alloc | apply pw_below_drewN | apply below_drew1 | refine below_set ?_ GE488.out | refine below_set ?_ GE489.out) | exact HB.out)⟩
 ·replace c4 := Bool.eq_false_iff.mpr c4
  subst c4
  have H1 : (some false) = some r := by rw [if_neg (show ¬ (false = true) by decide)] at H; exact H
  clear H
  have H := H1
  clear H1
  obtain rfl := Option.some.inj H
  go_enter Try.func19, Try.ntmps19
  go_wp2_with (first | ((with_reducible refine gate_dst (N := 2) rfl ?_); refine box_event ?hg (N := 2) ?hd (cs := #[.slice A0_0 l0_0.length c0_0, .int .i64 a0_1, .int .i64 a0_2]) (t := 39) ?hr ?_; (case hd => rfl); (case hg => rfl); (case hr => first | (go_simp; done) | (go_simp; rfl)); intro gb488 hg w16 hbox hb; have BK488 := am (hbox); have GW488 := am ((by rw [hg]; exact (below_size (bl HB.out)) : w.heap.size ≤ gb488)); have GE488 := GW488; replace HB := am (below_step (bl HB.out) hb); clear hb hbox hg) | ((with_reducible refine gate_dst (N := 3) rfl ?_); refine box_event ?hg (N := 3) ?hd (cs := #[.slice A1_0 l1_0.length c1_0, .int .i64 a1_1, .int .i64 a1_2]) (t := 39) ?hr ?_; (case hd => rfl); (case hg => rfl); (case hr => first | (go_simp; done) | (go_simp; rfl)); intro gb489 hg w17 hbox hb; have BK489 := am (hbox); have GW489 := am ((by rw [hg]; exact (below_size (bl HB.out)) : w.heap.size ≤ gb489)); have GE489 := GW489; replace HB := am (below_step (bl HB.out) hb); have NB488_489 := am ((by rw [hg]; exact Nat.ne_of_lt (blk_lt (pk BK488.out)) : gb488 ≠ gb489)); have NB489_488 := am ((by rw [hg]; exact Nat.ne_of_gt (blk_lt (pk BK488.out)) : gb489 ≠ gb488)); replace BK488 := am (blk_below (pk BK488.out) hb); clear hb hbox hg; have hnb18 := NB488_489.out; have hnc18 := NB489_488.out; have hcz19_0 : w17.cell? ⟨gb488, 0, none⟩ = some (.slice A0_0 l0_0.length c0_0) := bc BK488.out 0; have hcz19_1 : w17.cell? ⟨gb488, 1, none⟩ = some (.int .i64 a0_1) := bc BK488.out 1; have hcz19_2 : w17.cell? ⟨gb488, 2, none⟩ = some (.int .i64 a0_2) := bc BK488.out 2; have hcz20_0 : w17.cell? ⟨gb489, 0, none⟩ = some (.slice A1_0 l1_0.length c1_0) := bc BK489.out 0; have hcz20_1 : w17.cell? ⟨gb489, 1, none⟩ = some (.int .i64 a1_1) := bc BK489.out 1; have hcz20_2 : w17.cell? ⟨gb489, 2, none⟩ = some (.int .i64 a1_2) := bc BK489.out 2) | ((with_reducible refine gate_callee (f := 68) rfl ?_); refine gl (some 9) Try.func68 #[.slice A0_0 l0_0.length c0_0, .slice A1_0 l1_0.length c1_0] ?_; (with_reducible refine (laws_lwSame.calls k _ _ l0_0 _ _ l1_0 false _ ?side1 ?side2 ?side3 ?side4 A3.out).mono ?_); (case side1 => repeat (first | exact (Kd.C_below HR0_0.out HB.out) | (with_reducible refine Kd.C_alloc ?_ _) | (with_reducible refine Kd.C_drewN ?_ _) | (with_reducible refine Kd.C_drew ?_))); (case side2 => exact HC0_0.out); (case side3 => repeat (first | exact (Kd.C_below HR1_0.out HB.out) | (with_reducible refine Kd.C_alloc ?_ _) | (with_reducible refine Kd.C_drewN ?_ _) | (with_reducible refine Kd.C_drew ?_))); (case side4 => exact HC1_0.out); rintro e w' ⟨rfl, ⟨nd, rfl⟩⟩; refine ⟨_, rfl, ?_⟩))
  go_ret
  exact ⟨by first | rfl | (simp [errW_none, errW_some] <;> rfl) | (simp [*, errW_none, errW_some] <;> rfl), by repeat (first | (with_reducible first | exact HB.out | apply below_alloc | apply pw_below_drewN | apply below_drew1 | refine below_set ?_ GE488.out | refine below_set ?_ GE489.out) | exact HB.out)⟩

end Go.Proofs.Ytfkghjdhimhjjaa.PFnUndo
