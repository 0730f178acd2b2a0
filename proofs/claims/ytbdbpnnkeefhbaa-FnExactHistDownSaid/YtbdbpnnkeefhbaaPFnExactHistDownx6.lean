-- Written by xprint.py (this claim's own program, over the kit's printer); Lean checks it.
import Derived.Test.YtbdbpnnkeefhbaaPFnExactHistDownx0
import Derived.Test.YtbdbpnnkeefhbaaPFnExactHistDownx4
import Derived.Test.YtbdbpnnkeefhbaaPFnExactHistDownx5
namespace Go.Proofs.Ytbdbpnnkeefhbaa.PFnExactHistDown
open Go.RowKit Go.Proofs.YtbdbpnnkeefhbaaW.PrintWords Go.Proofs.YtbdbpnnkeefhbaaW.PrintLast Go.Proofs.YtbdbpnnkeefhbaaW.PrintMore
attribute [local go_sem] max2_int min2_int max_two min_two max_three min_three max_four min_four   -- for this text's walks alone
set_option linter.unusedVariables false
set_option linter.unusedSimpArgs false   -- squeezed

/-! ### impl_HistDown: function 37 -/
mutual
def impl_HistDown.j0 : Nat → List Int → Bool → List (List Int) → Int → List Int → Option ((List (List Int)) × Int × List Int × List Int × Int)
 | 0, _, _, _, _, _ => none
 | k + 1, x1, x12, x235000, x235001, x235002 => if x12 = true then (some (([] : List (List Int)), 0, ([] : List Int), ([] : List Int), 1)) else ((impl_size_sint64.f x235000).bind fun t239 => (if x235001 = t239 then (some (([] : List (List Int)), 0, ([] : List Int), ([] : List Int), 4)) else ((impl_ownHist.f k x235000 x235001 x235002).bind fun bt240 => (impl_HistDown.l0 k x1 x235002 x235000 x235001 x235002 bt240.1 (wrap64 (bt240.2.1 + 1)) bt240.2.2))))
def impl_HistDown.l0 : Nat → List Int → List Int → List (List Int) → Int → List Int → List (List Int) → Int → List Int → Option ((List (List Int)) × Int × List Int × List Int × Int)
 | 0, _, _, _, _, _, _, _, _ => none
 | k + 1, x1, x6, x235000, x235001, x235002, x248000, x248001, x248002 => (impl_size_sint64.f x235000).bind fun t248 => (if x248001 < t248 then (if 0 ≤ x248001 then (if x248001 < (x235000.length : Int) then ((impl_begins.f k (rd_L1 x235000 x248001) x1).bind fun t250 => (if t250 = true then ((slices_Clone_sint64_int64.f (rd_L1 x235000 x248001)).bind fun t252 => (some (x248000, x248001, x248002, t252, 0))) else (impl_HistDown.l0 k x1 x6 x235000 x235001 x235002 x248000 (wrap64 (x248001 + 1)) x248002))) else (none)) else (none)) else ((slices_Clone_sint64_int64.f x6).bind fun t255 => (some (x248000, x248001, x248002, t255, 0))))
end
def impl_HistDown.f (k : Nat) (l0_0 : List (List Int)) (a0_1 : Int) (l0_2 : List Int) (l1 : List Int) : Option ((List (List Int)) × Int × List Int × List Int × Int) := (impl_isMany.f (l1.length : Int)).bind fun t236 => (if t236 = true then (some (([] : List (List Int)), 0, ([] : List Int), ([] : List Int), 2)) else ((impl_HistRight.f k l0_0 a0_1 l0_2).bind fun t237 => (if t237 = true then ((impl_PointsRight.f k l1).bind fun t238 => (impl_HistDown.j0 k l1 (!t238) l0_0 a0_1 l0_2)) else (impl_HistDown.j0 k l1 true l0_0 a0_1 l0_2))))
theorem impl_HistDown.mono_l : ∀ k, (∀ y0 y1 y2 y3 y4, LeO (impl_HistDown.j0 k y0 y1 y2 y3 y4) (impl_HistDown.j0 (k + 1) y0 y1 y2 y3 y4)) ∧ (∀ y0 y1 y2 y3 y4 y5 y6 y7, LeO (impl_HistDown.l0 k y0 y1 y2 y3 y4 y5 y6 y7) (impl_HistDown.l0 (k + 1) y0 y1 y2 y3 y4 y5 y6 y7))
 | 0 => ⟨fun _ _ _ _ _ r h => by simp [impl_HistDown.j0] at h, fun _ _ _ _ _ _ _ _ r h => by simp [impl_HistDown.l0] at h⟩
 | k + 1 => by
  obtain ⟨ih0, ih1⟩ := impl_HistDown.mono_l k
  refine ⟨?_, ?_⟩
  ·intro y0 y1 y2 y3 y4
   unfold impl_HistDown.j0
   repeat' first
   | (with_reducible exact ih0 _ _ _ _ _)
   | (with_reducible exact ih1 _ _ _ _ _ _ _ _)
   | (with_reducible exact impl_HistRight.mono _ _ _ _)
   | (with_reducible exact impl_PointsRight.mono _ _)
   | (with_reducible exact impl_begins.mono _ _ _)
   | (with_reducible exact impl_ownHist.mono _ _ _ _)
   | (with_reducible exact LeO.refl _)
   | (with_reducible exact LeO.none _)
   | (with_reducible refine LeO.ite ?_ ?_)
   | (with_reducible refine LeO.bind ?_ (fun _ => ?_))
   | exact ih0 _ _ _ _ _
   | exact ih1 _ _ _ _ _ _ _ _
   | exact impl_HistRight.mono _ _ _ _
   | exact impl_PointsRight.mono _ _
   | exact impl_begins.mono _ _ _
   | exact impl_ownHist.mono _ _ _ _
   | exact LeO.none _
   | refine LeO.ite ?_ ?_
   | refine LeO.bind ?_ (fun _ => ?_)
  ·intro y0 y1 y2 y3 y4 y5 y6 y7
   unfold impl_HistDown.l0
   repeat' first
   | (with_reducible exact ih0 _ _ _ _ _)
   | (with_reducible exact ih1 _ _ _ _ _ _ _ _)
   | (with_reducible exact impl_HistRight.mono _ _ _ _)
   | (with_reducible exact impl_PointsRight.mono _ _)
   | (with_reducible exact impl_begins.mono _ _ _)
   | (with_reducible exact impl_ownHist.mono _ _ _ _)
   | (with_reducible exact LeO.refl _)
   | (with_reducible exact LeO.none _)
   | (with_reducible refine LeO.ite ?_ ?_)
   | (with_reducible refine LeO.bind ?_ (fun _ => ?_))
   | exact ih0 _ _ _ _ _
   | exact ih1 _ _ _ _ _ _ _ _
   | exact impl_HistRight.mono _ _ _ _
   | exact impl_PointsRight.mono _ _
   | exact impl_begins.mono _ _ _
   | exact impl_ownHist.mono _ _ _ _
   | exact LeO.none _
   | refine LeO.ite ?_ ?_
   | refine LeO.bind ?_ (fun _ => ?_)
theorem impl_HistDown.mono : ∀ a0 a1 a2 a3 k, LeO (impl_HistDown.f k a0 a1 a2 a3) (impl_HistDown.f (k + 1) a0 a1 a2 a3) := by
 intro a0 a1 a2 a3 k
 obtain ⟨ih0, ih1⟩ := impl_HistDown.mono_l k
 unfold impl_HistDown.f
 repeat' first
   | (with_reducible exact ih0 _ _ _ _ _)
   | (with_reducible exact ih1 _ _ _ _ _ _ _ _)
   | (with_reducible exact impl_HistRight.mono _ _ _ _)
   | (with_reducible exact impl_PointsRight.mono _ _)
   | (with_reducible exact impl_begins.mono _ _ _)
   | (with_reducible exact impl_ownHist.mono _ _ _ _)
   | (with_reducible exact LeO.refl _)
   | (with_reducible exact LeO.none _)
   | (with_reducible refine LeO.ite ?_ ?_)
   | (with_reducible refine LeO.bind ?_ (fun _ => ?_))
   | exact ih0 _ _ _ _ _
   | exact ih1 _ _ _ _ _ _ _ _
   | exact impl_HistRight.mono _ _ _ _
   | exact impl_PointsRight.mono _ _
   | exact impl_begins.mono _ _ _
   | exact impl_ownHist.mono _ _ _ _
   | exact LeO.none _
   | refine LeO.ite ?_ ?_
   | refine LeO.bind ?_ (fun _ => ?_)
set_option maxHeartbeats 8000000 in
set_option maxRecDepth 100000 in
theorem impl_HistDown.calls (k : Nat) (A0_0 : Option Addr) (c0_0 : Nat) (l0_0 : List (List Int)) (a0_1 : Int) (P0_2_ : Nat → Prop) (A0_2 : Option Addr) (c0_2 : Nat) (l0_2 : List Int) (A1 : Option Addr) (c1 : Nat) (l1 : List Int) (r1 : List (List Int)) (r2 : Int) (r3 : List Int) (r4 : List Int) (r5 : Int) (w : World) (hr0_0 : Kd.C (Kd.slice 2 (Kd.int .i64)) w A0_0 l0_0.length l0_0) (hc0_0 : l0_0.length ≤ c0_0) (hs0_2 : Kd.V (Kd.int .i64) 2 w w.heap.size (fun k_ => P0_2_ k_) (.slice A0_2 l0_2.length c0_2) l0_2) (hr1 : Kd.C (Kd.int .i64) w A1 l1.length l1) (hc1 : l1.length ≤ c1) (h : impl_HistDown.f k l0_0 a0_1 l0_2 l1 = some (r1, r2, r3, r4, r5)) :
  Calls Try.prog 37 #[.agg #[.slice A0_0 l0_0.length c0_0, .int .i64 a0_1, .slice A0_2 l0_2.length c0_2], .slice A1 l1.length c1] w fun e w' => ∃ v0_ v2_ v3_ : Value, e = .returned (.agg #[v0_, .int .i64 r2, v2_, v3_, .int .i64 r5]) ∧ Kd.S (Kd.slice 2 (Kd.int .i64)) 22 w' w.heap.size (fun k_ => (w.heap.size ≤ k_) ∧ some k_ ≠ (v2_ : Value).ownBlock ∧ some k_ ≠ (v3_ : Value).ownBlock) v0_ r1 ∧ Kd.R (Kd.int .i64) 2 w' w.heap.size (fun k_ => (w.heap.size ≤ k_) ∧ some k_ ≠ (v3_ : Value).ownBlock) v2_ r3 ∧ Kd.R (Kd.int .i64) 2 w' w.heap.size (fun k_ => (w.heap.size ≤ k_) ∧ some k_ ≠ (v2_ : Value).ownBlock) v3_ r4 ∧ Below w.heap.size w w' := by
 have hu60 := Try.underlying60
 have hu62 := Try.underlying62
 have HR0_0 := am hr0_0
 have HC0_0 := am hc0_0
 clear hr0_0 hc0_0
 have HO0_2 := am (show Kd.V (Kd.int .i64) 2 w w.heap.size (fun k_ => (P0_2_ k_ ∨ w.heap.size ≤ k_)) (.slice A0_2 l0_2.length c0_2) l0_2 from Kd.V_mono hs0_2 (fun k_ hk => .inl hk))
 have HR1 := am hr1
 have HC1 := am hc1
 clear hr1 hc1
 have HB := am (Below.refl w.heap.size w)
 have H : ((impl_isMany.f (l1.length : Int)).bind fun t236 => (if t236 = true then (some (([] : List (List Int)), 0, ([] : List Int), ([] : List Int), 2)) else ((impl_HistRight.f k l0_0 a0_1 l0_2).bind fun t237 => (if t237 = true then ((impl_PointsRight.f k l1).bind fun t238 => (impl_HistDown.j0 k l1 (!t238) l0_0 a0_1 l0_2)) else (impl_HistDown.j0 k l1 true l0_0 a0_1 l0_2))))) = some (r1, r2, r3, r4, r5) := h
 clear h
 replace H := Option.bind_eq_some_iff.mp H
 obtain ⟨t236, A30, H⟩ := H
 replace H : (if t236 = true then (some (([] : List (List Int)), 0, ([] : List Int), ([] : List Int), 2)) else ((impl_HistRight.f k l0_0 a0_1 l0_2).bind fun t237 => (if t237 = true then ((impl_PointsRight.f k l1).bind fun t238 => (impl_HistDown.j0 k l1 (!t238) l0_0 a0_1 l0_2)) else (impl_HistDown.j0 k l1 true l0_0 a0_1 l0_2)))) = some (r1, r2, r3, r4, r5) := H
 have A3 := Aside0.mk A30
 clear A30
 by_cases c4 : t236 = true
 ·subst c4
  have H1 : (some (([] : List (List Int)), 0, ([] : List Int), ([] : List Int), 2)) = some (r1, r2, r3, r4, r5) := by rw [if_pos rfl] at H; exact H
  clear H
  have H := H1
  clear H1
  simp only [Option.some.injEq, Prod.mk.injEq] at H
  obtain ⟨rfl, rfl, rfl, rfl, rfl⟩ := H
  go_enter Try.func37, Try.ntmps37
  go_wp2_with (first | ((with_reducible refine gate_dst (N := 2) rfl ?_); refine box_event ?hg (N := 2) ?hd (cs := #[.slice A0_0 l0_0.length c0_0, .int .i64 a0_1, .slice A0_2 l0_2.length c0_2]) (t := 60) ?hr ?_; (case hd => rfl); (case hg => rfl); (case hr => first | (go_simp; done) | (go_simp; rfl)); intro gb234 hg w5 hbox hb; have n0_ := am (Kd.V_below (Kd.V_elderB (by (with_reducible repeat (first | apply Kd.V_alloc | apply Kd.V_drewN | apply Kd.V_drew)); exact HO0_2.out) gb234 (Nat.le_of_eq hg.symm)) hb); have n1_ := am (below_step (bl HB.out) hb); have n2_ := am (hbox); have n3_ := am ((by rw [hg]; exact (below_size (bl HB.out)) : w.heap.size ≤ gb234)); have n4_ := am ((by rw [hg]; exact (below_size (bl HB.out)) : w.heap.size ≤ gb234)); clear HO0_2; clear HB; have HO0_2 := n0_; have HB := n1_; have BK234 := n2_; have GW234 := n3_; have GE234 := n4_; clear n0_ n1_ n2_ n3_ n4_; clear hb hbox hg) | ((with_reducible refine gate_dst (N := 4) rfl ?_); refine box_event ?hg (N := 4) ?hd (cs := #[.slice none 0 0, .int .i64 0, .slice none 0 0, .slice none 0 0, .int .i64 0]) (t := 62) ?hr ?_; (case hd => rfl); (case hg => rfl); (case hr => first | (go_simp; done) | (go_simp; rfl)); intro gb235 hg w6 hbox hb; have n0_ := am (Kd.V_below (Kd.V_elderB (by (with_reducible repeat (first | apply Kd.V_alloc | apply Kd.V_drewN | apply Kd.V_drew)); exact HO0_2.out) gb235 (Nat.le_of_eq hg.symm)) hb); have n1_ := am (blk_below (g := gb234) (o := .cells #[.slice A0_0 l0_0.length c0_0, .int .i64 a0_1, .slice A0_2 l0_2.length c0_2] 60 (0, 0)) (pk BK234.out) hb); have n2_ := am (below_step (by repeat (first | (with_reducible first | exact HB.out | apply below_alloc | apply pw_below_drewN | apply below_drew1 | refine below_set ?_ GE234.out) | exact HB.out)) hb); have n3_ := am (hbox); have n4_ := am ((by rw [hg]; exact (below_size (by repeat (first | (with_reducible first | exact HB.out | apply below_alloc | apply pw_below_drewN | apply below_drew1 | refine below_set ?_ GE234.out) | exact HB.out))) : w.heap.size ≤ gb235)); have n5_ := am ((by rw [hg]; exact (below_size (by repeat (first | (with_reducible first | exact HB.out | apply below_alloc | apply pw_below_drewN | apply below_drew1 | refine below_set ?_ GE234.out) | exact HB.out))) : w.heap.size ≤ gb235)); have n6_ := am ((by rw [hg]; exact Nat.ne_of_lt (blk_lt (g := gb234) (o := .cells #[.slice A0_0 l0_0.length c0_0, .int .i64 a0_1, .slice A0_2 l0_2.length c0_2] 60 (0, 0)) (pk BK234.out)) : gb234 ≠ gb235)); have n7_ := am ((by rw [hg]; exact Nat.ne_of_gt (blk_lt (g := gb234) (o := .cells #[.slice A0_0 l0_0.length c0_0, .int .i64 a0_1, .slice A0_2 l0_2.length c0_2] 60 (0, 0)) (pk BK234.out)) : gb235 ≠ gb234)); clear HO0_2; clear BK234; clear HB; have HO0_2 := n0_; have BK234 := n1_; have HB := n2_; have BK235 := n3_; have GW235 := n4_; have GE235 := n5_; have NB234_235 := n6_; have NB235_234 := n7_; clear n0_ n1_ n2_ n3_ n4_ n5_ n6_ n7_; clear hb hbox hg) | ((with_reducible refine gate_callee (f := 53) rfl ?_); refine gl (some 10) Try.func53 #[.int .i64 (l1.length : Int)] ?_; (with_reducible refine (impl_isMany.calls (l1.length : Int) true _ A3.out).mono ?_); rintro e w' ⟨rfl, ⟨nd, rfl⟩⟩; refine ⟨_, rfl, ?_⟩; (try (rw [drewN_self w6]; generalize hq_ : World.drewN w6 _ = w6; have n0_ : Aside0 (Kd.V (Kd.int .i64) 2 w6 w.heap.size (fun k_ => (P0_2_ k_ ∨ w.heap.size ≤ k_) ∧ k_ ≠ gb234 ∧ k_ ≠ gb235) (.slice A0_2 l0_2.length c0_2) l0_2) := ⟨by rw [← hq_]; exact (by (with_reducible repeat (first | apply Kd.V_alloc | apply Kd.V_drewN | apply Kd.V_drew)); exact Kd.V_mono HO0_2.out (fun _ hk => ⟨hk.1.1, ⟨hk.1.2, hk.2⟩⟩))⟩; have n1_ : Aside0 (w6.heap[gb234]? = some (.cells #[.slice A0_0 l0_0.length c0_0, .int .i64 a0_1, .slice A0_2 l0_2.length c0_2] 60 (0, 0))) := ⟨by rw [← hq_]; exact (pk BK234.out)⟩; have n2_ : Aside0 (w6.heap[gb235]? = some (.cells #[.slice none 0 0, .int .i64 0, .slice none 0 0, .slice none 0 0, .int .i64 0] 62 (0, 0))) := ⟨by rw [← hq_]; exact (pk BK235.out)⟩; have n3_ : Aside0 (Below w.heap.size w w6) := ⟨by rw [← hq_]; exact (by repeat (first | (with_reducible first | exact HB.out | apply below_alloc | apply pw_below_drewN | apply below_drew1 | refine below_set ?_ GE234.out | refine below_set ?_ GE235.out) | exact HB.out))⟩; clear HO0_2 BK234 BK235 HB hq_; have HO0_2 := n0_; have BK234 := n1_; have BK235 := n2_; have HB := n3_; clear n0_ n1_ n2_ n3_)); have hnb7 := NB235_234.out; have hnc7 := NB234_235.out; have hcz8_0 : w6.cell? ⟨gb235, 0, none⟩ = some (.slice none 0 0) := (blk_cell BK235.out 0).trans rfl; have hcz8_1 : w6.cell? ⟨gb235, 1, none⟩ = some (.int .i64 0) := (blk_cell BK235.out 1).trans rfl; have hcz8_2 : w6.cell? ⟨gb235, 2, none⟩ = some (.slice none 0 0) := (blk_cell BK235.out 2).trans rfl; have hcz8_3 : w6.cell? ⟨gb235, 3, none⟩ = some (.slice none 0 0) := (blk_cell BK235.out 3).trans rfl; have hcz8_4 : w6.cell? ⟨gb235, 4, none⟩ = some (.int .i64 0) := (blk_cell BK235.out 4).trans rfl; have hfz8_0 := blk_frozen BK235.out 0; have hfz8_1 := blk_frozen BK235.out 1; have hfz8_2 := blk_frozen BK235.out 2; have hfz8_3 := blk_frozen BK235.out 3; have hfz8_4 := blk_frozen BK235.out 4))
  refine bodyPost_ret (results_cell_row rfl _ _ gb235 62 #[.slice none 0 0, .int .i64 0, .slice none 0 0, .slice none 0 0, .int .i64 2] (0, 0) _ rfl (by (with_reducible repeat (first | refine blk_drewN ?_ _ | refine blk_drew ?_ | refine blk_alloc ?_ _)); refine blk_put (cs := #[.slice none 0 0, .int .i64 0, .slice none 0 0, .slice none 0 0, .int .i64 0]) ?_ 4 _ rfl; (with_reducible repeat (first | refine blk_drewN ?_ _ | refine blk_drew ?_ | refine blk_alloc ?_ _)); refine blk_put (cs := #[.slice none 0 0, .int .i64 0, .slice none 0 0, .slice none 0 0, .int .i64 0]) ?_ 3 _ rfl; (with_reducible repeat (first | refine blk_drewN ?_ _ | refine blk_drew ?_ | refine blk_alloc ?_ _)); refine blk_put (cs := #[.slice none 0 0, .int .i64 0, .slice none 0 0, .slice none 0 0, .int .i64 0]) ?_ 2 _ rfl; (with_reducible repeat (first | refine blk_drewN ?_ _ | refine blk_drew ?_ | refine blk_alloc ?_ _)); refine blk_put (cs := #[.slice none 0 0, .int .i64 0, .slice none 0 0, .slice none 0 0, .int .i64 0]) ?_ 1 _ rfl; (with_reducible repeat (first | refine blk_drewN ?_ _ | refine blk_drew ?_ | refine blk_alloc ?_ _)); refine blk_put (cs := #[.slice none 0 0, .int .i64 0, .slice none 0 0, .slice none 0 0, .int .i64 0]) ?_ 0 _ rfl; (with_reducible repeat (first | refine blk_drewN ?_ _ | refine blk_drew ?_ | refine blk_alloc ?_ _)); exact BK235.out) Try.underlying62 rfl (by kernel_rfl)) rfl ?_
  exact ⟨_, _, _, by first | rfl | (simp [errW_none, errW_some] <;> rfl) | (simp [*, errW_none, errW_some] <;> rfl), by first | exact Kd.S_nil _ _ _ _ _ | exact Kd.N_nil _ _ _ _ _ | exact Kd.V_nil _ _ _ _ _ | exact Kd.Q_nil _ _ _ _ _ | exact Kd.R_nil _ _ _ _ _, by first | exact Kd.R_nil _ _ _ _ _ | exact Kd.N_nil _ _ _ _ _ | exact Kd.V_nil _ _ _ _ _ | exact Kd.Q_nil _ _ _ _ _ | exact Kd.S_nil _ _ _ _ _, by first | exact Kd.R_nil _ _ _ _ _ | exact Kd.N_nil _ _ _ _ _ | exact Kd.V_nil _ _ _ _ _ | exact Kd.Q_nil _ _ _ _ _ | exact Kd.S_nil _ _ _ _ _, by repeat (first | (with_reducible first | exact HB.out | apply below_alloc | apply pw_below_drewN | apply below_drew1 | refine below_set ?_ GE234.out | refine below_set ?_ GE235.out) | exact HB.out)⟩
 ·replace c4 := Bool.eq_false_iff.mpr c4
  subst c4
  have H1 : ((impl_HistRight.f k l0_0 a0_1 l0_2).bind fun t237 => (if t237 = true then ((impl_PointsRight.f k l1).bind fun t238 => (impl_HistDown.j0 k l1 (!t238) l0_0 a0_1 l0_2)) else (impl_HistDown.j0 k l1 true l0_0 a0_1 l0_2))) = some (r1, r2, r3, r4, r5) := by rw [if_neg (show ¬ (false = true) by decide)] at H; exact H
  clear H
  have H := H1
  clear H1
  have HC9 := Aside0.mk H
  clear H
  go_enter Try.func37, Try.ntmps37
  go_upto_region 3 with (first | ((with_reducible refine gate_dst (N := 2) rfl ?_); refine box_event ?hg (N := 2) ?hd (cs := #[.slice A0_0 l0_0.length c0_0, .int .i64 a0_1, .slice A0_2 l0_2.length c0_2]) (t := 60) ?hr ?_; (case hd => rfl); (case hg => rfl); (case hr => first | (go_simp; done) | (go_simp; rfl)); intro gb234 hg w10 hbox hb; have n0_ := am (Kd.V_below (Kd.V_elderB (by (with_reducible repeat (first | apply Kd.V_alloc | apply Kd.V_drewN | apply Kd.V_drew)); exact HO0_2.out) gb234 (Nat.le_of_eq hg.symm)) hb); have n1_ := am (below_step (bl HB.out) hb); have n2_ := am (hbox); have n3_ := am ((by rw [hg]; exact (below_size (bl HB.out)) : w.heap.size ≤ gb234)); have n4_ := am ((by rw [hg]; exact (below_size (bl HB.out)) : w.heap.size ≤ gb234)); clear HO0_2; clear HB; have HO0_2 := n0_; have HB := n1_; have BK234 := n2_; have GW234 := n3_; have GE234 := n4_; clear n0_ n1_ n2_ n3_ n4_; clear hb hbox hg) | ((with_reducible refine gate_dst (N := 4) rfl ?_); refine box_event ?hg (N := 4) ?hd (cs := #[.slice none 0 0, .int .i64 0, .slice none 0 0, .slice none 0 0, .int .i64 0]) (t := 62) ?hr ?_; (case hd => rfl); (case hg => rfl); (case hr => first | (go_simp; done) | (go_simp; rfl)); intro gb235 hg w11 hbox hb; have n0_ := am (Kd.V_below (Kd.V_elderB (by (with_reducible repeat (first | apply Kd.V_alloc | apply Kd.V_drewN | apply Kd.V_drew)); exact HO0_2.out) gb235 (Nat.le_of_eq hg.symm)) hb); have n1_ := am (blk_below (g := gb234) (o := .cells #[.slice A0_0 l0_0.length c0_0, .int .i64 a0_1, .slice A0_2 l0_2.length c0_2] 60 (0, 0)) (pk BK234.out) hb); have n2_ := am (below_step (by repeat (first | (with_reducible first | exact HB.out | apply below_alloc | apply pw_below_drewN | apply below_drew1 | refine below_set ?_ GE234.out) | exact HB.out)) hb); have n3_ := am (hbox); have n4_ := am ((by rw [hg]; exact (below_size (by repeat (first | (with_reducible first | exact HB.out | apply below_alloc | apply pw_below_drewN | apply below_drew1 | refine below_set ?_ GE234.out) | exact HB.out))) : w.heap.size ≤ gb235)); have n5_ := am ((by rw [hg]; exact (below_size (by repeat (first | (with_reducible first | exact HB.out | apply below_alloc | apply pw_below_drewN | apply below_drew1 | refine below_set ?_ GE234.out) | exact HB.out))) : w.heap.size ≤ gb235)); have n6_ := am ((by rw [hg]; exact Nat.ne_of_lt (blk_lt (g := gb234) (o := .cells #[.slice A0_0 l0_0.length c0_0, .int .i64 a0_1, .slice A0_2 l0_2.length c0_2] 60 (0, 0)) (pk BK234.out)) : gb234 ≠ gb235)); have n7_ := am ((by rw [hg]; exact Nat.ne_of_gt (blk_lt (g := gb234) (o := .cells #[.slice A0_0 l0_0.length c0_0, .int .i64 a0_1, .slice A0_2 l0_2.length c0_2] 60 (0, 0)) (pk BK234.out)) : gb235 ≠ gb234)); clear HO0_2; clear BK234; clear HB; have HO0_2 := n0_; have BK234 := n1_; have HB := n2_; have BK235 := n3_; have GW235 := n4_; have GE235 := n5_; have NB234_235 := n6_; have NB235_234 := n7_; clear n0_ n1_ n2_ n3_ n4_ n5_ n6_ n7_; clear hb hbox hg) | ((with_reducible refine gate_callee (f := 53) rfl ?_); refine gl (some 10) Try.func53 #[.int .i64 (l1.length : Int)] ?_; (with_reducible refine (impl_isMany.calls (l1.length : Int) false _ A3.out).mono ?_); rintro e w' ⟨rfl, ⟨nd, rfl⟩⟩; refine ⟨_, rfl, ?_⟩))
  (try simp only [Act.put, List.setIfInBounds_toArray, List.set_cons_zero, List.set_cons_succ])
  go_cut [12] (fun v12 wc => ∃ (kq : Nat) (x12_8 : Bool), v12 = .bool x12_8 ∧ Aside0 (impl_HistDown.j0 kq l1 x12_8 l0_0 a0_1 l0_2 = some (r1, r2, r3, r4, r5)) ∧ Aside0 (kq ≤ k) ∧ Aside0 (Kd.V (Kd.int .i64) 2 wc w.heap.size (fun k_ => (P0_2_ k_ ∨ w.heap.size ≤ k_) ∧ k_ ≠ gb234 ∧ k_ ≠ gb235) (.slice A0_2 l0_2.length c0_2) l0_2) ∧ Aside0 (wc.heap[gb234]? = some (.cells #[(.slice A0_0 l0_0.length c0_0), .int .i64 a0_1, (.slice A0_2 l0_2.length c0_2)] 60 (0, 0))) ∧ Aside0 (wc.heap[gb235]? = some (.cells #[(.slice none 0 0), .int .i64 0, (.slice none 0 0), (.slice none 0 0), .int .i64 0] 62 (0, 0))) ∧ Aside0 (Below w.heap.size w wc))
  case first =>
   have H := HC9.out
   clear HC9
   replace H := Option.bind_eq_some_iff.mp H
   obtain ⟨t237, A120, H⟩ := H
   replace H : (if t237 = true then ((impl_PointsRight.f k l1).bind fun t238 => (impl_HistDown.j0 k l1 (!t238) l0_0 a0_1 l0_2)) else (impl_HistDown.j0 k l1 true l0_0 a0_1 l0_2)) = some (r1, r2, r3, r4, r5) := H
   have A12 := Aside0.mk A120
   clear A120
   by_cases c13 : t237 = true
   ·subst c13
    have H1 : ((impl_PointsRight.f k l1).bind fun t238 => (impl_HistDown.j0 k l1 (!t238) l0_0 a0_1 l0_2)) = some (r1, r2, r3, r4, r5) := by rw [if_pos rfl] at H; exact H
    clear H
    have H := H1
    clear H1
    replace H := Option.bind_eq_some_iff.mp H
    obtain ⟨t238, A140, H⟩ := H
    replace H : (impl_HistDown.j0 k l1 (!t238) l0_0 a0_1 l0_2) = some (r1, r2, r3, r4, r5) := H
    have A14 := Aside0.mk A140
    clear A140
    have H' := Aside0.mk H
    clear H
    have hnb15 := NB234_235.out
    have hnc15 := NB235_234.out
    have hcz16_0 : w11.cell? ⟨gb234, 0, none⟩ = some (.slice A0_0 l0_0.length c0_0) := (blk_cell BK234.out 0).trans rfl
    have hcz16_1 : w11.cell? ⟨gb234, 1, none⟩ = some (.int .i64 a0_1) := (blk_cell BK234.out 1).trans rfl
    have hcz16_2 : w11.cell? ⟨gb234, 2, none⟩ = some (.slice A0_2 l0_2.length c0_2) := (blk_cell BK234.out 2).trans rfl
    have hfz16_0 := blk_frozen BK234.out 0
    have hfz16_1 := blk_frozen BK234.out 1
    have hfz16_2 := blk_frozen BK234.out 2
    go_wp2_with (first | ((with_reducible refine gate_callee (f := 70) rfl ?_); refine gl (some 14) Try.func70 #[.agg #[.slice A0_0 l0_0.length c0_0, .int .i64 a0_1, .slice A0_2 l0_2.length c0_2]] ?_; (with_reducible refine (impl_HistRight.calls k _ _ l0_0 a0_1 _ _ l0_2 true _ ?side1 ?side2 ?side3 ?side4 A12.out).mono ?_); (case side1 => repeat (first | exact (Kd.C_below HR0_0.out HB.out) | (with_reducible refine Kd.C_alloc ?_ _) | (with_reducible refine Kd.C_drewN ?_ _) | (with_reducible refine Kd.C_drew ?_))); (case side2 => exact HC0_0.out); (case side3 => repeat (first | exact (Kd.V_reads' HO0_2.out).2.2 | (with_reducible refine Kd.C_alloc ?_ _) | (with_reducible refine Kd.C_drewN ?_ _) | (with_reducible refine Kd.C_drew ?_))); (case side4 => exact (Kd.V_reads' HO0_2.out).2.1); rintro e w17 ⟨rfl, hb⟩; refine ⟨_, rfl, ?_⟩; have n0_ := am (Kd.V_below (by (with_reducible repeat (first | apply Kd.V_alloc | apply Kd.V_drewN | apply Kd.V_drew)); exact HO0_2.out) hb); have n1_ := am (blk_below (g := gb234) (o := .cells #[.slice A0_0 l0_0.length c0_0, .int .i64 a0_1, .slice A0_2 l0_2.length c0_2] 60 (0, 0)) (pk BK234.out) hb); have n2_ := am (blk_below (g := gb235) (o := .cells #[.slice none 0 0, .int .i64 0, .slice none 0 0, .slice none 0 0, .int .i64 0] 62 (0, 0)) (pk BK235.out) hb); have n3_ := am (below_step (by repeat (first | (with_reducible first | exact HB.out | apply below_alloc | apply pw_below_drewN | apply below_drew1 | refine below_set ?_ GE234.out | refine below_set ?_ GE235.out) | exact HB.out)) hb); clear HO0_2; clear BK234; clear BK235; clear HB; have HO0_2 := n0_; have BK234 := n1_; have BK235 := n2_; have HB := n3_; clear n0_ n1_ n2_ n3_; (try clear hb); (try clear hb2); (try clear hk); (try clear hi)) | (go_at_call 55; (with_reducible refine (impl_PointsRight.calls k _ _ l1 t238 _ ?side1 ?side2 A14.out).mono ?_); (case side1 => repeat (first | exact (Kd.C_below HR1.out HB.out) | (with_reducible refine Kd.C_alloc ?_ _) | (with_reducible refine Kd.C_drewN ?_ _) | (with_reducible refine Kd.C_drew ?_))); (case side2 => exact HC1.out); rintro e w' ⟨rfl, ⟨nd, rfl⟩⟩))
    go_meet
    case rel => exact ⟨_, (!t238), (by first | rfl | (simp; done) | (simp [*]; done)), H', ⟨by first | omega | exact Nat.le_refl _⟩, ⟨by (with_reducible repeat (first | apply Kd.V_alloc | apply Kd.V_drewN | apply Kd.V_drew)); exact Kd.V_mono HO0_2.out (fun _ hk => ⟨hk.1.1, ⟨hk.1.2, hk.2⟩⟩)⟩, ⟨by (with_reducible repeat (first | refine blk_drewN ?_ _ | refine blk_drew ?_ | refine blk_alloc ?_ _)); exact BK234.out⟩, ⟨by (with_reducible repeat (first | refine blk_drewN ?_ _ | refine blk_drew ?_ | refine blk_alloc ?_ _)); exact BK235.out⟩, ⟨by repeat (first | (with_reducible first | exact HB.out | apply below_alloc | apply pw_below_drewN | apply below_drew1 | refine below_set ?_ GE234.out | refine below_set ?_ GE235.out) | exact HB.out)⟩⟩
   ·replace c13 := Bool.eq_false_iff.mpr c13
    subst c13
    have H1 : (impl_HistDown.j0 k l1 true l0_0 a0_1 l0_2) = some (r1, r2, r3, r4, r5) := by rw [if_neg (show ¬ (false = true) by decide)] at H; exact H
    clear H
    have H := H1
    clear H1
    have H' := Aside0.mk H
    clear H
    have hnb18 := NB234_235.out
    have hnc18 := NB235_234.out
    have hcz19_0 : w11.cell? ⟨gb234, 0, none⟩ = some (.slice A0_0 l0_0.length c0_0) := (blk_cell BK234.out 0).trans rfl
    have hcz19_1 : w11.cell? ⟨gb234, 1, none⟩ = some (.int .i64 a0_1) := (blk_cell BK234.out 1).trans rfl
    have hcz19_2 : w11.cell? ⟨gb234, 2, none⟩ = some (.slice A0_2 l0_2.length c0_2) := (blk_cell BK234.out 2).trans rfl
    have hfz19_0 := blk_frozen BK234.out 0
    have hfz19_1 := blk_frozen BK234.out 1
    have hfz19_2 := blk_frozen BK234.out 2
    go_wp2_with (first | ((with_reducible refine gate_callee (f := 70) rfl ?_); refine gl (some 14) Try.func70 #[.agg #[.slice A0_0 l0_0.length c0_0, .int .i64 a0_1, .slice A0_2 l0_2.length c0_2]] ?_; (with_reducible refine (impl_HistRight.calls k _ _ l0_0 a0_1 _ _ l0_2 false _ ?side1 ?side2 ?side3 ?side4 A12.out).mono ?_); (case side1 => repeat (first | exact (Kd.C_below HR0_0.out HB.out) | (with_reducible refine Kd.C_alloc ?_ _) | (with_reducible refine Kd.C_drewN ?_ _) | (with_reducible refine Kd.C_drew ?_))); (case side2 => exact HC0_0.out); (case side3 => repeat (first | exact (Kd.V_reads' HO0_2.out).2.2 | (with_reducible refine Kd.C_alloc ?_ _) | (with_reducible refine Kd.C_drewN ?_ _) | (with_reducible refine Kd.C_drew ?_))); (case side4 => exact (Kd.V_reads' HO0_2.out).2.1); rintro e w20 ⟨rfl, hb⟩; refine ⟨_, rfl, ?_⟩; have n0_ := am (Kd.V_below (by (with_reducible repeat (first | apply Kd.V_alloc | apply Kd.V_drewN | apply Kd.V_drew)); exact HO0_2.out) hb); have n1_ := am (blk_below (g := gb234) (o := .cells #[.slice A0_0 l0_0.length c0_0, .int .i64 a0_1, .slice A0_2 l0_2.length c0_2] 60 (0, 0)) (pk BK234.out) hb); have n2_ := am (blk_below (g := gb235) (o := .cells #[.slice none 0 0, .int .i64 0, .slice none 0 0, .slice none 0 0, .int .i64 0] 62 (0, 0)) (pk BK235.out) hb); have n3_ := am (below_step (by repeat (first | (with_reducible first | exact HB.out | apply below_alloc | apply pw_below_drewN | apply below_drew1 | refine below_set ?_ GE234.out | refine below_set ?_ GE235.out) | exact HB.out)) hb); clear HO0_2; clear BK234; clear BK235; clear HB; have HO0_2 := n0_; have BK234 := n1_; have BK235 := n2_; have HB := n3_; clear n0_ n1_ n2_ n3_; (try clear hb); (try clear hb2); (try clear hk); (try clear hi)))
    go_meet
    case rel => exact ⟨_, (true), (by first | rfl | (simp; done) | (simp [*]; done)), H', ⟨by first | omega | exact Nat.le_refl _⟩, ⟨by (with_reducible repeat (first | apply Kd.V_alloc | apply Kd.V_drewN | apply Kd.V_drew)); exact Kd.V_mono HO0_2.out (fun _ hk => ⟨hk.1.1, ⟨hk.1.2, hk.2⟩⟩)⟩, ⟨by (with_reducible repeat (first | refine blk_drewN ?_ _ | refine blk_drew ?_ | refine blk_alloc ?_ _)); exact BK234.out⟩, ⟨by (with_reducible repeat (first | refine blk_drewN ?_ _ | refine blk_drew ?_ | refine blk_alloc ?_ _)); exact BK235.out⟩, ⟨by repeat (first | (with_reducible first | exact HB.out | apply below_alloc | apply pw_below_drewN | apply below_drew1 | refine below_set ?_ GE234.out | refine below_set ?_ GE235.out) | exact HB.out)⟩⟩
  case rest =>
   clear HC9
   try clear c1
   try clear p2
   try clear c3
   try clear c4
   try clear c5
   try clear c7
   try clear c13
   try clear c15
   try clear c18
   try clear hcz16_0
   try clear hcz16_1
   try clear hcz16_2
   try clear hcz19_0
   try clear hcz19_1
   try clear hcz19_2
   try clear hcz8_0
   try clear hcz8_1
   try clear hcz8_2
   try clear hcz8_3
   try clear hcz8_4
   try clear hfz16_0
   try clear hfz16_1
   try clear hfz16_2
   try clear hfz19_0
   try clear hfz19_1
   try clear hfz19_2
   try clear hfz8_0
   try clear hfz8_1
   try clear hfz8_2
   try clear hfz8_3
   try clear hfz8_4
   obtain ⟨kq, x12_8, rfl, HA, HJ8, HO_235002, BK234, BK235, HB⟩ := hcut
   cases kq with
   | zero => exact absurd HA.out (by simp [impl_HistDown.j0])
   | succ kj8 =>
    have H := HA.out
    clear HA
    simp only [impl_HistDown.j0] at H
    by_cases c21 : x12_8 = true
    ·subst c21
     have H1 : (some (([] : List (List Int)), 0, ([] : List Int), ([] : List Int), 1)) = some (r1, r2, r3, r4, r5) := by rw [if_pos rfl] at H; exact H
     clear H
     have H := H1
     clear H1
     simp only [Option.some.injEq, Prod.mk.injEq] at H
     obtain ⟨rfl, rfl, rfl, rfl, rfl⟩ := H
     have hnb22 := NB235_234.out
     have hnc22 := NB234_235.out
     have hcz23_0 : wc.cell? ⟨gb235, 0, none⟩ = some (.slice none 0 0) := (blk_cell BK235.out 0).trans rfl
     have hcz23_1 : wc.cell? ⟨gb235, 1, none⟩ = some (.int .i64 0) := (blk_cell BK235.out 1).trans rfl
     have hcz23_2 : wc.cell? ⟨gb235, 2, none⟩ = some (.slice none 0 0) := (blk_cell BK235.out 2).trans rfl
     have hcz23_3 : wc.cell? ⟨gb235, 3, none⟩ = some (.slice none 0 0) := (blk_cell BK235.out 3).trans rfl
     have hcz23_4 : wc.cell? ⟨gb235, 4, none⟩ = some (.int .i64 0) := (blk_cell BK235.out 4).trans rfl
     have hfz23_0 := blk_frozen BK235.out 0
     have hfz23_1 := blk_frozen BK235.out 1
     have hfz23_2 := blk_frozen BK235.out 2
     have hfz23_3 := blk_frozen BK235.out 3
     have hfz23_4 := blk_frozen BK235.out 4
     go_wp2
     refine bodyPost_ret (results_cell_row rfl _ _ gb235 62 #[.slice none 0 0, .int .i64 0, .slice none 0 0, .slice none 0 0, .int .i64 1] (0, 0) _ rfl (by (with_reducible repeat (first | refine blk_drewN ?_ _ | refine blk_drew ?_ | refine blk_alloc ?_ _)); refine blk_put (cs := #[.slice none 0 0, .int .i64 0, .slice none 0 0, .slice none 0 0, .int .i64 0]) ?_ 4 _ rfl; (with_reducible repeat (first | refine blk_drewN ?_ _ | refine blk_drew ?_ | refine blk_alloc ?_ _)); refine blk_put (cs := #[.slice none 0 0, .int .i64 0, .slice none 0 0, .slice none 0 0, .int .i64 0]) ?_ 3 _ rfl; (with_reducible repeat (first | refine blk_drewN ?_ _ | refine blk_drew ?_ | refine blk_alloc ?_ _)); refine blk_put (cs := #[.slice none 0 0, .int .i64 0, .slice none 0 0, .slice none 0 0, .int .i64 0]) ?_ 2 _ rfl; (with_reducible repeat (first | refine blk_drewN ?_ _ | refine blk_drew ?_ | refine blk_alloc ?_ _)); refine blk_put (cs := #[.slice none 0 0, .int .i64 0, .slice none 0 0, .slice none 0 0, .int .i64 0]) ?_ 1 _ rfl; (with_reducible repeat (first | refine blk_drewN ?_ _ | refine blk_drew ?_ | refine blk_alloc ?_ _)); refine blk_put (cs := #[.slice none 0 0, .int .i64 0, .slice none 0 0, .slice none 0 0, .int .i64 0]) ?_ 0 _ rfl; (with_reducible repeat (first | refine blk_drewN ?_ _ | refine blk_drew ?_ | refine blk_alloc ?_ _)); exact BK235.out) Try.underlying62 rfl (by kernel_rfl)) rfl ?_
     exact ⟨_, _, _, by first | rfl | (simp [errW_none, errW_some] <;> rfl) | (simp [*, errW_none, errW_some] <;> rfl), by first | exact Kd.S_nil _ _ _ _ _ | exact Kd.N_nil _ _ _ _ _ | exact Kd.V_nil _ _ _ _ _ | exact Kd.Q_nil _ _ _ _ _ | exact Kd.R_nil _ _ _ _ _, by first | exact Kd.R_nil _ _ _ _ _ | exact Kd.N_nil _ _ _ _ _ | exact Kd.V_nil _ _ _ _ _ | exact Kd.Q_nil _ _ _ _ _ | exact Kd.S_nil _ _ _ _ _, by first | exact Kd.R_nil _ _ _ _ _ | exact Kd.N_nil _ _ _ _ _ | exact Kd.V_nil _ _ _ _ _ | exact Kd.Q_nil _ _ _ _ _ | exact Kd.S_nil _ _ _ _ _, by repeat (first | (with_reducible first | exact HB.out | apply below_alloc | apply pw_below_drewN | apply below_drew1 | refine below_set ?_ GE234.out | refine below_set ?_ GE235.out) | exact HB.out)⟩
    ·replace c21 := Bool.eq_false_iff.mpr c21
     subst c21
     have H1 : ((impl_size_sint64.f l0_0).bind fun t239 => (if a0_1 = t239 then (some (([] : List (List Int)), 0, ([] : List Int), ([] : List Int), 4)) else ((impl_ownHist.f kj8 l0_0 a0_1 l0_2).bind fun bt240 => (impl_HistDown.l0 kj8 l1 l0_2 l0_0 a0_1 l0_2 bt240.1 (wrap64 (bt240.2.1 + 1)) bt240.2.2)))) = some (r1, r2, r3, r4, r5) := by rw [if_neg (show ¬ (false = true) by decide)] at H; exact H
     clear H
     have H := H1
     clear H1
     replace H := Option.bind_eq_some_iff.mp H
     obtain ⟨t239, A240, H⟩ := H
     replace H : (if a0_1 = t239 then (some (([] : List (List Int)), 0, ([] : List Int), ([] : List Int), 4)) else ((impl_ownHist.f kj8 l0_0 a0_1 l0_2).bind fun bt240 => (impl_HistDown.l0 kj8 l1 l0_2 l0_0 a0_1 l0_2 bt240.1 (wrap64 (bt240.2.1 + 1)) bt240.2.2))) = some (r1, r2, r3, r4, r5) := H
     have A24 := Aside0.mk A240
     clear A240
     by_cases c25 : a0_1 = t239
     ·rw [if_pos c25] at H
      have c25b0 : (a0_1 == t239) = true := beq_iff_eq.mpr c25
      have c25b1 : (a0_1 != t239) = false := bne_eq_false_iff_eq.mpr c25
      clear c25
      simp only [Option.some.injEq, Prod.mk.injEq] at H
      obtain ⟨rfl, rfl, rfl, rfl, rfl⟩ := H
      try go_wp2
      have n0_ := am (Kd.V_drew HO_235002.out)
      have n1_ := am (blk_drew BK234.out)
      have n2_ := am (blk_drew BK235.out)
      have n3_ := am (below_drew1 HB.out)
      clear HO_235002
      clear BK234
      clear BK235
      clear HB
      have HO_235002 := n0_
      have BK234 := n1_
      have BK235 := n2_
      have HB := n3_
      clear n0_ n1_ n2_ n3_
      refine start_ (n := 7) (S := fun w' => w'.cell? ⟨gb234, 0, none⟩ = some (.slice A0_0 l0_0.length c0_0) ∧ w'.cell? ⟨gb234, 1, none⟩ = some (.int .i64 a0_1) ∧ w'.cell? ⟨gb234, 2, none⟩ = some (.slice A0_2 l0_2.length c0_2)) (ds := []) #[false, false, false, false, false, false, false] (by kernel_rfl) rfl rfl ⟨(blk_cell BK234.out 0).trans rfl, (blk_cell BK234.out 1).trans rfl, (blk_cell BK234.out 2).trans rfl⟩ (fun hHeld => ?_)
      generalize wc.drew = w26 at HO_235002 BK234 BK235 HB hHeld ⊢
      refine pure_ (i := 0) (N := some 23) (v := ?_) (a' := ?_) #[true, false, false, false, false, false, false] rfl rfl (by kernel_rfl) (fun _ _ _ h => h) (Or.inl ⟨by rfl, ?_⟩) ?_ ?_
      rotate_left
      ·intro w'
       go_simp
       with_reducible rfl
      rotate_left
      ·simp only [Act.put, List.setIfInBounds_toArray, List.set_cons_zero, List.set_cons_succ, i64_w, i32_w]
       rfl
      refine pure_ (i := 2) (N := some 25) (v := ?_) (a' := ?_) #[true, false, true, false, false, false, false] rfl rfl (by kernel_rfl) (fun _ _ _ h => h) (Or.inl ⟨by rfl, ?_⟩) ?_ ?_
      rotate_left
      ·intro w'
       go_simp
       with_reducible rfl
      rotate_left
      ·simp only [Act.put, List.setIfInBounds_toArray, List.set_cons_zero, List.set_cons_succ, i64_w, i32_w]
       rfl
      refine take_ (i := 1) (N := some 24) (v := ?_) (a' := ?_) #[true, true, true, false, false, false, false] rfl rfl (by kernel_rfl) (fun _ _ _ h => h) (Or.inl ⟨by rfl, ?_⟩) hHeld ?_ ?_
      rotate_left
      ·rintro w' ⟨s0, s1, s2⟩
       go_simp
       with_reducible rfl
      rotate_left
      ·simp only [Act.put, List.setIfInBounds_toArray, List.set_cons_zero, List.set_cons_succ, i64_w, i32_w]
       rfl
      refine take_ (i := 3) (N := some 26) (v := ?_) (a' := ?_) #[true, true, true, true, false, false, false] rfl rfl (by kernel_rfl) (fun _ _ _ h => h) (Or.inl ⟨by rfl, ?_⟩) hHeld ?_ ?_
      rotate_left
      ·rintro w' ⟨s0, s1, s2⟩
       go_simp
       with_reducible rfl
      rotate_left
      ·simp only [Act.put, List.setIfInBounds_toArray, List.set_cons_zero, List.set_cons_succ, i64_w, i32_w]
       rfl
      refine one_ (i := 4) (N := some 27) #[true, true, true, true, true, false, false] rfl rfl (by kernel_rfl) (by decide) (fun K hK => ?_)
      refine goes_ Try.func71 (by kernel_rfl) rfl #[.slice A0_0 l0_0.length c0_0] (by rfl) rfl rfl (by (try simp only [List.map_toArray, List.map_cons, List.map_nil]); first | done | rfl | (simp only [List.length_drop, List.length_take]; rfl)) ?_
      with_reducible refine (impl_size_sint64.calls _ _ l0_0 t239 _ A24.out).mono ?_
      rintro e w' ⟨rfl, ⟨nd, rfl⟩⟩
      refine ⟨_, rfl, ?_⟩
      refine hK.out _ _ ⟨(blk_cell BK234.out 0).trans rfl, (blk_cell BK234.out 1).trans rfl, (blk_cell BK234.out 2).trans rfl⟩ (fun hHeld => ?_)
      clear hK K
      refine norm_ (a' := ?_) ?_ ?_
      rotate_left
      ·show Act.put _ (some 27) _ = _
       simp only [Act.put, List.setIfInBounds_toArray, List.set_cons_zero, List.set_cons_succ, i64_w, i32_w]
       rfl
      refine pure_ (i := 5) (N := some 28) (v := ?_) (a' := ?_) #[true, true, true, true, true, true, false] rfl rfl (by kernel_rfl) (fun _ _ _ h => h) (Or.inl ⟨by rfl, ?_⟩) ?_ ?_
      rotate_left
      ·intro w'
       go_simp
       with_reducible rfl
      rotate_left
      ·simp only [Act.put, List.setIfInBounds_toArray, List.set_cons_zero, List.set_cons_succ, i64_w, i32_w]
       rfl
      refine pure_ (i := 6) (N := some 22) (v := ?_) (a' := ?_) #[true, true, true, true, true, true, true] rfl rfl (by kernel_rfl) (fun _ _ _ h => h) (Or.inl ⟨by rfl, ?_⟩) ?_ ?_
      rotate_left
      ·intro w'
       go_simp
       with_reducible rfl
      rotate_left
      ·simp only [Act.put, List.setIfInBounds_toArray, List.set_cons_zero, List.set_cons_succ, i64_w, i32_w]
       rfl
      refine done_ (by kernel_rfl) ?_
      (try (rw [drewN_self w26]; generalize hq_ : World.drewN w26 _ = w26; have n0_ := am (vAt2 hq_ HO_235002.out); have n1_ := am (blk_at hq_ BK234.out); have n2_ := am (blk_at hq_ BK235.out); have n3_ := am (below_at hq_ HB.out); clear hq_ HO_235002 BK234 BK235 HB; have HO_235002 := n0_; have BK234 := n1_; have BK235 := n2_; have HB := n3_; clear n0_ n1_ n2_ n3_))
      have hnb27 := NB235_234.out
      have hnc27 := NB234_235.out
      have hcz28_0 : w26.cell? ⟨gb235, 0, none⟩ = some (.slice none 0 0) := (blk_cell BK235.out 0).trans rfl
      have hcz28_1 : w26.cell? ⟨gb235, 1, none⟩ = some (.int .i64 0) := (blk_cell BK235.out 1).trans rfl
      have hcz28_2 : w26.cell? ⟨gb235, 2, none⟩ = some (.slice none 0 0) := (blk_cell BK235.out 2).trans rfl
      have hcz28_3 : w26.cell? ⟨gb235, 3, none⟩ = some (.slice none 0 0) := (blk_cell BK235.out 3).trans rfl
      have hcz28_4 : w26.cell? ⟨gb235, 4, none⟩ = some (.int .i64 0) := (blk_cell BK235.out 4).trans rfl
      have hfz28_0 := blk_frozen BK235.out 0
      have hfz28_1 := blk_frozen BK235.out 1
      have hfz28_2 := blk_frozen BK235.out 2
      have hfz28_3 := blk_frozen BK235.out 3
      have hfz28_4 := blk_frozen BK235.out 4
      try go_wp2
      refine bodyPost_ret (results_cell_row rfl _ _ gb235 62 #[.slice none 0 0, .int .i64 0, .slice none 0 0, .slice none 0 0, .int .i64 4] (0, 0) _ rfl (by (with_reducible repeat (first | refine blk_drewN ?_ _ | refine blk_drew ?_ | refine blk_alloc ?_ _)); refine blk_put (cs := #[.slice none 0 0, .int .i64 0, .slice none 0 0, .slice none 0 0, .int .i64 0]) ?_ 4 _ rfl; (with_reducible repeat (first | refine blk_drewN ?_ _ | refine blk_drew ?_ | refine blk_alloc ?_ _)); refine blk_put (cs := #[.slice none 0 0, .int .i64 0, .slice none 0 0, .slice none 0 0, .int .i64 0]) ?_ 3 _ rfl; (with_reducible repeat (first | refine blk_drewN ?_ _ | refine blk_drew ?_ | refine blk_alloc ?_ _)); refine blk_put (cs := #[.slice none 0 0, .int .i64 0, .slice none 0 0, .slice none 0 0, .int .i64 0]) ?_ 2 _ rfl; (with_reducible repeat (first | refine blk_drewN ?_ _ | refine blk_drew ?_ | refine blk_alloc ?_ _)); refine blk_put (cs := #[.slice none 0 0, .int .i64 0, .slice none 0 0, .slice none 0 0, .int .i64 0]) ?_ 1 _ rfl; (with_reducible repeat (first | refine blk_drewN ?_ _ | refine blk_drew ?_ | refine blk_alloc ?_ _)); refine blk_put (cs := #[.slice none 0 0, .int .i64 0, .slice none 0 0, .slice none 0 0, .int .i64 0]) ?_ 0 _ rfl; (with_reducible repeat (first | refine blk_drewN ?_ _ | refine blk_drew ?_ | refine blk_alloc ?_ _)); exact BK235.out) Try.underlying62 rfl (by kernel_rfl)) rfl ?_
      exact ⟨_, _, _, by first | rfl | (simp [errW_none, errW_some] <;> rfl) | (simp [*, errW_none, errW_some] <;> rfl), by first | exact Kd.S_nil _ _ _ _ _ | exact Kd.N_nil _ _ _ _ _ | exact Kd.V_nil _ _ _ _ _ | exact Kd.Q_nil _ _ _ _ _ | exact Kd.R_nil _ _ _ _ _, by first | exact Kd.R_nil _ _ _ _ _ | exact Kd.N_nil _ _ _ _ _ | exact Kd.V_nil _ _ _ _ _ | exact Kd.Q_nil _ _ _ _ _ | exact Kd.S_nil _ _ _ _ _, by first | exact Kd.R_nil _ _ _ _ _ | exact Kd.N_nil _ _ _ _ _ | exact Kd.V_nil _ _ _ _ _ | exact Kd.Q_nil _ _ _ _ _ | exact Kd.S_nil _ _ _ _ _, by repeat (first | (with_reducible first | exact HB.out | apply below_alloc | apply pw_below_drewN | apply below_drew1 | refine below_set ?_ GE234.out | refine below_set ?_ GE235.out) | exact HB.out)⟩
     ·rw [if_neg c25] at H
      have c25b0 : (a0_1 == t239) = false := beq_eq_false_iff_ne.mpr c25
      have c25b1 : (a0_1 != t239) = true := bne_iff_ne.mpr c25
      replace H := Option.bind_eq_some_iff.mp H
      obtain ⟨⟨t240, t243, t244⟩, A290, H⟩ := H
      replace H : (impl_HistDown.l0 kj8 l1 l0_2 l0_0 a0_1 l0_2 t240 (wrap64 (t243 + 1)) t244) = some (r1, r2, r3, r4, r5) := H
      have A29 := Aside0.mk A290
      clear A290
      have H' := Aside0.mk H
      clear H
      try go_wp2
      have n0_ := am (Kd.V_drew HO_235002.out)
      have n1_ := am (blk_drew BK234.out)
      have n2_ := am (blk_drew BK235.out)
      have n3_ := am (below_drew1 HB.out)
      clear HO_235002
      clear BK234
      clear BK235
      clear HB
      have HO_235002 := n0_
      have BK234 := n1_
      have BK235 := n2_
      have HB := n3_
      clear n0_ n1_ n2_ n3_
      refine start_ (n := 7) (S := fun w' => w'.cell? ⟨gb234, 0, none⟩ = some (.slice A0_0 l0_0.length c0_0) ∧ w'.cell? ⟨gb234, 1, none⟩ = some (.int .i64 a0_1) ∧ w'.cell? ⟨gb234, 2, none⟩ = some (.slice A0_2 l0_2.length c0_2)) (ds := []) #[false, false, false, false, false, false, false] (by kernel_rfl) rfl rfl ⟨(blk_cell BK234.out 0).trans rfl, (blk_cell BK234.out 1).trans rfl, (blk_cell BK234.out 2).trans rfl⟩ (fun hHeld => ?_)
      generalize wc.drew = w30 at HO_235002 BK234 BK235 HB hHeld ⊢
      refine pure_ (i := 0) (N := some 23) (v := ?_) (a' := ?_) #[true, false, false, false, false, false, false] rfl rfl (by kernel_rfl) (fun _ _ _ h => h) (Or.inl ⟨by rfl, ?_⟩) ?_ ?_
      rotate_left
      ·intro w'
       go_simp
       with_reducible rfl
      rotate_left
      ·simp only [Act.put, List.setIfInBounds_toArray, List.set_cons_zero, List.set_cons_succ, i64_w, i32_w]
       rfl
      refine pure_ (i := 2) (N := some 25) (v := ?_) (a' := ?_) #[true, false, true, false, false, false, false] rfl rfl (by kernel_rfl) (fun _ _ _ h => h) (Or.inl ⟨by rfl, ?_⟩) ?_ ?_
      rotate_left
      ·intro w'
       go_simp
       with_reducible rfl
      rotate_left
      ·simp only [Act.put, List.setIfInBounds_toArray, List.set_cons_zero, List.set_cons_succ, i64_w, i32_w]
       rfl
      refine take_ (i := 1) (N := some 24) (v := ?_) (a' := ?_) #[true, true, true, false, false, false, false] rfl rfl (by kernel_rfl) (fun _ _ _ h => h) (Or.inl ⟨by rfl, ?_⟩) hHeld ?_ ?_
      rotate_left
      ·rintro w' ⟨s0, s1, s2⟩
       go_simp
       with_reducible rfl
      rotate_left
      ·simp only [Act.put, List.setIfInBounds_toArray, List.set_cons_zero, List.set_cons_succ, i64_w, i32_w]
       rfl
      refine take_ (i := 3) (N := some 26) (v := ?_) (a' := ?_) #[true, true, true, true, false, false, false] rfl rfl (by kernel_rfl) (fun _ _ _ h => h) (Or.inl ⟨by rfl, ?_⟩) hHeld ?_ ?_
      rotate_left
      ·rintro w' ⟨s0, s1, s2⟩
       go_simp
       with_reducible rfl
      rotate_left
      ·simp only [Act.put, List.setIfInBounds_toArray, List.set_cons_zero, List.set_cons_succ, i64_w, i32_w]
       rfl
      refine one_ (i := 4) (N := some 27) #[true, true, true, true, true, false, false] rfl rfl (by kernel_rfl) (by decide) (fun K hK => ?_)
      refine goes_ Try.func71 (by kernel_rfl) rfl #[.slice A0_0 l0_0.length c0_0] (by rfl) rfl rfl (by (try simp only [List.map_toArray, List.map_cons, List.map_nil]); first | done | rfl | (simp only [List.length_drop, List.length_take]; rfl)) ?_
      with_reducible refine (impl_size_sint64.calls _ _ l0_0 t239 _ A24.out).mono ?_
      rintro e w' ⟨rfl, ⟨nd, rfl⟩⟩
      refine ⟨_, rfl, ?_⟩
      refine hK.out _ _ ⟨(blk_cell BK234.out 0).trans rfl, (blk_cell BK234.out 1).trans rfl, (blk_cell BK234.out 2).trans rfl⟩ (fun hHeld => ?_)
      clear hK K
      refine norm_ (a' := ?_) ?_ ?_
      rotate_left
      ·show Act.put _ (some 27) _ = _
       simp only [Act.put, List.setIfInBounds_toArray, List.set_cons_zero, List.set_cons_succ, i64_w, i32_w]
       rfl
      refine pure_ (i := 5) (N := some 28) (v := ?_) (a' := ?_) #[true, true, true, true, true, true, false] rfl rfl (by kernel_rfl) (fun _ _ _ h => h) (Or.inl ⟨by rfl, ?_⟩) ?_ ?_
      rotate_left
      ·intro w'
       go_simp
       with_reducible rfl
      rotate_left
      ·simp only [Act.put, List.setIfInBounds_toArray, List.set_cons_zero, List.set_cons_succ, i64_w, i32_w]
       rfl
      refine pure_ (i := 6) (N := some 22) (v := ?_) (a' := ?_) #[true, true, true, true, true, true, true] rfl rfl (by kernel_rfl) (fun _ _ _ h => h) (Or.inl ⟨by rfl, ?_⟩) ?_ ?_
      rotate_left
      ·intro w'
       go_simp
       with_reducible rfl
      rotate_left
      ·simp only [Act.put, List.setIfInBounds_toArray, List.set_cons_zero, List.set_cons_succ, i64_w, i32_w]
       rfl
      refine done_ (by kernel_rfl) ?_
      (try (rw [drewN_self w30]; generalize hq_ : World.drewN w30 _ = w30; have n0_ := am (vAt2 hq_ HO_235002.out); have n1_ := am (blk_at hq_ BK234.out); have n2_ := am (blk_at hq_ BK235.out); have n3_ := am (below_at hq_ HB.out); clear hq_ HO_235002 BK234 BK235 HB; have HO_235002 := n0_; have BK234 := n1_; have BK235 := n2_; have HB := n3_; clear n0_ n1_ n2_ n3_))
      try go_wp2
      (try (rw [drewN_self w30]; generalize hq_ : World.drewN w30 _ = w30; have n0_ : Aside0 (Kd.V (Kd.int .i64) 2 w30 w.heap.size (fun k_ => (P0_2_ k_ ∨ w.heap.size ≤ k_) ∧ k_ ≠ gb234 ∧ k_ ≠ gb235) (.slice A0_2 l0_2.length c0_2) l0_2) := ⟨by rw [← hq_]; exact (by (with_reducible repeat (first | apply Kd.V_alloc | apply Kd.V_drewN | apply Kd.V_drew)); exact HO_235002.out)⟩; have n1_ : Aside0 (w30.heap[gb234]? = some (.cells #[.slice A0_0 l0_0.length c0_0, .int .i64 a0_1, .slice A0_2 l0_2.length c0_2] 60 (0, 0))) := ⟨by rw [← hq_]; exact (pk BK234.out)⟩; have n2_ : Aside0 (w30.heap[gb235]? = some (.cells #[.slice none 0 0, .int .i64 0, .slice none 0 0, .slice none 0 0, .int .i64 0] 62 (0, 0))) := ⟨by rw [← hq_]; exact (pk BK235.out)⟩; have n3_ : Aside0 (Below w.heap.size w w30) := ⟨by rw [← hq_]; exact (by repeat (first | (with_reducible first | exact HB.out | apply below_alloc | apply pw_below_drewN | apply below_drew1 | refine below_set ?_ GE234.out | refine below_set ?_ GE235.out) | exact HB.out))⟩; clear HO_235002 BK234 BK235 HB hq_; have HO_235002 := n0_; have BK234 := n1_; have BK235 := n2_; have HB := n3_; clear n0_ n1_ n2_ n3_))
      have n0_ := am (Kd.V_drew HO_235002.out)
      have n1_ := am (blk_drew BK234.out)
      have n2_ := am (blk_drew BK235.out)
      have n3_ := am (below_drew1 HB.out)
      clear HO_235002
      clear BK234
      clear BK235
      clear HB
      have HO_235002 := n0_
      have BK234 := n1_
      have BK235 := n2_
      have HB := n3_
      clear n0_ n1_ n2_ n3_
      refine start_ (n := 7) (S := fun w' => w'.cell? ⟨gb234, 0, none⟩ = some (.slice A0_0 l0_0.length c0_0) ∧ w'.cell? ⟨gb234, 1, none⟩ = some (.int .i64 a0_1) ∧ w'.cell? ⟨gb234, 2, none⟩ = some (.slice A0_2 l0_2.length c0_2)) (ds := []) #[false, false, false, false, false, false, false] (by kernel_rfl) rfl rfl ⟨(blk_cell BK234.out 0).trans rfl, (blk_cell BK234.out 1).trans rfl, (blk_cell BK234.out 2).trans rfl⟩ (fun hHeld => ?_)
      generalize w30.drew = w31 at HO_235002 BK234 BK235 HB hHeld ⊢
      refine pure_ (i := 2) (N := some 32) (v := ?_) (a' := ?_) #[false, false, true, false, false, false, false] rfl rfl (by kernel_rfl) (fun _ _ _ h => h) (Or.inl ⟨by rfl, ?_⟩) ?_ ?_
      rotate_left
      ·intro w'
       go_simp
       with_reducible rfl
      rotate_left
      ·simp only [Act.put, List.setIfInBounds_toArray, List.set_cons_zero, List.set_cons_succ, i64_w, i32_w]
       rfl
      refine take_ (i := 0) (N := some 30) (v := ?_) (a' := ?_) #[true, false, true, false, false, false, false] rfl rfl (by kernel_rfl) (fun _ _ _ h => h) (Or.inl ⟨by rfl, ?_⟩) hHeld ?_ ?_
      rotate_left
      ·rintro w' ⟨s0, s1, s2⟩
       go_simp
       with_reducible rfl
      rotate_left
      ·simp only [Act.put, List.setIfInBounds_toArray, List.set_cons_zero, List.set_cons_succ, i64_w, i32_w]
       rfl
      refine take_ (i := 3) (N := some 33) (v := ?_) (a' := ?_) #[true, false, true, true, false, false, false] rfl rfl (by kernel_rfl) (fun _ _ _ h => h) (Or.inl ⟨by rfl, ?_⟩) hHeld ?_ ?_
      rotate_left
      ·rintro w' ⟨s0, s1, s2⟩
       go_simp
       with_reducible rfl
      rotate_left
      ·simp only [Act.put, List.setIfInBounds_toArray, List.set_cons_zero, List.set_cons_succ, i64_w, i32_w]
       rfl
      refine join_ (σ := Value × Value × Nat) 2 #[true, true, true, true, true, false, false] (fun s_ => [(31, .agg #[s_.1, .int .i64 t243, s_.2.1]), (5, .pointer (some ⟨s_.2.2, 0, none⟩))]) (fun s_ w' => (w'.cell? ⟨gb234, 0, none⟩ = some (.slice A0_0 l0_0.length c0_0) ∧ w'.cell? ⟨gb234, 1, none⟩ = some (.int .i64 a0_1) ∧ w'.cell? ⟨gb234, 2, none⟩ = some (.slice A0_2 l0_2.length c0_2)) ∧ (Kd.S (Kd.slice 2 (Kd.int .i64)) 22 w' w.heap.size (fun k_ => (w.heap.size ≤ k_) ∧ some k_ ≠ (s_.2.1 : Value).ownBlock) s_.1 t240) ∧ (Kd.R (Kd.int .i64) 2 w' w.heap.size (fun k_ => (w.heap.size ≤ k_)) s_.2.1 t244) ∧ (Kd.V (Kd.int .i64) 2 w' w.heap.size (fun k_ => (P0_2_ k_ ∨ w.heap.size ≤ k_) ∧ some k_ ≠ (s_.1 : Value).ownBlock ∧ some k_ ≠ (s_.2.1 : Value).ownBlock ∧ k_ ≠ gb234 ∧ k_ ≠ gb235 ∧ k_ ≠ s_.2.2) (.slice A0_2 l0_2.length c0_2) l0_2) ∧ (w'.heap[gb234]? = some (.cells #[.slice A0_0 l0_0.length c0_0, .int .i64 a0_1, .slice A0_2 l0_2.length c0_2] 60 (0, 0))) ∧ (w'.heap[gb235]? = some (.cells #[.slice none 0 0, .int .i64 0, .slice none 0 0, .slice none 0 0, .int .i64 0] 62 (0, 0))) ∧ (w'.heap[s_.2.2]? = some (.cells #[.slice none 0 0, .int .i64 0, .slice none 0 0] 60 (0, 0))) ∧ (w.heap.size ≤ s_.2.2) ∧ (w.heap.size ≤ s_.2.2) ∧ (gb234 ≠ s_.2.2) ∧ (s_.2.2 ≠ gb234) ∧ (gb235 ≠ s_.2.2) ∧ (s_.2.2 ≠ gb235) ∧ (Below w.heap.size w w')) ?_ ?_
      rotate_left
      ·intro hCont
       refine two_ (i := 1) (j := 4) (Ni := some 31) (Nj := some 5) #[true, true, true, true, false, false, false] #[true, false, true, true, true, false, false] rfl rfl rfl rfl (by kernel_rfl) (by decide) (by decide) (fun K hK => ?_) (fun K hK => ?_)
       ·skip
        refine goes_ Try.func72 (by kernel_rfl) rfl #[.agg #[.slice A0_0 l0_0.length c0_0, .int .i64 a0_1, .slice A0_2 l0_2.length c0_2]] (by rfl) rfl rfl (by (try simp only [List.map_toArray, List.map_cons, List.map_nil]); first | done | rfl | (simp only [List.length_drop, List.length_take]; rfl)) ?_
        with_reducible refine (impl_ownHist.calls kj8 _ _ l0_0 a0_1 _ _ l0_2 t240 t243 t244 _ ?side1 ?side2 ?side3 ?side4 A29.out).mono ?_
        (case side1 => repeat (first | exact (Kd.C_below HR0_0.out HB.out) | (with_reducible refine Kd.C_alloc ?_ _) | (with_reducible refine Kd.C_drewN ?_ _) | (with_reducible refine Kd.C_drew ?_)))
        (case side2 => exact HC0_0.out)
        (case side3 => repeat (first | exact (Kd.V_reads' HO_235002.out).2.2 | (with_reducible refine Kd.C_alloc ?_ _) | (with_reducible refine Kd.C_drewN ?_ _) | (with_reducible refine Kd.C_drew ?_)))
        (case side4 => exact (Kd.V_reads' HO_235002.out).2.1)
        rintro e w32 ⟨v241, v245, rfl, ho0, ho1, hb⟩
        refine ⟨_, rfl, ?_⟩
        have n0_ := am (Kd.V_mono (Kd.V_told (Kd.V_told (Kd.V_old (by (with_reducible repeat (first | apply Kd.V_alloc | apply Kd.V_drewN | apply Kd.V_drew)); exact HO_235002.out) hb) (Kd.S_base ho0)) (Kd.R_base ho1)) (fun _ h_ => h_.1))
        have n1_ := am (Kd.S_lower (Kd.S_newM (M := fun k_ => (w.heap.size ≤ k_)) ho0 (below_size (by repeat (first | (with_reducible first | exact HB.out | apply below_alloc | apply pw_below_drewN | apply below_drew1 | refine below_set ?_ GE234.out | refine below_set ?_ GE235.out) | exact HB.out))) (fun k_ h_ => h_)) (below_size (by repeat (first | (with_reducible first | exact HB.out | apply below_alloc | apply pw_below_drewN | apply below_drew1 | refine below_set ?_ GE234.out | refine below_set ?_ GE235.out) | exact HB.out))))
        have n2_ := am (Kd.R_lower (Kd.R_newM (M := fun k_ => (w.heap.size ≤ k_)) ho1 (below_size (by repeat (first | (with_reducible first | exact HB.out | apply below_alloc | apply pw_below_drewN | apply below_drew1 | refine below_set ?_ GE234.out | refine below_set ?_ GE235.out) | exact HB.out))) (fun k_ h_ => h_)) (below_size (by repeat (first | (with_reducible first | exact HB.out | apply below_alloc | apply pw_below_drewN | apply below_drew1 | refine below_set ?_ GE234.out | refine below_set ?_ GE235.out) | exact HB.out))))
        have n3_ := am (blk_below (g := gb234) (o := .cells #[.slice A0_0 l0_0.length c0_0, .int .i64 a0_1, .slice A0_2 l0_2.length c0_2] 60 (0, 0)) (pk BK234.out) hb)
        have n4_ := am (blk_below (g := gb235) (o := .cells #[.slice none 0 0, .int .i64 0, .slice none 0 0, .slice none 0 0, .int .i64 0] 62 (0, 0)) (pk BK235.out) hb)
        have n5_ := am (below_step (by repeat (first | (with_reducible first | exact HB.out | apply below_alloc | apply pw_below_drewN | apply below_drew1 | refine below_set ?_ GE234.out | refine below_set ?_ GE235.out) | exact HB.out)) hb)
        clear HO_235002
        clear BK234
        clear BK235
        clear HB
        have HO_235002 := n0_
        have HO242 := n1_
        have HO246 := n2_
        have BK234 := n3_
        have BK235 := n4_
        have HB := n5_
        clear n0_ n1_ n2_ n3_ n4_ n5_
        (try clear hb)
        (try clear hb2)
        (try clear hk)
        (try clear hi)
        (try clear ho0)
        (try clear ho1)
        refine hK.out _ _ ⟨(blk_cell BK234.out 0).trans rfl, (blk_cell BK234.out 1).trans rfl, (blk_cell BK234.out 2).trans rfl⟩ (fun hHeld => ?_)
        clear hK K
        refine norm_ (a' := ?_) ?_ ?_
        rotate_left
        ·show Act.put _ (some 31) _ = _
         simp only [Act.put, List.setIfInBounds_toArray, List.set_cons_zero, List.set_cons_succ, i64_w, i32_w]
         rfl
        refine one_ (i := 4) (N := some 5) #[true, true, true, true, true, false, false] rfl rfl (by kernel_rfl) (by decide) (fun K hK => ?_)
        refine box_step ?hg (N := 5) ?hd (cs := #[.slice none 0 0, .int .i64 0, .slice none 0 0]) (t := 60) ?hr ?_; (case hd => rfl); (case hg => rfl); (case hr => first | (go_simp; done) | (go_simp; rfl))
        intro gb247 hg w33 hbox hb
        have n0_ := am (Kd.V_below (Kd.V_elderB (by (with_reducible repeat (first | apply Kd.V_alloc | apply Kd.V_drewN | apply Kd.V_drew)); exact HO_235002.out) gb247 (Nat.le_of_eq hg.symm)) hb)
        have n1_ := am (Kd.S_below (by (with_reducible repeat (first | apply Kd.S_alloc | apply Kd.S_drewN | apply Kd.S_drew)); exact HO242.out) hb)
        have n2_ := am (Kd.R_below (by (with_reducible repeat (first | apply Kd.R_alloc | apply Kd.R_drewN | apply Kd.R_drew)); exact HO246.out) hb)
        have n3_ := am (blk_below (g := gb234) (o := .cells #[.slice A0_0 l0_0.length c0_0, .int .i64 a0_1, .slice A0_2 l0_2.length c0_2] 60 (0, 0)) (pk BK234.out) hb)
        have n4_ := am (blk_below (g := gb235) (o := .cells #[.slice none 0 0, .int .i64 0, .slice none 0 0, .slice none 0 0, .int .i64 0] 62 (0, 0)) (pk BK235.out) hb)
        have n5_ := am (below_step (by repeat (first | (with_reducible first | exact HB.out | apply below_alloc | apply pw_below_drewN | apply below_drew1 | refine below_set ?_ GE234.out | refine below_set ?_ GE235.out) | exact HB.out)) hb)
        have n6_ := am (hbox)
        have n7_ := am ((by rw [hg]; exact (below_size (by repeat (first | (with_reducible first | exact HB.out | apply below_alloc | apply pw_below_drewN | apply below_drew1 | refine below_set ?_ GE234.out | refine below_set ?_ GE235.out) | exact HB.out))) : w.heap.size ≤ gb247))
        have n8_ := am ((by rw [hg]; exact (below_size (by repeat (first | (with_reducible first | exact HB.out | apply below_alloc | apply pw_below_drewN | apply below_drew1 | refine below_set ?_ GE234.out | refine below_set ?_ GE235.out) | exact HB.out))) : w.heap.size ≤ gb247))
        have n9_ := am ((by rw [hg]; exact Nat.ne_of_lt (blk_lt (g := gb234) (o := .cells #[.slice A0_0 l0_0.length c0_0, .int .i64 a0_1, .slice A0_2 l0_2.length c0_2] 60 (0, 0)) (pk BK234.out)) : gb234 ≠ gb247))
        have n10_ := am ((by rw [hg]; exact Nat.ne_of_gt (blk_lt (g := gb234) (o := .cells #[.slice A0_0 l0_0.length c0_0, .int .i64 a0_1, .slice A0_2 l0_2.length c0_2] 60 (0, 0)) (pk BK234.out)) : gb247 ≠ gb234))
        have n11_ := am ((by rw [hg]; exact Nat.ne_of_lt (blk_lt (g := gb235) (o := .cells #[.slice none 0 0, .int .i64 0, .slice none 0 0, .slice none 0 0, .int .i64 0] 62 (0, 0)) (pk BK235.out)) : gb235 ≠ gb247))
        have n12_ := am ((by rw [hg]; exact Nat.ne_of_gt (blk_lt (g := gb235) (o := .cells #[.slice none 0 0, .int .i64 0, .slice none 0 0, .slice none 0 0, .int .i64 0] 62 (0, 0)) (pk BK235.out)) : gb247 ≠ gb235))
        clear HO_235002
        clear HO242
        clear HO246
        clear BK234
        clear BK235
        clear HB
        have HO_235002 := n0_
        have HO242 := n1_
        have HO246 := n2_
        have BK234 := n3_
        have BK235 := n4_
        have HB := n5_
        have BK247 := n6_
        have GW247 := n7_
        have GE247 := n8_
        have NB234_247 := n9_
        have NB247_234 := n10_
        have NB235_247 := n11_
        have NB247_235 := n12_
        clear n0_ n1_ n2_ n3_ n4_ n5_ n6_ n7_ n8_ n9_ n10_ n11_ n12_
        clear hb hbox hg
        refine hK.out _ _ ⟨(blk_cell BK234.out 0).trans rfl, (blk_cell BK234.out 1).trans rfl, (blk_cell BK234.out 2).trans rfl⟩ (fun hHeld => ?_)
        clear hK K
        refine norm_ (a' := ?_) ?_ ?_
        rotate_left
        ·show Act.put _ (some 5) _ = _
         simp only [Act.put, List.setIfInBounds_toArray, List.set_cons_zero, List.set_cons_succ, i64_w, i32_w]
         rfl
        exact norm_ (by simp only [putAll, Act.put, List.setIfInBounds_toArray, List.set_cons_zero, List.set_cons_succ]) (hCont (v241, v245, gb247) _ ⟨hHeld, (by (with_reducible repeat (first | apply Kd.S_alloc | apply Kd.S_drewN | apply Kd.S_drew)); exact HO242.out), (by (with_reducible repeat (first | apply Kd.R_alloc | apply Kd.R_drewN | apply Kd.R_drew)); exact Kd.R_mono HO246.out (fun _ hk => hk.1)), (by (with_reducible repeat (first | apply Kd.V_alloc | apply Kd.V_drewN | apply Kd.V_drew)); exact Kd.V_mono HO_235002.out (fun _ hk => ⟨hk.1.1.1.1, ⟨hk.1.1.2, ⟨hk.1.2, ⟨hk.1.1.1.2.1, ⟨hk.1.1.1.2.2, hk.2⟩⟩⟩⟩⟩)), (pk BK234.out), (pk BK235.out), (pk BK247.out), GW247.out, GE247.out, NB234_247.out, NB247_234.out, NB235_247.out, NB247_235.out, (by repeat (first | (with_reducible first | exact HB.out | apply below_alloc | apply pw_below_drewN | apply below_drew1 | refine below_set ?_ GE234.out | refine below_set ?_ GE235.out | refine below_set ?_ GE247.out) | exact HB.out))⟩)
       ·skip
        refine box_step ?hg (N := 5) ?hd (cs := #[.slice none 0 0, .int .i64 0, .slice none 0 0]) (t := 60) ?hr ?_; (case hd => rfl); (case hg => rfl); (case hr => first | (go_simp; done) | (go_simp; rfl))
        intro gb247 hg w32 hbox hb
        have n0_ := am (Kd.V_below (Kd.V_elderB (by (with_reducible repeat (first | apply Kd.V_alloc | apply Kd.V_drewN | apply Kd.V_drew)); exact HO_235002.out) gb247 (Nat.le_of_eq hg.symm)) hb)
        have n1_ := am (blk_below (g := gb234) (o := .cells #[.slice A0_0 l0_0.length c0_0, .int .i64 a0_1, .slice A0_2 l0_2.length c0_2] 60 (0, 0)) (pk BK234.out) hb)
        have n2_ := am (blk_below (g := gb235) (o := .cells #[.slice none 0 0, .int .i64 0, .slice none 0 0, .slice none 0 0, .int .i64 0] 62 (0, 0)) (pk BK235.out) hb)
        have n3_ := am (below_step (by repeat (first | (with_reducible first | exact HB.out | apply below_alloc | apply pw_below_drewN | apply below_drew1 | refine below_set ?_ GE234.out | refine below_set ?_ GE235.out) | exact HB.out)) hb)
        have n4_ := am (hbox)
        have n5_ := am ((by rw [hg]; exact (below_size (by repeat (first | (with_reducible first | exact HB.out | apply below_alloc | apply pw_below_drewN | apply below_drew1 | refine below_set ?_ GE234.out | refine below_set ?_ GE235.out) | exact HB.out))) : w.heap.size ≤ gb247))
        have n6_ := am ((by rw [hg]; exact (below_size (by repeat (first | (with_reducible first | exact HB.out | apply below_alloc | apply pw_below_drewN | apply below_drew1 | refine below_set ?_ GE234.out | refine below_set ?_ GE235.out) | exact HB.out))) : w.heap.size ≤ gb247))
        have n7_ := am ((by rw [hg]; exact Nat.ne_of_lt (blk_lt (g := gb234) (o := .cells #[.slice A0_0 l0_0.length c0_0, .int .i64 a0_1, .slice A0_2 l0_2.length c0_2] 60 (0, 0)) (pk BK234.out)) : gb234 ≠ gb247))
        have n8_ := am ((by rw [hg]; exact Nat.ne_of_gt (blk_lt (g := gb234) (o := .cells #[.slice A0_0 l0_0.length c0_0, .int .i64 a0_1, .slice A0_2 l0_2.length c0_2] 60 (0, 0)) (pk BK234.out)) : gb247 ≠ gb234))
        have n9_ := am ((by rw [hg]; exact Nat.ne_of_lt (blk_lt (g := gb235) (o := .cells #[.slice none 0 0, .int .i64 0, .slice none 0 0, .slice none 0 0, .int .i64 0] 62 (0, 0)) (pk BK235.out)) : gb235 ≠ gb247))
        have n10_ := am ((by rw [hg]; exact Nat.ne_of_gt (blk_lt (g := gb235) (o := .cells #[.slice none 0 0, .int .i64 0, .slice none 0 0, .slice none 0 0, .int .i64 0] 62 (0, 0)) (pk BK235.out)) : gb247 ≠ gb235))
        clear HO_235002
        clear BK234
        clear BK235
        clear HB
        have HO_235002 := n0_
        have BK234 := n1_
        have BK235 := n2_
        have HB := n3_
        have BK247 := n4_
        have GW247 := n5_
        have GE247 := n6_
        have NB234_247 := n7_
        have NB247_234 := n8_
        have NB235_247 := n9_
        have NB247_235 := n10_
        clear n0_ n1_ n2_ n3_ n4_ n5_ n6_ n7_ n8_ n9_ n10_
        clear hb hbox hg
        refine hK.out _ _ ⟨(blk_cell BK234.out 0).trans rfl, (blk_cell BK234.out 1).trans rfl, (blk_cell BK234.out 2).trans rfl⟩ (fun hHeld => ?_)
        clear hK K
        refine norm_ (a' := ?_) ?_ ?_
        rotate_left
        ·show Act.put _ (some 5) _ = _
         simp only [Act.put, List.setIfInBounds_toArray, List.set_cons_zero, List.set_cons_succ, i64_w, i32_w]
         rfl
        refine one_ (i := 1) (N := some 31) #[true, true, true, true, true, false, false] rfl rfl (by kernel_rfl) (by decide) (fun K hK => ?_)
        refine goes_ Try.func72 (by kernel_rfl) rfl #[.agg #[.slice A0_0 l0_0.length c0_0, .int .i64 a0_1, .slice A0_2 l0_2.length c0_2]] (by rfl) rfl rfl (by (try simp only [List.map_toArray, List.map_cons, List.map_nil]); first | done | rfl | (simp only [List.length_drop, List.length_take]; rfl)) ?_
        with_reducible refine (impl_ownHist.calls kj8 _ _ l0_0 a0_1 _ _ l0_2 t240 t243 t244 _ ?side1 ?side2 ?side3 ?side4 A29.out).mono ?_
        (case side1 => repeat (first | exact (Kd.C_below HR0_0.out HB.out) | (with_reducible refine Kd.C_alloc ?_ _) | (with_reducible refine Kd.C_drewN ?_ _) | (with_reducible refine Kd.C_drew ?_)))
        (case side2 => exact HC0_0.out)
        (case side3 => repeat (first | exact (Kd.V_reads' HO_235002.out).2.2 | (with_reducible refine Kd.C_alloc ?_ _) | (with_reducible refine Kd.C_drewN ?_ _) | (with_reducible refine Kd.C_drew ?_)))
        (case side4 => exact (Kd.V_reads' HO_235002.out).2.1)
        rintro e w33 ⟨v241, v245, rfl, ho0, ho1, hb⟩
        refine ⟨_, rfl, ?_⟩
        have n0_ := am (Kd.V_mono (Kd.V_told (Kd.V_told (Kd.V_old (by (with_reducible repeat (first | apply Kd.V_alloc | apply Kd.V_drewN | apply Kd.V_drew)); exact HO_235002.out) hb) (Kd.S_base ho0)) (Kd.R_base ho1)) (fun _ h_ => h_.1))
        have n1_ := am (Kd.S_lower (Kd.S_newM (M := fun k_ => (w.heap.size ≤ k_)) ho0 (below_size (by repeat (first | (with_reducible first | exact HB.out | apply below_alloc | apply pw_below_drewN | apply below_drew1 | refine below_set ?_ GE234.out | refine below_set ?_ GE235.out | refine below_set ?_ GE247.out) | exact HB.out))) (fun k_ h_ => h_)) (below_size (by repeat (first | (with_reducible first | exact HB.out | apply below_alloc | apply pw_below_drewN | apply below_drew1 | refine below_set ?_ GE234.out | refine below_set ?_ GE235.out | refine below_set ?_ GE247.out) | exact HB.out))))
        have n2_ := am (Kd.R_lower (Kd.R_newM (M := fun k_ => (w.heap.size ≤ k_)) ho1 (below_size (by repeat (first | (with_reducible first | exact HB.out | apply below_alloc | apply pw_below_drewN | apply below_drew1 | refine below_set ?_ GE234.out | refine below_set ?_ GE235.out | refine below_set ?_ GE247.out) | exact HB.out))) (fun k_ h_ => h_)) (below_size (by repeat (first | (with_reducible first | exact HB.out | apply below_alloc | apply pw_below_drewN | apply below_drew1 | refine below_set ?_ GE234.out | refine below_set ?_ GE235.out | refine below_set ?_ GE247.out) | exact HB.out))))
        have n3_ := am (blk_below (g := gb234) (o := .cells #[.slice A0_0 l0_0.length c0_0, .int .i64 a0_1, .slice A0_2 l0_2.length c0_2] 60 (0, 0)) (pk BK234.out) hb)
        have n4_ := am (blk_below (g := gb235) (o := .cells #[.slice none 0 0, .int .i64 0, .slice none 0 0, .slice none 0 0, .int .i64 0] 62 (0, 0)) (pk BK235.out) hb)
        have n5_ := am (blk_below (g := gb247) (o := .cells #[.slice none 0 0, .int .i64 0, .slice none 0 0] 60 (0, 0)) (pk BK247.out) hb)
        have n6_ := am (below_step (by repeat (first | (with_reducible first | exact HB.out | apply below_alloc | apply pw_below_drewN | apply below_drew1 | refine below_set ?_ GE234.out | refine below_set ?_ GE235.out | refine below_set ?_ GE247.out) | exact HB.out)) hb)
        clear HO_235002
        clear BK234
        clear BK235
        clear BK247
        clear HB
        have HO_235002 := n0_
        have HO242 := n1_
        have HO246 := n2_
        have BK234 := n3_
        have BK235 := n4_
        have BK247 := n5_
        have HB := n6_
        clear n0_ n1_ n2_ n3_ n4_ n5_ n6_
        (try clear hb)
        (try clear hb2)
        (try clear hk)
        (try clear hi)
        (try clear ho0)
        (try clear ho1)
        refine hK.out _ _ ⟨(blk_cell BK234.out 0).trans rfl, (blk_cell BK234.out 1).trans rfl, (blk_cell BK234.out 2).trans rfl⟩ (fun hHeld => ?_)
        clear hK K
        refine norm_ (a' := ?_) ?_ ?_
        rotate_left
        ·show Act.put _ (some 31) _ = _
         simp only [Act.put, List.setIfInBounds_toArray, List.set_cons_zero, List.set_cons_succ, i64_w, i32_w]
         rfl
        exact norm_ (by simp only [putAll, Act.put, List.setIfInBounds_toArray, List.set_cons_zero, List.set_cons_succ]) (hCont (v241, v245, gb247) _ ⟨hHeld, (by (with_reducible repeat (first | apply Kd.S_alloc | apply Kd.S_drewN | apply Kd.S_drew)); exact HO242.out), (by (with_reducible repeat (first | apply Kd.R_alloc | apply Kd.R_drewN | apply Kd.R_drew)); exact Kd.R_mono HO246.out (fun _ hk => hk.1)), (by (with_reducible repeat (first | apply Kd.V_alloc | apply Kd.V_drewN | apply Kd.V_drew)); exact Kd.V_mono HO_235002.out (fun _ hk => ⟨hk.1.1.1.1, ⟨hk.1.2, ⟨hk.2, ⟨hk.1.1.1.2.1, ⟨hk.1.1.1.2.2, hk.1.1.2⟩⟩⟩⟩⟩)), (pk BK234.out), (pk BK235.out), (pk BK247.out), GW247.out, GE247.out, NB234_247.out, NB247_234.out, NB235_247.out, NB247_235.out, (by repeat (first | (with_reducible first | exact HB.out | apply below_alloc | apply pw_below_drewN | apply below_drew1 | refine below_set ?_ GE234.out | refine below_set ?_ GE235.out | refine below_set ?_ GE247.out) | exact HB.out))⟩)
      rintro ⟨v241, v245, gb247⟩ w34 ⟨hS_, h0_, h1_, h2_, h3_, h4_, h5_, h6_, h7_, h8_, h9_, h10_, h11_, h12_⟩
      have n0_ : Aside0 (Kd.S (Kd.slice 2 (Kd.int .i64)) 22 w34 w.heap.size (fun k_ => (w.heap.size ≤ k_) ∧ some k_ ≠ (v245 : Value).ownBlock) v241 t240) := ⟨h0_⟩
      have n1_ : Aside0 (Kd.R (Kd.int .i64) 2 w34 w.heap.size (fun k_ => (w.heap.size ≤ k_)) v245 t244) := ⟨h1_⟩
      have n2_ : Aside0 (Kd.V (Kd.int .i64) 2 w34 w.heap.size (fun k_ => (P0_2_ k_ ∨ w.heap.size ≤ k_) ∧ some k_ ≠ (v241 : Value).ownBlock ∧ some k_ ≠ (v245 : Value).ownBlock ∧ k_ ≠ gb234 ∧ k_ ≠ gb235 ∧ k_ ≠ gb247) (.slice A0_2 l0_2.length c0_2) l0_2) := ⟨h2_⟩
      have n3_ : Aside0 (w34.heap[gb234]? = some (.cells #[.slice A0_0 l0_0.length c0_0, .int .i64 a0_1, .slice A0_2 l0_2.length c0_2] 60 (0, 0))) := ⟨h3_⟩
      have n4_ : Aside0 (w34.heap[gb235]? = some (.cells #[.slice none 0 0, .int .i64 0, .slice none 0 0, .slice none 0 0, .int .i64 0] 62 (0, 0))) := ⟨h4_⟩
      have n5_ : Aside0 (w34.heap[gb247]? = some (.cells #[.slice none 0 0, .int .i64 0, .slice none 0 0] 60 (0, 0))) := ⟨h5_⟩
      have n6_ : Aside0 (w.heap.size ≤ gb247) := ⟨h6_⟩
      have n7_ : Aside0 (w.heap.size ≤ gb247) := ⟨h7_⟩
      have n8_ : Aside0 (gb234 ≠ gb247) := ⟨h8_⟩
      have n9_ : Aside0 (gb247 ≠ gb234) := ⟨h9_⟩
      have n10_ : Aside0 (gb235 ≠ gb247) := ⟨h10_⟩
      have n11_ : Aside0 (gb247 ≠ gb235) := ⟨h11_⟩
      have n12_ : Aside0 (Below w.heap.size w w34) := ⟨h12_⟩
      clear HO_235002
      clear BK234
      clear BK235
      clear HB
      clear h0_ h1_ h2_ h3_ h4_ h5_ h6_ h7_ h8_ h9_ h10_ h11_ h12_
      have HO242 := n0_
      have HO246 := n1_
      have HO_235002 := n2_
      have BK234 := n3_
      have BK235 := n4_
      have BK247 := n5_
      have GW247 := n6_
      have GE247 := n7_
      have NB234_247 := n8_
      have NB247_234 := n9_
      have NB235_247 := n10_
      have NB247_235 := n11_
      have HB := n12_
      clear n0_ n1_ n2_ n3_ n4_ n5_ n6_ n7_ n8_ n9_ n10_ n11_ n12_
      have hHeld : w34.cell? ⟨gb234, 0, none⟩ = some (.slice A0_0 l0_0.length c0_0) ∧ w34.cell? ⟨gb234, 1, none⟩ = some (.int .i64 a0_1) ∧ w34.cell? ⟨gb234, 2, none⟩ = some (.slice A0_2 l0_2.length c0_2) := hS_
      obtain ⟨Ao35, co35, eo35⟩ := Kd.S_slice HO242.out
      (first | subst eo35 | (injection eo35 with f1_ f2_ f3_; have f4_ := f1_.symm; have f5_ := f3_.symm; clear f1_ f2_ f3_; subst f4_; subst f5_))
      obtain ⟨Ao38, co38, eo38⟩ := Kd.R_slice HO246.out
      (first | subst eo38 | (injection eo38 with f1_ f2_ f3_; have f4_ := f1_.symm; have f5_ := f3_.symm; clear f1_ f2_ f3_; subst f4_; subst f5_))
      refine norm_ (a' := ?_) ?_ ?_
      rotate_left
      ·simp only [putAll, Act.put, List.setIfInBounds_toArray, List.set_cons_zero, List.set_cons_succ]
       rfl
      refine one_ (i := 5) (N := none) #[true, true, true, true, true, true, false] rfl rfl (by kernel_rfl) (by decide) (fun K hK => ?_)
      have hs36 : w34.cell? ⟨gb247, 0, none⟩ = some (.slice none 0 0) := (blk_cell BK247.out 0).trans rfl
      have hfs36 := blk_frozen BK247.out 0
      have hns36_0 := NB234_247.out
      have hns36_1 := NB235_247.out
      have hms36_0 := NB247_234.out
      have hms36_1 := NB247_235.out
      have hs37 : w34.cell? ⟨gb247, 1, none⟩ = some (.int .i64 0) := (blk_cell BK247.out 1).trans rfl
      have hfs37 := blk_frozen BK247.out 1
      have hns37_0 := NB234_247.out
      have hns37_1 := NB235_247.out
      have hms37_0 := NB247_234.out
      have hms37_1 := NB247_235.out
      have hs39 : w34.cell? ⟨gb247, 2, none⟩ = some (.slice none 0 0) := (blk_cell BK247.out 2).trans rfl
      have hfs39 := blk_frozen BK247.out 2
      have hns39_0 := NB234_247.out
      have hns39_1 := NB235_247.out
      have hms39_0 := NB247_234.out
      have hms39_1 := NB247_235.out
      refine skip_ (w1 := ?_) (by rfl) rfl ?_ ?_
      rotate_left
      ·go_simp
       rfl
      refine hK.out _ _ ⟨((cell_far (p := ⟨gb247, _, none⟩) NB234_247.out _).trans (((cell_far (p := ⟨gb247, _, none⟩) NB234_247.out _).trans (((cell_far (p := ⟨gb247, _, none⟩) NB234_247.out _).trans (hHeld.1)))))), ((cell_far (p := ⟨gb247, _, none⟩) NB234_247.out _).trans (((cell_far (p := ⟨gb247, _, none⟩) NB234_247.out _).trans (((cell_far (p := ⟨gb247, _, none⟩) NB234_247.out _).trans (hHeld.2.1)))))), ((cell_far (p := ⟨gb247, _, none⟩) NB234_247.out _).trans (((cell_far (p := ⟨gb247, _, none⟩) NB234_247.out _).trans (((cell_far (p := ⟨gb247, _, none⟩) NB234_247.out _).trans (hHeld.2.2))))))⟩ (fun hHeld => ?_)
      clear hK K
      refine pure_ (i := 6) (N := some 6) (v := ?_) (a' := ?_) #[true, true, true, true, true, true, true] rfl rfl (by kernel_rfl) (fun _ _ _ h => h) (Or.inl ⟨by rfl, ?_⟩) ?_ ?_
      rotate_left
      ·intro w'
       go_simp
       with_reducible rfl
      rotate_left
      ·simp only [Act.put, List.setIfInBounds_toArray, List.set_cons_zero, List.set_cons_succ, i64_w, i32_w]
       rfl
      refine done_ (by kernel_rfl) ?_
      have hnb40 := NB247_234.out
      have hnc40 := NB234_247.out
      have hnb41 := NB247_235.out
      have hnc41 := NB235_247.out
      have hcz42_0 : w34.cell? ⟨gb247, 0, none⟩ = some (.slice none 0 0) := (blk_cell BK247.out 0).trans rfl
      have hcz42_1 : w34.cell? ⟨gb247, 1, none⟩ = some (.int .i64 0) := (blk_cell BK247.out 1).trans rfl
      have hcz42_2 : w34.cell? ⟨gb247, 2, none⟩ = some (.slice none 0 0) := (blk_cell BK247.out 2).trans rfl
      have hfz42_0 := blk_frozen BK247.out 0
      have hfz42_1 := blk_frozen BK247.out 1
      have hfz42_2 := blk_frozen BK247.out 2
      try go_wp2
      go_loopg [6] kj8 (fun kq v6 w' => ∃ (x6_2 : List Int) (x248001_2 : Int), Aside0 (impl_HistDown.l0 kq l1 x6_2 l0_0 a0_1 l0_2 t240 x248001_2 t244 = some (r1, r2, r3, r4, r5)) ∧ Aside0 (kq ≤ kj8) ∧ Aside0 (Kd.V (Kd.int .i64) 2 w' w.heap.size (fun k_ => (P0_2_ k_ ∨ w.heap.size ≤ k_) ∧ some k_ ≠ ((.slice Ao35 t240.length co35) : Value).ownBlock ∧ some k_ ≠ ((.slice Ao38 t244.length co38) : Value).ownBlock ∧ k_ ≠ gb234 ∧ k_ ≠ gb235 ∧ k_ ≠ gb247) v6 x6_2) ∧ Aside0 (Kd.V (Kd.int .i64) 2 w' w.heap.size (fun k_ => (P0_2_ k_ ∨ w.heap.size ≤ k_) ∧ some k_ ≠ ((.slice Ao35 t240.length co35) : Value).ownBlock ∧ some k_ ≠ ((.slice Ao38 t244.length co38) : Value).ownBlock ∧ k_ ≠ gb234 ∧ k_ ≠ gb235 ∧ k_ ≠ gb247) (.slice A0_2 l0_2.length c0_2) l0_2) ∧ Aside0 (Kd.S (Kd.slice 2 (Kd.int .i64)) 22 w' w.heap.size (fun k_ => (w.heap.size ≤ k_) ∧ some k_ ≠ ((.slice Ao38 t244.length co38) : Value).ownBlock) (.slice Ao35 t240.length co35) t240) ∧ Aside0 (Kd.R (Kd.int .i64) 2 w' w.heap.size (fun k_ => (w.heap.size ≤ k_)) (.slice Ao38 t244.length co38) t244) ∧ Aside0 (w'.heap[gb234]? = some (.cells #[(.slice A0_0 l0_0.length c0_0), .int .i64 a0_1, (.slice A0_2 l0_2.length c0_2)] 60 (0, 0))) ∧ Aside0 (w'.heap[gb235]? = some (.cells #[(.slice none 0 0), .int .i64 0, (.slice none 0 0), (.slice none 0 0), .int .i64 0] 62 (0, 0))) ∧ Aside0 (w'.heap[gb247]? = some (.cells #[(.slice Ao35 t240.length co35), .int .i64 x248001_2, (.slice Ao38 t244.length co38)] 60 (0, 0))) ∧ Aside0 (Below w.heap.size w w'))
      case atStart => exact ⟨(l0_2), (wrap64 (t243 + 1)), H', ⟨Nat.le_refl _⟩, ⟨by (with_reducible repeat (first | apply Kd.V_alloc | apply Kd.V_drewN | apply Kd.V_drew)); exact Kd.V_mono (Kd.V_far (p := ⟨gb247, 1, none⟩) (Kd.V_far (p := ⟨gb247, 2, none⟩) (Kd.V_far (p := ⟨gb247, 1, none⟩) (Kd.V_far (p := ⟨gb247, 0, none⟩) (Kd.V_mono HO_235002.out (fun k_ hk => (⟨hk, hk.2.2.2.2.2⟩ : _ ∧ k_ ≠ gb247))) (fun _ hk => hk.2) (.slice Ao35 t240.length co35)) (fun _ hk => hk.2) (.int .i64 t243)) (fun _ hk => hk.2) (.slice Ao38 t244.length co38)) (fun _ hk => hk.2) (.int .i64 (wrap64 (t243 + 1)))) (fun _ hk => ⟨hk.1.1, ⟨hk.1.2.1, ⟨hk.1.2.2.1, ⟨hk.1.2.2.2.1, ⟨hk.1.2.2.2.2.1, hk.1.2.2.2.2.2⟩⟩⟩⟩⟩)⟩, ⟨by (with_reducible repeat (first | apply Kd.V_alloc | apply Kd.V_drewN | apply Kd.V_drew)); exact Kd.V_mono (Kd.V_far (p := ⟨gb247, 1, none⟩) (Kd.V_far (p := ⟨gb247, 2, none⟩) (Kd.V_far (p := ⟨gb247, 1, none⟩) (Kd.V_far (p := ⟨gb247, 0, none⟩) (Kd.V_mono HO_235002.out (fun k_ hk => (⟨hk, hk.2.2.2.2.2⟩ : _ ∧ k_ ≠ gb247))) (fun _ hk => hk.2) (.slice Ao35 t240.length co35)) (fun _ hk => hk.2) (.int .i64 t243)) (fun _ hk => hk.2) (.slice Ao38 t244.length co38)) (fun _ hk => hk.2) (.int .i64 (wrap64 (t243 + 1)))) (fun _ hk => ⟨hk.1.1, ⟨hk.1.2.1, ⟨hk.1.2.2.1, ⟨hk.1.2.2.2.1, ⟨hk.1.2.2.2.2.1, hk.1.2.2.2.2.2⟩⟩⟩⟩⟩)⟩, ⟨by (with_reducible repeat (first | apply Kd.S_alloc | apply Kd.S_drewN | apply Kd.S_drew)); exact Kd.S_mono (Kd.S_far (p := ⟨gb247, 1, none⟩) (Kd.S_far (p := ⟨gb247, 2, none⟩) (Kd.S_far (p := ⟨gb247, 1, none⟩) (Kd.S_far (p := ⟨gb247, 0, none⟩) (Kd.S_types HO242.out BK247.out (by decide)) (fun _ hk => hk.2) (.slice Ao35 t240.length co35)) (fun _ hk => hk.2) (.int .i64 t243)) (fun _ hk => hk.2) (.slice Ao38 t244.length co38)) (fun _ hk => hk.2) (.int .i64 (wrap64 (t243 + 1)))) (fun _ hk => ⟨hk.1.1, hk.1.2⟩)⟩, ⟨by (with_reducible repeat (first | apply Kd.R_alloc | apply Kd.R_drewN | apply Kd.R_drew)); exact Kd.R_mono (Kd.R_far (p := ⟨gb247, 1, none⟩) (Kd.R_far (p := ⟨gb247, 2, none⟩) (Kd.R_far (p := ⟨gb247, 1, none⟩) (Kd.R_far (p := ⟨gb247, 0, none⟩) (Kd.R_types HO246.out BK247.out (by decide)) (fun _ hk => hk.2) (.slice Ao35 t240.length co35)) (fun _ hk => hk.2) (.int .i64 t243)) (fun _ hk => hk.2) (.slice Ao38 t244.length co38)) (fun _ hk => hk.2) (.int .i64 (wrap64 (t243 + 1)))) (fun _ hk => hk.1)⟩, ⟨by (with_reducible repeat (first | refine blk_drewN ?_ _ | refine blk_drew ?_ | refine blk_alloc ?_ _)); refine blk_far ?_ NB234_247.out _; (with_reducible repeat (first | refine blk_drewN ?_ _ | refine blk_drew ?_ | refine blk_alloc ?_ _)); refine blk_far ?_ NB234_247.out _; (with_reducible repeat (first | refine blk_drewN ?_ _ | refine blk_drew ?_ | refine blk_alloc ?_ _)); refine blk_far ?_ NB234_247.out _; (with_reducible repeat (first | refine blk_drewN ?_ _ | refine blk_drew ?_ | refine blk_alloc ?_ _)); refine blk_far ?_ NB234_247.out _; (with_reducible repeat (first | refine blk_drewN ?_ _ | refine blk_drew ?_ | refine blk_alloc ?_ _)); exact BK234.out⟩, ⟨by (with_reducible repeat (first | refine blk_drewN ?_ _ | refine blk_drew ?_ | refine blk_alloc ?_ _)); refine blk_far ?_ NB235_247.out _; (with_reducible repeat (first | refine blk_drewN ?_ _ | refine blk_drew ?_ | refine blk_alloc ?_ _)); refine blk_far ?_ NB235_247.out _; (with_reducible repeat (first | refine blk_drewN ?_ _ | refine blk_drew ?_ | refine blk_alloc ?_ _)); refine blk_far ?_ NB235_247.out _; (with_reducible repeat (first | refine blk_drewN ?_ _ | refine blk_drew ?_ | refine blk_alloc ?_ _)); refine blk_far ?_ NB235_247.out _; (with_reducible repeat (first | refine blk_drewN ?_ _ | refine blk_drew ?_ | refine blk_alloc ?_ _)); exact BK235.out⟩, ⟨by (with_reducible repeat (first | refine blk_drewN ?_ _ | refine blk_drew ?_ | refine blk_alloc ?_ _)); refine blk_put (cs := #[.slice Ao35 t240.length co35, .int .i64 t243, .slice Ao38 t244.length co38]) ?_ 1 _ rfl; (with_reducible repeat (first | refine blk_drewN ?_ _ | refine blk_drew ?_ | refine blk_alloc ?_ _)); refine blk_put (cs := #[.slice Ao35 t240.length co35, .int .i64 t243, .slice none 0 0]) ?_ 2 _ rfl; (with_reducible repeat (first | refine blk_drewN ?_ _ | refine blk_drew ?_ | refine blk_alloc ?_ _)); refine blk_put (cs := #[.slice Ao35 t240.length co35, .int .i64 0, .slice none 0 0]) ?_ 1 _ rfl; (with_reducible repeat (first | refine blk_drewN ?_ _ | refine blk_drew ?_ | refine blk_alloc ?_ _)); refine blk_put (cs := #[.slice none 0 0, .int .i64 0, .slice none 0 0]) ?_ 0 _ rfl; (with_reducible repeat (first | refine blk_drewN ?_ _ | refine blk_drew ?_ | refine blk_alloc ?_ _)); exact BK247.out⟩, ⟨by repeat (first | (with_reducible first | exact HB.out | apply below_alloc | apply pw_below_drewN | apply below_drew1 | refine below_set ?_ GE234.out | refine below_set ?_ GE235.out | refine below_set ?_ GE247.out) | exact HB.out)⟩⟩
      case round =>
       clear H'
       try clear c1
       try clear c2
       try clear p2
       try clear c3
       try clear c4
       try clear c5
       try clear p6
       try clear c7
       try clear c13
       try clear c15
       try clear c18
       try clear c21
       try clear c22
       try clear c25
       try clear c25b0
       try clear c25b1
       try clear c27
       try clear c40
       try clear c41
       try clear hcz16_0
       try clear hcz16_1
       try clear hcz16_2
       try clear hcz19_0
       try clear hcz19_1
       try clear hcz19_2
       try clear hcz23_0
       try clear hcz23_1
       try clear hcz23_2
       try clear hcz23_3
       try clear hcz23_4
       try clear hcz28_0
       try clear hcz28_1
       try clear hcz28_2
       try clear hcz28_3
       try clear hcz28_4
       try clear hcz42_0
       try clear hcz42_1
       try clear hcz42_2
       try clear hcz8_0
       try clear hcz8_1
       try clear hcz8_2
       try clear hcz8_3
       try clear hcz8_4
       try clear hfz16_0
       try clear hfz16_1
       try clear hfz16_2
       try clear hfz19_0
       try clear hfz19_1
       try clear hfz19_2
       try clear hfz23_0
       try clear hfz23_1
       try clear hfz23_2
       try clear hfz23_3
       try clear hfz23_4
       try clear hfz28_0
       try clear hfz28_1
       try clear hfz28_2
       try clear hfz28_3
       try clear hfz28_4
       try clear hfz42_0
       try clear hfz42_1
       try clear hfz42_2
       try clear hfz8_0
       try clear hfz8_1
       try clear hfz8_2
       try clear hfz8_3
       try clear hfz8_4
       try clear p2
       obtain ⟨x6_2, x248001_2, HA, HK2, HO_6, HO_235002, HO_248000, HO_248002, BK234, BK235, BK247, HB⟩ := hrel
       cases gk with
       | zero => exact absurd HA.out (by simp [impl_HistDown.l0])
       | succ k2 =>
        have H := HA.out
        clear HA
        simp only [impl_HistDown.l0] at H
        replace H := Option.bind_eq_some_iff.mp H
        obtain ⟨t248, A430, H⟩ := H
        replace H : (if x248001_2 < t248 then (if 0 ≤ x248001_2 then (if x248001_2 < (l0_0.length : Int) then ((impl_begins.f k2 (rd_L1 l0_0 x248001_2) l1).bind fun t250 => (if t250 = true then ((slices_Clone_sint64_int64.f (rd_L1 l0_0 x248001_2)).bind fun t252 => (some (t240, x248001_2, t244, t252, 0))) else (impl_HistDown.l0 k2 l1 x6_2 l0_0 a0_1 l0_2 t240 (wrap64 (x248001_2 + 1)) t244))) else (none)) else (none)) else ((slices_Clone_sint64_int64.f x6_2).bind fun t255 => (some (t240, x248001_2, t244, t255, 0)))) = some (r1, r2, r3, r4, r5) := H
        have A43 := Aside0.mk A430
        clear A430
        by_cases c44 : x248001_2 < t248
        ·rw [if_pos c44] at H
         have c44b0 : decide (x248001_2 < t248) = true := decide_eq_true c44
         clear c44
         by_cases c45 : 0 ≤ x248001_2
         ·rw [if_pos c45] at H
          have c45b0 : decide (0 ≤ x248001_2) = true := decide_eq_true c45
          clear c45
          by_cases c46 : x248001_2 < (l0_0.length : Int)
          ·rw [if_pos c46] at H
           have c46b0 : decide (x248001_2 < (l0_0.length : Int)) = true := decide_eq_true c46
           clear c46
           replace H := Option.bind_eq_some_iff.mp H
           obtain ⟨t250, A470, H⟩ := H
           replace H : (if t250 = true then ((slices_Clone_sint64_int64.f (rd_L1 l0_0 x248001_2)).bind fun t252 => (some (t240, x248001_2, t244, t252, 0))) else (impl_HistDown.l0 k2 l1 x6_2 l0_0 a0_1 l0_2 t240 (wrap64 (x248001_2 + 1)) t244)) = some (r1, r2, r3, r4, r5) := H
           have A47 := Aside0.mk A470
           clear A470
           by_cases c48 : t250 = true
           ·subst c48
            have H1 : ((slices_Clone_sint64_int64.f (rd_L1 l0_0 x248001_2)).bind fun t252 => (some (t240, x248001_2, t244, t252, 0))) = some (r1, r2, r3, r4, r5) := by rw [if_pos rfl] at H; exact H
            clear H
            have H := H1
            clear H1
            replace H := Option.bind_eq_some_iff.mp H
            obtain ⟨t252, A490, H⟩ := H
            replace H : (some (t240, x248001_2, t244, t252, 0)) = some (r1, r2, r3, r4, r5) := H
            have A49 := Aside0.mk A490
            clear A490
            simp only [Option.some.injEq, Prod.mk.injEq] at H
            obtain ⟨rfl, rfl, rfl, rfl, rfl⟩ := H
            try go_wp2
            have n0_ := am (Kd.V_drew HO_6.out)
            have n1_ := am (Kd.V_drew HO_235002.out)
            have n2_ := am (Kd.S_drew HO_248000.out)
            have n3_ := am (Kd.R_drew HO_248002.out)
            have n4_ := am (blk_drew BK234.out)
            have n5_ := am (blk_drew BK235.out)
            have n6_ := am (blk_drew BK247.out)
            have n7_ := am (below_drew1 HB.out)
            clear HO_6
            clear HO_235002
            clear HO_248000
            clear HO_248002
            clear BK234
            clear BK235
            clear BK247
            clear HB
            have HO_6 := n0_
            have HO_235002 := n1_
            have HO_248000 := n2_
            have HO_248002 := n3_
            have BK234 := n4_
            have BK235 := n5_
            have BK247 := n6_
            have HB := n7_
            clear n0_ n1_ n2_ n3_ n4_ n5_ n6_ n7_
            refine start_ (n := 6) (S := fun w' => w'.cell? ⟨gb247, 0, none⟩ = some (.slice Ao35 t240.length co35) ∧ w'.cell? ⟨gb247, 1, none⟩ = some (.int .i64 x248001_2) ∧ w'.cell? ⟨gb247, 2, none⟩ = some (.slice Ao38 t244.length co38) ∧ w'.cell? ⟨gb234, 0, none⟩ = some (.slice A0_0 l0_0.length c0_0) ∧ w'.cell? ⟨gb234, 1, none⟩ = some (.int .i64 a0_1) ∧ w'.cell? ⟨gb234, 2, none⟩ = some (.slice A0_2 l0_2.length c0_2)) (ds := []) #[false, false, false, false, false, false] (by kernel_rfl) rfl rfl ⟨(blk_cell BK247.out 0).trans rfl, (blk_cell BK247.out 1).trans rfl, (blk_cell BK247.out 2).trans rfl, (blk_cell BK234.out 0).trans rfl, (blk_cell BK234.out 1).trans rfl, (blk_cell BK234.out 2).trans rfl⟩ (fun hHeld => ?_)
            generalize wr.drew = w50 at HO_6 HO_235002 HO_248000 HO_248002 BK234 BK235 BK247 HB hHeld ⊢
            refine pure_ (i := 0) (N := some 38) (v := ?_) (a' := ?_) #[true, false, false, false, false, false] rfl rfl (by kernel_rfl) (fun _ _ _ h => h) (Or.inl ⟨by rfl, ?_⟩) ?_ ?_
            rotate_left
            ·intro w'
             go_simp
             with_reducible rfl
            rotate_left
            ·simp only [Act.put, List.setIfInBounds_toArray, List.set_cons_zero, List.set_cons_succ, i64_w, i32_w]
             rfl
            refine pure_ (i := 2) (N := some 40) (v := ?_) (a' := ?_) #[true, false, true, false, false, false] rfl rfl (by kernel_rfl) (fun _ _ _ h => h) (Or.inl ⟨by rfl, ?_⟩) ?_ ?_
            rotate_left
            ·intro w'
             go_simp
             with_reducible rfl
            rotate_left
            ·simp only [Act.put, List.setIfInBounds_toArray, List.set_cons_zero, List.set_cons_succ, i64_w, i32_w]
             rfl
            refine take_ (i := 1) (N := some 39) (v := ?_) (a' := ?_) #[true, true, true, false, false, false] rfl rfl (by kernel_rfl) (fun _ _ _ h => h) (Or.inl ⟨by rfl, ?_⟩) hHeld ?_ ?_
            rotate_left
            ·rintro w' ⟨s0, s1, s2, s3, s4, s5⟩
             go_simp
             with_reducible rfl
            rotate_left
            ·simp only [Act.put, List.setIfInBounds_toArray, List.set_cons_zero, List.set_cons_succ, i64_w, i32_w]
             rfl
            refine take_ (i := 3) (N := some 41) (v := ?_) (a' := ?_) #[true, true, true, true, false, false] rfl rfl (by kernel_rfl) (fun _ _ _ h => h) (Or.inl ⟨by rfl, ?_⟩) hHeld ?_ ?_
            rotate_left
            ·rintro w' ⟨s0, s1, s2, s3, s4, s5⟩
             go_simp
             with_reducible rfl
            rotate_left
            ·simp only [Act.put, List.setIfInBounds_toArray, List.set_cons_zero, List.set_cons_succ, i64_w, i32_w]
             rfl
            refine one_ (i := 4) (N := some 42) #[true, true, true, true, true, false] rfl rfl (by kernel_rfl) (by decide) (fun K hK => ?_)
            refine goes_ Try.func71 (by kernel_rfl) rfl #[.slice A0_0 l0_0.length c0_0] (by rfl) rfl rfl (by (try simp only [List.map_toArray, List.map_cons, List.map_nil]); first | done | rfl | (simp only [List.length_drop, List.length_take]; rfl)) ?_
            with_reducible refine (impl_size_sint64.calls _ _ l0_0 t248 _ A43.out).mono ?_
            rintro e w' ⟨rfl, ⟨nd, rfl⟩⟩
            refine ⟨_, rfl, ?_⟩
            refine hK.out _ _ ⟨(blk_cell BK247.out 0).trans rfl, (blk_cell BK247.out 1).trans rfl, (blk_cell BK247.out 2).trans rfl, (blk_cell BK234.out 0).trans rfl, (blk_cell BK234.out 1).trans rfl, (blk_cell BK234.out 2).trans rfl⟩ (fun hHeld => ?_)
            clear hK K
            refine norm_ (a' := ?_) ?_ ?_
            rotate_left
            ·show Act.put _ (some 42) _ = _
             simp only [Act.put, List.setIfInBounds_toArray, List.set_cons_zero, List.set_cons_succ, i64_w, i32_w]
             rfl
            refine pure_ (i := 5) (N := some 43) (v := ?_) (a' := ?_) #[true, true, true, true, true, true] rfl rfl (by kernel_rfl) (fun _ _ _ h => h) (Or.inl ⟨by rfl, ?_⟩) ?_ ?_
            rotate_left
            ·intro w'
             go_simp
             with_reducible rfl
            rotate_left
            ·simp only [Act.put, List.setIfInBounds_toArray, List.set_cons_zero, List.set_cons_succ, i64_w, i32_w]
             rfl
            refine done_ (by kernel_rfl) ?_
            (try (rw [drewN_self w50]; generalize hq_ : World.drewN w50 _ = w50; have n0_ := am (vAt2 hq_ HO_6.out); have n1_ := am (vAt2 hq_ HO_235002.out); have n2_ := am (Kd.S_at hq_ HO_248000.out); have n3_ := am (Kd.R_at hq_ HO_248002.out); have n4_ := am (blk_at hq_ BK234.out); have n5_ := am (blk_at hq_ BK235.out); have n6_ := am (blk_at hq_ BK247.out); have n7_ := am (below_at hq_ HB.out); clear hq_ HO_6 HO_235002 HO_248000 HO_248002 BK234 BK235 BK247 HB; have HO_6 := n0_; have HO_235002 := n1_; have HO_248000 := n2_; have HO_248002 := n3_; have BK234 := n4_; have BK235 := n5_; have BK247 := n6_; have HB := n7_; clear n0_ n1_ n2_ n3_ n4_ n5_ n6_ n7_))
            have hnb51 := NB234_235.out
            have hnc51 := NB235_234.out
            have hnb52 := NB234_247.out
            have hnc52 := NB247_234.out
            have hcz53_0 : w50.cell? ⟨gb234, 0, none⟩ = some (.slice A0_0 l0_0.length c0_0) := (blk_cell BK234.out 0).trans rfl
            have hcz53_1 : w50.cell? ⟨gb234, 1, none⟩ = some (.int .i64 a0_1) := (blk_cell BK234.out 1).trans rfl
            have hcz53_2 : w50.cell? ⟨gb234, 2, none⟩ = some (.slice A0_2 l0_2.length c0_2) := (blk_cell BK234.out 2).trans rfl
            have hfz53_0 := blk_frozen BK234.out 0
            have hfz53_1 := blk_frozen BK234.out 1
            have hfz53_2 := blk_frozen BK234.out 2
            have hnb54 := NB247_235.out
            have hnc54 := NB235_247.out
            have hcz55_0 : w50.cell? ⟨gb247, 0, none⟩ = some (.slice Ao35 t240.length co35) := (blk_cell BK247.out 0).trans rfl
            have hcz55_1 : w50.cell? ⟨gb247, 1, none⟩ = some (.int .i64 x248001_2) := (blk_cell BK247.out 1).trans rfl
            have hcz55_2 : w50.cell? ⟨gb247, 2, none⟩ = some (.slice Ao38 t244.length co38) := (blk_cell BK247.out 2).trans rfl
            have hfz55_0 := blk_frozen BK247.out 0
            have hfz55_1 := blk_frozen BK247.out 1
            have hfz55_2 := blk_frozen BK247.out 2
            have p249 : 0 ≤ (x248001_2 : Int) := of_decide_eq_true (by first | (with_reducible assumption) | assumption)
            have q249 : x248001_2 < (l0_0.length : Int) := of_decide_eq_true (by first | (with_reducible assumption) | assumption)
            obtain ⟨ad249, A249_0, c249_0, e249, hx249_0, hl249_0, hi249_0⟩ := at_L1 HR0_0.out x248001_2 p249 q249
            cases e249
            have hxw249_0 := hx249_0
            replace hx249_0 := (HB.out.cell (World.block_lt_of_cell? w _ hx249_0)).trans hx249_0
            have HR249_0 := am hi249_0
            have HC249_0 := am hl249_0
            clear hi249_0 hl249_0
            replace p249 := eq_true p249
            replace q249 := eq_true q249
            try go_wp2_with (first | ((with_reducible refine gate_callee (f := 73) rfl ?_); refine gl (some 55) Try.func73 #[.slice A249_0 (rd_L1 l0_0 x248001_2).length c249_0, .slice A1 l1.length c1] ?_; (with_reducible refine (impl_begins.calls k2 _ _ (rd_L1 l0_0 x248001_2) _ _ l1 true _ ?side1 ?side2 ?side3 ?side4 A47.out).mono ?_); (case side1 => repeat (first | exact (Kd.C_below HR249_0.out (by repeat (first | (with_reducible first | exact HB.out | apply below_alloc | apply pw_below_drewN | apply below_drew1 | refine below_set ?_ GE234.out | refine below_set ?_ GE235.out | refine below_set ?_ GE247.out) | exact HB.out))) | (with_reducible refine Kd.C_alloc ?_ _) | (with_reducible refine Kd.C_drewN ?_ _) | (with_reducible refine Kd.C_drew ?_))); (case side2 => exact HC249_0.out); (case side3 => repeat (first | exact (Kd.C_below HR1.out (by repeat (first | (with_reducible first | exact HB.out | apply below_alloc | apply pw_below_drewN | apply below_drew1 | refine below_set ?_ GE234.out | refine below_set ?_ GE235.out | refine below_set ?_ GE247.out) | exact HB.out))) | (with_reducible refine Kd.C_alloc ?_ _) | (with_reducible refine Kd.C_drewN ?_ _) | (with_reducible refine Kd.C_drew ?_))); (case side4 => exact HC1.out); rintro e w' ⟨rfl, ⟨nd, rfl⟩⟩; refine ⟨_, rfl, ?_⟩; (try (rw [drewN_self w50]; generalize hq_ : World.drewN w50 _ = w50; have n0_ : Aside0 (Kd.V (Kd.int .i64) 2 w50 w.heap.size (fun k_ => (P0_2_ k_ ∨ w.heap.size ≤ k_) ∧ some k_ ≠ (.slice Ao35 t240.length co35 : Value).ownBlock ∧ some k_ ≠ (.slice Ao38 t244.length co38 : Value).ownBlock ∧ k_ ≠ gb234 ∧ k_ ≠ gb235 ∧ k_ ≠ gb247) (.slice A0_2 l0_2.length c0_2) l0_2) := ⟨by rw [← hq_]; exact (by (with_reducible repeat (first | apply Kd.V_alloc | apply Kd.V_drewN | apply Kd.V_drew)); exact HO_235002.out)⟩; have n1_ : Aside0 (Kd.S (Kd.slice 2 (Kd.int .i64)) 22 w50 w.heap.size (fun k_ => (w.heap.size ≤ k_) ∧ some k_ ≠ (.slice Ao38 t244.length co38 : Value).ownBlock) (.slice Ao35 t240.length co35) t240) := ⟨by rw [← hq_]; exact (by (with_reducible repeat (first | apply Kd.S_alloc | apply Kd.S_drewN | apply Kd.S_drew)); exact HO_248000.out)⟩; have n2_ : Aside0 (Kd.R (Kd.int .i64) 2 w50 w.heap.size (fun k_ => (w.heap.size ≤ k_)) (.slice Ao38 t244.length co38) t244) := ⟨by rw [← hq_]; exact (by (with_reducible repeat (first | apply Kd.R_alloc | apply Kd.R_drewN | apply Kd.R_drew)); exact HO_248002.out)⟩; have n3_ : Aside0 (Kd.V (Kd.int .i64) 2 w50 w.heap.size (fun k_ => (P0_2_ k_ ∨ w.heap.size ≤ k_) ∧ some k_ ≠ (.slice Ao35 t240.length co35 : Value).ownBlock ∧ some k_ ≠ (.slice Ao38 t244.length co38 : Value).ownBlock ∧ k_ ≠ gb234 ∧ k_ ≠ gb235 ∧ k_ ≠ gb247) u6 x6_2) := ⟨by rw [← hq_]; exact (by (with_reducible repeat (first | apply Kd.V_alloc | apply Kd.V_drewN | apply Kd.V_drew)); exact HO_6.out)⟩; have n4_ : Aside0 (w50.heap[gb234]? = some (.cells #[.slice (some ad249) l0_0.length c0_0, .int .i64 a0_1, .slice A0_2 l0_2.length c0_2] 60 (0, 0))) := ⟨by rw [← hq_]; exact (pk BK234.out)⟩; have n5_ : Aside0 (w50.heap[gb235]? = some (.cells #[.slice none 0 0, .int .i64 0, .slice none 0 0, .slice none 0 0, .int .i64 0] 62 (0, 0))) := ⟨by rw [← hq_]; exact (pk BK235.out)⟩; have n6_ : Aside0 (w50.heap[gb247]? = some (.cells #[.slice Ao35 t240.length co35, .int .i64 x248001_2, .slice Ao38 t244.length co38] 60 (0, 0))) := ⟨by rw [← hq_]; exact (pk BK247.out)⟩; have n7_ : Aside0 (Below w.heap.size w w50) := ⟨by rw [← hq_]; exact (by repeat (first | (with_reducible first | exact HB.out | apply below_alloc | apply pw_below_drewN | apply below_drew1 | refine below_set ?_ GE234.out | refine below_set ?_ GE235.out | refine below_set ?_ GE247.out) | exact HB.out))⟩; clear HO_235002 HO_248000 HO_248002 HO_6 BK234 BK235 BK247 HB hq_; have HO_235002 := n0_; have HO_248000 := n1_; have HO_248002 := n2_; have HO_6 := n3_; have BK234 := n4_; have BK235 := n5_; have BK247 := n6_; have HB := n7_; clear n0_ n1_ n2_ n3_ n4_ n5_ n6_ n7_)); have hcz56_0 : w50.cell? ⟨gb234, 0, none⟩ = some (.slice (some ad249) l0_0.length c0_0) := (blk_cell BK234.out 0).trans rfl; have hcz56_1 : w50.cell? ⟨gb234, 1, none⟩ = some (.int .i64 a0_1) := (blk_cell BK234.out 1).trans rfl; have hcz56_2 : w50.cell? ⟨gb234, 2, none⟩ = some (.slice A0_2 l0_2.length c0_2) := (blk_cell BK234.out 2).trans rfl; have hfz56_0 := blk_frozen BK234.out 0; have hfz56_1 := blk_frozen BK234.out 1; have hfz56_2 := blk_frozen BK234.out 2; have hcz57_0 : w50.cell? ⟨gb247, 0, none⟩ = some (.slice Ao35 t240.length co35) := (blk_cell BK247.out 0).trans rfl; have hcz57_1 : w50.cell? ⟨gb247, 1, none⟩ = some (.int .i64 x248001_2) := (blk_cell BK247.out 1).trans rfl; have hcz57_2 : w50.cell? ⟨gb247, 2, none⟩ = some (.slice Ao38 t244.length co38) := (blk_cell BK247.out 2).trans rfl; have hfz57_0 := blk_frozen BK247.out 0; have hfz57_1 := blk_frozen BK247.out 1; have hfz57_2 := blk_frozen BK247.out 2; have p251 : 0 ≤ (x248001_2 : Int) := of_decide_eq_true (by first | (with_reducible assumption) | assumption); have q251 : x248001_2 < (l0_0.length : Int) := of_decide_eq_true (by first | (with_reducible assumption) | assumption); obtain ⟨ad251, A251_0, c251_0, e251, hx251_0, hl251_0, hi251_0⟩ := at_L1 HR0_0.out x248001_2 p251 q251; obtain rfl : ad249 = ad251 := (by injection e251); have hxw251_0 := hx251_0; replace hx251_0 := (HB.out.cell (World.block_lt_of_cell? w _ hx251_0)).trans hx251_0; have HR251_0 := am hi251_0; have HC251_0 := am hl251_0; clear hi251_0 hl251_0; replace p251 := eq_true p251; replace q251 := eq_true q251; (first | have ea_ := Option.some.inj (hx249_0.symm.trans hx251_0) | have ea_ := Option.some.inj (hxw249_0.symm.trans hxw251_0)); injection ea_ with ea_ en_ ec_; subst ea_; subst ec_; clear en_))
            have n0_ := am (Kd.V_drew HO_6.out)
            have n1_ := am (Kd.V_drew HO_235002.out)
            have n2_ := am (Kd.S_drew HO_248000.out)
            have n3_ := am (Kd.R_drew HO_248002.out)
            have n4_ := am (blk_drew BK234.out)
            have n5_ := am (blk_drew BK235.out)
            have n6_ := am (blk_drew BK247.out)
            have n7_ := am (below_drew1 HB.out)
            clear HO_6
            clear HO_235002
            clear HO_248000
            clear HO_248002
            clear BK234
            clear BK235
            clear BK247
            clear HB
            have HO_6 := n0_
            have HO_235002 := n1_
            have HO_248000 := n2_
            have HO_248002 := n3_
            have BK234 := n4_
            have BK235 := n5_
            have BK247 := n6_
            have HB := n7_
            clear n0_ n1_ n2_ n3_ n4_ n5_ n6_ n7_
            refine start_ (n := 5) (S := fun w' => w'.cell? ⟨gb247, 0, none⟩ = some (.slice Ao35 t240.length co35) ∧ w'.cell? ⟨gb247, 1, none⟩ = some (.int .i64 x248001_2) ∧ w'.cell? ⟨gb247, 2, none⟩ = some (.slice Ao38 t244.length co38)) (ds := []) #[false, false, false, false, false] (by kernel_rfl) rfl rfl ⟨(blk_cell BK247.out 0).trans rfl, (blk_cell BK247.out 1).trans rfl, (blk_cell BK247.out 2).trans rfl⟩ (fun hHeld => ?_)
            generalize w50.drew = w58 at HO_6 HO_235002 HO_248000 HO_248002 BK234 BK235 BK247 HB hHeld ⊢
            refine pure_ (i := 1) (N := some 63) (v := ?_) (a' := ?_) #[false, true, false, false, false] rfl rfl (by kernel_rfl) (fun _ _ _ h => h) (Or.inl ⟨by rfl, ?_⟩) ?_ ?_
            rotate_left
            ·intro w'
             go_simp
             with_reducible rfl
            rotate_left
            ·simp only [Act.put, List.setIfInBounds_toArray, List.set_cons_zero, List.set_cons_succ, i64_w, i32_w]
             rfl
            refine take_ (i := 0) (N := some 62) (v := ?_) (a' := ?_) #[true, true, false, false, false] rfl rfl (by kernel_rfl) (fun _ _ _ h => h) (Or.inl ⟨by rfl, ?_⟩) hHeld ?_ ?_
            rotate_left
            ·rintro w' ⟨s0, s1, s2⟩
             go_simp
             with_reducible rfl
            rotate_left
            ·simp only [Act.put, List.setIfInBounds_toArray, List.set_cons_zero, List.set_cons_succ, i64_w, i32_w]
             rfl
            refine one_ (i := 2) (N := some 64) #[true, true, true, false, false] rfl rfl (by kernel_rfl) (by decide) (fun K hK => ?_)
            refine goes_ Try.func74 (by kernel_rfl) rfl #[.slice A249_0 (rd_L1 l0_0 x248001_2).length c249_0] (by rfl) rfl rfl (by (try simp only [List.map_toArray, List.map_cons, List.map_nil]); first | done | rfl | (simp only [List.length_drop, List.length_take]; rfl)) ?_
            with_reducible refine (slices_Clone_sint64_int64.calls _ _ (rd_L1 l0_0 x248001_2) t252 _ ?side1 ?side2 A49.out).mono ?_
            (case side1 => repeat (first | exact (Kd.C_below HR251_0.out HB.out) | (with_reducible refine Kd.C_alloc ?_ _) | (with_reducible refine Kd.C_drewN ?_ _) | (with_reducible refine Kd.C_drew ?_)))
            (case side2 => exact HC251_0.out)
            rintro e w59 ⟨v253, rfl, ho0, hb⟩
            refine ⟨_, rfl, ?_⟩
            have n0_ := am (Kd.V_elder' (by (with_reducible repeat (first | apply Kd.V_alloc | apply Kd.V_drewN | apply Kd.V_drew)); exact HO_6.out) (Kd.R_base ho0) hb)
            have n1_ := am (Kd.V_elder' (by (with_reducible repeat (first | apply Kd.V_alloc | apply Kd.V_drewN | apply Kd.V_drew)); exact HO_235002.out) (Kd.R_base ho0) hb)
            have n2_ := am (Kd.S_elder' (by (with_reducible repeat (first | apply Kd.S_alloc | apply Kd.S_drewN | apply Kd.S_drew)); exact HO_248000.out) (Kd.R_base ho0) hb)
            have n3_ := am (Kd.R_elder' (by (with_reducible repeat (first | apply Kd.R_alloc | apply Kd.R_drewN | apply Kd.R_drew)); exact HO_248002.out) (Kd.R_base ho0) hb)
            have n4_ := am (Kd.R_lower (Kd.R_new' (Kd.R_newM (M := fun k_ => (w.heap.size ≤ k_)) ho0 (below_size (by repeat (first | (with_reducible first | exact HB.out | apply below_alloc | apply pw_below_drewN | apply below_drew1 | refine below_set ?_ GE234.out | refine below_set ?_ GE235.out | refine below_set ?_ GE247.out) | exact HB.out))) (fun k_ h_ => h_)) (Kd.R_lt (by (with_reducible repeat (first | apply Kd.R_alloc | apply Kd.R_drewN | apply Kd.R_drew)); exact HO_248002.out))) (below_size (by repeat (first | (with_reducible first | exact HB.out | apply below_alloc | apply pw_below_drewN | apply below_drew1 | refine below_set ?_ GE234.out | refine below_set ?_ GE235.out | refine below_set ?_ GE247.out) | exact HB.out))))
            have n5_ := am (blk_below (g := gb234) (o := .cells #[.slice (some ad249) l0_0.length c0_0, .int .i64 a0_1, .slice A0_2 l0_2.length c0_2] 60 (0, 0)) (pk BK234.out) hb)
            have n6_ := am (blk_below (g := gb235) (o := .cells #[.slice none 0 0, .int .i64 0, .slice none 0 0, .slice none 0 0, .int .i64 0] 62 (0, 0)) (pk BK235.out) hb)
            have n7_ := am (blk_below (g := gb247) (o := .cells #[.slice Ao35 t240.length co35, .int .i64 x248001_2, .slice Ao38 t244.length co38] 60 (0, 0)) (pk BK247.out) hb)
            have n8_ := am (below_step (by repeat (first | (with_reducible first | exact HB.out | apply below_alloc | apply pw_below_drewN | apply below_drew1 | refine below_set ?_ GE234.out | refine below_set ?_ GE235.out | refine below_set ?_ GE247.out) | exact HB.out)) hb)
            clear HO_6
            clear HO_235002
            clear HO_248000
            clear HO_248002
            clear BK234
            clear BK235
            clear BK247
            clear HB
            have HO_6 := n0_
            have HO_235002 := n1_
            have HO_248000 := n2_
            have HO_248002 := n3_
            have HO254 := n4_
            have BK234 := n5_
            have BK235 := n6_
            have BK247 := n7_
            have HB := n8_
            clear n0_ n1_ n2_ n3_ n4_ n5_ n6_ n7_ n8_
            (try clear hb)
            (try clear hb2)
            (try clear hk)
            (try clear hi)
            (try clear ho0)
            obtain ⟨Ao60, co60, eo60⟩ := Kd.R_slice HO254.out
            (first | subst eo60 | (injection eo60 with f1_ f2_ f3_; have f4_ := f1_.symm; have f5_ := f3_.symm; clear f1_ f2_ f3_; subst f4_; subst f5_))
            refine hK.out _ _ ⟨(blk_cell BK247.out 0).trans rfl, (blk_cell BK247.out 1).trans rfl, (blk_cell BK247.out 2).trans rfl⟩ (fun hHeld => ?_)
            clear hK K
            refine norm_ (a' := ?_) ?_ ?_
            rotate_left
            ·show Act.put _ (some 64) _ = _
             simp only [Act.put, List.setIfInBounds_toArray, List.set_cons_zero, List.set_cons_succ, i64_w, i32_w]
             rfl
            refine pure_ (i := 3) (N := some 65) (v := ?_) (a' := ?_) #[true, true, true, true, false] rfl rfl (by kernel_rfl) (fun _ _ _ h => h) (Or.inl ⟨by rfl, ?_⟩) ?_ ?_
            rotate_left
            ·intro w'
             go_simp
             with_reducible rfl
            rotate_left
            ·simp only [Act.put, List.setIfInBounds_toArray, List.set_cons_zero, List.set_cons_succ, i64_w, i32_w]
             rfl
            refine one_ (i := 4) (N := none) #[true, true, true, true, true] rfl rfl (by kernel_rfl) (by decide) (fun K hK => ?_)
            have hs61 : w59.cell? ⟨gb235, 0, none⟩ = some (.slice none 0 0) := (blk_cell BK235.out 0).trans rfl
            have hfs61 := blk_frozen BK235.out 0
            have hns61_0 := NB234_235.out
            have hns61_2 := NB247_235.out
            have hms61_0 := NB235_234.out
            have hms61_2 := NB235_247.out
            have hs62 : w59.cell? ⟨gb235, 1, none⟩ = some (.int .i64 0) := (blk_cell BK235.out 1).trans rfl
            have hfs62 := blk_frozen BK235.out 1
            have hns62_0 := NB234_235.out
            have hns62_2 := NB247_235.out
            have hms62_0 := NB235_234.out
            have hms62_2 := NB235_247.out
            have hs63 : w59.cell? ⟨gb235, 2, none⟩ = some (.slice none 0 0) := (blk_cell BK235.out 2).trans rfl
            have hfs63 := blk_frozen BK235.out 2
            have hns63_0 := NB234_235.out
            have hns63_2 := NB247_235.out
            have hms63_0 := NB235_234.out
            have hms63_2 := NB235_247.out
            have hs64 : w59.cell? ⟨gb235, 3, none⟩ = some (.slice none 0 0) := (blk_cell BK235.out 3).trans rfl
            have hfs64 := blk_frozen BK235.out 3
            have hns64_0 := NB234_235.out
            have hns64_2 := NB247_235.out
            have hms64_0 := NB235_234.out
            have hms64_2 := NB235_247.out
            have hs65 : w59.cell? ⟨gb235, 4, none⟩ = some (.int .i64 0) := (blk_cell BK235.out 4).trans rfl
            have hfs65 := blk_frozen BK235.out 4
            have hns65_0 := NB234_235.out
            have hns65_2 := NB247_235.out
            have hms65_0 := NB235_234.out
            have hms65_2 := NB235_247.out
            refine skip_ (w1 := ?_) (by rfl) rfl ?_ ?_
            rotate_left
            ·go_simp
             rfl
            refine hK.out _ _ ⟨((cell_far (p := ⟨gb235, _, none⟩) NB247_235.out _).trans (((cell_far (p := ⟨gb235, _, none⟩) NB247_235.out _).trans (((cell_far (p := ⟨gb235, _, none⟩) NB247_235.out _).trans (((cell_far (p := ⟨gb235, _, none⟩) NB247_235.out _).trans (((cell_far (p := ⟨gb235, _, none⟩) NB247_235.out _).trans (hHeld.1)))))))))), ((cell_far (p := ⟨gb235, _, none⟩) NB247_235.out _).trans (((cell_far (p := ⟨gb235, _, none⟩) NB247_235.out _).trans (((cell_far (p := ⟨gb235, _, none⟩) NB247_235.out _).trans (((cell_far (p := ⟨gb235, _, none⟩) NB247_235.out _).trans (((cell_far (p := ⟨gb235, _, none⟩) NB247_235.out _).trans (hHeld.2.1)))))))))), ((cell_far (p := ⟨gb235, _, none⟩) NB247_235.out _).trans (((cell_far (p := ⟨gb235, _, none⟩) NB247_235.out _).trans (((cell_far (p := ⟨gb235, _, none⟩) NB247_235.out _).trans (((cell_far (p := ⟨gb235, _, none⟩) NB247_235.out _).trans (((cell_far (p := ⟨gb235, _, none⟩) NB247_235.out _).trans (hHeld.2.2))))))))))⟩ (fun hHeld => ?_)
            clear hK K
            refine done_ (by kernel_rfl) ?_
            try go_wp2
            refine bodyPost_ret (results_cell_row rfl _ _ gb235 62 #[.slice Ao35 t240.length co35, .int .i64 x248001_2, .slice Ao38 t244.length co38, .slice Ao60 t252.length co60, .int .i64 0] (0, 0) _ rfl (by (with_reducible repeat (first | refine blk_drewN ?_ _ | refine blk_drew ?_ | refine blk_alloc ?_ _)); refine blk_put (cs := #[.slice Ao35 t240.length co35, .int .i64 x248001_2, .slice Ao38 t244.length co38, .slice Ao60 t252.length co60, .int .i64 0]) ?_ 4 _ rfl; (with_reducible repeat (first | refine blk_drewN ?_ _ | refine blk_drew ?_ | refine blk_alloc ?_ _)); refine blk_put (cs := #[.slice Ao35 t240.length co35, .int .i64 x248001_2, .slice Ao38 t244.length co38, .slice none 0 0, .int .i64 0]) ?_ 3 _ rfl; (with_reducible repeat (first | refine blk_drewN ?_ _ | refine blk_drew ?_ | refine blk_alloc ?_ _)); refine blk_put (cs := #[.slice Ao35 t240.length co35, .int .i64 x248001_2, .slice none 0 0, .slice none 0 0, .int .i64 0]) ?_ 2 _ rfl; (with_reducible repeat (first | refine blk_drewN ?_ _ | refine blk_drew ?_ | refine blk_alloc ?_ _)); refine blk_put (cs := #[.slice Ao35 t240.length co35, .int .i64 0, .slice none 0 0, .slice none 0 0, .int .i64 0]) ?_ 1 _ rfl; (with_reducible repeat (first | refine blk_drewN ?_ _ | refine blk_drew ?_ | refine blk_alloc ?_ _)); refine blk_put (cs := #[.slice none 0 0, .int .i64 0, .slice none 0 0, .slice none 0 0, .int .i64 0]) ?_ 0 _ rfl; (with_reducible repeat (first | refine blk_drewN ?_ _ | refine blk_drew ?_ | refine blk_alloc ?_ _)); exact BK235.out) Try.underlying62 rfl (by kernel_rfl)) rfl ?_
            exact ⟨_, _, _, by first | rfl | (simp [errW_none, errW_some] <;> rfl) | (simp [*, errW_none, errW_some] <;> rfl), by (with_reducible repeat (first | apply Kd.S_alloc | apply Kd.S_drewN | apply Kd.S_drew)); exact Kd.S_mono (Kd.S_far (p := ⟨gb235, 4, none⟩) (Kd.S_far (p := ⟨gb235, 3, none⟩) (Kd.S_far (p := ⟨gb235, 2, none⟩) (Kd.S_far (p := ⟨gb235, 1, none⟩) (Kd.S_far (p := ⟨gb235, 0, none⟩) (Kd.S_types HO_248000.out BK235.out (by decide)) (fun _ hk => hk.2) (.slice Ao35 t240.length co35)) (fun _ hk => hk.2) (.int .i64 x248001_2)) (fun _ hk => hk.2) (.slice Ao38 t244.length co38)) (fun _ hk => hk.2) (.slice Ao60 t252.length co60)) (fun _ hk => hk.2) (.int .i64 0)) (fun _ hk => ⟨hk.1.1.1, ⟨hk.1.1.2, hk.1.2⟩⟩), by (with_reducible repeat (first | apply Kd.R_alloc | apply Kd.R_drewN | apply Kd.R_drew)); exact Kd.R_mono (Kd.R_far (p := ⟨gb235, 4, none⟩) (Kd.R_far (p := ⟨gb235, 3, none⟩) (Kd.R_far (p := ⟨gb235, 2, none⟩) (Kd.R_far (p := ⟨gb235, 1, none⟩) (Kd.R_far (p := ⟨gb235, 0, none⟩) (Kd.R_types HO_248002.out BK235.out (by decide)) (fun _ hk => hk.2) (.slice Ao35 t240.length co35)) (fun _ hk => hk.2) (.int .i64 x248001_2)) (fun _ hk => hk.2) (.slice Ao38 t244.length co38)) (fun _ hk => hk.2) (.slice Ao60 t252.length co60)) (fun _ hk => hk.2) (.int .i64 0)) (fun _ hk => ⟨hk.1.1, hk.1.2⟩), by (with_reducible repeat (first | apply Kd.R_alloc | apply Kd.R_drewN | apply Kd.R_drew)); exact Kd.R_mono (Kd.R_far (p := ⟨gb235, 4, none⟩) (Kd.R_far (p := ⟨gb235, 3, none⟩) (Kd.R_far (p := ⟨gb235, 2, none⟩) (Kd.R_far (p := ⟨gb235, 1, none⟩) (Kd.R_far (p := ⟨gb235, 0, none⟩) (Kd.R_types HO254.out BK235.out (by decide)) (fun _ hk => hk.2) (.slice Ao35 t240.length co35)) (fun _ hk => hk.2) (.int .i64 x248001_2)) (fun _ hk => hk.2) (.slice Ao38 t244.length co38)) (fun _ hk => hk.2) (.slice Ao60 t252.length co60)) (fun _ hk => hk.2) (.int .i64 0)) (fun _ hk => ⟨hk.1.1.1, hk.1.2⟩), by repeat (first | (with_reducible first | exact HB.out | apply below_alloc | apply pw_below_drewN | apply below_drew1 | refine below_set ?_ GE234.out | refine below_set ?_ GE235.out | refine below_set ?_ GE247.out) | exact HB.out)⟩
           ·replace c48 := Bool.eq_false_iff.mpr c48
            subst c48
            have H1 : (impl_HistDown.l0 k2 l1 x6_2 l0_0 a0_1 l0_2 t240 (wrap64 (x248001_2 + 1)) t244) = some (r1, r2, r3, r4, r5) := by rw [if_neg (show ¬ (false = true) by decide)] at H; exact H
            clear H
            have H := H1
            clear H1
            have H' := Aside0.mk H
            clear H
            try go_wp2
            have n0_ := am (Kd.V_drew HO_6.out)
            have n1_ := am (Kd.V_drew HO_235002.out)
            have n2_ := am (Kd.S_drew HO_248000.out)
            have n3_ := am (Kd.R_drew HO_248002.out)
            have n4_ := am (blk_drew BK234.out)
            have n5_ := am (blk_drew BK235.out)
            have n6_ := am (blk_drew BK247.out)
            have n7_ := am (below_drew1 HB.out)
            clear HO_6
            clear HO_235002
            clear HO_248000
            clear HO_248002
            clear BK234
            clear BK235
            clear BK247
            clear HB
            have HO_6 := n0_
            have HO_235002 := n1_
            have HO_248000 := n2_
            have HO_248002 := n3_
            have BK234 := n4_
            have BK235 := n5_
            have BK247 := n6_
            have HB := n7_
            clear n0_ n1_ n2_ n3_ n4_ n5_ n6_ n7_
            refine start_ (n := 6) (S := fun w' => w'.cell? ⟨gb247, 0, none⟩ = some (.slice Ao35 t240.length co35) ∧ w'.cell? ⟨gb247, 1, none⟩ = some (.int .i64 x248001_2) ∧ w'.cell? ⟨gb247, 2, none⟩ = some (.slice Ao38 t244.length co38) ∧ w'.cell? ⟨gb234, 0, none⟩ = some (.slice A0_0 l0_0.length c0_0) ∧ w'.cell? ⟨gb234, 1, none⟩ = some (.int .i64 a0_1) ∧ w'.cell? ⟨gb234, 2, none⟩ = some (.slice A0_2 l0_2.length c0_2)) (ds := []) #[false, false, false, false, false, false] (by kernel_rfl) rfl rfl ⟨(blk_cell BK247.out 0).trans rfl, (blk_cell BK247.out 1).trans rfl, (blk_cell BK247.out 2).trans rfl, (blk_cell BK234.out 0).trans rfl, (blk_cell BK234.out 1).trans rfl, (blk_cell BK234.out 2).trans rfl⟩ (fun hHeld => ?_)
            generalize wr.drew = w66 at HO_6 HO_235002 HO_248000 HO_248002 BK234 BK235 BK247 HB hHeld ⊢
            refine pure_ (i := 0) (N := some 38) (v := ?_) (a' := ?_) #[true, false, false, false, false, false] rfl rfl (by kernel_rfl) (fun _ _ _ h => h) (Or.inl ⟨by rfl, ?_⟩) ?_ ?_
            rotate_left
            ·intro w'
             go_simp
             with_reducible rfl
            rotate_left
            ·simp only [Act.put, List.setIfInBounds_toArray, List.set_cons_zero, List.set_cons_succ, i64_w, i32_w]
             rfl
            refine pure_ (i := 2) (N := some 40) (v := ?_) (a' := ?_) #[true, false, true, false, false, false] rfl rfl (by kernel_rfl) (fun _ _ _ h => h) (Or.inl ⟨by rfl, ?_⟩) ?_ ?_
            rotate_left
            ·intro w'
             go_simp
             with_reducible rfl
            rotate_left
            ·simp only [Act.put, List.setIfInBounds_toArray, List.set_cons_zero, List.set_cons_succ, i64_w, i32_w]
             rfl
            refine take_ (i := 1) (N := some 39) (v := ?_) (a' := ?_) #[true, true, true, false, false, false] rfl rfl (by kernel_rfl) (fun _ _ _ h => h) (Or.inl ⟨by rfl, ?_⟩) hHeld ?_ ?_
            rotate_left
            ·rintro w' ⟨s0, s1, s2, s3, s4, s5⟩
             go_simp
             with_reducible rfl
            rotate_left
            ·simp only [Act.put, List.setIfInBounds_toArray, List.set_cons_zero, List.set_cons_succ, i64_w, i32_w]
             rfl
            refine take_ (i := 3) (N := some 41) (v := ?_) (a' := ?_) #[true, true, true, true, false, false] rfl rfl (by kernel_rfl) (fun _ _ _ h => h) (Or.inl ⟨by rfl, ?_⟩) hHeld ?_ ?_
            rotate_left
            ·rintro w' ⟨s0, s1, s2, s3, s4, s5⟩
             go_simp
             with_reducible rfl
            rotate_left
            ·simp only [Act.put, List.setIfInBounds_toArray, List.set_cons_zero, List.set_cons_succ, i64_w, i32_w]
             rfl
            refine one_ (i := 4) (N := some 42) #[true, true, true, true, true, false] rfl rfl (by kernel_rfl) (by decide) (fun K hK => ?_)
            refine goes_ Try.func71 (by kernel_rfl) rfl #[.slice A0_0 l0_0.length c0_0] (by rfl) rfl rfl (by (try simp only [List.map_toArray, List.map_cons, List.map_nil]); first | done | rfl | (simp only [List.length_drop, List.length_take]; rfl)) ?_
            with_reducible refine (impl_size_sint64.calls _ _ l0_0 t248 _ A43.out).mono ?_
            rintro e w' ⟨rfl, ⟨nd, rfl⟩⟩
            refine ⟨_, rfl, ?_⟩
            refine hK.out _ _ ⟨(blk_cell BK247.out 0).trans rfl, (blk_cell BK247.out 1).trans rfl, (blk_cell BK247.out 2).trans rfl, (blk_cell BK234.out 0).trans rfl, (blk_cell BK234.out 1).trans rfl, (blk_cell BK234.out 2).trans rfl⟩ (fun hHeld => ?_)
            clear hK K
            refine norm_ (a' := ?_) ?_ ?_
            rotate_left
            ·show Act.put _ (some 42) _ = _
             simp only [Act.put, List.setIfInBounds_toArray, List.set_cons_zero, List.set_cons_succ, i64_w, i32_w]
             rfl
            refine pure_ (i := 5) (N := some 43) (v := ?_) (a' := ?_) #[true, true, true, true, true, true] rfl rfl (by kernel_rfl) (fun _ _ _ h => h) (Or.inl ⟨by rfl, ?_⟩) ?_ ?_
            rotate_left
            ·intro w'
             go_simp
             with_reducible rfl
            rotate_left
            ·simp only [Act.put, List.setIfInBounds_toArray, List.set_cons_zero, List.set_cons_succ, i64_w, i32_w]
             rfl
            refine done_ (by kernel_rfl) ?_
            (try (rw [drewN_self w66]; generalize hq_ : World.drewN w66 _ = w66; have n0_ := am (vAt2 hq_ HO_6.out); have n1_ := am (vAt2 hq_ HO_235002.out); have n2_ := am (Kd.S_at hq_ HO_248000.out); have n3_ := am (Kd.R_at hq_ HO_248002.out); have n4_ := am (blk_at hq_ BK234.out); have n5_ := am (blk_at hq_ BK235.out); have n6_ := am (blk_at hq_ BK247.out); have n7_ := am (below_at hq_ HB.out); clear hq_ HO_6 HO_235002 HO_248000 HO_248002 BK234 BK235 BK247 HB; have HO_6 := n0_; have HO_235002 := n1_; have HO_248000 := n2_; have HO_248002 := n3_; have BK234 := n4_; have BK235 := n5_; have BK247 := n6_; have HB := n7_; clear n0_ n1_ n2_ n3_ n4_ n5_ n6_ n7_))
            have hnb67 := NB234_235.out
            have hnc67 := NB235_234.out
            have hnb68 := NB234_247.out
            have hnc68 := NB247_234.out
            have hcz69_0 : w66.cell? ⟨gb234, 0, none⟩ = some (.slice A0_0 l0_0.length c0_0) := (blk_cell BK234.out 0).trans rfl
            have hcz69_1 : w66.cell? ⟨gb234, 1, none⟩ = some (.int .i64 a0_1) := (blk_cell BK234.out 1).trans rfl
            have hcz69_2 : w66.cell? ⟨gb234, 2, none⟩ = some (.slice A0_2 l0_2.length c0_2) := (blk_cell BK234.out 2).trans rfl
            have hfz69_0 := blk_frozen BK234.out 0
            have hfz69_1 := blk_frozen BK234.out 1
            have hfz69_2 := blk_frozen BK234.out 2
            have hnb70 := NB247_235.out
            have hnc70 := NB235_247.out
            have hcz71_0 : w66.cell? ⟨gb247, 0, none⟩ = some (.slice Ao35 t240.length co35) := (blk_cell BK247.out 0).trans rfl
            have hcz71_1 : w66.cell? ⟨gb247, 1, none⟩ = some (.int .i64 x248001_2) := (blk_cell BK247.out 1).trans rfl
            have hcz71_2 : w66.cell? ⟨gb247, 2, none⟩ = some (.slice Ao38 t244.length co38) := (blk_cell BK247.out 2).trans rfl
            have hfz71_0 := blk_frozen BK247.out 0
            have hfz71_1 := blk_frozen BK247.out 1
            have hfz71_2 := blk_frozen BK247.out 2
            have p249 : 0 ≤ (x248001_2 : Int) := of_decide_eq_true (by first | (with_reducible assumption) | assumption)
            have q249 : x248001_2 < (l0_0.length : Int) := of_decide_eq_true (by first | (with_reducible assumption) | assumption)
            obtain ⟨ad249, A249_0, c249_0, e249, hx249_0, hl249_0, hi249_0⟩ := at_L1 HR0_0.out x248001_2 p249 q249
            cases e249
            have hxw249_0 := hx249_0
            replace hx249_0 := (HB.out.cell (World.block_lt_of_cell? w _ hx249_0)).trans hx249_0
            have HR249_0 := am hi249_0
            have HC249_0 := am hl249_0
            clear hi249_0 hl249_0
            replace p249 := eq_true p249
            replace q249 := eq_true q249
            try go_wp2_with (first | ((with_reducible refine gate_callee (f := 73) rfl ?_); refine gl (some 55) Try.func73 #[.slice A249_0 (rd_L1 l0_0 x248001_2).length c249_0, .slice A1 l1.length c1] ?_; (with_reducible refine (impl_begins.calls k2 _ _ (rd_L1 l0_0 x248001_2) _ _ l1 false _ ?side1 ?side2 ?side3 ?side4 A47.out).mono ?_); (case side1 => repeat (first | exact (Kd.C_below HR249_0.out (by repeat (first | (with_reducible first | exact HB.out | apply below_alloc | apply pw_below_drewN | apply below_drew1 | refine below_set ?_ GE234.out | refine below_set ?_ GE235.out | refine below_set ?_ GE247.out) | exact HB.out))) | (with_reducible refine Kd.C_alloc ?_ _) | (with_reducible refine Kd.C_drewN ?_ _) | (with_reducible refine Kd.C_drew ?_))); (case side2 => exact HC249_0.out); (case side3 => repeat (first | exact (Kd.C_below HR1.out (by repeat (first | (with_reducible first | exact HB.out | apply below_alloc | apply pw_below_drewN | apply below_drew1 | refine below_set ?_ GE234.out | refine below_set ?_ GE235.out | refine below_set ?_ GE247.out) | exact HB.out))) | (with_reducible refine Kd.C_alloc ?_ _) | (with_reducible refine Kd.C_drewN ?_ _) | (with_reducible refine Kd.C_drew ?_))); (case side4 => exact HC1.out); rintro e w' ⟨rfl, ⟨nd, rfl⟩⟩; refine ⟨_, rfl, ?_⟩; (try (rw [drewN_self w66]; generalize hq_ : World.drewN w66 _ = w66; have n0_ : Aside0 (Kd.V (Kd.int .i64) 2 w66 w.heap.size (fun k_ => (P0_2_ k_ ∨ w.heap.size ≤ k_) ∧ some k_ ≠ (.slice Ao35 t240.length co35 : Value).ownBlock ∧ some k_ ≠ (.slice Ao38 t244.length co38 : Value).ownBlock ∧ k_ ≠ gb234 ∧ k_ ≠ gb235 ∧ k_ ≠ gb247) (.slice A0_2 l0_2.length c0_2) l0_2) := ⟨by rw [← hq_]; exact (by (with_reducible repeat (first | apply Kd.V_alloc | apply Kd.V_drewN | apply Kd.V_drew)); exact HO_235002.out)⟩; have n1_ : Aside0 (Kd.S (Kd.slice 2 (Kd.int .i64)) 22 w66 w.heap.size (fun k_ => (w.heap.size ≤ k_) ∧ some k_ ≠ (.slice Ao38 t244.length co38 : Value).ownBlock) (.slice Ao35 t240.length co35) t240) := ⟨by rw [← hq_]; exact (by (with_reducible repeat (first | apply Kd.S_alloc | apply Kd.S_drewN | apply Kd.S_drew)); exact HO_248000.out)⟩; have n2_ : Aside0 (Kd.R (Kd.int .i64) 2 w66 w.heap.size (fun k_ => (w.heap.size ≤ k_)) (.slice Ao38 t244.length co38) t244) := ⟨by rw [← hq_]; exact (by (with_reducible repeat (first | apply Kd.R_alloc | apply Kd.R_drewN | apply Kd.R_drew)); exact HO_248002.out)⟩; have n3_ : Aside0 (Kd.V (Kd.int .i64) 2 w66 w.heap.size (fun k_ => (P0_2_ k_ ∨ w.heap.size ≤ k_) ∧ some k_ ≠ (.slice Ao35 t240.length co35 : Value).ownBlock ∧ some k_ ≠ (.slice Ao38 t244.length co38 : Value).ownBlock ∧ k_ ≠ gb234 ∧ k_ ≠ gb235 ∧ k_ ≠ gb247) u6 x6_2) := ⟨by rw [← hq_]; exact (by (with_reducible repeat (first | apply Kd.V_alloc | apply Kd.V_drewN | apply Kd.V_drew)); exact HO_6.out)⟩; have n4_ : Aside0 (w66.heap[gb234]? = some (.cells #[.slice (some ad249) l0_0.length c0_0, .int .i64 a0_1, .slice A0_2 l0_2.length c0_2] 60 (0, 0))) := ⟨by rw [← hq_]; exact (pk BK234.out)⟩; have n5_ : Aside0 (w66.heap[gb235]? = some (.cells #[.slice none 0 0, .int .i64 0, .slice none 0 0, .slice none 0 0, .int .i64 0] 62 (0, 0))) := ⟨by rw [← hq_]; exact (pk BK235.out)⟩; have n6_ : Aside0 (w66.heap[gb247]? = some (.cells #[.slice Ao35 t240.length co35, .int .i64 x248001_2, .slice Ao38 t244.length co38] 60 (0, 0))) := ⟨by rw [← hq_]; exact (pk BK247.out)⟩; have n7_ : Aside0 (Below w.heap.size w w66) := ⟨by rw [← hq_]; exact (by repeat (first | (with_reducible first | exact HB.out | apply below_alloc | apply pw_below_drewN | apply below_drew1 | refine below_set ?_ GE234.out | refine below_set ?_ GE235.out | refine below_set ?_ GE247.out) | exact HB.out))⟩; clear HO_235002 HO_248000 HO_248002 HO_6 BK234 BK235 BK247 HB hq_; have HO_235002 := n0_; have HO_248000 := n1_; have HO_248002 := n2_; have HO_6 := n3_; have BK234 := n4_; have BK235 := n5_; have BK247 := n6_; have HB := n7_; clear n0_ n1_ n2_ n3_ n4_ n5_ n6_ n7_)); have hcz72_0 : w66.cell? ⟨gb247, 0, none⟩ = some (.slice Ao35 t240.length co35) := (blk_cell BK247.out 0).trans rfl; have hcz72_1 : w66.cell? ⟨gb247, 1, none⟩ = some (.int .i64 x248001_2) := (blk_cell BK247.out 1).trans rfl; have hcz72_2 : w66.cell? ⟨gb247, 2, none⟩ = some (.slice Ao38 t244.length co38) := (blk_cell BK247.out 2).trans rfl; have hfz72_0 := blk_frozen BK247.out 0; have hfz72_1 := blk_frozen BK247.out 1; have hfz72_2 := blk_frozen BK247.out 2))
            go_roundg k2
            case measure => have := HJ8.out; have := HK2.out; omega
            case rel => exact ⟨(x6_2), (wrap64 (x248001_2 + 1)), H', ⟨by have := HJ8.out; have := HK2.out; omega⟩, ⟨by (with_reducible repeat (first | apply Kd.V_alloc | apply Kd.V_drewN | apply Kd.V_drew)); exact Kd.V_mono (Kd.V_far (p := ⟨gb247, 1, none⟩) (Kd.V_mono HO_6.out (fun k_ hk => (⟨hk, hk.2.2.2.2.2⟩ : _ ∧ k_ ≠ gb247))) (fun _ hk => hk.2) (.int .i64 (wrap64 (x248001_2 + 1)))) (fun _ hk => ⟨hk.1.1, ⟨hk.1.2.1, ⟨hk.1.2.2.1, ⟨hk.1.2.2.2.1, ⟨hk.1.2.2.2.2.1, hk.1.2.2.2.2.2⟩⟩⟩⟩⟩)⟩, ⟨by (with_reducible repeat (first | apply Kd.V_alloc | apply Kd.V_drewN | apply Kd.V_drew)); exact Kd.V_mono (Kd.V_far (p := ⟨gb247, 1, none⟩) (Kd.V_mono HO_235002.out (fun k_ hk => (⟨hk, hk.2.2.2.2.2⟩ : _ ∧ k_ ≠ gb247))) (fun _ hk => hk.2) (.int .i64 (wrap64 (x248001_2 + 1)))) (fun _ hk => ⟨hk.1.1, ⟨hk.1.2.1, ⟨hk.1.2.2.1, ⟨hk.1.2.2.2.1, ⟨hk.1.2.2.2.2.1, hk.1.2.2.2.2.2⟩⟩⟩⟩⟩)⟩, ⟨by (with_reducible repeat (first | apply Kd.S_alloc | apply Kd.S_drewN | apply Kd.S_drew)); exact Kd.S_mono (Kd.S_far (p := ⟨gb247, 1, none⟩) (Kd.S_types HO_248000.out BK247.out (by decide)) (fun _ hk => hk.2) (.int .i64 (wrap64 (x248001_2 + 1)))) (fun _ hk => ⟨hk.1.1, hk.1.2⟩)⟩, ⟨by (with_reducible repeat (first | apply Kd.R_alloc | apply Kd.R_drewN | apply Kd.R_drew)); exact Kd.R_mono (Kd.R_far (p := ⟨gb247, 1, none⟩) (Kd.R_types HO_248002.out BK247.out (by decide)) (fun _ hk => hk.2) (.int .i64 (wrap64 (x248001_2 + 1)))) (fun _ hk => hk.1)⟩, ⟨by (with_reducible repeat (first | refine blk_drewN ?_ _ | refine blk_drew ?_ | refine blk_alloc ?_ _)); refine blk_far ?_ NB234_247.out _; (with_reducible repeat (first | refine blk_drewN ?_ _ | refine blk_drew ?_ | refine blk_alloc ?_ _)); exact BK234.out⟩, ⟨by (with_reducible repeat (first | refine blk_drewN ?_ _ | refine blk_drew ?_ | refine blk_alloc ?_ _)); refine blk_far ?_ NB235_247.out _; (with_reducible repeat (first | refine blk_drewN ?_ _ | refine blk_drew ?_ | refine blk_alloc ?_ _)); exact BK235.out⟩, ⟨by (with_reducible repeat (first | refine blk_drewN ?_ _ | refine blk_drew ?_ | refine blk_alloc ?_ _)); refine blk_put (cs := #[.slice Ao35 t240.length co35, .int .i64 x248001_2, .slice Ao38 t244.length co38]) ?_ 1 _ rfl; (with_reducible repeat (first | refine blk_drewN ?_ _ | refine blk_drew ?_ | refine blk_alloc ?_ _)); exact BK247.out⟩, ⟨by repeat (first | (with_reducible first | exact HB.out | apply below_alloc | apply pw_below_drewN | apply below_drew1 | refine below_set ?_ GE234.out | refine below_set ?_ GE235.out | refine below_set ?_ GE247.out) | exact HB.out)⟩⟩
          ·rw [if_neg c46] at H
           exact absurd H (by simp)
         ·rw [if_neg c45] at H
          exact absurd H (by simp)
        ·rw [if_neg c44] at H
         have c44b0 : decide (x248001_2 < t248) = false := decide_eq_false c44
         clear c44
         replace H := Option.bind_eq_some_iff.mp H
         obtain ⟨t255, A730, H⟩ := H
         replace H : (some (t240, x248001_2, t244, t255, 0)) = some (r1, r2, r3, r4, r5) := H
         have A73 := Aside0.mk A730
         clear A730
         simp only [Option.some.injEq, Prod.mk.injEq] at H
         obtain ⟨rfl, rfl, rfl, rfl, rfl⟩ := H
         try go_wp2
         have n0_ := am (Kd.V_drew HO_6.out)
         have n1_ := am (Kd.V_drew HO_235002.out)
         have n2_ := am (Kd.S_drew HO_248000.out)
         have n3_ := am (Kd.R_drew HO_248002.out)
         have n4_ := am (blk_drew BK234.out)
         have n5_ := am (blk_drew BK235.out)
         have n6_ := am (blk_drew BK247.out)
         have n7_ := am (below_drew1 HB.out)
         clear HO_6
         clear HO_235002
         clear HO_248000
         clear HO_248002
         clear BK234
         clear BK235
         clear BK247
         clear HB
         have HO_6 := n0_
         have HO_235002 := n1_
         have HO_248000 := n2_
         have HO_248002 := n3_
         have BK234 := n4_
         have BK235 := n5_
         have BK247 := n6_
         have HB := n7_
         clear n0_ n1_ n2_ n3_ n4_ n5_ n6_ n7_
         refine start_ (n := 6) (S := fun w' => w'.cell? ⟨gb247, 0, none⟩ = some (.slice Ao35 t240.length co35) ∧ w'.cell? ⟨gb247, 1, none⟩ = some (.int .i64 x248001_2) ∧ w'.cell? ⟨gb247, 2, none⟩ = some (.slice Ao38 t244.length co38) ∧ w'.cell? ⟨gb234, 0, none⟩ = some (.slice A0_0 l0_0.length c0_0) ∧ w'.cell? ⟨gb234, 1, none⟩ = some (.int .i64 a0_1) ∧ w'.cell? ⟨gb234, 2, none⟩ = some (.slice A0_2 l0_2.length c0_2)) (ds := []) #[false, false, false, false, false, false] (by kernel_rfl) rfl rfl ⟨(blk_cell BK247.out 0).trans rfl, (blk_cell BK247.out 1).trans rfl, (blk_cell BK247.out 2).trans rfl, (blk_cell BK234.out 0).trans rfl, (blk_cell BK234.out 1).trans rfl, (blk_cell BK234.out 2).trans rfl⟩ (fun hHeld => ?_)
         generalize wr.drew = w74 at HO_6 HO_235002 HO_248000 HO_248002 BK234 BK235 BK247 HB hHeld ⊢
         refine pure_ (i := 0) (N := some 38) (v := ?_) (a' := ?_) #[true, false, false, false, false, false] rfl rfl (by kernel_rfl) (fun _ _ _ h => h) (Or.inl ⟨by rfl, ?_⟩) ?_ ?_
         rotate_left
         ·intro w'
          go_simp
          with_reducible rfl
         rotate_left
         ·simp only [Act.put, List.setIfInBounds_toArray, List.set_cons_zero, List.set_cons_succ, i64_w, i32_w]
          rfl
         refine pure_ (i := 2) (N := some 40) (v := ?_) (a' := ?_) #[true, false, true, false, false, false] rfl rfl (by kernel_rfl) (fun _ _ _ h => h) (Or.inl ⟨by rfl, ?_⟩) ?_ ?_
         rotate_left
         ·intro w'
          go_simp
          with_reducible rfl
         rotate_left
         ·simp only [Act.put, List.setIfInBounds_toArray, List.set_cons_zero, List.set_cons_succ, i64_w, i32_w]
          rfl
         refine take_ (i := 1) (N := some 39) (v := ?_) (a' := ?_) #[true, true, true, false, false, false] rfl rfl (by kernel_rfl) (fun _ _ _ h => h) (Or.inl ⟨by rfl, ?_⟩) hHeld ?_ ?_
         rotate_left
         ·rintro w' ⟨s0, s1, s2, s3, s4, s5⟩
          go_simp
          with_reducible rfl
         rotate_left
         ·simp only [Act.put, List.setIfInBounds_toArray, List.set_cons_zero, List.set_cons_succ, i64_w, i32_w]
          rfl
         refine take_ (i := 3) (N := some 41) (v := ?_) (a' := ?_) #[true, true, true, true, false, false] rfl rfl (by kernel_rfl) (fun _ _ _ h => h) (Or.inl ⟨by rfl, ?_⟩) hHeld ?_ ?_
         rotate_left
         ·rintro w' ⟨s0, s1, s2, s3, s4, s5⟩
          go_simp
          with_reducible rfl
         rotate_left
         ·simp only [Act.put, List.setIfInBounds_toArray, List.set_cons_zero, List.set_cons_succ, i64_w, i32_w]
          rfl
         refine one_ (i := 4) (N := some 42) #[true, true, true, true, true, false] rfl rfl (by kernel_rfl) (by decide) (fun K hK => ?_)
         refine goes_ Try.func71 (by kernel_rfl) rfl #[.slice A0_0 l0_0.length c0_0] (by rfl) rfl rfl (by (try simp only [List.map_toArray, List.map_cons, List.map_nil]); first | done | rfl | (simp only [List.length_drop, List.length_take]; rfl)) ?_
         with_reducible refine (impl_size_sint64.calls _ _ l0_0 t248 _ A43.out).mono ?_
         rintro e w' ⟨rfl, ⟨nd, rfl⟩⟩
         refine ⟨_, rfl, ?_⟩
         refine hK.out _ _ ⟨(blk_cell BK247.out 0).trans rfl, (blk_cell BK247.out 1).trans rfl, (blk_cell BK247.out 2).trans rfl, (blk_cell BK234.out 0).trans rfl, (blk_cell BK234.out 1).trans rfl, (blk_cell BK234.out 2).trans rfl⟩ (fun hHeld => ?_)
         clear hK K
         refine norm_ (a' := ?_) ?_ ?_
         rotate_left
         ·show Act.put _ (some 42) _ = _
          simp only [Act.put, List.setIfInBounds_toArray, List.set_cons_zero, List.set_cons_succ, i64_w, i32_w]
          rfl
         refine pure_ (i := 5) (N := some 43) (v := ?_) (a' := ?_) #[true, true, true, true, true, true] rfl rfl (by kernel_rfl) (fun _ _ _ h => h) (Or.inl ⟨by rfl, ?_⟩) ?_ ?_
         rotate_left
         ·intro w'
          go_simp
          with_reducible rfl
         rotate_left
         ·simp only [Act.put, List.setIfInBounds_toArray, List.set_cons_zero, List.set_cons_succ, i64_w, i32_w]
          rfl
         refine done_ (by kernel_rfl) ?_
         (try (rw [drewN_self w74]; generalize hq_ : World.drewN w74 _ = w74; have n0_ := am (vAt2 hq_ HO_6.out); have n1_ := am (vAt2 hq_ HO_235002.out); have n2_ := am (Kd.S_at hq_ HO_248000.out); have n3_ := am (Kd.R_at hq_ HO_248002.out); have n4_ := am (blk_at hq_ BK234.out); have n5_ := am (blk_at hq_ BK235.out); have n6_ := am (blk_at hq_ BK247.out); have n7_ := am (below_at hq_ HB.out); clear hq_ HO_6 HO_235002 HO_248000 HO_248002 BK234 BK235 BK247 HB; have HO_6 := n0_; have HO_235002 := n1_; have HO_248000 := n2_; have HO_248002 := n3_; have BK234 := n4_; have BK235 := n5_; have BK247 := n6_; have HB := n7_; clear n0_ n1_ n2_ n3_ n4_ n5_ n6_ n7_))
         try go_wp2
         (try (rw [drewN_self w74]; generalize hq_ : World.drewN w74 _ = w74; have n0_ : Aside0 (Kd.V (Kd.int .i64) 2 w74 w.heap.size (fun k_ => (P0_2_ k_ ∨ w.heap.size ≤ k_) ∧ some k_ ≠ (.slice Ao35 t240.length co35 : Value).ownBlock ∧ some k_ ≠ (.slice Ao38 t244.length co38 : Value).ownBlock ∧ k_ ≠ gb234 ∧ k_ ≠ gb235 ∧ k_ ≠ gb247) (.slice A0_2 l0_2.length c0_2) l0_2) := ⟨by rw [← hq_]; exact (by (with_reducible repeat (first | apply Kd.V_alloc | apply Kd.V_drewN | apply Kd.V_drew)); exact HO_235002.out)⟩; have n1_ : Aside0 (Kd.S (Kd.slice 2 (Kd.int .i64)) 22 w74 w.heap.size (fun k_ => (w.heap.size ≤ k_) ∧ some k_ ≠ (.slice Ao38 t244.length co38 : Value).ownBlock) (.slice Ao35 t240.length co35) t240) := ⟨by rw [← hq_]; exact (by (with_reducible repeat (first | apply Kd.S_alloc | apply Kd.S_drewN | apply Kd.S_drew)); exact HO_248000.out)⟩; have n2_ : Aside0 (Kd.R (Kd.int .i64) 2 w74 w.heap.size (fun k_ => (w.heap.size ≤ k_)) (.slice Ao38 t244.length co38) t244) := ⟨by rw [← hq_]; exact (by (with_reducible repeat (first | apply Kd.R_alloc | apply Kd.R_drewN | apply Kd.R_drew)); exact HO_248002.out)⟩; have n3_ : Aside0 (Kd.V (Kd.int .i64) 2 w74 w.heap.size (fun k_ => (P0_2_ k_ ∨ w.heap.size ≤ k_) ∧ some k_ ≠ (.slice Ao35 t240.length co35 : Value).ownBlock ∧ some k_ ≠ (.slice Ao38 t244.length co38 : Value).ownBlock ∧ k_ ≠ gb234 ∧ k_ ≠ gb235 ∧ k_ ≠ gb247) u6 x6_2) := ⟨by rw [← hq_]; exact (by (with_reducible repeat (first | apply Kd.V_alloc | apply Kd.V_drewN | apply Kd.V_drew)); exact HO_6.out)⟩; have n4_ : Aside0 (w74.heap[gb234]? = some (.cells #[.slice A0_0 l0_0.length c0_0, .int .i64 a0_1, .slice A0_2 l0_2.length c0_2] 60 (0, 0))) := ⟨by rw [← hq_]; exact (pk BK234.out)⟩; have n5_ : Aside0 (w74.heap[gb235]? = some (.cells #[.slice none 0 0, .int .i64 0, .slice none 0 0, .slice none 0 0, .int .i64 0] 62 (0, 0))) := ⟨by rw [← hq_]; exact (pk BK235.out)⟩; have n6_ : Aside0 (w74.heap[gb247]? = some (.cells #[.slice Ao35 t240.length co35, .int .i64 x248001_2, .slice Ao38 t244.length co38] 60 (0, 0))) := ⟨by rw [← hq_]; exact (pk BK247.out)⟩; have n7_ : Aside0 (Below w.heap.size w w74) := ⟨by rw [← hq_]; exact (by repeat (first | (with_reducible first | exact HB.out | apply below_alloc | apply pw_below_drewN | apply below_drew1 | refine below_set ?_ GE234.out | refine below_set ?_ GE235.out | refine below_set ?_ GE247.out) | exact HB.out))⟩; clear HO_235002 HO_248000 HO_248002 HO_6 BK234 BK235 BK247 HB hq_; have HO_235002 := n0_; have HO_248000 := n1_; have HO_248002 := n2_; have HO_6 := n3_; have BK234 := n4_; have BK235 := n5_; have BK247 := n6_; have HB := n7_; clear n0_ n1_ n2_ n3_ n4_ n5_ n6_ n7_))
         have n0_ := am (Kd.V_drew HO_6.out)
         have n1_ := am (Kd.V_drew HO_235002.out)
         have n2_ := am (Kd.S_drew HO_248000.out)
         have n3_ := am (Kd.R_drew HO_248002.out)
         have n4_ := am (blk_drew BK234.out)
         have n5_ := am (blk_drew BK235.out)
         have n6_ := am (blk_drew BK247.out)
         have n7_ := am (below_drew1 HB.out)
         clear HO_6
         clear HO_235002
         clear HO_248000
         clear HO_248002
         clear BK234
         clear BK235
         clear BK247
         clear HB
         have HO_6 := n0_
         have HO_235002 := n1_
         have HO_248000 := n2_
         have HO_248002 := n3_
         have BK234 := n4_
         have BK235 := n5_
         have BK247 := n6_
         have HB := n7_
         clear n0_ n1_ n2_ n3_ n4_ n5_ n6_ n7_
         obtain ⟨Ao76, co76, eo76⟩ := Kd.V_slice HO_6.out
         (first | subst eo76 | (injection eo76 with f1_ f2_ f3_; have f4_ := f1_.symm; have f5_ := f3_.symm; clear f1_ f2_ f3_; subst f4_; subst f5_))
         refine start_ (n := 5) (S := fun w' => w'.cell? ⟨gb247, 0, none⟩ = some (.slice Ao35 t240.length co35) ∧ w'.cell? ⟨gb247, 1, none⟩ = some (.int .i64 x248001_2) ∧ w'.cell? ⟨gb247, 2, none⟩ = some (.slice Ao38 t244.length co38)) (ds := []) #[false, false, false, false, false] (by kernel_rfl) rfl rfl ⟨(blk_cell BK247.out 0).trans rfl, (blk_cell BK247.out 1).trans rfl, (blk_cell BK247.out 2).trans rfl⟩ (fun hHeld => ?_)
         generalize w74.drew = w75 at HO_6 HO_235002 HO_248000 HO_248002 BK234 BK235 BK247 HB hHeld ⊢
         refine pure_ (i := 1) (N := some 63) (v := ?_) (a' := ?_) #[false, true, false, false, false] rfl rfl (by kernel_rfl) (fun _ _ _ h => h) (Or.inl ⟨by rfl, ?_⟩) ?_ ?_
         rotate_left
         ·intro w'
          go_simp
          with_reducible rfl
         rotate_left
         ·simp only [Act.put, List.setIfInBounds_toArray, List.set_cons_zero, List.set_cons_succ, i64_w, i32_w]
          rfl
         refine take_ (i := 0) (N := some 62) (v := ?_) (a' := ?_) #[true, true, false, false, false] rfl rfl (by kernel_rfl) (fun _ _ _ h => h) (Or.inl ⟨by rfl, ?_⟩) hHeld ?_ ?_
         rotate_left
         ·rintro w' ⟨s0, s1, s2⟩
          go_simp
          with_reducible rfl
         rotate_left
         ·simp only [Act.put, List.setIfInBounds_toArray, List.set_cons_zero, List.set_cons_succ, i64_w, i32_w]
          rfl
         refine one_ (i := 2) (N := some 64) #[true, true, true, false, false] rfl rfl (by kernel_rfl) (by decide) (fun K hK => ?_)
         refine goes_ Try.func74 (by kernel_rfl) rfl #[.slice Ao76 x6_2.length co76] (by rfl) rfl rfl (by (try simp only [List.map_toArray, List.map_cons, List.map_nil]); first | done | rfl | (simp only [List.length_drop, List.length_take]; rfl)) ?_
         with_reducible refine (slices_Clone_sint64_int64.calls _ _ x6_2 t255 _ ?side1 ?side2 A73.out).mono ?_
         (case side1 => repeat (first | exact (Kd.V_reads' HO_6.out).2.2 | (with_reducible refine Kd.C_alloc ?_ _) | (with_reducible refine Kd.C_drewN ?_ _) | (with_reducible refine Kd.C_drew ?_)))
         (case side2 => exact (Kd.V_reads' HO_6.out).2.1)
         rintro e w77 ⟨v256, rfl, ho0, hb⟩
         refine ⟨_, rfl, ?_⟩
         have n0_ := am (Kd.V_elder' (by (with_reducible repeat (first | apply Kd.V_alloc | apply Kd.V_drewN | apply Kd.V_drew)); exact HO_6.out) (Kd.R_base ho0) hb)
         have n1_ := am (Kd.V_elder' (by (with_reducible repeat (first | apply Kd.V_alloc | apply Kd.V_drewN | apply Kd.V_drew)); exact HO_235002.out) (Kd.R_base ho0) hb)
         have n2_ := am (Kd.S_elder' (by (with_reducible repeat (first | apply Kd.S_alloc | apply Kd.S_drewN | apply Kd.S_drew)); exact HO_248000.out) (Kd.R_base ho0) hb)
         have n3_ := am (Kd.R_elder' (by (with_reducible repeat (first | apply Kd.R_alloc | apply Kd.R_drewN | apply Kd.R_drew)); exact HO_248002.out) (Kd.R_base ho0) hb)
         have n4_ := am (Kd.R_lower (Kd.R_new' (Kd.R_newM (M := fun k_ => (w.heap.size ≤ k_)) ho0 (below_size (by repeat (first | (with_reducible first | exact HB.out | apply below_alloc | apply pw_below_drewN | apply below_drew1 | refine below_set ?_ GE234.out | refine below_set ?_ GE235.out | refine below_set ?_ GE247.out) | exact HB.out))) (fun k_ h_ => h_)) (Kd.R_lt (by (with_reducible repeat (first | apply Kd.R_alloc | apply Kd.R_drewN | apply Kd.R_drew)); exact HO_248002.out))) (below_size (by repeat (first | (with_reducible first | exact HB.out | apply below_alloc | apply pw_below_drewN | apply below_drew1 | refine below_set ?_ GE234.out | refine below_set ?_ GE235.out | refine below_set ?_ GE247.out) | exact HB.out))))
         have n5_ := am (blk_below (g := gb234) (o := .cells #[.slice A0_0 l0_0.length c0_0, .int .i64 a0_1, .slice A0_2 l0_2.length c0_2] 60 (0, 0)) (pk BK234.out) hb)
         have n6_ := am (blk_below (g := gb235) (o := .cells #[.slice none 0 0, .int .i64 0, .slice none 0 0, .slice none 0 0, .int .i64 0] 62 (0, 0)) (pk BK235.out) hb)
         have n7_ := am (blk_below (g := gb247) (o := .cells #[.slice Ao35 t240.length co35, .int .i64 x248001_2, .slice Ao38 t244.length co38] 60 (0, 0)) (pk BK247.out) hb)
         have n8_ := am (below_step (by repeat (first | (with_reducible first | exact HB.out | apply below_alloc | apply pw_below_drewN | apply below_drew1 | refine below_set ?_ GE234.out | refine below_set ?_ GE235.out | refine below_set ?_ GE247.out) | exact HB.out)) hb)
         clear HO_6
         clear HO_235002
         clear HO_248000
         clear HO_248002
         clear BK234
         clear BK235
         clear BK247
         clear HB
         have HO_6 := n0_
         have HO_235002 := n1_
         have HO_248000 := n2_
         have HO_248002 := n3_
         have HO257 := n4_
         have BK234 := n5_
         have BK235 := n6_
         have BK247 := n7_
         have HB := n8_
         clear n0_ n1_ n2_ n3_ n4_ n5_ n6_ n7_ n8_
         (try clear hb)
         (try clear hb2)
         (try clear hk)
         (try clear hi)
         (try clear ho0)
         obtain ⟨Ao78, co78, eo78⟩ := Kd.R_slice HO257.out
         (first | subst eo78 | (injection eo78 with f1_ f2_ f3_; have f4_ := f1_.symm; have f5_ := f3_.symm; clear f1_ f2_ f3_; subst f4_; subst f5_))
         refine hK.out _ _ ⟨(blk_cell BK247.out 0).trans rfl, (blk_cell BK247.out 1).trans rfl, (blk_cell BK247.out 2).trans rfl⟩ (fun hHeld => ?_)
         clear hK K
         refine norm_ (a' := ?_) ?_ ?_
         rotate_left
         ·show Act.put _ (some 64) _ = _
          simp only [Act.put, List.setIfInBounds_toArray, List.set_cons_zero, List.set_cons_succ, i64_w, i32_w]
          rfl
         refine pure_ (i := 3) (N := some 65) (v := ?_) (a' := ?_) #[true, true, true, true, false] rfl rfl (by kernel_rfl) (fun _ _ _ h => h) (Or.inl ⟨by rfl, ?_⟩) ?_ ?_
         rotate_left
         ·intro w'
          go_simp
          with_reducible rfl
         rotate_left
         ·simp only [Act.put, List.setIfInBounds_toArray, List.set_cons_zero, List.set_cons_succ, i64_w, i32_w]
          rfl
         refine one_ (i := 4) (N := none) #[true, true, true, true, true] rfl rfl (by kernel_rfl) (by decide) (fun K hK => ?_)
         have hs79 : w77.cell? ⟨gb235, 0, none⟩ = some (.slice none 0 0) := (blk_cell BK235.out 0).trans rfl
         have hfs79 := blk_frozen BK235.out 0
         have hns79_0 := NB234_235.out
         have hns79_2 := NB247_235.out
         have hms79_0 := NB235_234.out
         have hms79_2 := NB235_247.out
         have hs80 : w77.cell? ⟨gb235, 1, none⟩ = some (.int .i64 0) := (blk_cell BK235.out 1).trans rfl
         have hfs80 := blk_frozen BK235.out 1
         have hns80_0 := NB234_235.out
         have hns80_2 := NB247_235.out
         have hms80_0 := NB235_234.out
         have hms80_2 := NB235_247.out
         have hs81 : w77.cell? ⟨gb235, 2, none⟩ = some (.slice none 0 0) := (blk_cell BK235.out 2).trans rfl
         have hfs81 := blk_frozen BK235.out 2
         have hns81_0 := NB234_235.out
         have hns81_2 := NB247_235.out
         have hms81_0 := NB235_234.out
         have hms81_2 := NB235_247.out
         have hs82 : w77.cell? ⟨gb235, 3, none⟩ = some (.slice none 0 0) := (blk_cell BK235.out 3).trans rfl
         have hfs82 := blk_frozen BK235.out 3
         have hns82_0 := NB234_235.out
         have hns82_2 := NB247_235.out
         have hms82_0 := NB235_234.out
         have hms82_2 := NB235_247.out
         have hs83 : w77.cell? ⟨gb235, 4, none⟩ = some (.int .i64 0) := (blk_cell BK235.out 4).trans rfl
         have hfs83 := blk_frozen BK235.out 4
         have hns83_0 := NB234_235.out
         have hns83_2 := NB247_235.out
         have hms83_0 := NB235_234.out
         have hms83_2 := NB235_247.out
         refine skip_ (w1 := ?_) (by rfl) rfl ?_ ?_
         rotate_left
         ·go_simp
          rfl
         refine hK.out _ _ ⟨((cell_far (p := ⟨gb235, _, none⟩) NB247_235.out _).trans (((cell_far (p := ⟨gb235, _, none⟩) NB247_235.out _).trans (((cell_far (p := ⟨gb235, _, none⟩) NB247_235.out _).trans (((cell_far (p := ⟨gb235, _, none⟩) NB247_235.out _).trans (((cell_far (p := ⟨gb235, _, none⟩) NB247_235.out _).trans (hHeld.1)))))))))), ((cell_far (p := ⟨gb235, _, none⟩) NB247_235.out _).trans (((cell_far (p := ⟨gb235, _, none⟩) NB247_235.out _).trans (((cell_far (p := ⟨gb235, _, none⟩) NB247_235.out _).trans (((cell_far (p := ⟨gb235, _, none⟩) NB247_235.out _).trans (((cell_far (p := ⟨gb235, _, none⟩) NB247_235.out _).trans (hHeld.2.1)))))))))), ((cell_far (p := ⟨gb235, _, none⟩) NB247_235.out _).trans (((cell_far (p := ⟨gb235, _, none⟩) NB247_235.out _).trans (((cell_far (p := ⟨gb235, _, none⟩) NB247_235.out _).trans (((cell_far (p := ⟨gb235, _, none⟩) NB247_235.out _).trans (((cell_far (p := ⟨gb235, _, none⟩) NB247_235.out _).trans (hHeld.2.2))))))))))⟩ (fun hHeld => ?_)
         clear hK K
         refine done_ (by kernel_rfl) ?_
         try go_wp2
         refine bodyPost_ret (results_cell_row rfl _ _ gb235 62 #[.slice Ao35 t240.length co35, .int .i64 x248001_2, .slice Ao38 t244.length co38, .slice Ao78 t255.length co78, .int .i64 0] (0, 0) _ rfl (by (with_reducible repeat (first | refine blk_drewN ?_ _ | refine blk_drew ?_ | refine blk_alloc ?_ _)); refine blk_put (cs := #[.slice Ao35 t240.length co35, .int .i64 x248001_2, .slice Ao38 t244.length co38, .slice Ao78 t255.length co78, .int .i64 0]) ?_ 4 _ rfl; (with_reducible repeat (first | refine blk_drewN ?_ _ | refine blk_drew ?_ | refine blk_alloc ?_ _)); refine blk_put (cs := #[.slice Ao35 t240.length co35, .int .i64 x248001_2, .slice Ao38 t244.length co38, .slice none 0 0, .int .i64 0]) ?_ 3 _ rfl; (with_reducible repeat (first | refine blk_drewN ?_ _ | refine blk_drew ?_ | refine blk_alloc ?_ _)); refine blk_put (cs := #[.slice Ao35 t240.length co35, .int .i64 x248001_2, .slice none 0 0, .slice none 0 0, .int .i64 0]) ?_ 2 _ rfl; (with_reducible repeat (first | refine blk_drewN ?_ _ | refine blk_drew ?_ | refine blk_alloc ?_ _)); refine blk_put (cs := #[.slice Ao35 t240.length co35, .int .i64 0, .slice none 0 0, .slice none 0 0, .int .i64 0]) ?_ 1 _ rfl; (with_reducible repeat (first | refine blk_drewN ?_ _ | refine blk_drew ?_ | refine blk_alloc ?_ _)); refine blk_put (cs := #[.slice none 0 0, .int .i64 0, .slice none 0 0, .slice none 0 0, .int .i64 0]) ?_ 0 _ rfl; (with_reducible repeat (first | refine blk_drewN ?_ _ | refine blk_drew ?_ | refine blk_alloc ?_ _)); exact BK235.out) Try.underlying62 rfl (by kernel_rfl)) rfl ?_
         exact ⟨_, _, _, by first | rfl | (simp [errW_none, errW_some] <;> rfl) | (simp [*, errW_none, errW_some] <;> rfl), by (with_reducible repeat (first | apply Kd.S_alloc | apply Kd.S_drewN | apply Kd.S_drew)); exact Kd.S_mono (Kd.S_far (p := ⟨gb235, 4, none⟩) (Kd.S_far (p := ⟨gb235, 3, none⟩) (Kd.S_far (p := ⟨gb235, 2, none⟩) (Kd.S_far (p := ⟨gb235, 1, none⟩) (Kd.S_far (p := ⟨gb235, 0, none⟩) (Kd.S_types HO_248000.out BK235.out (by decide)) (fun _ hk => hk.2) (.slice Ao35 t240.length co35)) (fun _ hk => hk.2) (.int .i64 x248001_2)) (fun _ hk => hk.2) (.slice Ao38 t244.length co38)) (fun _ hk => hk.2) (.slice Ao78 t255.length co78)) (fun _ hk => hk.2) (.int .i64 0)) (fun _ hk => ⟨hk.1.1.1, ⟨hk.1.1.2, hk.1.2⟩⟩), by (with_reducible repeat (first | apply Kd.R_alloc | apply Kd.R_drewN | apply Kd.R_drew)); exact Kd.R_mono (Kd.R_far (p := ⟨gb235, 4, none⟩) (Kd.R_far (p := ⟨gb235, 3, none⟩) (Kd.R_far (p := ⟨gb235, 2, none⟩) (Kd.R_far (p := ⟨gb235, 1, none⟩) (Kd.R_far (p := ⟨gb235, 0, none⟩) (Kd.R_types HO_248002.out BK235.out (by decide)) (fun _ hk => hk.2) (.slice Ao35 t240.length co35)) (fun _ hk => hk.2) (.int .i64 x248001_2)) (fun _ hk => hk.2) (.slice Ao38 t244.length co38)) (fun _ hk => hk.2) (.slice Ao78 t255.length co78)) (fun _ hk => hk.2) (.int .i64 0)) (fun _ hk => ⟨hk.1.1, hk.1.2⟩), by (with_reducible repeat (first | apply Kd.R_alloc | apply Kd.R_drewN | apply Kd.R_drew)); exact Kd.R_mono (Kd.R_far (p := ⟨gb235, 4, none⟩) (Kd.R_far (p := ⟨gb235, 3, none⟩) (Kd.R_far (p := ⟨gb235, 2, none⟩) (Kd.R_far (p := ⟨gb235, 1, none⟩) (Kd.R_far (p := ⟨gb235, 0, none⟩) (Kd.R_types HO257.out BK235.out (by decide)) (fun _ hk => hk.2) (.slice Ao35 t240.length co35)) (fun _ hk => hk.2) (.int .i64 x248001_2)) (fun _ hk => hk.2) (.slice Ao38 t244.length co38)) (fun _ hk => hk.2) (.slice Ao78 t255.length co78)) (fun _ hk => hk.2) (.int .i64 0)) (fun _ hk => ⟨hk.1.1.1, hk.1.2⟩), by repeat (first | (with_reducible first | exact HB.out | apply below_alloc | apply pw_below_drewN | apply below_drew1 | refine below_set ?_ GE234.out | refine below_set ?_ GE235.out | refine below_set ?_ GE247.out) | exact HB.out)⟩

end Go.Proofs.Ytbdbpnnkeefhbaa.PFnExactHistDown
