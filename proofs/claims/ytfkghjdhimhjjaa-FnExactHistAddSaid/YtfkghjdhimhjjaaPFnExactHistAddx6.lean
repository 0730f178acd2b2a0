-- Written by xprint.py (this claim's own program, over the kit's printer); Lean checks it.
import Derived.Test.YtfkghjdhimhjjaaPFnExactHistAddx0
import Derived.Test.YtfkghjdhimhjjaaPFnExactHistAddx4
import Derived.Test.YtfkghjdhimhjjaaPFnExactHistAddx5
namespace Go.Proofs.Ytfkghjdhimhjjaa.PFnExactHistAdd
open Go.RowKit Go.Proofs.YtfkghjdhimhjjaaW.PrintWords Go.Proofs.YtfkghjdhimhjjaaW.PrintLast Go.Proofs.YtfkghjdhimhjjaaW.PrintMore
attribute [local go_sem] max2_int min2_int max_two min_two max_three min_three max_four min_four   -- for this text's walks alone
set_option linter.unusedVariables false
set_option linter.unusedSimpArgs false   -- squeezed

/-! ### impl_HistAdd: function 25 -/
@[reducible] def b25_0 : Array Bool := (br true [7, 2]).toArray
@[reducible] def b25_1 : Array Bool := (br true [0, 7]).toArray
@[reducible] def b25_2 : Array Bool := (br true [1, 6]).toArray
@[reducible] def b25_3 : Array Bool := (br true [1, 1, 1, 4]).toArray
@[reducible] def b25_4 : Array Bool := (br true [3, 4]).toArray
@[reducible] def b25_5 : Array Bool := (br true [4, 3]).toArray
@[reducible] def b25_6 : Array Bool := (br true [5, 2]).toArray
@[reducible] def b25_7 : Array Bool := (br true [6, 1]).toArray
@[reducible] def b25_8 : Array Bool := (br true [7]).toArray
mutual
def impl_HistAdd.j0 : Nat → List Int → Int → Bool → List (List Int) → Int → List Int → List (List Int) → Int → List Int → Option ((List (List Int)) × Int × List Int)
 | 0, _, _, _, _, _, _, _, _, _ => none
 | k + 1, x1, x6, x24, x239000, x239001, x239002, x249000, x249001, x249002 => if x24 = true then (some (x249000, x249001, x249002)) else (if (x1.length : Int) > 0 then (if x6 < 0 then (impl_HistAdd.j1 k x1 true x249000 x249001 x249002) else (if 0 ≤ x6 then (if x6 < (x239000.length : Int) then ((slices_Equal_sint64_int64.f k x1 (rd_L1 x239000 x6)).bind fun t252 => (impl_HistAdd.j1 k x1 (!t252) x249000 x249001 x249002)) else (none)) else (none))) else (impl_HistAdd.j1 k x1 false x249000 x249001 x249002))
def impl_HistAdd.j1 : Nat → List Int → Bool → List (List Int) → Int → List Int → Option ((List (List Int)) × Int × List Int)
 | 0, _, _, _, _, _ => none
 | k + 1, x1, x42, x249000, x249001, x249002 => if x42 = true then ((slices_Clone_sint64_int64.f x1).bind fun t253 => (if x249000.length < 5864062014805 then ((some (x249000 ++ [t253] : List (List Int))).bind fun y256 => (if 0 ≤ (mx (wrap64 ((y256.length : Int) - 30)) 0) then (if (mx (wrap64 ((y256.length : Int) - 30)) 0) ≤ (y256.length : Int) then ((some (y256.drop ((mx (wrap64 ((y256.length : Int) - 30)) 0) : Int).toNat : List (List Int))).bind fun y259 => ((impl_size_sint64.f y259).bind fun t262 => (some (y259, t262, ([] : List Int))))) else (none)) else (none))) else (none))) else ((impl_size_sint64.f x249000).bind fun t263 => (some (x249000, t263, ([] : List Int))))
end
def impl_HistAdd.f (k : Nat) (l0_0 : List (List Int)) (a0_1 : Int) (l0_2 : List Int) (l1 : List Int) : Option ((List (List Int)) × Int × List Int) := (impl_isMany.f (l1.length : Int)).bind fun t240 => (if t240 = true then (some (([] : List (List Int)), 0, ([] : List Int))) else ((impl_ownHist.f k l0_0 a0_1 l0_2).bind fun bt241 => ((impl_HistRight.f k l0_0 a0_1 l0_2).bind fun t249 => (if t249 = true then ((impl_PointsRight.f k l1).bind fun t250 => (impl_HistAdd.j0 k l1 (wrap64 ((l0_0.length : Int) - 1)) (!t250) l0_0 a0_1 l0_2 bt241.1 bt241.2.1 bt241.2.2)) else (impl_HistAdd.j0 k l1 (wrap64 ((l0_0.length : Int) - 1)) true l0_0 a0_1 l0_2 bt241.1 bt241.2.1 bt241.2.2)))))
theorem impl_HistAdd.mono_l : ∀ k, (∀ y0 y1 y2 y3 y4 y5 y6 y7 y8, LeO (impl_HistAdd.j0 k y0 y1 y2 y3 y4 y5 y6 y7 y8) (impl_HistAdd.j0 (k + 1) y0 y1 y2 y3 y4 y5 y6 y7 y8)) ∧ (∀ y0 y1 y2 y3 y4, LeO (impl_HistAdd.j1 k y0 y1 y2 y3 y4) (impl_HistAdd.j1 (k + 1) y0 y1 y2 y3 y4))
 | 0 => ⟨fun _ _ _ _ _ _ _ _ _ r h => by simp [impl_HistAdd.j0] at h, fun _ _ _ _ _ r h => by simp [impl_HistAdd.j1] at h⟩
 | k + 1 => by
  obtain ⟨ih0, ih1⟩ := impl_HistAdd.mono_l k
  refine ⟨?_, ?_⟩
  ·intro y0 y1 y2 y3 y4 y5 y6 y7 y8
   unfold impl_HistAdd.j0
   repeat' first
   | (with_reducible exact ih0 _ _ _ _ _ _ _ _ _)
   | (with_reducible exact ih1 _ _ _ _ _)
   | (with_reducible exact impl_HistRight.mono _ _ _ _)
   | (with_reducible exact impl_PointsRight.mono _ _)
   | (with_reducible exact impl_ownHist.mono _ _ _ _)
   | (with_reducible exact slices_Equal_sint64_int64.mono _ _ _)
   | (with_reducible exact LeO.refl _)
   | (with_reducible exact LeO.none _)
   | (with_reducible refine LeO.ite ?_ ?_)
   | (with_reducible refine LeO.bind ?_ (fun _ => ?_))
   | exact ih0 _ _ _ _ _ _ _ _ _
   | exact ih1 _ _ _ _ _
   | exact impl_HistRight.mono _ _ _ _
   | exact impl_PointsRight.mono _ _
   | exact impl_ownHist.mono _ _ _ _
   | exact slices_Equal_sint64_int64.mono _ _ _
   | refine LeO.bind ?_ (fun _ => ?_)
  ·intro y0 y1 y2 y3 y4
   unfold impl_HistAdd.j1
   repeat' first
   | (with_reducible exact ih0 _ _ _ _ _ _ _ _ _)
   | (with_reducible exact ih1 _ _ _ _ _)
   | (with_reducible exact impl_HistRight.mono _ _ _ _)
   | (with_reducible exact impl_PointsRight.mono _ _)
   | (with_reducible exact impl_ownHist.mono _ _ _ _)
   | (with_reducible exact slices_Equal_sint64_int64.mono _ _ _)
   | (with_reducible exact LeO.refl _)
   | (with_reducible exact LeO.none _)
   | (with_reducible refine LeO.ite ?_ ?_)
   | (with_reducible refine LeO.bind ?_ (fun _ => ?_))
   | exact ih0 _ _ _ _ _ _ _ _ _
   | exact ih1 _ _ _ _ _
   | exact impl_HistRight.mono _ _ _ _
   | exact impl_PointsRight.mono _ _
   | exact impl_ownHist.mono _ _ _ _
   | exact slices_Equal_sint64_int64.mono _ _ _
   | refine LeO.bind ?_ (fun _ => ?_)
theorem impl_HistAdd.mono : ∀ a0 a1 a2 a3 k, LeO (impl_HistAdd.f k a0 a1 a2 a3) (impl_HistAdd.f (k + 1) a0 a1 a2 a3) := by
 intro a0 a1 a2 a3 k
 obtain ⟨ih0, ih1⟩ := impl_HistAdd.mono_l k
 unfold impl_HistAdd.f
 repeat' first
   | (with_reducible exact ih0 _ _ _ _ _ _ _ _ _)
   | (with_reducible exact ih1 _ _ _ _ _)
   | (with_reducible exact impl_HistRight.mono _ _ _ _)
   | (with_reducible exact impl_PointsRight.mono _ _)
   | (with_reducible exact impl_ownHist.mono _ _ _ _)
   | (with_reducible exact slices_Equal_sint64_int64.mono _ _ _)
   | (with_reducible exact LeO.refl _)
   | (with_reducible exact LeO.none _)
   | (with_reducible refine LeO.ite ?_ ?_)
   | (with_reducible refine LeO.bind ?_ (fun _ => ?_))
   | exact ih0 _ _ _ _ _ _ _ _ _
   | exact ih1 _ _ _ _ _
   | exact impl_HistRight.mono _ _ _ _
   | exact impl_PointsRight.mono _ _
   | exact impl_ownHist.mono _ _ _ _
   | exact slices_Equal_sint64_int64.mono _ _ _
   | refine LeO.bind ?_ (fun _ => ?_)
def impl_HistAdd.T3 : Bool × List (List Nat × List Nat) := (true, [([], []), ([0], [0]), ([], []), ([2], [2]), ([3], [3]), ([4], [4]), ([], []), ([6, 1, 1, 0, 1, 6], [1, 6]), ([5, 7, 0, 1, 2, 3, 4, 5, 6, 7], [5])])
def impl_HistAdd.B3 : List Nat := [0, 1, 0, 4, 12, 28, 0, 67, 255]
theorem impl_HistAdd.tab3 : rtab .any (opsOf Try.f25 3) = impl_HistAdd.T3 := by kernel_rfl
theorem impl_HistAdd.bits3 : waitsOk impl_HistAdd.T3.2 impl_HistAdd.B3 = true := by kernel_rfl
def impl_HistAdd.T7 : Bool × List (List Nat × List Nat) := (true, [([], []), ([0], [0]), ([], []), ([2], [2]), ([3], [3]), ([1, 4, 3], [1, 4]), ([0, 1, 2, 3, 4, 5], []), ([6, 5, 5, 0, 1, 2, 3, 4, 5], [5, 6])])
def impl_HistAdd.B7 : List Nat := [0, 1, 0, 4, 12, 31, 63, 127]
theorem impl_HistAdd.tab7 : rtab .any (opsOf Try.f25 7) = impl_HistAdd.T7 := by kernel_rfl
theorem impl_HistAdd.bits7 : waitsOk impl_HistAdd.T7.2 impl_HistAdd.B7 = true := by kernel_rfl
set_option maxHeartbeats 8000000 in
set_option maxRecDepth 100000 in
theorem impl_HistAdd.calls (k : Nat) (A0_0 : Option Addr) (c0_0 : Nat) (l0_0 : List (List Int)) (a0_1 : Int) (A0_2 : Option Addr) (c0_2 : Nat) (l0_2 : List Int) (A1 : Option Addr) (c1 : Nat) (l1 : List Int) (r1 : List (List Int)) (r2 : Int) (r3 : List Int) (w : World) (hr0_0 : Kd.C (Kd.slice 2 (Kd.int .i64)) w A0_0 l0_0.length l0_0) (hc0_0 : l0_0.length ≤ c0_0) (hr0_2 : Kd.C (Kd.int .i64) w A0_2 l0_2.length l0_2) (hc0_2 : l0_2.length ≤ c0_2) (hr1 : Kd.C (Kd.int .i64) w A1 l1.length l1) (hc1 : l1.length ≤ c1) (h : impl_HistAdd.f k l0_0 a0_1 l0_2 l1 = some (r1, r2, r3)) :
  Calls Try.prog 25 #[.agg #[.slice A0_0 l0_0.length c0_0, .int .i64 a0_1, .slice A0_2 l0_2.length c0_2], .slice A1 l1.length c1] w fun e w' => ∃ v0_ v2_ : Value, e = .returned (.agg #[v0_, .int .i64 r2, v2_]) ∧ Kd.T (Kd.slice 2 (Kd.int .i64)) 37 w' w.heap.size (fun k_ => some k_ ≠ (v2_ : Value).ownBlock) v0_ r1 ∧ Kd.R (Kd.int .i64) 2 w' w.heap.size (fun _ => True) v2_ r3 ∧ Below w.heap.size w w' := by
 have hu53 := Try.underlying53
 have HR0_0 := am hr0_0
 have HC0_0 := am hc0_0
 clear hr0_0 hc0_0
 have HR0_2 := am hr0_2
 have HC0_2 := am hc0_2
 clear hr0_2 hc0_2
 have HR1 := am hr1
 have HC1 := am hc1
 clear hr1 hc1
 have HB := am (Below.refl w.heap.size w)
 have H : ((impl_isMany.f (l1.length : Int)).bind fun t240 => (if t240 = true then (some (([] : List (List Int)), 0, ([] : List Int))) else ((impl_ownHist.f k l0_0 a0_1 l0_2).bind fun bt241 => ((impl_HistRight.f k l0_0 a0_1 l0_2).bind fun t249 => (if t249 = true then ((impl_PointsRight.f k l1).bind fun t250 => (impl_HistAdd.j0 k l1 (wrap64 ((l0_0.length : Int) - 1)) (!t250) l0_0 a0_1 l0_2 bt241.1 bt241.2.1 bt241.2.2)) else (impl_HistAdd.j0 k l1 (wrap64 ((l0_0.length : Int) - 1)) true l0_0 a0_1 l0_2 bt241.1 bt241.2.1 bt241.2.2)))))) = some (r1, r2, r3) := h
 clear h
 replace H := Option.bind_eq_some_iff.mp H
 obtain ⟨t240, A30, H⟩ := H
 replace H : (if t240 = true then (some (([] : List (List Int)), 0, ([] : List Int))) else ((impl_ownHist.f k l0_0 a0_1 l0_2).bind fun bt241 => ((impl_HistRight.f k l0_0 a0_1 l0_2).bind fun t249 => (if t249 = true then ((impl_PointsRight.f k l1).bind fun t250 => (impl_HistAdd.j0 k l1 (wrap64 ((l0_0.length : Int) - 1)) (!t250) l0_0 a0_1 l0_2 bt241.1 bt241.2.1 bt241.2.2)) else (impl_HistAdd.j0 k l1 (wrap64 ((l0_0.length : Int) - 1)) true l0_0 a0_1 l0_2 bt241.1 bt241.2.1 bt241.2.2))))) = some (r1, r2, r3) := H
 have A3 := Aside0.mk A30
 clear A30
 by_cases c4 : t240 = true
 ·subst c4
  have H1 : (some (([] : List (List Int)), 0, ([] : List Int))) = some (r1, r2, r3) := by rw [if_pos rfl] at H; exact H
  clear H
  have H := H1
  clear H1
  simp only [Option.some.injEq, Prod.mk.injEq] at H
  obtain ⟨rfl, rfl, rfl⟩ := H
  go_enter Try.func25, Try.ntmps25
  go_wp2_with (first | ((with_reducible refine gate_dst (N := 2) rfl ?_); refine box_event ?hg (N := 2) ?hd (cs := #[.slice A0_0 l0_0.length c0_0, .int .i64 a0_1, .slice A0_2 l0_2.length c0_2]) (t := 53) ?hr ?_; (case hd => rfl); (case hg => rfl); (case hr => first | (go_simp; done) | (go_simp; rfl)); intro gb238 hg w5 hbox hb; have BK238 := am (hbox); have GW238 := am ((by rw [hg]; exact (below_size (bl HB.out)) : w.heap.size ≤ gb238)); have GE238 := GW238; replace HB := am (below_step (bl HB.out) hb); clear hb hbox hg) | ((with_reducible refine gate_dst (N := 4) rfl ?_); refine box_event ?hg (N := 4) ?hd (cs := #[.slice none 0 0, .int .i64 0, .slice none 0 0]) (t := 53) ?hr ?_; (case hd => rfl); (case hg => rfl); (case hr => first | (go_simp; done) | (go_simp; rfl)); intro gb239 hg w6 hbox hb; have BK239 := am (hbox); have GW239 := am ((by rw [hg]; exact (below_size (bl HB.out)) : w.heap.size ≤ gb239)); have GE239 := GW239; replace HB := am (below_step (bl HB.out) hb); have NB238_239 := am ((by rw [hg]; exact Nat.ne_of_lt (blk_lt (pk BK238.out)) : gb238 ≠ gb239)); have NB239_238 := am ((by rw [hg]; exact Nat.ne_of_gt (blk_lt (pk BK238.out)) : gb239 ≠ gb238)); replace BK238 := am (blk_below (pk BK238.out) hb); clear hb hbox hg) | ((with_reducible refine gate_callee (f := 77) rfl ?_); refine gl (some 9) Try.func77 #[.int .i64 (l1.length : Int)] ?_; (with_reducible refine (impl_isMany.calls (l1.length : Int) true _ A3.out).mono ?_); rintro e w' ⟨rfl, ⟨nd, rfl⟩⟩; refine ⟨_, rfl, ?_⟩; (try (rw [drewN_self w6]; generalize hq_ : World.drewN w6 _ = w6; replace BK238 : Aside0 (w6.heap[gb238]? = some (.cells #[.slice A0_0 l0_0.length c0_0, .int .i64 a0_1, .slice A0_2 l0_2.length c0_2] 53 (0, 0))) := ⟨by rw [← hq_]; exact (pk BK238.out)⟩; replace BK239 : Aside0 (w6.heap[gb239]? = some (.cells #[.slice none 0 0, .int .i64 0, .slice none 0 0] 53 (0, 0))) := ⟨by rw [← hq_]; exact (pk BK239.out)⟩; replace HB : Aside0 (Below w.heap.size w w6) := ⟨by rw [← hq_]; exact (bl HB.out)⟩; clear hq_)); have hnb7 := NB239_238.out; have hnc7 := NB238_239.out; have hcz8_0 : w6.cell? ⟨gb239, 0, none⟩ = some (.slice none 0 0) := bc BK239.out 0; have hcz8_1 : w6.cell? ⟨gb239, 1, none⟩ = some (.int .i64 0) := bc BK239.out 1; have hcz8_2 : w6.cell? ⟨gb239, 2, none⟩ = some (.slice none 0 0) := bc BK239.out 2; have hfz8_0 := blk_frozen BK239.out 0; have hfz8_1 := blk_frozen BK239.out 1; have hfz8_2 := blk_frozen BK239.out 2))
  refine bodyPost_ret (results_cell_row rfl _ _ gb239 53 #[.slice none 0 0, .int .i64 0, .slice none 0 0] (0, 0) _ rfl (by refine pk ?_; refine blk_put (cs := #[.slice none 0 0, .int .i64 0, .slice none 0 0]) ?_ 2 _ rfl; refine pk ?_; refine blk_put (cs := #[.slice none 0 0, .int .i64 0, .slice none 0 0]) ?_ 1 _ rfl; refine pk ?_; refine blk_put (cs := #[.slice none 0 0, .int .i64 0, .slice none 0 0]) ?_ 0 _ rfl; refine pk ?_; exact BK239.out) Try.underlying53 rfl (by kernel_rfl)) rfl ?_
  exact ⟨_, _, by first | rfl | (simp [errW_none, errW_some] <;> rfl) | (simp [*, errW_none, errW_some] <;> rfl), Kd.T_of_S (by first | exact Kd.S_nil _ _ _ _ _ | exact Kd.N_nil _ _ _ _ _ | exact Kd.V_nil _ _ _ _ _ | exact Kd.T_nil _ _ _ _ _ | exact Kd.R_nil _ _ _ _ _), by first | exact Kd.R_nil _ _ _ _ _ | exact Kd.N_nil _ _ _ _ _ | exact Kd.V_nil _ _ _ _ _ | exact Kd.T_nil _ _ _ _ _ | exact Kd.S_nil _ _ _ _ _, by repeat (first | (with_reducible first | exact HB.out | apply below_alloc | apply pw_below_drewN | apply below_drew1 | refine below_set ?_ GE238.out | refine below_set ?_ GE239.out) | exact HB.out)⟩
 ·replace c4 := Bool.eq_false_iff.mpr c4
  subst c4
  have H1 : ((impl_ownHist.f k l0_0 a0_1 l0_2).bind fun bt241 => ((impl_HistRight.f k l0_0 a0_1 l0_2).bind fun t249 => (if t249 = true then ((impl_PointsRight.f k l1).bind fun t250 => (impl_HistAdd.j0 k l1 (wrap64 ((l0_0.length : Int) - 1)) (!t250) l0_0 a0_1 l0_2 bt241.1 bt241.2.1 bt241.2.2)) else (impl_HistAdd.j0 k l1 (wrap64 ((l0_0.length : Int) - 1)) true l0_0 a0_1 l0_2 bt241.1 bt241.2.1 bt241.2.2)))) = some (r1, r2, r3) := by rw [if_neg (show ¬ (false = true) by decide)] at H; exact H
  clear H
  have H := H1
  clear H1
  replace H := Option.bind_eq_some_iff.mp H
  obtain ⟨⟨t241, t244, t245⟩, A90, H⟩ := H
  replace H : ((impl_HistRight.f k l0_0 a0_1 l0_2).bind fun t249 => (if t249 = true then ((impl_PointsRight.f k l1).bind fun t250 => (impl_HistAdd.j0 k l1 (wrap64 ((l0_0.length : Int) - 1)) (!t250) l0_0 a0_1 l0_2 t241 t244 t245)) else (impl_HistAdd.j0 k l1 (wrap64 ((l0_0.length : Int) - 1)) true l0_0 a0_1 l0_2 t241 t244 t245))) = some (r1, r2, r3) := H
  have A9 := Aside0.mk A90
  clear A90
  have HC10 := Aside0.mk H
  clear H
  go_enter Try.func25, Try.ntmps25
  try go_wp2_with (first | ((with_reducible refine gate_dst (N := 2) rfl ?_); refine box_event ?hg (N := 2) ?hd (cs := #[.slice A0_0 l0_0.length c0_0, .int .i64 a0_1, .slice A0_2 l0_2.length c0_2]) (t := 53) ?hr ?_; (case hd => rfl); (case hg => rfl); (case hr => first | (go_simp; done) | (go_simp; rfl)); intro gb238 hg w11 hbox hb; have BK238 := am (hbox); have GW238 := am ((by rw [hg]; exact (below_size (bl HB.out)) : w.heap.size ≤ gb238)); have GE238 := GW238; replace HB := am (below_step (bl HB.out) hb); clear hb hbox hg) | ((with_reducible refine gate_dst (N := 4) rfl ?_); refine box_event ?hg (N := 4) ?hd (cs := #[.slice none 0 0, .int .i64 0, .slice none 0 0]) (t := 53) ?hr ?_; (case hd => rfl); (case hg => rfl); (case hr => first | (go_simp; done) | (go_simp; rfl)); intro gb239 hg w12 hbox hb; have BK239 := am (hbox); have GW239 := am ((by rw [hg]; exact (below_size (bl HB.out)) : w.heap.size ≤ gb239)); have GE239 := GW239; replace HB := am (below_step (bl HB.out) hb); have NB238_239 := am ((by rw [hg]; exact Nat.ne_of_lt (blk_lt (pk BK238.out)) : gb238 ≠ gb239)); have NB239_238 := am ((by rw [hg]; exact Nat.ne_of_gt (blk_lt (pk BK238.out)) : gb239 ≠ gb238)); replace BK238 := am (blk_below (pk BK238.out) hb); clear hb hbox hg) | ((with_reducible refine gate_callee (f := 77) rfl ?_); refine gl (some 9) Try.func77 #[.int .i64 (l1.length : Int)] ?_; (with_reducible refine (impl_isMany.calls (l1.length : Int) false _ A3.out).mono ?_); rintro e w' ⟨rfl, ⟨nd, rfl⟩⟩; refine ⟨_, rfl, ?_⟩; (try (rw [drewN_self w12]; generalize hq_ : World.drewN w12 _ = w12; replace BK238 : Aside0 (w12.heap[gb238]? = some (.cells #[.slice A0_0 l0_0.length c0_0, .int .i64 a0_1, .slice A0_2 l0_2.length c0_2] 53 (0, 0))) := ⟨by rw [← hq_]; exact (pk BK238.out)⟩; replace BK239 : Aside0 (w12.heap[gb239]? = some (.cells #[.slice none 0 0, .int .i64 0, .slice none 0 0] 53 (0, 0))) := ⟨by rw [← hq_]; exact (pk BK239.out)⟩; replace HB : Aside0 (Below w.heap.size w w12) := ⟨by rw [← hq_]; exact (bl HB.out)⟩; clear hq_))))
  replace BK238 := am (blk_drew BK238.out)
  replace BK239 := am (blk_drew BK239.out)
  replace HB := am (below_drew1 HB.out)
  refine start_ (n := 9) (S := fun w' => w'.cell? ⟨gb238, 0, none⟩ = some (.slice A0_0 l0_0.length c0_0) ∧ w'.cell? ⟨gb238, 1, none⟩ = some (.int .i64 a0_1) ∧ w'.cell? ⟨gb238, 2, none⟩ = some (.slice A0_2 l0_2.length c0_2)) (ds := []) #[false, false, false, false, false, false, false, false, false] (by kernel_rfl) rfl rfl ⟨bc BK238.out 0, bc BK238.out 1, bc BK238.out 2⟩ (fun hHeld => ?_); refine with_tabW impl_HistAdd.tab3 impl_HistAdd.bits3 (fun HT_ HW_ => ?_)
  generalize w12.drew = w13 at BK238 BK239 HB hHeld ⊢
  refine pure_ (i := 2) (N := some 13) (v := ?_) (a' := ?_) #[false, false, true, false, false, false, false, false, false] rfl rfl (any_of HT_.out (by kernel_rfl)) (fun _ _ _ h => h) (Or.inl ⟨by rfl, ?_⟩) ?_ ?_; rotate_left
  ·intro w'; go_simp; with_reducible rfl
  rotate_left
  ·simp only [Act.put, sa_, s0_, ss_, i64_w, i32_w]; rfl
  refine take_ (i := 0) (N := some 11) (v := ?_) (a' := ?_) #[true, false, true, false, false, false, false, false, false] rfl rfl (take_ofW HT_.out HW_.out (by kernel_rfl)) (fun _ _ _ h => h) (Or.inl ⟨by rfl, ?_⟩) hHeld ?_ ?_; rotate_left
  ·rintro w' ⟨s0, s1, s2⟩; go_simp; with_reducible rfl
  rotate_left
  ·simp only [Act.put, sa_, s0_, ss_, i64_w, i32_w]; rfl
  refine take_ (i := 3) (N := some 14) (v := ?_) (a' := ?_) #[true, false, true, true, false, false, false, false, false] rfl rfl (take_ofW HT_.out HW_.out (by kernel_rfl)) (fun _ _ _ h => h) (Or.inl ⟨by rfl, ?_⟩) hHeld ?_ ?_; rotate_left
  ·rintro w' ⟨s0, s1, s2⟩; go_simp; with_reducible rfl
  rotate_left
  ·simp only [Act.put, sa_, s0_, ss_, i64_w, i32_w]; rfl
  refine pure_ (i := 4) (N := some 15) (v := ?_) (a' := ?_) #[true, false, true, true, true, false, false, false, false] rfl rfl (any_of HT_.out (by kernel_rfl)) (fun _ _ _ h => h) (Or.inl ⟨by rfl, ?_⟩) ?_ ?_; rotate_left
  ·intro w'; go_simp; with_reducible rfl
  rotate_left
  ·simp only [Act.put, sa_, s0_, ss_, i64_w, i32_w]; rfl
  refine pure_ (i := 5) (N := some 16) (v := ?_) (a' := ?_) #[true, false, true, true, true, true, false, false, false] rfl rfl (any_of HT_.out (by kernel_rfl)) (fun _ _ _ h => h) (Or.inl ⟨by rfl, ?_⟩) ?_ ?_; rotate_left
  ·intro w'; go_simp; with_reducible rfl
  rotate_left
  ·simp only [Act.put, sa_, s0_, ss_, i64_w, i32_w]; rfl
  refine join_ (σ := Value × Value × Nat) 2 b25_0 (fun s_ => [(12, .agg #[s_.1, .int .i64 t244, s_.2.1]), (5, .pointer (some ⟨s_.2.2, 0, none⟩))]) (fun s_ w' => (w'.cell? ⟨gb238, 0, none⟩ = some (.slice A0_0 l0_0.length c0_0) ∧ w'.cell? ⟨gb238, 1, none⟩ = some (.int .i64 a0_1) ∧ w'.cell? ⟨gb238, 2, none⟩ = some (.slice A0_2 l0_2.length c0_2)) ∧ (Kd.S (Kd.slice 2 (Kd.int .i64)) 37 w' w.heap.size (fun k_ => some k_ ≠ (s_.2.1 : Value).ownBlock) s_.1 t241) ∧ (Kd.R (Kd.int .i64) 2 w' w.heap.size (fun _ => True) s_.2.1 t245) ∧ (w'.heap[gb238]? = some (.cells #[.slice A0_0 l0_0.length c0_0, .int .i64 a0_1, .slice A0_2 l0_2.length c0_2] 53 (0, 0))) ∧ (w'.heap[gb239]? = some (.cells #[.slice none 0 0, .int .i64 0, .slice none 0 0] 53 (0, 0))) ∧ (w'.heap[s_.2.2]? = some (.cells #[.slice none 0 0, .int .i64 0, .slice none 0 0] 53 (0, 0))) ∧ (w.heap.size ≤ s_.2.2) ∧ (w.heap.size ≤ s_.2.2) ∧ (gb238 ≠ s_.2.2) ∧ (s_.2.2 ≠ gb238) ∧ (gb239 ≠ s_.2.2) ∧ (s_.2.2 ≠ gb239) ∧ (Below w.heap.size w w')) ?_ ?_
  rotate_left
  ·intro hCont
   refine two_ (i := 1) (j := 6) (Ni := some 12) (Nj := some 5) #[true, true, true, true, true, true, false, false, false] #[true, false, true, true, true, true, true, false, false] rfl rfl rfl rfl (two_of HT_.out (by kernel_rfl)) (by decide) (by decide) (fun K hK => ?_) (fun K hK => ?_)
   ·skip
    refine gs_ Try.func78 #[.agg #[.slice A0_0 l0_0.length c0_0, .int .i64 a0_1, .slice A0_2 l0_2.length c0_2]] ?_
    with_reducible refine (impl_ownHist.calls k _ _ l0_0 a0_1 _ _ l0_2 t241 t244 t245 _ ?side1 ?side2 ?side3 ?side4 A9.out).mono ?_
    (case side1 => repeat (first | exact (Kd.C_below HR0_0.out HB.out) | (with_reducible refine Kd.C_alloc ?_ _) | (with_reducible refine Kd.C_drewN ?_ _) | (with_reducible refine Kd.C_drew ?_)))
    (case side2 => exact HC0_0.out)
    (case side3 => repeat (first | exact (Kd.C_below HR0_2.out HB.out) | (with_reducible refine Kd.C_alloc ?_ _) | (with_reducible refine Kd.C_drewN ?_ _) | (with_reducible refine Kd.C_drew ?_)))
    (case side4 => exact HC0_2.out)
    rintro e w14 ⟨v242, v246, rfl, ho0, ho1, hb⟩
    refine ⟨_, rfl, ?_⟩
    have HO243 := am (Kd.S_lower ho0 (below_size (bl HB.out)))
    have HO247 := am (Kd.R_lower ho1 (below_size (bl HB.out)))
    replace BK238 := am (blk_below (pk BK238.out) hb)
    replace BK239 := am (blk_below (pk BK239.out) hb)
    replace HB := am (below_step (bl HB.out) hb)
    (try clear hb)
    (try clear hb2)
    (try clear hk)
    (try clear hi)
    (try clear ho0)
    (try clear ho1)
    refine hK.out _ _ ⟨bc BK238.out 0, bc BK238.out 1, bc BK238.out 2⟩ (fun hHeld => ?_)
    clear hK K
    refine norm_ (a' := ?_) ?_ ?_
    rotate_left
    ·show Act.put _ (some 12) _ = _
     simp only [Act.put, sa_, s0_, ss_, i64_w, i32_w]
     rfl
    refine one_ (i := 6) (N := some 5) b25_0 rfl rfl (one_of HT_.out (by kernel_rfl)) (by decide) (fun K hK => ?_)
    refine box_step ?hg (N := 5) ?hd (cs := #[.slice none 0 0, .int .i64 0, .slice none 0 0]) (t := 53) ?hr ?_; (case hd => rfl); (case hg => rfl); (case hr => first | (go_simp; done) | (go_simp; rfl))
    intro gb248 hg w15 hbox hb
    replace HO243 := am (Kd.S_below (ks HO243.out) hb)
    replace HO247 := am (Kd.R_below (kr HO247.out) hb)
    have BK248 := am (hbox)
    have GW248 := am ((by rw [hg]; exact (below_size (bl HB.out)) : w.heap.size ≤ gb248))
    have GE248 := GW248
    replace HB := am (below_step (bl HB.out) hb)
    have NB238_248 := am ((by rw [hg]; exact Nat.ne_of_lt (blk_lt (pk BK238.out)) : gb238 ≠ gb248))
    have NB248_238 := am ((by rw [hg]; exact Nat.ne_of_gt (blk_lt (pk BK238.out)) : gb248 ≠ gb238))
    replace BK238 := am (blk_below (pk BK238.out) hb)
    have NB239_248 := am ((by rw [hg]; exact Nat.ne_of_lt (blk_lt (pk BK239.out)) : gb239 ≠ gb248))
    have NB248_239 := am ((by rw [hg]; exact Nat.ne_of_gt (blk_lt (pk BK239.out)) : gb248 ≠ gb239))
    replace BK239 := am (blk_below (pk BK239.out) hb)
    clear hb hbox hg
    refine hK.out _ _ ⟨bc BK238.out 0, bc BK238.out 1, bc BK238.out 2⟩ (fun hHeld => ?_)
    clear hK K
    refine norm_ (a' := ?_) ?_ ?_
    rotate_left
    ·show Act.put _ (some 5) _ = _
     simp only [Act.put, sa_, s0_, ss_, i64_w, i32_w]
     rfl
    exact norm_ (by simp only [putAll, Act.put, sa_, s0_, ss_]) (hCont (v242, v246, gb248) _ ⟨hHeld, (ks HO243.out), (kr HO247.out), (pk BK238.out), (pk BK239.out), (pk BK248.out), GW248.out, GE248.out, NB238_248.out, NB248_238.out, NB239_248.out, NB248_239.out, (bl HB.out)⟩)
   ·skip
    refine box_step ?hg (N := 5) ?hd (cs := #[.slice none 0 0, .int .i64 0, .slice none 0 0]) (t := 53) ?hr ?_; (case hd => rfl); (case hg => rfl); (case hr => first | (go_simp; done) | (go_simp; rfl))
    intro gb248 hg w14 hbox hb
    have BK248 := am (hbox)
    have GW248 := am ((by rw [hg]; exact (below_size (bl HB.out)) : w.heap.size ≤ gb248))
    have GE248 := GW248
    replace HB := am (below_step (bl HB.out) hb)
    have NB238_248 := am ((by rw [hg]; exact Nat.ne_of_lt (blk_lt (pk BK238.out)) : gb238 ≠ gb248))
    have NB248_238 := am ((by rw [hg]; exact Nat.ne_of_gt (blk_lt (pk BK238.out)) : gb248 ≠ gb238))
    replace BK238 := am (blk_below (pk BK238.out) hb)
    have NB239_248 := am ((by rw [hg]; exact Nat.ne_of_lt (blk_lt (pk BK239.out)) : gb239 ≠ gb248))
    have NB248_239 := am ((by rw [hg]; exact Nat.ne_of_gt (blk_lt (pk BK239.out)) : gb248 ≠ gb239))
    replace BK239 := am (blk_below (pk BK239.out) hb)
    clear hb hbox hg
    refine hK.out _ _ ⟨bc BK238.out 0, bc BK238.out 1, bc BK238.out 2⟩ (fun hHeld => ?_)
    clear hK K
    refine norm_ (a' := ?_) ?_ ?_
    rotate_left
    ·show Act.put _ (some 5) _ = _
     simp only [Act.put, sa_, s0_, ss_, i64_w, i32_w]
     rfl
    refine one_ (i := 1) (N := some 12) b25_0 rfl rfl (one_of HT_.out (by kernel_rfl)) (by decide) (fun K hK => ?_)
    refine gs_ Try.func78 #[.agg #[.slice A0_0 l0_0.length c0_0, .int .i64 a0_1, .slice A0_2 l0_2.length c0_2]] ?_
    with_reducible refine (impl_ownHist.calls k _ _ l0_0 a0_1 _ _ l0_2 t241 t244 t245 _ ?side1 ?side2 ?side3 ?side4 A9.out).mono ?_
    (case side1 => repeat (first | exact (Kd.C_below HR0_0.out HB.out) | (with_reducible refine Kd.C_alloc ?_ _) | (with_reducible refine Kd.C_drewN ?_ _) | (with_reducible refine Kd.C_drew ?_)))
    (case side2 => exact HC0_0.out)
    (case side3 => repeat (first | exact (Kd.C_below HR0_2.out HB.out) | (with_reducible refine Kd.C_alloc ?_ _) | (with_reducible refine Kd.C_drewN ?_ _) | (with_reducible refine Kd.C_drew ?_)))
    (case side4 => exact HC0_2.out)
    rintro e w15 ⟨v242, v246, rfl, ho0, ho1, hb⟩
    refine ⟨_, rfl, ?_⟩
    have HO243 := am (Kd.S_lower ho0 (below_size (bl HB.out)))
    have HO247 := am (Kd.R_lower ho1 (below_size (bl HB.out)))
    replace BK238 := am (blk_below (pk BK238.out) hb)
    replace BK239 := am (blk_below (pk BK239.out) hb)
    replace BK248 := am (blk_below (pk BK248.out) hb)
    replace HB := am (below_step (bl HB.out) hb)
    (try clear hb)
    (try clear hb2)
    (try clear hk)
    (try clear hi)
    (try clear ho0)
    (try clear ho1)
    refine hK.out _ _ ⟨bc BK238.out 0, bc BK238.out 1, bc BK238.out 2⟩ (fun hHeld => ?_)
    clear hK K
    refine norm_ (a' := ?_) ?_ ?_
    rotate_left
    ·show Act.put _ (some 12) _ = _
     simp only [Act.put, sa_, s0_, ss_, i64_w, i32_w]
     rfl
    exact norm_ (by simp only [putAll, Act.put, sa_, s0_, ss_]) (hCont (v242, v246, gb248) _ ⟨hHeld, (ks HO243.out), (kr HO247.out), (pk BK238.out), (pk BK239.out), (pk BK248.out), GW248.out, GE248.out, NB238_248.out, NB248_238.out, NB239_248.out, NB248_239.out, (bl HB.out)⟩)
  rintro ⟨v242, v246, gb248⟩ w16 ⟨hS_, h0_, h1_, h2_, h3_, h4_, h5_, h6_, h7_, h8_, h9_, h10_, h11_⟩
  have HO243 : Aside0 (Kd.S (Kd.slice 2 (Kd.int .i64)) 37 w16 w.heap.size (fun k_ => some k_ ≠ (v246 : Value).ownBlock) v242 t241) := ⟨h0_⟩
  have HO247 : Aside0 (Kd.R (Kd.int .i64) 2 w16 w.heap.size (fun _ => True) v246 t245) := ⟨h1_⟩
  replace BK238 : Aside0 (w16.heap[gb238]? = some (.cells #[.slice A0_0 l0_0.length c0_0, .int .i64 a0_1, .slice A0_2 l0_2.length c0_2] 53 (0, 0))) := ⟨h2_⟩
  replace BK239 : Aside0 (w16.heap[gb239]? = some (.cells #[.slice none 0 0, .int .i64 0, .slice none 0 0] 53 (0, 0))) := ⟨h3_⟩
  have BK248 : Aside0 (w16.heap[gb248]? = some (.cells #[.slice none 0 0, .int .i64 0, .slice none 0 0] 53 (0, 0))) := ⟨h4_⟩
  have GW248 : Aside0 (w.heap.size ≤ gb248) := ⟨h5_⟩
  have GE248 : Aside0 (w.heap.size ≤ gb248) := ⟨h6_⟩
  have NB238_248 : Aside0 (gb238 ≠ gb248) := ⟨h7_⟩
  have NB248_238 : Aside0 (gb248 ≠ gb238) := ⟨h8_⟩
  have NB239_248 : Aside0 (gb239 ≠ gb248) := ⟨h9_⟩
  have NB248_239 : Aside0 (gb248 ≠ gb239) := ⟨h10_⟩
  replace HB : Aside0 (Below w.heap.size w w16) := ⟨h11_⟩
  clear h0_ h1_ h2_ h3_ h4_ h5_ h6_ h7_ h8_ h9_ h10_ h11_
  have hHeld : w16.cell? ⟨gb238, 0, none⟩ = some (.slice A0_0 l0_0.length c0_0) ∧ w16.cell? ⟨gb238, 1, none⟩ = some (.int .i64 a0_1) ∧ w16.cell? ⟨gb238, 2, none⟩ = some (.slice A0_2 l0_2.length c0_2) := hS_
  obtain ⟨Ao17, co17, eo17⟩ := Kd.S_slice HO243.out
  (first | subst eo17 | (injection eo17 with f1_ f2_ f3_; have f4_ := f1_.symm; have f5_ := f3_.symm; clear f1_ f2_ f3_; subst f4_; subst f5_))
  obtain ⟨Ao20, co20, eo20⟩ := Kd.R_slice HO247.out
  (first | subst eo20 | (injection eo20 with f1_ f2_ f3_; have f4_ := f1_.symm; have f5_ := f3_.symm; clear f1_ f2_ f3_; subst f4_; subst f5_))
  refine norm_ (a' := ?_) ?_ ?_
  rotate_left
  ·simp only [putAll, Act.put, sa_, s0_, ss_]
   rfl
  refine one_ (i := 7) (N := none) #[true, true, true, true, true, true, true, true, false] rfl rfl (one_of HT_.out (by kernel_rfl)) (by decide) (fun K hK => ?_)
  have hs18 : w16.cell? ⟨gb248, 0, none⟩ = some (.slice none 0 0) := bc BK248.out 0
  have hfs18 := blk_frozen BK248.out 0
  have hns18_0 := NB238_248.out
  have hns18_1 := NB239_248.out
  have hms18_0 := NB248_238.out
  have hms18_1 := NB248_239.out
  have hs19 : w16.cell? ⟨gb248, 1, none⟩ = some (.int .i64 0) := bc BK248.out 1
  have hfs19 := blk_frozen BK248.out 1
  have hs21 : w16.cell? ⟨gb248, 2, none⟩ = some (.slice none 0 0) := bc BK248.out 2
  have hfs21 := blk_frozen BK248.out 2
  refine skip_ (w1 := ?_) (by rfl) rfl ?_ ?_
  rotate_left
  ·go_simp
   rfl
  refine hK.out _ _ ⟨((cell_far (p := ⟨gb248, _, none⟩) NB238_248.out _).trans (((cell_far (p := ⟨gb248, _, none⟩) NB238_248.out _).trans (((cell_far (p := ⟨gb248, _, none⟩) NB238_248.out _).trans (hHeld.1)))))), ((cell_far (p := ⟨gb248, _, none⟩) NB238_248.out _).trans (((cell_far (p := ⟨gb248, _, none⟩) NB238_248.out _).trans (((cell_far (p := ⟨gb248, _, none⟩) NB238_248.out _).trans (hHeld.2.1)))))), ((cell_far (p := ⟨gb248, _, none⟩) NB238_248.out _).trans (((cell_far (p := ⟨gb248, _, none⟩) NB238_248.out _).trans (((cell_far (p := ⟨gb248, _, none⟩) NB238_248.out _).trans (hHeld.2.2))))))⟩ (fun hHeld => ?_)
  clear hK K
  refine pure_ (i := 8) (N := some 6) (v := ?_) (a' := ?_) #[true, true, true, true, true, true, true, true, true] rfl rfl (any_of HT_.out (by kernel_rfl)) (fun _ _ _ h => h) (Or.inl ⟨by rfl, ?_⟩) ?_ ?_; rotate_left
  ·intro w'; go_simp; with_reducible rfl
  rotate_left
  ·simp only [Act.put, sa_, s0_, ss_, i64_w, i32_w]; rfl
  refine done_ (done_of HT_.out (by kernel_rfl)) ?_
  go_upto_region 4 with (fail)
  go_cut [24] (fun v24 wc => ∃ (kq : Nat) (x24_9 : Bool), v24 = .bool x24_9 ∧ Aside0 (impl_HistAdd.j0 kq l1 (wrap64 ((l0_0.length : Int) - 1)) x24_9 l0_0 a0_1 l0_2 t241 t244 t245 = some (r1, r2, r3)) ∧ Aside0 (kq ≤ k) ∧ Aside0 (Kd.T (Kd.slice 2 (Kd.int .i64)) 37 wc w.heap.size (fun k_ => some k_ ≠ ((.slice Ao20 t245.length co20) : Value).ownBlock) (.slice Ao17 t241.length co17) t241) ∧ Aside0 (Kd.R (Kd.int .i64) 2 wc w.heap.size (fun _ => True) (.slice Ao20 t245.length co20) t245) ∧ Aside0 (wc.heap[gb238]? = some (.cells #[(.slice A0_0 l0_0.length c0_0), .int .i64 a0_1, (.slice A0_2 l0_2.length c0_2)] 53 (0, 0))) ∧ Aside0 (wc.heap[gb239]? = some (.cells #[(.slice none 0 0), .int .i64 0, (.slice none 0 0)] 53 (0, 0))) ∧ Aside0 (wc.heap[gb248]? = some (.cells #[(.slice Ao17 t241.length co17), .int .i64 t244, (.slice Ao20 t245.length co20)] 53 (0, 0))) ∧ Aside0 (Below w.heap.size w wc))
  case first =>
   have H := HC10.out
   clear HC10
   replace H := Option.bind_eq_some_iff.mp H
   obtain ⟨t249, A220, H⟩ := H
   replace H : (if t249 = true then ((impl_PointsRight.f k l1).bind fun t250 => (impl_HistAdd.j0 k l1 (wrap64 ((l0_0.length : Int) - 1)) (!t250) l0_0 a0_1 l0_2 t241 t244 t245)) else (impl_HistAdd.j0 k l1 (wrap64 ((l0_0.length : Int) - 1)) true l0_0 a0_1 l0_2 t241 t244 t245)) = some (r1, r2, r3) := H
   have A22 := Aside0.mk A220
   clear A220
   by_cases c23 : t249 = true
   ·subst c23
    have H1 : ((impl_PointsRight.f k l1).bind fun t250 => (impl_HistAdd.j0 k l1 (wrap64 ((l0_0.length : Int) - 1)) (!t250) l0_0 a0_1 l0_2 t241 t244 t245)) = some (r1, r2, r3) := by rw [if_pos rfl] at H; exact H
    clear H
    have H := H1
    clear H1
    replace H := Option.bind_eq_some_iff.mp H
    obtain ⟨t250, A240, H⟩ := H
    replace H : (impl_HistAdd.j0 k l1 (wrap64 ((l0_0.length : Int) - 1)) (!t250) l0_0 a0_1 l0_2 t241 t244 t245) = some (r1, r2, r3) := H
    have A24 := Aside0.mk A240
    clear A240
    have H' := Aside0.mk H
    clear H
    have hnb25 := NB238_239.out
    have hnc25 := NB239_238.out
    have hnb26 := NB238_248.out
    have hnc26 := NB248_238.out
    have hcz27_0 : w16.cell? ⟨gb238, 0, none⟩ = some (.slice A0_0 l0_0.length c0_0) := bc BK238.out 0
    have hcz27_1 : w16.cell? ⟨gb238, 1, none⟩ = some (.int .i64 a0_1) := bc BK238.out 1
    have hcz27_2 : w16.cell? ⟨gb238, 2, none⟩ = some (.slice A0_2 l0_2.length c0_2) := bc BK238.out 2
    have hfz27_0 := blk_frozen BK238.out 0
    have hfz27_1 := blk_frozen BK238.out 1
    have hfz27_2 := blk_frozen BK238.out 2
    go_wp2_with (first | ((with_reducible refine gate_callee (f := 79) rfl ?_); refine gl (some 18) Try.func79 #[.agg #[.slice A0_0 l0_0.length c0_0, .int .i64 a0_1, .slice A0_2 l0_2.length c0_2]] ?_; (with_reducible refine (impl_HistRight.calls k _ _ l0_0 a0_1 _ _ l0_2 true _ ?side1 ?side2 ?side3 ?side4 A22.out).mono ?_); (case side1 => exact Kd.C_below HR0_0.out (bl HB.out)); (case side2 => exact HC0_0.out); (case side3 => exact Kd.C_below HR0_2.out (bl HB.out)); (case side4 => exact HC0_2.out); rintro e w28 ⟨rfl, hb⟩; refine ⟨_, rfl, ?_⟩; replace HO243 := am (Kd.S_below (ks ((Kd.S_mono (Kd.S_far (p := ⟨gb248, 2, none⟩) (Kd.S_far (p := ⟨gb248, 1, none⟩) (Kd.S_far (p := ⟨gb248, 0, none⟩) (Kd.S_types HO243.out BK248.out (by decide)) (fun _ hk => hk.2) (.slice Ao17 t241.length co17)) (fun _ hk => hk.2) (.int .i64 t244)) (fun _ hk => hk.2) (.slice Ao20 t245.length co20)) (fun _ h_ => h_.1)))) hb); replace HO247 := am (Kd.R_below (kr ((Kd.R_mono (Kd.R_far (p := ⟨gb248, 2, none⟩) (Kd.R_far (p := ⟨gb248, 1, none⟩) (Kd.R_far (p := ⟨gb248, 0, none⟩) (Kd.R_types HO247.out BK248.out (by decide)) (fun _ hk => hk.2) (.slice Ao17 t241.length co17)) (fun _ hk => hk.2) (.int .i64 t244)) (fun _ hk => hk.2) (.slice Ao20 t245.length co20)) (fun _ h_ => h_.1)))) hb); replace BK238 := am (blk_below (g := gb238) (o := .cells #[.slice A0_0 l0_0.length c0_0, .int .i64 a0_1, .slice A0_2 l0_2.length c0_2] 53 (0, 0)) (by refine pk ?_; refine blk_far ?_ NB238_248.out _; refine pk ?_; refine blk_far ?_ NB238_248.out _; refine pk ?_; refine blk_far ?_ NB238_248.out _; refine pk ?_; exact BK238.out) hb); replace BK239 := am (blk_below (g := gb239) (o := .cells #[.slice none 0 0, .int .i64 0, .slice none 0 0] 53 (0, 0)) (by refine pk ?_; refine blk_far ?_ NB239_248.out _; refine pk ?_; refine blk_far ?_ NB239_248.out _; refine pk ?_; refine blk_far ?_ NB239_248.out _; refine pk ?_; exact BK239.out) hb); replace BK248 := am (blk_below (g := gb248) (o := .cells #[.slice Ao17 t241.length co17, .int .i64 t244, .slice Ao20 t245.length co20] 53 (0, 0)) (by refine pk ?_; refine blk_put (cs := #[.slice Ao17 t241.length co17, .int .i64 t244, .slice none 0 0]) ?_ 2 _ rfl; refine pk ?_; refine blk_put (cs := #[.slice Ao17 t241.length co17, .int .i64 0, .slice none 0 0]) ?_ 1 _ rfl; refine pk ?_; refine blk_put (cs := #[.slice none 0 0, .int .i64 0, .slice none 0 0]) ?_ 0 _ rfl; refine pk ?_; exact BK248.out) hb); replace HB := am (below_step (bl HB.out) hb); (try clear hb); (try clear hb2); (try clear hk); (try clear hi)) | (go_at_call 80; (with_reducible refine (impl_PointsRight.calls k _ _ l1 t250 _ ?side1 ?side2 A24.out).mono ?_); (case side1 => repeat (first | exact (Kd.C_below HR1.out HB.out) | (with_reducible refine Kd.C_alloc ?_ _) | (with_reducible refine Kd.C_drewN ?_ _) | (with_reducible refine Kd.C_drew ?_))); (case side2 => exact HC1.out); rintro e w' ⟨rfl, ⟨nd, rfl⟩⟩))
    go_meet
    case rel => exact ⟨_, (!t250), (by first | rfl | (simp; done) | (simp [*]; done)), H', ⟨by first | omega | exact Nat.le_refl _⟩, ⟨Kd.T_of_S (ks HO243.out)⟩, ⟨kr HO247.out⟩, ⟨pk BK238.out⟩, ⟨pk BK239.out⟩, ⟨pk BK248.out⟩, ⟨by repeat (first | (with_reducible first | exact HB.out | apply below_alloc | apply pw_below_drewN | apply below_drew1 | refine below_set ?_ GE238.out | refine below_set ?_ GE239.out | refine below_set ?_ GE248.out) | exact HB.out)⟩⟩
   ·replace c23 := Bool.eq_false_iff.mpr c23
    subst c23
    have H1 : (impl_HistAdd.j0 k l1 (wrap64 ((l0_0.length : Int) - 1)) true l0_0 a0_1 l0_2 t241 t244 t245) = some (r1, r2, r3) := by rw [if_neg (show ¬ (false = true) by decide)] at H; exact H
    clear H
    have H := H1
    clear H1
    have H' := Aside0.mk H
    clear H
    have hnb29 := NB238_239.out
    have hnc29 := NB239_238.out
    have hnb30 := NB238_248.out
    have hnc30 := NB248_238.out
    have hcz31_0 : w16.cell? ⟨gb238, 0, none⟩ = some (.slice A0_0 l0_0.length c0_0) := bc BK238.out 0
    have hcz31_1 : w16.cell? ⟨gb238, 1, none⟩ = some (.int .i64 a0_1) := bc BK238.out 1
    have hcz31_2 : w16.cell? ⟨gb238, 2, none⟩ = some (.slice A0_2 l0_2.length c0_2) := bc BK238.out 2
    have hfz31_0 := blk_frozen BK238.out 0
    have hfz31_1 := blk_frozen BK238.out 1
    have hfz31_2 := blk_frozen BK238.out 2
    go_wp2_with (first | ((with_reducible refine gate_callee (f := 79) rfl ?_); refine gl (some 18) Try.func79 #[.agg #[.slice A0_0 l0_0.length c0_0, .int .i64 a0_1, .slice A0_2 l0_2.length c0_2]] ?_; (with_reducible refine (impl_HistRight.calls k _ _ l0_0 a0_1 _ _ l0_2 false _ ?side1 ?side2 ?side3 ?side4 A22.out).mono ?_); (case side1 => exact Kd.C_below HR0_0.out (bl HB.out)); (case side2 => exact HC0_0.out); (case side3 => exact Kd.C_below HR0_2.out (bl HB.out)); (case side4 => exact HC0_2.out); rintro e w32 ⟨rfl, hb⟩; refine ⟨_, rfl, ?_⟩; replace HO243 := am (Kd.S_below (ks ((Kd.S_mono (Kd.S_far (p := ⟨gb248, 2, none⟩) (Kd.S_far (p := ⟨gb248, 1, none⟩) (Kd.S_far (p := ⟨gb248, 0, none⟩) (Kd.S_types HO243.out BK248.out (by decide)) (fun _ hk => hk.2) (.slice Ao17 t241.length co17)) (fun _ hk => hk.2) (.int .i64 t244)) (fun _ hk => hk.2) (.slice Ao20 t245.length co20)) (fun _ h_ => h_.1)))) hb); replace HO247 := am (Kd.R_below (kr ((Kd.R_mono (Kd.R_far (p := ⟨gb248, 2, none⟩) (Kd.R_far (p := ⟨gb248, 1, none⟩) (Kd.R_far (p := ⟨gb248, 0, none⟩) (Kd.R_types HO247.out BK248.out (by decide)) (fun _ hk => hk.2) (.slice Ao17 t241.length co17)) (fun _ hk => hk.2) (.int .i64 t244)) (fun _ hk => hk.2) (.slice Ao20 t245.length co20)) (fun _ h_ => h_.1)))) hb); replace BK238 := am (blk_below (g := gb238) (o := .cells #[.slice A0_0 l0_0.length c0_0, .int .i64 a0_1, .slice A0_2 l0_2.length c0_2] 53 (0, 0)) (by refine pk ?_; refine blk_far ?_ NB238_248.out _; refine pk ?_; refine blk_far ?_ NB238_248.out _; refine pk ?_; refine blk_far ?_ NB238_248.out _; refine pk ?_; exact BK238.out) hb); replace BK239 := am (blk_below (g := gb239) (o := .cells #[.slice none 0 0, .int .i64 0, .slice none 0 0] 53 (0, 0)) (by refine pk ?_; refine blk_far ?_ NB239_248.out _; refine pk ?_; refine blk_far ?_ NB239_248.out _; refine pk ?_; refine blk_far ?_ NB239_248.out _; refine pk ?_; exact BK239.out) hb); replace BK248 := am (blk_below (g := gb248) (o := .cells #[.slice Ao17 t241.length co17, .int .i64 t244, .slice Ao20 t245.length co20] 53 (0, 0)) (by refine pk ?_; refine blk_put (cs := #[.slice Ao17 t241.length co17, .int .i64 t244, .slice none 0 0]) ?_ 2 _ rfl; refine pk ?_; refine blk_put (cs := #[.slice Ao17 t241.length co17, .int .i64 0, .slice none 0 0]) ?_ 1 _ rfl; refine pk ?_; refine blk_put (cs := #[.slice none 0 0, .int .i64 0, .slice none 0 0]) ?_ 0 _ rfl; refine pk ?_; exact BK248.out) hb); replace HB := am (below_step (bl HB.out) hb); (try clear hb); (try clear hb2); (try clear hk); (try clear hi)))
    go_meet
    case rel => exact ⟨_, (true), (by first | rfl | (simp; done) | (simp [*]; done)), H', ⟨by first | omega | exact Nat.le_refl _⟩, ⟨Kd.T_of_S (ks HO243.out)⟩, ⟨kr HO247.out⟩, ⟨pk BK238.out⟩, ⟨pk BK239.out⟩, ⟨pk BK248.out⟩, ⟨by repeat (first | (with_reducible first | exact HB.out | apply below_alloc | apply pw_below_drewN | apply below_drew1 | refine below_set ?_ GE238.out | refine below_set ?_ GE239.out | refine below_set ?_ GE248.out) | exact HB.out)⟩⟩
  case rest =>
   clear HC10
   try clear c1
   try clear c2
   try clear p2
   try clear c3
   try clear c4
   try clear p6
   try clear c7
   try clear c23
   try clear c25
   try clear c26
   try clear c29
   try clear c30
   try clear hcz27_0
   try clear hcz27_1
   try clear hcz27_2
   try clear hcz31_0
   try clear hcz31_1
   try clear hcz31_2
   try clear hcz8_0
   try clear hcz8_1
   try clear hcz8_2
   try clear hfz27_0
   try clear hfz27_1
   try clear hfz27_2
   try clear hfz31_0
   try clear hfz31_1
   try clear hfz31_2
   try clear hfz8_0
   try clear hfz8_1
   try clear hfz8_2
   obtain ⟨kq, x24_9, rfl, HA, HJ9, HO_249000, HO_249002, BK238, BK239, BK248, HB⟩ := hcut
   cases kq with
   | zero => exact absurd HA.out (by simp [impl_HistAdd.j0])
   | succ kj9 =>
    have H := HA.out
    clear HA
    simp only [impl_HistAdd.j0] at H
    by_cases c33 : x24_9 = true
    ·subst c33
     have H1 : (some (t241, t244, t245)) = some (r1, r2, r3) := by rw [if_pos rfl] at H; exact H
     clear H
     have H := H1
     clear H1
     simp only [Option.some.injEq, Prod.mk.injEq] at H
     obtain ⟨rfl, rfl, rfl⟩ := H
     have hnb34 := NB248_238.out
     have hnc34 := NB238_248.out
     have hnb35 := NB248_239.out
     have hnc35 := NB239_248.out
     have hcz36_0 : wc.cell? ⟨gb248, 0, none⟩ = some (.slice Ao17 t241.length co17) := bc BK248.out 0
     have hcz36_1 : wc.cell? ⟨gb248, 1, none⟩ = some (.int .i64 t244) := bc BK248.out 1
     have hcz36_2 : wc.cell? ⟨gb248, 2, none⟩ = some (.slice Ao20 t245.length co20) := bc BK248.out 2
     have hfz36_0 := blk_frozen BK248.out 0
     have hfz36_1 := blk_frozen BK248.out 1
     have hfz36_2 := blk_frozen BK248.out 2
     have hnb37 := NB239_238.out
     have hnc37 := NB238_239.out
     have hcz38_0 : wc.cell? ⟨gb239, 0, none⟩ = some (.slice none 0 0) := bc BK239.out 0
     have hcz38_1 : wc.cell? ⟨gb239, 1, none⟩ = some (.int .i64 0) := bc BK239.out 1
     have hcz38_2 : wc.cell? ⟨gb239, 2, none⟩ = some (.slice none 0 0) := bc BK239.out 2
     have hfz38_0 := blk_frozen BK239.out 0
     have hfz38_1 := blk_frozen BK239.out 1
     have hfz38_2 := blk_frozen BK239.out 2
     go_wp2
     refine bodyPost_ret (results_cell_row rfl _ _ gb239 53 #[.slice Ao17 t241.length co17, .int .i64 t244, .slice Ao20 t245.length co20] (0, 0) _ rfl (by refine pk ?_; refine blk_put (cs := #[.slice Ao17 t241.length co17, .int .i64 t244, .slice none 0 0]) ?_ 2 _ rfl; refine pk ?_; refine blk_put (cs := #[.slice Ao17 t241.length co17, .int .i64 0, .slice none 0 0]) ?_ 1 _ rfl; refine pk ?_; refine blk_put (cs := #[.slice none 0 0, .int .i64 0, .slice none 0 0]) ?_ 0 _ rfl; refine pk ?_; exact BK239.out) Try.underlying53 rfl (by kernel_rfl)) rfl ?_
     exact ⟨_, _, by first | rfl | (simp [errW_none, errW_some] <;> rfl) | (simp [*, errW_none, errW_some] <;> rfl), by (with_reducible repeat (first | apply Kd.T_alloc | apply Kd.T_drewN | apply Kd.T_drew)); exact Kd.T_mono (Kd.T_far (p := ⟨gb239, 2, none⟩) (Kd.T_far (p := ⟨gb239, 1, none⟩) (Kd.T_far (p := ⟨gb239, 0, none⟩) (Kd.T_types HO_249000.out BK239.out (by decide)) (fun _ hk => hk.2) (.slice Ao17 t241.length co17)) (fun _ hk => hk.2) (.int .i64 t244)) (fun _ hk => hk.2) (.slice Ao20 t245.length co20)) (fun _ hk => hk.1), kr (Kd.R_mono (Kd.R_far (p := ⟨gb239, 2, none⟩) (Kd.R_far (p := ⟨gb239, 1, none⟩) (Kd.R_far (p := ⟨gb239, 0, none⟩) (Kd.R_types HO_249002.out BK239.out (by decide)) (fun _ hk => hk.2) (.slice Ao17 t241.length co17)) (fun _ hk => hk.2) (.int .i64 t244)) (fun _ hk => hk.2) (.slice Ao20 t245.length co20)) (fun _ hk => trivial)), by repeat (first | (with_reducible first | exact HB.out | apply below_alloc | apply pw_below_drewN | apply below_drew1 | refine below_set ?_ GE238.out | refine below_set ?_ GE239.out | refine below_set ?_ GE248.out) | exact HB.out)⟩
    ·replace c33 := Bool.eq_false_iff.mpr c33
     subst c33
     have H1 : (if (l1.length : Int) > 0 then (if (wrap64 ((l0_0.length : Int) - 1)) < 0 then (impl_HistAdd.j1 kj9 l1 true t241 t244 t245) else (if 0 ≤ (wrap64 ((l0_0.length : Int) - 1)) then (if (wrap64 ((l0_0.length : Int) - 1)) < (l0_0.length : Int) then ((slices_Equal_sint64_int64.f kj9 l1 (rd_L1 l0_0 (wrap64 ((l0_0.length : Int) - 1)))).bind fun t252 => (impl_HistAdd.j1 kj9 l1 (!t252) t241 t244 t245)) else (none)) else (none))) else (impl_HistAdd.j1 kj9 l1 false t241 t244 t245)) = some (r1, r2, r3) := by rw [if_neg (show ¬ (false = true) by decide)] at H; exact H
     clear H
     have H := H1
     clear H1
     have HC39 := Aside0.mk H
     clear H
     go_upto_region 6 with (fail)
     go_cut [42] (fun v42 wc => ∃ (kq : Nat) (x42_38 : Bool), v42 = .bool x42_38 ∧ Aside0 (impl_HistAdd.j1 kq l1 x42_38 t241 t244 t245 = some (r1, r2, r3)) ∧ Aside0 (kq ≤ kj9) ∧ Aside0 (Kd.T (Kd.slice 2 (Kd.int .i64)) 37 wc w.heap.size (fun k_ => some k_ ≠ ((.slice Ao20 t245.length co20) : Value).ownBlock) (.slice Ao17 t241.length co17) t241) ∧ Aside0 (Kd.R (Kd.int .i64) 2 wc w.heap.size (fun _ => True) (.slice Ao20 t245.length co20) t245) ∧ Aside0 (wc.heap[gb238]? = some (.cells #[(.slice A0_0 l0_0.length c0_0), .int .i64 a0_1, (.slice A0_2 l0_2.length c0_2)] 53 (0, 0))) ∧ Aside0 (wc.heap[gb239]? = some (.cells #[(.slice none 0 0), .int .i64 0, (.slice none 0 0)] 53 (0, 0))) ∧ Aside0 (wc.heap[gb248]? = some (.cells #[(.slice Ao17 t241.length co17), .int .i64 t244, (.slice Ao20 t245.length co20)] 53 (0, 0))) ∧ Aside0 (Below w.heap.size w wc))
     case first =>
      have H := HC39.out
      clear HC39
      by_cases c40 : (l1.length : Int) > 0
      ·rw [if_pos c40] at H
       have c40b0 : decide (0 < (l1.length : Int)) = true := decide_eq_true c40
       have c40b1 : decide (0 < l1.length) = true := decide_eq_true (by omega)
       clear c40
       (first | rw [c40b0] | (simp only [i64_w, i32_w]; rw [c40b0]) | (have e9_ := c40b0; unfold bne at e9_; rw [e9_]) | skip)
       by_cases c41 : (wrap64 ((l0_0.length : Int) - 1)) < 0
       ·rw [if_pos c41] at H
        have c41b0 : decide ((wrap64 ((l0_0.length : Int) - 1)) < 0) = true := decide_eq_true c41
        clear c41
        have H' := Aside0.mk H
        clear H
        go_wp2
        go_meet
        case rel => exact ⟨_, (true), (by first | rfl | (simp; done) | (simp [*]; done)), H', ⟨by have := HJ9.out; first | omega | exact Nat.le_refl _⟩, ⟨by (with_reducible repeat (first | apply Kd.T_alloc | apply Kd.T_drewN | apply Kd.T_drew)); exact HO_249000.out⟩, ⟨kr HO_249002.out⟩, ⟨pk BK238.out⟩, ⟨pk BK239.out⟩, ⟨pk BK248.out⟩, ⟨by repeat (first | (with_reducible first | exact HB.out | apply below_alloc | apply pw_below_drewN | apply below_drew1 | refine below_set ?_ GE238.out | refine below_set ?_ GE239.out | refine below_set ?_ GE248.out) | exact HB.out)⟩⟩
       ·rw [if_neg c41] at H
        have c41b0 : decide ((wrap64 ((l0_0.length : Int) - 1)) < 0) = false := decide_eq_false c41
        clear c41
        obtain ⟨ji42, hji42⟩ : ∃ j_ : Int, (wrap64 ((l0_0.length : Int) - 1)) = j_ := ⟨_, rfl⟩
        replace H : (if 0 ≤ (ji42) then (if (ji42) < (l0_0.length : Int) then ((slices_Equal_sint64_int64.f kj9 l1 (rd_L1 l0_0 (ji42))).bind fun t252 => (impl_HistAdd.j1 kj9 l1 (!t252) t241 t244 t245)) else (none)) else (none)) = some (r1, r2, r3) := by first | (rw [hji42] at H; exact H) | (simp only [hji42] at H ⊢; exact H)
        (try rw [hji42] at c41b0)
        have hji42w : (IntKind.i64.wrap ((l0_0.length : Int) - 1)) = ji42 := (i64_w _).trans hji42
        by_cases c43 : 0 ≤ (ji42)
        ·rw [if_pos c43] at H
         have c43b0 : decide (0 ≤ (ji42)) = true := decide_eq_true c43
         clear c43
         by_cases c44 : (ji42) < (l0_0.length : Int)
         ·rw [if_pos c44] at H
          have c44b0 : decide ((ji42) < (l0_0.length : Int)) = true := decide_eq_true c44
          clear c44
          replace H := Option.bind_eq_some_iff.mp H
          obtain ⟨t252, A450, H⟩ := H
          replace H : (impl_HistAdd.j1 kj9 l1 (!t252) t241 t244 t245) = some (r1, r2, r3) := H
          have A45 := Aside0.mk A450
          clear A450
          have H' := Aside0.mk H
          clear H
          have hnb46 := NB238_239.out
          have hnc46 := NB239_238.out
          have hnb47 := NB238_248.out
          have hnc47 := NB248_238.out
          have hcz48_0 : wc.cell? ⟨gb238, 0, none⟩ = some (.slice A0_0 l0_0.length c0_0) := bc BK238.out 0
          have hcz48_1 : wc.cell? ⟨gb238, 1, none⟩ = some (.int .i64 a0_1) := bc BK238.out 1
          have hcz48_2 : wc.cell? ⟨gb238, 2, none⟩ = some (.slice A0_2 l0_2.length c0_2) := bc BK238.out 2
          have hfz48_0 := blk_frozen BK238.out 0
          have hfz48_1 := blk_frozen BK238.out 1
          have hfz48_2 := blk_frozen BK238.out 2
          have p251 : 0 ≤ ((ji42) : Int) := of_decide_eq_true (by first | (with_reducible assumption) | assumption)
          have q251 : (ji42) < (l0_0.length : Int) := of_decide_eq_true (by first | (with_reducible assumption) | assumption)
          obtain ⟨ad251, A251_0, c251_0, e251, hx251_0, hl251_0, hi251_0⟩ := at_L1 HR0_0.out (ji42) p251 q251
          cases e251
          have hxw251_0 := hx251_0
          replace hx251_0 := (HB.out.cell (World.block_lt_of_cell? w _ hx251_0)).trans hx251_0
          have HR251_0 := am hi251_0
          have HC251_0 := am hl251_0
          clear hi251_0 hl251_0
          replace p251 := eq_true p251
          replace q251 := eq_true q251
          go_wp2_with (first | (go_at_call 81; (with_reducible refine (slices_Equal_sint64_int64.calls kj9 _ _ l1 _ _ (rd_L1 l0_0 (ji42)) t252 _ ?side1 ?side2 ?side3 ?side4 A45.out).mono ?_); (case side1 => repeat (first | exact (Kd.C_below HR1.out HB.out) | (with_reducible refine Kd.C_alloc ?_ _) | (with_reducible refine Kd.C_drewN ?_ _) | (with_reducible refine Kd.C_drew ?_))); (case side2 => exact HC1.out); (case side3 => repeat (first | exact (Kd.C_below HR251_0.out HB.out) | (with_reducible refine Kd.C_alloc ?_ _) | (with_reducible refine Kd.C_drewN ?_ _) | (with_reducible refine Kd.C_drew ?_))); (case side4 => exact HC251_0.out); rintro e w' ⟨rfl, ⟨nd, rfl⟩⟩))
          (try subst hji42)
          go_meet
          case rel => exact ⟨_, (!t252), (by first | rfl | (simp; done) | (simp [*]; done)), H', ⟨by have := HJ9.out; first | omega | exact Nat.le_refl _⟩, ⟨by (with_reducible repeat (first | apply Kd.T_alloc | apply Kd.T_drewN | apply Kd.T_drew)); exact HO_249000.out⟩, ⟨kr HO_249002.out⟩, ⟨pk BK238.out⟩, ⟨pk BK239.out⟩, ⟨pk BK248.out⟩, ⟨by repeat (first | (with_reducible first | exact HB.out | apply below_alloc | apply pw_below_drewN | apply below_drew1 | refine below_set ?_ GE238.out | refine below_set ?_ GE239.out | refine below_set ?_ GE248.out) | exact HB.out)⟩⟩
         ·rw [if_neg c44] at H
          exact absurd H (by simp)
        ·rw [if_neg c43] at H
         exact absurd H (by simp)
      ·rw [if_neg c40] at H
       have c40b0 : decide (0 < (l1.length : Int)) = false := decide_eq_false c40
       have c40b1 : decide (0 < l1.length) = false := decide_eq_false (by omega)
       clear c40
       (first | rw [c40b0] | (simp only [i64_w, i32_w]; rw [c40b0]) | (have e9_ := c40b0; unfold bne at e9_; rw [e9_]) | skip)
       have H' := Aside0.mk H
       clear H
       go_wp2
       go_meet
       case rel => exact ⟨_, (false), (by first | rfl | (simp; done) | (simp [*]; done)), H', ⟨by have := HJ9.out; first | omega | exact Nat.le_refl _⟩, ⟨by (with_reducible repeat (first | apply Kd.T_alloc | apply Kd.T_drewN | apply Kd.T_drew)); exact HO_249000.out⟩, ⟨kr HO_249002.out⟩, ⟨pk BK238.out⟩, ⟨pk BK239.out⟩, ⟨pk BK248.out⟩, ⟨by repeat (first | (with_reducible first | exact HB.out | apply below_alloc | apply pw_below_drewN | apply below_drew1 | refine below_set ?_ GE238.out | refine below_set ?_ GE239.out | refine below_set ?_ GE248.out) | exact HB.out)⟩⟩
     case rest =>
      clear HC39
      try clear c1
      try clear c2
      try clear p2
      try clear q2
      try clear hx2
      try clear c3
      try clear c4
      try clear p6
      try clear c7
      try clear c23
      try clear c25
      try clear p25
      try clear q25
      try clear hx25
      try clear c26
      try clear c29
      try clear c30
      try clear c33
      try clear c34
      try clear c35
      try clear c37
      try clear c40
      try clear c40b0
      try clear c40b1
      try clear c41
      try clear c41b0
      try clear c43
      try clear c43b0
      try clear c44
      try clear c44b0
      try clear c46
      try clear c47
      try clear hcz27_0
      try clear hcz27_1
      try clear hcz27_2
      try clear hcz31_0
      try clear hcz31_1
      try clear hcz31_2
      try clear hcz36_0
      try clear hcz36_1
      try clear hcz36_2
      try clear hcz38_0
      try clear hcz38_1
      try clear hcz38_2
      try clear hcz48_0
      try clear hcz48_1
      try clear hcz48_2
      try clear hcz8_0
      try clear hcz8_1
      try clear hcz8_2
      try clear hfz27_0
      try clear hfz27_1
      try clear hfz27_2
      try clear hfz31_0
      try clear hfz31_1
      try clear hfz31_2
      try clear hfz36_0
      try clear hfz36_1
      try clear hfz36_2
      try clear hfz38_0
      try clear hfz38_1
      try clear hfz38_2
      try clear hfz48_0
      try clear hfz48_1
      try clear hfz48_2
      try clear hfz8_0
      try clear hfz8_1
      try clear hfz8_2
      try clear hx251_0
      try clear p2
      try clear p251
      try clear p6
      try clear q251
      obtain ⟨kq, x42_38, rfl, HA, HJ38, HO_249000, HO_249002, BK238, BK239, BK248, HB⟩ := hcut
      cases kq with
      | zero => exact absurd HA.out (by simp [impl_HistAdd.j1])
      | succ kj38 =>
       have H := HA.out
       clear HA
       simp only [impl_HistAdd.j1] at H
       by_cases c49 : x42_38 = true
       ·subst c49
        have H1 : ((slices_Clone_sint64_int64.f l1).bind fun t253 => (if t241.length < 5864062014805 then ((some (t241 ++ [t253] : List (List Int))).bind fun y256 => (if 0 ≤ (mx (wrap64 ((y256.length : Int) - 30)) 0) then (if (mx (wrap64 ((y256.length : Int) - 30)) 0) ≤ (y256.length : Int) then ((some (y256.drop ((mx (wrap64 ((y256.length : Int) - 30)) 0) : Int).toNat : List (List Int))).bind fun y259 => ((impl_size_sint64.f y259).bind fun t262 => (some (y259, t262, ([] : List Int))))) else (none)) else (none))) else (none))) = some (r1, r2, r3) := by rw [if_pos rfl] at H; exact H
        clear H
        have H := H1
        clear H1
        replace H := Option.bind_eq_some_iff.mp H
        obtain ⟨t253, A500, H⟩ := H
        replace H : (if t241.length < 5864062014805 then ((some (t241 ++ [t253] : List (List Int))).bind fun y256 => (if 0 ≤ (mx (wrap64 ((y256.length : Int) - 30)) 0) then (if (mx (wrap64 ((y256.length : Int) - 30)) 0) ≤ (y256.length : Int) then ((some (y256.drop ((mx (wrap64 ((y256.length : Int) - 30)) 0) : Int).toNat : List (List Int))).bind fun y259 => ((impl_size_sint64.f y259).bind fun t262 => (some (y259, t262, ([] : List Int))))) else (none)) else (none))) else (none)) = some (r1, r2, r3) := H
        have A50 := Aside0.mk A500
        clear A500
        by_cases c51 : t241.length < 5864062014805
        ·rw [if_pos c51] at H
         have LMc51 := Aside0.mk c51
         clear c51
         obtain ⟨y256, hy256⟩ : ∃ y_ : List (List Int), y_ = (t241 ++ [t253]) := ⟨_, rfl⟩
         replace H : (if 0 ≤ (mx (wrap64 ((y256.length : Int) - 30)) 0) then (if (mx (wrap64 ((y256.length : Int) - 30)) 0) ≤ (y256.length : Int) then ((some (y256.drop ((mx (wrap64 ((y256.length : Int) - 30)) 0) : Int).toNat : List (List Int))).bind fun y259 => ((impl_size_sint64.f y259).bind fun t262 => (some (y259, t262, ([] : List Int))))) else (none)) else (none)) = some (r1, r2, r3) := by first | (rw [hy256]; with_reducible exact H) | (have H2_ := (Option.bind_some _ _).symm.trans H; rw [hy256]; with_reducible exact H2_) | (have H2_ := (Option.bind_some _ _).symm.trans H; with_reducible exact H2_) | with_reducible exact H | (rw [hy256]; exact H) | exact H
         have Ny256 := am hy256
         clear hy256
         obtain ⟨ji52, hji52⟩ : ∃ j_ : Int, (mx (wrap64 ((y256.length : Int) - 30)) 0) = j_ := ⟨_, rfl⟩
         replace H : (if 0 ≤ (ji52) then (if (ji52) ≤ (y256.length : Int) then ((some (y256.drop ((ji52) : Int).toNat : List (List Int))).bind fun y259 => ((impl_size_sint64.f y259).bind fun t262 => (some (y259, t262, ([] : List Int))))) else (none)) else (none)) = some (r1, r2, r3) := by first | (rw [hji52] at H; exact H) | (simp only [hji52] at H ⊢; exact H)
         (try rw [hji52] at A50)
         (try (have hji52l : 0 ≤ ji52 := by (rw [← hji52]; unfold mx; (repeat' split) <;> omega)))
         (try (have hji52m : 0 ≤ ji52 := by omega))
         have hji52_ : (if (wrap64 ((y256.length : Int) - 30)) < 0 then 0 else (wrap64 ((y256.length : Int) - 30))) = ji52 := hji52
         by_cases c53 : 0 ≤ (ji52)
         ·rw [if_pos c53] at H
          have c53b0 := eq_true c53
          have c53b1 : decide (0 ≤ (ji52)) = true := decide_eq_true c53
          clear c53
          by_cases c54 : (ji52) ≤ (y256.length : Int)
          ·rw [if_pos c54] at H
           have c54b0 := eq_true c54
           have c54b1 : decide ((ji52) ≤ (y256.length : Int)) = true := decide_eq_true c54
           clear c54
           obtain ⟨y259, hy259⟩ : ∃ y_ : List (List Int), y_ = (y256.drop ((ji52) : Int).toNat) := ⟨_, rfl⟩
           replace H : ((impl_size_sint64.f y259).bind fun t262 => (some (y259, t262, ([] : List Int)))) = some (r1, r2, r3) := by first | (rw [hy259]; with_reducible exact H) | (have H2_ := (Option.bind_some _ _).symm.trans H; rw [hy259]; with_reducible exact H2_) | (have H2_ := (Option.bind_some _ _).symm.trans H; with_reducible exact H2_) | with_reducible exact H | (rw [hy259]; exact H) | exact H
           have Ny259 := am hy259
           clear hy259
           replace H := Option.bind_eq_some_iff.mp H
           obtain ⟨t262, A550, H⟩ := H
           replace H : (some (y259, t262, ([] : List Int))) = some (r1, r2, r3) := H
           have A55 := Aside0.mk A550
           clear A550
           simp only [Option.some.injEq, Prod.mk.injEq] at H
           obtain ⟨rfl, rfl, rfl⟩ := H
           try go_wp2
           replace HO_249000 := am (Kd.T_drew HO_249000.out)
           replace HO_249002 := am (Kd.R_drew HO_249002.out)
           replace BK238 := am (blk_drew BK238.out)
           replace BK239 := am (blk_drew BK239.out)
           replace BK248 := am (blk_drew BK248.out)
           replace HB := am (below_drew1 HB.out)
           refine start_ (n := 8) (S := fun w' => w'.cell? ⟨gb248, 0, none⟩ = some (.slice Ao17 t241.length co17) ∧ w'.cell? ⟨gb248, 1, none⟩ = some (.int .i64 t244) ∧ w'.cell? ⟨gb248, 2, none⟩ = some (.slice Ao20 t245.length co20)) (ds := [7]) #[false, false, false, false, false, false, false, false] (by kernel_rfl) rfl rfl ⟨bc BK248.out 0, bc BK248.out 1, bc BK248.out 2⟩ (fun hHeld => ?_); refine with_tabW impl_HistAdd.tab7 impl_HistAdd.bits7 (fun HT_ HW_ => ?_)
           generalize wc.drew = w56 at HO_249000 HO_249002 BK238 BK239 BK248 HB hHeld ⊢
           refine pure_ (i := 0) (N := some 43) (v := ?_) (a' := ?_) #[true, false, false, false, false, false, false, false] rfl rfl (any_of HT_.out (by kernel_rfl)) (fun _ _ _ h => h) (Or.inl ⟨by rfl, ?_⟩) ?_ ?_; rotate_left
           ·intro w'; go_simp; with_reducible rfl
           rotate_left
           ·simp only [Act.put, sa_, s0_, ss_, i64_w, i32_w]; rfl
           refine pure_ (i := 2) (N := some 45) (v := ?_) (a' := ?_) #[true, false, true, false, false, false, false, false] rfl rfl (any_of HT_.out (by kernel_rfl)) (fun _ _ _ h => h) (Or.inl ⟨by rfl, ?_⟩) ?_ ?_; rotate_left
           ·intro w'; go_simp; with_reducible rfl
           rotate_left
           ·simp only [Act.put, sa_, s0_, ss_, i64_w, i32_w]; rfl
           refine take_ (i := 1) (N := some 44) (v := ?_) (a' := ?_) #[true, true, true, false, false, false, false, false] rfl rfl (take_ofW HT_.out HW_.out (by kernel_rfl)) (fun _ _ _ h => h) (Or.inl ⟨by rfl, ?_⟩) hHeld ?_ ?_; rotate_left
           ·rintro w' ⟨s0, s1, s2⟩; go_simp; with_reducible rfl
           rotate_left
           ·simp only [Act.put, sa_, s0_, ss_, i64_w, i32_w]; rfl
           refine one_ (i := 3) (N := some 46) #[true, true, true, true, false, false, false, false] rfl rfl (one_of HT_.out (by kernel_rfl)) (by decide) (fun K hK => ?_)
           refine gs_ Try.func82 #[.slice A1 l1.length c1] ?_
           with_reducible refine (slices_Clone_sint64_int64.calls _ _ l1 t253 _ ?side1 ?side2 A50.out).mono ?_
           (case side1 => repeat (first | exact (Kd.C_below HR1.out HB.out) | (with_reducible refine Kd.C_alloc ?_ _) | (with_reducible refine Kd.C_drewN ?_ _) | (with_reducible refine Kd.C_drew ?_)))
           (case side2 => exact HC1.out)
           rintro e w57 ⟨v254, rfl, ho0, hb⟩
           refine ⟨_, rfl, ?_⟩
           replace HO_249000 := am (Kd.T_elder' (by (with_reducible repeat (first | apply Kd.T_alloc | apply Kd.T_drewN | apply Kd.T_drew)); exact HO_249000.out) (Kd.R_base ho0) hb)
           have HO255 := am (Kd.R_lower (Kd.R_new' ho0 (Kd.R_lt (kr HO_249002.out))) (below_size (bl HB.out)))
           replace HO_249002 := am (Kd.R_elder' (kr HO_249002.out) (Kd.R_base ho0) hb)
           replace BK238 := am (blk_below (pk BK238.out) hb)
           replace BK239 := am (blk_below (pk BK239.out) hb)
           replace BK248 := am (blk_below (pk BK248.out) hb)
           replace HB := am (below_step (bl HB.out) hb)
           (try clear hb)
           (try clear hb2)
           (try clear hk)
           (try clear hi)
           (try clear ho0)
           obtain ⟨Ao59, co59, eo59⟩ := Kd.R_slice HO255.out
           (first | subst eo59 | (injection eo59 with f1_ f2_ f3_; have f4_ := f1_.symm; have f5_ := f3_.symm; clear f1_ f2_ f3_; subst f4_; subst f5_))
           refine hK.out _ _ ⟨bc BK248.out 0, bc BK248.out 1, bc BK248.out 2⟩ (fun hHeld => ?_)
           clear hK K
           refine norm_ (a' := ?_) ?_ ?_
           rotate_left
           ·show Act.put _ (some 46) _ = _
            simp only [Act.put, sa_, s0_, ss_, i64_w, i32_w]
            rfl
           refine one_ (i := 4) (N := some 47) #[true, true, true, true, true, false, false, false] rfl rfl (one_of HT_.out (by kernel_rfl)) (by decide) (fun K hK => ?_)
           refine value_ (w1 := ?_) (v := ?_) (by rfl) rfl ?_ ?_
           rotate_left 2
           ·go_simp
            constructor
            ·rfl
            ·rfl
           refine hK.out _ _ ⟨(blk_cell (blk_alloc BK248.out _) 0).trans rfl, (blk_cell (blk_alloc BK248.out _) 1).trans rfl, (blk_cell (blk_alloc BK248.out _) 2).trans rfl⟩ (fun hHeld => ?_)
           clear hK K
           refine norm_ (a' := ?_) ?_ ?_
           rotate_left
           ·show Act.put _ (some 47) _ = _
            simp only [Act.put, sa_, s0_, ss_, i64_w, i32_w]
            rfl
           refine one_ (i := 5) (N := some 48) #[true, true, true, true, true, true, false, false] rfl rfl (one_of HT_.out (by kernel_rfl)) (by decide) (fun K hK => ?_)
           refine Kd.T_append_step (Kd.slice 2 (Kd.int .i64)) (w0 := w) w.heap.size (by rfl) (.tmp 44) (.tmp 47) 49 37 (.slice none 0 0) 24 rfl Try.underlying49 info37 rfl (by decide) (by omega) (.slice Ao17 t241.length co17) t241 t253 [.slice Ao59 t253.length co59] (fun k_ => some k_ ≠ (.slice Ao20 t245.length co20 : Value).ownBlock) (fun k_ => some k_ = (.slice Ao59 t253.length co59 : Value).ownBlock) rfl rfl ?aP (fun k_ hk_ => (Kd.R_mono (ok' := fun k_ => ((fun k_ => some k_ ≠ (.slice Ao20 t245.length co20 : Value).ownBlock)) k_ ∧ some k_ ≠ (.slice Ao17 t241.length co17 : Value).ownBlock) (Kd.R_apart' (HO255.out) (Kd.T_typed HO_249000.out) (by decide)) (fun k_ hk => ⟨hk.1.2, hk.2⟩)).1 k_ hk_.symm) ?aF ?aO ?aB ?aS ?aL ?_
           (case aP => exact Kd.M_row (Kd.R_mono (Kd.R_tight rfl (HO255.out)) (fun _ h_ => h_)))
           (case aB => exact (bl HB.out))
           (case aF => exact (fun k_ hk => Kd.fresh' (Kd.R_lt (kr HO_249002.out)) k_ hk))
           (case aO => exact (by (with_reducible repeat (first | apply Kd.T_alloc | apply Kd.T_drewN | apply Kd.T_drew)); exact Kd.T_mono HO_249000.out (fun k_ hk => ⟨hk.1, fun e_ => hk.2 e_⟩)))
           (case aS => exact (below_size (bl HB.out)))
           (case aL => have := LMc51.out; omega)
           intro v257 w58 ho hb hg hat
           rw [← Ny256.out] at ho
           replace HO_249002 := am (Kd.R_over' (kr HO_249002.out) (Kd.T_typed (by (with_reducible repeat (first | apply Kd.T_alloc | apply Kd.T_drewN | apply Kd.T_drew)); exact HO_249000.out)) (by decide) hg)
           replace BK238 := am (blk_grown (g := gb238) (o := .cells #[.slice A0_0 l0_0.length c0_0, .int .i64 a0_1, .slice A0_2 l0_2.length c0_2] 53 (0, 0)) (pk BK238.out) hg (Kd.T_ne HO_249000.out BK238.out (by decide)))
           replace BK239 := am (blk_grown (g := gb239) (o := .cells #[.slice none 0 0, .int .i64 0, .slice none 0 0] 53 (0, 0)) (pk BK239.out) hg (Kd.T_ne HO_249000.out BK239.out (by decide)))
           replace BK248 := am (blk_grown (g := gb248) (o := .cells #[.slice Ao17 t241.length co17, .int .i64 t244, .slice Ao20 t245.length co20] 53 (0, 0)) (pk BK248.out) hg (Kd.T_ne HO_249000.out BK248.out (by decide)))
           replace HB := am (hb)
           have HO258 := am (ho)
           clear HO_249000 HO255 ho hb hg hat
           obtain ⟨Ao60, co60, eo60, _⟩ := Kd.T_slice HO258.out
           (first | subst eo60 | (injection eo60 with f1_ f2_ f3_; have f4_ := f1_.symm; have f5_ := f3_.symm; clear f1_ f2_ f3_; subst f4_; subst f5_))
           refine hK.out _ _ ⟨bc BK248.out 0, bc BK248.out 1, bc BK248.out 2⟩ (fun hHeld => ?_)
           clear hK K
           refine norm_ (a' := ?_) ?_ ?_
           rotate_left
           ·show Act.put _ (some 48) _ = _
            simp only [Act.put, sa_, s0_, ss_, i64_w, i32_w]
            rfl
           refine pure_ (i := 6) (N := some 49) (v := ?_) (a' := ?_) #[true, true, true, true, true, true, true, false] rfl rfl (any_of HT_.out (by kernel_rfl)) (fun _ _ _ h => h) (Or.inl ⟨by rfl, ?_⟩) ?_ ?_; rotate_left
           ·intro w'; go_simp; with_reducible rfl
           rotate_left
           ·simp only [Act.put, sa_, s0_, ss_, i64_w, i32_w]; rfl
           refine last_ (i := 7) (N := none) #[true, true, true, true, true, true, true, true] rfl rfl (one_of HT_.out (by kernel_rfl)) (by decide) (fun K hK => ?_)
           have hs61 : w58.cell? ⟨gb248, 0, none⟩ = some (.slice Ao17 t241.length co17) := bc BK248.out 0
           have hfs61 := blk_frozen BK248.out 0
           have hns61_0 := NB238_248.out
           have hns61_1 := NB239_248.out
           have hms61_0 := NB248_238.out
           have hms61_1 := NB248_239.out
           refine skip_ (w1 := ?_) (by rfl) rfl ?_ ?_
           rotate_left
           ·go_simp
            rfl
           refine hK.out _ _ ?_
           clear hK K
           refine done_ (done_of HT_.out (by kernel_rfl)) ?_
           have n0_ : Aside0 (Kd.R (Kd.int .i64) 2 (w58.setCell ⟨gb248, 0, none⟩ (.slice Ao60 y256.length co60)) w.heap.size (fun _ => True) (.slice Ao20 t245.length co20) t245) := ⟨kr (Kd.R_mono (Kd.R_far (p := ⟨gb248, 0, none⟩) (Kd.R_types HO_249002.out BK248.out (by decide)) (fun _ hk => hk.2) (.slice Ao60 y256.length co60)) (fun _ hk => trivial))⟩
           have n1_ : Aside0 (Kd.T (Kd.slice 2 (Kd.int .i64)) 37 (w58.setCell ⟨gb248, 0, none⟩ (.slice Ao60 y256.length co60)) w.heap.size (fun k_ => some k_ ≠ (.slice Ao20 t245.length co20 : Value).ownBlock) (.slice Ao60 y256.length co60) y256) := ⟨by (with_reducible repeat (first | apply Kd.T_alloc | apply Kd.T_drewN | apply Kd.T_drew)); exact Kd.T_mono (Kd.T_far (p := ⟨gb248, 0, none⟩) (Kd.T_types HO258.out BK248.out (by decide)) (fun _ hk => hk.2) (.slice Ao60 y256.length co60)) (fun _ hk => hk.1)⟩
           have n2_ : Aside0 ((w58.setCell ⟨gb248, 0, none⟩ (.slice Ao60 y256.length co60)).heap[gb238]? = some (.cells #[.slice A0_0 l0_0.length c0_0, .int .i64 a0_1, .slice A0_2 l0_2.length c0_2] 53 (0, 0))) := ⟨by refine pk ?_; refine blk_far ?_ NB238_248.out _; refine pk ?_; exact BK238.out⟩
           have n3_ : Aside0 ((w58.setCell ⟨gb248, 0, none⟩ (.slice Ao60 y256.length co60)).heap[gb239]? = some (.cells #[.slice none 0 0, .int .i64 0, .slice none 0 0] 53 (0, 0))) := ⟨by refine pk ?_; refine blk_far ?_ NB239_248.out _; refine pk ?_; exact BK239.out⟩
           have n4_ : Aside0 ((w58.setCell ⟨gb248, 0, none⟩ (.slice Ao60 y256.length co60)).heap[gb248]? = some (.cells #[.slice Ao60 y256.length co60, .int .i64 t244, .slice Ao20 t245.length co20] 53 (0, 0))) := ⟨by refine pk ?_; refine blk_put (cs := #[.slice Ao17 t241.length co17, .int .i64 t244, .slice Ao20 t245.length co20]) ?_ 0 _ rfl; refine pk ?_; exact BK248.out⟩
           have n5_ : Aside0 (Below w.heap.size w (w58.setCell ⟨gb248, 0, none⟩ (.slice Ao60 y256.length co60))) := ⟨by repeat (first | (with_reducible first | exact HB.out | apply below_alloc | apply pw_below_drewN | apply below_drew1 | refine below_set ?_ GE238.out | refine below_set ?_ GE239.out | refine below_set ?_ GE248.out) | exact HB.out)⟩
           (try clear HO_249002)
           (try clear HO258)
           (try clear BK238)
           (try clear BK239)
           (try clear BK248)
           (try clear HB)
           generalize (w58.setCell ⟨gb248, 0, none⟩ (.slice Ao60 y256.length co60)) = w62 at n0_ n1_ n2_ n3_ n4_ n5_ ⊢
           have HO_249002 := n0_
           have HO258 := n1_
           have BK238 := n2_
           have BK239 := n3_
           have BK248 := n4_
           have HB := n5_
           clear n0_ n1_ n2_ n3_ n4_ n5_
           have hnb63 := NB248_238.out
           have hnc63 := NB238_248.out
           have hnb64 := NB248_239.out
           have hnc64 := NB239_248.out
           have hcz65_0 : w62.cell? ⟨gb248, 0, none⟩ = some (.slice Ao60 y256.length co60) := bc BK248.out 0
           have hcz65_1 : w62.cell? ⟨gb248, 1, none⟩ = some (.int .i64 t244) := bc BK248.out 1
           have hcz65_2 : w62.cell? ⟨gb248, 2, none⟩ = some (.slice Ao20 t245.length co20) := bc BK248.out 2
           have hfz65_0 := blk_frozen BK248.out 0
           have hfz65_1 := blk_frozen BK248.out 1
           have hfz65_2 := blk_frozen BK248.out 2
           have q66 : ((ji52) : Int) ≤ ((y256.length : Int) : Int) := of_decide_eq_true (by first | (with_reducible assumption) | assumption)
           obtain ⟨i066, hi066, _, hsz66, _⟩ := info_parts info37
           have hcut66 := cut_from (P := Try.prog) 49 37 .i64 Try.underlying49 hi066 1 hsz66 Ao60 y256.length co60 (ji52) (of_decide_eq_true (by first | (with_reducible assumption) | assumption)) q66
           have hr66 := Kd.T_drop (k := ((ji52) : Int).toNat) HO258.out (by omega)
           obtain ⟨A66, hA66⟩ : ∃ A1, A1 = (if co60 = ((ji52) : Int).toNat then Ao60 else (Ao60 : Option Addr).map (·.add (((ji52) : Int).toNat * 1))) := ⟨_, rfl⟩
           obtain ⟨c66, hc66⟩ : ∃ c1, c1 = co60 - ((ji52) : Int).toNat := ⟨_, rfl⟩
           have hy66 : y259.length = y256.length - ((ji52) : Int).toNat := (by rw [Ny259.out, List.length_drop])
           rw [← Ny259.out] at hr66
           rw [← hy66, ← hA66, ← hc66] at hcut66
           replace hr66 : Kd.T (Kd.slice 2 (Kd.int .i64)) 37 w62 w.heap.size (fun k_ => some k_ ≠ (.slice Ao20 t245.length co20 : Value).ownBlock) (.slice A66 y259.length c66) y259 := (by rw [hA66, hc66, hy66]; exact hr66)
           have HE66 : Aside0 ((Value.slice A66 y259.length c66).ownBlock = (.slice Ao60 y256.length co60 : Value).ownBlock) := ⟨by rw [hA66]; split <;> (cases (Ao60 : Option Addr) <;> first | rfl | (simp only [Value.ownBlock, Option.map_some, Addr.add]; split <;> rfl))⟩
           clear hy66 hi066 hsz66 HO258 hA66 hc66
           have HO261 := am hr66
           clear hr66
           replace q66 := eq_true q66
           try go_wp2
           have n0_ : Aside0 (Kd.R (Kd.int .i64) 2 (w62.setCell ⟨gb248, 0, none⟩ (.slice A66 y259.length c66)) w.heap.size (fun _ => True) (.slice Ao20 t245.length co20) t245) := ⟨kr (Kd.R_mono (Kd.R_far (p := ⟨gb248, 0, none⟩) (Kd.R_types HO_249002.out BK248.out (by decide)) (fun _ hk => hk.2) (.slice A66 y259.length c66)) (fun _ hk => trivial))⟩
           have n1_ : Aside0 (Kd.T (Kd.slice 2 (Kd.int .i64)) 37 (w62.setCell ⟨gb248, 0, none⟩ (.slice A66 y259.length c66)) w.heap.size (fun k_ => some k_ ≠ (.slice Ao20 t245.length co20 : Value).ownBlock) (.slice A66 y259.length c66) y259) := ⟨by (with_reducible repeat (first | apply Kd.T_alloc | apply Kd.T_drewN | apply Kd.T_drew)); exact Kd.T_mono (Kd.T_far (p := ⟨gb248, 0, none⟩) (Kd.T_types HO261.out BK248.out (by decide)) (fun _ hk => hk.2) (.slice A66 y259.length c66)) (fun _ hk => hk.1)⟩
           have n2_ : Aside0 ((w62.setCell ⟨gb248, 0, none⟩ (.slice A66 y259.length c66)).heap[gb238]? = some (.cells #[.slice A0_0 l0_0.length c0_0, .int .i64 a0_1, .slice A0_2 l0_2.length c0_2] 53 (0, 0))) := ⟨by refine pk ?_; refine blk_far ?_ NB238_248.out _; refine pk ?_; exact BK238.out⟩
           have n3_ : Aside0 ((w62.setCell ⟨gb248, 0, none⟩ (.slice A66 y259.length c66)).heap[gb239]? = some (.cells #[.slice none 0 0, .int .i64 0, .slice none 0 0] 53 (0, 0))) := ⟨by refine pk ?_; refine blk_far ?_ NB239_248.out _; refine pk ?_; exact BK239.out⟩
           have n4_ : Aside0 ((w62.setCell ⟨gb248, 0, none⟩ (.slice A66 y259.length c66)).heap[gb248]? = some (.cells #[.slice A66 y259.length c66, .int .i64 t244, .slice Ao20 t245.length co20] 53 (0, 0))) := ⟨by refine pk ?_; refine blk_put (cs := #[.slice Ao60 y256.length co60, .int .i64 t244, .slice Ao20 t245.length co20]) ?_ 0 _ rfl; refine pk ?_; exact BK248.out⟩
           have n5_ : Aside0 (Below w.heap.size w (w62.setCell ⟨gb248, 0, none⟩ (.slice A66 y259.length c66))) := ⟨by repeat (first | (with_reducible first | exact HB.out | apply below_alloc | apply pw_below_drewN | apply below_drew1 | refine below_set ?_ GE238.out | refine below_set ?_ GE239.out | refine below_set ?_ GE248.out) | exact HB.out)⟩
           (try clear HO_249002)
           (try clear HO261)
           (try clear BK238)
           (try clear BK239)
           (try clear BK248)
           (try clear HB)
           generalize (w62.setCell ⟨gb248, 0, none⟩ (.slice A66 y259.length c66)) = w67 at n0_ n1_ n2_ n3_ n4_ n5_ ⊢
           have HO_249002 := n0_
           have HO261 := n1_
           have BK238 := n2_
           have BK239 := n3_
           have BK248 := n4_
           have HB := n5_
           clear n0_ n1_ n2_ n3_ n4_ n5_
           replace HO_249002 := am (Kd.R_drew HO_249002.out)
           replace HO261 := am (Kd.T_drew HO261.out)
           replace BK238 := am (blk_drew BK238.out)
           replace BK239 := am (blk_drew BK239.out)
           replace BK248 := am (blk_drew BK248.out)
           replace HB := am (below_drew1 HB.out)
           refine start_ (n := 7) (S := fun w' => w'.cell? ⟨gb248, 0, none⟩ = some (.slice A66 y259.length c66) ∧ w'.cell? ⟨gb248, 1, none⟩ = some (.int .i64 t244) ∧ w'.cell? ⟨gb248, 2, none⟩ = some (.slice Ao20 t245.length co20)) (ds := []) b25_1 (by kernel_rfl) rfl rfl ⟨bc BK248.out 0, bc BK248.out 1, bc BK248.out 2⟩ (fun hHeld => ?_)
           generalize w67.drew = w68 at HO_249002 HO261 BK238 BK239 BK248 HB hHeld ⊢
           refine pure_ (i := 0) (N := some 59) (v := ?_) (a' := ?_) b25_2 rfl rfl (by kernel_rfl) (fun _ _ _ h => h) (Or.inl ⟨by rfl, ?_⟩) ?_ ?_; rotate_left
           ·intro w'; go_simp; with_reducible rfl
           rotate_left
           ·simp only [Act.put, sa_, s0_, ss_, i64_w, i32_w]; rfl
           refine pure_ (i := 2) (N := some 61) (v := ?_) (a' := ?_) b25_3 rfl rfl (by kernel_rfl) (fun _ _ _ h => h) (Or.inl ⟨by rfl, ?_⟩) ?_ ?_; rotate_left
           ·intro w'; go_simp; with_reducible rfl
           rotate_left
           ·simp only [Act.put, sa_, s0_, ss_, i64_w, i32_w]; rfl
           refine take_ (i := 1) (N := some 60) (v := ?_) (a' := ?_) b25_4 rfl rfl (by kernel_rfl) (fun _ _ _ h => h) (Or.inl ⟨by rfl, ?_⟩) hHeld ?_ ?_; rotate_left
           ·rintro w' ⟨s0, s1, s2⟩; go_simp; with_reducible rfl
           rotate_left
           ·simp only [Act.put, sa_, s0_, ss_, i64_w, i32_w]; rfl
           refine take_ (i := 3) (N := some 62) (v := ?_) (a' := ?_) b25_5 rfl rfl (by kernel_rfl) (fun _ _ _ h => h) (Or.inl ⟨by rfl, ?_⟩) hHeld ?_ ?_; rotate_left
           ·rintro w' ⟨s0, s1, s2⟩; go_simp; with_reducible rfl
           rotate_left
           ·simp only [Act.put, sa_, s0_, ss_, i64_w, i32_w]; rfl
           refine one_ (i := 4) (N := some 63) b25_6 rfl rfl (by kernel_rfl) (by decide) (fun K hK => ?_)
           refine gs_ Try.func83 #[.slice A66 y259.length c66] ?_
           with_reducible refine (impl_size_sint64.calls _ _ y259 t262 _ A55.out).mono ?_
           rintro e w' ⟨rfl, ⟨nd, rfl⟩⟩
           refine ⟨_, rfl, ?_⟩
           refine hK.out _ _ ⟨bc BK248.out 0, bc BK248.out 1, bc BK248.out 2⟩ (fun hHeld => ?_)
           clear hK K
           refine norm_ (a' := ?_) ?_ ?_
           rotate_left
           ·show Act.put _ (some 63) _ = _
            simp only [Act.put, sa_, s0_, ss_, i64_w, i32_w]
            rfl
           refine pure_ (i := 5) (N := some 64) (v := ?_) (a' := ?_) b25_7 rfl rfl (by kernel_rfl) (fun _ _ _ h => h) (Or.inl ⟨by rfl, ?_⟩) ?_ ?_; rotate_left
           ·intro w'; go_simp; with_reducible rfl
           rotate_left
           ·simp only [Act.put, sa_, s0_, ss_, i64_w, i32_w]; rfl
           refine one_ (i := 6) (N := none) b25_8 rfl rfl (by kernel_rfl) (by decide) (fun K hK => ?_)
           have hs69 : w68.cell? ⟨gb239, 0, none⟩ = some (.slice none 0 0) := bc BK239.out 0
           have hfs69 := blk_frozen BK239.out 0
           have hns69_0 := NB238_239.out
           have hns69_2 := NB248_239.out
           have hms69_0 := NB239_238.out
           have hms69_2 := NB239_248.out
           have hs70 : w68.cell? ⟨gb239, 1, none⟩ = some (.int .i64 0) := bc BK239.out 1
           have hfs70 := blk_frozen BK239.out 1
           have hs71 : w68.cell? ⟨gb239, 2, none⟩ = some (.slice none 0 0) := bc BK239.out 2
           have hfs71 := blk_frozen BK239.out 2
           refine skip_ (w1 := ?_) (by rfl) rfl ?_ ?_
           rotate_left
           ·go_simp
            rfl
           refine hK.out _ _ ⟨((cell_far (p := ⟨gb239, _, none⟩) NB248_239.out _).trans (((cell_far (p := ⟨gb239, _, none⟩) NB248_239.out _).trans (((cell_far (p := ⟨gb239, _, none⟩) NB248_239.out _).trans (hHeld.1)))))), ((cell_far (p := ⟨gb239, _, none⟩) NB248_239.out _).trans (((cell_far (p := ⟨gb239, _, none⟩) NB248_239.out _).trans (((cell_far (p := ⟨gb239, _, none⟩) NB248_239.out _).trans (hHeld.2.1)))))), ((cell_far (p := ⟨gb239, _, none⟩) NB248_239.out _).trans (((cell_far (p := ⟨gb239, _, none⟩) NB248_239.out _).trans (((cell_far (p := ⟨gb239, _, none⟩) NB248_239.out _).trans (hHeld.2.2))))))⟩ (fun hHeld => ?_)
           clear hK K
           refine done_ (by kernel_rfl) ?_
           (try (rw [drewN_self w68]; generalize hq_ : World.drewN w68 _ = w68; replace HO_249002 := am (Kd.R_at hq_ HO_249002.out); replace HO261 := am (Kd.T_at hq_ HO261.out); replace BK238 := am (blk_at hq_ BK238.out); replace BK239 := am (blk_at hq_ BK239.out); replace BK248 := am (blk_at hq_ BK248.out); replace HB := am (below_at hq_ HB.out); clear hq_))
           try go_wp2
           refine bodyPost_ret (results_cell_row rfl _ _ gb239 53 #[.slice A66 y259.length c66, .int .i64 t262, .slice none 0 0] (0, 0) _ rfl (by refine pk ?_; refine blk_put (cs := #[.slice A66 y259.length c66, .int .i64 t262, .slice none 0 0]) ?_ 2 _ rfl; refine pk ?_; refine blk_put (cs := #[.slice A66 y259.length c66, .int .i64 0, .slice none 0 0]) ?_ 1 _ rfl; refine pk ?_; refine blk_put (cs := #[.slice none 0 0, .int .i64 0, .slice none 0 0]) ?_ 0 _ rfl; refine pk ?_; exact BK239.out) Try.underlying53 rfl (by kernel_rfl)) rfl ?_
           exact ⟨_, _, by first | rfl | (simp [errW_none, errW_some] <;> rfl) | (simp only [← hji52]; first | rfl | (simp [errW_none, errW_some] <;> rfl)) | (simp [*, errW_none, errW_some] <;> rfl), by (with_reducible repeat (first | apply Kd.T_alloc | apply Kd.T_drewN | apply Kd.T_drew)); exact Kd.T_mono (Kd.T_far (p := ⟨gb239, 2, none⟩) (Kd.T_far (p := ⟨gb239, 1, none⟩) (Kd.T_far (p := ⟨gb239, 0, none⟩) (Kd.T_types HO261.out BK239.out (by decide)) (fun _ hk => hk.2) (.slice A66 y259.length c66)) (fun _ hk => hk.2) (.int .i64 t262)) (fun _ hk => hk.2) (.slice none 0 0)) (fun _ hk => (by simp [Value.ownBlock])), by first | exact Kd.R_nil _ _ _ _ _ | exact Kd.N_nil _ _ _ _ _ | exact Kd.V_nil _ _ _ _ _ | exact Kd.T_nil _ _ _ _ _ | exact Kd.S_nil _ _ _ _ _, by repeat (first | (with_reducible first | exact HB.out | apply below_alloc | apply pw_below_drewN | apply below_drew1 | refine below_set ?_ GE238.out | refine below_set ?_ GE239.out | refine below_set ?_ GE248.out) | exact HB.out)⟩
          ·rw [if_neg c54] at H
           exact absurd H (by simp)
         ·rw [if_neg c53] at H
          exact absurd H (by simp)
        ·rw [if_neg c51] at H
         exact absurd H (by simp)
       ·replace c49 := Bool.eq_false_iff.mpr c49
        subst c49
        have H1 : ((impl_size_sint64.f t241).bind fun t263 => (some (t241, t263, ([] : List Int)))) = some (r1, r2, r3) := by rw [if_neg (show ¬ (false = true) by decide)] at H; exact H
        clear H
        have H := H1
        clear H1
        replace H := Option.bind_eq_some_iff.mp H
        obtain ⟨t263, A720, H⟩ := H
        replace H : (some (t241, t263, ([] : List Int))) = some (r1, r2, r3) := H
        have A72 := Aside0.mk A720
        clear A720
        simp only [Option.some.injEq, Prod.mk.injEq] at H
        obtain ⟨rfl, rfl, rfl⟩ := H
        try go_wp2
        replace HO_249000 := am (Kd.T_drew HO_249000.out)
        replace HO_249002 := am (Kd.R_drew HO_249002.out)
        replace BK238 := am (blk_drew BK238.out)
        replace BK239 := am (blk_drew BK239.out)
        replace BK248 := am (blk_drew BK248.out)
        replace HB := am (below_drew1 HB.out)
        refine start_ (n := 7) (S := fun w' => w'.cell? ⟨gb248, 0, none⟩ = some (.slice Ao17 t241.length co17) ∧ w'.cell? ⟨gb248, 1, none⟩ = some (.int .i64 t244) ∧ w'.cell? ⟨gb248, 2, none⟩ = some (.slice Ao20 t245.length co20)) (ds := []) b25_1 (by kernel_rfl) rfl rfl ⟨bc BK248.out 0, bc BK248.out 1, bc BK248.out 2⟩ (fun hHeld => ?_)
        generalize wc.drew = w73 at HO_249000 HO_249002 BK238 BK239 BK248 HB hHeld ⊢
        refine pure_ (i := 0) (N := some 59) (v := ?_) (a' := ?_) b25_2 rfl rfl (by kernel_rfl) (fun _ _ _ h => h) (Or.inl ⟨by rfl, ?_⟩) ?_ ?_; rotate_left
        ·intro w'; go_simp; with_reducible rfl
        rotate_left
        ·simp only [Act.put, sa_, s0_, ss_, i64_w, i32_w]; rfl
        refine pure_ (i := 2) (N := some 61) (v := ?_) (a' := ?_) b25_3 rfl rfl (by kernel_rfl) (fun _ _ _ h => h) (Or.inl ⟨by rfl, ?_⟩) ?_ ?_; rotate_left
        ·intro w'; go_simp; with_reducible rfl
        rotate_left
        ·simp only [Act.put, sa_, s0_, ss_, i64_w, i32_w]; rfl
        refine take_ (i := 1) (N := some 60) (v := ?_) (a' := ?_) b25_4 rfl rfl (by kernel_rfl) (fun _ _ _ h => h) (Or.inl ⟨by rfl, ?_⟩) hHeld ?_ ?_; rotate_left
        ·rintro w' ⟨s0, s1, s2⟩; go_simp; with_reducible rfl
        rotate_left
        ·simp only [Act.put, sa_, s0_, ss_, i64_w, i32_w]; rfl
        refine take_ (i := 3) (N := some 62) (v := ?_) (a' := ?_) b25_5 rfl rfl (by kernel_rfl) (fun _ _ _ h => h) (Or.inl ⟨by rfl, ?_⟩) hHeld ?_ ?_; rotate_left
        ·rintro w' ⟨s0, s1, s2⟩; go_simp; with_reducible rfl
        rotate_left
        ·simp only [Act.put, sa_, s0_, ss_, i64_w, i32_w]; rfl
        refine one_ (i := 4) (N := some 63) b25_6 rfl rfl (by kernel_rfl) (by decide) (fun K hK => ?_)
        refine gs_ Try.func83 #[.slice Ao17 t241.length co17] ?_
        with_reducible refine (impl_size_sint64.calls _ _ t241 t263 _ A72.out).mono ?_
        rintro e w' ⟨rfl, ⟨nd, rfl⟩⟩
        refine ⟨_, rfl, ?_⟩
        refine hK.out _ _ ⟨bc BK248.out 0, bc BK248.out 1, bc BK248.out 2⟩ (fun hHeld => ?_)
        clear hK K
        refine norm_ (a' := ?_) ?_ ?_
        rotate_left
        ·show Act.put _ (some 63) _ = _
         simp only [Act.put, sa_, s0_, ss_, i64_w, i32_w]
         rfl
        refine pure_ (i := 5) (N := some 64) (v := ?_) (a' := ?_) b25_7 rfl rfl (by kernel_rfl) (fun _ _ _ h => h) (Or.inl ⟨by rfl, ?_⟩) ?_ ?_; rotate_left
        ·intro w'; go_simp; with_reducible rfl
        rotate_left
        ·simp only [Act.put, sa_, s0_, ss_, i64_w, i32_w]; rfl
        refine one_ (i := 6) (N := none) b25_8 rfl rfl (by kernel_rfl) (by decide) (fun K hK => ?_)
        have hs74 : w73.cell? ⟨gb239, 0, none⟩ = some (.slice none 0 0) := bc BK239.out 0
        have hfs74 := blk_frozen BK239.out 0
        have hns74_0 := NB238_239.out
        have hns74_2 := NB248_239.out
        have hms74_0 := NB239_238.out
        have hms74_2 := NB239_248.out
        have hs75 : w73.cell? ⟨gb239, 1, none⟩ = some (.int .i64 0) := bc BK239.out 1
        have hfs75 := blk_frozen BK239.out 1
        have hs76 : w73.cell? ⟨gb239, 2, none⟩ = some (.slice none 0 0) := bc BK239.out 2
        have hfs76 := blk_frozen BK239.out 2
        refine skip_ (w1 := ?_) (by rfl) rfl ?_ ?_
        rotate_left
        ·go_simp
         rfl
        refine hK.out _ _ ⟨((cell_far (p := ⟨gb239, _, none⟩) NB248_239.out _).trans (((cell_far (p := ⟨gb239, _, none⟩) NB248_239.out _).trans (((cell_far (p := ⟨gb239, _, none⟩) NB248_239.out _).trans (hHeld.1)))))), ((cell_far (p := ⟨gb239, _, none⟩) NB248_239.out _).trans (((cell_far (p := ⟨gb239, _, none⟩) NB248_239.out _).trans (((cell_far (p := ⟨gb239, _, none⟩) NB248_239.out _).trans (hHeld.2.1)))))), ((cell_far (p := ⟨gb239, _, none⟩) NB248_239.out _).trans (((cell_far (p := ⟨gb239, _, none⟩) NB248_239.out _).trans (((cell_far (p := ⟨gb239, _, none⟩) NB248_239.out _).trans (hHeld.2.2))))))⟩ (fun hHeld => ?_)
        clear hK K
        refine done_ (by kernel_rfl) ?_
        (try (rw [drewN_self w73]; generalize hq_ : World.drewN w73 _ = w73; replace HO_249000 := am (Kd.T_at hq_ HO_249000.out); replace HO_249002 := am (Kd.R_at hq_ HO_249002.out); replace BK238 := am (blk_at hq_ BK238.out); replace BK239 := am (blk_at hq_ BK239.out); replace BK248 := am (blk_at hq_ BK248.out); replace HB := am (below_at hq_ HB.out); clear hq_))
        try go_wp2
        refine bodyPost_ret (results_cell_row rfl _ _ gb239 53 #[.slice Ao17 t241.length co17, .int .i64 t263, .slice none 0 0] (0, 0) _ rfl (by refine pk ?_; refine blk_put (cs := #[.slice Ao17 t241.length co17, .int .i64 t263, .slice none 0 0]) ?_ 2 _ rfl; refine pk ?_; refine blk_put (cs := #[.slice Ao17 t241.length co17, .int .i64 0, .slice none 0 0]) ?_ 1 _ rfl; refine pk ?_; refine blk_put (cs := #[.slice none 0 0, .int .i64 0, .slice none 0 0]) ?_ 0 _ rfl; refine pk ?_; exact BK239.out) Try.underlying53 rfl (by kernel_rfl)) rfl ?_
        exact ⟨_, _, by first | rfl | (simp [errW_none, errW_some] <;> rfl) | (simp [*, errW_none, errW_some] <;> rfl), by (with_reducible repeat (first | apply Kd.T_alloc | apply Kd.T_drewN | apply Kd.T_drew)); exact Kd.T_mono (Kd.T_far (p := ⟨gb239, 2, none⟩) (Kd.T_far (p := ⟨gb239, 1, none⟩) (Kd.T_far (p := ⟨gb239, 0, none⟩) (Kd.T_types HO_249000.out BK239.out (by decide)) (fun _ hk => hk.2) (.slice Ao17 t241.length co17)) (fun _ hk => hk.2) (.int .i64 t263)) (fun _ hk => hk.2) (.slice none 0 0)) (fun _ hk => (by simp [Value.ownBlock])), by first | exact Kd.R_nil _ _ _ _ _ | exact Kd.N_nil _ _ _ _ _ | exact Kd.V_nil _ _ _ _ _ | exact Kd.T_nil _ _ _ _ _ | exact Kd.S_nil _ _ _ _ _, by repeat (first | (with_reducible first | exact HB.out | apply below_alloc | apply pw_below_drewN | apply below_drew1 | refine below_set ?_ GE238.out | refine below_set ?_ GE239.out | refine below_set ?_ GE248.out) | exact HB.out)⟩

end Go.Proofs.Ytfkghjdhimhjjaa.PFnExactHistAdd
