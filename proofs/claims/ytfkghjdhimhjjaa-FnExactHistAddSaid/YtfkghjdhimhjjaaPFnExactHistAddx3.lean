-- Written by xprint.py (this claim's own program, over the kit's printer); Lean checks it.
import Derived.Test.YtfkghjdhimhjjaaPFnExactHistAddx0
import Derived.Test.YtfkghjdhimhjjaaPFnExactHistAddx1
import Derived.Test.YtfkghjdhimhjjaaPFnExactHistAddx2
namespace Go.Proofs.Ytfkghjdhimhjjaa.PFnExactHistAdd
open Go.RowKit Go.Proofs.YtfkghjdhimhjjaaW.PrintWords Go.Proofs.YtfkghjdhimhjjaaW.PrintLast Go.Proofs.YtfkghjdhimhjjaaW.PrintMore
attribute [local go_sem] max2_int min2_int max_two min_two max_three min_three max_four min_four   -- for this text's walks alone
set_option linter.unusedVariables false
set_option linter.unusedSimpArgs false   -- squeezed

/-! ### spec_HistAdd: function 22 -/
@[reducible] def b22_0 : Array Bool := (br true [0, 8]).toArray
@[reducible] def b22_1 : Array Bool := (br true [1, 7]).toArray
@[reducible] def b22_2 : Array Bool := (br true [1, 1, 1, 5]).toArray
@[reducible] def b22_3 : Array Bool := (br true [3, 5]).toArray
@[reducible] def b22_4 : Array Bool := (br true [4, 4]).toArray
@[reducible] def b22_5 : Array Bool := (br true [5, 3]).toArray
@[reducible] def b22_6 : Array Bool := (br true [6, 2]).toArray
@[reducible] def b22_7 : Array Bool := (br true [7, 1]).toArray
@[reducible] def b22_8 : Array Bool := (br true [8]).toArray
mutual
def spec_HistAdd.j0 : Nat → List Int → Bool → List (List Int) → Int → List Int → List (List Int) → Int → List Int → Option ((List (List Int)) × Int × List Int)
 | 0, _, _, _, _, _, _, _, _ => none
 | k + 1, x1, x20, x141000, x141001, x141002, x150000, x150001, x150002 => if x20 = true then (some (x150000, x150001, x150002)) else (if (x1.length : Int) > 0 then (if (x141000.length : Int) = 0 then (spec_HistAdd.j1 k x1 true x150000 x150001 x150002) else (if 0 ≤ (wrap64 ((x141000.length : Int) - 1)) then (if (wrap64 ((x141000.length : Int) - 1)) < (x141000.length : Int) then ((spec_l01Same.f k (rd_L1 x141000 (wrap64 ((x141000.length : Int) - 1))) x1).bind fun t153 => (spec_HistAdd.j1 k x1 (!t153) x150000 x150001 x150002)) else (none)) else (none))) else (spec_HistAdd.j1 k x1 false x150000 x150001 x150002))
def spec_HistAdd.j1 : Nat → List Int → Bool → List (List Int) → Int → List Int → Option ((List (List Int)) × Int × List Int)
 | 0, _, _, _, _, _ => none
 | k + 1, x1, x42, x150000, x150001, x150002 => if x42 = true then ((spec_l01Copy.f x1).bind fun t154 => (if x150000.length < 5864062014805 then ((some (x150000 ++ [t154] : List (List Int))).bind fun y157 => (if (y157.length : Int) > 30 then (if 1 ≤ (y157.length : Int) then ((some (y157.drop (1 : Int).toNat : List (List Int))).bind fun y160 => (some (y160, (y160.length : Int), (([] : List Int))))) else (none)) else (some (y157, (y157.length : Int), (([] : List Int)))))) else (none))) else (some (x150000, (x150000.length : Int), (([] : List Int))))
end
def spec_HistAdd.f (k : Nat) (l0_0 : List (List Int)) (a0_1 : Int) (l0_2 : List Int) (l1 : List Int) : Option ((List (List Int)) × Int × List Int) := if (l1.length : Int) > 400 then (some (([] : List (List Int)), 0, ([] : List Int))) else ((spec_l06Copy.f k l0_0 a0_1 l0_2).bind fun bt142 => ((spec_HistRight.f k l0_0 a0_1 l0_2).bind fun t150 => (if t150 = true then ((spec_PointsRight.f k l1).bind fun t151 => (spec_HistAdd.j0 k l1 (!t151) l0_0 a0_1 l0_2 bt142.1 bt142.2.1 bt142.2.2)) else (spec_HistAdd.j0 k l1 true l0_0 a0_1 l0_2 bt142.1 bt142.2.1 bt142.2.2))))
theorem spec_HistAdd.mono_l : ∀ k, (∀ y0 y1 y2 y3 y4 y5 y6 y7, LeO (spec_HistAdd.j0 k y0 y1 y2 y3 y4 y5 y6 y7) (spec_HistAdd.j0 (k + 1) y0 y1 y2 y3 y4 y5 y6 y7)) ∧ (∀ y0 y1 y2 y3 y4, LeO (spec_HistAdd.j1 k y0 y1 y2 y3 y4) (spec_HistAdd.j1 (k + 1) y0 y1 y2 y3 y4))
 | 0 => ⟨fun _ _ _ _ _ _ _ _ r h => by simp [spec_HistAdd.j0] at h, fun _ _ _ _ _ r h => by simp [spec_HistAdd.j1] at h⟩
 | k + 1 => by
  obtain ⟨ih0, ih1⟩ := spec_HistAdd.mono_l k
  refine ⟨?_, ?_⟩
  ·intro y0 y1 y2 y3 y4 y5 y6 y7
   unfold spec_HistAdd.j0
   repeat' first
   | (with_reducible exact ih0 _ _ _ _ _ _ _ _)
   | (with_reducible exact ih1 _ _ _ _ _)
   | (with_reducible exact spec_HistRight.mono _ _ _ _)
   | (with_reducible exact spec_PointsRight.mono _ _)
   | (with_reducible exact spec_l01Same.mono _ _ _)
   | (with_reducible exact spec_l06Copy.mono _ _ _ _)
   | (with_reducible exact LeO.refl _)
   | (with_reducible exact LeO.none _)
   | (with_reducible refine LeO.ite ?_ ?_)
   | (with_reducible refine LeO.bind ?_ (fun _ => ?_))
   | exact ih0 _ _ _ _ _ _ _ _
   | exact ih1 _ _ _ _ _
   | exact spec_HistRight.mono _ _ _ _
   | exact spec_PointsRight.mono _ _
   | exact spec_l01Same.mono _ _ _
   | exact spec_l06Copy.mono _ _ _ _
   | refine LeO.bind ?_ (fun _ => ?_)
  ·intro y0 y1 y2 y3 y4
   unfold spec_HistAdd.j1
   repeat' first
   | (with_reducible exact ih0 _ _ _ _ _ _ _ _)
   | (with_reducible exact ih1 _ _ _ _ _)
   | (with_reducible exact spec_HistRight.mono _ _ _ _)
   | (with_reducible exact spec_PointsRight.mono _ _)
   | (with_reducible exact spec_l01Same.mono _ _ _)
   | (with_reducible exact spec_l06Copy.mono _ _ _ _)
   | (with_reducible exact LeO.refl _)
   | (with_reducible exact LeO.none _)
   | (with_reducible refine LeO.ite ?_ ?_)
   | (with_reducible refine LeO.bind ?_ (fun _ => ?_))
   | exact ih0 _ _ _ _ _ _ _ _
   | exact ih1 _ _ _ _ _
   | exact spec_HistRight.mono _ _ _ _
   | exact spec_PointsRight.mono _ _
   | exact spec_l01Same.mono _ _ _
   | exact spec_l06Copy.mono _ _ _ _
   | refine LeO.bind ?_ (fun _ => ?_)
theorem spec_HistAdd.mono : ∀ a0 a1 a2 a3 k, LeO (spec_HistAdd.f k a0 a1 a2 a3) (spec_HistAdd.f (k + 1) a0 a1 a2 a3) := by
 intro a0 a1 a2 a3 k
 obtain ⟨ih0, ih1⟩ := spec_HistAdd.mono_l k
 unfold spec_HistAdd.f
 repeat' first
   | (with_reducible exact ih0 _ _ _ _ _ _ _ _)
   | (with_reducible exact ih1 _ _ _ _ _)
   | (with_reducible exact spec_HistRight.mono _ _ _ _)
   | (with_reducible exact spec_PointsRight.mono _ _)
   | (with_reducible exact spec_l01Same.mono _ _ _)
   | (with_reducible exact spec_l06Copy.mono _ _ _ _)
   | (with_reducible exact LeO.refl _)
   | (with_reducible exact LeO.none _)
   | (with_reducible refine LeO.ite ?_ ?_)
   | (with_reducible refine LeO.bind ?_ (fun _ => ?_))
   | exact ih0 _ _ _ _ _ _ _ _
   | exact ih1 _ _ _ _ _
   | exact spec_HistRight.mono _ _ _ _
   | exact spec_PointsRight.mono _ _
   | exact spec_l01Same.mono _ _ _
   | exact spec_l06Copy.mono _ _ _ _
   | refine LeO.bind ?_ (fun _ => ?_)
def spec_HistAdd.T8 : Bool × List (List Nat × List Nat) := (true, [([], []), ([0], [0]), ([], []), ([2], [2]), ([3], [3]), ([1, 4, 3], [1, 4]), ([0, 1, 2, 3, 4, 5], []), ([6, 5, 5, 0, 1, 2, 3, 4, 5], [5, 6])])
def spec_HistAdd.B8 : List Nat := [0, 1, 0, 4, 12, 31, 63, 127]
theorem spec_HistAdd.tab8 : rtab .any (opsOf Try.f22 8) = spec_HistAdd.T8 := by kernel_rfl
theorem spec_HistAdd.bits8 : waitsOk spec_HistAdd.T8.2 spec_HistAdd.B8 = true := by kernel_rfl
set_option maxHeartbeats 8000000 in
set_option maxRecDepth 100000 in
theorem spec_HistAdd.calls (k : Nat) (A0_0 : Option Addr) (c0_0 : Nat) (l0_0 : List (List Int)) (a0_1 : Int) (A0_2 : Option Addr) (c0_2 : Nat) (l0_2 : List Int) (A1 : Option Addr) (c1 : Nat) (l1 : List Int) (r1 : List (List Int)) (r2 : Int) (r3 : List Int) (w : World) (hr0_0 : Kd.C (Kd.slice 2 (Kd.int .i64)) w A0_0 l0_0.length l0_0) (hc0_0 : l0_0.length ≤ c0_0) (hr0_2 : Kd.C (Kd.int .i64) w A0_2 l0_2.length l0_2) (hc0_2 : l0_2.length ≤ c0_2) (hr1 : Kd.C (Kd.int .i64) w A1 l1.length l1) (hc1 : l1.length ≤ c1) (h : spec_HistAdd.f k l0_0 a0_1 l0_2 l1 = some (r1, r2, r3)) :
  Calls Try.prog 22 #[.agg #[.slice A0_0 l0_0.length c0_0, .int .i64 a0_1, .slice A0_2 l0_2.length c0_2], .slice A1 l1.length c1] w fun e w' => ∃ v0_ v2_ : Value, e = .returned (.agg #[v0_, .int .i64 r2, v2_]) ∧ Kd.T (Kd.slice 2 (Kd.int .i64)) 37 w' w.heap.size (fun k_ => some k_ ≠ (v2_ : Value).ownBlock) v0_ r1 ∧ Kd.R (Kd.int .i64) 2 w' w.heap.size (fun _ => True) v2_ r3 ∧ Below w.heap.size w w' := by
 have hu53 := Try.underlying53
 have HR0_0 := am hr0_0
 have HC0_0 := am hc0_0
 clear hr0_0 hc0_0
 have HR0_2 := am hr0_2
 have HC0_2 := am hc0_2
 clear hr0_2 hc0_2
 have HR1 := am hr1
 have HC1 := am hc1
 clear hr1 hc1
 have HB := am (Below.refl w.heap.size w)
 have H : (if (l1.length : Int) > 400 then (some (([] : List (List Int)), 0, ([] : List Int))) else ((spec_l06Copy.f k l0_0 a0_1 l0_2).bind fun bt142 => ((spec_HistRight.f k l0_0 a0_1 l0_2).bind fun t150 => (if t150 = true then ((spec_PointsRight.f k l1).bind fun t151 => (spec_HistAdd.j0 k l1 (!t151) l0_0 a0_1 l0_2 bt142.1 bt142.2.1 bt142.2.2)) else (spec_HistAdd.j0 k l1 true l0_0 a0_1 l0_2 bt142.1 bt142.2.1 bt142.2.2))))) = some (r1, r2, r3) := h
 clear h
 by_cases c3 : (l1.length : Int) > 400
 ·rw [if_pos c3] at H
  have c3b0 : decide (400 < (l1.length : Int)) = true := decide_eq_true c3
  have c3b1 : decide (400 < l1.length) = true := decide_eq_true (by omega)
  clear c3
  simp only [Option.some.injEq, Prod.mk.injEq] at H
  obtain ⟨rfl, rfl, rfl⟩ := H
  go_enter Try.func22, Try.ntmps22
  go_wp2_with (first | ((with_reducible refine gate_dst (N := 2) rfl ?_); refine box_event ?hg (N := 2) ?hd (cs := #[.slice A0_0 l0_0.length c0_0, .int .i64 a0_1, .slice A0_2 l0_2.length c0_2]) (t := 53) ?hr ?_; (case hd => rfl); (case hg => rfl); (case hr => first | (go_simp; done) | (go_simp; rfl)); intro gb140 hg w4 hbox hb; have BK140 := am (hbox); have GW140 := am ((by rw [hg]; exact (below_size (bl HB.out)) : w.heap.size ≤ gb140)); have GE140 := GW140; replace HB := am (below_step (bl HB.out) hb); clear hb hbox hg) | ((with_reducible refine gate_dst (N := 4) rfl ?_); refine box_event ?hg (N := 4) ?hd (cs := #[.slice none 0 0, .int .i64 0, .slice none 0 0]) (t := 53) ?hr ?_; (case hd => rfl); (case hg => rfl); (case hr => first | (go_simp; done) | (go_simp; rfl)); intro gb141 hg w5 hbox hb; have BK141 := am (hbox); have GW141 := am ((by rw [hg]; exact (below_size (bl HB.out)) : w.heap.size ≤ gb141)); have GE141 := GW141; replace HB := am (below_step (bl HB.out) hb); have NB140_141 := am ((by rw [hg]; exact Nat.ne_of_lt (blk_lt (pk BK140.out)) : gb140 ≠ gb141)); have NB141_140 := am ((by rw [hg]; exact Nat.ne_of_gt (blk_lt (pk BK140.out)) : gb141 ≠ gb140)); replace BK140 := am (blk_below (pk BK140.out) hb); clear hb hbox hg; have hnb6 := NB141_140.out; have hnc6 := NB140_141.out; have hcz7_0 : w5.cell? ⟨gb141, 0, none⟩ = some (.slice none 0 0) := bc BK141.out 0; have hcz7_1 : w5.cell? ⟨gb141, 1, none⟩ = some (.int .i64 0) := bc BK141.out 1; have hcz7_2 : w5.cell? ⟨gb141, 2, none⟩ = some (.slice none 0 0) := bc BK141.out 2; have hfz7_0 := blk_frozen BK141.out 0; have hfz7_1 := blk_frozen BK141.out 1; have hfz7_2 := blk_frozen BK141.out 2))
  refine bodyPost_ret (results_cell_row rfl _ _ gb141 53 #[.slice none 0 0, .int .i64 0, .slice none 0 0] (0, 0) _ rfl (by refine pk ?_; refine blk_put (cs := #[.slice none 0 0, .int .i64 0, .slice none 0 0]) ?_ 2 _ rfl; refine pk ?_; refine blk_put (cs := #[.slice none 0 0, .int .i64 0, .slice none 0 0]) ?_ 1 _ rfl; refine pk ?_; refine blk_put (cs := #[.slice none 0 0, .int .i64 0, .slice none 0 0]) ?_ 0 _ rfl; refine pk ?_; exact BK141.out) Try.underlying53 rfl (by kernel_rfl)) rfl ?_
  exact ⟨_, _, by first | rfl | (simp [errW_none, errW_some] <;> rfl) | (simp [*, errW_none, errW_some] <;> rfl), Kd.T_of_S (by first | exact Kd.S_nil _ _ _ _ _ | exact Kd.N_nil _ _ _ _ _ | exact Kd.V_nil _ _ _ _ _ | exact Kd.T_nil _ _ _ _ _ | exact Kd.R_nil _ _ _ _ _), by first | exact Kd.R_nil _ _ _ _ _ | exact Kd.N_nil _ _ _ _ _ | exact Kd.V_nil _ _ _ _ _ | exact Kd.T_nil _ _ _ _ _ | exact Kd.S_nil _ _ _ _ _, by repeat (first | (with_reducible first | exact HB.out | apply below_alloc | apply pw_below_drewN | apply below_drew1 | refine below_set ?_ GE140.out | refine below_set ?_ GE141.out) | exact HB.out)⟩
 ·rw [if_neg c3] at H
  have c3b0 : decide (400 < (l1.length : Int)) = false := decide_eq_false c3
  have c3b1 : decide (400 < l1.length) = false := decide_eq_false (by omega)
  clear c3
  replace H := Option.bind_eq_some_iff.mp H
  obtain ⟨⟨t142, t145, t146⟩, A80, H⟩ := H
  replace H : ((spec_HistRight.f k l0_0 a0_1 l0_2).bind fun t150 => (if t150 = true then ((spec_PointsRight.f k l1).bind fun t151 => (spec_HistAdd.j0 k l1 (!t151) l0_0 a0_1 l0_2 t142 t145 t146)) else (spec_HistAdd.j0 k l1 true l0_0 a0_1 l0_2 t142 t145 t146))) = some (r1, r2, r3) := H
  have A8 := Aside0.mk A80
  clear A80
  have HC9 := Aside0.mk H
  clear H
  go_enter Try.func22, Try.ntmps22
  go_upto_region 4 with (first | ((with_reducible refine gate_dst (N := 2) rfl ?_); refine box_event ?hg (N := 2) ?hd (cs := #[.slice A0_0 l0_0.length c0_0, .int .i64 a0_1, .slice A0_2 l0_2.length c0_2]) (t := 53) ?hr ?_; (case hd => rfl); (case hg => rfl); (case hr => first | (go_simp; done) | (go_simp; rfl)); intro gb140 hg w10 hbox hb; have BK140 := am (hbox); have GW140 := am ((by rw [hg]; exact (below_size (bl HB.out)) : w.heap.size ≤ gb140)); have GE140 := GW140; replace HB := am (below_step (bl HB.out) hb); clear hb hbox hg) | ((with_reducible refine gate_dst (N := 4) rfl ?_); refine box_event ?hg (N := 4) ?hd (cs := #[.slice none 0 0, .int .i64 0, .slice none 0 0]) (t := 53) ?hr ?_; (case hd => rfl); (case hg => rfl); (case hr => first | (go_simp; done) | (go_simp; rfl)); intro gb141 hg w11 hbox hb; have BK141 := am (hbox); have GW141 := am ((by rw [hg]; exact (below_size (bl HB.out)) : w.heap.size ≤ gb141)); have GE141 := GW141; replace HB := am (below_step (bl HB.out) hb); have NB140_141 := am ((by rw [hg]; exact Nat.ne_of_lt (blk_lt (pk BK140.out)) : gb140 ≠ gb141)); have NB141_140 := am ((by rw [hg]; exact Nat.ne_of_gt (blk_lt (pk BK140.out)) : gb141 ≠ gb140)); replace BK140 := am (blk_below (pk BK140.out) hb); clear hb hbox hg; have hnb12 := NB140_141.out; have hnc12 := NB141_140.out; have hcz13_0 : w11.cell? ⟨gb140, 0, none⟩ = some (.slice A0_0 l0_0.length c0_0) := bc BK140.out 0; have hcz13_1 : w11.cell? ⟨gb140, 1, none⟩ = some (.int .i64 a0_1) := bc BK140.out 1; have hcz13_2 : w11.cell? ⟨gb140, 2, none⟩ = some (.slice A0_2 l0_2.length c0_2) := bc BK140.out 2; have hfz13_0 := blk_frozen BK140.out 0; have hfz13_1 := blk_frozen BK140.out 1; have hfz13_2 := blk_frozen BK140.out 2) | ((with_reducible refine gate_callee (f := 71) rfl ?_); refine gl (some 12) Try.func71 #[.agg #[.slice A0_0 l0_0.length c0_0, .int .i64 a0_1, .slice A0_2 l0_2.length c0_2]] ?_; (with_reducible refine (spec_l06Copy.calls k _ _ l0_0 a0_1 _ _ l0_2 t142 t145 t146 _ ?side1 ?side2 ?side3 ?side4 A8.out).mono ?_); (case side1 => repeat (first | exact (Kd.C_below HR0_0.out HB.out) | (with_reducible refine Kd.C_alloc ?_ _) | (with_reducible refine Kd.C_drewN ?_ _) | (with_reducible refine Kd.C_drew ?_))); (case side2 => exact HC0_0.out); (case side3 => repeat (first | exact (Kd.C_below HR0_2.out HB.out) | (with_reducible refine Kd.C_alloc ?_ _) | (with_reducible refine Kd.C_drewN ?_ _) | (with_reducible refine Kd.C_drew ?_))); (case side4 => exact HC0_2.out); rintro e w14 ⟨v143, v147, rfl, ho0, ho1, hb⟩; refine ⟨_, rfl, ?_⟩; have HO144 := am (Kd.S_lower ho0 (below_size (bl HB.out))); have HO148 := am (Kd.R_lower ho1 (below_size (bl HB.out))); replace BK140 := am (blk_below (pk BK140.out) hb); replace BK141 := am (blk_below (pk BK141.out) hb); replace HB := am (below_step (bl HB.out) hb); (try clear hb); (try clear hb2); (try clear hk); (try clear hi); (try clear ho0); (try clear ho1)) | ((with_reducible refine gate_dst (N := 5) rfl ?_); refine box_event ?hg (N := 5) ?hd (cs := #[.slice none 0 0, .int .i64 0, .slice none 0 0]) (t := 53) ?hr ?_; (case hd => rfl); (case hg => rfl); (case hr => first | (go_simp; done) | (go_simp; rfl)); intro gb149 hg w15 hbox hb; replace HO144 := am (Kd.S_below (ks HO144.out) hb); replace HO148 := am (Kd.R_below (kr HO148.out) hb); have BK149 := am (hbox); have GW149 := am ((by rw [hg]; exact (below_size (bl HB.out)) : w.heap.size ≤ gb149)); have GE149 := GW149; replace HB := am (below_step (bl HB.out) hb); have NB140_149 := am ((by rw [hg]; exact Nat.ne_of_lt (blk_lt (pk BK140.out)) : gb140 ≠ gb149)); have NB149_140 := am ((by rw [hg]; exact Nat.ne_of_gt (blk_lt (pk BK140.out)) : gb149 ≠ gb140)); replace BK140 := am (blk_below (pk BK140.out) hb); have NB141_149 := am ((by rw [hg]; exact Nat.ne_of_lt (blk_lt (pk BK141.out)) : gb141 ≠ gb149)); have NB149_141 := am ((by rw [hg]; exact Nat.ne_of_gt (blk_lt (pk BK141.out)) : gb149 ≠ gb141)); replace BK141 := am (blk_below (pk BK141.out) hb); clear hb hbox hg; obtain ⟨Ao16, co16, eo16⟩ := Kd.S_slice HO144.out; subst eo16; have hnb17 := NB149_140.out; have hnc17 := NB140_149.out; have hnb18 := NB149_141.out; have hnc18 := NB141_149.out; have hcz19_0 : w15.cell? ⟨gb149, 0, none⟩ = some (.slice none 0 0) := bc BK149.out 0; have hcz19_1 : w15.cell? ⟨gb149, 1, none⟩ = some (.int .i64 0) := bc BK149.out 1; have hcz19_2 : w15.cell? ⟨gb149, 2, none⟩ = some (.slice none 0 0) := bc BK149.out 2; have hfz19_0 := blk_frozen BK149.out 0; have hfz19_1 := blk_frozen BK149.out 1; have hfz19_2 := blk_frozen BK149.out 2; obtain ⟨Ao20, co20, eo20⟩ := Kd.R_slice HO148.out; subst eo20))
  (try simp only [Act.put, sa_, s0_, ss_])
  go_cut [20] (fun v20 wc => ∃ (kq : Nat) (x20_8 : Bool), v20 = .bool x20_8 ∧ Aside0 (spec_HistAdd.j0 kq l1 x20_8 l0_0 a0_1 l0_2 t142 t145 t146 = some (r1, r2, r3)) ∧ Aside0 (kq ≤ k) ∧ Aside0 (Kd.T (Kd.slice 2 (Kd.int .i64)) 37 wc w.heap.size (fun k_ => some k_ ≠ ((.slice Ao20 t146.length co20) : Value).ownBlock) (.slice Ao16 t142.length co16) t142) ∧ Aside0 (Kd.R (Kd.int .i64) 2 wc w.heap.size (fun _ => True) (.slice Ao20 t146.length co20) t146) ∧ Aside0 (wc.heap[gb140]? = some (.cells #[(.slice A0_0 l0_0.length c0_0), .int .i64 a0_1, (.slice A0_2 l0_2.length c0_2)] 53 (0, 0))) ∧ Aside0 (wc.heap[gb141]? = some (.cells #[(.slice none 0 0), .int .i64 0, (.slice none 0 0)] 53 (0, 0))) ∧ Aside0 (wc.heap[gb149]? = some (.cells #[(.slice Ao16 t142.length co16), .int .i64 t145, (.slice Ao20 t146.length co20)] 53 (0, 0))) ∧ Aside0 (Below w.heap.size w wc))
  case first =>
   have H := HC9.out
   clear HC9
   replace H := Option.bind_eq_some_iff.mp H
   obtain ⟨t150, A210, H⟩ := H
   replace H : (if t150 = true then ((spec_PointsRight.f k l1).bind fun t151 => (spec_HistAdd.j0 k l1 (!t151) l0_0 a0_1 l0_2 t142 t145 t146)) else (spec_HistAdd.j0 k l1 true l0_0 a0_1 l0_2 t142 t145 t146)) = some (r1, r2, r3) := H
   have A21 := Aside0.mk A210
   clear A210
   by_cases c22 : t150 = true
   ·subst c22
    have H1 : ((spec_PointsRight.f k l1).bind fun t151 => (spec_HistAdd.j0 k l1 (!t151) l0_0 a0_1 l0_2 t142 t145 t146)) = some (r1, r2, r3) := by rw [if_pos rfl] at H; exact H
    clear H
    have H := H1
    clear H1
    replace H := Option.bind_eq_some_iff.mp H
    obtain ⟨t151, A230, H⟩ := H
    replace H : (spec_HistAdd.j0 k l1 (!t151) l0_0 a0_1 l0_2 t142 t145 t146) = some (r1, r2, r3) := H
    have A23 := Aside0.mk A230
    clear A230
    have H' := Aside0.mk H
    clear H
    have hnb24 := NB140_141.out
    have hnc24 := NB141_140.out
    have hnb25 := NB140_149.out
    have hnc25 := NB149_140.out
    have hcz26_0 : w15.cell? ⟨gb140, 0, none⟩ = some (.slice A0_0 l0_0.length c0_0) := bc BK140.out 0
    have hcz26_1 : w15.cell? ⟨gb140, 1, none⟩ = some (.int .i64 a0_1) := bc BK140.out 1
    have hcz26_2 : w15.cell? ⟨gb140, 2, none⟩ = some (.slice A0_2 l0_2.length c0_2) := bc BK140.out 2
    have hfz26_0 := blk_frozen BK140.out 0
    have hfz26_1 := blk_frozen BK140.out 1
    have hfz26_2 := blk_frozen BK140.out 2
    go_wp2_with (first | ((with_reducible refine gate_callee (f := 72) rfl ?_); refine gl (some 14) Try.func72 #[.agg #[.slice A0_0 l0_0.length c0_0, .int .i64 a0_1, .slice A0_2 l0_2.length c0_2]] ?_; (with_reducible refine (spec_HistRight.calls k _ _ l0_0 a0_1 _ _ l0_2 true _ ?side1 ?side2 ?side3 ?side4 A21.out).mono ?_); (case side1 => exact Kd.C_below HR0_0.out (bl HB.out)); (case side2 => exact HC0_0.out); (case side3 => exact Kd.C_below HR0_2.out (bl HB.out)); (case side4 => exact HC0_2.out); rintro e w27 ⟨rfl, hb⟩; refine ⟨_, rfl, ?_⟩; replace HO144 := am (Kd.S_below (ks ((Kd.S_mono (Kd.S_far (p := ⟨gb149, 2, none⟩) (Kd.S_far (p := ⟨gb149, 1, none⟩) (Kd.S_far (p := ⟨gb149, 0, none⟩) (Kd.S_types HO144.out BK149.out (by decide)) (fun _ hk => hk.2) (.slice Ao16 t142.length co16)) (fun _ hk => hk.2) (.int .i64 t145)) (fun _ hk => hk.2) (.slice Ao20 t146.length co20)) (fun _ h_ => h_.1)))) hb); replace HO148 := am (Kd.R_below (kr ((Kd.R_mono (Kd.R_far (p := ⟨gb149, 2, none⟩) (Kd.R_far (p := ⟨gb149, 1, none⟩) (Kd.R_far (p := ⟨gb149, 0, none⟩) (Kd.R_types HO148.out BK149.out (by decide)) (fun _ hk => hk.2) (.slice Ao16 t142.length co16)) (fun _ hk => hk.2) (.int .i64 t145)) (fun _ hk => hk.2) (.slice Ao20 t146.length co20)) (fun _ h_ => h_.1)))) hb); replace BK140 := am (blk_below (g := gb140) (o := .cells #[.slice A0_0 l0_0.length c0_0, .int .i64 a0_1, .slice A0_2 l0_2.length c0_2] 53 (0, 0)) (by refine pk ?_; refine blk_far ?_ NB140_149.out _; refine pk ?_; refine blk_far ?_ NB140_149.out _; refine pk ?_; refine blk_far ?_ NB140_149.out _; refine pk ?_; exact BK140.out) hb); replace BK141 := am (blk_below (g := gb141) (o := .cells #[.slice none 0 0, .int .i64 0, .slice none 0 0] 53 (0, 0)) (by refine pk ?_; refine blk_far ?_ NB141_149.out _; refine pk ?_; refine blk_far ?_ NB141_149.out _; refine pk ?_; refine blk_far ?_ NB141_149.out _; refine pk ?_; exact BK141.out) hb); replace BK149 := am (blk_below (g := gb149) (o := .cells #[.slice Ao16 t142.length co16, .int .i64 t145, .slice Ao20 t146.length co20] 53 (0, 0)) (by refine pk ?_; refine blk_put (cs := #[.slice Ao16 t142.length co16, .int .i64 t145, .slice none 0 0]) ?_ 2 _ rfl; refine pk ?_; refine blk_put (cs := #[.slice Ao16 t142.length co16, .int .i64 0, .slice none 0 0]) ?_ 1 _ rfl; refine pk ?_; refine blk_put (cs := #[.slice none 0 0, .int .i64 0, .slice none 0 0]) ?_ 0 _ rfl; refine pk ?_; exact BK149.out) hb); replace HB := am (below_step (bl HB.out) hb); (try clear hb); (try clear hb2); (try clear hk); (try clear hi)) | (go_at_call 73; (with_reducible refine (spec_PointsRight.calls k _ _ l1 t151 _ ?side1 ?side2 A23.out).mono ?_); (case side1 => repeat (first | exact (Kd.C_below HR1.out HB.out) | (with_reducible refine Kd.C_alloc ?_ _) | (with_reducible refine Kd.C_drewN ?_ _) | (with_reducible refine Kd.C_drew ?_))); (case side2 => exact HC1.out); rintro e w' ⟨rfl, ⟨nd, rfl⟩⟩))
    go_meet
    case rel => exact ⟨_, (!t151), (by first | rfl | (simp; done) | (simp [*]; done)), H', ⟨by first | omega | exact Nat.le_refl _⟩, ⟨Kd.T_of_S (ks HO144.out)⟩, ⟨kr HO148.out⟩, ⟨pk BK140.out⟩, ⟨pk BK141.out⟩, ⟨pk BK149.out⟩, ⟨by repeat (first | (with_reducible first | exact HB.out | apply below_alloc | apply pw_below_drewN | apply below_drew1 | refine below_set ?_ GE140.out | refine below_set ?_ GE141.out | refine below_set ?_ GE149.out) | exact HB.out)⟩⟩
   ·replace c22 := Bool.eq_false_iff.mpr c22
    subst c22
    have H1 : (spec_HistAdd.j0 k l1 true l0_0 a0_1 l0_2 t142 t145 t146) = some (r1, r2, r3) := by rw [if_neg (show ¬ (false = true) by decide)] at H; exact H
    clear H
    have H := H1
    clear H1
    have H' := Aside0.mk H
    clear H
    have hnb28 := NB140_141.out
    have hnc28 := NB141_140.out
    have hnb29 := NB140_149.out
    have hnc29 := NB149_140.out
    have hcz30_0 : w15.cell? ⟨gb140, 0, none⟩ = some (.slice A0_0 l0_0.length c0_0) := bc BK140.out 0
    have hcz30_1 : w15.cell? ⟨gb140, 1, none⟩ = some (.int .i64 a0_1) := bc BK140.out 1
    have hcz30_2 : w15.cell? ⟨gb140, 2, none⟩ = some (.slice A0_2 l0_2.length c0_2) := bc BK140.out 2
    have hfz30_0 := blk_frozen BK140.out 0
    have hfz30_1 := blk_frozen BK140.out 1
    have hfz30_2 := blk_frozen BK140.out 2
    go_wp2_with (first | ((with_reducible refine gate_callee (f := 72) rfl ?_); refine gl (some 14) Try.func72 #[.agg #[.slice A0_0 l0_0.length c0_0, .int .i64 a0_1, .slice A0_2 l0_2.length c0_2]] ?_; (with_reducible refine (spec_HistRight.calls k _ _ l0_0 a0_1 _ _ l0_2 false _ ?side1 ?side2 ?side3 ?side4 A21.out).mono ?_); (case side1 => exact Kd.C_below HR0_0.out (bl HB.out)); (case side2 => exact HC0_0.out); (case side3 => exact Kd.C_below HR0_2.out (bl HB.out)); (case side4 => exact HC0_2.out); rintro e w31 ⟨rfl, hb⟩; refine ⟨_, rfl, ?_⟩; replace HO144 := am (Kd.S_below (ks ((Kd.S_mono (Kd.S_far (p := ⟨gb149, 2, none⟩) (Kd.S_far (p := ⟨gb149, 1, none⟩) (Kd.S_far (p := ⟨gb149, 0, none⟩) (Kd.S_types HO144.out BK149.out (by decide)) (fun _ hk => hk.2) (.slice Ao16 t142.length co16)) (fun _ hk => hk.2) (.int .i64 t145)) (fun _ hk => hk.2) (.slice Ao20 t146.length co20)) (fun _ h_ => h_.1)))) hb); replace HO148 := am (Kd.R_below (kr ((Kd.R_mono (Kd.R_far (p := ⟨gb149, 2, none⟩) (Kd.R_far (p := ⟨gb149, 1, none⟩) (Kd.R_far (p := ⟨gb149, 0, none⟩) (Kd.R_types HO148.out BK149.out (by decide)) (fun _ hk => hk.2) (.slice Ao16 t142.length co16)) (fun _ hk => hk.2) (.int .i64 t145)) (fun _ hk => hk.2) (.slice Ao20 t146.length co20)) (fun _ h_ => h_.1)))) hb); replace BK140 := am (blk_below (g := gb140) (o := .cells #[.slice A0_0 l0_0.length c0_0, .int .i64 a0_1, .slice A0_2 l0_2.length c0_2] 53 (0, 0)) (by refine pk ?_; refine blk_far ?_ NB140_149.out _; refine pk ?_; refine blk_far ?_ NB140_149.out _; refine pk ?_; refine blk_far ?_ NB140_149.out _; refine pk ?_; exact BK140.out) hb); replace BK141 := am (blk_below (g := gb141) (o := .cells #[.slice none 0 0, .int .i64 0, .slice none 0 0] 53 (0, 0)) (by refine pk ?_; refine blk_far ?_ NB141_149.out _; refine pk ?_; refine blk_far ?_ NB141_149.out _; refine pk ?_; refine blk_far ?_ NB141_149.out _; refine pk ?_; exact BK141.out) hb); replace BK149 := am (blk_below (g := gb149) (o := .cells #[.slice Ao16 t142.length co16, .int .i64 t145, .slice Ao20 t146.length co20] 53 (0, 0)) (by refine pk ?_; refine blk_put (cs := #[.slice Ao16 t142.length co16, .int .i64 t145, .slice none 0 0]) ?_ 2 _ rfl; refine pk ?_; refine blk_put (cs := #[.slice Ao16 t142.length co16, .int .i64 0, .slice none 0 0]) ?_ 1 _ rfl; refine pk ?_; refine blk_put (cs := #[.slice none 0 0, .int .i64 0, .slice none 0 0]) ?_ 0 _ rfl; refine pk ?_; exact BK149.out) hb); replace HB := am (below_step (bl HB.out) hb); (try clear hb); (try clear hb2); (try clear hk); (try clear hi)))
    go_meet
    case rel => exact ⟨_, (true), (by first | rfl | (simp; done) | (simp [*]; done)), H', ⟨by first | omega | exact Nat.le_refl _⟩, ⟨Kd.T_of_S (ks HO144.out)⟩, ⟨kr HO148.out⟩, ⟨pk BK140.out⟩, ⟨pk BK141.out⟩, ⟨pk BK149.out⟩, ⟨by repeat (first | (with_reducible first | exact HB.out | apply below_alloc | apply pw_below_drewN | apply below_drew1 | refine below_set ?_ GE140.out | refine below_set ?_ GE141.out | refine below_set ?_ GE149.out) | exact HB.out)⟩⟩
  case rest =>
   clear HC9
   try clear c1
   try clear c2
   try clear p2
   try clear c3
   try clear c3b0
   try clear c3b1
   try clear c6
   try clear c7
   try clear c12
   try clear c17
   try clear c18
   try clear c22
   try clear c24
   try clear c25
   try clear c28
   try clear c29
   try clear hcz13_0
   try clear hcz13_1
   try clear hcz13_2
   try clear hcz19_0
   try clear hcz19_1
   try clear hcz19_2
   try clear hcz26_0
   try clear hcz26_1
   try clear hcz26_2
   try clear hcz30_0
   try clear hcz30_1
   try clear hcz30_2
   try clear hcz7_0
   try clear hcz7_1
   try clear hcz7_2
   try clear hfz13_0
   try clear hfz13_1
   try clear hfz13_2
   try clear hfz19_0
   try clear hfz19_1
   try clear hfz19_2
   try clear hfz26_0
   try clear hfz26_1
   try clear hfz26_2
   try clear hfz30_0
   try clear hfz30_1
   try clear hfz30_2
   try clear hfz7_0
   try clear hfz7_1
   try clear hfz7_2
   obtain ⟨kq, x20_8, rfl, HA, HJ8, HO_150000, HO_150002, BK140, BK141, BK149, HB⟩ := hcut
   cases kq with
   | zero => exact absurd HA.out (by simp [spec_HistAdd.j0])
   | succ kj8 =>
    have H := HA.out
    clear HA
    simp only [spec_HistAdd.j0] at H
    by_cases c32 : x20_8 = true
    ·subst c32
     have H1 : (some (t142, t145, t146)) = some (r1, r2, r3) := by rw [if_pos rfl] at H; exact H
     clear H
     have H := H1
     clear H1
     simp only [Option.some.injEq, Prod.mk.injEq] at H
     obtain ⟨rfl, rfl, rfl⟩ := H
     have hnb33 := NB149_140.out
     have hnc33 := NB140_149.out
     have hnb34 := NB149_141.out
     have hnc34 := NB141_149.out
     have hcz35_0 : wc.cell? ⟨gb149, 0, none⟩ = some (.slice Ao16 t142.length co16) := bc BK149.out 0
     have hcz35_1 : wc.cell? ⟨gb149, 1, none⟩ = some (.int .i64 t145) := bc BK149.out 1
     have hcz35_2 : wc.cell? ⟨gb149, 2, none⟩ = some (.slice Ao20 t146.length co20) := bc BK149.out 2
     have hfz35_0 := blk_frozen BK149.out 0
     have hfz35_1 := blk_frozen BK149.out 1
     have hfz35_2 := blk_frozen BK149.out 2
     have hnb36 := NB141_140.out
     have hnc36 := NB140_141.out
     have hcz37_0 : wc.cell? ⟨gb141, 0, none⟩ = some (.slice none 0 0) := bc BK141.out 0
     have hcz37_1 : wc.cell? ⟨gb141, 1, none⟩ = some (.int .i64 0) := bc BK141.out 1
     have hcz37_2 : wc.cell? ⟨gb141, 2, none⟩ = some (.slice none 0 0) := bc BK141.out 2
     have hfz37_0 := blk_frozen BK141.out 0
     have hfz37_1 := blk_frozen BK141.out 1
     have hfz37_2 := blk_frozen BK141.out 2
     go_wp2
     refine bodyPost_ret (results_cell_row rfl _ _ gb141 53 #[.slice Ao16 t142.length co16, .int .i64 t145, .slice Ao20 t146.length co20] (0, 0) _ rfl (by refine pk ?_; refine blk_put (cs := #[.slice Ao16 t142.length co16, .int .i64 t145, .slice none 0 0]) ?_ 2 _ rfl; refine pk ?_; refine blk_put (cs := #[.slice Ao16 t142.length co16, .int .i64 0, .slice none 0 0]) ?_ 1 _ rfl; refine pk ?_; refine blk_put (cs := #[.slice none 0 0, .int .i64 0, .slice none 0 0]) ?_ 0 _ rfl; refine pk ?_; exact BK141.out) Try.underlying53 rfl (by kernel_rfl)) rfl ?_
     exact ⟨_, _, by first | rfl | (simp [errW_none, errW_some] <;> rfl) | (simp [*, errW_none, errW_some] <;> rfl), by (with_reducible repeat (first | apply Kd.T_alloc | apply Kd.T_drewN | apply Kd.T_drew)); exact Kd.T_mono (Kd.T_far (p := ⟨gb141, 2, none⟩) (Kd.T_far (p := ⟨gb141, 1, none⟩) (Kd.T_far (p := ⟨gb141, 0, none⟩) (Kd.T_types HO_150000.out BK141.out (by decide)) (fun _ hk => hk.2) (.slice Ao16 t142.length co16)) (fun _ hk => hk.2) (.int .i64 t145)) (fun _ hk => hk.2) (.slice Ao20 t146.length co20)) (fun _ hk => hk.1), kr (Kd.R_mono (Kd.R_far (p := ⟨gb141, 2, none⟩) (Kd.R_far (p := ⟨gb141, 1, none⟩) (Kd.R_far (p := ⟨gb141, 0, none⟩) (Kd.R_types HO_150002.out BK141.out (by decide)) (fun _ hk => hk.2) (.slice Ao16 t142.length co16)) (fun _ hk => hk.2) (.int .i64 t145)) (fun _ hk => hk.2) (.slice Ao20 t146.length co20)) (fun _ hk => trivial)), by repeat (first | (with_reducible first | exact HB.out | apply below_alloc | apply pw_below_drewN | apply below_drew1 | refine below_set ?_ GE140.out | refine below_set ?_ GE141.out | refine below_set ?_ GE149.out) | exact HB.out)⟩
    ·replace c32 := Bool.eq_false_iff.mpr c32
     subst c32
     have H1 : (if (l1.length : Int) > 0 then (if (l0_0.length : Int) = 0 then (spec_HistAdd.j1 kj8 l1 true t142 t145 t146) else (if 0 ≤ (wrap64 ((l0_0.length : Int) - 1)) then (if (wrap64 ((l0_0.length : Int) - 1)) < (l0_0.length : Int) then ((spec_l01Same.f kj8 (rd_L1 l0_0 (wrap64 ((l0_0.length : Int) - 1))) l1).bind fun t153 => (spec_HistAdd.j1 kj8 l1 (!t153) t142 t145 t146)) else (none)) else (none))) else (spec_HistAdd.j1 kj8 l1 false t142 t145 t146)) = some (r1, r2, r3) := by rw [if_neg (show ¬ (false = true) by decide)] at H; exact H
     clear H
     have H := H1
     clear H1
     have HC38 := Aside0.mk H
     clear H
     have hnb39 := NB140_141.out
     have hnc39 := NB141_140.out
     have hnb40 := NB140_149.out
     have hnc40 := NB149_140.out
     have hcz41_0 : wc.cell? ⟨gb140, 0, none⟩ = some (.slice A0_0 l0_0.length c0_0) := bc BK140.out 0
     have hcz41_1 : wc.cell? ⟨gb140, 1, none⟩ = some (.int .i64 a0_1) := bc BK140.out 1
     have hcz41_2 : wc.cell? ⟨gb140, 2, none⟩ = some (.slice A0_2 l0_2.length c0_2) := bc BK140.out 2
     have hfz41_0 := blk_frozen BK140.out 0
     have hfz41_1 := blk_frozen BK140.out 1
     have hfz41_2 := blk_frozen BK140.out 2
     go_upto_region 7 with (fail)
     go_cut [42] (fun v42 wc => ∃ (kq : Nat) (x42_37 : Bool), v42 = .bool x42_37 ∧ Aside0 (spec_HistAdd.j1 kq l1 x42_37 t142 t145 t146 = some (r1, r2, r3)) ∧ Aside0 (kq ≤ kj8) ∧ Aside0 (Kd.T (Kd.slice 2 (Kd.int .i64)) 37 wc w.heap.size (fun k_ => some k_ ≠ ((.slice Ao20 t146.length co20) : Value).ownBlock) (.slice Ao16 t142.length co16) t142) ∧ Aside0 (Kd.R (Kd.int .i64) 2 wc w.heap.size (fun _ => True) (.slice Ao20 t146.length co20) t146) ∧ Aside0 (wc.heap[gb140]? = some (.cells #[(.slice A0_0 l0_0.length c0_0), .int .i64 a0_1, (.slice A0_2 l0_2.length c0_2)] 53 (0, 0))) ∧ Aside0 (wc.heap[gb141]? = some (.cells #[(.slice none 0 0), .int .i64 0, (.slice none 0 0)] 53 (0, 0))) ∧ Aside0 (wc.heap[gb149]? = some (.cells #[(.slice Ao16 t142.length co16), .int .i64 t145, (.slice Ao20 t146.length co20)] 53 (0, 0))) ∧ Aside0 (Below w.heap.size w wc))
     case first =>
      have H := HC38.out
      clear HC38
      by_cases c42 : (l1.length : Int) > 0
      ·rw [if_pos c42] at H
       have c42b0 : decide (0 < (l1.length : Int)) = true := decide_eq_true c42
       have c42b1 : decide (0 < l1.length) = true := decide_eq_true (by omega)
       clear c42
       (first | rw [c42b0] | (simp only [i64_w, i32_w]; rw [c42b0]) | (have e9_ := c42b0; unfold bne at e9_; rw [e9_]) | skip)
       by_cases c43 : (l0_0.length : Int) = 0
       ·rw [if_pos c43] at H
        have c43b0 : ((l0_0.length : Int) == 0) = true := beq_iff_eq.mpr c43
        have c43b1 : ((l0_0.length : Int) != 0) = false := bne_eq_false_iff_eq.mpr c43
        clear c43
        have H' := Aside0.mk H
        clear H
        go_wp2
        go_meet
        case rel => exact ⟨_, (true), (by first | rfl | (simp; done) | (simp [*]; done)), H', ⟨by have := HJ8.out; first | omega | exact Nat.le_refl _⟩, ⟨by (with_reducible repeat (first | apply Kd.T_alloc | apply Kd.T_drewN | apply Kd.T_drew)); exact HO_150000.out⟩, ⟨kr HO_150002.out⟩, ⟨pk BK140.out⟩, ⟨pk BK141.out⟩, ⟨pk BK149.out⟩, ⟨by repeat (first | (with_reducible first | exact HB.out | apply below_alloc | apply pw_below_drewN | apply below_drew1 | refine below_set ?_ GE140.out | refine below_set ?_ GE141.out | refine below_set ?_ GE149.out) | exact HB.out)⟩⟩
       ·rw [if_neg c43] at H
        have c43b0 : ((l0_0.length : Int) == 0) = false := beq_eq_false_iff_ne.mpr c43
        have c43b1 : ((l0_0.length : Int) != 0) = true := bne_iff_ne.mpr c43
        have c43b2 : ¬ (l0_0 = []) := fun h_ => c43 (by rw [h_]; rfl)
        obtain ⟨ji44, hji44⟩ : ∃ j_ : Int, (wrap64 ((l0_0.length : Int) - 1)) = j_ := ⟨_, rfl⟩
        replace H : (if 0 ≤ (ji44) then (if (ji44) < (l0_0.length : Int) then ((spec_l01Same.f kj8 (rd_L1 l0_0 (ji44)) l1).bind fun t153 => (spec_HistAdd.j1 kj8 l1 (!t153) t142 t145 t146)) else (none)) else (none)) = some (r1, r2, r3) := by first | (rw [hji44] at H; exact H) | (simp only [hji44] at H ⊢; exact H)
        have hji44w : (IntKind.i64.wrap ((l0_0.length : Int) - 1)) = ji44 := (i64_w _).trans hji44
        by_cases c45 : 0 ≤ (ji44)
        ·rw [if_pos c45] at H
         have c45b0 : decide (0 ≤ (ji44)) = true := decide_eq_true c45
         clear c45
         by_cases c46 : (ji44) < (l0_0.length : Int)
         ·rw [if_pos c46] at H
          have c46b0 : decide ((ji44) < (l0_0.length : Int)) = true := decide_eq_true c46
          clear c46
          replace H := Option.bind_eq_some_iff.mp H
          obtain ⟨t153, A470, H⟩ := H
          replace H : (spec_HistAdd.j1 kj8 l1 (!t153) t142 t145 t146) = some (r1, r2, r3) := H
          have A47 := Aside0.mk A470
          clear A470
          have H' := Aside0.mk H
          clear H
          have hnb48 := NB140_141.out
          have hnc48 := NB141_140.out
          have hnb49 := NB140_149.out
          have hnc49 := NB149_140.out
          have hcz50_0 : wc.cell? ⟨gb140, 0, none⟩ = some (.slice A0_0 l0_0.length c0_0) := bc BK140.out 0
          have hcz50_1 : wc.cell? ⟨gb140, 1, none⟩ = some (.int .i64 a0_1) := bc BK140.out 1
          have hcz50_2 : wc.cell? ⟨gb140, 2, none⟩ = some (.slice A0_2 l0_2.length c0_2) := bc BK140.out 2
          have hfz50_0 := blk_frozen BK140.out 0
          have hfz50_1 := blk_frozen BK140.out 1
          have hfz50_2 := blk_frozen BK140.out 2
          have p152 : 0 ≤ ((ji44) : Int) := of_decide_eq_true (by first | (with_reducible assumption) | assumption)
          have q152 : (ji44) < (l0_0.length : Int) := of_decide_eq_true (by first | (with_reducible assumption) | assumption)
          obtain ⟨ad152, A152_0, c152_0, e152, hx152_0, hl152_0, hi152_0⟩ := at_L1 HR0_0.out (ji44) p152 q152
          cases e152
          have hxw152_0 := hx152_0
          replace hx152_0 := (HB.out.cell (World.block_lt_of_cell? w _ hx152_0)).trans hx152_0
          have HR152_0 := am hi152_0
          have HC152_0 := am hl152_0
          clear hi152_0 hl152_0
          replace p152 := eq_true p152
          replace q152 := eq_true q152
          go_wp2_with (first | (go_at_call 74; (with_reducible refine (spec_l01Same.calls kj8 _ _ (rd_L1 l0_0 (ji44)) _ _ l1 t153 _ ?side1 ?side2 ?side3 ?side4 A47.out).mono ?_); (case side1 => repeat (first | exact (Kd.C_below HR152_0.out HB.out) | (with_reducible refine Kd.C_alloc ?_ _) | (with_reducible refine Kd.C_drewN ?_ _) | (with_reducible refine Kd.C_drew ?_))); (case side2 => exact HC152_0.out); (case side3 => repeat (first | exact (Kd.C_below HR1.out HB.out) | (with_reducible refine Kd.C_alloc ?_ _) | (with_reducible refine Kd.C_drewN ?_ _) | (with_reducible refine Kd.C_drew ?_))); (case side4 => exact HC1.out); rintro e w' ⟨rfl, ⟨nd, rfl⟩⟩))
          (try subst hji44)
          go_meet
          case rel => exact ⟨_, (!t153), (by first | rfl | (simp; done) | (simp [*]; done)), H', ⟨by have := HJ8.out; first | omega | exact Nat.le_refl _⟩, ⟨by (with_reducible repeat (first | apply Kd.T_alloc | apply Kd.T_drewN | apply Kd.T_drew)); exact HO_150000.out⟩, ⟨kr HO_150002.out⟩, ⟨pk BK140.out⟩, ⟨pk BK141.out⟩, ⟨pk BK149.out⟩, ⟨by repeat (first | (with_reducible first | exact HB.out | apply below_alloc | apply pw_below_drewN | apply below_drew1 | refine below_set ?_ GE140.out | refine below_set ?_ GE141.out | refine below_set ?_ GE149.out) | exact HB.out)⟩⟩
         ·rw [if_neg c46] at H
          exact absurd H (by simp)
        ·rw [if_neg c45] at H
         exact absurd H (by simp)
      ·rw [if_neg c42] at H
       have c42b0 : decide (0 < (l1.length : Int)) = false := decide_eq_false c42
       have c42b1 : decide (0 < l1.length) = false := decide_eq_false (by omega)
       clear c42
       (first | rw [c42b0] | (simp only [i64_w, i32_w]; rw [c42b0]) | (have e9_ := c42b0; unfold bne at e9_; rw [e9_]) | skip)
       have H' := Aside0.mk H
       clear H
       go_wp2
       go_meet
       case rel => exact ⟨_, (false), (by first | rfl | (simp; done) | (simp [*]; done)), H', ⟨by have := HJ8.out; first | omega | exact Nat.le_refl _⟩, ⟨by (with_reducible repeat (first | apply Kd.T_alloc | apply Kd.T_drewN | apply Kd.T_drew)); exact HO_150000.out⟩, ⟨kr HO_150002.out⟩, ⟨pk BK140.out⟩, ⟨pk BK141.out⟩, ⟨pk BK149.out⟩, ⟨by repeat (first | (with_reducible first | exact HB.out | apply below_alloc | apply pw_below_drewN | apply below_drew1 | refine below_set ?_ GE140.out | refine below_set ?_ GE141.out | refine below_set ?_ GE149.out) | exact HB.out)⟩⟩
     case rest =>
      clear HC38
      try clear c1
      try clear p1
      try clear q1
      try clear hx1
      try clear c2
      try clear p2
      try clear c3
      try clear c3b0
      try clear c3b1
      try clear c4
      try clear c6
      try clear p6
      try clear c7
      try clear c12
      try clear c15
      try clear p15
      try clear q15
      try clear hx15
      try clear c17
      try clear c18
      try clear c22
      try clear c24
      try clear c25
      try clear c28
      try clear c29
      try clear c32
      try clear c33
      try clear c34
      try clear c36
      try clear c39
      try clear c40
      try clear c42
      try clear c42b0
      try clear c42b1
      try clear c43
      try clear c43b0
      try clear c43b1
      try clear c43b2
      try clear c45
      try clear c45b0
      try clear c46
      try clear c46b0
      try clear c48
      try clear c49
      try clear hcz13_0
      try clear hcz13_1
      try clear hcz13_2
      try clear hcz19_0
      try clear hcz19_1
      try clear hcz19_2
      try clear hcz26_0
      try clear hcz26_1
      try clear hcz26_2
      try clear hcz30_0
      try clear hcz30_1
      try clear hcz30_2
      try clear hcz35_0
      try clear hcz35_1
      try clear hcz35_2
      try clear hcz37_0
      try clear hcz37_1
      try clear hcz37_2
      try clear hcz41_0
      try clear hcz41_1
      try clear hcz41_2
      try clear hcz50_0
      try clear hcz50_1
      try clear hcz50_2
      try clear hcz7_0
      try clear hcz7_1
      try clear hcz7_2
      try clear hfz13_0
      try clear hfz13_1
      try clear hfz13_2
      try clear hfz19_0
      try clear hfz19_1
      try clear hfz19_2
      try clear hfz26_0
      try clear hfz26_1
      try clear hfz26_2
      try clear hfz30_0
      try clear hfz30_1
      try clear hfz30_2
      try clear hfz35_0
      try clear hfz35_1
      try clear hfz35_2
      try clear hfz37_0
      try clear hfz37_1
      try clear hfz37_2
      try clear hfz41_0
      try clear hfz41_1
      try clear hfz41_2
      try clear hfz50_0
      try clear hfz50_1
      try clear hfz50_2
      try clear hfz7_0
      try clear hfz7_1
      try clear hfz7_2
      try clear hx152_0
      try clear p152
      try clear p2
      try clear q152
      obtain ⟨kq, x42_37, rfl, HA, HJ37, HO_150000, HO_150002, BK140, BK141, BK149, HB⟩ := hcut
      cases kq with
      | zero => exact absurd HA.out (by simp [spec_HistAdd.j1])
      | succ kj37 =>
       have H := HA.out
       clear HA
       simp only [spec_HistAdd.j1] at H
       by_cases c51 : x42_37 = true
       ·subst c51
        have H1 : ((spec_l01Copy.f l1).bind fun t154 => (if t142.length < 5864062014805 then ((some (t142 ++ [t154] : List (List Int))).bind fun y157 => (if (y157.length : Int) > 30 then (if 1 ≤ (y157.length : Int) then ((some (y157.drop (1 : Int).toNat : List (List Int))).bind fun y160 => (some (y160, (y160.length : Int), (([] : List Int))))) else (none)) else (some (y157, (y157.length : Int), (([] : List Int)))))) else (none))) = some (r1, r2, r3) := by rw [if_pos rfl] at H; exact H
        clear H
        have H := H1
        clear H1
        replace H := Option.bind_eq_some_iff.mp H
        obtain ⟨t154, A520, H⟩ := H
        replace H : (if t142.length < 5864062014805 then ((some (t142 ++ [t154] : List (List Int))).bind fun y157 => (if (y157.length : Int) > 30 then (if 1 ≤ (y157.length : Int) then ((some (y157.drop (1 : Int).toNat : List (List Int))).bind fun y160 => (some (y160, (y160.length : Int), (([] : List Int))))) else (none)) else (some (y157, (y157.length : Int), (([] : List Int)))))) else (none)) = some (r1, r2, r3) := H
        have A52 := Aside0.mk A520
        clear A520
        by_cases c53 : t142.length < 5864062014805
        ·rw [if_pos c53] at H
         have LMc53 := Aside0.mk c53
         clear c53
         obtain ⟨y157, hy157⟩ : ∃ y_ : List (List Int), y_ = (t142 ++ [t154]) := ⟨_, rfl⟩
         replace H : (if (y157.length : Int) > 30 then (if 1 ≤ (y157.length : Int) then ((some (y157.drop (1 : Int).toNat : List (List Int))).bind fun y160 => (some (y160, (y160.length : Int), (([] : List Int))))) else (none)) else (some (y157, (y157.length : Int), (([] : List Int))))) = some (r1, r2, r3) := by first | (rw [hy157]; with_reducible exact H) | (have H2_ := (Option.bind_some _ _).symm.trans H; rw [hy157]; with_reducible exact H2_) | (have H2_ := (Option.bind_some _ _).symm.trans H; with_reducible exact H2_) | with_reducible exact H | (rw [hy157]; exact H) | exact H
         have Ny157 := am hy157
         clear hy157
         by_cases c54 : (y157.length : Int) > 30
         ·rw [if_pos c54] at H
          have c54b0 : decide (30 < (y157.length : Int)) = true := decide_eq_true c54
          have c54b1 : decide (30 < y157.length) = true := decide_eq_true (by omega)
          clear c54
          by_cases c55 : 1 ≤ (y157.length : Int)
          ·rw [if_pos c55] at H
           have c55b0 := eq_true c55
           have c55b1 : decide (1 ≤ (y157.length : Int)) = true := decide_eq_true c55
           clear c55
           obtain ⟨y160, hy160⟩ : ∃ y_ : List (List Int), y_ = (y157.drop (1 : Int).toNat) := ⟨_, rfl⟩
           replace H : (some (y160, (y160.length : Int), (([] : List Int)))) = some (r1, r2, r3) := by first | (rw [hy160]; with_reducible exact H) | (have H2_ := (Option.bind_some _ _).symm.trans H; rw [hy160]; with_reducible exact H2_) | (have H2_ := (Option.bind_some _ _).symm.trans H; with_reducible exact H2_) | with_reducible exact H | (rw [hy160]; exact H) | exact H
           have Ny160 := am hy160
           clear hy160
           obtain ⟨y163, hy163⟩ : ∃ y_ : List Int, y_ = (([] : List Int)) := ⟨_, rfl⟩
           replace H : (some (y160, (y160.length : Int), y163)) = some (r1, r2, r3) := by first | (rw [hy163]; with_reducible exact H) | (have H2_ := (Option.bind_some _ _).symm.trans H; rw [hy163]; with_reducible exact H2_) | (have H2_ := (Option.bind_some _ _).symm.trans H; with_reducible exact H2_) | with_reducible exact H | (rw [hy163]; exact H) | exact H
           have Ny163 := am hy163
           clear hy163
           simp only [Option.some.injEq, Prod.mk.injEq] at H
           obtain ⟨rfl, rfl, rfl⟩ := H
           try go_wp2
           replace HO_150000 := am (Kd.T_drew HO_150000.out)
           replace HO_150002 := am (Kd.R_drew HO_150002.out)
           replace BK140 := am (blk_drew BK140.out)
           replace BK141 := am (blk_drew BK141.out)
           replace BK149 := am (blk_drew BK149.out)
           replace HB := am (below_drew1 HB.out)
           refine start_ (n := 8) (S := fun w' => w'.cell? ⟨gb149, 0, none⟩ = some (.slice Ao16 t142.length co16) ∧ w'.cell? ⟨gb149, 1, none⟩ = some (.int .i64 t145) ∧ w'.cell? ⟨gb149, 2, none⟩ = some (.slice Ao20 t146.length co20)) (ds := [7]) b22_0 (by kernel_rfl) rfl rfl ⟨bc BK149.out 0, bc BK149.out 1, bc BK149.out 2⟩ (fun hHeld => ?_); refine with_tabW spec_HistAdd.tab8 spec_HistAdd.bits8 (fun HT_ HW_ => ?_)
           generalize wc.drew = w56 at HO_150000 HO_150002 BK140 BK141 BK149 HB hHeld ⊢
           refine pu_ 0 (some 43) ?_ b22_1 rfl rfl HT_.out (by kernel_rfl) (fun _ _ _ h => h) (Or.inl ⟨by rfl, ?_⟩) ?_ ?_ ?_; rotate_left
           ·intro w'; go_simp; with_reducible rfl
           rotate_left
           ·simp only [Act.put, sa_, s0_, ss_, i64_w, i32_w]; rfl
           refine pu_ 2 (some 45) ?_ b22_2 rfl rfl HT_.out (by kernel_rfl) (fun _ _ _ h => h) (Or.inl ⟨by rfl, ?_⟩) ?_ ?_ ?_; rotate_left
           ·intro w'; go_simp; with_reducible rfl
           rotate_left
           ·simp only [Act.put, sa_, s0_, ss_, i64_w, i32_w]; rfl
           refine tk_ 1 (some 44) ?_ b22_3 rfl rfl HT_.out HW_.out (by kernel_rfl) (fun _ _ _ h => h) (Or.inl ⟨by rfl, ?_⟩) hHeld ?_ ?_ ?_; rotate_left
           ·rintro w' ⟨s0, s1, s2⟩; go_simp; with_reducible rfl
           rotate_left
           ·simp only [Act.put, sa_, s0_, ss_, i64_w, i32_w]; rfl
           refine one_ (i := 3) (N := some 46) b22_4 rfl rfl (one_of HT_.out (by kernel_rfl)) (by decide) (fun K hK => ?_)
           refine gs_ Try.func75 #[.slice A1 l1.length c1] ?_
           with_reducible refine (spec_l01Copy.calls _ _ l1 t154 _ ?side1 ?side2 A52.out).mono ?_
           (case side1 => repeat (first | exact (Kd.C_below HR1.out HB.out) | (with_reducible refine Kd.C_alloc ?_ _) | (with_reducible refine Kd.C_drewN ?_ _) | (with_reducible refine Kd.C_drew ?_)))
           (case side2 => exact HC1.out)
           rintro e w57 ⟨v155, rfl, ho0, hb⟩
           refine ⟨_, rfl, ?_⟩
           replace HO_150000 := am (Kd.T_elder' (by (with_reducible repeat (first | apply Kd.T_alloc | apply Kd.T_drewN | apply Kd.T_drew)); exact HO_150000.out) (Kd.R_base ho0) hb)
           have HO156 := am (Kd.R_lower (Kd.R_new' ho0 (Kd.R_lt (kr HO_150002.out))) (below_size (bl HB.out)))
           replace HO_150002 := am (Kd.R_elder' (kr HO_150002.out) (Kd.R_base ho0) hb)
           replace BK140 := am (blk_below (pk BK140.out) hb)
           replace BK141 := am (blk_below (pk BK141.out) hb)
           replace BK149 := am (blk_below (pk BK149.out) hb)
           replace HB := am (below_step (bl HB.out) hb)
           (try clear hb)
           (try clear hb2)
           (try clear hk)
           (try clear hi)
           (try clear ho0)
           obtain ⟨Ao59, co59, eo59⟩ := Kd.R_slice HO156.out
           (first | subst eo59 | (injection eo59 with f1_ f2_ f3_; have f4_ := f1_.symm; have f5_ := f3_.symm; clear f1_ f2_ f3_; subst f4_; subst f5_))
           refine hK.out _ _ ⟨bc BK149.out 0, bc BK149.out 1, bc BK149.out 2⟩ (fun hHeld => ?_)
           clear hK K
           refine norm_ (a' := ?_) ?_ ?_
           rotate_left
           ·show Act.put _ (some 46) _ = _
            simp only [Act.put, sa_, s0_, ss_, i64_w, i32_w]
            rfl
           refine one_ (i := 4) (N := some 47) b22_5 rfl rfl (one_of HT_.out (by kernel_rfl)) (by decide) (fun K hK => ?_)
           refine value_ (w1 := ?_) (v := ?_) (by rfl) rfl ?_ ?_
           rotate_left 2
           ·go_simp
            constructor
            ·rfl
            ·rfl
           refine hK.out _ _ ⟨(blk_cell (blk_alloc BK149.out _) 0).trans rfl, (blk_cell (blk_alloc BK149.out _) 1).trans rfl, (blk_cell (blk_alloc BK149.out _) 2).trans rfl⟩ (fun hHeld => ?_)
           clear hK K
           refine norm_ (a' := ?_) ?_ ?_
           rotate_left
           ·show Act.put _ (some 47) _ = _
            simp only [Act.put, sa_, s0_, ss_, i64_w, i32_w]
            rfl
           refine one_ (i := 5) (N := some 48) b22_6 rfl rfl (one_of HT_.out (by kernel_rfl)) (by decide) (fun K hK => ?_)
           refine Kd.T_append_step (Kd.slice 2 (Kd.int .i64)) (w0 := w) w.heap.size (by rfl) (.tmp 44) (.tmp 47) 49 37 (.slice none 0 0) 24 rfl Try.underlying49 info37 rfl (by decide) (by omega) (.slice Ao16 t142.length co16) t142 t154 [.slice Ao59 t154.length co59] (fun k_ => some k_ ≠ (.slice Ao20 t146.length co20 : Value).ownBlock) (fun k_ => some k_ = (.slice Ao59 t154.length co59 : Value).ownBlock) rfl rfl ?aP (fun k_ hk_ => (Kd.R_mono (ok' := fun k_ => ((fun k_ => some k_ ≠ (.slice Ao20 t146.length co20 : Value).ownBlock)) k_ ∧ some k_ ≠ (.slice Ao16 t142.length co16 : Value).ownBlock) (Kd.R_apart' (HO156.out) (Kd.T_typed HO_150000.out) (by decide)) (fun k_ hk => ⟨hk.1.2, hk.2⟩)).1 k_ hk_.symm) ?aF ?aO ?aB ?aS ?aL ?_
           (case aP => exact Kd.M_row (Kd.R_mono (Kd.R_tight rfl (HO156.out)) (fun _ h_ => h_)))
           (case aB => exact (bl HB.out))
           (case aF => exact (fun k_ hk => Kd.fresh' (Kd.R_lt (kr HO_150002.out)) k_ hk))
           (case aO => exact (by (with_reducible repeat (first | apply Kd.T_alloc | apply Kd.T_drewN | apply Kd.T_drew)); exact Kd.T_mono HO_150000.out (fun k_ hk => ⟨hk.1, fun e_ => hk.2 e_⟩)))
           (case aS => exact (below_size (bl HB.out)))
           (case aL => have := LMc53.out; omega)
           intro v158 w58 ho hb hg hat
           rw [← Ny157.out] at ho
           replace HO_150002 := am (Kd.R_over' (kr HO_150002.out) (Kd.T_typed (by (with_reducible repeat (first | apply Kd.T_alloc | apply Kd.T_drewN | apply Kd.T_drew)); exact HO_150000.out)) (by decide) hg)
           replace BK140 := am (blk_grown (g := gb140) (o := .cells #[.slice A0_0 l0_0.length c0_0, .int .i64 a0_1, .slice A0_2 l0_2.length c0_2] 53 (0, 0)) (pk BK140.out) hg (Kd.T_ne HO_150000.out BK140.out (by decide)))
           replace BK141 := am (blk_grown (g := gb141) (o := .cells #[.slice none 0 0, .int .i64 0, .slice none 0 0] 53 (0, 0)) (pk BK141.out) hg (Kd.T_ne HO_150000.out BK141.out (by decide)))
           replace BK149 := am (blk_grown (g := gb149) (o := .cells #[.slice Ao16 t142.length co16, .int .i64 t145, .slice Ao20 t146.length co20] 53 (0, 0)) (pk BK149.out) hg (Kd.T_ne HO_150000.out BK149.out (by decide)))
           replace HB := am (hb)
           have HO159 := am (ho)
           clear HO_150000 HO156 ho hb hg hat
           obtain ⟨Ao60, co60, eo60, _⟩ := Kd.T_slice HO159.out
           (first | subst eo60 | (injection eo60 with f1_ f2_ f3_; have f4_ := f1_.symm; have f5_ := f3_.symm; clear f1_ f2_ f3_; subst f4_; subst f5_))
           refine hK.out _ _ ⟨bc BK149.out 0, bc BK149.out 1, bc BK149.out 2⟩ (fun hHeld => ?_)
           clear hK K
           refine norm_ (a' := ?_) ?_ ?_
           rotate_left
           ·show Act.put _ (some 48) _ = _
            simp only [Act.put, sa_, s0_, ss_, i64_w, i32_w]
            rfl
           refine pu_ 6 (some 49) ?_ b22_7 rfl rfl HT_.out (by kernel_rfl) (fun _ _ _ h => h) (Or.inl ⟨by rfl, ?_⟩) ?_ ?_ ?_; rotate_left
           ·intro w'; go_simp; with_reducible rfl
           rotate_left
           ·simp only [Act.put, sa_, s0_, ss_, i64_w, i32_w]; rfl
           refine last_ (i := 7) (N := none) b22_8 rfl rfl (one_of HT_.out (by kernel_rfl)) (by decide) (fun K hK => ?_)
           have hs61 : w58.cell? ⟨gb149, 0, none⟩ = some (.slice Ao16 t142.length co16) := bc BK149.out 0
           have hfs61 := blk_frozen BK149.out 0
           have hns61_0 := NB140_149.out
           have hns61_1 := NB141_149.out
           have hms61_0 := NB149_140.out
           have hms61_1 := NB149_141.out
           refine skip_ (w1 := ?_) (by rfl) rfl ?_ ?_
           rotate_left
           ·go_simp
            rfl
           refine hK.out _ _ ?_
           clear hK K
           refine done_ (done_of HT_.out (by kernel_rfl)) ?_
           have n0_ : Aside0 (Kd.R (Kd.int .i64) 2 (w58.setCell ⟨gb149, 0, none⟩ (.slice Ao60 y157.length co60)) w.heap.size (fun _ => True) (.slice Ao20 t146.length co20) t146) := ⟨kr (Kd.R_mono (Kd.R_far (p := ⟨gb149, 0, none⟩) (Kd.R_types HO_150002.out BK149.out (by decide)) (fun _ hk => hk.2) (.slice Ao60 y157.length co60)) (fun _ hk => trivial))⟩
           have n1_ : Aside0 (Kd.T (Kd.slice 2 (Kd.int .i64)) 37 (w58.setCell ⟨gb149, 0, none⟩ (.slice Ao60 y157.length co60)) w.heap.size (fun k_ => some k_ ≠ (.slice Ao20 t146.length co20 : Value).ownBlock) (.slice Ao60 y157.length co60) y157) := ⟨by (with_reducible repeat (first | apply Kd.T_alloc | apply Kd.T_drewN | apply Kd.T_drew)); exact Kd.T_mono (Kd.T_far (p := ⟨gb149, 0, none⟩) (Kd.T_types HO159.out BK149.out (by decide)) (fun _ hk => hk.2) (.slice Ao60 y157.length co60)) (fun _ hk => hk.1)⟩
           have n2_ : Aside0 ((w58.setCell ⟨gb149, 0, none⟩ (.slice Ao60 y157.length co60)).heap[gb140]? = some (.cells #[.slice A0_0 l0_0.length c0_0, .int .i64 a0_1, .slice A0_2 l0_2.length c0_2] 53 (0, 0))) := ⟨by refine pk ?_; refine blk_far ?_ NB140_149.out _; refine pk ?_; exact BK140.out⟩
           have n3_ : Aside0 ((w58.setCell ⟨gb149, 0, none⟩ (.slice Ao60 y157.length co60)).heap[gb141]? = some (.cells #[.slice none 0 0, .int .i64 0, .slice none 0 0] 53 (0, 0))) := ⟨by refine pk ?_; refine blk_far ?_ NB141_149.out _; refine pk ?_; exact BK141.out⟩
           have n4_ : Aside0 ((w58.setCell ⟨gb149, 0, none⟩ (.slice Ao60 y157.length co60)).heap[gb149]? = some (.cells #[.slice Ao60 y157.length co60, .int .i64 t145, .slice Ao20 t146.length co20] 53 (0, 0))) := ⟨by refine pk ?_; refine blk_put (cs := #[.slice Ao16 t142.length co16, .int .i64 t145, .slice Ao20 t146.length co20]) ?_ 0 _ rfl; refine pk ?_; exact BK149.out⟩
           have n5_ : Aside0 (Below w.heap.size w (w58.setCell ⟨gb149, 0, none⟩ (.slice Ao60 y157.length co60))) := ⟨by repeat (first | (with_reducible first | exact HB.out | apply below_alloc | apply pw_below_drewN | apply below_drew1 | refine below_set ?_ GE140.out | refine below_set ?_ GE141.out | refine below_set ?_ GE149.out) | exact HB.out)⟩
           (try clear HO_150002)
           (try clear HO159)
           (try clear BK140)
           (try clear BK141)
           (try clear BK149)
           (try clear HB)
           generalize (w58.setCell ⟨gb149, 0, none⟩ (.slice Ao60 y157.length co60)) = w62 at n0_ n1_ n2_ n3_ n4_ n5_ ⊢
           have HO_150002 := n0_
           have HO159 := n1_
           have BK140 := n2_
           have BK141 := n3_
           have BK149 := n4_
           have HB := n5_
           clear n0_ n1_ n2_ n3_ n4_ n5_
           have hnb63 := NB149_140.out
           have hnc63 := NB140_149.out
           have hnb64 := NB149_141.out
           have hnc64 := NB141_149.out
           have hcz65_0 : w62.cell? ⟨gb149, 0, none⟩ = some (.slice Ao60 y157.length co60) := bc BK149.out 0
           have hcz65_1 : w62.cell? ⟨gb149, 1, none⟩ = some (.int .i64 t145) := bc BK149.out 1
           have hcz65_2 : w62.cell? ⟨gb149, 2, none⟩ = some (.slice Ao20 t146.length co20) := bc BK149.out 2
           have hfz65_0 := blk_frozen BK149.out 0
           have hfz65_1 := blk_frozen BK149.out 1
           have hfz65_2 := blk_frozen BK149.out 2
           have q66 : (1 : Int) ≤ ((y157.length : Int) : Int) := of_decide_eq_true (by first | (with_reducible assumption) | assumption)
           obtain ⟨i066, hi066, _, hsz66, _⟩ := info_parts info37
           have hcut66 := cut_from (P := Try.prog) 49 37 .i64 Try.underlying49 hi066 1 hsz66 Ao60 y157.length co60 1 (by omega) q66
           have hr66 := Kd.T_drop (k := (1 : Int).toNat) HO159.out (by omega)
           obtain ⟨A66, hA66⟩ : ∃ A1, A1 = (if co60 = (1 : Int).toNat then Ao60 else (Ao60 : Option Addr).map (·.add ((1 : Int).toNat * 1))) := ⟨_, rfl⟩
           obtain ⟨c66, hc66⟩ : ∃ c1, c1 = co60 - (1 : Int).toNat := ⟨_, rfl⟩
           have hy66 : y160.length = y157.length - (1 : Int).toNat := (by rw [Ny160.out, List.length_drop])
           rw [← Ny160.out] at hr66
           rw [← hy66, ← hA66, ← hc66] at hcut66
           replace hr66 : Kd.T (Kd.slice 2 (Kd.int .i64)) 37 w62 w.heap.size (fun k_ => some k_ ≠ (.slice Ao20 t146.length co20 : Value).ownBlock) (.slice A66 y160.length c66) y160 := (by rw [hA66, hc66, hy66]; exact hr66)
           have HE66 : Aside0 ((Value.slice A66 y160.length c66).ownBlock = (.slice Ao60 y157.length co60 : Value).ownBlock) := ⟨by rw [hA66]; split <;> (cases (Ao60 : Option Addr) <;> first | rfl | (simp only [Value.ownBlock, Option.map_some, Addr.add]; split <;> rfl))⟩
           clear hy66 hi066 hsz66 HO159 hA66 hc66
           have HO162 := am hr66
           clear hr66
           replace q66 := eq_true q66
           try go_wp2_with (first | ((with_reducible refine gate_dst (N := 62) rfl ?_); refine Kd.R_lit (Kd.int .i64) _ 2 ?hg (N := 62) ?hd (xs := ([] : List Int)) (inner := []) (ok := fun _ => True) (okp := fun _ => True) ?hr ?hp (fun _ hk => hk) trivial (Below.refl _ _) (Nat.le_refl _) (by simp) ?_; (case hd => rfl); (case hg => rfl); (case hr => first | (go_simp; done) | (go_simp; rfl)); (case hp => exact (Reps.none _ _)); intro v164 w67 ho68 hb hg_ hnew_; clear hg_ hnew_; (first | rw [← Ny163.out] at ho68 | (simp only [Int.reduceToNat] at ho68; rw [← Ny163.out] at ho68)); replace HO162 := am (Kd.T_elder' (by (with_reducible repeat (first | apply Kd.T_alloc | apply Kd.T_drewN | apply Kd.T_drew)); exact (Kd.T_mono (Kd.T_far (p := ⟨gb149, 1, none⟩) (Kd.T_far (p := ⟨gb149, 0, none⟩) (Kd.T_types HO162.out BK149.out (by decide)) (fun _ hk => hk.2) (.slice A66 y160.length c66)) (fun _ hk => hk.2) (.int .i64 (y160.length : Int))) (fun _ h_ => h_.1))) (Kd.R_base ho68) hb); have HO165 := am (Kd.R_lower (Kd.R_new' ho68 (Kd.R_lt (kr ((Kd.R_mono (Kd.R_far (p := ⟨gb149, 1, none⟩) (Kd.R_far (p := ⟨gb149, 0, none⟩) (Kd.R_types HO_150002.out BK149.out (by decide)) (fun _ hk => hk.2) (.slice A66 y160.length c66)) (fun _ hk => hk.2) (.int .i64 (y160.length : Int))) (fun _ h_ => h_.1)))))) (below_size (bl HB.out))); replace HO_150002 := am (Kd.R_elder' (kr ((Kd.R_mono (Kd.R_far (p := ⟨gb149, 1, none⟩) (Kd.R_far (p := ⟨gb149, 0, none⟩) (Kd.R_types HO_150002.out BK149.out (by decide)) (fun _ hk => hk.2) (.slice A66 y160.length c66)) (fun _ hk => hk.2) (.int .i64 (y160.length : Int))) (fun _ h_ => h_.1)))) (Kd.R_base ho68) hb); replace BK140 := am (blk_below (g := gb140) (o := .cells #[.slice A0_0 l0_0.length c0_0, .int .i64 a0_1, .slice A0_2 l0_2.length c0_2] 53 (0, 0)) (by refine pk ?_; refine blk_far ?_ NB140_149.out _; refine pk ?_; refine blk_far ?_ NB140_149.out _; refine pk ?_; exact BK140.out) hb); replace BK141 := am (blk_below (g := gb141) (o := .cells #[.slice none 0 0, .int .i64 0, .slice none 0 0] 53 (0, 0)) (by refine pk ?_; refine blk_far ?_ NB141_149.out _; refine pk ?_; refine blk_far ?_ NB141_149.out _; refine pk ?_; exact BK141.out) hb); replace BK149 := am (blk_below (g := gb149) (o := .cells #[.slice A66 y160.length c66, .int .i64 (y160.length : Int), .slice Ao20 t146.length co20] 53 (0, 0)) (by refine pk ?_; refine blk_put (cs := #[.slice A66 y160.length c66, .int .i64 t145, .slice Ao20 t146.length co20]) ?_ 1 _ rfl; refine pk ?_; refine blk_put (cs := #[.slice Ao60 y157.length co60, .int .i64 t145, .slice Ao20 t146.length co20]) ?_ 0 _ rfl; refine pk ?_; exact BK149.out) hb); replace HB := am (below_step (bl HB.out) hb); clear hb ho68; obtain ⟨Ao69, co69, eo69⟩ := Kd.R_slice HO165.out; subst eo69; have hcz70_0 : w67.cell? ⟨gb149, 0, none⟩ = some (.slice A66 y160.length c66) := bc BK149.out 0; have hcz70_1 : w67.cell? ⟨gb149, 1, none⟩ = some (.int .i64 (y160.length : Int)) := bc BK149.out 1; have hcz70_2 : w67.cell? ⟨gb149, 2, none⟩ = some (.slice Ao20 t146.length co20) := bc BK149.out 2; have hfz70_0 := blk_frozen BK149.out 0; have hfz70_1 := blk_frozen BK149.out 1; have hfz70_2 := blk_frozen BK149.out 2; have hnb71 := NB141_140.out; have hnc71 := NB140_141.out; have hcz72_0 : w67.cell? ⟨gb141, 0, none⟩ = some (.slice none 0 0) := bc BK141.out 0; have hcz72_1 : w67.cell? ⟨gb141, 1, none⟩ = some (.int .i64 0) := bc BK141.out 1; have hcz72_2 : w67.cell? ⟨gb141, 2, none⟩ = some (.slice none 0 0) := bc BK141.out 2; have hfz72_0 := blk_frozen BK141.out 0; have hfz72_1 := blk_frozen BK141.out 1; have hfz72_2 := blk_frozen BK141.out 2))
           refine bodyPost_ret (results_cell_row rfl _ _ gb141 53 #[.slice A66 y160.length c66, .int .i64 (y160.length : Int), .slice Ao69 y163.length co69] (0, 0) _ rfl (by refine pk ?_; refine blk_put (cs := #[.slice A66 y160.length c66, .int .i64 (y160.length : Int), .slice none 0 0]) ?_ 2 _ rfl; refine pk ?_; refine blk_put (cs := #[.slice A66 y160.length c66, .int .i64 0, .slice none 0 0]) ?_ 1 _ rfl; refine pk ?_; refine blk_put (cs := #[.slice none 0 0, .int .i64 0, .slice none 0 0]) ?_ 0 _ rfl; refine pk ?_; refine blk_far ?_ NB141_149.out _; refine pk ?_; exact BK141.out) Try.underlying53 rfl (by kernel_rfl)) rfl ?_
           exact ⟨_, _, by first | rfl | (simp [errW_none, errW_some] <;> rfl) | (simp [*, errW_none, errW_some] <;> rfl), by (with_reducible repeat (first | apply Kd.T_alloc | apply Kd.T_drewN | apply Kd.T_drew)); exact Kd.T_mono (Kd.T_far (p := ⟨gb141, 2, none⟩) (Kd.T_far (p := ⟨gb141, 1, none⟩) (Kd.T_far (p := ⟨gb141, 0, none⟩) (Kd.T_far (p := ⟨gb149, 2, none⟩) (Kd.T_types (Kd.T_types HO162.out BK149.out (by decide)) BK141.out (by decide)) (fun _ hk => hk.1.2) (.slice Ao69 y163.length co69)) (fun _ hk => hk.2) (.slice A66 y160.length c66)) (fun _ hk => hk.2) (.int .i64 (y160.length : Int))) (fun _ hk => hk.2) (.slice Ao69 y163.length co69)) (fun _ hk => hk.1.1.2), kr (Kd.R_mono (Kd.R_far (p := ⟨gb141, 2, none⟩) (Kd.R_far (p := ⟨gb141, 1, none⟩) (Kd.R_far (p := ⟨gb141, 0, none⟩) (Kd.R_far (p := ⟨gb149, 2, none⟩) (Kd.R_types (Kd.R_types HO165.out BK149.out (by decide)) BK141.out (by decide)) (fun _ hk => hk.1.2) (.slice Ao69 y163.length co69)) (fun _ hk => hk.2) (.slice A66 y160.length c66)) (fun _ hk => hk.2) (.int .i64 (y160.length : Int))) (fun _ hk => hk.2) (.slice Ao69 y163.length co69)) (fun _ hk => trivial)), by repeat (first | (with_reducible first | exact HB.out | apply below_alloc | apply pw_below_drewN | apply below_drew1 | refine below_set ?_ GE140.out | refine below_set ?_ GE141.out | refine below_set ?_ GE149.out) | exact HB.out)⟩
          ·rw [if_neg c55] at H
           exact absurd H (by simp)
         ·rw [if_neg c54] at H
          have c54b0 : decide (30 < (y157.length : Int)) = false := decide_eq_false c54
          have c54b1 : decide (30 < y157.length) = false := decide_eq_false (by omega)
          clear c54
          obtain ⟨y166, hy166⟩ : ∃ y_ : List Int, y_ = (([] : List Int)) := ⟨_, rfl⟩
          replace H : (some (y157, (y157.length : Int), y166)) = some (r1, r2, r3) := by first | (rw [hy166]; with_reducible exact H) | (have H2_ := (Option.bind_some _ _).symm.trans H; rw [hy166]; with_reducible exact H2_) | (have H2_ := (Option.bind_some _ _).symm.trans H; with_reducible exact H2_) | with_reducible exact H | (rw [hy166]; exact H) | exact H
          have Ny166 := am hy166
          clear hy166
          simp only [Option.some.injEq, Prod.mk.injEq] at H
          obtain ⟨rfl, rfl, rfl⟩ := H
          try go_wp2
          replace HO_150000 := am (Kd.T_drew HO_150000.out)
          replace HO_150002 := am (Kd.R_drew HO_150002.out)
          replace BK140 := am (blk_drew BK140.out)
          replace BK141 := am (blk_drew BK141.out)
          replace BK149 := am (blk_drew BK149.out)
          replace HB := am (below_drew1 HB.out)
          refine start_ (n := 8) (S := fun w' => w'.cell? ⟨gb149, 0, none⟩ = some (.slice Ao16 t142.length co16) ∧ w'.cell? ⟨gb149, 1, none⟩ = some (.int .i64 t145) ∧ w'.cell? ⟨gb149, 2, none⟩ = some (.slice Ao20 t146.length co20)) (ds := [7]) b22_0 (by kernel_rfl) rfl rfl ⟨bc BK149.out 0, bc BK149.out 1, bc BK149.out 2⟩ (fun hHeld => ?_); refine with_tabW spec_HistAdd.tab8 spec_HistAdd.bits8 (fun HT_ HW_ => ?_)
          generalize wc.drew = w73 at HO_150000 HO_150002 BK140 BK141 BK149 HB hHeld ⊢
          refine pu_ 0 (some 43) ?_ b22_1 rfl rfl HT_.out (by kernel_rfl) (fun _ _ _ h => h) (Or.inl ⟨by rfl, ?_⟩) ?_ ?_ ?_; rotate_left
          ·intro w'; go_simp; with_reducible rfl
          rotate_left
          ·simp only [Act.put, sa_, s0_, ss_, i64_w, i32_w]; rfl
          refine pu_ 2 (some 45) ?_ b22_2 rfl rfl HT_.out (by kernel_rfl) (fun _ _ _ h => h) (Or.inl ⟨by rfl, ?_⟩) ?_ ?_ ?_; rotate_left
          ·intro w'; go_simp; with_reducible rfl
          rotate_left
          ·simp only [Act.put, sa_, s0_, ss_, i64_w, i32_w]; rfl
          refine tk_ 1 (some 44) ?_ b22_3 rfl rfl HT_.out HW_.out (by kernel_rfl) (fun _ _ _ h => h) (Or.inl ⟨by rfl, ?_⟩) hHeld ?_ ?_ ?_; rotate_left
          ·rintro w' ⟨s0, s1, s2⟩; go_simp; with_reducible rfl
          rotate_left
          ·simp only [Act.put, sa_, s0_, ss_, i64_w, i32_w]; rfl
          refine one_ (i := 3) (N := some 46) b22_4 rfl rfl (one_of HT_.out (by kernel_rfl)) (by decide) (fun K hK => ?_)
          refine gs_ Try.func75 #[.slice A1 l1.length c1] ?_
          with_reducible refine (spec_l01Copy.calls _ _ l1 t154 _ ?side1 ?side2 A52.out).mono ?_
          (case side1 => repeat (first | exact (Kd.C_below HR1.out HB.out) | (with_reducible refine Kd.C_alloc ?_ _) | (with_reducible refine Kd.C_drewN ?_ _) | (with_reducible refine Kd.C_drew ?_)))
          (case side2 => exact HC1.out)
          rintro e w74 ⟨v155, rfl, ho0, hb⟩
          refine ⟨_, rfl, ?_⟩
          replace HO_150000 := am (Kd.T_elder' (by (with_reducible repeat (first | apply Kd.T_alloc | apply Kd.T_drewN | apply Kd.T_drew)); exact HO_150000.out) (Kd.R_base ho0) hb)
          have HO156 := am (Kd.R_lower (Kd.R_new' ho0 (Kd.R_lt (kr HO_150002.out))) (below_size (bl HB.out)))
          replace HO_150002 := am (Kd.R_elder' (kr HO_150002.out) (Kd.R_base ho0) hb)
          replace BK140 := am (blk_below (pk BK140.out) hb)
          replace BK141 := am (blk_below (pk BK141.out) hb)
          replace BK149 := am (blk_below (pk BK149.out) hb)
          replace HB := am (below_step (bl HB.out) hb)
          (try clear hb)
          (try clear hb2)
          (try clear hk)
          (try clear hi)
          (try clear ho0)
          obtain ⟨Ao76, co76, eo76⟩ := Kd.R_slice HO156.out
          (first | subst eo76 | (injection eo76 with f1_ f2_ f3_; have f4_ := f1_.symm; have f5_ := f3_.symm; clear f1_ f2_ f3_; subst f4_; subst f5_))
          refine hK.out _ _ ⟨bc BK149.out 0, bc BK149.out 1, bc BK149.out 2⟩ (fun hHeld => ?_)
          clear hK K
          refine norm_ (a' := ?_) ?_ ?_
          rotate_left
          ·show Act.put _ (some 46) _ = _
           simp only [Act.put, sa_, s0_, ss_, i64_w, i32_w]
           rfl
          refine one_ (i := 4) (N := some 47) b22_5 rfl rfl (one_of HT_.out (by kernel_rfl)) (by decide) (fun K hK => ?_)
          refine value_ (w1 := ?_) (v := ?_) (by rfl) rfl ?_ ?_
          rotate_left 2
          ·go_simp
           constructor
           ·rfl
           ·rfl
          refine hK.out _ _ ⟨(blk_cell (blk_alloc BK149.out _) 0).trans rfl, (blk_cell (blk_alloc BK149.out _) 1).trans rfl, (blk_cell (blk_alloc BK149.out _) 2).trans rfl⟩ (fun hHeld => ?_)
          clear hK K
          refine norm_ (a' := ?_) ?_ ?_
          rotate_left
          ·show Act.put _ (some 47) _ = _
           simp only [Act.put, sa_, s0_, ss_, i64_w, i32_w]
           rfl
          refine one_ (i := 5) (N := some 48) b22_6 rfl rfl (one_of HT_.out (by kernel_rfl)) (by decide) (fun K hK => ?_)
          refine Kd.T_append_step (Kd.slice 2 (Kd.int .i64)) (w0 := w) w.heap.size (by rfl) (.tmp 44) (.tmp 47) 49 37 (.slice none 0 0) 24 rfl Try.underlying49 info37 rfl (by decide) (by omega) (.slice Ao16 t142.length co16) t142 t154 [.slice Ao76 t154.length co76] (fun k_ => some k_ ≠ (.slice Ao20 t146.length co20 : Value).ownBlock) (fun k_ => some k_ = (.slice Ao76 t154.length co76 : Value).ownBlock) rfl rfl ?aP (fun k_ hk_ => (Kd.R_mono (ok' := fun k_ => ((fun k_ => some k_ ≠ (.slice Ao20 t146.length co20 : Value).ownBlock)) k_ ∧ some k_ ≠ (.slice Ao16 t142.length co16 : Value).ownBlock) (Kd.R_apart' (HO156.out) (Kd.T_typed HO_150000.out) (by decide)) (fun k_ hk => ⟨hk.1.2, hk.2⟩)).1 k_ hk_.symm) ?aF ?aO ?aB ?aS ?aL ?_
          (case aP => exact Kd.M_row (Kd.R_mono (Kd.R_tight rfl (HO156.out)) (fun _ h_ => h_)))
          (case aB => exact (bl HB.out))
          (case aF => exact (fun k_ hk => Kd.fresh' (Kd.R_lt (kr HO_150002.out)) k_ hk))
          (case aO => exact (by (with_reducible repeat (first | apply Kd.T_alloc | apply Kd.T_drewN | apply Kd.T_drew)); exact Kd.T_mono HO_150000.out (fun k_ hk => ⟨hk.1, fun e_ => hk.2 e_⟩)))
          (case aS => exact (below_size (bl HB.out)))
          (case aL => have := LMc53.out; omega)
          intro v158 w75 ho hb hg hat
          rw [← Ny157.out] at ho
          replace HO_150002 := am (Kd.R_over' (kr HO_150002.out) (Kd.T_typed (by (with_reducible repeat (first | apply Kd.T_alloc | apply Kd.T_drewN | apply Kd.T_drew)); exact HO_150000.out)) (by decide) hg)
          replace BK140 := am (blk_grown (g := gb140) (o := .cells #[.slice A0_0 l0_0.length c0_0, .int .i64 a0_1, .slice A0_2 l0_2.length c0_2] 53 (0, 0)) (pk BK140.out) hg (Kd.T_ne HO_150000.out BK140.out (by decide)))
          replace BK141 := am (blk_grown (g := gb141) (o := .cells #[.slice none 0 0, .int .i64 0, .slice none 0 0] 53 (0, 0)) (pk BK141.out) hg (Kd.T_ne HO_150000.out BK141.out (by decide)))
          replace BK149 := am (blk_grown (g := gb149) (o := .cells #[.slice Ao16 t142.length co16, .int .i64 t145, .slice Ao20 t146.length co20] 53 (0, 0)) (pk BK149.out) hg (Kd.T_ne HO_150000.out BK149.out (by decide)))
          replace HB := am (hb)
          have HO159 := am (ho)
          clear HO_150000 HO156 ho hb hg hat
          obtain ⟨Ao77, co77, eo77, _⟩ := Kd.T_slice HO159.out
          (first | subst eo77 | (injection eo77 with f1_ f2_ f3_; have f4_ := f1_.symm; have f5_ := f3_.symm; clear f1_ f2_ f3_; subst f4_; subst f5_))
          refine hK.out _ _ ⟨bc BK149.out 0, bc BK149.out 1, bc BK149.out 2⟩ (fun hHeld => ?_)
          clear hK K
          refine norm_ (a' := ?_) ?_ ?_
          rotate_left
          ·show Act.put _ (some 48) _ = _
           simp only [Act.put, sa_, s0_, ss_, i64_w, i32_w]
           rfl
          refine pu_ 6 (some 49) ?_ b22_7 rfl rfl HT_.out (by kernel_rfl) (fun _ _ _ h => h) (Or.inl ⟨by rfl, ?_⟩) ?_ ?_ ?_; rotate_left
          ·intro w'; go_simp; with_reducible rfl
          rotate_left
          ·simp only [Act.put, sa_, s0_, ss_, i64_w, i32_w]; rfl
          refine last_ (i := 7) (N := none) b22_8 rfl rfl (one_of HT_.out (by kernel_rfl)) (by decide) (fun K hK => ?_)
          have hs78 : w75.cell? ⟨gb149, 0, none⟩ = some (.slice Ao16 t142.length co16) := bc BK149.out 0
          have hfs78 := blk_frozen BK149.out 0
          have hns78_0 := NB140_149.out
          have hns78_1 := NB141_149.out
          have hms78_0 := NB149_140.out
          have hms78_1 := NB149_141.out
          refine skip_ (w1 := ?_) (by rfl) rfl ?_ ?_
          rotate_left
          ·go_simp
           rfl
          refine hK.out _ _ ?_
          clear hK K
          refine done_ (done_of HT_.out (by kernel_rfl)) ?_
          have hnb79 := NB149_140.out
          have hnc79 := NB140_149.out
          have hnb80 := NB149_141.out
          have hnc80 := NB141_149.out
          have hcz81_0 : w75.cell? ⟨gb149, 0, none⟩ = some (.slice Ao16 t142.length co16) := bc BK149.out 0
          have hcz81_1 : w75.cell? ⟨gb149, 1, none⟩ = some (.int .i64 t145) := bc BK149.out 1
          have hcz81_2 : w75.cell? ⟨gb149, 2, none⟩ = some (.slice Ao20 t146.length co20) := bc BK149.out 2
          have hfz81_0 := blk_frozen BK149.out 0
          have hfz81_1 := blk_frozen BK149.out 1
          have hfz81_2 := blk_frozen BK149.out 2
          try go_wp2_with (first | ((with_reducible refine gate_dst (N := 62) rfl ?_); refine Kd.R_lit (Kd.int .i64) _ 2 ?hg (N := 62) ?hd (xs := ([] : List Int)) (inner := []) (ok := fun _ => True) (okp := fun _ => True) ?hr ?hp (fun _ hk => hk) trivial (Below.refl _ _) (Nat.le_refl _) (by simp) ?_; (case hd => rfl); (case hg => rfl); (case hr => first | (go_simp; done) | (go_simp; rfl)); (case hp => exact (Reps.none _ _)); intro v167 w82 ho83 hb hg_ hnew_; clear hg_ hnew_; (first | rw [← Ny166.out] at ho83 | (simp only [Int.reduceToNat] at ho83; rw [← Ny166.out] at ho83)); replace HO159 := am (Kd.T_elder' (by (with_reducible repeat (first | apply Kd.T_alloc | apply Kd.T_drewN | apply Kd.T_drew)); exact (Kd.T_mono (Kd.T_far (p := ⟨gb149, 1, none⟩) (Kd.T_far (p := ⟨gb149, 0, none⟩) (Kd.T_types HO159.out BK149.out (by decide)) (fun _ hk => hk.2) (.slice Ao77 y157.length co77)) (fun _ hk => hk.2) (.int .i64 (y157.length : Int))) (fun _ h_ => h_.1))) (Kd.R_base ho83) hb); have HO168 := am (Kd.R_lower (Kd.R_new' ho83 (Kd.R_lt (kr ((Kd.R_mono (Kd.R_far (p := ⟨gb149, 1, none⟩) (Kd.R_far (p := ⟨gb149, 0, none⟩) (Kd.R_types HO_150002.out BK149.out (by decide)) (fun _ hk => hk.2) (.slice Ao77 y157.length co77)) (fun _ hk => hk.2) (.int .i64 (y157.length : Int))) (fun _ h_ => h_.1)))))) (below_size (bl HB.out))); replace HO_150002 := am (Kd.R_elder' (kr ((Kd.R_mono (Kd.R_far (p := ⟨gb149, 1, none⟩) (Kd.R_far (p := ⟨gb149, 0, none⟩) (Kd.R_types HO_150002.out BK149.out (by decide)) (fun _ hk => hk.2) (.slice Ao77 y157.length co77)) (fun _ hk => hk.2) (.int .i64 (y157.length : Int))) (fun _ h_ => h_.1)))) (Kd.R_base ho83) hb); replace BK140 := am (blk_below (g := gb140) (o := .cells #[.slice A0_0 l0_0.length c0_0, .int .i64 a0_1, .slice A0_2 l0_2.length c0_2] 53 (0, 0)) (by refine pk ?_; refine blk_far ?_ NB140_149.out _; refine pk ?_; refine blk_far ?_ NB140_149.out _; refine pk ?_; exact BK140.out) hb); replace BK141 := am (blk_below (g := gb141) (o := .cells #[.slice none 0 0, .int .i64 0, .slice none 0 0] 53 (0, 0)) (by refine pk ?_; refine blk_far ?_ NB141_149.out _; refine pk ?_; refine blk_far ?_ NB141_149.out _; refine pk ?_; exact BK141.out) hb); replace BK149 := am (blk_below (g := gb149) (o := .cells #[.slice Ao77 y157.length co77, .int .i64 (y157.length : Int), .slice Ao20 t146.length co20] 53 (0, 0)) (by refine pk ?_; refine blk_put (cs := #[.slice Ao77 y157.length co77, .int .i64 t145, .slice Ao20 t146.length co20]) ?_ 1 _ rfl; refine pk ?_; refine blk_put (cs := #[.slice Ao16 t142.length co16, .int .i64 t145, .slice Ao20 t146.length co20]) ?_ 0 _ rfl; refine pk ?_; exact BK149.out) hb); replace HB := am (below_step (bl HB.out) hb); clear hb ho83; obtain ⟨Ao84, co84, eo84⟩ := Kd.R_slice HO168.out; subst eo84; have hcz85_0 : w82.cell? ⟨gb149, 0, none⟩ = some (.slice Ao77 y157.length co77) := bc BK149.out 0; have hcz85_1 : w82.cell? ⟨gb149, 1, none⟩ = some (.int .i64 (y157.length : Int)) := bc BK149.out 1; have hcz85_2 : w82.cell? ⟨gb149, 2, none⟩ = some (.slice Ao20 t146.length co20) := bc BK149.out 2; have hfz85_0 := blk_frozen BK149.out 0; have hfz85_1 := blk_frozen BK149.out 1; have hfz85_2 := blk_frozen BK149.out 2; have hnb86 := NB141_140.out; have hnc86 := NB140_141.out; have hcz87_0 : w82.cell? ⟨gb141, 0, none⟩ = some (.slice none 0 0) := bc BK141.out 0; have hcz87_1 : w82.cell? ⟨gb141, 1, none⟩ = some (.int .i64 0) := bc BK141.out 1; have hcz87_2 : w82.cell? ⟨gb141, 2, none⟩ = some (.slice none 0 0) := bc BK141.out 2; have hfz87_0 := blk_frozen BK141.out 0; have hfz87_1 := blk_frozen BK141.out 1; have hfz87_2 := blk_frozen BK141.out 2))
          refine bodyPost_ret (results_cell_row rfl _ _ gb141 53 #[.slice Ao77 y157.length co77, .int .i64 (y157.length : Int), .slice Ao84 y166.length co84] (0, 0) _ rfl (by refine pk ?_; refine blk_put (cs := #[.slice Ao77 y157.length co77, .int .i64 (y157.length : Int), .slice none 0 0]) ?_ 2 _ rfl; refine pk ?_; refine blk_put (cs := #[.slice Ao77 y157.length co77, .int .i64 0, .slice none 0 0]) ?_ 1 _ rfl; refine pk ?_; refine blk_put (cs := #[.slice none 0 0, .int .i64 0, .slice none 0 0]) ?_ 0 _ rfl; refine pk ?_; refine blk_far ?_ NB141_149.out _; refine pk ?_; exact BK141.out) Try.underlying53 rfl (by kernel_rfl)) rfl ?_
          exact ⟨_, _, by first | rfl | (simp [errW_none, errW_some] <;> rfl) | (simp [*, errW_none, errW_some] <;> rfl), by (with_reducible repeat (first | apply Kd.T_alloc | apply Kd.T_drewN | apply Kd.T_drew)); exact Kd.T_mono (Kd.T_far (p := ⟨gb141, 2, none⟩) (Kd.T_far (p := ⟨gb141, 1, none⟩) (Kd.T_far (p := ⟨gb141, 0, none⟩) (Kd.T_far (p := ⟨gb149, 2, none⟩) (Kd.T_types (Kd.T_types HO159.out BK149.out (by decide)) BK141.out (by decide)) (fun _ hk => hk.1.2) (.slice Ao84 y166.length co84)) (fun _ hk => hk.2) (.slice Ao77 y157.length co77)) (fun _ hk => hk.2) (.int .i64 (y157.length : Int))) (fun _ hk => hk.2) (.slice Ao84 y166.length co84)) (fun _ hk => hk.1.1.2), kr (Kd.R_mono (Kd.R_far (p := ⟨gb141, 2, none⟩) (Kd.R_far (p := ⟨gb141, 1, none⟩) (Kd.R_far (p := ⟨gb141, 0, none⟩) (Kd.R_far (p := ⟨gb149, 2, none⟩) (Kd.R_types (Kd.R_types HO168.out BK149.out (by decide)) BK141.out (by decide)) (fun _ hk => hk.1.2) (.slice Ao84 y166.length co84)) (fun _ hk => hk.2) (.slice Ao77 y157.length co77)) (fun _ hk => hk.2) (.int .i64 (y157.length : Int))) (fun _ hk => hk.2) (.slice Ao84 y166.length co84)) (fun _ hk => trivial)), by repeat (first | (with_reducible first | exact HB.out | apply below_alloc | apply pw_below_drewN | apply below_drew1 | refine below_set ?_ GE140.out | refine below_set ?_ GE141.out | refine below_set ?_ GE149.out) | exact HB.out)⟩
        ·rw [if_neg c53] at H
         exact absurd H (by simp)
       ·replace c51 := Bool.eq_false_iff.mpr c51
        subst c51
        have H1 : (some (t142, (t142.length : Int), (([] : List Int)))) = some (r1, r2, r3) := by rw [if_neg (show ¬ (false = true) by decide)] at H; exact H
        clear H
        have H := H1
        clear H1
        obtain ⟨y169, hy169⟩ : ∃ y_ : List Int, y_ = (([] : List Int)) := ⟨_, rfl⟩
        replace H : (some (t142, (t142.length : Int), y169)) = some (r1, r2, r3) := by first | (rw [hy169]; with_reducible exact H) | (have H2_ := (Option.bind_some _ _).symm.trans H; rw [hy169]; with_reducible exact H2_) | (have H2_ := (Option.bind_some _ _).symm.trans H; with_reducible exact H2_) | with_reducible exact H | (rw [hy169]; exact H) | exact H
        have Ny169 := am hy169
        clear hy169
        simp only [Option.some.injEq, Prod.mk.injEq] at H
        obtain ⟨rfl, rfl, rfl⟩ := H
        have hnb88 := NB149_140.out
        have hnc88 := NB140_149.out
        have hnb89 := NB149_141.out
        have hnc89 := NB141_149.out
        have hcz90_0 : wc.cell? ⟨gb149, 0, none⟩ = some (.slice Ao16 t142.length co16) := bc BK149.out 0
        have hcz90_1 : wc.cell? ⟨gb149, 1, none⟩ = some (.int .i64 t145) := bc BK149.out 1
        have hcz90_2 : wc.cell? ⟨gb149, 2, none⟩ = some (.slice Ao20 t146.length co20) := bc BK149.out 2
        have hfz90_0 := blk_frozen BK149.out 0
        have hfz90_1 := blk_frozen BK149.out 1
        have hfz90_2 := blk_frozen BK149.out 2
        go_wp2_with (first | ((with_reducible refine gate_dst (N := 62) rfl ?_); refine Kd.R_lit (Kd.int .i64) _ 2 ?hg (N := 62) ?hd (xs := ([] : List Int)) (inner := []) (ok := fun _ => True) (okp := fun _ => True) ?hr ?hp (fun _ hk => hk) trivial (Below.refl _ _) (Nat.le_refl _) (by simp) ?_; (case hd => rfl); (case hg => rfl); (case hr => first | (go_simp; done) | (go_simp; rfl)); (case hp => exact (Reps.none _ _)); intro v170 w91 ho92 hb hg_ hnew_; clear hg_ hnew_; (first | rw [← Ny169.out] at ho92 | (simp only [Int.reduceToNat] at ho92; rw [← Ny169.out] at ho92)); replace HO_150000 := am (Kd.T_elder' (by (with_reducible repeat (first | apply Kd.T_alloc | apply Kd.T_drewN | apply Kd.T_drew)); exact (Kd.T_mono (Kd.T_far (p := ⟨gb149, 1, none⟩) (Kd.T_types HO_150000.out BK149.out (by decide)) (fun _ hk => hk.2) (.int .i64 (t142.length : Int))) (fun _ h_ => h_.1))) (Kd.R_base ho92) hb); have HO171 := am (Kd.R_lower (Kd.R_new' ho92 (Kd.R_lt (kr ((Kd.R_mono (Kd.R_far (p := ⟨gb149, 1, none⟩) (Kd.R_types HO_150002.out BK149.out (by decide)) (fun _ hk => hk.2) (.int .i64 (t142.length : Int))) (fun _ h_ => h_.1)))))) (below_size (bl HB.out))); replace HO_150002 := am (Kd.R_elder' (kr ((Kd.R_mono (Kd.R_far (p := ⟨gb149, 1, none⟩) (Kd.R_types HO_150002.out BK149.out (by decide)) (fun _ hk => hk.2) (.int .i64 (t142.length : Int))) (fun _ h_ => h_.1)))) (Kd.R_base ho92) hb); replace BK140 := am (blk_below (g := gb140) (o := .cells #[.slice A0_0 l0_0.length c0_0, .int .i64 a0_1, .slice A0_2 l0_2.length c0_2] 53 (0, 0)) (by refine pk ?_; refine blk_far ?_ NB140_149.out _; refine pk ?_; exact BK140.out) hb); replace BK141 := am (blk_below (g := gb141) (o := .cells #[.slice none 0 0, .int .i64 0, .slice none 0 0] 53 (0, 0)) (by refine pk ?_; refine blk_far ?_ NB141_149.out _; refine pk ?_; exact BK141.out) hb); replace BK149 := am (blk_below (g := gb149) (o := .cells #[.slice Ao16 t142.length co16, .int .i64 (t142.length : Int), .slice Ao20 t146.length co20] 53 (0, 0)) (by refine pk ?_; refine blk_put (cs := #[.slice Ao16 t142.length co16, .int .i64 t145, .slice Ao20 t146.length co20]) ?_ 1 _ rfl; refine pk ?_; exact BK149.out) hb); replace HB := am (below_step (bl HB.out) hb); clear hb ho92; obtain ⟨Ao93, co93, eo93⟩ := Kd.R_slice HO171.out; subst eo93; have hcz94_0 : w91.cell? ⟨gb149, 0, none⟩ = some (.slice Ao16 t142.length co16) := bc BK149.out 0; have hcz94_1 : w91.cell? ⟨gb149, 1, none⟩ = some (.int .i64 (t142.length : Int)) := bc BK149.out 1; have hcz94_2 : w91.cell? ⟨gb149, 2, none⟩ = some (.slice Ao20 t146.length co20) := bc BK149.out 2; have hfz94_0 := blk_frozen BK149.out 0; have hfz94_1 := blk_frozen BK149.out 1; have hfz94_2 := blk_frozen BK149.out 2; have hnb95 := NB141_140.out; have hnc95 := NB140_141.out; have hcz96_0 : w91.cell? ⟨gb141, 0, none⟩ = some (.slice none 0 0) := bc BK141.out 0; have hcz96_1 : w91.cell? ⟨gb141, 1, none⟩ = some (.int .i64 0) := bc BK141.out 1; have hcz96_2 : w91.cell? ⟨gb141, 2, none⟩ = some (.slice none 0 0) := bc BK141.out 2; have hfz96_0 := blk_frozen BK141.out 0; have hfz96_1 := blk_frozen BK141.out 1; have hfz96_2 := blk_frozen BK141.out 2))
        refine bodyPost_ret (results_cell_row rfl _ _ gb141 53 #[.slice Ao16 t142.length co16, .int .i64 (t142.length : Int), .slice Ao93 y169.length co93] (0, 0) _ rfl (by refine pk ?_; refine blk_put (cs := #[.slice Ao16 t142.length co16, .int .i64 (t142.length : Int), .slice none 0 0]) ?_ 2 _ rfl; refine pk ?_; refine blk_put (cs := #[.slice Ao16 t142.length co16, .int .i64 0, .slice none 0 0]) ?_ 1 _ rfl; refine pk ?_; refine blk_put (cs := #[.slice none 0 0, .int .i64 0, .slice none 0 0]) ?_ 0 _ rfl; refine pk ?_; refine blk_far ?_ NB141_149.out _; refine pk ?_; exact BK141.out) Try.underlying53 rfl (by kernel_rfl)) rfl ?_
        exact ⟨_, _, by first | rfl | (simp [errW_none, errW_some] <;> rfl) | (simp [*, errW_none, errW_some] <;> rfl), by (with_reducible repeat (first | apply Kd.T_alloc | apply Kd.T_drewN | apply Kd.T_drew)); exact Kd.T_mono (Kd.T_far (p := ⟨gb141, 2, none⟩) (Kd.T_far (p := ⟨gb141, 1, none⟩) (Kd.T_far (p := ⟨gb141, 0, none⟩) (Kd.T_far (p := ⟨gb149, 2, none⟩) (Kd.T_types (Kd.T_types HO_150000.out BK149.out (by decide)) BK141.out (by decide)) (fun _ hk => hk.1.2) (.slice Ao93 y169.length co93)) (fun _ hk => hk.2) (.slice Ao16 t142.length co16)) (fun _ hk => hk.2) (.int .i64 (t142.length : Int))) (fun _ hk => hk.2) (.slice Ao93 y169.length co93)) (fun _ hk => hk.1.1.2), kr (Kd.R_mono (Kd.R_far (p := ⟨gb141, 2, none⟩) (Kd.R_far (p := ⟨gb141, 1, none⟩) (Kd.R_far (p := ⟨gb141, 0, none⟩) (Kd.R_far (p := ⟨gb149, 2, none⟩) (Kd.R_types (Kd.R_types HO171.out BK149.out (by decide)) BK141.out (by decide)) (fun _ hk => hk.1.2) (.slice Ao93 y169.length co93)) (fun _ hk => hk.2) (.slice Ao16 t142.length co16)) (fun _ hk => hk.2) (.int .i64 (t142.length : Int))) (fun _ hk => hk.2) (.slice Ao93 y169.length co93)) (fun _ hk => trivial)), by repeat (first | (with_reducible first | exact HB.out | apply below_alloc | apply pw_below_drewN | apply below_drew1 | refine below_set ?_ GE140.out | refine below_set ?_ GE141.out | refine below_set ?_ GE149.out) | exact HB.out)⟩

end Go.Proofs.Ytfkghjdhimhjjaa.PFnExactHistAdd
