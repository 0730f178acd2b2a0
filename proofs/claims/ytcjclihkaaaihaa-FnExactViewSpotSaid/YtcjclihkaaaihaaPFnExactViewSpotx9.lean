-- Written by xprint.py (this claim's own program, over the kit's printer); Lean checks it.
import Derived.Test.YtcjclihkaaaihaaPFnExactViewSpotx0
import Derived.Test.YtcjclihkaaaihaaPFnExactViewSpotx1
import Derived.Test.YtcjclihkaaaihaaPFnExactViewSpotx4
import Derived.Test.YtcjclihkaaaihaaPFnExactViewSpotx7
import Derived.Test.YtcjclihkaaaihaaPFnExactViewSpotx8
namespace Go.Proofs.Ytcjclihkaaaihaa.PFnExactViewSpot
open Go.RowKit Go.Proofs.YtcjclihkaaaihaaW.PrintWords Go.Proofs.YtcjclihkaaaihaaW.PrintLast Go.Proofs.YtcjclihkaaaihaaW.PrintMore
attribute [local go_sem] max2_int min2_int max_two min_two max_three min_three max_four min_four   -- for this text's walks alone
set_option linter.unusedVariables false
set_option linter.unusedSimpArgs false   -- squeezed

/-! ### laws_FnExactViewSpot: function 5 -/
@[reducible] def b5_0 : Array Bool := (br true [8, 1]).toArray
@[reducible] def b5_1 : Array Bool := (br true [3, 1, 2, 1, 1, 1]).toArray
@[reducible] def b5_2 : Array Bool := (br true [6, 1, 1, 1]).toArray
mutual
def laws_FnExactViewSpot.j0 : Nat → List Int → List Int → List Int → Int → Int → List Int → Int → Int → Option (Bool)
 | 0, _, _, _, _, _, _, _, _ => none
 | k + 1, x0, x11, x181000, x181001, x181002, x202000, x202001, x202002 => (laws_toInt64S.f k x0).bind fun t206 => ((laws_eqInt64S.f k x11 t206).bind fun t209 => (if t209 = true then (laws_FnExactViewSpot.j1 k x181000 x181001 x181002 x202000 x202001 x202002) else (some false)))
def laws_FnExactViewSpot.j1 : Nat → List Int → Int → Int → List Int → Int → Int → Option (Bool)
 | 0, _, _, _, _, _, _ => none
 | k + 1, x181000, x181001, x181002, x202000, x202001, x202002 => (laws_toBuf.f k x181000 x181001 x181002).bind fun bt210 => ((laws_eqBuf.f k x202000 x202001 x202002 bt210.1 bt210.2.1 bt210.2.2).bind fun t215 => (if t215 = true then (some true) else (some false)))
end
def laws_FnExactViewSpot.f (k : Nat) (l0 : List Int) (l1_0 : List Int) (a1_1 : Int) (a1_2 : Int) (a2 : Int) (a3 : Int) : Option (Bool) := if (l0.length : Int) > 1048576 then (some true) else ((laws_szBuf.f l1_0 a1_1 a1_2 1048576).bind fun t181 => (if t181 < 0 then (some true) else ((laws_toInt64S.f k l0).bind fun t182 => ((laws_toBuf.f k l1_0 a1_1 a1_2).bind fun bt185 => ((spec_ViewSpot.f k t182 bt185.1 bt185.2.1 bt185.2.2 a2 a3).bind fun bt190 => ((laws_toInt64S.f k l0).bind fun t193 => ((laws_toBuf.f k l1_0 a1_1 a1_2).bind fun bt196 => ((impl_ViewSpot.f k t193 bt196.1 bt196.2.1 bt196.2.2 a2 a3).bind fun bt202 => ((laws_eqSpot.f bt202.1 bt202.2 bt190.1 bt190.2).bind fun t205 => (if t205 = true then (laws_FnExactViewSpot.j0 k l0 t193 l1_0 a1_1 a1_2 bt196.1 bt196.2.1 bt196.2.2) else (some false)))))))))))
theorem laws_FnExactViewSpot.mono_l : ∀ k, (∀ y0 y1 y2 y3 y4 y5 y6 y7, LeO (laws_FnExactViewSpot.j0 k y0 y1 y2 y3 y4 y5 y6 y7) (laws_FnExactViewSpot.j0 (k + 1) y0 y1 y2 y3 y4 y5 y6 y7)) ∧ (∀ y0 y1 y2 y3 y4 y5, LeO (laws_FnExactViewSpot.j1 k y0 y1 y2 y3 y4 y5) (laws_FnExactViewSpot.j1 (k + 1) y0 y1 y2 y3 y4 y5))
 | 0 => ⟨fun _ _ _ _ _ _ _ _ r h => by simp [laws_FnExactViewSpot.j0] at h, fun _ _ _ _ _ _ r h => by simp [laws_FnExactViewSpot.j1] at h⟩
 | k + 1 => by
  obtain ⟨ih0, ih1⟩ := laws_FnExactViewSpot.mono_l k
  refine ⟨?_, ?_⟩
  ·intro y0 y1 y2 y3 y4 y5 y6 y7
   unfold laws_FnExactViewSpot.j0
   repeat' first
   | (with_reducible exact ih0 _ _ _ _ _ _ _ _)
   | (with_reducible exact ih1 _ _ _ _ _ _)
   | (with_reducible exact impl_ViewSpot.mono _ _ _ _ _ _ _)
   | (with_reducible exact laws_eqBuf.mono _ _ _ _ _ _ _)
   | (with_reducible exact laws_eqInt64S.mono _ _ _)
   | (with_reducible exact laws_toBuf.mono _ _ _ _)
   | (with_reducible exact laws_toInt64S.mono _ _)
   | (with_reducible exact spec_ViewSpot.mono _ _ _ _ _ _ _)
   | (with_reducible exact LeO.refl _)
   | (with_reducible exact LeO.none _)
   | (with_reducible refine LeO.ite ?_ ?_)
   | (with_reducible refine LeO.bind ?_ (fun _ => ?_))
   | exact ih0 _ _ _ _ _ _ _ _
   | exact ih1 _ _ _ _ _ _
   | exact impl_ViewSpot.mono _ _ _ _ _ _ _
   | exact laws_eqBuf.mono _ _ _ _ _ _ _
   | exact laws_eqInt64S.mono _ _ _
   | exact laws_toBuf.mono _ _ _ _
   | exact laws_toInt64S.mono _ _
   | exact spec_ViewSpot.mono _ _ _ _ _ _ _
   | refine LeO.bind ?_ (fun _ => ?_)
  ·intro y0 y1 y2 y3 y4 y5
   unfold laws_FnExactViewSpot.j1
   repeat' first
   | (with_reducible exact ih0 _ _ _ _ _ _ _ _)
   | (with_reducible exact ih1 _ _ _ _ _ _)
   | (with_reducible exact impl_ViewSpot.mono _ _ _ _ _ _ _)
   | (with_reducible exact laws_eqBuf.mono _ _ _ _ _ _ _)
   | (with_reducible exact laws_eqInt64S.mono _ _ _)
   | (with_reducible exact laws_toBuf.mono _ _ _ _)
   | (with_reducible exact laws_toInt64S.mono _ _)
   | (with_reducible exact spec_ViewSpot.mono _ _ _ _ _ _ _)
   | (with_reducible exact LeO.refl _)
   | (with_reducible exact LeO.none _)
   | (with_reducible refine LeO.ite ?_ ?_)
   | (with_reducible refine LeO.bind ?_ (fun _ => ?_))
   | exact ih0 _ _ _ _ _ _ _ _
   | exact ih1 _ _ _ _ _ _
   | exact impl_ViewSpot.mono _ _ _ _ _ _ _
   | exact laws_eqBuf.mono _ _ _ _ _ _ _
   | exact laws_eqInt64S.mono _ _ _
   | exact laws_toBuf.mono _ _ _ _
   | exact laws_toInt64S.mono _ _
   | exact spec_ViewSpot.mono _ _ _ _ _ _ _
   | refine LeO.bind ?_ (fun _ => ?_)
theorem laws_FnExactViewSpot.mono : ∀ a0 a1 a2 a3 a4 a5 k, LeO (laws_FnExactViewSpot.f k a0 a1 a2 a3 a4 a5) (laws_FnExactViewSpot.f (k + 1) a0 a1 a2 a3 a4 a5) := by
 intro a0 a1 a2 a3 a4 a5 k
 obtain ⟨ih0, ih1⟩ := laws_FnExactViewSpot.mono_l k
 unfold laws_FnExactViewSpot.f
 repeat' first
   | (with_reducible exact ih0 _ _ _ _ _ _ _ _)
   | (with_reducible exact ih1 _ _ _ _ _ _)
   | (with_reducible exact impl_ViewSpot.mono _ _ _ _ _ _ _)
   | (with_reducible exact laws_eqBuf.mono _ _ _ _ _ _ _)
   | (with_reducible exact laws_eqInt64S.mono _ _ _)
   | (with_reducible exact laws_toBuf.mono _ _ _ _)
   | (with_reducible exact laws_toInt64S.mono _ _)
   | (with_reducible exact spec_ViewSpot.mono _ _ _ _ _ _ _)
   | (with_reducible exact LeO.refl _)
   | (with_reducible exact LeO.none _)
   | (with_reducible refine LeO.ite ?_ ?_)
   | (with_reducible refine LeO.bind ?_ (fun _ => ?_))
   | exact ih0 _ _ _ _ _ _ _ _
   | exact ih1 _ _ _ _ _ _
   | exact impl_ViewSpot.mono _ _ _ _ _ _ _
   | exact laws_eqBuf.mono _ _ _ _ _ _ _
   | exact laws_eqInt64S.mono _ _ _
   | exact laws_toBuf.mono _ _ _ _
   | exact laws_toInt64S.mono _ _
   | exact spec_ViewSpot.mono _ _ _ _ _ _ _
   | refine LeO.bind ?_ (fun _ => ?_)
def laws_FnExactViewSpot.T7 : Bool × List (List Nat × List Nat) := (true, [([], []), ([0], [0]), ([], []), ([2, 1], [2]), ([], []), ([], []), ([1, 3, 4, 5, 3], [1, 3, 4, 5]), ([], []), ([7, 6, 6, 0, 1, 2, 3, 4, 5, 6, 7], [6, 7])])
def laws_FnExactViewSpot.B7 : List Nat := [0, 1, 0, 7, 0, 0, 63, 0, 255]
theorem laws_FnExactViewSpot.tab7 : rtab .any (opsOf Try.f5 7) = laws_FnExactViewSpot.T7 := by kernel_rfl
theorem laws_FnExactViewSpot.bits7 : waitsOk laws_FnExactViewSpot.T7.2 laws_FnExactViewSpot.B7 = true := by kernel_rfl
set_option maxHeartbeats 8000000 in
set_option maxRecDepth 100000 in
theorem laws_FnExactViewSpot.calls (k : Nat) (A0 : Option Addr) (c0 : Nat) (l0 : List Int) (A1_0 : Option Addr) (c1_0 : Nat) (l1_0 : List Int) (a1_1 : Int) (a1_2 : Int) (a2 : Int) (a3 : Int) (r : Bool) (w : World) (hr0 : Kd.C (Kd.int .i64) w A0 l0.length l0) (hc0 : l0.length ≤ c0) (hr1_0 : Kd.C (Kd.int .i64) w A1_0 l1_0.length l1_0) (hc1_0 : l1_0.length ≤ c1_0) (h : laws_FnExactViewSpot.f k l0 l1_0 a1_1 a1_2 a2 a3 = some r) :
  Calls Try.prog 5 #[.slice A0 l0.length c0, .agg #[.slice A1_0 l1_0.length c1_0, .int .i64 a1_1, .int .i64 a1_2], .int .i64 a2, .int .i64 a3] w fun e w' => e = .returned (.bool r) ∧ Below w.heap.size w w' := by
 have hu24 := Try.underlying24
 have hu45 := Try.underlying45
 have hu33 := Try.underlying33
 have HR0 := am hr0
 have HC0 := am hc0
 clear hr0 hc0
 have HR1_0 := am hr1_0
 have HC1_0 := am hc1_0
 clear hr1_0 hc1_0
 have HB := am (Below.refl w.heap.size w)
 have H : (if (l0.length : Int) > 1048576 then (some true) else ((laws_szBuf.f l1_0 a1_1 a1_2 1048576).bind fun t181 => (if t181 < 0 then (some true) else ((laws_toInt64S.f k l0).bind fun t182 => ((laws_toBuf.f k l1_0 a1_1 a1_2).bind fun bt185 => ((spec_ViewSpot.f k t182 bt185.1 bt185.2.1 bt185.2.2 a2 a3).bind fun bt190 => ((laws_toInt64S.f k l0).bind fun t193 => ((laws_toBuf.f k l1_0 a1_1 a1_2).bind fun bt196 => ((impl_ViewSpot.f k t193 bt196.1 bt196.2.1 bt196.2.2 a2 a3).bind fun bt202 => ((laws_eqSpot.f bt202.1 bt202.2 bt190.1 bt190.2).bind fun t205 => (if t205 = true then (laws_FnExactViewSpot.j0 k l0 t193 l1_0 a1_1 a1_2 bt196.1 bt196.2.1 bt196.2.2) else (some false)))))))))))) = some r := h
 clear h
 by_cases c5 : (l0.length : Int) > 1048576
 ·rw [if_pos c5] at H
  have c5b0 : decide (1048576 < (l0.length : Int)) = true := decide_eq_true c5
  have c5b1 : decide (1048576 < l0.length) = true := decide_eq_true (by omega)
  clear c5
  obtain rfl := Option.some.inj H
  go_enter Try.func5, Try.ntmps5
  go_wp2_with (first | ((with_reducible refine gate_dst (N := 5) rfl ?_); refine box_event ?hg (N := 5) ?hd (cs := #[.slice A1_0 l1_0.length c1_0, .int .i64 a1_1, .int .i64 a1_2]) (t := 24) ?hr ?_; (case hd => rfl); (case hg => rfl); (case hr => first | (go_simp; done) | (go_simp; rfl)); intro gb180 hg w6 hbox hb; have BK180 := am (hbox); have GW180 := am ((by rw [hg]; exact (below_size (bl HB.out)) : w.heap.size ≤ gb180)); have GE180 := GW180; replace HB := am (below_step (bl HB.out) hb); clear hb hbox hg))
  go_ret
  exact ⟨by first | rfl | (simp [errW_none, errW_some] <;> rfl) | (simp [*, errW_none, errW_some] <;> rfl), by repeat (first | (with_reducible first | exact HB.out | apply below_alloc | apply pw_below_drewN | apply below_drew1 | refine below_set ?_ GE180.out) | exact HB.out)⟩
 ·rw [if_neg c5] at H
  have c5b0 : decide (1048576 < (l0.length : Int)) = false := decide_eq_false c5
  have c5b1 : decide (1048576 < l0.length) = false := decide_eq_false (by omega)
  clear c5
  replace H := Option.bind_eq_some_iff.mp H
  obtain ⟨t181, A70, H⟩ := H
  replace H : (if t181 < 0 then (some true) else ((laws_toInt64S.f k l0).bind fun t182 => ((laws_toBuf.f k l1_0 a1_1 a1_2).bind fun bt185 => ((spec_ViewSpot.f k t182 bt185.1 bt185.2.1 bt185.2.2 a2 a3).bind fun bt190 => ((laws_toInt64S.f k l0).bind fun t193 => ((laws_toBuf.f k l1_0 a1_1 a1_2).bind fun bt196 => ((impl_ViewSpot.f k t193 bt196.1 bt196.2.1 bt196.2.2 a2 a3).bind fun bt202 => ((laws_eqSpot.f bt202.1 bt202.2 bt190.1 bt190.2).bind fun t205 => (if t205 = true then (laws_FnExactViewSpot.j0 k l0 t193 l1_0 a1_1 a1_2 bt196.1 bt196.2.1 bt196.2.2) else (some false)))))))))) = some r := H
  have A7 := Aside0.mk A70
  clear A70
  by_cases c8 : t181 < 0
  ·rw [if_pos c8] at H
   have c8b0 : decide (t181 < 0) = true := decide_eq_true c8
   clear c8
   obtain rfl := Option.some.inj H
   go_enter Try.func5, Try.ntmps5
   go_wp2_with (first | ((with_reducible refine gate_dst (N := 5) rfl ?_); refine box_event ?hg (N := 5) ?hd (cs := #[.slice A1_0 l1_0.length c1_0, .int .i64 a1_1, .int .i64 a1_2]) (t := 24) ?hr ?_; (case hd => rfl); (case hg => rfl); (case hr => first | (go_simp; done) | (go_simp; rfl)); intro gb180 hg w9 hbox hb; have BK180 := am (hbox); have GW180 := am ((by rw [hg]; exact (below_size (bl HB.out)) : w.heap.size ≤ gb180)); have GE180 := GW180; replace HB := am (below_step (bl HB.out) hb); clear hb hbox hg; have hcz10_0 : w9.cell? ⟨gb180, 0, none⟩ = some (.slice A1_0 l1_0.length c1_0) := bc BK180.out 0; have hcz10_1 : w9.cell? ⟨gb180, 1, none⟩ = some (.int .i64 a1_1) := bc BK180.out 1; have hcz10_2 : w9.cell? ⟨gb180, 2, none⟩ = some (.int .i64 a1_2) := bc BK180.out 2; have hfz10_0 := blk_frozen BK180.out 0; have hfz10_1 := blk_frozen BK180.out 1; have hfz10_2 := blk_frozen BK180.out 2) | ((with_reducible refine gate_callee (f := 9) rfl ?_); refine gl (some 19) Try.func9 #[.agg #[.slice A1_0 l1_0.length c1_0, .int .i64 a1_1, .int .i64 a1_2], .int .i64 1048576] ?_; (with_reducible refine (laws_szBuf.calls _ _ l1_0 a1_1 a1_2 1048576 t181 _ ?side1 ?side2 A7.out).mono ?_); (case side1 => repeat (first | exact (Kd.C_below HR1_0.out HB.out) | (with_reducible refine Kd.C_alloc ?_ _) | (with_reducible refine Kd.C_drewN ?_ _) | (with_reducible refine Kd.C_drew ?_))); (case side2 => exact HC1_0.out); rintro e w11 ⟨rfl, hb⟩; refine ⟨_, rfl, ?_⟩; replace BK180 := am (blk_below (pk BK180.out) hb); replace HB := am (below_step (bl HB.out) hb); (try clear hb); (try clear hb2); (try clear hk); (try clear hi)))
   go_ret
   exact ⟨by first | rfl | (simp [errW_none, errW_some] <;> rfl) | (simp [*, errW_none, errW_some] <;> rfl), by repeat (first | (with_reducible first | exact HB.out | apply below_alloc | apply pw_below_drewN | apply below_drew1 | refine below_set ?_ GE180.out) | exact HB.out)⟩
  ·rw [if_neg c8] at H
   have c8b0 : decide (t181 < 0) = false := decide_eq_false c8
   clear c8
   replace H := Option.bind_eq_some_iff.mp H
   obtain ⟨t182, A120, H⟩ := H
   replace H : ((laws_toBuf.f k l1_0 a1_1 a1_2).bind fun bt185 => ((spec_ViewSpot.f k t182 bt185.1 bt185.2.1 bt185.2.2 a2 a3).bind fun bt190 => ((laws_toInt64S.f k l0).bind fun t193 => ((laws_toBuf.f k l1_0 a1_1 a1_2).bind fun bt196 => ((impl_ViewSpot.f k t193 bt196.1 bt196.2.1 bt196.2.2 a2 a3).bind fun bt202 => ((laws_eqSpot.f bt202.1 bt202.2 bt190.1 bt190.2).bind fun t205 => (if t205 = true then (laws_FnExactViewSpot.j0 k l0 t193 l1_0 a1_1 a1_2 bt196.1 bt196.2.1 bt196.2.2) else (some false)))))))) = some r := H
   have A12 := Aside0.mk A120
   clear A120
   replace H := Option.bind_eq_some_iff.mp H
   obtain ⟨⟨t185, t188, t189⟩, A130, H⟩ := H
   replace H : ((spec_ViewSpot.f k t182 t185 t188 t189 a2 a3).bind fun bt190 => ((laws_toInt64S.f k l0).bind fun t193 => ((laws_toBuf.f k l1_0 a1_1 a1_2).bind fun bt196 => ((impl_ViewSpot.f k t193 bt196.1 bt196.2.1 bt196.2.2 a2 a3).bind fun bt202 => ((laws_eqSpot.f bt202.1 bt202.2 bt190.1 bt190.2).bind fun t205 => (if t205 = true then (laws_FnExactViewSpot.j0 k l0 t193 l1_0 a1_1 a1_2 bt196.1 bt196.2.1 bt196.2.2) else (some false))))))) = some r := H
   have A13 := Aside0.mk A130
   clear A130
   replace H := Option.bind_eq_some_iff.mp H
   obtain ⟨⟨t190, t191⟩, A140, H⟩ := H
   replace H : ((laws_toInt64S.f k l0).bind fun t193 => ((laws_toBuf.f k l1_0 a1_1 a1_2).bind fun bt196 => ((impl_ViewSpot.f k t193 bt196.1 bt196.2.1 bt196.2.2 a2 a3).bind fun bt202 => ((laws_eqSpot.f bt202.1 bt202.2 t190 t191).bind fun t205 => (if t205 = true then (laws_FnExactViewSpot.j0 k l0 t193 l1_0 a1_1 a1_2 bt196.1 bt196.2.1 bt196.2.2) else (some false)))))) = some r := H
   have A14 := Aside0.mk A140
   clear A140
   replace H := Option.bind_eq_some_iff.mp H
   obtain ⟨t193, A150, H⟩ := H
   replace H : ((laws_toBuf.f k l1_0 a1_1 a1_2).bind fun bt196 => ((impl_ViewSpot.f k t193 bt196.1 bt196.2.1 bt196.2.2 a2 a3).bind fun bt202 => ((laws_eqSpot.f bt202.1 bt202.2 t190 t191).bind fun t205 => (if t205 = true then (laws_FnExactViewSpot.j0 k l0 t193 l1_0 a1_1 a1_2 bt196.1 bt196.2.1 bt196.2.2) else (some false))))) = some r := H
   have A15 := Aside0.mk A150
   clear A150
   replace H := Option.bind_eq_some_iff.mp H
   obtain ⟨⟨t196, t199, t200⟩, A160, H⟩ := H
   replace H : ((impl_ViewSpot.f k t193 t196 t199 t200 a2 a3).bind fun bt202 => ((laws_eqSpot.f bt202.1 bt202.2 t190 t191).bind fun t205 => (if t205 = true then (laws_FnExactViewSpot.j0 k l0 t193 l1_0 a1_1 a1_2 t196 t199 t200) else (some false)))) = some r := H
   have A16 := Aside0.mk A160
   clear A160
   replace H := Option.bind_eq_some_iff.mp H
   obtain ⟨⟨t202, t203⟩, A170, H⟩ := H
   replace H : ((laws_eqSpot.f t202 t203 t190 t191).bind fun t205 => (if t205 = true then (laws_FnExactViewSpot.j0 k l0 t193 l1_0 a1_1 a1_2 t196 t199 t200) else (some false))) = some r := H
   have A17 := Aside0.mk A170
   clear A170
   replace H := Option.bind_eq_some_iff.mp H
   obtain ⟨t205, A180, H⟩ := H
   replace H : (if t205 = true then (laws_FnExactViewSpot.j0 k l0 t193 l1_0 a1_1 a1_2 t196 t199 t200) else (some false)) = some r := H
   have A18 := Aside0.mk A180
   clear A180
   have HC19 := Aside0.mk H
   clear H
   go_enter Try.func5, Try.ntmps5
   try go_wp2_with (first | ((with_reducible refine gate_dst (N := 5) rfl ?_); refine box_event ?hg (N := 5) ?hd (cs := #[.slice A1_0 l1_0.length c1_0, .int .i64 a1_1, .int .i64 a1_2]) (t := 24) ?hr ?_; (case hd => rfl); (case hg => rfl); (case hr => first | (go_simp; done) | (go_simp; rfl)); intro gb180 hg w20 hbox hb; have BK180 := am (hbox); have GW180 := am ((by rw [hg]; exact (below_size (bl HB.out)) : w.heap.size ≤ gb180)); have GE180 := GW180; replace HB := am (below_step (bl HB.out) hb); clear hb hbox hg; have hcz21_0 : w20.cell? ⟨gb180, 0, none⟩ = some (.slice A1_0 l1_0.length c1_0) := bc BK180.out 0; have hcz21_1 : w20.cell? ⟨gb180, 1, none⟩ = some (.int .i64 a1_1) := bc BK180.out 1; have hcz21_2 : w20.cell? ⟨gb180, 2, none⟩ = some (.int .i64 a1_2) := bc BK180.out 2; have hfz21_0 := blk_frozen BK180.out 0; have hfz21_1 := blk_frozen BK180.out 1; have hfz21_2 := blk_frozen BK180.out 2) | ((with_reducible refine gate_callee (f := 9) rfl ?_); refine gl (some 19) Try.func9 #[.agg #[.slice A1_0 l1_0.length c1_0, .int .i64 a1_1, .int .i64 a1_2], .int .i64 1048576] ?_; (with_reducible refine (laws_szBuf.calls _ _ l1_0 a1_1 a1_2 1048576 t181 _ ?side1 ?side2 A7.out).mono ?_); (case side1 => repeat (first | exact (Kd.C_below HR1_0.out HB.out) | (with_reducible refine Kd.C_alloc ?_ _) | (with_reducible refine Kd.C_drewN ?_ _) | (with_reducible refine Kd.C_drew ?_))); (case side2 => exact HC1_0.out); rintro e w22 ⟨rfl, hb⟩; refine ⟨_, rfl, ?_⟩; replace BK180 := am (blk_below (pk BK180.out) hb); replace HB := am (below_step (bl HB.out) hb); (try clear hb); (try clear hb2); (try clear hk); (try clear hi)))
   replace BK180 := am (blk_drew BK180.out)
   replace HB := am (below_drew1 HB.out)
   refine start_ (n := 9) (S := fun w' => w'.cell? ⟨gb180, 0, none⟩ = some (.slice A1_0 l1_0.length c1_0) ∧ w'.cell? ⟨gb180, 1, none⟩ = some (.int .i64 a1_1) ∧ w'.cell? ⟨gb180, 2, none⟩ = some (.int .i64 a1_2)) (ds := []) #[false, false, false, false, false, false, false, false, false] (by kernel_rfl) rfl rfl ⟨bc BK180.out 0, bc BK180.out 1, bc BK180.out 2⟩ (fun hHeld => ?_); refine with_tabW laws_FnExactViewSpot.tab7 laws_FnExactViewSpot.bits7 (fun HT_ HW_ => ?_)
   generalize w22.drew = w23 at BK180 HB hHeld ⊢
   refine pure_ (i := 0) (N := some 22) (v := ?_) (a' := ?_) #[true, false, false, false, false, false, false, false, false] rfl rfl (any_of HT_.out (by kernel_rfl)) (fun _ _ _ h => h) (Or.inl ⟨by rfl, ?_⟩) ?_ ?_; rotate_left
   ·intro w'; go_simp; with_reducible rfl
   rotate_left
   ·simp only [Act.put, sa_, s0_, ss_, i64_w, i32_w]; rfl
   refine pure_ (i := 4) (N := some 26) (v := ?_) (a' := ?_) #[true, false, false, false, true, false, false, false, false] rfl rfl (any_of HT_.out (by kernel_rfl)) (fun _ _ _ h => h) (Or.inl ⟨by rfl, ?_⟩) ?_ ?_; rotate_left
   ·intro w'; go_simp; with_reducible rfl
   rotate_left
   ·simp only [Act.put, sa_, s0_, ss_, i64_w, i32_w]; rfl
   refine pure_ (i := 5) (N := some 27) (v := ?_) (a' := ?_) #[true, false, false, false, true, true, false, false, false] rfl rfl (any_of HT_.out (by kernel_rfl)) (fun _ _ _ h => h) (Or.inl ⟨by rfl, ?_⟩) ?_ ?_; rotate_left
   ·intro w'; go_simp; with_reducible rfl
   rotate_left
   ·simp only [Act.put, sa_, s0_, ss_, i64_w, i32_w]; rfl
   refine take_ (i := 2) (N := some 24) (v := ?_) (a' := ?_) #[true, false, true, false, true, true, false, false, false] rfl rfl (take_ofW HT_.out HW_.out (by kernel_rfl)) (fun _ _ _ h => h) (Or.inl ⟨by rfl, ?_⟩) hHeld ?_ ?_; rotate_left
   ·rintro w' ⟨s0, s1, s2⟩; go_simp; with_reducible rfl
   rotate_left
   ·simp only [Act.put, sa_, s0_, ss_, i64_w, i32_w]; rfl
   refine join_ (σ := Value × Value × Nat) 1 b5_0 (fun s_ => [(23, s_.1), (25, .agg #[s_.2.1, .int .i64 t188, .int .i64 t189]), (28, .agg #[.int .i64 t190, .int .i64 t191]), (10, .pointer (some ⟨s_.2.2, 0, none⟩))]) (fun s_ w' => (w'.cell? ⟨gb180, 0, none⟩ = some (.slice A1_0 l1_0.length c1_0) ∧ w'.cell? ⟨gb180, 1, none⟩ = some (.int .i64 a1_1) ∧ w'.cell? ⟨gb180, 2, none⟩ = some (.int .i64 a1_2)) ∧ (Kd.R (Kd.int .i64) 2 w' w.heap.size (fun k_ => some k_ ≠ (s_.2.1 : Value).ownBlock) s_.1 t182) ∧ (Kd.R (Kd.int .i64) 2 w' w.heap.size (fun k_ => some k_ ≠ (s_.1 : Value).ownBlock) s_.2.1 t185) ∧ (w'.heap[gb180]? = some (.cells #[.slice A1_0 l1_0.length c1_0, .int .i64 a1_1, .int .i64 a1_2] 24 (0, 0))) ∧ (w'.heap[s_.2.2]? = some (.cells #[.int .i64 0, .int .i64 0] 45 (0, 0))) ∧ (w.heap.size ≤ s_.2.2) ∧ (w.heap.size ≤ s_.2.2) ∧ (gb180 ≠ s_.2.2) ∧ (s_.2.2 ≠ gb180) ∧ (Below w.heap.size w w')) ?_ ?_
   rotate_left
   ·intro hCont
    refine two_ (i := 1) (j := 7) (Ni := some 23) (Nj := some 10) #[true, true, true, false, true, true, false, false, false] #[true, false, true, false, true, true, false, true, false] rfl rfl rfl rfl (two_of HT_.out (by kernel_rfl)) (by decide) (by decide) (fun K hK => ?_) (fun K hK => ?_)
    ·skip
     refine gs_ Try.func11 #[.slice A0 l0.length c0] ?_
     with_reducible refine (laws_toInt64S.calls k _ _ l0 t182 _ ?side1 ?side2 A12.out).mono ?_
     (case side1 => repeat (first | exact (Kd.C_below HR0.out HB.out) | (with_reducible refine Kd.C_alloc ?_ _) | (with_reducible refine Kd.C_drewN ?_ _) | (with_reducible refine Kd.C_drew ?_)))
     (case side2 => exact HC0.out)
     rintro e w24 ⟨v183, rfl, ho0, hb⟩
     refine ⟨_, rfl, ?_⟩
     have HO184 := am (Kd.R_lower ho0 (below_size (bl HB.out)))
     replace BK180 := am (blk_below (pk BK180.out) hb)
     replace HB := am (below_step (bl HB.out) hb)
     (try clear hb)
     (try clear hb2)
     (try clear hk)
     (try clear hi)
     (try clear ho0)
     refine hK.out _ _ ⟨bc BK180.out 0, bc BK180.out 1, bc BK180.out 2⟩ (fun hHeld => ?_)
     clear hK K
     refine norm_ (a' := ?_) ?_ ?_
     rotate_left
     ·show Act.put _ (some 23) _ = _
      simp only [Act.put, sa_, s0_, ss_, i64_w, i32_w]
      rfl
     refine two_ (i := 3) (j := 7) (Ni := some 25) (Nj := some 10) #[true, true, true, true, true, true, false, false, false] b5_1 rfl rfl rfl rfl (two_of HT_.out (by kernel_rfl)) (by decide) (by decide) (fun K hK => ?_) (fun K hK => ?_)
     ·skip
      refine gs_ Try.func12 #[.agg #[.slice A1_0 l1_0.length c1_0, .int .i64 a1_1, .int .i64 a1_2]] ?_
      with_reducible refine (laws_toBuf.calls k _ _ l1_0 a1_1 a1_2 t185 t188 t189 _ ?side1 ?side2 A13.out).mono ?_
      (case side1 => repeat (first | exact (Kd.C_below HR1_0.out HB.out) | (with_reducible refine Kd.C_alloc ?_ _) | (with_reducible refine Kd.C_drewN ?_ _) | (with_reducible refine Kd.C_drew ?_)))
      (case side2 => exact HC1_0.out)
      rintro e w25 ⟨v186, rfl, ho0, hb⟩
      refine ⟨_, rfl, ?_⟩
      have HO187 := am (Kd.R_lower (Kd.R_new' ho0 (Kd.R_lt (kr HO184.out))) (below_size (bl HB.out)))
      replace HO184 := am (Kd.R_elder' (kr HO184.out) (Kd.R_base ho0) hb)
      replace BK180 := am (blk_below (pk BK180.out) hb)
      replace HB := am (below_step (bl HB.out) hb)
      (try clear hb)
      (try clear hb2)
      (try clear hk)
      (try clear hi)
      (try clear ho0)
      obtain ⟨Ao26, co26, eo26⟩ := Kd.R_slice HO184.out
      (first | subst eo26 | (injection eo26 with f1_ f2_ f3_; have f4_ := f1_.symm; have f5_ := f3_.symm; clear f1_ f2_ f3_; subst f4_; subst f5_))
      obtain ⟨Ao27, co27, eo27⟩ := Kd.R_slice HO187.out
      (first | subst eo27 | (injection eo27 with f1_ f2_ f3_; have f4_ := f1_.symm; have f5_ := f3_.symm; clear f1_ f2_ f3_; subst f4_; subst f5_))
      refine hK.out _ _ ⟨bc BK180.out 0, bc BK180.out 1, bc BK180.out 2⟩ (fun hHeld => ?_)
      clear hK K
      refine norm_ (a' := ?_) ?_ ?_
      rotate_left
      ·show Act.put _ (some 25) _ = _
       simp only [Act.put, sa_, s0_, ss_, i64_w, i32_w]
       rfl
      refine two_ (i := 6) (j := 7) (Ni := some 28) (Nj := some 10) #[true, true, true, true, true, true, true, false, false] b5_2 rfl rfl rfl rfl (two_of HT_.out (by kernel_rfl)) (by decide) (by decide) (fun K hK => ?_) (fun K hK => ?_)
      ·skip
       refine gs_ Try.func23 #[.slice Ao26 t182.length co26, .agg #[.slice Ao27 t185.length co27, .int .i64 t188, .int .i64 t189], .int .i64 a2, .int .i64 a3] ?_
       with_reducible refine (spec_ViewSpot.calls k _ _ t182 _ _ t185 t188 t189 a2 a3 t190 t191 _ ?side1 ?side2 ?side3 ?side4 A14.out).mono ?_
       (case side1 => repeat (first | exact (Kd.R_reads' HO184.out).2.2 | (with_reducible refine Kd.C_alloc ?_ _) | (with_reducible refine Kd.C_drewN ?_ _) | (with_reducible refine Kd.C_drew ?_)))
       (case side2 => exact (Kd.R_reads' HO184.out).2.1)
       (case side3 => repeat (first | exact (Kd.R_reads' HO187.out).2.2 | (with_reducible refine Kd.C_alloc ?_ _) | (with_reducible refine Kd.C_drewN ?_ _) | (with_reducible refine Kd.C_drew ?_)))
       (case side4 => exact (Kd.R_reads' HO187.out).2.1)
       rintro e w28 ⟨rfl, hb⟩
       refine ⟨_, rfl, ?_⟩
       replace HO184 := am (Kd.R_below (kr HO184.out) hb)
       replace HO187 := am (Kd.R_below (kr HO187.out) hb)
       replace BK180 := am (blk_below (pk BK180.out) hb)
       replace HB := am (below_step (bl HB.out) hb)
       (try clear hb)
       (try clear hb2)
       (try clear hk)
       (try clear hi)
       refine hK.out _ _ ⟨bc BK180.out 0, bc BK180.out 1, bc BK180.out 2⟩ (fun hHeld => ?_)
       clear hK K
       refine norm_ (a' := ?_) ?_ ?_
       rotate_left
       ·show Act.put _ (some 28) _ = _
        simp only [Act.put, sa_, s0_, ss_, i64_w, i32_w]
        rfl
       refine one_ (i := 7) (N := some 10) b5_0 rfl rfl (one_of HT_.out (by kernel_rfl)) (by decide) (fun K hK => ?_)
       refine box_step ?hg (N := 10) ?hd (cs := #[.int .i64 0, .int .i64 0]) (t := 45) ?hr ?_; (case hd => rfl); (case hg => rfl); (case hr => first | (go_simp; done) | (go_simp; rfl))
       intro gb192 hg w29 hbox hb
       replace HO184 := am (Kd.R_below (kr HO184.out) hb)
       replace HO187 := am (Kd.R_below (kr HO187.out) hb)
       have BK192 := am (hbox)
       have GW192 := am ((by rw [hg]; exact (below_size (bl HB.out)) : w.heap.size ≤ gb192))
       have GE192 := GW192
       replace HB := am (below_step (bl HB.out) hb)
       have NB180_192 := am ((by rw [hg]; exact Nat.ne_of_lt (blk_lt (pk BK180.out)) : gb180 ≠ gb192))
       have NB192_180 := am ((by rw [hg]; exact Nat.ne_of_gt (blk_lt (pk BK180.out)) : gb192 ≠ gb180))
       replace BK180 := am (blk_below (pk BK180.out) hb)
       clear hb hbox hg
       refine hK.out _ _ ⟨bc BK180.out 0, bc BK180.out 1, bc BK180.out 2⟩ (fun hHeld => ?_)
       clear hK K
       refine norm_ (a' := ?_) ?_ ?_
       rotate_left
       ·show Act.put _ (some 10) _ = _
        simp only [Act.put, sa_, s0_, ss_, i64_w, i32_w]
        rfl
       exact norm_ (by simp only [putAll, Act.put, sa_, s0_, ss_]) (hCont (.slice Ao26 t182.length co26, .slice Ao27 t185.length co27, gb192) _ ⟨hHeld, (kr (Kd.R_mono HO184.out (fun _ hk => hk.2))), (kr (Kd.R_mono HO187.out (fun _ hk => hk.2))), (pk BK180.out), (pk BK192.out), GW192.out, GE192.out, NB180_192.out, NB192_180.out, (bl HB.out)⟩)
      ·skip
       refine box_step ?hg (N := 10) ?hd (cs := #[.int .i64 0, .int .i64 0]) (t := 45) ?hr ?_; (case hd => rfl); (case hg => rfl); (case hr => first | (go_simp; done) | (go_simp; rfl))
       intro gb192 hg w26 hbox hb
       replace HO184 := am (Kd.R_below (kr HO184.out) hb)
       replace HO187 := am (Kd.R_below (kr HO187.out) hb)
       have BK192 := am (hbox)
       have GW192 := am ((by rw [hg]; exact (below_size (bl HB.out)) : w.heap.size ≤ gb192))
       have GE192 := GW192
       replace HB := am (below_step (bl HB.out) hb)
       have NB180_192 := am ((by rw [hg]; exact Nat.ne_of_lt (blk_lt (pk BK180.out)) : gb180 ≠ gb192))
       have NB192_180 := am ((by rw [hg]; exact Nat.ne_of_gt (blk_lt (pk BK180.out)) : gb192 ≠ gb180))
       replace BK180 := am (blk_below (pk BK180.out) hb)
       clear hb hbox hg
       obtain ⟨Ao27, co27, eo27⟩ := Kd.R_slice HO184.out
       (first | subst eo27 | (injection eo27 with f1_ f2_ f3_; have f4_ := f1_.symm; have f5_ := f3_.symm; clear f1_ f2_ f3_; subst f4_; subst f5_))
       obtain ⟨Ao28, co28, eo28⟩ := Kd.R_slice HO187.out
       (first | subst eo28 | (injection eo28 with f1_ f2_ f3_; have f4_ := f1_.symm; have f5_ := f3_.symm; clear f1_ f2_ f3_; subst f4_; subst f5_))
       refine hK.out _ _ ⟨bc BK180.out 0, bc BK180.out 1, bc BK180.out 2⟩ (fun hHeld => ?_)
       clear hK K
       refine norm_ (a' := ?_) ?_ ?_
       rotate_left
       ·show Act.put _ (some 10) _ = _
        simp only [Act.put, sa_, s0_, ss_, i64_w, i32_w]
        rfl
       refine one_ (i := 6) (N := some 28) b5_0 rfl rfl (one_of HT_.out (by kernel_rfl)) (by decide) (fun K hK => ?_)
       refine gs_ Try.func23 #[.slice Ao27 t182.length co27, .agg #[.slice Ao28 t185.length co28, .int .i64 t188, .int .i64 t189], .int .i64 a2, .int .i64 a3] ?_
       with_reducible refine (spec_ViewSpot.calls k _ _ t182 _ _ t185 t188 t189 a2 a3 t190 t191 _ ?side1 ?side2 ?side3 ?side4 A14.out).mono ?_
       (case side1 => repeat (first | exact (Kd.R_reads' HO184.out).2.2 | (with_reducible refine Kd.C_alloc ?_ _) | (with_reducible refine Kd.C_drewN ?_ _) | (with_reducible refine Kd.C_drew ?_)))
       (case side2 => exact (Kd.R_reads' HO184.out).2.1)
       (case side3 => repeat (first | exact (Kd.R_reads' HO187.out).2.2 | (with_reducible refine Kd.C_alloc ?_ _) | (with_reducible refine Kd.C_drewN ?_ _) | (with_reducible refine Kd.C_drew ?_)))
       (case side4 => exact (Kd.R_reads' HO187.out).2.1)
       rintro e w29 ⟨rfl, hb⟩
       refine ⟨_, rfl, ?_⟩
       replace HO184 := am (Kd.R_below (kr HO184.out) hb)
       replace HO187 := am (Kd.R_below (kr HO187.out) hb)
       replace BK180 := am (blk_below (pk BK180.out) hb)
       replace BK192 := am (blk_below (pk BK192.out) hb)
       replace HB := am (below_step (bl HB.out) hb)
       (try clear hb)
       (try clear hb2)
       (try clear hk)
       (try clear hi)
       refine hK.out _ _ ⟨bc BK180.out 0, bc BK180.out 1, bc BK180.out 2⟩ (fun hHeld => ?_)
       clear hK K
       refine norm_ (a' := ?_) ?_ ?_
       rotate_left
       ·show Act.put _ (some 28) _ = _
        simp only [Act.put, sa_, s0_, ss_, i64_w, i32_w]
        rfl
       exact norm_ (by simp only [putAll, Act.put, sa_, s0_, ss_]) (hCont (.slice Ao27 t182.length co27, .slice Ao28 t185.length co28, gb192) _ ⟨hHeld, (kr (Kd.R_mono HO184.out (fun _ hk => hk.2))), (kr (Kd.R_mono HO187.out (fun _ hk => hk.2))), (pk BK180.out), (pk BK192.out), GW192.out, GE192.out, NB180_192.out, NB192_180.out, (bl HB.out)⟩)
     ·skip
      refine box_step ?hg (N := 10) ?hd (cs := #[.int .i64 0, .int .i64 0]) (t := 45) ?hr ?_; (case hd => rfl); (case hg => rfl); (case hr => first | (go_simp; done) | (go_simp; rfl))
      intro gb192 hg w25 hbox hb
      replace HO184 := am (Kd.R_below (kr HO184.out) hb)
      have BK192 := am (hbox)
      have GW192 := am ((by rw [hg]; exact (below_size (bl HB.out)) : w.heap.size ≤ gb192))
      have GE192 := GW192
      replace HB := am (below_step (bl HB.out) hb)
      have NB180_192 := am ((by rw [hg]; exact Nat.ne_of_lt (blk_lt (pk BK180.out)) : gb180 ≠ gb192))
      have NB192_180 := am ((by rw [hg]; exact Nat.ne_of_gt (blk_lt (pk BK180.out)) : gb192 ≠ gb180))
      replace BK180 := am (blk_below (pk BK180.out) hb)
      clear hb hbox hg
      refine hK.out _ _ ⟨bc BK180.out 0, bc BK180.out 1, bc BK180.out 2⟩ (fun hHeld => ?_)
      clear hK K
      refine norm_ (a' := ?_) ?_ ?_
      rotate_left
      ·show Act.put _ (some 10) _ = _
       simp only [Act.put, sa_, s0_, ss_, i64_w, i32_w]
       rfl
      refine one_ (i := 3) (N := some 25) b5_2 rfl rfl (one_of HT_.out (by kernel_rfl)) (by decide) (fun K hK => ?_)
      refine gs_ Try.func12 #[.agg #[.slice A1_0 l1_0.length c1_0, .int .i64 a1_1, .int .i64 a1_2]] ?_
      with_reducible refine (laws_toBuf.calls k _ _ l1_0 a1_1 a1_2 t185 t188 t189 _ ?side1 ?side2 A13.out).mono ?_
      (case side1 => repeat (first | exact (Kd.C_below HR1_0.out HB.out) | (with_reducible refine Kd.C_alloc ?_ _) | (with_reducible refine Kd.C_drewN ?_ _) | (with_reducible refine Kd.C_drew ?_)))
      (case side2 => exact HC1_0.out)
      rintro e w26 ⟨v186, rfl, ho0, hb⟩
      refine ⟨_, rfl, ?_⟩
      have HO187 := am (Kd.R_lower (Kd.R_new' ho0 (Kd.R_lt (kr HO184.out))) (below_size (bl HB.out)))
      replace HO184 := am (Kd.R_elder' (kr HO184.out) (Kd.R_base ho0) hb)
      replace BK180 := am (blk_below (pk BK180.out) hb)
      replace BK192 := am (blk_below (pk BK192.out) hb)
      replace HB := am (below_step (bl HB.out) hb)
      (try clear hb)
      (try clear hb2)
      (try clear hk)
      (try clear hi)
      (try clear ho0)
      obtain ⟨Ao27, co27, eo27⟩ := Kd.R_slice HO184.out
      (first | subst eo27 | (injection eo27 with f1_ f2_ f3_; have f4_ := f1_.symm; have f5_ := f3_.symm; clear f1_ f2_ f3_; subst f4_; subst f5_))
      obtain ⟨Ao28, co28, eo28⟩ := Kd.R_slice HO187.out
      (first | subst eo28 | (injection eo28 with f1_ f2_ f3_; have f4_ := f1_.symm; have f5_ := f3_.symm; clear f1_ f2_ f3_; subst f4_; subst f5_))
      refine hK.out _ _ ⟨bc BK180.out 0, bc BK180.out 1, bc BK180.out 2⟩ (fun hHeld => ?_)
      clear hK K
      refine norm_ (a' := ?_) ?_ ?_
      rotate_left
      ·show Act.put _ (some 25) _ = _
       simp only [Act.put, sa_, s0_, ss_, i64_w, i32_w]
       rfl
      refine one_ (i := 6) (N := some 28) b5_0 rfl rfl (one_of HT_.out (by kernel_rfl)) (by decide) (fun K hK => ?_)
      refine gs_ Try.func23 #[.slice Ao27 t182.length co27, .agg #[.slice Ao28 t185.length co28, .int .i64 t188, .int .i64 t189], .int .i64 a2, .int .i64 a3] ?_
      with_reducible refine (spec_ViewSpot.calls k _ _ t182 _ _ t185 t188 t189 a2 a3 t190 t191 _ ?side1 ?side2 ?side3 ?side4 A14.out).mono ?_
      (case side1 => repeat (first | exact (Kd.R_reads' HO184.out).2.2 | (with_reducible refine Kd.C_alloc ?_ _) | (with_reducible refine Kd.C_drewN ?_ _) | (with_reducible refine Kd.C_drew ?_)))
      (case side2 => exact (Kd.R_reads' HO184.out).2.1)
      (case side3 => repeat (first | exact (Kd.R_reads' HO187.out).2.2 | (with_reducible refine Kd.C_alloc ?_ _) | (with_reducible refine Kd.C_drewN ?_ _) | (with_reducible refine Kd.C_drew ?_)))
      (case side4 => exact (Kd.R_reads' HO187.out).2.1)
      rintro e w29 ⟨rfl, hb⟩
      refine ⟨_, rfl, ?_⟩
      replace HO184 := am (Kd.R_below (kr HO184.out) hb)
      replace HO187 := am (Kd.R_below (kr HO187.out) hb)
      replace BK180 := am (blk_below (pk BK180.out) hb)
      replace BK192 := am (blk_below (pk BK192.out) hb)
      replace HB := am (below_step (bl HB.out) hb)
      (try clear hb)
      (try clear hb2)
      (try clear hk)
      (try clear hi)
      refine hK.out _ _ ⟨bc BK180.out 0, bc BK180.out 1, bc BK180.out 2⟩ (fun hHeld => ?_)
      clear hK K
      refine norm_ (a' := ?_) ?_ ?_
      rotate_left
      ·show Act.put _ (some 28) _ = _
       simp only [Act.put, sa_, s0_, ss_, i64_w, i32_w]
       rfl
      exact norm_ (by simp only [putAll, Act.put, sa_, s0_, ss_]) (hCont (.slice Ao27 t182.length co27, .slice Ao28 t185.length co28, gb192) _ ⟨hHeld, (kr (Kd.R_mono HO184.out (fun _ hk => hk.2))), (kr (Kd.R_mono HO187.out (fun _ hk => hk.2))), (pk BK180.out), (pk BK192.out), GW192.out, GE192.out, NB180_192.out, NB192_180.out, (bl HB.out)⟩)
    ·skip
     refine box_step ?hg (N := 10) ?hd (cs := #[.int .i64 0, .int .i64 0]) (t := 45) ?hr ?_; (case hd => rfl); (case hg => rfl); (case hr => first | (go_simp; done) | (go_simp; rfl))
     intro gb192 hg w24 hbox hb
     have BK192 := am (hbox)
     have GW192 := am ((by rw [hg]; exact (below_size (bl HB.out)) : w.heap.size ≤ gb192))
     have GE192 := GW192
     replace HB := am (below_step (bl HB.out) hb)
     have NB180_192 := am ((by rw [hg]; exact Nat.ne_of_lt (blk_lt (pk BK180.out)) : gb180 ≠ gb192))
     have NB192_180 := am ((by rw [hg]; exact Nat.ne_of_gt (blk_lt (pk BK180.out)) : gb192 ≠ gb180))
     replace BK180 := am (blk_below (pk BK180.out) hb)
     clear hb hbox hg
     refine hK.out _ _ ⟨bc BK180.out 0, bc BK180.out 1, bc BK180.out 2⟩ (fun hHeld => ?_)
     clear hK K
     refine norm_ (a' := ?_) ?_ ?_
     rotate_left
     ·show Act.put _ (some 10) _ = _
      simp only [Act.put, sa_, s0_, ss_, i64_w, i32_w]
      rfl
     refine one_ (i := 1) (N := some 23) b5_1 rfl rfl (one_of HT_.out (by kernel_rfl)) (by decide) (fun K hK => ?_)
     refine gs_ Try.func11 #[.slice A0 l0.length c0] ?_
     with_reducible refine (laws_toInt64S.calls k _ _ l0 t182 _ ?side1 ?side2 A12.out).mono ?_
     (case side1 => repeat (first | exact (Kd.C_below HR0.out HB.out) | (with_reducible refine Kd.C_alloc ?_ _) | (with_reducible refine Kd.C_drewN ?_ _) | (with_reducible refine Kd.C_drew ?_)))
     (case side2 => exact HC0.out)
     rintro e w25 ⟨v183, rfl, ho0, hb⟩
     refine ⟨_, rfl, ?_⟩
     have HO184 := am (Kd.R_lower ho0 (below_size (bl HB.out)))
     replace BK180 := am (blk_below (pk BK180.out) hb)
     replace BK192 := am (blk_below (pk BK192.out) hb)
     replace HB := am (below_step (bl HB.out) hb)
     (try clear hb)
     (try clear hb2)
     (try clear hk)
     (try clear hi)
     (try clear ho0)
     refine hK.out _ _ ⟨bc BK180.out 0, bc BK180.out 1, bc BK180.out 2⟩ (fun hHeld => ?_)
     clear hK K
     refine norm_ (a' := ?_) ?_ ?_
     rotate_left
     ·show Act.put _ (some 23) _ = _
      simp only [Act.put, sa_, s0_, ss_, i64_w, i32_w]
      rfl
     refine one_ (i := 3) (N := some 25) b5_2 rfl rfl (one_of HT_.out (by kernel_rfl)) (by decide) (fun K hK => ?_)
     refine gs_ Try.func12 #[.agg #[.slice A1_0 l1_0.length c1_0, .int .i64 a1_1, .int .i64 a1_2]] ?_
     with_reducible refine (laws_toBuf.calls k _ _ l1_0 a1_1 a1_2 t185 t188 t189 _ ?side1 ?side2 A13.out).mono ?_
     (case side1 => repeat (first | exact (Kd.C_below HR1_0.out HB.out) | (with_reducible refine Kd.C_alloc ?_ _) | (with_reducible refine Kd.C_drewN ?_ _) | (with_reducible refine Kd.C_drew ?_)))
     (case side2 => exact HC1_0.out)
     rintro e w26 ⟨v186, rfl, ho0, hb⟩
     refine ⟨_, rfl, ?_⟩
     have HO187 := am (Kd.R_lower (Kd.R_new' ho0 (Kd.R_lt (kr HO184.out))) (below_size (bl HB.out)))
     replace HO184 := am (Kd.R_elder' (kr HO184.out) (Kd.R_base ho0) hb)
     replace BK180 := am (blk_below (pk BK180.out) hb)
     replace BK192 := am (blk_below (pk BK192.out) hb)
     replace HB := am (below_step (bl HB.out) hb)
     (try clear hb)
     (try clear hb2)
     (try clear hk)
     (try clear hi)
     (try clear ho0)
     obtain ⟨Ao27, co27, eo27⟩ := Kd.R_slice HO184.out
     (first | subst eo27 | (injection eo27 with f1_ f2_ f3_; have f4_ := f1_.symm; have f5_ := f3_.symm; clear f1_ f2_ f3_; subst f4_; subst f5_))
     obtain ⟨Ao28, co28, eo28⟩ := Kd.R_slice HO187.out
     (first | subst eo28 | (injection eo28 with f1_ f2_ f3_; have f4_ := f1_.symm; have f5_ := f3_.symm; clear f1_ f2_ f3_; subst f4_; subst f5_))
     refine hK.out _ _ ⟨bc BK180.out 0, bc BK180.out 1, bc BK180.out 2⟩ (fun hHeld => ?_)
     clear hK K
     refine norm_ (a' := ?_) ?_ ?_
     rotate_left
     ·show Act.put _ (some 25) _ = _
      simp only [Act.put, sa_, s0_, ss_, i64_w, i32_w]
      rfl
     refine one_ (i := 6) (N := some 28) b5_0 rfl rfl (one_of HT_.out (by kernel_rfl)) (by decide) (fun K hK => ?_)
     refine gs_ Try.func23 #[.slice Ao27 t182.length co27, .agg #[.slice Ao28 t185.length co28, .int .i64 t188, .int .i64 t189], .int .i64 a2, .int .i64 a3] ?_
     with_reducible refine (spec_ViewSpot.calls k _ _ t182 _ _ t185 t188 t189 a2 a3 t190 t191 _ ?side1 ?side2 ?side3 ?side4 A14.out).mono ?_
     (case side1 => repeat (first | exact (Kd.R_reads' HO184.out).2.2 | (with_reducible refine Kd.C_alloc ?_ _) | (with_reducible refine Kd.C_drewN ?_ _) | (with_reducible refine Kd.C_drew ?_)))
     (case side2 => exact (Kd.R_reads' HO184.out).2.1)
     (case side3 => repeat (first | exact (Kd.R_reads' HO187.out).2.2 | (with_reducible refine Kd.C_alloc ?_ _) | (with_reducible refine Kd.C_drewN ?_ _) | (with_reducible refine Kd.C_drew ?_)))
     (case side4 => exact (Kd.R_reads' HO187.out).2.1)
     rintro e w29 ⟨rfl, hb⟩
     refine ⟨_, rfl, ?_⟩
     replace HO184 := am (Kd.R_below (kr HO184.out) hb)
     replace HO187 := am (Kd.R_below (kr HO187.out) hb)
     replace BK180 := am (blk_below (pk BK180.out) hb)
     replace BK192 := am (blk_below (pk BK192.out) hb)
     replace HB := am (below_step (bl HB.out) hb)
     (try clear hb)
     (try clear hb2)
     (try clear hk)
     (try clear hi)
     refine hK.out _ _ ⟨bc BK180.out 0, bc BK180.out 1, bc BK180.out 2⟩ (fun hHeld => ?_)
     clear hK K
     refine norm_ (a' := ?_) ?_ ?_
     rotate_left
     ·show Act.put _ (some 28) _ = _
      simp only [Act.put, sa_, s0_, ss_, i64_w, i32_w]
      rfl
     exact norm_ (by simp only [putAll, Act.put, sa_, s0_, ss_]) (hCont (.slice Ao27 t182.length co27, .slice Ao28 t185.length co28, gb192) _ ⟨hHeld, (kr (Kd.R_mono HO184.out (fun _ hk => hk.2))), (kr (Kd.R_mono HO187.out (fun _ hk => hk.2))), (pk BK180.out), (pk BK192.out), GW192.out, GE192.out, NB180_192.out, NB192_180.out, (bl HB.out)⟩)
   rintro ⟨v183, v186, gb192⟩ w30 ⟨hS_, h0_, h1_, h2_, h3_, h4_, h5_, h6_, h7_, h8_⟩
   have HO184 : Aside0 (Kd.R (Kd.int .i64) 2 w30 w.heap.size (fun k_ => some k_ ≠ (v186 : Value).ownBlock) v183 t182) := ⟨h0_⟩
   have HO187 : Aside0 (Kd.R (Kd.int .i64) 2 w30 w.heap.size (fun k_ => some k_ ≠ (v183 : Value).ownBlock) v186 t185) := ⟨h1_⟩
   replace BK180 : Aside0 (w30.heap[gb180]? = some (.cells #[.slice A1_0 l1_0.length c1_0, .int .i64 a1_1, .int .i64 a1_2] 24 (0, 0))) := ⟨h2_⟩
   have BK192 : Aside0 (w30.heap[gb192]? = some (.cells #[.int .i64 0, .int .i64 0] 45 (0, 0))) := ⟨h3_⟩
   have GW192 : Aside0 (w.heap.size ≤ gb192) := ⟨h4_⟩
   have GE192 : Aside0 (w.heap.size ≤ gb192) := ⟨h5_⟩
   have NB180_192 : Aside0 (gb180 ≠ gb192) := ⟨h6_⟩
   have NB192_180 : Aside0 (gb192 ≠ gb180) := ⟨h7_⟩
   replace HB : Aside0 (Below w.heap.size w w30) := ⟨h8_⟩
   clear h0_ h1_ h2_ h3_ h4_ h5_ h6_ h7_ h8_
   have hHeld : w30.cell? ⟨gb180, 0, none⟩ = some (.slice A1_0 l1_0.length c1_0) ∧ w30.cell? ⟨gb180, 1, none⟩ = some (.int .i64 a1_1) ∧ w30.cell? ⟨gb180, 2, none⟩ = some (.int .i64 a1_2) := hS_
   refine norm_ (a' := ?_) ?_ ?_
   rotate_left
   ·simp only [putAll, Act.put, sa_, s0_, ss_]
    rfl
   refine one_ (i := 8) (N := none) #[true, true, true, true, true, true, true, true, true] rfl rfl (one_of HT_.out (by kernel_rfl)) (by decide) (fun K hK => ?_)
   have hs31 : w30.cell? ⟨gb192, 0, none⟩ = some (.int .i64 0) := bc BK192.out 0
   have hfs31 := blk_frozen BK192.out 0
   have hns31_0 := NB180_192.out
   have hms31_0 := NB192_180.out
   have hs32 : w30.cell? ⟨gb192, 1, none⟩ = some (.int .i64 0) := bc BK192.out 1
   have hfs32 := blk_frozen BK192.out 1
   refine skip_ (w1 := ?_) (by rfl) rfl ?_ ?_
   rotate_left
   ·go_simp
    rfl
   refine hK.out _ _ ⟨((cell_far (p := ⟨gb192, _, none⟩) NB180_192.out _).trans (((cell_far (p := ⟨gb192, _, none⟩) NB180_192.out _).trans (hHeld.1)))), ((cell_far (p := ⟨gb192, _, none⟩) NB180_192.out _).trans (((cell_far (p := ⟨gb192, _, none⟩) NB180_192.out _).trans (hHeld.2.1)))), ((cell_far (p := ⟨gb192, _, none⟩) NB180_192.out _).trans (((cell_far (p := ⟨gb192, _, none⟩) NB180_192.out _).trans (hHeld.2.2))))⟩ (fun hHeld => ?_)
   clear hK K
   refine done_ (done_of HT_.out (by kernel_rfl)) ?_
   go_upto_if 41 with (first | ((with_reducible refine gate_callee (f := 11) rfl ?_); refine gl (some 30) Try.func11 #[.slice A0 l0.length c0] ?_; (with_reducible refine (laws_toInt64S.calls k _ _ l0 t193 _ ?side1 ?side2 A15.out).mono ?_); (case side1 => exact Kd.C_below HR0.out (bl HB.out)); (case side2 => exact HC0.out); rintro e w33 ⟨v194, rfl, ho0, hb⟩; refine ⟨_, rfl, ?_⟩; have HO195 := am (Kd.R_lower (Kd.R_new' (Kd.R_new' ho0 (Kd.R_lt (kr ((Kd.R_mono (Kd.R_far (p := ⟨gb192, 1, none⟩) (Kd.R_far (p := ⟨gb192, 0, none⟩) (Kd.R_types HO184.out BK192.out (by decide)) (fun _ hk => hk.2) (.int .i64 t190)) (fun _ hk => hk.2) (.int .i64 t191)) (fun _ h_ => h_.1)))))) (Kd.R_lt (kr ((Kd.R_mono (Kd.R_far (p := ⟨gb192, 1, none⟩) (Kd.R_far (p := ⟨gb192, 0, none⟩) (Kd.R_types HO187.out BK192.out (by decide)) (fun _ hk => hk.2) (.int .i64 t190)) (fun _ hk => hk.2) (.int .i64 t191)) (fun _ h_ => h_.1)))))) (below_size (bl HB.out))); replace HO184 := am (Kd.R_elder' (kr ((Kd.R_mono (Kd.R_far (p := ⟨gb192, 1, none⟩) (Kd.R_far (p := ⟨gb192, 0, none⟩) (Kd.R_types HO184.out BK192.out (by decide)) (fun _ hk => hk.2) (.int .i64 t190)) (fun _ hk => hk.2) (.int .i64 t191)) (fun _ h_ => h_.1)))) (Kd.R_base ho0) hb); replace HO187 := am (Kd.R_elder' (kr ((Kd.R_mono (Kd.R_far (p := ⟨gb192, 1, none⟩) (Kd.R_far (p := ⟨gb192, 0, none⟩) (Kd.R_types HO187.out BK192.out (by decide)) (fun _ hk => hk.2) (.int .i64 t190)) (fun _ hk => hk.2) (.int .i64 t191)) (fun _ h_ => h_.1)))) (Kd.R_base ho0) hb); replace BK180 := am (blk_below (g := gb180) (o := .cells #[.slice A1_0 l1_0.length c1_0, .int .i64 a1_1, .int .i64 a1_2] 24 (0, 0)) (by refine pk ?_; refine blk_far ?_ NB180_192.out _; refine pk ?_; refine blk_far ?_ NB180_192.out _; refine pk ?_; exact BK180.out) hb); replace BK192 := am (blk_below (g := gb192) (o := .cells #[.int .i64 t190, .int .i64 t191] 45 (0, 0)) (by refine pk ?_; refine blk_put (cs := #[.int .i64 t190, .int .i64 0]) ?_ 1 _ rfl; refine pk ?_; refine blk_put (cs := #[.int .i64 0, .int .i64 0]) ?_ 0 _ rfl; refine pk ?_; exact BK192.out) hb); replace HB := am (below_step (bl HB.out) hb); (try clear hb); (try clear hb2); (try clear hk); (try clear hi); (try clear ho0); have hnb34 := NB180_192.out; have hnc34 := NB192_180.out; have hcz35_0 : w33.cell? ⟨gb180, 0, none⟩ = some (.slice A1_0 l1_0.length c1_0) := bc BK180.out 0; have hcz35_1 : w33.cell? ⟨gb180, 1, none⟩ = some (.int .i64 a1_1) := bc BK180.out 1; have hcz35_2 : w33.cell? ⟨gb180, 2, none⟩ = some (.int .i64 a1_2) := bc BK180.out 2; have hfz35_0 := blk_frozen BK180.out 0; have hfz35_1 := blk_frozen BK180.out 1; have hfz35_2 := blk_frozen BK180.out 2) | ((with_reducible refine gate_callee (f := 12) rfl ?_); refine gl (some 32) Try.func12 #[.agg #[.slice A1_0 l1_0.length c1_0, .int .i64 a1_1, .int .i64 a1_2]] ?_; (with_reducible refine (laws_toBuf.calls k _ _ l1_0 a1_1 a1_2 t196 t199 t200 _ ?side1 ?side2 A16.out).mono ?_); (case side1 => repeat (first | exact (Kd.C_below HR1_0.out HB.out) | (with_reducible refine Kd.C_alloc ?_ _) | (with_reducible refine Kd.C_drewN ?_ _) | (with_reducible refine Kd.C_drew ?_))); (case side2 => exact HC1_0.out); rintro e w36 ⟨v197, rfl, ho0, hb⟩; refine ⟨_, rfl, ?_⟩; have HO198 := am (Kd.R_lower (Kd.R_new' (Kd.R_new' (Kd.R_new' ho0 (Kd.R_lt (kr HO184.out))) (Kd.R_lt (kr HO187.out))) (Kd.R_lt (kr HO195.out))) (below_size (bl HB.out))); replace HO184 := am (Kd.R_elder' (kr HO184.out) (Kd.R_base ho0) hb); replace HO187 := am (Kd.R_elder' (kr HO187.out) (Kd.R_base ho0) hb); replace HO195 := am (Kd.R_elder' (kr HO195.out) (Kd.R_base ho0) hb); replace BK180 := am (blk_below (pk BK180.out) hb); replace BK192 := am (blk_below (pk BK192.out) hb); replace HB := am (below_step (bl HB.out) hb); (try clear hb); (try clear hb2); (try clear hk); (try clear hi); (try clear ho0)) | ((with_reducible refine gate_dst (N := 12) rfl ?_); refine box_event ?hg (N := 12) ?hd (cs := #[.slice none 0 0, .int .i64 0, .int .i64 0]) (t := 33) ?hr ?_; (case hd => rfl); (case hg => rfl); (case hr => first | (go_simp; done) | (go_simp; rfl)); intro gb201 hg w37 hbox hb; replace HO184 := am (Kd.R_below (kr HO184.out) hb); replace HO187 := am (Kd.R_below (kr HO187.out) hb); replace HO195 := am (Kd.R_below (kr HO195.out) hb); replace HO198 := am (Kd.R_below (kr HO198.out) hb); have BK201 := am (hbox); have GW201 := am ((by rw [hg]; exact (below_size (bl HB.out)) : w.heap.size ≤ gb201)); have GE201 := GW201; replace HB := am (below_step (bl HB.out) hb); have NB180_201 := am ((by rw [hg]; exact Nat.ne_of_lt (blk_lt (pk BK180.out)) : gb180 ≠ gb201)); have NB201_180 := am ((by rw [hg]; exact Nat.ne_of_gt (blk_lt (pk BK180.out)) : gb201 ≠ gb180)); replace BK180 := am (blk_below (pk BK180.out) hb); have NB192_201 := am ((by rw [hg]; exact Nat.ne_of_lt (blk_lt (pk BK192.out)) : gb192 ≠ gb201)); have NB201_192 := am ((by rw [hg]; exact Nat.ne_of_gt (blk_lt (pk BK192.out)) : gb201 ≠ gb192)); replace BK192 := am (blk_below (pk BK192.out) hb); clear hb hbox hg; obtain ⟨Ao38, co38, eo38⟩ := Kd.R_slice HO198.out; subst eo38; have hnb39 := NB201_180.out; have hnc39 := NB180_201.out; have hnb40 := NB201_192.out; have hnc40 := NB192_201.out; have hcz41_0 : w37.cell? ⟨gb201, 0, none⟩ = some (.slice none 0 0) := bc BK201.out 0; have hcz41_1 : w37.cell? ⟨gb201, 1, none⟩ = some (.int .i64 0) := bc BK201.out 1; have hcz41_2 : w37.cell? ⟨gb201, 2, none⟩ = some (.int .i64 0) := bc BK201.out 2; have hfz41_0 := blk_frozen BK201.out 0; have hfz41_1 := blk_frozen BK201.out 1; have hfz41_2 := blk_frozen BK201.out 2; obtain ⟨Ao42, co42, eo42⟩ := Kd.R_slice HO195.out; subst eo42) | ((with_reducible refine gate_callee (f := 24) rfl ?_); refine gl (some 37) Try.func24 #[.slice Ao42 t193.length co42, .agg #[.slice Ao38 t196.length co38, .int .i64 t199, .int .i64 t200], .int .i64 a2, .int .i64 a3] ?_; (with_reducible refine (impl_ViewSpot.calls k _ _ t193 _ _ t196 t199 t200 a2 a3 t202 t203 _ ?side1 ?side2 ?side3 ?side4 A17.out).mono ?_); (case side1 => refine (Kd.R_reads' (e := 2) (base := w.heap.size) (ok := fun k_ => (((True ∧ some k_ ≠ (v183 : Value).ownBlock) ∧ some k_ ≠ (v186 : Value).ownBlock) ∧ some k_ ≠ (.slice Ao38 t196.length co38 : Value).ownBlock)) (n := t193.length) (c := co42) ?_).2.2; exact (kr ((Kd.R_mono (Kd.R_far (p := ⟨gb201, 2, none⟩) (Kd.R_far (p := ⟨gb201, 1, none⟩) (Kd.R_far (p := ⟨gb201, 0, none⟩) (Kd.R_types HO195.out BK201.out (by decide)) (fun _ hk => hk.2) (.slice Ao38 t196.length co38)) (fun _ hk => hk.2) (.int .i64 t199)) (fun _ hk => hk.2) (.int .i64 t200)) (fun _ h_ => h_.1))))); (case side2 => exact (Kd.R_reads' HO195.out).2.1); (case side3 => refine (Kd.R_reads' (e := 2) (base := w.heap.size) (ok := fun k_ => (((True ∧ some k_ ≠ (v183 : Value).ownBlock) ∧ some k_ ≠ (v186 : Value).ownBlock) ∧ some k_ ≠ (.slice Ao42 t193.length co42 : Value).ownBlock)) (n := t196.length) (c := co38) ?_).2.2; exact (kr ((Kd.R_mono (Kd.R_far (p := ⟨gb201, 2, none⟩) (Kd.R_far (p := ⟨gb201, 1, none⟩) (Kd.R_far (p := ⟨gb201, 0, none⟩) (Kd.R_types HO198.out BK201.out (by decide)) (fun _ hk => hk.2) (.slice Ao38 t196.length co38)) (fun _ hk => hk.2) (.int .i64 t199)) (fun _ hk => hk.2) (.int .i64 t200)) (fun _ h_ => h_.1))))); (case side4 => exact (Kd.R_reads' HO198.out).2.1); rintro e w43 ⟨rfl, hb⟩; refine ⟨_, rfl, ?_⟩; replace HO184 := am (Kd.R_below (kr ((Kd.R_mono (Kd.R_far (p := ⟨gb201, 2, none⟩) (Kd.R_far (p := ⟨gb201, 1, none⟩) (Kd.R_far (p := ⟨gb201, 0, none⟩) (Kd.R_types HO184.out BK201.out (by decide)) (fun _ hk => hk.2) (.slice Ao38 t196.length co38)) (fun _ hk => hk.2) (.int .i64 t199)) (fun _ hk => hk.2) (.int .i64 t200)) (fun _ h_ => h_.1)))) hb); replace HO187 := am (Kd.R_below (kr ((Kd.R_mono (Kd.R_far (p := ⟨gb201, 2, none⟩) (Kd.R_far (p := ⟨gb201, 1, none⟩) (Kd.R_far (p := ⟨gb201, 0, none⟩) (Kd.R_types HO187.out BK201.out (by decide)) (fun _ hk => hk.2) (.slice Ao38 t196.length co38)) (fun _ hk => hk.2) (.int .i64 t199)) (fun _ hk => hk.2) (.int .i64 t200)) (fun _ h_ => h_.1)))) hb); replace HO195 := am (Kd.R_below (kr ((Kd.R_mono (Kd.R_far (p := ⟨gb201, 2, none⟩) (Kd.R_far (p := ⟨gb201, 1, none⟩) (Kd.R_far (p := ⟨gb201, 0, none⟩) (Kd.R_types HO195.out BK201.out (by decide)) (fun _ hk => hk.2) (.slice Ao38 t196.length co38)) (fun _ hk => hk.2) (.int .i64 t199)) (fun _ hk => hk.2) (.int .i64 t200)) (fun _ h_ => h_.1)))) hb); replace HO198 := am (Kd.R_below (kr ((Kd.R_mono (Kd.R_far (p := ⟨gb201, 2, none⟩) (Kd.R_far (p := ⟨gb201, 1, none⟩) (Kd.R_far (p := ⟨gb201, 0, none⟩) (Kd.R_types HO198.out BK201.out (by decide)) (fun _ hk => hk.2) (.slice Ao38 t196.length co38)) (fun _ hk => hk.2) (.int .i64 t199)) (fun _ hk => hk.2) (.int .i64 t200)) (fun _ h_ => h_.1)))) hb); replace BK180 := am (blk_below (g := gb180) (o := .cells #[.slice A1_0 l1_0.length c1_0, .int .i64 a1_1, .int .i64 a1_2] 24 (0, 0)) (by refine pk ?_; refine blk_far ?_ NB180_201.out _; refine pk ?_; refine blk_far ?_ NB180_201.out _; refine pk ?_; refine blk_far ?_ NB180_201.out _; refine pk ?_; exact BK180.out) hb); replace BK192 := am (blk_below (g := gb192) (o := .cells #[.int .i64 t190, .int .i64 t191] 45 (0, 0)) (by refine pk ?_; refine blk_far ?_ NB192_201.out _; refine pk ?_; refine blk_far ?_ NB192_201.out _; refine pk ?_; refine blk_far ?_ NB192_201.out _; refine pk ?_; exact BK192.out) hb); replace BK201 := am (blk_below (g := gb201) (o := .cells #[.slice Ao38 t196.length co38, .int .i64 t199, .int .i64 t200] 33 (0, 0)) (by refine pk ?_; refine blk_put (cs := #[.slice Ao38 t196.length co38, .int .i64 t199, .int .i64 0]) ?_ 2 _ rfl; refine pk ?_; refine blk_put (cs := #[.slice Ao38 t196.length co38, .int .i64 0, .int .i64 0]) ?_ 1 _ rfl; refine pk ?_; refine blk_put (cs := #[.slice none 0 0, .int .i64 0, .int .i64 0]) ?_ 0 _ rfl; refine pk ?_; exact BK201.out) hb); replace HB := am (below_step (bl HB.out) hb); (try clear hb); (try clear hb2); (try clear hk); (try clear hi)) | ((with_reducible refine gate_dst (N := 13) rfl ?_); refine box_event ?hg (N := 13) ?hd (cs := #[.int .i64 0, .int .i64 0]) (t := 45) ?hr ?_; (case hd => rfl); (case hg => rfl); (case hr => first | (go_simp; done) | (go_simp; rfl)); intro gb204 hg w44 hbox hb; replace HO184 := am (Kd.R_below (kr HO184.out) hb); replace HO187 := am (Kd.R_below (kr HO187.out) hb); replace HO195 := am (Kd.R_below (kr HO195.out) hb); replace HO198 := am (Kd.R_below (kr HO198.out) hb); have BK204 := am (hbox); have GW204 := am ((by rw [hg]; exact (below_size (bl HB.out)) : w.heap.size ≤ gb204)); have GE204 := GW204; replace HB := am (below_step (bl HB.out) hb); have NB180_204 := am ((by rw [hg]; exact Nat.ne_of_lt (blk_lt (pk BK180.out)) : gb180 ≠ gb204)); have NB204_180 := am ((by rw [hg]; exact Nat.ne_of_gt (blk_lt (pk BK180.out)) : gb204 ≠ gb180)); replace BK180 := am (blk_below (pk BK180.out) hb); have NB192_204 := am ((by rw [hg]; exact Nat.ne_of_lt (blk_lt (pk BK192.out)) : gb192 ≠ gb204)); have NB204_192 := am ((by rw [hg]; exact Nat.ne_of_gt (blk_lt (pk BK192.out)) : gb204 ≠ gb192)); replace BK192 := am (blk_below (pk BK192.out) hb); have NB201_204 := am ((by rw [hg]; exact Nat.ne_of_lt (blk_lt (pk BK201.out)) : gb201 ≠ gb204)); have NB204_201 := am ((by rw [hg]; exact Nat.ne_of_gt (blk_lt (pk BK201.out)) : gb204 ≠ gb201)); replace BK201 := am (blk_below (pk BK201.out) hb); clear hb hbox hg; have hnb45 := NB204_180.out; have hnc45 := NB180_204.out; have hnb46 := NB204_192.out; have hnc46 := NB192_204.out; have hnb47 := NB204_201.out; have hnc47 := NB201_204.out; have hcz48_0 : w44.cell? ⟨gb204, 0, none⟩ = some (.int .i64 0) := bc BK204.out 0; have hcz48_1 : w44.cell? ⟨gb204, 1, none⟩ = some (.int .i64 0) := bc BK204.out 1; have hfz48_0 := blk_frozen BK204.out 0; have hfz48_1 := blk_frozen BK204.out 1; have hcz49_0 : w44.cell? ⟨gb192, 0, none⟩ = some (.int .i64 t190) := bc BK192.out 0; have hcz49_1 : w44.cell? ⟨gb192, 1, none⟩ = some (.int .i64 t191) := bc BK192.out 1; have hfz49_0 := blk_frozen BK192.out 0; have hfz49_1 := blk_frozen BK192.out 1) | ((with_reducible refine gate_callee (f := 25) rfl ?_); refine gl (some 40) Try.func25 #[.agg #[.int .i64 t202, .int .i64 t203], .agg #[.int .i64 t190, .int .i64 t191]] ?_; (with_reducible refine (laws_eqSpot.calls t202 t203 t190 t191 t205 _ A18.out).mono ?_); rintro e w50 ⟨rfl, hb⟩; refine ⟨_, rfl, ?_⟩; replace HO184 := am (Kd.R_below (kr ((Kd.R_mono (Kd.R_far (p := ⟨gb204, 1, none⟩) (Kd.R_far (p := ⟨gb204, 0, none⟩) (Kd.R_types HO184.out BK204.out (by decide)) (fun _ hk => hk.2) (.int .i64 t202)) (fun _ hk => hk.2) (.int .i64 t203)) (fun _ h_ => h_.1)))) hb); replace HO187 := am (Kd.R_below (kr ((Kd.R_mono (Kd.R_far (p := ⟨gb204, 1, none⟩) (Kd.R_far (p := ⟨gb204, 0, none⟩) (Kd.R_types HO187.out BK204.out (by decide)) (fun _ hk => hk.2) (.int .i64 t202)) (fun _ hk => hk.2) (.int .i64 t203)) (fun _ h_ => h_.1)))) hb); replace HO195 := am (Kd.R_below (kr ((Kd.R_mono (Kd.R_far (p := ⟨gb204, 1, none⟩) (Kd.R_far (p := ⟨gb204, 0, none⟩) (Kd.R_types HO195.out BK204.out (by decide)) (fun _ hk => hk.2) (.int .i64 t202)) (fun _ hk => hk.2) (.int .i64 t203)) (fun _ h_ => h_.1)))) hb); replace HO198 := am (Kd.R_below (kr ((Kd.R_mono (Kd.R_far (p := ⟨gb204, 1, none⟩) (Kd.R_far (p := ⟨gb204, 0, none⟩) (Kd.R_types HO198.out BK204.out (by decide)) (fun _ hk => hk.2) (.int .i64 t202)) (fun _ hk => hk.2) (.int .i64 t203)) (fun _ h_ => h_.1)))) hb); replace BK180 := am (blk_below (g := gb180) (o := .cells #[.slice A1_0 l1_0.length c1_0, .int .i64 a1_1, .int .i64 a1_2] 24 (0, 0)) (by refine pk ?_; refine blk_far ?_ NB180_204.out _; refine pk ?_; refine blk_far ?_ NB180_204.out _; refine pk ?_; exact BK180.out) hb); replace BK192 := am (blk_below (g := gb192) (o := .cells #[.int .i64 t190, .int .i64 t191] 45 (0, 0)) (by refine pk ?_; refine blk_far ?_ NB192_204.out _; refine pk ?_; refine blk_far ?_ NB192_204.out _; refine pk ?_; exact BK192.out) hb); replace BK201 := am (blk_below (g := gb201) (o := .cells #[.slice Ao38 t196.length co38, .int .i64 t199, .int .i64 t200] 33 (0, 0)) (by refine pk ?_; refine blk_far ?_ NB201_204.out _; refine pk ?_; refine blk_far ?_ NB201_204.out _; refine pk ?_; exact BK201.out) hb); replace BK204 := am (blk_below (g := gb204) (o := .cells #[.int .i64 t202, .int .i64 t203] 45 (0, 0)) (by refine pk ?_; refine blk_put (cs := #[.int .i64 t202, .int .i64 0]) ?_ 1 _ rfl; refine pk ?_; refine blk_put (cs := #[.int .i64 0, .int .i64 0]) ?_ 0 _ rfl; refine pk ?_; exact BK204.out) hb); replace HB := am (below_step (bl HB.out) hb); (try clear hb); (try clear hb2); (try clear hk); (try clear hi)))
   (try simp only [Act.put, sa_, s0_, ss_])
   go_cut [] (fun wc => ∃ (kq : Nat), Aside0 (laws_FnExactViewSpot.j0 kq l0 t193 l1_0 a1_1 a1_2 t196 t199 t200 = some r) ∧ Aside0 (kq ≤ k) ∧ Aside0 (Kd.R (Kd.int .i64) 2 wc w.heap.size (fun k_ => some k_ ≠ ((.slice Ao38 t196.length co38) : Value).ownBlock) (.slice Ao42 t193.length co42) t193) ∧ Aside0 (Kd.R (Kd.int .i64) 2 wc w.heap.size (fun k_ => some k_ ≠ ((.slice Ao42 t193.length co42) : Value).ownBlock) (.slice Ao38 t196.length co38) t196) ∧ Aside0 (wc.heap[gb180]? = some (.cells #[(.slice A1_0 l1_0.length c1_0), .int .i64 a1_1, .int .i64 a1_2] 24 (0, 0))) ∧ Aside0 (wc.heap[gb192]? = some (.cells #[.int .i64 t190, .int .i64 t191] 45 (0, 0))) ∧ Aside0 (wc.heap[gb201]? = some (.cells #[(.slice Ao38 t196.length co38), .int .i64 t199, .int .i64 t200] 33 (0, 0))) ∧ Aside0 (wc.heap[gb204]? = some (.cells #[.int .i64 t202, .int .i64 t203] 45 (0, 0))) ∧ Aside0 (Below w.heap.size w wc))
   case first =>
    have H := HC19.out
    clear HC19
    by_cases c51 : t205 = true
    ·subst c51
     have H1 : (laws_FnExactViewSpot.j0 k l0 t193 l1_0 a1_1 a1_2 t196 t199 t200) = some r := by rw [if_pos rfl] at H; exact H
     clear H
     have H := H1
     clear H1
     have H' := Aside0.mk H
     clear H
     go_wp2
     go_meet
     case rel => exact ⟨_, H', ⟨by first | omega | exact Nat.le_refl _⟩, ⟨kr (Kd.R_mono HO195.out (fun _ hk => hk.2))⟩, ⟨kr (Kd.R_mono HO198.out (fun _ hk => hk.2))⟩, ⟨pk BK180.out⟩, ⟨pk BK192.out⟩, ⟨pk BK201.out⟩, ⟨pk BK204.out⟩, ⟨by repeat (first | (with_reducible first | exact HB.out | apply below_alloc | apply pw_below_drewN | apply below_drew1 | refine below_set ?_ GE180.out | refine below_set ?_ GE192.out | refine below_set ?_ GE201.out | refine below_set ?_ GE204.out) | exact HB.out)⟩⟩
    ·replace c51 := Bool.eq_false_iff.mpr c51
     subst c51
     have H1 : (some false) = some r := by rw [if_neg (show ¬ (false = true) by decide)] at H; exact H
     clear H
     have H := H1
     clear H1
     obtain rfl := Option.some.inj H
     go_wp2
     go_ret
     exact ⟨by first | rfl | (simp [errW_none, errW_some] <;> rfl) | (simp [*, errW_none, errW_some] <;> rfl), by repeat (first | (with_reducible first | exact HB.out | apply below_alloc | apply pw_below_drewN | apply below_drew1 | refine below_set ?_ GE180.out | refine below_set ?_ GE192.out | refine below_set ?_ GE201.out | refine below_set ?_ GE204.out) | exact HB.out)⟩
   case rest =>
    clear HC19
    try clear c1
    try clear c2
    try clear p2
    try clear c3
    try clear c4
    try clear c5
    try clear c9
    try clear c11
    try clear c12
    try clear c23
    try clear c24
    try clear c25
    try clear c34
    try clear c39
    try clear c40
    try clear c45
    try clear c46
    try clear c47
    try clear c51
    try clear hcz21_0
    try clear hcz21_1
    try clear hcz21_2
    try clear hcz35_0
    try clear hcz35_1
    try clear hcz35_2
    try clear hcz41_0
    try clear hcz41_1
    try clear hcz41_2
    try clear hcz48_0
    try clear hcz48_1
    try clear hcz49_0
    try clear hcz49_1
    try clear hfz21_0
    try clear hfz21_1
    try clear hfz21_2
    try clear hfz35_0
    try clear hfz35_1
    try clear hfz35_2
    try clear hfz41_0
    try clear hfz41_1
    try clear hfz41_2
    try clear hfz48_0
    try clear hfz48_1
    try clear hfz49_0
    try clear hfz49_1
    obtain ⟨kq, HA, HJ18, HO_11, HO_202000, BK180, BK192, BK201, BK204, HB⟩ := hcut
    cases kq with
    | zero => exact absurd HA.out (by simp [laws_FnExactViewSpot.j0])
    | succ kj18 =>
     have H := HA.out
     clear HA
     simp only [laws_FnExactViewSpot.j0] at H
     replace H := Option.bind_eq_some_iff.mp H
     obtain ⟨t206, A520, H⟩ := H
     replace H : ((laws_eqInt64S.f kj18 t193 t206).bind fun t209 => (if t209 = true then (laws_FnExactViewSpot.j1 kj18 l1_0 a1_1 a1_2 t196 t199 t200) else (some false))) = some r := H
     have A52 := Aside0.mk A520
     clear A520
     replace H := Option.bind_eq_some_iff.mp H
     obtain ⟨t209, A530, H⟩ := H
     replace H : (if t209 = true then (laws_FnExactViewSpot.j1 kj18 l1_0 a1_1 a1_2 t196 t199 t200) else (some false)) = some r := H
     have A53 := Aside0.mk A530
     clear A530
     have HC54 := Aside0.mk H
     clear H
     go_upto_if 46 with (first | ((with_reducible refine gate_callee (f := 11) rfl ?_); refine gl (some 44) Try.func11 #[.slice A0 l0.length c0] ?_; (with_reducible refine (laws_toInt64S.calls kj18 _ _ l0 t206 _ ?side1 ?side2 A52.out).mono ?_); (case side1 => repeat (first | exact (Kd.C_below HR0.out HB.out) | (with_reducible refine Kd.C_alloc ?_ _) | (with_reducible refine Kd.C_drewN ?_ _) | (with_reducible refine Kd.C_drew ?_))); (case side2 => exact HC0.out); rintro e w55 ⟨v207, rfl, ho0, hb⟩; refine ⟨_, rfl, ?_⟩; have HO208 := am (Kd.R_lower (Kd.R_new' (Kd.R_new' ho0 (Kd.R_lt (kr HO_11.out))) (Kd.R_lt (kr HO_202000.out))) (below_size (bl HB.out))); replace HO_11 := am (Kd.R_elder' (kr HO_11.out) (Kd.R_base ho0) hb); replace HO_202000 := am (Kd.R_elder' (kr HO_202000.out) (Kd.R_base ho0) hb); replace BK180 := am (blk_below (pk BK180.out) hb); replace BK192 := am (blk_below (pk BK192.out) hb); replace BK201 := am (blk_below (pk BK201.out) hb); replace BK204 := am (blk_below (pk BK204.out) hb); replace HB := am (below_step (bl HB.out) hb); (try clear hb); (try clear hb2); (try clear hk); (try clear hi); (try clear ho0); obtain ⟨Ao56, co56, eo56⟩ := Kd.R_slice HO208.out; subst eo56) | ((with_reducible refine gate_callee (f := 15) rfl ?_); refine gl (some 45) Try.func15 #[.slice Ao42 t193.length co42, .slice Ao56 t206.length co56] ?_; (with_reducible refine (laws_eqInt64S.calls kj18 _ _ t193 _ _ t206 t209 _ ?side1 ?side2 ?side3 ?side4 A53.out).mono ?_); (case side1 => repeat (first | exact (Kd.R_reads' HO_11.out).2.2 | (with_reducible refine Kd.C_alloc ?_ _) | (with_reducible refine Kd.C_drewN ?_ _) | (with_reducible refine Kd.C_drew ?_))); (case side2 => exact (Kd.R_reads' HO_11.out).2.1); (case side3 => repeat (first | exact (Kd.R_reads' HO208.out).2.2 | (with_reducible refine Kd.C_alloc ?_ _) | (with_reducible refine Kd.C_drewN ?_ _) | (with_reducible refine Kd.C_drew ?_))); (case side4 => exact (Kd.R_reads' HO208.out).2.1); rintro e w' ⟨rfl, ⟨nd, rfl⟩⟩; refine ⟨_, rfl, ?_⟩))
     (try simp only [Act.put, sa_, s0_, ss_])
     go_cut [] (fun wc => ∃ (kq : Nat), Aside0 (laws_FnExactViewSpot.j1 kq l1_0 a1_1 a1_2 t196 t199 t200 = some r) ∧ Aside0 (kq ≤ kj18) ∧ Aside0 (Kd.R (Kd.int .i64) 2 wc w.heap.size (fun _ => True) (.slice Ao38 t196.length co38) t196) ∧ Aside0 (wc.heap[gb180]? = some (.cells #[(.slice A1_0 l1_0.length c1_0), .int .i64 a1_1, .int .i64 a1_2] 24 (0, 0))) ∧ Aside0 (wc.heap[gb192]? = some (.cells #[.int .i64 t190, .int .i64 t191] 45 (0, 0))) ∧ Aside0 (wc.heap[gb201]? = some (.cells #[(.slice Ao38 t196.length co38), .int .i64 t199, .int .i64 t200] 33 (0, 0))) ∧ Aside0 (wc.heap[gb204]? = some (.cells #[.int .i64 t202, .int .i64 t203] 45 (0, 0))) ∧ Aside0 (Below w.heap.size w wc))
     case first =>
      have H := HC54.out
      clear HC54
      by_cases c57 : t209 = true
      ·subst c57
       have H1 : (laws_FnExactViewSpot.j1 kj18 l1_0 a1_1 a1_2 t196 t199 t200) = some r := by rw [if_pos rfl] at H; exact H
       clear H
       have H := H1
       clear H1
       have H' := Aside0.mk H
       clear H
       go_wp2
       go_meet
       case rel => exact ⟨_, H', ⟨by have := HJ18.out; first | omega | exact Nat.le_refl _⟩, ⟨kr (Kd.R_mono HO_202000.out (fun _ hk => trivial))⟩, ⟨pk BK180.out⟩, ⟨pk BK192.out⟩, ⟨pk BK201.out⟩, ⟨pk BK204.out⟩, ⟨by repeat (first | (with_reducible first | exact HB.out | apply below_alloc | apply pw_below_drewN | apply below_drew1 | refine below_set ?_ GE180.out | refine below_set ?_ GE192.out | refine below_set ?_ GE201.out | refine below_set ?_ GE204.out) | exact HB.out)⟩⟩
      ·replace c57 := Bool.eq_false_iff.mpr c57
       subst c57
       have H1 : (some false) = some r := by rw [if_neg (show ¬ (false = true) by decide)] at H; exact H
       clear H
       have H := H1
       clear H1
       obtain rfl := Option.some.inj H
       go_wp2
       go_ret
       exact ⟨by first | rfl | (simp [errW_none, errW_some] <;> rfl) | (simp [*, errW_none, errW_some] <;> rfl), by repeat (first | (with_reducible first | exact HB.out | apply below_alloc | apply pw_below_drewN | apply below_drew1 | refine below_set ?_ GE180.out | refine below_set ?_ GE192.out | refine below_set ?_ GE201.out | refine below_set ?_ GE204.out) | exact HB.out)⟩
     case rest =>
      clear HC54
      try clear c1
      try clear c2
      try clear p2
      try clear c3
      try clear c4
      try clear c5
      try clear c9
      try clear c11
      try clear c12
      try clear c15
      try clear c23
      try clear c24
      try clear c25
      try clear c34
      try clear c39
      try clear c40
      try clear c45
      try clear c46
      try clear c47
      try clear c51
      try clear c57
      try clear hcz21_0
      try clear hcz21_1
      try clear hcz21_2
      try clear hcz35_0
      try clear hcz35_1
      try clear hcz35_2
      try clear hcz41_0
      try clear hcz41_1
      try clear hcz41_2
      try clear hcz48_0
      try clear hcz48_1
      try clear hcz49_0
      try clear hcz49_1
      try clear hfz21_0
      try clear hfz21_1
      try clear hfz21_2
      try clear hfz35_0
      try clear hfz35_1
      try clear hfz35_2
      try clear hfz41_0
      try clear hfz41_1
      try clear hfz41_2
      try clear hfz48_0
      try clear hfz48_1
      try clear hfz49_0
      try clear hfz49_1
      try clear p2
      obtain ⟨kq, HA, HJ53, HO_202000, BK180, BK192, BK201, BK204, HB⟩ := hcut
      cases kq with
      | zero => exact absurd HA.out (by simp [laws_FnExactViewSpot.j1])
      | succ kj53 =>
       have H := HA.out
       clear HA
       simp only [laws_FnExactViewSpot.j1] at H
       replace H := Option.bind_eq_some_iff.mp H
       obtain ⟨⟨t210, t213, t214⟩, A580, H⟩ := H
       replace H : ((laws_eqBuf.f kj53 t196 t199 t200 t210 t213 t214).bind fun t215 => (if t215 = true then (some true) else (some false))) = some r := H
       have A58 := Aside0.mk A580
       clear A580
       replace H := Option.bind_eq_some_iff.mp H
       obtain ⟨t215, A590, H⟩ := H
       replace H : (if t215 = true then (some true) else (some false)) = some r := H
       have A59 := Aside0.mk A590
       clear A590
       by_cases c60 : t215 = true
       ·subst c60
        have H1 : (some true) = some r := by rw [if_pos rfl] at H; exact H
        clear H
        have H := H1
        clear H1
        obtain rfl := Option.some.inj H
        try go_wp2
        replace HO_202000 := am (Kd.R_drew HO_202000.out)
        replace BK180 := am (blk_drew BK180.out)
        replace BK192 := am (blk_drew BK192.out)
        replace BK201 := am (blk_drew BK201.out)
        replace BK204 := am (blk_drew BK204.out)
        replace HB := am (below_drew1 HB.out)
        refine start_ (n := 5) (S := fun w' => w'.cell? ⟨gb201, 0, none⟩ = some (.slice Ao38 t196.length co38) ∧ w'.cell? ⟨gb201, 1, none⟩ = some (.int .i64 t199) ∧ w'.cell? ⟨gb201, 2, none⟩ = some (.int .i64 t200) ∧ w'.cell? ⟨gb180, 0, none⟩ = some (.slice A1_0 l1_0.length c1_0) ∧ w'.cell? ⟨gb180, 1, none⟩ = some (.int .i64 a1_1) ∧ w'.cell? ⟨gb180, 2, none⟩ = some (.int .i64 a1_2)) (ds := []) #[false, false, false, false, false] (by kernel_rfl) rfl rfl ⟨bc BK201.out 0, bc BK201.out 1, bc BK201.out 2, bc BK180.out 0, bc BK180.out 1, bc BK180.out 2⟩ (fun hHeld => ?_)
        generalize wc.drew = w61 at HO_202000 BK180 BK192 BK201 BK204 HB hHeld ⊢
        refine take_ (i := 0) (N := some 47) (v := ?_) (a' := ?_) #[true, false, false, false, false] rfl rfl (by kernel_rfl) (fun _ _ _ h => h) (Or.inl ⟨by rfl, ?_⟩) hHeld ?_ ?_; rotate_left
        ·rintro w' ⟨s0, s1, s2, s3, s4, s5⟩; go_simp; with_reducible rfl
        rotate_left
        ·simp only [Act.put, sa_, s0_, ss_, i64_w, i32_w]; rfl
        refine take_ (i := 1) (N := some 48) (v := ?_) (a' := ?_) #[true, true, false, false, false] rfl rfl (by kernel_rfl) (fun _ _ _ h => h) (Or.inl ⟨by rfl, ?_⟩) hHeld ?_ ?_; rotate_left
        ·rintro w' ⟨s0, s1, s2, s3, s4, s5⟩; go_simp; with_reducible rfl
        rotate_left
        ·simp only [Act.put, sa_, s0_, ss_, i64_w, i32_w]; rfl
        refine one_ (i := 2) (N := some 49) #[true, true, true, false, false] rfl rfl (by kernel_rfl) (by decide) (fun K hK => ?_)
        refine gs_ Try.func12 #[.agg #[.slice A1_0 l1_0.length c1_0, .int .i64 a1_1, .int .i64 a1_2]] ?_
        with_reducible refine (laws_toBuf.calls kj53 _ _ l1_0 a1_1 a1_2 t210 t213 t214 _ ?side1 ?side2 A58.out).mono ?_
        (case side1 => repeat (first | exact (Kd.C_below HR1_0.out HB.out) | (with_reducible refine Kd.C_alloc ?_ _) | (with_reducible refine Kd.C_drewN ?_ _) | (with_reducible refine Kd.C_drew ?_)))
        (case side2 => exact HC1_0.out)
        rintro e w62 ⟨v211, rfl, ho0, hb⟩
        refine ⟨_, rfl, ?_⟩
        have HO212 := am (Kd.R_lower (Kd.R_new' ho0 (Kd.R_lt (kr HO_202000.out))) (below_size (bl HB.out)))
        replace HO_202000 := am (Kd.R_elder' (kr HO_202000.out) (Kd.R_base ho0) hb)
        replace BK180 := am (blk_below (pk BK180.out) hb)
        replace BK192 := am (blk_below (pk BK192.out) hb)
        replace BK201 := am (blk_below (pk BK201.out) hb)
        replace BK204 := am (blk_below (pk BK204.out) hb)
        replace HB := am (below_step (bl HB.out) hb)
        (try clear hb)
        (try clear hb2)
        (try clear hk)
        (try clear hi)
        (try clear ho0)
        obtain ⟨Ao63, co63, eo63⟩ := Kd.R_slice HO212.out
        (first | subst eo63 | (injection eo63 with f1_ f2_ f3_; have f4_ := f1_.symm; have f5_ := f3_.symm; clear f1_ f2_ f3_; subst f4_; subst f5_))
        refine hK.out _ _ ⟨bc BK201.out 0, bc BK201.out 1, bc BK201.out 2, bc BK180.out 0, bc BK180.out 1, bc BK180.out 2⟩ (fun hHeld => ?_)
        clear hK K
        refine norm_ (a' := ?_) ?_ ?_
        rotate_left
        ·show Act.put _ (some 49) _ = _
         simp only [Act.put, sa_, s0_, ss_, i64_w, i32_w]
         rfl
        refine one_ (i := 3) (N := some 50) #[true, true, true, true, false] rfl rfl (by kernel_rfl) (by decide) (fun K hK => ?_)
        refine gs_ Try.func16 #[.agg #[.slice Ao38 t196.length co38, .int .i64 t199, .int .i64 t200], .agg #[.slice Ao63 t210.length co63, .int .i64 t213, .int .i64 t214]] ?_
        with_reducible refine (laws_eqBuf.calls kj53 _ _ t196 t199 t200 _ _ t210 t213 t214 true _ ?side1 ?side2 ?side3 ?side4 A59.out).mono ?_
        (case side1 => repeat (first | exact (Kd.R_reads' HO_202000.out).2.2 | (with_reducible refine Kd.C_alloc ?_ _) | (with_reducible refine Kd.C_drewN ?_ _) | (with_reducible refine Kd.C_drew ?_)))
        (case side2 => exact (Kd.R_reads' HO_202000.out).2.1)
        (case side3 => repeat (first | exact (Kd.R_reads' HO212.out).2.2 | (with_reducible refine Kd.C_alloc ?_ _) | (with_reducible refine Kd.C_drewN ?_ _) | (with_reducible refine Kd.C_drew ?_)))
        (case side4 => exact (Kd.R_reads' HO212.out).2.1)
        rintro e w64 ⟨rfl, hb⟩
        refine ⟨_, rfl, ?_⟩
        replace HO_202000 := am (Kd.R_below (kr HO_202000.out) hb)
        replace HO212 := am (Kd.R_below (kr HO212.out) hb)
        replace BK180 := am (blk_below (pk BK180.out) hb)
        replace BK192 := am (blk_below (pk BK192.out) hb)
        replace BK201 := am (blk_below (pk BK201.out) hb)
        replace BK204 := am (blk_below (pk BK204.out) hb)
        replace HB := am (below_step (bl HB.out) hb)
        (try clear hb)
        (try clear hb2)
        (try clear hk)
        (try clear hi)
        refine hK.out _ _ ⟨bc BK201.out 0, bc BK201.out 1, bc BK201.out 2, bc BK180.out 0, bc BK180.out 1, bc BK180.out 2⟩ (fun hHeld => ?_)
        clear hK K
        refine norm_ (a' := ?_) ?_ ?_
        rotate_left
        ·show Act.put _ (some 50) _ = _
         simp only [Act.put, sa_, s0_, ss_, i64_w, i32_w]
         rfl
        refine pure_ (i := 4) (N := some 51) (v := ?_) (a' := ?_) #[true, true, true, true, true] rfl rfl (by kernel_rfl) (fun _ _ _ h => h) (Or.inl ⟨by rfl, ?_⟩) ?_ ?_; rotate_left
        ·intro w'; go_simp; with_reducible rfl
        rotate_left
        ·simp only [Act.put, sa_, s0_, ss_, i64_w, i32_w]; rfl
        refine done_ (by kernel_rfl) ?_
        try go_wp2
        go_ret
        exact ⟨by first | rfl | (simp [errW_none, errW_some] <;> rfl) | (simp [*, errW_none, errW_some] <;> rfl), by repeat (first | (with_reducible first | exact HB.out | apply below_alloc | apply pw_below_drewN | apply below_drew1 | refine below_set ?_ GE180.out | refine below_set ?_ GE192.out | refine below_set ?_ GE201.out | refine below_set ?_ GE204.out) | exact HB.out)⟩
       ·replace c60 := Bool.eq_false_iff.mpr c60
        subst c60
        have H1 : (some false) = some r := by rw [if_neg (show ¬ (false = true) by decide)] at H; exact H
        clear H
        have H := H1
        clear H1
        obtain rfl := Option.some.inj H
        try go_wp2
        replace HO_202000 := am (Kd.R_drew HO_202000.out)
        replace BK180 := am (blk_drew BK180.out)
        replace BK192 := am (blk_drew BK192.out)
        replace BK201 := am (blk_drew BK201.out)
        replace BK204 := am (blk_drew BK204.out)
        replace HB := am (below_drew1 HB.out)
        refine start_ (n := 5) (S := fun w' => w'.cell? ⟨gb201, 0, none⟩ = some (.slice Ao38 t196.length co38) ∧ w'.cell? ⟨gb201, 1, none⟩ = some (.int .i64 t199) ∧ w'.cell? ⟨gb201, 2, none⟩ = some (.int .i64 t200) ∧ w'.cell? ⟨gb180, 0, none⟩ = some (.slice A1_0 l1_0.length c1_0) ∧ w'.cell? ⟨gb180, 1, none⟩ = some (.int .i64 a1_1) ∧ w'.cell? ⟨gb180, 2, none⟩ = some (.int .i64 a1_2)) (ds := []) #[false, false, false, false, false] (by kernel_rfl) rfl rfl ⟨bc BK201.out 0, bc BK201.out 1, bc BK201.out 2, bc BK180.out 0, bc BK180.out 1, bc BK180.out 2⟩ (fun hHeld => ?_)
        generalize wc.drew = w65 at HO_202000 BK180 BK192 BK201 BK204 HB hHeld ⊢
        refine take_ (i := 0) (N := some 47) (v := ?_) (a' := ?_) #[true, false, false, false, false] rfl rfl (by kernel_rfl) (fun _ _ _ h => h) (Or.inl ⟨by rfl, ?_⟩) hHeld ?_ ?_; rotate_left
        ·rintro w' ⟨s0, s1, s2, s3, s4, s5⟩; go_simp; with_reducible rfl
        rotate_left
        ·simp only [Act.put, sa_, s0_, ss_, i64_w, i32_w]; rfl
        refine take_ (i := 1) (N := some 48) (v := ?_) (a' := ?_) #[true, true, false, false, false] rfl rfl (by kernel_rfl) (fun _ _ _ h => h) (Or.inl ⟨by rfl, ?_⟩) hHeld ?_ ?_; rotate_left
        ·rintro w' ⟨s0, s1, s2, s3, s4, s5⟩; go_simp; with_reducible rfl
        rotate_left
        ·simp only [Act.put, sa_, s0_, ss_, i64_w, i32_w]; rfl
        refine one_ (i := 2) (N := some 49) #[true, true, true, false, false] rfl rfl (by kernel_rfl) (by decide) (fun K hK => ?_)
        refine gs_ Try.func12 #[.agg #[.slice A1_0 l1_0.length c1_0, .int .i64 a1_1, .int .i64 a1_2]] ?_
        with_reducible refine (laws_toBuf.calls kj53 _ _ l1_0 a1_1 a1_2 t210 t213 t214 _ ?side1 ?side2 A58.out).mono ?_
        (case side1 => repeat (first | exact (Kd.C_below HR1_0.out HB.out) | (with_reducible refine Kd.C_alloc ?_ _) | (with_reducible refine Kd.C_drewN ?_ _) | (with_reducible refine Kd.C_drew ?_)))
        (case side2 => exact HC1_0.out)
        rintro e w66 ⟨v211, rfl, ho0, hb⟩
        refine ⟨_, rfl, ?_⟩
        have HO212 := am (Kd.R_lower (Kd.R_new' ho0 (Kd.R_lt (kr HO_202000.out))) (below_size (bl HB.out)))
        replace HO_202000 := am (Kd.R_elder' (kr HO_202000.out) (Kd.R_base ho0) hb)
        replace BK180 := am (blk_below (pk BK180.out) hb)
        replace BK192 := am (blk_below (pk BK192.out) hb)
        replace BK201 := am (blk_below (pk BK201.out) hb)
        replace BK204 := am (blk_below (pk BK204.out) hb)
        replace HB := am (below_step (bl HB.out) hb)
        (try clear hb)
        (try clear hb2)
        (try clear hk)
        (try clear hi)
        (try clear ho0)
        obtain ⟨Ao67, co67, eo67⟩ := Kd.R_slice HO212.out
        (first | subst eo67 | (injection eo67 with f1_ f2_ f3_; have f4_ := f1_.symm; have f5_ := f3_.symm; clear f1_ f2_ f3_; subst f4_; subst f5_))
        refine hK.out _ _ ⟨bc BK201.out 0, bc BK201.out 1, bc BK201.out 2, bc BK180.out 0, bc BK180.out 1, bc BK180.out 2⟩ (fun hHeld => ?_)
        clear hK K
        refine norm_ (a' := ?_) ?_ ?_
        rotate_left
        ·show Act.put _ (some 49) _ = _
         simp only [Act.put, sa_, s0_, ss_, i64_w, i32_w]
         rfl
        refine one_ (i := 3) (N := some 50) #[true, true, true, true, false] rfl rfl (by kernel_rfl) (by decide) (fun K hK => ?_)
        refine gs_ Try.func16 #[.agg #[.slice Ao38 t196.length co38, .int .i64 t199, .int .i64 t200], .agg #[.slice Ao67 t210.length co67, .int .i64 t213, .int .i64 t214]] ?_
        with_reducible refine (laws_eqBuf.calls kj53 _ _ t196 t199 t200 _ _ t210 t213 t214 false _ ?side1 ?side2 ?side3 ?side4 A59.out).mono ?_
        (case side1 => repeat (first | exact (Kd.R_reads' HO_202000.out).2.2 | (with_reducible refine Kd.C_alloc ?_ _) | (with_reducible refine Kd.C_drewN ?_ _) | (with_reducible refine Kd.C_drew ?_)))
        (case side2 => exact (Kd.R_reads' HO_202000.out).2.1)
        (case side3 => repeat (first | exact (Kd.R_reads' HO212.out).2.2 | (with_reducible refine Kd.C_alloc ?_ _) | (with_reducible refine Kd.C_drewN ?_ _) | (with_reducible refine Kd.C_drew ?_)))
        (case side4 => exact (Kd.R_reads' HO212.out).2.1)
        rintro e w68 ⟨rfl, hb⟩
        refine ⟨_, rfl, ?_⟩
        replace HO_202000 := am (Kd.R_below (kr HO_202000.out) hb)
        replace HO212 := am (Kd.R_below (kr HO212.out) hb)
        replace BK180 := am (blk_below (pk BK180.out) hb)
        replace BK192 := am (blk_below (pk BK192.out) hb)
        replace BK201 := am (blk_below (pk BK201.out) hb)
        replace BK204 := am (blk_below (pk BK204.out) hb)
        replace HB := am (below_step (bl HB.out) hb)
        (try clear hb)
        (try clear hb2)
        (try clear hk)
        (try clear hi)
        refine hK.out _ _ ⟨bc BK201.out 0, bc BK201.out 1, bc BK201.out 2, bc BK180.out 0, bc BK180.out 1, bc BK180.out 2⟩ (fun hHeld => ?_)
        clear hK K
        refine norm_ (a' := ?_) ?_ ?_
        rotate_left
        ·show Act.put _ (some 50) _ = _
         simp only [Act.put, sa_, s0_, ss_, i64_w, i32_w]
         rfl
        refine pure_ (i := 4) (N := some 51) (v := ?_) (a' := ?_) #[true, true, true, true, true] rfl rfl (by kernel_rfl) (fun _ _ _ h => h) (Or.inl ⟨by rfl, ?_⟩) ?_ ?_; rotate_left
        ·intro w'; go_simp; with_reducible rfl
        rotate_left
        ·simp only [Act.put, sa_, s0_, ss_, i64_w, i32_w]; rfl
        refine done_ (by kernel_rfl) ?_
        try go_wp2
        go_ret
        exact ⟨by first | rfl | (simp [errW_none, errW_some] <;> rfl) | (simp [*, errW_none, errW_some] <;> rfl), by repeat (first | (with_reducible first | exact HB.out | apply below_alloc | apply pw_below_drewN | apply below_drew1 | refine below_set ?_ GE180.out | refine below_set ?_ GE192.out | refine below_set ?_ GE201.out | refine below_set ?_ GE204.out) | exact HB.out)⟩

/-- THE ONE PURE STATEMENT of laws_FnExactViewSpot. -/
def laws_FnExactViewSpot.Pure : Prop := ∀ (l0 : List Int) (l1_0 : List Int) (a1_1 : Int) (a1_2 : Int) (a2 : Int) (a3 : Int), (l0.length ≤ maxLen ∧ ∀ y0_ ∈ l0, (Lit.int .i64 y0_).wf = true) → ((l1_0.length ≤ maxLen ∧ ∀ y1_ ∈ l1_0, (Lit.int .i64 y1_).wf = true) ∧ (Lit.int .i64 a1_1).wf = true ∧ (Lit.int .i64 a1_2).wf = true) → (Lit.int .i64 a2).wf = true → (Lit.int .i64 a3).wf = true → ∃ k, laws_FnExactViewSpot.f k l0 l1_0 a1_1 a1_2 a2 a3 = some true

end Go.Proofs.Ytcjclihkaaaihaa.PFnExactViewSpot
