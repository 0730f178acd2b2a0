-- Written by xprint.py (this claim's own program, over the kit's printer); Lean checks it.
import Derived.Test.YtcjclihkaaaihaaPFnExactNodesVarsx0
import Derived.Test.YtcjclihkaaaihaaPFnExactNodesVarsx1
import Derived.Test.YtcjclihkaaaihaaPFnExactNodesVarsx5
import Derived.Test.YtcjclihkaaaihaaPFnExactNodesVarsx8
import Derived.Test.YtcjclihkaaaihaaPFnExactNodesVarsx9
namespace Go.Proofs.Ytcjclihkaaaihaa.PFnExactNodesVars
open Go.RowKit Go.Proofs.YtcjclihkaaaihaaW.PrintWords Go.Proofs.YtcjclihkaaaihaaW.PrintLast Go.Proofs.YtcjclihkaaaihaaW.PrintMore
attribute [local go_sem] max2_int min2_int max_two min_two max_three min_three max_four min_four   -- for this text's walks alone
set_option linter.unusedVariables false
set_option linter.unusedSimpArgs false   -- squeezed

/-! ### laws_FnExactNodesVars: function 8 -/
mutual
def laws_FnExactNodesVars.j0 : Nat → List (S93) → List ByteArray → List (S95) → List ByteArray → Option (Bool)
 | 0, _, _, _, _ => none
 | k + 1, x0, x4, x5, x6 => (laws_toNodeS.f k x0).bind fun t231 => ((laws_eqNodeS.f k x5 t231).bind fun t234 => (if t234 = true then (laws_FnExactNodesVars.j1 k x0 x4 x5 x6) else (some false)))
def laws_FnExactNodesVars.j1 : Nat → List (S93) → List ByteArray → List (S95) → List ByteArray → Option (Bool)
 | 0, _, _, _, _ => none
 | k + 1, x0, x4, x5, x6 => (laws_markNodeS.f k x5 1).bind fun bt235 => (if bt235.1 < 0 then (laws_FnExactNodesVars.j2 k x0 x4 x6 true) else ((laws_eqStringS.f k x6 x4).bind fun t237 => (laws_FnExactNodesVars.j2 k x0 x4 x6 (!t237))))
def laws_FnExactNodesVars.j2 : Nat → List (S93) → List ByteArray → List ByteArray → Bool → Option (Bool)
 | 0, _, _, _, _ => none
 | k + 1, x0, x4, x6, x42 => if x42 = true then (some false) else (laws_FnExactNodesVars.j3 k x0 x4 x6)
def laws_FnExactNodesVars.j3 : Nat → List (S93) → List ByteArray → List ByteArray → Option (Bool)
 | 0, _, _, _ => none
 | k + 1, x0, x4, x6 => (laws_markStringS.f k x6 1).bind fun bt238 => ((laws_heldStringS.f k bt238.2 1).bind fun t240 => (if t240 < 0 then (some false) else (laws_FnExactNodesVars.j4 k x0 x4 bt238.2 bt238.1 t240)))
def laws_FnExactNodesVars.j4 : Nat → List (S93) → List ByteArray → List ByteArray → Int → Int → Option (Bool)
 | 0, _, _, _, _, _ => none
 | k + 1, x0, x4, x6, x8, x9 => if x9 = x8 then ((laws_toNodeS.f k x0).bind fun t241 => ((impl_NodesVars.f k t241).bind fun t244 => ((laws_eqStringS.f k t244 x4).bind fun t247 => (if t247 = true then (laws_FnExactNodesVars.j5 k x6 x8) else (some false))))) else (some false)
def laws_FnExactNodesVars.j5 : Nat → List ByteArray → Int → Option (Bool)
 | 0, _, _ => none
 | k + 1, x6, x8 => (laws_heldStringS.f k x6 1).bind fun t248 => (if t248 < 0 then (some false) else (if t248 = x8 then (some true) else (some false)))
end
def laws_FnExactNodesVars.f (k : Nat) (l0 : List (S93)) : Option (Bool) := (laws_szNodeS.f k l0 1048576).bind fun t217 => (if t217 < 0 then (some true) else ((laws_toNodeS.f k l0).bind fun t218 => ((spec_NodesVars.f k t218).bind fun t221 => ((laws_toNodeS.f k l0).bind fun t224 => ((impl_NodesVars.f k t224).bind fun t227 => ((laws_eqStringS.f k t227 t221).bind fun t230 => (if t230 = true then (laws_FnExactNodesVars.j0 k l0 t221 t224 t227) else (some false))))))))
theorem laws_FnExactNodesVars.mono_l : ∀ k, (∀ y0 y1 y2 y3, LeO (laws_FnExactNodesVars.j0 k y0 y1 y2 y3) (laws_FnExactNodesVars.j0 (k + 1) y0 y1 y2 y3)) ∧ (∀ y0 y1 y2 y3, LeO (laws_FnExactNodesVars.j1 k y0 y1 y2 y3) (laws_FnExactNodesVars.j1 (k + 1) y0 y1 y2 y3)) ∧ (∀ y0 y1 y2 y3, LeO (laws_FnExactNodesVars.j2 k y0 y1 y2 y3) (laws_FnExactNodesVars.j2 (k + 1) y0 y1 y2 y3)) ∧ (∀ y0 y1 y2, LeO (laws_FnExactNodesVars.j3 k y0 y1 y2) (laws_FnExactNodesVars.j3 (k + 1) y0 y1 y2)) ∧ (∀ y0 y1 y2 y3 y4, LeO (laws_FnExactNodesVars.j4 k y0 y1 y2 y3 y4) (laws_FnExactNodesVars.j4 (k + 1) y0 y1 y2 y3 y4)) ∧ (∀ y0 y1, LeO (laws_FnExactNodesVars.j5 k y0 y1) (laws_FnExactNodesVars.j5 (k + 1) y0 y1))
 | 0 => ⟨fun _ _ _ _ r h => by simp [laws_FnExactNodesVars.j0] at h, fun _ _ _ _ r h => by simp [laws_FnExactNodesVars.j1] at h, fun _ _ _ _ r h => by simp [laws_FnExactNodesVars.j2] at h, fun _ _ _ r h => by simp [laws_FnExactNodesVars.j3] at h, fun _ _ _ _ _ r h => by simp [laws_FnExactNodesVars.j4] at h, fun _ _ r h => by simp [laws_FnExactNodesVars.j5] at h⟩
 | k + 1 => by
  obtain ⟨ih0, ih1, ih2, ih3, ih4, ih5⟩ := laws_FnExactNodesVars.mono_l k
  refine ⟨?_, ?_, ?_, ?_, ?_, ?_⟩
  ·intro y0 y1 y2 y3
   unfold laws_FnExactNodesVars.j0
   repeat' first
   | (with_reducible exact ih0 _ _ _ _)
   | (with_reducible exact ih1 _ _ _ _)
   | (with_reducible exact ih2 _ _ _ _)
   | (with_reducible exact ih3 _ _ _)
   | (with_reducible exact ih4 _ _ _ _ _)
   | (with_reducible exact ih5 _ _)
   | (with_reducible exact impl_NodesVars.mono _ _)
   | (with_reducible exact laws_eqNodeS.mono _ _ _)
   | (with_reducible exact laws_eqStringS.mono _ _ _)
   | (with_reducible exact laws_heldStringS.mono _ _ _)
   | (with_reducible exact laws_markNodeS.mono _ _ _)
   | (with_reducible exact laws_markStringS.mono _ _ _)
   | (with_reducible exact laws_szNodeS.mono _ _ _)
   | (with_reducible exact laws_toNodeS.mono _ _)
   | (with_reducible exact spec_NodesVars.mono _ _)
   | (with_reducible exact LeO.refl _)
   | (with_reducible exact LeO.none _)
   | (with_reducible refine LeO.ite ?_ ?_)
   | (with_reducible refine LeO.bind ?_ (fun _ => ?_))
   | exact ih0 _ _ _ _
   | exact ih1 _ _ _ _
   | exact ih2 _ _ _ _
   | exact ih3 _ _ _
   | exact ih4 _ _ _ _ _
   | exact ih5 _ _
   | exact impl_NodesVars.mono _ _
   | exact laws_eqNodeS.mono _ _ _
   | exact laws_eqStringS.mono _ _ _
   | exact laws_heldStringS.mono _ _ _
   | exact laws_markNodeS.mono _ _ _
   | exact laws_markStringS.mono _ _ _
   | exact laws_szNodeS.mono _ _ _
   | exact laws_toNodeS.mono _ _
   | exact spec_NodesVars.mono _ _
   | refine LeO.bind ?_ (fun _ => ?_)
  ·intro y0 y1 y2 y3
   unfold laws_FnExactNodesVars.j1
   repeat' first
   | (with_reducible exact ih0 _ _ _ _)
   | (with_reducible exact ih1 _ _ _ _)
   | (with_reducible exact ih2 _ _ _ _)
   | (with_reducible exact ih3 _ _ _)
   | (with_reducible exact ih4 _ _ _ _ _)
   | (with_reducible exact ih5 _ _)
   | (with_reducible exact impl_NodesVars.mono _ _)
   | (with_reducible exact laws_eqNodeS.mono _ _ _)
   | (with_reducible exact laws_eqStringS.mono _ _ _)
   | (with_reducible exact laws_heldStringS.mono _ _ _)
   | (with_reducible exact laws_markNodeS.mono _ _ _)
   | (with_reducible exact laws_markStringS.mono _ _ _)
   | (with_reducible exact laws_szNodeS.mono _ _ _)
   | (with_reducible exact laws_toNodeS.mono _ _)
   | (with_reducible exact spec_NodesVars.mono _ _)
   | (with_reducible exact LeO.refl _)
   | (with_reducible exact LeO.none _)
   | (with_reducible refine LeO.ite ?_ ?_)
   | (with_reducible refine LeO.bind ?_ (fun _ => ?_))
   | exact ih0 _ _ _ _
   | exact ih1 _ _ _ _
   | exact ih2 _ _ _ _
   | exact ih3 _ _ _
   | exact ih4 _ _ _ _ _
   | exact ih5 _ _
   | exact impl_NodesVars.mono _ _
   | exact laws_eqNodeS.mono _ _ _
   | exact laws_eqStringS.mono _ _ _
   | exact laws_heldStringS.mono _ _ _
   | exact laws_markNodeS.mono _ _ _
   | exact laws_markStringS.mono _ _ _
   | exact laws_szNodeS.mono _ _ _
   | exact laws_toNodeS.mono _ _
   | exact spec_NodesVars.mono _ _
   | refine LeO.bind ?_ (fun _ => ?_)
  ·intro y0 y1 y2 y3
   unfold laws_FnExactNodesVars.j2
   repeat' first
   | (with_reducible exact ih0 _ _ _ _)
   | (with_reducible exact ih1 _ _ _ _)
   | (with_reducible exact ih2 _ _ _ _)
   | (with_reducible exact ih3 _ _ _)
   | (with_reducible exact ih4 _ _ _ _ _)
   | (with_reducible exact ih5 _ _)
   | (with_reducible exact impl_NodesVars.mono _ _)
   | (with_reducible exact laws_eqNodeS.mono _ _ _)
   | (with_reducible exact laws_eqStringS.mono _ _ _)
   | (with_reducible exact laws_heldStringS.mono _ _ _)
   | (with_reducible exact laws_markNodeS.mono _ _ _)
   | (with_reducible exact laws_markStringS.mono _ _ _)
   | (with_reducible exact laws_szNodeS.mono _ _ _)
   | (with_reducible exact laws_toNodeS.mono _ _)
   | (with_reducible exact spec_NodesVars.mono _ _)
   | (with_reducible exact LeO.refl _)
   | (with_reducible exact LeO.none _)
   | (with_reducible refine LeO.ite ?_ ?_)
   | (with_reducible refine LeO.bind ?_ (fun _ => ?_))
   | exact ih0 _ _ _ _
   | exact ih1 _ _ _ _
   | exact ih2 _ _ _ _
   | exact ih3 _ _ _
   | exact ih4 _ _ _ _ _
   | exact ih5 _ _
   | exact impl_NodesVars.mono _ _
   | exact laws_eqNodeS.mono _ _ _
   | exact laws_eqStringS.mono _ _ _
   | exact laws_heldStringS.mono _ _ _
   | exact laws_markNodeS.mono _ _ _
   | exact laws_markStringS.mono _ _ _
   | exact laws_szNodeS.mono _ _ _
   | exact laws_toNodeS.mono _ _
   | exact spec_NodesVars.mono _ _
   | refine LeO.bind ?_ (fun _ => ?_)
  ·intro y0 y1 y2
   unfold laws_FnExactNodesVars.j3
   repeat' first
   | (with_reducible exact ih0 _ _ _ _)
   | (with_reducible exact ih1 _ _ _ _)
   | (with_reducible exact ih2 _ _ _ _)
   | (with_reducible exact ih3 _ _ _)
   | (with_reducible exact ih4 _ _ _ _ _)
   | (with_reducible exact ih5 _ _)
   | (with_reducible exact impl_NodesVars.mono _ _)
   | (with_reducible exact laws_eqNodeS.mono _ _ _)
   | (with_reducible exact laws_eqStringS.mono _ _ _)
   | (with_reducible exact laws_heldStringS.mono _ _ _)
   | (with_reducible exact laws_markNodeS.mono _ _ _)
   | (with_reducible exact laws_markStringS.mono _ _ _)
   | (with_reducible exact laws_szNodeS.mono _ _ _)
   | (with_reducible exact laws_toNodeS.mono _ _)
   | (with_reducible exact spec_NodesVars.mono _ _)
   | (with_reducible exact LeO.refl _)
   | (with_reducible exact LeO.none _)
   | (with_reducible refine LeO.ite ?_ ?_)
   | (with_reducible refine LeO.bind ?_ (fun _ => ?_))
   | exact ih0 _ _ _ _
   | exact ih1 _ _ _ _
   | exact ih2 _ _ _ _
   | exact ih3 _ _ _
   | exact ih4 _ _ _ _ _
   | exact ih5 _ _
   | exact impl_NodesVars.mono _ _
   | exact laws_eqNodeS.mono _ _ _
   | exact laws_eqStringS.mono _ _ _
   | exact laws_heldStringS.mono _ _ _
   | exact laws_markNodeS.mono _ _ _
   | exact laws_markStringS.mono _ _ _
   | exact laws_szNodeS.mono _ _ _
   | exact laws_toNodeS.mono _ _
   | exact spec_NodesVars.mono _ _
   | refine LeO.bind ?_ (fun _ => ?_)
  ·intro y0 y1 y2 y3 y4
   unfold laws_FnExactNodesVars.j4
   repeat' first
   | (with_reducible exact ih0 _ _ _ _)
   | (with_reducible exact ih1 _ _ _ _)
   | (with_reducible exact ih2 _ _ _ _)
   | (with_reducible exact ih3 _ _ _)
   | (with_reducible exact ih4 _ _ _ _ _)
   | (with_reducible exact ih5 _ _)
   | (with_reducible exact impl_NodesVars.mono _ _)
   | (with_reducible exact laws_eqNodeS.mono _ _ _)
   | (with_reducible exact laws_eqStringS.mono _ _ _)
   | (with_reducible exact laws_heldStringS.mono _ _ _)
   | (with_reducible exact laws_markNodeS.mono _ _ _)
   | (with_reducible exact laws_markStringS.mono _ _ _)
   | (with_reducible exact laws_szNodeS.mono _ _ _)
   | (with_reducible exact laws_toNodeS.mono _ _)
   | (with_reducible exact spec_NodesVars.mono _ _)
   | (with_reducible exact LeO.refl _)
   | (with_reducible exact LeO.none _)
   | (with_reducible refine LeO.ite ?_ ?_)
   | (with_reducible refine LeO.bind ?_ (fun _ => ?_))
   | exact ih0 _ _ _ _
   | exact ih1 _ _ _ _
   | exact ih2 _ _ _ _
   | exact ih3 _ _ _
   | exact ih4 _ _ _ _ _
   | exact ih5 _ _
   | exact impl_NodesVars.mono _ _
   | exact laws_eqNodeS.mono _ _ _
   | exact laws_eqStringS.mono _ _ _
   | exact laws_heldStringS.mono _ _ _
   | exact laws_markNodeS.mono _ _ _
   | exact laws_markStringS.mono _ _ _
   | exact laws_szNodeS.mono _ _ _
   | exact laws_toNodeS.mono _ _
   | exact spec_NodesVars.mono _ _
   | refine LeO.bind ?_ (fun _ => ?_)
  ·intro y0 y1
   unfold laws_FnExactNodesVars.j5
   repeat' first
   | (with_reducible exact ih0 _ _ _ _)
   | (with_reducible exact ih1 _ _ _ _)
   | (with_reducible exact ih2 _ _ _ _)
   | (with_reducible exact ih3 _ _ _)
   | (with_reducible exact ih4 _ _ _ _ _)
   | (with_reducible exact ih5 _ _)
   | (with_reducible exact impl_NodesVars.mono _ _)
   | (with_reducible exact laws_eqNodeS.mono _ _ _)
   | (with_reducible exact laws_eqStringS.mono _ _ _)
   | (with_reducible exact laws_heldStringS.mono _ _ _)
   | (with_reducible exact laws_markNodeS.mono _ _ _)
   | (with_reducible exact laws_markStringS.mono _ _ _)
   | (with_reducible exact laws_szNodeS.mono _ _ _)
   | (with_reducible exact laws_toNodeS.mono _ _)
   | (with_reducible exact spec_NodesVars.mono _ _)
   | (with_reducible exact LeO.refl _)
   | (with_reducible exact LeO.none _)
   | (with_reducible refine LeO.ite ?_ ?_)
   | (with_reducible refine LeO.bind ?_ (fun _ => ?_))
   | exact ih0 _ _ _ _
   | exact ih1 _ _ _ _
   | exact ih2 _ _ _ _
   | exact ih3 _ _ _
   | exact ih4 _ _ _ _ _
   | exact ih5 _ _
   | exact impl_NodesVars.mono _ _
   | exact laws_eqNodeS.mono _ _ _
   | exact laws_eqStringS.mono _ _ _
   | exact laws_heldStringS.mono _ _ _
   | exact laws_markNodeS.mono _ _ _
   | exact laws_markStringS.mono _ _ _
   | exact laws_szNodeS.mono _ _ _
   | exact laws_toNodeS.mono _ _
   | exact spec_NodesVars.mono _ _
   | refine LeO.bind ?_ (fun _ => ?_)
theorem laws_FnExactNodesVars.mono : ∀ a0 k, LeO (laws_FnExactNodesVars.f k a0) (laws_FnExactNodesVars.f (k + 1) a0) := by
 intro a0 k
 obtain ⟨ih0, ih1, ih2, ih3, ih4, ih5⟩ := laws_FnExactNodesVars.mono_l k
 unfold laws_FnExactNodesVars.f
 repeat' first
   | (with_reducible exact ih0 _ _ _ _)
   | (with_reducible exact ih1 _ _ _ _)
   | (with_reducible exact ih2 _ _ _ _)
   | (with_reducible exact ih3 _ _ _)
   | (with_reducible exact ih4 _ _ _ _ _)
   | (with_reducible exact ih5 _ _)
   | (with_reducible exact impl_NodesVars.mono _ _)
   | (with_reducible exact laws_eqNodeS.mono _ _ _)
   | (with_reducible exact laws_eqStringS.mono _ _ _)
   | (with_reducible exact laws_heldStringS.mono _ _ _)
   | (with_reducible exact laws_markNodeS.mono _ _ _)
   | (with_reducible exact laws_markStringS.mono _ _ _)
   | (with_reducible exact laws_szNodeS.mono _ _ _)
   | (with_reducible exact laws_toNodeS.mono _ _)
   | (with_reducible exact spec_NodesVars.mono _ _)
   | (with_reducible exact LeO.refl _)
   | (with_reducible exact LeO.none _)
   | (with_reducible refine LeO.ite ?_ ?_)
   | (with_reducible refine LeO.bind ?_ (fun _ => ?_))
   | exact ih0 _ _ _ _
   | exact ih1 _ _ _ _
   | exact ih2 _ _ _ _
   | exact ih3 _ _ _
   | exact ih4 _ _ _ _ _
   | exact ih5 _ _
   | exact impl_NodesVars.mono _ _
   | exact laws_eqNodeS.mono _ _ _
   | exact laws_eqStringS.mono _ _ _
   | exact laws_heldStringS.mono _ _ _
   | exact laws_markNodeS.mono _ _ _
   | exact laws_markStringS.mono _ _ _
   | exact laws_szNodeS.mono _ _ _
   | exact laws_toNodeS.mono _ _
   | exact spec_NodesVars.mono _ _
   | refine LeO.bind ?_ (fun _ => ?_)
set_option maxHeartbeats 8000000 in
set_option maxRecDepth 100000 in
theorem laws_FnExactNodesVars.calls (k : Nat) (A0 : Option Addr) (c0 : Nat) (l0 : List (S93)) (r : Bool) (w : World) (hr0 : Kd.C k93 w A0 l0.length l0) (hc0 : l0.length ≤ c0) (h : laws_FnExactNodesVars.f k l0 = some r) :
  Calls Try.prog 8 #[.slice A0 l0.length c0] w fun e w' => e = .returned (.bool r) ∧ Below w.heap.size w w' := by
 have HR0 := am hr0
 have HC0 := am hc0
 clear hr0 hc0
 have HB := am (Below.refl w.heap.size w)
 have H : ((laws_szNodeS.f k l0 1048576).bind fun t217 => (if t217 < 0 then (some true) else ((laws_toNodeS.f k l0).bind fun t218 => ((spec_NodesVars.f k t218).bind fun t221 => ((laws_toNodeS.f k l0).bind fun t224 => ((impl_NodesVars.f k t224).bind fun t227 => ((laws_eqStringS.f k t227 t221).bind fun t230 => (if t230 = true then (laws_FnExactNodesVars.j0 k l0 t221 t224 t227) else (some false))))))))) = some r := h
 clear h
 replace H := Option.bind_eq_some_iff.mp H
 obtain ⟨t217, A20, H⟩ := H
 replace H : (if t217 < 0 then (some true) else ((laws_toNodeS.f k l0).bind fun t218 => ((spec_NodesVars.f k t218).bind fun t221 => ((laws_toNodeS.f k l0).bind fun t224 => ((impl_NodesVars.f k t224).bind fun t227 => ((laws_eqStringS.f k t227 t221).bind fun t230 => (if t230 = true then (laws_FnExactNodesVars.j0 k l0 t221 t224 t227) else (some false)))))))) = some r := H
 have A2 := Aside0.mk A20
 clear A20
 by_cases c3 : t217 < 0
 ·rw [if_pos c3] at H
  have c3b0 : decide (t217 < 0) = true := decide_eq_true c3
  clear c3
  obtain rfl := Option.some.inj H
  go_enter Try.func8, Try.ntmps8
  go_wp2_with (first | ((with_reducible refine gate_callee (f := 26) rfl ?_); refine gl (some 13) Try.func26 #[.slice A0 l0.length c0, .int .i64 1048576] ?_; (with_reducible refine (laws_szNodeS.calls k _ _ l0 1048576 t217 _ ?side1 ?side2 A2.out).mono ?_); (case side1 => repeat (first | exact HR0.out | (with_reducible refine Kd.C_alloc ?_ _) | (with_reducible refine Kd.C_drewN ?_ _) | (with_reducible refine Kd.C_drew ?_))); (case side2 => exact HC0.out); rintro e w4 ⟨rfl, hb⟩; refine ⟨_, rfl, ?_⟩; replace HB := am (below_step (bl HB.out) hb); (try clear hb); (try clear hb2); (try clear hk); (try clear hi)))
  go_ret
  exact ⟨by first | rfl | (simp [errW_none, errW_some] <;> rfl) | (simp [*, errW_none, errW_some] <;> rfl), by repeat (first | (with_reducible first | exact HB.out | apply below_alloc | apply pw_below_drewN | apply below_drew1) | exact HB.out)⟩
 ·rw [if_neg c3] at H
  have c3b0 : decide (t217 < 0) = false := decide_eq_false c3
  clear c3
  replace H := Option.bind_eq_some_iff.mp H
  obtain ⟨t218, A50, H⟩ := H
  replace H : ((spec_NodesVars.f k t218).bind fun t221 => ((laws_toNodeS.f k l0).bind fun t224 => ((impl_NodesVars.f k t224).bind fun t227 => ((laws_eqStringS.f k t227 t221).bind fun t230 => (if t230 = true then (laws_FnExactNodesVars.j0 k l0 t221 t224 t227) else (some false)))))) = some r := H
  have A5 := Aside0.mk A50
  clear A50
  replace H := Option.bind_eq_some_iff.mp H
  obtain ⟨t221, A60, H⟩ := H
  replace H : ((laws_toNodeS.f k l0).bind fun t224 => ((impl_NodesVars.f k t224).bind fun t227 => ((laws_eqStringS.f k t227 t221).bind fun t230 => (if t230 = true then (laws_FnExactNodesVars.j0 k l0 t221 t224 t227) else (some false))))) = some r := H
  have A6 := Aside0.mk A60
  clear A60
  replace H := Option.bind_eq_some_iff.mp H
  obtain ⟨t224, A70, H⟩ := H
  replace H : ((impl_NodesVars.f k t224).bind fun t227 => ((laws_eqStringS.f k t227 t221).bind fun t230 => (if t230 = true then (laws_FnExactNodesVars.j0 k l0 t221 t224 t227) else (some false)))) = some r := H
  have A7 := Aside0.mk A70
  clear A70
  replace H := Option.bind_eq_some_iff.mp H
  obtain ⟨t227, A80, H⟩ := H
  replace H : ((laws_eqStringS.f k t227 t221).bind fun t230 => (if t230 = true then (laws_FnExactNodesVars.j0 k l0 t221 t224 t227) else (some false))) = some r := H
  have A8 := Aside0.mk A80
  clear A80
  replace H := Option.bind_eq_some_iff.mp H
  obtain ⟨t230, A90, H⟩ := H
  replace H : (if t230 = true then (laws_FnExactNodesVars.j0 k l0 t221 t224 t227) else (some false)) = some r := H
  have A9 := Aside0.mk A90
  clear A90
  have HC10 := Aside0.mk H
  clear H
  go_enter Try.func8, Try.ntmps8
  go_upto_if 26 with (first | ((with_reducible refine gate_callee (f := 26) rfl ?_); refine gl (some 13) Try.func26 #[.slice A0 l0.length c0, .int .i64 1048576] ?_; (with_reducible refine (laws_szNodeS.calls k _ _ l0 1048576 t217 _ ?side1 ?side2 A2.out).mono ?_); (case side1 => repeat (first | exact HR0.out | (with_reducible refine Kd.C_alloc ?_ _) | (with_reducible refine Kd.C_drewN ?_ _) | (with_reducible refine Kd.C_drew ?_))); (case side2 => exact HC0.out); rintro e w11 ⟨rfl, hb⟩; refine ⟨_, rfl, ?_⟩; replace HB := am (below_step (bl HB.out) hb); (try clear hb); (try clear hb2); (try clear hk); (try clear hi)) | ((with_reducible refine gate_callee (f := 28) rfl ?_); refine gl (some 17) Try.func28 #[.slice A0 l0.length c0] ?_; (with_reducible refine (laws_toNodeS.calls k _ _ l0 t218 _ ?side1 ?side2 A5.out).mono ?_); (case side1 => repeat (first | exact (Kd.C_below HR0.out HB.out) | (with_reducible refine Kd.C_alloc ?_ _) | (with_reducible refine Kd.C_drewN ?_ _) | (with_reducible refine Kd.C_drew ?_))); (case side2 => exact HC0.out); rintro e w12 ⟨v219, rfl, ho0, hb⟩; refine ⟨_, rfl, ?_⟩; have HO220 := am (Kd.R_lower ho0 (below_size (bl HB.out))); replace HB := am (below_step (bl HB.out) hb); (try clear hb); (try clear hb2); (try clear hk); (try clear hi); (try clear ho0); obtain ⟨Ao13, co13, eo13⟩ := Kd.R_slice HO220.out; subst eo13) | ((with_reducible refine gate_callee (f := 33) rfl ?_); refine gl (some 18) Try.func33 #[.slice Ao13 t218.length co13] ?_; (with_reducible refine (spec_NodesVars.calls k _ _ t218 t221 _ ?side1 ?side2 A6.out).mono ?_); (case side1 => repeat (first | exact (Kd.R_reads' HO220.out).2.2 | (with_reducible refine Kd.C_alloc ?_ _) | (with_reducible refine Kd.C_drewN ?_ _) | (with_reducible refine Kd.C_drew ?_))); (case side2 => exact (Kd.R_reads' HO220.out).2.1); rintro e w14 ⟨v222, rfl, ho0, hb⟩; refine ⟨_, rfl, ?_⟩; replace HO220 := am (Kd.R_below (kr HO220.out) hb); have HO223 := am (Kd.R_lower ho0 (below_size (bl HB.out))); replace HB := am (below_step (bl HB.out) hb); (try clear hb); (try clear hb2); (try clear hk); (try clear hi); (try clear ho0)) | ((with_reducible refine gate_callee (f := 28) rfl ?_); refine gl (some 20) Try.func28 #[.slice A0 l0.length c0] ?_; (with_reducible refine (laws_toNodeS.calls k _ _ l0 t224 _ ?side1 ?side2 A7.out).mono ?_); (case side1 => repeat (first | exact (Kd.C_below HR0.out HB.out) | (with_reducible refine Kd.C_alloc ?_ _) | (with_reducible refine Kd.C_drewN ?_ _) | (with_reducible refine Kd.C_drew ?_))); (case side2 => exact HC0.out); rintro e w15 ⟨v225, rfl, ho0, hb⟩; refine ⟨_, rfl, ?_⟩; replace HO223 := am (Kd.R_below (kr HO223.out) hb); have HO226 := am (Kd.R_lower (Kd.R_new' ho0 (Kd.R_lt (kr HO220.out))) (below_size (bl HB.out))); replace HO220 := am (Kd.R_elder' (kr HO220.out) (Kd.R_base ho0) hb); replace HB := am (below_step (bl HB.out) hb); (try clear hb); (try clear hb2); (try clear hk); (try clear hi); (try clear ho0); obtain ⟨Ao16, co16, eo16⟩ := Kd.R_slice HO226.out; subst eo16) | ((with_reducible refine gate_callee (f := 34) rfl ?_); refine gl (some 22) Try.func34 #[.slice Ao16 t224.length co16] ?_; (with_reducible refine (impl_NodesVars.calls k _ _ t224 t227 _ ?side1 ?side2 A8.out).mono ?_); (case side1 => repeat (first | exact (Kd.R_reads' HO226.out).2.2 | (with_reducible refine Kd.C_alloc ?_ _) | (with_reducible refine Kd.C_drewN ?_ _) | (with_reducible refine Kd.C_drew ?_))); (case side2 => exact (Kd.R_reads' HO226.out).2.1); rintro e w17 ⟨v228, rfl, ho0, hb⟩; refine ⟨_, rfl, ?_⟩; replace HO220 := am (Kd.R_below (kr HO220.out) hb); replace HO226 := am (Kd.R_below (kr HO226.out) hb); have HO229 := am (Kd.R_lower (Kd.R_new' ho0 (Kd.R_lt (kr HO223.out))) (below_size (bl HB.out))); replace HO223 := am (Kd.R_elder' (kr HO223.out) (Kd.R_base ho0) hb); replace HB := am (below_step (bl HB.out) hb); (try clear hb); (try clear hb2); (try clear hk); (try clear hi); (try clear ho0); obtain ⟨Ao18, co18, eo18⟩ := Kd.R_slice HO229.out; subst eo18; obtain ⟨Ao19, co19, eo19⟩ := Kd.R_slice HO223.out; subst eo19) | ((with_reducible refine gate_callee (f := 35) rfl ?_); refine gl (some 25) Try.func35 #[.slice Ao18 t227.length co18, .slice Ao19 t221.length co19] ?_; (with_reducible refine (laws_eqStringS.calls k _ _ t227 _ _ t221 t230 _ ?side1 ?side2 ?side3 ?side4 A9.out).mono ?_); (case side1 => repeat (first | exact (Kd.R_reads' HO229.out).2.2 | (with_reducible refine Kd.C_alloc ?_ _) | (with_reducible refine Kd.C_drewN ?_ _) | (with_reducible refine Kd.C_drew ?_))); (case side2 => exact (Kd.R_reads' HO229.out).2.1); (case side3 => repeat (first | exact (Kd.R_reads' HO223.out).2.2 | (with_reducible refine Kd.C_alloc ?_ _) | (with_reducible refine Kd.C_drewN ?_ _) | (with_reducible refine Kd.C_drew ?_))); (case side4 => exact (Kd.R_reads' HO223.out).2.1); rintro e w' ⟨rfl, ⟨nd, rfl⟩⟩; refine ⟨_, rfl, ?_⟩))
  (try simp only [Act.put, sa_, s0_, ss_])
  go_cut [] (fun wc => ∃ (kq : Nat), Aside0 (laws_FnExactNodesVars.j0 kq l0 t221 t224 t227 = some r) ∧ Aside0 (kq ≤ k) ∧ Aside0 (Kd.R Kd.string 9 wc w.heap.size (fun k_ => some k_ ≠ ((.slice Ao18 t227.length co18) : Value).ownBlock) (.slice Ao19 t221.length co19) t221) ∧ Aside0 (Kd.R k95 95 wc w.heap.size (fun _ => True) (.slice Ao16 t224.length co16) t224) ∧ Aside0 (Kd.R Kd.string 9 wc w.heap.size (fun k_ => some k_ ≠ ((.slice Ao19 t221.length co19) : Value).ownBlock) (.slice Ao18 t227.length co18) t227) ∧ Aside0 (Below w.heap.size w wc))
  case first =>
   have H := HC10.out
   clear HC10
   by_cases c20 : t230 = true
   ·subst c20
    have H1 : (laws_FnExactNodesVars.j0 k l0 t221 t224 t227) = some r := by rw [if_pos rfl] at H; exact H
    clear H
    have H := H1
    clear H1
    have H' := Aside0.mk H
    clear H
    go_wp2
    go_meet
    case rel => exact ⟨_, H', ⟨by first | omega | exact Nat.le_refl _⟩, ⟨kr (Kd.R_mono HO223.out (fun _ hk => hk.2))⟩, ⟨kr (Kd.R_mono HO226.out (fun _ hk => trivial))⟩, ⟨kr (Kd.R_mono HO229.out (fun _ hk => hk.2))⟩, ⟨by repeat (first | (with_reducible first | exact HB.out | apply below_alloc | apply pw_below_drewN | apply below_drew1) | exact HB.out)⟩⟩
   ·replace c20 := Bool.eq_false_iff.mpr c20
    subst c20
    have H1 : (some false) = some r := by rw [if_neg (show ¬ (false = true) by decide)] at H; exact H
    clear H
    have H := H1
    clear H1
    obtain rfl := Option.some.inj H
    go_wp2
    go_ret
    exact ⟨by first | rfl | (simp [errW_none, errW_some] <;> rfl) | (simp [*, errW_none, errW_some] <;> rfl), by repeat (first | (with_reducible first | exact HB.out | apply below_alloc | apply pw_below_drewN | apply below_drew1) | exact HB.out)⟩
  case rest =>
   clear HC10
   try clear c2
   try clear p2
   try clear c3
   try clear c3b0
   try clear c8
   try clear c20
   obtain ⟨kq, HA, HJ9, HO_4, HO_5, HO_6, HB⟩ := hcut
   cases kq with
   | zero => exact absurd HA.out (by simp [laws_FnExactNodesVars.j0])
   | succ kj9 =>
    have H := HA.out
    clear HA
    simp only [laws_FnExactNodesVars.j0] at H
    replace H := Option.bind_eq_some_iff.mp H
    obtain ⟨t231, A210, H⟩ := H
    replace H : ((laws_eqNodeS.f kj9 t224 t231).bind fun t234 => (if t234 = true then (laws_FnExactNodesVars.j1 kj9 l0 t221 t224 t227) else (some false))) = some r := H
    have A21 := Aside0.mk A210
    clear A210
    replace H := Option.bind_eq_some_iff.mp H
    obtain ⟨t234, A220, H⟩ := H
    replace H : (if t234 = true then (laws_FnExactNodesVars.j1 kj9 l0 t221 t224 t227) else (some false)) = some r := H
    have A22 := Aside0.mk A220
    clear A220
    have HC23 := Aside0.mk H
    clear H
    go_upto_if 31 with (first | ((with_reducible refine gate_callee (f := 28) rfl ?_); refine gl (some 29) Try.func28 #[.slice A0 l0.length c0] ?_; (with_reducible refine (laws_toNodeS.calls kj9 _ _ l0 t231 _ ?side1 ?side2 A21.out).mono ?_); (case side1 => repeat (first | exact (Kd.C_below HR0.out HB.out) | (with_reducible refine Kd.C_alloc ?_ _) | (with_reducible refine Kd.C_drewN ?_ _) | (with_reducible refine Kd.C_drew ?_))); (case side2 => exact HC0.out); rintro e w24 ⟨v232, rfl, ho0, hb⟩; refine ⟨_, rfl, ?_⟩; replace HO_4 := am (Kd.R_below (kr HO_4.out) hb); replace HO_6 := am (Kd.R_below (kr HO_6.out) hb); have HO233 := am (Kd.R_lower (Kd.R_new' ho0 (Kd.R_lt (kr HO_5.out))) (below_size (bl HB.out))); replace HO_5 := am (Kd.R_elder' (kr HO_5.out) (Kd.R_base ho0) hb); replace HB := am (below_step (bl HB.out) hb); (try clear hb); (try clear hb2); (try clear hk); (try clear hi); (try clear ho0); obtain ⟨Ao25, co25, eo25⟩ := Kd.R_slice HO233.out; subst eo25) | ((with_reducible refine gate_callee (f := 30) rfl ?_); refine gl (some 30) Try.func30 #[.slice Ao16 t224.length co16, .slice Ao25 t231.length co25] ?_; (with_reducible refine (laws_eqNodeS.calls kj9 _ _ t224 _ _ t231 t234 _ ?side1 ?side2 ?side3 ?side4 A22.out).mono ?_); (case side1 => repeat (first | exact (Kd.R_reads' HO_5.out).2.2 | (with_reducible refine Kd.C_alloc ?_ _) | (with_reducible refine Kd.C_drewN ?_ _) | (with_reducible refine Kd.C_drew ?_))); (case side2 => exact (Kd.R_reads' HO_5.out).2.1); (case side3 => repeat (first | exact (Kd.R_reads' HO233.out).2.2 | (with_reducible refine Kd.C_alloc ?_ _) | (with_reducible refine Kd.C_drewN ?_ _) | (with_reducible refine Kd.C_drew ?_))); (case side4 => exact (Kd.R_reads' HO233.out).2.1); rintro e w26 ⟨rfl, hb⟩; refine ⟨_, rfl, ?_⟩; replace HO_4 := am (Kd.R_below (kr HO_4.out) hb); replace HO_5 := am (Kd.R_below (kr HO_5.out) hb); replace HO_6 := am (Kd.R_below (kr HO_6.out) hb); replace HO233 := am (Kd.R_below (kr HO233.out) hb); replace HB := am (below_step (bl HB.out) hb); (try clear hb); (try clear hb2); (try clear hk); (try clear hi)))
    (try simp only [Act.put, sa_, s0_, ss_])
    go_cut [] (fun wc => ∃ (kq : Nat), Aside0 (laws_FnExactNodesVars.j1 kq l0 t221 t224 t227 = some r) ∧ Aside0 (kq ≤ kj9) ∧ Aside0 (Kd.R Kd.string 9 wc w.heap.size (fun k_ => some k_ ≠ ((.slice Ao18 t227.length co18) : Value).ownBlock) (.slice Ao19 t221.length co19) t221) ∧ Aside0 (Kd.R k95 95 wc w.heap.size (fun _ => True) (.slice Ao16 t224.length co16) t224) ∧ Aside0 (Kd.R Kd.string 9 wc w.heap.size (fun k_ => some k_ ≠ ((.slice Ao19 t221.length co19) : Value).ownBlock) (.slice Ao18 t227.length co18) t227) ∧ Aside0 (Below w.heap.size w wc))
    case first =>
     have H := HC23.out
     clear HC23
     by_cases c27 : t234 = true
     ·subst c27
      have H1 : (laws_FnExactNodesVars.j1 kj9 l0 t221 t224 t227) = some r := by rw [if_pos rfl] at H; exact H
      clear H
      have H := H1
      clear H1
      have H' := Aside0.mk H
      clear H
      go_wp2
      go_meet
      case rel => exact ⟨_, H', ⟨by have := HJ9.out; first | omega | exact Nat.le_refl _⟩, ⟨kr HO_4.out⟩, ⟨kr (Kd.R_mono HO_5.out (fun _ hk => trivial))⟩, ⟨kr HO_6.out⟩, ⟨by repeat (first | (with_reducible first | exact HB.out | apply below_alloc | apply pw_below_drewN | apply below_drew1) | exact HB.out)⟩⟩
     ·replace c27 := Bool.eq_false_iff.mpr c27
      subst c27
      have H1 : (some false) = some r := by rw [if_neg (show ¬ (false = true) by decide)] at H; exact H
      clear H
      have H := H1
      clear H1
      obtain rfl := Option.some.inj H
      go_wp2
      go_ret
      exact ⟨by first | rfl | (simp [errW_none, errW_some] <;> rfl) | (simp [*, errW_none, errW_some] <;> rfl), by repeat (first | (with_reducible first | exact HB.out | apply below_alloc | apply pw_below_drewN | apply below_drew1) | exact HB.out)⟩
    case rest =>
     clear HC23
     try clear c2
     try clear p2
     try clear c3
     try clear c3b0
     try clear c8
     try clear c20
     try clear c26
     try clear c27
     try clear p2
     obtain ⟨kq, HA, HJ22, HO_4, HO_5, HO_6, HB⟩ := hcut
     cases kq with
     | zero => exact absurd HA.out (by simp [laws_FnExactNodesVars.j1])
     | succ kj22 =>
      have H := HA.out
      clear HA
      simp only [laws_FnExactNodesVars.j1] at H
      replace H := Option.bind_eq_some_iff.mp H
      obtain ⟨⟨t235, t236⟩, A280, H⟩ := H
      replace H : (if t235 < 0 then (laws_FnExactNodesVars.j2 kj22 l0 t221 t227 true) else ((laws_eqStringS.f kj22 t227 t221).bind fun t237 => (laws_FnExactNodesVars.j2 kj22 l0 t221 t227 (!t237)))) = some r := H
      have A28 := Aside0.mk A280
      clear A280
      have HC29 := Aside0.mk H
      clear H
      go_upto_region 14 with (first | ((with_reducible refine gate_callee (f := 36) rfl ?_); refine gl (some 34) Try.func36 #[.slice Ao16 t224.length co16, .int .i64 1] ?_; (with_reducible refine (laws_markNodeS.calls kj22 (fun k_ => some k_ = (.slice Ao16 t224.length co16 : Value).ownBlock) (.slice Ao16 t224.length co16) t224 1 t235 t236 w _ ?side1 ?side2 A28.out).mono ?_); (case side1 => repeat (first | (with_reducible first | exact HB.out | apply below_alloc | apply pw_below_drewN | apply below_drew1) | exact HB.out)); (case side2 => exact Kd.R_tight rfl HO_5.out); rintro e w30 ⟨rfl, hy0, hb, hkp⟩; refine ⟨_, rfl, ?_⟩; replace HO_4 := am (Kd.R_mono (ok' := fun k_ => some k_ ≠ (.slice Ao18 t227.length co18 : Value).ownBlock) (Kd.R_keptB ((Kd.R_apart' HO_4.out (Kd.R_typed HO_5.out) (by decide))) hkp (fun k_ hk_ hs_ => (hk_.2) hs_)) (fun k_ hk_ => hk_.1.1)); replace HO_6 := am (Kd.R_mono (ok' := fun k_ => some k_ ≠ (.slice Ao19 t221.length co19 : Value).ownBlock) (Kd.R_keptB ((Kd.R_apart' HO_6.out (Kd.R_typed HO_5.out) (by decide))) hkp (fun k_ hk_ hs_ => (hk_.2) hs_)) (fun k_ hk_ => hk_.1.1)); replace HO_5 := am (Kd.R_reok rfl hy0 (fun k_ e_ => HO_5.out.1 k_ e_)); replace HB := am (hb); (try clear hb); (try clear hkp); (try clear hy0)))
      (try simp only [Act.put, sa_, s0_, ss_])
      go_cut [42] (fun v42 wc => ∃ (kq : Nat) (x42_28 : Bool), v42 = .bool x42_28 ∧ Aside0 (laws_FnExactNodesVars.j2 kq l0 t221 t227 x42_28 = some r) ∧ Aside0 (kq ≤ kj22) ∧ Aside0 (Kd.R Kd.string 9 wc w.heap.size (fun k_ => some k_ ≠ ((.slice Ao18 t227.length co18) : Value).ownBlock) (.slice Ao19 t221.length co19) t221) ∧ Aside0 (Kd.R Kd.string 9 wc w.heap.size (fun k_ => some k_ ≠ ((.slice Ao19 t221.length co19) : Value).ownBlock) (.slice Ao18 t227.length co18) t227) ∧ Aside0 (Below w.heap.size w wc))
      case first =>
       have H := HC29.out
       clear HC29
       by_cases c31 : t235 < 0
       ·rw [if_pos c31] at H
        have c31b0 : decide (t235 < 0) = true := decide_eq_true c31
        clear c31
        (first | rw [c31b0] | (simp only [i64_w, i32_w]; rw [c31b0]) | (have e9_ := c31b0; unfold bne at e9_; rw [e9_]) | skip)
        have H' := Aside0.mk H
        clear H
        go_wp2
        go_meet
        case rel => exact ⟨_, (true), (by first | rfl | (simp; done) | (simp [*]; done)), H', ⟨by have := HJ9.out; have := HJ22.out; first | omega | exact Nat.le_refl _⟩, ⟨kr HO_4.out⟩, ⟨kr HO_6.out⟩, ⟨by repeat (first | (with_reducible first | exact HB.out | apply below_alloc | apply pw_below_drewN | apply below_drew1) | exact HB.out)⟩⟩
       ·rw [if_neg c31] at H
        have c31b0 : decide (t235 < 0) = false := decide_eq_false c31
        clear c31
        (first | rw [c31b0] | (simp only [i64_w, i32_w]; rw [c31b0]) | (have e9_ := c31b0; unfold bne at e9_; rw [e9_]) | skip)
        replace H := Option.bind_eq_some_iff.mp H
        obtain ⟨t237, A320, H⟩ := H
        replace H : (laws_FnExactNodesVars.j2 kj22 l0 t221 t227 (!t237)) = some r := H
        have A32 := Aside0.mk A320
        clear A320
        have H' := Aside0.mk H
        clear H
        go_wp2_with (first | (go_at_call 35; (with_reducible refine (laws_eqStringS.calls kj22 _ _ t227 _ _ t221 t237 _ ?side1 ?side2 ?side3 ?side4 A32.out).mono ?_); (case side1 => repeat (first | exact (Kd.R_reads' HO_6.out).2.2 | (with_reducible refine Kd.C_alloc ?_ _) | (with_reducible refine Kd.C_drewN ?_ _) | (with_reducible refine Kd.C_drew ?_))); (case side2 => exact (Kd.R_reads' HO_6.out).2.1); (case side3 => repeat (first | exact (Kd.R_reads' HO_4.out).2.2 | (with_reducible refine Kd.C_alloc ?_ _) | (with_reducible refine Kd.C_drewN ?_ _) | (with_reducible refine Kd.C_drew ?_))); (case side4 => exact (Kd.R_reads' HO_4.out).2.1); rintro e w' ⟨rfl, ⟨nd, rfl⟩⟩))
        go_meet
        case rel => exact ⟨_, (!t237), (by first | rfl | (simp; done) | (simp [*]; done)), H', ⟨by have := HJ9.out; have := HJ22.out; first | omega | exact Nat.le_refl _⟩, ⟨kr HO_4.out⟩, ⟨kr HO_6.out⟩, ⟨by repeat (first | (with_reducible first | exact HB.out | apply below_alloc | apply pw_below_drewN | apply below_drew1) | exact HB.out)⟩⟩
      case rest =>
       clear HC29
       try clear c2
       try clear p2
       try clear c3
       try clear c3b0
       try clear c8
       try clear c20
       try clear c26
       try clear c27
       try clear c28
       try clear c30
       try clear c31
       try clear c31b0
       try clear p2
       obtain ⟨kq, x42_28, rfl, HA, HJ28, HO_4, HO_6, HB⟩ := hcut
       cases kq with
       | zero => exact absurd HA.out (by simp [laws_FnExactNodesVars.j2])
       | succ kj28 =>
        have H := HA.out
        clear HA
        simp only [laws_FnExactNodesVars.j2] at H
        have HC33 := Aside0.mk H
        clear H
        go_upto_if 42 with (fail)
        go_cut [] (fun wc => ∃ (kq : Nat), Aside0 (laws_FnExactNodesVars.j3 kq l0 t221 t227 = some r) ∧ Aside0 (kq ≤ kj28) ∧ Aside0 (Kd.R Kd.string 9 wc w.heap.size (fun k_ => some k_ ≠ ((.slice Ao18 t227.length co18) : Value).ownBlock) (.slice Ao19 t221.length co19) t221) ∧ Aside0 (Kd.R Kd.string 9 wc w.heap.size (fun k_ => some k_ ≠ ((.slice Ao19 t221.length co19) : Value).ownBlock) (.slice Ao18 t227.length co18) t227) ∧ Aside0 (Below w.heap.size w wc))
        case first =>
         have H := HC33.out
         clear HC33
         by_cases c34 : x42_28 = true
         ·subst c34
          have H1 : (some false) = some r := by rw [if_pos rfl] at H; exact H
          clear H
          have H := H1
          clear H1
          obtain rfl := Option.some.inj H
          go_wp2
          go_ret
          exact ⟨by first | rfl | (simp [errW_none, errW_some] <;> rfl) | (simp [*, errW_none, errW_some] <;> rfl), by repeat (first | (with_reducible first | exact HB.out | apply below_alloc | apply pw_below_drewN | apply below_drew1) | exact HB.out)⟩
         ·replace c34 := Bool.eq_false_iff.mpr c34
          subst c34
          have H1 : (laws_FnExactNodesVars.j3 kj28 l0 t221 t227) = some r := by rw [if_neg (show ¬ (false = true) by decide)] at H; exact H
          clear H
          have H := H1
          clear H1
          have H' := Aside0.mk H
          clear H
          go_wp2
          go_meet
          case rel => exact ⟨_, H', ⟨by have := HJ9.out; have := HJ22.out; have := HJ28.out; first | omega | exact Nat.le_refl _⟩, ⟨kr HO_4.out⟩, ⟨kr HO_6.out⟩, ⟨by repeat (first | (with_reducible first | exact HB.out | apply below_alloc | apply pw_below_drewN | apply below_drew1) | exact HB.out)⟩⟩
        case rest =>
         clear HC33
         try clear c2
         try clear p2
         try clear c3
         try clear c3b0
         try clear c8
         try clear c20
         try clear c26
         try clear c27
         try clear c28
         try clear c30
         try clear c31
         try clear c31b0
         try clear c33
         try clear c34
         try clear p2
         obtain ⟨kq, HA, HJ32, HO_4, HO_6, HB⟩ := hcut
         cases kq with
         | zero => exact absurd HA.out (by simp [laws_FnExactNodesVars.j3])
         | succ kj32 =>
          have H := HA.out
          clear HA
          simp only [laws_FnExactNodesVars.j3] at H
          replace H := Option.bind_eq_some_iff.mp H
          obtain ⟨⟨t238, t239⟩, A350, H⟩ := H
          replace H : ((laws_heldStringS.f kj32 t239 1).bind fun t240 => (if t240 < 0 then (some false) else (laws_FnExactNodesVars.j4 kj32 l0 t221 t239 t238 t240))) = some r := H
          have A35 := Aside0.mk A350
          clear A350
          replace H := Option.bind_eq_some_iff.mp H
          obtain ⟨t240, A360, H⟩ := H
          replace H : (if t240 < 0 then (some false) else (laws_FnExactNodesVars.j4 kj32 l0 t221 t239 t238 t240)) = some r := H
          have A36 := Aside0.mk A360
          clear A360
          have HC37 := Aside0.mk H
          clear H
          go_upto_if 50 with (first | ((with_reducible refine gate_callee (f := 37) rfl ?_); refine gl (some 45) Try.func37 #[.slice Ao18 t227.length co18, .int .i64 1] ?_; (with_reducible refine (laws_markStringS.calls kj32 (fun k_ => some k_ = (.slice Ao18 t227.length co18 : Value).ownBlock) (.slice Ao18 t227.length co18) t227 1 t238 t239 w _ ?side1 ?side2 A35.out).mono ?_); (case side1 => repeat (first | (with_reducible first | exact HB.out | apply below_alloc | apply pw_below_drewN | apply below_drew1) | exact HB.out)); (case side2 => exact Kd.R_tight rfl HO_6.out); rintro e w38 ⟨rfl, hy0, hb, hkp⟩; refine ⟨_, rfl, ?_⟩; replace HO_4 := am (Kd.R_mono (ok' := fun k_ => some k_ ≠ (.slice Ao18 t227.length co18 : Value).ownBlock) (Kd.R_keptB (HO_4.out) hkp (fun k_ hk_ hs_ => (hk_) hs_)) (fun k_ hk_ => hk_.1)); replace HO_6 := am (Kd.R_reok rfl hy0 (fun k_ e_ => HO_6.out.1 k_ e_)); replace HB := am (hb); (try clear hb); (try clear hkp); (try clear hy0)) | ((with_reducible refine gate_callee (f := 38) rfl ?_); refine goesL_ (some 48) rfl rfl Try.func38 (by kernel_rfl) rfl #[.slice Ao18 t239.length co18, .int .i64 1] rfl (by (try simp only [List.map_toArray, List.map_cons, List.map_nil]); first | done | (rw [show t239.length = t227.length from (Kd.R_reads' HO_6.out).1.symm] <;> rfl) | rfl | (simp only [List.length_drop, List.length_take]; rfl)) ?_; (with_reducible refine (laws_heldStringS.calls kj32 _ _ t239 1 t240 _ ?side1 ?side2 A36.out).mono ?_); (case side1 => repeat (first | exact (Kd.R_reads' HO_6.out).2.2 | (with_reducible refine Kd.C_alloc ?_ _) | (with_reducible refine Kd.C_drewN ?_ _) | (with_reducible refine Kd.C_drew ?_))); (case side2 => rw [show t239.length = t227.length from (Kd.R_reads' HO_6.out).1.symm]; exact (Kd.R_reads' HO_6.out).2.1); rintro e w39 ⟨rfl, hb⟩; refine ⟨_, rfl, ?_⟩; replace HO_4 := am (Kd.R_below (kr HO_4.out) hb); replace HO_6 := am (Kd.R_below (kr HO_6.out) hb); replace HB := am (below_step (bl HB.out) hb); (try clear hb); (try clear hb2); (try clear hk); (try clear hi)))
          (try simp only [Act.put, sa_, s0_, ss_])
          go_cut [] (fun wc => ∃ (kq : Nat), Aside0 (laws_FnExactNodesVars.j4 kq l0 t221 t239 t238 t240 = some r) ∧ Aside0 (kq ≤ kj32) ∧ Aside0 (Kd.R Kd.string 9 wc w.heap.size (fun k_ => some k_ ≠ ((.slice Ao18 t227.length co18) : Value).ownBlock) (.slice Ao19 t221.length co19) t221) ∧ Aside0 (Kd.R Kd.string 9 wc w.heap.size (fun k_ => some k_ ≠ ((.slice Ao19 t221.length co19) : Value).ownBlock) (.slice Ao18 t227.length co18) t239) ∧ Aside0 (Below w.heap.size w wc))
          case first =>
           have H := HC37.out
           clear HC37
           by_cases c40 : t240 < 0
           ·rw [if_pos c40] at H
            have c40b0 : decide (t240 < 0) = true := decide_eq_true c40
            clear c40
            (first | rw [c40b0] | (simp only [i64_w, i32_w]; rw [c40b0]) | (have e9_ := c40b0; unfold bne at e9_; rw [e9_]) | skip)
            obtain rfl := Option.some.inj H
            go_wp2
            go_ret
            exact ⟨by first | rfl | (simp [errW_none, errW_some] <;> rfl) | (simp [*, errW_none, errW_some] <;> rfl), by repeat (first | (with_reducible first | exact HB.out | apply below_alloc | apply pw_below_drewN | apply below_drew1) | exact HB.out)⟩
           ·rw [if_neg c40] at H
            have c40b0 : decide (t240 < 0) = false := decide_eq_false c40
            clear c40
            (first | rw [c40b0] | (simp only [i64_w, i32_w]; rw [c40b0]) | (have e9_ := c40b0; unfold bne at e9_; rw [e9_]) | skip)
            have H' := Aside0.mk H
            clear H
            go_wp2
            go_meet
            case rel => exact ⟨_, H', ⟨by have := HJ9.out; have := HJ22.out; have := HJ28.out; have := HJ32.out; first | omega | exact Nat.le_refl _⟩, ⟨kr HO_4.out⟩, ⟨kr HO_6.out⟩, ⟨by repeat (first | (with_reducible first | exact HB.out | apply below_alloc | apply pw_below_drewN | apply below_drew1) | exact HB.out)⟩⟩
          case rest =>
           clear HC37
           try clear c2
           try clear p2
           try clear c3
           try clear c3b0
           try clear c4
           try clear c8
           try clear c20
           try clear c26
           try clear c27
           try clear c28
           try clear c30
           try clear c31
           try clear c31b0
           try clear c33
           try clear c34
           try clear c35
           try clear c36
           try clear c37
           try clear c38
           try clear c40
           try clear c40b0
           try clear p2
           obtain ⟨kq, HA, HJ36, HO_4, HO_6, HB⟩ := hcut
           have hl6_36 := (Kd.R_reads' HO_6.out).1
           rw [hl6_36] at HO_6
           (try simp only [hl6_36])
           (try simp only [hl6_36] at HO_4)
           cases kq with
           | zero => exact absurd HA.out (by simp [laws_FnExactNodesVars.j4])
           | succ kj36 =>
            have H := HA.out
            clear HA
            simp only [laws_FnExactNodesVars.j4] at H
            by_cases c41 : t240 = t238
            ·rw [if_pos c41] at H
             have c41b0 : (t240 == t238) = true := beq_iff_eq.mpr c41
             have c41b1 : (t240 != t238) = false := bne_eq_false_iff_eq.mpr c41
             clear c41
             replace H := Option.bind_eq_some_iff.mp H
             obtain ⟨t241, A420, H⟩ := H
             replace H : ((impl_NodesVars.f kj36 t241).bind fun t244 => ((laws_eqStringS.f kj36 t244 t221).bind fun t247 => (if t247 = true then (laws_FnExactNodesVars.j5 kj36 t239 t238) else (some false)))) = some r := H
             have A42 := Aside0.mk A420
             clear A420
             replace H := Option.bind_eq_some_iff.mp H
             obtain ⟨t244, A430, H⟩ := H
             replace H : ((laws_eqStringS.f kj36 t244 t221).bind fun t247 => (if t247 = true then (laws_FnExactNodesVars.j5 kj36 t239 t238) else (some false))) = some r := H
             have A43 := Aside0.mk A430
             clear A430
             replace H := Option.bind_eq_some_iff.mp H
             obtain ⟨t247, A440, H⟩ := H
             replace H : (if t247 = true then (laws_FnExactNodesVars.j5 kj36 t239 t238) else (some false)) = some r := H
             have A44 := Aside0.mk A440
             clear A440
             have HC45 := Aside0.mk H
             clear H
             go_upto_if 60 with (first | ((with_reducible refine gate_callee (f := 28) rfl ?_); refine gl (some 55) Try.func28 #[.slice A0 l0.length c0] ?_; (with_reducible refine (laws_toNodeS.calls kj36 _ _ l0 t241 _ ?side1 ?side2 A42.out).mono ?_); (case side1 => repeat (first | exact (Kd.C_below HR0.out HB.out) | (with_reducible refine Kd.C_alloc ?_ _) | (with_reducible refine Kd.C_drewN ?_ _) | (with_reducible refine Kd.C_drew ?_))); (case side2 => exact HC0.out); rintro e w46 ⟨v242, rfl, ho0, hb⟩; refine ⟨_, rfl, ?_⟩; replace HO_4 := am (Kd.R_below (kr HO_4.out) hb); replace HO_6 := am (Kd.R_below (kr HO_6.out) hb); have HO243 := am (Kd.R_lower ho0 (below_size (bl HB.out))); replace HB := am (below_step (bl HB.out) hb); (try clear hb); (try clear hb2); (try clear hk); (try clear hi); (try clear ho0); obtain ⟨Ao47, co47, eo47⟩ := Kd.R_slice HO243.out; subst eo47) | ((with_reducible refine gate_callee (f := 34) rfl ?_); refine gl (some 56) Try.func34 #[.slice Ao47 t241.length co47] ?_; (with_reducible refine (impl_NodesVars.calls kj36 _ _ t241 t244 _ ?side1 ?side2 A43.out).mono ?_); (case side1 => repeat (first | exact (Kd.R_reads' HO243.out).2.2 | (with_reducible refine Kd.C_alloc ?_ _) | (with_reducible refine Kd.C_drewN ?_ _) | (with_reducible refine Kd.C_drew ?_))); (case side2 => exact (Kd.R_reads' HO243.out).2.1); rintro e w48 ⟨v245, rfl, ho0, hb⟩; refine ⟨_, rfl, ?_⟩; replace HO243 := am (Kd.R_below (kr HO243.out) hb); have HO246 := am (Kd.R_lower (Kd.R_new' (Kd.R_new' ho0 (Kd.R_lt (kr HO_4.out))) (Kd.R_lt (kr HO_6.out))) (below_size (bl HB.out))); replace HO_4 := am (Kd.R_elder' (kr HO_4.out) (Kd.R_base ho0) hb); replace HO_6 := am (Kd.R_elder' (kr HO_6.out) (Kd.R_base ho0) hb); replace HB := am (below_step (bl HB.out) hb); (try clear hb); (try clear hb2); (try clear hk); (try clear hi); (try clear ho0); obtain ⟨Ao49, co49, eo49⟩ := Kd.R_slice HO246.out; subst eo49) | ((with_reducible refine gate_callee (f := 35) rfl ?_); refine gl (some 59) Try.func35 #[.slice Ao49 t244.length co49, .slice Ao19 t221.length co19] ?_; (with_reducible refine (laws_eqStringS.calls kj36 _ _ t244 _ _ t221 t247 _ ?side1 ?side2 ?side3 ?side4 A44.out).mono ?_); (case side1 => repeat (first | exact (Kd.R_reads' HO246.out).2.2 | (with_reducible refine Kd.C_alloc ?_ _) | (with_reducible refine Kd.C_drewN ?_ _) | (with_reducible refine Kd.C_drew ?_))); (case side2 => exact (Kd.R_reads' HO246.out).2.1); (case side3 => repeat (first | exact (Kd.R_reads' HO_4.out).2.2 | (with_reducible refine Kd.C_alloc ?_ _) | (with_reducible refine Kd.C_drewN ?_ _) | (with_reducible refine Kd.C_drew ?_))); (case side4 => exact (Kd.R_reads' HO_4.out).2.1); rintro e w' ⟨rfl, ⟨nd, rfl⟩⟩; refine ⟨_, rfl, ?_⟩))
             (try simp only [Act.put, sa_, s0_, ss_])
             go_cut [] (fun wc => ∃ (kq : Nat), Aside0 (laws_FnExactNodesVars.j5 kq t239 t238 = some r) ∧ Aside0 (kq ≤ kj36) ∧ Aside0 (Kd.R Kd.string 9 wc w.heap.size (fun _ => True) (.slice Ao18 t239.length co18) t239) ∧ Aside0 (Below w.heap.size w wc))
             case first =>
              have H := HC45.out
              clear HC45
              by_cases c50 : t247 = true
              ·subst c50
               have H1 : (laws_FnExactNodesVars.j5 kj36 t239 t238) = some r := by rw [if_pos rfl] at H; exact H
               clear H
               have H := H1
               clear H1
               have H' := Aside0.mk H
               clear H
               go_wp2
               go_meet
               case rel => exact ⟨_, H', ⟨by have := HJ9.out; have := HJ22.out; have := HJ28.out; have := HJ32.out; have := HJ36.out; first | omega | exact Nat.le_refl _⟩, ⟨by (try simp only [hl6_36]); (with_reducible repeat (first | apply Kd.R_alloc | apply Kd.R_drewN | apply Kd.R_drew)); exact Kd.R_mono HO_6.out (fun _ hk => trivial)⟩, ⟨by repeat (first | (with_reducible first | exact HB.out | apply below_alloc | apply pw_below_drewN | apply below_drew1) | exact HB.out)⟩⟩
              ·replace c50 := Bool.eq_false_iff.mpr c50
               subst c50
               have H1 : (some false) = some r := by rw [if_neg (show ¬ (false = true) by decide)] at H; exact H
               clear H
               have H := H1
               clear H1
               obtain rfl := Option.some.inj H
               go_wp2
               go_ret
               exact ⟨by first | rfl | (simp [errW_none, errW_some] <;> rfl) | (simp [*, errW_none, errW_some] <;> rfl), by repeat (first | (with_reducible first | exact HB.out | apply below_alloc | apply pw_below_drewN | apply below_drew1) | exact HB.out)⟩
             case rest =>
              clear HC45
              try clear c2
              try clear p2
              try clear c3
              try clear c3b0
              try clear c4
              try clear c5
              try clear c8
              try clear c20
              try clear c26
              try clear c27
              try clear c28
              try clear c30
              try clear c31
              try clear c31b0
              try clear c33
              try clear c34
              try clear c35
              try clear c36
              try clear c37
              try clear c38
              try clear c40
              try clear c40b0
              try clear c41
              try clear c41b0
              try clear c41b1
              try clear c50
              try clear p2
              obtain ⟨kq, HA, HJ44, HO_6, HB⟩ := hcut
              cases kq with
              | zero => exact absurd HA.out (by simp [laws_FnExactNodesVars.j5])
              | succ kj44 =>
               have H := HA.out
               clear HA
               simp only [laws_FnExactNodesVars.j5] at H
               replace H := Option.bind_eq_some_iff.mp H
               obtain ⟨t248, A510, H⟩ := H
               replace H : (if t248 < 0 then (some false) else (if t248 = t238 then (some true) else (some false))) = some r := H
               have A51 := Aside0.mk A510
               clear A510
               by_cases c52 : t248 < 0
               ·rw [if_pos c52] at H
                have c52b0 : decide (t248 < 0) = true := decide_eq_true c52
                clear c52
                obtain rfl := Option.some.inj H
                go_wp2_with (first | ((with_reducible refine gate_callee (f := 38) rfl ?_); refine gl (some 63) Try.func38 #[.slice Ao18 t239.length co18, .int .i64 1] ?_; (with_reducible refine (laws_heldStringS.calls kj44 _ _ t239 1 t248 _ ?side1 ?side2 A51.out).mono ?_); (case side1 => repeat (first | exact (Kd.R_reads' HO_6.out).2.2 | (with_reducible refine Kd.C_alloc ?_ _) | (with_reducible refine Kd.C_drewN ?_ _) | (with_reducible refine Kd.C_drew ?_))); (case side2 => exact (Kd.R_reads' HO_6.out).2.1); rintro e w53 ⟨rfl, hb⟩; refine ⟨_, rfl, ?_⟩; replace HO_6 := am (Kd.R_below (kr HO_6.out) hb); replace HB := am (below_step (bl HB.out) hb); (try clear hb); (try clear hb2); (try clear hk); (try clear hi)))
                go_ret
                exact ⟨by first | rfl | (simp [errW_none, errW_some] <;> rfl) | (simp [*, errW_none, errW_some] <;> rfl), by repeat (first | (with_reducible first | exact HB.out | apply below_alloc | apply pw_below_drewN | apply below_drew1) | exact HB.out)⟩
               ·rw [if_neg c52] at H
                have c52b0 : decide (t248 < 0) = false := decide_eq_false c52
                clear c52
                by_cases c54 : t248 = t238
                ·rw [if_pos c54] at H
                 have c54b0 : (t248 == t238) = true := beq_iff_eq.mpr c54
                 have c54b1 : (t248 != t238) = false := bne_eq_false_iff_eq.mpr c54
                 clear c54
                 obtain rfl := Option.some.inj H
                 go_wp2_with (first | ((with_reducible refine gate_callee (f := 38) rfl ?_); refine gl (some 63) Try.func38 #[.slice Ao18 t239.length co18, .int .i64 1] ?_; (with_reducible refine (laws_heldStringS.calls kj44 _ _ t239 1 t248 _ ?side1 ?side2 A51.out).mono ?_); (case side1 => repeat (first | exact (Kd.R_reads' HO_6.out).2.2 | (with_reducible refine Kd.C_alloc ?_ _) | (with_reducible refine Kd.C_drewN ?_ _) | (with_reducible refine Kd.C_drew ?_))); (case side2 => exact (Kd.R_reads' HO_6.out).2.1); rintro e w55 ⟨rfl, hb⟩; refine ⟨_, rfl, ?_⟩; replace HO_6 := am (Kd.R_below (kr HO_6.out) hb); replace HB := am (below_step (bl HB.out) hb); (try clear hb); (try clear hb2); (try clear hk); (try clear hi)))
                 go_ret
                 exact ⟨by first | rfl | (simp [errW_none, errW_some] <;> rfl) | (simp [*, errW_none, errW_some] <;> rfl), by repeat (first | (with_reducible first | exact HB.out | apply below_alloc | apply pw_below_drewN | apply below_drew1) | exact HB.out)⟩
                ·rw [if_neg c54] at H
                 have c54b0 : (t248 == t238) = false := beq_eq_false_iff_ne.mpr c54
                 have c54b1 : (t248 != t238) = true := bne_iff_ne.mpr c54
                 obtain rfl := Option.some.inj H
                 go_wp2_with (first | ((with_reducible refine gate_callee (f := 38) rfl ?_); refine gl (some 63) Try.func38 #[.slice Ao18 t239.length co18, .int .i64 1] ?_; (with_reducible refine (laws_heldStringS.calls kj44 _ _ t239 1 t248 _ ?side1 ?side2 A51.out).mono ?_); (case side1 => repeat (first | exact (Kd.R_reads' HO_6.out).2.2 | (with_reducible refine Kd.C_alloc ?_ _) | (with_reducible refine Kd.C_drewN ?_ _) | (with_reducible refine Kd.C_drew ?_))); (case side2 => exact (Kd.R_reads' HO_6.out).2.1); rintro e w56 ⟨rfl, hb⟩; refine ⟨_, rfl, ?_⟩; replace HO_6 := am (Kd.R_below (kr HO_6.out) hb); replace HB := am (below_step (bl HB.out) hb); (try clear hb); (try clear hb2); (try clear hk); (try clear hi)))
                 go_ret
                 exact ⟨by first | rfl | (simp [errW_none, errW_some] <;> rfl) | (simp [*, errW_none, errW_some] <;> rfl), by repeat (first | (with_reducible first | exact HB.out | apply below_alloc | apply pw_below_drewN | apply below_drew1) | exact HB.out)⟩
            ·rw [if_neg c41] at H
             have c41b0 : (t240 == t238) = false := beq_eq_false_iff_ne.mpr c41
             have c41b1 : (t240 != t238) = true := bne_iff_ne.mpr c41
             obtain rfl := Option.some.inj H
             go_wp2
             go_ret
             exact ⟨by first | rfl | (simp [errW_none, errW_some] <;> rfl) | (simp [*, errW_none, errW_some] <;> rfl), by repeat (first | (with_reducible first | exact HB.out | apply below_alloc | apply pw_below_drewN | apply below_drew1) | exact HB.out)⟩

/-- THE ONE PURE STATEMENT of laws_FnExactNodesVars. -/
def laws_FnExactNodesVars.Pure : Prop := ∀ (l0 : List (S93)), (l0.length ≤ maxLen ∧ ∀ y0_ ∈ l0, ((Lit.int .i64 y0_.f0).wf = true ∧ (Lit.int .i64 y0_.f1).wf = true ∧ y0_.f2.size ≤ maxLen ∧ (Lit.int .i64 y0_.f3).wf = true)) → ∃ k, laws_FnExactNodesVars.f k l0 = some true

end Go.Proofs.Ytcjclihkaaaihaa.PFnExactNodesVars
