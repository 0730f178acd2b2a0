-- Written by xprint.py (this claim's own program, over the kit's printer); Lean checks it.
import Derived.Test.YtpllahncpjpfmaaPFnExactKeyDropx0
import Derived.Test.YtpllahncpjpfmaaPFnExactKeyDropx1
import Derived.Test.YtpllahncpjpfmaaPFnExactKeyDropx3
import Derived.Test.YtpllahncpjpfmaaPFnExactKeyDropx6
import Derived.Test.YtpllahncpjpfmaaPFnExactKeyDropx7
import Derived.Test.YtpllahncpjpfmaaPFnExactKeyDropx8
namespace Go.Proofs.Ytpllahncpjpfmaa.PFnExactKeyDrop
open Go.RowKit Go.Proofs.YtpllahncpjpfmaaW.PrintWords Go.Proofs.YtpllahncpjpfmaaW.PrintLast Go.Proofs.YtpllahncpjpfmaaW.PrintMore
attribute [local go_sem] max2_int min2_int max_two min_two max_three min_three max_four min_four   -- for this text's walks alone
set_option linter.unusedVariables false
set_option linter.unusedSimpArgs false   -- squeezed

/-! ### laws_FnExactKeyDrop: function 3 -/
mutual
def laws_FnExactKeyDrop.j0 : Nat → List (S31) → Int → ByteArray → List (S34) → List (S34) → List (S34) → Option (Bool)
 | 0, _, _, _, _, _, _ => none
 | k + 1, x0, x1, x2, x8, x9, x10 => (laws_toKeyS.f k x0).bind fun t205 => ((laws_eqKeyS.f k x9 t205).bind fun t208 => (if t208 = true then (laws_FnExactKeyDrop.j1 k x0 x1 x2 x8 x9 x10) else (some false)))
def laws_FnExactKeyDrop.j1 : Nat → List (S31) → Int → ByteArray → List (S34) → List (S34) → List (S34) → Option (Bool)
 | 0, _, _, _, _, _, _ => none
 | k + 1, x0, x1, x2, x8, x9, x10 => (laws_markKeyS.f k x9 1).bind fun bt209 => (if bt209.1 < 0 then (laws_FnExactKeyDrop.j2 k x0 x1 x2 x8 x10 true) else ((laws_eqKeyS.f k x10 x8).bind fun t211 => (laws_FnExactKeyDrop.j2 k x0 x1 x2 x8 x10 (!t211))))
def laws_FnExactKeyDrop.j2 : Nat → List (S31) → Int → ByteArray → List (S34) → List (S34) → Bool → Option (Bool)
 | 0, _, _, _, _, _, _ => none
 | k + 1, x0, x1, x2, x8, x10, x53 => if x53 = true then (some false) else (laws_FnExactKeyDrop.j3 k x0 x1 x2 x8 x10)
def laws_FnExactKeyDrop.j3 : Nat → List (S31) → Int → ByteArray → List (S34) → List (S34) → Option (Bool)
 | 0, _, _, _, _, _ => none
 | k + 1, x0, x1, x2, x8, x10 => (laws_markKeyS.f k x10 1).bind fun bt212 => ((laws_heldKeyS.f k bt212.2 1).bind fun t214 => (if t214 < 0 then (some false) else (laws_FnExactKeyDrop.j4 k x0 x1 x2 x8 bt212.2 bt212.1 t214)))
def laws_FnExactKeyDrop.j4 : Nat → List (S31) → Int → ByteArray → List (S34) → List (S34) → Int → Int → Option (Bool)
 | 0, _, _, _, _, _, _, _ => none
 | k + 1, x0, x1, x2, x8, x10, x12, x13 => if x13 = x12 then ((laws_toKeyS.f k x0).bind fun t215 => ((impl_KeyDrop.f k t215 x1 x2).bind fun t218 => ((laws_eqKeyS.f k t218 x8).bind fun t221 => (if t221 = true then (laws_FnExactKeyDrop.j5 k x10 x12) else (some false))))) else (some false)
def laws_FnExactKeyDrop.j5 : Nat → List (S34) → Int → Option (Bool)
 | 0, _, _ => none
 | k + 1, x10, x12 => (laws_heldKeyS.f k x10 1).bind fun t222 => (if t222 < 0 then (some false) else (if t222 = x12 then (some true) else (some false)))
end
def laws_FnExactKeyDrop.f (k : Nat) (l0 : List (S31)) (a1 : Int) (a2 : ByteArray) : Option (Bool) := if (a2.size : Int) > 1048576 then (some true) else ((laws_szKeyS.f k l0 1048576).bind fun t191 => (if t191 < 0 then (some true) else ((laws_toKeyS.f k l0).bind fun t192 => ((spec_KeyDrop.f k t192 a1 a2).bind fun t195 => ((laws_toKeyS.f k l0).bind fun t198 => ((impl_KeyDrop.f k t198 a1 a2).bind fun t201 => ((laws_eqKeyS.f k t201 t195).bind fun t204 => (if t204 = true then (laws_FnExactKeyDrop.j0 k l0 a1 a2 t195 t198 t201) else (some false)))))))))
theorem laws_FnExactKeyDrop.mono_l : ∀ k, (∀ y0 y1 y2 y3 y4 y5, LeO (laws_FnExactKeyDrop.j0 k y0 y1 y2 y3 y4 y5) (laws_FnExactKeyDrop.j0 (k + 1) y0 y1 y2 y3 y4 y5)) ∧ (∀ y0 y1 y2 y3 y4 y5, LeO (laws_FnExactKeyDrop.j1 k y0 y1 y2 y3 y4 y5) (laws_FnExactKeyDrop.j1 (k + 1) y0 y1 y2 y3 y4 y5)) ∧ (∀ y0 y1 y2 y3 y4 y5, LeO (laws_FnExactKeyDrop.j2 k y0 y1 y2 y3 y4 y5) (laws_FnExactKeyDrop.j2 (k + 1) y0 y1 y2 y3 y4 y5)) ∧ (∀ y0 y1 y2 y3 y4, LeO (laws_FnExactKeyDrop.j3 k y0 y1 y2 y3 y4) (laws_FnExactKeyDrop.j3 (k + 1) y0 y1 y2 y3 y4)) ∧ (∀ y0 y1 y2 y3 y4 y5 y6, LeO (laws_FnExactKeyDrop.j4 k y0 y1 y2 y3 y4 y5 y6) (laws_FnExactKeyDrop.j4 (k + 1) y0 y1 y2 y3 y4 y5 y6)) ∧ (∀ y0 y1, LeO (laws_FnExactKeyDrop.j5 k y0 y1) (laws_FnExactKeyDrop.j5 (k + 1) y0 y1))
 | 0 => ⟨fun _ _ _ _ _ _ r h => by simp [laws_FnExactKeyDrop.j0] at h, fun _ _ _ _ _ _ r h => by simp [laws_FnExactKeyDrop.j1] at h, fun _ _ _ _ _ _ r h => by simp [laws_FnExactKeyDrop.j2] at h, fun _ _ _ _ _ r h => by simp [laws_FnExactKeyDrop.j3] at h, fun _ _ _ _ _ _ _ r h => by simp [laws_FnExactKeyDrop.j4] at h, fun _ _ r h => by simp [laws_FnExactKeyDrop.j5] at h⟩
 | k + 1 => by
  obtain ⟨ih0, ih1, ih2, ih3, ih4, ih5⟩ := laws_FnExactKeyDrop.mono_l k
  refine ⟨?_, ?_, ?_, ?_, ?_, ?_⟩
  ·intro y0 y1 y2 y3 y4 y5
   unfold laws_FnExactKeyDrop.j0
   repeat' first
   | (with_reducible exact ih0 _ _ _ _ _ _)
   | (with_reducible exact ih1 _ _ _ _ _ _)
   | (with_reducible exact ih2 _ _ _ _ _ _)
   | (with_reducible exact ih3 _ _ _ _ _)
   | (with_reducible exact ih4 _ _ _ _ _ _ _)
   | (with_reducible exact ih5 _ _)
   | (with_reducible exact impl_KeyDrop.mono _ _ _ _)
   | (with_reducible exact laws_eqKeyS.mono _ _ _)
   | (with_reducible exact laws_heldKeyS.mono _ _ _)
   | (with_reducible exact laws_markKeyS.mono _ _ _)
   | (with_reducible exact laws_szKeyS.mono _ _ _)
   | (with_reducible exact laws_toKeyS.mono _ _)
   | (with_reducible exact spec_KeyDrop.mono _ _ _ _)
   | (with_reducible exact LeO.refl _)
   | (with_reducible exact LeO.none _)
   | (with_reducible refine LeO.ite ?_ ?_)
   | (with_reducible refine LeO.bind ?_ (fun _ => ?_))
   | exact ih0 _ _ _ _ _ _
   | exact ih1 _ _ _ _ _ _
   | exact ih2 _ _ _ _ _ _
   | exact ih3 _ _ _ _ _
   | exact ih4 _ _ _ _ _ _ _
   | exact ih5 _ _
   | exact impl_KeyDrop.mono _ _ _ _
   | exact laws_eqKeyS.mono _ _ _
   | exact laws_heldKeyS.mono _ _ _
   | exact laws_markKeyS.mono _ _ _
   | exact laws_szKeyS.mono _ _ _
   | exact laws_toKeyS.mono _ _
   | exact spec_KeyDrop.mono _ _ _ _
   | refine LeO.bind ?_ (fun _ => ?_)
  ·intro y0 y1 y2 y3 y4 y5
   unfold laws_FnExactKeyDrop.j1
   repeat' first
   | (with_reducible exact ih0 _ _ _ _ _ _)
   | (with_reducible exact ih1 _ _ _ _ _ _)
   | (with_reducible exact ih2 _ _ _ _ _ _)
   | (with_reducible exact ih3 _ _ _ _ _)
   | (with_reducible exact ih4 _ _ _ _ _ _ _)
   | (with_reducible exact ih5 _ _)
   | (with_reducible exact impl_KeyDrop.mono _ _ _ _)
   | (with_reducible exact laws_eqKeyS.mono _ _ _)
   | (with_reducible exact laws_heldKeyS.mono _ _ _)
   | (with_reducible exact laws_markKeyS.mono _ _ _)
   | (with_reducible exact laws_szKeyS.mono _ _ _)
   | (with_reducible exact laws_toKeyS.mono _ _)
   | (with_reducible exact spec_KeyDrop.mono _ _ _ _)
   | (with_reducible exact LeO.refl _)
   | (with_reducible exact LeO.none _)
   | (with_reducible refine LeO.ite ?_ ?_)
   | (with_reducible refine LeO.bind ?_ (fun _ => ?_))
   | exact ih0 _ _ _ _ _ _
   | exact ih1 _ _ _ _ _ _
   | exact ih2 _ _ _ _ _ _
   | exact ih3 _ _ _ _ _
   | exact ih4 _ _ _ _ _ _ _
   | exact ih5 _ _
   | exact impl_KeyDrop.mono _ _ _ _
   | exact laws_eqKeyS.mono _ _ _
   | exact laws_heldKeyS.mono _ _ _
   | exact laws_markKeyS.mono _ _ _
   | exact laws_szKeyS.mono _ _ _
   | exact laws_toKeyS.mono _ _
   | exact spec_KeyDrop.mono _ _ _ _
   | refine LeO.bind ?_ (fun _ => ?_)
  ·intro y0 y1 y2 y3 y4 y5
   unfold laws_FnExactKeyDrop.j2
   repeat' first
   | (with_reducible exact ih0 _ _ _ _ _ _)
   | (with_reducible exact ih1 _ _ _ _ _ _)
   | (with_reducible exact ih2 _ _ _ _ _ _)
   | (with_reducible exact ih3 _ _ _ _ _)
   | (with_reducible exact ih4 _ _ _ _ _ _ _)
   | (with_reducible exact ih5 _ _)
   | (with_reducible exact impl_KeyDrop.mono _ _ _ _)
   | (with_reducible exact laws_eqKeyS.mono _ _ _)
   | (with_reducible exact laws_heldKeyS.mono _ _ _)
   | (with_reducible exact laws_markKeyS.mono _ _ _)
   | (with_reducible exact laws_szKeyS.mono _ _ _)
   | (with_reducible exact laws_toKeyS.mono _ _)
   | (with_reducible exact spec_KeyDrop.mono _ _ _ _)
   | (with_reducible exact LeO.refl _)
   | (with_reducible exact LeO.none _)
   | (with_reducible refine LeO.ite ?_ ?_)
   | (with_reducible refine LeO.bind ?_ (fun _ => ?_))
   | exact ih0 _ _ _ _ _ _
   | exact ih1 _ _ _ _ _ _
   | exact ih2 _ _ _ _ _ _
   | exact ih3 _ _ _ _ _
   | exact ih4 _ _ _ _ _ _ _
   | exact ih5 _ _
   | exact impl_KeyDrop.mono _ _ _ _
   | exact laws_eqKeyS.mono _ _ _
   | exact laws_heldKeyS.mono _ _ _
   | exact laws_markKeyS.mono _ _ _
   | exact laws_szKeyS.mono _ _ _
   | exact laws_toKeyS.mono _ _
   | exact spec_KeyDrop.mono _ _ _ _
   | refine LeO.bind ?_ (fun _ => ?_)
  ·intro y0 y1 y2 y3 y4
   unfold laws_FnExactKeyDrop.j3
   repeat' first
   | (with_reducible exact ih0 _ _ _ _ _ _)
   | (with_reducible exact ih1 _ _ _ _ _ _)
   | (with_reducible exact ih2 _ _ _ _ _ _)
   | (with_reducible exact ih3 _ _ _ _ _)
   | (with_reducible exact ih4 _ _ _ _ _ _ _)
   | (with_reducible exact ih5 _ _)
   | (with_reducible exact impl_KeyDrop.mono _ _ _ _)
   | (with_reducible exact laws_eqKeyS.mono _ _ _)
   | (with_reducible exact laws_heldKeyS.mono _ _ _)
   | (with_reducible exact laws_markKeyS.mono _ _ _)
   | (with_reducible exact laws_szKeyS.mono _ _ _)
   | (with_reducible exact laws_toKeyS.mono _ _)
   | (with_reducible exact spec_KeyDrop.mono _ _ _ _)
   | (with_reducible exact LeO.refl _)
   | (with_reducible exact LeO.none _)
   | (with_reducible refine LeO.ite ?_ ?_)
   | (with_reducible refine LeO.bind ?_ (fun _ => ?_))
   | exact ih0 _ _ _ _ _ _
   | exact ih1 _ _ _ _ _ _
   | exact ih2 _ _ _ _ _ _
   | exact ih3 _ _ _ _ _
   | exact ih4 _ _ _ _ _ _ _
   | exact ih5 _ _
   | exact impl_KeyDrop.mono _ _ _ _
   | exact laws_eqKeyS.mono _ _ _
   | exact laws_heldKeyS.mono _ _ _
   | exact laws_markKeyS.mono _ _ _
   | exact laws_szKeyS.mono _ _ _
   | exact laws_toKeyS.mono _ _
   | exact spec_KeyDrop.mono _ _ _ _
   | refine LeO.bind ?_ (fun _ => ?_)
  ·intro y0 y1 y2 y3 y4 y5 y6
   unfold laws_FnExactKeyDrop.j4
   repeat' first
   | (with_reducible exact ih0 _ _ _ _ _ _)
   | (with_reducible exact ih1 _ _ _ _ _ _)
   | (with_reducible exact ih2 _ _ _ _ _ _)
   | (with_reducible exact ih3 _ _ _ _ _)
   | (with_reducible exact ih4 _ _ _ _ _ _ _)
   | (with_reducible exact ih5 _ _)
   | (with_reducible exact impl_KeyDrop.mono _ _ _ _)
   | (with_reducible exact laws_eqKeyS.mono _ _ _)
   | (with_reducible exact laws_heldKeyS.mono _ _ _)
   | (with_reducible exact laws_markKeyS.mono _ _ _)
   | (with_reducible exact laws_szKeyS.mono _ _ _)
   | (with_reducible exact laws_toKeyS.mono _ _)
   | (with_reducible exact spec_KeyDrop.mono _ _ _ _)
   | (with_reducible exact LeO.refl _)
   | (with_reducible exact LeO.none _)
   | (with_reducible refine LeO.ite ?_ ?_)
   | (with_reducible refine LeO.bind ?_ (fun _ => ?_))
   | exact ih0 _ _ _ _ _ _
   | exact ih1 _ _ _ _ _ _
   | exact ih2 _ _ _ _ _ _
   | exact ih3 _ _ _ _ _
   | exact ih4 _ _ _ _ _ _ _
   | exact ih5 _ _
   | exact impl_KeyDrop.mono _ _ _ _
   | exact laws_eqKeyS.mono _ _ _
   | exact laws_heldKeyS.mono _ _ _
   | exact laws_markKeyS.mono _ _ _
   | exact laws_szKeyS.mono _ _ _
   | exact laws_toKeyS.mono _ _
   | exact spec_KeyDrop.mono _ _ _ _
   | refine LeO.bind ?_ (fun _ => ?_)
  ·intro y0 y1
   unfold laws_FnExactKeyDrop.j5
   repeat' first
   | (with_reducible exact ih0 _ _ _ _ _ _)
   | (with_reducible exact ih1 _ _ _ _ _ _)
   | (with_reducible exact ih2 _ _ _ _ _ _)
   | (with_reducible exact ih3 _ _ _ _ _)
   | (with_reducible exact ih4 _ _ _ _ _ _ _)
   | (with_reducible exact ih5 _ _)
   | (with_reducible exact impl_KeyDrop.mono _ _ _ _)
   | (with_reducible exact laws_eqKeyS.mono _ _ _)
   | (with_reducible exact laws_heldKeyS.mono _ _ _)
   | (with_reducible exact laws_markKeyS.mono _ _ _)
   | (with_reducible exact laws_szKeyS.mono _ _ _)
   | (with_reducible exact laws_toKeyS.mono _ _)
   | (with_reducible exact spec_KeyDrop.mono _ _ _ _)
   | (with_reducible exact LeO.refl _)
   | (with_reducible exact LeO.none _)
   | (with_reducible refine LeO.ite ?_ ?_)
   | (with_reducible refine LeO.bind ?_ (fun _ => ?_))
   | exact ih0 _ _ _ _ _ _
   | exact ih1 _ _ _ _ _ _
   | exact ih2 _ _ _ _ _ _
   | exact ih3 _ _ _ _ _
   | exact ih4 _ _ _ _ _ _ _
   | exact ih5 _ _
   | exact impl_KeyDrop.mono _ _ _ _
   | exact laws_eqKeyS.mono _ _ _
   | exact laws_heldKeyS.mono _ _ _
   | exact laws_markKeyS.mono _ _ _
   | exact laws_szKeyS.mono _ _ _
   | exact laws_toKeyS.mono _ _
   | exact spec_KeyDrop.mono _ _ _ _
   | refine LeO.bind ?_ (fun _ => ?_)
theorem laws_FnExactKeyDrop.mono : ∀ a0 a1 a2 k, LeO (laws_FnExactKeyDrop.f k a0 a1 a2) (laws_FnExactKeyDrop.f (k + 1) a0 a1 a2) := by
 intro a0 a1 a2 k
 obtain ⟨ih0, ih1, ih2, ih3, ih4, ih5⟩ := laws_FnExactKeyDrop.mono_l k
 unfold laws_FnExactKeyDrop.f
 repeat' first
   | (with_reducible exact ih0 _ _ _ _ _ _)
   | (with_reducible exact ih1 _ _ _ _ _ _)
   | (with_reducible exact ih2 _ _ _ _ _ _)
   | (with_reducible exact ih3 _ _ _ _ _)
   | (with_reducible exact ih4 _ _ _ _ _ _ _)
   | (with_reducible exact ih5 _ _)
   | (with_reducible exact impl_KeyDrop.mono _ _ _ _)
   | (with_reducible exact laws_eqKeyS.mono _ _ _)
   | (with_reducible exact laws_heldKeyS.mono _ _ _)
   | (with_reducible exact laws_markKeyS.mono _ _ _)
   | (with_reducible exact laws_szKeyS.mono _ _ _)
   | (with_reducible exact laws_toKeyS.mono _ _)
   | (with_reducible exact spec_KeyDrop.mono _ _ _ _)
   | (with_reducible exact LeO.refl _)
   | (with_reducible exact LeO.none _)
   | (with_reducible refine LeO.ite ?_ ?_)
   | (with_reducible refine LeO.bind ?_ (fun _ => ?_))
   | exact ih0 _ _ _ _ _ _
   | exact ih1 _ _ _ _ _ _
   | exact ih2 _ _ _ _ _ _
   | exact ih3 _ _ _ _ _
   | exact ih4 _ _ _ _ _ _ _
   | exact ih5 _ _
   | exact impl_KeyDrop.mono _ _ _ _
   | exact laws_eqKeyS.mono _ _ _
   | exact laws_heldKeyS.mono _ _ _
   | exact laws_markKeyS.mono _ _ _
   | exact laws_szKeyS.mono _ _ _
   | exact laws_toKeyS.mono _ _
   | exact spec_KeyDrop.mono _ _ _ _
   | refine LeO.bind ?_ (fun _ => ?_)
set_option maxHeartbeats 8000000 in
set_option maxRecDepth 100000 in
theorem laws_FnExactKeyDrop.calls (k : Nat) (A0 : Option Addr) (c0 : Nat) (l0 : List (S31)) (a1 : Int) (a2 : ByteArray) (r : Bool) (w : World) (hr0 : Kd.C k31 w A0 l0.length l0) (hc0 : l0.length ≤ c0) (h : laws_FnExactKeyDrop.f k l0 a1 a2 = some r) :
  Calls Try.prog 3 #[.slice A0 l0.length c0, .int .i64 a1, .string a2] w fun e w' => e = .returned (.bool r) ∧ Below w.heap.size w w' := by
 have HR0 := am hr0
 have HC0 := am hc0
 clear hr0 hc0
 have HB := am (Below.refl w.heap.size w)
 have H : (if (a2.size : Int) > 1048576 then (some true) else ((laws_szKeyS.f k l0 1048576).bind fun t191 => (if t191 < 0 then (some true) else ((laws_toKeyS.f k l0).bind fun t192 => ((spec_KeyDrop.f k t192 a1 a2).bind fun t195 => ((laws_toKeyS.f k l0).bind fun t198 => ((impl_KeyDrop.f k t198 a1 a2).bind fun t201 => ((laws_eqKeyS.f k t201 t195).bind fun t204 => (if t204 = true then (laws_FnExactKeyDrop.j0 k l0 a1 a2 t195 t198 t201) else (some false)))))))))) = some r := h
 clear h
 by_cases c4 : (a2.size : Int) > 1048576
 ·rw [if_pos c4] at H
  have c4b0 : decide (1048576 < (a2.size : Int)) = true := decide_eq_true c4
  have c4b1 : decide (1048576 < a2.size) = true := decide_eq_true (by omega)
  clear c4
  obtain rfl := Option.some.inj H
  go_enter Try.func3, Try.ntmps3
  go_wp2
  go_ret
  exact ⟨by first | rfl | (simp [errW_none, errW_some] <;> rfl) | (simp [*, errW_none, errW_some] <;> rfl), by repeat (first | (with_reducible first | exact HB.out | apply below_alloc | apply pw_below_drewN | apply below_drew1) | exact HB.out)⟩
 ·rw [if_neg c4] at H
  have c4b0 : decide (1048576 < (a2.size : Int)) = false := decide_eq_false c4
  have c4b1 : decide (1048576 < a2.size) = false := decide_eq_false (by omega)
  clear c4
  replace H := Option.bind_eq_some_iff.mp H
  obtain ⟨t191, A50, H⟩ := H
  replace H : (if t191 < 0 then (some true) else ((laws_toKeyS.f k l0).bind fun t192 => ((spec_KeyDrop.f k t192 a1 a2).bind fun t195 => ((laws_toKeyS.f k l0).bind fun t198 => ((impl_KeyDrop.f k t198 a1 a2).bind fun t201 => ((laws_eqKeyS.f k t201 t195).bind fun t204 => (if t204 = true then (laws_FnExactKeyDrop.j0 k l0 a1 a2 t195 t198 t201) else (some false)))))))) = some r := H
  have A5 := Aside0.mk A50
  clear A50
  by_cases c6 : t191 < 0
  ·rw [if_pos c6] at H
   have c6b0 : decide (t191 < 0) = true := decide_eq_true c6
   clear c6
   obtain rfl := Option.some.inj H
   go_enter Try.func3, Try.ntmps3
   go_wp2_with (first | ((with_reducible refine gate_callee (f := 5) rfl ?_); refine gl (some 20) Try.func5 #[.slice A0 l0.length c0, .int .i64 1048576] ?_; (with_reducible refine (laws_szKeyS.calls k _ _ l0 1048576 t191 _ ?side1 ?side2 A5.out).mono ?_); (case side1 => repeat (first | exact HR0.out | (with_reducible refine Kd.C_alloc ?_ _) | (with_reducible refine Kd.C_drewN ?_ _) | (with_reducible refine Kd.C_drew ?_))); (case side2 => exact HC0.out); rintro e w7 ⟨rfl, hb⟩; refine ⟨_, rfl, ?_⟩; replace HB := am (below_step (bl HB.out) hb); (try clear hb); (try clear hb2); (try clear hk); (try clear hi)))
   go_ret
   exact ⟨by first | rfl | (simp [errW_none, errW_some] <;> rfl) | (simp [*, errW_none, errW_some] <;> rfl), by repeat (first | (with_reducible first | exact HB.out | apply below_alloc | apply pw_below_drewN | apply below_drew1) | exact HB.out)⟩
  ·rw [if_neg c6] at H
   have c6b0 : decide (t191 < 0) = false := decide_eq_false c6
   clear c6
   replace H := Option.bind_eq_some_iff.mp H
   obtain ⟨t192, A80, H⟩ := H
   replace H : ((spec_KeyDrop.f k t192 a1 a2).bind fun t195 => ((laws_toKeyS.f k l0).bind fun t198 => ((impl_KeyDrop.f k t198 a1 a2).bind fun t201 => ((laws_eqKeyS.f k t201 t195).bind fun t204 => (if t204 = true then (laws_FnExactKeyDrop.j0 k l0 a1 a2 t195 t198 t201) else (some false)))))) = some r := H
   have A8 := Aside0.mk A80
   clear A80
   replace H := Option.bind_eq_some_iff.mp H
   obtain ⟨t195, A90, H⟩ := H
   replace H : ((laws_toKeyS.f k l0).bind fun t198 => ((impl_KeyDrop.f k t198 a1 a2).bind fun t201 => ((laws_eqKeyS.f k t201 t195).bind fun t204 => (if t204 = true then (laws_FnExactKeyDrop.j0 k l0 a1 a2 t195 t198 t201) else (some false))))) = some r := H
   have A9 := Aside0.mk A90
   clear A90
   replace H := Option.bind_eq_some_iff.mp H
   obtain ⟨t198, A100, H⟩ := H
   replace H : ((impl_KeyDrop.f k t198 a1 a2).bind fun t201 => ((laws_eqKeyS.f k t201 t195).bind fun t204 => (if t204 = true then (laws_FnExactKeyDrop.j0 k l0 a1 a2 t195 t198 t201) else (some false)))) = some r := H
   have A10 := Aside0.mk A100
   clear A100
   replace H := Option.bind_eq_some_iff.mp H
   obtain ⟨t201, A110, H⟩ := H
   replace H : ((laws_eqKeyS.f k t201 t195).bind fun t204 => (if t204 = true then (laws_FnExactKeyDrop.j0 k l0 a1 a2 t195 t198 t201) else (some false))) = some r := H
   have A11 := Aside0.mk A110
   clear A110
   replace H := Option.bind_eq_some_iff.mp H
   obtain ⟨t204, A120, H⟩ := H
   replace H : (if t204 = true then (laws_FnExactKeyDrop.j0 k l0 a1 a2 t195 t198 t201) else (some false)) = some r := H
   have A12 := Aside0.mk A120
   clear A120
   have HC13 := Aside0.mk H
   clear H
   go_enter Try.func3, Try.ntmps3
   go_upto_if 37 with (first | ((with_reducible refine gate_callee (f := 5) rfl ?_); refine gl (some 20) Try.func5 #[.slice A0 l0.length c0, .int .i64 1048576] ?_; (with_reducible refine (laws_szKeyS.calls k _ _ l0 1048576 t191 _ ?side1 ?side2 A5.out).mono ?_); (case side1 => repeat (first | exact HR0.out | (with_reducible refine Kd.C_alloc ?_ _) | (with_reducible refine Kd.C_drewN ?_ _) | (with_reducible refine Kd.C_drew ?_))); (case side2 => exact HC0.out); rintro e w14 ⟨rfl, hb⟩; refine ⟨_, rfl, ?_⟩; replace HB := am (below_step (bl HB.out) hb); (try clear hb); (try clear hb2); (try clear hk); (try clear hi)) | ((with_reducible refine gate_callee (f := 7) rfl ?_); refine gl (some 24) Try.func7 #[.slice A0 l0.length c0] ?_; (with_reducible refine (laws_toKeyS.calls k _ _ l0 t192 _ ?side1 ?side2 A8.out).mono ?_); (case side1 => repeat (first | exact (Kd.C_below HR0.out HB.out) | (with_reducible refine Kd.C_alloc ?_ _) | (with_reducible refine Kd.C_drewN ?_ _) | (with_reducible refine Kd.C_drew ?_))); (case side2 => exact HC0.out); rintro e w15 ⟨v193, rfl, ho0, hb⟩; refine ⟨_, rfl, ?_⟩; have HO194 := am (Kd.R_lower ho0 (below_size (bl HB.out))); replace HB := am (below_step (bl HB.out) hb); (try clear hb); (try clear hb2); (try clear hk); (try clear hi); (try clear ho0); obtain ⟨Ao16, co16, eo16⟩ := Kd.R_slice HO194.out; subst eo16) | ((with_reducible refine gate_callee (f := 6) rfl ?_); refine gl (some 27) Try.func6 #[.slice Ao16 t192.length co16, .int .i64 a1, .string a2] ?_; (with_reducible refine (spec_KeyDrop.calls k _ _ t192 a1 a2 t195 _ ?side1 ?side2 A9.out).mono ?_); (case side1 => repeat (first | exact (Kd.R_reads' HO194.out).2.2 | (with_reducible refine Kd.C_alloc ?_ _) | (with_reducible refine Kd.C_drewN ?_ _) | (with_reducible refine Kd.C_drew ?_))); (case side2 => exact (Kd.R_reads' HO194.out).2.1); rintro e w17 ⟨v196, rfl, ho0, hb⟩; refine ⟨_, rfl, ?_⟩; have HO197 := am (Kd.R_lower (Kd.R_new' ho0 (Kd.R_lt (kr HO194.out))) (below_size (bl HB.out))); replace HO194 := am (Kd.R_elder' (kr HO194.out) (Kd.R_base ho0) hb); replace HB := am (below_step (bl HB.out) hb); (try clear hb); (try clear hb2); (try clear hk); (try clear hi); (try clear ho0)) | ((with_reducible refine gate_callee (f := 7) rfl ?_); refine gl (some 29) Try.func7 #[.slice A0 l0.length c0] ?_; (with_reducible refine (laws_toKeyS.calls k _ _ l0 t198 _ ?side1 ?side2 A10.out).mono ?_); (case side1 => repeat (first | exact (Kd.C_below HR0.out HB.out) | (with_reducible refine Kd.C_alloc ?_ _) | (with_reducible refine Kd.C_drewN ?_ _) | (with_reducible refine Kd.C_drew ?_))); (case side2 => exact HC0.out); rintro e w18 ⟨v199, rfl, ho0, hb⟩; refine ⟨_, rfl, ?_⟩; have HO200 := am (Kd.R_lower (Kd.R_new' (Kd.R_new' ho0 (Kd.R_lt (kr HO194.out))) (Kd.R_lt (kr HO197.out))) (below_size (bl HB.out))); replace HO194 := am (Kd.R_elder' (kr HO194.out) (Kd.R_base ho0) hb); replace HO197 := am (Kd.R_elder' (kr HO197.out) (Kd.R_base ho0) hb); replace HB := am (below_step (bl HB.out) hb); (try clear hb); (try clear hb2); (try clear hk); (try clear hi); (try clear ho0); obtain ⟨Ao19, co19, eo19⟩ := Kd.R_slice HO200.out; subst eo19) | ((with_reducible refine gate_callee (f := 8) rfl ?_); refine gl (some 33) Try.func8 #[.slice Ao19 t198.length co19, .int .i64 a1, .string a2] ?_; (with_reducible refine (impl_KeyDrop.calls k _ _ t198 a1 a2 t201 _ ?side1 ?side2 A11.out).mono ?_); (case side1 => repeat (first | exact (Kd.R_reads' HO200.out).2.2 | (with_reducible refine Kd.C_alloc ?_ _) | (with_reducible refine Kd.C_drewN ?_ _) | (with_reducible refine Kd.C_drew ?_))); (case side2 => exact (Kd.R_reads' HO200.out).2.1); rintro e w20 ⟨v202, rfl, ho0, hb⟩; refine ⟨_, rfl, ?_⟩; have HO203 := am (Kd.R_lower (Kd.R_new' (Kd.R_new' (Kd.R_new' ho0 (Kd.R_lt (kr HO194.out))) (Kd.R_lt (kr HO197.out))) (Kd.R_lt (kr HO200.out))) (below_size (bl HB.out))); replace HO194 := am (Kd.R_elder' (kr HO194.out) (Kd.R_base ho0) hb); replace HO197 := am (Kd.R_elder' (kr HO197.out) (Kd.R_base ho0) hb); replace HO200 := am (Kd.R_elder' (kr HO200.out) (Kd.R_base ho0) hb); replace HB := am (below_step (bl HB.out) hb); (try clear hb); (try clear hb2); (try clear hk); (try clear hi); (try clear ho0); obtain ⟨Ao21, co21, eo21⟩ := Kd.R_slice HO203.out; subst eo21; obtain ⟨Ao22, co22, eo22⟩ := Kd.R_slice HO197.out; subst eo22) | ((with_reducible refine gate_callee (f := 9) rfl ?_); refine gl (some 36) Try.func9 #[.slice Ao21 t201.length co21, .slice Ao22 t195.length co22] ?_; (with_reducible refine (laws_eqKeyS.calls k _ _ t201 _ _ t195 t204 _ ?side1 ?side2 ?side3 ?side4 A12.out).mono ?_); (case side1 => repeat (first | exact (Kd.R_reads' HO203.out).2.2 | (with_reducible refine Kd.C_alloc ?_ _) | (with_reducible refine Kd.C_drewN ?_ _) | (with_reducible refine Kd.C_drew ?_))); (case side2 => exact (Kd.R_reads' HO203.out).2.1); (case side3 => repeat (first | exact (Kd.R_reads' HO197.out).2.2 | (with_reducible refine Kd.C_alloc ?_ _) | (with_reducible refine Kd.C_drewN ?_ _) | (with_reducible refine Kd.C_drew ?_))); (case side4 => exact (Kd.R_reads' HO197.out).2.1); rintro e w23 ⟨rfl, hb⟩; refine ⟨_, rfl, ?_⟩; replace HO194 := am (Kd.R_below (kr HO194.out) hb); replace HO197 := am (Kd.R_below (kr HO197.out) hb); replace HO200 := am (Kd.R_below (kr HO200.out) hb); replace HO203 := am (Kd.R_below (kr HO203.out) hb); replace HB := am (below_step (bl HB.out) hb); (try clear hb); (try clear hb2); (try clear hk); (try clear hi)))
   (try simp only [Act.put, sa_, s0_, ss_])
   go_cut [] (fun wc => ∃ (kq : Nat), Aside0 (laws_FnExactKeyDrop.j0 kq l0 a1 a2 t195 t198 t201 = some r) ∧ Aside0 (kq ≤ k) ∧ Aside0 (Kd.R k34 34 wc w.heap.size (fun k_ => some k_ ≠ ((.slice Ao19 t198.length co19) : Value).ownBlock ∧ some k_ ≠ ((.slice Ao21 t201.length co21) : Value).ownBlock) (.slice Ao22 t195.length co22) t195) ∧ Aside0 (Kd.R k34 34 wc w.heap.size (fun k_ => some k_ ≠ ((.slice Ao22 t195.length co22) : Value).ownBlock ∧ some k_ ≠ ((.slice Ao21 t201.length co21) : Value).ownBlock) (.slice Ao19 t198.length co19) t198) ∧ Aside0 (Kd.R k34 34 wc w.heap.size (fun k_ => some k_ ≠ ((.slice Ao22 t195.length co22) : Value).ownBlock ∧ some k_ ≠ ((.slice Ao19 t198.length co19) : Value).ownBlock) (.slice Ao21 t201.length co21) t201) ∧ Aside0 (Below w.heap.size w wc))
   case first =>
    have H := HC13.out
    clear HC13
    by_cases c24 : t204 = true
    ·subst c24
     have H1 : (laws_FnExactKeyDrop.j0 k l0 a1 a2 t195 t198 t201) = some r := by rw [if_pos rfl] at H; exact H
     clear H
     have H := H1
     clear H1
     have H' := Aside0.mk H
     clear H
     go_wp2
     go_meet
     case rel => exact ⟨_, H', ⟨by first | omega | exact Nat.le_refl _⟩, ⟨kr (Kd.R_mono HO197.out (fun _ hk => ⟨hk.1.2, hk.2⟩))⟩, ⟨kr (Kd.R_mono HO200.out (fun _ hk => ⟨hk.1.2, hk.2⟩))⟩, ⟨kr (Kd.R_mono HO203.out (fun _ hk => ⟨hk.1.2, hk.2⟩))⟩, ⟨by repeat (first | (with_reducible first | exact HB.out | apply below_alloc | apply pw_below_drewN | apply below_drew1) | exact HB.out)⟩⟩
    ·replace c24 := Bool.eq_false_iff.mpr c24
     subst c24
     have H1 : (some false) = some r := by rw [if_neg (show ¬ (false = true) by decide)] at H; exact H
     clear H
     have H := H1
     clear H1
     obtain rfl := Option.some.inj H
     go_wp2
     go_ret
     exact ⟨by first | rfl | (simp [errW_none, errW_some] <;> rfl) | (simp [*, errW_none, errW_some] <;> rfl), by repeat (first | (with_reducible first | exact HB.out | apply below_alloc | apply pw_below_drewN | apply below_drew1) | exact HB.out)⟩
   case rest =>
    clear HC13
    try clear c2
    try clear p2
    try clear c3
    try clear c4
    try clear c4b0
    try clear c4b1
    try clear c5
    try clear c6
    try clear c6b0
    try clear c7
    try clear c8
    try clear c9
    try clear c24
    obtain ⟨kq, HA, HJ12, HO_8, HO_9, HO_10, HB⟩ := hcut
    cases kq with
    | zero => exact absurd HA.out (by simp [laws_FnExactKeyDrop.j0])
    | succ kj12 =>
     have H := HA.out
     clear HA
     simp only [laws_FnExactKeyDrop.j0] at H
     replace H := Option.bind_eq_some_iff.mp H
     obtain ⟨t205, A250, H⟩ := H
     replace H : ((laws_eqKeyS.f kj12 t198 t205).bind fun t208 => (if t208 = true then (laws_FnExactKeyDrop.j1 kj12 l0 a1 a2 t195 t198 t201) else (some false))) = some r := H
     have A25 := Aside0.mk A250
     clear A250
     replace H := Option.bind_eq_some_iff.mp H
     obtain ⟨t208, A260, H⟩ := H
     replace H : (if t208 = true then (laws_FnExactKeyDrop.j1 kj12 l0 a1 a2 t195 t198 t201) else (some false)) = some r := H
     have A26 := Aside0.mk A260
     clear A260
     have HC27 := Aside0.mk H
     clear H
     go_upto_if 42 with (first | ((with_reducible refine gate_callee (f := 7) rfl ?_); refine gl (some 40) Try.func7 #[.slice A0 l0.length c0] ?_; (with_reducible refine (laws_toKeyS.calls kj12 _ _ l0 t205 _ ?side1 ?side2 A25.out).mono ?_); (case side1 => repeat (first | exact (Kd.C_below HR0.out HB.out) | (with_reducible refine Kd.C_alloc ?_ _) | (with_reducible refine Kd.C_drewN ?_ _) | (with_reducible refine Kd.C_drew ?_))); (case side2 => exact HC0.out); rintro e w28 ⟨v206, rfl, ho0, hb⟩; refine ⟨_, rfl, ?_⟩; have HO207 := am (Kd.R_lower (Kd.R_new' (Kd.R_new' (Kd.R_new' ho0 (Kd.R_lt (kr HO_8.out))) (Kd.R_lt (kr HO_9.out))) (Kd.R_lt (kr HO_10.out))) (below_size (bl HB.out))); replace HO_8 := am (Kd.R_elder' (kr HO_8.out) (Kd.R_base ho0) hb); replace HO_9 := am (Kd.R_elder' (kr HO_9.out) (Kd.R_base ho0) hb); replace HO_10 := am (Kd.R_elder' (kr HO_10.out) (Kd.R_base ho0) hb); replace HB := am (below_step (bl HB.out) hb); (try clear hb); (try clear hb2); (try clear hk); (try clear hi); (try clear ho0); obtain ⟨Ao29, co29, eo29⟩ := Kd.R_slice HO207.out; subst eo29) | ((with_reducible refine gate_callee (f := 9) rfl ?_); refine gl (some 41) Try.func9 #[.slice Ao19 t198.length co19, .slice Ao29 t205.length co29] ?_; (with_reducible refine (laws_eqKeyS.calls kj12 _ _ t198 _ _ t205 t208 _ ?side1 ?side2 ?side3 ?side4 A26.out).mono ?_); (case side1 => repeat (first | exact (Kd.R_reads' HO_9.out).2.2 | (with_reducible refine Kd.C_alloc ?_ _) | (with_reducible refine Kd.C_drewN ?_ _) | (with_reducible refine Kd.C_drew ?_))); (case side2 => exact (Kd.R_reads' HO_9.out).2.1); (case side3 => repeat (first | exact (Kd.R_reads' HO207.out).2.2 | (with_reducible refine Kd.C_alloc ?_ _) | (with_reducible refine Kd.C_drewN ?_ _) | (with_reducible refine Kd.C_drew ?_))); (case side4 => exact (Kd.R_reads' HO207.out).2.1); rintro e w30 ⟨rfl, hb⟩; refine ⟨_, rfl, ?_⟩; replace HO_8 := am (Kd.R_below (kr HO_8.out) hb); replace HO_9 := am (Kd.R_below (kr HO_9.out) hb); replace HO_10 := am (Kd.R_below (kr HO_10.out) hb); replace HO207 := am (Kd.R_below (kr HO207.out) hb); replace HB := am (below_step (bl HB.out) hb); (try clear hb); (try clear hb2); (try clear hk); (try clear hi)))
     (try simp only [Act.put, sa_, s0_, ss_])
     go_cut [] (fun wc => ∃ (kq : Nat), Aside0 (laws_FnExactKeyDrop.j1 kq l0 a1 a2 t195 t198 t201 = some r) ∧ Aside0 (kq ≤ kj12) ∧ Aside0 (Kd.R k34 34 wc w.heap.size (fun k_ => some k_ ≠ ((.slice Ao19 t198.length co19) : Value).ownBlock ∧ some k_ ≠ ((.slice Ao21 t201.length co21) : Value).ownBlock) (.slice Ao22 t195.length co22) t195) ∧ Aside0 (Kd.R k34 34 wc w.heap.size (fun k_ => some k_ ≠ ((.slice Ao22 t195.length co22) : Value).ownBlock ∧ some k_ ≠ ((.slice Ao21 t201.length co21) : Value).ownBlock) (.slice Ao19 t198.length co19) t198) ∧ Aside0 (Kd.R k34 34 wc w.heap.size (fun k_ => some k_ ≠ ((.slice Ao22 t195.length co22) : Value).ownBlock ∧ some k_ ≠ ((.slice Ao19 t198.length co19) : Value).ownBlock) (.slice Ao21 t201.length co21) t201) ∧ Aside0 (Below w.heap.size w wc))
     case first =>
      have H := HC27.out
      clear HC27
      by_cases c31 : t208 = true
      ·subst c31
       have H1 : (laws_FnExactKeyDrop.j1 kj12 l0 a1 a2 t195 t198 t201) = some r := by rw [if_pos rfl] at H; exact H
       clear H
       have H := H1
       clear H1
       have H' := Aside0.mk H
       clear H
       go_wp2
       go_meet
       case rel => exact ⟨_, H', ⟨by have := HJ12.out; first | omega | exact Nat.le_refl _⟩, ⟨kr (Kd.R_mono HO_8.out (fun _ hk => ⟨hk.1.1, hk.1.2⟩))⟩, ⟨kr (Kd.R_mono HO_9.out (fun _ hk => ⟨hk.1.1, hk.1.2⟩))⟩, ⟨kr (Kd.R_mono HO_10.out (fun _ hk => ⟨hk.1.1, hk.1.2⟩))⟩, ⟨by repeat (first | (with_reducible first | exact HB.out | apply below_alloc | apply pw_below_drewN | apply below_drew1) | exact HB.out)⟩⟩
      ·replace c31 := Bool.eq_false_iff.mpr c31
       subst c31
       have H1 : (some false) = some r := by rw [if_neg (show ¬ (false = true) by decide)] at H; exact H
       clear H
       have H := H1
       clear H1
       obtain rfl := Option.some.inj H
       go_wp2
       go_ret
       exact ⟨by first | rfl | (simp [errW_none, errW_some] <;> rfl) | (simp [*, errW_none, errW_some] <;> rfl), by repeat (first | (with_reducible first | exact HB.out | apply below_alloc | apply pw_below_drewN | apply below_drew1) | exact HB.out)⟩
     case rest =>
      clear HC27
      try clear c2
      try clear p2
      try clear c3
      try clear c4
      try clear c4b0
      try clear c4b1
      try clear c5
      try clear c6
      try clear c6b0
      try clear c7
      try clear c8
      try clear c9
      try clear c24
      try clear c31
      try clear p2
      obtain ⟨kq, HA, HJ26, HO_8, HO_9, HO_10, HB⟩ := hcut
      cases kq with
      | zero => exact absurd HA.out (by simp [laws_FnExactKeyDrop.j1])
      | succ kj26 =>
       have H := HA.out
       clear HA
       simp only [laws_FnExactKeyDrop.j1] at H
       replace H := Option.bind_eq_some_iff.mp H
       obtain ⟨⟨t209, t210⟩, A320, H⟩ := H
       replace H : (if t209 < 0 then (laws_FnExactKeyDrop.j2 kj26 l0 a1 a2 t195 t201 true) else ((laws_eqKeyS.f kj26 t201 t195).bind fun t211 => (laws_FnExactKeyDrop.j2 kj26 l0 a1 a2 t195 t201 (!t211)))) = some r := H
       have A32 := Aside0.mk A320
       clear A320
       have HC33 := Aside0.mk H
       clear H
       go_upto_region 16 with (first | ((with_reducible refine gate_callee (f := 10) rfl ?_); refine gl (some 45) Try.func10 #[.slice Ao19 t198.length co19, .int .i64 1] ?_; (with_reducible refine (laws_markKeyS.calls kj26 (fun k_ => some k_ = (.slice Ao19 t198.length co19 : Value).ownBlock) (.slice Ao19 t198.length co19) t198 1 t209 t210 w _ ?side1 ?side2 A32.out).mono ?_); (case side1 => repeat (first | (with_reducible first | exact HB.out | apply below_alloc | apply pw_below_drewN | apply below_drew1) | exact HB.out)); (case side2 => exact Kd.R_tight rfl HO_9.out); rintro e w34 ⟨rfl, hy0, hb, hkp⟩; refine ⟨_, rfl, ?_⟩; replace HO_8 := am (Kd.R_mono (ok' := fun k_ => some k_ ≠ (.slice Ao19 t198.length co19 : Value).ownBlock ∧ some k_ ≠ (.slice Ao21 t201.length co21 : Value).ownBlock) (Kd.R_keptB (HO_8.out) hkp (fun k_ hk_ hs_ => (hk_.1) hs_)) (fun k_ hk_ => ⟨hk_.1.1, hk_.1.2⟩)); replace HO_9 := am (Kd.R_reok rfl hy0 (fun k_ e_ => HO_9.out.1 k_ e_)); replace HO_10 := am (Kd.R_mono (ok' := fun k_ => some k_ ≠ (.slice Ao22 t195.length co22 : Value).ownBlock ∧ some k_ ≠ (.slice Ao19 t198.length co19 : Value).ownBlock) (Kd.R_keptB (HO_10.out) hkp (fun k_ hk_ hs_ => (hk_.2) hs_)) (fun k_ hk_ => ⟨hk_.1.1, hk_.1.2⟩)); replace HB := am (hb); (try clear hb); (try clear hkp); (try clear hy0)))
       (try simp only [Act.put, sa_, s0_, ss_])
       go_cut [53] (fun v53 wc => ∃ (kq : Nat) (x53_32 : Bool), v53 = .bool x53_32 ∧ Aside0 (laws_FnExactKeyDrop.j2 kq l0 a1 a2 t195 t201 x53_32 = some r) ∧ Aside0 (kq ≤ kj26) ∧ Aside0 (Kd.R k34 34 wc w.heap.size (fun k_ => some k_ ≠ ((.slice Ao21 t201.length co21) : Value).ownBlock) (.slice Ao22 t195.length co22) t195) ∧ Aside0 (Kd.R k34 34 wc w.heap.size (fun k_ => some k_ ≠ ((.slice Ao22 t195.length co22) : Value).ownBlock) (.slice Ao21 t201.length co21) t201) ∧ Aside0 (Below w.heap.size w wc))
       case first =>
        have H := HC33.out
        clear HC33
        by_cases c35 : t209 < 0
        ·rw [if_pos c35] at H
         have c35b0 : decide (t209 < 0) = true := decide_eq_true c35
         clear c35
         (first | rw [c35b0] | (simp only [i64_w, i32_w]; rw [c35b0]) | (have e9_ := c35b0; unfold bne at e9_; rw [e9_]) | skip)
         have H' := Aside0.mk H
         clear H
         go_wp2
         go_meet
         case rel => exact ⟨_, (true), (by first | rfl | (simp; done) | (simp [*]; done)), H', ⟨by have := HJ12.out; have := HJ26.out; first | omega | exact Nat.le_refl _⟩, ⟨kr (Kd.R_mono HO_8.out (fun _ hk => hk.2))⟩, ⟨kr (Kd.R_mono HO_10.out (fun _ hk => hk.1))⟩, ⟨by repeat (first | (with_reducible first | exact HB.out | apply below_alloc | apply pw_below_drewN | apply below_drew1) | exact HB.out)⟩⟩
        ·rw [if_neg c35] at H
         have c35b0 : decide (t209 < 0) = false := decide_eq_false c35
         clear c35
         (first | rw [c35b0] | (simp only [i64_w, i32_w]; rw [c35b0]) | (have e9_ := c35b0; unfold bne at e9_; rw [e9_]) | skip)
         replace H := Option.bind_eq_some_iff.mp H
         obtain ⟨t211, A360, H⟩ := H
         replace H : (laws_FnExactKeyDrop.j2 kj26 l0 a1 a2 t195 t201 (!t211)) = some r := H
         have A36 := Aside0.mk A360
         clear A360
         have H' := Aside0.mk H
         clear H
         go_wp2_with (first | (go_at_call 9; (with_reducible refine (laws_eqKeyS.calls kj26 _ _ t201 _ _ t195 t211 _ ?side1 ?side2 ?side3 ?side4 A36.out).mono ?_); (case side1 => repeat (first | exact (Kd.R_reads' HO_10.out).2.2 | (with_reducible refine Kd.C_alloc ?_ _) | (with_reducible refine Kd.C_drewN ?_ _) | (with_reducible refine Kd.C_drew ?_))); (case side2 => exact (Kd.R_reads' HO_10.out).2.1); (case side3 => repeat (first | exact (Kd.R_reads' HO_8.out).2.2 | (with_reducible refine Kd.C_alloc ?_ _) | (with_reducible refine Kd.C_drewN ?_ _) | (with_reducible refine Kd.C_drew ?_))); (case side4 => exact (Kd.R_reads' HO_8.out).2.1); rintro e w37 ⟨rfl, hb⟩; replace HO_8 := am (Kd.R_below (kr HO_8.out) hb); replace HO_9 := am (Kd.R_below (kr HO_9.out) hb); replace HO_10 := am (Kd.R_below (kr HO_10.out) hb); replace HB := am (below_step (bl HB.out) hb); (try clear hb); (try clear hb2); (try clear hk); (try clear hi)))
         go_meet
         case rel => exact ⟨_, (!t211), (by first | rfl | (simp; done) | (simp [*]; done)), H', ⟨by have := HJ12.out; have := HJ26.out; first | omega | exact Nat.le_refl _⟩, ⟨kr (Kd.R_mono HO_8.out (fun _ hk => hk.2))⟩, ⟨kr (Kd.R_mono HO_10.out (fun _ hk => hk.1))⟩, ⟨by repeat (first | (with_reducible first | exact HB.out | apply below_alloc | apply pw_below_drewN | apply below_drew1) | exact HB.out)⟩⟩
       case rest =>
        clear HC33
        try clear c1
        try clear c2
        try clear p2
        try clear c3
        try clear c4
        try clear c4b0
        try clear c4b1
        try clear c5
        try clear c6
        try clear c6b0
        try clear c7
        try clear c8
        try clear c9
        try clear c10
        try clear c24
        try clear c31
        try clear c35
        try clear c35b0
        try clear p2
        obtain ⟨kq, x53_32, rfl, HA, HJ32, HO_8, HO_10, HB⟩ := hcut
        cases kq with
        | zero => exact absurd HA.out (by simp [laws_FnExactKeyDrop.j2])
        | succ kj32 =>
         have H := HA.out
         clear HA
         simp only [laws_FnExactKeyDrop.j2] at H
         have HC38 := Aside0.mk H
         clear H
         go_upto_if 53 with (fail)
         go_cut [] (fun wc => ∃ (kq : Nat), Aside0 (laws_FnExactKeyDrop.j3 kq l0 a1 a2 t195 t201 = some r) ∧ Aside0 (kq ≤ kj32) ∧ Aside0 (Kd.R k34 34 wc w.heap.size (fun k_ => some k_ ≠ ((.slice Ao21 t201.length co21) : Value).ownBlock) (.slice Ao22 t195.length co22) t195) ∧ Aside0 (Kd.R k34 34 wc w.heap.size (fun k_ => some k_ ≠ ((.slice Ao22 t195.length co22) : Value).ownBlock) (.slice Ao21 t201.length co21) t201) ∧ Aside0 (Below w.heap.size w wc))
         case first =>
          have H := HC38.out
          clear HC38
          by_cases c39 : x53_32 = true
          ·subst c39
           have H1 : (some false) = some r := by rw [if_pos rfl] at H; exact H
           clear H
           have H := H1
           clear H1
           obtain rfl := Option.some.inj H
           go_wp2
           go_ret
           exact ⟨by first | rfl | (simp [errW_none, errW_some] <;> rfl) | (simp [*, errW_none, errW_some] <;> rfl), by repeat (first | (with_reducible first | exact HB.out | apply below_alloc | apply pw_below_drewN | apply below_drew1) | exact HB.out)⟩
          ·replace c39 := Bool.eq_false_iff.mpr c39
           subst c39
           have H1 : (laws_FnExactKeyDrop.j3 kj32 l0 a1 a2 t195 t201) = some r := by rw [if_neg (show ¬ (false = true) by decide)] at H; exact H
           clear H
           have H := H1
           clear H1
           have H' := Aside0.mk H
           clear H
           go_wp2
           go_meet
           case rel => exact ⟨_, H', ⟨by have := HJ12.out; have := HJ26.out; have := HJ32.out; first | omega | exact Nat.le_refl _⟩, ⟨kr HO_8.out⟩, ⟨kr HO_10.out⟩, ⟨by repeat (first | (with_reducible first | exact HB.out | apply below_alloc | apply pw_below_drewN | apply below_drew1) | exact HB.out)⟩⟩
         case rest =>
          clear HC38
          try clear c1
          try clear c2
          try clear p2
          try clear c3
          try clear c4
          try clear c4b0
          try clear c4b1
          try clear c5
          try clear c6
          try clear c6b0
          try clear c7
          try clear c8
          try clear c9
          try clear c10
          try clear c24
          try clear c31
          try clear c35
          try clear c35b0
          try clear c39
          try clear p2
          obtain ⟨kq, HA, HJ37, HO_8, HO_10, HB⟩ := hcut
          cases kq with
          | zero => exact absurd HA.out (by simp [laws_FnExactKeyDrop.j3])
          | succ kj37 =>
           have H := HA.out
           clear HA
           simp only [laws_FnExactKeyDrop.j3] at H
           replace H := Option.bind_eq_some_iff.mp H
           obtain ⟨⟨t212, t213⟩, A400, H⟩ := H
           replace H : ((laws_heldKeyS.f kj37 t213 1).bind fun t214 => (if t214 < 0 then (some false) else (laws_FnExactKeyDrop.j4 kj37 l0 a1 a2 t195 t213 t212 t214))) = some r := H
           have A40 := Aside0.mk A400
           clear A400
           replace H := Option.bind_eq_some_iff.mp H
           obtain ⟨t214, A410, H⟩ := H
           replace H : (if t214 < 0 then (some false) else (laws_FnExactKeyDrop.j4 kj37 l0 a1 a2 t195 t213 t212 t214)) = some r := H
           have A41 := Aside0.mk A410
           clear A410
           have HC42 := Aside0.mk H
           clear H
           go_upto_if 61 with (first | ((with_reducible refine gate_callee (f := 10) rfl ?_); refine gl (some 56) Try.func10 #[.slice Ao21 t201.length co21, .int .i64 1] ?_; (with_reducible refine (laws_markKeyS.calls kj37 (fun k_ => some k_ = (.slice Ao21 t201.length co21 : Value).ownBlock) (.slice Ao21 t201.length co21) t201 1 t212 t213 w _ ?side1 ?side2 A40.out).mono ?_); (case side1 => repeat (first | (with_reducible first | exact HB.out | apply below_alloc | apply pw_below_drewN | apply below_drew1) | exact HB.out)); (case side2 => exact Kd.R_tight rfl HO_10.out); rintro e w43 ⟨rfl, hy0, hb, hkp⟩; refine ⟨_, rfl, ?_⟩; replace HO_8 := am (Kd.R_mono (ok' := fun k_ => some k_ ≠ (.slice Ao21 t201.length co21 : Value).ownBlock) (Kd.R_keptB (HO_8.out) hkp (fun k_ hk_ hs_ => (hk_) hs_)) (fun k_ hk_ => hk_.1)); replace HO_10 := am (Kd.R_reok rfl hy0 (fun k_ e_ => HO_10.out.1 k_ e_)); replace HB := am (hb); (try clear hb); (try clear hkp); (try clear hy0)) | ((with_reducible refine gate_callee (f := 11) rfl ?_); refine goesL_ (some 59) rfl rfl Try.func11 (by kernel_rfl) rfl #[.slice Ao21 t213.length co21, .int .i64 1] rfl (by (try simp only [List.map_toArray, List.map_cons, List.map_nil]); first | done | (rw [show t213.length = t201.length from (Kd.R_reads' HO_10.out).1.symm] <;> rfl) | rfl | (simp only [List.length_drop, List.length_take]; rfl)) ?_; (with_reducible refine (laws_heldKeyS.calls kj37 _ _ t213 1 t214 _ ?side1 ?side2 A41.out).mono ?_); (case side1 => repeat (first | exact (Kd.R_reads' HO_10.out).2.2 | (with_reducible refine Kd.C_alloc ?_ _) | (with_reducible refine Kd.C_drewN ?_ _) | (with_reducible refine Kd.C_drew ?_))); (case side2 => rw [show t213.length = t201.length from (Kd.R_reads' HO_10.out).1.symm]; exact (Kd.R_reads' HO_10.out).2.1); rintro e w44 ⟨rfl, hb⟩; refine ⟨_, rfl, ?_⟩; replace HO_8 := am (Kd.R_below (kr HO_8.out) hb); replace HO_10 := am (Kd.R_below (kr HO_10.out) hb); replace HB := am (below_step (bl HB.out) hb); (try clear hb); (try clear hb2); (try clear hk); (try clear hi)))
           (try simp only [Act.put, sa_, s0_, ss_])
           go_cut [] (fun wc => ∃ (kq : Nat), Aside0 (laws_FnExactKeyDrop.j4 kq l0 a1 a2 t195 t213 t212 t214 = some r) ∧ Aside0 (kq ≤ kj37) ∧ Aside0 (Kd.R k34 34 wc w.heap.size (fun k_ => some k_ ≠ ((.slice Ao21 t201.length co21) : Value).ownBlock) (.slice Ao22 t195.length co22) t195) ∧ Aside0 (Kd.R k34 34 wc w.heap.size (fun k_ => some k_ ≠ ((.slice Ao22 t195.length co22) : Value).ownBlock) (.slice Ao21 t201.length co21) t213) ∧ Aside0 (Below w.heap.size w wc))
           case first =>
            have H := HC42.out
            clear HC42
            by_cases c45 : t214 < 0
            ·rw [if_pos c45] at H
             have c45b0 : decide (t214 < 0) = true := decide_eq_true c45
             clear c45
             (first | rw [c45b0] | (simp only [i64_w, i32_w]; rw [c45b0]) | (have e9_ := c45b0; unfold bne at e9_; rw [e9_]) | skip)
             obtain rfl := Option.some.inj H
             go_wp2
             go_ret
             exact ⟨by first | rfl | (simp [errW_none, errW_some] <;> rfl) | (simp [*, errW_none, errW_some] <;> rfl), by repeat (first | (with_reducible first | exact HB.out | apply below_alloc | apply pw_below_drewN | apply below_drew1) | exact HB.out)⟩
            ·rw [if_neg c45] at H
             have c45b0 : decide (t214 < 0) = false := decide_eq_false c45
             clear c45
             (first | rw [c45b0] | (simp only [i64_w, i32_w]; rw [c45b0]) | (have e9_ := c45b0; unfold bne at e9_; rw [e9_]) | skip)
             have H' := Aside0.mk H
             clear H
             go_wp2
             go_meet
             case rel => exact ⟨_, H', ⟨by have := HJ12.out; have := HJ26.out; have := HJ32.out; have := HJ37.out; first | omega | exact Nat.le_refl _⟩, ⟨kr HO_8.out⟩, ⟨kr HO_10.out⟩, ⟨by repeat (first | (with_reducible first | exact HB.out | apply below_alloc | apply pw_below_drewN | apply below_drew1) | exact HB.out)⟩⟩
           case rest =>
            clear HC42
            try clear c1
            try clear c2
            try clear p2
            try clear c3
            try clear c4
            try clear c4b0
            try clear c4b1
            try clear c5
            try clear c6
            try clear c6b0
            try clear c7
            try clear c8
            try clear c9
            try clear c10
            try clear c11
            try clear c24
            try clear c31
            try clear c35
            try clear c35b0
            try clear c39
            try clear c45
            try clear c45b0
            try clear p2
            obtain ⟨kq, HA, HJ41, HO_8, HO_10, HB⟩ := hcut
            have hl10_41 := (Kd.R_reads' HO_10.out).1
            rw [hl10_41] at HO_10
            (try simp only [hl10_41])
            (try simp only [hl10_41] at HO_8)
            cases kq with
            | zero => exact absurd HA.out (by simp [laws_FnExactKeyDrop.j4])
            | succ kj41 =>
             have H := HA.out
             clear HA
             simp only [laws_FnExactKeyDrop.j4] at H
             by_cases c46 : t214 = t212
             ·rw [if_pos c46] at H
              have c46b0 : (t214 == t212) = true := beq_iff_eq.mpr c46
              have c46b1 : (t214 != t212) = false := bne_eq_false_iff_eq.mpr c46
              clear c46
              replace H := Option.bind_eq_some_iff.mp H
              obtain ⟨t215, A470, H⟩ := H
              replace H : ((impl_KeyDrop.f kj41 t215 a1 a2).bind fun t218 => ((laws_eqKeyS.f kj41 t218 t195).bind fun t221 => (if t221 = true then (laws_FnExactKeyDrop.j5 kj41 t213 t212) else (some false)))) = some r := H
              have A47 := Aside0.mk A470
              clear A470
              replace H := Option.bind_eq_some_iff.mp H
              obtain ⟨t218, A480, H⟩ := H
              replace H : ((laws_eqKeyS.f kj41 t218 t195).bind fun t221 => (if t221 = true then (laws_FnExactKeyDrop.j5 kj41 t213 t212) else (some false))) = some r := H
              have A48 := Aside0.mk A480
              clear A480
              replace H := Option.bind_eq_some_iff.mp H
              obtain ⟨t221, A490, H⟩ := H
              replace H : (if t221 = true then (laws_FnExactKeyDrop.j5 kj41 t213 t212) else (some false)) = some r := H
              have A49 := Aside0.mk A490
              clear A490
              have HC50 := Aside0.mk H
              clear H
              go_upto_if 73 with (first | ((with_reducible refine gate_callee (f := 7) rfl ?_); refine gl (some 66) Try.func7 #[.slice A0 l0.length c0] ?_; (with_reducible refine (laws_toKeyS.calls kj41 _ _ l0 t215 _ ?side1 ?side2 A47.out).mono ?_); (case side1 => repeat (first | exact (Kd.C_below HR0.out HB.out) | (with_reducible refine Kd.C_alloc ?_ _) | (with_reducible refine Kd.C_drewN ?_ _) | (with_reducible refine Kd.C_drew ?_))); (case side2 => exact HC0.out); rintro e w51 ⟨v216, rfl, ho0, hb⟩; refine ⟨_, rfl, ?_⟩; have HO217 := am (Kd.R_lower (Kd.R_new' (Kd.R_new' ho0 (Kd.R_lt (kr HO_8.out))) (Kd.R_lt (kr HO_10.out))) (below_size (bl HB.out))); replace HO_8 := am (Kd.R_elder' (kr HO_8.out) (Kd.R_base ho0) hb); replace HO_10 := am (Kd.R_elder' (kr HO_10.out) (Kd.R_base ho0) hb); replace HB := am (below_step (bl HB.out) hb); (try clear hb); (try clear hb2); (try clear hk); (try clear hi); (try clear ho0); obtain ⟨Ao52, co52, eo52⟩ := Kd.R_slice HO217.out; subst eo52) | ((with_reducible refine gate_callee (f := 8) rfl ?_); refine gl (some 69) Try.func8 #[.slice Ao52 t215.length co52, .int .i64 a1, .string a2] ?_; (with_reducible refine (impl_KeyDrop.calls kj41 _ _ t215 a1 a2 t218 _ ?side1 ?side2 A48.out).mono ?_); (case side1 => repeat (first | exact (Kd.R_reads' HO217.out).2.2 | (with_reducible refine Kd.C_alloc ?_ _) | (with_reducible refine Kd.C_drewN ?_ _) | (with_reducible refine Kd.C_drew ?_))); (case side2 => exact (Kd.R_reads' HO217.out).2.1); rintro e w53 ⟨v219, rfl, ho0, hb⟩; refine ⟨_, rfl, ?_⟩; have HO220 := am (Kd.R_lower (Kd.R_new' (Kd.R_new' (Kd.R_new' ho0 (Kd.R_lt (kr HO_8.out))) (Kd.R_lt (kr HO_10.out))) (Kd.R_lt (kr HO217.out))) (below_size (bl HB.out))); replace HO_8 := am (Kd.R_elder' (kr HO_8.out) (Kd.R_base ho0) hb); replace HO_10 := am (Kd.R_elder' (kr HO_10.out) (Kd.R_base ho0) hb); replace HO217 := am (Kd.R_elder' (kr HO217.out) (Kd.R_base ho0) hb); replace HB := am (below_step (bl HB.out) hb); (try clear hb); (try clear hb2); (try clear hk); (try clear hi); (try clear ho0); obtain ⟨Ao54, co54, eo54⟩ := Kd.R_slice HO220.out; subst eo54) | ((with_reducible refine gate_callee (f := 9) rfl ?_); refine gl (some 72) Try.func9 #[.slice Ao54 t218.length co54, .slice Ao22 t195.length co22] ?_; (with_reducible refine (laws_eqKeyS.calls kj41 _ _ t218 _ _ t195 t221 _ ?side1 ?side2 ?side3 ?side4 A49.out).mono ?_); (case side1 => repeat (first | exact (Kd.R_reads' HO220.out).2.2 | (with_reducible refine Kd.C_alloc ?_ _) | (with_reducible refine Kd.C_drewN ?_ _) | (with_reducible refine Kd.C_drew ?_))); (case side2 => exact (Kd.R_reads' HO220.out).2.1); (case side3 => repeat (first | exact (Kd.R_reads' HO_8.out).2.2 | (with_reducible refine Kd.C_alloc ?_ _) | (with_reducible refine Kd.C_drewN ?_ _) | (with_reducible refine Kd.C_drew ?_))); (case side4 => exact (Kd.R_reads' HO_8.out).2.1); rintro e w55 ⟨rfl, hb⟩; refine ⟨_, rfl, ?_⟩; replace HO_8 := am (Kd.R_below (kr HO_8.out) hb); replace HO_10 := am (Kd.R_below (kr HO_10.out) hb); replace HO217 := am (Kd.R_below (kr HO217.out) hb); replace HO220 := am (Kd.R_below (kr HO220.out) hb); replace HB := am (below_step (bl HB.out) hb); (try clear hb); (try clear hb2); (try clear hk); (try clear hi)))
              (try simp only [Act.put, sa_, s0_, ss_])
              go_cut [] (fun wc => ∃ (kq : Nat), Aside0 (laws_FnExactKeyDrop.j5 kq t213 t212 = some r) ∧ Aside0 (kq ≤ kj41) ∧ Aside0 (Kd.R k34 34 wc w.heap.size (fun _ => True) (.slice Ao21 t213.length co21) t213) ∧ Aside0 (Below w.heap.size w wc))
              case first =>
               have H := HC50.out
               clear HC50
               by_cases c56 : t221 = true
               ·subst c56
                have H1 : (laws_FnExactKeyDrop.j5 kj41 t213 t212) = some r := by rw [if_pos rfl] at H; exact H
                clear H
                have H := H1
                clear H1
                have H' := Aside0.mk H
                clear H
                go_wp2
                go_meet
                case rel => exact ⟨_, H', ⟨by have := HJ12.out; have := HJ26.out; have := HJ32.out; have := HJ37.out; have := HJ41.out; first | omega | exact Nat.le_refl _⟩, ⟨by (try simp only [hl10_41]); (with_reducible repeat (first | apply Kd.R_alloc | apply Kd.R_drewN | apply Kd.R_drew)); exact Kd.R_mono HO_10.out (fun _ hk => trivial)⟩, ⟨by repeat (first | (with_reducible first | exact HB.out | apply below_alloc | apply pw_below_drewN | apply below_drew1) | exact HB.out)⟩⟩
               ·replace c56 := Bool.eq_false_iff.mpr c56
                subst c56
                have H1 : (some false) = some r := by rw [if_neg (show ¬ (false = true) by decide)] at H; exact H
                clear H
                have H := H1
                clear H1
                obtain rfl := Option.some.inj H
                go_wp2
                go_ret
                exact ⟨by first | rfl | (simp [errW_none, errW_some] <;> rfl) | (simp [*, errW_none, errW_some] <;> rfl), by repeat (first | (with_reducible first | exact HB.out | apply below_alloc | apply pw_below_drewN | apply below_drew1) | exact HB.out)⟩
              case rest =>
               clear HC50
               try clear c1
               try clear c2
               try clear p2
               try clear c3
               try clear c4
               try clear c4b0
               try clear c4b1
               try clear c5
               try clear c6
               try clear c6b0
               try clear c7
               try clear c8
               try clear c9
               try clear c10
               try clear c11
               try clear c24
               try clear c31
               try clear c35
               try clear c35b0
               try clear c39
               try clear c45
               try clear c45b0
               try clear c46
               try clear c46b0
               try clear c46b1
               try clear c56
               try clear p2
               obtain ⟨kq, HA, HJ49, HO_10, HB⟩ := hcut
               cases kq with
               | zero => exact absurd HA.out (by simp [laws_FnExactKeyDrop.j5])
               | succ kj49 =>
                have H := HA.out
                clear HA
                simp only [laws_FnExactKeyDrop.j5] at H
                replace H := Option.bind_eq_some_iff.mp H
                obtain ⟨t222, A570, H⟩ := H
                replace H : (if t222 < 0 then (some false) else (if t222 = t212 then (some true) else (some false))) = some r := H
                have A57 := Aside0.mk A570
                clear A570
                by_cases c58 : t222 < 0
                ·rw [if_pos c58] at H
                 have c58b0 : decide (t222 < 0) = true := decide_eq_true c58
                 clear c58
                 obtain rfl := Option.some.inj H
                 go_wp2_with (first | ((with_reducible refine gate_callee (f := 11) rfl ?_); refine gl (some 76) Try.func11 #[.slice Ao21 t213.length co21, .int .i64 1] ?_; (with_reducible refine (laws_heldKeyS.calls kj49 _ _ t213 1 t222 _ ?side1 ?side2 A57.out).mono ?_); (case side1 => repeat (first | exact (Kd.R_reads' HO_10.out).2.2 | (with_reducible refine Kd.C_alloc ?_ _) | (with_reducible refine Kd.C_drewN ?_ _) | (with_reducible refine Kd.C_drew ?_))); (case side2 => exact (Kd.R_reads' HO_10.out).2.1); rintro e w59 ⟨rfl, hb⟩; refine ⟨_, rfl, ?_⟩; replace HO_10 := am (Kd.R_below (kr HO_10.out) hb); replace HB := am (below_step (bl HB.out) hb); (try clear hb); (try clear hb2); (try clear hk); (try clear hi)))
                 go_ret
                 exact ⟨by first | rfl | (simp [errW_none, errW_some] <;> rfl) | (simp [*, errW_none, errW_some] <;> rfl), by repeat (first | (with_reducible first | exact HB.out | apply below_alloc | apply pw_below_drewN | apply below_drew1) | exact HB.out)⟩
                ·rw [if_neg c58] at H
                 have c58b0 : decide (t222 < 0) = false := decide_eq_false c58
                 clear c58
                 by_cases c60 : t222 = t212
                 ·rw [if_pos c60] at H
                  have c60b0 : (t222 == t212) = true := beq_iff_eq.mpr c60
                  have c60b1 : (t222 != t212) = false := bne_eq_false_iff_eq.mpr c60
                  clear c60
                  obtain rfl := Option.some.inj H
                  go_wp2_with (first | ((with_reducible refine gate_callee (f := 11) rfl ?_); refine gl (some 76) Try.func11 #[.slice Ao21 t213.length co21, .int .i64 1] ?_; (with_reducible refine (laws_heldKeyS.calls kj49 _ _ t213 1 t222 _ ?side1 ?side2 A57.out).mono ?_); (case side1 => repeat (first | exact (Kd.R_reads' HO_10.out).2.2 | (with_reducible refine Kd.C_alloc ?_ _) | (with_reducible refine Kd.C_drewN ?_ _) | (with_reducible refine Kd.C_drew ?_))); (case side2 => exact (Kd.R_reads' HO_10.out).2.1); rintro e w61 ⟨rfl, hb⟩; refine ⟨_, rfl, ?_⟩; replace HO_10 := am (Kd.R_below (kr HO_10.out) hb); replace HB := am (below_step (bl HB.out) hb); (try clear hb); (try clear hb2); (try clear hk); (try clear hi)))
                  go_ret
                  exact ⟨by first | rfl | (simp [errW_none, errW_some] <;> rfl) | (simp [*, errW_none, errW_some] <;> rfl), by repeat (first | (with_reducible first | exact HB.out | apply below_alloc | apply pw_below_drewN | apply below_drew1) | exact HB.out)⟩
                 ·rw [if_neg c60] at H
                  have c60b0 : (t222 == t212) = false := beq_eq_false_iff_ne.mpr c60
                  have c60b1 : (t222 != t212) = true := bne_iff_ne.mpr c60
                  obtain rfl := Option.some.inj H
                  go_wp2_with (first | ((with_reducible refine gate_callee (f := 11) rfl ?_); refine gl (some 76) Try.func11 #[.slice Ao21 t213.length co21, .int .i64 1] ?_; (with_reducible refine (laws_heldKeyS.calls kj49 _ _ t213 1 t222 _ ?side1 ?side2 A57.out).mono ?_); (case side1 => repeat (first | exact (Kd.R_reads' HO_10.out).2.2 | (with_reducible refine Kd.C_alloc ?_ _) | (with_reducible refine Kd.C_drewN ?_ _) | (with_reducible refine Kd.C_drew ?_))); (case side2 => exact (Kd.R_reads' HO_10.out).2.1); rintro e w62 ⟨rfl, hb⟩; refine ⟨_, rfl, ?_⟩; replace HO_10 := am (Kd.R_below (kr HO_10.out) hb); replace HB := am (below_step (bl HB.out) hb); (try clear hb); (try clear hb2); (try clear hk); (try clear hi)))
                  go_ret
                  exact ⟨by first | rfl | (simp [errW_none, errW_some] <;> rfl) | (simp [*, errW_none, errW_some] <;> rfl), by repeat (first | (with_reducible first | exact HB.out | apply below_alloc | apply pw_below_drewN | apply below_drew1) | exact HB.out)⟩
             ·rw [if_neg c46] at H
              have c46b0 : (t214 == t212) = false := beq_eq_false_iff_ne.mpr c46
              have c46b1 : (t214 != t212) = true := bne_iff_ne.mpr c46
              obtain rfl := Option.some.inj H
              go_wp2
              go_ret
              exact ⟨by first | rfl | (simp [errW_none, errW_some] <;> rfl) | (simp [*, errW_none, errW_some] <;> rfl), by repeat (first | (with_reducible first | exact HB.out | apply below_alloc | apply pw_below_drewN | apply below_drew1) | exact HB.out)⟩

/-- THE ONE PURE STATEMENT of laws_FnExactKeyDrop. -/
def laws_FnExactKeyDrop.Pure : Prop := ∀ (l0 : List (S31)) (a1 : Int) (a2 : ByteArray), (l0.length ≤ maxLen ∧ ∀ y0_ ∈ l0, ((Lit.int .i64 y0_.f0).wf = true ∧ y0_.f1.size ≤ maxLen ∧ y0_.f2.size ≤ maxLen)) → (Lit.int .i64 a1).wf = true → a2.size ≤ maxLen → ∃ k, laws_FnExactKeyDrop.f k l0 a1 a2 = some true

end Go.Proofs.Ytpllahncpjpfmaa.PFnExactKeyDrop
