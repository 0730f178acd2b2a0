-- Written by xprint.py (this claim's own program, over the kit's printer); Lean checks it.
import Derived.Test.YtpllahncpjpfmaaPFnExactKeyBindx0
import Derived.Test.YtpllahncpjpfmaaPFnExactKeyBindx1
import Derived.Test.YtpllahncpjpfmaaPFnExactKeyBindx2
import Derived.Test.YtpllahncpjpfmaaPFnExactKeyBindx5
import Derived.Test.YtpllahncpjpfmaaPFnExactKeyBindx9
namespace Go.Proofs.Ytpllahncpjpfmaa.PFnExactKeyBind
open Go.RowKit Go.Proofs.YtpllahncpjpfmaaW.PrintWords Go.Proofs.YtpllahncpjpfmaaW.PrintLast Go.Proofs.YtpllahncpjpfmaaW.PrintMore
attribute [local go_sem] max2_int min2_int max_two min_two max_three min_three max_four min_four   -- for this text's walks alone
set_option linter.unusedVariables false
set_option linter.unusedSimpArgs false   -- squeezed

/-! ### laws_FnExactKeyBind: function 4 -/
@[reducible] def b4_0 : Array Bool := (br true [0, 6]).toArray
@[reducible] def b4_1 : Array Bool := (br true [1, 5]).toArray
@[reducible] def b4_2 : Array Bool := (br true [1, 1, 1, 3]).toArray
@[reducible] def b4_3 : Array Bool := (br true [3, 3]).toArray
@[reducible] def b4_4 : Array Bool := (br true [4, 2]).toArray
@[reducible] def b4_5 : Array Bool := (br true [5, 1]).toArray
@[reducible] def b4_6 : Array Bool := (br true [6]).toArray
mutual
def laws_FnExactKeyBind.j0 : Nat → List (S31) → List (S34) → List (S34) → List (S34) → Int → ByteArray → ByteArray → Option (Bool)
 | 0, _, _, _, _, _, _, _ => none
 | k + 1, x0, x6, x7, x8, x218000, x218001, x218002 => (laws_toKeyS.f k x0).bind fun t239 => ((laws_eqKeyS.f k x7 t239).bind fun t242 => (if t242 = true then (laws_FnExactKeyBind.j1 k x0 x6 x7 x8 x218000 x218001 x218002) else (some false)))
def laws_FnExactKeyBind.j1 : Nat → List (S31) → List (S34) → List (S34) → List (S34) → Int → ByteArray → ByteArray → Option (Bool)
 | 0, _, _, _, _, _, _, _ => none
 | k + 1, x0, x6, x7, x8, x218000, x218001, x218002 => (laws_markKeyS.f k x7 1).bind fun bt243 => (if bt243.1 < 0 then (laws_FnExactKeyBind.j2 k x0 x6 x8 true x218000 x218001 x218002) else ((laws_eqKeyS.f k x8 x6).bind fun t245 => (laws_FnExactKeyBind.j2 k x0 x6 x8 (!t245) x218000 x218001 x218002)))
def laws_FnExactKeyBind.j2 : Nat → List (S31) → List (S34) → List (S34) → Bool → Int → ByteArray → ByteArray → Option (Bool)
 | 0, _, _, _, _, _, _, _ => none
 | k + 1, x0, x6, x8, x53, x218000, x218001, x218002 => if x53 = true then (some false) else (laws_FnExactKeyBind.j3 k x0 x6 x8 x218000 x218001 x218002)
def laws_FnExactKeyBind.j3 : Nat → List (S31) → List (S34) → List (S34) → Int → ByteArray → ByteArray → Option (Bool)
 | 0, _, _, _, _, _, _ => none
 | k + 1, x0, x6, x8, x218000, x218001, x218002 => (laws_markKeyS.f k x8 1).bind fun bt246 => ((laws_heldKeyS.f k bt246.2 1).bind fun t248 => (if t248 < 0 then (some false) else (laws_FnExactKeyBind.j4 k x0 x6 bt246.2 bt246.1 t248 x218000 x218001 x218002)))
def laws_FnExactKeyBind.j4 : Nat → List (S31) → List (S34) → List (S34) → Int → Int → Int → ByteArray → ByteArray → Option (Bool)
 | 0, _, _, _, _, _, _, _, _ => none
 | k + 1, x0, x6, x8, x10, x11, x218000, x218001, x218002 => if x11 = x10 then ((laws_toKeyS.f k x0).bind fun t249 => ((laws_toKey.f x218000 x218001 x218002).bind fun bt252 => ((impl_KeyBind.f k t249 bt252.1 bt252.2.1 bt252.2.2).bind fun t255 => ((laws_eqKeyS.f k t255 x6).bind fun t258 => (if t258 = true then (laws_FnExactKeyBind.j5 k x8 x10) else (some false)))))) else (some false)
def laws_FnExactKeyBind.j5 : Nat → List (S34) → Int → Option (Bool)
 | 0, _, _ => none
 | k + 1, x8, x10 => (laws_heldKeyS.f k x8 1).bind fun t259 => (if t259 < 0 then (some false) else (if t259 = x10 then (some true) else (some false)))
end
def laws_FnExactKeyBind.f (k : Nat) (l0 : List (S31)) (a1_0 : Int) (a1_1 : ByteArray) (a1_2 : ByteArray) : Option (Bool) := (laws_szKeyS.f k l0 1048576).bind fun t218 => (if t218 < 0 then (some true) else ((laws_szKey.f a1_0 a1_1 a1_2 t218).bind fun t219 => (if t219 < 0 then (some true) else ((laws_toKeyS.f k l0).bind fun t220 => ((laws_toKey.f a1_0 a1_1 a1_2).bind fun bt223 => ((spec_KeyBind.f k t220 bt223.1 bt223.2.1 bt223.2.2).bind fun t226 => ((laws_toKeyS.f k l0).bind fun t229 => ((laws_toKey.f a1_0 a1_1 a1_2).bind fun bt232 => ((impl_KeyBind.f k t229 bt232.1 bt232.2.1 bt232.2.2).bind fun t235 => ((laws_eqKeyS.f k t235 t226).bind fun t238 => (if t238 = true then (laws_FnExactKeyBind.j0 k l0 t226 t229 t235 a1_0 a1_1 a1_2) else (some false))))))))))))
theorem laws_FnExactKeyBind.mono_l : ∀ k, (∀ y0 y1 y2 y3 y4 y5 y6, LeO (laws_FnExactKeyBind.j0 k y0 y1 y2 y3 y4 y5 y6) (laws_FnExactKeyBind.j0 (k + 1) y0 y1 y2 y3 y4 y5 y6)) ∧ (∀ y0 y1 y2 y3 y4 y5 y6, LeO (laws_FnExactKeyBind.j1 k y0 y1 y2 y3 y4 y5 y6) (laws_FnExactKeyBind.j1 (k + 1) y0 y1 y2 y3 y4 y5 y6)) ∧ (∀ y0 y1 y2 y3 y4 y5 y6, LeO (laws_FnExactKeyBind.j2 k y0 y1 y2 y3 y4 y5 y6) (laws_FnExactKeyBind.j2 (k + 1) y0 y1 y2 y3 y4 y5 y6)) ∧ (∀ y0 y1 y2 y3 y4 y5, LeO (laws_FnExactKeyBind.j3 k y0 y1 y2 y3 y4 y5) (laws_FnExactKeyBind.j3 (k + 1) y0 y1 y2 y3 y4 y5)) ∧ (∀ y0 y1 y2 y3 y4 y5 y6 y7, LeO (laws_FnExactKeyBind.j4 k y0 y1 y2 y3 y4 y5 y6 y7) (laws_FnExactKeyBind.j4 (k + 1) y0 y1 y2 y3 y4 y5 y6 y7)) ∧ (∀ y0 y1, LeO (laws_FnExactKeyBind.j5 k y0 y1) (laws_FnExactKeyBind.j5 (k + 1) y0 y1))
 | 0 => ⟨fun _ _ _ _ _ _ _ r h => by simp [laws_FnExactKeyBind.j0] at h, fun _ _ _ _ _ _ _ r h => by simp [laws_FnExactKeyBind.j1] at h, fun _ _ _ _ _ _ _ r h => by simp [laws_FnExactKeyBind.j2] at h, fun _ _ _ _ _ _ r h => by simp [laws_FnExactKeyBind.j3] at h, fun _ _ _ _ _ _ _ _ r h => by simp [laws_FnExactKeyBind.j4] at h, fun _ _ r h => by simp [laws_FnExactKeyBind.j5] at h⟩
 | k + 1 => by
  obtain ⟨ih0, ih1, ih2, ih3, ih4, ih5⟩ := laws_FnExactKeyBind.mono_l k
  refine ⟨?_, ?_, ?_, ?_, ?_, ?_⟩
  ·intro y0 y1 y2 y3 y4 y5 y6
   unfold laws_FnExactKeyBind.j0
   repeat' first
   | (with_reducible exact ih0 _ _ _ _ _ _ _)
   | (with_reducible exact ih1 _ _ _ _ _ _ _)
   | (with_reducible exact ih2 _ _ _ _ _ _ _)
   | (with_reducible exact ih3 _ _ _ _ _ _)
   | (with_reducible exact ih4 _ _ _ _ _ _ _ _)
   | (with_reducible exact ih5 _ _)
   | (with_reducible exact impl_KeyBind.mono _ _ _ _ _)
   | (with_reducible exact laws_eqKeyS.mono _ _ _)
   | (with_reducible exact laws_heldKeyS.mono _ _ _)
   | (with_reducible exact laws_markKeyS.mono _ _ _)
   | (with_reducible exact laws_szKeyS.mono _ _ _)
   | (with_reducible exact laws_toKeyS.mono _ _)
   | (with_reducible exact spec_KeyBind.mono _ _ _ _ _)
   | (with_reducible exact LeO.refl _)
   | (with_reducible exact LeO.none _)
   | (with_reducible refine LeO.ite ?_ ?_)
   | (with_reducible refine LeO.bind ?_ (fun _ => ?_))
   | exact ih0 _ _ _ _ _ _ _
   | exact ih1 _ _ _ _ _ _ _
   | exact ih2 _ _ _ _ _ _ _
   | exact ih3 _ _ _ _ _ _
   | exact ih4 _ _ _ _ _ _ _ _
   | exact ih5 _ _
   | exact impl_KeyBind.mono _ _ _ _ _
   | exact laws_eqKeyS.mono _ _ _
   | exact laws_heldKeyS.mono _ _ _
   | exact laws_markKeyS.mono _ _ _
   | exact laws_szKeyS.mono _ _ _
   | exact laws_toKeyS.mono _ _
   | exact spec_KeyBind.mono _ _ _ _ _
   | refine LeO.bind ?_ (fun _ => ?_)
  ·intro y0 y1 y2 y3 y4 y5 y6
   unfold laws_FnExactKeyBind.j1
   repeat' first
   | (with_reducible exact ih0 _ _ _ _ _ _ _)
   | (with_reducible exact ih1 _ _ _ _ _ _ _)
   | (with_reducible exact ih2 _ _ _ _ _ _ _)
   | (with_reducible exact ih3 _ _ _ _ _ _)
   | (with_reducible exact ih4 _ _ _ _ _ _ _ _)
   | (with_reducible exact ih5 _ _)
   | (with_reducible exact impl_KeyBind.mono _ _ _ _ _)
   | (with_reducible exact laws_eqKeyS.mono _ _ _)
   | (with_reducible exact laws_heldKeyS.mono _ _ _)
   | (with_reducible exact laws_markKeyS.mono _ _ _)
   | (with_reducible exact laws_szKeyS.mono _ _ _)
   | (with_reducible exact laws_toKeyS.mono _ _)
   | (with_reducible exact spec_KeyBind.mono _ _ _ _ _)
   | (with_reducible exact LeO.refl _)
   | (with_reducible exact LeO.none _)
   | (with_reducible refine LeO.ite ?_ ?_)
   | (with_reducible refine LeO.bind ?_ (fun _ => ?_))
   | exact ih0 _ _ _ _ _ _ _
   | exact ih1 _ _ _ _ _ _ _
   | exact ih2 _ _ _ _ _ _ _
   | exact ih3 _ _ _ _ _ _
   | exact ih4 _ _ _ _ _ _ _ _
   | exact ih5 _ _
   | exact impl_KeyBind.mono _ _ _ _ _
   | exact laws_eqKeyS.mono _ _ _
   | exact laws_heldKeyS.mono _ _ _
   | exact laws_markKeyS.mono _ _ _
   | exact laws_szKeyS.mono _ _ _
   | exact laws_toKeyS.mono _ _
   | exact spec_KeyBind.mono _ _ _ _ _
   | refine LeO.bind ?_ (fun _ => ?_)
  ·intro y0 y1 y2 y3 y4 y5 y6
   unfold laws_FnExactKeyBind.j2
   repeat' first
   | (with_reducible exact ih0 _ _ _ _ _ _ _)
   | (with_reducible exact ih1 _ _ _ _ _ _ _)
   | (with_reducible exact ih2 _ _ _ _ _ _ _)
   | (with_reducible exact ih3 _ _ _ _ _ _)
   | (with_reducible exact ih4 _ _ _ _ _ _ _ _)
   | (with_reducible exact ih5 _ _)
   | (with_reducible exact impl_KeyBind.mono _ _ _ _ _)
   | (with_reducible exact laws_eqKeyS.mono _ _ _)
   | (with_reducible exact laws_heldKeyS.mono _ _ _)
   | (with_reducible exact laws_markKeyS.mono _ _ _)
   | (with_reducible exact laws_szKeyS.mono _ _ _)
   | (with_reducible exact laws_toKeyS.mono _ _)
   | (with_reducible exact spec_KeyBind.mono _ _ _ _ _)
   | (with_reducible exact LeO.refl _)
   | (with_reducible exact LeO.none _)
   | (with_reducible refine LeO.ite ?_ ?_)
   | (with_reducible refine LeO.bind ?_ (fun _ => ?_))
   | exact ih0 _ _ _ _ _ _ _
   | exact ih1 _ _ _ _ _ _ _
   | exact ih2 _ _ _ _ _ _ _
   | exact ih3 _ _ _ _ _ _
   | exact ih4 _ _ _ _ _ _ _ _
   | exact ih5 _ _
   | exact impl_KeyBind.mono _ _ _ _ _
   | exact laws_eqKeyS.mono _ _ _
   | exact laws_heldKeyS.mono _ _ _
   | exact laws_markKeyS.mono _ _ _
   | exact laws_szKeyS.mono _ _ _
   | exact laws_toKeyS.mono _ _
   | exact spec_KeyBind.mono _ _ _ _ _
   | refine LeO.bind ?_ (fun _ => ?_)
  ·intro y0 y1 y2 y3 y4 y5
   unfold laws_FnExactKeyBind.j3
   repeat' first
   | (with_reducible exact ih0 _ _ _ _ _ _ _)
   | (with_reducible exact ih1 _ _ _ _ _ _ _)
   | (with_reducible exact ih2 _ _ _ _ _ _ _)
   | (with_reducible exact ih3 _ _ _ _ _ _)
   | (with_reducible exact ih4 _ _ _ _ _ _ _ _)
   | (with_reducible exact ih5 _ _)
   | (with_reducible exact impl_KeyBind.mono _ _ _ _ _)
   | (with_reducible exact laws_eqKeyS.mono _ _ _)
   | (with_reducible exact laws_heldKeyS.mono _ _ _)
   | (with_reducible exact laws_markKeyS.mono _ _ _)
   | (with_reducible exact laws_szKeyS.mono _ _ _)
   | (with_reducible exact laws_toKeyS.mono _ _)
   | (with_reducible exact spec_KeyBind.mono _ _ _ _ _)
   | (with_reducible exact LeO.refl _)
   | (with_reducible exact LeO.none _)
   | (with_reducible refine LeO.ite ?_ ?_)
   | (with_reducible refine LeO.bind ?_ (fun _ => ?_))
   | exact ih0 _ _ _ _ _ _ _
   | exact ih1 _ _ _ _ _ _ _
   | exact ih2 _ _ _ _ _ _ _
   | exact ih3 _ _ _ _ _ _
   | exact ih4 _ _ _ _ _ _ _ _
   | exact ih5 _ _
   | exact impl_KeyBind.mono _ _ _ _ _
   | exact laws_eqKeyS.mono _ _ _
   | exact laws_heldKeyS.mono _ _ _
   | exact laws_markKeyS.mono _ _ _
   | exact laws_szKeyS.mono _ _ _
   | exact laws_toKeyS.mono _ _
   | exact spec_KeyBind.mono _ _ _ _ _
   | refine LeO.bind ?_ (fun _ => ?_)
  ·intro y0 y1 y2 y3 y4 y5 y6 y7
   unfold laws_FnExactKeyBind.j4
   repeat' first
   | (with_reducible exact ih0 _ _ _ _ _ _ _)
   | (with_reducible exact ih1 _ _ _ _ _ _ _)
   | (with_reducible exact ih2 _ _ _ _ _ _ _)
   | (with_reducible exact ih3 _ _ _ _ _ _)
   | (with_reducible exact ih4 _ _ _ _ _ _ _ _)
   | (with_reducible exact ih5 _ _)
   | (with_reducible exact impl_KeyBind.mono _ _ _ _ _)
   | (with_reducible exact laws_eqKeyS.mono _ _ _)
   | (with_reducible exact laws_heldKeyS.mono _ _ _)
   | (with_reducible exact laws_markKeyS.mono _ _ _)
   | (with_reducible exact laws_szKeyS.mono _ _ _)
   | (with_reducible exact laws_toKeyS.mono _ _)
   | (with_reducible exact spec_KeyBind.mono _ _ _ _ _)
   | (with_reducible exact LeO.refl _)
   | (with_reducible exact LeO.none _)
   | (with_reducible refine LeO.ite ?_ ?_)
   | (with_reducible refine LeO.bind ?_ (fun _ => ?_))
   | exact ih0 _ _ _ _ _ _ _
   | exact ih1 _ _ _ _ _ _ _
   | exact ih2 _ _ _ _ _ _ _
   | exact ih3 _ _ _ _ _ _
   | exact ih4 _ _ _ _ _ _ _ _
   | exact ih5 _ _
   | exact impl_KeyBind.mono _ _ _ _ _
   | exact laws_eqKeyS.mono _ _ _
   | exact laws_heldKeyS.mono _ _ _
   | exact laws_markKeyS.mono _ _ _
   | exact laws_szKeyS.mono _ _ _
   | exact laws_toKeyS.mono _ _
   | exact spec_KeyBind.mono _ _ _ _ _
   | refine LeO.bind ?_ (fun _ => ?_)
  ·intro y0 y1
   unfold laws_FnExactKeyBind.j5
   repeat' first
   | (with_reducible exact ih0 _ _ _ _ _ _ _)
   | (with_reducible exact ih1 _ _ _ _ _ _ _)
   | (with_reducible exact ih2 _ _ _ _ _ _ _)
   | (with_reducible exact ih3 _ _ _ _ _ _)
   | (with_reducible exact ih4 _ _ _ _ _ _ _ _)
   | (with_reducible exact ih5 _ _)
   | (with_reducible exact impl_KeyBind.mono _ _ _ _ _)
   | (with_reducible exact laws_eqKeyS.mono _ _ _)
   | (with_reducible exact laws_heldKeyS.mono _ _ _)
   | (with_reducible exact laws_markKeyS.mono _ _ _)
   | (with_reducible exact laws_szKeyS.mono _ _ _)
   | (with_reducible exact laws_toKeyS.mono _ _)
   | (with_reducible exact spec_KeyBind.mono _ _ _ _ _)
   | (with_reducible exact LeO.refl _)
   | (with_reducible exact LeO.none _)
   | (with_reducible refine LeO.ite ?_ ?_)
   | (with_reducible refine LeO.bind ?_ (fun _ => ?_))
   | exact ih0 _ _ _ _ _ _ _
   | exact ih1 _ _ _ _ _ _ _
   | exact ih2 _ _ _ _ _ _ _
   | exact ih3 _ _ _ _ _ _
   | exact ih4 _ _ _ _ _ _ _ _
   | exact ih5 _ _
   | exact impl_KeyBind.mono _ _ _ _ _
   | exact laws_eqKeyS.mono _ _ _
   | exact laws_heldKeyS.mono _ _ _
   | exact laws_markKeyS.mono _ _ _
   | exact laws_szKeyS.mono _ _ _
   | exact laws_toKeyS.mono _ _
   | exact spec_KeyBind.mono _ _ _ _ _
   | refine LeO.bind ?_ (fun _ => ?_)
theorem laws_FnExactKeyBind.mono : ∀ a0 a1 a2 a3 k, LeO (laws_FnExactKeyBind.f k a0 a1 a2 a3) (laws_FnExactKeyBind.f (k + 1) a0 a1 a2 a3) := by
 intro a0 a1 a2 a3 k
 obtain ⟨ih0, ih1, ih2, ih3, ih4, ih5⟩ := laws_FnExactKeyBind.mono_l k
 unfold laws_FnExactKeyBind.f
 repeat' first
   | (with_reducible exact ih0 _ _ _ _ _ _ _)
   | (with_reducible exact ih1 _ _ _ _ _ _ _)
   | (with_reducible exact ih2 _ _ _ _ _ _ _)
   | (with_reducible exact ih3 _ _ _ _ _ _)
   | (with_reducible exact ih4 _ _ _ _ _ _ _ _)
   | (with_reducible exact ih5 _ _)
   | (with_reducible exact impl_KeyBind.mono _ _ _ _ _)
   | (with_reducible exact laws_eqKeyS.mono _ _ _)
   | (with_reducible exact laws_heldKeyS.mono _ _ _)
   | (with_reducible exact laws_markKeyS.mono _ _ _)
   | (with_reducible exact laws_szKeyS.mono _ _ _)
   | (with_reducible exact laws_toKeyS.mono _ _)
   | (with_reducible exact spec_KeyBind.mono _ _ _ _ _)
   | (with_reducible exact LeO.refl _)
   | (with_reducible exact LeO.none _)
   | (with_reducible refine LeO.ite ?_ ?_)
   | (with_reducible refine LeO.bind ?_ (fun _ => ?_))
   | exact ih0 _ _ _ _ _ _ _
   | exact ih1 _ _ _ _ _ _ _
   | exact ih2 _ _ _ _ _ _ _
   | exact ih3 _ _ _ _ _ _
   | exact ih4 _ _ _ _ _ _ _ _
   | exact ih5 _ _
   | exact impl_KeyBind.mono _ _ _ _ _
   | exact laws_eqKeyS.mono _ _ _
   | exact laws_heldKeyS.mono _ _ _
   | exact laws_markKeyS.mono _ _ _
   | exact laws_szKeyS.mono _ _ _
   | exact laws_toKeyS.mono _ _
   | exact spec_KeyBind.mono _ _ _ _ _
   | refine LeO.bind ?_ (fun _ => ?_)
set_option maxHeartbeats 8000000 in
set_option maxRecDepth 100000 in
theorem laws_FnExactKeyBind.calls (k : Nat) (A0 : Option Addr) (c0 : Nat) (l0 : List (S31)) (a1_0 : Int) (a1_1 : ByteArray) (a1_2 : ByteArray) (r : Bool) (w : World) (hr0 : Kd.C k31 w A0 l0.length l0) (hc0 : l0.length ≤ c0) (h : laws_FnExactKeyBind.f k l0 a1_0 a1_1 a1_2 = some r) :
  Calls Try.prog 4 #[.slice A0 l0.length c0, .agg #[.int .i64 a1_0, .string a1_1, .string a1_2]] w fun e w' => e = .returned (.bool r) ∧ Below w.heap.size w w' := by
 have hu31 := Try.underlying31
 have HR0 := am hr0
 have HC0 := am hc0
 clear hr0 hc0
 have HB := am (Below.refl w.heap.size w)
 have H : ((laws_szKeyS.f k l0 1048576).bind fun t218 => (if t218 < 0 then (some true) else ((laws_szKey.f a1_0 a1_1 a1_2 t218).bind fun t219 => (if t219 < 0 then (some true) else ((laws_toKeyS.f k l0).bind fun t220 => ((laws_toKey.f a1_0 a1_1 a1_2).bind fun bt223 => ((spec_KeyBind.f k t220 bt223.1 bt223.2.1 bt223.2.2).bind fun t226 => ((laws_toKeyS.f k l0).bind fun t229 => ((laws_toKey.f a1_0 a1_1 a1_2).bind fun bt232 => ((impl_KeyBind.f k t229 bt232.1 bt232.2.1 bt232.2.2).bind fun t235 => ((laws_eqKeyS.f k t235 t226).bind fun t238 => (if t238 = true then (laws_FnExactKeyBind.j0 k l0 t226 t229 t235 a1_0 a1_1 a1_2) else (some false))))))))))))) = some r := h
 clear h
 replace H := Option.bind_eq_some_iff.mp H
 obtain ⟨t218, A30, H⟩ := H
 replace H : (if t218 < 0 then (some true) else ((laws_szKey.f a1_0 a1_1 a1_2 t218).bind fun t219 => (if t219 < 0 then (some true) else ((laws_toKeyS.f k l0).bind fun t220 => ((laws_toKey.f a1_0 a1_1 a1_2).bind fun bt223 => ((spec_KeyBind.f k t220 bt223.1 bt223.2.1 bt223.2.2).bind fun t226 => ((laws_toKeyS.f k l0).bind fun t229 => ((laws_toKey.f a1_0 a1_1 a1_2).bind fun bt232 => ((impl_KeyBind.f k t229 bt232.1 bt232.2.1 bt232.2.2).bind fun t235 => ((laws_eqKeyS.f k t235 t226).bind fun t238 => (if t238 = true then (laws_FnExactKeyBind.j0 k l0 t226 t229 t235 a1_0 a1_1 a1_2) else (some false)))))))))))) = some r := H
 have A3 := Aside0.mk A30
 clear A30
 by_cases c4 : t218 < 0
 ·rw [if_pos c4] at H
  have c4b0 : decide (t218 < 0) = true := decide_eq_true c4
  clear c4
  obtain rfl := Option.some.inj H
  go_enter Try.func4, Try.ntmps4
  go_wp2_with (first | ((with_reducible refine gate_dst (N := 3) rfl ?_); refine box_event ?hg (N := 3) ?hd (cs := #[.int .i64 a1_0, .string a1_1, .string a1_2]) (t := 31) ?hr ?_; (case hd => rfl); (case hg => rfl); (case hr => first | (go_simp; done) | (go_simp; rfl)); intro gb217 hg w5 hbox hb; have BK217 := am (hbox); have GW217 := am ((by rw [hg]; exact (below_size (bl HB.out)) : w.heap.size ≤ gb217)); have GE217 := GW217; replace HB := am (below_step (bl HB.out) hb); clear hb hbox hg) | ((with_reducible refine gate_callee (f := 5) rfl ?_); refine gl (some 15) Try.func5 #[.slice A0 l0.length c0, .int .i64 1048576] ?_; (with_reducible refine (laws_szKeyS.calls k _ _ l0 1048576 t218 _ ?side1 ?side2 A3.out).mono ?_); (case side1 => repeat (first | exact (Kd.C_below HR0.out HB.out) | (with_reducible refine Kd.C_alloc ?_ _) | (with_reducible refine Kd.C_drewN ?_ _) | (with_reducible refine Kd.C_drew ?_))); (case side2 => exact HC0.out); rintro e w6 ⟨rfl, hb⟩; refine ⟨_, rfl, ?_⟩; replace BK217 := am (blk_below (pk BK217.out) hb); replace HB := am (below_step (bl HB.out) hb); (try clear hb); (try clear hb2); (try clear hk); (try clear hi)))
  go_ret
  exact ⟨by first | rfl | (simp [errW_none, errW_some] <;> rfl) | (simp [*, errW_none, errW_some] <;> rfl), by repeat (first | (with_reducible first | exact HB.out | apply below_alloc | apply pw_below_drewN | apply below_drew1 | refine below_set ?_ GE217.out) | exact HB.out)⟩
 ·rw [if_neg c4] at H
  have c4b0 : decide (t218 < 0) = false := decide_eq_false c4
  clear c4
  replace H := Option.bind_eq_some_iff.mp H
  obtain ⟨t219, A70, H⟩ := H
  replace H : (if t219 < 0 then (some true) else ((laws_toKeyS.f k l0).bind fun t220 => ((laws_toKey.f a1_0 a1_1 a1_2).bind fun bt223 => ((spec_KeyBind.f k t220 bt223.1 bt223.2.1 bt223.2.2).bind fun t226 => ((laws_toKeyS.f k l0).bind fun t229 => ((laws_toKey.f a1_0 a1_1 a1_2).bind fun bt232 => ((impl_KeyBind.f k t229 bt232.1 bt232.2.1 bt232.2.2).bind fun t235 => ((laws_eqKeyS.f k t235 t226).bind fun t238 => (if t238 = true then (laws_FnExactKeyBind.j0 k l0 t226 t229 t235 a1_0 a1_1 a1_2) else (some false)))))))))) = some r := H
  have A7 := Aside0.mk A70
  clear A70
  by_cases c8 : t219 < 0
  ·rw [if_pos c8] at H
   have c8b0 : decide (t219 < 0) = true := decide_eq_true c8
   clear c8
   obtain rfl := Option.some.inj H
   go_enter Try.func4, Try.ntmps4
   go_wp2_with (first | ((with_reducible refine gate_dst (N := 3) rfl ?_); refine box_event ?hg (N := 3) ?hd (cs := #[.int .i64 a1_0, .string a1_1, .string a1_2]) (t := 31) ?hr ?_; (case hd => rfl); (case hg => rfl); (case hr => first | (go_simp; done) | (go_simp; rfl)); intro gb217 hg w9 hbox hb; have BK217 := am (hbox); have GW217 := am ((by rw [hg]; exact (below_size (bl HB.out)) : w.heap.size ≤ gb217)); have GE217 := GW217; replace HB := am (below_step (bl HB.out) hb); clear hb hbox hg) | ((with_reducible refine gate_callee (f := 5) rfl ?_); refine gl (some 15) Try.func5 #[.slice A0 l0.length c0, .int .i64 1048576] ?_; (with_reducible refine (laws_szKeyS.calls k _ _ l0 1048576 t218 _ ?side1 ?side2 A3.out).mono ?_); (case side1 => repeat (first | exact (Kd.C_below HR0.out HB.out) | (with_reducible refine Kd.C_alloc ?_ _) | (with_reducible refine Kd.C_drewN ?_ _) | (with_reducible refine Kd.C_drew ?_))); (case side2 => exact HC0.out); rintro e w10 ⟨rfl, hb⟩; refine ⟨_, rfl, ?_⟩; replace BK217 := am (blk_below (pk BK217.out) hb); replace HB := am (below_step (bl HB.out) hb); (try clear hb); (try clear hb2); (try clear hk); (try clear hi); have hcz11_0 : w10.cell? ⟨gb217, 0, none⟩ = some (.int .i64 a1_0) := bc BK217.out 0; have hcz11_1 : w10.cell? ⟨gb217, 1, none⟩ = some (.string a1_1) := bc BK217.out 1; have hcz11_2 : w10.cell? ⟨gb217, 2, none⟩ = some (.string a1_2) := bc BK217.out 2) | ((with_reducible refine gate_callee (f := 12) rfl ?_); refine gl (some 20) Try.func12 #[.agg #[.int .i64 a1_0, .string a1_1, .string a1_2], .int .i64 t218] ?_; (with_reducible refine (laws_szKey.calls a1_0 a1_1 a1_2 t218 t219 _ A7.out).mono ?_); rintro e w12 ⟨rfl, hb⟩; refine ⟨_, rfl, ?_⟩; replace BK217 := am (blk_below (pk BK217.out) hb); replace HB := am (below_step (bl HB.out) hb); (try clear hb); (try clear hb2); (try clear hk); (try clear hi)))
   go_ret
   exact ⟨by first | rfl | (simp [errW_none, errW_some] <;> rfl) | (simp [*, errW_none, errW_some] <;> rfl), by repeat (first | (with_reducible first | exact HB.out | apply below_alloc | apply pw_below_drewN | apply below_drew1 | refine below_set ?_ GE217.out) | exact HB.out)⟩
  ·rw [if_neg c8] at H
   have c8b0 : decide (t219 < 0) = false := decide_eq_false c8
   clear c8
   replace H := Option.bind_eq_some_iff.mp H
   obtain ⟨t220, A130, H⟩ := H
   replace H : ((laws_toKey.f a1_0 a1_1 a1_2).bind fun bt223 => ((spec_KeyBind.f k t220 bt223.1 bt223.2.1 bt223.2.2).bind fun t226 => ((laws_toKeyS.f k l0).bind fun t229 => ((laws_toKey.f a1_0 a1_1 a1_2).bind fun bt232 => ((impl_KeyBind.f k t229 bt232.1 bt232.2.1 bt232.2.2).bind fun t235 => ((laws_eqKeyS.f k t235 t226).bind fun t238 => (if t238 = true then (laws_FnExactKeyBind.j0 k l0 t226 t229 t235 a1_0 a1_1 a1_2) else (some false)))))))) = some r := H
   have A13 := Aside0.mk A130
   clear A130
   replace H := Option.bind_eq_some_iff.mp H
   obtain ⟨⟨t223, t224, t225⟩, A140, H⟩ := H
   replace H : ((spec_KeyBind.f k t220 t223 t224 t225).bind fun t226 => ((laws_toKeyS.f k l0).bind fun t229 => ((laws_toKey.f a1_0 a1_1 a1_2).bind fun bt232 => ((impl_KeyBind.f k t229 bt232.1 bt232.2.1 bt232.2.2).bind fun t235 => ((laws_eqKeyS.f k t235 t226).bind fun t238 => (if t238 = true then (laws_FnExactKeyBind.j0 k l0 t226 t229 t235 a1_0 a1_1 a1_2) else (some false))))))) = some r := H
   have A14 := Aside0.mk A140
   clear A140
   replace H := Option.bind_eq_some_iff.mp H
   obtain ⟨t226, A150, H⟩ := H
   replace H : ((laws_toKeyS.f k l0).bind fun t229 => ((laws_toKey.f a1_0 a1_1 a1_2).bind fun bt232 => ((impl_KeyBind.f k t229 bt232.1 bt232.2.1 bt232.2.2).bind fun t235 => ((laws_eqKeyS.f k t235 t226).bind fun t238 => (if t238 = true then (laws_FnExactKeyBind.j0 k l0 t226 t229 t235 a1_0 a1_1 a1_2) else (some false)))))) = some r := H
   have A15 := Aside0.mk A150
   clear A150
   replace H := Option.bind_eq_some_iff.mp H
   obtain ⟨t229, A160, H⟩ := H
   replace H : ((laws_toKey.f a1_0 a1_1 a1_2).bind fun bt232 => ((impl_KeyBind.f k t229 bt232.1 bt232.2.1 bt232.2.2).bind fun t235 => ((laws_eqKeyS.f k t235 t226).bind fun t238 => (if t238 = true then (laws_FnExactKeyBind.j0 k l0 t226 t229 t235 a1_0 a1_1 a1_2) else (some false))))) = some r := H
   have A16 := Aside0.mk A160
   clear A160
   replace H := Option.bind_eq_some_iff.mp H
   obtain ⟨⟨t232, t233, t234⟩, A170, H⟩ := H
   replace H : ((impl_KeyBind.f k t229 t232 t233 t234).bind fun t235 => ((laws_eqKeyS.f k t235 t226).bind fun t238 => (if t238 = true then (laws_FnExactKeyBind.j0 k l0 t226 t229 t235 a1_0 a1_1 a1_2) else (some false)))) = some r := H
   have A17 := Aside0.mk A170
   clear A170
   replace H := Option.bind_eq_some_iff.mp H
   obtain ⟨t235, A180, H⟩ := H
   replace H : ((laws_eqKeyS.f k t235 t226).bind fun t238 => (if t238 = true then (laws_FnExactKeyBind.j0 k l0 t226 t229 t235 a1_0 a1_1 a1_2) else (some false))) = some r := H
   have A18 := Aside0.mk A180
   clear A180
   replace H := Option.bind_eq_some_iff.mp H
   obtain ⟨t238, A190, H⟩ := H
   replace H : (if t238 = true then (laws_FnExactKeyBind.j0 k l0 t226 t229 t235 a1_0 a1_1 a1_2) else (some false)) = some r := H
   have A19 := Aside0.mk A190
   clear A190
   have HC20 := Aside0.mk H
   clear H
   go_enter Try.func4, Try.ntmps4
   try go_wp2_with (first | ((with_reducible refine gate_dst (N := 3) rfl ?_); refine box_event ?hg (N := 3) ?hd (cs := #[.int .i64 a1_0, .string a1_1, .string a1_2]) (t := 31) ?hr ?_; (case hd => rfl); (case hg => rfl); (case hr => first | (go_simp; done) | (go_simp; rfl)); intro gb217 hg w21 hbox hb; have BK217 := am (hbox); have GW217 := am ((by rw [hg]; exact (below_size (bl HB.out)) : w.heap.size ≤ gb217)); have GE217 := GW217; replace HB := am (below_step (bl HB.out) hb); clear hb hbox hg) | ((with_reducible refine gate_callee (f := 5) rfl ?_); refine gl (some 15) Try.func5 #[.slice A0 l0.length c0, .int .i64 1048576] ?_; (with_reducible refine (laws_szKeyS.calls k _ _ l0 1048576 t218 _ ?side1 ?side2 A3.out).mono ?_); (case side1 => repeat (first | exact (Kd.C_below HR0.out HB.out) | (with_reducible refine Kd.C_alloc ?_ _) | (with_reducible refine Kd.C_drewN ?_ _) | (with_reducible refine Kd.C_drew ?_))); (case side2 => exact HC0.out); rintro e w22 ⟨rfl, hb⟩; refine ⟨_, rfl, ?_⟩; replace BK217 := am (blk_below (pk BK217.out) hb); replace HB := am (below_step (bl HB.out) hb); (try clear hb); (try clear hb2); (try clear hk); (try clear hi); have hcz23_0 : w22.cell? ⟨gb217, 0, none⟩ = some (.int .i64 a1_0) := bc BK217.out 0; have hcz23_1 : w22.cell? ⟨gb217, 1, none⟩ = some (.string a1_1) := bc BK217.out 1; have hcz23_2 : w22.cell? ⟨gb217, 2, none⟩ = some (.string a1_2) := bc BK217.out 2) | ((with_reducible refine gate_callee (f := 12) rfl ?_); refine gl (some 20) Try.func12 #[.agg #[.int .i64 a1_0, .string a1_1, .string a1_2], .int .i64 t218] ?_; (with_reducible refine (laws_szKey.calls a1_0 a1_1 a1_2 t218 t219 _ A7.out).mono ?_); rintro e w24 ⟨rfl, hb⟩; refine ⟨_, rfl, ?_⟩; replace BK217 := am (blk_below (pk BK217.out) hb); replace HB := am (below_step (bl HB.out) hb); (try clear hb); (try clear hb2); (try clear hk); (try clear hi)))
   replace BK217 := am (blk_drew BK217.out)
   replace HB := am (below_drew1 HB.out)
   refine start_ (n := 6) (S := fun w' => w'.cell? ⟨gb217, 0, none⟩ = some (.int .i64 a1_0) ∧ w'.cell? ⟨gb217, 1, none⟩ = some (.string a1_1) ∧ w'.cell? ⟨gb217, 2, none⟩ = some (.string a1_2)) (ds := []) b4_0 (by kernel_rfl) rfl rfl ⟨bc BK217.out 0, bc BK217.out 1, bc BK217.out 2⟩ (fun hHeld => ?_)
   generalize w24.drew = w25 at BK217 HB hHeld ⊢
   refine pure_ (i := 0) (N := some 23) (v := ?_) (a' := ?_) b4_1 rfl rfl (by kernel_rfl) (fun _ _ _ h => h) (Or.inl ⟨by rfl, ?_⟩) ?_ ?_; rotate_left
   ·intro w'; go_simp; with_reducible rfl
   rotate_left
   ·simp only [Act.put, sa_, s0_, ss_, i64_w, i32_w]; rfl
   refine take_ (i := 2) (N := some 25) (v := ?_) (a' := ?_) b4_2 rfl rfl (by kernel_rfl) (fun _ _ _ h => h) (Or.inl ⟨by rfl, ?_⟩) hHeld ?_ ?_; rotate_left
   ·rintro w' ⟨s0, s1, s2⟩; go_simp; with_reducible rfl
   rotate_left
   ·simp only [Act.put, sa_, s0_, ss_, i64_w, i32_w]; rfl
   refine one_ (i := 1) (N := some 24) b4_3 rfl rfl (by kernel_rfl) (by decide) (fun K hK => ?_)
   refine gs_ Try.func7 #[.slice A0 l0.length c0] ?_
   with_reducible refine (laws_toKeyS.calls k _ _ l0 t220 _ ?side1 ?side2 A13.out).mono ?_
   (case side1 => repeat (first | exact (Kd.C_below HR0.out HB.out) | (with_reducible refine Kd.C_alloc ?_ _) | (with_reducible refine Kd.C_drewN ?_ _) | (with_reducible refine Kd.C_drew ?_)))
   (case side2 => exact HC0.out)
   rintro e w26 ⟨v221, rfl, ho0, hb⟩
   refine ⟨_, rfl, ?_⟩
   have HO222 := am (Kd.R_lower ho0 (below_size (bl HB.out)))
   replace BK217 := am (blk_below (pk BK217.out) hb)
   replace HB := am (below_step (bl HB.out) hb)
   (try clear hb)
   (try clear hb2)
   (try clear hk)
   (try clear hi)
   (try clear ho0)
   refine hK.out _ _ ⟨bc BK217.out 0, bc BK217.out 1, bc BK217.out 2⟩ (fun hHeld => ?_)
   clear hK K
   refine norm_ (a' := ?_) ?_ ?_
   rotate_left
   ·show Act.put _ (some 24) _ = _
    simp only [Act.put, sa_, s0_, ss_, i64_w, i32_w]
    rfl
   refine one_ (i := 3) (N := some 26) b4_4 rfl rfl (by kernel_rfl) (by decide) (fun K hK => ?_)
   refine gs_ Try.func14 #[.agg #[.int .i64 a1_0, .string a1_1, .string a1_2]] ?_
   with_reducible refine (laws_toKey.calls a1_0 a1_1 a1_2 t223 t224 t225 _ A14.out).mono ?_
   rintro e w27 ⟨rfl, hb⟩
   refine ⟨_, rfl, ?_⟩
   replace HO222 := am (Kd.R_below (kr HO222.out) hb)
   replace BK217 := am (blk_below (pk BK217.out) hb)
   replace HB := am (below_step (bl HB.out) hb)
   (try clear hb)
   (try clear hb2)
   (try clear hk)
   (try clear hi)
   obtain ⟨Ao28, co28, eo28⟩ := Kd.R_slice HO222.out
   (first | subst eo28 | (injection eo28 with f1_ f2_ f3_; have f4_ := f1_.symm; have f5_ := f3_.symm; clear f1_ f2_ f3_; subst f4_; subst f5_))
   refine hK.out _ _ ⟨bc BK217.out 0, bc BK217.out 1, bc BK217.out 2⟩ (fun hHeld => ?_)
   clear hK K
   refine norm_ (a' := ?_) ?_ ?_
   rotate_left
   ·show Act.put _ (some 26) _ = _
    simp only [Act.put, sa_, s0_, ss_, i64_w, i32_w]
    rfl
   refine one_ (i := 4) (N := some 27) b4_5 rfl rfl (by kernel_rfl) (by decide) (fun K hK => ?_)
   refine gs_ Try.func13 #[.slice Ao28 t220.length co28, .agg #[.int .i64 t223, .string t224, .string t225]] ?_
   with_reducible refine (spec_KeyBind.calls k _ _ t220 t223 t224 t225 t226 _ ?side1 ?side2 A15.out).mono ?_
   (case side1 => repeat (first | exact (Kd.R_reads' HO222.out).2.2 | (with_reducible refine Kd.C_alloc ?_ _) | (with_reducible refine Kd.C_drewN ?_ _) | (with_reducible refine Kd.C_drew ?_)))
   (case side2 => exact (Kd.R_reads' HO222.out).2.1)
   rintro e w29 ⟨v227, rfl, ho0, hb⟩
   refine ⟨_, rfl, ?_⟩
   have HO228 := am (Kd.R_lower (Kd.R_new' ho0 (Kd.R_lt (kr HO222.out))) (below_size (bl HB.out)))
   replace HO222 := am (Kd.R_elder' (kr HO222.out) (Kd.R_base ho0) hb)
   replace BK217 := am (blk_below (pk BK217.out) hb)
   replace HB := am (below_step (bl HB.out) hb)
   (try clear hb)
   (try clear hb2)
   (try clear hk)
   (try clear hi)
   (try clear ho0)
   refine hK.out _ _ ⟨bc BK217.out 0, bc BK217.out 1, bc BK217.out 2⟩ (fun hHeld => ?_)
   clear hK K
   refine norm_ (a' := ?_) ?_ ?_
   rotate_left
   ·show Act.put _ (some 27) _ = _
    simp only [Act.put, sa_, s0_, ss_, i64_w, i32_w]
    rfl
   refine pure_ (i := 5) (N := some 6) (v := ?_) (a' := ?_) b4_6 rfl rfl (by kernel_rfl) (fun _ _ _ h => h) (Or.inl ⟨by rfl, ?_⟩) ?_ ?_; rotate_left
   ·intro w'; go_simp; with_reducible rfl
   rotate_left
   ·simp only [Act.put, sa_, s0_, ss_, i64_w, i32_w]; rfl
   refine done_ (by kernel_rfl) ?_
   go_upto_if 37 with (first | ((with_reducible refine gate_callee (f := 7) rfl ?_); refine gl (some 29) Try.func7 #[.slice A0 l0.length c0] ?_; (with_reducible refine (laws_toKeyS.calls k _ _ l0 t229 _ ?side1 ?side2 A16.out).mono ?_); (case side1 => repeat (first | exact (Kd.C_below HR0.out HB.out) | (with_reducible refine Kd.C_alloc ?_ _) | (with_reducible refine Kd.C_drewN ?_ _) | (with_reducible refine Kd.C_drew ?_))); (case side2 => exact HC0.out); rintro e w30 ⟨v230, rfl, ho0, hb⟩; refine ⟨_, rfl, ?_⟩; have HO231 := am (Kd.R_lower (Kd.R_new' (Kd.R_new' ho0 (Kd.R_lt (kr HO222.out))) (Kd.R_lt (kr HO228.out))) (below_size (bl HB.out))); replace HO222 := am (Kd.R_elder' (kr HO222.out) (Kd.R_base ho0) hb); replace HO228 := am (Kd.R_elder' (kr HO228.out) (Kd.R_base ho0) hb); replace BK217 := am (blk_below (pk BK217.out) hb); replace HB := am (below_step (bl HB.out) hb); (try clear hb); (try clear hb2); (try clear hk); (try clear hi); (try clear ho0); have hcz31_0 : w30.cell? ⟨gb217, 0, none⟩ = some (.int .i64 a1_0) := bc BK217.out 0; have hcz31_1 : w30.cell? ⟨gb217, 1, none⟩ = some (.string a1_1) := bc BK217.out 1; have hcz31_2 : w30.cell? ⟨gb217, 2, none⟩ = some (.string a1_2) := bc BK217.out 2) | ((with_reducible refine gate_callee (f := 14) rfl ?_); refine gl (some 32) Try.func14 #[.agg #[.int .i64 a1_0, .string a1_1, .string a1_2]] ?_; (with_reducible refine (laws_toKey.calls a1_0 a1_1 a1_2 t232 t233 t234 _ A17.out).mono ?_); rintro e w32 ⟨rfl, hb⟩; refine ⟨_, rfl, ?_⟩; replace HO222 := am (Kd.R_below (kr HO222.out) hb); replace HO228 := am (Kd.R_below (kr HO228.out) hb); replace HO231 := am (Kd.R_below (kr HO231.out) hb); replace BK217 := am (blk_below (pk BK217.out) hb); replace HB := am (below_step (bl HB.out) hb); (try clear hb); (try clear hb2); (try clear hk); (try clear hi); obtain ⟨Ao33, co33, eo33⟩ := Kd.R_slice HO231.out; subst eo33) | ((with_reducible refine gate_callee (f := 15) rfl ?_); refine gl (some 33) Try.func15 #[.slice Ao33 t229.length co33, .agg #[.int .i64 t232, .string t233, .string t234]] ?_; (with_reducible refine (impl_KeyBind.calls k _ _ t229 t232 t233 t234 t235 _ ?side1 ?side2 A18.out).mono ?_); (case side1 => repeat (first | exact (Kd.R_reads' HO231.out).2.2 | (with_reducible refine Kd.C_alloc ?_ _) | (with_reducible refine Kd.C_drewN ?_ _) | (with_reducible refine Kd.C_drew ?_))); (case side2 => exact (Kd.R_reads' HO231.out).2.1); rintro e w34 ⟨v236, rfl, ho0, hb⟩; refine ⟨_, rfl, ?_⟩; have HO237 := am (Kd.R_lower (Kd.R_new' (Kd.R_new' (Kd.R_new' ho0 (Kd.R_lt (kr HO222.out))) (Kd.R_lt (kr HO228.out))) (Kd.R_lt (kr HO231.out))) (below_size (bl HB.out))); replace HO222 := am (Kd.R_elder' (kr HO222.out) (Kd.R_base ho0) hb); replace HO228 := am (Kd.R_elder' (kr HO228.out) (Kd.R_base ho0) hb); replace HO231 := am (Kd.R_elder' (kr HO231.out) (Kd.R_base ho0) hb); replace BK217 := am (blk_below (pk BK217.out) hb); replace HB := am (below_step (bl HB.out) hb); (try clear hb); (try clear hb2); (try clear hk); (try clear hi); (try clear ho0); obtain ⟨Ao35, co35, eo35⟩ := Kd.R_slice HO237.out; subst eo35; obtain ⟨Ao36, co36, eo36⟩ := Kd.R_slice HO228.out; subst eo36) | ((with_reducible refine gate_callee (f := 9) rfl ?_); refine gl (some 36) Try.func9 #[.slice Ao35 t235.length co35, .slice Ao36 t226.length co36] ?_; (with_reducible refine (laws_eqKeyS.calls k _ _ t235 _ _ t226 t238 _ ?side1 ?side2 ?side3 ?side4 A19.out).mono ?_); (case side1 => repeat (first | exact (Kd.R_reads' HO237.out).2.2 | (with_reducible refine Kd.C_alloc ?_ _) | (with_reducible refine Kd.C_drewN ?_ _) | (with_reducible refine Kd.C_drew ?_))); (case side2 => exact (Kd.R_reads' HO237.out).2.1); (case side3 => repeat (first | exact (Kd.R_reads' HO228.out).2.2 | (with_reducible refine Kd.C_alloc ?_ _) | (with_reducible refine Kd.C_drewN ?_ _) | (with_reducible refine Kd.C_drew ?_))); (case side4 => exact (Kd.R_reads' HO228.out).2.1); rintro e w37 ⟨rfl, hb⟩; refine ⟨_, rfl, ?_⟩; replace HO222 := am (Kd.R_below (kr HO222.out) hb); replace HO228 := am (Kd.R_below (kr HO228.out) hb); replace HO231 := am (Kd.R_below (kr HO231.out) hb); replace HO237 := am (Kd.R_below (kr HO237.out) hb); replace BK217 := am (blk_below (pk BK217.out) hb); replace HB := am (below_step (bl HB.out) hb); (try clear hb); (try clear hb2); (try clear hk); (try clear hi)))
   (try simp only [Act.put, sa_, s0_, ss_])
   go_cut [] (fun wc => ∃ (kq : Nat), Aside0 (laws_FnExactKeyBind.j0 kq l0 t226 t229 t235 a1_0 a1_1 a1_2 = some r) ∧ Aside0 (kq ≤ k) ∧ Aside0 (Kd.R k34 34 wc w.heap.size (fun k_ => some k_ ≠ ((.slice Ao33 t229.length co33) : Value).ownBlock ∧ some k_ ≠ ((.slice Ao35 t235.length co35) : Value).ownBlock) (.slice Ao36 t226.length co36) t226) ∧ Aside0 (Kd.R k34 34 wc w.heap.size (fun k_ => some k_ ≠ ((.slice Ao36 t226.length co36) : Value).ownBlock ∧ some k_ ≠ ((.slice Ao35 t235.length co35) : Value).ownBlock) (.slice Ao33 t229.length co33) t229) ∧ Aside0 (Kd.R k34 34 wc w.heap.size (fun k_ => some k_ ≠ ((.slice Ao36 t226.length co36) : Value).ownBlock ∧ some k_ ≠ ((.slice Ao33 t229.length co33) : Value).ownBlock) (.slice Ao35 t235.length co35) t235) ∧ Aside0 (wc.heap[gb217]? = some (.cells #[.int .i64 a1_0, .string a1_1, .string a1_2] 31 (0, 0))) ∧ Aside0 (Below w.heap.size w wc))
   case first =>
    have H := HC20.out
    clear HC20
    by_cases c38 : t238 = true
    ·subst c38
     have H1 : (laws_FnExactKeyBind.j0 k l0 t226 t229 t235 a1_0 a1_1 a1_2) = some r := by rw [if_pos rfl] at H; exact H
     clear H
     have H := H1
     clear H1
     have H' := Aside0.mk H
     clear H
     go_wp2
     go_meet
     case rel => exact ⟨_, H', ⟨by first | omega | exact Nat.le_refl _⟩, ⟨kr (Kd.R_mono HO228.out (fun _ hk => ⟨hk.1.2, hk.2⟩))⟩, ⟨kr (Kd.R_mono HO231.out (fun _ hk => ⟨hk.1.2, hk.2⟩))⟩, ⟨kr (Kd.R_mono HO237.out (fun _ hk => ⟨hk.1.2, hk.2⟩))⟩, ⟨pk BK217.out⟩, ⟨by repeat (first | (with_reducible first | exact HB.out | apply below_alloc | apply pw_below_drewN | apply below_drew1 | refine below_set ?_ GE217.out) | exact HB.out)⟩⟩
    ·replace c38 := Bool.eq_false_iff.mpr c38
     subst c38
     have H1 : (some false) = some r := by rw [if_neg (show ¬ (false = true) by decide)] at H; exact H
     clear H
     have H := H1
     clear H1
     obtain rfl := Option.some.inj H
     go_wp2
     go_ret
     exact ⟨by first | rfl | (simp [errW_none, errW_some] <;> rfl) | (simp [*, errW_none, errW_some] <;> rfl), by repeat (first | (with_reducible first | exact HB.out | apply below_alloc | apply pw_below_drewN | apply below_drew1 | refine below_set ?_ GE217.out) | exact HB.out)⟩
   case rest =>
    clear HC20
    try clear c1
    try clear p2
    try clear c3
    try clear c4
    try clear c4b0
    try clear c5
    try clear c7
    try clear c8
    try clear c8b0
    try clear c9
    try clear c12
    try clear c13
    try clear c14
    try clear c15
    try clear c38
    try clear hcz11_0
    try clear hcz11_1
    try clear hcz11_2
    try clear hcz23_0
    try clear hcz23_1
    try clear hcz23_2
    try clear hcz31_0
    try clear hcz31_1
    try clear hcz31_2
    obtain ⟨kq, HA, HJ19, HO_6, HO_7, HO_8, BK217, HB⟩ := hcut
    cases kq with
    | zero => exact absurd HA.out (by simp [laws_FnExactKeyBind.j0])
    | succ kj19 =>
     have H := HA.out
     clear HA
     simp only [laws_FnExactKeyBind.j0] at H
     replace H := Option.bind_eq_some_iff.mp H
     obtain ⟨t239, A390, H⟩ := H
     replace H : ((laws_eqKeyS.f kj19 t229 t239).bind fun t242 => (if t242 = true then (laws_FnExactKeyBind.j1 kj19 l0 t226 t229 t235 a1_0 a1_1 a1_2) else (some false))) = some r := H
     have A39 := Aside0.mk A390
     clear A390
     replace H := Option.bind_eq_some_iff.mp H
     obtain ⟨t242, A400, H⟩ := H
     replace H : (if t242 = true then (laws_FnExactKeyBind.j1 kj19 l0 t226 t229 t235 a1_0 a1_1 a1_2) else (some false)) = some r := H
     have A40 := Aside0.mk A400
     clear A400
     have HC41 := Aside0.mk H
     clear H
     go_upto_if 42 with (first | ((with_reducible refine gate_callee (f := 7) rfl ?_); refine gl (some 40) Try.func7 #[.slice A0 l0.length c0] ?_; (with_reducible refine (laws_toKeyS.calls kj19 _ _ l0 t239 _ ?side1 ?side2 A39.out).mono ?_); (case side1 => repeat (first | exact (Kd.C_below HR0.out HB.out) | (with_reducible refine Kd.C_alloc ?_ _) | (with_reducible refine Kd.C_drewN ?_ _) | (with_reducible refine Kd.C_drew ?_))); (case side2 => exact HC0.out); rintro e w42 ⟨v240, rfl, ho0, hb⟩; refine ⟨_, rfl, ?_⟩; have HO241 := am (Kd.R_lower (Kd.R_new' (Kd.R_new' (Kd.R_new' ho0 (Kd.R_lt (kr HO_6.out))) (Kd.R_lt (kr HO_7.out))) (Kd.R_lt (kr HO_8.out))) (below_size (bl HB.out))); replace HO_6 := am (Kd.R_elder' (kr HO_6.out) (Kd.R_base ho0) hb); replace HO_7 := am (Kd.R_elder' (kr HO_7.out) (Kd.R_base ho0) hb); replace HO_8 := am (Kd.R_elder' (kr HO_8.out) (Kd.R_base ho0) hb); replace BK217 := am (blk_below (pk BK217.out) hb); replace HB := am (below_step (bl HB.out) hb); (try clear hb); (try clear hb2); (try clear hk); (try clear hi); (try clear ho0); obtain ⟨Ao43, co43, eo43⟩ := Kd.R_slice HO241.out; subst eo43) | ((with_reducible refine gate_callee (f := 9) rfl ?_); refine gl (some 41) Try.func9 #[.slice Ao33 t229.length co33, .slice Ao43 t239.length co43] ?_; (with_reducible refine (laws_eqKeyS.calls kj19 _ _ t229 _ _ t239 t242 _ ?side1 ?side2 ?side3 ?side4 A40.out).mono ?_); (case side1 => repeat (first | exact (Kd.R_reads' HO_7.out).2.2 | (with_reducible refine Kd.C_alloc ?_ _) | (with_reducible refine Kd.C_drewN ?_ _) | (with_reducible refine Kd.C_drew ?_))); (case side2 => exact (Kd.R_reads' HO_7.out).2.1); (case side3 => repeat (first | exact (Kd.R_reads' HO241.out).2.2 | (with_reducible refine Kd.C_alloc ?_ _) | (with_reducible refine Kd.C_drewN ?_ _) | (with_reducible refine Kd.C_drew ?_))); (case side4 => exact (Kd.R_reads' HO241.out).2.1); rintro e w44 ⟨rfl, hb⟩; refine ⟨_, rfl, ?_⟩; replace HO_6 := am (Kd.R_below (kr HO_6.out) hb); replace HO_7 := am (Kd.R_below (kr HO_7.out) hb); replace HO_8 := am (Kd.R_below (kr HO_8.out) hb); replace HO241 := am (Kd.R_below (kr HO241.out) hb); replace BK217 := am (blk_below (pk BK217.out) hb); replace HB := am (below_step (bl HB.out) hb); (try clear hb); (try clear hb2); (try clear hk); (try clear hi)))
     (try simp only [Act.put, sa_, s0_, ss_])
     go_cut [] (fun wc => ∃ (kq : Nat), Aside0 (laws_FnExactKeyBind.j1 kq l0 t226 t229 t235 a1_0 a1_1 a1_2 = some r) ∧ Aside0 (kq ≤ kj19) ∧ Aside0 (Kd.R k34 34 wc w.heap.size (fun k_ => some k_ ≠ ((.slice Ao33 t229.length co33) : Value).ownBlock ∧ some k_ ≠ ((.slice Ao35 t235.length co35) : Value).ownBlock) (.slice Ao36 t226.length co36) t226) ∧ Aside0 (Kd.R k34 34 wc w.heap.size (fun k_ => some k_ ≠ ((.slice Ao36 t226.length co36) : Value).ownBlock ∧ some k_ ≠ ((.slice Ao35 t235.length co35) : Value).ownBlock) (.slice Ao33 t229.length co33) t229) ∧ Aside0 (Kd.R k34 34 wc w.heap.size (fun k_ => some k_ ≠ ((.slice Ao36 t226.length co36) : Value).ownBlock ∧ some k_ ≠ ((.slice Ao33 t229.length co33) : Value).ownBlock) (.slice Ao35 t235.length co35) t235) ∧ Aside0 (wc.heap[gb217]? = some (.cells #[.int .i64 a1_0, .string a1_1, .string a1_2] 31 (0, 0))) ∧ Aside0 (Below w.heap.size w wc))
     case first =>
      have H := HC41.out
      clear HC41
      by_cases c45 : t242 = true
      ·subst c45
       have H1 : (laws_FnExactKeyBind.j1 kj19 l0 t226 t229 t235 a1_0 a1_1 a1_2) = some r := by rw [if_pos rfl] at H; exact H
       clear H
       have H := H1
       clear H1
       have H' := Aside0.mk H
       clear H
       go_wp2
       go_meet
       case rel => exact ⟨_, H', ⟨by have := HJ19.out; first | omega | exact Nat.le_refl _⟩, ⟨kr (Kd.R_mono HO_6.out (fun _ hk => ⟨hk.1.1, hk.1.2⟩))⟩, ⟨kr (Kd.R_mono HO_7.out (fun _ hk => ⟨hk.1.1, hk.1.2⟩))⟩, ⟨kr (Kd.R_mono HO_8.out (fun _ hk => ⟨hk.1.1, hk.1.2⟩))⟩, ⟨pk BK217.out⟩, ⟨by repeat (first | (with_reducible first | exact HB.out | apply below_alloc | apply pw_below_drewN | apply below_drew1 | refine below_set ?_ GE217.out) | exact HB.out)⟩⟩
      ·replace c45 := Bool.eq_false_iff.mpr c45
       subst c45
       have H1 : (some false) = some r := by rw [if_neg (show ¬ (false = true) by decide)] at H; exact H
       clear H
       have H := H1
       clear H1
       obtain rfl := Option.some.inj H
       go_wp2
       go_ret
       exact ⟨by first | rfl | (simp [errW_none, errW_some] <;> rfl) | (simp [*, errW_none, errW_some] <;> rfl), by repeat (first | (with_reducible first | exact HB.out | apply below_alloc | apply pw_below_drewN | apply below_drew1 | refine below_set ?_ GE217.out) | exact HB.out)⟩
     case rest =>
      clear HC41
      try clear c1
      try clear p2
      try clear c3
      try clear c4
      try clear c4b0
      try clear c5
      try clear c7
      try clear c8
      try clear c8b0
      try clear c9
      try clear c12
      try clear c13
      try clear c14
      try clear c15
      try clear c38
      try clear c45
      try clear hcz11_0
      try clear hcz11_1
      try clear hcz11_2
      try clear hcz23_0
      try clear hcz23_1
      try clear hcz23_2
      try clear hcz31_0
      try clear hcz31_1
      try clear hcz31_2
      try clear p2
      obtain ⟨kq, HA, HJ40, HO_6, HO_7, HO_8, BK217, HB⟩ := hcut
      cases kq with
      | zero => exact absurd HA.out (by simp [laws_FnExactKeyBind.j1])
      | succ kj40 =>
       have H := HA.out
       clear HA
       simp only [laws_FnExactKeyBind.j1] at H
       replace H := Option.bind_eq_some_iff.mp H
       obtain ⟨⟨t243, t244⟩, A460, H⟩ := H
       replace H : (if t243 < 0 then (laws_FnExactKeyBind.j2 kj40 l0 t226 t235 true a1_0 a1_1 a1_2) else ((laws_eqKeyS.f kj40 t235 t226).bind fun t245 => (laws_FnExactKeyBind.j2 kj40 l0 t226 t235 (!t245) a1_0 a1_1 a1_2))) = some r := H
       have A46 := Aside0.mk A460
       clear A460
       have HC47 := Aside0.mk H
       clear H
       go_upto_region 17 with (first | ((with_reducible refine gate_callee (f := 10) rfl ?_); refine gl (some 45) Try.func10 #[.slice Ao33 t229.length co33, .int .i64 1] ?_; (with_reducible refine (laws_markKeyS.calls kj40 (fun k_ => some k_ = (.slice Ao33 t229.length co33 : Value).ownBlock) (.slice Ao33 t229.length co33) t229 1 t243 t244 w _ ?side1 ?side2 A46.out).mono ?_); (case side1 => repeat (first | (with_reducible first | exact HB.out | apply below_alloc | apply pw_below_drewN | apply below_drew1 | refine below_set ?_ GE217.out) | exact HB.out)); (case side2 => exact Kd.R_tight rfl HO_7.out); rintro e w48 ⟨rfl, hy0, hb, hkp⟩; refine ⟨_, rfl, ?_⟩; replace HO_6 := am (Kd.R_mono (ok' := fun k_ => some k_ ≠ (.slice Ao33 t229.length co33 : Value).ownBlock ∧ some k_ ≠ (.slice Ao35 t235.length co35 : Value).ownBlock) (Kd.R_keptB (HO_6.out) hkp (fun k_ hk_ hs_ => (hk_.1) hs_)) (fun k_ hk_ => ⟨hk_.1.1, hk_.1.2⟩)); replace HO_8 := am (Kd.R_mono (ok' := fun k_ => some k_ ≠ (.slice Ao36 t226.length co36 : Value).ownBlock ∧ some k_ ≠ (.slice Ao33 t229.length co33 : Value).ownBlock) (Kd.R_keptB (HO_8.out) hkp (fun k_ hk_ hs_ => (hk_.2) hs_)) (fun k_ hk_ => ⟨hk_.1.1, hk_.1.2⟩)); replace BK217 := am (blk_kept (pk BK217.out) hkp (fun hs_ => (fun e_ => (Kd.R_ne HO_7.out BK217.out (by decide)) e_) hs_)); replace HO_7 := am (Kd.R_reok rfl hy0 (fun k_ e_ => HO_7.out.1 k_ e_)); replace HB := am (hb); (try clear hb); (try clear hkp); (try clear hy0)))
       (try simp only [Act.put, sa_, s0_, ss_])
       go_cut [53] (fun v53 wc => ∃ (kq : Nat) (x53_46 : Bool), v53 = .bool x53_46 ∧ Aside0 (laws_FnExactKeyBind.j2 kq l0 t226 t235 x53_46 a1_0 a1_1 a1_2 = some r) ∧ Aside0 (kq ≤ kj40) ∧ Aside0 (Kd.R k34 34 wc w.heap.size (fun k_ => some k_ ≠ ((.slice Ao35 t235.length co35) : Value).ownBlock) (.slice Ao36 t226.length co36) t226) ∧ Aside0 (Kd.R k34 34 wc w.heap.size (fun k_ => some k_ ≠ ((.slice Ao36 t226.length co36) : Value).ownBlock) (.slice Ao35 t235.length co35) t235) ∧ Aside0 (wc.heap[gb217]? = some (.cells #[.int .i64 a1_0, .string a1_1, .string a1_2] 31 (0, 0))) ∧ Aside0 (Below w.heap.size w wc))
       case first =>
        have H := HC47.out
        clear HC47
        by_cases c49 : t243 < 0
        ·rw [if_pos c49] at H
         have c49b0 : decide (t243 < 0) = true := decide_eq_true c49
         clear c49
         (first | rw [c49b0] | (simp only [i64_w, i32_w]; rw [c49b0]) | (have e9_ := c49b0; unfold bne at e9_; rw [e9_]) | skip)
         have H' := Aside0.mk H
         clear H
         go_wp2
         go_meet
         case rel => exact ⟨_, (true), (by first | rfl | (simp; done) | (simp [*]; done)), H', ⟨by have := HJ19.out; have := HJ40.out; first | omega | exact Nat.le_refl _⟩, ⟨kr (Kd.R_mono HO_6.out (fun _ hk => hk.2))⟩, ⟨kr (Kd.R_mono HO_8.out (fun _ hk => hk.1))⟩, ⟨pk BK217.out⟩, ⟨by repeat (first | (with_reducible first | exact HB.out | apply below_alloc | apply pw_below_drewN | apply below_drew1 | refine below_set ?_ GE217.out) | exact HB.out)⟩⟩
        ·rw [if_neg c49] at H
         have c49b0 : decide (t243 < 0) = false := decide_eq_false c49
         clear c49
         (first | rw [c49b0] | (simp only [i64_w, i32_w]; rw [c49b0]) | (have e9_ := c49b0; unfold bne at e9_; rw [e9_]) | skip)
         replace H := Option.bind_eq_some_iff.mp H
         obtain ⟨t245, A500, H⟩ := H
         replace H : (laws_FnExactKeyBind.j2 kj40 l0 t226 t235 (!t245) a1_0 a1_1 a1_2) = some r := H
         have A50 := Aside0.mk A500
         clear A500
         have H' := Aside0.mk H
         clear H
         go_wp2_with (first | (go_at_call 9; (with_reducible refine (laws_eqKeyS.calls kj40 _ _ t235 _ _ t226 t245 _ ?side1 ?side2 ?side3 ?side4 A50.out).mono ?_); (case side1 => repeat (first | exact (Kd.R_reads' HO_8.out).2.2 | (with_reducible refine Kd.C_alloc ?_ _) | (with_reducible refine Kd.C_drewN ?_ _) | (with_reducible refine Kd.C_drew ?_))); (case side2 => exact (Kd.R_reads' HO_8.out).2.1); (case side3 => repeat (first | exact (Kd.R_reads' HO_6.out).2.2 | (with_reducible refine Kd.C_alloc ?_ _) | (with_reducible refine Kd.C_drewN ?_ _) | (with_reducible refine Kd.C_drew ?_))); (case side4 => exact (Kd.R_reads' HO_6.out).2.1); rintro e w51 ⟨rfl, hb⟩; replace HO_6 := am (Kd.R_below (kr HO_6.out) hb); replace HO_7 := am (Kd.R_below (kr HO_7.out) hb); replace HO_8 := am (Kd.R_below (kr HO_8.out) hb); replace BK217 := am (blk_below (pk BK217.out) hb); replace HB := am (below_step (bl HB.out) hb); (try clear hb); (try clear hb2); (try clear hk); (try clear hi)))
         go_meet
         case rel => exact ⟨_, (!t245), (by first | rfl | (simp; done) | (simp [*]; done)), H', ⟨by have := HJ19.out; have := HJ40.out; first | omega | exact Nat.le_refl _⟩, ⟨kr (Kd.R_mono HO_6.out (fun _ hk => hk.2))⟩, ⟨kr (Kd.R_mono HO_8.out (fun _ hk => hk.1))⟩, ⟨pk BK217.out⟩, ⟨by repeat (first | (with_reducible first | exact HB.out | apply below_alloc | apply pw_below_drewN | apply below_drew1 | refine below_set ?_ GE217.out) | exact HB.out)⟩⟩
       case rest =>
        clear HC47
        try clear c1
        try clear p2
        try clear c3
        try clear c4
        try clear c4b0
        try clear c5
        try clear c7
        try clear c8
        try clear c8b0
        try clear c9
        try clear c10
        try clear c12
        try clear c13
        try clear c14
        try clear c15
        try clear c38
        try clear c45
        try clear c49
        try clear c49b0
        try clear hcz11_0
        try clear hcz11_1
        try clear hcz11_2
        try clear hcz23_0
        try clear hcz23_1
        try clear hcz23_2
        try clear hcz31_0
        try clear hcz31_1
        try clear hcz31_2
        try clear p2
        obtain ⟨kq, x53_46, rfl, HA, HJ46, HO_6, HO_8, BK217, HB⟩ := hcut
        cases kq with
        | zero => exact absurd HA.out (by simp [laws_FnExactKeyBind.j2])
        | succ kj46 =>
         have H := HA.out
         clear HA
         simp only [laws_FnExactKeyBind.j2] at H
         have HC52 := Aside0.mk H
         clear H
         go_upto_if 53 with (fail)
         go_cut [] (fun wc => ∃ (kq : Nat), Aside0 (laws_FnExactKeyBind.j3 kq l0 t226 t235 a1_0 a1_1 a1_2 = some r) ∧ Aside0 (kq ≤ kj46) ∧ Aside0 (Kd.R k34 34 wc w.heap.size (fun k_ => some k_ ≠ ((.slice Ao35 t235.length co35) : Value).ownBlock) (.slice Ao36 t226.length co36) t226) ∧ Aside0 (Kd.R k34 34 wc w.heap.size (fun k_ => some k_ ≠ ((.slice Ao36 t226.length co36) : Value).ownBlock) (.slice Ao35 t235.length co35) t235) ∧ Aside0 (wc.heap[gb217]? = some (.cells #[.int .i64 a1_0, .string a1_1, .string a1_2] 31 (0, 0))) ∧ Aside0 (Below w.heap.size w wc))
         case first =>
          have H := HC52.out
          clear HC52
          by_cases c53 : x53_46 = true
          ·subst c53
           have H1 : (some false) = some r := by rw [if_pos rfl] at H; exact H
           clear H
           have H := H1
           clear H1
           obtain rfl := Option.some.inj H
           go_wp2
           go_ret
           exact ⟨by first | rfl | (simp [errW_none, errW_some] <;> rfl) | (simp [*, errW_none, errW_some] <;> rfl), by repeat (first | (with_reducible first | exact HB.out | apply below_alloc | apply pw_below_drewN | apply below_drew1 | refine below_set ?_ GE217.out) | exact HB.out)⟩
          ·replace c53 := Bool.eq_false_iff.mpr c53
           subst c53
           have H1 : (laws_FnExactKeyBind.j3 kj46 l0 t226 t235 a1_0 a1_1 a1_2) = some r := by rw [if_neg (show ¬ (false = true) by decide)] at H; exact H
           clear H
           have H := H1
           clear H1
           have H' := Aside0.mk H
           clear H
           go_wp2
           go_meet
           case rel => exact ⟨_, H', ⟨by have := HJ19.out; have := HJ40.out; have := HJ46.out; first | omega | exact Nat.le_refl _⟩, ⟨kr HO_6.out⟩, ⟨kr HO_8.out⟩, ⟨pk BK217.out⟩, ⟨by repeat (first | (with_reducible first | exact HB.out | apply below_alloc | apply pw_below_drewN | apply below_drew1 | refine below_set ?_ GE217.out) | exact HB.out)⟩⟩
         case rest =>
          clear HC52
          try clear c1
          try clear p2
          try clear c3
          try clear c4
          try clear c4b0
          try clear c5
          try clear c7
          try clear c8
          try clear c8b0
          try clear c9
          try clear c10
          try clear c12
          try clear c13
          try clear c14
          try clear c15
          try clear c38
          try clear c45
          try clear c49
          try clear c49b0
          try clear c53
          try clear hcz11_0
          try clear hcz11_1
          try clear hcz11_2
          try clear hcz23_0
          try clear hcz23_1
          try clear hcz23_2
          try clear hcz31_0
          try clear hcz31_1
          try clear hcz31_2
          try clear p2
          obtain ⟨kq, HA, HJ51, HO_6, HO_8, BK217, HB⟩ := hcut
          cases kq with
          | zero => exact absurd HA.out (by simp [laws_FnExactKeyBind.j3])
          | succ kj51 =>
           have H := HA.out
           clear HA
           simp only [laws_FnExactKeyBind.j3] at H
           replace H := Option.bind_eq_some_iff.mp H
           obtain ⟨⟨t246, t247⟩, A540, H⟩ := H
           replace H : ((laws_heldKeyS.f kj51 t247 1).bind fun t248 => (if t248 < 0 then (some false) else (laws_FnExactKeyBind.j4 kj51 l0 t226 t247 t246 t248 a1_0 a1_1 a1_2))) = some r := H
           have A54 := Aside0.mk A540
           clear A540
           replace H := Option.bind_eq_some_iff.mp H
           obtain ⟨t248, A550, H⟩ := H
           replace H : (if t248 < 0 then (some false) else (laws_FnExactKeyBind.j4 kj51 l0 t226 t247 t246 t248 a1_0 a1_1 a1_2)) = some r := H
           have A55 := Aside0.mk A550
           clear A550
           have HC56 := Aside0.mk H
           clear H
           go_upto_if 61 with (first | ((with_reducible refine gate_callee (f := 10) rfl ?_); refine gl (some 56) Try.func10 #[.slice Ao35 t235.length co35, .int .i64 1] ?_; (with_reducible refine (laws_markKeyS.calls kj51 (fun k_ => some k_ = (.slice Ao35 t235.length co35 : Value).ownBlock) (.slice Ao35 t235.length co35) t235 1 t246 t247 w _ ?side1 ?side2 A54.out).mono ?_); (case side1 => repeat (first | (with_reducible first | exact HB.out | apply below_alloc | apply pw_below_drewN | apply below_drew1 | refine below_set ?_ GE217.out) | exact HB.out)); (case side2 => exact Kd.R_tight rfl HO_8.out); rintro e w57 ⟨rfl, hy0, hb, hkp⟩; refine ⟨_, rfl, ?_⟩; replace HO_6 := am (Kd.R_mono (ok' := fun k_ => some k_ ≠ (.slice Ao35 t235.length co35 : Value).ownBlock) (Kd.R_keptB (HO_6.out) hkp (fun k_ hk_ hs_ => (hk_) hs_)) (fun k_ hk_ => hk_.1)); replace BK217 := am (blk_kept (pk BK217.out) hkp (fun hs_ => (fun e_ => (Kd.R_ne HO_8.out BK217.out (by decide)) e_) hs_)); replace HO_8 := am (Kd.R_reok rfl hy0 (fun k_ e_ => HO_8.out.1 k_ e_)); replace HB := am (hb); (try clear hb); (try clear hkp); (try clear hy0)) | ((with_reducible refine gate_callee (f := 11) rfl ?_); refine goesL_ (some 59) rfl rfl Try.func11 (by kernel_rfl) rfl #[.slice Ao35 t247.length co35, .int .i64 1] rfl (by (try simp only [List.map_toArray, List.map_cons, List.map_nil]); first | done | (rw [show t247.length = t235.length from (Kd.R_reads' HO_8.out).1.symm] <;> rfl) | rfl | (simp only [List.length_drop, List.length_take]; rfl)) ?_; (with_reducible refine (laws_heldKeyS.calls kj51 _ _ t247 1 t248 _ ?side1 ?side2 A55.out).mono ?_); (case side1 => repeat (first | exact (Kd.R_reads' HO_8.out).2.2 | (with_reducible refine Kd.C_alloc ?_ _) | (with_reducible refine Kd.C_drewN ?_ _) | (with_reducible refine Kd.C_drew ?_))); (case side2 => rw [show t247.length = t235.length from (Kd.R_reads' HO_8.out).1.symm]; exact (Kd.R_reads' HO_8.out).2.1); rintro e w58 ⟨rfl, hb⟩; refine ⟨_, rfl, ?_⟩; replace HO_6 := am (Kd.R_below (kr HO_6.out) hb); replace HO_8 := am (Kd.R_below (kr HO_8.out) hb); replace BK217 := am (blk_below (pk BK217.out) hb); replace HB := am (below_step (bl HB.out) hb); (try clear hb); (try clear hb2); (try clear hk); (try clear hi)))
           (try simp only [Act.put, sa_, s0_, ss_])
           go_cut [] (fun wc => ∃ (kq : Nat), Aside0 (laws_FnExactKeyBind.j4 kq l0 t226 t247 t246 t248 a1_0 a1_1 a1_2 = some r) ∧ Aside0 (kq ≤ kj51) ∧ Aside0 (Kd.R k34 34 wc w.heap.size (fun k_ => some k_ ≠ ((.slice Ao35 t235.length co35) : Value).ownBlock) (.slice Ao36 t226.length co36) t226) ∧ Aside0 (Kd.R k34 34 wc w.heap.size (fun k_ => some k_ ≠ ((.slice Ao36 t226.length co36) : Value).ownBlock) (.slice Ao35 t235.length co35) t247) ∧ Aside0 (wc.heap[gb217]? = some (.cells #[.int .i64 a1_0, .string a1_1, .string a1_2] 31 (0, 0))) ∧ Aside0 (Below w.heap.size w wc))
           case first =>
            have H := HC56.out
            clear HC56
            by_cases c59 : t248 < 0
            ·rw [if_pos c59] at H
             have c59b0 : decide (t248 < 0) = true := decide_eq_true c59
             clear c59
             (first | rw [c59b0] | (simp only [i64_w, i32_w]; rw [c59b0]) | (have e9_ := c59b0; unfold bne at e9_; rw [e9_]) | skip)
             obtain rfl := Option.some.inj H
             go_wp2
             go_ret
             exact ⟨by first | rfl | (simp [errW_none, errW_some] <;> rfl) | (simp [*, errW_none, errW_some] <;> rfl), by repeat (first | (with_reducible first | exact HB.out | apply below_alloc | apply pw_below_drewN | apply below_drew1 | refine below_set ?_ GE217.out) | exact HB.out)⟩
            ·rw [if_neg c59] at H
             have c59b0 : decide (t248 < 0) = false := decide_eq_false c59
             clear c59
             (first | rw [c59b0] | (simp only [i64_w, i32_w]; rw [c59b0]) | (have e9_ := c59b0; unfold bne at e9_; rw [e9_]) | skip)
             have H' := Aside0.mk H
             clear H
             go_wp2
             go_meet
             case rel => exact ⟨_, H', ⟨by have := HJ19.out; have := HJ40.out; have := HJ46.out; have := HJ51.out; first | omega | exact Nat.le_refl _⟩, ⟨kr HO_6.out⟩, ⟨kr HO_8.out⟩, ⟨pk BK217.out⟩, ⟨by repeat (first | (with_reducible first | exact HB.out | apply below_alloc | apply pw_below_drewN | apply below_drew1 | refine below_set ?_ GE217.out) | exact HB.out)⟩⟩
           case rest =>
            clear HC56
            try clear c1
            try clear p2
            try clear c3
            try clear c4
            try clear c4b0
            try clear c5
            try clear c7
            try clear c8
            try clear c8b0
            try clear c9
            try clear c10
            try clear c11
            try clear c12
            try clear c13
            try clear c14
            try clear c15
            try clear c38
            try clear c45
            try clear c49
            try clear c49b0
            try clear c53
            try clear c59
            try clear c59b0
            try clear hcz11_0
            try clear hcz11_1
            try clear hcz11_2
            try clear hcz23_0
            try clear hcz23_1
            try clear hcz23_2
            try clear hcz31_0
            try clear hcz31_1
            try clear hcz31_2
            try clear p2
            obtain ⟨kq, HA, HJ55, HO_6, HO_8, BK217, HB⟩ := hcut
            have hl8_55 := (Kd.R_reads' HO_8.out).1
            rw [hl8_55] at HO_8
            (try simp only [hl8_55])
            (try simp only [hl8_55] at BK217)
            (try simp only [hl8_55] at HO_6)
            cases kq with
            | zero => exact absurd HA.out (by simp [laws_FnExactKeyBind.j4])
            | succ kj55 =>
             have H := HA.out
             clear HA
             simp only [laws_FnExactKeyBind.j4] at H
             by_cases c60 : t248 = t246
             ·rw [if_pos c60] at H
              have c60b0 : (t248 == t246) = true := beq_iff_eq.mpr c60
              have c60b1 : (t248 != t246) = false := bne_eq_false_iff_eq.mpr c60
              clear c60
              replace H := Option.bind_eq_some_iff.mp H
              obtain ⟨t249, A610, H⟩ := H
              replace H : ((laws_toKey.f a1_0 a1_1 a1_2).bind fun bt252 => ((impl_KeyBind.f kj55 t249 bt252.1 bt252.2.1 bt252.2.2).bind fun t255 => ((laws_eqKeyS.f kj55 t255 t226).bind fun t258 => (if t258 = true then (laws_FnExactKeyBind.j5 kj55 t247 t246) else (some false))))) = some r := H
              have A61 := Aside0.mk A610
              clear A610
              replace H := Option.bind_eq_some_iff.mp H
              obtain ⟨⟨t252, t253, t254⟩, A620, H⟩ := H
              replace H : ((impl_KeyBind.f kj55 t249 t252 t253 t254).bind fun t255 => ((laws_eqKeyS.f kj55 t255 t226).bind fun t258 => (if t258 = true then (laws_FnExactKeyBind.j5 kj55 t247 t246) else (some false)))) = some r := H
              have A62 := Aside0.mk A620
              clear A620
              replace H := Option.bind_eq_some_iff.mp H
              obtain ⟨t255, A630, H⟩ := H
              replace H : ((laws_eqKeyS.f kj55 t255 t226).bind fun t258 => (if t258 = true then (laws_FnExactKeyBind.j5 kj55 t247 t246) else (some false))) = some r := H
              have A63 := Aside0.mk A630
              clear A630
              replace H := Option.bind_eq_some_iff.mp H
              obtain ⟨t258, A640, H⟩ := H
              replace H : (if t258 = true then (laws_FnExactKeyBind.j5 kj55 t247 t246) else (some false)) = some r := H
              have A64 := Aside0.mk A640
              clear A640
              have HC65 := Aside0.mk H
              clear H
              try go_wp2
              replace HO_6 := am (Kd.R_drew HO_6.out)
              replace HO_8 := am (Kd.R_drew HO_8.out)
              replace BK217 := am (blk_drew BK217.out)
              replace HB := am (below_drew1 HB.out)
              refine start_ (n := 6) (S := fun w' => w'.cell? ⟨gb217, 0, none⟩ = some (.int .i64 a1_0) ∧ w'.cell? ⟨gb217, 1, none⟩ = some (.string a1_1) ∧ w'.cell? ⟨gb217, 2, none⟩ = some (.string a1_2)) (ds := []) b4_0 (by kernel_rfl) rfl rfl ⟨bc BK217.out 0, bc BK217.out 1, bc BK217.out 2⟩ (fun hHeld => ?_)
              generalize wc.drew = w66 at HO_6 HO_8 BK217 HB hHeld ⊢
              refine pure_ (i := 0) (N := some 65) (v := ?_) (a' := ?_) b4_1 rfl rfl (by kernel_rfl) (fun _ _ _ h => h) (Or.inl ⟨by rfl, ?_⟩) ?_ ?_; rotate_left
              ·intro w'; go_simp; with_reducible rfl
              rotate_left
              ·simp only [Act.put, sa_, s0_, ss_, i64_w, i32_w]; rfl
              refine take_ (i := 2) (N := some 67) (v := ?_) (a' := ?_) b4_2 rfl rfl (by kernel_rfl) (fun _ _ _ h => h) (Or.inl ⟨by rfl, ?_⟩) hHeld ?_ ?_; rotate_left
              ·rintro w' ⟨s0, s1, s2⟩; go_simp; with_reducible rfl
              rotate_left
              ·simp only [Act.put, sa_, s0_, ss_, i64_w, i32_w]; rfl
              refine one_ (i := 1) (N := some 66) b4_3 rfl rfl (by kernel_rfl) (by decide) (fun K hK => ?_)
              refine gs_ Try.func7 #[.slice A0 l0.length c0] ?_
              with_reducible refine (laws_toKeyS.calls kj55 _ _ l0 t249 _ ?side1 ?side2 A61.out).mono ?_
              (case side1 => repeat (first | exact (Kd.C_below HR0.out HB.out) | (with_reducible refine Kd.C_alloc ?_ _) | (with_reducible refine Kd.C_drewN ?_ _) | (with_reducible refine Kd.C_drew ?_)))
              (case side2 => exact HC0.out)
              rintro e w67 ⟨v250, rfl, ho0, hb⟩
              refine ⟨_, rfl, ?_⟩
              have HO251 := am (Kd.R_lower (Kd.R_new' (Kd.R_new' ho0 (Kd.R_lt (kr HO_6.out))) (Kd.R_lt (kr HO_8.out))) (below_size (bl HB.out)))
              replace HO_6 := am (Kd.R_elder' (kr HO_6.out) (Kd.R_base ho0) hb)
              replace HO_8 := am (Kd.R_elder' (kr HO_8.out) (Kd.R_base ho0) hb)
              replace BK217 := am (blk_below (pk BK217.out) hb)
              replace HB := am (below_step (bl HB.out) hb)
              (try clear hb)
              (try clear hb2)
              (try clear hk)
              (try clear hi)
              (try clear ho0)
              refine hK.out _ _ ⟨bc BK217.out 0, bc BK217.out 1, bc BK217.out 2⟩ (fun hHeld => ?_)
              clear hK K
              refine norm_ (a' := ?_) ?_ ?_
              rotate_left
              ·show Act.put _ (some 66) _ = _
               simp only [Act.put, sa_, s0_, ss_, i64_w, i32_w]
               rfl
              refine one_ (i := 3) (N := some 68) b4_4 rfl rfl (by kernel_rfl) (by decide) (fun K hK => ?_)
              refine gs_ Try.func14 #[.agg #[.int .i64 a1_0, .string a1_1, .string a1_2]] ?_
              with_reducible refine (laws_toKey.calls a1_0 a1_1 a1_2 t252 t253 t254 _ A62.out).mono ?_
              rintro e w68 ⟨rfl, hb⟩
              refine ⟨_, rfl, ?_⟩
              replace HO_6 := am (Kd.R_below (kr HO_6.out) hb)
              replace HO_8 := am (Kd.R_below (kr HO_8.out) hb)
              replace HO251 := am (Kd.R_below (kr HO251.out) hb)
              replace BK217 := am (blk_below (pk BK217.out) hb)
              replace HB := am (below_step (bl HB.out) hb)
              (try clear hb)
              (try clear hb2)
              (try clear hk)
              (try clear hi)
              obtain ⟨Ao69, co69, eo69⟩ := Kd.R_slice HO251.out
              (first | subst eo69 | (injection eo69 with f1_ f2_ f3_; have f4_ := f1_.symm; have f5_ := f3_.symm; clear f1_ f2_ f3_; subst f4_; subst f5_))
              refine hK.out _ _ ⟨bc BK217.out 0, bc BK217.out 1, bc BK217.out 2⟩ (fun hHeld => ?_)
              clear hK K
              refine norm_ (a' := ?_) ?_ ?_
              rotate_left
              ·show Act.put _ (some 68) _ = _
               simp only [Act.put, sa_, s0_, ss_, i64_w, i32_w]
               rfl
              refine one_ (i := 4) (N := some 69) b4_5 rfl rfl (by kernel_rfl) (by decide) (fun K hK => ?_)
              refine gs_ Try.func15 #[.slice Ao69 t249.length co69, .agg #[.int .i64 t252, .string t253, .string t254]] ?_
              with_reducible refine (impl_KeyBind.calls kj55 _ _ t249 t252 t253 t254 t255 _ ?side1 ?side2 A63.out).mono ?_
              (case side1 => repeat (first | exact (Kd.R_reads' HO251.out).2.2 | (with_reducible refine Kd.C_alloc ?_ _) | (with_reducible refine Kd.C_drewN ?_ _) | (with_reducible refine Kd.C_drew ?_)))
              (case side2 => exact (Kd.R_reads' HO251.out).2.1)
              rintro e w70 ⟨v256, rfl, ho0, hb⟩
              refine ⟨_, rfl, ?_⟩
              have HO257 := am (Kd.R_lower (Kd.R_new' (Kd.R_new' (Kd.R_new' ho0 (Kd.R_lt (kr HO_6.out))) (Kd.R_lt (kr HO_8.out))) (Kd.R_lt (kr HO251.out))) (below_size (bl HB.out)))
              replace HO_6 := am (Kd.R_elder' (kr HO_6.out) (Kd.R_base ho0) hb)
              replace HO_8 := am (Kd.R_elder' (kr HO_8.out) (Kd.R_base ho0) hb)
              replace HO251 := am (Kd.R_elder' (kr HO251.out) (Kd.R_base ho0) hb)
              replace BK217 := am (blk_below (pk BK217.out) hb)
              replace HB := am (below_step (bl HB.out) hb)
              (try clear hb)
              (try clear hb2)
              (try clear hk)
              (try clear hi)
              (try clear ho0)
              refine hK.out _ _ ⟨bc BK217.out 0, bc BK217.out 1, bc BK217.out 2⟩ (fun hHeld => ?_)
              clear hK K
              refine norm_ (a' := ?_) ?_ ?_
              rotate_left
              ·show Act.put _ (some 69) _ = _
               simp only [Act.put, sa_, s0_, ss_, i64_w, i32_w]
               rfl
              refine pure_ (i := 5) (N := some 12) (v := ?_) (a' := ?_) b4_6 rfl rfl (by kernel_rfl) (fun _ _ _ h => h) (Or.inl ⟨by rfl, ?_⟩) ?_ ?_; rotate_left
              ·intro w'; go_simp; with_reducible rfl
              rotate_left
              ·simp only [Act.put, sa_, s0_, ss_, i64_w, i32_w]; rfl
              refine done_ (by kernel_rfl) ?_
              obtain ⟨Ao71, co71, eo71⟩ := Kd.R_slice HO257.out
              subst eo71
              go_upto_if 73 with (first | ((with_reducible refine gate_callee (f := 9) rfl ?_); refine gl (some 72) Try.func9 #[.slice Ao71 t255.length co71, .slice Ao36 t226.length co36] ?_; (with_reducible refine (laws_eqKeyS.calls kj55 _ _ t255 _ _ t226 t258 _ ?side1 ?side2 ?side3 ?side4 A64.out).mono ?_); (case side1 => repeat (first | exact (Kd.R_reads' HO257.out).2.2 | (with_reducible refine Kd.C_alloc ?_ _) | (with_reducible refine Kd.C_drewN ?_ _) | (with_reducible refine Kd.C_drew ?_))); (case side2 => exact (Kd.R_reads' HO257.out).2.1); (case side3 => repeat (first | exact (Kd.R_reads' HO_6.out).2.2 | (with_reducible refine Kd.C_alloc ?_ _) | (with_reducible refine Kd.C_drewN ?_ _) | (with_reducible refine Kd.C_drew ?_))); (case side4 => exact (Kd.R_reads' HO_6.out).2.1); rintro e w72 ⟨rfl, hb⟩; refine ⟨_, rfl, ?_⟩; replace HO_6 := am (Kd.R_below (kr HO_6.out) hb); replace HO_8 := am (Kd.R_below (kr HO_8.out) hb); replace HO251 := am (Kd.R_below (kr HO251.out) hb); replace HO257 := am (Kd.R_below (kr HO257.out) hb); replace BK217 := am (blk_below (pk BK217.out) hb); replace HB := am (below_step (bl HB.out) hb); (try clear hb); (try clear hb2); (try clear hk); (try clear hi)))
              (try simp only [Act.put, sa_, s0_, ss_])
              go_cut [] (fun wc => ∃ (kq : Nat), Aside0 (laws_FnExactKeyBind.j5 kq t247 t246 = some r) ∧ Aside0 (kq ≤ kj55) ∧ Aside0 (Kd.R k34 34 wc w.heap.size (fun _ => True) (.slice Ao35 t247.length co35) t247) ∧ Aside0 (wc.heap[gb217]? = some (.cells #[.int .i64 a1_0, .string a1_1, .string a1_2] 31 (0, 0))) ∧ Aside0 (Below w.heap.size w wc))
              case first =>
               have H := HC65.out
               clear HC65
               by_cases c73 : t258 = true
               ·subst c73
                have H1 : (laws_FnExactKeyBind.j5 kj55 t247 t246) = some r := by rw [if_pos rfl] at H; exact H
                clear H
                have H := H1
                clear H1
                have H' := Aside0.mk H
                clear H
                go_wp2
                go_meet
                case rel => exact ⟨_, H', ⟨by have := HJ19.out; have := HJ40.out; have := HJ46.out; have := HJ51.out; have := HJ55.out; first | omega | exact Nat.le_refl _⟩, ⟨by (try simp only [hl8_55]); (with_reducible repeat (first | apply Kd.R_alloc | apply Kd.R_drewN | apply Kd.R_drew)); exact Kd.R_mono HO_8.out (fun _ hk => trivial)⟩, ⟨by (try simp only [hl8_55]); refine pk ?_; exact BK217.out⟩, ⟨by repeat (first | (with_reducible first | exact HB.out | apply below_alloc | apply pw_below_drewN | apply below_drew1 | refine below_set ?_ GE217.out) | exact HB.out)⟩⟩
               ·replace c73 := Bool.eq_false_iff.mpr c73
                subst c73
                have H1 : (some false) = some r := by rw [if_neg (show ¬ (false = true) by decide)] at H; exact H
                clear H
                have H := H1
                clear H1
                obtain rfl := Option.some.inj H
                go_wp2
                go_ret
                exact ⟨by first | rfl | (simp [errW_none, errW_some] <;> rfl) | (simp [*, errW_none, errW_some] <;> rfl), by repeat (first | (with_reducible first | exact HB.out | apply below_alloc | apply pw_below_drewN | apply below_drew1 | refine below_set ?_ GE217.out) | exact HB.out)⟩
              case rest =>
               clear HC65
               try clear c1
               try clear p2
               try clear c3
               try clear c4
               try clear c4b0
               try clear c5
               try clear c6
               try clear c7
               try clear c8
               try clear c8b0
               try clear c9
               try clear c10
               try clear c11
               try clear c12
               try clear c13
               try clear c14
               try clear c15
               try clear c38
               try clear c45
               try clear c49
               try clear c49b0
               try clear c53
               try clear c59
               try clear c59b0
               try clear c60
               try clear c60b0
               try clear c60b1
               try clear c73
               try clear hcz11_0
               try clear hcz11_1
               try clear hcz11_2
               try clear hcz23_0
               try clear hcz23_1
               try clear hcz23_2
               try clear hcz31_0
               try clear hcz31_1
               try clear hcz31_2
               try clear p2
               obtain ⟨kq, HA, HJ64, HO_8, BK217, HB⟩ := hcut
               cases kq with
               | zero => exact absurd HA.out (by simp [laws_FnExactKeyBind.j5])
               | succ kj64 =>
                have H := HA.out
                clear HA
                simp only [laws_FnExactKeyBind.j5] at H
                replace H := Option.bind_eq_some_iff.mp H
                obtain ⟨t259, A740, H⟩ := H
                replace H : (if t259 < 0 then (some false) else (if t259 = t246 then (some true) else (some false))) = some r := H
                have A74 := Aside0.mk A740
                clear A740
                by_cases c75 : t259 < 0
                ·rw [if_pos c75] at H
                 have c75b0 : decide (t259 < 0) = true := decide_eq_true c75
                 clear c75
                 obtain rfl := Option.some.inj H
                 go_wp2_with (first | ((with_reducible refine gate_callee (f := 11) rfl ?_); refine gl (some 76) Try.func11 #[.slice Ao35 t247.length co35, .int .i64 1] ?_; (with_reducible refine (laws_heldKeyS.calls kj64 _ _ t247 1 t259 _ ?side1 ?side2 A74.out).mono ?_); (case side1 => repeat (first | exact (Kd.R_reads' HO_8.out).2.2 | (with_reducible refine Kd.C_alloc ?_ _) | (with_reducible refine Kd.C_drewN ?_ _) | (with_reducible refine Kd.C_drew ?_))); (case side2 => exact (Kd.R_reads' HO_8.out).2.1); rintro e w76 ⟨rfl, hb⟩; refine ⟨_, rfl, ?_⟩; replace HO_8 := am (Kd.R_below (kr HO_8.out) hb); replace BK217 := am (blk_below (pk BK217.out) hb); replace HB := am (below_step (bl HB.out) hb); (try clear hb); (try clear hb2); (try clear hk); (try clear hi)))
                 go_ret
                 exact ⟨by first | rfl | (simp [errW_none, errW_some] <;> rfl) | (simp [*, errW_none, errW_some] <;> rfl), by repeat (first | (with_reducible first | exact HB.out | apply below_alloc | apply pw_below_drewN | apply below_drew1 | refine below_set ?_ GE217.out) | exact HB.out)⟩
                ·rw [if_neg c75] at H
                 have c75b0 : decide (t259 < 0) = false := decide_eq_false c75
                 clear c75
                 by_cases c77 : t259 = t246
                 ·rw [if_pos c77] at H
                  have c77b0 : (t259 == t246) = true := beq_iff_eq.mpr c77
                  have c77b1 : (t259 != t246) = false := bne_eq_false_iff_eq.mpr c77
                  clear c77
                  obtain rfl := Option.some.inj H
                  go_wp2_with (first | ((with_reducible refine gate_callee (f := 11) rfl ?_); refine gl (some 76) Try.func11 #[.slice Ao35 t247.length co35, .int .i64 1] ?_; (with_reducible refine (laws_heldKeyS.calls kj64 _ _ t247 1 t259 _ ?side1 ?side2 A74.out).mono ?_); (case side1 => repeat (first | exact (Kd.R_reads' HO_8.out).2.2 | (with_reducible refine Kd.C_alloc ?_ _) | (with_reducible refine Kd.C_drewN ?_ _) | (with_reducible refine Kd.C_drew ?_))); (case side2 => exact (Kd.R_reads' HO_8.out).2.1); rintro e w78 ⟨rfl, hb⟩; refine ⟨_, rfl, ?_⟩; replace HO_8 := am (Kd.R_below (kr HO_8.out) hb); replace BK217 := am (blk_below (pk BK217.out) hb); replace HB := am (below_step (bl HB.out) hb); (try clear hb); (try clear hb2); (try clear hk); (try clear hi)))
                  go_ret
                  exact ⟨by first | rfl | (simp [errW_none, errW_some] <;> rfl) | (simp [*, errW_none, errW_some] <;> rfl), by repeat (first | (with_reducible first | exact HB.out | apply below_alloc | apply pw_below_drewN | apply below_drew1 | refine below_set ?_ GE217.out) | exact HB.out)⟩
                 ·rw [if_neg c77] at H
                  have c77b0 : (t259 == t246) = false := beq_eq_false_iff_ne.mpr c77
                  have c77b1 : (t259 != t246) = true := bne_iff_ne.mpr c77
                  obtain rfl := Option.some.inj H
                  go_wp2_with (first | ((with_reducible refine gate_callee (f := 11) rfl ?_); refine gl (some 76) Try.func11 #[.slice Ao35 t247.length co35, .int .i64 1] ?_; (with_reducible refine (laws_heldKeyS.calls kj64 _ _ t247 1 t259 _ ?side1 ?side2 A74.out).mono ?_); (case side1 => repeat (first | exact (Kd.R_reads' HO_8.out).2.2 | (with_reducible refine Kd.C_alloc ?_ _) | (with_reducible refine Kd.C_drewN ?_ _) | (with_reducible refine Kd.C_drew ?_))); (case side2 => exact (Kd.R_reads' HO_8.out).2.1); rintro e w79 ⟨rfl, hb⟩; refine ⟨_, rfl, ?_⟩; replace HO_8 := am (Kd.R_below (kr HO_8.out) hb); replace BK217 := am (blk_below (pk BK217.out) hb); replace HB := am (below_step (bl HB.out) hb); (try clear hb); (try clear hb2); (try clear hk); (try clear hi)))
                  go_ret
                  exact ⟨by first | rfl | (simp [errW_none, errW_some] <;> rfl) | (simp [*, errW_none, errW_some] <;> rfl), by repeat (first | (with_reducible first | exact HB.out | apply below_alloc | apply pw_below_drewN | apply below_drew1 | refine below_set ?_ GE217.out) | exact HB.out)⟩
             ·rw [if_neg c60] at H
              have c60b0 : (t248 == t246) = false := beq_eq_false_iff_ne.mpr c60
              have c60b1 : (t248 != t246) = true := bne_iff_ne.mpr c60
              obtain rfl := Option.some.inj H
              go_wp2
              go_ret
              exact ⟨by first | rfl | (simp [errW_none, errW_some] <;> rfl) | (simp [*, errW_none, errW_some] <;> rfl), by repeat (first | (with_reducible first | exact HB.out | apply below_alloc | apply pw_below_drewN | apply below_drew1 | refine below_set ?_ GE217.out) | exact HB.out)⟩

/-- THE ONE PURE STATEMENT of laws_FnExactKeyBind. -/
def laws_FnExactKeyBind.Pure : Prop := ∀ (l0 : List (S31)) (a1_0 : Int) (a1_1 : ByteArray) (a1_2 : ByteArray), (l0.length ≤ maxLen ∧ ∀ y0_ ∈ l0, ((Lit.int .i64 y0_.f0).wf = true ∧ y0_.f1.size ≤ maxLen ∧ y0_.f2.size ≤ maxLen)) → ((Lit.int .i64 a1_0).wf = true ∧ a1_1.size ≤ maxLen ∧ a1_2.size ≤ maxLen) → ∃ k, laws_FnExactKeyBind.f k l0 a1_0 a1_1 a1_2 = some true

end Go.Proofs.Ytpllahncpjpfmaa.PFnExactKeyBind
