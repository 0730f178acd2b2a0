-- Written by xprint.py (this claim's own program, over the kit's printer); Lean checks it.
import Derived.Test.YtgkgicmobpnefaaPFnExactKeyFeedx0
import Derived.Test.YtgkgicmobpnefaaPFnExactKeyFeedx1
import Derived.Test.YtgkgicmobpnefaaPFnExactKeyFeedx4
import Derived.Test.YtgkgicmobpnefaaPFnExactKeyFeedx9
import Derived.Test.YtgkgicmobpnefaaPFnExactKeyFeedx10
import Derived.Test.YtgkgicmobpnefaaPFnExactKeyFeedx11
namespace Go.Proofs.Ytgkgicmobpnefaa.PFnExactKeyFeed
open Go.RowKit Go.Proofs.YtgkgicmobpnefaaW.PrintWords Go.Proofs.YtgkgicmobpnefaaW.PrintLast Go.Proofs.YtgkgicmobpnefaaW.PrintMore
attribute [local go_sem] max2_int min2_int max_two min_two max_three min_three max_four min_four   -- for this text's walks alone
set_option linter.unusedVariables false
set_option linter.unusedSimpArgs false   -- squeezed

/-! ### laws_FnExactKeyFeed: function 5 -/
mutual
def laws_FnExactKeyFeed.j0 : Nat → List (S96) → Int → ByteArray → Bool → List (S98) → List (S153) → ByteArray → Int → List (S153) → ByteArray → Int → Option (Bool)
 | 0, _, _, _, _, _, _, _, _, _, _, _ => none
 | k + 1, x0, x1, x2, x3, x11, x248000, x248001, x248002, x257000, x257001, x257002 => (laws_toKeyS.f k x0).bind fun t258 => ((laws_eqKeyS.f k x11 t258).bind fun t261 => (if t261 = true then (laws_FnExactKeyFeed.j1 k x0 x1 x2 x3 x11 x248000 x248001 x248002 x257000 x257001 x257002) else (some false)))
def laws_FnExactKeyFeed.j1 : Nat → List (S96) → Int → ByteArray → Bool → List (S98) → List (S153) → ByteArray → Int → List (S153) → ByteArray → Int → Option (Bool)
 | 0, _, _, _, _, _, _, _, _, _, _, _ => none
 | k + 1, x0, x1, x2, x3, x11, x248000, x248001, x248002, x257000, x257001, x257002 => (laws_markKeyS.f k x11 1).bind fun bt262 => (if bt262.1 < 0 then (laws_FnExactKeyFeed.j2 k x0 x1 x2 x3 true x248000 x248001 x248002 x257000 x257001 x257002) else ((laws_eqFedOut.f k x257000 x257001 x257002 x248000 x248001 x248002).bind fun t264 => (laws_FnExactKeyFeed.j2 k x0 x1 x2 x3 (!t264) x248000 x248001 x248002 x257000 x257001 x257002)))
def laws_FnExactKeyFeed.j2 : Nat → List (S96) → Int → ByteArray → Bool → Bool → List (S153) → ByteArray → Int → List (S153) → ByteArray → Int → Option (Bool)
 | 0, _, _, _, _, _, _, _, _, _, _, _ => none
 | k + 1, x0, x1, x2, x3, x57, x248000, x248001, x248002, x257000, x257001, x257002 => if x57 = true then (some false) else (laws_FnExactKeyFeed.j3 k x0 x1 x2 x3 x248000 x248001 x248002 x257000 x257001 x257002)
def laws_FnExactKeyFeed.j3 : Nat → List (S96) → Int → ByteArray → Bool → List (S153) → ByteArray → Int → List (S153) → ByteArray → Int → Option (Bool)
 | 0, _, _, _, _, _, _, _, _, _, _ => none
 | k + 1, x0, x1, x2, x3, x248000, x248001, x248002, x257000, x257001, x257002 => (laws_markFedOut.f k x257000 x257001 x257002 1).bind fun bt265 => ((laws_heldFedOut.f k bt265.2 x257001 x257002 1).bind fun t267 => (if t267 < 0 then (some false) else (laws_FnExactKeyFeed.j4 k x0 x1 x2 x3 bt265.1 t267 x248000 x248001 x248002 bt265.2 x257001 x257002)))
def laws_FnExactKeyFeed.j4 : Nat → List (S96) → Int → ByteArray → Bool → Int → Int → List (S153) → ByteArray → Int → List (S153) → ByteArray → Int → Option (Bool)
 | 0, _, _, _, _, _, _, _, _, _, _, _, _ => none
 | k + 1, x0, x1, x2, x3, x14, x15, x248000, x248001, x248002, x257000, x257001, x257002 => if x15 = x14 then ((laws_toKeyS.f k x0).bind fun t268 => ((impl_KeyFeed.f k t268 x1 x2 x3).bind fun bt271 => ((laws_eqFedOut.f k bt271.1 bt271.2.1 bt271.2.2 x248000 x248001 x248002).bind fun t277 => (if t277 = true then (laws_FnExactKeyFeed.j5 k x14 x257000 x257001 x257002) else (some false))))) else (some false)
def laws_FnExactKeyFeed.j5 : Nat → Int → List (S153) → ByteArray → Int → Option (Bool)
 | 0, _, _, _, _ => none
 | k + 1, x14, x257000, x257001, x257002 => (laws_heldFedOut.f k x257000 x257001 x257002 1).bind fun t278 => (if t278 < 0 then (some false) else (if t278 = x14 then (some true) else (some false)))
end
def laws_FnExactKeyFeed.f (k : Nat) (l0 : List (S96)) (a1 : Int) (a2 : ByteArray) (a3 : Bool) : Option (Bool) := if (a2.size : Int) > 1048576 then (some true) else ((laws_szKeyS.f k l0 1048576).bind fun t238 => (if t238 < 0 then (some true) else ((laws_toKeyS.f k l0).bind fun t239 => ((spec_KeyFeed.f k t239 a1 a2 a3).bind fun bt242 => ((laws_toKeyS.f k l0).bind fun t248 => ((impl_KeyFeed.f k t248 a1 a2 a3).bind fun bt251 => ((laws_eqFedOut.f k bt251.1 bt251.2.1 bt251.2.2 bt242.1 bt242.2.1 bt242.2.2).bind fun t257 => (if t257 = true then (laws_FnExactKeyFeed.j0 k l0 a1 a2 a3 t248 bt242.1 bt242.2.1 bt242.2.2 bt251.1 bt251.2.1 bt251.2.2) else (some false)))))))))
theorem laws_FnExactKeyFeed.mono_l : ∀ k, (∀ y0 y1 y2 y3 y4 y5 y6 y7 y8 y9 y10, LeO (laws_FnExactKeyFeed.j0 k y0 y1 y2 y3 y4 y5 y6 y7 y8 y9 y10) (laws_FnExactKeyFeed.j0 (k + 1) y0 y1 y2 y3 y4 y5 y6 y7 y8 y9 y10)) ∧ (∀ y0 y1 y2 y3 y4 y5 y6 y7 y8 y9 y10, LeO (laws_FnExactKeyFeed.j1 k y0 y1 y2 y3 y4 y5 y6 y7 y8 y9 y10) (laws_FnExactKeyFeed.j1 (k + 1) y0 y1 y2 y3 y4 y5 y6 y7 y8 y9 y10)) ∧ (∀ y0 y1 y2 y3 y4 y5 y6 y7 y8 y9 y10, LeO (laws_FnExactKeyFeed.j2 k y0 y1 y2 y3 y4 y5 y6 y7 y8 y9 y10) (laws_FnExactKeyFeed.j2 (k + 1) y0 y1 y2 y3 y4 y5 y6 y7 y8 y9 y10)) ∧ (∀ y0 y1 y2 y3 y4 y5 y6 y7 y8 y9, LeO (laws_FnExactKeyFeed.j3 k y0 y1 y2 y3 y4 y5 y6 y7 y8 y9) (laws_FnExactKeyFeed.j3 (k + 1) y0 y1 y2 y3 y4 y5 y6 y7 y8 y9)) ∧ (∀ y0 y1 y2 y3 y4 y5 y6 y7 y8 y9 y10 y11, LeO (laws_FnExactKeyFeed.j4 k y0 y1 y2 y3 y4 y5 y6 y7 y8 y9 y10 y11) (laws_FnExactKeyFeed.j4 (k + 1) y0 y1 y2 y3 y4 y5 y6 y7 y8 y9 y10 y11)) ∧ (∀ y0 y1 y2 y3, LeO (laws_FnExactKeyFeed.j5 k y0 y1 y2 y3) (laws_FnExactKeyFeed.j5 (k + 1) y0 y1 y2 y3))
 | 0 => ⟨fun _ _ _ _ _ _ _ _ _ _ _ r h => by simp [laws_FnExactKeyFeed.j0] at h, fun _ _ _ _ _ _ _ _ _ _ _ r h => by simp [laws_FnExactKeyFeed.j1] at h, fun _ _ _ _ _ _ _ _ _ _ _ r h => by simp [laws_FnExactKeyFeed.j2] at h, fun _ _ _ _ _ _ _ _ _ _ r h => by simp [laws_FnExactKeyFeed.j3] at h, fun _ _ _ _ _ _ _ _ _ _ _ _ r h => by simp [laws_FnExactKeyFeed.j4] at h, fun _ _ _ _ r h => by simp [laws_FnExactKeyFeed.j5] at h⟩
 | k + 1 => by
  obtain ⟨ih0, ih1, ih2, ih3, ih4, ih5⟩ := laws_FnExactKeyFeed.mono_l k
  refine ⟨?_, ?_, ?_, ?_, ?_, ?_⟩
  ·intro y0 y1 y2 y3 y4 y5 y6 y7 y8 y9 y10
   unfold laws_FnExactKeyFeed.j0
   repeat' first
   | (with_reducible exact ih0 _ _ _ _ _ _ _ _ _ _ _)
   | (with_reducible exact ih1 _ _ _ _ _ _ _ _ _ _ _)
   | (with_reducible exact ih2 _ _ _ _ _ _ _ _ _ _ _)
   | (with_reducible exact ih3 _ _ _ _ _ _ _ _ _ _)
   | (with_reducible exact ih4 _ _ _ _ _ _ _ _ _ _ _ _)
   | (with_reducible exact ih5 _ _ _ _)
   | (with_reducible exact impl_KeyFeed.mono _ _ _ _ _)
   | (with_reducible exact laws_eqFedOut.mono _ _ _ _ _ _ _)
   | (with_reducible exact laws_eqKeyS.mono _ _ _)
   | (with_reducible exact laws_heldFedOut.mono _ _ _ _ _)
   | (with_reducible exact laws_markFedOut.mono _ _ _ _ _)
   | (with_reducible exact laws_markKeyS.mono _ _ _)
   | (with_reducible exact laws_szKeyS.mono _ _ _)
   | (with_reducible exact laws_toKeyS.mono _ _)
   | (with_reducible exact spec_KeyFeed.mono _ _ _ _ _)
   | (with_reducible exact LeO.refl _)
   | (with_reducible exact LeO.none _)
   | (with_reducible refine LeO.ite ?_ ?_)
   | (with_reducible refine LeO.bind ?_ (fun _ => ?_))
   | exact ih0 _ _ _ _ _ _ _ _ _ _ _
   | exact ih1 _ _ _ _ _ _ _ _ _ _ _
   | exact ih2 _ _ _ _ _ _ _ _ _ _ _
   | exact ih3 _ _ _ _ _ _ _ _ _ _
   | exact ih4 _ _ _ _ _ _ _ _ _ _ _ _
   | exact ih5 _ _ _ _
   | exact impl_KeyFeed.mono _ _ _ _ _
   | exact laws_eqFedOut.mono _ _ _ _ _ _ _
   | exact laws_eqKeyS.mono _ _ _
   | exact laws_heldFedOut.mono _ _ _ _ _
   | exact laws_markFedOut.mono _ _ _ _ _
   | exact laws_markKeyS.mono _ _ _
   | exact laws_szKeyS.mono _ _ _
   | exact laws_toKeyS.mono _ _
   | exact spec_KeyFeed.mono _ _ _ _ _
   | exact LeO.none _
   | refine LeO.ite ?_ ?_
   | refine LeO.bind ?_ (fun _ => ?_)
  ·intro y0 y1 y2 y3 y4 y5 y6 y7 y8 y9 y10
   unfold laws_FnExactKeyFeed.j1
   repeat' first
   | (with_reducible exact ih0 _ _ _ _ _ _ _ _ _ _ _)
   | (with_reducible exact ih1 _ _ _ _ _ _ _ _ _ _ _)
   | (with_reducible exact ih2 _ _ _ _ _ _ _ _ _ _ _)
   | (with_reducible exact ih3 _ _ _ _ _ _ _ _ _ _)
   | (with_reducible exact ih4 _ _ _ _ _ _ _ _ _ _ _ _)
   | (with_reducible exact ih5 _ _ _ _)
   | (with_reducible exact impl_KeyFeed.mono _ _ _ _ _)
   | (with_reducible exact laws_eqFedOut.mono _ _ _ _ _ _ _)
   | (with_reducible exact laws_eqKeyS.mono _ _ _)
   | (with_reducible exact laws_heldFedOut.mono _ _ _ _ _)
   | (with_reducible exact laws_markFedOut.mono _ _ _ _ _)
   | (with_reducible exact laws_markKeyS.mono _ _ _)
   | (with_reducible exact laws_szKeyS.mono _ _ _)
   | (with_reducible exact laws_toKeyS.mono _ _)
   | (with_reducible exact spec_KeyFeed.mono _ _ _ _ _)
   | (with_reducible exact LeO.refl _)
   | (with_reducible exact LeO.none _)
   | (with_reducible refine LeO.ite ?_ ?_)
   | (with_reducible refine LeO.bind ?_ (fun _ => ?_))
   | exact ih0 _ _ _ _ _ _ _ _ _ _ _
   | exact ih1 _ _ _ _ _ _ _ _ _ _ _
   | exact ih2 _ _ _ _ _ _ _ _ _ _ _
   | exact ih3 _ _ _ _ _ _ _ _ _ _
   | exact ih4 _ _ _ _ _ _ _ _ _ _ _ _
   | exact ih5 _ _ _ _
   | exact impl_KeyFeed.mono _ _ _ _ _
   | exact laws_eqFedOut.mono _ _ _ _ _ _ _
   | exact laws_eqKeyS.mono _ _ _
   | exact laws_heldFedOut.mono _ _ _ _ _
   | exact laws_markFedOut.mono _ _ _ _ _
   | exact laws_markKeyS.mono _ _ _
   | exact laws_szKeyS.mono _ _ _
   | exact laws_toKeyS.mono _ _
   | exact spec_KeyFeed.mono _ _ _ _ _
   | exact LeO.none _
   | refine LeO.ite ?_ ?_
   | refine LeO.bind ?_ (fun _ => ?_)
  ·intro y0 y1 y2 y3 y4 y5 y6 y7 y8 y9 y10
   unfold laws_FnExactKeyFeed.j2
   repeat' first
   | (with_reducible exact ih0 _ _ _ _ _ _ _ _ _ _ _)
   | (with_reducible exact ih1 _ _ _ _ _ _ _ _ _ _ _)
   | (with_reducible exact ih2 _ _ _ _ _ _ _ _ _ _ _)
   | (with_reducible exact ih3 _ _ _ _ _ _ _ _ _ _)
   | (with_reducible exact ih4 _ _ _ _ _ _ _ _ _ _ _ _)
   | (with_reducible exact ih5 _ _ _ _)
   | (with_reducible exact impl_KeyFeed.mono _ _ _ _ _)
   | (with_reducible exact laws_eqFedOut.mono _ _ _ _ _ _ _)
   | (with_reducible exact laws_eqKeyS.mono _ _ _)
   | (with_reducible exact laws_heldFedOut.mono _ _ _ _ _)
   | (with_reducible exact laws_markFedOut.mono _ _ _ _ _)
   | (with_reducible exact laws_markKeyS.mono _ _ _)
   | (with_reducible exact laws_szKeyS.mono _ _ _)
   | (with_reducible exact laws_toKeyS.mono _ _)
   | (with_reducible exact spec_KeyFeed.mono _ _ _ _ _)
   | (with_reducible exact LeO.refl _)
   | (with_reducible exact LeO.none _)
   | (with_reducible refine LeO.ite ?_ ?_)
   | (with_reducible refine LeO.bind ?_ (fun _ => ?_))
   | exact ih0 _ _ _ _ _ _ _ _ _ _ _
   | exact ih1 _ _ _ _ _ _ _ _ _ _ _
   | exact ih2 _ _ _ _ _ _ _ _ _ _ _
   | exact ih3 _ _ _ _ _ _ _ _ _ _
   | exact ih4 _ _ _ _ _ _ _ _ _ _ _ _
   | exact ih5 _ _ _ _
   | exact impl_KeyFeed.mono _ _ _ _ _
   | exact laws_eqFedOut.mono _ _ _ _ _ _ _
   | exact laws_eqKeyS.mono _ _ _
   | exact laws_heldFedOut.mono _ _ _ _ _
   | exact laws_markFedOut.mono _ _ _ _ _
   | exact laws_markKeyS.mono _ _ _
   | exact laws_szKeyS.mono _ _ _
   | exact laws_toKeyS.mono _ _
   | exact spec_KeyFeed.mono _ _ _ _ _
   | exact LeO.none _
   | refine LeO.ite ?_ ?_
   | refine LeO.bind ?_ (fun _ => ?_)
  ·intro y0 y1 y2 y3 y4 y5 y6 y7 y8 y9
   unfold laws_FnExactKeyFeed.j3
   repeat' first
   | (with_reducible exact ih0 _ _ _ _ _ _ _ _ _ _ _)
   | (with_reducible exact ih1 _ _ _ _ _ _ _ _ _ _ _)
   | (with_reducible exact ih2 _ _ _ _ _ _ _ _ _ _ _)
   | (with_reducible exact ih3 _ _ _ _ _ _ _ _ _ _)
   | (with_reducible exact ih4 _ _ _ _ _ _ _ _ _ _ _ _)
   | (with_reducible exact ih5 _ _ _ _)
   | (with_reducible exact impl_KeyFeed.mono _ _ _ _ _)
   | (with_reducible exact laws_eqFedOut.mono _ _ _ _ _ _ _)
   | (with_reducible exact laws_eqKeyS.mono _ _ _)
   | (with_reducible exact laws_heldFedOut.mono _ _ _ _ _)
   | (with_reducible exact laws_markFedOut.mono _ _ _ _ _)
   | (with_reducible exact laws_markKeyS.mono _ _ _)
   | (with_reducible exact laws_szKeyS.mono _ _ _)
   | (with_reducible exact laws_toKeyS.mono _ _)
   | (with_reducible exact spec_KeyFeed.mono _ _ _ _ _)
   | (with_reducible exact LeO.refl _)
   | (with_reducible exact LeO.none _)
   | (with_reducible refine LeO.ite ?_ ?_)
   | (with_reducible refine LeO.bind ?_ (fun _ => ?_))
   | exact ih0 _ _ _ _ _ _ _ _ _ _ _
   | exact ih1 _ _ _ _ _ _ _ _ _ _ _
   | exact ih2 _ _ _ _ _ _ _ _ _ _ _
   | exact ih3 _ _ _ _ _ _ _ _ _ _
   | exact ih4 _ _ _ _ _ _ _ _ _ _ _ _
   | exact ih5 _ _ _ _
   | exact impl_KeyFeed.mono _ _ _ _ _
   | exact laws_eqFedOut.mono _ _ _ _ _ _ _
   | exact laws_eqKeyS.mono _ _ _
   | exact laws_heldFedOut.mono _ _ _ _ _
   | exact laws_markFedOut.mono _ _ _ _ _
   | exact laws_markKeyS.mono _ _ _
   | exact laws_szKeyS.mono _ _ _
   | exact laws_toKeyS.mono _ _
   | exact spec_KeyFeed.mono _ _ _ _ _
   | exact LeO.none _
   | refine LeO.ite ?_ ?_
   | refine LeO.bind ?_ (fun _ => ?_)
  ·intro y0 y1 y2 y3 y4 y5 y6 y7 y8 y9 y10 y11
   unfold laws_FnExactKeyFeed.j4
   repeat' first
   | (with_reducible exact ih0 _ _ _ _ _ _ _ _ _ _ _)
   | (with_reducible exact ih1 _ _ _ _ _ _ _ _ _ _ _)
   | (with_reducible exact ih2 _ _ _ _ _ _ _ _ _ _ _)
   | (with_reducible exact ih3 _ _ _ _ _ _ _ _ _ _)
   | (with_reducible exact ih4 _ _ _ _ _ _ _ _ _ _ _ _)
   | (with_reducible exact ih5 _ _ _ _)
   | (with_reducible exact impl_KeyFeed.mono _ _ _ _ _)
   | (with_reducible exact laws_eqFedOut.mono _ _ _ _ _ _ _)
   | (with_reducible exact laws_eqKeyS.mono _ _ _)
   | (with_reducible exact laws_heldFedOut.mono _ _ _ _ _)
   | (with_reducible exact laws_markFedOut.mono _ _ _ _ _)
   | (with_reducible exact laws_markKeyS.mono _ _ _)
   | (with_reducible exact laws_szKeyS.mono _ _ _)
   | (with_reducible exact laws_toKeyS.mono _ _)
   | (with_reducible exact spec_KeyFeed.mono _ _ _ _ _)
   | (with_reducible exact LeO.refl _)
   | (with_reducible exact LeO.none _)
   | (with_reducible refine LeO.ite ?_ ?_)
   | (with_reducible refine LeO.bind ?_ (fun _ => ?_))
   | exact ih0 _ _ _ _ _ _ _ _ _ _ _
   | exact ih1 _ _ _ _ _ _ _ _ _ _ _
   | exact ih2 _ _ _ _ _ _ _ _ _ _ _
   | exact ih3 _ _ _ _ _ _ _ _ _ _
   | exact ih4 _ _ _ _ _ _ _ _ _ _ _ _
   | exact ih5 _ _ _ _
   | exact impl_KeyFeed.mono _ _ _ _ _
   | exact laws_eqFedOut.mono _ _ _ _ _ _ _
   | exact laws_eqKeyS.mono _ _ _
   | exact laws_heldFedOut.mono _ _ _ _ _
   | exact laws_markFedOut.mono _ _ _ _ _
   | exact laws_markKeyS.mono _ _ _
   | exact laws_szKeyS.mono _ _ _
   | exact laws_toKeyS.mono _ _
   | exact spec_KeyFeed.mono _ _ _ _ _
   | exact LeO.none _
   | refine LeO.ite ?_ ?_
   | refine LeO.bind ?_ (fun _ => ?_)
  ·intro y0 y1 y2 y3
   unfold laws_FnExactKeyFeed.j5
   repeat' first
   | (with_reducible exact ih0 _ _ _ _ _ _ _ _ _ _ _)
   | (with_reducible exact ih1 _ _ _ _ _ _ _ _ _ _ _)
   | (with_reducible exact ih2 _ _ _ _ _ _ _ _ _ _ _)
   | (with_reducible exact ih3 _ _ _ _ _ _ _ _ _ _)
   | (with_reducible exact ih4 _ _ _ _ _ _ _ _ _ _ _ _)
   | (with_reducible exact ih5 _ _ _ _)
   | (with_reducible exact impl_KeyFeed.mono _ _ _ _ _)
   | (with_reducible exact laws_eqFedOut.mono _ _ _ _ _ _ _)
   | (with_reducible exact laws_eqKeyS.mono _ _ _)
   | (with_reducible exact laws_heldFedOut.mono _ _ _ _ _)
   | (with_reducible exact laws_markFedOut.mono _ _ _ _ _)
   | (with_reducible exact laws_markKeyS.mono _ _ _)
   | (with_reducible exact laws_szKeyS.mono _ _ _)
   | (with_reducible exact laws_toKeyS.mono _ _)
   | (with_reducible exact spec_KeyFeed.mono _ _ _ _ _)
   | (with_reducible exact LeO.refl _)
   | (with_reducible exact LeO.none _)
   | (with_reducible refine LeO.ite ?_ ?_)
   | (with_reducible refine LeO.bind ?_ (fun _ => ?_))
   | exact ih0 _ _ _ _ _ _ _ _ _ _ _
   | exact ih1 _ _ _ _ _ _ _ _ _ _ _
   | exact ih2 _ _ _ _ _ _ _ _ _ _ _
   | exact ih3 _ _ _ _ _ _ _ _ _ _
   | exact ih4 _ _ _ _ _ _ _ _ _ _ _ _
   | exact ih5 _ _ _ _
   | exact impl_KeyFeed.mono _ _ _ _ _
   | exact laws_eqFedOut.mono _ _ _ _ _ _ _
   | exact laws_eqKeyS.mono _ _ _
   | exact laws_heldFedOut.mono _ _ _ _ _
   | exact laws_markFedOut.mono _ _ _ _ _
   | exact laws_markKeyS.mono _ _ _
   | exact laws_szKeyS.mono _ _ _
   | exact laws_toKeyS.mono _ _
   | exact spec_KeyFeed.mono _ _ _ _ _
   | exact LeO.none _
   | refine LeO.ite ?_ ?_
   | refine LeO.bind ?_ (fun _ => ?_)
theorem laws_FnExactKeyFeed.mono : ∀ a0 a1 a2 a3 k, LeO (laws_FnExactKeyFeed.f k a0 a1 a2 a3) (laws_FnExactKeyFeed.f (k + 1) a0 a1 a2 a3) := by
 intro a0 a1 a2 a3 k
 obtain ⟨ih0, ih1, ih2, ih3, ih4, ih5⟩ := laws_FnExactKeyFeed.mono_l k
 unfold laws_FnExactKeyFeed.f
 repeat' first
   | (with_reducible exact ih0 _ _ _ _ _ _ _ _ _ _ _)
   | (with_reducible exact ih1 _ _ _ _ _ _ _ _ _ _ _)
   | (with_reducible exact ih2 _ _ _ _ _ _ _ _ _ _ _)
   | (with_reducible exact ih3 _ _ _ _ _ _ _ _ _ _)
   | (with_reducible exact ih4 _ _ _ _ _ _ _ _ _ _ _ _)
   | (with_reducible exact ih5 _ _ _ _)
   | (with_reducible exact impl_KeyFeed.mono _ _ _ _ _)
   | (with_reducible exact laws_eqFedOut.mono _ _ _ _ _ _ _)
   | (with_reducible exact laws_eqKeyS.mono _ _ _)
   | (with_reducible exact laws_heldFedOut.mono _ _ _ _ _)
   | (with_reducible exact laws_markFedOut.mono _ _ _ _ _)
   | (with_reducible exact laws_markKeyS.mono _ _ _)
   | (with_reducible exact laws_szKeyS.mono _ _ _)
   | (with_reducible exact laws_toKeyS.mono _ _)
   | (with_reducible exact spec_KeyFeed.mono _ _ _ _ _)
   | (with_reducible exact LeO.refl _)
   | (with_reducible exact LeO.none _)
   | (with_reducible refine LeO.ite ?_ ?_)
   | (with_reducible refine LeO.bind ?_ (fun _ => ?_))
   | exact ih0 _ _ _ _ _ _ _ _ _ _ _
   | exact ih1 _ _ _ _ _ _ _ _ _ _ _
   | exact ih2 _ _ _ _ _ _ _ _ _ _ _
   | exact ih3 _ _ _ _ _ _ _ _ _ _
   | exact ih4 _ _ _ _ _ _ _ _ _ _ _ _
   | exact ih5 _ _ _ _
   | exact impl_KeyFeed.mono _ _ _ _ _
   | exact laws_eqFedOut.mono _ _ _ _ _ _ _
   | exact laws_eqKeyS.mono _ _ _
   | exact laws_heldFedOut.mono _ _ _ _ _
   | exact laws_markFedOut.mono _ _ _ _ _
   | exact laws_markKeyS.mono _ _ _
   | exact laws_szKeyS.mono _ _ _
   | exact laws_toKeyS.mono _ _
   | exact spec_KeyFeed.mono _ _ _ _ _
   | exact LeO.none _
   | refine LeO.ite ?_ ?_
   | refine LeO.bind ?_ (fun _ => ?_)
set_option maxHeartbeats 8000000 in
set_option maxRecDepth 100000 in
theorem laws_FnExactKeyFeed.calls (k : Nat) (A0 : Option Addr) (c0 : Nat) (l0 : List (S96)) (a1 : Int) (a2 : ByteArray) (a3 : Bool) (r : Bool) (w : World) (hr0 : Kd.C k96 w A0 l0.length l0) (hc0 : l0.length ≤ c0) (h : laws_FnExactKeyFeed.f k l0 a1 a2 a3 = some r) :
  Calls Try.prog 5 #[.slice A0 l0.length c0, .int .i64 a1, .string a2, .bool a3] w fun e w' => e = .returned (.bool r) ∧ Below w.heap.size w w' := by
 have hu39 := Try.underlying39
 have HR0 := am hr0
 have HC0 := am hc0
 clear hr0 hc0
 have HB := am (Below.refl w.heap.size w)
 have H : (if (a2.size : Int) > 1048576 then (some true) else ((laws_szKeyS.f k l0 1048576).bind fun t238 => (if t238 < 0 then (some true) else ((laws_toKeyS.f k l0).bind fun t239 => ((spec_KeyFeed.f k t239 a1 a2 a3).bind fun bt242 => ((laws_toKeyS.f k l0).bind fun t248 => ((impl_KeyFeed.f k t248 a1 a2 a3).bind fun bt251 => ((laws_eqFedOut.f k bt251.1 bt251.2.1 bt251.2.2 bt242.1 bt242.2.1 bt242.2.2).bind fun t257 => (if t257 = true then (laws_FnExactKeyFeed.j0 k l0 a1 a2 a3 t248 bt242.1 bt242.2.1 bt242.2.2 bt251.1 bt251.2.1 bt251.2.2) else (some false)))))))))) = some r := h
 clear h
 by_cases c5 : (a2.size : Int) > 1048576
 ·rw [if_pos c5] at H
  have c5b0 : decide (1048576 < (a2.size : Int)) = true := decide_eq_true c5
  have c5b1 : decide (1048576 < a2.size) = true := decide_eq_true (by omega)
  clear c5
  obtain rfl := Option.some.inj H
  go_enter Try.func5, Try.ntmps5
  go_wp2
  go_ret
  exact ⟨by first | rfl | (simp [errW_none, errW_some] <;> rfl) | (simp [*, errW_none, errW_some] <;> rfl), by repeat (first | (with_reducible first | exact HB.out | apply below_alloc | apply pw_below_drewN | apply below_drew1) | exact HB.out)⟩
 ·rw [if_neg c5] at H
  have c5b0 : decide (1048576 < (a2.size : Int)) = false := decide_eq_false c5
  have c5b1 : decide (1048576 < a2.size) = false := decide_eq_false (by omega)
  clear c5
  replace H := Option.bind_eq_some_iff.mp H
  obtain ⟨t238, A60, H⟩ := H
  replace H : (if t238 < 0 then (some true) else ((laws_toKeyS.f k l0).bind fun t239 => ((spec_KeyFeed.f k t239 a1 a2 a3).bind fun bt242 => ((laws_toKeyS.f k l0).bind fun t248 => ((impl_KeyFeed.f k t248 a1 a2 a3).bind fun bt251 => ((laws_eqFedOut.f k bt251.1 bt251.2.1 bt251.2.2 bt242.1 bt242.2.1 bt242.2.2).bind fun t257 => (if t257 = true then (laws_FnExactKeyFeed.j0 k l0 a1 a2 a3 t248 bt242.1 bt242.2.1 bt242.2.2 bt251.1 bt251.2.1 bt251.2.2) else (some false)))))))) = some r := H
  have A6 := Aside0.mk A60
  clear A60
  by_cases c7 : t238 < 0
  ·rw [if_pos c7] at H
   have c7b0 : decide (t238 < 0) = true := decide_eq_true c7
   clear c7
   obtain rfl := Option.some.inj H
   go_enter Try.func5, Try.ntmps5
   go_wp2_with (first | ((with_reducible refine gate_callee (f := 16) rfl ?_); refine gl (some 22) Try.func16 #[.slice A0 l0.length c0, .int .i64 1048576] ?_; (with_reducible refine (laws_szKeyS.calls k _ _ l0 1048576 t238 _ ?side1 ?side2 A6.out).mono ?_); (case side1 => repeat (first | exact HR0.out | (with_reducible refine Kd.C_alloc ?_ _) | (with_reducible refine Kd.C_drewN ?_ _) | (with_reducible refine Kd.C_drew ?_))); (case side2 => exact HC0.out); rintro e w8 ⟨rfl, hb⟩; refine ⟨_, rfl, ?_⟩; have n0_ := am (below_step (bl HB.out) hb); clear HB; have HB := n0_; clear n0_; (try clear hb); (try clear hb2); (try clear hk); (try clear hi)))
   go_ret
   exact ⟨by first | rfl | (simp [errW_none, errW_some] <;> rfl) | (simp [*, errW_none, errW_some] <;> rfl), by repeat (first | (with_reducible first | exact HB.out | apply below_alloc | apply pw_below_drewN | apply below_drew1) | exact HB.out)⟩
  ·rw [if_neg c7] at H
   have c7b0 : decide (t238 < 0) = false := decide_eq_false c7
   clear c7
   replace H := Option.bind_eq_some_iff.mp H
   obtain ⟨t239, A90, H⟩ := H
   replace H : ((spec_KeyFeed.f k t239 a1 a2 a3).bind fun bt242 => ((laws_toKeyS.f k l0).bind fun t248 => ((impl_KeyFeed.f k t248 a1 a2 a3).bind fun bt251 => ((laws_eqFedOut.f k bt251.1 bt251.2.1 bt251.2.2 bt242.1 bt242.2.1 bt242.2.2).bind fun t257 => (if t257 = true then (laws_FnExactKeyFeed.j0 k l0 a1 a2 a3 t248 bt242.1 bt242.2.1 bt242.2.2 bt251.1 bt251.2.1 bt251.2.2) else (some false)))))) = some r := H
   have A9 := Aside0.mk A90
   clear A90
   replace H := Option.bind_eq_some_iff.mp H
   obtain ⟨⟨t242, t245, t246⟩, A100, H⟩ := H
   replace H : ((laws_toKeyS.f k l0).bind fun t248 => ((impl_KeyFeed.f k t248 a1 a2 a3).bind fun bt251 => ((laws_eqFedOut.f k bt251.1 bt251.2.1 bt251.2.2 t242 t245 t246).bind fun t257 => (if t257 = true then (laws_FnExactKeyFeed.j0 k l0 a1 a2 a3 t248 t242 t245 t246 bt251.1 bt251.2.1 bt251.2.2) else (some false))))) = some r := H
   have A10 := Aside0.mk A100
   clear A100
   replace H := Option.bind_eq_some_iff.mp H
   obtain ⟨t248, A110, H⟩ := H
   replace H : ((impl_KeyFeed.f k t248 a1 a2 a3).bind fun bt251 => ((laws_eqFedOut.f k bt251.1 bt251.2.1 bt251.2.2 t242 t245 t246).bind fun t257 => (if t257 = true then (laws_FnExactKeyFeed.j0 k l0 a1 a2 a3 t248 t242 t245 t246 bt251.1 bt251.2.1 bt251.2.2) else (some false)))) = some r := H
   have A11 := Aside0.mk A110
   clear A110
   replace H := Option.bind_eq_some_iff.mp H
   obtain ⟨⟨t251, t254, t255⟩, A120, H⟩ := H
   replace H : ((laws_eqFedOut.f k t251 t254 t255 t242 t245 t246).bind fun t257 => (if t257 = true then (laws_FnExactKeyFeed.j0 k l0 a1 a2 a3 t248 t242 t245 t246 t251 t254 t255) else (some false))) = some r := H
   have A12 := Aside0.mk A120
   clear A120
   replace H := Option.bind_eq_some_iff.mp H
   obtain ⟨t257, A130, H⟩ := H
   replace H : (if t257 = true then (laws_FnExactKeyFeed.j0 k l0 a1 a2 a3 t248 t242 t245 t246 t251 t254 t255) else (some false)) = some r := H
   have A13 := Aside0.mk A130
   clear A130
   have HC14 := Aside0.mk H
   clear H
   go_enter Try.func5, Try.ntmps5
   go_upto_if 41 with (first | ((with_reducible refine gate_callee (f := 16) rfl ?_); refine gl (some 22) Try.func16 #[.slice A0 l0.length c0, .int .i64 1048576] ?_; (with_reducible refine (laws_szKeyS.calls k _ _ l0 1048576 t238 _ ?side1 ?side2 A6.out).mono ?_); (case side1 => repeat (first | exact HR0.out | (with_reducible refine Kd.C_alloc ?_ _) | (with_reducible refine Kd.C_drewN ?_ _) | (with_reducible refine Kd.C_drew ?_))); (case side2 => exact HC0.out); rintro e w15 ⟨rfl, hb⟩; refine ⟨_, rfl, ?_⟩; have n0_ := am (below_step (bl HB.out) hb); clear HB; have HB := n0_; clear n0_; (try clear hb); (try clear hb2); (try clear hk); (try clear hi)) | ((with_reducible refine gate_callee (f := 18) rfl ?_); refine gl (some 26) Try.func18 #[.slice A0 l0.length c0] ?_; (with_reducible refine (laws_toKeyS.calls k _ _ l0 t239 _ ?side1 ?side2 A9.out).mono ?_); (case side1 => repeat (first | exact (Kd.C_below HR0.out HB.out) | (with_reducible refine Kd.C_alloc ?_ _) | (with_reducible refine Kd.C_drewN ?_ _) | (with_reducible refine Kd.C_drew ?_))); (case side2 => exact HC0.out); rintro e w16 ⟨v240, rfl, ho0, hb⟩; refine ⟨_, rfl, ?_⟩; have n0_ := am (Kd.R_lower ho0 (below_size (bl HB.out))); have n1_ := am (below_step (bl HB.out) hb); clear HB; have HO241 := n0_; have HB := n1_; clear n0_ n1_; (try clear hb); (try clear hb2); (try clear hk); (try clear hi); (try clear ho0); obtain ⟨Ao17, co17, eo17⟩ := Kd.R_slice HO241.out; subst eo17) | ((with_reducible refine gate_callee (f := 17) rfl ?_); refine gl (some 30) Try.func17 #[.slice Ao17 t239.length co17, .int .i64 a1, .string a2, .bool a3] ?_; (with_reducible refine (spec_KeyFeed.calls k _ _ t239 a1 a2 a3 t242 t245 t246 _ ?side1 ?side2 A10.out).mono ?_); (case side1 => repeat (first | exact (Kd.R_reads' HO241.out).2.2 | (with_reducible refine Kd.C_alloc ?_ _) | (with_reducible refine Kd.C_drewN ?_ _) | (with_reducible refine Kd.C_drew ?_))); (case side2 => exact (Kd.R_reads' HO241.out).2.1); rintro e w18 ⟨v243, rfl, ho0, hb⟩; refine ⟨_, rfl, ?_⟩; have n0_ := am (Kd.R_below (by (with_reducible repeat (first | apply Kd.R_alloc | apply Kd.R_drewN | apply Kd.R_drew)); exact HO241.out) hb); have n1_ := am (Kd.R_lower ho0 (below_size (bl HB.out))); have n2_ := am (below_step (bl HB.out) hb); clear HO241; clear HB; have HO241 := n0_; have HO244 := n1_; have HB := n2_; clear n0_ n1_ n2_; (try clear hb); (try clear hb2); (try clear hk); (try clear hi); (try clear ho0)) | ((with_reducible refine gate_dst (N := 10) rfl ?_); refine box_event ?hg (N := 10) ?hd (cs := #[.slice none 0 0, .string (⟨#[]⟩ : ByteArray), .int .i64 0]) (t := 39) ?hr ?_; (case hd => rfl); (case hg => rfl); (case hr => first | (go_simp; done) | (go_simp; rfl)); intro gb247 hg w19 hbox hb; have n0_ := am (Kd.R_below (by (with_reducible repeat (first | apply Kd.R_alloc | apply Kd.R_drewN | apply Kd.R_drew)); exact HO241.out) hb); have n1_ := am (Kd.R_below (by (with_reducible repeat (first | apply Kd.R_alloc | apply Kd.R_drewN | apply Kd.R_drew)); exact HO244.out) hb); have n2_ := am (below_step (bl HB.out) hb); have n3_ := am (hbox); have n4_ := am ((by rw [hg]; exact (below_size (bl HB.out)) : w.heap.size ≤ gb247)); have n5_ := am ((by rw [hg]; exact (below_size (bl HB.out)) : w.heap.size ≤ gb247)); clear HO241; clear HO244; clear HB; have HO241 := n0_; have HO244 := n1_; have HB := n2_; have BK247 := n3_; have GW247 := n4_; have GE247 := n5_; clear n0_ n1_ n2_ n3_ n4_ n5_; clear hb hbox hg; obtain ⟨Ao20, co20, eo20⟩ := Kd.R_slice HO244.out; subst eo20; have hcz21_0 : w19.cell? ⟨gb247, 0, none⟩ = some (.slice none 0 0) := (blk_cell BK247.out 0).trans rfl; have hcz21_1 : w19.cell? ⟨gb247, 1, none⟩ = some (.string (⟨#[]⟩ : ByteArray)) := (blk_cell BK247.out 1).trans rfl; have hcz21_2 : w19.cell? ⟨gb247, 2, none⟩ = some (.int .i64 0) := (blk_cell BK247.out 2).trans rfl; have hfz21_0 := blk_frozen BK247.out 0; have hfz21_1 := blk_frozen BK247.out 1; have hfz21_2 := blk_frozen BK247.out 2) | ((with_reducible refine gate_callee (f := 18) rfl ?_); refine gl (some 32) Try.func18 #[.slice A0 l0.length c0] ?_; (with_reducible refine (laws_toKeyS.calls k _ _ l0 t248 _ ?side1 ?side2 A11.out).mono ?_); (case side1 => exact Kd.C_below HR0.out (by repeat (first | (with_reducible first | exact HB.out | apply below_alloc | apply pw_below_drewN | apply below_drew1 | refine below_set ?_ GE247.out) | exact HB.out))); (case side2 => exact HC0.out); rintro e w22 ⟨v249, rfl, ho0, hb⟩; refine ⟨_, rfl, ?_⟩; have n0_ := am (Kd.R_elder' (by (with_reducible repeat (first | apply Kd.R_alloc | apply Kd.R_drewN | apply Kd.R_drew)); exact (Kd.R_mono (Kd.R_far (p := ⟨gb247, 2, none⟩) (Kd.R_far (p := ⟨gb247, 1, none⟩) (Kd.R_far (p := ⟨gb247, 0, none⟩) (Kd.R_types HO241.out BK247.out (by decide)) (fun _ hk => hk.2) (.slice Ao20 t242.length co20)) (fun _ hk => hk.2) (.string t245)) (fun _ hk => hk.2) (.int .i64 t246)) (fun _ h_ => h_.1))) (Kd.R_base ho0) hb); have n1_ := am (Kd.R_below (by (with_reducible repeat (first | apply Kd.R_alloc | apply Kd.R_drewN | apply Kd.R_drew)); exact (Kd.R_mono (Kd.R_far (p := ⟨gb247, 2, none⟩) (Kd.R_far (p := ⟨gb247, 1, none⟩) (Kd.R_far (p := ⟨gb247, 0, none⟩) (Kd.R_types HO244.out BK247.out (by decide)) (fun _ hk => hk.2) (.slice Ao20 t242.length co20)) (fun _ hk => hk.2) (.string t245)) (fun _ hk => hk.2) (.int .i64 t246)) (fun _ h_ => h_.1))) hb); have n2_ := am (Kd.R_lower (Kd.R_new' ho0 (Kd.R_lt (by (with_reducible repeat (first | apply Kd.R_alloc | apply Kd.R_drewN | apply Kd.R_drew)); exact (Kd.R_mono (Kd.R_far (p := ⟨gb247, 2, none⟩) (Kd.R_far (p := ⟨gb247, 1, none⟩) (Kd.R_far (p := ⟨gb247, 0, none⟩) (Kd.R_types HO241.out BK247.out (by decide)) (fun _ hk => hk.2) (.slice Ao20 t242.length co20)) (fun _ hk => hk.2) (.string t245)) (fun _ hk => hk.2) (.int .i64 t246)) (fun _ h_ => h_.1))))) (below_size (by repeat (first | (with_reducible first | exact HB.out | apply below_alloc | apply pw_below_drewN | apply below_drew1 | refine below_set ?_ GE247.out) | exact HB.out)))); have n3_ := am (blk_below (g := gb247) (o := .cells #[.slice Ao20 t242.length co20, .string t245, .int .i64 t246] 39 (0, 0)) (by (with_reducible repeat (first | refine blk_drewN ?_ _ | refine blk_drew ?_ | refine blk_alloc ?_ _)); refine blk_put (cs := #[.slice Ao20 t242.length co20, .string t245, .int .i64 0]) ?_ 2 _ rfl; (with_reducible repeat (first | refine blk_drewN ?_ _ | refine blk_drew ?_ | refine blk_alloc ?_ _)); refine blk_put (cs := #[.slice Ao20 t242.length co20, .string (⟨#[]⟩ : ByteArray), .int .i64 0]) ?_ 1 _ rfl; (with_reducible repeat (first | refine blk_drewN ?_ _ | refine blk_drew ?_ | refine blk_alloc ?_ _)); refine blk_put (cs := #[.slice none 0 0, .string (⟨#[]⟩ : ByteArray), .int .i64 0]) ?_ 0 _ rfl; (with_reducible repeat (first | refine blk_drewN ?_ _ | refine blk_drew ?_ | refine blk_alloc ?_ _)); exact BK247.out) hb); have n4_ := am (below_step (by repeat (first | (with_reducible first | exact HB.out | apply below_alloc | apply pw_below_drewN | apply below_drew1 | refine below_set ?_ GE247.out) | exact HB.out)) hb); clear HO241; clear HO244; clear BK247; clear HB; have HO241 := n0_; have HO244 := n1_; have HO250 := n2_; have BK247 := n3_; have HB := n4_; clear n0_ n1_ n2_ n3_ n4_; (try clear hb); (try clear hb2); (try clear hk); (try clear hi); (try clear ho0); obtain ⟨Ao23, co23, eo23⟩ := Kd.R_slice HO250.out; subst eo23) | ((with_reducible refine gate_callee (f := 19) rfl ?_); refine gl (some 37) Try.func19 #[.slice Ao23 t248.length co23, .int .i64 a1, .string a2, .bool a3] ?_; (with_reducible refine (impl_KeyFeed.calls k _ _ t248 a1 a2 a3 t251 t254 t255 _ ?side1 ?side2 A12.out).mono ?_); (case side1 => repeat (first | exact (Kd.R_reads' HO250.out).2.2 | (with_reducible refine Kd.C_alloc ?_ _) | (with_reducible refine Kd.C_drewN ?_ _) | (with_reducible refine Kd.C_drew ?_))); (case side2 => exact (Kd.R_reads' HO250.out).2.1); rintro e w24 ⟨v252, rfl, ho0, hb⟩; refine ⟨_, rfl, ?_⟩; have n0_ := am (Kd.R_below (by (with_reducible repeat (first | apply Kd.R_alloc | apply Kd.R_drewN | apply Kd.R_drew)); exact HO241.out) hb); have n1_ := am (Kd.R_elder' (by (with_reducible repeat (first | apply Kd.R_alloc | apply Kd.R_drewN | apply Kd.R_drew)); exact HO244.out) (Kd.R_base ho0) hb); have n2_ := am (Kd.R_below (by (with_reducible repeat (first | apply Kd.R_alloc | apply Kd.R_drewN | apply Kd.R_drew)); exact HO250.out) hb); have n3_ := am (Kd.R_lower (Kd.R_new' ho0 (Kd.R_lt (by (with_reducible repeat (first | apply Kd.R_alloc | apply Kd.R_drewN | apply Kd.R_drew)); exact HO244.out))) (below_size (by repeat (first | (with_reducible first | exact HB.out | apply below_alloc | apply pw_below_drewN | apply below_drew1 | refine below_set ?_ GE247.out) | exact HB.out)))); have n4_ := am (blk_below (g := gb247) (o := .cells #[.slice Ao20 t242.length co20, .string t245, .int .i64 t246] 39 (0, 0)) (pk BK247.out) hb); have n5_ := am (below_step (by repeat (first | (with_reducible first | exact HB.out | apply below_alloc | apply pw_below_drewN | apply below_drew1 | refine below_set ?_ GE247.out) | exact HB.out)) hb); clear HO241; clear HO244; clear HO250; clear BK247; clear HB; have HO241 := n0_; have HO244 := n1_; have HO250 := n2_; have HO253 := n3_; have BK247 := n4_; have HB := n5_; clear n0_ n1_ n2_ n3_ n4_ n5_; (try clear hb); (try clear hb2); (try clear hk); (try clear hi); (try clear ho0)) | ((with_reducible refine gate_dst (N := 12) rfl ?_); refine box_event ?hg (N := 12) ?hd (cs := #[.slice none 0 0, .string (⟨#[]⟩ : ByteArray), .int .i64 0]) (t := 39) ?hr ?_; (case hd => rfl); (case hg => rfl); (case hr => first | (go_simp; done) | (go_simp; rfl)); intro gb256 hg w25 hbox hb; have n0_ := am (Kd.R_below (by (with_reducible repeat (first | apply Kd.R_alloc | apply Kd.R_drewN | apply Kd.R_drew)); exact HO241.out) hb); have n1_ := am (Kd.R_below (by (with_reducible repeat (first | apply Kd.R_alloc | apply Kd.R_drewN | apply Kd.R_drew)); exact HO244.out) hb); have n2_ := am (Kd.R_below (by (with_reducible repeat (first | apply Kd.R_alloc | apply Kd.R_drewN | apply Kd.R_drew)); exact HO250.out) hb); have n3_ := am (Kd.R_below (by (with_reducible repeat (first | apply Kd.R_alloc | apply Kd.R_drewN | apply Kd.R_drew)); exact HO253.out) hb); have n4_ := am (blk_below (g := gb247) (o := .cells #[.slice Ao20 t242.length co20, .string t245, .int .i64 t246] 39 (0, 0)) (pk BK247.out) hb); have n5_ := am (below_step (by repeat (first | (with_reducible first | exact HB.out | apply below_alloc | apply pw_below_drewN | apply below_drew1 | refine below_set ?_ GE247.out) | exact HB.out)) hb); have n6_ := am (hbox); have n7_ := am ((by rw [hg]; exact (below_size (by repeat (first | (with_reducible first | exact HB.out | apply below_alloc | apply pw_below_drewN | apply below_drew1 | refine below_set ?_ GE247.out) | exact HB.out))) : w.heap.size ≤ gb256)); have n8_ := am ((by rw [hg]; exact (below_size (by repeat (first | (with_reducible first | exact HB.out | apply below_alloc | apply pw_below_drewN | apply below_drew1 | refine below_set ?_ GE247.out) | exact HB.out))) : w.heap.size ≤ gb256)); have n9_ := am ((by rw [hg]; exact Nat.ne_of_lt (blk_lt (g := gb247) (o := .cells #[.slice Ao20 t242.length co20, .string t245, .int .i64 t246] 39 (0, 0)) (pk BK247.out)) : gb247 ≠ gb256)); have n10_ := am ((by rw [hg]; exact Nat.ne_of_gt (blk_lt (g := gb247) (o := .cells #[.slice Ao20 t242.length co20, .string t245, .int .i64 t246] 39 (0, 0)) (pk BK247.out)) : gb256 ≠ gb247)); clear HO241; clear HO244; clear HO250; clear HO253; clear BK247; clear HB; have HO241 := n0_; have HO244 := n1_; have HO250 := n2_; have HO253 := n3_; have BK247 := n4_; have HB := n5_; have BK256 := n6_; have GW256 := n7_; have GE256 := n8_; have NB247_256 := n9_; have NB256_247 := n10_; clear n0_ n1_ n2_ n3_ n4_ n5_ n6_ n7_ n8_ n9_ n10_; clear hb hbox hg; obtain ⟨Ao26, co26, eo26⟩ := Kd.R_slice HO253.out; subst eo26; have hnb27 := NB256_247.out; have hnc27 := NB247_256.out; have hcz28_0 : w25.cell? ⟨gb256, 0, none⟩ = some (.slice none 0 0) := (blk_cell BK256.out 0).trans rfl; have hcz28_1 : w25.cell? ⟨gb256, 1, none⟩ = some (.string (⟨#[]⟩ : ByteArray)) := (blk_cell BK256.out 1).trans rfl; have hcz28_2 : w25.cell? ⟨gb256, 2, none⟩ = some (.int .i64 0) := (blk_cell BK256.out 2).trans rfl; have hfz28_0 := blk_frozen BK256.out 0; have hfz28_1 := blk_frozen BK256.out 1; have hfz28_2 := blk_frozen BK256.out 2; have hcz29_0 : w25.cell? ⟨gb247, 0, none⟩ = some (.slice Ao20 t242.length co20) := (blk_cell BK247.out 0).trans rfl; have hcz29_1 : w25.cell? ⟨gb247, 1, none⟩ = some (.string t245) := (blk_cell BK247.out 1).trans rfl; have hcz29_2 : w25.cell? ⟨gb247, 2, none⟩ = some (.int .i64 t246) := (blk_cell BK247.out 2).trans rfl; have hfz29_0 := blk_frozen BK247.out 0; have hfz29_1 := blk_frozen BK247.out 1; have hfz29_2 := blk_frozen BK247.out 2) | ((with_reducible refine gate_callee (f := 20) rfl ?_); refine gl (some 40) Try.func20 #[.agg #[.slice Ao26 t251.length co26, .string t254, .int .i64 t255], .agg #[.slice Ao20 t242.length co20, .string t245, .int .i64 t246]] ?_; (with_reducible refine (laws_eqFedOut.calls k _ _ t251 t254 t255 _ _ t242 t245 t246 t257 _ ?side1 ?side2 ?side3 ?side4 A13.out).mono ?_); (case side1 => refine (Kd.R_reads' (e := 153) (base := w.heap.size) (ok := fun k_ => (True ∧ some k_ ≠ (.slice Ao20 t242.length co20 : Value).ownBlock)) (n := t251.length) (c := co26) ?_).2.2; exact (by (with_reducible repeat (first | apply Kd.R_alloc | apply Kd.R_drewN | apply Kd.R_drew)); exact (Kd.R_mono (Kd.R_far (p := ⟨gb256, 2, none⟩) (Kd.R_far (p := ⟨gb256, 1, none⟩) (Kd.R_far (p := ⟨gb256, 0, none⟩) (Kd.R_types HO253.out BK256.out (by decide)) (fun _ hk => hk.2) (.slice Ao26 t251.length co26)) (fun _ hk => hk.2) (.string t254)) (fun _ hk => hk.2) (.int .i64 t255)) (fun _ h_ => h_.1)))); (case side2 => exact (Kd.R_reads' HO253.out).2.1); (case side3 => refine (Kd.R_reads' (e := 153) (base := w.heap.size) (ok := fun k_ => (True ∧ some k_ ≠ (.slice Ao26 t251.length co26 : Value).ownBlock)) (n := t242.length) (c := co20) ?_).2.2; exact (by (with_reducible repeat (first | apply Kd.R_alloc | apply Kd.R_drewN | apply Kd.R_drew)); exact (Kd.R_mono (Kd.R_far (p := ⟨gb256, 2, none⟩) (Kd.R_far (p := ⟨gb256, 1, none⟩) (Kd.R_far (p := ⟨gb256, 0, none⟩) (Kd.R_types HO244.out BK256.out (by decide)) (fun _ hk => hk.2) (.slice Ao26 t251.length co26)) (fun _ hk => hk.2) (.string t254)) (fun _ hk => hk.2) (.int .i64 t255)) (fun _ h_ => h_.1)))); (case side4 => exact (Kd.R_reads' HO244.out).2.1); rintro e w30 ⟨rfl, hb⟩; refine ⟨_, rfl, ?_⟩; have n0_ := am (Kd.R_below (by (with_reducible repeat (first | apply Kd.R_alloc | apply Kd.R_drewN | apply Kd.R_drew)); exact (Kd.R_mono (Kd.R_far (p := ⟨gb256, 2, none⟩) (Kd.R_far (p := ⟨gb256, 1, none⟩) (Kd.R_far (p := ⟨gb256, 0, none⟩) (Kd.R_types HO241.out BK256.out (by decide)) (fun _ hk => hk.2) (.slice Ao26 t251.length co26)) (fun _ hk => hk.2) (.string t254)) (fun _ hk => hk.2) (.int .i64 t255)) (fun _ h_ => h_.1))) hb); have n1_ := am (Kd.R_below (by (with_reducible repeat (first | apply Kd.R_alloc | apply Kd.R_drewN | apply Kd.R_drew)); exact (Kd.R_mono (Kd.R_far (p := ⟨gb256, 2, none⟩) (Kd.R_far (p := ⟨gb256, 1, none⟩) (Kd.R_far (p := ⟨gb256, 0, none⟩) (Kd.R_types HO244.out BK256.out (by decide)) (fun _ hk => hk.2) (.slice Ao26 t251.length co26)) (fun _ hk => hk.2) (.string t254)) (fun _ hk => hk.2) (.int .i64 t255)) (fun _ h_ => h_.1))) hb); have n2_ := am (Kd.R_below (by (with_reducible repeat (first | apply Kd.R_alloc | apply Kd.R_drewN | apply Kd.R_drew)); exact (Kd.R_mono (Kd.R_far (p := ⟨gb256, 2, none⟩) (Kd.R_far (p := ⟨gb256, 1, none⟩) (Kd.R_far (p := ⟨gb256, 0, none⟩) (Kd.R_types HO250.out BK256.out (by decide)) (fun _ hk => hk.2) (.slice Ao26 t251.length co26)) (fun _ hk => hk.2) (.string t254)) (fun _ hk => hk.2) (.int .i64 t255)) (fun _ h_ => h_.1))) hb); have n3_ := am (Kd.R_below (by (with_reducible repeat (first | apply Kd.R_alloc | apply Kd.R_drewN | apply Kd.R_drew)); exact (Kd.R_mono (Kd.R_far (p := ⟨gb256, 2, none⟩) (Kd.R_far (p := ⟨gb256, 1, none⟩) (Kd.R_far (p := ⟨gb256, 0, none⟩) (Kd.R_types HO253.out BK256.out (by decide)) (fun _ hk => hk.2) (.slice Ao26 t251.length co26)) (fun _ hk => hk.2) (.string t254)) (fun _ hk => hk.2) (.int .i64 t255)) (fun _ h_ => h_.1))) hb); have n4_ := am (blk_below (g := gb247) (o := .cells #[.slice Ao20 t242.length co20, .string t245, .int .i64 t246] 39 (0, 0)) (by (with_reducible repeat (first | refine blk_drewN ?_ _ | refine blk_drew ?_ | refine blk_alloc ?_ _)); refine blk_far ?_ NB247_256.out _; (with_reducible repeat (first | refine blk_drewN ?_ _ | refine blk_drew ?_ | refine blk_alloc ?_ _)); refine blk_far ?_ NB247_256.out _; (with_reducible repeat (first | refine blk_drewN ?_ _ | refine blk_drew ?_ | refine blk_alloc ?_ _)); refine blk_far ?_ NB247_256.out _; (with_reducible repeat (first | refine blk_drewN ?_ _ | refine blk_drew ?_ | refine blk_alloc ?_ _)); exact BK247.out) hb); have n5_ := am (blk_below (g := gb256) (o := .cells #[.slice Ao26 t251.length co26, .string t254, .int .i64 t255] 39 (0, 0)) (by (with_reducible repeat (first | refine blk_drewN ?_ _ | refine blk_drew ?_ | refine blk_alloc ?_ _)); refine blk_put (cs := #[.slice Ao26 t251.length co26, .string t254, .int .i64 0]) ?_ 2 _ rfl; (with_reducible repeat (first | refine blk_drewN ?_ _ | refine blk_drew ?_ | refine blk_alloc ?_ _)); refine blk_put (cs := #[.slice Ao26 t251.length co26, .string (⟨#[]⟩ : ByteArray), .int .i64 0]) ?_ 1 _ rfl; (with_reducible repeat (first | refine blk_drewN ?_ _ | refine blk_drew ?_ | refine blk_alloc ?_ _)); refine blk_put (cs := #[.slice none 0 0, .string (⟨#[]⟩ : ByteArray), .int .i64 0]) ?_ 0 _ rfl; (with_reducible repeat (first | refine blk_drewN ?_ _ | refine blk_drew ?_ | refine blk_alloc ?_ _)); exact BK256.out) hb); have n6_ := am (below_step (by repeat (first | (with_reducible first | exact HB.out | apply below_alloc | apply pw_below_drewN | apply below_drew1 | refine below_set ?_ GE247.out | refine below_set ?_ GE256.out) | exact HB.out)) hb); clear HO241; clear HO244; clear HO250; clear HO253; clear BK247; clear BK256; clear HB; have HO241 := n0_; have HO244 := n1_; have HO250 := n2_; have HO253 := n3_; have BK247 := n4_; have BK256 := n5_; have HB := n6_; clear n0_ n1_ n2_ n3_ n4_ n5_ n6_; (try clear hb); (try clear hb2); (try clear hk); (try clear hi)))
   (try simp only [Act.put, sa_, s0_, ss_])
   go_cut [] (fun wc => ∃ (kq : Nat), Aside0 (laws_FnExactKeyFeed.j0 kq l0 a1 a2 a3 t248 t242 t245 t246 t251 t254 t255 = some r) ∧ Aside0 (kq ≤ k) ∧ Aside0 (Kd.R k98 98 wc w.heap.size (fun _ => True) (.slice Ao23 t248.length co23) t248) ∧ Aside0 (Kd.R k153 153 wc w.heap.size (fun k_ => some k_ ≠ ((.slice Ao26 t251.length co26) : Value).ownBlock) (.slice Ao20 t242.length co20) t242) ∧ Aside0 (Kd.R k153 153 wc w.heap.size (fun k_ => some k_ ≠ ((.slice Ao20 t242.length co20) : Value).ownBlock) (.slice Ao26 t251.length co26) t251) ∧ Aside0 (wc.heap[gb247]? = some (.cells #[(.slice Ao20 t242.length co20), .string t245, .int .i64 t246] 39 (0, 0))) ∧ Aside0 (wc.heap[gb256]? = some (.cells #[(.slice Ao26 t251.length co26), .string t254, .int .i64 t255] 39 (0, 0))) ∧ Aside0 (Below w.heap.size w wc))
   case first =>
    have H := HC14.out
    clear HC14
    by_cases c31 : t257 = true
    ·subst c31
     have H1 : (laws_FnExactKeyFeed.j0 k l0 a1 a2 a3 t248 t242 t245 t246 t251 t254 t255) = some r := by rw [if_pos rfl] at H; exact H
     clear H
     have H := H1
     clear H1
     have H' := Aside0.mk H
     clear H
     go_wp2
     go_meet
     case rel => exact ⟨_, H', ⟨by first | omega | exact Nat.le_refl _⟩, ⟨by (with_reducible repeat (first | apply Kd.R_alloc | apply Kd.R_drewN | apply Kd.R_drew)); exact Kd.R_mono HO250.out (fun _ hk => trivial)⟩, ⟨by (with_reducible repeat (first | apply Kd.R_alloc | apply Kd.R_drewN | apply Kd.R_drew)); exact Kd.R_mono HO244.out (fun _ hk => hk.2)⟩, ⟨by (with_reducible repeat (first | apply Kd.R_alloc | apply Kd.R_drewN | apply Kd.R_drew)); exact Kd.R_mono HO253.out (fun _ hk => hk.2)⟩, ⟨by (with_reducible repeat (first | refine blk_drewN ?_ _ | refine blk_drew ?_ | refine blk_alloc ?_ _)); exact BK247.out⟩, ⟨by (with_reducible repeat (first | refine blk_drewN ?_ _ | refine blk_drew ?_ | refine blk_alloc ?_ _)); exact BK256.out⟩, ⟨by repeat (first | (with_reducible first | exact HB.out | apply below_alloc | apply pw_below_drewN | apply below_drew1 | refine below_set ?_ GE247.out | refine below_set ?_ GE256.out) | exact HB.out)⟩⟩
    ·replace c31 := Bool.eq_false_iff.mpr c31
     subst c31
     have H1 : (some false) = some r := by rw [if_neg (show ¬ (false = true) by decide)] at H; exact H
     clear H
     have H := H1
     clear H1
     obtain rfl := Option.some.inj H
     go_wp2
     go_ret
     exact ⟨by first | rfl | (simp [errW_none, errW_some] <;> rfl) | (simp [*, errW_none, errW_some] <;> rfl), by repeat (first | (with_reducible first | exact HB.out | apply below_alloc | apply pw_below_drewN | apply below_drew1 | refine below_set ?_ GE247.out | refine below_set ?_ GE256.out) | exact HB.out)⟩
   case rest =>
    clear HC14
    try clear c1
    try clear c2
    try clear p2
    try clear c3
    try clear c5
    try clear c5b0
    try clear c5b1
    try clear c7
    try clear c7b0
    try clear c16
    try clear c17
    try clear c18
    try clear c19
    try clear c20
    try clear c27
    try clear c31
    try clear hcz21_0
    try clear hcz21_1
    try clear hcz21_2
    try clear hcz28_0
    try clear hcz28_1
    try clear hcz28_2
    try clear hcz29_0
    try clear hcz29_1
    try clear hcz29_2
    try clear hfz21_0
    try clear hfz21_1
    try clear hfz21_2
    try clear hfz28_0
    try clear hfz28_1
    try clear hfz28_2
    try clear hfz29_0
    try clear hfz29_1
    try clear hfz29_2
    obtain ⟨kq, HA, HJ13, HO_11, HO_248000, HO_257000, BK247, BK256, HB⟩ := hcut
    cases kq with
    | zero => exact absurd HA.out (by simp [laws_FnExactKeyFeed.j0])
    | succ kj13 =>
     have H := HA.out
     clear HA
     simp only [laws_FnExactKeyFeed.j0] at H
     replace H := Option.bind_eq_some_iff.mp H
     obtain ⟨t258, A320, H⟩ := H
     replace H : ((laws_eqKeyS.f kj13 t248 t258).bind fun t261 => (if t261 = true then (laws_FnExactKeyFeed.j1 kj13 l0 a1 a2 a3 t248 t242 t245 t246 t251 t254 t255) else (some false))) = some r := H
     have A32 := Aside0.mk A320
     clear A320
     replace H := Option.bind_eq_some_iff.mp H
     obtain ⟨t261, A330, H⟩ := H
     replace H : (if t261 = true then (laws_FnExactKeyFeed.j1 kj13 l0 a1 a2 a3 t248 t242 t245 t246 t251 t254 t255) else (some false)) = some r := H
     have A33 := Aside0.mk A330
     clear A330
     have HC34 := Aside0.mk H
     clear H
     go_upto_if 46 with (first | ((with_reducible refine gate_callee (f := 18) rfl ?_); refine gl (some 44) Try.func18 #[.slice A0 l0.length c0] ?_; (with_reducible refine (laws_toKeyS.calls kj13 _ _ l0 t258 _ ?side1 ?side2 A32.out).mono ?_); (case side1 => repeat (first | exact (Kd.C_below HR0.out HB.out) | (with_reducible refine Kd.C_alloc ?_ _) | (with_reducible refine Kd.C_drewN ?_ _) | (with_reducible refine Kd.C_drew ?_))); (case side2 => exact HC0.out); rintro e w35 ⟨v259, rfl, ho0, hb⟩; refine ⟨_, rfl, ?_⟩; have n0_ := am (Kd.R_elder' (by (with_reducible repeat (first | apply Kd.R_alloc | apply Kd.R_drewN | apply Kd.R_drew)); exact HO_11.out) (Kd.R_base ho0) hb); have n1_ := am (Kd.R_below (by (with_reducible repeat (first | apply Kd.R_alloc | apply Kd.R_drewN | apply Kd.R_drew)); exact HO_248000.out) hb); have n2_ := am (Kd.R_below (by (with_reducible repeat (first | apply Kd.R_alloc | apply Kd.R_drewN | apply Kd.R_drew)); exact HO_257000.out) hb); have n3_ := am (Kd.R_lower (Kd.R_new' ho0 (Kd.R_lt (by (with_reducible repeat (first | apply Kd.R_alloc | apply Kd.R_drewN | apply Kd.R_drew)); exact HO_11.out))) (below_size (by repeat (first | (with_reducible first | exact HB.out | apply below_alloc | apply pw_below_drewN | apply below_drew1 | refine below_set ?_ GE247.out | refine below_set ?_ GE256.out) | exact HB.out)))); have n4_ := am (blk_below (g := gb247) (o := .cells #[.slice Ao20 t242.length co20, .string t245, .int .i64 t246] 39 (0, 0)) (pk BK247.out) hb); have n5_ := am (blk_below (g := gb256) (o := .cells #[.slice Ao26 t251.length co26, .string t254, .int .i64 t255] 39 (0, 0)) (pk BK256.out) hb); have n6_ := am (below_step (by repeat (first | (with_reducible first | exact HB.out | apply below_alloc | apply pw_below_drewN | apply below_drew1 | refine below_set ?_ GE247.out | refine below_set ?_ GE256.out) | exact HB.out)) hb); clear HO_11; clear HO_248000; clear HO_257000; clear BK247; clear BK256; clear HB; have HO_11 := n0_; have HO_248000 := n1_; have HO_257000 := n2_; have HO260 := n3_; have BK247 := n4_; have BK256 := n5_; have HB := n6_; clear n0_ n1_ n2_ n3_ n4_ n5_ n6_; (try clear hb); (try clear hb2); (try clear hk); (try clear hi); (try clear ho0); obtain ⟨Ao36, co36, eo36⟩ := Kd.R_slice HO260.out; subst eo36) | ((with_reducible refine gate_callee (f := 21) rfl ?_); refine gl (some 45) Try.func21 #[.slice Ao23 t248.length co23, .slice Ao36 t258.length co36] ?_; (with_reducible refine (laws_eqKeyS.calls kj13 _ _ t248 _ _ t258 t261 _ ?side1 ?side2 ?side3 ?side4 A33.out).mono ?_); (case side1 => repeat (first | exact (Kd.R_reads' HO_11.out).2.2 | (with_reducible refine Kd.C_alloc ?_ _) | (with_reducible refine Kd.C_drewN ?_ _) | (with_reducible refine Kd.C_drew ?_))); (case side2 => exact (Kd.R_reads' HO_11.out).2.1); (case side3 => repeat (first | exact (Kd.R_reads' HO260.out).2.2 | (with_reducible refine Kd.C_alloc ?_ _) | (with_reducible refine Kd.C_drewN ?_ _) | (with_reducible refine Kd.C_drew ?_))); (case side4 => exact (Kd.R_reads' HO260.out).2.1); rintro e w37 ⟨rfl, hb⟩; refine ⟨_, rfl, ?_⟩; have n0_ := am (Kd.R_below (by (with_reducible repeat (first | apply Kd.R_alloc | apply Kd.R_drewN | apply Kd.R_drew)); exact HO_11.out) hb); have n1_ := am (Kd.R_below (by (with_reducible repeat (first | apply Kd.R_alloc | apply Kd.R_drewN | apply Kd.R_drew)); exact HO_248000.out) hb); have n2_ := am (Kd.R_below (by (with_reducible repeat (first | apply Kd.R_alloc | apply Kd.R_drewN | apply Kd.R_drew)); exact HO_257000.out) hb); have n3_ := am (Kd.R_below (by (with_reducible repeat (first | apply Kd.R_alloc | apply Kd.R_drewN | apply Kd.R_drew)); exact HO260.out) hb); have n4_ := am (blk_below (g := gb247) (o := .cells #[.slice Ao20 t242.length co20, .string t245, .int .i64 t246] 39 (0, 0)) (pk BK247.out) hb); have n5_ := am (blk_below (g := gb256) (o := .cells #[.slice Ao26 t251.length co26, .string t254, .int .i64 t255] 39 (0, 0)) (pk BK256.out) hb); have n6_ := am (below_step (by repeat (first | (with_reducible first | exact HB.out | apply below_alloc | apply pw_below_drewN | apply below_drew1 | refine below_set ?_ GE247.out | refine below_set ?_ GE256.out) | exact HB.out)) hb); clear HO_11; clear HO_248000; clear HO_257000; clear HO260; clear BK247; clear BK256; clear HB; have HO_11 := n0_; have HO_248000 := n1_; have HO_257000 := n2_; have HO260 := n3_; have BK247 := n4_; have BK256 := n5_; have HB := n6_; clear n0_ n1_ n2_ n3_ n4_ n5_ n6_; (try clear hb); (try clear hb2); (try clear hk); (try clear hi)))
     (try simp only [Act.put, sa_, s0_, ss_])
     go_cut [] (fun wc => ∃ (kq : Nat), Aside0 (laws_FnExactKeyFeed.j1 kq l0 a1 a2 a3 t248 t242 t245 t246 t251 t254 t255 = some r) ∧ Aside0 (kq ≤ kj13) ∧ Aside0 (Kd.R k98 98 wc w.heap.size (fun _ => True) (.slice Ao23 t248.length co23) t248) ∧ Aside0 (Kd.R k153 153 wc w.heap.size (fun k_ => some k_ ≠ ((.slice Ao26 t251.length co26) : Value).ownBlock) (.slice Ao20 t242.length co20) t242) ∧ Aside0 (Kd.R k153 153 wc w.heap.size (fun k_ => some k_ ≠ ((.slice Ao20 t242.length co20) : Value).ownBlock) (.slice Ao26 t251.length co26) t251) ∧ Aside0 (wc.heap[gb247]? = some (.cells #[(.slice Ao20 t242.length co20), .string t245, .int .i64 t246] 39 (0, 0))) ∧ Aside0 (wc.heap[gb256]? = some (.cells #[(.slice Ao26 t251.length co26), .string t254, .int .i64 t255] 39 (0, 0))) ∧ Aside0 (Below w.heap.size w wc))
     case first =>
      have H := HC34.out
      clear HC34
      by_cases c38 : t261 = true
      ·subst c38
       have H1 : (laws_FnExactKeyFeed.j1 kj13 l0 a1 a2 a3 t248 t242 t245 t246 t251 t254 t255) = some r := by rw [if_pos rfl] at H; exact H
       clear H
       have H := H1
       clear H1
       have H' := Aside0.mk H
       clear H
       go_wp2
       go_meet
       case rel => exact ⟨_, H', ⟨by have := HJ13.out; first | omega | exact Nat.le_refl _⟩, ⟨by (with_reducible repeat (first | apply Kd.R_alloc | apply Kd.R_drewN | apply Kd.R_drew)); exact Kd.R_mono HO_11.out (fun _ hk => trivial)⟩, ⟨by (with_reducible repeat (first | apply Kd.R_alloc | apply Kd.R_drewN | apply Kd.R_drew)); exact HO_248000.out⟩, ⟨by (with_reducible repeat (first | apply Kd.R_alloc | apply Kd.R_drewN | apply Kd.R_drew)); exact HO_257000.out⟩, ⟨by (with_reducible repeat (first | refine blk_drewN ?_ _ | refine blk_drew ?_ | refine blk_alloc ?_ _)); exact BK247.out⟩, ⟨by (with_reducible repeat (first | refine blk_drewN ?_ _ | refine blk_drew ?_ | refine blk_alloc ?_ _)); exact BK256.out⟩, ⟨by repeat (first | (with_reducible first | exact HB.out | apply below_alloc | apply pw_below_drewN | apply below_drew1 | refine below_set ?_ GE247.out | refine below_set ?_ GE256.out) | exact HB.out)⟩⟩
      ·replace c38 := Bool.eq_false_iff.mpr c38
       subst c38
       have H1 : (some false) = some r := by rw [if_neg (show ¬ (false = true) by decide)] at H; exact H
       clear H
       have H := H1
       clear H1
       obtain rfl := Option.some.inj H
       go_wp2
       go_ret
       exact ⟨by first | rfl | (simp [errW_none, errW_some] <;> rfl) | (simp [*, errW_none, errW_some] <;> rfl), by repeat (first | (with_reducible first | exact HB.out | apply below_alloc | apply pw_below_drewN | apply below_drew1 | refine below_set ?_ GE247.out | refine below_set ?_ GE256.out) | exact HB.out)⟩
     case rest =>
      clear HC34
      try clear c1
      try clear c2
      try clear p2
      try clear c3
      try clear c5
      try clear c5b0
      try clear c5b1
      try clear c7
      try clear c7b0
      try clear c16
      try clear c17
      try clear c18
      try clear c19
      try clear c20
      try clear c21
      try clear c27
      try clear c31
      try clear c38
      try clear hcz21_0
      try clear hcz21_1
      try clear hcz21_2
      try clear hcz28_0
      try clear hcz28_1
      try clear hcz28_2
      try clear hcz29_0
      try clear hcz29_1
      try clear hcz29_2
      try clear hfz21_0
      try clear hfz21_1
      try clear hfz21_2
      try clear hfz28_0
      try clear hfz28_1
      try clear hfz28_2
      try clear hfz29_0
      try clear hfz29_1
      try clear hfz29_2
      try clear p2
      obtain ⟨kq, HA, HJ33, HO_11, HO_248000, HO_257000, BK247, BK256, HB⟩ := hcut
      cases kq with
      | zero => exact absurd HA.out (by simp [laws_FnExactKeyFeed.j1])
      | succ kj33 =>
       have H := HA.out
       clear HA
       simp only [laws_FnExactKeyFeed.j1] at H
       replace H := Option.bind_eq_some_iff.mp H
       obtain ⟨⟨t262, t263⟩, A390, H⟩ := H
       replace H : (if t262 < 0 then (laws_FnExactKeyFeed.j2 kj33 l0 a1 a2 a3 true t242 t245 t246 t251 t254 t255) else ((laws_eqFedOut.f kj33 t251 t254 t255 t242 t245 t246).bind fun t264 => (laws_FnExactKeyFeed.j2 kj33 l0 a1 a2 a3 (!t264) t242 t245 t246 t251 t254 t255))) = some r := H
       have A39 := Aside0.mk A390
       clear A390
       have HC40 := Aside0.mk H
       clear H
       go_upto_region 16 with (first | ((with_reducible refine gate_callee (f := 22) rfl ?_); refine gl (some 49) Try.func22 #[.slice Ao23 t248.length co23, .int .i64 1] ?_; (with_reducible refine (laws_markKeyS.calls kj33 (fun k_ => some k_ = (.slice Ao23 t248.length co23 : Value).ownBlock) (.slice Ao23 t248.length co23) t248 1 t262 t263 w _ ?side1 ?side2 A39.out).mono ?_); (case side1 => repeat (first | (with_reducible first | exact HB.out | apply below_alloc | apply pw_below_drewN | apply below_drew1 | refine below_set ?_ GE247.out | refine below_set ?_ GE256.out) | exact HB.out)); (case side2 => exact Kd.R_tight rfl HO_11.out); rintro e w41 ⟨rfl, hy0, hb, hkp⟩; refine ⟨_, rfl, ?_⟩; have n0_ := am (Kd.R_reok rfl hy0 (fun k_ e_ => HO_11.out.1 k_ e_)); have n1_ := am (Kd.R_mono (ok' := fun k_ => some k_ ≠ (.slice Ao26 t251.length co26 : Value).ownBlock) (Kd.R_keptB ((Kd.R_apart' HO_248000.out (Kd.R_typed HO_11.out) (by decide))) hkp (fun k_ hk_ hs_ => (hk_.2) hs_)) (fun k_ hk_ => hk_.1.1)); have n2_ := am (Kd.R_mono (ok' := fun k_ => some k_ ≠ (.slice Ao20 t242.length co20 : Value).ownBlock) (Kd.R_keptB ((Kd.R_apart' HO_257000.out (Kd.R_typed HO_11.out) (by decide))) hkp (fun k_ hk_ hs_ => (hk_.2) hs_)) (fun k_ hk_ => hk_.1.1)); have n3_ := am (blk_kept (pk BK247.out) hkp (fun hs_ => (fun e_ => (Kd.R_ne HO_11.out BK247.out (by decide)) e_) hs_)); have n4_ := am (blk_kept (pk BK256.out) hkp (fun hs_ => (fun e_ => (Kd.R_ne HO_11.out BK256.out (by decide)) e_) hs_)); have n5_ := am (hb); clear HO_11; clear HO_248000; clear HO_257000; clear BK247; clear BK256; clear HB; have HO_11 := n0_; have HO_248000 := n1_; have HO_257000 := n2_; have BK247 := n3_; have BK256 := n4_; have HB := n5_; clear n0_ n1_ n2_ n3_ n4_ n5_; (try clear hb); (try clear hkp); (try clear hy0)))
       (try simp only [Act.put, sa_, s0_, ss_])
       go_cut [57] (fun v57 wc => ∃ (kq : Nat) (x57_39 : Bool), v57 = .bool x57_39 ∧ Aside0 (laws_FnExactKeyFeed.j2 kq l0 a1 a2 a3 x57_39 t242 t245 t246 t251 t254 t255 = some r) ∧ Aside0 (kq ≤ kj33) ∧ Aside0 (Kd.R k153 153 wc w.heap.size (fun k_ => some k_ ≠ ((.slice Ao26 t251.length co26) : Value).ownBlock) (.slice Ao20 t242.length co20) t242) ∧ Aside0 (Kd.R k153 153 wc w.heap.size (fun k_ => some k_ ≠ ((.slice Ao20 t242.length co20) : Value).ownBlock) (.slice Ao26 t251.length co26) t251) ∧ Aside0 (wc.heap[gb247]? = some (.cells #[(.slice Ao20 t242.length co20), .string t245, .int .i64 t246] 39 (0, 0))) ∧ Aside0 (wc.heap[gb256]? = some (.cells #[(.slice Ao26 t251.length co26), .string t254, .int .i64 t255] 39 (0, 0))) ∧ Aside0 (Below w.heap.size w wc))
       case first =>
        have H := HC40.out
        clear HC40
        by_cases c42 : t262 < 0
        ·rw [if_pos c42] at H
         have c42b0 : decide (t262 < 0) = true := decide_eq_true c42
         clear c42
         (first | rw [c42b0] | (simp only [i64_w, i32_w]; rw [c42b0]) | (have e9_ := c42b0; unfold bne at e9_; rw [e9_]) | skip)
         have H' := Aside0.mk H
         clear H
         go_wp2
         go_meet
         case rel => exact ⟨_, (true), (by first | rfl | (simp; done) | (simp [*]; done)), H', ⟨by have := HJ13.out; have := HJ33.out; first | omega | exact Nat.le_refl _⟩, ⟨by (with_reducible repeat (first | apply Kd.R_alloc | apply Kd.R_drewN | apply Kd.R_drew)); exact HO_248000.out⟩, ⟨by (with_reducible repeat (first | apply Kd.R_alloc | apply Kd.R_drewN | apply Kd.R_drew)); exact HO_257000.out⟩, ⟨by (with_reducible repeat (first | refine blk_drewN ?_ _ | refine blk_drew ?_ | refine blk_alloc ?_ _)); exact BK247.out⟩, ⟨by (with_reducible repeat (first | refine blk_drewN ?_ _ | refine blk_drew ?_ | refine blk_alloc ?_ _)); exact BK256.out⟩, ⟨by repeat (first | (with_reducible first | exact HB.out | apply below_alloc | apply pw_below_drewN | apply below_drew1 | refine below_set ?_ GE247.out | refine below_set ?_ GE256.out) | exact HB.out)⟩⟩
        ·rw [if_neg c42] at H
         have c42b0 : decide (t262 < 0) = false := decide_eq_false c42
         clear c42
         (first | rw [c42b0] | (simp only [i64_w, i32_w]; rw [c42b0]) | (have e9_ := c42b0; unfold bne at e9_; rw [e9_]) | skip)
         replace H := Option.bind_eq_some_iff.mp H
         obtain ⟨t264, A430, H⟩ := H
         replace H : (laws_FnExactKeyFeed.j2 kj33 l0 a1 a2 a3 (!t264) t242 t245 t246 t251 t254 t255) = some r := H
         have A43 := Aside0.mk A430
         clear A430
         have H' := Aside0.mk H
         clear H
         have hnb44 := NB256_247.out
         have hnc44 := NB247_256.out
         have hcz45_0 : w41.cell? ⟨gb256, 0, none⟩ = some (.slice Ao26 t251.length co26) := (blk_cell BK256.out 0).trans rfl
         have hcz45_1 : w41.cell? ⟨gb256, 1, none⟩ = some (.string t254) := (blk_cell BK256.out 1).trans rfl
         have hcz45_2 : w41.cell? ⟨gb256, 2, none⟩ = some (.int .i64 t255) := (blk_cell BK256.out 2).trans rfl
         have hfz45_0 := blk_frozen BK256.out 0
         have hfz45_1 := blk_frozen BK256.out 1
         have hfz45_2 := blk_frozen BK256.out 2
         have hcz46_0 : w41.cell? ⟨gb247, 0, none⟩ = some (.slice Ao20 t242.length co20) := (blk_cell BK247.out 0).trans rfl
         have hcz46_1 : w41.cell? ⟨gb247, 1, none⟩ = some (.string t245) := (blk_cell BK247.out 1).trans rfl
         have hcz46_2 : w41.cell? ⟨gb247, 2, none⟩ = some (.int .i64 t246) := (blk_cell BK247.out 2).trans rfl
         have hfz46_0 := blk_frozen BK247.out 0
         have hfz46_1 := blk_frozen BK247.out 1
         have hfz46_2 := blk_frozen BK247.out 2
         go_wp2_with (first | (go_at_call 20; (with_reducible refine (laws_eqFedOut.calls kj33 _ _ t251 t254 t255 _ _ t242 t245 t246 t264 _ ?side1 ?side2 ?side3 ?side4 A43.out).mono ?_); (case side1 => repeat (first | exact (Kd.R_reads' HO_257000.out).2.2 | (with_reducible refine Kd.C_alloc ?_ _) | (with_reducible refine Kd.C_drewN ?_ _) | (with_reducible refine Kd.C_drew ?_))); (case side2 => exact (Kd.R_reads' HO_257000.out).2.1); (case side3 => repeat (first | exact (Kd.R_reads' HO_248000.out).2.2 | (with_reducible refine Kd.C_alloc ?_ _) | (with_reducible refine Kd.C_drewN ?_ _) | (with_reducible refine Kd.C_drew ?_))); (case side4 => exact (Kd.R_reads' HO_248000.out).2.1); rintro e w47 ⟨rfl, hb⟩; have n0_ := am (Kd.R_below (by (with_reducible repeat (first | apply Kd.R_alloc | apply Kd.R_drewN | apply Kd.R_drew)); exact HO_11.out) hb); have n1_ := am (Kd.R_below (by (with_reducible repeat (first | apply Kd.R_alloc | apply Kd.R_drewN | apply Kd.R_drew)); exact HO_248000.out) hb); have n2_ := am (Kd.R_below (by (with_reducible repeat (first | apply Kd.R_alloc | apply Kd.R_drewN | apply Kd.R_drew)); exact HO_257000.out) hb); have n3_ := am (blk_below (g := gb247) (o := .cells #[.slice Ao20 t242.length co20, .string t245, .int .i64 t246] 39 (0, 0)) (pk BK247.out) hb); have n4_ := am (blk_below (g := gb256) (o := .cells #[.slice Ao26 t251.length co26, .string t254, .int .i64 t255] 39 (0, 0)) (pk BK256.out) hb); have n5_ := am (below_step (by repeat (first | (with_reducible first | exact HB.out | apply below_alloc | apply pw_below_drewN | apply below_drew1 | refine below_set ?_ GE247.out | refine below_set ?_ GE256.out) | exact HB.out)) hb); clear HO_11; clear HO_248000; clear HO_257000; clear BK247; clear BK256; clear HB; have HO_11 := n0_; have HO_248000 := n1_; have HO_257000 := n2_; have BK247 := n3_; have BK256 := n4_; have HB := n5_; clear n0_ n1_ n2_ n3_ n4_ n5_; (try clear hb); (try clear hb2); (try clear hk); (try clear hi)))
         go_meet
         case rel => exact ⟨_, (!t264), (by first | rfl | (simp; done) | (simp [*]; done)), H', ⟨by have := HJ13.out; have := HJ33.out; first | omega | exact Nat.le_refl _⟩, ⟨by (with_reducible repeat (first | apply Kd.R_alloc | apply Kd.R_drewN | apply Kd.R_drew)); exact HO_248000.out⟩, ⟨by (with_reducible repeat (first | apply Kd.R_alloc | apply Kd.R_drewN | apply Kd.R_drew)); exact HO_257000.out⟩, ⟨by (with_reducible repeat (first | refine blk_drewN ?_ _ | refine blk_drew ?_ | refine blk_alloc ?_ _)); exact BK247.out⟩, ⟨by (with_reducible repeat (first | refine blk_drewN ?_ _ | refine blk_drew ?_ | refine blk_alloc ?_ _)); exact BK256.out⟩, ⟨by repeat (first | (with_reducible first | exact HB.out | apply below_alloc | apply pw_below_drewN | apply below_drew1 | refine below_set ?_ GE247.out | refine below_set ?_ GE256.out) | exact HB.out)⟩⟩
       case rest =>
        clear HC40
        try clear c1
        try clear c2
        try clear p2
        try clear c3
        try clear c4
        try clear c5
        try clear c5b0
        try clear c5b1
        try clear c7
        try clear c7b0
        try clear c16
        try clear c17
        try clear c18
        try clear c19
        try clear c20
        try clear c21
        try clear c22
        try clear c27
        try clear c31
        try clear c38
        try clear c42
        try clear c42b0
        try clear c44
        try clear hcz21_0
        try clear hcz21_1
        try clear hcz21_2
        try clear hcz28_0
        try clear hcz28_1
        try clear hcz28_2
        try clear hcz29_0
        try clear hcz29_1
        try clear hcz29_2
        try clear hcz45_0
        try clear hcz45_1
        try clear hcz45_2
        try clear hcz46_0
        try clear hcz46_1
        try clear hcz46_2
        try clear hfz21_0
        try clear hfz21_1
        try clear hfz21_2
        try clear hfz28_0
        try clear hfz28_1
        try clear hfz28_2
        try clear hfz29_0
        try clear hfz29_1
        try clear hfz29_2
        try clear hfz45_0
        try clear hfz45_1
        try clear hfz45_2
        try clear hfz46_0
        try clear hfz46_1
        try clear hfz46_2
        try clear p2
        obtain ⟨kq, x57_39, rfl, HA, HJ39, HO_248000, HO_257000, BK247, BK256, HB⟩ := hcut
        cases kq with
        | zero => exact absurd HA.out (by simp [laws_FnExactKeyFeed.j2])
        | succ kj39 =>
         have H := HA.out
         clear HA
         simp only [laws_FnExactKeyFeed.j2] at H
         have HC48 := Aside0.mk H
         clear H
         go_upto_if 57 with (fail)
         go_cut [] (fun wc => ∃ (kq : Nat), Aside0 (laws_FnExactKeyFeed.j3 kq l0 a1 a2 a3 t242 t245 t246 t251 t254 t255 = some r) ∧ Aside0 (kq ≤ kj39) ∧ Aside0 (Kd.R k153 153 wc w.heap.size (fun k_ => some k_ ≠ ((.slice Ao26 t251.length co26) : Value).ownBlock) (.slice Ao20 t242.length co20) t242) ∧ Aside0 (Kd.R k153 153 wc w.heap.size (fun k_ => some k_ ≠ ((.slice Ao20 t242.length co20) : Value).ownBlock) (.slice Ao26 t251.length co26) t251) ∧ Aside0 (wc.heap[gb247]? = some (.cells #[(.slice Ao20 t242.length co20), .string t245, .int .i64 t246] 39 (0, 0))) ∧ Aside0 (wc.heap[gb256]? = some (.cells #[(.slice Ao26 t251.length co26), .string t254, .int .i64 t255] 39 (0, 0))) ∧ Aside0 (Below w.heap.size w wc))
         case first =>
          have H := HC48.out
          clear HC48
          by_cases c49 : x57_39 = true
          ·subst c49
           have H1 : (some false) = some r := by rw [if_pos rfl] at H; exact H
           clear H
           have H := H1
           clear H1
           obtain rfl := Option.some.inj H
           go_wp2
           go_ret
           exact ⟨by first | rfl | (simp [errW_none, errW_some] <;> rfl) | (simp [*, errW_none, errW_some] <;> rfl), by repeat (first | (with_reducible first | exact HB.out | apply below_alloc | apply pw_below_drewN | apply below_drew1 | refine below_set ?_ GE247.out | refine below_set ?_ GE256.out) | exact HB.out)⟩
          ·replace c49 := Bool.eq_false_iff.mpr c49
           subst c49
           have H1 : (laws_FnExactKeyFeed.j3 kj39 l0 a1 a2 a3 t242 t245 t246 t251 t254 t255) = some r := by rw [if_neg (show ¬ (false = true) by decide)] at H; exact H
           clear H
           have H := H1
           clear H1
           have H' := Aside0.mk H
           clear H
           go_wp2
           go_meet
           case rel => exact ⟨_, H', ⟨by have := HJ13.out; have := HJ33.out; have := HJ39.out; first | omega | exact Nat.le_refl _⟩, ⟨by (with_reducible repeat (first | apply Kd.R_alloc | apply Kd.R_drewN | apply Kd.R_drew)); exact HO_248000.out⟩, ⟨by (with_reducible repeat (first | apply Kd.R_alloc | apply Kd.R_drewN | apply Kd.R_drew)); exact HO_257000.out⟩, ⟨by (with_reducible repeat (first | refine blk_drewN ?_ _ | refine blk_drew ?_ | refine blk_alloc ?_ _)); exact BK247.out⟩, ⟨by (with_reducible repeat (first | refine blk_drewN ?_ _ | refine blk_drew ?_ | refine blk_alloc ?_ _)); exact BK256.out⟩, ⟨by repeat (first | (with_reducible first | exact HB.out | apply below_alloc | apply pw_below_drewN | apply below_drew1 | refine below_set ?_ GE247.out | refine below_set ?_ GE256.out) | exact HB.out)⟩⟩
         case rest =>
          clear HC48
          try clear c1
          try clear c2
          try clear p2
          try clear c3
          try clear c4
          try clear c5
          try clear c5b0
          try clear c5b1
          try clear c7
          try clear c7b0
          try clear c16
          try clear c17
          try clear c18
          try clear c19
          try clear c20
          try clear c21
          try clear c22
          try clear c27
          try clear c31
          try clear c38
          try clear c42
          try clear c42b0
          try clear c44
          try clear c49
          try clear hcz21_0
          try clear hcz21_1
          try clear hcz21_2
          try clear hcz28_0
          try clear hcz28_1
          try clear hcz28_2
          try clear hcz29_0
          try clear hcz29_1
          try clear hcz29_2
          try clear hcz45_0
          try clear hcz45_1
          try clear hcz45_2
          try clear hcz46_0
          try clear hcz46_1
          try clear hcz46_2
          try clear hfz21_0
          try clear hfz21_1
          try clear hfz21_2
          try clear hfz28_0
          try clear hfz28_1
          try clear hfz28_2
          try clear hfz29_0
          try clear hfz29_1
          try clear hfz29_2
          try clear hfz45_0
          try clear hfz45_1
          try clear hfz45_2
          try clear hfz46_0
          try clear hfz46_1
          try clear hfz46_2
          try clear p2
          obtain ⟨kq, HA, HJ47, HO_248000, HO_257000, BK247, BK256, HB⟩ := hcut
          cases kq with
          | zero => exact absurd HA.out (by simp [laws_FnExactKeyFeed.j3])
          | succ kj47 =>
           have H := HA.out
           clear HA
           simp only [laws_FnExactKeyFeed.j3] at H
           replace H := Option.bind_eq_some_iff.mp H
           obtain ⟨⟨t265, t266⟩, A500, H⟩ := H
           replace H : ((laws_heldFedOut.f kj47 t266 t254 t255 1).bind fun t267 => (if t267 < 0 then (some false) else (laws_FnExactKeyFeed.j4 kj47 l0 a1 a2 a3 t265 t267 t242 t245 t246 t266 t254 t255))) = some r := H
           have A50 := Aside0.mk A500
           clear A500
           replace H := Option.bind_eq_some_iff.mp H
           obtain ⟨t267, A510, H⟩ := H
           replace H : (if t267 < 0 then (some false) else (laws_FnExactKeyFeed.j4 kj47 l0 a1 a2 a3 t265 t267 t242 t245 t246 t266 t254 t255)) = some r := H
           have A51 := Aside0.mk A510
           clear A510
           have HC52 := Aside0.mk H
           clear H
           have hnb53 := NB256_247.out
           have hnc53 := NB247_256.out
           have hcz54_0 : wc.cell? ⟨gb256, 0, none⟩ = some (.slice Ao26 t251.length co26) := (blk_cell BK256.out 0).trans rfl
           have hcz54_1 : wc.cell? ⟨gb256, 1, none⟩ = some (.string t254) := (blk_cell BK256.out 1).trans rfl
           have hcz54_2 : wc.cell? ⟨gb256, 2, none⟩ = some (.int .i64 t255) := (blk_cell BK256.out 2).trans rfl
           have hfz54_0 := blk_frozen BK256.out 0
           have hfz54_1 := blk_frozen BK256.out 1
           have hfz54_2 := blk_frozen BK256.out 2
           go_upto_if 65 with (first | ((with_reducible refine gate_callee (f := 23) rfl ?_); refine gl (some 60) Try.func23 #[.agg #[.slice Ao26 t251.length co26, .string t254, .int .i64 t255], .int .i64 1] ?_; (with_reducible refine (laws_markFedOut.calls kj47 (fun k_ => some k_ = (.slice Ao26 t251.length co26 : Value).ownBlock) (.slice Ao26 t251.length co26) t251 t254 t255 1 t265 t266 w _ ?side1 ?side2 A50.out).mono ?_); (case side1 => repeat (first | (with_reducible first | exact HB.out | apply below_alloc | apply pw_below_drewN | apply below_drew1 | refine below_set ?_ GE247.out | refine below_set ?_ GE256.out) | exact HB.out)); (case side2 => exact Kd.R_tight rfl HO_257000.out); rintro e w55 ⟨rfl, hy0, hb, hkp⟩; refine ⟨_, rfl, ?_⟩; have n0_ := am (Kd.R_mono (ok' := fun k_ => some k_ ≠ (.slice Ao26 t251.length co26 : Value).ownBlock) (Kd.R_keptB (HO_248000.out) hkp (fun k_ hk_ hs_ => (hk_) hs_)) (fun k_ hk_ => hk_.1)); have n1_ := am (Kd.R_reok rfl hy0 (fun k_ e_ => HO_257000.out.1 k_ e_)); have n2_ := am (blk_kept (pk BK247.out) hkp (fun hs_ => (fun e_ => (Kd.R_ne HO_257000.out BK247.out (by decide)) e_) hs_)); have n3_ := am (blk_kept (pk BK256.out) hkp (fun hs_ => (fun e_ => (Kd.R_ne HO_257000.out BK256.out (by decide)) e_) hs_)); have n4_ := am (hb); clear HO_248000; clear HO_257000; clear BK247; clear BK256; clear HB; have HO_248000 := n0_; have HO_257000 := n1_; have BK247 := n2_; have BK256 := n3_; have HB := n4_; clear n0_ n1_ n2_ n3_ n4_; (try clear hb); (try clear hkp); (try clear hy0); have hcz56_0 : w55.cell? ⟨gb256, 0, none⟩ = some (.slice Ao26 t251.length co26) := (blk_cell BK256.out 0).trans rfl; have hcz56_1 : w55.cell? ⟨gb256, 1, none⟩ = some (.string t254) := (blk_cell BK256.out 1).trans rfl; have hcz56_2 : w55.cell? ⟨gb256, 2, none⟩ = some (.int .i64 t255) := (blk_cell BK256.out 2).trans rfl; have hfz56_0 := blk_frozen BK256.out 0; have hfz56_1 := blk_frozen BK256.out 1; have hfz56_2 := blk_frozen BK256.out 2) | ((with_reducible refine gate_callee (f := 24) rfl ?_); refine goesL_ (some 63) rfl rfl Try.func24 (by kernel_rfl) rfl #[.agg #[.slice Ao26 t266.length co26, .string t254, .int .i64 t255], .int .i64 1] rfl (by (try simp only [List.map_toArray, List.map_cons, List.map_nil]); first | done | (rw [show t266.length = t251.length from (Kd.R_reads' HO_257000.out).1.symm] <;> rfl) | rfl | (simp only [List.length_drop, List.length_take]; rfl)) ?_; (with_reducible refine (laws_heldFedOut.calls kj47 _ _ t266 t254 t255 1 t267 _ ?side1 ?side2 A51.out).mono ?_); (case side1 => repeat (first | exact (Kd.R_reads' HO_257000.out).2.2 | (with_reducible refine Kd.C_alloc ?_ _) | (with_reducible refine Kd.C_drewN ?_ _) | (with_reducible refine Kd.C_drew ?_))); (case side2 => rw [show t266.length = t251.length from (Kd.R_reads' HO_257000.out).1.symm]; exact (Kd.R_reads' HO_257000.out).2.1); rintro e w57 ⟨rfl, hb⟩; refine ⟨_, rfl, ?_⟩; have n0_ := am (Kd.R_below (by (with_reducible repeat (first | apply Kd.R_alloc | apply Kd.R_drewN | apply Kd.R_drew)); exact HO_248000.out) hb); have n1_ := am (Kd.R_below (by (with_reducible repeat (first | apply Kd.R_alloc | apply Kd.R_drewN | apply Kd.R_drew)); exact HO_257000.out) hb); have n2_ := am (blk_below (g := gb247) (o := .cells #[.slice Ao20 t242.length co20, .string t245, .int .i64 t246] 39 (0, 0)) (pk BK247.out) hb); have n3_ := am (blk_below (g := gb256) (o := .cells #[.slice Ao26 t251.length co26, .string t254, .int .i64 t255] 39 (0, 0)) (pk BK256.out) hb); have n4_ := am (below_step (by repeat (first | (with_reducible first | exact HB.out | apply below_alloc | apply pw_below_drewN | apply below_drew1 | refine below_set ?_ GE247.out | refine below_set ?_ GE256.out) | exact HB.out)) hb); clear HO_248000; clear HO_257000; clear BK247; clear BK256; clear HB; have HO_248000 := n0_; have HO_257000 := n1_; have BK247 := n2_; have BK256 := n3_; have HB := n4_; clear n0_ n1_ n2_ n3_ n4_; (try clear hb); (try clear hb2); (try clear hk); (try clear hi)))
           (try simp only [Act.put, sa_, s0_, ss_])
           go_cut [] (fun wc => ∃ (kq : Nat), Aside0 (laws_FnExactKeyFeed.j4 kq l0 a1 a2 a3 t265 t267 t242 t245 t246 t266 t254 t255 = some r) ∧ Aside0 (kq ≤ kj47) ∧ Aside0 (Kd.R k153 153 wc w.heap.size (fun k_ => some k_ ≠ ((.slice Ao26 t251.length co26) : Value).ownBlock) (.slice Ao20 t242.length co20) t242) ∧ Aside0 (Kd.R k153 153 wc w.heap.size (fun k_ => some k_ ≠ ((.slice Ao20 t242.length co20) : Value).ownBlock) (.slice Ao26 t251.length co26) t266) ∧ Aside0 (wc.heap[gb247]? = some (.cells #[(.slice Ao20 t242.length co20), .string t245, .int .i64 t246] 39 (0, 0))) ∧ Aside0 (wc.heap[gb256]? = some (.cells #[(.slice Ao26 t251.length co26), .string t254, .int .i64 t255] 39 (0, 0))) ∧ Aside0 (Below w.heap.size w wc))
           case first =>
            have H := HC52.out
            clear HC52
            by_cases c58 : t267 < 0
            ·rw [if_pos c58] at H
             have c58b0 : decide (t267 < 0) = true := decide_eq_true c58
             clear c58
             (first | rw [c58b0] | (simp only [i64_w, i32_w]; rw [c58b0]) | (have e9_ := c58b0; unfold bne at e9_; rw [e9_]) | skip)
             obtain rfl := Option.some.inj H
             go_wp2
             go_ret
             exact ⟨by first | rfl | (simp [errW_none, errW_some] <;> rfl) | (simp [*, errW_none, errW_some] <;> rfl), by repeat (first | (with_reducible first | exact HB.out | apply below_alloc | apply pw_below_drewN | apply below_drew1 | refine below_set ?_ GE247.out | refine below_set ?_ GE256.out) | exact HB.out)⟩
            ·rw [if_neg c58] at H
             have c58b0 : decide (t267 < 0) = false := decide_eq_false c58
             clear c58
             (first | rw [c58b0] | (simp only [i64_w, i32_w]; rw [c58b0]) | (have e9_ := c58b0; unfold bne at e9_; rw [e9_]) | skip)
             have H' := Aside0.mk H
             clear H
             go_wp2
             go_meet
             case rel => exact ⟨_, H', ⟨by have := HJ13.out; have := HJ33.out; have := HJ39.out; have := HJ47.out; first | omega | exact Nat.le_refl _⟩, ⟨by (with_reducible repeat (first | apply Kd.R_alloc | apply Kd.R_drewN | apply Kd.R_drew)); exact HO_248000.out⟩, ⟨by (with_reducible repeat (first | apply Kd.R_alloc | apply Kd.R_drewN | apply Kd.R_drew)); exact HO_257000.out⟩, ⟨by (with_reducible repeat (first | refine blk_drewN ?_ _ | refine blk_drew ?_ | refine blk_alloc ?_ _)); exact BK247.out⟩, ⟨by (with_reducible repeat (first | refine blk_drewN ?_ _ | refine blk_drew ?_ | refine blk_alloc ?_ _)); exact BK256.out⟩, ⟨by repeat (first | (with_reducible first | exact HB.out | apply below_alloc | apply pw_below_drewN | apply below_drew1 | refine below_set ?_ GE247.out | refine below_set ?_ GE256.out) | exact HB.out)⟩⟩
           case rest =>
            clear HC52
            try clear c1
            try clear c2
            try clear p2
            try clear c3
            try clear c4
            try clear c5
            try clear c5b0
            try clear c5b1
            try clear c7
            try clear c7b0
            try clear c16
            try clear c17
            try clear c18
            try clear c19
            try clear c20
            try clear c21
            try clear c22
            try clear c23
            try clear c24
            try clear c27
            try clear c31
            try clear c38
            try clear c42
            try clear c42b0
            try clear c44
            try clear c49
            try clear c53
            try clear c58
            try clear c58b0
            try clear hcz21_0
            try clear hcz21_1
            try clear hcz21_2
            try clear hcz28_0
            try clear hcz28_1
            try clear hcz28_2
            try clear hcz29_0
            try clear hcz29_1
            try clear hcz29_2
            try clear hcz45_0
            try clear hcz45_1
            try clear hcz45_2
            try clear hcz46_0
            try clear hcz46_1
            try clear hcz46_2
            try clear hcz54_0
            try clear hcz54_1
            try clear hcz54_2
            try clear hcz56_0
            try clear hcz56_1
            try clear hcz56_2
            try clear hfz21_0
            try clear hfz21_1
            try clear hfz21_2
            try clear hfz28_0
            try clear hfz28_1
            try clear hfz28_2
            try clear hfz29_0
            try clear hfz29_1
            try clear hfz29_2
            try clear hfz45_0
            try clear hfz45_1
            try clear hfz45_2
            try clear hfz46_0
            try clear hfz46_1
            try clear hfz46_2
            try clear hfz54_0
            try clear hfz54_1
            try clear hfz54_2
            try clear hfz56_0
            try clear hfz56_1
            try clear hfz56_2
            try clear p2
            obtain ⟨kq, HA, HJ51, HO_248000, HO_257000, BK247, BK256, HB⟩ := hcut
            have hl257000_51 := (Kd.R_reads' HO_257000.out).1
            rw [hl257000_51] at HO_257000
            (try simp only [hl257000_51])
            (try simp only [hl257000_51] at BK247)
            (try simp only [hl257000_51] at BK256)
            (try simp only [hl257000_51] at HO_248000)
            cases kq with
            | zero => exact absurd HA.out (by simp [laws_FnExactKeyFeed.j4])
            | succ kj51 =>
             have H := HA.out
             clear HA
             simp only [laws_FnExactKeyFeed.j4] at H
             by_cases c59 : t267 = t265
             ·rw [if_pos c59] at H
              have c59b0 : (t267 == t265) = true := beq_iff_eq.mpr c59
              have c59b1 : (t267 != t265) = false := bne_eq_false_iff_eq.mpr c59
              clear c59
              replace H := Option.bind_eq_some_iff.mp H
              obtain ⟨t268, A600, H⟩ := H
              replace H : ((impl_KeyFeed.f kj51 t268 a1 a2 a3).bind fun bt271 => ((laws_eqFedOut.f kj51 bt271.1 bt271.2.1 bt271.2.2 t242 t245 t246).bind fun t277 => (if t277 = true then (laws_FnExactKeyFeed.j5 kj51 t265 t266 t254 t255) else (some false)))) = some r := H
              have A60 := Aside0.mk A600
              clear A600
              replace H := Option.bind_eq_some_iff.mp H
              obtain ⟨⟨t271, t274, t275⟩, A610, H⟩ := H
              replace H : ((laws_eqFedOut.f kj51 t271 t274 t275 t242 t245 t246).bind fun t277 => (if t277 = true then (laws_FnExactKeyFeed.j5 kj51 t265 t266 t254 t255) else (some false))) = some r := H
              have A61 := Aside0.mk A610
              clear A610
              replace H := Option.bind_eq_some_iff.mp H
              obtain ⟨t277, A620, H⟩ := H
              replace H : (if t277 = true then (laws_FnExactKeyFeed.j5 kj51 t265 t266 t254 t255) else (some false)) = some r := H
              have A62 := Aside0.mk A620
              clear A620
              have HC63 := Aside0.mk H
              clear H
              go_upto_if 78 with (first | ((with_reducible refine gate_callee (f := 18) rfl ?_); refine gl (some 70) Try.func18 #[.slice A0 l0.length c0] ?_; (with_reducible refine (laws_toKeyS.calls kj51 _ _ l0 t268 _ ?side1 ?side2 A60.out).mono ?_); (case side1 => repeat (first | exact (Kd.C_below HR0.out HB.out) | (with_reducible refine Kd.C_alloc ?_ _) | (with_reducible refine Kd.C_drewN ?_ _) | (with_reducible refine Kd.C_drew ?_))); (case side2 => exact HC0.out); rintro e w64 ⟨v269, rfl, ho0, hb⟩; refine ⟨_, rfl, ?_⟩; have n0_ := am (Kd.R_below (by (with_reducible repeat (first | apply Kd.R_alloc | apply Kd.R_drewN | apply Kd.R_drew)); exact HO_248000.out) hb); have n1_ := am (Kd.R_below (by (with_reducible repeat (first | apply Kd.R_alloc | apply Kd.R_drewN | apply Kd.R_drew)); exact HO_257000.out) hb); have n2_ := am (Kd.R_lower ho0 (below_size (by repeat (first | (with_reducible first | exact HB.out | apply below_alloc | apply pw_below_drewN | apply below_drew1 | refine below_set ?_ GE247.out | refine below_set ?_ GE256.out) | exact HB.out)))); have n3_ := am (blk_below (g := gb247) (o := .cells #[.slice Ao20 t242.length co20, .string t245, .int .i64 t246] 39 (0, 0)) (pk BK247.out) hb); have n4_ := am (blk_below (g := gb256) (o := .cells #[.slice Ao26 t266.length co26, .string t254, .int .i64 t255] 39 (0, 0)) (pk BK256.out) hb); have n5_ := am (below_step (by repeat (first | (with_reducible first | exact HB.out | apply below_alloc | apply pw_below_drewN | apply below_drew1 | refine below_set ?_ GE247.out | refine below_set ?_ GE256.out) | exact HB.out)) hb); clear HO_248000; clear HO_257000; clear BK247; clear BK256; clear HB; have HO_248000 := n0_; have HO_257000 := n1_; have HO270 := n2_; have BK247 := n3_; have BK256 := n4_; have HB := n5_; clear n0_ n1_ n2_ n3_ n4_ n5_; (try clear hb); (try clear hb2); (try clear hk); (try clear hi); (try clear ho0); obtain ⟨Ao65, co65, eo65⟩ := Kd.R_slice HO270.out; subst eo65) | ((with_reducible refine gate_callee (f := 19) rfl ?_); refine gl (some 74) Try.func19 #[.slice Ao65 t268.length co65, .int .i64 a1, .string a2, .bool a3] ?_; (with_reducible refine (impl_KeyFeed.calls kj51 _ _ t268 a1 a2 a3 t271 t274 t275 _ ?side1 ?side2 A61.out).mono ?_); (case side1 => repeat (first | exact (Kd.R_reads' HO270.out).2.2 | (with_reducible refine Kd.C_alloc ?_ _) | (with_reducible refine Kd.C_drewN ?_ _) | (with_reducible refine Kd.C_drew ?_))); (case side2 => exact (Kd.R_reads' HO270.out).2.1); rintro e w66 ⟨v272, rfl, ho0, hb⟩; refine ⟨_, rfl, ?_⟩; have n0_ := am (Kd.R_elder' (by (with_reducible repeat (first | apply Kd.R_alloc | apply Kd.R_drewN | apply Kd.R_drew)); exact HO_248000.out) (Kd.R_base ho0) hb); have n1_ := am (Kd.R_elder' (by (with_reducible repeat (first | apply Kd.R_alloc | apply Kd.R_drewN | apply Kd.R_drew)); exact HO_257000.out) (Kd.R_base ho0) hb); have n2_ := am (Kd.R_below (by (with_reducible repeat (first | apply Kd.R_alloc | apply Kd.R_drewN | apply Kd.R_drew)); exact HO270.out) hb); have n3_ := am (Kd.R_lower (Kd.R_new' (Kd.R_new' ho0 (Kd.R_lt (by (with_reducible repeat (first | apply Kd.R_alloc | apply Kd.R_drewN | apply Kd.R_drew)); exact HO_248000.out))) (Kd.R_lt (by (with_reducible repeat (first | apply Kd.R_alloc | apply Kd.R_drewN | apply Kd.R_drew)); exact HO_257000.out))) (below_size (by repeat (first | (with_reducible first | exact HB.out | apply below_alloc | apply pw_below_drewN | apply below_drew1 | refine below_set ?_ GE247.out | refine below_set ?_ GE256.out) | exact HB.out)))); have n4_ := am (blk_below (g := gb247) (o := .cells #[.slice Ao20 t242.length co20, .string t245, .int .i64 t246] 39 (0, 0)) (pk BK247.out) hb); have n5_ := am (blk_below (g := gb256) (o := .cells #[.slice Ao26 t266.length co26, .string t254, .int .i64 t255] 39 (0, 0)) (pk BK256.out) hb); have n6_ := am (below_step (by repeat (first | (with_reducible first | exact HB.out | apply below_alloc | apply pw_below_drewN | apply below_drew1 | refine below_set ?_ GE247.out | refine below_set ?_ GE256.out) | exact HB.out)) hb); clear HO_248000; clear HO_257000; clear HO270; clear BK247; clear BK256; clear HB; have HO_248000 := n0_; have HO_257000 := n1_; have HO270 := n2_; have HO273 := n3_; have BK247 := n4_; have BK256 := n5_; have HB := n6_; clear n0_ n1_ n2_ n3_ n4_ n5_ n6_; (try clear hb); (try clear hb2); (try clear hk); (try clear hi); (try clear ho0)) | ((with_reducible refine gate_dst (N := 16) rfl ?_); refine box_event ?hg (N := 16) ?hd (cs := #[.slice none 0 0, .string (⟨#[]⟩ : ByteArray), .int .i64 0]) (t := 39) ?hr ?_; (case hd => rfl); (case hg => rfl); (case hr => first | (go_simp; done) | (go_simp; rfl)); intro gb276 hg w67 hbox hb; have n0_ := am (Kd.R_below (by (with_reducible repeat (first | apply Kd.R_alloc | apply Kd.R_drewN | apply Kd.R_drew)); exact HO_248000.out) hb); have n1_ := am (Kd.R_below (by (with_reducible repeat (first | apply Kd.R_alloc | apply Kd.R_drewN | apply Kd.R_drew)); exact HO_257000.out) hb); have n2_ := am (Kd.R_below (by (with_reducible repeat (first | apply Kd.R_alloc | apply Kd.R_drewN | apply Kd.R_drew)); exact HO270.out) hb); have n3_ := am (Kd.R_below (by (with_reducible repeat (first | apply Kd.R_alloc | apply Kd.R_drewN | apply Kd.R_drew)); exact HO273.out) hb); have n4_ := am (blk_below (g := gb247) (o := .cells #[.slice Ao20 t242.length co20, .string t245, .int .i64 t246] 39 (0, 0)) (pk BK247.out) hb); have n5_ := am (blk_below (g := gb256) (o := .cells #[.slice Ao26 t266.length co26, .string t254, .int .i64 t255] 39 (0, 0)) (pk BK256.out) hb); have n6_ := am (below_step (by repeat (first | (with_reducible first | exact HB.out | apply below_alloc | apply pw_below_drewN | apply below_drew1 | refine below_set ?_ GE247.out | refine below_set ?_ GE256.out) | exact HB.out)) hb); have n7_ := am (hbox); have n8_ := am ((by rw [hg]; exact (below_size (by repeat (first | (with_reducible first | exact HB.out | apply below_alloc | apply pw_below_drewN | apply below_drew1 | refine below_set ?_ GE247.out | refine below_set ?_ GE256.out) | exact HB.out))) : w.heap.size ≤ gb276)); have n9_ := am ((by rw [hg]; exact (below_size (by repeat (first | (with_reducible first | exact HB.out | apply below_alloc | apply pw_below_drewN | apply below_drew1 | refine below_set ?_ GE247.out | refine below_set ?_ GE256.out) | exact HB.out))) : w.heap.size ≤ gb276)); have n10_ := am ((by rw [hg]; exact Nat.ne_of_lt (blk_lt (g := gb247) (o := .cells #[.slice Ao20 t242.length co20, .string t245, .int .i64 t246] 39 (0, 0)) (pk BK247.out)) : gb247 ≠ gb276)); have n11_ := am ((by rw [hg]; exact Nat.ne_of_gt (blk_lt (g := gb247) (o := .cells #[.slice Ao20 t242.length co20, .string t245, .int .i64 t246] 39 (0, 0)) (pk BK247.out)) : gb276 ≠ gb247)); have n12_ := am ((by rw [hg]; exact Nat.ne_of_lt (blk_lt (g := gb256) (o := .cells #[.slice Ao26 t266.length co26, .string t254, .int .i64 t255] 39 (0, 0)) (pk BK256.out)) : gb256 ≠ gb276)); have n13_ := am ((by rw [hg]; exact Nat.ne_of_gt (blk_lt (g := gb256) (o := .cells #[.slice Ao26 t266.length co26, .string t254, .int .i64 t255] 39 (0, 0)) (pk BK256.out)) : gb276 ≠ gb256)); clear HO_248000; clear HO_257000; clear HO270; clear HO273; clear BK247; clear BK256; clear HB; have HO_248000 := n0_; have HO_257000 := n1_; have HO270 := n2_; have HO273 := n3_; have BK247 := n4_; have BK256 := n5_; have HB := n6_; have BK276 := n7_; have GW276 := n8_; have GE276 := n9_; have NB247_276 := n10_; have NB276_247 := n11_; have NB256_276 := n12_; have NB276_256 := n13_; clear n0_ n1_ n2_ n3_ n4_ n5_ n6_ n7_ n8_ n9_ n10_ n11_ n12_ n13_; clear hb hbox hg; obtain ⟨Ao68, co68, eo68⟩ := Kd.R_slice HO273.out; subst eo68; have hnb69 := NB276_247.out; have hnc69 := NB247_276.out; have hnb70 := NB276_256.out; have hnc70 := NB256_276.out; have hcz71_0 : w67.cell? ⟨gb276, 0, none⟩ = some (.slice none 0 0) := (blk_cell BK276.out 0).trans rfl; have hcz71_1 : w67.cell? ⟨gb276, 1, none⟩ = some (.string (⟨#[]⟩ : ByteArray)) := (blk_cell BK276.out 1).trans rfl; have hcz71_2 : w67.cell? ⟨gb276, 2, none⟩ = some (.int .i64 0) := (blk_cell BK276.out 2).trans rfl; have hfz71_0 := blk_frozen BK276.out 0; have hfz71_1 := blk_frozen BK276.out 1; have hfz71_2 := blk_frozen BK276.out 2; have hnb72 := NB247_256.out; have hnc72 := NB256_247.out; have hcz73_0 : w67.cell? ⟨gb247, 0, none⟩ = some (.slice Ao20 t242.length co20) := (blk_cell BK247.out 0).trans rfl; have hcz73_1 : w67.cell? ⟨gb247, 1, none⟩ = some (.string t245) := (blk_cell BK247.out 1).trans rfl; have hcz73_2 : w67.cell? ⟨gb247, 2, none⟩ = some (.int .i64 t246) := (blk_cell BK247.out 2).trans rfl; have hfz73_0 := blk_frozen BK247.out 0; have hfz73_1 := blk_frozen BK247.out 1; have hfz73_2 := blk_frozen BK247.out 2) | ((with_reducible refine gate_callee (f := 20) rfl ?_); refine gl (some 77) Try.func20 #[.agg #[.slice Ao68 t271.length co68, .string t274, .int .i64 t275], .agg #[.slice Ao20 t242.length co20, .string t245, .int .i64 t246]] ?_; (with_reducible refine (laws_eqFedOut.calls kj51 _ _ t271 t274 t275 _ _ t242 t245 t246 t277 _ ?side1 ?side2 ?side3 ?side4 A62.out).mono ?_); (case side1 => refine (Kd.R_reads' (e := 153) (base := w.heap.size) (ok := fun k_ => ((True ∧ some k_ ≠ (.slice Ao20 t242.length co20 : Value).ownBlock) ∧ some k_ ≠ (.slice Ao26 t266.length co26 : Value).ownBlock)) (n := t271.length) (c := co68) ?_).2.2; exact (by (with_reducible repeat (first | apply Kd.R_alloc | apply Kd.R_drewN | apply Kd.R_drew)); exact (Kd.R_mono (Kd.R_far (p := ⟨gb276, 2, none⟩) (Kd.R_far (p := ⟨gb276, 1, none⟩) (Kd.R_far (p := ⟨gb276, 0, none⟩) (Kd.R_types HO273.out BK276.out (by decide)) (fun _ hk => hk.2) (.slice Ao68 t271.length co68)) (fun _ hk => hk.2) (.string t274)) (fun _ hk => hk.2) (.int .i64 t275)) (fun _ h_ => h_.1)))); (case side2 => exact (Kd.R_reads' HO273.out).2.1); (case side3 => refine (Kd.R_reads' (e := 153) (base := w.heap.size) (ok := fun k_ => (some k_ ≠ (.slice Ao26 t266.length co26 : Value).ownBlock ∧ some k_ ≠ (.slice Ao68 t271.length co68 : Value).ownBlock)) (n := t242.length) (c := co20) ?_).2.2; exact (by (with_reducible repeat (first | apply Kd.R_alloc | apply Kd.R_drewN | apply Kd.R_drew)); exact (Kd.R_mono (Kd.R_far (p := ⟨gb276, 2, none⟩) (Kd.R_far (p := ⟨gb276, 1, none⟩) (Kd.R_far (p := ⟨gb276, 0, none⟩) (Kd.R_types HO_248000.out BK276.out (by decide)) (fun _ hk => hk.2) (.slice Ao68 t271.length co68)) (fun _ hk => hk.2) (.string t274)) (fun _ hk => hk.2) (.int .i64 t275)) (fun _ h_ => h_.1)))); (case side4 => exact (Kd.R_reads' HO_248000.out).2.1); rintro e w74 ⟨rfl, hb⟩; refine ⟨_, rfl, ?_⟩; have n0_ := am (Kd.R_below (by (with_reducible repeat (first | apply Kd.R_alloc | apply Kd.R_drewN | apply Kd.R_drew)); exact (Kd.R_mono (Kd.R_far (p := ⟨gb276, 2, none⟩) (Kd.R_far (p := ⟨gb276, 1, none⟩) (Kd.R_far (p := ⟨gb276, 0, none⟩) (Kd.R_types HO_248000.out BK276.out (by decide)) (fun _ hk => hk.2) (.slice Ao68 t271.length co68)) (fun _ hk => hk.2) (.string t274)) (fun _ hk => hk.2) (.int .i64 t275)) (fun _ h_ => h_.1))) hb); have n1_ := am (Kd.R_below (by (with_reducible repeat (first | apply Kd.R_alloc | apply Kd.R_drewN | apply Kd.R_drew)); exact (Kd.R_mono (Kd.R_far (p := ⟨gb276, 2, none⟩) (Kd.R_far (p := ⟨gb276, 1, none⟩) (Kd.R_far (p := ⟨gb276, 0, none⟩) (Kd.R_types HO_257000.out BK276.out (by decide)) (fun _ hk => hk.2) (.slice Ao68 t271.length co68)) (fun _ hk => hk.2) (.string t274)) (fun _ hk => hk.2) (.int .i64 t275)) (fun _ h_ => h_.1))) hb); have n2_ := am (Kd.R_below (by (with_reducible repeat (first | apply Kd.R_alloc | apply Kd.R_drewN | apply Kd.R_drew)); exact (Kd.R_mono (Kd.R_far (p := ⟨gb276, 2, none⟩) (Kd.R_far (p := ⟨gb276, 1, none⟩) (Kd.R_far (p := ⟨gb276, 0, none⟩) (Kd.R_types HO270.out BK276.out (by decide)) (fun _ hk => hk.2) (.slice Ao68 t271.length co68)) (fun _ hk => hk.2) (.string t274)) (fun _ hk => hk.2) (.int .i64 t275)) (fun _ h_ => h_.1))) hb); have n3_ := am (Kd.R_below (by (with_reducible repeat (first | apply Kd.R_alloc | apply Kd.R_drewN | apply Kd.R_drew)); exact (Kd.R_mono (Kd.R_far (p := ⟨gb276, 2, none⟩) (Kd.R_far (p := ⟨gb276, 1, none⟩) (Kd.R_far (p := ⟨gb276, 0, none⟩) (Kd.R_types HO273.out BK276.out (by decide)) (fun _ hk => hk.2) (.slice Ao68 t271.length co68)) (fun _ hk => hk.2) (.string t274)) (fun _ hk => hk.2) (.int .i64 t275)) (fun _ h_ => h_.1))) hb); have n4_ := am (blk_below (g := gb247) (o := .cells #[.slice Ao20 t242.length co20, .string t245, .int .i64 t246] 39 (0, 0)) (by (with_reducible repeat (first | refine blk_drewN ?_ _ | refine blk_drew ?_ | refine blk_alloc ?_ _)); refine blk_far ?_ NB247_276.out _; (with_reducible repeat (first | refine blk_drewN ?_ _ | refine blk_drew ?_ | refine blk_alloc ?_ _)); refine blk_far ?_ NB247_276.out _; (with_reducible repeat (first | refine blk_drewN ?_ _ | refine blk_drew ?_ | refine blk_alloc ?_ _)); refine blk_far ?_ NB247_276.out _; (with_reducible repeat (first | refine blk_drewN ?_ _ | refine blk_drew ?_ | refine blk_alloc ?_ _)); exact BK247.out) hb); have n5_ := am (blk_below (g := gb256) (o := .cells #[.slice Ao26 t266.length co26, .string t254, .int .i64 t255] 39 (0, 0)) (by (with_reducible repeat (first | refine blk_drewN ?_ _ | refine blk_drew ?_ | refine blk_alloc ?_ _)); refine blk_far ?_ NB256_276.out _; (with_reducible repeat (first | refine blk_drewN ?_ _ | refine blk_drew ?_ | refine blk_alloc ?_ _)); refine blk_far ?_ NB256_276.out _; (with_reducible repeat (first | refine blk_drewN ?_ _ | refine blk_drew ?_ | refine blk_alloc ?_ _)); refine blk_far ?_ NB256_276.out _; (with_reducible repeat (first | refine blk_drewN ?_ _ | refine blk_drew ?_ | refine blk_alloc ?_ _)); exact BK256.out) hb); have n6_ := am (blk_below (g := gb276) (o := .cells #[.slice Ao68 t271.length co68, .string t274, .int .i64 t275] 39 (0, 0)) (by (with_reducible repeat (first | refine blk_drewN ?_ _ | refine blk_drew ?_ | refine blk_alloc ?_ _)); refine blk_put (cs := #[.slice Ao68 t271.length co68, .string t274, .int .i64 0]) ?_ 2 _ rfl; (with_reducible repeat (first | refine blk_drewN ?_ _ | refine blk_drew ?_ | refine blk_alloc ?_ _)); refine blk_put (cs := #[.slice Ao68 t271.length co68, .string (⟨#[]⟩ : ByteArray), .int .i64 0]) ?_ 1 _ rfl; (with_reducible repeat (first | refine blk_drewN ?_ _ | refine blk_drew ?_ | refine blk_alloc ?_ _)); refine blk_put (cs := #[.slice none 0 0, .string (⟨#[]⟩ : ByteArray), .int .i64 0]) ?_ 0 _ rfl; (with_reducible repeat (first | refine blk_drewN ?_ _ | refine blk_drew ?_ | refine blk_alloc ?_ _)); exact BK276.out) hb); have n7_ := am (below_step (by repeat (first | (with_reducible first | exact HB.out | apply below_alloc | apply pw_below_drewN | apply below_drew1 | refine below_set ?_ GE247.out | refine below_set ?_ GE256.out | refine below_set ?_ GE276.out) | exact HB.out)) hb); clear HO_248000; clear HO_257000; clear HO270; clear HO273; clear BK247; clear BK256; clear BK276; clear HB; have HO_248000 := n0_; have HO_257000 := n1_; have HO270 := n2_; have HO273 := n3_; have BK247 := n4_; have BK256 := n5_; have BK276 := n6_; have HB := n7_; clear n0_ n1_ n2_ n3_ n4_ n5_ n6_ n7_; (try clear hb); (try clear hb2); (try clear hk); (try clear hi)))
              (try simp only [Act.put, sa_, s0_, ss_])
              go_cut [] (fun wc => ∃ (kq : Nat), Aside0 (laws_FnExactKeyFeed.j5 kq t265 t266 t254 t255 = some r) ∧ Aside0 (kq ≤ kj51) ∧ Aside0 (Kd.R k153 153 wc w.heap.size (fun k_ => some k_ ≠ ((.slice Ao26 t266.length co26) : Value).ownBlock ∧ some k_ ≠ ((.slice Ao68 t271.length co68) : Value).ownBlock) (.slice Ao20 t242.length co20) t242) ∧ Aside0 (Kd.R k153 153 wc w.heap.size (fun k_ => some k_ ≠ ((.slice Ao20 t242.length co20) : Value).ownBlock ∧ some k_ ≠ ((.slice Ao68 t271.length co68) : Value).ownBlock) (.slice Ao26 t266.length co26) t266) ∧ Aside0 (Kd.R k153 153 wc w.heap.size (fun k_ => some k_ ≠ ((.slice Ao20 t242.length co20) : Value).ownBlock ∧ some k_ ≠ ((.slice Ao26 t266.length co26) : Value).ownBlock) (.slice Ao68 t271.length co68) t271) ∧ Aside0 (wc.heap[gb247]? = some (.cells #[(.slice Ao20 t242.length co20), .string t245, .int .i64 t246] 39 (0, 0))) ∧ Aside0 (wc.heap[gb256]? = some (.cells #[(.slice Ao26 t266.length co26), .string t254, .int .i64 t255] 39 (0, 0))) ∧ Aside0 (wc.heap[gb276]? = some (.cells #[(.slice Ao68 t271.length co68), .string t274, .int .i64 t275] 39 (0, 0))) ∧ Aside0 (Below w.heap.size w wc))
              case first =>
               have H := HC63.out
               clear HC63
               by_cases c75 : t277 = true
               ·subst c75
                have H1 : (laws_FnExactKeyFeed.j5 kj51 t265 t266 t254 t255) = some r := by rw [if_pos rfl] at H; exact H
                clear H
                have H := H1
                clear H1
                have H' := Aside0.mk H
                clear H
                go_wp2
                go_meet
                case rel => exact ⟨_, H', ⟨by have := HJ13.out; have := HJ33.out; have := HJ39.out; have := HJ47.out; have := HJ51.out; first | omega | exact Nat.le_refl _⟩, ⟨by (try simp only [hl257000_51]); (with_reducible repeat (first | apply Kd.R_alloc | apply Kd.R_drewN | apply Kd.R_drew)); exact HO_248000.out⟩, ⟨by (try simp only [hl257000_51]); (with_reducible repeat (first | apply Kd.R_alloc | apply Kd.R_drewN | apply Kd.R_drew)); exact HO_257000.out⟩, ⟨by (try simp only [hl257000_51]); (with_reducible repeat (first | apply Kd.R_alloc | apply Kd.R_drewN | apply Kd.R_drew)); exact Kd.R_mono HO273.out (fun _ hk => ⟨hk.1.2, hk.2⟩)⟩, ⟨by (try simp only [hl257000_51]); (with_reducible repeat (first | refine blk_drewN ?_ _ | refine blk_drew ?_ | refine blk_alloc ?_ _)); exact BK247.out⟩, ⟨by (try simp only [hl257000_51]); (with_reducible repeat (first | refine blk_drewN ?_ _ | refine blk_drew ?_ | refine blk_alloc ?_ _)); exact BK256.out⟩, ⟨by (try simp only [hl257000_51]); (with_reducible repeat (first | refine blk_drewN ?_ _ | refine blk_drew ?_ | refine blk_alloc ?_ _)); exact BK276.out⟩, ⟨by repeat (first | (with_reducible first | exact HB.out | apply below_alloc | apply pw_below_drewN | apply below_drew1 | refine below_set ?_ GE247.out | refine below_set ?_ GE256.out | refine below_set ?_ GE276.out) | exact HB.out)⟩⟩
               ·replace c75 := Bool.eq_false_iff.mpr c75
                subst c75
                have H1 : (some false) = some r := by rw [if_neg (show ¬ (false = true) by decide)] at H; exact H
                clear H
                have H := H1
                clear H1
                obtain rfl := Option.some.inj H
                go_wp2
                go_ret
                exact ⟨by first | rfl | (simp [errW_none, errW_some] <;> rfl) | (simp [*, errW_none, errW_some] <;> rfl), by repeat (first | (with_reducible first | exact HB.out | apply below_alloc | apply pw_below_drewN | apply below_drew1 | refine below_set ?_ GE247.out | refine below_set ?_ GE256.out | refine below_set ?_ GE276.out) | exact HB.out)⟩
              case rest =>
               clear HC63
               try clear c1
               try clear c2
               try clear p2
               try clear c3
               try clear c4
               try clear c5
               try clear c5b0
               try clear c5b1
               try clear c6
               try clear c7
               try clear c7b0
               try clear c16
               try clear c17
               try clear c18
               try clear c19
               try clear c20
               try clear c21
               try clear c22
               try clear c23
               try clear c24
               try clear c27
               try clear c31
               try clear c38
               try clear c42
               try clear c42b0
               try clear c44
               try clear c49
               try clear c53
               try clear c58
               try clear c58b0
               try clear c59
               try clear c59b0
               try clear c59b1
               try clear c69
               try clear c70
               try clear c72
               try clear c75
               try clear hcz21_0
               try clear hcz21_1
               try clear hcz21_2
               try clear hcz28_0
               try clear hcz28_1
               try clear hcz28_2
               try clear hcz29_0
               try clear hcz29_1
               try clear hcz29_2
               try clear hcz45_0
               try clear hcz45_1
               try clear hcz45_2
               try clear hcz46_0
               try clear hcz46_1
               try clear hcz46_2
               try clear hcz54_0
               try clear hcz54_1
               try clear hcz54_2
               try clear hcz56_0
               try clear hcz56_1
               try clear hcz56_2
               try clear hcz71_0
               try clear hcz71_1
               try clear hcz71_2
               try clear hcz73_0
               try clear hcz73_1
               try clear hcz73_2
               try clear hfz21_0
               try clear hfz21_1
               try clear hfz21_2
               try clear hfz28_0
               try clear hfz28_1
               try clear hfz28_2
               try clear hfz29_0
               try clear hfz29_1
               try clear hfz29_2
               try clear hfz45_0
               try clear hfz45_1
               try clear hfz45_2
               try clear hfz46_0
               try clear hfz46_1
               try clear hfz46_2
               try clear hfz54_0
               try clear hfz54_1
               try clear hfz54_2
               try clear hfz56_0
               try clear hfz56_1
               try clear hfz56_2
               try clear hfz71_0
               try clear hfz71_1
               try clear hfz71_2
               try clear hfz73_0
               try clear hfz73_1
               try clear hfz73_2
               try clear p2
               obtain ⟨kq, HA, HJ62, HO_248000, HO_257000, HO_277000, BK247, BK256, BK276, HB⟩ := hcut
               cases kq with
               | zero => exact absurd HA.out (by simp [laws_FnExactKeyFeed.j5])
               | succ kj62 =>
                have H := HA.out
                clear HA
                simp only [laws_FnExactKeyFeed.j5] at H
                replace H := Option.bind_eq_some_iff.mp H
                obtain ⟨t278, A760, H⟩ := H
                replace H : (if t278 < 0 then (some false) else (if t278 = t265 then (some true) else (some false))) = some r := H
                have A76 := Aside0.mk A760
                clear A760
                by_cases c77 : t278 < 0
                ·rw [if_pos c77] at H
                 have c77b0 : decide (t278 < 0) = true := decide_eq_true c77
                 clear c77
                 obtain rfl := Option.some.inj H
                 have hnb78 := NB256_247.out
                 have hnc78 := NB247_256.out
                 have hnb79 := NB256_276.out
                 have hnc79 := NB276_256.out
                 have hcz80_0 : wc.cell? ⟨gb256, 0, none⟩ = some (.slice Ao26 t266.length co26) := (blk_cell BK256.out 0).trans rfl
                 have hcz80_1 : wc.cell? ⟨gb256, 1, none⟩ = some (.string t254) := (blk_cell BK256.out 1).trans rfl
                 have hcz80_2 : wc.cell? ⟨gb256, 2, none⟩ = some (.int .i64 t255) := (blk_cell BK256.out 2).trans rfl
                 have hfz80_0 := blk_frozen BK256.out 0
                 have hfz80_1 := blk_frozen BK256.out 1
                 have hfz80_2 := blk_frozen BK256.out 2
                 go_wp2_with (first | ((with_reducible refine gate_callee (f := 24) rfl ?_); refine gl (some 81) Try.func24 #[.agg #[.slice Ao26 t266.length co26, .string t254, .int .i64 t255], .int .i64 1] ?_; (with_reducible refine (laws_heldFedOut.calls kj62 _ _ t266 t254 t255 1 t278 _ ?side1 ?side2 A76.out).mono ?_); (case side1 => repeat (first | exact (Kd.R_reads' HO_257000.out).2.2 | (with_reducible refine Kd.C_alloc ?_ _) | (with_reducible refine Kd.C_drewN ?_ _) | (with_reducible refine Kd.C_drew ?_))); (case side2 => exact (Kd.R_reads' HO_257000.out).2.1); rintro e w81 ⟨rfl, hb⟩; refine ⟨_, rfl, ?_⟩; have n0_ := am (Kd.R_below (by (with_reducible repeat (first | apply Kd.R_alloc | apply Kd.R_drewN | apply Kd.R_drew)); exact HO_248000.out) hb); have n1_ := am (Kd.R_below (by (with_reducible repeat (first | apply Kd.R_alloc | apply Kd.R_drewN | apply Kd.R_drew)); exact HO_257000.out) hb); have n2_ := am (Kd.R_below (by (with_reducible repeat (first | apply Kd.R_alloc | apply Kd.R_drewN | apply Kd.R_drew)); exact HO_277000.out) hb); have n3_ := am (blk_below (g := gb247) (o := .cells #[.slice Ao20 t242.length co20, .string t245, .int .i64 t246] 39 (0, 0)) (pk BK247.out) hb); have n4_ := am (blk_below (g := gb256) (o := .cells #[.slice Ao26 t266.length co26, .string t254, .int .i64 t255] 39 (0, 0)) (pk BK256.out) hb); have n5_ := am (blk_below (g := gb276) (o := .cells #[.slice Ao68 t271.length co68, .string t274, .int .i64 t275] 39 (0, 0)) (pk BK276.out) hb); have n6_ := am (below_step (by repeat (first | (with_reducible first | exact HB.out | apply below_alloc | apply pw_below_drewN | apply below_drew1 | refine below_set ?_ GE247.out | refine below_set ?_ GE256.out | refine below_set ?_ GE276.out) | exact HB.out)) hb); clear HO_248000; clear HO_257000; clear HO_277000; clear BK247; clear BK256; clear BK276; clear HB; have HO_248000 := n0_; have HO_257000 := n1_; have HO_277000 := n2_; have BK247 := n3_; have BK256 := n4_; have BK276 := n5_; have HB := n6_; clear n0_ n1_ n2_ n3_ n4_ n5_ n6_; (try clear hb); (try clear hb2); (try clear hk); (try clear hi)))
                 go_ret
                 exact ⟨by first | rfl | (simp [errW_none, errW_some] <;> rfl) | (simp [*, errW_none, errW_some] <;> rfl), by repeat (first | (with_reducible first | exact HB.out | apply below_alloc | apply pw_below_drewN | apply below_drew1 | refine below_set ?_ GE247.out | refine below_set ?_ GE256.out | refine below_set ?_ GE276.out) | exact HB.out)⟩
                ·rw [if_neg c77] at H
                 have c77b0 : decide (t278 < 0) = false := decide_eq_false c77
                 clear c77
                 by_cases c82 : t278 = t265
                 ·rw [if_pos c82] at H
                  have c82b0 : (t278 == t265) = true := beq_iff_eq.mpr c82
                  have c82b1 : (t278 != t265) = false := bne_eq_false_iff_eq.mpr c82
                  clear c82
                  obtain rfl := Option.some.inj H
                  have hnb83 := NB256_247.out
                  have hnc83 := NB247_256.out
                  have hnb84 := NB256_276.out
                  have hnc84 := NB276_256.out
                  have hcz85_0 : wc.cell? ⟨gb256, 0, none⟩ = some (.slice Ao26 t266.length co26) := (blk_cell BK256.out 0).trans rfl
                  have hcz85_1 : wc.cell? ⟨gb256, 1, none⟩ = some (.string t254) := (blk_cell BK256.out 1).trans rfl
                  have hcz85_2 : wc.cell? ⟨gb256, 2, none⟩ = some (.int .i64 t255) := (blk_cell BK256.out 2).trans rfl
                  have hfz85_0 := blk_frozen BK256.out 0
                  have hfz85_1 := blk_frozen BK256.out 1
                  have hfz85_2 := blk_frozen BK256.out 2
                  go_wp2_with (first | ((with_reducible refine gate_callee (f := 24) rfl ?_); refine gl (some 81) Try.func24 #[.agg #[.slice Ao26 t266.length co26, .string t254, .int .i64 t255], .int .i64 1] ?_; (with_reducible refine (laws_heldFedOut.calls kj62 _ _ t266 t254 t255 1 t278 _ ?side1 ?side2 A76.out).mono ?_); (case side1 => repeat (first | exact (Kd.R_reads' HO_257000.out).2.2 | (with_reducible refine Kd.C_alloc ?_ _) | (with_reducible refine Kd.C_drewN ?_ _) | (with_reducible refine Kd.C_drew ?_))); (case side2 => exact (Kd.R_reads' HO_257000.out).2.1); rintro e w86 ⟨rfl, hb⟩; refine ⟨_, rfl, ?_⟩; have n0_ := am (Kd.R_below (by (with_reducible repeat (first | apply Kd.R_alloc | apply Kd.R_drewN | apply Kd.R_drew)); exact HO_248000.out) hb); have n1_ := am (Kd.R_below (by (with_reducible repeat (first | apply Kd.R_alloc | apply Kd.R_drewN | apply Kd.R_drew)); exact HO_257000.out) hb); have n2_ := am (Kd.R_below (by (with_reducible repeat (first | apply Kd.R_alloc | apply Kd.R_drewN | apply Kd.R_drew)); exact HO_277000.out) hb); have n3_ := am (blk_below (g := gb247) (o := .cells #[.slice Ao20 t242.length co20, .string t245, .int .i64 t246] 39 (0, 0)) (pk BK247.out) hb); have n4_ := am (blk_below (g := gb256) (o := .cells #[.slice Ao26 t266.length co26, .string t254, .int .i64 t255] 39 (0, 0)) (pk BK256.out) hb); have n5_ := am (blk_below (g := gb276) (o := .cells #[.slice Ao68 t271.length co68, .string t274, .int .i64 t275] 39 (0, 0)) (pk BK276.out) hb); have n6_ := am (below_step (by repeat (first | (with_reducible first | exact HB.out | apply below_alloc | apply pw_below_drewN | apply below_drew1 | refine below_set ?_ GE247.out | refine below_set ?_ GE256.out | refine below_set ?_ GE276.out) | exact HB.out)) hb); clear HO_248000; clear HO_257000; clear HO_277000; clear BK247; clear BK256; clear BK276; clear HB; have HO_248000 := n0_; have HO_257000 := n1_; have HO_277000 := n2_; have BK247 := n3_; have BK256 := n4_; have BK276 := n5_; have HB := n6_; clear n0_ n1_ n2_ n3_ n4_ n5_ n6_; (try clear hb); (try clear hb2); (try clear hk); (try clear hi)))
                  go_ret
                  exact ⟨by first | rfl | (simp [errW_none, errW_some] <;> rfl) | (simp [*, errW_none, errW_some] <;> rfl), by repeat (first | (with_reducible first | exact HB.out | apply below_alloc | apply pw_below_drewN | apply below_drew1 | refine below_set ?_ GE247.out | refine below_set ?_ GE256.out | refine below_set ?_ GE276.out) | exact HB.out)⟩
                 ·rw [if_neg c82] at H
                  have c82b0 : (t278 == t265) = false := beq_eq_false_iff_ne.mpr c82
                  have c82b1 : (t278 != t265) = true := bne_iff_ne.mpr c82
                  obtain rfl := Option.some.inj H
                  have hnb87 := NB256_247.out
                  have hnc87 := NB247_256.out
                  have hnb88 := NB256_276.out
                  have hnc88 := NB276_256.out
                  have hcz89_0 : wc.cell? ⟨gb256, 0, none⟩ = some (.slice Ao26 t266.length co26) := (blk_cell BK256.out 0).trans rfl
                  have hcz89_1 : wc.cell? ⟨gb256, 1, none⟩ = some (.string t254) := (blk_cell BK256.out 1).trans rfl
                  have hcz89_2 : wc.cell? ⟨gb256, 2, none⟩ = some (.int .i64 t255) := (blk_cell BK256.out 2).trans rfl
                  have hfz89_0 := blk_frozen BK256.out 0
                  have hfz89_1 := blk_frozen BK256.out 1
                  have hfz89_2 := blk_frozen BK256.out 2
                  go_wp2_with (first | ((with_reducible refine gate_callee (f := 24) rfl ?_); refine gl (some 81) Try.func24 #[.agg #[.slice Ao26 t266.length co26, .string t254, .int .i64 t255], .int .i64 1] ?_; (with_reducible refine (laws_heldFedOut.calls kj62 _ _ t266 t254 t255 1 t278 _ ?side1 ?side2 A76.out).mono ?_); (case side1 => repeat (first | exact (Kd.R_reads' HO_257000.out).2.2 | (with_reducible refine Kd.C_alloc ?_ _) | (with_reducible refine Kd.C_drewN ?_ _) | (with_reducible refine Kd.C_drew ?_))); (case side2 => exact (Kd.R_reads' HO_257000.out).2.1); rintro e w90 ⟨rfl, hb⟩; refine ⟨_, rfl, ?_⟩; have n0_ := am (Kd.R_below (by (with_reducible repeat (first | apply Kd.R_alloc | apply Kd.R_drewN | apply Kd.R_drew)); exact HO_248000.out) hb); have n1_ := am (Kd.R_below (by (with_reducible repeat (first | apply Kd.R_alloc | apply Kd.R_drewN | apply Kd.R_drew)); exact HO_257000.out) hb); have n2_ := am (Kd.R_below (by (with_reducible repeat (first | apply Kd.R_alloc | apply Kd.R_drewN | apply Kd.R_drew)); exact HO_277000.out) hb); have n3_ := am (blk_below (g := gb247) (o := .cells #[.slice Ao20 t242.length co20, .string t245, .int .i64 t246] 39 (0, 0)) (pk BK247.out) hb); have n4_ := am (blk_below (g := gb256) (o := .cells #[.slice Ao26 t266.length co26, .string t254, .int .i64 t255] 39 (0, 0)) (pk BK256.out) hb); have n5_ := am (blk_below (g := gb276) (o := .cells #[.slice Ao68 t271.length co68, .string t274, .int .i64 t275] 39 (0, 0)) (pk BK276.out) hb); have n6_ := am (below_step (by repeat (first | (with_reducible first | exact HB.out | apply below_alloc | apply pw_below_drewN | apply below_drew1 | refine below_set ?_ GE247.out | refine below_set ?_ GE256.out | refine below_set ?_ GE276.out) | exact HB.out)) hb); clear HO_248000; clear HO_257000; clear HO_277000; clear BK247; clear BK256; clear BK276; clear HB; have HO_248000 := n0_; have HO_257000 := n1_; have HO_277000 := n2_; have BK247 := n3_; have BK256 := n4_; have BK276 := n5_; have HB := n6_; clear n0_ n1_ n2_ n3_ n4_ n5_ n6_; (try clear hb); (try clear hb2); (try clear hk); (try clear hi)))
                  go_ret
                  exact ⟨by first | rfl | (simp [errW_none, errW_some] <;> rfl) | (simp [*, errW_none, errW_some] <;> rfl), by repeat (first | (with_reducible first | exact HB.out | apply below_alloc | apply pw_below_drewN | apply below_drew1 | refine below_set ?_ GE247.out | refine below_set ?_ GE256.out | refine below_set ?_ GE276.out) | exact HB.out)⟩
             ·rw [if_neg c59] at H
              have c59b0 : (t267 == t265) = false := beq_eq_false_iff_ne.mpr c59
              have c59b1 : (t267 != t265) = true := bne_iff_ne.mpr c59
              obtain rfl := Option.some.inj H
              go_wp2
              go_ret
              exact ⟨by first | rfl | (simp [errW_none, errW_some] <;> rfl) | (simp [*, errW_none, errW_some] <;> rfl), by repeat (first | (with_reducible first | exact HB.out | apply below_alloc | apply pw_below_drewN | apply below_drew1 | refine below_set ?_ GE247.out | refine below_set ?_ GE256.out) | exact HB.out)⟩

/-- THE ONE PURE STATEMENT of laws_FnExactKeyFeed. -/
def laws_FnExactKeyFeed.Pure : Prop := ∀ (l0 : List (S96)) (a1 : Int) (a2 : ByteArray) (a3 : Bool), (l0.length ≤ maxLen ∧ ∀ y0_ ∈ l0, ((Lit.int .i64 y0_.f0).wf = true ∧ y0_.f1.size ≤ maxLen ∧ y0_.f2.size ≤ maxLen)) → (Lit.int .i64 a1).wf = true → a2.size ≤ maxLen → ∃ k, laws_FnExactKeyFeed.f k l0 a1 a2 a3 = some true

end Go.Proofs.Ytgkgicmobpnefaa.PFnExactKeyFeed
