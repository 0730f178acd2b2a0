-- Written by xprint.py (this claim's own program, over the kit's printer); Lean checks it.
import Derived.Test.YtegadjijonlmcaaPFnExactBufMovex0
import Derived.Test.YtegadjijonlmcaaPFnExactBufMovex1
import Derived.Test.YtegadjijonlmcaaPFnExactBufMovex4
import Derived.Test.YtegadjijonlmcaaPFnExactBufMovex9
import Derived.Test.YtegadjijonlmcaaPFnExactBufMovex10
namespace Go.Proofs.Ytegadjijonlmcaa.PFnExactBufMove
open Go.RowKit Go.Proofs.YtegadjijonlmcaaW.PrintWords Go.Proofs.YtegadjijonlmcaaW.PrintLast Go.Proofs.YtegadjijonlmcaaW.PrintMore
attribute [local go_sem] max2_int min2_int max_two min_two max_three min_three max_four min_four   -- for this text's walks alone
set_option linter.unusedVariables false
set_option linter.unusedSimpArgs false   -- squeezed

/-! ### laws_FnExactBufMove: function 3 -/
mutual
def laws_FnExactBufMove.j0 : Nat → Int → Int → Int → List Int → Int → Int → List Int → Int → Int → List Int → Int → Int → List Int → Int → Int → Option (Bool)
 | 0, _, _, _, _, _, _, _, _, _, _, _, _, _, _, _ => none
 | k + 1, x1, x2, x3, x282000, x282001, x282002, x294000, x294001, x294002, x300000, x300001, x300002, x306000, x306001, x306002 => (laws_toBuf.f k x282000 x282001 x282002).bind fun bt307 => ((laws_eqBuf.f k x300000 x300001 x300002 bt307.1 bt307.2.1 bt307.2.2).bind fun t312 => (if t312 = true then (laws_FnExactBufMove.j1 k x1 x2 x3 x282000 x282001 x282002 x294000 x294001 x294002 x300000 x300001 x300002 x306000 x306001 x306002) else (some false)))
def laws_FnExactBufMove.j1 : Nat → Int → Int → Int → List Int → Int → Int → List Int → Int → Int → List Int → Int → Int → List Int → Int → Int → Option (Bool)
 | 0, _, _, _, _, _, _, _, _, _, _, _, _, _, _, _ => none
 | k + 1, x1, x2, x3, x282000, x282001, x282002, x294000, x294001, x294002, x300000, x300001, x300002, x306000, x306001, x306002 => (laws_markBuf.f k x300000 x300001 x300002 1).bind fun bt313 => (if bt313.1 < 0 then (laws_FnExactBufMove.j2 k x1 x2 x3 true x282000 x282001 x282002 x294000 x294001 x294002 x306000 x306001 x306002) else ((laws_eqBuf.f k x306000 x306001 x306002 x294000 x294001 x294002).bind fun t315 => (laws_FnExactBufMove.j2 k x1 x2 x3 (!t315) x282000 x282001 x282002 x294000 x294001 x294002 x306000 x306001 x306002)))
def laws_FnExactBufMove.j2 : Nat → Int → Int → Int → Bool → List Int → Int → Int → List Int → Int → Int → List Int → Int → Int → Option (Bool)
 | 0, _, _, _, _, _, _, _, _, _, _, _, _, _ => none
 | k + 1, x1, x2, x3, x54, x282000, x282001, x282002, x294000, x294001, x294002, x306000, x306001, x306002 => if x54 = true then (some false) else (laws_FnExactBufMove.j3 k x1 x2 x3 x282000 x282001 x282002 x294000 x294001 x294002 x306000 x306001 x306002)
def laws_FnExactBufMove.j3 : Nat → Int → Int → Int → List Int → Int → Int → List Int → Int → Int → List Int → Int → Int → Option (Bool)
 | 0, _, _, _, _, _, _, _, _, _, _, _, _ => none
 | k + 1, x1, x2, x3, x282000, x282001, x282002, x294000, x294001, x294002, x306000, x306001, x306002 => (laws_markBuf.f k x306000 x306001 x306002 1).bind fun bt316 => ((laws_heldBuf.f k bt316.2 x306001 x306002 1).bind fun t318 => (if t318 < 0 then (some false) else (laws_FnExactBufMove.j4 k x1 x2 x3 bt316.1 t318 x282000 x282001 x282002 x294000 x294001 x294002 bt316.2 x306001 x306002)))
def laws_FnExactBufMove.j4 : Nat → Int → Int → Int → Int → Int → List Int → Int → Int → List Int → Int → Int → List Int → Int → Int → Option (Bool)
 | 0, _, _, _, _, _, _, _, _, _, _, _, _, _, _ => none
 | k + 1, x1, x2, x3, x14, x15, x282000, x282001, x282002, x294000, x294001, x294002, x306000, x306001, x306002 => if x15 = x14 then ((laws_toBuf.f k x282000 x282001 x282002).bind fun bt319 => ((impl_BufMove.f k bt319.1 bt319.2.1 bt319.2.2 x1 x2 x3).bind fun bt324 => ((laws_eqBuf.f k bt324.1 bt324.2.1 bt324.2.2 x294000 x294001 x294002).bind fun t330 => (if t330 = true then (laws_FnExactBufMove.j5 k x14 x306000 x306001 x306002) else (some false))))) else (some false)
def laws_FnExactBufMove.j5 : Nat → Int → List Int → Int → Int → Option (Bool)
 | 0, _, _, _, _ => none
 | k + 1, x14, x306000, x306001, x306002 => (laws_heldBuf.f k x306000 x306001 x306002 1).bind fun t331 => (if t331 < 0 then (some false) else (if t331 = x14 then (some true) else (some false)))
end
def laws_FnExactBufMove.f (k : Nat) (l0_0 : List Int) (a0_1 : Int) (a0_2 : Int) (a1 : Int) (a2 : Int) (a3 : Int) : Option (Bool) := (laws_szBuf.f l0_0 a0_1 a0_2 1048576).bind fun t282 => (if t282 < 0 then (some true) else ((laws_toBuf.f k l0_0 a0_1 a0_2).bind fun bt283 => ((spec_BufMove.f k bt283.1 bt283.2.1 bt283.2.2 a1 a2 a3).bind fun bt288 => ((laws_toBuf.f k l0_0 a0_1 a0_2).bind fun bt294 => ((impl_BufMove.f k bt294.1 bt294.2.1 bt294.2.2 a1 a2 a3).bind fun bt300 => ((laws_eqBuf.f k bt300.1 bt300.2.1 bt300.2.2 bt288.1 bt288.2.1 bt288.2.2).bind fun t306 => (if t306 = true then (laws_FnExactBufMove.j0 k a1 a2 a3 l0_0 a0_1 a0_2 bt288.1 bt288.2.1 bt288.2.2 bt294.1 bt294.2.1 bt294.2.2 bt300.1 bt300.2.1 bt300.2.2) else (some false))))))))
theorem laws_FnExactBufMove.mono_l : ∀ k, (∀ y0 y1 y2 y3 y4 y5 y6 y7 y8 y9 y10 y11 y12 y13 y14, LeO (laws_FnExactBufMove.j0 k y0 y1 y2 y3 y4 y5 y6 y7 y8 y9 y10 y11 y12 y13 y14) (laws_FnExactBufMove.j0 (k + 1) y0 y1 y2 y3 y4 y5 y6 y7 y8 y9 y10 y11 y12 y13 y14)) ∧ (∀ y0 y1 y2 y3 y4 y5 y6 y7 y8 y9 y10 y11 y12 y13 y14, LeO (laws_FnExactBufMove.j1 k y0 y1 y2 y3 y4 y5 y6 y7 y8 y9 y10 y11 y12 y13 y14) (laws_FnExactBufMove.j1 (k + 1) y0 y1 y2 y3 y4 y5 y6 y7 y8 y9 y10 y11 y12 y13 y14)) ∧ (∀ y0 y1 y2 y3 y4 y5 y6 y7 y8 y9 y10 y11 y12, LeO (laws_FnExactBufMove.j2 k y0 y1 y2 y3 y4 y5 y6 y7 y8 y9 y10 y11 y12) (laws_FnExactBufMove.j2 (k + 1) y0 y1 y2 y3 y4 y5 y6 y7 y8 y9 y10 y11 y12)) ∧ (∀ y0 y1 y2 y3 y4 y5 y6 y7 y8 y9 y10 y11, LeO (laws_FnExactBufMove.j3 k y0 y1 y2 y3 y4 y5 y6 y7 y8 y9 y10 y11) (laws_FnExactBufMove.j3 (k + 1) y0 y1 y2 y3 y4 y5 y6 y7 y8 y9 y10 y11)) ∧ (∀ y0 y1 y2 y3 y4 y5 y6 y7 y8 y9 y10 y11 y12 y13, LeO (laws_FnExactBufMove.j4 k y0 y1 y2 y3 y4 y5 y6 y7 y8 y9 y10 y11 y12 y13) (laws_FnExactBufMove.j4 (k + 1) y0 y1 y2 y3 y4 y5 y6 y7 y8 y9 y10 y11 y12 y13)) ∧ (∀ y0 y1 y2 y3, LeO (laws_FnExactBufMove.j5 k y0 y1 y2 y3) (laws_FnExactBufMove.j5 (k + 1) y0 y1 y2 y3))
 | 0 => ⟨fun _ _ _ _ _ _ _ _ _ _ _ _ _ _ _ r h => by simp [laws_FnExactBufMove.j0] at h, fun _ _ _ _ _ _ _ _ _ _ _ _ _ _ _ r h => by simp [laws_FnExactBufMove.j1] at h, fun _ _ _ _ _ _ _ _ _ _ _ _ _ r h => by simp [laws_FnExactBufMove.j2] at h, fun _ _ _ _ _ _ _ _ _ _ _ _ r h => by simp [laws_FnExactBufMove.j3] at h, fun _ _ _ _ _ _ _ _ _ _ _ _ _ _ r h => by simp [laws_FnExactBufMove.j4] at h, fun _ _ _ _ r h => by simp [laws_FnExactBufMove.j5] at h⟩
 | k + 1 => by
  obtain ⟨ih0, ih1, ih2, ih3, ih4, ih5⟩ := laws_FnExactBufMove.mono_l k
  refine ⟨?_, ?_, ?_, ?_, ?_, ?_⟩
  ·intro y0 y1 y2 y3 y4 y5 y6 y7 y8 y9 y10 y11 y12 y13 y14
   unfold laws_FnExactBufMove.j0
   repeat' first
   | (with_reducible exact ih0 _ _ _ _ _ _ _ _ _ _ _ _ _ _ _)
   | (with_reducible exact ih1 _ _ _ _ _ _ _ _ _ _ _ _ _ _ _)
   | (with_reducible exact ih2 _ _ _ _ _ _ _ _ _ _ _ _ _)
   | (with_reducible exact ih3 _ _ _ _ _ _ _ _ _ _ _ _)
   | (with_reducible exact ih4 _ _ _ _ _ _ _ _ _ _ _ _ _ _)
   | (with_reducible exact ih5 _ _ _ _)
   | (with_reducible exact impl_BufMove.mono _ _ _ _ _ _ _)
   | (with_reducible exact laws_eqBuf.mono _ _ _ _ _ _ _)
   | (with_reducible exact laws_heldBuf.mono _ _ _ _ _)
   | (with_reducible exact laws_markBuf.mono _ _ _ _ _)
   | (with_reducible exact laws_toBuf.mono _ _ _ _)
   | (with_reducible exact spec_BufMove.mono _ _ _ _ _ _ _)
   | (with_reducible exact LeO.refl _)
   | (with_reducible exact LeO.none _)
   | (with_reducible refine LeO.ite ?_ ?_)
   | (with_reducible refine LeO.bind ?_ (fun _ => ?_))
   | exact ih0 _ _ _ _ _ _ _ _ _ _ _ _ _ _ _
   | exact ih1 _ _ _ _ _ _ _ _ _ _ _ _ _ _ _
   | exact ih2 _ _ _ _ _ _ _ _ _ _ _ _ _
   | exact ih3 _ _ _ _ _ _ _ _ _ _ _ _
   | exact ih4 _ _ _ _ _ _ _ _ _ _ _ _ _ _
   | exact ih5 _ _ _ _
   | exact impl_BufMove.mono _ _ _ _ _ _ _
   | exact laws_eqBuf.mono _ _ _ _ _ _ _
   | exact laws_heldBuf.mono _ _ _ _ _
   | exact laws_markBuf.mono _ _ _ _ _
   | exact laws_toBuf.mono _ _ _ _
   | exact spec_BufMove.mono _ _ _ _ _ _ _
   | exact LeO.none _
   | refine LeO.ite ?_ ?_
   | refine LeO.bind ?_ (fun _ => ?_)
  ·intro y0 y1 y2 y3 y4 y5 y6 y7 y8 y9 y10 y11 y12 y13 y14
   unfold laws_FnExactBufMove.j1
   repeat' first
   | (with_reducible exact ih0 _ _ _ _ _ _ _ _ _ _ _ _ _ _ _)
   | (with_reducible exact ih1 _ _ _ _ _ _ _ _ _ _ _ _ _ _ _)
   | (with_reducible exact ih2 _ _ _ _ _ _ _ _ _ _ _ _ _)
   | (with_reducible exact ih3 _ _ _ _ _ _ _ _ _ _ _ _)
   | (with_reducible exact ih4 _ _ _ _ _ _ _ _ _ _ _ _ _ _)
   | (with_reducible exact ih5 _ _ _ _)
   | (with_reducible exact impl_BufMove.mono _ _ _ _ _ _ _)
   | (with_reducible exact laws_eqBuf.mono _ _ _ _ _ _ _)
   | (with_reducible exact laws_heldBuf.mono _ _ _ _ _)
   | (with_reducible exact laws_markBuf.mono _ _ _ _ _)
   | (with_reducible exact laws_toBuf.mono _ _ _ _)
   | (with_reducible exact spec_BufMove.mono _ _ _ _ _ _ _)
   | (with_reducible exact LeO.refl _)
   | (with_reducible exact LeO.none _)
   | (with_reducible refine LeO.ite ?_ ?_)
   | (with_reducible refine LeO.bind ?_ (fun _ => ?_))
   | exact ih0 _ _ _ _ _ _ _ _ _ _ _ _ _ _ _
   | exact ih1 _ _ _ _ _ _ _ _ _ _ _ _ _ _ _
   | exact ih2 _ _ _ _ _ _ _ _ _ _ _ _ _
   | exact ih3 _ _ _ _ _ _ _ _ _ _ _ _
   | exact ih4 _ _ _ _ _ _ _ _ _ _ _ _ _ _
   | exact ih5 _ _ _ _
   | exact impl_BufMove.mono _ _ _ _ _ _ _
   | exact laws_eqBuf.mono _ _ _ _ _ _ _
   | exact laws_heldBuf.mono _ _ _ _ _
   | exact laws_markBuf.mono _ _ _ _ _
   | exact laws_toBuf.mono _ _ _ _
   | exact spec_BufMove.mono _ _ _ _ _ _ _
   | exact LeO.none _
   | refine LeO.ite ?_ ?_
   | refine LeO.bind ?_ (fun _ => ?_)
  ·intro y0 y1 y2 y3 y4 y5 y6 y7 y8 y9 y10 y11 y12
   unfold laws_FnExactBufMove.j2
   repeat' first
   | (with_reducible exact ih0 _ _ _ _ _ _ _ _ _ _ _ _ _ _ _)
   | (with_reducible exact ih1 _ _ _ _ _ _ _ _ _ _ _ _ _ _ _)
   | (with_reducible exact ih2 _ _ _ _ _ _ _ _ _ _ _ _ _)
   | (with_reducible exact ih3 _ _ _ _ _ _ _ _ _ _ _ _)
   | (with_reducible exact ih4 _ _ _ _ _ _ _ _ _ _ _ _ _ _)
   | (with_reducible exact ih5 _ _ _ _)
   | (with_reducible exact impl_BufMove.mono _ _ _ _ _ _ _)
   | (with_reducible exact laws_eqBuf.mono _ _ _ _ _ _ _)
   | (with_reducible exact laws_heldBuf.mono _ _ _ _ _)
   | (with_reducible exact laws_markBuf.mono _ _ _ _ _)
   | (with_reducible exact laws_toBuf.mono _ _ _ _)
   | (with_reducible exact spec_BufMove.mono _ _ _ _ _ _ _)
   | (with_reducible exact LeO.refl _)
   | (with_reducible exact LeO.none _)
   | (with_reducible refine LeO.ite ?_ ?_)
   | (with_reducible refine LeO.bind ?_ (fun _ => ?_))
   | exact ih0 _ _ _ _ _ _ _ _ _ _ _ _ _ _ _
   | exact ih1 _ _ _ _ _ _ _ _ _ _ _ _ _ _ _
   | exact ih2 _ _ _ _ _ _ _ _ _ _ _ _ _
   | exact ih3 _ _ _ _ _ _ _ _ _ _ _ _
   | exact ih4 _ _ _ _ _ _ _ _ _ _ _ _ _ _
   | exact ih5 _ _ _ _
   | exact impl_BufMove.mono _ _ _ _ _ _ _
   | exact laws_eqBuf.mono _ _ _ _ _ _ _
   | exact laws_heldBuf.mono _ _ _ _ _
   | exact laws_markBuf.mono _ _ _ _ _
   | exact laws_toBuf.mono _ _ _ _
   | exact spec_BufMove.mono _ _ _ _ _ _ _
   | exact LeO.none _
   | refine LeO.ite ?_ ?_
   | refine LeO.bind ?_ (fun _ => ?_)
  ·intro y0 y1 y2 y3 y4 y5 y6 y7 y8 y9 y10 y11
   unfold laws_FnExactBufMove.j3
   repeat' first
   | (with_reducible exact ih0 _ _ _ _ _ _ _ _ _ _ _ _ _ _ _)
   | (with_reducible exact ih1 _ _ _ _ _ _ _ _ _ _ _ _ _ _ _)
   | (with_reducible exact ih2 _ _ _ _ _ _ _ _ _ _ _ _ _)
   | (with_reducible exact ih3 _ _ _ _ _ _ _ _ _ _ _ _)
   | (with_reducible exact ih4 _ _ _ _ _ _ _ _ _ _ _ _ _ _)
   | (with_reducible exact ih5 _ _ _ _)
   | (with_reducible exact impl_BufMove.mono _ _ _ _ _ _ _)
   | (with_reducible exact laws_eqBuf.mono _ _ _ _ _ _ _)
   | (with_reducible exact laws_heldBuf.mono _ _ _ _ _)
   | (with_reducible exact laws_markBuf.mono _ _ _ _ _)
   | (with_reducible exact laws_toBuf.mono _ _ _ _)
   | (with_reducible exact spec_BufMove.mono _ _ _ _ _ _ _)
   | (with_reducible exact LeO.refl _)
   | (with_reducible exact LeO.none _)
   | (with_reducible refine LeO.ite ?_ ?_)
   | (with_reducible refine LeO.bind ?_ (fun _ => ?_))
   | exact ih0 _ _ _ _ _ _ _ _ _ _ _ _ _ _ _
   | exact ih1 _ _ _ _ _ _ _ _ _ _ _ _ _ _ _
   | exact ih2 _ _ _ _ _ _ _ _ _ _ _ _ _
   | exact ih3 _ _ _ _ _ _ _ _ _ _ _ _
   | exact ih4 _ _ _ _ _ _ _ _ _ _ _ _ _ _
   | exact ih5 _ _ _ _
   | exact impl_BufMove.mono _ _ _ _ _ _ _
   | exact laws_eqBuf.mono _ _ _ _ _ _ _
   | exact laws_heldBuf.mono _ _ _ _ _
   | exact laws_markBuf.mono _ _ _ _ _
   | exact laws_toBuf.mono _ _ _ _
   | exact spec_BufMove.mono _ _ _ _ _ _ _
   | exact LeO.none _
   | refine LeO.ite ?_ ?_
   | refine LeO.bind ?_ (fun _ => ?_)
  ·intro y0 y1 y2 y3 y4 y5 y6 y7 y8 y9 y10 y11 y12 y13
   unfold laws_FnExactBufMove.j4
   repeat' first
   | (with_reducible exact ih0 _ _ _ _ _ _ _ _ _ _ _ _ _ _ _)
   | (with_reducible exact ih1 _ _ _ _ _ _ _ _ _ _ _ _ _ _ _)
   | (with_reducible exact ih2 _ _ _ _ _ _ _ _ _ _ _ _ _)
   | (with_reducible exact ih3 _ _ _ _ _ _ _ _ _ _ _ _)
   | (with_reducible exact ih4 _ _ _ _ _ _ _ _ _ _ _ _ _ _)
   | (with_reducible exact ih5 _ _ _ _)
   | (with_reducible exact impl_BufMove.mono _ _ _ _ _ _ _)
   | (with_reducible exact laws_eqBuf.mono _ _ _ _ _ _ _)
   | (with_reducible exact laws_heldBuf.mono _ _ _ _ _)
   | (with_reducible exact laws_markBuf.mono _ _ _ _ _)
   | (with_reducible exact laws_toBuf.mono _ _ _ _)
   | (with_reducible exact spec_BufMove.mono _ _ _ _ _ _ _)
   | (with_reducible exact LeO.refl _)
   | (with_reducible exact LeO.none _)
   | (with_reducible refine LeO.ite ?_ ?_)
   | (with_reducible refine LeO.bind ?_ (fun _ => ?_))
   | exact ih0 _ _ _ _ _ _ _ _ _ _ _ _ _ _ _
   | exact ih1 _ _ _ _ _ _ _ _ _ _ _ _ _ _ _
   | exact ih2 _ _ _ _ _ _ _ _ _ _ _ _ _
   | exact ih3 _ _ _ _ _ _ _ _ _ _ _ _
   | exact ih4 _ _ _ _ _ _ _ _ _ _ _ _ _ _
   | exact ih5 _ _ _ _
   | exact impl_BufMove.mono _ _ _ _ _ _ _
   | exact laws_eqBuf.mono _ _ _ _ _ _ _
   | exact laws_heldBuf.mono _ _ _ _ _
   | exact laws_markBuf.mono _ _ _ _ _
   | exact laws_toBuf.mono _ _ _ _
   | exact spec_BufMove.mono _ _ _ _ _ _ _
   | exact LeO.none _
   | refine LeO.ite ?_ ?_
   | refine LeO.bind ?_ (fun _ => ?_)
  ·intro y0 y1 y2 y3
   unfold laws_FnExactBufMove.j5
   repeat' first
   | (with_reducible exact ih0 _ _ _ _ _ _ _ _ _ _ _ _ _ _ _)
   | (with_reducible exact ih1 _ _ _ _ _ _ _ _ _ _ _ _ _ _ _)
   | (with_reducible exact ih2 _ _ _ _ _ _ _ _ _ _ _ _ _)
   | (with_reducible exact ih3 _ _ _ _ _ _ _ _ _ _ _ _)
   | (with_reducible exact ih4 _ _ _ _ _ _ _ _ _ _ _ _ _ _)
   | (with_reducible exact ih5 _ _ _ _)
   | (with_reducible exact impl_BufMove.mono _ _ _ _ _ _ _)
   | (with_reducible exact laws_eqBuf.mono _ _ _ _ _ _ _)
   | (with_reducible exact laws_heldBuf.mono _ _ _ _ _)
   | (with_reducible exact laws_markBuf.mono _ _ _ _ _)
   | (with_reducible exact laws_toBuf.mono _ _ _ _)
   | (with_reducible exact spec_BufMove.mono _ _ _ _ _ _ _)
   | (with_reducible exact LeO.refl _)
   | (with_reducible exact LeO.none _)
   | (with_reducible refine LeO.ite ?_ ?_)
   | (with_reducible refine LeO.bind ?_ (fun _ => ?_))
   | exact ih0 _ _ _ _ _ _ _ _ _ _ _ _ _ _ _
   | exact ih1 _ _ _ _ _ _ _ _ _ _ _ _ _ _ _
   | exact ih2 _ _ _ _ _ _ _ _ _ _ _ _ _
   | exact ih3 _ _ _ _ _ _ _ _ _ _ _ _
   | exact ih4 _ _ _ _ _ _ _ _ _ _ _ _ _ _
   | exact ih5 _ _ _ _
   | exact impl_BufMove.mono _ _ _ _ _ _ _
   | exact laws_eqBuf.mono _ _ _ _ _ _ _
   | exact laws_heldBuf.mono _ _ _ _ _
   | exact laws_markBuf.mono _ _ _ _ _
   | exact laws_toBuf.mono _ _ _ _
   | exact spec_BufMove.mono _ _ _ _ _ _ _
   | exact LeO.none _
   | refine LeO.ite ?_ ?_
   | refine LeO.bind ?_ (fun _ => ?_)
theorem laws_FnExactBufMove.mono : ∀ a0 a1 a2 a3 a4 a5 k, LeO (laws_FnExactBufMove.f k a0 a1 a2 a3 a4 a5) (laws_FnExactBufMove.f (k + 1) a0 a1 a2 a3 a4 a5) := by
 intro a0 a1 a2 a3 a4 a5 k
 obtain ⟨ih0, ih1, ih2, ih3, ih4, ih5⟩ := laws_FnExactBufMove.mono_l k
 unfold laws_FnExactBufMove.f
 repeat' first
   | (with_reducible exact ih0 _ _ _ _ _ _ _ _ _ _ _ _ _ _ _)
   | (with_reducible exact ih1 _ _ _ _ _ _ _ _ _ _ _ _ _ _ _)
   | (with_reducible exact ih2 _ _ _ _ _ _ _ _ _ _ _ _ _)
   | (with_reducible exact ih3 _ _ _ _ _ _ _ _ _ _ _ _)
   | (with_reducible exact ih4 _ _ _ _ _ _ _ _ _ _ _ _ _ _)
   | (with_reducible exact ih5 _ _ _ _)
   | (with_reducible exact impl_BufMove.mono _ _ _ _ _ _ _)
   | (with_reducible exact laws_eqBuf.mono _ _ _ _ _ _ _)
   | (with_reducible exact laws_heldBuf.mono _ _ _ _ _)
   | (with_reducible exact laws_markBuf.mono _ _ _ _ _)
   | (with_reducible exact laws_toBuf.mono _ _ _ _)
   | (with_reducible exact spec_BufMove.mono _ _ _ _ _ _ _)
   | (with_reducible exact LeO.refl _)
   | (with_reducible exact LeO.none _)
   | (with_reducible refine LeO.ite ?_ ?_)
   | (with_reducible refine LeO.bind ?_ (fun _ => ?_))
   | exact ih0 _ _ _ _ _ _ _ _ _ _ _ _ _ _ _
   | exact ih1 _ _ _ _ _ _ _ _ _ _ _ _ _ _ _
   | exact ih2 _ _ _ _ _ _ _ _ _ _ _ _ _
   | exact ih3 _ _ _ _ _ _ _ _ _ _ _ _
   | exact ih4 _ _ _ _ _ _ _ _ _ _ _ _ _ _
   | exact ih5 _ _ _ _
   | exact impl_BufMove.mono _ _ _ _ _ _ _
   | exact laws_eqBuf.mono _ _ _ _ _ _ _
   | exact laws_heldBuf.mono _ _ _ _ _
   | exact laws_markBuf.mono _ _ _ _ _
   | exact laws_toBuf.mono _ _ _ _
   | exact spec_BufMove.mono _ _ _ _ _ _ _
   | exact LeO.none _
   | refine LeO.ite ?_ ?_
   | refine LeO.bind ?_ (fun _ => ?_)
set_option maxHeartbeats 8000000 in
set_option maxRecDepth 100000 in
theorem laws_FnExactBufMove.calls (k : Nat) (A0_0 : Option Addr) (c0_0 : Nat) (l0_0 : List Int) (a0_1 : Int) (a0_2 : Int) (a1 : Int) (a2 : Int) (a3 : Int) (r : Bool) (w : World) (hr0_0 : Kd.C (Kd.int .i64) w A0_0 l0_0.length l0_0) (hc0_0 : l0_0.length ≤ c0_0) (h : laws_FnExactBufMove.f k l0_0 a0_1 a0_2 a1 a2 a3 = some r) :
  Calls Try.prog 3 #[.agg #[.slice A0_0 l0_0.length c0_0, .int .i64 a0_1, .int .i64 a0_2], .int .i64 a1, .int .i64 a2, .int .i64 a3] w fun e w' => e = .returned (.bool r) ∧ Below w.heap.size w w' := by
 have hu24 := Try.underlying24
 have hu26 := Try.underlying26
 have HR0_0 := am hr0_0
 have HC0_0 := am hc0_0
 clear hr0_0 hc0_0
 have HB := am (Below.refl w.heap.size w)
 have H : ((laws_szBuf.f l0_0 a0_1 a0_2 1048576).bind fun t282 => (if t282 < 0 then (some true) else ((laws_toBuf.f k l0_0 a0_1 a0_2).bind fun bt283 => ((spec_BufMove.f k bt283.1 bt283.2.1 bt283.2.2 a1 a2 a3).bind fun bt288 => ((laws_toBuf.f k l0_0 a0_1 a0_2).bind fun bt294 => ((impl_BufMove.f k bt294.1 bt294.2.1 bt294.2.2 a1 a2 a3).bind fun bt300 => ((laws_eqBuf.f k bt300.1 bt300.2.1 bt300.2.2 bt288.1 bt288.2.1 bt288.2.2).bind fun t306 => (if t306 = true then (laws_FnExactBufMove.j0 k a1 a2 a3 l0_0 a0_1 a0_2 bt288.1 bt288.2.1 bt288.2.2 bt294.1 bt294.2.1 bt294.2.2 bt300.1 bt300.2.1 bt300.2.2) else (some false))))))))) = some r := h
 clear h
 replace H := Option.bind_eq_some_iff.mp H
 obtain ⟨t282, A50, H⟩ := H
 replace H : (if t282 < 0 then (some true) else ((laws_toBuf.f k l0_0 a0_1 a0_2).bind fun bt283 => ((spec_BufMove.f k bt283.1 bt283.2.1 bt283.2.2 a1 a2 a3).bind fun bt288 => ((laws_toBuf.f k l0_0 a0_1 a0_2).bind fun bt294 => ((impl_BufMove.f k bt294.1 bt294.2.1 bt294.2.2 a1 a2 a3).bind fun bt300 => ((laws_eqBuf.f k bt300.1 bt300.2.1 bt300.2.2 bt288.1 bt288.2.1 bt288.2.2).bind fun t306 => (if t306 = true then (laws_FnExactBufMove.j0 k a1 a2 a3 l0_0 a0_1 a0_2 bt288.1 bt288.2.1 bt288.2.2 bt294.1 bt294.2.1 bt294.2.2 bt300.1 bt300.2.1 bt300.2.2) else (some false)))))))) = some r := H
 have A5 := Aside0.mk A50
 clear A50
 by_cases c6 : t282 < 0
 ·rw [if_pos c6] at H
  have c6b0 : decide (t282 < 0) = true := decide_eq_true c6
  clear c6
  obtain rfl := Option.some.inj H
  go_enter Try.func3, Try.ntmps3
  go_wp2_with (first | ((with_reducible refine gate_dst (N := 4) rfl ?_); refine box_event ?hg (N := 4) ?hd (cs := #[.slice A0_0 l0_0.length c0_0, .int .i64 a0_1, .int .i64 a0_2]) (t := 24) ?hr ?_; (case hd => rfl); (case hg => rfl); (case hr => first | (go_simp; done) | (go_simp; rfl)); intro gb281 hg w7 hbox hb; have n0_ := am (below_step (bl HB.out) hb); have n1_ := am (hbox); have n2_ := am ((by rw [hg]; exact (below_size (bl HB.out)) : w.heap.size ≤ gb281)); have n3_ := am ((by rw [hg]; exact (below_size (bl HB.out)) : w.heap.size ≤ gb281)); clear HB; have HB := n0_; have BK281 := n1_; have GW281 := n2_; have GE281 := n3_; clear n0_ n1_ n2_ n3_; clear hb hbox hg; have hcz8_0 : w7.cell? ⟨gb281, 0, none⟩ = some (.slice A0_0 l0_0.length c0_0) := (blk_cell BK281.out 0).trans rfl; have hcz8_1 : w7.cell? ⟨gb281, 1, none⟩ = some (.int .i64 a0_1) := (blk_cell BK281.out 1).trans rfl; have hcz8_2 : w7.cell? ⟨gb281, 2, none⟩ = some (.int .i64 a0_2) := (blk_cell BK281.out 2).trans rfl; have hfz8_0 := blk_frozen BK281.out 0; have hfz8_1 := blk_frozen BK281.out 1; have hfz8_2 := blk_frozen BK281.out 2) | ((with_reducible refine gate_callee (f := 9) rfl ?_); refine gl (some 19) Try.func9 #[.agg #[.slice A0_0 l0_0.length c0_0, .int .i64 a0_1, .int .i64 a0_2], .int .i64 1048576] ?_; (with_reducible refine (laws_szBuf.calls _ _ l0_0 a0_1 a0_2 1048576 t282 _ ?side1 ?side2 A5.out).mono ?_); (case side1 => repeat (first | exact (Kd.C_below HR0_0.out HB.out) | (with_reducible refine Kd.C_alloc ?_ _) | (with_reducible refine Kd.C_drewN ?_ _) | (with_reducible refine Kd.C_drew ?_))); (case side2 => exact HC0_0.out); rintro e w9 ⟨rfl, hb⟩; refine ⟨_, rfl, ?_⟩; have n0_ := am (blk_below (g := gb281) (o := .cells #[.slice A0_0 l0_0.length c0_0, .int .i64 a0_1, .int .i64 a0_2] 24 (0, 0)) (pk BK281.out) hb); have n1_ := am (below_step (by repeat (first | (with_reducible first | exact HB.out | apply below_alloc | apply pw_below_drewN | apply below_drew1 | refine below_set ?_ GE281.out) | exact HB.out)) hb); clear BK281; clear HB; have BK281 := n0_; have HB := n1_; clear n0_ n1_; (try clear hb); (try clear hb2); (try clear hk); (try clear hi)))
  go_ret
  exact ⟨by first | rfl | (simp [errW_none, errW_some] <;> rfl) | (simp [*, errW_none, errW_some] <;> rfl), by repeat (first | (with_reducible first | exact HB.out | apply below_alloc | apply pw_below_drewN | apply below_drew1 | refine below_set ?_ GE281.out) | exact HB.out)⟩
 ·rw [if_neg c6] at H
  have c6b0 : decide (t282 < 0) = false := decide_eq_false c6
  clear c6
  replace H := Option.bind_eq_some_iff.mp H
  obtain ⟨⟨t283, t286, t287⟩, A100, H⟩ := H
  replace H : ((spec_BufMove.f k t283 t286 t287 a1 a2 a3).bind fun bt288 => ((laws_toBuf.f k l0_0 a0_1 a0_2).bind fun bt294 => ((impl_BufMove.f k bt294.1 bt294.2.1 bt294.2.2 a1 a2 a3).bind fun bt300 => ((laws_eqBuf.f k bt300.1 bt300.2.1 bt300.2.2 bt288.1 bt288.2.1 bt288.2.2).bind fun t306 => (if t306 = true then (laws_FnExactBufMove.j0 k a1 a2 a3 l0_0 a0_1 a0_2 bt288.1 bt288.2.1 bt288.2.2 bt294.1 bt294.2.1 bt294.2.2 bt300.1 bt300.2.1 bt300.2.2) else (some false)))))) = some r := H
  have A10 := Aside0.mk A100
  clear A100
  replace H := Option.bind_eq_some_iff.mp H
  obtain ⟨⟨t288, t291, t292⟩, A110, H⟩ := H
  replace H : ((laws_toBuf.f k l0_0 a0_1 a0_2).bind fun bt294 => ((impl_BufMove.f k bt294.1 bt294.2.1 bt294.2.2 a1 a2 a3).bind fun bt300 => ((laws_eqBuf.f k bt300.1 bt300.2.1 bt300.2.2 t288 t291 t292).bind fun t306 => (if t306 = true then (laws_FnExactBufMove.j0 k a1 a2 a3 l0_0 a0_1 a0_2 t288 t291 t292 bt294.1 bt294.2.1 bt294.2.2 bt300.1 bt300.2.1 bt300.2.2) else (some false))))) = some r := H
  have A11 := Aside0.mk A110
  clear A110
  replace H := Option.bind_eq_some_iff.mp H
  obtain ⟨⟨t294, t297, t298⟩, A120, H⟩ := H
  replace H : ((impl_BufMove.f k t294 t297 t298 a1 a2 a3).bind fun bt300 => ((laws_eqBuf.f k bt300.1 bt300.2.1 bt300.2.2 t288 t291 t292).bind fun t306 => (if t306 = true then (laws_FnExactBufMove.j0 k a1 a2 a3 l0_0 a0_1 a0_2 t288 t291 t292 t294 t297 t298 bt300.1 bt300.2.1 bt300.2.2) else (some false)))) = some r := H
  have A12 := Aside0.mk A120
  clear A120
  replace H := Option.bind_eq_some_iff.mp H
  obtain ⟨⟨t300, t303, t304⟩, A130, H⟩ := H
  replace H : ((laws_eqBuf.f k t300 t303 t304 t288 t291 t292).bind fun t306 => (if t306 = true then (laws_FnExactBufMove.j0 k a1 a2 a3 l0_0 a0_1 a0_2 t288 t291 t292 t294 t297 t298 t300 t303 t304) else (some false))) = some r := H
  have A13 := Aside0.mk A130
  clear A130
  replace H := Option.bind_eq_some_iff.mp H
  obtain ⟨t306, A140, H⟩ := H
  replace H : (if t306 = true then (laws_FnExactBufMove.j0 k a1 a2 a3 l0_0 a0_1 a0_2 t288 t291 t292 t294 t297 t298 t300 t303 t304) else (some false)) = some r := H
  have A14 := Aside0.mk A140
  clear A140
  have HC15 := Aside0.mk H
  clear H
  go_enter Try.func3, Try.ntmps3
  go_upto_if 38 with (first | ((with_reducible refine gate_dst (N := 4) rfl ?_); refine box_event ?hg (N := 4) ?hd (cs := #[.slice A0_0 l0_0.length c0_0, .int .i64 a0_1, .int .i64 a0_2]) (t := 24) ?hr ?_; (case hd => rfl); (case hg => rfl); (case hr => first | (go_simp; done) | (go_simp; rfl)); intro gb281 hg w16 hbox hb; have n0_ := am (below_step (bl HB.out) hb); have n1_ := am (hbox); have n2_ := am ((by rw [hg]; exact (below_size (bl HB.out)) : w.heap.size ≤ gb281)); have n3_ := am ((by rw [hg]; exact (below_size (bl HB.out)) : w.heap.size ≤ gb281)); clear HB; have HB := n0_; have BK281 := n1_; have GW281 := n2_; have GE281 := n3_; clear n0_ n1_ n2_ n3_; clear hb hbox hg; have hcz17_0 : w16.cell? ⟨gb281, 0, none⟩ = some (.slice A0_0 l0_0.length c0_0) := (blk_cell BK281.out 0).trans rfl; have hcz17_1 : w16.cell? ⟨gb281, 1, none⟩ = some (.int .i64 a0_1) := (blk_cell BK281.out 1).trans rfl; have hcz17_2 : w16.cell? ⟨gb281, 2, none⟩ = some (.int .i64 a0_2) := (blk_cell BK281.out 2).trans rfl; have hfz17_0 := blk_frozen BK281.out 0; have hfz17_1 := blk_frozen BK281.out 1; have hfz17_2 := blk_frozen BK281.out 2) | ((with_reducible refine gate_callee (f := 9) rfl ?_); refine gl (some 19) Try.func9 #[.agg #[.slice A0_0 l0_0.length c0_0, .int .i64 a0_1, .int .i64 a0_2], .int .i64 1048576] ?_; (with_reducible refine (laws_szBuf.calls _ _ l0_0 a0_1 a0_2 1048576 t282 _ ?side1 ?side2 A5.out).mono ?_); (case side1 => repeat (first | exact (Kd.C_below HR0_0.out HB.out) | (with_reducible refine Kd.C_alloc ?_ _) | (with_reducible refine Kd.C_drewN ?_ _) | (with_reducible refine Kd.C_drew ?_))); (case side2 => exact HC0_0.out); rintro e w18 ⟨rfl, hb⟩; refine ⟨_, rfl, ?_⟩; have n0_ := am (blk_below (g := gb281) (o := .cells #[.slice A0_0 l0_0.length c0_0, .int .i64 a0_1, .int .i64 a0_2] 24 (0, 0)) (pk BK281.out) hb); have n1_ := am (below_step (by repeat (first | (with_reducible first | exact HB.out | apply below_alloc | apply pw_below_drewN | apply below_drew1 | refine below_set ?_ GE281.out) | exact HB.out)) hb); clear BK281; clear HB; have BK281 := n0_; have HB := n1_; clear n0_ n1_; (try clear hb); (try clear hb2); (try clear hk); (try clear hi); have hcz19_0 : w18.cell? ⟨gb281, 0, none⟩ = some (.slice A0_0 l0_0.length c0_0) := (blk_cell BK281.out 0).trans rfl; have hcz19_1 : w18.cell? ⟨gb281, 1, none⟩ = some (.int .i64 a0_1) := (blk_cell BK281.out 1).trans rfl; have hcz19_2 : w18.cell? ⟨gb281, 2, none⟩ = some (.int .i64 a0_2) := (blk_cell BK281.out 2).trans rfl; have hfz19_0 := blk_frozen BK281.out 0; have hfz19_1 := blk_frozen BK281.out 1; have hfz19_2 := blk_frozen BK281.out 2) | ((with_reducible refine gate_callee (f := 11) rfl ?_); refine gl (some 23) Try.func11 #[.agg #[.slice A0_0 l0_0.length c0_0, .int .i64 a0_1, .int .i64 a0_2]] ?_; (with_reducible refine (laws_toBuf.calls k _ _ l0_0 a0_1 a0_2 t283 t286 t287 _ ?side1 ?side2 A10.out).mono ?_); (case side1 => repeat (first | exact (Kd.C_below HR0_0.out HB.out) | (with_reducible refine Kd.C_alloc ?_ _) | (with_reducible refine Kd.C_drewN ?_ _) | (with_reducible refine Kd.C_drew ?_))); (case side2 => exact HC0_0.out); rintro e w20 ⟨v284, rfl, ho0, hb⟩; refine ⟨_, rfl, ?_⟩; have n0_ := am (Kd.R_lower ho0 (below_size (by repeat (first | (with_reducible first | exact HB.out | apply below_alloc | apply pw_below_drewN | apply below_drew1 | refine below_set ?_ GE281.out) | exact HB.out)))); have n1_ := am (blk_below (g := gb281) (o := .cells #[.slice A0_0 l0_0.length c0_0, .int .i64 a0_1, .int .i64 a0_2] 24 (0, 0)) (pk BK281.out) hb); have n2_ := am (below_step (by repeat (first | (with_reducible first | exact HB.out | apply below_alloc | apply pw_below_drewN | apply below_drew1 | refine below_set ?_ GE281.out) | exact HB.out)) hb); clear BK281; clear HB; have HO285 := n0_; have BK281 := n1_; have HB := n2_; clear n0_ n1_ n2_; (try clear hb); (try clear hb2); (try clear hk); (try clear hi); (try clear ho0); obtain ⟨Ao21, co21, eo21⟩ := Kd.R_slice HO285.out; subst eo21) | ((with_reducible refine gate_callee (f := 10) rfl ?_); refine gl (some 27) Try.func10 #[.agg #[.slice Ao21 t283.length co21, .int .i64 t286, .int .i64 t287], .int .i64 a1, .int .i64 a2, .int .i64 a3] ?_; (with_reducible refine (spec_BufMove.calls k _ _ t283 t286 t287 a1 a2 a3 t288 t291 t292 _ ?side1 ?side2 A11.out).mono ?_); (case side1 => repeat (first | exact (Kd.R_reads' HO285.out).2.2 | (with_reducible refine Kd.C_alloc ?_ _) | (with_reducible refine Kd.C_drewN ?_ _) | (with_reducible refine Kd.C_drew ?_))); (case side2 => exact (Kd.R_reads' HO285.out).2.1); rintro e w22 ⟨v289, rfl, ho0, hb⟩; refine ⟨_, rfl, ?_⟩; have n0_ := am (Kd.R_elder' (by (with_reducible repeat (first | apply Kd.R_alloc | apply Kd.R_drewN | apply Kd.R_drew)); exact HO285.out) (Kd.R_base ho0) hb); have n1_ := am (Kd.R_lower (Kd.R_new' ho0 (Kd.R_lt (by (with_reducible repeat (first | apply Kd.R_alloc | apply Kd.R_drewN | apply Kd.R_drew)); exact HO285.out))) (below_size (by repeat (first | (with_reducible first | exact HB.out | apply below_alloc | apply pw_below_drewN | apply below_drew1 | refine below_set ?_ GE281.out) | exact HB.out)))); have n2_ := am (blk_below (g := gb281) (o := .cells #[.slice A0_0 l0_0.length c0_0, .int .i64 a0_1, .int .i64 a0_2] 24 (0, 0)) (pk BK281.out) hb); have n3_ := am (below_step (by repeat (first | (with_reducible first | exact HB.out | apply below_alloc | apply pw_below_drewN | apply below_drew1 | refine below_set ?_ GE281.out) | exact HB.out)) hb); clear HO285; clear BK281; clear HB; have HO285 := n0_; have HO290 := n1_; have BK281 := n2_; have HB := n3_; clear n0_ n1_ n2_ n3_; (try clear hb); (try clear hb2); (try clear hk); (try clear hi); (try clear ho0)) | ((with_reducible refine gate_dst (N := 10) rfl ?_); refine box_event ?hg (N := 10) ?hd (cs := #[.slice none 0 0, .int .i64 0, .int .i64 0]) (t := 26) ?hr ?_; (case hd => rfl); (case hg => rfl); (case hr => first | (go_simp; done) | (go_simp; rfl)); intro gb293 hg w23 hbox hb; have n0_ := am (Kd.R_below (by (with_reducible repeat (first | apply Kd.R_alloc | apply Kd.R_drewN | apply Kd.R_drew)); exact HO285.out) hb); have n1_ := am (Kd.R_below (by (with_reducible repeat (first | apply Kd.R_alloc | apply Kd.R_drewN | apply Kd.R_drew)); exact HO290.out) hb); have n2_ := am (blk_below (g := gb281) (o := .cells #[.slice A0_0 l0_0.length c0_0, .int .i64 a0_1, .int .i64 a0_2] 24 (0, 0)) (pk BK281.out) hb); have n3_ := am (below_step (by repeat (first | (with_reducible first | exact HB.out | apply below_alloc | apply pw_below_drewN | apply below_drew1 | refine below_set ?_ GE281.out) | exact HB.out)) hb); have n4_ := am (hbox); have n5_ := am ((by rw [hg]; exact (below_size (by repeat (first | (with_reducible first | exact HB.out | apply below_alloc | apply pw_below_drewN | apply below_drew1 | refine below_set ?_ GE281.out) | exact HB.out))) : w.heap.size ≤ gb293)); have n6_ := am ((by rw [hg]; exact (below_size (by repeat (first | (with_reducible first | exact HB.out | apply below_alloc | apply pw_below_drewN | apply below_drew1 | refine below_set ?_ GE281.out) | exact HB.out))) : w.heap.size ≤ gb293)); have n7_ := am ((by rw [hg]; exact Nat.ne_of_lt (blk_lt (g := gb281) (o := .cells #[.slice A0_0 l0_0.length c0_0, .int .i64 a0_1, .int .i64 a0_2] 24 (0, 0)) (pk BK281.out)) : gb281 ≠ gb293)); have n8_ := am ((by rw [hg]; exact Nat.ne_of_gt (blk_lt (g := gb281) (o := .cells #[.slice A0_0 l0_0.length c0_0, .int .i64 a0_1, .int .i64 a0_2] 24 (0, 0)) (pk BK281.out)) : gb293 ≠ gb281)); clear HO285; clear HO290; clear BK281; clear HB; have HO285 := n0_; have HO290 := n1_; have BK281 := n2_; have HB := n3_; have BK293 := n4_; have GW293 := n5_; have GE293 := n6_; have NB281_293 := n7_; have NB293_281 := n8_; clear n0_ n1_ n2_ n3_ n4_ n5_ n6_ n7_ n8_; clear hb hbox hg; obtain ⟨Ao24, co24, eo24⟩ := Kd.R_slice HO290.out; subst eo24; have hnb25 := NB293_281.out; have hnc25 := NB281_293.out; have hcz26_0 : w23.cell? ⟨gb293, 0, none⟩ = some (.slice none 0 0) := (blk_cell BK293.out 0).trans rfl; have hcz26_1 : w23.cell? ⟨gb293, 1, none⟩ = some (.int .i64 0) := (blk_cell BK293.out 1).trans rfl; have hcz26_2 : w23.cell? ⟨gb293, 2, none⟩ = some (.int .i64 0) := (blk_cell BK293.out 2).trans rfl; have hfz26_0 := blk_frozen BK293.out 0; have hfz26_1 := blk_frozen BK293.out 1; have hfz26_2 := blk_frozen BK293.out 2; have hcz27_0 : w23.cell? ⟨gb281, 0, none⟩ = some (.slice A0_0 l0_0.length c0_0) := (blk_cell BK281.out 0).trans rfl; have hcz27_1 : w23.cell? ⟨gb281, 1, none⟩ = some (.int .i64 a0_1) := (blk_cell BK281.out 1).trans rfl; have hcz27_2 : w23.cell? ⟨gb281, 2, none⟩ = some (.int .i64 a0_2) := (blk_cell BK281.out 2).trans rfl; have hfz27_0 := blk_frozen BK281.out 0; have hfz27_1 := blk_frozen BK281.out 1; have hfz27_2 := blk_frozen BK281.out 2) | ((with_reducible refine gate_callee (f := 11) rfl ?_); refine gl (some 29) Try.func11 #[.agg #[.slice A0_0 l0_0.length c0_0, .int .i64 a0_1, .int .i64 a0_2]] ?_; (with_reducible refine (laws_toBuf.calls k _ _ l0_0 a0_1 a0_2 t294 t297 t298 _ ?side1 ?side2 A12.out).mono ?_); (case side1 => exact Kd.C_below HR0_0.out (by repeat (first | (with_reducible first | exact HB.out | apply below_alloc | apply pw_below_drewN | apply below_drew1 | refine below_set ?_ GE281.out | refine below_set ?_ GE293.out) | exact HB.out))); (case side2 => exact HC0_0.out); rintro e w28 ⟨v295, rfl, ho0, hb⟩; refine ⟨_, rfl, ?_⟩; have n0_ := am (Kd.R_elder' (by (with_reducible repeat (first | apply Kd.R_alloc | apply Kd.R_drewN | apply Kd.R_drew)); exact (Kd.R_mono (Kd.R_far (p := ⟨gb293, 2, none⟩) (Kd.R_far (p := ⟨gb293, 1, none⟩) (Kd.R_far (p := ⟨gb293, 0, none⟩) (Kd.R_types HO285.out BK293.out (by decide)) (fun _ hk => hk.2) (.slice Ao24 t288.length co24)) (fun _ hk => hk.2) (.int .i64 t291)) (fun _ hk => hk.2) (.int .i64 t292)) (fun _ h_ => h_.1))) (Kd.R_base ho0) hb); have n1_ := am (Kd.R_elder' (by (with_reducible repeat (first | apply Kd.R_alloc | apply Kd.R_drewN | apply Kd.R_drew)); exact (Kd.R_mono (Kd.R_far (p := ⟨gb293, 2, none⟩) (Kd.R_far (p := ⟨gb293, 1, none⟩) (Kd.R_far (p := ⟨gb293, 0, none⟩) (Kd.R_types HO290.out BK293.out (by decide)) (fun _ hk => hk.2) (.slice Ao24 t288.length co24)) (fun _ hk => hk.2) (.int .i64 t291)) (fun _ hk => hk.2) (.int .i64 t292)) (fun _ h_ => h_.1))) (Kd.R_base ho0) hb); have n2_ := am (Kd.R_lower (Kd.R_new' (Kd.R_new' ho0 (Kd.R_lt (by (with_reducible repeat (first | apply Kd.R_alloc | apply Kd.R_drewN | apply Kd.R_drew)); exact (Kd.R_mono (Kd.R_far (p := ⟨gb293, 2, none⟩) (Kd.R_far (p := ⟨gb293, 1, none⟩) (Kd.R_far (p := ⟨gb293, 0, none⟩) (Kd.R_types HO285.out BK293.out (by decide)) (fun _ hk => hk.2) (.slice Ao24 t288.length co24)) (fun _ hk => hk.2) (.int .i64 t291)) (fun _ hk => hk.2) (.int .i64 t292)) (fun _ h_ => h_.1))))) (Kd.R_lt (by (with_reducible repeat (first | apply Kd.R_alloc | apply Kd.R_drewN | apply Kd.R_drew)); exact (Kd.R_mono (Kd.R_far (p := ⟨gb293, 2, none⟩) (Kd.R_far (p := ⟨gb293, 1, none⟩) (Kd.R_far (p := ⟨gb293, 0, none⟩) (Kd.R_types HO290.out BK293.out (by decide)) (fun _ hk => hk.2) (.slice Ao24 t288.length co24)) (fun _ hk => hk.2) (.int .i64 t291)) (fun _ hk => hk.2) (.int .i64 t292)) (fun _ h_ => h_.1))))) (below_size (by repeat (first | (with_reducible first | exact HB.out | apply below_alloc | apply pw_below_drewN | apply below_drew1 | refine below_set ?_ GE281.out | refine below_set ?_ GE293.out) | exact HB.out)))); have n3_ := am (blk_below (g := gb281) (o := .cells #[.slice A0_0 l0_0.length c0_0, .int .i64 a0_1, .int .i64 a0_2] 24 (0, 0)) (by (with_reducible repeat (first | refine blk_drewN ?_ _ | refine blk_drew ?_ | refine blk_alloc ?_ _)); refine blk_far ?_ NB281_293.out _; (with_reducible repeat (first | refine blk_drewN ?_ _ | refine blk_drew ?_ | refine blk_alloc ?_ _)); refine blk_far ?_ NB281_293.out _; (with_reducible repeat (first | refine blk_drewN ?_ _ | refine blk_drew ?_ | refine blk_alloc ?_ _)); refine blk_far ?_ NB281_293.out _; (with_reducible repeat (first | refine blk_drewN ?_ _ | refine blk_drew ?_ | refine blk_alloc ?_ _)); exact BK281.out) hb); have n4_ := am (blk_below (g := gb293) (o := .cells #[.slice Ao24 t288.length co24, .int .i64 t291, .int .i64 t292] 26 (0, 0)) (by (with_reducible repeat (first | refine blk_drewN ?_ _ | refine blk_drew ?_ | refine blk_alloc ?_ _)); refine blk_put (cs := #[.slice Ao24 t288.length co24, .int .i64 t291, .int .i64 0]) ?_ 2 _ rfl; (with_reducible repeat (first | refine blk_drewN ?_ _ | refine blk_drew ?_ | refine blk_alloc ?_ _)); refine blk_put (cs := #[.slice Ao24 t288.length co24, .int .i64 0, .int .i64 0]) ?_ 1 _ rfl; (with_reducible repeat (first | refine blk_drewN ?_ _ | refine blk_drew ?_ | refine blk_alloc ?_ _)); refine blk_put (cs := #[.slice none 0 0, .int .i64 0, .int .i64 0]) ?_ 0 _ rfl; (with_reducible repeat (first | refine blk_drewN ?_ _ | refine blk_drew ?_ | refine blk_alloc ?_ _)); exact BK293.out) hb); have n5_ := am (below_step (by repeat (first | (with_reducible first | exact HB.out | apply below_alloc | apply pw_below_drewN | apply below_drew1 | refine below_set ?_ GE281.out | refine below_set ?_ GE293.out) | exact HB.out)) hb); clear HO285; clear HO290; clear BK281; clear BK293; clear HB; have HO285 := n0_; have HO290 := n1_; have HO296 := n2_; have BK281 := n3_; have BK293 := n4_; have HB := n5_; clear n0_ n1_ n2_ n3_ n4_ n5_; (try clear hb); (try clear hb2); (try clear hk); (try clear hi); (try clear ho0)) | ((with_reducible refine gate_dst (N := 11) rfl ?_); refine box_event ?hg (N := 11) ?hd (cs := #[.slice none 0 0, .int .i64 0, .int .i64 0]) (t := 26) ?hr ?_; (case hd => rfl); (case hg => rfl); (case hr => first | (go_simp; done) | (go_simp; rfl)); intro gb299 hg w29 hbox hb; have n0_ := am (Kd.R_below (by (with_reducible repeat (first | apply Kd.R_alloc | apply Kd.R_drewN | apply Kd.R_drew)); exact HO285.out) hb); have n1_ := am (Kd.R_below (by (with_reducible repeat (first | apply Kd.R_alloc | apply Kd.R_drewN | apply Kd.R_drew)); exact HO290.out) hb); have n2_ := am (Kd.R_below (by (with_reducible repeat (first | apply Kd.R_alloc | apply Kd.R_drewN | apply Kd.R_drew)); exact HO296.out) hb); have n3_ := am (blk_below (g := gb281) (o := .cells #[.slice A0_0 l0_0.length c0_0, .int .i64 a0_1, .int .i64 a0_2] 24 (0, 0)) (pk BK281.out) hb); have n4_ := am (blk_below (g := gb293) (o := .cells #[.slice Ao24 t288.length co24, .int .i64 t291, .int .i64 t292] 26 (0, 0)) (pk BK293.out) hb); have n5_ := am (below_step (by repeat (first | (with_reducible first | exact HB.out | apply below_alloc | apply pw_below_drewN | apply below_drew1 | refine below_set ?_ GE281.out | refine below_set ?_ GE293.out) | exact HB.out)) hb); have n6_ := am (hbox); have n7_ := am ((by rw [hg]; exact (below_size (by repeat (first | (with_reducible first | exact HB.out | apply below_alloc | apply pw_below_drewN | apply below_drew1 | refine below_set ?_ GE281.out | refine below_set ?_ GE293.out) | exact HB.out))) : w.heap.size ≤ gb299)); have n8_ := am ((by rw [hg]; exact (below_size (by repeat (first | (with_reducible first | exact HB.out | apply below_alloc | apply pw_below_drewN | apply below_drew1 | refine below_set ?_ GE281.out | refine below_set ?_ GE293.out) | exact HB.out))) : w.heap.size ≤ gb299)); have n9_ := am ((by rw [hg]; exact Nat.ne_of_lt (blk_lt (g := gb281) (o := .cells #[.slice A0_0 l0_0.length c0_0, .int .i64 a0_1, .int .i64 a0_2] 24 (0, 0)) (pk BK281.out)) : gb281 ≠ gb299)); have n10_ := am ((by rw [hg]; exact Nat.ne_of_gt (blk_lt (g := gb281) (o := .cells #[.slice A0_0 l0_0.length c0_0, .int .i64 a0_1, .int .i64 a0_2] 24 (0, 0)) (pk BK281.out)) : gb299 ≠ gb281)); have n11_ := am ((by rw [hg]; exact Nat.ne_of_lt (blk_lt (g := gb293) (o := .cells #[.slice Ao24 t288.length co24, .int .i64 t291, .int .i64 t292] 26 (0, 0)) (pk BK293.out)) : gb293 ≠ gb299)); have n12_ := am ((by rw [hg]; exact Nat.ne_of_gt (blk_lt (g := gb293) (o := .cells #[.slice Ao24 t288.length co24, .int .i64 t291, .int .i64 t292] 26 (0, 0)) (pk BK293.out)) : gb299 ≠ gb293)); clear HO285; clear HO290; clear HO296; clear BK281; clear BK293; clear HB; have HO285 := n0_; have HO290 := n1_; have HO296 := n2_; have BK281 := n3_; have BK293 := n4_; have HB := n5_; have BK299 := n6_; have GW299 := n7_; have GE299 := n8_; have NB281_299 := n9_; have NB299_281 := n10_; have NB293_299 := n11_; have NB299_293 := n12_; clear n0_ n1_ n2_ n3_ n4_ n5_ n6_ n7_ n8_ n9_ n10_ n11_ n12_; clear hb hbox hg; obtain ⟨Ao30, co30, eo30⟩ := Kd.R_slice HO296.out; subst eo30; have hnb31 := NB299_281.out; have hnc31 := NB281_299.out; have hnb32 := NB299_293.out; have hnc32 := NB293_299.out; have hcz33_0 : w29.cell? ⟨gb299, 0, none⟩ = some (.slice none 0 0) := (blk_cell BK299.out 0).trans rfl; have hcz33_1 : w29.cell? ⟨gb299, 1, none⟩ = some (.int .i64 0) := (blk_cell BK299.out 1).trans rfl; have hcz33_2 : w29.cell? ⟨gb299, 2, none⟩ = some (.int .i64 0) := (blk_cell BK299.out 2).trans rfl; have hfz33_0 := blk_frozen BK299.out 0; have hfz33_1 := blk_frozen BK299.out 1; have hfz33_2 := blk_frozen BK299.out 2) | ((with_reducible refine gate_callee (f := 12) rfl ?_); refine gl (some 34) Try.func12 #[.agg #[.slice Ao30 t294.length co30, .int .i64 t297, .int .i64 t298], .int .i64 a1, .int .i64 a2, .int .i64 a3] ?_; (with_reducible refine (impl_BufMove.calls k _ _ t294 t297 t298 a1 a2 a3 t300 t303 t304 _ ?side1 ?side2 A13.out).mono ?_); (case side1 => refine (Kd.R_reads' (e := 2) (base := w.heap.size) (ok := fun k_ => ((True ∧ some k_ ≠ (.slice Ao21 t283.length co21 : Value).ownBlock) ∧ some k_ ≠ (.slice Ao24 t288.length co24 : Value).ownBlock)) (n := t294.length) (c := co30) ?_).2.2; exact (by (with_reducible repeat (first | apply Kd.R_alloc | apply Kd.R_drewN | apply Kd.R_drew)); exact (Kd.R_mono (Kd.R_far (p := ⟨gb299, 2, none⟩) (Kd.R_far (p := ⟨gb299, 1, none⟩) (Kd.R_far (p := ⟨gb299, 0, none⟩) (Kd.R_types HO296.out BK299.out (by decide)) (fun _ hk => hk.2) (.slice Ao30 t294.length co30)) (fun _ hk => hk.2) (.int .i64 t297)) (fun _ hk => hk.2) (.int .i64 t298)) (fun _ h_ => h_.1)))); (case side2 => exact (Kd.R_reads' HO296.out).2.1); rintro e w34 ⟨v301, rfl, ho0, hb⟩; refine ⟨_, rfl, ?_⟩; have n0_ := am (Kd.R_elder' (by (with_reducible repeat (first | apply Kd.R_alloc | apply Kd.R_drewN | apply Kd.R_drew)); exact (Kd.R_mono (Kd.R_far (p := ⟨gb299, 2, none⟩) (Kd.R_far (p := ⟨gb299, 1, none⟩) (Kd.R_far (p := ⟨gb299, 0, none⟩) (Kd.R_types HO285.out BK299.out (by decide)) (fun _ hk => hk.2) (.slice Ao30 t294.length co30)) (fun _ hk => hk.2) (.int .i64 t297)) (fun _ hk => hk.2) (.int .i64 t298)) (fun _ h_ => h_.1))) (Kd.R_base ho0) hb); have n1_ := am (Kd.R_elder' (by (with_reducible repeat (first | apply Kd.R_alloc | apply Kd.R_drewN | apply Kd.R_drew)); exact (Kd.R_mono (Kd.R_far (p := ⟨gb299, 2, none⟩) (Kd.R_far (p := ⟨gb299, 1, none⟩) (Kd.R_far (p := ⟨gb299, 0, none⟩) (Kd.R_types HO290.out BK299.out (by decide)) (fun _ hk => hk.2) (.slice Ao30 t294.length co30)) (fun _ hk => hk.2) (.int .i64 t297)) (fun _ hk => hk.2) (.int .i64 t298)) (fun _ h_ => h_.1))) (Kd.R_base ho0) hb); have n2_ := am (Kd.R_elder' (by (with_reducible repeat (first | apply Kd.R_alloc | apply Kd.R_drewN | apply Kd.R_drew)); exact (Kd.R_mono (Kd.R_far (p := ⟨gb299, 2, none⟩) (Kd.R_far (p := ⟨gb299, 1, none⟩) (Kd.R_far (p := ⟨gb299, 0, none⟩) (Kd.R_types HO296.out BK299.out (by decide)) (fun _ hk => hk.2) (.slice Ao30 t294.length co30)) (fun _ hk => hk.2) (.int .i64 t297)) (fun _ hk => hk.2) (.int .i64 t298)) (fun _ h_ => h_.1))) (Kd.R_base ho0) hb); have n3_ := am (Kd.R_lower (Kd.R_new' (Kd.R_new' (Kd.R_new' ho0 (Kd.R_lt (by (with_reducible repeat (first | apply Kd.R_alloc | apply Kd.R_drewN | apply Kd.R_drew)); exact (Kd.R_mono (Kd.R_far (p := ⟨gb299, 2, none⟩) (Kd.R_far (p := ⟨gb299, 1, none⟩) (Kd.R_far (p := ⟨gb299, 0, none⟩) (Kd.R_types HO285.out BK299.out (by decide)) (fun _ hk => hk.2) (.slice Ao30 t294.length co30)) (fun _ hk => hk.2) (.int .i64 t297)) (fun _ hk => hk.2) (.int .i64 t298)) (fun _ h_ => h_.1))))) (Kd.R_lt (by (with_reducible repeat (first | apply Kd.R_alloc | apply Kd.R_drewN | apply Kd.R_drew)); exact (Kd.R_mono (Kd.R_far (p := ⟨gb299, 2, none⟩) (Kd.R_far (p := ⟨gb299, 1, none⟩) (Kd.R_far (p := ⟨gb299, 0, none⟩) (Kd.R_types HO290.out BK299.out (by decide)) (fun _ hk => hk.2) (.slice Ao30 t294.length co30)) (fun _ hk => hk.2) (.int .i64 t297)) (fun _ hk => hk.2) (.int .i64 t298)) (fun _ h_ => h_.1))))) (Kd.R_lt (by (with_reducible repeat (first | apply Kd.R_alloc | apply Kd.R_drewN | apply Kd.R_drew)); exact (Kd.R_mono (Kd.R_far (p := ⟨gb299, 2, none⟩) (Kd.R_far (p := ⟨gb299, 1, none⟩) (Kd.R_far (p := ⟨gb299, 0, none⟩) (Kd.R_types HO296.out BK299.out (by decide)) (fun _ hk => hk.2) (.slice Ao30 t294.length co30)) (fun _ hk => hk.2) (.int .i64 t297)) (fun _ hk => hk.2) (.int .i64 t298)) (fun _ h_ => h_.1))))) (below_size (by repeat (first | (with_reducible first | exact HB.out | apply below_alloc | apply pw_below_drewN | apply below_drew1 | refine below_set ?_ GE281.out | refine below_set ?_ GE293.out | refine below_set ?_ GE299.out) | exact HB.out)))); have n4_ := am (blk_below (g := gb281) (o := .cells #[.slice A0_0 l0_0.length c0_0, .int .i64 a0_1, .int .i64 a0_2] 24 (0, 0)) (by (with_reducible repeat (first | refine blk_drewN ?_ _ | refine blk_drew ?_ | refine blk_alloc ?_ _)); refine blk_far ?_ NB281_299.out _; (with_reducible repeat (first | refine blk_drewN ?_ _ | refine blk_drew ?_ | refine blk_alloc ?_ _)); refine blk_far ?_ NB281_299.out _; (with_reducible repeat (first | refine blk_drewN ?_ _ | refine blk_drew ?_ | refine blk_alloc ?_ _)); refine blk_far ?_ NB281_299.out _; (with_reducible repeat (first | refine blk_drewN ?_ _ | refine blk_drew ?_ | refine blk_alloc ?_ _)); exact BK281.out) hb); have n5_ := am (blk_below (g := gb293) (o := .cells #[.slice Ao24 t288.length co24, .int .i64 t291, .int .i64 t292] 26 (0, 0)) (by (with_reducible repeat (first | refine blk_drewN ?_ _ | refine blk_drew ?_ | refine blk_alloc ?_ _)); refine blk_far ?_ NB293_299.out _; (with_reducible repeat (first | refine blk_drewN ?_ _ | refine blk_drew ?_ | refine blk_alloc ?_ _)); refine blk_far ?_ NB293_299.out _; (with_reducible repeat (first | refine blk_drewN ?_ _ | refine blk_drew ?_ | refine blk_alloc ?_ _)); refine blk_far ?_ NB293_299.out _; (with_reducible repeat (first | refine blk_drewN ?_ _ | refine blk_drew ?_ | refine blk_alloc ?_ _)); exact BK293.out) hb); have n6_ := am (blk_below (g := gb299) (o := .cells #[.slice Ao30 t294.length co30, .int .i64 t297, .int .i64 t298] 26 (0, 0)) (by (with_reducible repeat (first | refine blk_drewN ?_ _ | refine blk_drew ?_ | refine blk_alloc ?_ _)); refine blk_put (cs := #[.slice Ao30 t294.length co30, .int .i64 t297, .int .i64 0]) ?_ 2 _ rfl; (with_reducible repeat (first | refine blk_drewN ?_ _ | refine blk_drew ?_ | refine blk_alloc ?_ _)); refine blk_put (cs := #[.slice Ao30 t294.length co30, .int .i64 0, .int .i64 0]) ?_ 1 _ rfl; (with_reducible repeat (first | refine blk_drewN ?_ _ | refine blk_drew ?_ | refine blk_alloc ?_ _)); refine blk_put (cs := #[.slice none 0 0, .int .i64 0, .int .i64 0]) ?_ 0 _ rfl; (with_reducible repeat (first | refine blk_drewN ?_ _ | refine blk_drew ?_ | refine blk_alloc ?_ _)); exact BK299.out) hb); have n7_ := am (below_step (by repeat (first | (with_reducible first | exact HB.out | apply below_alloc | apply pw_below_drewN | apply below_drew1 | refine below_set ?_ GE281.out | refine below_set ?_ GE293.out | refine below_set ?_ GE299.out) | exact HB.out)) hb); clear HO285; clear HO290; clear HO296; clear BK281; clear BK293; clear BK299; clear HB; have HO285 := n0_; have HO290 := n1_; have HO296 := n2_; have HO302 := n3_; have BK281 := n4_; have BK293 := n5_; have BK299 := n6_; have HB := n7_; clear n0_ n1_ n2_ n3_ n4_ n5_ n6_ n7_; (try clear hb); (try clear hb2); (try clear hk); (try clear hi); (try clear ho0)) | ((with_reducible refine gate_dst (N := 12) rfl ?_); refine box_event ?hg (N := 12) ?hd (cs := #[.slice none 0 0, .int .i64 0, .int .i64 0]) (t := 26) ?hr ?_; (case hd => rfl); (case hg => rfl); (case hr => first | (go_simp; done) | (go_simp; rfl)); intro gb305 hg w35 hbox hb; have n0_ := am (Kd.R_below (by (with_reducible repeat (first | apply Kd.R_alloc | apply Kd.R_drewN | apply Kd.R_drew)); exact HO285.out) hb); have n1_ := am (Kd.R_below (by (with_reducible repeat (first | apply Kd.R_alloc | apply Kd.R_drewN | apply Kd.R_drew)); exact HO290.out) hb); have n2_ := am (Kd.R_below (by (with_reducible repeat (first | apply Kd.R_alloc | apply Kd.R_drewN | apply Kd.R_drew)); exact HO296.out) hb); have n3_ := am (Kd.R_below (by (with_reducible repeat (first | apply Kd.R_alloc | apply Kd.R_drewN | apply Kd.R_drew)); exact HO302.out) hb); have n4_ := am (blk_below (g := gb281) (o := .cells #[.slice A0_0 l0_0.length c0_0, .int .i64 a0_1, .int .i64 a0_2] 24 (0, 0)) (pk BK281.out) hb); have n5_ := am (blk_below (g := gb293) (o := .cells #[.slice Ao24 t288.length co24, .int .i64 t291, .int .i64 t292] 26 (0, 0)) (pk BK293.out) hb); have n6_ := am (blk_below (g := gb299) (o := .cells #[.slice Ao30 t294.length co30, .int .i64 t297, .int .i64 t298] 26 (0, 0)) (pk BK299.out) hb); have n7_ := am (below_step (by repeat (first | (with_reducible first | exact HB.out | apply below_alloc | apply pw_below_drewN | apply below_drew1 | refine below_set ?_ GE281.out | refine below_set ?_ GE293.out | refine below_set ?_ GE299.out) | exact HB.out)) hb); have n8_ := am (hbox); have n9_ := am ((by rw [hg]; exact (below_size (by repeat (first | (with_reducible first | exact HB.out | apply below_alloc | apply pw_below_drewN | apply below_drew1 | refine below_set ?_ GE281.out | refine below_set ?_ GE293.out | refine below_set ?_ GE299.out) | exact HB.out))) : w.heap.size ≤ gb305)); have n10_ := am ((by rw [hg]; exact (below_size (by repeat (first | (with_reducible first | exact HB.out | apply below_alloc | apply pw_below_drewN | apply below_drew1 | refine below_set ?_ GE281.out | refine below_set ?_ GE293.out | refine below_set ?_ GE299.out) | exact HB.out))) : w.heap.size ≤ gb305)); have n11_ := am ((by rw [hg]; exact Nat.ne_of_lt (blk_lt (g := gb281) (o := .cells #[.slice A0_0 l0_0.length c0_0, .int .i64 a0_1, .int .i64 a0_2] 24 (0, 0)) (pk BK281.out)) : gb281 ≠ gb305)); have n12_ := am ((by rw [hg]; exact Nat.ne_of_gt (blk_lt (g := gb281) (o := .cells #[.slice A0_0 l0_0.length c0_0, .int .i64 a0_1, .int .i64 a0_2] 24 (0, 0)) (pk BK281.out)) : gb305 ≠ gb281)); have n13_ := am ((by rw [hg]; exact Nat.ne_of_lt (blk_lt (g := gb293) (o := .cells #[.slice Ao24 t288.length co24, .int .i64 t291, .int .i64 t292] 26 (0, 0)) (pk BK293.out)) : gb293 ≠ gb305)); have n14_ := am ((by rw [hg]; exact Nat.ne_of_gt (blk_lt (g := gb293) (o := .cells #[.slice Ao24 t288.length co24, .int .i64 t291, .int .i64 t292] 26 (0, 0)) (pk BK293.out)) : gb305 ≠ gb293)); have n15_ := am ((by rw [hg]; exact Nat.ne_of_lt (blk_lt (g := gb299) (o := .cells #[.slice Ao30 t294.length co30, .int .i64 t297, .int .i64 t298] 26 (0, 0)) (pk BK299.out)) : gb299 ≠ gb305)); have n16_ := am ((by rw [hg]; exact Nat.ne_of_gt (blk_lt (g := gb299) (o := .cells #[.slice Ao30 t294.length co30, .int .i64 t297, .int .i64 t298] 26 (0, 0)) (pk BK299.out)) : gb305 ≠ gb299)); clear HO285; clear HO290; clear HO296; clear HO302; clear BK281; clear BK293; clear BK299; clear HB; have HO285 := n0_; have HO290 := n1_; have HO296 := n2_; have HO302 := n3_; have BK281 := n4_; have BK293 := n5_; have BK299 := n6_; have HB := n7_; have BK305 := n8_; have GW305 := n9_; have GE305 := n10_; have NB281_305 := n11_; have NB305_281 := n12_; have NB293_305 := n13_; have NB305_293 := n14_; have NB299_305 := n15_; have NB305_299 := n16_; clear n0_ n1_ n2_ n3_ n4_ n5_ n6_ n7_ n8_ n9_ n10_ n11_ n12_ n13_ n14_ n15_ n16_; clear hb hbox hg; obtain ⟨Ao36, co36, eo36⟩ := Kd.R_slice HO302.out; subst eo36; have hnb37 := NB305_281.out; have hnc37 := NB281_305.out; have hnb38 := NB305_293.out; have hnc38 := NB293_305.out; have hnb39 := NB305_299.out; have hnc39 := NB299_305.out; have hcz40_0 : w35.cell? ⟨gb305, 0, none⟩ = some (.slice none 0 0) := (blk_cell BK305.out 0).trans rfl; have hcz40_1 : w35.cell? ⟨gb305, 1, none⟩ = some (.int .i64 0) := (blk_cell BK305.out 1).trans rfl; have hcz40_2 : w35.cell? ⟨gb305, 2, none⟩ = some (.int .i64 0) := (blk_cell BK305.out 2).trans rfl; have hfz40_0 := blk_frozen BK305.out 0; have hfz40_1 := blk_frozen BK305.out 1; have hfz40_2 := blk_frozen BK305.out 2; have hcz41_0 : w35.cell? ⟨gb293, 0, none⟩ = some (.slice Ao24 t288.length co24) := (blk_cell BK293.out 0).trans rfl; have hcz41_1 : w35.cell? ⟨gb293, 1, none⟩ = some (.int .i64 t291) := (blk_cell BK293.out 1).trans rfl; have hcz41_2 : w35.cell? ⟨gb293, 2, none⟩ = some (.int .i64 t292) := (blk_cell BK293.out 2).trans rfl; have hfz41_0 := blk_frozen BK293.out 0; have hfz41_1 := blk_frozen BK293.out 1; have hfz41_2 := blk_frozen BK293.out 2) | ((with_reducible refine gate_callee (f := 13) rfl ?_); refine gl (some 37) Try.func13 #[.agg #[.slice Ao36 t300.length co36, .int .i64 t303, .int .i64 t304], .agg #[.slice Ao24 t288.length co24, .int .i64 t291, .int .i64 t292]] ?_; (with_reducible refine (laws_eqBuf.calls k _ _ t300 t303 t304 _ _ t288 t291 t292 t306 _ ?side1 ?side2 ?side3 ?side4 A14.out).mono ?_); (case side1 => refine (Kd.R_reads' (e := 2) (base := w.heap.size) (ok := fun k_ => (((True ∧ some k_ ≠ (.slice Ao21 t283.length co21 : Value).ownBlock) ∧ some k_ ≠ (.slice Ao24 t288.length co24 : Value).ownBlock) ∧ some k_ ≠ (.slice Ao30 t294.length co30 : Value).ownBlock)) (n := t300.length) (c := co36) ?_).2.2; exact (by (with_reducible repeat (first | apply Kd.R_alloc | apply Kd.R_drewN | apply Kd.R_drew)); exact (Kd.R_mono (Kd.R_far (p := ⟨gb305, 2, none⟩) (Kd.R_far (p := ⟨gb305, 1, none⟩) (Kd.R_far (p := ⟨gb305, 0, none⟩) (Kd.R_types HO302.out BK305.out (by decide)) (fun _ hk => hk.2) (.slice Ao36 t300.length co36)) (fun _ hk => hk.2) (.int .i64 t303)) (fun _ hk => hk.2) (.int .i64 t304)) (fun _ h_ => h_.1)))); (case side2 => exact (Kd.R_reads' HO302.out).2.1); (case side3 => refine (Kd.R_reads' (e := 2) (base := w.heap.size) (ok := fun k_ => (((True ∧ some k_ ≠ (.slice Ao21 t283.length co21 : Value).ownBlock) ∧ some k_ ≠ (.slice Ao30 t294.length co30 : Value).ownBlock) ∧ some k_ ≠ (.slice Ao36 t300.length co36 : Value).ownBlock)) (n := t288.length) (c := co24) ?_).2.2; exact (by (with_reducible repeat (first | apply Kd.R_alloc | apply Kd.R_drewN | apply Kd.R_drew)); exact (Kd.R_mono (Kd.R_far (p := ⟨gb305, 2, none⟩) (Kd.R_far (p := ⟨gb305, 1, none⟩) (Kd.R_far (p := ⟨gb305, 0, none⟩) (Kd.R_types HO290.out BK305.out (by decide)) (fun _ hk => hk.2) (.slice Ao36 t300.length co36)) (fun _ hk => hk.2) (.int .i64 t303)) (fun _ hk => hk.2) (.int .i64 t304)) (fun _ h_ => h_.1)))); (case side4 => exact (Kd.R_reads' HO290.out).2.1); rintro e w42 ⟨rfl, hb⟩; refine ⟨_, rfl, ?_⟩; have n0_ := am (Kd.R_below (by (with_reducible repeat (first | apply Kd.R_alloc | apply Kd.R_drewN | apply Kd.R_drew)); exact (Kd.R_mono (Kd.R_far (p := ⟨gb305, 2, none⟩) (Kd.R_far (p := ⟨gb305, 1, none⟩) (Kd.R_far (p := ⟨gb305, 0, none⟩) (Kd.R_types HO285.out BK305.out (by decide)) (fun _ hk => hk.2) (.slice Ao36 t300.length co36)) (fun _ hk => hk.2) (.int .i64 t303)) (fun _ hk => hk.2) (.int .i64 t304)) (fun _ h_ => h_.1))) hb); have n1_ := am (Kd.R_below (by (with_reducible repeat (first | apply Kd.R_alloc | apply Kd.R_drewN | apply Kd.R_drew)); exact (Kd.R_mono (Kd.R_far (p := ⟨gb305, 2, none⟩) (Kd.R_far (p := ⟨gb305, 1, none⟩) (Kd.R_far (p := ⟨gb305, 0, none⟩) (Kd.R_types HO290.out BK305.out (by decide)) (fun _ hk => hk.2) (.slice Ao36 t300.length co36)) (fun _ hk => hk.2) (.int .i64 t303)) (fun _ hk => hk.2) (.int .i64 t304)) (fun _ h_ => h_.1))) hb); have n2_ := am (Kd.R_below (by (with_reducible repeat (first | apply Kd.R_alloc | apply Kd.R_drewN | apply Kd.R_drew)); exact (Kd.R_mono (Kd.R_far (p := ⟨gb305, 2, none⟩) (Kd.R_far (p := ⟨gb305, 1, none⟩) (Kd.R_far (p := ⟨gb305, 0, none⟩) (Kd.R_types HO296.out BK305.out (by decide)) (fun _ hk => hk.2) (.slice Ao36 t300.length co36)) (fun _ hk => hk.2) (.int .i64 t303)) (fun _ hk => hk.2) (.int .i64 t304)) (fun _ h_ => h_.1))) hb); have n3_ := am (Kd.R_below (by (with_reducible repeat (first | apply Kd.R_alloc | apply Kd.R_drewN | apply Kd.R_drew)); exact (Kd.R_mono (Kd.R_far (p := ⟨gb305, 2, none⟩) (Kd.R_far (p := ⟨gb305, 1, none⟩) (Kd.R_far (p := ⟨gb305, 0, none⟩) (Kd.R_types HO302.out BK305.out (by decide)) (fun _ hk => hk.2) (.slice Ao36 t300.length co36)) (fun _ hk => hk.2) (.int .i64 t303)) (fun _ hk => hk.2) (.int .i64 t304)) (fun _ h_ => h_.1))) hb); have n4_ := am (blk_below (g := gb281) (o := .cells #[.slice A0_0 l0_0.length c0_0, .int .i64 a0_1, .int .i64 a0_2] 24 (0, 0)) (by (with_reducible repeat (first | refine blk_drewN ?_ _ | refine blk_drew ?_ | refine blk_alloc ?_ _)); refine blk_far ?_ NB281_305.out _; (with_reducible repeat (first | refine blk_drewN ?_ _ | refine blk_drew ?_ | refine blk_alloc ?_ _)); refine blk_far ?_ NB281_305.out _; (with_reducible repeat (first | refine blk_drewN ?_ _ | refine blk_drew ?_ | refine blk_alloc ?_ _)); refine blk_far ?_ NB281_305.out _; (with_reducible repeat (first | refine blk_drewN ?_ _ | refine blk_drew ?_ | refine blk_alloc ?_ _)); exact BK281.out) hb); have n5_ := am (blk_below (g := gb293) (o := .cells #[.slice Ao24 t288.length co24, .int .i64 t291, .int .i64 t292] 26 (0, 0)) (by (with_reducible repeat (first | refine blk_drewN ?_ _ | refine blk_drew ?_ | refine blk_alloc ?_ _)); refine blk_far ?_ NB293_305.out _; (with_reducible repeat (first | refine blk_drewN ?_ _ | refine blk_drew ?_ | refine blk_alloc ?_ _)); refine blk_far ?_ NB293_305.out _; (with_reducible repeat (first | refine blk_drewN ?_ _ | refine blk_drew ?_ | refine blk_alloc ?_ _)); refine blk_far ?_ NB293_305.out _; (with_reducible repeat (first | refine blk_drewN ?_ _ | refine blk_drew ?_ | refine blk_alloc ?_ _)); exact BK293.out) hb); have n6_ := am (blk_below (g := gb299) (o := .cells #[.slice Ao30 t294.length co30, .int .i64 t297, .int .i64 t298] 26 (0, 0)) (by (with_reducible repeat (first | refine blk_drewN ?_ _ | refine blk_drew ?_ | refine blk_alloc ?_ _)); refine blk_far ?_ NB299_305.out _; (with_reducible repeat (first | refine blk_drewN ?_ _ | refine blk_drew ?_ | refine blk_alloc ?_ _)); refine blk_far ?_ NB299_305.out _; (with_reducible repeat (first | refine blk_drewN ?_ _ | refine blk_drew ?_ | refine blk_alloc ?_ _)); refine blk_far ?_ NB299_305.out _; (with_reducible repeat (first | refine blk_drewN ?_ _ | refine blk_drew ?_ | refine blk_alloc ?_ _)); exact BK299.out) hb); have n7_ := am (blk_below (g := gb305) (o := .cells #[.slice Ao36 t300.length co36, .int .i64 t303, .int .i64 t304] 26 (0, 0)) (by (with_reducible repeat (first | refine blk_drewN ?_ _ | refine blk_drew ?_ | refine blk_alloc ?_ _)); refine blk_put (cs := #[.slice Ao36 t300.length co36, .int .i64 t303, .int .i64 0]) ?_ 2 _ rfl; (with_reducible repeat (first | refine blk_drewN ?_ _ | refine blk_drew ?_ | refine blk_alloc ?_ _)); refine blk_put (cs := #[.slice Ao36 t300.length co36, .int .i64 0, .int .i64 0]) ?_ 1 _ rfl; (with_reducible repeat (first | refine blk_drewN ?_ _ | refine blk_drew ?_ | refine blk_alloc ?_ _)); refine blk_put (cs := #[.slice none 0 0, .int .i64 0, .int .i64 0]) ?_ 0 _ rfl; (with_reducible repeat (first | refine blk_drewN ?_ _ | refine blk_drew ?_ | refine blk_alloc ?_ _)); exact BK305.out) hb); have n8_ := am (below_step (by repeat (first | (with_reducible first | exact HB.out | apply below_alloc | apply pw_below_drewN | apply below_drew1 | refine below_set ?_ GE281.out | refine below_set ?_ GE293.out | refine below_set ?_ GE299.out | refine below_set ?_ GE305.out) | exact HB.out)) hb); clear HO285; clear HO290; clear HO296; clear HO302; clear BK281; clear BK293; clear BK299; clear BK305; clear HB; have HO285 := n0_; have HO290 := n1_; have HO296 := n2_; have HO302 := n3_; have BK281 := n4_; have BK293 := n5_; have BK299 := n6_; have BK305 := n7_; have HB := n8_; clear n0_ n1_ n2_ n3_ n4_ n5_ n6_ n7_ n8_; (try clear hb); (try clear hb2); (try clear hk); (try clear hi)))
  (try simp only [Act.put, List.setIfInBounds_toArray, List.set_cons_zero, List.set_cons_succ])
  go_cut [] (fun wc => ∃ (kq : Nat), Aside0 (laws_FnExactBufMove.j0 kq a1 a2 a3 l0_0 a0_1 a0_2 t288 t291 t292 t294 t297 t298 t300 t303 t304 = some r) ∧ Aside0 (kq ≤ k) ∧ Aside0 (Kd.R (Kd.int .i64) 2 wc w.heap.size (fun k_ => some k_ ≠ ((.slice Ao30 t294.length co30) : Value).ownBlock ∧ some k_ ≠ ((.slice Ao36 t300.length co36) : Value).ownBlock) (.slice Ao24 t288.length co24) t288) ∧ Aside0 (Kd.R (Kd.int .i64) 2 wc w.heap.size (fun k_ => some k_ ≠ ((.slice Ao24 t288.length co24) : Value).ownBlock ∧ some k_ ≠ ((.slice Ao36 t300.length co36) : Value).ownBlock) (.slice Ao30 t294.length co30) t294) ∧ Aside0 (Kd.R (Kd.int .i64) 2 wc w.heap.size (fun k_ => some k_ ≠ ((.slice Ao24 t288.length co24) : Value).ownBlock ∧ some k_ ≠ ((.slice Ao30 t294.length co30) : Value).ownBlock) (.slice Ao36 t300.length co36) t300) ∧ Aside0 (wc.heap[gb281]? = some (.cells #[(.slice A0_0 l0_0.length c0_0), .int .i64 a0_1, .int .i64 a0_2] 24 (0, 0))) ∧ Aside0 (wc.heap[gb293]? = some (.cells #[(.slice Ao24 t288.length co24), .int .i64 t291, .int .i64 t292] 26 (0, 0))) ∧ Aside0 (wc.heap[gb299]? = some (.cells #[(.slice Ao30 t294.length co30), .int .i64 t297, .int .i64 t298] 26 (0, 0))) ∧ Aside0 (wc.heap[gb305]? = some (.cells #[(.slice Ao36 t300.length co36), .int .i64 t303, .int .i64 t304] 26 (0, 0))) ∧ Aside0 (Below w.heap.size w wc))
  case first =>
   have H := HC15.out
   clear HC15
   by_cases c43 : t306 = true
   ·subst c43
    have H1 : (laws_FnExactBufMove.j0 k a1 a2 a3 l0_0 a0_1 a0_2 t288 t291 t292 t294 t297 t298 t300 t303 t304) = some r := by rw [if_pos rfl] at H; exact H
    clear H
    have H := H1
    clear H1
    have H' := Aside0.mk H
    clear H
    go_wp2
    go_meet
    case rel => exact ⟨_, H', ⟨by first | omega | exact Nat.le_refl _⟩, ⟨by (with_reducible repeat (first | apply Kd.R_alloc | apply Kd.R_drewN | apply Kd.R_drew)); exact Kd.R_mono HO290.out (fun _ hk => ⟨hk.1.2, hk.2⟩)⟩, ⟨by (with_reducible repeat (first | apply Kd.R_alloc | apply Kd.R_drewN | apply Kd.R_drew)); exact Kd.R_mono HO296.out (fun _ hk => ⟨hk.1.2, hk.2⟩)⟩, ⟨by (with_reducible repeat (first | apply Kd.R_alloc | apply Kd.R_drewN | apply Kd.R_drew)); exact Kd.R_mono HO302.out (fun _ hk => ⟨hk.1.2, hk.2⟩)⟩, ⟨by (with_reducible repeat (first | refine blk_drewN ?_ _ | refine blk_drew ?_ | refine blk_alloc ?_ _)); exact BK281.out⟩, ⟨by (with_reducible repeat (first | refine blk_drewN ?_ _ | refine blk_drew ?_ | refine blk_alloc ?_ _)); exact BK293.out⟩, ⟨by (with_reducible repeat (first | refine blk_drewN ?_ _ | refine blk_drew ?_ | refine blk_alloc ?_ _)); exact BK299.out⟩, ⟨by (with_reducible repeat (first | refine blk_drewN ?_ _ | refine blk_drew ?_ | refine blk_alloc ?_ _)); exact BK305.out⟩, ⟨by repeat (first | (with_reducible first | exact HB.out | apply below_alloc | apply pw_below_drewN | apply below_drew1 | refine below_set ?_ GE281.out | refine below_set ?_ GE293.out | refine below_set ?_ GE299.out | refine below_set ?_ GE305.out) | exact HB.out)⟩⟩
   ·replace c43 := Bool.eq_false_iff.mpr c43
    subst c43
    have H1 : (some false) = some r := by rw [if_neg (show ¬ (false = true) by decide)] at H; exact H
    clear H
    have H := H1
    clear H1
    obtain rfl := Option.some.inj H
    go_wp2
    go_ret
    exact ⟨by first | rfl | (simp [errW_none, errW_some] <;> rfl) | (simp [*, errW_none, errW_some] <;> rfl), by repeat (first | (with_reducible first | exact HB.out | apply below_alloc | apply pw_below_drewN | apply below_drew1 | refine below_set ?_ GE281.out | refine below_set ?_ GE293.out | refine below_set ?_ GE299.out | refine below_set ?_ GE305.out) | exact HB.out)⟩
  case rest =>
   clear HC15
   try clear c1
   try clear c2
   try clear p2
   try clear c3
   try clear c4
   try clear c6
   try clear c6b0
   try clear c9
   try clear c10
   try clear c11
   try clear c12
   try clear c13
   try clear c25
   try clear c31
   try clear c32
   try clear c37
   try clear c38
   try clear c39
   try clear c43
   try clear hcz17_0
   try clear hcz17_1
   try clear hcz17_2
   try clear hcz19_0
   try clear hcz19_1
   try clear hcz19_2
   try clear hcz26_0
   try clear hcz26_1
   try clear hcz26_2
   try clear hcz27_0
   try clear hcz27_1
   try clear hcz27_2
   try clear hcz33_0
   try clear hcz33_1
   try clear hcz33_2
   try clear hcz40_0
   try clear hcz40_1
   try clear hcz40_2
   try clear hcz41_0
   try clear hcz41_1
   try clear hcz41_2
   try clear hcz8_0
   try clear hcz8_1
   try clear hcz8_2
   try clear hfz17_0
   try clear hfz17_1
   try clear hfz17_2
   try clear hfz19_0
   try clear hfz19_1
   try clear hfz19_2
   try clear hfz26_0
   try clear hfz26_1
   try clear hfz26_2
   try clear hfz27_0
   try clear hfz27_1
   try clear hfz27_2
   try clear hfz33_0
   try clear hfz33_1
   try clear hfz33_2
   try clear hfz40_0
   try clear hfz40_1
   try clear hfz40_2
   try clear hfz41_0
   try clear hfz41_1
   try clear hfz41_2
   try clear hfz8_0
   try clear hfz8_1
   try clear hfz8_2
   obtain ⟨kq, HA, HJ14, HO_294000, HO_300000, HO_306000, BK281, BK293, BK299, BK305, HB⟩ := hcut
   cases kq with
   | zero => exact absurd HA.out (by simp [laws_FnExactBufMove.j0])
   | succ kj14 =>
    have H := HA.out
    clear HA
    simp only [laws_FnExactBufMove.j0] at H
    replace H := Option.bind_eq_some_iff.mp H
    obtain ⟨⟨t307, t310, t311⟩, A440, H⟩ := H
    replace H : ((laws_eqBuf.f kj14 t294 t297 t298 t307 t310 t311).bind fun t312 => (if t312 = true then (laws_FnExactBufMove.j1 kj14 a1 a2 a3 l0_0 a0_1 a0_2 t288 t291 t292 t294 t297 t298 t300 t303 t304) else (some false))) = some r := H
    have A44 := Aside0.mk A440
    clear A440
    replace H := Option.bind_eq_some_iff.mp H
    obtain ⟨t312, A450, H⟩ := H
    replace H : (if t312 = true then (laws_FnExactBufMove.j1 kj14 a1 a2 a3 l0_0 a0_1 a0_2 t288 t291 t292 t294 t297 t298 t300 t303 t304) else (some false)) = some r := H
    have A45 := Aside0.mk A450
    clear A450
    have HC46 := Aside0.mk H
    clear H
    try go_wp2
    have n0_ := am (Kd.R_drew HO_294000.out)
    have n1_ := am (Kd.R_drew HO_300000.out)
    have n2_ := am (Kd.R_drew HO_306000.out)
    have n3_ := am (blk_drew BK281.out)
    have n4_ := am (blk_drew BK293.out)
    have n5_ := am (blk_drew BK299.out)
    have n6_ := am (blk_drew BK305.out)
    have n7_ := am (below_drew1 HB.out)
    clear HO_294000
    clear HO_300000
    clear HO_306000
    clear BK281
    clear BK293
    clear BK299
    clear BK305
    clear HB
    have HO_294000 := n0_
    have HO_300000 := n1_
    have HO_306000 := n2_
    have BK281 := n3_
    have BK293 := n4_
    have BK299 := n5_
    have BK305 := n6_
    have HB := n7_
    clear n0_ n1_ n2_ n3_ n4_ n5_ n6_ n7_
    refine start_ (n := 5) (S := fun w' => w'.cell? ⟨gb299, 0, none⟩ = some (.slice Ao30 t294.length co30) ∧ w'.cell? ⟨gb299, 1, none⟩ = some (.int .i64 t297) ∧ w'.cell? ⟨gb299, 2, none⟩ = some (.int .i64 t298) ∧ w'.cell? ⟨gb281, 0, none⟩ = some (.slice A0_0 l0_0.length c0_0) ∧ w'.cell? ⟨gb281, 1, none⟩ = some (.int .i64 a0_1) ∧ w'.cell? ⟨gb281, 2, none⟩ = some (.int .i64 a0_2)) (ds := []) #[false, false, false, false, false] (by kernel_rfl) rfl rfl ⟨(blk_cell BK299.out 0).trans rfl, (blk_cell BK299.out 1).trans rfl, (blk_cell BK299.out 2).trans rfl, (blk_cell BK281.out 0).trans rfl, (blk_cell BK281.out 1).trans rfl, (blk_cell BK281.out 2).trans rfl⟩ (fun hHeld => ?_)
    generalize wc.drew = w47 at HO_294000 HO_300000 HO_306000 BK281 BK293 BK299 BK305 HB hHeld ⊢
    refine take_ (i := 0) (N := some 39) (v := ?_) (a' := ?_) #[true, false, false, false, false] rfl rfl (by kernel_rfl) (fun _ _ _ h => h) (Or.inl ⟨by rfl, ?_⟩) hHeld ?_ ?_
    rotate_left
    ·rintro w' ⟨s0, s1, s2, s3, s4, s5⟩
     go_simp
     with_reducible rfl
    rotate_left
    ·simp only [Act.put, List.setIfInBounds_toArray, List.set_cons_zero, List.set_cons_succ, i64_w, i32_w]
     rfl
    refine take_ (i := 1) (N := some 40) (v := ?_) (a' := ?_) #[true, true, false, false, false] rfl rfl (by kernel_rfl) (fun _ _ _ h => h) (Or.inl ⟨by rfl, ?_⟩) hHeld ?_ ?_
    rotate_left
    ·rintro w' ⟨s0, s1, s2, s3, s4, s5⟩
     go_simp
     with_reducible rfl
    rotate_left
    ·simp only [Act.put, List.setIfInBounds_toArray, List.set_cons_zero, List.set_cons_succ, i64_w, i32_w]
     rfl
    refine one_ (i := 2) (N := some 41) #[true, true, true, false, false] rfl rfl (by kernel_rfl) (by decide) (fun K hK => ?_)
    refine goes_ Try.func11 (by kernel_rfl) rfl #[.agg #[.slice A0_0 l0_0.length c0_0, .int .i64 a0_1, .int .i64 a0_2]] (by rfl) rfl rfl (by (try simp only [List.map_toArray, List.map_cons, List.map_nil]); first | done | rfl | (simp only [List.length_drop, List.length_take]; rfl)) ?_
    with_reducible refine (laws_toBuf.calls kj14 _ _ l0_0 a0_1 a0_2 t307 t310 t311 _ ?side1 ?side2 A44.out).mono ?_
    (case side1 => repeat (first | exact (Kd.C_below HR0_0.out HB.out) | (with_reducible refine Kd.C_alloc ?_ _) | (with_reducible refine Kd.C_drewN ?_ _) | (with_reducible refine Kd.C_drew ?_)))
    (case side2 => exact HC0_0.out)
    rintro e w48 ⟨v308, rfl, ho0, hb⟩
    refine ⟨_, rfl, ?_⟩
    have n0_ := am (Kd.R_elder' (by (with_reducible repeat (first | apply Kd.R_alloc | apply Kd.R_drewN | apply Kd.R_drew)); exact HO_294000.out) (Kd.R_base ho0) hb)
    have n1_ := am (Kd.R_elder' (by (with_reducible repeat (first | apply Kd.R_alloc | apply Kd.R_drewN | apply Kd.R_drew)); exact HO_300000.out) (Kd.R_base ho0) hb)
    have n2_ := am (Kd.R_elder' (by (with_reducible repeat (first | apply Kd.R_alloc | apply Kd.R_drewN | apply Kd.R_drew)); exact HO_306000.out) (Kd.R_base ho0) hb)
    have n3_ := am (Kd.R_lower (Kd.R_new' (Kd.R_new' (Kd.R_new' ho0 (Kd.R_lt (by (with_reducible repeat (first | apply Kd.R_alloc | apply Kd.R_drewN | apply Kd.R_drew)); exact HO_294000.out))) (Kd.R_lt (by (with_reducible repeat (first | apply Kd.R_alloc | apply Kd.R_drewN | apply Kd.R_drew)); exact HO_300000.out))) (Kd.R_lt (by (with_reducible repeat (first | apply Kd.R_alloc | apply Kd.R_drewN | apply Kd.R_drew)); exact HO_306000.out))) (below_size (by repeat (first | (with_reducible first | exact HB.out | apply below_alloc | apply pw_below_drewN | apply below_drew1 | refine below_set ?_ GE281.out | refine below_set ?_ GE293.out | refine below_set ?_ GE299.out | refine below_set ?_ GE305.out) | exact HB.out))))
    have n4_ := am (blk_below (g := gb281) (o := .cells #[.slice A0_0 l0_0.length c0_0, .int .i64 a0_1, .int .i64 a0_2] 24 (0, 0)) (pk BK281.out) hb)
    have n5_ := am (blk_below (g := gb293) (o := .cells #[.slice Ao24 t288.length co24, .int .i64 t291, .int .i64 t292] 26 (0, 0)) (pk BK293.out) hb)
    have n6_ := am (blk_below (g := gb299) (o := .cells #[.slice Ao30 t294.length co30, .int .i64 t297, .int .i64 t298] 26 (0, 0)) (pk BK299.out) hb)
    have n7_ := am (blk_below (g := gb305) (o := .cells #[.slice Ao36 t300.length co36, .int .i64 t303, .int .i64 t304] 26 (0, 0)) (pk BK305.out) hb)
    have n8_ := am (below_step (by repeat (first | (with_reducible first | exact HB.out | apply below_alloc | apply pw_below_drewN | apply below_drew1 | refine below_set ?_ GE281.out | refine below_set ?_ GE293.out | refine below_set ?_ GE299.out | refine below_set ?_ GE305.out) | exact HB.out)) hb)
    clear HO_294000
    clear HO_300000
    clear HO_306000
    clear BK281
    clear BK293
    clear BK299
    clear BK305
    clear HB
    have HO_294000 := n0_
    have HO_300000 := n1_
    have HO_306000 := n2_
    have HO309 := n3_
    have BK281 := n4_
    have BK293 := n5_
    have BK299 := n6_
    have BK305 := n7_
    have HB := n8_
    clear n0_ n1_ n2_ n3_ n4_ n5_ n6_ n7_ n8_
    (try clear hb)
    (try clear hb2)
    (try clear hk)
    (try clear hi)
    (try clear ho0)
    obtain ⟨Ao49, co49, eo49⟩ := Kd.R_slice HO309.out
    (first | subst eo49 | (injection eo49 with f1_ f2_ f3_; have f4_ := f1_.symm; have f5_ := f3_.symm; clear f1_ f2_ f3_; subst f4_; subst f5_))
    refine hK.out _ _ ⟨(blk_cell BK299.out 0).trans rfl, (blk_cell BK299.out 1).trans rfl, (blk_cell BK299.out 2).trans rfl, (blk_cell BK281.out 0).trans rfl, (blk_cell BK281.out 1).trans rfl, (blk_cell BK281.out 2).trans rfl⟩ (fun hHeld => ?_)
    clear hK K
    refine norm_ (a' := ?_) ?_ ?_
    rotate_left
    ·show Act.put _ (some 41) _ = _
     simp only [Act.put, List.setIfInBounds_toArray, List.set_cons_zero, List.set_cons_succ, i64_w, i32_w]
     rfl
    refine one_ (i := 3) (N := some 42) #[true, true, true, true, false] rfl rfl (by kernel_rfl) (by decide) (fun K hK => ?_)
    refine goes_ Try.func13 (by kernel_rfl) rfl #[.agg #[.slice Ao30 t294.length co30, .int .i64 t297, .int .i64 t298], .agg #[.slice Ao49 t307.length co49, .int .i64 t310, .int .i64 t311]] (by rfl) rfl rfl (by (try simp only [List.map_toArray, List.map_cons, List.map_nil]); first | done | rfl | (simp only [List.length_drop, List.length_take]; rfl)) ?_
    with_reducible refine (laws_eqBuf.calls kj14 _ _ t294 t297 t298 _ _ t307 t310 t311 t312 _ ?side1 ?side2 ?side3 ?side4 A45.out).mono ?_
    (case side1 => repeat (first | exact (Kd.R_reads' HO_300000.out).2.2 | (with_reducible refine Kd.C_alloc ?_ _) | (with_reducible refine Kd.C_drewN ?_ _) | (with_reducible refine Kd.C_drew ?_)))
    (case side2 => exact (Kd.R_reads' HO_300000.out).2.1)
    (case side3 => repeat (first | exact (Kd.R_reads' HO309.out).2.2 | (with_reducible refine Kd.C_alloc ?_ _) | (with_reducible refine Kd.C_drewN ?_ _) | (with_reducible refine Kd.C_drew ?_)))
    (case side4 => exact (Kd.R_reads' HO309.out).2.1)
    rintro e w50 ⟨rfl, hb⟩
    refine ⟨_, rfl, ?_⟩
    have n0_ := am (Kd.R_below (by (with_reducible repeat (first | apply Kd.R_alloc | apply Kd.R_drewN | apply Kd.R_drew)); exact HO_294000.out) hb)
    have n1_ := am (Kd.R_below (by (with_reducible repeat (first | apply Kd.R_alloc | apply Kd.R_drewN | apply Kd.R_drew)); exact HO_300000.out) hb)
    have n2_ := am (Kd.R_below (by (with_reducible repeat (first | apply Kd.R_alloc | apply Kd.R_drewN | apply Kd.R_drew)); exact HO_306000.out) hb)
    have n3_ := am (Kd.R_below (by (with_reducible repeat (first | apply Kd.R_alloc | apply Kd.R_drewN | apply Kd.R_drew)); exact HO309.out) hb)
    have n4_ := am (blk_below (g := gb281) (o := .cells #[.slice A0_0 l0_0.length c0_0, .int .i64 a0_1, .int .i64 a0_2] 24 (0, 0)) (pk BK281.out) hb)
    have n5_ := am (blk_below (g := gb293) (o := .cells #[.slice Ao24 t288.length co24, .int .i64 t291, .int .i64 t292] 26 (0, 0)) (pk BK293.out) hb)
    have n6_ := am (blk_below (g := gb299) (o := .cells #[.slice Ao30 t294.length co30, .int .i64 t297, .int .i64 t298] 26 (0, 0)) (pk BK299.out) hb)
    have n7_ := am (blk_below (g := gb305) (o := .cells #[.slice Ao36 t300.length co36, .int .i64 t303, .int .i64 t304] 26 (0, 0)) (pk BK305.out) hb)
    have n8_ := am (below_step (by repeat (first | (with_reducible first | exact HB.out | apply below_alloc | apply pw_below_drewN | apply below_drew1 | refine below_set ?_ GE281.out | refine below_set ?_ GE293.out | refine below_set ?_ GE299.out | refine below_set ?_ GE305.out) | exact HB.out)) hb)
    clear HO_294000
    clear HO_300000
    clear HO_306000
    clear HO309
    clear BK281
    clear BK293
    clear BK299
    clear BK305
    clear HB
    have HO_294000 := n0_
    have HO_300000 := n1_
    have HO_306000 := n2_
    have HO309 := n3_
    have BK281 := n4_
    have BK293 := n5_
    have BK299 := n6_
    have BK305 := n7_
    have HB := n8_
    clear n0_ n1_ n2_ n3_ n4_ n5_ n6_ n7_ n8_
    (try clear hb)
    (try clear hb2)
    (try clear hk)
    (try clear hi)
    refine hK.out _ _ ⟨(blk_cell BK299.out 0).trans rfl, (blk_cell BK299.out 1).trans rfl, (blk_cell BK299.out 2).trans rfl, (blk_cell BK281.out 0).trans rfl, (blk_cell BK281.out 1).trans rfl, (blk_cell BK281.out 2).trans rfl⟩ (fun hHeld => ?_)
    clear hK K
    refine norm_ (a' := ?_) ?_ ?_
    rotate_left
    ·show Act.put _ (some 42) _ = _
     simp only [Act.put, List.setIfInBounds_toArray, List.set_cons_zero, List.set_cons_succ, i64_w, i32_w]
     rfl
    refine pure_ (i := 4) (N := some 43) (v := ?_) (a' := ?_) #[true, true, true, true, true] rfl rfl (by kernel_rfl) (fun _ _ _ h => h) (Or.inl ⟨by rfl, ?_⟩) ?_ ?_
    rotate_left
    ·intro w'
     go_simp
     with_reducible rfl
    rotate_left
    ·simp only [Act.put, List.setIfInBounds_toArray, List.set_cons_zero, List.set_cons_succ, i64_w, i32_w]
     rfl
    refine done_ (by kernel_rfl) ?_
    go_upto_if 43 with (fail)
    go_cut [] (fun wc => ∃ (kq : Nat), Aside0 (laws_FnExactBufMove.j1 kq a1 a2 a3 l0_0 a0_1 a0_2 t288 t291 t292 t294 t297 t298 t300 t303 t304 = some r) ∧ Aside0 (kq ≤ kj14) ∧ Aside0 (Kd.R (Kd.int .i64) 2 wc w.heap.size (fun k_ => some k_ ≠ ((.slice Ao30 t294.length co30) : Value).ownBlock ∧ some k_ ≠ ((.slice Ao36 t300.length co36) : Value).ownBlock) (.slice Ao24 t288.length co24) t288) ∧ Aside0 (Kd.R (Kd.int .i64) 2 wc w.heap.size (fun k_ => some k_ ≠ ((.slice Ao24 t288.length co24) : Value).ownBlock ∧ some k_ ≠ ((.slice Ao36 t300.length co36) : Value).ownBlock) (.slice Ao30 t294.length co30) t294) ∧ Aside0 (Kd.R (Kd.int .i64) 2 wc w.heap.size (fun k_ => some k_ ≠ ((.slice Ao24 t288.length co24) : Value).ownBlock ∧ some k_ ≠ ((.slice Ao30 t294.length co30) : Value).ownBlock) (.slice Ao36 t300.length co36) t300) ∧ Aside0 (wc.heap[gb281]? = some (.cells #[(.slice A0_0 l0_0.length c0_0), .int .i64 a0_1, .int .i64 a0_2] 24 (0, 0))) ∧ Aside0 (wc.heap[gb293]? = some (.cells #[(.slice Ao24 t288.length co24), .int .i64 t291, .int .i64 t292] 26 (0, 0))) ∧ Aside0 (wc.heap[gb299]? = some (.cells #[(.slice Ao30 t294.length co30), .int .i64 t297, .int .i64 t298] 26 (0, 0))) ∧ Aside0 (wc.heap[gb305]? = some (.cells #[(.slice Ao36 t300.length co36), .int .i64 t303, .int .i64 t304] 26 (0, 0))) ∧ Aside0 (Below w.heap.size w wc))
    case first =>
     have H := HC46.out
     clear HC46
     by_cases c51 : t312 = true
     ·subst c51
      have H1 : (laws_FnExactBufMove.j1 kj14 a1 a2 a3 l0_0 a0_1 a0_2 t288 t291 t292 t294 t297 t298 t300 t303 t304) = some r := by rw [if_pos rfl] at H; exact H
      clear H
      have H := H1
      clear H1
      have H' := Aside0.mk H
      clear H
      go_wp2
      go_meet
      case rel => exact ⟨_, H', ⟨by have := HJ14.out; first | omega | exact Nat.le_refl _⟩, ⟨by (with_reducible repeat (first | apply Kd.R_alloc | apply Kd.R_drewN | apply Kd.R_drew)); exact Kd.R_mono HO_294000.out (fun _ hk => ⟨hk.1.1, hk.1.2⟩)⟩, ⟨by (with_reducible repeat (first | apply Kd.R_alloc | apply Kd.R_drewN | apply Kd.R_drew)); exact Kd.R_mono HO_300000.out (fun _ hk => ⟨hk.1.1, hk.1.2⟩)⟩, ⟨by (with_reducible repeat (first | apply Kd.R_alloc | apply Kd.R_drewN | apply Kd.R_drew)); exact Kd.R_mono HO_306000.out (fun _ hk => ⟨hk.1.1, hk.1.2⟩)⟩, ⟨by (with_reducible repeat (first | refine blk_drewN ?_ _ | refine blk_drew ?_ | refine blk_alloc ?_ _)); exact BK281.out⟩, ⟨by (with_reducible repeat (first | refine blk_drewN ?_ _ | refine blk_drew ?_ | refine blk_alloc ?_ _)); exact BK293.out⟩, ⟨by (with_reducible repeat (first | refine blk_drewN ?_ _ | refine blk_drew ?_ | refine blk_alloc ?_ _)); exact BK299.out⟩, ⟨by (with_reducible repeat (first | refine blk_drewN ?_ _ | refine blk_drew ?_ | refine blk_alloc ?_ _)); exact BK305.out⟩, ⟨by repeat (first | (with_reducible first | exact HB.out | apply below_alloc | apply pw_below_drewN | apply below_drew1 | refine below_set ?_ GE281.out | refine below_set ?_ GE293.out | refine below_set ?_ GE299.out | refine below_set ?_ GE305.out) | exact HB.out)⟩⟩
     ·replace c51 := Bool.eq_false_iff.mpr c51
      subst c51
      have H1 : (some false) = some r := by rw [if_neg (show ¬ (false = true) by decide)] at H; exact H
      clear H
      have H := H1
      clear H1
      obtain rfl := Option.some.inj H
      go_wp2
      go_ret
      exact ⟨by first | rfl | (simp [errW_none, errW_some] <;> rfl) | (simp [*, errW_none, errW_some] <;> rfl), by repeat (first | (with_reducible first | exact HB.out | apply below_alloc | apply pw_below_drewN | apply below_drew1 | refine below_set ?_ GE281.out | refine below_set ?_ GE293.out | refine below_set ?_ GE299.out | refine below_set ?_ GE305.out) | exact HB.out)⟩
    case rest =>
     clear HC46
     try clear c1
     try clear c2
     try clear p2
     try clear c3
     try clear c4
     try clear c5
     try clear c6
     try clear c6b0
     try clear c9
     try clear c10
     try clear c11
     try clear c12
     try clear c13
     try clear c25
     try clear c31
     try clear c32
     try clear c37
     try clear c38
     try clear c39
     try clear c43
     try clear c51
     try clear hcz17_0
     try clear hcz17_1
     try clear hcz17_2
     try clear hcz19_0
     try clear hcz19_1
     try clear hcz19_2
     try clear hcz26_0
     try clear hcz26_1
     try clear hcz26_2
     try clear hcz27_0
     try clear hcz27_1
     try clear hcz27_2
     try clear hcz33_0
     try clear hcz33_1
     try clear hcz33_2
     try clear hcz40_0
     try clear hcz40_1
     try clear hcz40_2
     try clear hcz41_0
     try clear hcz41_1
     try clear hcz41_2
     try clear hcz8_0
     try clear hcz8_1
     try clear hcz8_2
     try clear hfz17_0
     try clear hfz17_1
     try clear hfz17_2
     try clear hfz19_0
     try clear hfz19_1
     try clear hfz19_2
     try clear hfz26_0
     try clear hfz26_1
     try clear hfz26_2
     try clear hfz27_0
     try clear hfz27_1
     try clear hfz27_2
     try clear hfz33_0
     try clear hfz33_1
     try clear hfz33_2
     try clear hfz40_0
     try clear hfz40_1
     try clear hfz40_2
     try clear hfz41_0
     try clear hfz41_1
     try clear hfz41_2
     try clear hfz8_0
     try clear hfz8_1
     try clear hfz8_2
     try clear p2
     obtain ⟨kq, HA, HJ45, HO_294000, HO_300000, HO_306000, BK281, BK293, BK299, BK305, HB⟩ := hcut
     cases kq with
     | zero => exact absurd HA.out (by simp [laws_FnExactBufMove.j1])
     | succ kj45 =>
      have H := HA.out
      clear HA
      simp only [laws_FnExactBufMove.j1] at H
      replace H := Option.bind_eq_some_iff.mp H
      obtain ⟨⟨t313, t314⟩, A520, H⟩ := H
      replace H : (if t313 < 0 then (laws_FnExactBufMove.j2 kj45 a1 a2 a3 true l0_0 a0_1 a0_2 t288 t291 t292 t300 t303 t304) else ((laws_eqBuf.f kj45 t300 t303 t304 t288 t291 t292).bind fun t315 => (laws_FnExactBufMove.j2 kj45 a1 a2 a3 (!t315) l0_0 a0_1 a0_2 t288 t291 t292 t300 t303 t304))) = some r := H
      have A52 := Aside0.mk A520
      clear A520
      have HC53 := Aside0.mk H
      clear H
      have hnb54 := NB299_281.out
      have hnc54 := NB281_299.out
      have hnb55 := NB299_293.out
      have hnc55 := NB293_299.out
      have hnb56 := NB299_305.out
      have hnc56 := NB305_299.out
      have hcz57_0 : wc.cell? ⟨gb299, 0, none⟩ = some (.slice Ao30 t294.length co30) := (blk_cell BK299.out 0).trans rfl
      have hcz57_1 : wc.cell? ⟨gb299, 1, none⟩ = some (.int .i64 t297) := (blk_cell BK299.out 1).trans rfl
      have hcz57_2 : wc.cell? ⟨gb299, 2, none⟩ = some (.int .i64 t298) := (blk_cell BK299.out 2).trans rfl
      have hfz57_0 := blk_frozen BK299.out 0
      have hfz57_1 := blk_frozen BK299.out 1
      have hfz57_2 := blk_frozen BK299.out 2
      go_upto_region 14 with (first | ((with_reducible refine gate_callee (f := 14) rfl ?_); refine gl (some 46) Try.func14 #[.agg #[.slice Ao30 t294.length co30, .int .i64 t297, .int .i64 t298], .int .i64 1] ?_; (with_reducible refine (laws_markBuf.calls kj45 (fun k_ => some k_ = (.slice Ao30 t294.length co30 : Value).ownBlock) (.slice Ao30 t294.length co30) t294 t297 t298 1 t313 t314 w _ ?side1 ?side2 A52.out).mono ?_); (case side1 => repeat (first | (with_reducible first | exact HB.out | apply below_alloc | apply pw_below_drewN | apply below_drew1 | refine below_set ?_ GE281.out | refine below_set ?_ GE293.out | refine below_set ?_ GE299.out | refine below_set ?_ GE305.out) | exact HB.out)); (case side2 => exact Kd.R_tight rfl HO_300000.out); rintro e w58 ⟨rfl, hy0, hb, hkp⟩; refine ⟨_, rfl, ?_⟩; have n0_ := am (Kd.R_mono (ok' := fun k_ => some k_ ≠ (.slice Ao30 t294.length co30 : Value).ownBlock ∧ some k_ ≠ (.slice Ao36 t300.length co36 : Value).ownBlock) (Kd.R_keptB (HO_294000.out) hkp (fun k_ hk_ hs_ => (hk_.1) hs_)) (fun k_ hk_ => ⟨hk_.1.1, hk_.1.2⟩)); have n1_ := am (Kd.R_reok rfl hy0 (fun k_ e_ => HO_300000.out.1 k_ e_)); have n2_ := am (Kd.R_mono (ok' := fun k_ => some k_ ≠ (.slice Ao24 t288.length co24 : Value).ownBlock ∧ some k_ ≠ (.slice Ao30 t294.length co30 : Value).ownBlock) (Kd.R_keptB (HO_306000.out) hkp (fun k_ hk_ hs_ => (hk_.2) hs_)) (fun k_ hk_ => ⟨hk_.1.1, hk_.1.2⟩)); have n3_ := am (blk_kept (pk BK281.out) hkp (fun hs_ => (fun e_ => (Kd.R_ne HO_300000.out BK281.out (by decide)) e_) hs_)); have n4_ := am (blk_kept (pk BK293.out) hkp (fun hs_ => (fun e_ => (Kd.R_ne HO_300000.out BK293.out (by decide)) e_) hs_)); have n5_ := am (blk_kept (pk BK299.out) hkp (fun hs_ => (fun e_ => (Kd.R_ne HO_300000.out BK299.out (by decide)) e_) hs_)); have n6_ := am (blk_kept (pk BK305.out) hkp (fun hs_ => (fun e_ => (Kd.R_ne HO_300000.out BK305.out (by decide)) e_) hs_)); have n7_ := am (hb); clear HO_294000; clear HO_300000; clear HO_306000; clear BK281; clear BK293; clear BK299; clear BK305; clear HB; have HO_294000 := n0_; have HO_300000 := n1_; have HO_306000 := n2_; have BK281 := n3_; have BK293 := n4_; have BK299 := n5_; have BK305 := n6_; have HB := n7_; clear n0_ n1_ n2_ n3_ n4_ n5_ n6_ n7_; (try clear hb); (try clear hkp); (try clear hy0)))
      (try simp only [Act.put, List.setIfInBounds_toArray, List.set_cons_zero, List.set_cons_succ])
      go_cut [54] (fun v54 wc => ∃ (kq : Nat) (x54_52 : Bool), v54 = .bool x54_52 ∧ Aside0 (laws_FnExactBufMove.j2 kq a1 a2 a3 x54_52 l0_0 a0_1 a0_2 t288 t291 t292 t300 t303 t304 = some r) ∧ Aside0 (kq ≤ kj45) ∧ Aside0 (Kd.R (Kd.int .i64) 2 wc w.heap.size (fun k_ => some k_ ≠ ((.slice Ao30 t294.length co30) : Value).ownBlock ∧ some k_ ≠ ((.slice Ao36 t300.length co36) : Value).ownBlock) (.slice Ao24 t288.length co24) t288) ∧ Aside0 (Kd.R (Kd.int .i64) 2 wc w.heap.size (fun k_ => some k_ ≠ ((.slice Ao24 t288.length co24) : Value).ownBlock ∧ some k_ ≠ ((.slice Ao36 t300.length co36) : Value).ownBlock) (.slice Ao30 t294.length co30) t314) ∧ Aside0 (Kd.R (Kd.int .i64) 2 wc w.heap.size (fun k_ => some k_ ≠ ((.slice Ao24 t288.length co24) : Value).ownBlock ∧ some k_ ≠ ((.slice Ao30 t294.length co30) : Value).ownBlock) (.slice Ao36 t300.length co36) t300) ∧ Aside0 (wc.heap[gb281]? = some (.cells #[(.slice A0_0 l0_0.length c0_0), .int .i64 a0_1, .int .i64 a0_2] 24 (0, 0))) ∧ Aside0 (wc.heap[gb293]? = some (.cells #[(.slice Ao24 t288.length co24), .int .i64 t291, .int .i64 t292] 26 (0, 0))) ∧ Aside0 (wc.heap[gb299]? = some (.cells #[(.slice Ao30 t294.length co30), .int .i64 t297, .int .i64 t298] 26 (0, 0))) ∧ Aside0 (wc.heap[gb305]? = some (.cells #[(.slice Ao36 t300.length co36), .int .i64 t303, .int .i64 t304] 26 (0, 0))) ∧ Aside0 (Below w.heap.size w wc))
      case first =>
       have H := HC53.out
       clear HC53
       by_cases c59 : t313 < 0
       ·rw [if_pos c59] at H
        have c59b0 : decide (t313 < 0) = true := decide_eq_true c59
        clear c59
        (first | rw [c59b0] | (simp only [i64_w, i32_w]; rw [c59b0]) | (have e9_ := c59b0; unfold bne at e9_; rw [e9_]) | skip)
        have H' := Aside0.mk H
        clear H
        go_wp2
        go_meet
        case rel => exact ⟨_, (true), (by first | rfl | (simp; done) | (simp [*]; done)), H', ⟨by have := HJ14.out; have := HJ45.out; first | omega | exact Nat.le_refl _⟩, ⟨by (with_reducible repeat (first | apply Kd.R_alloc | apply Kd.R_drewN | apply Kd.R_drew)); exact HO_294000.out⟩, ⟨by (with_reducible repeat (first | apply Kd.R_alloc | apply Kd.R_drewN | apply Kd.R_drew)); exact HO_300000.out⟩, ⟨by (with_reducible repeat (first | apply Kd.R_alloc | apply Kd.R_drewN | apply Kd.R_drew)); exact HO_306000.out⟩, ⟨by (with_reducible repeat (first | refine blk_drewN ?_ _ | refine blk_drew ?_ | refine blk_alloc ?_ _)); exact BK281.out⟩, ⟨by (with_reducible repeat (first | refine blk_drewN ?_ _ | refine blk_drew ?_ | refine blk_alloc ?_ _)); exact BK293.out⟩, ⟨by (with_reducible repeat (first | refine blk_drewN ?_ _ | refine blk_drew ?_ | refine blk_alloc ?_ _)); exact BK299.out⟩, ⟨by (with_reducible repeat (first | refine blk_drewN ?_ _ | refine blk_drew ?_ | refine blk_alloc ?_ _)); exact BK305.out⟩, ⟨by repeat (first | (with_reducible first | exact HB.out | apply below_alloc | apply pw_below_drewN | apply below_drew1 | refine below_set ?_ GE281.out | refine below_set ?_ GE293.out | refine below_set ?_ GE299.out | refine below_set ?_ GE305.out) | exact HB.out)⟩⟩
       ·rw [if_neg c59] at H
        have c59b0 : decide (t313 < 0) = false := decide_eq_false c59
        clear c59
        (first | rw [c59b0] | (simp only [i64_w, i32_w]; rw [c59b0]) | (have e9_ := c59b0; unfold bne at e9_; rw [e9_]) | skip)
        replace H := Option.bind_eq_some_iff.mp H
        obtain ⟨t315, A600, H⟩ := H
        replace H : (laws_FnExactBufMove.j2 kj45 a1 a2 a3 (!t315) l0_0 a0_1 a0_2 t288 t291 t292 t300 t303 t304) = some r := H
        have A60 := Aside0.mk A600
        clear A600
        have H' := Aside0.mk H
        clear H
        have hnb61 := NB305_281.out
        have hnc61 := NB281_305.out
        have hnb62 := NB305_293.out
        have hnc62 := NB293_305.out
        have hnb63 := NB305_299.out
        have hnc63 := NB299_305.out
        have hcz64_0 : w58.cell? ⟨gb305, 0, none⟩ = some (.slice Ao36 t300.length co36) := (blk_cell BK305.out 0).trans rfl
        have hcz64_1 : w58.cell? ⟨gb305, 1, none⟩ = some (.int .i64 t303) := (blk_cell BK305.out 1).trans rfl
        have hcz64_2 : w58.cell? ⟨gb305, 2, none⟩ = some (.int .i64 t304) := (blk_cell BK305.out 2).trans rfl
        have hfz64_0 := blk_frozen BK305.out 0
        have hfz64_1 := blk_frozen BK305.out 1
        have hfz64_2 := blk_frozen BK305.out 2
        have hnb65 := NB293_281.out
        have hnc65 := NB281_293.out
        have hnb66 := NB293_299.out
        have hnc66 := NB299_293.out
        have hcz67_0 : w58.cell? ⟨gb293, 0, none⟩ = some (.slice Ao24 t288.length co24) := (blk_cell BK293.out 0).trans rfl
        have hcz67_1 : w58.cell? ⟨gb293, 1, none⟩ = some (.int .i64 t291) := (blk_cell BK293.out 1).trans rfl
        have hcz67_2 : w58.cell? ⟨gb293, 2, none⟩ = some (.int .i64 t292) := (blk_cell BK293.out 2).trans rfl
        have hfz67_0 := blk_frozen BK293.out 0
        have hfz67_1 := blk_frozen BK293.out 1
        have hfz67_2 := blk_frozen BK293.out 2
        go_wp2_with (first | (go_at_call 13; (with_reducible refine (laws_eqBuf.calls kj45 _ _ t300 t303 t304 _ _ t288 t291 t292 t315 _ ?side1 ?side2 ?side3 ?side4 A60.out).mono ?_); (case side1 => repeat (first | exact (Kd.R_reads' HO_306000.out).2.2 | (with_reducible refine Kd.C_alloc ?_ _) | (with_reducible refine Kd.C_drewN ?_ _) | (with_reducible refine Kd.C_drew ?_))); (case side2 => exact (Kd.R_reads' HO_306000.out).2.1); (case side3 => repeat (first | exact (Kd.R_reads' HO_294000.out).2.2 | (with_reducible refine Kd.C_alloc ?_ _) | (with_reducible refine Kd.C_drewN ?_ _) | (with_reducible refine Kd.C_drew ?_))); (case side4 => exact (Kd.R_reads' HO_294000.out).2.1); rintro e w68 ⟨rfl, hb⟩; have n0_ := am (Kd.R_below (by (with_reducible repeat (first | apply Kd.R_alloc | apply Kd.R_drewN | apply Kd.R_drew)); exact HO_294000.out) hb); have n1_ := am (Kd.R_below (by (with_reducible repeat (first | apply Kd.R_alloc | apply Kd.R_drewN | apply Kd.R_drew)); exact HO_300000.out) hb); have n2_ := am (Kd.R_below (by (with_reducible repeat (first | apply Kd.R_alloc | apply Kd.R_drewN | apply Kd.R_drew)); exact HO_306000.out) hb); have n3_ := am (blk_below (g := gb281) (o := .cells #[.slice A0_0 l0_0.length c0_0, .int .i64 a0_1, .int .i64 a0_2] 24 (0, 0)) (pk BK281.out) hb); have n4_ := am (blk_below (g := gb293) (o := .cells #[.slice Ao24 t288.length co24, .int .i64 t291, .int .i64 t292] 26 (0, 0)) (pk BK293.out) hb); have n5_ := am (blk_below (g := gb299) (o := .cells #[.slice Ao30 t294.length co30, .int .i64 t297, .int .i64 t298] 26 (0, 0)) (pk BK299.out) hb); have n6_ := am (blk_below (g := gb305) (o := .cells #[.slice Ao36 t300.length co36, .int .i64 t303, .int .i64 t304] 26 (0, 0)) (pk BK305.out) hb); have n7_ := am (below_step (by repeat (first | (with_reducible first | exact HB.out | apply below_alloc | apply pw_below_drewN | apply below_drew1 | refine below_set ?_ GE281.out | refine below_set ?_ GE293.out | refine below_set ?_ GE299.out | refine below_set ?_ GE305.out) | exact HB.out)) hb); clear HO_294000; clear HO_300000; clear HO_306000; clear BK281; clear BK293; clear BK299; clear BK305; clear HB; have HO_294000 := n0_; have HO_300000 := n1_; have HO_306000 := n2_; have BK281 := n3_; have BK293 := n4_; have BK299 := n5_; have BK305 := n6_; have HB := n7_; clear n0_ n1_ n2_ n3_ n4_ n5_ n6_ n7_; (try clear hb); (try clear hb2); (try clear hk); (try clear hi)))
        go_meet
        case rel => exact ⟨_, (!t315), (by first | rfl | (simp; done) | (simp [*]; done)), H', ⟨by have := HJ14.out; have := HJ45.out; first | omega | exact Nat.le_refl _⟩, ⟨by (with_reducible repeat (first | apply Kd.R_alloc | apply Kd.R_drewN | apply Kd.R_drew)); exact HO_294000.out⟩, ⟨by (with_reducible repeat (first | apply Kd.R_alloc | apply Kd.R_drewN | apply Kd.R_drew)); exact HO_300000.out⟩, ⟨by (with_reducible repeat (first | apply Kd.R_alloc | apply Kd.R_drewN | apply Kd.R_drew)); exact HO_306000.out⟩, ⟨by (with_reducible repeat (first | refine blk_drewN ?_ _ | refine blk_drew ?_ | refine blk_alloc ?_ _)); exact BK281.out⟩, ⟨by (with_reducible repeat (first | refine blk_drewN ?_ _ | refine blk_drew ?_ | refine blk_alloc ?_ _)); exact BK293.out⟩, ⟨by (with_reducible repeat (first | refine blk_drewN ?_ _ | refine blk_drew ?_ | refine blk_alloc ?_ _)); exact BK299.out⟩, ⟨by (with_reducible repeat (first | refine blk_drewN ?_ _ | refine blk_drew ?_ | refine blk_alloc ?_ _)); exact BK305.out⟩, ⟨by repeat (first | (with_reducible first | exact HB.out | apply below_alloc | apply pw_below_drewN | apply below_drew1 | refine below_set ?_ GE281.out | refine below_set ?_ GE293.out | refine below_set ?_ GE299.out | refine below_set ?_ GE305.out) | exact HB.out)⟩⟩
      case rest =>
       clear HC53
       try clear c1
       try clear c2
       try clear p2
       try clear c3
       try clear c4
       try clear c5
       try clear c6
       try clear c6b0
       try clear c9
       try clear c10
       try clear c11
       try clear c12
       try clear c13
       try clear c14
       try clear c25
       try clear c31
       try clear c32
       try clear c37
       try clear c38
       try clear c39
       try clear c43
       try clear c51
       try clear c54
       try clear c55
       try clear c56
       try clear c59
       try clear c59b0
       try clear c61
       try clear c62
       try clear c63
       try clear c65
       try clear c66
       try clear hcz17_0
       try clear hcz17_1
       try clear hcz17_2
       try clear hcz19_0
       try clear hcz19_1
       try clear hcz19_2
       try clear hcz26_0
       try clear hcz26_1
       try clear hcz26_2
       try clear hcz27_0
       try clear hcz27_1
       try clear hcz27_2
       try clear hcz33_0
       try clear hcz33_1
       try clear hcz33_2
       try clear hcz40_0
       try clear hcz40_1
       try clear hcz40_2
       try clear hcz41_0
       try clear hcz41_1
       try clear hcz41_2
       try clear hcz57_0
       try clear hcz57_1
       try clear hcz57_2
       try clear hcz64_0
       try clear hcz64_1
       try clear hcz64_2
       try clear hcz67_0
       try clear hcz67_1
       try clear hcz67_2
       try clear hcz8_0
       try clear hcz8_1
       try clear hcz8_2
       try clear hfz17_0
       try clear hfz17_1
       try clear hfz17_2
       try clear hfz19_0
       try clear hfz19_1
       try clear hfz19_2
       try clear hfz26_0
       try clear hfz26_1
       try clear hfz26_2
       try clear hfz27_0
       try clear hfz27_1
       try clear hfz27_2
       try clear hfz33_0
       try clear hfz33_1
       try clear hfz33_2
       try clear hfz40_0
       try clear hfz40_1
       try clear hfz40_2
       try clear hfz41_0
       try clear hfz41_1
       try clear hfz41_2
       try clear hfz57_0
       try clear hfz57_1
       try clear hfz57_2
       try clear hfz64_0
       try clear hfz64_1
       try clear hfz64_2
       try clear hfz67_0
       try clear hfz67_1
       try clear hfz67_2
       try clear hfz8_0
       try clear hfz8_1
       try clear hfz8_2
       try clear p2
       obtain ⟨kq, x54_52, rfl, HA, HJ52, HO_294000, HO_300000, HO_306000, BK281, BK293, BK299, BK305, HB⟩ := hcut
       have hl300000_52 := (Kd.R_reads' HO_300000.out).1
       rw [hl300000_52] at HO_300000
       (try simp only [hl300000_52])
       (try simp only [hl300000_52] at BK281)
       (try simp only [hl300000_52] at BK293)
       (try simp only [hl300000_52] at BK299)
       (try simp only [hl300000_52] at BK305)
       (try simp only [hl300000_52] at HO_294000)
       (try simp only [hl300000_52] at HO_306000)
       cases kq with
       | zero => exact absurd HA.out (by simp [laws_FnExactBufMove.j2])
       | succ kj52 =>
        have H := HA.out
        clear HA
        simp only [laws_FnExactBufMove.j2] at H
        have HC69 := Aside0.mk H
        clear H
        go_upto_if 54 with (fail)
        go_cut [] (fun wc => ∃ (kq : Nat), Aside0 (laws_FnExactBufMove.j3 kq a1 a2 a3 l0_0 a0_1 a0_2 t288 t291 t292 t300 t303 t304 = some r) ∧ Aside0 (kq ≤ kj52) ∧ Aside0 (Kd.R (Kd.int .i64) 2 wc w.heap.size (fun k_ => some k_ ≠ ((.slice Ao30 t314.length co30) : Value).ownBlock ∧ some k_ ≠ ((.slice Ao36 t300.length co36) : Value).ownBlock) (.slice Ao24 t288.length co24) t288) ∧ Aside0 (Kd.R (Kd.int .i64) 2 wc w.heap.size (fun k_ => some k_ ≠ ((.slice Ao24 t288.length co24) : Value).ownBlock ∧ some k_ ≠ ((.slice Ao36 t300.length co36) : Value).ownBlock) (.slice Ao30 t314.length co30) t314) ∧ Aside0 (Kd.R (Kd.int .i64) 2 wc w.heap.size (fun k_ => some k_ ≠ ((.slice Ao24 t288.length co24) : Value).ownBlock ∧ some k_ ≠ ((.slice Ao30 t314.length co30) : Value).ownBlock) (.slice Ao36 t300.length co36) t300) ∧ Aside0 (wc.heap[gb281]? = some (.cells #[(.slice A0_0 l0_0.length c0_0), .int .i64 a0_1, .int .i64 a0_2] 24 (0, 0))) ∧ Aside0 (wc.heap[gb293]? = some (.cells #[(.slice Ao24 t288.length co24), .int .i64 t291, .int .i64 t292] 26 (0, 0))) ∧ Aside0 (wc.heap[gb299]? = some (.cells #[(.slice Ao30 t314.length co30), .int .i64 t297, .int .i64 t298] 26 (0, 0))) ∧ Aside0 (wc.heap[gb305]? = some (.cells #[(.slice Ao36 t300.length co36), .int .i64 t303, .int .i64 t304] 26 (0, 0))) ∧ Aside0 (Below w.heap.size w wc))
        case first =>
         have H := HC69.out
         clear HC69
         by_cases c70 : x54_52 = true
         ·subst c70
          have H1 : (some false) = some r := by rw [if_pos rfl] at H; exact H
          clear H
          have H := H1
          clear H1
          obtain rfl := Option.some.inj H
          go_wp2
          go_ret
          exact ⟨by first | rfl | (simp [errW_none, errW_some] <;> rfl) | (simp [*, errW_none, errW_some] <;> rfl), by repeat (first | (with_reducible first | exact HB.out | apply below_alloc | apply pw_below_drewN | apply below_drew1 | refine below_set ?_ GE281.out | refine below_set ?_ GE293.out | refine below_set ?_ GE299.out | refine below_set ?_ GE305.out) | exact HB.out)⟩
         ·replace c70 := Bool.eq_false_iff.mpr c70
          subst c70
          have H1 : (laws_FnExactBufMove.j3 kj52 a1 a2 a3 l0_0 a0_1 a0_2 t288 t291 t292 t300 t303 t304) = some r := by rw [if_neg (show ¬ (false = true) by decide)] at H; exact H
          clear H
          have H := H1
          clear H1
          have H' := Aside0.mk H
          clear H
          go_wp2
          go_meet
          case rel => exact ⟨_, H', ⟨by have := HJ14.out; have := HJ45.out; have := HJ52.out; first | omega | exact Nat.le_refl _⟩, ⟨by (try simp only [hl300000_52]); (with_reducible repeat (first | apply Kd.R_alloc | apply Kd.R_drewN | apply Kd.R_drew)); exact HO_294000.out⟩, ⟨by (try simp only [hl300000_52]); (with_reducible repeat (first | apply Kd.R_alloc | apply Kd.R_drewN | apply Kd.R_drew)); exact HO_300000.out⟩, ⟨by (try simp only [hl300000_52]); (with_reducible repeat (first | apply Kd.R_alloc | apply Kd.R_drewN | apply Kd.R_drew)); exact HO_306000.out⟩, ⟨by (try simp only [hl300000_52]); (with_reducible repeat (first | refine blk_drewN ?_ _ | refine blk_drew ?_ | refine blk_alloc ?_ _)); exact BK281.out⟩, ⟨by (try simp only [hl300000_52]); (with_reducible repeat (first | refine blk_drewN ?_ _ | refine blk_drew ?_ | refine blk_alloc ?_ _)); exact BK293.out⟩, ⟨by (try simp only [hl300000_52]); (with_reducible repeat (first | refine blk_drewN ?_ _ | refine blk_drew ?_ | refine blk_alloc ?_ _)); exact BK299.out⟩, ⟨by (try simp only [hl300000_52]); (with_reducible repeat (first | refine blk_drewN ?_ _ | refine blk_drew ?_ | refine blk_alloc ?_ _)); exact BK305.out⟩, ⟨by repeat (first | (with_reducible first | exact HB.out | apply below_alloc | apply pw_below_drewN | apply below_drew1 | refine below_set ?_ GE281.out | refine below_set ?_ GE293.out | refine below_set ?_ GE299.out | refine below_set ?_ GE305.out) | exact HB.out)⟩⟩
        case rest =>
         clear HC69
         try clear c1
         try clear c2
         try clear p2
         try clear c3
         try clear c4
         try clear c5
         try clear c6
         try clear c6b0
         try clear c7
         try clear c9
         try clear c10
         try clear c11
         try clear c12
         try clear c13
         try clear c14
         try clear c25
         try clear c31
         try clear c32
         try clear c37
         try clear c38
         try clear c39
         try clear c43
         try clear c51
         try clear c54
         try clear c55
         try clear c56
         try clear c59
         try clear c59b0
         try clear c61
         try clear c62
         try clear c63
         try clear c65
         try clear c66
         try clear c70
         try clear hcz17_0
         try clear hcz17_1
         try clear hcz17_2
         try clear hcz19_0
         try clear hcz19_1
         try clear hcz19_2
         try clear hcz26_0
         try clear hcz26_1
         try clear hcz26_2
         try clear hcz27_0
         try clear hcz27_1
         try clear hcz27_2
         try clear hcz33_0
         try clear hcz33_1
         try clear hcz33_2
         try clear hcz40_0
         try clear hcz40_1
         try clear hcz40_2
         try clear hcz41_0
         try clear hcz41_1
         try clear hcz41_2
         try clear hcz57_0
         try clear hcz57_1
         try clear hcz57_2
         try clear hcz64_0
         try clear hcz64_1
         try clear hcz64_2
         try clear hcz67_0
         try clear hcz67_1
         try clear hcz67_2
         try clear hcz8_0
         try clear hcz8_1
         try clear hcz8_2
         try clear hfz17_0
         try clear hfz17_1
         try clear hfz17_2
         try clear hfz19_0
         try clear hfz19_1
         try clear hfz19_2
         try clear hfz26_0
         try clear hfz26_1
         try clear hfz26_2
         try clear hfz27_0
         try clear hfz27_1
         try clear hfz27_2
         try clear hfz33_0
         try clear hfz33_1
         try clear hfz33_2
         try clear hfz40_0
         try clear hfz40_1
         try clear hfz40_2
         try clear hfz41_0
         try clear hfz41_1
         try clear hfz41_2
         try clear hfz57_0
         try clear hfz57_1
         try clear hfz57_2
         try clear hfz64_0
         try clear hfz64_1
         try clear hfz64_2
         try clear hfz67_0
         try clear hfz67_1
         try clear hfz67_2
         try clear hfz8_0
         try clear hfz8_1
         try clear hfz8_2
         try clear p2
         obtain ⟨kq, HA, HJ68, HO_294000, HO_300000, HO_306000, BK281, BK293, BK299, BK305, HB⟩ := hcut
         cases kq with
         | zero => exact absurd HA.out (by simp [laws_FnExactBufMove.j3])
         | succ kj68 =>
          have H := HA.out
          clear HA
          simp only [laws_FnExactBufMove.j3] at H
          replace H := Option.bind_eq_some_iff.mp H
          obtain ⟨⟨t316, t317⟩, A710, H⟩ := H
          replace H : ((laws_heldBuf.f kj68 t317 t303 t304 1).bind fun t318 => (if t318 < 0 then (some false) else (laws_FnExactBufMove.j4 kj68 a1 a2 a3 t316 t318 l0_0 a0_1 a0_2 t288 t291 t292 t317 t303 t304))) = some r := H
          have A71 := Aside0.mk A710
          clear A710
          replace H := Option.bind_eq_some_iff.mp H
          obtain ⟨t318, A720, H⟩ := H
          replace H : (if t318 < 0 then (some false) else (laws_FnExactBufMove.j4 kj68 a1 a2 a3 t316 t318 l0_0 a0_1 a0_2 t288 t291 t292 t317 t303 t304)) = some r := H
          have A72 := Aside0.mk A720
          clear A720
          have HC73 := Aside0.mk H
          clear H
          have hnb74 := NB305_281.out
          have hnc74 := NB281_305.out
          have hnb75 := NB305_293.out
          have hnc75 := NB293_305.out
          have hnb76 := NB305_299.out
          have hnc76 := NB299_305.out
          have hcz77_0 : wc.cell? ⟨gb305, 0, none⟩ = some (.slice Ao36 t300.length co36) := (blk_cell BK305.out 0).trans rfl
          have hcz77_1 : wc.cell? ⟨gb305, 1, none⟩ = some (.int .i64 t303) := (blk_cell BK305.out 1).trans rfl
          have hcz77_2 : wc.cell? ⟨gb305, 2, none⟩ = some (.int .i64 t304) := (blk_cell BK305.out 2).trans rfl
          have hfz77_0 := blk_frozen BK305.out 0
          have hfz77_1 := blk_frozen BK305.out 1
          have hfz77_2 := blk_frozen BK305.out 2
          go_upto_if 62 with (first | ((with_reducible refine gate_callee (f := 14) rfl ?_); refine gl (some 57) Try.func14 #[.agg #[.slice Ao36 t300.length co36, .int .i64 t303, .int .i64 t304], .int .i64 1] ?_; (with_reducible refine (laws_markBuf.calls kj68 (fun k_ => some k_ = (.slice Ao36 t300.length co36 : Value).ownBlock) (.slice Ao36 t300.length co36) t300 t303 t304 1 t316 t317 w _ ?side1 ?side2 A71.out).mono ?_); (case side1 => repeat (first | (with_reducible first | exact HB.out | apply below_alloc | apply pw_below_drewN | apply below_drew1 | refine below_set ?_ GE281.out | refine below_set ?_ GE293.out | refine below_set ?_ GE299.out | refine below_set ?_ GE305.out) | exact HB.out)); (case side2 => exact Kd.R_tight rfl HO_306000.out); rintro e w78 ⟨rfl, hy0, hb, hkp⟩; refine ⟨_, rfl, ?_⟩; have n0_ := am (Kd.R_mono (ok' := fun k_ => some k_ ≠ (.slice Ao30 t314.length co30 : Value).ownBlock ∧ some k_ ≠ (.slice Ao36 t300.length co36 : Value).ownBlock) (Kd.R_keptB (HO_294000.out) hkp (fun k_ hk_ hs_ => (hk_.2) hs_)) (fun k_ hk_ => ⟨hk_.1.1, hk_.1.2⟩)); have n1_ := am (Kd.R_mono (ok' := fun k_ => some k_ ≠ (.slice Ao24 t288.length co24 : Value).ownBlock ∧ some k_ ≠ (.slice Ao36 t300.length co36 : Value).ownBlock) (Kd.R_keptB (HO_300000.out) hkp (fun k_ hk_ hs_ => (hk_.2) hs_)) (fun k_ hk_ => ⟨hk_.1.1, hk_.1.2⟩)); have n2_ := am (Kd.R_reok rfl hy0 (fun k_ e_ => HO_306000.out.1 k_ e_)); have n3_ := am (blk_kept (pk BK281.out) hkp (fun hs_ => (fun e_ => (Kd.R_ne HO_306000.out BK281.out (by decide)) e_) hs_)); have n4_ := am (blk_kept (pk BK293.out) hkp (fun hs_ => (fun e_ => (Kd.R_ne HO_306000.out BK293.out (by decide)) e_) hs_)); have n5_ := am (blk_kept (pk BK299.out) hkp (fun hs_ => (fun e_ => (Kd.R_ne HO_306000.out BK299.out (by decide)) e_) hs_)); have n6_ := am (blk_kept (pk BK305.out) hkp (fun hs_ => (fun e_ => (Kd.R_ne HO_306000.out BK305.out (by decide)) e_) hs_)); have n7_ := am (hb); clear HO_294000; clear HO_300000; clear HO_306000; clear BK281; clear BK293; clear BK299; clear BK305; clear HB; have HO_294000 := n0_; have HO_300000 := n1_; have HO_306000 := n2_; have BK281 := n3_; have BK293 := n4_; have BK299 := n5_; have BK305 := n6_; have HB := n7_; clear n0_ n1_ n2_ n3_ n4_ n5_ n6_ n7_; (try clear hb); (try clear hkp); (try clear hy0); have hcz79_0 : w78.cell? ⟨gb305, 0, none⟩ = some (.slice Ao36 t300.length co36) := (blk_cell BK305.out 0).trans rfl; have hcz79_1 : w78.cell? ⟨gb305, 1, none⟩ = some (.int .i64 t303) := (blk_cell BK305.out 1).trans rfl; have hcz79_2 : w78.cell? ⟨gb305, 2, none⟩ = some (.int .i64 t304) := (blk_cell BK305.out 2).trans rfl; have hfz79_0 := blk_frozen BK305.out 0; have hfz79_1 := blk_frozen BK305.out 1; have hfz79_2 := blk_frozen BK305.out 2) | ((with_reducible refine gate_callee (f := 15) rfl ?_); refine goesL_ (some 60) rfl rfl Try.func15 (by kernel_rfl) rfl #[.agg #[.slice Ao36 t317.length co36, .int .i64 t303, .int .i64 t304], .int .i64 1] rfl (by (try simp only [List.map_toArray, List.map_cons, List.map_nil]); first | done | (rw [show t317.length = t300.length from (Kd.R_reads' HO_306000.out).1.symm] <;> rfl) | rfl | (simp only [List.length_drop, List.length_take]; rfl)) ?_; (with_reducible refine (laws_heldBuf.calls kj68 _ _ t317 t303 t304 1 t318 _ ?side1 ?side2 A72.out).mono ?_); (case side1 => repeat (first | exact (Kd.R_reads' HO_306000.out).2.2 | (with_reducible refine Kd.C_alloc ?_ _) | (with_reducible refine Kd.C_drewN ?_ _) | (with_reducible refine Kd.C_drew ?_))); (case side2 => rw [show t317.length = t300.length from (Kd.R_reads' HO_306000.out).1.symm]; exact (Kd.R_reads' HO_306000.out).2.1); rintro e w80 ⟨rfl, hb⟩; refine ⟨_, rfl, ?_⟩; have n0_ := am (Kd.R_below (by (with_reducible repeat (first | apply Kd.R_alloc | apply Kd.R_drewN | apply Kd.R_drew)); exact HO_294000.out) hb); have n1_ := am (Kd.R_below (by (with_reducible repeat (first | apply Kd.R_alloc | apply Kd.R_drewN | apply Kd.R_drew)); exact HO_300000.out) hb); have n2_ := am (Kd.R_below (by (with_reducible repeat (first | apply Kd.R_alloc | apply Kd.R_drewN | apply Kd.R_drew)); exact HO_306000.out) hb); have n3_ := am (blk_below (g := gb281) (o := .cells #[.slice A0_0 l0_0.length c0_0, .int .i64 a0_1, .int .i64 a0_2] 24 (0, 0)) (pk BK281.out) hb); have n4_ := am (blk_below (g := gb293) (o := .cells #[.slice Ao24 t288.length co24, .int .i64 t291, .int .i64 t292] 26 (0, 0)) (pk BK293.out) hb); have n5_ := am (blk_below (g := gb299) (o := .cells #[.slice Ao30 t314.length co30, .int .i64 t297, .int .i64 t298] 26 (0, 0)) (pk BK299.out) hb); have n6_ := am (blk_below (g := gb305) (o := .cells #[.slice Ao36 t300.length co36, .int .i64 t303, .int .i64 t304] 26 (0, 0)) (pk BK305.out) hb); have n7_ := am (below_step (by repeat (first | (with_reducible first | exact HB.out | apply below_alloc | apply pw_below_drewN | apply below_drew1 | refine below_set ?_ GE281.out | refine below_set ?_ GE293.out | refine below_set ?_ GE299.out | refine below_set ?_ GE305.out) | exact HB.out)) hb); clear HO_294000; clear HO_300000; clear HO_306000; clear BK281; clear BK293; clear BK299; clear BK305; clear HB; have HO_294000 := n0_; have HO_300000 := n1_; have HO_306000 := n2_; have BK281 := n3_; have BK293 := n4_; have BK299 := n5_; have BK305 := n6_; have HB := n7_; clear n0_ n1_ n2_ n3_ n4_ n5_ n6_ n7_; (try clear hb); (try clear hb2); (try clear hk); (try clear hi)))
          (try simp only [Act.put, List.setIfInBounds_toArray, List.set_cons_zero, List.set_cons_succ])
          go_cut [] (fun wc => ∃ (kq : Nat), Aside0 (laws_FnExactBufMove.j4 kq a1 a2 a3 t316 t318 l0_0 a0_1 a0_2 t288 t291 t292 t317 t303 t304 = some r) ∧ Aside0 (kq ≤ kj68) ∧ Aside0 (Kd.R (Kd.int .i64) 2 wc w.heap.size (fun k_ => some k_ ≠ ((.slice Ao30 t314.length co30) : Value).ownBlock ∧ some k_ ≠ ((.slice Ao36 t300.length co36) : Value).ownBlock) (.slice Ao24 t288.length co24) t288) ∧ Aside0 (Kd.R (Kd.int .i64) 2 wc w.heap.size (fun k_ => some k_ ≠ ((.slice Ao24 t288.length co24) : Value).ownBlock ∧ some k_ ≠ ((.slice Ao36 t300.length co36) : Value).ownBlock) (.slice Ao30 t314.length co30) t314) ∧ Aside0 (Kd.R (Kd.int .i64) 2 wc w.heap.size (fun k_ => some k_ ≠ ((.slice Ao24 t288.length co24) : Value).ownBlock ∧ some k_ ≠ ((.slice Ao30 t314.length co30) : Value).ownBlock) (.slice Ao36 t300.length co36) t317) ∧ Aside0 (wc.heap[gb281]? = some (.cells #[(.slice A0_0 l0_0.length c0_0), .int .i64 a0_1, .int .i64 a0_2] 24 (0, 0))) ∧ Aside0 (wc.heap[gb293]? = some (.cells #[(.slice Ao24 t288.length co24), .int .i64 t291, .int .i64 t292] 26 (0, 0))) ∧ Aside0 (wc.heap[gb299]? = some (.cells #[(.slice Ao30 t314.length co30), .int .i64 t297, .int .i64 t298] 26 (0, 0))) ∧ Aside0 (wc.heap[gb305]? = some (.cells #[(.slice Ao36 t300.length co36), .int .i64 t303, .int .i64 t304] 26 (0, 0))) ∧ Aside0 (Below w.heap.size w wc))
          case first =>
           have H := HC73.out
           clear HC73
           by_cases c81 : t318 < 0
           ·rw [if_pos c81] at H
            have c81b0 : decide (t318 < 0) = true := decide_eq_true c81
            clear c81
            (first | rw [c81b0] | (simp only [i64_w, i32_w]; rw [c81b0]) | (have e9_ := c81b0; unfold bne at e9_; rw [e9_]) | skip)
            obtain rfl := Option.some.inj H
            go_wp2
            go_ret
            exact ⟨by first | rfl | (simp [errW_none, errW_some] <;> rfl) | (simp [*, errW_none, errW_some] <;> rfl), by repeat (first | (with_reducible first | exact HB.out | apply below_alloc | apply pw_below_drewN | apply below_drew1 | refine below_set ?_ GE281.out | refine below_set ?_ GE293.out | refine below_set ?_ GE299.out | refine below_set ?_ GE305.out) | exact HB.out)⟩
           ·rw [if_neg c81] at H
            have c81b0 : decide (t318 < 0) = false := decide_eq_false c81
            clear c81
            (first | rw [c81b0] | (simp only [i64_w, i32_w]; rw [c81b0]) | (have e9_ := c81b0; unfold bne at e9_; rw [e9_]) | skip)
            have H' := Aside0.mk H
            clear H
            go_wp2
            go_meet
            case rel => exact ⟨_, H', ⟨by have := HJ14.out; have := HJ45.out; have := HJ52.out; have := HJ68.out; first | omega | exact Nat.le_refl _⟩, ⟨by (try simp only [hl300000_52]); (with_reducible repeat (first | apply Kd.R_alloc | apply Kd.R_drewN | apply Kd.R_drew)); exact HO_294000.out⟩, ⟨by (try simp only [hl300000_52]); (with_reducible repeat (first | apply Kd.R_alloc | apply Kd.R_drewN | apply Kd.R_drew)); exact HO_300000.out⟩, ⟨by (try simp only [hl300000_52]); (with_reducible repeat (first | apply Kd.R_alloc | apply Kd.R_drewN | apply Kd.R_drew)); exact HO_306000.out⟩, ⟨by (try simp only [hl300000_52]); (with_reducible repeat (first | refine blk_drewN ?_ _ | refine blk_drew ?_ | refine blk_alloc ?_ _)); exact BK281.out⟩, ⟨by (try simp only [hl300000_52]); (with_reducible repeat (first | refine blk_drewN ?_ _ | refine blk_drew ?_ | refine blk_alloc ?_ _)); exact BK293.out⟩, ⟨by (try simp only [hl300000_52]); (with_reducible repeat (first | refine blk_drewN ?_ _ | refine blk_drew ?_ | refine blk_alloc ?_ _)); exact BK299.out⟩, ⟨by (try simp only [hl300000_52]); (with_reducible repeat (first | refine blk_drewN ?_ _ | refine blk_drew ?_ | refine blk_alloc ?_ _)); exact BK305.out⟩, ⟨by repeat (first | (with_reducible first | exact HB.out | apply below_alloc | apply pw_below_drewN | apply below_drew1 | refine below_set ?_ GE281.out | refine below_set ?_ GE293.out | refine below_set ?_ GE299.out | refine below_set ?_ GE305.out) | exact HB.out)⟩⟩
          case rest =>
           clear HC73
           try clear c1
           try clear c2
           try clear p2
           try clear c3
           try clear c4
           try clear c5
           try clear c6
           try clear c6b0
           try clear c7
           try clear c8
           try clear c9
           try clear c10
           try clear c11
           try clear c12
           try clear c13
           try clear c14
           try clear c15
           try clear c25
           try clear c31
           try clear c32
           try clear c37
           try clear c38
           try clear c39
           try clear c43
           try clear c51
           try clear c54
           try clear c55
           try clear c56
           try clear c59
           try clear c59b0
           try clear c61
           try clear c62
           try clear c63
           try clear c65
           try clear c66
           try clear c70
           try clear c74
           try clear c75
           try clear c76
           try clear c81
           try clear c81b0
           try clear hcz17_0
           try clear hcz17_1
           try clear hcz17_2
           try clear hcz19_0
           try clear hcz19_1
           try clear hcz19_2
           try clear hcz26_0
           try clear hcz26_1
           try clear hcz26_2
           try clear hcz27_0
           try clear hcz27_1
           try clear hcz27_2
           try clear hcz33_0
           try clear hcz33_1
           try clear hcz33_2
           try clear hcz40_0
           try clear hcz40_1
           try clear hcz40_2
           try clear hcz41_0
           try clear hcz41_1
           try clear hcz41_2
           try clear hcz57_0
           try clear hcz57_1
           try clear hcz57_2
           try clear hcz64_0
           try clear hcz64_1
           try clear hcz64_2
           try clear hcz67_0
           try clear hcz67_1
           try clear hcz67_2
           try clear hcz77_0
           try clear hcz77_1
           try clear hcz77_2
           try clear hcz79_0
           try clear hcz79_1
           try clear hcz79_2
           try clear hcz8_0
           try clear hcz8_1
           try clear hcz8_2
           try clear hfz17_0
           try clear hfz17_1
           try clear hfz17_2
           try clear hfz19_0
           try clear hfz19_1
           try clear hfz19_2
           try clear hfz26_0
           try clear hfz26_1
           try clear hfz26_2
           try clear hfz27_0
           try clear hfz27_1
           try clear hfz27_2
           try clear hfz33_0
           try clear hfz33_1
           try clear hfz33_2
           try clear hfz40_0
           try clear hfz40_1
           try clear hfz40_2
           try clear hfz41_0
           try clear hfz41_1
           try clear hfz41_2
           try clear hfz57_0
           try clear hfz57_1
           try clear hfz57_2
           try clear hfz64_0
           try clear hfz64_1
           try clear hfz64_2
           try clear hfz67_0
           try clear hfz67_1
           try clear hfz67_2
           try clear hfz77_0
           try clear hfz77_1
           try clear hfz77_2
           try clear hfz79_0
           try clear hfz79_1
           try clear hfz79_2
           try clear hfz8_0
           try clear hfz8_1
           try clear hfz8_2
           try clear p2
           obtain ⟨kq, HA, HJ72, HO_294000, HO_300000, HO_306000, BK281, BK293, BK299, BK305, HB⟩ := hcut
           have hl306000_72 := (Kd.R_reads' HO_306000.out).1
           rw [hl306000_72] at HO_306000
           (try simp only [hl306000_72])
           (try simp only [hl306000_72] at BK281)
           (try simp only [hl306000_72] at BK293)
           (try simp only [hl306000_72] at BK299)
           (try simp only [hl306000_72] at BK305)
           (try simp only [hl306000_72] at HO_294000)
           (try simp only [hl306000_72] at HO_300000)
           cases kq with
           | zero => exact absurd HA.out (by simp [laws_FnExactBufMove.j4])
           | succ kj72 =>
            have H := HA.out
            clear HA
            simp only [laws_FnExactBufMove.j4] at H
            by_cases c82 : t318 = t316
            ·rw [if_pos c82] at H
             have c82b0 : (t318 == t316) = true := beq_iff_eq.mpr c82
             have c82b1 : (t318 != t316) = false := bne_eq_false_iff_eq.mpr c82
             clear c82
             replace H := Option.bind_eq_some_iff.mp H
             obtain ⟨⟨t319, t322, t323⟩, A830, H⟩ := H
             replace H : ((impl_BufMove.f kj72 t319 t322 t323 a1 a2 a3).bind fun bt324 => ((laws_eqBuf.f kj72 bt324.1 bt324.2.1 bt324.2.2 t288 t291 t292).bind fun t330 => (if t330 = true then (laws_FnExactBufMove.j5 kj72 t316 t317 t303 t304) else (some false)))) = some r := H
             have A83 := Aside0.mk A830
             clear A830
             replace H := Option.bind_eq_some_iff.mp H
             obtain ⟨⟨t324, t327, t328⟩, A840, H⟩ := H
             replace H : ((laws_eqBuf.f kj72 t324 t327 t328 t288 t291 t292).bind fun t330 => (if t330 = true then (laws_FnExactBufMove.j5 kj72 t316 t317 t303 t304) else (some false))) = some r := H
             have A84 := Aside0.mk A840
             clear A840
             replace H := Option.bind_eq_some_iff.mp H
             obtain ⟨t330, A850, H⟩ := H
             replace H : (if t330 = true then (laws_FnExactBufMove.j5 kj72 t316 t317 t303 t304) else (some false)) = some r := H
             have A85 := Aside0.mk A850
             clear A850
             have HC86 := Aside0.mk H
             clear H
             have hnb87 := NB281_293.out
             have hnc87 := NB293_281.out
             have hnb88 := NB281_299.out
             have hnc88 := NB299_281.out
             have hnb89 := NB281_305.out
             have hnc89 := NB305_281.out
             have hcz90_0 : wc.cell? ⟨gb281, 0, none⟩ = some (.slice A0_0 l0_0.length c0_0) := (blk_cell BK281.out 0).trans rfl
             have hcz90_1 : wc.cell? ⟨gb281, 1, none⟩ = some (.int .i64 a0_1) := (blk_cell BK281.out 1).trans rfl
             have hcz90_2 : wc.cell? ⟨gb281, 2, none⟩ = some (.int .i64 a0_2) := (blk_cell BK281.out 2).trans rfl
             have hfz90_0 := blk_frozen BK281.out 0
             have hfz90_1 := blk_frozen BK281.out 1
             have hfz90_2 := blk_frozen BK281.out 2
             go_upto_if 75 with (first | ((with_reducible refine gate_callee (f := 11) rfl ?_); refine gl (some 67) Try.func11 #[.agg #[.slice A0_0 l0_0.length c0_0, .int .i64 a0_1, .int .i64 a0_2]] ?_; (with_reducible refine (laws_toBuf.calls kj72 _ _ l0_0 a0_1 a0_2 t319 t322 t323 _ ?side1 ?side2 A83.out).mono ?_); (case side1 => repeat (first | exact (Kd.C_below HR0_0.out HB.out) | (with_reducible refine Kd.C_alloc ?_ _) | (with_reducible refine Kd.C_drewN ?_ _) | (with_reducible refine Kd.C_drew ?_))); (case side2 => exact HC0_0.out); rintro e w91 ⟨v320, rfl, ho0, hb⟩; refine ⟨_, rfl, ?_⟩; have n0_ := am (Kd.R_elder' (by (with_reducible repeat (first | apply Kd.R_alloc | apply Kd.R_drewN | apply Kd.R_drew)); exact HO_294000.out) (Kd.R_base ho0) hb); have n1_ := am (Kd.R_elder' (by (with_reducible repeat (first | apply Kd.R_alloc | apply Kd.R_drewN | apply Kd.R_drew)); exact HO_300000.out) (Kd.R_base ho0) hb); have n2_ := am (Kd.R_elder' (by (with_reducible repeat (first | apply Kd.R_alloc | apply Kd.R_drewN | apply Kd.R_drew)); exact HO_306000.out) (Kd.R_base ho0) hb); have n3_ := am (Kd.R_lower (Kd.R_new' (Kd.R_new' (Kd.R_new' ho0 (Kd.R_lt (by (with_reducible repeat (first | apply Kd.R_alloc | apply Kd.R_drewN | apply Kd.R_drew)); exact HO_294000.out))) (Kd.R_lt (by (with_reducible repeat (first | apply Kd.R_alloc | apply Kd.R_drewN | apply Kd.R_drew)); exact HO_300000.out))) (Kd.R_lt (by (with_reducible repeat (first | apply Kd.R_alloc | apply Kd.R_drewN | apply Kd.R_drew)); exact HO_306000.out))) (below_size (by repeat (first | (with_reducible first | exact HB.out | apply below_alloc | apply pw_below_drewN | apply below_drew1 | refine below_set ?_ GE281.out | refine below_set ?_ GE293.out | refine below_set ?_ GE299.out | refine below_set ?_ GE305.out) | exact HB.out)))); have n4_ := am (blk_below (g := gb281) (o := .cells #[.slice A0_0 l0_0.length c0_0, .int .i64 a0_1, .int .i64 a0_2] 24 (0, 0)) (pk BK281.out) hb); have n5_ := am (blk_below (g := gb293) (o := .cells #[.slice Ao24 t288.length co24, .int .i64 t291, .int .i64 t292] 26 (0, 0)) (pk BK293.out) hb); have n6_ := am (blk_below (g := gb299) (o := .cells #[.slice Ao30 t314.length co30, .int .i64 t297, .int .i64 t298] 26 (0, 0)) (pk BK299.out) hb); have n7_ := am (blk_below (g := gb305) (o := .cells #[.slice Ao36 t317.length co36, .int .i64 t303, .int .i64 t304] 26 (0, 0)) (pk BK305.out) hb); have n8_ := am (below_step (by repeat (first | (with_reducible first | exact HB.out | apply below_alloc | apply pw_below_drewN | apply below_drew1 | refine below_set ?_ GE281.out | refine below_set ?_ GE293.out | refine below_set ?_ GE299.out | refine below_set ?_ GE305.out) | exact HB.out)) hb); clear HO_294000; clear HO_300000; clear HO_306000; clear BK281; clear BK293; clear BK299; clear BK305; clear HB; have HO_294000 := n0_; have HO_300000 := n1_; have HO_306000 := n2_; have HO321 := n3_; have BK281 := n4_; have BK293 := n5_; have BK299 := n6_; have BK305 := n7_; have HB := n8_; clear n0_ n1_ n2_ n3_ n4_ n5_ n6_ n7_ n8_; (try clear hb); (try clear hb2); (try clear hk); (try clear hi); (try clear ho0); obtain ⟨Ao92, co92, eo92⟩ := Kd.R_slice HO321.out; subst eo92) | ((with_reducible refine gate_callee (f := 12) rfl ?_); refine gl (some 71) Try.func12 #[.agg #[.slice Ao92 t319.length co92, .int .i64 t322, .int .i64 t323], .int .i64 a1, .int .i64 a2, .int .i64 a3] ?_; (with_reducible refine (impl_BufMove.calls kj72 _ _ t319 t322 t323 a1 a2 a3 t324 t327 t328 _ ?side1 ?side2 A84.out).mono ?_); (case side1 => repeat (first | exact (Kd.R_reads' HO321.out).2.2 | (with_reducible refine Kd.C_alloc ?_ _) | (with_reducible refine Kd.C_drewN ?_ _) | (with_reducible refine Kd.C_drew ?_))); (case side2 => exact (Kd.R_reads' HO321.out).2.1); rintro e w93 ⟨v325, rfl, ho0, hb⟩; refine ⟨_, rfl, ?_⟩; have n0_ := am (Kd.R_elder' (by (with_reducible repeat (first | apply Kd.R_alloc | apply Kd.R_drewN | apply Kd.R_drew)); exact HO_294000.out) (Kd.R_base ho0) hb); have n1_ := am (Kd.R_elder' (by (with_reducible repeat (first | apply Kd.R_alloc | apply Kd.R_drewN | apply Kd.R_drew)); exact HO_300000.out) (Kd.R_base ho0) hb); have n2_ := am (Kd.R_elder' (by (with_reducible repeat (first | apply Kd.R_alloc | apply Kd.R_drewN | apply Kd.R_drew)); exact HO_306000.out) (Kd.R_base ho0) hb); have n3_ := am (Kd.R_elder' (by (with_reducible repeat (first | apply Kd.R_alloc | apply Kd.R_drewN | apply Kd.R_drew)); exact HO321.out) (Kd.R_base ho0) hb); have n4_ := am (Kd.R_lower (Kd.R_new' (Kd.R_new' (Kd.R_new' (Kd.R_new' ho0 (Kd.R_lt (by (with_reducible repeat (first | apply Kd.R_alloc | apply Kd.R_drewN | apply Kd.R_drew)); exact HO_294000.out))) (Kd.R_lt (by (with_reducible repeat (first | apply Kd.R_alloc | apply Kd.R_drewN | apply Kd.R_drew)); exact HO_300000.out))) (Kd.R_lt (by (with_reducible repeat (first | apply Kd.R_alloc | apply Kd.R_drewN | apply Kd.R_drew)); exact HO_306000.out))) (Kd.R_lt (by (with_reducible repeat (first | apply Kd.R_alloc | apply Kd.R_drewN | apply Kd.R_drew)); exact HO321.out))) (below_size (by repeat (first | (with_reducible first | exact HB.out | apply below_alloc | apply pw_below_drewN | apply below_drew1 | refine below_set ?_ GE281.out | refine below_set ?_ GE293.out | refine below_set ?_ GE299.out | refine below_set ?_ GE305.out) | exact HB.out)))); have n5_ := am (blk_below (g := gb281) (o := .cells #[.slice A0_0 l0_0.length c0_0, .int .i64 a0_1, .int .i64 a0_2] 24 (0, 0)) (pk BK281.out) hb); have n6_ := am (blk_below (g := gb293) (o := .cells #[.slice Ao24 t288.length co24, .int .i64 t291, .int .i64 t292] 26 (0, 0)) (pk BK293.out) hb); have n7_ := am (blk_below (g := gb299) (o := .cells #[.slice Ao30 t314.length co30, .int .i64 t297, .int .i64 t298] 26 (0, 0)) (pk BK299.out) hb); have n8_ := am (blk_below (g := gb305) (o := .cells #[.slice Ao36 t317.length co36, .int .i64 t303, .int .i64 t304] 26 (0, 0)) (pk BK305.out) hb); have n9_ := am (below_step (by repeat (first | (with_reducible first | exact HB.out | apply below_alloc | apply pw_below_drewN | apply below_drew1 | refine below_set ?_ GE281.out | refine below_set ?_ GE293.out | refine below_set ?_ GE299.out | refine below_set ?_ GE305.out) | exact HB.out)) hb); clear HO_294000; clear HO_300000; clear HO_306000; clear HO321; clear BK281; clear BK293; clear BK299; clear BK305; clear HB; have HO_294000 := n0_; have HO_300000 := n1_; have HO_306000 := n2_; have HO321 := n3_; have HO326 := n4_; have BK281 := n5_; have BK293 := n6_; have BK299 := n7_; have BK305 := n8_; have HB := n9_; clear n0_ n1_ n2_ n3_ n4_ n5_ n6_ n7_ n8_ n9_; (try clear hb); (try clear hb2); (try clear hk); (try clear hi); (try clear ho0)) | ((with_reducible refine gate_dst (N := 16) rfl ?_); refine box_event ?hg (N := 16) ?hd (cs := #[.slice none 0 0, .int .i64 0, .int .i64 0]) (t := 26) ?hr ?_; (case hd => rfl); (case hg => rfl); (case hr => first | (go_simp; done) | (go_simp; rfl)); intro gb329 hg w94 hbox hb; have n0_ := am (Kd.R_below (by (with_reducible repeat (first | apply Kd.R_alloc | apply Kd.R_drewN | apply Kd.R_drew)); exact HO_294000.out) hb); have n1_ := am (Kd.R_below (by (with_reducible repeat (first | apply Kd.R_alloc | apply Kd.R_drewN | apply Kd.R_drew)); exact HO_300000.out) hb); have n2_ := am (Kd.R_below (by (with_reducible repeat (first | apply Kd.R_alloc | apply Kd.R_drewN | apply Kd.R_drew)); exact HO_306000.out) hb); have n3_ := am (Kd.R_below (by (with_reducible repeat (first | apply Kd.R_alloc | apply Kd.R_drewN | apply Kd.R_drew)); exact HO321.out) hb); have n4_ := am (Kd.R_below (by (with_reducible repeat (first | apply Kd.R_alloc | apply Kd.R_drewN | apply Kd.R_drew)); exact HO326.out) hb); have n5_ := am (blk_below (g := gb281) (o := .cells #[.slice A0_0 l0_0.length c0_0, .int .i64 a0_1, .int .i64 a0_2] 24 (0, 0)) (pk BK281.out) hb); have n6_ := am (blk_below (g := gb293) (o := .cells #[.slice Ao24 t288.length co24, .int .i64 t291, .int .i64 t292] 26 (0, 0)) (pk BK293.out) hb); have n7_ := am (blk_below (g := gb299) (o := .cells #[.slice Ao30 t314.length co30, .int .i64 t297, .int .i64 t298] 26 (0, 0)) (pk BK299.out) hb); have n8_ := am (blk_below (g := gb305) (o := .cells #[.slice Ao36 t317.length co36, .int .i64 t303, .int .i64 t304] 26 (0, 0)) (pk BK305.out) hb); have n9_ := am (below_step (by repeat (first | (with_reducible first | exact HB.out | apply below_alloc | apply pw_below_drewN | apply below_drew1 | refine below_set ?_ GE281.out | refine below_set ?_ GE293.out | refine below_set ?_ GE299.out | refine below_set ?_ GE305.out) | exact HB.out)) hb); have n10_ := am (hbox); have n11_ := am ((by rw [hg]; exact (below_size (by repeat (first | (with_reducible first | exact HB.out | apply below_alloc | apply pw_below_drewN | apply below_drew1 | refine below_set ?_ GE281.out | refine below_set ?_ GE293.out | refine below_set ?_ GE299.out | refine below_set ?_ GE305.out) | exact HB.out))) : w.heap.size ≤ gb329)); have n12_ := am ((by rw [hg]; exact (below_size (by repeat (first | (with_reducible first | exact HB.out | apply below_alloc | apply pw_below_drewN | apply below_drew1 | refine below_set ?_ GE281.out | refine below_set ?_ GE293.out | refine below_set ?_ GE299.out | refine below_set ?_ GE305.out) | exact HB.out))) : w.heap.size ≤ gb329)); have n13_ := am ((by rw [hg]; exact Nat.ne_of_lt (blk_lt (g := gb281) (o := .cells #[.slice A0_0 l0_0.length c0_0, .int .i64 a0_1, .int .i64 a0_2] 24 (0, 0)) (pk BK281.out)) : gb281 ≠ gb329)); have n14_ := am ((by rw [hg]; exact Nat.ne_of_gt (blk_lt (g := gb281) (o := .cells #[.slice A0_0 l0_0.length c0_0, .int .i64 a0_1, .int .i64 a0_2] 24 (0, 0)) (pk BK281.out)) : gb329 ≠ gb281)); have n15_ := am ((by rw [hg]; exact Nat.ne_of_lt (blk_lt (g := gb293) (o := .cells #[.slice Ao24 t288.length co24, .int .i64 t291, .int .i64 t292] 26 (0, 0)) (pk BK293.out)) : gb293 ≠ gb329)); have n16_ := am ((by rw [hg]; exact Nat.ne_of_gt (blk_lt (g := gb293) (o := .cells #[.slice Ao24 t288.length co24, .int .i64 t291, .int .i64 t292] 26 (0, 0)) (pk BK293.out)) : gb329 ≠ gb293)); have n17_ := am ((by rw [hg]; exact Nat.ne_of_lt (blk_lt (g := gb299) (o := .cells #[.slice Ao30 t314.length co30, .int .i64 t297, .int .i64 t298] 26 (0, 0)) (pk BK299.out)) : gb299 ≠ gb329)); have n18_ := am ((by rw [hg]; exact Nat.ne_of_gt (blk_lt (g := gb299) (o := .cells #[.slice Ao30 t314.length co30, .int .i64 t297, .int .i64 t298] 26 (0, 0)) (pk BK299.out)) : gb329 ≠ gb299)); have n19_ := am ((by rw [hg]; exact Nat.ne_of_lt (blk_lt (g := gb305) (o := .cells #[.slice Ao36 t317.length co36, .int .i64 t303, .int .i64 t304] 26 (0, 0)) (pk BK305.out)) : gb305 ≠ gb329)); have n20_ := am ((by rw [hg]; exact Nat.ne_of_gt (blk_lt (g := gb305) (o := .cells #[.slice Ao36 t317.length co36, .int .i64 t303, .int .i64 t304] 26 (0, 0)) (pk BK305.out)) : gb329 ≠ gb305)); clear HO_294000; clear HO_300000; clear HO_306000; clear HO321; clear HO326; clear BK281; clear BK293; clear BK299; clear BK305; clear HB; have HO_294000 := n0_; have HO_300000 := n1_; have HO_306000 := n2_; have HO321 := n3_; have HO326 := n4_; have BK281 := n5_; have BK293 := n6_; have BK299 := n7_; have BK305 := n8_; have HB := n9_; have BK329 := n10_; have GW329 := n11_; have GE329 := n12_; have NB281_329 := n13_; have NB329_281 := n14_; have NB293_329 := n15_; have NB329_293 := n16_; have NB299_329 := n17_; have NB329_299 := n18_; have NB305_329 := n19_; have NB329_305 := n20_; clear n0_ n1_ n2_ n3_ n4_ n5_ n6_ n7_ n8_ n9_ n10_ n11_ n12_ n13_ n14_ n15_ n16_ n17_ n18_ n19_ n20_; clear hb hbox hg; obtain ⟨Ao95, co95, eo95⟩ := Kd.R_slice HO326.out; subst eo95; have hnb96 := NB329_281.out; have hnc96 := NB281_329.out; have hnb97 := NB329_293.out; have hnc97 := NB293_329.out; have hnb98 := NB329_299.out; have hnc98 := NB299_329.out; have hnb99 := NB329_305.out; have hnc99 := NB305_329.out; have hcz100_0 : w94.cell? ⟨gb329, 0, none⟩ = some (.slice none 0 0) := (blk_cell BK329.out 0).trans rfl; have hcz100_1 : w94.cell? ⟨gb329, 1, none⟩ = some (.int .i64 0) := (blk_cell BK329.out 1).trans rfl; have hcz100_2 : w94.cell? ⟨gb329, 2, none⟩ = some (.int .i64 0) := (blk_cell BK329.out 2).trans rfl; have hfz100_0 := blk_frozen BK329.out 0; have hfz100_1 := blk_frozen BK329.out 1; have hfz100_2 := blk_frozen BK329.out 2; have hnb101 := NB293_299.out; have hnc101 := NB299_293.out; have hnb102 := NB293_305.out; have hnc102 := NB305_293.out; have hcz103_0 : w94.cell? ⟨gb293, 0, none⟩ = some (.slice Ao24 t288.length co24) := (blk_cell BK293.out 0).trans rfl; have hcz103_1 : w94.cell? ⟨gb293, 1, none⟩ = some (.int .i64 t291) := (blk_cell BK293.out 1).trans rfl; have hcz103_2 : w94.cell? ⟨gb293, 2, none⟩ = some (.int .i64 t292) := (blk_cell BK293.out 2).trans rfl; have hfz103_0 := blk_frozen BK293.out 0; have hfz103_1 := blk_frozen BK293.out 1; have hfz103_2 := blk_frozen BK293.out 2) | ((with_reducible refine gate_callee (f := 13) rfl ?_); refine gl (some 74) Try.func13 #[.agg #[.slice Ao95 t324.length co95, .int .i64 t327, .int .i64 t328], .agg #[.slice Ao24 t288.length co24, .int .i64 t291, .int .i64 t292]] ?_; (with_reducible refine (laws_eqBuf.calls kj72 _ _ t324 t327 t328 _ _ t288 t291 t292 t330 _ ?side1 ?side2 ?side3 ?side4 A85.out).mono ?_); (case side1 => refine (Kd.R_reads' (e := 2) (base := w.heap.size) (ok := fun k_ => ((((True ∧ some k_ ≠ (.slice Ao24 t288.length co24 : Value).ownBlock) ∧ some k_ ≠ (.slice Ao30 t314.length co30 : Value).ownBlock) ∧ some k_ ≠ (.slice Ao36 t317.length co36 : Value).ownBlock) ∧ some k_ ≠ (.slice Ao92 t319.length co92 : Value).ownBlock)) (n := t324.length) (c := co95) ?_).2.2; exact (by (with_reducible repeat (first | apply Kd.R_alloc | apply Kd.R_drewN | apply Kd.R_drew)); exact (Kd.R_mono (Kd.R_far (p := ⟨gb329, 2, none⟩) (Kd.R_far (p := ⟨gb329, 1, none⟩) (Kd.R_far (p := ⟨gb329, 0, none⟩) (Kd.R_types HO326.out BK329.out (by decide)) (fun _ hk => hk.2) (.slice Ao95 t324.length co95)) (fun _ hk => hk.2) (.int .i64 t327)) (fun _ hk => hk.2) (.int .i64 t328)) (fun _ h_ => h_.1)))); (case side2 => exact (Kd.R_reads' HO326.out).2.1); (case side3 => refine (Kd.R_reads' (e := 2) (base := w.heap.size) (ok := fun k_ => (((some k_ ≠ (.slice Ao30 t314.length co30 : Value).ownBlock ∧ some k_ ≠ (.slice Ao36 t317.length co36 : Value).ownBlock) ∧ some k_ ≠ (.slice Ao92 t319.length co92 : Value).ownBlock) ∧ some k_ ≠ (.slice Ao95 t324.length co95 : Value).ownBlock)) (n := t288.length) (c := co24) ?_).2.2; exact (by (with_reducible repeat (first | apply Kd.R_alloc | apply Kd.R_drewN | apply Kd.R_drew)); exact (Kd.R_mono (Kd.R_far (p := ⟨gb329, 2, none⟩) (Kd.R_far (p := ⟨gb329, 1, none⟩) (Kd.R_far (p := ⟨gb329, 0, none⟩) (Kd.R_types HO_294000.out BK329.out (by decide)) (fun _ hk => hk.2) (.slice Ao95 t324.length co95)) (fun _ hk => hk.2) (.int .i64 t327)) (fun _ hk => hk.2) (.int .i64 t328)) (fun _ h_ => h_.1)))); (case side4 => exact (Kd.R_reads' HO_294000.out).2.1); rintro e w104 ⟨rfl, hb⟩; refine ⟨_, rfl, ?_⟩; have n0_ := am (Kd.R_below (by (with_reducible repeat (first | apply Kd.R_alloc | apply Kd.R_drewN | apply Kd.R_drew)); exact (Kd.R_mono (Kd.R_far (p := ⟨gb329, 2, none⟩) (Kd.R_far (p := ⟨gb329, 1, none⟩) (Kd.R_far (p := ⟨gb329, 0, none⟩) (Kd.R_types HO_294000.out BK329.out (by decide)) (fun _ hk => hk.2) (.slice Ao95 t324.length co95)) (fun _ hk => hk.2) (.int .i64 t327)) (fun _ hk => hk.2) (.int .i64 t328)) (fun _ h_ => h_.1))) hb); have n1_ := am (Kd.R_below (by (with_reducible repeat (first | apply Kd.R_alloc | apply Kd.R_drewN | apply Kd.R_drew)); exact (Kd.R_mono (Kd.R_far (p := ⟨gb329, 2, none⟩) (Kd.R_far (p := ⟨gb329, 1, none⟩) (Kd.R_far (p := ⟨gb329, 0, none⟩) (Kd.R_types HO_300000.out BK329.out (by decide)) (fun _ hk => hk.2) (.slice Ao95 t324.length co95)) (fun _ hk => hk.2) (.int .i64 t327)) (fun _ hk => hk.2) (.int .i64 t328)) (fun _ h_ => h_.1))) hb); have n2_ := am (Kd.R_below (by (with_reducible repeat (first | apply Kd.R_alloc | apply Kd.R_drewN | apply Kd.R_drew)); exact (Kd.R_mono (Kd.R_far (p := ⟨gb329, 2, none⟩) (Kd.R_far (p := ⟨gb329, 1, none⟩) (Kd.R_far (p := ⟨gb329, 0, none⟩) (Kd.R_types HO_306000.out BK329.out (by decide)) (fun _ hk => hk.2) (.slice Ao95 t324.length co95)) (fun _ hk => hk.2) (.int .i64 t327)) (fun _ hk => hk.2) (.int .i64 t328)) (fun _ h_ => h_.1))) hb); have n3_ := am (Kd.R_below (by (with_reducible repeat (first | apply Kd.R_alloc | apply Kd.R_drewN | apply Kd.R_drew)); exact (Kd.R_mono (Kd.R_far (p := ⟨gb329, 2, none⟩) (Kd.R_far (p := ⟨gb329, 1, none⟩) (Kd.R_far (p := ⟨gb329, 0, none⟩) (Kd.R_types HO321.out BK329.out (by decide)) (fun _ hk => hk.2) (.slice Ao95 t324.length co95)) (fun _ hk => hk.2) (.int .i64 t327)) (fun _ hk => hk.2) (.int .i64 t328)) (fun _ h_ => h_.1))) hb); have n4_ := am (Kd.R_below (by (with_reducible repeat (first | apply Kd.R_alloc | apply Kd.R_drewN | apply Kd.R_drew)); exact (Kd.R_mono (Kd.R_far (p := ⟨gb329, 2, none⟩) (Kd.R_far (p := ⟨gb329, 1, none⟩) (Kd.R_far (p := ⟨gb329, 0, none⟩) (Kd.R_types HO326.out BK329.out (by decide)) (fun _ hk => hk.2) (.slice Ao95 t324.length co95)) (fun _ hk => hk.2) (.int .i64 t327)) (fun _ hk => hk.2) (.int .i64 t328)) (fun _ h_ => h_.1))) hb); have n5_ := am (blk_below (g := gb281) (o := .cells #[.slice A0_0 l0_0.length c0_0, .int .i64 a0_1, .int .i64 a0_2] 24 (0, 0)) (by (with_reducible repeat (first | refine blk_drewN ?_ _ | refine blk_drew ?_ | refine blk_alloc ?_ _)); refine blk_far ?_ NB281_329.out _; (with_reducible repeat (first | refine blk_drewN ?_ _ | refine blk_drew ?_ | refine blk_alloc ?_ _)); refine blk_far ?_ NB281_329.out _; (with_reducible repeat (first | refine blk_drewN ?_ _ | refine blk_drew ?_ | refine blk_alloc ?_ _)); refine blk_far ?_ NB281_329.out _; (with_reducible repeat (first | refine blk_drewN ?_ _ | refine blk_drew ?_ | refine blk_alloc ?_ _)); exact BK281.out) hb); have n6_ := am (blk_below (g := gb293) (o := .cells #[.slice Ao24 t288.length co24, .int .i64 t291, .int .i64 t292] 26 (0, 0)) (by (with_reducible repeat (first | refine blk_drewN ?_ _ | refine blk_drew ?_ | refine blk_alloc ?_ _)); refine blk_far ?_ NB293_329.out _; (with_reducible repeat (first | refine blk_drewN ?_ _ | refine blk_drew ?_ | refine blk_alloc ?_ _)); refine blk_far ?_ NB293_329.out _; (with_reducible repeat (first | refine blk_drewN ?_ _ | refine blk_drew ?_ | refine blk_alloc ?_ _)); refine blk_far ?_ NB293_329.out _; (with_reducible repeat (first | refine blk_drewN ?_ _ | refine blk_drew ?_ | refine blk_alloc ?_ _)); exact BK293.out) hb); have n7_ := am (blk_below (g := gb299) (o := .cells #[.slice Ao30 t314.length co30, .int .i64 t297, .int .i64 t298] 26 (0, 0)) (by (with_reducible repeat (first | refine blk_drewN ?_ _ | refine blk_drew ?_ | refine blk_alloc ?_ _)); refine blk_far ?_ NB299_329.out _; (with_reducible repeat (first | refine blk_drewN ?_ _ | refine blk_drew ?_ | refine blk_alloc ?_ _)); refine blk_far ?_ NB299_329.out _; (with_reducible repeat (first | refine blk_drewN ?_ _ | refine blk_drew ?_ | refine blk_alloc ?_ _)); refine blk_far ?_ NB299_329.out _; (with_reducible repeat (first | refine blk_drewN ?_ _ | refine blk_drew ?_ | refine blk_alloc ?_ _)); exact BK299.out) hb); have n8_ := am (blk_below (g := gb305) (o := .cells #[.slice Ao36 t317.length co36, .int .i64 t303, .int .i64 t304] 26 (0, 0)) (by (with_reducible repeat (first | refine blk_drewN ?_ _ | refine blk_drew ?_ | refine blk_alloc ?_ _)); refine blk_far ?_ NB305_329.out _; (with_reducible repeat (first | refine blk_drewN ?_ _ | refine blk_drew ?_ | refine blk_alloc ?_ _)); refine blk_far ?_ NB305_329.out _; (with_reducible repeat (first | refine blk_drewN ?_ _ | refine blk_drew ?_ | refine blk_alloc ?_ _)); refine blk_far ?_ NB305_329.out _; (with_reducible repeat (first | refine blk_drewN ?_ _ | refine blk_drew ?_ | refine blk_alloc ?_ _)); exact BK305.out) hb); have n9_ := am (blk_below (g := gb329) (o := .cells #[.slice Ao95 t324.length co95, .int .i64 t327, .int .i64 t328] 26 (0, 0)) (by (with_reducible repeat (first | refine blk_drewN ?_ _ | refine blk_drew ?_ | refine blk_alloc ?_ _)); refine blk_put (cs := #[.slice Ao95 t324.length co95, .int .i64 t327, .int .i64 0]) ?_ 2 _ rfl; (with_reducible repeat (first | refine blk_drewN ?_ _ | refine blk_drew ?_ | refine blk_alloc ?_ _)); refine blk_put (cs := #[.slice Ao95 t324.length co95, .int .i64 0, .int .i64 0]) ?_ 1 _ rfl; (with_reducible repeat (first | refine blk_drewN ?_ _ | refine blk_drew ?_ | refine blk_alloc ?_ _)); refine blk_put (cs := #[.slice none 0 0, .int .i64 0, .int .i64 0]) ?_ 0 _ rfl; (with_reducible repeat (first | refine blk_drewN ?_ _ | refine blk_drew ?_ | refine blk_alloc ?_ _)); exact BK329.out) hb); have n10_ := am (below_step (by repeat (first | (with_reducible first | exact HB.out | apply below_alloc | apply pw_below_drewN | apply below_drew1 | refine below_set ?_ GE281.out | refine below_set ?_ GE293.out | refine below_set ?_ GE299.out | refine below_set ?_ GE305.out | refine below_set ?_ GE329.out) | exact HB.out)) hb); clear HO_294000; clear HO_300000; clear HO_306000; clear HO321; clear HO326; clear BK281; clear BK293; clear BK299; clear BK305; clear BK329; clear HB; have HO_294000 := n0_; have HO_300000 := n1_; have HO_306000 := n2_; have HO321 := n3_; have HO326 := n4_; have BK281 := n5_; have BK293 := n6_; have BK299 := n7_; have BK305 := n8_; have BK329 := n9_; have HB := n10_; clear n0_ n1_ n2_ n3_ n4_ n5_ n6_ n7_ n8_ n9_ n10_; (try clear hb); (try clear hb2); (try clear hk); (try clear hi)))
             (try simp only [Act.put, List.setIfInBounds_toArray, List.set_cons_zero, List.set_cons_succ])
             go_cut [] (fun wc => ∃ (kq : Nat), Aside0 (laws_FnExactBufMove.j5 kq t316 t317 t303 t304 = some r) ∧ Aside0 (kq ≤ kj72) ∧ Aside0 (Kd.R (Kd.int .i64) 2 wc w.heap.size (fun k_ => some k_ ≠ ((.slice Ao30 t314.length co30) : Value).ownBlock ∧ some k_ ≠ ((.slice Ao36 t317.length co36) : Value).ownBlock ∧ some k_ ≠ ((.slice Ao95 t324.length co95) : Value).ownBlock) (.slice Ao24 t288.length co24) t288) ∧ Aside0 (Kd.R (Kd.int .i64) 2 wc w.heap.size (fun k_ => some k_ ≠ ((.slice Ao24 t288.length co24) : Value).ownBlock ∧ some k_ ≠ ((.slice Ao36 t317.length co36) : Value).ownBlock ∧ some k_ ≠ ((.slice Ao95 t324.length co95) : Value).ownBlock) (.slice Ao30 t314.length co30) t314) ∧ Aside0 (Kd.R (Kd.int .i64) 2 wc w.heap.size (fun k_ => some k_ ≠ ((.slice Ao24 t288.length co24) : Value).ownBlock ∧ some k_ ≠ ((.slice Ao30 t314.length co30) : Value).ownBlock ∧ some k_ ≠ ((.slice Ao95 t324.length co95) : Value).ownBlock) (.slice Ao36 t317.length co36) t317) ∧ Aside0 (Kd.R (Kd.int .i64) 2 wc w.heap.size (fun k_ => some k_ ≠ ((.slice Ao24 t288.length co24) : Value).ownBlock ∧ some k_ ≠ ((.slice Ao30 t314.length co30) : Value).ownBlock ∧ some k_ ≠ ((.slice Ao36 t317.length co36) : Value).ownBlock) (.slice Ao95 t324.length co95) t324) ∧ Aside0 (wc.heap[gb281]? = some (.cells #[(.slice A0_0 l0_0.length c0_0), .int .i64 a0_1, .int .i64 a0_2] 24 (0, 0))) ∧ Aside0 (wc.heap[gb293]? = some (.cells #[(.slice Ao24 t288.length co24), .int .i64 t291, .int .i64 t292] 26 (0, 0))) ∧ Aside0 (wc.heap[gb299]? = some (.cells #[(.slice Ao30 t314.length co30), .int .i64 t297, .int .i64 t298] 26 (0, 0))) ∧ Aside0 (wc.heap[gb305]? = some (.cells #[(.slice Ao36 t317.length co36), .int .i64 t303, .int .i64 t304] 26 (0, 0))) ∧ Aside0 (wc.heap[gb329]? = some (.cells #[(.slice Ao95 t324.length co95), .int .i64 t327, .int .i64 t328] 26 (0, 0))) ∧ Aside0 (Below w.heap.size w wc))
             case first =>
              have H := HC86.out
              clear HC86
              by_cases c105 : t330 = true
              ·subst c105
               have H1 : (laws_FnExactBufMove.j5 kj72 t316 t317 t303 t304) = some r := by rw [if_pos rfl] at H; exact H
               clear H
               have H := H1
               clear H1
               have H' := Aside0.mk H
               clear H
               go_wp2
               go_meet
               case rel => exact ⟨_, H', ⟨by have := HJ14.out; have := HJ45.out; have := HJ52.out; have := HJ68.out; have := HJ72.out; first | omega | exact Nat.le_refl _⟩, ⟨by (try simp only [hl300000_52]); (try simp only [hl306000_72]); (with_reducible repeat (first | apply Kd.R_alloc | apply Kd.R_drewN | apply Kd.R_drew)); exact Kd.R_mono HO_294000.out (fun _ hk => ⟨hk.1.1.1, ⟨hk.1.1.2, hk.2⟩⟩)⟩, ⟨by (try simp only [hl300000_52]); (try simp only [hl306000_72]); (with_reducible repeat (first | apply Kd.R_alloc | apply Kd.R_drewN | apply Kd.R_drew)); exact Kd.R_mono HO_300000.out (fun _ hk => ⟨hk.1.1.1, ⟨hk.1.1.2, hk.2⟩⟩)⟩, ⟨by (try simp only [hl300000_52]); (try simp only [hl306000_72]); (with_reducible repeat (first | apply Kd.R_alloc | apply Kd.R_drewN | apply Kd.R_drew)); exact Kd.R_mono HO_306000.out (fun _ hk => ⟨hk.1.1.1, ⟨hk.1.1.2, hk.2⟩⟩)⟩, ⟨by (try simp only [hl300000_52]); (try simp only [hl306000_72]); (with_reducible repeat (first | apply Kd.R_alloc | apply Kd.R_drewN | apply Kd.R_drew)); exact Kd.R_mono HO326.out (fun _ hk => ⟨hk.1.1.1.2, ⟨hk.1.1.2, hk.1.2⟩⟩)⟩, ⟨by (try simp only [hl300000_52]); (try simp only [hl306000_72]); (with_reducible repeat (first | refine blk_drewN ?_ _ | refine blk_drew ?_ | refine blk_alloc ?_ _)); exact BK281.out⟩, ⟨by (try simp only [hl300000_52]); (try simp only [hl306000_72]); (with_reducible repeat (first | refine blk_drewN ?_ _ | refine blk_drew ?_ | refine blk_alloc ?_ _)); exact BK293.out⟩, ⟨by (try simp only [hl300000_52]); (try simp only [hl306000_72]); (with_reducible repeat (first | refine blk_drewN ?_ _ | refine blk_drew ?_ | refine blk_alloc ?_ _)); exact BK299.out⟩, ⟨by (try simp only [hl300000_52]); (try simp only [hl306000_72]); (with_reducible repeat (first | refine blk_drewN ?_ _ | refine blk_drew ?_ | refine blk_alloc ?_ _)); exact BK305.out⟩, ⟨by (try simp only [hl300000_52]); (try simp only [hl306000_72]); (with_reducible repeat (first | refine blk_drewN ?_ _ | refine blk_drew ?_ | refine blk_alloc ?_ _)); exact BK329.out⟩, ⟨by repeat (first | (with_reducible first | exact HB.out | apply below_alloc | apply pw_below_drewN | apply below_drew1 | refine below_set ?_ GE281.out | refine below_set ?_ GE293.out | refine below_set ?_ GE299.out | refine below_set ?_ GE305.out | refine below_set ?_ GE329.out) | exact HB.out)⟩⟩
              ·replace c105 := Bool.eq_false_iff.mpr c105
               subst c105
               have H1 : (some false) = some r := by rw [if_neg (show ¬ (false = true) by decide)] at H; exact H
               clear H
               have H := H1
               clear H1
               obtain rfl := Option.some.inj H
               go_wp2
               go_ret
               exact ⟨by first | rfl | (simp [errW_none, errW_some] <;> rfl) | (simp [*, errW_none, errW_some] <;> rfl), by repeat (first | (with_reducible first | exact HB.out | apply below_alloc | apply pw_below_drewN | apply below_drew1 | refine below_set ?_ GE281.out | refine below_set ?_ GE293.out | refine below_set ?_ GE299.out | refine below_set ?_ GE305.out | refine below_set ?_ GE329.out) | exact HB.out)⟩
             case rest =>
              clear HC86
              try clear c1
              try clear c2
              try clear p2
              try clear c3
              try clear c4
              try clear c5
              try clear c6
              try clear c6b0
              try clear c7
              try clear c8
              try clear c9
              try clear c10
              try clear c11
              try clear c12
              try clear c13
              try clear c14
              try clear c15
              try clear c25
              try clear c31
              try clear c32
              try clear c37
              try clear c38
              try clear c39
              try clear c43
              try clear c51
              try clear c54
              try clear c55
              try clear c56
              try clear c59
              try clear c59b0
              try clear c61
              try clear c62
              try clear c63
              try clear c65
              try clear c66
              try clear c70
              try clear c74
              try clear c75
              try clear c76
              try clear c81
              try clear c81b0
              try clear c82
              try clear c82b0
              try clear c82b1
              try clear c87
              try clear c88
              try clear c89
              try clear c96
              try clear c97
              try clear c98
              try clear c99
              try clear c101
              try clear c102
              try clear c105
              try clear hcz100_0
              try clear hcz100_1
              try clear hcz100_2
              try clear hcz103_0
              try clear hcz103_1
              try clear hcz103_2
              try clear hcz17_0
              try clear hcz17_1
              try clear hcz17_2
              try clear hcz19_0
              try clear hcz19_1
              try clear hcz19_2
              try clear hcz26_0
              try clear hcz26_1
              try clear hcz26_2
              try clear hcz27_0
              try clear hcz27_1
              try clear hcz27_2
              try clear hcz33_0
              try clear hcz33_1
              try clear hcz33_2
              try clear hcz40_0
              try clear hcz40_1
              try clear hcz40_2
              try clear hcz41_0
              try clear hcz41_1
              try clear hcz41_2
              try clear hcz57_0
              try clear hcz57_1
              try clear hcz57_2
              try clear hcz64_0
              try clear hcz64_1
              try clear hcz64_2
              try clear hcz67_0
              try clear hcz67_1
              try clear hcz67_2
              try clear hcz77_0
              try clear hcz77_1
              try clear hcz77_2
              try clear hcz79_0
              try clear hcz79_1
              try clear hcz79_2
              try clear hcz8_0
              try clear hcz8_1
              try clear hcz8_2
              try clear hcz90_0
              try clear hcz90_1
              try clear hcz90_2
              try clear hfz100_0
              try clear hfz100_1
              try clear hfz100_2
              try clear hfz103_0
              try clear hfz103_1
              try clear hfz103_2
              try clear hfz17_0
              try clear hfz17_1
              try clear hfz17_2
              try clear hfz19_0
              try clear hfz19_1
              try clear hfz19_2
              try clear hfz26_0
              try clear hfz26_1
              try clear hfz26_2
              try clear hfz27_0
              try clear hfz27_1
              try clear hfz27_2
              try clear hfz33_0
              try clear hfz33_1
              try clear hfz33_2
              try clear hfz40_0
              try clear hfz40_1
              try clear hfz40_2
              try clear hfz41_0
              try clear hfz41_1
              try clear hfz41_2
              try clear hfz57_0
              try clear hfz57_1
              try clear hfz57_2
              try clear hfz64_0
              try clear hfz64_1
              try clear hfz64_2
              try clear hfz67_0
              try clear hfz67_1
              try clear hfz67_2
              try clear hfz77_0
              try clear hfz77_1
              try clear hfz77_2
              try clear hfz79_0
              try clear hfz79_1
              try clear hfz79_2
              try clear hfz8_0
              try clear hfz8_1
              try clear hfz8_2
              try clear hfz90_0
              try clear hfz90_1
              try clear hfz90_2
              try clear p2
              obtain ⟨kq, HA, HJ85, HO_294000, HO_300000, HO_306000, HO_330000, BK281, BK293, BK299, BK305, BK329, HB⟩ := hcut
              cases kq with
              | zero => exact absurd HA.out (by simp [laws_FnExactBufMove.j5])
              | succ kj85 =>
               have H := HA.out
               clear HA
               simp only [laws_FnExactBufMove.j5] at H
               replace H := Option.bind_eq_some_iff.mp H
               obtain ⟨t331, A1060, H⟩ := H
               replace H : (if t331 < 0 then (some false) else (if t331 = t316 then (some true) else (some false))) = some r := H
               have A106 := Aside0.mk A1060
               clear A1060
               by_cases c107 : t331 < 0
               ·rw [if_pos c107] at H
                have c107b0 : decide (t331 < 0) = true := decide_eq_true c107
                clear c107
                obtain rfl := Option.some.inj H
                have hnb108 := NB305_281.out
                have hnc108 := NB281_305.out
                have hnb109 := NB305_293.out
                have hnc109 := NB293_305.out
                have hnb110 := NB305_299.out
                have hnc110 := NB299_305.out
                have hnb111 := NB305_329.out
                have hnc111 := NB329_305.out
                have hcz112_0 : wc.cell? ⟨gb305, 0, none⟩ = some (.slice Ao36 t317.length co36) := (blk_cell BK305.out 0).trans rfl
                have hcz112_1 : wc.cell? ⟨gb305, 1, none⟩ = some (.int .i64 t303) := (blk_cell BK305.out 1).trans rfl
                have hcz112_2 : wc.cell? ⟨gb305, 2, none⟩ = some (.int .i64 t304) := (blk_cell BK305.out 2).trans rfl
                have hfz112_0 := blk_frozen BK305.out 0
                have hfz112_1 := blk_frozen BK305.out 1
                have hfz112_2 := blk_frozen BK305.out 2
                go_wp2_with (first | ((with_reducible refine gate_callee (f := 15) rfl ?_); refine gl (some 78) Try.func15 #[.agg #[.slice Ao36 t317.length co36, .int .i64 t303, .int .i64 t304], .int .i64 1] ?_; (with_reducible refine (laws_heldBuf.calls kj85 _ _ t317 t303 t304 1 t331 _ ?side1 ?side2 A106.out).mono ?_); (case side1 => repeat (first | exact (Kd.R_reads' HO_306000.out).2.2 | (with_reducible refine Kd.C_alloc ?_ _) | (with_reducible refine Kd.C_drewN ?_ _) | (with_reducible refine Kd.C_drew ?_))); (case side2 => exact (Kd.R_reads' HO_306000.out).2.1); rintro e w113 ⟨rfl, hb⟩; refine ⟨_, rfl, ?_⟩; have n0_ := am (Kd.R_below (by (with_reducible repeat (first | apply Kd.R_alloc | apply Kd.R_drewN | apply Kd.R_drew)); exact HO_294000.out) hb); have n1_ := am (Kd.R_below (by (with_reducible repeat (first | apply Kd.R_alloc | apply Kd.R_drewN | apply Kd.R_drew)); exact HO_300000.out) hb); have n2_ := am (Kd.R_below (by (with_reducible repeat (first | apply Kd.R_alloc | apply Kd.R_drewN | apply Kd.R_drew)); exact HO_306000.out) hb); have n3_ := am (Kd.R_below (by (with_reducible repeat (first | apply Kd.R_alloc | apply Kd.R_drewN | apply Kd.R_drew)); exact HO_330000.out) hb); have n4_ := am (blk_below (g := gb281) (o := .cells #[.slice A0_0 l0_0.length c0_0, .int .i64 a0_1, .int .i64 a0_2] 24 (0, 0)) (pk BK281.out) hb); have n5_ := am (blk_below (g := gb293) (o := .cells #[.slice Ao24 t288.length co24, .int .i64 t291, .int .i64 t292] 26 (0, 0)) (pk BK293.out) hb); have n6_ := am (blk_below (g := gb299) (o := .cells #[.slice Ao30 t314.length co30, .int .i64 t297, .int .i64 t298] 26 (0, 0)) (pk BK299.out) hb); have n7_ := am (blk_below (g := gb305) (o := .cells #[.slice Ao36 t317.length co36, .int .i64 t303, .int .i64 t304] 26 (0, 0)) (pk BK305.out) hb); have n8_ := am (blk_below (g := gb329) (o := .cells #[.slice Ao95 t324.length co95, .int .i64 t327, .int .i64 t328] 26 (0, 0)) (pk BK329.out) hb); have n9_ := am (below_step (by repeat (first | (with_reducible first | exact HB.out | apply below_alloc | apply pw_below_drewN | apply below_drew1 | refine below_set ?_ GE281.out | refine below_set ?_ GE293.out | refine below_set ?_ GE299.out | refine below_set ?_ GE305.out | refine below_set ?_ GE329.out) | exact HB.out)) hb); clear HO_294000; clear HO_300000; clear HO_306000; clear HO_330000; clear BK281; clear BK293; clear BK299; clear BK305; clear BK329; clear HB; have HO_294000 := n0_; have HO_300000 := n1_; have HO_306000 := n2_; have HO_330000 := n3_; have BK281 := n4_; have BK293 := n5_; have BK299 := n6_; have BK305 := n7_; have BK329 := n8_; have HB := n9_; clear n0_ n1_ n2_ n3_ n4_ n5_ n6_ n7_ n8_ n9_; (try clear hb); (try clear hb2); (try clear hk); (try clear hi)))
                go_ret
                exact ⟨by first | rfl | (simp [errW_none, errW_some] <;> rfl) | (simp [*, errW_none, errW_some] <;> rfl), by repeat (first | (with_reducible first | exact HB.out | apply below_alloc | apply pw_below_drewN | apply below_drew1 | refine below_set ?_ GE281.out | refine below_set ?_ GE293.out | refine below_set ?_ GE299.out | refine below_set ?_ GE305.out | refine below_set ?_ GE329.out) | exact HB.out)⟩
               ·rw [if_neg c107] at H
                have c107b0 : decide (t331 < 0) = false := decide_eq_false c107
                clear c107
                by_cases c114 : t331 = t316
                ·rw [if_pos c114] at H
                 have c114b0 : (t331 == t316) = true := beq_iff_eq.mpr c114
                 have c114b1 : (t331 != t316) = false := bne_eq_false_iff_eq.mpr c114
                 clear c114
                 obtain rfl := Option.some.inj H
                 have hnb115 := NB305_281.out
                 have hnc115 := NB281_305.out
                 have hnb116 := NB305_293.out
                 have hnc116 := NB293_305.out
                 have hnb117 := NB305_299.out
                 have hnc117 := NB299_305.out
                 have hnb118 := NB305_329.out
                 have hnc118 := NB329_305.out
                 have hcz119_0 : wc.cell? ⟨gb305, 0, none⟩ = some (.slice Ao36 t317.length co36) := (blk_cell BK305.out 0).trans rfl
                 have hcz119_1 : wc.cell? ⟨gb305, 1, none⟩ = some (.int .i64 t303) := (blk_cell BK305.out 1).trans rfl
                 have hcz119_2 : wc.cell? ⟨gb305, 2, none⟩ = some (.int .i64 t304) := (blk_cell BK305.out 2).trans rfl
                 have hfz119_0 := blk_frozen BK305.out 0
                 have hfz119_1 := blk_frozen BK305.out 1
                 have hfz119_2 := blk_frozen BK305.out 2
                 go_wp2_with (first | ((with_reducible refine gate_callee (f := 15) rfl ?_); refine gl (some 78) Try.func15 #[.agg #[.slice Ao36 t317.length co36, .int .i64 t303, .int .i64 t304], .int .i64 1] ?_; (with_reducible refine (laws_heldBuf.calls kj85 _ _ t317 t303 t304 1 t331 _ ?side1 ?side2 A106.out).mono ?_); (case side1 => repeat (first | exact (Kd.R_reads' HO_306000.out).2.2 | (with_reducible refine Kd.C_alloc ?_ _) | (with_reducible refine Kd.C_drewN ?_ _) | (with_reducible refine Kd.C_drew ?_))); (case side2 => exact (Kd.R_reads' HO_306000.out).2.1); rintro e w120 ⟨rfl, hb⟩; refine ⟨_, rfl, ?_⟩; have n0_ := am (Kd.R_below (by (with_reducible repeat (first | apply Kd.R_alloc | apply Kd.R_drewN | apply Kd.R_drew)); exact HO_294000.out) hb); have n1_ := am (Kd.R_below (by (with_reducible repeat (first | apply Kd.R_alloc | apply Kd.R_drewN | apply Kd.R_drew)); exact HO_300000.out) hb); have n2_ := am (Kd.R_below (by (with_reducible repeat (first | apply Kd.R_alloc | apply Kd.R_drewN | apply Kd.R_drew)); exact HO_306000.out) hb); have n3_ := am (Kd.R_below (by (with_reducible repeat (first | apply Kd.R_alloc | apply Kd.R_drewN | apply Kd.R_drew)); exact HO_330000.out) hb); have n4_ := am (blk_below (g := gb281) (o := .cells #[.slice A0_0 l0_0.length c0_0, .int .i64 a0_1, .int .i64 a0_2] 24 (0, 0)) (pk BK281.out) hb); have n5_ := am (blk_below (g := gb293) (o := .cells #[.slice Ao24 t288.length co24, .int .i64 t291, .int .i64 t292] 26 (0, 0)) (pk BK293.out) hb); have n6_ := am (blk_below (g := gb299) (o := .cells #[.slice Ao30 t314.length co30, .int .i64 t297, .int .i64 t298] 26 (0, 0)) (pk BK299.out) hb); have n7_ := am (blk_below (g := gb305) (o := .cells #[.slice Ao36 t317.length co36, .int .i64 t303, .int .i64 t304] 26 (0, 0)) (pk BK305.out) hb); have n8_ := am (blk_below (g := gb329) (o := .cells #[.slice Ao95 t324.length co95, .int .i64 t327, .int .i64 t328] 26 (0, 0)) (pk BK329.out) hb); have n9_ := am (below_step (by repeat (first | (with_reducible first | exact HB.out | apply below_alloc | apply pw_below_drewN | apply below_drew1 | refine below_set ?_ GE281.out | refine below_set ?_ GE293.out | refine below_set ?_ GE299.out | refine below_set ?_ GE305.out | refine below_set ?_ GE329.out) | exact HB.out)) hb); clear HO_294000; clear HO_300000; clear HO_306000; clear HO_330000; clear BK281; clear BK293; clear BK299; clear BK305; clear BK329; clear HB; have HO_294000 := n0_; have HO_300000 := n1_; have HO_306000 := n2_; have HO_330000 := n3_; have BK281 := n4_; have BK293 := n5_; have BK299 := n6_; have BK305 := n7_; have BK329 := n8_; have HB := n9_; clear n0_ n1_ n2_ n3_ n4_ n5_ n6_ n7_ n8_ n9_; (try clear hb); (try clear hb2); (try clear hk); (try clear hi)))
                 go_ret
                 exact ⟨by first | rfl | (simp [errW_none, errW_some] <;> rfl) | (simp [*, errW_none, errW_some] <;> rfl), by repeat (first | (with_reducible first | exact HB.out | apply below_alloc | apply pw_below_drewN | apply below_drew1 | refine below_set ?_ GE281.out | refine below_set ?_ GE293.out | refine below_set ?_ GE299.out | refine below_set ?_ GE305.out | refine below_set ?_ GE329.out) | exact HB.out)⟩
                ·rw [if_neg c114] at H
                 have c114b0 : (t331 == t316) = false := beq_eq_false_iff_ne.mpr c114
                 have c114b1 : (t331 != t316) = true := bne_iff_ne.mpr c114
                 obtain rfl := Option.some.inj H
                 have hnb121 := NB305_281.out
                 have hnc121 := NB281_305.out
                 have hnb122 := NB305_293.out
                 have hnc122 := NB293_305.out
                 have hnb123 := NB305_299.out
                 have hnc123 := NB299_305.out
                 have hnb124 := NB305_329.out
                 have hnc124 := NB329_305.out
                 have hcz125_0 : wc.cell? ⟨gb305, 0, none⟩ = some (.slice Ao36 t317.length co36) := (blk_cell BK305.out 0).trans rfl
                 have hcz125_1 : wc.cell? ⟨gb305, 1, none⟩ = some (.int .i64 t303) := (blk_cell BK305.out 1).trans rfl
                 have hcz125_2 : wc.cell? ⟨gb305, 2, none⟩ = some (.int .i64 t304) := (blk_cell BK305.out 2).trans rfl
                 have hfz125_0 := blk_frozen BK305.out 0
                 have hfz125_1 := blk_frozen BK305.out 1
                 have hfz125_2 := blk_frozen BK305.out 2
                 go_wp2_with (first | ((with_reducible refine gate_callee (f := 15) rfl ?_); refine gl (some 78) Try.func15 #[.agg #[.slice Ao36 t317.length co36, .int .i64 t303, .int .i64 t304], .int .i64 1] ?_; (with_reducible refine (laws_heldBuf.calls kj85 _ _ t317 t303 t304 1 t331 _ ?side1 ?side2 A106.out).mono ?_); (case side1 => repeat (first | exact (Kd.R_reads' HO_306000.out).2.2 | (with_reducible refine Kd.C_alloc ?_ _) | (with_reducible refine Kd.C_drewN ?_ _) | (with_reducible refine Kd.C_drew ?_))); (case side2 => exact (Kd.R_reads' HO_306000.out).2.1); rintro e w126 ⟨rfl, hb⟩; refine ⟨_, rfl, ?_⟩; have n0_ := am (Kd.R_below (by (with_reducible repeat (first | apply Kd.R_alloc | apply Kd.R_drewN | apply Kd.R_drew)); exact HO_294000.out) hb); have n1_ := am (Kd.R_below (by (with_reducible repeat (first | apply Kd.R_alloc | apply Kd.R_drewN | apply Kd.R_drew)); exact HO_300000.out) hb); have n2_ := am (Kd.R_below (by (with_reducible repeat (first | apply Kd.R_alloc | apply Kd.R_drewN | apply Kd.R_drew)); exact HO_306000.out) hb); have n3_ := am (Kd.R_below (by (with_reducible repeat (first | apply Kd.R_alloc | apply Kd.R_drewN | apply Kd.R_drew)); exact HO_330000.out) hb); have n4_ := am (blk_below (g := gb281) (o := .cells #[.slice A0_0 l0_0.length c0_0, .int .i64 a0_1, .int .i64 a0_2] 24 (0, 0)) (pk BK281.out) hb); have n5_ := am (blk_below (g := gb293) (o := .cells #[.slice Ao24 t288.length co24, .int .i64 t291, .int .i64 t292] 26 (0, 0)) (pk BK293.out) hb); have n6_ := am (blk_below (g := gb299) (o := .cells #[.slice Ao30 t314.length co30, .int .i64 t297, .int .i64 t298] 26 (0, 0)) (pk BK299.out) hb); have n7_ := am (blk_below (g := gb305) (o := .cells #[.slice Ao36 t317.length co36, .int .i64 t303, .int .i64 t304] 26 (0, 0)) (pk BK305.out) hb); have n8_ := am (blk_below (g := gb329) (o := .cells #[.slice Ao95 t324.length co95, .int .i64 t327, .int .i64 t328] 26 (0, 0)) (pk BK329.out) hb); have n9_ := am (below_step (by repeat (first | (with_reducible first | exact HB.out | apply below_alloc | apply pw_below_drewN | apply below_drew1 | refine below_set ?_ GE281.out | refine below_set ?_ GE293.out | refine below_set ?_ GE299.out | refine below_set ?_ GE305.out | refine below_set ?_ GE329.out) | exact HB.out)) hb); clear HO_294000; clear HO_300000; clear HO_306000; clear HO_330000; clear BK281; clear BK293; clear BK299; clear BK305; clear BK329; clear HB; have HO_294000 := n0_; have HO_300000 := n1_; have HO_306000 := n2_; have HO_330000 := n3_; have BK281 := n4_; have BK293 := n5_; have BK299 := n6_; have BK305 := n7_; have BK329 := n8_; have HB := n9_; clear n0_ n1_ n2_ n3_ n4_ n5_ n6_ n7_ n8_ n9_; (try clear hb); (try clear hb2); (try clear hk); (try clear hi)))
                 go_ret
                 exact ⟨by first | rfl | (simp [errW_none, errW_some] <;> rfl) | (simp [*, errW_none, errW_some] <;> rfl), by repeat (first | (with_reducible first | exact HB.out | apply below_alloc | apply pw_below_drewN | apply below_drew1 | refine below_set ?_ GE281.out | refine below_set ?_ GE293.out | refine below_set ?_ GE299.out | refine below_set ?_ GE305.out | refine below_set ?_ GE329.out) | exact HB.out)⟩
            ·rw [if_neg c82] at H
             have c82b0 : (t318 == t316) = false := beq_eq_false_iff_ne.mpr c82
             have c82b1 : (t318 != t316) = true := bne_iff_ne.mpr c82
             obtain rfl := Option.some.inj H
             go_wp2
             go_ret
             exact ⟨by first | rfl | (simp [errW_none, errW_some] <;> rfl) | (simp [*, errW_none, errW_some] <;> rfl), by repeat (first | (with_reducible first | exact HB.out | apply below_alloc | apply pw_below_drewN | apply below_drew1 | refine below_set ?_ GE281.out | refine below_set ?_ GE293.out | refine below_set ?_ GE299.out | refine below_set ?_ GE305.out) | exact HB.out)⟩

/-- THE ONE PURE STATEMENT of laws_FnExactBufMove. -/
def laws_FnExactBufMove.Pure : Prop := ∀ (l0_0 : List Int) (a0_1 : Int) (a0_2 : Int) (a1 : Int) (a2 : Int) (a3 : Int), ((l0_0.length ≤ maxLen ∧ ∀ y0_ ∈ l0_0, (Lit.int .i64 y0_).wf = true) ∧ (Lit.int .i64 a0_1).wf = true ∧ (Lit.int .i64 a0_2).wf = true) → (Lit.int .i64 a1).wf = true → (Lit.int .i64 a2).wf = true → (Lit.int .i64 a3).wf = true → ∃ k, laws_FnExactBufMove.f k l0_0 a0_1 a0_2 a1 a2 a3 = some true

end Go.Proofs.Ytegadjijonlmcaa.PFnExactBufMove
