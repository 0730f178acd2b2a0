-- Written by xprint.py (this claim's own program, over the kit's printer); Lean checks it.
import Derived.Test.YtejgkbejdkaccaaPFnExactBufReplacex0
import Derived.Test.YtejgkbejdkaccaaPFnExactBufReplacex1
import Derived.Test.YtejgkbejdkaccaaPFnExactBufReplacex2
import Derived.Test.YtejgkbejdkaccaaPFnExactBufReplacex3
import Derived.Test.YtejgkbejdkaccaaPFnExactBufReplacex6
namespace Go.Proofs.Ytejgkbejdkaccaa.PFnExactBufReplace
open Go.RowKit Go.Proofs.YtejgkbejdkaccaaW.PrintWords Go.Proofs.YtejgkbejdkaccaaW.PrintLast Go.Proofs.YtejgkbejdkaccaaW.PrintMore
attribute [local go_sem] max2_int min2_int max_two min_two max_three min_three max_four min_four   -- for this text's walks alone
set_option linter.unusedVariables false
set_option linter.unusedSimpArgs false   -- squeezed

/-! ### laws_FnExactBufReplace: function 3 -/
mutual
def laws_FnExactBufReplace.j0 : Nat → Int → Int → List Int → List Int → List Int → Int → Int → List Int → Int → Int → List Int → Int → List Int → Int → Int → List Int → Int → Int → List Int → Int → Option (Bool)
 | 0, _, _, _, _, _, _, _, _, _, _, _, _, _, _, _, _, _, _, _, _ => none
 | k + 1, x1, x2, x3, x12, x257000, x257001, x257002, x276000, x276001, x276002, x276003, x276004, x282000, x282001, x282002, x295000, x295001, x295002, x295003, x295004 => (laws_toBuf.f k x257000 x257001 x257002).bind fun bt296 => ((laws_eqBuf.f k x282000 x282001 x282002 bt296.1 bt296.2.1 bt296.2.2).bind fun t301 => (if t301 = true then (laws_FnExactBufReplace.j1 k x1 x2 x3 x12 x257000 x257001 x257002 x276000 x276001 x276002 x276003 x276004 x282000 x282001 x282002 x295000 x295001 x295002 x295003 x295004) else (some false)))
def laws_FnExactBufReplace.j1 : Nat → Int → Int → List Int → List Int → List Int → Int → Int → List Int → Int → Int → List Int → Int → List Int → Int → Int → List Int → Int → Int → List Int → Int → Option (Bool)
 | 0, _, _, _, _, _, _, _, _, _, _, _, _, _, _, _, _, _, _, _, _ => none
 | k + 1, x1, x2, x3, x12, x257000, x257001, x257002, x276000, x276001, x276002, x276003, x276004, x282000, x282001, x282002, x295000, x295001, x295002, x295003, x295004 => (laws_toInt64S.f k x3).bind fun t302 => ((laws_eqInt64S.f k x12 t302).bind fun t305 => (if t305 = true then (laws_FnExactBufReplace.j2 k x1 x2 x3 x12 x257000 x257001 x257002 x276000 x276001 x276002 x276003 x276004 x282000 x282001 x282002 x295000 x295001 x295002 x295003 x295004) else (some false)))
def laws_FnExactBufReplace.j2 : Nat → Int → Int → List Int → List Int → List Int → Int → Int → List Int → Int → Int → List Int → Int → List Int → Int → Int → List Int → Int → Int → List Int → Int → Option (Bool)
 | 0, _, _, _, _, _, _, _, _, _, _, _, _, _, _, _, _, _, _, _, _ => none
 | k + 1, x1, x2, x3, x12, x257000, x257001, x257002, x276000, x276001, x276002, x276003, x276004, x282000, x282001, x282002, x295000, x295001, x295002, x295003, x295004 => (laws_markBuf.f k x282000 x282001 x282002 1).bind fun bt306 => ((laws_markInt64S.f k x12 bt306.1).bind fun bt308 => (if bt308.1 < 0 then (laws_FnExactBufReplace.j3 k x1 x2 x3 true x257000 x257001 x257002 x276000 x276001 x276002 x276003 x276004 x295000 x295001 x295002 x295003 x295004) else ((laws_eqBufOut.f k x295000 x295001 x295002 x295003 x295004 x276000 x276001 x276002 x276003 x276004).bind fun t310 => (laws_FnExactBufReplace.j3 k x1 x2 x3 (!t310) x257000 x257001 x257002 x276000 x276001 x276002 x276003 x276004 x295000 x295001 x295002 x295003 x295004))))
def laws_FnExactBufReplace.j3 : Nat → Int → Int → List Int → Bool → List Int → Int → Int → List Int → Int → Int → List Int → Int → List Int → Int → Int → List Int → Int → Option (Bool)
 | 0, _, _, _, _, _, _, _, _, _, _, _, _, _, _, _, _, _ => none
 | k + 1, x1, x2, x3, x69, x257000, x257001, x257002, x276000, x276001, x276002, x276003, x276004, x295000, x295001, x295002, x295003, x295004 => if x69 = true then (some false) else (laws_FnExactBufReplace.j4 k x1 x2 x3 x257000 x257001 x257002 x276000 x276001 x276002 x276003 x276004 x295000 x295001 x295002 x295003 x295004)
def laws_FnExactBufReplace.j4 : Nat → Int → Int → List Int → List Int → Int → Int → List Int → Int → Int → List Int → Int → List Int → Int → Int → List Int → Int → Option (Bool)
 | 0, _, _, _, _, _, _, _, _, _, _, _, _, _, _, _, _ => none
 | k + 1, x1, x2, x3, x257000, x257001, x257002, x276000, x276001, x276002, x276003, x276004, x295000, x295001, x295002, x295003, x295004 => (laws_markBufOut.f k x295000 x295001 x295002 x295003 x295004 1).bind fun bt311 => ((laws_heldBufOut.f k bt311.2.1 x295001 x295002 bt311.2.2 x295004 1).bind fun t314 => (if t314 < 0 then (some false) else (laws_FnExactBufReplace.j5 k x1 x2 x3 bt311.1 t314 x257000 x257001 x257002 x276000 x276001 x276002 x276003 x276004 bt311.2.1 x295001 x295002 bt311.2.2 x295004)))
def laws_FnExactBufReplace.j5 : Nat → Int → Int → List Int → Int → Int → List Int → Int → Int → List Int → Int → Int → List Int → Int → List Int → Int → Int → List Int → Int → Option (Bool)
 | 0, _, _, _, _, _, _, _, _, _, _, _, _, _, _, _, _, _, _ => none
 | k + 1, x1, x2, x3, x15, x16, x257000, x257001, x257002, x276000, x276001, x276002, x276003, x276004, x295000, x295001, x295002, x295003, x295004 => if x16 = x15 then ((laws_toBuf.f k x257000 x257001 x257002).bind fun bt315 => ((laws_toInt64S.f k x3).bind fun t320 => ((impl_BufReplace.f k bt315.1 bt315.2.1 bt315.2.2 x1 x2 t320).bind fun bt323 => ((laws_eqBufOut.f k bt323.1 bt323.2.1 bt323.2.2.1 bt323.2.2.2.1 bt323.2.2.2.2 x276000 x276001 x276002 x276003 x276004).bind fun t333 => (if t333 = true then (laws_FnExactBufReplace.j6 k x15 x295000 x295001 x295002 x295003 x295004) else (some false)))))) else (some false)
def laws_FnExactBufReplace.j6 : Nat → Int → List Int → Int → Int → List Int → Int → Option (Bool)
 | 0, _, _, _, _, _, _ => none
 | k + 1, x15, x295000, x295001, x295002, x295003, x295004 => (laws_heldBufOut.f k x295000 x295001 x295002 x295003 x295004 1).bind fun t334 => (if t334 < 0 then (some false) else (if t334 = x15 then (some true) else (some false)))
end
def laws_FnExactBufReplace.f (k : Nat) (l0_0 : List Int) (a0_1 : Int) (a0_2 : Int) (a1 : Int) (a2 : Int) (l3 : List Int) : Option (Bool) := if (l3.length : Int) > 1048576 then (some true) else ((laws_szBuf.f l0_0 a0_1 a0_2 1048576).bind fun t257 => (if t257 < 0 then (some true) else ((laws_toBuf.f k l0_0 a0_1 a0_2).bind fun bt258 => ((laws_toInt64S.f k l3).bind fun t263 => ((spec_BufReplace.f k bt258.1 bt258.2.1 bt258.2.2 a1 a2 t263).bind fun bt266 => ((laws_toBuf.f k l0_0 a0_1 a0_2).bind fun bt276 => ((laws_toInt64S.f k l3).bind fun t282 => ((impl_BufReplace.f k bt276.1 bt276.2.1 bt276.2.2 a1 a2 t282).bind fun bt285 => ((laws_eqBufOut.f k bt285.1 bt285.2.1 bt285.2.2.1 bt285.2.2.2.1 bt285.2.2.2.2 bt266.1 bt266.2.1 bt266.2.2.1 bt266.2.2.2.1 bt266.2.2.2.2).bind fun t295 => (if t295 = true then (laws_FnExactBufReplace.j0 k a1 a2 l3 t282 l0_0 a0_1 a0_2 bt266.1 bt266.2.1 bt266.2.2.1 bt266.2.2.2.1 bt266.2.2.2.2 bt276.1 bt276.2.1 bt276.2.2 bt285.1 bt285.2.1 bt285.2.2.1 bt285.2.2.2.1 bt285.2.2.2.2) else (some false)))))))))))
theorem laws_FnExactBufReplace.mono_l : ∀ k, (∀ y0 y1 y2 y3 y4 y5 y6 y7 y8 y9 y10 y11 y12 y13 y14 y15 y16 y17 y18 y19, LeO (laws_FnExactBufReplace.j0 k y0 y1 y2 y3 y4 y5 y6 y7 y8 y9 y10 y11 y12 y13 y14 y15 y16 y17 y18 y19) (laws_FnExactBufReplace.j0 (k + 1) y0 y1 y2 y3 y4 y5 y6 y7 y8 y9 y10 y11 y12 y13 y14 y15 y16 y17 y18 y19)) ∧ (∀ y0 y1 y2 y3 y4 y5 y6 y7 y8 y9 y10 y11 y12 y13 y14 y15 y16 y17 y18 y19, LeO (laws_FnExactBufReplace.j1 k y0 y1 y2 y3 y4 y5 y6 y7 y8 y9 y10 y11 y12 y13 y14 y15 y16 y17 y18 y19) (laws_FnExactBufReplace.j1 (k + 1) y0 y1 y2 y3 y4 y5 y6 y7 y8 y9 y10 y11 y12 y13 y14 y15 y16 y17 y18 y19)) ∧ (∀ y0 y1 y2 y3 y4 y5 y6 y7 y8 y9 y10 y11 y12 y13 y14 y15 y16 y17 y18 y19, LeO (laws_FnExactBufReplace.j2 k y0 y1 y2 y3 y4 y5 y6 y7 y8 y9 y10 y11 y12 y13 y14 y15 y16 y17 y18 y19) (laws_FnExactBufReplace.j2 (k + 1) y0 y1 y2 y3 y4 y5 y6 y7 y8 y9 y10 y11 y12 y13 y14 y15 y16 y17 y18 y19)) ∧ (∀ y0 y1 y2 y3 y4 y5 y6 y7 y8 y9 y10 y11 y12 y13 y14 y15 y16, LeO (laws_FnExactBufReplace.j3 k y0 y1 y2 y3 y4 y5 y6 y7 y8 y9 y10 y11 y12 y13 y14 y15 y16) (laws_FnExactBufReplace.j3 (k + 1) y0 y1 y2 y3 y4 y5 y6 y7 y8 y9 y10 y11 y12 y13 y14 y15 y16)) ∧ (∀ y0 y1 y2 y3 y4 y5 y6 y7 y8 y9 y10 y11 y12 y13 y14 y15, LeO (laws_FnExactBufReplace.j4 k y0 y1 y2 y3 y4 y5 y6 y7 y8 y9 y10 y11 y12 y13 y14 y15) (laws_FnExactBufReplace.j4 (k + 1) y0 y1 y2 y3 y4 y5 y6 y7 y8 y9 y10 y11 y12 y13 y14 y15)) ∧ (∀ y0 y1 y2 y3 y4 y5 y6 y7 y8 y9 y10 y11 y12 y13 y14 y15 y16 y17, LeO (laws_FnExactBufReplace.j5 k y0 y1 y2 y3 y4 y5 y6 y7 y8 y9 y10 y11 y12 y13 y14 y15 y16 y17) (laws_FnExactBufReplace.j5 (k + 1) y0 y1 y2 y3 y4 y5 y6 y7 y8 y9 y10 y11 y12 y13 y14 y15 y16 y17)) ∧ (∀ y0 y1 y2 y3 y4 y5, LeO (laws_FnExactBufReplace.j6 k y0 y1 y2 y3 y4 y5) (laws_FnExactBufReplace.j6 (k + 1) y0 y1 y2 y3 y4 y5))
 | 0 => ⟨fun _ _ _ _ _ _ _ _ _ _ _ _ _ _ _ _ _ _ _ _ r h => by simp [laws_FnExactBufReplace.j0] at h, fun _ _ _ _ _ _ _ _ _ _ _ _ _ _ _ _ _ _ _ _ r h => by simp [laws_FnExactBufReplace.j1] at h, fun _ _ _ _ _ _ _ _ _ _ _ _ _ _ _ _ _ _ _ _ r h => by simp [laws_FnExactBufReplace.j2] at h, fun _ _ _ _ _ _ _ _ _ _ _ _ _ _ _ _ _ r h => by simp [laws_FnExactBufReplace.j3] at h, fun _ _ _ _ _ _ _ _ _ _ _ _ _ _ _ _ r h => by simp [laws_FnExactBufReplace.j4] at h, fun _ _ _ _ _ _ _ _ _ _ _ _ _ _ _ _ _ _ r h => by simp [laws_FnExactBufReplace.j5] at h, fun _ _ _ _ _ _ r h => by simp [laws_FnExactBufReplace.j6] at h⟩
 | k + 1 => by
  obtain ⟨ih0, ih1, ih2, ih3, ih4, ih5, ih6⟩ := laws_FnExactBufReplace.mono_l k
  refine ⟨?_, ?_, ?_, ?_, ?_, ?_, ?_⟩
  ·intro y0 y1 y2 y3 y4 y5 y6 y7 y8 y9 y10 y11 y12 y13 y14 y15 y16 y17 y18 y19
   unfold laws_FnExactBufReplace.j0
   repeat' first
   | (with_reducible exact ih0 _ _ _ _ _ _ _ _ _ _ _ _ _ _ _ _ _ _ _ _)
   | (with_reducible exact ih1 _ _ _ _ _ _ _ _ _ _ _ _ _ _ _ _ _ _ _ _)
   | (with_reducible exact ih2 _ _ _ _ _ _ _ _ _ _ _ _ _ _ _ _ _ _ _ _)
   | (with_reducible exact ih3 _ _ _ _ _ _ _ _ _ _ _ _ _ _ _ _ _)
   | (with_reducible exact ih4 _ _ _ _ _ _ _ _ _ _ _ _ _ _ _ _)
   | (with_reducible exact ih5 _ _ _ _ _ _ _ _ _ _ _ _ _ _ _ _ _ _)
   | (with_reducible exact ih6 _ _ _ _ _ _)
   | (with_reducible exact impl_BufReplace.mono _ _ _ _ _ _ _)
   | (with_reducible exact laws_eqBuf.mono _ _ _ _ _ _ _)
   | (with_reducible exact laws_eqBufOut.mono _ _ _ _ _ _ _ _ _ _ _)
   | (with_reducible exact laws_eqInt64S.mono _ _ _)
   | (with_reducible exact laws_heldBufOut.mono _ _ _ _ _ _ _)
   | (with_reducible exact laws_markBuf.mono _ _ _ _ _)
   | (with_reducible exact laws_markBufOut.mono _ _ _ _ _ _ _)
   | (with_reducible exact laws_markInt64S.mono _ _ _)
   | (with_reducible exact laws_toBuf.mono _ _ _ _)
   | (with_reducible exact laws_toInt64S.mono _ _)
   | (with_reducible exact spec_BufReplace.mono _ _ _ _ _ _ _)
   | (with_reducible exact LeO.refl _)
   | (with_reducible exact LeO.none _)
   | (with_reducible refine LeO.ite ?_ ?_)
   | (with_reducible refine LeO.bind ?_ (fun _ => ?_))
   | exact ih0 _ _ _ _ _ _ _ _ _ _ _ _ _ _ _ _ _ _ _ _
   | exact ih1 _ _ _ _ _ _ _ _ _ _ _ _ _ _ _ _ _ _ _ _
   | exact ih2 _ _ _ _ _ _ _ _ _ _ _ _ _ _ _ _ _ _ _ _
   | exact ih3 _ _ _ _ _ _ _ _ _ _ _ _ _ _ _ _ _
   | exact ih4 _ _ _ _ _ _ _ _ _ _ _ _ _ _ _ _
   | exact ih5 _ _ _ _ _ _ _ _ _ _ _ _ _ _ _ _ _ _
   | exact ih6 _ _ _ _ _ _
   | exact impl_BufReplace.mono _ _ _ _ _ _ _
   | exact laws_eqBuf.mono _ _ _ _ _ _ _
   | exact laws_eqBufOut.mono _ _ _ _ _ _ _ _ _ _ _
   | exact laws_eqInt64S.mono _ _ _
   | exact laws_heldBufOut.mono _ _ _ _ _ _ _
   | exact laws_markBuf.mono _ _ _ _ _
   | exact laws_markBufOut.mono _ _ _ _ _ _ _
   | exact laws_markInt64S.mono _ _ _
   | exact laws_toBuf.mono _ _ _ _
   | exact laws_toInt64S.mono _ _
   | exact spec_BufReplace.mono _ _ _ _ _ _ _
   | exact LeO.none _
   | refine LeO.ite ?_ ?_
   | refine LeO.bind ?_ (fun _ => ?_)
  ·intro y0 y1 y2 y3 y4 y5 y6 y7 y8 y9 y10 y11 y12 y13 y14 y15 y16 y17 y18 y19
   unfold laws_FnExactBufReplace.j1
   repeat' first
   | (with_reducible exact ih0 _ _ _ _ _ _ _ _ _ _ _ _ _ _ _ _ _ _ _ _)
   | (with_reducible exact ih1 _ _ _ _ _ _ _ _ _ _ _ _ _ _ _ _ _ _ _ _)
   | (with_reducible exact ih2 _ _ _ _ _ _ _ _ _ _ _ _ _ _ _ _ _ _ _ _)
   | (with_reducible exact ih3 _ _ _ _ _ _ _ _ _ _ _ _ _ _ _ _ _)
   | (with_reducible exact ih4 _ _ _ _ _ _ _ _ _ _ _ _ _ _ _ _)
   | (with_reducible exact ih5 _ _ _ _ _ _ _ _ _ _ _ _ _ _ _ _ _ _)
   | (with_reducible exact ih6 _ _ _ _ _ _)
   | (with_reducible exact impl_BufReplace.mono _ _ _ _ _ _ _)
   | (with_reducible exact laws_eqBuf.mono _ _ _ _ _ _ _)
   | (with_reducible exact laws_eqBufOut.mono _ _ _ _ _ _ _ _ _ _ _)
   | (with_reducible exact laws_eqInt64S.mono _ _ _)
   | (with_reducible exact laws_heldBufOut.mono _ _ _ _ _ _ _)
   | (with_reducible exact laws_markBuf.mono _ _ _ _ _)
   | (with_reducible exact laws_markBufOut.mono _ _ _ _ _ _ _)
   | (with_reducible exact laws_markInt64S.mono _ _ _)
   | (with_reducible exact laws_toBuf.mono _ _ _ _)
   | (with_reducible exact laws_toInt64S.mono _ _)
   | (with_reducible exact spec_BufReplace.mono _ _ _ _ _ _ _)
   | (with_reducible exact LeO.refl _)
   | (with_reducible exact LeO.none _)
   | (with_reducible refine LeO.ite ?_ ?_)
   | (with_reducible refine LeO.bind ?_ (fun _ => ?_))
   | exact ih0 _ _ _ _ _ _ _ _ _ _ _ _ _ _ _ _ _ _ _ _
   | exact ih1 _ _ _ _ _ _ _ _ _ _ _ _ _ _ _ _ _ _ _ _
   | exact ih2 _ _ _ _ _ _ _ _ _ _ _ _ _ _ _ _ _ _ _ _
   | exact ih3 _ _ _ _ _ _ _ _ _ _ _ _ _ _ _ _ _
   | exact ih4 _ _ _ _ _ _ _ _ _ _ _ _ _ _ _ _
   | exact ih5 _ _ _ _ _ _ _ _ _ _ _ _ _ _ _ _ _ _
   | exact ih6 _ _ _ _ _ _
   | exact impl_BufReplace.mono _ _ _ _ _ _ _
   | exact laws_eqBuf.mono _ _ _ _ _ _ _
   | exact laws_eqBufOut.mono _ _ _ _ _ _ _ _ _ _ _
   | exact laws_eqInt64S.mono _ _ _
   | exact laws_heldBufOut.mono _ _ _ _ _ _ _
   | exact laws_markBuf.mono _ _ _ _ _
   | exact laws_markBufOut.mono _ _ _ _ _ _ _
   | exact laws_markInt64S.mono _ _ _
   | exact laws_toBuf.mono _ _ _ _
   | exact laws_toInt64S.mono _ _
   | exact spec_BufReplace.mono _ _ _ _ _ _ _
   | exact LeO.none _
   | refine LeO.ite ?_ ?_
   | refine LeO.bind ?_ (fun _ => ?_)
  ·intro y0 y1 y2 y3 y4 y5 y6 y7 y8 y9 y10 y11 y12 y13 y14 y15 y16 y17 y18 y19
   unfold laws_FnExactBufReplace.j2
   repeat' first
   | (with_reducible exact ih0 _ _ _ _ _ _ _ _ _ _ _ _ _ _ _ _ _ _ _ _)
   | (with_reducible exact ih1 _ _ _ _ _ _ _ _ _ _ _ _ _ _ _ _ _ _ _ _)
   | (with_reducible exact ih2 _ _ _ _ _ _ _ _ _ _ _ _ _ _ _ _ _ _ _ _)
   | (with_reducible exact ih3 _ _ _ _ _ _ _ _ _ _ _ _ _ _ _ _ _)
   | (with_reducible exact ih4 _ _ _ _ _ _ _ _ _ _ _ _ _ _ _ _)
   | (with_reducible exact ih5 _ _ _ _ _ _ _ _ _ _ _ _ _ _ _ _ _ _)
   | (with_reducible exact ih6 _ _ _ _ _ _)
   | (with_reducible exact impl_BufReplace.mono _ _ _ _ _ _ _)
   | (with_reducible exact laws_eqBuf.mono _ _ _ _ _ _ _)
   | (with_reducible exact laws_eqBufOut.mono _ _ _ _ _ _ _ _ _ _ _)
   | (with_reducible exact laws_eqInt64S.mono _ _ _)
   | (with_reducible exact laws_heldBufOut.mono _ _ _ _ _ _ _)
   | (with_reducible exact laws_markBuf.mono _ _ _ _ _)
   | (with_reducible exact laws_markBufOut.mono _ _ _ _ _ _ _)
   | (with_reducible exact laws_markInt64S.mono _ _ _)
   | (with_reducible exact laws_toBuf.mono _ _ _ _)
   | (with_reducible exact laws_toInt64S.mono _ _)
   | (with_reducible exact spec_BufReplace.mono _ _ _ _ _ _ _)
   | (with_reducible exact LeO.refl _)
   | (with_reducible exact LeO.none _)
   | (with_reducible refine LeO.ite ?_ ?_)
   | (with_reducible refine LeO.bind ?_ (fun _ => ?_))
   | exact ih0 _ _ _ _ _ _ _ _ _ _ _ _ _ _ _ _ _ _ _ _
   | exact ih1 _ _ _ _ _ _ _ _ _ _ _ _ _ _ _ _ _ _ _ _
   | exact ih2 _ _ _ _ _ _ _ _ _ _ _ _ _ _ _ _ _ _ _ _
   | exact ih3 _ _ _ _ _ _ _ _ _ _ _ _ _ _ _ _ _
   | exact ih4 _ _ _ _ _ _ _ _ _ _ _ _ _ _ _ _
   | exact ih5 _ _ _ _ _ _ _ _ _ _ _ _ _ _ _ _ _ _
   | exact ih6 _ _ _ _ _ _
   | exact impl_BufReplace.mono _ _ _ _ _ _ _
   | exact laws_eqBuf.mono _ _ _ _ _ _ _
   | exact laws_eqBufOut.mono _ _ _ _ _ _ _ _ _ _ _
   | exact laws_eqInt64S.mono _ _ _
   | exact laws_heldBufOut.mono _ _ _ _ _ _ _
   | exact laws_markBuf.mono _ _ _ _ _
   | exact laws_markBufOut.mono _ _ _ _ _ _ _
   | exact laws_markInt64S.mono _ _ _
   | exact laws_toBuf.mono _ _ _ _
   | exact laws_toInt64S.mono _ _
   | exact spec_BufReplace.mono _ _ _ _ _ _ _
   | exact LeO.none _
   | refine LeO.ite ?_ ?_
   | refine LeO.bind ?_ (fun _ => ?_)
  ·intro y0 y1 y2 y3 y4 y5 y6 y7 y8 y9 y10 y11 y12 y13 y14 y15 y16
   unfold laws_FnExactBufReplace.j3
   repeat' first
   | (with_reducible exact ih0 _ _ _ _ _ _ _ _ _ _ _ _ _ _ _ _ _ _ _ _)
   | (with_reducible exact ih1 _ _ _ _ _ _ _ _ _ _ _ _ _ _ _ _ _ _ _ _)
   | (with_reducible exact ih2 _ _ _ _ _ _ _ _ _ _ _ _ _ _ _ _ _ _ _ _)
   | (with_reducible exact ih3 _ _ _ _ _ _ _ _ _ _ _ _ _ _ _ _ _)
   | (with_reducible exact ih4 _ _ _ _ _ _ _ _ _ _ _ _ _ _ _ _)
   | (with_reducible exact ih5 _ _ _ _ _ _ _ _ _ _ _ _ _ _ _ _ _ _)
   | (with_reducible exact ih6 _ _ _ _ _ _)
   | (with_reducible exact impl_BufReplace.mono _ _ _ _ _ _ _)
   | (with_reducible exact laws_eqBuf.mono _ _ _ _ _ _ _)
   | (with_reducible exact laws_eqBufOut.mono _ _ _ _ _ _ _ _ _ _ _)
   | (with_reducible exact laws_eqInt64S.mono _ _ _)
   | (with_reducible exact laws_heldBufOut.mono _ _ _ _ _ _ _)
   | (with_reducible exact laws_markBuf.mono _ _ _ _ _)
   | (with_reducible exact laws_markBufOut.mono _ _ _ _ _ _ _)
   | (with_reducible exact laws_markInt64S.mono _ _ _)
   | (with_reducible exact laws_toBuf.mono _ _ _ _)
   | (with_reducible exact laws_toInt64S.mono _ _)
   | (with_reducible exact spec_BufReplace.mono _ _ _ _ _ _ _)
   | (with_reducible exact LeO.refl _)
   | (with_reducible exact LeO.none _)
   | (with_reducible refine LeO.ite ?_ ?_)
   | (with_reducible refine LeO.bind ?_ (fun _ => ?_))
   | exact ih0 _ _ _ _ _ _ _ _ _ _ _ _ _ _ _ _ _ _ _ _
   | exact ih1 _ _ _ _ _ _ _ _ _ _ _ _ _ _ _ _ _ _ _ _
   | exact ih2 _ _ _ _ _ _ _ _ _ _ _ _ _ _ _ _ _ _ _ _
   | exact ih3 _ _ _ _ _ _ _ _ _ _ _ _ _ _ _ _ _
   | exact ih4 _ _ _ _ _ _ _ _ _ _ _ _ _ _ _ _
   | exact ih5 _ _ _ _ _ _ _ _ _ _ _ _ _ _ _ _ _ _
   | exact ih6 _ _ _ _ _ _
   | exact impl_BufReplace.mono _ _ _ _ _ _ _
   | exact laws_eqBuf.mono _ _ _ _ _ _ _
   | exact laws_eqBufOut.mono _ _ _ _ _ _ _ _ _ _ _
   | exact laws_eqInt64S.mono _ _ _
   | exact laws_heldBufOut.mono _ _ _ _ _ _ _
   | exact laws_markBuf.mono _ _ _ _ _
   | exact laws_markBufOut.mono _ _ _ _ _ _ _
   | exact laws_markInt64S.mono _ _ _
   | exact laws_toBuf.mono _ _ _ _
   | exact laws_toInt64S.mono _ _
   | exact spec_BufReplace.mono _ _ _ _ _ _ _
   | exact LeO.none _
   | refine LeO.ite ?_ ?_
   | refine LeO.bind ?_ (fun _ => ?_)
  ·intro y0 y1 y2 y3 y4 y5 y6 y7 y8 y9 y10 y11 y12 y13 y14 y15
   unfold laws_FnExactBufReplace.j4
   repeat' first
   | (with_reducible exact ih0 _ _ _ _ _ _ _ _ _ _ _ _ _ _ _ _ _ _ _ _)
   | (with_reducible exact ih1 _ _ _ _ _ _ _ _ _ _ _ _ _ _ _ _ _ _ _ _)
   | (with_reducible exact ih2 _ _ _ _ _ _ _ _ _ _ _ _ _ _ _ _ _ _ _ _)
   | (with_reducible exact ih3 _ _ _ _ _ _ _ _ _ _ _ _ _ _ _ _ _)
   | (with_reducible exact ih4 _ _ _ _ _ _ _ _ _ _ _ _ _ _ _ _)
   | (with_reducible exact ih5 _ _ _ _ _ _ _ _ _ _ _ _ _ _ _ _ _ _)
   | (with_reducible exact ih6 _ _ _ _ _ _)
   | (with_reducible exact impl_BufReplace.mono _ _ _ _ _ _ _)
   | (with_reducible exact laws_eqBuf.mono _ _ _ _ _ _ _)
   | (with_reducible exact laws_eqBufOut.mono _ _ _ _ _ _ _ _ _ _ _)
   | (with_reducible exact laws_eqInt64S.mono _ _ _)
   | (with_reducible exact laws_heldBufOut.mono _ _ _ _ _ _ _)
   | (with_reducible exact laws_markBuf.mono _ _ _ _ _)
   | (with_reducible exact laws_markBufOut.mono _ _ _ _ _ _ _)
   | (with_reducible exact laws_markInt64S.mono _ _ _)
   | (with_reducible exact laws_toBuf.mono _ _ _ _)
   | (with_reducible exact laws_toInt64S.mono _ _)
   | (with_reducible exact spec_BufReplace.mono _ _ _ _ _ _ _)
   | (with_reducible exact LeO.refl _)
   | (with_reducible exact LeO.none _)
   | (with_reducible refine LeO.ite ?_ ?_)
   | (with_reducible refine LeO.bind ?_ (fun _ => ?_))
   | exact ih0 _ _ _ _ _ _ _ _ _ _ _ _ _ _ _ _ _ _ _ _
   | exact ih1 _ _ _ _ _ _ _ _ _ _ _ _ _ _ _ _ _ _ _ _
   | exact ih2 _ _ _ _ _ _ _ _ _ _ _ _ _ _ _ _ _ _ _ _
   | exact ih3 _ _ _ _ _ _ _ _ _ _ _ _ _ _ _ _ _
   | exact ih4 _ _ _ _ _ _ _ _ _ _ _ _ _ _ _ _
   | exact ih5 _ _ _ _ _ _ _ _ _ _ _ _ _ _ _ _ _ _
   | exact ih6 _ _ _ _ _ _
   | exact impl_BufReplace.mono _ _ _ _ _ _ _
   | exact laws_eqBuf.mono _ _ _ _ _ _ _
   | exact laws_eqBufOut.mono _ _ _ _ _ _ _ _ _ _ _
   | exact laws_eqInt64S.mono _ _ _
   | exact laws_heldBufOut.mono _ _ _ _ _ _ _
   | exact laws_markBuf.mono _ _ _ _ _
   | exact laws_markBufOut.mono _ _ _ _ _ _ _
   | exact laws_markInt64S.mono _ _ _
   | exact laws_toBuf.mono _ _ _ _
   | exact laws_toInt64S.mono _ _
   | exact spec_BufReplace.mono _ _ _ _ _ _ _
   | exact LeO.none _
   | refine LeO.ite ?_ ?_
   | refine LeO.bind ?_ (fun _ => ?_)
  ·intro y0 y1 y2 y3 y4 y5 y6 y7 y8 y9 y10 y11 y12 y13 y14 y15 y16 y17
   unfold laws_FnExactBufReplace.j5
   repeat' first
   | (with_reducible exact ih0 _ _ _ _ _ _ _ _ _ _ _ _ _ _ _ _ _ _ _ _)
   | (with_reducible exact ih1 _ _ _ _ _ _ _ _ _ _ _ _ _ _ _ _ _ _ _ _)
   | (with_reducible exact ih2 _ _ _ _ _ _ _ _ _ _ _ _ _ _ _ _ _ _ _ _)
   | (with_reducible exact ih3 _ _ _ _ _ _ _ _ _ _ _ _ _ _ _ _ _)
   | (with_reducible exact ih4 _ _ _ _ _ _ _ _ _ _ _ _ _ _ _ _)
   | (with_reducible exact ih5 _ _ _ _ _ _ _ _ _ _ _ _ _ _ _ _ _ _)
   | (with_reducible exact ih6 _ _ _ _ _ _)
   | (with_reducible exact impl_BufReplace.mono _ _ _ _ _ _ _)
   | (with_reducible exact laws_eqBuf.mono _ _ _ _ _ _ _)
   | (with_reducible exact laws_eqBufOut.mono _ _ _ _ _ _ _ _ _ _ _)
   | (with_reducible exact laws_eqInt64S.mono _ _ _)
   | (with_reducible exact laws_heldBufOut.mono _ _ _ _ _ _ _)
   | (with_reducible exact laws_markBuf.mono _ _ _ _ _)
   | (with_reducible exact laws_markBufOut.mono _ _ _ _ _ _ _)
   | (with_reducible exact laws_markInt64S.mono _ _ _)
   | (with_reducible exact laws_toBuf.mono _ _ _ _)
   | (with_reducible exact laws_toInt64S.mono _ _)
   | (with_reducible exact spec_BufReplace.mono _ _ _ _ _ _ _)
   | (with_reducible exact LeO.refl _)
   | (with_reducible exact LeO.none _)
   | (with_reducible refine LeO.ite ?_ ?_)
   | (with_reducible refine LeO.bind ?_ (fun _ => ?_))
   | exact ih0 _ _ _ _ _ _ _ _ _ _ _ _ _ _ _ _ _ _ _ _
   | exact ih1 _ _ _ _ _ _ _ _ _ _ _ _ _ _ _ _ _ _ _ _
   | exact ih2 _ _ _ _ _ _ _ _ _ _ _ _ _ _ _ _ _ _ _ _
   | exact ih3 _ _ _ _ _ _ _ _ _ _ _ _ _ _ _ _ _
   | exact ih4 _ _ _ _ _ _ _ _ _ _ _ _ _ _ _ _
   | exact ih5 _ _ _ _ _ _ _ _ _ _ _ _ _ _ _ _ _ _
   | exact ih6 _ _ _ _ _ _
   | exact impl_BufReplace.mono _ _ _ _ _ _ _
   | exact laws_eqBuf.mono _ _ _ _ _ _ _
   | exact laws_eqBufOut.mono _ _ _ _ _ _ _ _ _ _ _
   | exact laws_eqInt64S.mono _ _ _
   | exact laws_heldBufOut.mono _ _ _ _ _ _ _
   | exact laws_markBuf.mono _ _ _ _ _
   | exact laws_markBufOut.mono _ _ _ _ _ _ _
   | exact laws_markInt64S.mono _ _ _
   | exact laws_toBuf.mono _ _ _ _
   | exact laws_toInt64S.mono _ _
   | exact spec_BufReplace.mono _ _ _ _ _ _ _
   | exact LeO.none _
   | refine LeO.ite ?_ ?_
   | refine LeO.bind ?_ (fun _ => ?_)
  ·intro y0 y1 y2 y3 y4 y5
   unfold laws_FnExactBufReplace.j6
   repeat' first
   | (with_reducible exact ih0 _ _ _ _ _ _ _ _ _ _ _ _ _ _ _ _ _ _ _ _)
   | (with_reducible exact ih1 _ _ _ _ _ _ _ _ _ _ _ _ _ _ _ _ _ _ _ _)
   | (with_reducible exact ih2 _ _ _ _ _ _ _ _ _ _ _ _ _ _ _ _ _ _ _ _)
   | (with_reducible exact ih3 _ _ _ _ _ _ _ _ _ _ _ _ _ _ _ _ _)
   | (with_reducible exact ih4 _ _ _ _ _ _ _ _ _ _ _ _ _ _ _ _)
   | (with_reducible exact ih5 _ _ _ _ _ _ _ _ _ _ _ _ _ _ _ _ _ _)
   | (with_reducible exact ih6 _ _ _ _ _ _)
   | (with_reducible exact impl_BufReplace.mono _ _ _ _ _ _ _)
   | (with_reducible exact laws_eqBuf.mono _ _ _ _ _ _ _)
   | (with_reducible exact laws_eqBufOut.mono _ _ _ _ _ _ _ _ _ _ _)
   | (with_reducible exact laws_eqInt64S.mono _ _ _)
   | (with_reducible exact laws_heldBufOut.mono _ _ _ _ _ _ _)
   | (with_reducible exact laws_markBuf.mono _ _ _ _ _)
   | (with_reducible exact laws_markBufOut.mono _ _ _ _ _ _ _)
   | (with_reducible exact laws_markInt64S.mono _ _ _)
   | (with_reducible exact laws_toBuf.mono _ _ _ _)
   | (with_reducible exact laws_toInt64S.mono _ _)
   | (with_reducible exact spec_BufReplace.mono _ _ _ _ _ _ _)
   | (with_reducible exact LeO.refl _)
   | (with_reducible exact LeO.none _)
   | (with_reducible refine LeO.ite ?_ ?_)
   | (with_reducible refine LeO.bind ?_ (fun _ => ?_))
   | exact ih0 _ _ _ _ _ _ _ _ _ _ _ _ _ _ _ _ _ _ _ _
   | exact ih1 _ _ _ _ _ _ _ _ _ _ _ _ _ _ _ _ _ _ _ _
   | exact ih2 _ _ _ _ _ _ _ _ _ _ _ _ _ _ _ _ _ _ _ _
   | exact ih3 _ _ _ _ _ _ _ _ _ _ _ _ _ _ _ _ _
   | exact ih4 _ _ _ _ _ _ _ _ _ _ _ _ _ _ _ _
   | exact ih5 _ _ _ _ _ _ _ _ _ _ _ _ _ _ _ _ _ _
   | exact ih6 _ _ _ _ _ _
   | exact impl_BufReplace.mono _ _ _ _ _ _ _
   | exact laws_eqBuf.mono _ _ _ _ _ _ _
   | exact laws_eqBufOut.mono _ _ _ _ _ _ _ _ _ _ _
   | exact laws_eqInt64S.mono _ _ _
   | exact laws_heldBufOut.mono _ _ _ _ _ _ _
   | exact laws_markBuf.mono _ _ _ _ _
   | exact laws_markBufOut.mono _ _ _ _ _ _ _
   | exact laws_markInt64S.mono _ _ _
   | exact laws_toBuf.mono _ _ _ _
   | exact laws_toInt64S.mono _ _
   | exact spec_BufReplace.mono _ _ _ _ _ _ _
   | exact LeO.none _
   | refine LeO.ite ?_ ?_
   | refine LeO.bind ?_ (fun _ => ?_)
theorem laws_FnExactBufReplace.mono : ∀ a0 a1 a2 a3 a4 a5 k, LeO (laws_FnExactBufReplace.f k a0 a1 a2 a3 a4 a5) (laws_FnExactBufReplace.f (k + 1) a0 a1 a2 a3 a4 a5) := by
 intro a0 a1 a2 a3 a4 a5 k
 obtain ⟨ih0, ih1, ih2, ih3, ih4, ih5, ih6⟩ := laws_FnExactBufReplace.mono_l k
 unfold laws_FnExactBufReplace.f
 repeat' first
   | (with_reducible exact ih0 _ _ _ _ _ _ _ _ _ _ _ _ _ _ _ _ _ _ _ _)
   | (with_reducible exact ih1 _ _ _ _ _ _ _ _ _ _ _ _ _ _ _ _ _ _ _ _)
   | (with_reducible exact ih2 _ _ _ _ _ _ _ _ _ _ _ _ _ _ _ _ _ _ _ _)
   | (with_reducible exact ih3 _ _ _ _ _ _ _ _ _ _ _ _ _ _ _ _ _)
   | (with_reducible exact ih4 _ _ _ _ _ _ _ _ _ _ _ _ _ _ _ _)
   | (with_reducible exact ih5 _ _ _ _ _ _ _ _ _ _ _ _ _ _ _ _ _ _)
   | (with_reducible exact ih6 _ _ _ _ _ _)
   | (with_reducible exact impl_BufReplace.mono _ _ _ _ _ _ _)
   | (with_reducible exact laws_eqBuf.mono _ _ _ _ _ _ _)
   | (with_reducible exact laws_eqBufOut.mono _ _ _ _ _ _ _ _ _ _ _)
   | (with_reducible exact laws_eqInt64S.mono _ _ _)
   | (with_reducible exact laws_heldBufOut.mono _ _ _ _ _ _ _)
   | (with_reducible exact laws_markBuf.mono _ _ _ _ _)
   | (with_reducible exact laws_markBufOut.mono _ _ _ _ _ _ _)
   | (with_reducible exact laws_markInt64S.mono _ _ _)
   | (with_reducible exact laws_toBuf.mono _ _ _ _)
   | (with_reducible exact laws_toInt64S.mono _ _)
   | (with_reducible exact spec_BufReplace.mono _ _ _ _ _ _ _)
   | (with_reducible exact LeO.refl _)
   | (with_reducible exact LeO.none _)
   | (with_reducible refine LeO.ite ?_ ?_)
   | (with_reducible refine LeO.bind ?_ (fun _ => ?_))
   | exact ih0 _ _ _ _ _ _ _ _ _ _ _ _ _ _ _ _ _ _ _ _
   | exact ih1 _ _ _ _ _ _ _ _ _ _ _ _ _ _ _ _ _ _ _ _
   | exact ih2 _ _ _ _ _ _ _ _ _ _ _ _ _ _ _ _ _ _ _ _
   | exact ih3 _ _ _ _ _ _ _ _ _ _ _ _ _ _ _ _ _
   | exact ih4 _ _ _ _ _ _ _ _ _ _ _ _ _ _ _ _
   | exact ih5 _ _ _ _ _ _ _ _ _ _ _ _ _ _ _ _ _ _
   | exact ih6 _ _ _ _ _ _
   | exact impl_BufReplace.mono _ _ _ _ _ _ _
   | exact laws_eqBuf.mono _ _ _ _ _ _ _
   | exact laws_eqBufOut.mono _ _ _ _ _ _ _ _ _ _ _
   | exact laws_eqInt64S.mono _ _ _
   | exact laws_heldBufOut.mono _ _ _ _ _ _ _
   | exact laws_markBuf.mono _ _ _ _ _
   | exact laws_markBufOut.mono _ _ _ _ _ _ _
   | exact laws_markInt64S.mono _ _ _
   | exact laws_toBuf.mono _ _ _ _
   | exact laws_toInt64S.mono _ _
   | exact spec_BufReplace.mono _ _ _ _ _ _ _
   | exact LeO.none _
   | refine LeO.ite ?_ ?_
   | refine LeO.bind ?_ (fun _ => ?_)
set_option maxHeartbeats 8000000 in
set_option maxRecDepth 100000 in
theorem laws_FnExactBufReplace.calls (k : Nat) (A0_0 : Option Addr) (c0_0 : Nat) (l0_0 : List Int) (a0_1 : Int) (a0_2 : Int) (a1 : Int) (a2 : Int) (A3 : Option Addr) (c3 : Nat) (l3 : List Int) (r : Bool) (w : World) (hr0_0 : Kd.C (Kd.int .i64) w A0_0 l0_0.length l0_0) (hc0_0 : l0_0.length ≤ c0_0) (hr3 : Kd.C (Kd.int .i64) w A3 l3.length l3) (hc3 : l3.length ≤ c3) (h : laws_FnExactBufReplace.f k l0_0 a0_1 a0_2 a1 a2 l3 = some r) :
  Calls Try.prog 3 #[.agg #[.slice A0_0 l0_0.length c0_0, .int .i64 a0_1, .int .i64 a0_2], .int .i64 a1, .int .i64 a2, .slice A3 l3.length c3] w fun e w' => e = .returned (.bool r) ∧ Below w.heap.size w w' := by
 have hu24 := Try.underlying24
 have hu28 := Try.underlying28
 have hu26 := Try.underlying26
 have HR0_0 := am hr0_0
 have HC0_0 := am hc0_0
 clear hr0_0 hc0_0
 have HR3 := am hr3
 have HC3 := am hc3
 clear hr3 hc3
 have HB := am (Below.refl w.heap.size w)
 have H : (if (l3.length : Int) > 1048576 then (some true) else ((laws_szBuf.f l0_0 a0_1 a0_2 1048576).bind fun t257 => (if t257 < 0 then (some true) else ((laws_toBuf.f k l0_0 a0_1 a0_2).bind fun bt258 => ((laws_toInt64S.f k l3).bind fun t263 => ((spec_BufReplace.f k bt258.1 bt258.2.1 bt258.2.2 a1 a2 t263).bind fun bt266 => ((laws_toBuf.f k l0_0 a0_1 a0_2).bind fun bt276 => ((laws_toInt64S.f k l3).bind fun t282 => ((impl_BufReplace.f k bt276.1 bt276.2.1 bt276.2.2 a1 a2 t282).bind fun bt285 => ((laws_eqBufOut.f k bt285.1 bt285.2.1 bt285.2.2.1 bt285.2.2.2.1 bt285.2.2.2.2 bt266.1 bt266.2.1 bt266.2.2.1 bt266.2.2.2.1 bt266.2.2.2.2).bind fun t295 => (if t295 = true then (laws_FnExactBufReplace.j0 k a1 a2 l3 t282 l0_0 a0_1 a0_2 bt266.1 bt266.2.1 bt266.2.2.1 bt266.2.2.2.1 bt266.2.2.2.2 bt276.1 bt276.2.1 bt276.2.2 bt285.1 bt285.2.1 bt285.2.2.1 bt285.2.2.2.1 bt285.2.2.2.2) else (some false)))))))))))) = some r := h
 clear h
 by_cases c5 : (l3.length : Int) > 1048576
 ·rw [if_pos c5] at H
  have c5b0 : decide (1048576 < (l3.length : Int)) = true := decide_eq_true c5
  have c5b1 : decide (1048576 < l3.length) = true := decide_eq_true (by omega)
  clear c5
  obtain rfl := Option.some.inj H
  go_enter Try.func3, Try.ntmps3
  go_wp2_with (first | ((with_reducible refine gate_dst (N := 4) rfl ?_); refine box_event ?hg (N := 4) ?hd (cs := #[.slice A0_0 l0_0.length c0_0, .int .i64 a0_1, .int .i64 a0_2]) (t := 24) ?hr ?_; (case hd => rfl); (case hg => rfl); (case hr => first | (go_simp; done) | (go_simp; rfl)); intro gb256 hg w6 hbox hb; have BK256 := am (hbox); have GW256 := am ((by rw [hg]; exact (below_size (bl HB.out)) : w.heap.size ≤ gb256)); have GE256 := GW256; replace HB := am (below_step (bl HB.out) hb); clear hb hbox hg))
  go_ret
  exact ⟨by first | rfl | (simp [errW_none, errW_some] <;> rfl) | (simp [*, errW_none, errW_some] <;> rfl), by repeat (first | (with_reducible first | exact HB.out | apply below_alloc | apply pw_below_drewN | apply below_drew1 | refine below_set ?_ GE256.out) | exact HB.out)⟩
 ·rw [if_neg c5] at H
  have c5b0 : decide (1048576 < (l3.length : Int)) = false := decide_eq_false c5
  have c5b1 : decide (1048576 < l3.length) = false := decide_eq_false (by omega)
  clear c5
  replace H := Option.bind_eq_some_iff.mp H
  obtain ⟨t257, A70, H⟩ := H
  replace H : (if t257 < 0 then (some true) else ((laws_toBuf.f k l0_0 a0_1 a0_2).bind fun bt258 => ((laws_toInt64S.f k l3).bind fun t263 => ((spec_BufReplace.f k bt258.1 bt258.2.1 bt258.2.2 a1 a2 t263).bind fun bt266 => ((laws_toBuf.f k l0_0 a0_1 a0_2).bind fun bt276 => ((laws_toInt64S.f k l3).bind fun t282 => ((impl_BufReplace.f k bt276.1 bt276.2.1 bt276.2.2 a1 a2 t282).bind fun bt285 => ((laws_eqBufOut.f k bt285.1 bt285.2.1 bt285.2.2.1 bt285.2.2.2.1 bt285.2.2.2.2 bt266.1 bt266.2.1 bt266.2.2.1 bt266.2.2.2.1 bt266.2.2.2.2).bind fun t295 => (if t295 = true then (laws_FnExactBufReplace.j0 k a1 a2 l3 t282 l0_0 a0_1 a0_2 bt266.1 bt266.2.1 bt266.2.2.1 bt266.2.2.2.1 bt266.2.2.2.2 bt276.1 bt276.2.1 bt276.2.2 bt285.1 bt285.2.1 bt285.2.2.1 bt285.2.2.2.1 bt285.2.2.2.2) else (some false)))))))))) = some r := H
  have A7 := Aside0.mk A70
  clear A70
  by_cases c8 : t257 < 0
  ·rw [if_pos c8] at H
   have c8b0 : decide (t257 < 0) = true := decide_eq_true c8
   clear c8
   obtain rfl := Option.some.inj H
   go_enter Try.func3, Try.ntmps3
   go_wp2_with (first | ((with_reducible refine gate_dst (N := 4) rfl ?_); refine box_event ?hg (N := 4) ?hd (cs := #[.slice A0_0 l0_0.length c0_0, .int .i64 a0_1, .int .i64 a0_2]) (t := 24) ?hr ?_; (case hd => rfl); (case hg => rfl); (case hr => first | (go_simp; done) | (go_simp; rfl)); intro gb256 hg w9 hbox hb; have BK256 := am (hbox); have GW256 := am ((by rw [hg]; exact (below_size (bl HB.out)) : w.heap.size ≤ gb256)); have GE256 := GW256; replace HB := am (below_step (bl HB.out) hb); clear hb hbox hg; have hcz10_0 : w9.cell? ⟨gb256, 0, none⟩ = some (.slice A0_0 l0_0.length c0_0) := bc BK256.out 0; have hcz10_1 : w9.cell? ⟨gb256, 1, none⟩ = some (.int .i64 a0_1) := bc BK256.out 1; have hcz10_2 : w9.cell? ⟨gb256, 2, none⟩ = some (.int .i64 a0_2) := bc BK256.out 2; have hfz10_0 := blk_frozen BK256.out 0; have hfz10_1 := blk_frozen BK256.out 1; have hfz10_2 := blk_frozen BK256.out 2) | ((with_reducible refine gate_callee (f := 9) rfl ?_); refine gl (some 23) Try.func9 #[.agg #[.slice A0_0 l0_0.length c0_0, .int .i64 a0_1, .int .i64 a0_2], .int .i64 1048576] ?_; (with_reducible refine (laws_szBuf.calls _ _ l0_0 a0_1 a0_2 1048576 t257 _ ?side1 ?side2 A7.out).mono ?_); (case side1 => repeat (first | exact (Kd.C_below HR0_0.out HB.out) | (with_reducible refine Kd.C_alloc ?_ _) | (with_reducible refine Kd.C_drewN ?_ _) | (with_reducible refine Kd.C_drew ?_))); (case side2 => exact HC0_0.out); rintro e w11 ⟨rfl, hb⟩; refine ⟨_, rfl, ?_⟩; replace BK256 := am (blk_below (pk BK256.out) hb); replace HB := am (below_step (bl HB.out) hb); (try clear hb); (try clear hb2); (try clear hk); (try clear hi)))
   go_ret
   exact ⟨by first | rfl | (simp [errW_none, errW_some] <;> rfl) | (simp [*, errW_none, errW_some] <;> rfl), by repeat (first | (with_reducible first | exact HB.out | apply below_alloc | apply pw_below_drewN | apply below_drew1 | refine below_set ?_ GE256.out) | exact HB.out)⟩
  ·rw [if_neg c8] at H
   have c8b0 : decide (t257 < 0) = false := decide_eq_false c8
   clear c8
   replace H := Option.bind_eq_some_iff.mp H
   obtain ⟨⟨t258, t261, t262⟩, A120, H⟩ := H
   replace H : ((laws_toInt64S.f k l3).bind fun t263 => ((spec_BufReplace.f k t258 t261 t262 a1 a2 t263).bind fun bt266 => ((laws_toBuf.f k l0_0 a0_1 a0_2).bind fun bt276 => ((laws_toInt64S.f k l3).bind fun t282 => ((impl_BufReplace.f k bt276.1 bt276.2.1 bt276.2.2 a1 a2 t282).bind fun bt285 => ((laws_eqBufOut.f k bt285.1 bt285.2.1 bt285.2.2.1 bt285.2.2.2.1 bt285.2.2.2.2 bt266.1 bt266.2.1 bt266.2.2.1 bt266.2.2.2.1 bt266.2.2.2.2).bind fun t295 => (if t295 = true then (laws_FnExactBufReplace.j0 k a1 a2 l3 t282 l0_0 a0_1 a0_2 bt266.1 bt266.2.1 bt266.2.2.1 bt266.2.2.2.1 bt266.2.2.2.2 bt276.1 bt276.2.1 bt276.2.2 bt285.1 bt285.2.1 bt285.2.2.1 bt285.2.2.2.1 bt285.2.2.2.2) else (some false)))))))) = some r := H
   have A12 := Aside0.mk A120
   clear A120
   replace H := Option.bind_eq_some_iff.mp H
   obtain ⟨t263, A130, H⟩ := H
   replace H : ((spec_BufReplace.f k t258 t261 t262 a1 a2 t263).bind fun bt266 => ((laws_toBuf.f k l0_0 a0_1 a0_2).bind fun bt276 => ((laws_toInt64S.f k l3).bind fun t282 => ((impl_BufReplace.f k bt276.1 bt276.2.1 bt276.2.2 a1 a2 t282).bind fun bt285 => ((laws_eqBufOut.f k bt285.1 bt285.2.1 bt285.2.2.1 bt285.2.2.2.1 bt285.2.2.2.2 bt266.1 bt266.2.1 bt266.2.2.1 bt266.2.2.2.1 bt266.2.2.2.2).bind fun t295 => (if t295 = true then (laws_FnExactBufReplace.j0 k a1 a2 l3 t282 l0_0 a0_1 a0_2 bt266.1 bt266.2.1 bt266.2.2.1 bt266.2.2.2.1 bt266.2.2.2.2 bt276.1 bt276.2.1 bt276.2.2 bt285.1 bt285.2.1 bt285.2.2.1 bt285.2.2.2.1 bt285.2.2.2.2) else (some false))))))) = some r := H
   have A13 := Aside0.mk A130
   clear A130
   replace H := Option.bind_eq_some_iff.mp H
   obtain ⟨⟨t266, t269, t270, t271, t274⟩, A140, H⟩ := H
   replace H : ((laws_toBuf.f k l0_0 a0_1 a0_2).bind fun bt276 => ((laws_toInt64S.f k l3).bind fun t282 => ((impl_BufReplace.f k bt276.1 bt276.2.1 bt276.2.2 a1 a2 t282).bind fun bt285 => ((laws_eqBufOut.f k bt285.1 bt285.2.1 bt285.2.2.1 bt285.2.2.2.1 bt285.2.2.2.2 t266 t269 t270 t271 t274).bind fun t295 => (if t295 = true then (laws_FnExactBufReplace.j0 k a1 a2 l3 t282 l0_0 a0_1 a0_2 t266 t269 t270 t271 t274 bt276.1 bt276.2.1 bt276.2.2 bt285.1 bt285.2.1 bt285.2.2.1 bt285.2.2.2.1 bt285.2.2.2.2) else (some false)))))) = some r := H
   have A14 := Aside0.mk A140
   clear A140
   replace H := Option.bind_eq_some_iff.mp H
   obtain ⟨⟨t276, t279, t280⟩, A150, H⟩ := H
   replace H : ((laws_toInt64S.f k l3).bind fun t282 => ((impl_BufReplace.f k t276 t279 t280 a1 a2 t282).bind fun bt285 => ((laws_eqBufOut.f k bt285.1 bt285.2.1 bt285.2.2.1 bt285.2.2.2.1 bt285.2.2.2.2 t266 t269 t270 t271 t274).bind fun t295 => (if t295 = true then (laws_FnExactBufReplace.j0 k a1 a2 l3 t282 l0_0 a0_1 a0_2 t266 t269 t270 t271 t274 t276 t279 t280 bt285.1 bt285.2.1 bt285.2.2.1 bt285.2.2.2.1 bt285.2.2.2.2) else (some false))))) = some r := H
   have A15 := Aside0.mk A150
   clear A150
   replace H := Option.bind_eq_some_iff.mp H
   obtain ⟨t282, A160, H⟩ := H
   replace H : ((impl_BufReplace.f k t276 t279 t280 a1 a2 t282).bind fun bt285 => ((laws_eqBufOut.f k bt285.1 bt285.2.1 bt285.2.2.1 bt285.2.2.2.1 bt285.2.2.2.2 t266 t269 t270 t271 t274).bind fun t295 => (if t295 = true then (laws_FnExactBufReplace.j0 k a1 a2 l3 t282 l0_0 a0_1 a0_2 t266 t269 t270 t271 t274 t276 t279 t280 bt285.1 bt285.2.1 bt285.2.2.1 bt285.2.2.2.1 bt285.2.2.2.2) else (some false)))) = some r := H
   have A16 := Aside0.mk A160
   clear A160
   replace H := Option.bind_eq_some_iff.mp H
   obtain ⟨⟨t285, t288, t289, t290, t293⟩, A170, H⟩ := H
   replace H : ((laws_eqBufOut.f k t285 t288 t289 t290 t293 t266 t269 t270 t271 t274).bind fun t295 => (if t295 = true then (laws_FnExactBufReplace.j0 k a1 a2 l3 t282 l0_0 a0_1 a0_2 t266 t269 t270 t271 t274 t276 t279 t280 t285 t288 t289 t290 t293) else (some false))) = some r := H
   have A17 := Aside0.mk A170
   clear A170
   replace H := Option.bind_eq_some_iff.mp H
   obtain ⟨t295, A180, H⟩ := H
   replace H : (if t295 = true then (laws_FnExactBufReplace.j0 k a1 a2 l3 t282 l0_0 a0_1 a0_2 t266 t269 t270 t271 t274 t276 t279 t280 t285 t288 t289 t290 t293) else (some false)) = some r := H
   have A18 := Aside0.mk A180
   clear A180
   have HC19 := Aside0.mk H
   clear H
   go_enter Try.func3, Try.ntmps3
   go_upto_if 45 with (first | ((with_reducible refine gate_dst (N := 4) rfl ?_); refine box_event ?hg (N := 4) ?hd (cs := #[.slice A0_0 l0_0.length c0_0, .int .i64 a0_1, .int .i64 a0_2]) (t := 24) ?hr ?_; (case hd => rfl); (case hg => rfl); (case hr => first | (go_simp; done) | (go_simp; rfl)); intro gb256 hg w20 hbox hb; have BK256 := am (hbox); have GW256 := am ((by rw [hg]; exact (below_size (bl HB.out)) : w.heap.size ≤ gb256)); have GE256 := GW256; replace HB := am (below_step (bl HB.out) hb); clear hb hbox hg; have hcz21_0 : w20.cell? ⟨gb256, 0, none⟩ = some (.slice A0_0 l0_0.length c0_0) := bc BK256.out 0; have hcz21_1 : w20.cell? ⟨gb256, 1, none⟩ = some (.int .i64 a0_1) := bc BK256.out 1; have hcz21_2 : w20.cell? ⟨gb256, 2, none⟩ = some (.int .i64 a0_2) := bc BK256.out 2; have hfz21_0 := blk_frozen BK256.out 0; have hfz21_1 := blk_frozen BK256.out 1; have hfz21_2 := blk_frozen BK256.out 2) | ((with_reducible refine gate_callee (f := 9) rfl ?_); refine gl (some 23) Try.func9 #[.agg #[.slice A0_0 l0_0.length c0_0, .int .i64 a0_1, .int .i64 a0_2], .int .i64 1048576] ?_; (with_reducible refine (laws_szBuf.calls _ _ l0_0 a0_1 a0_2 1048576 t257 _ ?side1 ?side2 A7.out).mono ?_); (case side1 => repeat (first | exact (Kd.C_below HR0_0.out HB.out) | (with_reducible refine Kd.C_alloc ?_ _) | (with_reducible refine Kd.C_drewN ?_ _) | (with_reducible refine Kd.C_drew ?_))); (case side2 => exact HC0_0.out); rintro e w22 ⟨rfl, hb⟩; refine ⟨_, rfl, ?_⟩; replace BK256 := am (blk_below (pk BK256.out) hb); replace HB := am (below_step (bl HB.out) hb); (try clear hb); (try clear hb2); (try clear hk); (try clear hi); have hcz23_0 : w22.cell? ⟨gb256, 0, none⟩ = some (.slice A0_0 l0_0.length c0_0) := bc BK256.out 0; have hcz23_1 : w22.cell? ⟨gb256, 1, none⟩ = some (.int .i64 a0_1) := bc BK256.out 1; have hcz23_2 : w22.cell? ⟨gb256, 2, none⟩ = some (.int .i64 a0_2) := bc BK256.out 2; have hfz23_0 := blk_frozen BK256.out 0; have hfz23_1 := blk_frozen BK256.out 1; have hfz23_2 := blk_frozen BK256.out 2) | ((with_reducible refine gate_callee (f := 11) rfl ?_); refine gl (some 27) Try.func11 #[.agg #[.slice A0_0 l0_0.length c0_0, .int .i64 a0_1, .int .i64 a0_2]] ?_; (with_reducible refine (laws_toBuf.calls k _ _ l0_0 a0_1 a0_2 t258 t261 t262 _ ?side1 ?side2 A12.out).mono ?_); (case side1 => repeat (first | exact (Kd.C_below HR0_0.out HB.out) | (with_reducible refine Kd.C_alloc ?_ _) | (with_reducible refine Kd.C_drewN ?_ _) | (with_reducible refine Kd.C_drew ?_))); (case side2 => exact HC0_0.out); rintro e w24 ⟨v259, rfl, ho0, hb⟩; refine ⟨_, rfl, ?_⟩; have HO260 := am (Kd.R_lower ho0 (below_size (bl HB.out))); replace BK256 := am (blk_below (pk BK256.out) hb); replace HB := am (below_step (bl HB.out) hb); (try clear hb); (try clear hb2); (try clear hk); (try clear hi); (try clear ho0)) | ((with_reducible refine gate_callee (f := 12) rfl ?_); refine gl (some 31) Try.func12 #[.slice A3 l3.length c3] ?_; (with_reducible refine (laws_toInt64S.calls k _ _ l3 t263 _ ?side1 ?side2 A13.out).mono ?_); (case side1 => repeat (first | exact (Kd.C_below HR3.out HB.out) | (with_reducible refine Kd.C_alloc ?_ _) | (with_reducible refine Kd.C_drewN ?_ _) | (with_reducible refine Kd.C_drew ?_))); (case side2 => exact HC3.out); rintro e w25 ⟨v264, rfl, ho0, hb⟩; refine ⟨_, rfl, ?_⟩; have HO265 := am (Kd.R_lower (Kd.R_new' ho0 (Kd.R_lt (kr HO260.out))) (below_size (bl HB.out))); replace HO260 := am (Kd.R_elder' (kr HO260.out) (Kd.R_base ho0) hb); replace BK256 := am (blk_below (pk BK256.out) hb); replace HB := am (below_step (bl HB.out) hb); (try clear hb); (try clear hb2); (try clear hk); (try clear hi); (try clear ho0); obtain ⟨Ao26, co26, eo26⟩ := Kd.R_slice HO260.out; subst eo26; obtain ⟨Ao27, co27, eo27⟩ := Kd.R_slice HO265.out; subst eo27) | ((with_reducible refine gate_callee (f := 10) rfl ?_); refine gl (some 32) Try.func10 #[.agg #[.slice Ao26 t258.length co26, .int .i64 t261, .int .i64 t262], .int .i64 a1, .int .i64 a2, .slice Ao27 t263.length co27] ?_; (with_reducible refine (spec_BufReplace.calls k _ _ t258 t261 t262 a1 a2 _ _ t263 t266 t269 t270 t271 t274 _ ?side1 ?side2 ?side3 ?side4 A14.out).mono ?_); (case side1 => repeat (first | exact (Kd.R_reads' HO260.out).2.2 | (with_reducible refine Kd.C_alloc ?_ _) | (with_reducible refine Kd.C_drewN ?_ _) | (with_reducible refine Kd.C_drew ?_))); (case side2 => exact (Kd.R_reads' HO260.out).2.1); (case side3 => repeat (first | exact (Kd.R_reads' HO265.out).2.2 | (with_reducible refine Kd.C_alloc ?_ _) | (with_reducible refine Kd.C_drewN ?_ _) | (with_reducible refine Kd.C_drew ?_))); (case side4 => exact (Kd.R_reads' HO265.out).2.1); rintro e w28 ⟨v267, v272, rfl, ho0, ho1, hb⟩; refine ⟨_, rfl, ?_⟩; have HO268 := am (Kd.R_lower (Kd.R_new' (Kd.R_new' ho0 (Kd.R_lt (kr HO260.out))) (Kd.R_lt (kr HO265.out))) (below_size (bl HB.out))); have HO273 := am (Kd.R_lower (Kd.R_new' (Kd.R_new' ho1 (Kd.R_lt (kr HO260.out))) (Kd.R_lt (kr HO265.out))) (below_size (bl HB.out))); replace HO260 := am (Kd.R_mono (Kd.R_told (Kd.R_told (Kd.R_old (kr HO260.out) hb) (Kd.R_base ho0)) (Kd.R_base ho1)) (fun _ h_ => h_.1)); replace HO265 := am (Kd.R_mono (Kd.R_told (Kd.R_told (Kd.R_old (kr HO265.out) hb) (Kd.R_base ho0)) (Kd.R_base ho1)) (fun _ h_ => h_.1)); replace BK256 := am (blk_below (pk BK256.out) hb); replace HB := am (below_step (bl HB.out) hb); (try clear hb); (try clear hb2); (try clear hk); (try clear hi); (try clear ho0); (try clear ho1)) | ((with_reducible refine gate_dst (N := 10) rfl ?_); refine box_event ?hg (N := 10) ?hd (cs := #[.slice none 0 0, .int .i64 0, .int .i64 0, .slice none 0 0, .int .i64 0]) (t := 28) ?hr ?_; (case hd => rfl); (case hg => rfl); (case hr => first | (go_simp; done) | (go_simp; rfl)); intro gb275 hg w29 hbox hb; replace HO260 := am (Kd.R_below (kr HO260.out) hb); replace HO265 := am (Kd.R_below (kr HO265.out) hb); replace HO268 := am (Kd.R_below (kr HO268.out) hb); replace HO273 := am (Kd.R_below (kr HO273.out) hb); have BK275 := am (hbox); have GW275 := am ((by rw [hg]; exact (below_size (bl HB.out)) : w.heap.size ≤ gb275)); have GE275 := GW275; replace HB := am (below_step (bl HB.out) hb); have NB256_275 := am ((by rw [hg]; exact Nat.ne_of_lt (blk_lt (pk BK256.out)) : gb256 ≠ gb275)); have NB275_256 := am ((by rw [hg]; exact Nat.ne_of_gt (blk_lt (pk BK256.out)) : gb275 ≠ gb256)); replace BK256 := am (blk_below (pk BK256.out) hb); clear hb hbox hg; obtain ⟨Ao30, co30, eo30⟩ := Kd.R_slice HO268.out; subst eo30; have hnb31 := NB275_256.out; have hnc31 := NB256_275.out; have hcz32_0 : w29.cell? ⟨gb275, 0, none⟩ = some (.slice none 0 0) := bc BK275.out 0; have hcz32_1 : w29.cell? ⟨gb275, 1, none⟩ = some (.int .i64 0) := bc BK275.out 1; have hcz32_2 : w29.cell? ⟨gb275, 2, none⟩ = some (.int .i64 0) := bc BK275.out 2; have hcz32_3 : w29.cell? ⟨gb275, 3, none⟩ = some (.slice none 0 0) := bc BK275.out 3; have hcz32_4 : w29.cell? ⟨gb275, 4, none⟩ = some (.int .i64 0) := bc BK275.out 4; have hfz32_0 := blk_frozen BK275.out 0; have hfz32_1 := blk_frozen BK275.out 1; have hfz32_2 := blk_frozen BK275.out 2; have hfz32_3 := blk_frozen BK275.out 3; have hfz32_4 := blk_frozen BK275.out 4; obtain ⟨Ao33, co33, eo33⟩ := Kd.R_slice HO273.out; subst eo33; have hcz34_0 : w29.cell? ⟨gb256, 0, none⟩ = some (.slice A0_0 l0_0.length c0_0) := bc BK256.out 0; have hcz34_1 : w29.cell? ⟨gb256, 1, none⟩ = some (.int .i64 a0_1) := bc BK256.out 1; have hcz34_2 : w29.cell? ⟨gb256, 2, none⟩ = some (.int .i64 a0_2) := bc BK256.out 2; have hfz34_0 := blk_frozen BK256.out 0; have hfz34_1 := blk_frozen BK256.out 1; have hfz34_2 := blk_frozen BK256.out 2) | ((with_reducible refine gate_callee (f := 11) rfl ?_); refine gl (some 34) Try.func11 #[.agg #[.slice A0_0 l0_0.length c0_0, .int .i64 a0_1, .int .i64 a0_2]] ?_; (with_reducible refine (laws_toBuf.calls k _ _ l0_0 a0_1 a0_2 t276 t279 t280 _ ?side1 ?side2 A15.out).mono ?_); (case side1 => exact Kd.C_below HR0_0.out (bl HB.out)); (case side2 => exact HC0_0.out); rintro e w35 ⟨v277, rfl, ho0, hb⟩; refine ⟨_, rfl, ?_⟩; have HO278 := am (Kd.R_lower (Kd.R_new' (Kd.R_new' (Kd.R_new' (Kd.R_new' ho0 (Kd.R_lt (kr ((Kd.R_mono (Kd.R_far (p := ⟨gb275, 4, none⟩) (Kd.R_far (p := ⟨gb275, 3, none⟩) (Kd.R_far (p := ⟨gb275, 2, none⟩) (Kd.R_far (p := ⟨gb275, 1, none⟩) (Kd.R_far (p := ⟨gb275, 0, none⟩) (Kd.R_types HO260.out BK275.out (by decide)) (fun _ hk => hk.2) (.slice Ao30 t266.length co30)) (fun _ hk => hk.2) (.int .i64 t269)) (fun _ hk => hk.2) (.int .i64 t270)) (fun _ hk => hk.2) (.slice Ao33 t271.length co33)) (fun _ hk => hk.2) (.int .i64 t274)) (fun _ h_ => h_.1)))))) (Kd.R_lt (kr ((Kd.R_mono (Kd.R_far (p := ⟨gb275, 4, none⟩) (Kd.R_far (p := ⟨gb275, 3, none⟩) (Kd.R_far (p := ⟨gb275, 2, none⟩) (Kd.R_far (p := ⟨gb275, 1, none⟩) (Kd.R_far (p := ⟨gb275, 0, none⟩) (Kd.R_types HO265.out BK275.out (by decide)) (fun _ hk => hk.2) (.slice Ao30 t266.length co30)) (fun _ hk => hk.2) (.int .i64 t269)) (fun _ hk => hk.2) (.int .i64 t270)) (fun _ hk => hk.2) (.slice Ao33 t271.length co33)) (fun _ hk => hk.2) (.int .i64 t274)) (fun _ h_ => h_.1)))))) (Kd.R_lt (kr ((Kd.R_mono (Kd.R_far (p := ⟨gb275, 4, none⟩) (Kd.R_far (p := ⟨gb275, 3, none⟩) (Kd.R_far (p := ⟨gb275, 2, none⟩) (Kd.R_far (p := ⟨gb275, 1, none⟩) (Kd.R_far (p := ⟨gb275, 0, none⟩) (Kd.R_types HO268.out BK275.out (by decide)) (fun _ hk => hk.2) (.slice Ao30 t266.length co30)) (fun _ hk => hk.2) (.int .i64 t269)) (fun _ hk => hk.2) (.int .i64 t270)) (fun _ hk => hk.2) (.slice Ao33 t271.length co33)) (fun _ hk => hk.2) (.int .i64 t274)) (fun _ h_ => h_.1)))))) (Kd.R_lt (kr ((Kd.R_mono (Kd.R_far (p := ⟨gb275, 4, none⟩) (Kd.R_far (p := ⟨gb275, 3, none⟩) (Kd.R_far (p := ⟨gb275, 2, none⟩) (Kd.R_far (p := ⟨gb275, 1, none⟩) (Kd.R_far (p := ⟨gb275, 0, none⟩) (Kd.R_types HO273.out BK275.out (by decide)) (fun _ hk => hk.2) (.slice Ao30 t266.length co30)) (fun _ hk => hk.2) (.int .i64 t269)) (fun _ hk => hk.2) (.int .i64 t270)) (fun _ hk => hk.2) (.slice Ao33 t271.length co33)) (fun _ hk => hk.2) (.int .i64 t274)) (fun _ h_ => h_.1)))))) (below_size (bl HB.out))); replace HO260 := am (Kd.R_elder' (kr ((Kd.R_mono (Kd.R_far (p := ⟨gb275, 4, none⟩) (Kd.R_far (p := ⟨gb275, 3, none⟩) (Kd.R_far (p := ⟨gb275, 2, none⟩) (Kd.R_far (p := ⟨gb275, 1, none⟩) (Kd.R_far (p := ⟨gb275, 0, none⟩) (Kd.R_types HO260.out BK275.out (by decide)) (fun _ hk => hk.2) (.slice Ao30 t266.length co30)) (fun _ hk => hk.2) (.int .i64 t269)) (fun _ hk => hk.2) (.int .i64 t270)) (fun _ hk => hk.2) (.slice Ao33 t271.length co33)) (fun _ hk => hk.2) (.int .i64 t274)) (fun _ h_ => h_.1)))) (Kd.R_base ho0) hb); replace HO265 := am (Kd.R_elder' (kr ((Kd.R_mono (Kd.R_far (p := ⟨gb275, 4, none⟩) (Kd.R_far (p := ⟨gb275, 3, none⟩) (Kd.R_far (p := ⟨gb275, 2, none⟩) (Kd.R_far (p := ⟨gb275, 1, none⟩) (Kd.R_far (p := ⟨gb275, 0, none⟩) (Kd.R_types HO265.out BK275.out (by decide)) (fun _ hk => hk.2) (.slice Ao30 t266.length co30)) (fun _ hk => hk.2) (.int .i64 t269)) (fun _ hk => hk.2) (.int .i64 t270)) (fun _ hk => hk.2) (.slice Ao33 t271.length co33)) (fun _ hk => hk.2) (.int .i64 t274)) (fun _ h_ => h_.1)))) (Kd.R_base ho0) hb); replace HO268 := am (Kd.R_elder' (kr ((Kd.R_mono (Kd.R_far (p := ⟨gb275, 4, none⟩) (Kd.R_far (p := ⟨gb275, 3, none⟩) (Kd.R_far (p := ⟨gb275, 2, none⟩) (Kd.R_far (p := ⟨gb275, 1, none⟩) (Kd.R_far (p := ⟨gb275, 0, none⟩) (Kd.R_types HO268.out BK275.out (by decide)) (fun _ hk => hk.2) (.slice Ao30 t266.length co30)) (fun _ hk => hk.2) (.int .i64 t269)) (fun _ hk => hk.2) (.int .i64 t270)) (fun _ hk => hk.2) (.slice Ao33 t271.length co33)) (fun _ hk => hk.2) (.int .i64 t274)) (fun _ h_ => h_.1)))) (Kd.R_base ho0) hb); replace HO273 := am (Kd.R_elder' (kr ((Kd.R_mono (Kd.R_far (p := ⟨gb275, 4, none⟩) (Kd.R_far (p := ⟨gb275, 3, none⟩) (Kd.R_far (p := ⟨gb275, 2, none⟩) (Kd.R_far (p := ⟨gb275, 1, none⟩) (Kd.R_far (p := ⟨gb275, 0, none⟩) (Kd.R_types HO273.out BK275.out (by decide)) (fun _ hk => hk.2) (.slice Ao30 t266.length co30)) (fun _ hk => hk.2) (.int .i64 t269)) (fun _ hk => hk.2) (.int .i64 t270)) (fun _ hk => hk.2) (.slice Ao33 t271.length co33)) (fun _ hk => hk.2) (.int .i64 t274)) (fun _ h_ => h_.1)))) (Kd.R_base ho0) hb); replace BK256 := am (blk_below (g := gb256) (o := .cells #[.slice A0_0 l0_0.length c0_0, .int .i64 a0_1, .int .i64 a0_2] 24 (0, 0)) (by (with_reducible repeat (first | refine blk_drewN ?_ _ | refine blk_drew ?_ | refine blk_alloc ?_ _)); refine blk_far ?_ NB256_275.out _; (with_reducible repeat (first | refine blk_drewN ?_ _ | refine blk_drew ?_ | refine blk_alloc ?_ _)); refine blk_far ?_ NB256_275.out _; (with_reducible repeat (first | refine blk_drewN ?_ _ | refine blk_drew ?_ | refine blk_alloc ?_ _)); refine blk_far ?_ NB256_275.out _; (with_reducible repeat (first | refine blk_drewN ?_ _ | refine blk_drew ?_ | refine blk_alloc ?_ _)); refine blk_far ?_ NB256_275.out _; (with_reducible repeat (first | refine blk_drewN ?_ _ | refine blk_drew ?_ | refine blk_alloc ?_ _)); refine blk_far ?_ NB256_275.out _; (with_reducible repeat (first | refine blk_drewN ?_ _ | refine blk_drew ?_ | refine blk_alloc ?_ _)); exact BK256.out) hb); replace BK275 := am (blk_below (g := gb275) (o := .cells #[.slice Ao30 t266.length co30, .int .i64 t269, .int .i64 t270, .slice Ao33 t271.length co33, .int .i64 t274] 28 (0, 0)) (by (with_reducible repeat (first | refine blk_drewN ?_ _ | refine blk_drew ?_ | refine blk_alloc ?_ _)); refine blk_put (cs := #[.slice Ao30 t266.length co30, .int .i64 t269, .int .i64 t270, .slice Ao33 t271.length co33, .int .i64 0]) ?_ 4 _ rfl; (with_reducible repeat (first | refine blk_drewN ?_ _ | refine blk_drew ?_ | refine blk_alloc ?_ _)); refine blk_put (cs := #[.slice Ao30 t266.length co30, .int .i64 t269, .int .i64 t270, .slice none 0 0, .int .i64 0]) ?_ 3 _ rfl; (with_reducible repeat (first | refine blk_drewN ?_ _ | refine blk_drew ?_ | refine blk_alloc ?_ _)); refine blk_put (cs := #[.slice Ao30 t266.length co30, .int .i64 t269, .int .i64 0, .slice none 0 0, .int .i64 0]) ?_ 2 _ rfl; (with_reducible repeat (first | refine blk_drewN ?_ _ | refine blk_drew ?_ | refine blk_alloc ?_ _)); refine blk_put (cs := #[.slice Ao30 t266.length co30, .int .i64 0, .int .i64 0, .slice none 0 0, .int .i64 0]) ?_ 1 _ rfl; (with_reducible repeat (first | refine blk_drewN ?_ _ | refine blk_drew ?_ | refine blk_alloc ?_ _)); refine blk_put (cs := #[.slice none 0 0, .int .i64 0, .int .i64 0, .slice none 0 0, .int .i64 0]) ?_ 0 _ rfl; (with_reducible repeat (first | refine blk_drewN ?_ _ | refine blk_drew ?_ | refine blk_alloc ?_ _)); exact BK275.out) hb); replace HB := am (below_step (bl HB.out) hb); (try clear hb); (try clear hb2); (try clear hk); (try clear hi); (try clear ho0)) | ((with_reducible refine gate_dst (N := 11) rfl ?_); refine box_event ?hg (N := 11) ?hd (cs := #[.slice none 0 0, .int .i64 0, .int .i64 0]) (t := 26) ?hr ?_; (case hd => rfl); (case hg => rfl); (case hr => first | (go_simp; done) | (go_simp; rfl)); intro gb281 hg w36 hbox hb; replace HO260 := am (Kd.R_below (kr HO260.out) hb); replace HO265 := am (Kd.R_below (kr HO265.out) hb); replace HO268 := am (Kd.R_below (kr HO268.out) hb); replace HO273 := am (Kd.R_below (kr HO273.out) hb); replace HO278 := am (Kd.R_below (kr HO278.out) hb); have BK281 := am (hbox); have GW281 := am ((by rw [hg]; exact (below_size (bl HB.out)) : w.heap.size ≤ gb281)); have GE281 := GW281; replace HB := am (below_step (bl HB.out) hb); have NB256_281 := am ((by rw [hg]; exact Nat.ne_of_lt (blk_lt (pk BK256.out)) : gb256 ≠ gb281)); have NB281_256 := am ((by rw [hg]; exact Nat.ne_of_gt (blk_lt (pk BK256.out)) : gb281 ≠ gb256)); replace BK256 := am (blk_below (pk BK256.out) hb); have NB275_281 := am ((by rw [hg]; exact Nat.ne_of_lt (blk_lt (pk BK275.out)) : gb275 ≠ gb281)); have NB281_275 := am ((by rw [hg]; exact Nat.ne_of_gt (blk_lt (pk BK275.out)) : gb281 ≠ gb275)); replace BK275 := am (blk_below (pk BK275.out) hb); clear hb hbox hg; obtain ⟨Ao37, co37, eo37⟩ := Kd.R_slice HO278.out; subst eo37; have hnb38 := NB281_256.out; have hnc38 := NB256_281.out; have hnb39 := NB281_275.out; have hnc39 := NB275_281.out; have hcz40_0 : w36.cell? ⟨gb281, 0, none⟩ = some (.slice none 0 0) := bc BK281.out 0; have hcz40_1 : w36.cell? ⟨gb281, 1, none⟩ = some (.int .i64 0) := bc BK281.out 1; have hcz40_2 : w36.cell? ⟨gb281, 2, none⟩ = some (.int .i64 0) := bc BK281.out 2; have hfz40_0 := blk_frozen BK281.out 0; have hfz40_1 := blk_frozen BK281.out 1; have hfz40_2 := blk_frozen BK281.out 2) | ((with_reducible refine gate_callee (f := 12) rfl ?_); refine gl (some 36) Try.func12 #[.slice A3 l3.length c3] ?_; (with_reducible refine (laws_toInt64S.calls k _ _ l3 t282 _ ?side1 ?side2 A16.out).mono ?_); (case side1 => exact Kd.C_below HR3.out (bl HB.out)); (case side2 => exact HC3.out); rintro e w41 ⟨v283, rfl, ho0, hb⟩; refine ⟨_, rfl, ?_⟩; have HO284 := am (Kd.R_lower (Kd.R_new' (Kd.R_new' (Kd.R_new' (Kd.R_new' (Kd.R_new' ho0 (Kd.R_lt (kr ((Kd.R_mono (Kd.R_far (p := ⟨gb281, 2, none⟩) (Kd.R_far (p := ⟨gb281, 1, none⟩) (Kd.R_far (p := ⟨gb281, 0, none⟩) (Kd.R_types HO260.out BK281.out (by decide)) (fun _ hk => hk.2) (.slice Ao37 t276.length co37)) (fun _ hk => hk.2) (.int .i64 t279)) (fun _ hk => hk.2) (.int .i64 t280)) (fun _ h_ => h_.1)))))) (Kd.R_lt (kr ((Kd.R_mono (Kd.R_far (p := ⟨gb281, 2, none⟩) (Kd.R_far (p := ⟨gb281, 1, none⟩) (Kd.R_far (p := ⟨gb281, 0, none⟩) (Kd.R_types HO265.out BK281.out (by decide)) (fun _ hk => hk.2) (.slice Ao37 t276.length co37)) (fun _ hk => hk.2) (.int .i64 t279)) (fun _ hk => hk.2) (.int .i64 t280)) (fun _ h_ => h_.1)))))) (Kd.R_lt (kr ((Kd.R_mono (Kd.R_far (p := ⟨gb281, 2, none⟩) (Kd.R_far (p := ⟨gb281, 1, none⟩) (Kd.R_far (p := ⟨gb281, 0, none⟩) (Kd.R_types HO268.out BK281.out (by decide)) (fun _ hk => hk.2) (.slice Ao37 t276.length co37)) (fun _ hk => hk.2) (.int .i64 t279)) (fun _ hk => hk.2) (.int .i64 t280)) (fun _ h_ => h_.1)))))) (Kd.R_lt (kr ((Kd.R_mono (Kd.R_far (p := ⟨gb281, 2, none⟩) (Kd.R_far (p := ⟨gb281, 1, none⟩) (Kd.R_far (p := ⟨gb281, 0, none⟩) (Kd.R_types HO273.out BK281.out (by decide)) (fun _ hk => hk.2) (.slice Ao37 t276.length co37)) (fun _ hk => hk.2) (.int .i64 t279)) (fun _ hk => hk.2) (.int .i64 t280)) (fun _ h_ => h_.1)))))) (Kd.R_lt (kr ((Kd.R_mono (Kd.R_far (p := ⟨gb281, 2, none⟩) (Kd.R_far (p := ⟨gb281, 1, none⟩) (Kd.R_far (p := ⟨gb281, 0, none⟩) (Kd.R_types HO278.out BK281.out (by decide)) (fun _ hk => hk.2) (.slice Ao37 t276.length co37)) (fun _ hk => hk.2) (.int .i64 t279)) (fun _ hk => hk.2) (.int .i64 t280)) (fun _ h_ => h_.1)))))) (below_size (bl HB.out))); replace HO260 := am (Kd.R_elder' (kr ((Kd.R_mono (Kd.R_far (p := ⟨gb281, 2, none⟩) (Kd.R_far (p := ⟨gb281, 1, none⟩) (Kd.R_far (p := ⟨gb281, 0, none⟩) (Kd.R_types HO260.out BK281.out (by decide)) (fun _ hk => hk.2) (.slice Ao37 t276.length co37)) (fun _ hk => hk.2) (.int .i64 t279)) (fun _ hk => hk.2) (.int .i64 t280)) (fun _ h_ => h_.1)))) (Kd.R_base ho0) hb); replace HO265 := am (Kd.R_elder' (kr ((Kd.R_mono (Kd.R_far (p := ⟨gb281, 2, none⟩) (Kd.R_far (p := ⟨gb281, 1, none⟩) (Kd.R_far (p := ⟨gb281, 0, none⟩) (Kd.R_types HO265.out BK281.out (by decide)) (fun _ hk => hk.2) (.slice Ao37 t276.length co37)) (fun _ hk => hk.2) (.int .i64 t279)) (fun _ hk => hk.2) (.int .i64 t280)) (fun _ h_ => h_.1)))) (Kd.R_base ho0) hb); replace HO268 := am (Kd.R_elder' (kr ((Kd.R_mono (Kd.R_far (p := ⟨gb281, 2, none⟩) (Kd.R_far (p := ⟨gb281, 1, none⟩) (Kd.R_far (p := ⟨gb281, 0, none⟩) (Kd.R_types HO268.out BK281.out (by decide)) (fun _ hk => hk.2) (.slice Ao37 t276.length co37)) (fun _ hk => hk.2) (.int .i64 t279)) (fun _ hk => hk.2) (.int .i64 t280)) (fun _ h_ => h_.1)))) (Kd.R_base ho0) hb); replace HO273 := am (Kd.R_elder' (kr ((Kd.R_mono (Kd.R_far (p := ⟨gb281, 2, none⟩) (Kd.R_far (p := ⟨gb281, 1, none⟩) (Kd.R_far (p := ⟨gb281, 0, none⟩) (Kd.R_types HO273.out BK281.out (by decide)) (fun _ hk => hk.2) (.slice Ao37 t276.length co37)) (fun _ hk => hk.2) (.int .i64 t279)) (fun _ hk => hk.2) (.int .i64 t280)) (fun _ h_ => h_.1)))) (Kd.R_base ho0) hb); replace HO278 := am (Kd.R_elder' (kr ((Kd.R_mono (Kd.R_far (p := ⟨gb281, 2, none⟩) (Kd.R_far (p := ⟨gb281, 1, none⟩) (Kd.R_far (p := ⟨gb281, 0, none⟩) (Kd.R_types HO278.out BK281.out (by decide)) (fun _ hk => hk.2) (.slice Ao37 t276.length co37)) (fun _ hk => hk.2) (.int .i64 t279)) (fun _ hk => hk.2) (.int .i64 t280)) (fun _ h_ => h_.1)))) (Kd.R_base ho0) hb); replace BK256 := am (blk_below (g := gb256) (o := .cells #[.slice A0_0 l0_0.length c0_0, .int .i64 a0_1, .int .i64 a0_2] 24 (0, 0)) (by (with_reducible repeat (first | refine blk_drewN ?_ _ | refine blk_drew ?_ | refine blk_alloc ?_ _)); refine blk_far ?_ NB256_281.out _; (with_reducible repeat (first | refine blk_drewN ?_ _ | refine blk_drew ?_ | refine blk_alloc ?_ _)); refine blk_far ?_ NB256_281.out _; (with_reducible repeat (first | refine blk_drewN ?_ _ | refine blk_drew ?_ | refine blk_alloc ?_ _)); refine blk_far ?_ NB256_281.out _; (with_reducible repeat (first | refine blk_drewN ?_ _ | refine blk_drew ?_ | refine blk_alloc ?_ _)); exact BK256.out) hb); replace BK275 := am (blk_below (g := gb275) (o := .cells #[.slice Ao30 t266.length co30, .int .i64 t269, .int .i64 t270, .slice Ao33 t271.length co33, .int .i64 t274] 28 (0, 0)) (by (with_reducible repeat (first | refine blk_drewN ?_ _ | refine blk_drew ?_ | refine blk_alloc ?_ _)); refine blk_far ?_ NB275_281.out _; (with_reducible repeat (first | refine blk_drewN ?_ _ | refine blk_drew ?_ | refine blk_alloc ?_ _)); refine blk_far ?_ NB275_281.out _; (with_reducible repeat (first | refine blk_drewN ?_ _ | refine blk_drew ?_ | refine blk_alloc ?_ _)); refine blk_far ?_ NB275_281.out _; (with_reducible repeat (first | refine blk_drewN ?_ _ | refine blk_drew ?_ | refine blk_alloc ?_ _)); exact BK275.out) hb); replace BK281 := am (blk_below (g := gb281) (o := .cells #[.slice Ao37 t276.length co37, .int .i64 t279, .int .i64 t280] 26 (0, 0)) (by (with_reducible repeat (first | refine blk_drewN ?_ _ | refine blk_drew ?_ | refine blk_alloc ?_ _)); refine blk_put (cs := #[.slice Ao37 t276.length co37, .int .i64 t279, .int .i64 0]) ?_ 2 _ rfl; (with_reducible repeat (first | refine blk_drewN ?_ _ | refine blk_drew ?_ | refine blk_alloc ?_ _)); refine blk_put (cs := #[.slice Ao37 t276.length co37, .int .i64 0, .int .i64 0]) ?_ 1 _ rfl; (with_reducible repeat (first | refine blk_drewN ?_ _ | refine blk_drew ?_ | refine blk_alloc ?_ _)); refine blk_put (cs := #[.slice none 0 0, .int .i64 0, .int .i64 0]) ?_ 0 _ rfl; (with_reducible repeat (first | refine blk_drewN ?_ _ | refine blk_drew ?_ | refine blk_alloc ?_ _)); exact BK281.out) hb); replace HB := am (below_step (bl HB.out) hb); (try clear hb); (try clear hb2); (try clear hk); (try clear hi); (try clear ho0); have hcz42_0 : w41.cell? ⟨gb281, 0, none⟩ = some (.slice Ao37 t276.length co37) := bc BK281.out 0; have hcz42_1 : w41.cell? ⟨gb281, 1, none⟩ = some (.int .i64 t279) := bc BK281.out 1; have hcz42_2 : w41.cell? ⟨gb281, 2, none⟩ = some (.int .i64 t280) := bc BK281.out 2; have hfz42_0 := blk_frozen BK281.out 0; have hfz42_1 := blk_frozen BK281.out 1; have hfz42_2 := blk_frozen BK281.out 2; obtain ⟨Ao43, co43, eo43⟩ := Kd.R_slice HO284.out; subst eo43) | ((with_reducible refine gate_callee (f := 13) rfl ?_); refine gl (some 41) Try.func13 #[.agg #[.slice Ao37 t276.length co37, .int .i64 t279, .int .i64 t280], .int .i64 a1, .int .i64 a2, .slice Ao43 t282.length co43] ?_; (with_reducible refine (impl_BufReplace.calls k _ _ t276 t279 t280 a1 a2 _ _ t282 t285 t288 t289 t290 t293 _ ?side1 ?side2 ?side3 ?side4 A17.out).mono ?_); (case side1 => repeat (first | exact (Kd.R_reads' HO278.out).2.2 | (with_reducible refine Kd.C_alloc ?_ _) | (with_reducible refine Kd.C_drewN ?_ _) | (with_reducible refine Kd.C_drew ?_))); (case side2 => exact (Kd.R_reads' HO278.out).2.1); (case side3 => repeat (first | exact (Kd.R_reads' HO284.out).2.2 | (with_reducible refine Kd.C_alloc ?_ _) | (with_reducible refine Kd.C_drewN ?_ _) | (with_reducible refine Kd.C_drew ?_))); (case side4 => exact (Kd.R_reads' HO284.out).2.1); rintro e w44 ⟨v286, v291, rfl, ho0, ho1, hb⟩; refine ⟨_, rfl, ?_⟩; have HO287 := am (Kd.R_lower (Kd.R_new' (Kd.R_new' (Kd.R_new' (Kd.R_new' (Kd.R_new' (Kd.R_new' ho0 (Kd.R_lt (kr HO260.out))) (Kd.R_lt (kr HO265.out))) (Kd.R_lt (kr HO268.out))) (Kd.R_lt (kr HO273.out))) (Kd.R_lt (kr HO278.out))) (Kd.R_lt (kr HO284.out))) (below_size (bl HB.out))); have HO292 := am (Kd.R_lower (Kd.R_new' (Kd.R_new' (Kd.R_new' (Kd.R_new' (Kd.R_new' (Kd.R_new' ho1 (Kd.R_lt (kr HO260.out))) (Kd.R_lt (kr HO265.out))) (Kd.R_lt (kr HO268.out))) (Kd.R_lt (kr HO273.out))) (Kd.R_lt (kr HO278.out))) (Kd.R_lt (kr HO284.out))) (below_size (bl HB.out))); replace HO260 := am (Kd.R_mono (Kd.R_told (Kd.R_told (Kd.R_old (kr HO260.out) hb) (Kd.R_base ho0)) (Kd.R_base ho1)) (fun _ h_ => h_.1)); replace HO265 := am (Kd.R_mono (Kd.R_told (Kd.R_told (Kd.R_old (kr HO265.out) hb) (Kd.R_base ho0)) (Kd.R_base ho1)) (fun _ h_ => h_.1)); replace HO268 := am (Kd.R_mono (Kd.R_told (Kd.R_told (Kd.R_old (kr HO268.out) hb) (Kd.R_base ho0)) (Kd.R_base ho1)) (fun _ h_ => h_.1)); replace HO273 := am (Kd.R_mono (Kd.R_told (Kd.R_told (Kd.R_old (kr HO273.out) hb) (Kd.R_base ho0)) (Kd.R_base ho1)) (fun _ h_ => h_.1)); replace HO278 := am (Kd.R_mono (Kd.R_told (Kd.R_told (Kd.R_old (kr HO278.out) hb) (Kd.R_base ho0)) (Kd.R_base ho1)) (fun _ h_ => h_.1)); replace HO284 := am (Kd.R_mono (Kd.R_told (Kd.R_told (Kd.R_old (kr HO284.out) hb) (Kd.R_base ho0)) (Kd.R_base ho1)) (fun _ h_ => h_.1)); replace BK256 := am (blk_below (pk BK256.out) hb); replace BK275 := am (blk_below (pk BK275.out) hb); replace BK281 := am (blk_below (pk BK281.out) hb); replace HB := am (below_step (bl HB.out) hb); (try clear hb); (try clear hb2); (try clear hk); (try clear hi); (try clear ho0); (try clear ho1)) | ((with_reducible refine gate_dst (N := 13) rfl ?_); refine box_event ?hg (N := 13) ?hd (cs := #[.slice none 0 0, .int .i64 0, .int .i64 0, .slice none 0 0, .int .i64 0]) (t := 28) ?hr ?_; (case hd => rfl); (case hg => rfl); (case hr => first | (go_simp; done) | (go_simp; rfl)); intro gb294 hg w45 hbox hb; replace HO260 := am (Kd.R_below (kr HO260.out) hb); replace HO265 := am (Kd.R_below (kr HO265.out) hb); replace HO268 := am (Kd.R_below (kr HO268.out) hb); replace HO273 := am (Kd.R_below (kr HO273.out) hb); replace HO278 := am (Kd.R_below (kr HO278.out) hb); replace HO284 := am (Kd.R_below (kr HO284.out) hb); replace HO287 := am (Kd.R_below (kr HO287.out) hb); replace HO292 := am (Kd.R_below (kr HO292.out) hb); have BK294 := am (hbox); have GW294 := am ((by rw [hg]; exact (below_size (bl HB.out)) : w.heap.size ≤ gb294)); have GE294 := GW294; replace HB := am (below_step (bl HB.out) hb); have NB256_294 := am ((by rw [hg]; exact Nat.ne_of_lt (blk_lt (pk BK256.out)) : gb256 ≠ gb294)); have NB294_256 := am ((by rw [hg]; exact Nat.ne_of_gt (blk_lt (pk BK256.out)) : gb294 ≠ gb256)); replace BK256 := am (blk_below (pk BK256.out) hb); have NB275_294 := am ((by rw [hg]; exact Nat.ne_of_lt (blk_lt (pk BK275.out)) : gb275 ≠ gb294)); have NB294_275 := am ((by rw [hg]; exact Nat.ne_of_gt (blk_lt (pk BK275.out)) : gb294 ≠ gb275)); replace BK275 := am (blk_below (pk BK275.out) hb); have NB281_294 := am ((by rw [hg]; exact Nat.ne_of_lt (blk_lt (pk BK281.out)) : gb281 ≠ gb294)); have NB294_281 := am ((by rw [hg]; exact Nat.ne_of_gt (blk_lt (pk BK281.out)) : gb294 ≠ gb281)); replace BK281 := am (blk_below (pk BK281.out) hb); clear hb hbox hg; obtain ⟨Ao46, co46, eo46⟩ := Kd.R_slice HO287.out; subst eo46; have hnb47 := NB294_256.out; have hnc47 := NB256_294.out; have hnb48 := NB294_275.out; have hnc48 := NB275_294.out; have hnb49 := NB294_281.out; have hnc49 := NB281_294.out; have hcz50_0 : w45.cell? ⟨gb294, 0, none⟩ = some (.slice none 0 0) := bc BK294.out 0; have hcz50_1 : w45.cell? ⟨gb294, 1, none⟩ = some (.int .i64 0) := bc BK294.out 1; have hcz50_2 : w45.cell? ⟨gb294, 2, none⟩ = some (.int .i64 0) := bc BK294.out 2; have hcz50_3 : w45.cell? ⟨gb294, 3, none⟩ = some (.slice none 0 0) := bc BK294.out 3; have hcz50_4 : w45.cell? ⟨gb294, 4, none⟩ = some (.int .i64 0) := bc BK294.out 4; have hfz50_0 := blk_frozen BK294.out 0; have hfz50_1 := blk_frozen BK294.out 1; have hfz50_2 := blk_frozen BK294.out 2; have hfz50_3 := blk_frozen BK294.out 3; have hfz50_4 := blk_frozen BK294.out 4; obtain ⟨Ao51, co51, eo51⟩ := Kd.R_slice HO292.out; subst eo51; have hcz52_0 : w45.cell? ⟨gb275, 0, none⟩ = some (.slice Ao30 t266.length co30) := bc BK275.out 0; have hcz52_1 : w45.cell? ⟨gb275, 1, none⟩ = some (.int .i64 t269) := bc BK275.out 1; have hcz52_2 : w45.cell? ⟨gb275, 2, none⟩ = some (.int .i64 t270) := bc BK275.out 2; have hcz52_3 : w45.cell? ⟨gb275, 3, none⟩ = some (.slice Ao33 t271.length co33) := bc BK275.out 3; have hcz52_4 : w45.cell? ⟨gb275, 4, none⟩ = some (.int .i64 t274) := bc BK275.out 4; have hfz52_0 := blk_frozen BK275.out 0; have hfz52_1 := blk_frozen BK275.out 1; have hfz52_2 := blk_frozen BK275.out 2; have hfz52_3 := blk_frozen BK275.out 3; have hfz52_4 := blk_frozen BK275.out 4) | ((with_reducible refine gate_callee (f := 14) rfl ?_); refine gl (some 44) Try.func14 #[.agg #[.slice Ao46 t285.length co46, .int .i64 t288, .int .i64 t289, .slice Ao51 t290.length co51, .int .i64 t293], .agg #[.slice Ao30 t266.length co30, .int .i64 t269, .int .i64 t270, .slice Ao33 t271.length co33, .int .i64 t274]] ?_; (with_reducible refine (laws_eqBufOut.calls k _ _ t285 t288 t289 _ _ t290 t293 _ _ t266 t269 t270 _ _ t271 t274 t295 _ ?side1 ?side2 ?side3 ?side4 ?side5 ?side6 ?side7 ?side8 A18.out).mono ?_); (case side1 => refine (Kd.R_reads' (e := 2) (base := w.heap.size) (ok := fun k_ => ((((((some k_ ≠ (.slice Ao51 t290.length co51 : Value).ownBlock ∧ some k_ ≠ (.slice Ao26 t258.length co26 : Value).ownBlock) ∧ some k_ ≠ (.slice Ao27 t263.length co27 : Value).ownBlock) ∧ some k_ ≠ (.slice Ao30 t266.length co30 : Value).ownBlock) ∧ some k_ ≠ (.slice Ao33 t271.length co33 : Value).ownBlock) ∧ some k_ ≠ (.slice Ao37 t276.length co37 : Value).ownBlock) ∧ some k_ ≠ (.slice Ao43 t282.length co43 : Value).ownBlock)) (n := t285.length) (c := co46) ?_).2.2; exact (kr ((Kd.R_mono (Kd.R_far (p := ⟨gb294, 4, none⟩) (Kd.R_far (p := ⟨gb294, 3, none⟩) (Kd.R_far (p := ⟨gb294, 2, none⟩) (Kd.R_far (p := ⟨gb294, 1, none⟩) (Kd.R_far (p := ⟨gb294, 0, none⟩) (Kd.R_types HO287.out BK294.out (by decide)) (fun _ hk => hk.2) (.slice Ao46 t285.length co46)) (fun _ hk => hk.2) (.int .i64 t288)) (fun _ hk => hk.2) (.int .i64 t289)) (fun _ hk => hk.2) (.slice Ao51 t290.length co51)) (fun _ hk => hk.2) (.int .i64 t293)) (fun _ h_ => h_.1))))); (case side2 => exact (Kd.R_reads' HO287.out).2.1); (case side3 => refine (Kd.R_reads' (e := 2) (base := w.heap.size) (ok := fun k_ => ((((((some k_ ≠ (.slice Ao46 t285.length co46 : Value).ownBlock ∧ some k_ ≠ (.slice Ao26 t258.length co26 : Value).ownBlock) ∧ some k_ ≠ (.slice Ao27 t263.length co27 : Value).ownBlock) ∧ some k_ ≠ (.slice Ao30 t266.length co30 : Value).ownBlock) ∧ some k_ ≠ (.slice Ao33 t271.length co33 : Value).ownBlock) ∧ some k_ ≠ (.slice Ao37 t276.length co37 : Value).ownBlock) ∧ some k_ ≠ (.slice Ao43 t282.length co43 : Value).ownBlock)) (n := t290.length) (c := co51) ?_).2.2; exact (kr ((Kd.R_mono (Kd.R_far (p := ⟨gb294, 4, none⟩) (Kd.R_far (p := ⟨gb294, 3, none⟩) (Kd.R_far (p := ⟨gb294, 2, none⟩) (Kd.R_far (p := ⟨gb294, 1, none⟩) (Kd.R_far (p := ⟨gb294, 0, none⟩) (Kd.R_types HO292.out BK294.out (by decide)) (fun _ hk => hk.2) (.slice Ao46 t285.length co46)) (fun _ hk => hk.2) (.int .i64 t288)) (fun _ hk => hk.2) (.int .i64 t289)) (fun _ hk => hk.2) (.slice Ao51 t290.length co51)) (fun _ hk => hk.2) (.int .i64 t293)) (fun _ h_ => h_.1))))); (case side4 => exact (Kd.R_reads' HO292.out).2.1); (case side5 => refine (Kd.R_reads' (e := 2) (base := w.heap.size) (ok := fun k_ => ((((((some k_ ≠ (.slice Ao33 t271.length co33 : Value).ownBlock ∧ some k_ ≠ (.slice Ao26 t258.length co26 : Value).ownBlock) ∧ some k_ ≠ (.slice Ao27 t263.length co27 : Value).ownBlock) ∧ some k_ ≠ (.slice Ao37 t276.length co37 : Value).ownBlock) ∧ some k_ ≠ (.slice Ao43 t282.length co43 : Value).ownBlock) ∧ some k_ ≠ (.slice Ao46 t285.length co46 : Value).ownBlock) ∧ some k_ ≠ (.slice Ao51 t290.length co51 : Value).ownBlock)) (n := t266.length) (c := co30) ?_).2.2; exact (kr ((Kd.R_mono (Kd.R_far (p := ⟨gb294, 4, none⟩) (Kd.R_far (p := ⟨gb294, 3, none⟩) (Kd.R_far (p := ⟨gb294, 2, none⟩) (Kd.R_far (p := ⟨gb294, 1, none⟩) (Kd.R_far (p := ⟨gb294, 0, none⟩) (Kd.R_types HO268.out BK294.out (by decide)) (fun _ hk => hk.2) (.slice Ao46 t285.length co46)) (fun _ hk => hk.2) (.int .i64 t288)) (fun _ hk => hk.2) (.int .i64 t289)) (fun _ hk => hk.2) (.slice Ao51 t290.length co51)) (fun _ hk => hk.2) (.int .i64 t293)) (fun _ h_ => h_.1))))); (case side6 => exact (Kd.R_reads' HO268.out).2.1); (case side7 => refine (Kd.R_reads' (e := 2) (base := w.heap.size) (ok := fun k_ => ((((((some k_ ≠ (.slice Ao30 t266.length co30 : Value).ownBlock ∧ some k_ ≠ (.slice Ao26 t258.length co26 : Value).ownBlock) ∧ some k_ ≠ (.slice Ao27 t263.length co27 : Value).ownBlock) ∧ some k_ ≠ (.slice Ao37 t276.length co37 : Value).ownBlock) ∧ some k_ ≠ (.slice Ao43 t282.length co43 : Value).ownBlock) ∧ some k_ ≠ (.slice Ao46 t285.length co46 : Value).ownBlock) ∧ some k_ ≠ (.slice Ao51 t290.length co51 : Value).ownBlock)) (n := t271.length) (c := co33) ?_).2.2; exact (kr ((Kd.R_mono (Kd.R_far (p := ⟨gb294, 4, none⟩) (Kd.R_far (p := ⟨gb294, 3, none⟩) (Kd.R_far (p := ⟨gb294, 2, none⟩) (Kd.R_far (p := ⟨gb294, 1, none⟩) (Kd.R_far (p := ⟨gb294, 0, none⟩) (Kd.R_types HO273.out BK294.out (by decide)) (fun _ hk => hk.2) (.slice Ao46 t285.length co46)) (fun _ hk => hk.2) (.int .i64 t288)) (fun _ hk => hk.2) (.int .i64 t289)) (fun _ hk => hk.2) (.slice Ao51 t290.length co51)) (fun _ hk => hk.2) (.int .i64 t293)) (fun _ h_ => h_.1))))); (case side8 => exact (Kd.R_reads' HO273.out).2.1); rintro e w53 ⟨rfl, hb⟩; refine ⟨_, rfl, ?_⟩; replace HO260 := am (Kd.R_below (kr ((Kd.R_mono (Kd.R_far (p := ⟨gb294, 4, none⟩) (Kd.R_far (p := ⟨gb294, 3, none⟩) (Kd.R_far (p := ⟨gb294, 2, none⟩) (Kd.R_far (p := ⟨gb294, 1, none⟩) (Kd.R_far (p := ⟨gb294, 0, none⟩) (Kd.R_types HO260.out BK294.out (by decide)) (fun _ hk => hk.2) (.slice Ao46 t285.length co46)) (fun _ hk => hk.2) (.int .i64 t288)) (fun _ hk => hk.2) (.int .i64 t289)) (fun _ hk => hk.2) (.slice Ao51 t290.length co51)) (fun _ hk => hk.2) (.int .i64 t293)) (fun _ h_ => h_.1)))) hb); replace HO265 := am (Kd.R_below (kr ((Kd.R_mono (Kd.R_far (p := ⟨gb294, 4, none⟩) (Kd.R_far (p := ⟨gb294, 3, none⟩) (Kd.R_far (p := ⟨gb294, 2, none⟩) (Kd.R_far (p := ⟨gb294, 1, none⟩) (Kd.R_far (p := ⟨gb294, 0, none⟩) (Kd.R_types HO265.out BK294.out (by decide)) (fun _ hk => hk.2) (.slice Ao46 t285.length co46)) (fun _ hk => hk.2) (.int .i64 t288)) (fun _ hk => hk.2) (.int .i64 t289)) (fun _ hk => hk.2) (.slice Ao51 t290.length co51)) (fun _ hk => hk.2) (.int .i64 t293)) (fun _ h_ => h_.1)))) hb); replace HO268 := am (Kd.R_below (kr ((Kd.R_mono (Kd.R_far (p := ⟨gb294, 4, none⟩) (Kd.R_far (p := ⟨gb294, 3, none⟩) (Kd.R_far (p := ⟨gb294, 2, none⟩) (Kd.R_far (p := ⟨gb294, 1, none⟩) (Kd.R_far (p := ⟨gb294, 0, none⟩) (Kd.R_types HO268.out BK294.out (by decide)) (fun _ hk => hk.2) (.slice Ao46 t285.length co46)) (fun _ hk => hk.2) (.int .i64 t288)) (fun _ hk => hk.2) (.int .i64 t289)) (fun _ hk => hk.2) (.slice Ao51 t290.length co51)) (fun _ hk => hk.2) (.int .i64 t293)) (fun _ h_ => h_.1)))) hb); replace HO273 := am (Kd.R_below (kr ((Kd.R_mono (Kd.R_far (p := ⟨gb294, 4, none⟩) (Kd.R_far (p := ⟨gb294, 3, none⟩) (Kd.R_far (p := ⟨gb294, 2, none⟩) (Kd.R_far (p := ⟨gb294, 1, none⟩) (Kd.R_far (p := ⟨gb294, 0, none⟩) (Kd.R_types HO273.out BK294.out (by decide)) (fun _ hk => hk.2) (.slice Ao46 t285.length co46)) (fun _ hk => hk.2) (.int .i64 t288)) (fun _ hk => hk.2) (.int .i64 t289)) (fun _ hk => hk.2) (.slice Ao51 t290.length co51)) (fun _ hk => hk.2) (.int .i64 t293)) (fun _ h_ => h_.1)))) hb); replace HO278 := am (Kd.R_below (kr ((Kd.R_mono (Kd.R_far (p := ⟨gb294, 4, none⟩) (Kd.R_far (p := ⟨gb294, 3, none⟩) (Kd.R_far (p := ⟨gb294, 2, none⟩) (Kd.R_far (p := ⟨gb294, 1, none⟩) (Kd.R_far (p := ⟨gb294, 0, none⟩) (Kd.R_types HO278.out BK294.out (by decide)) (fun _ hk => hk.2) (.slice Ao46 t285.length co46)) (fun _ hk => hk.2) (.int .i64 t288)) (fun _ hk => hk.2) (.int .i64 t289)) (fun _ hk => hk.2) (.slice Ao51 t290.length co51)) (fun _ hk => hk.2) (.int .i64 t293)) (fun _ h_ => h_.1)))) hb); replace HO284 := am (Kd.R_below (kr ((Kd.R_mono (Kd.R_far (p := ⟨gb294, 4, none⟩) (Kd.R_far (p := ⟨gb294, 3, none⟩) (Kd.R_far (p := ⟨gb294, 2, none⟩) (Kd.R_far (p := ⟨gb294, 1, none⟩) (Kd.R_far (p := ⟨gb294, 0, none⟩) (Kd.R_types HO284.out BK294.out (by decide)) (fun _ hk => hk.2) (.slice Ao46 t285.length co46)) (fun _ hk => hk.2) (.int .i64 t288)) (fun _ hk => hk.2) (.int .i64 t289)) (fun _ hk => hk.2) (.slice Ao51 t290.length co51)) (fun _ hk => hk.2) (.int .i64 t293)) (fun _ h_ => h_.1)))) hb); replace HO287 := am (Kd.R_below (kr ((Kd.R_mono (Kd.R_far (p := ⟨gb294, 4, none⟩) (Kd.R_far (p := ⟨gb294, 3, none⟩) (Kd.R_far (p := ⟨gb294, 2, none⟩) (Kd.R_far (p := ⟨gb294, 1, none⟩) (Kd.R_far (p := ⟨gb294, 0, none⟩) (Kd.R_types HO287.out BK294.out (by decide)) (fun _ hk => hk.2) (.slice Ao46 t285.length co46)) (fun _ hk => hk.2) (.int .i64 t288)) (fun _ hk => hk.2) (.int .i64 t289)) (fun _ hk => hk.2) (.slice Ao51 t290.length co51)) (fun _ hk => hk.2) (.int .i64 t293)) (fun _ h_ => h_.1)))) hb); replace HO292 := am (Kd.R_below (kr ((Kd.R_mono (Kd.R_far (p := ⟨gb294, 4, none⟩) (Kd.R_far (p := ⟨gb294, 3, none⟩) (Kd.R_far (p := ⟨gb294, 2, none⟩) (Kd.R_far (p := ⟨gb294, 1, none⟩) (Kd.R_far (p := ⟨gb294, 0, none⟩) (Kd.R_types HO292.out BK294.out (by decide)) (fun _ hk => hk.2) (.slice Ao46 t285.length co46)) (fun _ hk => hk.2) (.int .i64 t288)) (fun _ hk => hk.2) (.int .i64 t289)) (fun _ hk => hk.2) (.slice Ao51 t290.length co51)) (fun _ hk => hk.2) (.int .i64 t293)) (fun _ h_ => h_.1)))) hb); replace BK256 := am (blk_below (g := gb256) (o := .cells #[.slice A0_0 l0_0.length c0_0, .int .i64 a0_1, .int .i64 a0_2] 24 (0, 0)) (by (with_reducible repeat (first | refine blk_drewN ?_ _ | refine blk_drew ?_ | refine blk_alloc ?_ _)); refine blk_far ?_ NB256_294.out _; (with_reducible repeat (first | refine blk_drewN ?_ _ | refine blk_drew ?_ | refine blk_alloc ?_ _)); refine blk_far ?_ NB256_294.out _; (with_reducible repeat (first | refine blk_drewN ?_ _ | refine blk_drew ?_ | refine blk_alloc ?_ _)); refine blk_far ?_ NB256_294.out _; (with_reducible repeat (first | refine blk_drewN ?_ _ | refine blk_drew ?_ | refine blk_alloc ?_ _)); refine blk_far ?_ NB256_294.out _; (with_reducible repeat (first | refine blk_drewN ?_ _ | refine blk_drew ?_ | refine blk_alloc ?_ _)); refine blk_far ?_ NB256_294.out _; (with_reducible repeat (first | refine blk_drewN ?_ _ | refine blk_drew ?_ | refine blk_alloc ?_ _)); exact BK256.out) hb); replace BK275 := am (blk_below (g := gb275) (o := .cells #[.slice Ao30 t266.length co30, .int .i64 t269, .int .i64 t270, .slice Ao33 t271.length co33, .int .i64 t274] 28 (0, 0)) (by (with_reducible repeat (first | refine blk_drewN ?_ _ | refine blk_drew ?_ | refine blk_alloc ?_ _)); refine blk_far ?_ NB275_294.out _; (with_reducible repeat (first | refine blk_drewN ?_ _ | refine blk_drew ?_ | refine blk_alloc ?_ _)); refine blk_far ?_ NB275_294.out _; (with_reducible repeat (first | refine blk_drewN ?_ _ | refine blk_drew ?_ | refine blk_alloc ?_ _)); refine blk_far ?_ NB275_294.out _; (with_reducible repeat (first | refine blk_drewN ?_ _ | refine blk_drew ?_ | refine blk_alloc ?_ _)); refine blk_far ?_ NB275_294.out _; (with_reducible repeat (first | refine blk_drewN ?_ _ | refine blk_drew ?_ | refine blk_alloc ?_ _)); refine blk_far ?_ NB275_294.out _; (with_reducible repeat (first | refine blk_drewN ?_ _ | refine blk_drew ?_ | refine blk_alloc ?_ _)); exact BK275.out) hb); replace BK281 := am (blk_below (g := gb281) (o := .cells #[.slice Ao37 t276.length co37, .int .i64 t279, .int .i64 t280] 26 (0, 0)) (by (with_reducible repeat (first | refine blk_drewN ?_ _ | refine blk_drew ?_ | refine blk_alloc ?_ _)); refine blk_far ?_ NB281_294.out _; (with_reducible repeat (first | refine blk_drewN ?_ _ | refine blk_drew ?_ | refine blk_alloc ?_ _)); refine blk_far ?_ NB281_294.out _; (with_reducible repeat (first | refine blk_drewN ?_ _ | refine blk_drew ?_ | refine blk_alloc ?_ _)); refine blk_far ?_ NB281_294.out _; (with_reducible repeat (first | refine blk_drewN ?_ _ | refine blk_drew ?_ | refine blk_alloc ?_ _)); refine blk_far ?_ NB281_294.out _; (with_reducible repeat (first | refine blk_drewN ?_ _ | refine blk_drew ?_ | refine blk_alloc ?_ _)); refine blk_far ?_ NB281_294.out _; (with_reducible repeat (first | refine blk_drewN ?_ _ | refine blk_drew ?_ | refine blk_alloc ?_ _)); exact BK281.out) hb); replace BK294 := am (blk_below (g := gb294) (o := .cells #[.slice Ao46 t285.length co46, .int .i64 t288, .int .i64 t289, .slice Ao51 t290.length co51, .int .i64 t293] 28 (0, 0)) (by (with_reducible repeat (first | refine blk_drewN ?_ _ | refine blk_drew ?_ | refine blk_alloc ?_ _)); refine blk_put (cs := #[.slice Ao46 t285.length co46, .int .i64 t288, .int .i64 t289, .slice Ao51 t290.length co51, .int .i64 0]) ?_ 4 _ rfl; (with_reducible repeat (first | refine blk_drewN ?_ _ | refine blk_drew ?_ | refine blk_alloc ?_ _)); refine blk_put (cs := #[.slice Ao46 t285.length co46, .int .i64 t288, .int .i64 t289, .slice none 0 0, .int .i64 0]) ?_ 3 _ rfl; (with_reducible repeat (first | refine blk_drewN ?_ _ | refine blk_drew ?_ | refine blk_alloc ?_ _)); refine blk_put (cs := #[.slice Ao46 t285.length co46, .int .i64 t288, .int .i64 0, .slice none 0 0, .int .i64 0]) ?_ 2 _ rfl; (with_reducible repeat (first | refine blk_drewN ?_ _ | refine blk_drew ?_ | refine blk_alloc ?_ _)); refine blk_put (cs := #[.slice Ao46 t285.length co46, .int .i64 0, .int .i64 0, .slice none 0 0, .int .i64 0]) ?_ 1 _ rfl; (with_reducible repeat (first | refine blk_drewN ?_ _ | refine blk_drew ?_ | refine blk_alloc ?_ _)); refine blk_put (cs := #[.slice none 0 0, .int .i64 0, .int .i64 0, .slice none 0 0, .int .i64 0]) ?_ 0 _ rfl; (with_reducible repeat (first | refine blk_drewN ?_ _ | refine blk_drew ?_ | refine blk_alloc ?_ _)); exact BK294.out) hb); replace HB := am (below_step (bl HB.out) hb); (try clear hb); (try clear hb2); (try clear hk); (try clear hi)))
   (try simp only [Act.put, sa_, s0_, ss_])
   go_cut [] (fun wc => ∃ (kq : Nat), Aside0 (laws_FnExactBufReplace.j0 kq a1 a2 l3 t282 l0_0 a0_1 a0_2 t266 t269 t270 t271 t274 t276 t279 t280 t285 t288 t289 t290 t293 = some r) ∧ Aside0 (kq ≤ k) ∧ Aside0 (Kd.R (Kd.int .i64) 2 wc w.heap.size (fun k_ => some k_ ≠ ((.slice Ao30 t266.length co30) : Value).ownBlock ∧ some k_ ≠ ((.slice Ao33 t271.length co33) : Value).ownBlock ∧ some k_ ≠ ((.slice Ao37 t276.length co37) : Value).ownBlock ∧ some k_ ≠ ((.slice Ao46 t285.length co46) : Value).ownBlock ∧ some k_ ≠ ((.slice Ao51 t290.length co51) : Value).ownBlock) (.slice Ao43 t282.length co43) t282) ∧ Aside0 (Kd.R (Kd.int .i64) 2 wc w.heap.size (fun k_ => some k_ ≠ ((.slice Ao43 t282.length co43) : Value).ownBlock ∧ some k_ ≠ ((.slice Ao33 t271.length co33) : Value).ownBlock ∧ some k_ ≠ ((.slice Ao37 t276.length co37) : Value).ownBlock ∧ some k_ ≠ ((.slice Ao46 t285.length co46) : Value).ownBlock ∧ some k_ ≠ ((.slice Ao51 t290.length co51) : Value).ownBlock) (.slice Ao30 t266.length co30) t266) ∧ Aside0 (Kd.R (Kd.int .i64) 2 wc w.heap.size (fun k_ => some k_ ≠ ((.slice Ao43 t282.length co43) : Value).ownBlock ∧ some k_ ≠ ((.slice Ao30 t266.length co30) : Value).ownBlock ∧ some k_ ≠ ((.slice Ao37 t276.length co37) : Value).ownBlock ∧ some k_ ≠ ((.slice Ao46 t285.length co46) : Value).ownBlock ∧ some k_ ≠ ((.slice Ao51 t290.length co51) : Value).ownBlock) (.slice Ao33 t271.length co33) t271) ∧ Aside0 (Kd.R (Kd.int .i64) 2 wc w.heap.size (fun k_ => some k_ ≠ ((.slice Ao43 t282.length co43) : Value).ownBlock ∧ some k_ ≠ ((.slice Ao30 t266.length co30) : Value).ownBlock ∧ some k_ ≠ ((.slice Ao33 t271.length co33) : Value).ownBlock ∧ some k_ ≠ ((.slice Ao46 t285.length co46) : Value).ownBlock ∧ some k_ ≠ ((.slice Ao51 t290.length co51) : Value).ownBlock) (.slice Ao37 t276.length co37) t276) ∧ Aside0 (Kd.R (Kd.int .i64) 2 wc w.heap.size (fun k_ => some k_ ≠ ((.slice Ao43 t282.length co43) : Value).ownBlock ∧ some k_ ≠ ((.slice Ao30 t266.length co30) : Value).ownBlock ∧ some k_ ≠ ((.slice Ao33 t271.length co33) : Value).ownBlock ∧ some k_ ≠ ((.slice Ao37 t276.length co37) : Value).ownBlock ∧ some k_ ≠ ((.slice Ao51 t290.length co51) : Value).ownBlock) (.slice Ao46 t285.length co46) t285) ∧ Aside0 (Kd.R (Kd.int .i64) 2 wc w.heap.size (fun k_ => some k_ ≠ ((.slice Ao43 t282.length co43) : Value).ownBlock ∧ some k_ ≠ ((.slice Ao30 t266.length co30) : Value).ownBlock ∧ some k_ ≠ ((.slice Ao33 t271.length co33) : Value).ownBlock ∧ some k_ ≠ ((.slice Ao37 t276.length co37) : Value).ownBlock ∧ some k_ ≠ ((.slice Ao46 t285.length co46) : Value).ownBlock) (.slice Ao51 t290.length co51) t290) ∧ Aside0 (wc.heap[gb256]? = some (.cells #[(.slice A0_0 l0_0.length c0_0), .int .i64 a0_1, .int .i64 a0_2] 24 (0, 0))) ∧ Aside0 (wc.heap[gb275]? = some (.cells #[(.slice Ao30 t266.length co30), .int .i64 t269, .int .i64 t270, (.slice Ao33 t271.length co33), .int .i64 t274] 28 (0, 0))) ∧ Aside0 (wc.heap[gb281]? = some (.cells #[(.slice Ao37 t276.length co37), .int .i64 t279, .int .i64 t280] 26 (0, 0))) ∧ Aside0 (wc.heap[gb294]? = some (.cells #[(.slice Ao46 t285.length co46), .int .i64 t288, .int .i64 t289, (.slice Ao51 t290.length co51), .int .i64 t293] 28 (0, 0))) ∧ Aside0 (Below w.heap.size w wc))
   case first =>
    have H := HC19.out
    clear HC19
    by_cases c54 : t295 = true
    ·subst c54
     have H1 : (laws_FnExactBufReplace.j0 k a1 a2 l3 t282 l0_0 a0_1 a0_2 t266 t269 t270 t271 t274 t276 t279 t280 t285 t288 t289 t290 t293) = some r := by rw [if_pos rfl] at H; exact H
     clear H
     have H := H1
     clear H1
     have H' := Aside0.mk H
     clear H
     go_wp2
     go_meet
     case rel => exact ⟨_, H', ⟨by first | omega | exact Nat.le_refl _⟩, ⟨kr (Kd.R_mono HO284.out (fun _ hk => ⟨hk.1.1.1.1.2, ⟨hk.1.1.1.2, ⟨hk.1.1.2, ⟨hk.1.2, hk.2⟩⟩⟩⟩))⟩, ⟨kr (Kd.R_mono HO268.out (fun _ hk => ⟨hk.1.1.2, ⟨hk.1.1.1.1.1.1, ⟨hk.1.1.1.2, ⟨hk.1.2, hk.2⟩⟩⟩⟩))⟩, ⟨kr (Kd.R_mono HO273.out (fun _ hk => ⟨hk.1.1.2, ⟨hk.1.1.1.1.1.1, ⟨hk.1.1.1.2, ⟨hk.1.2, hk.2⟩⟩⟩⟩))⟩, ⟨kr (Kd.R_mono HO278.out (fun _ hk => ⟨hk.1.1.2, ⟨hk.1.1.1.1.2, ⟨hk.1.1.1.2, ⟨hk.1.2, hk.2⟩⟩⟩⟩))⟩, ⟨kr (Kd.R_mono HO287.out (fun _ hk => ⟨hk.2, ⟨hk.1.1.1.2, ⟨hk.1.1.2, ⟨hk.1.2, hk.1.1.1.1.1.1⟩⟩⟩⟩))⟩, ⟨kr (Kd.R_mono HO292.out (fun _ hk => ⟨hk.2, ⟨hk.1.1.1.2, ⟨hk.1.1.2, ⟨hk.1.2, hk.1.1.1.1.1.1⟩⟩⟩⟩))⟩, ⟨pk BK256.out⟩, ⟨pk BK275.out⟩, ⟨pk BK281.out⟩, ⟨pk BK294.out⟩, ⟨by repeat (first | (with_reducible first | exact HB.out | apply below_alloc | apply pw_below_drewN | apply below_drew1 | refine below_set ?_ GE256.out | refine below_set ?_ GE275.out | refine below_set ?_ GE281.out | refine below_set ?_ GE294.out) | exact HB.out)⟩⟩
    ·replace c54 := Bool.eq_false_iff.mpr c54
     subst c54
     have H1 : (some false) = some r := by rw [if_neg (show ¬ (false = true) by decide)] at H; exact H
     clear H
     have H := H1
     clear H1
     obtain rfl := Option.some.inj H
     go_wp2
     go_ret
     exact ⟨by first | rfl | (simp [errW_none, errW_some] <;> rfl) | (simp [*, errW_none, errW_some] <;> rfl), by repeat (first | (with_reducible first | exact HB.out | apply below_alloc | apply pw_below_drewN | apply below_drew1 | refine below_set ?_ GE256.out | refine below_set ?_ GE275.out | refine below_set ?_ GE281.out | refine below_set ?_ GE294.out) | exact HB.out)⟩
   case rest =>
    clear HC19
    try clear c1
    try clear p2
    try clear c3
    try clear c4
    try clear c5
    try clear c5b0
    try clear c5b1
    try clear c8
    try clear c8b0
    try clear c9
    try clear c10
    try clear c11
    try clear c12
    try clear c13
    try clear c14
    try clear c31
    try clear c38
    try clear c39
    try clear c47
    try clear c48
    try clear c49
    try clear c54
    try clear hcz10_0
    try clear hcz10_1
    try clear hcz10_2
    try clear hcz21_0
    try clear hcz21_1
    try clear hcz21_2
    try clear hcz23_0
    try clear hcz23_1
    try clear hcz23_2
    try clear hcz32_0
    try clear hcz32_1
    try clear hcz32_2
    try clear hcz32_3
    try clear hcz32_4
    try clear hcz34_0
    try clear hcz34_1
    try clear hcz34_2
    try clear hcz40_0
    try clear hcz40_1
    try clear hcz40_2
    try clear hcz42_0
    try clear hcz42_1
    try clear hcz42_2
    try clear hcz50_0
    try clear hcz50_1
    try clear hcz50_2
    try clear hcz50_3
    try clear hcz50_4
    try clear hcz52_0
    try clear hcz52_1
    try clear hcz52_2
    try clear hcz52_3
    try clear hcz52_4
    try clear hfz10_0
    try clear hfz10_1
    try clear hfz10_2
    try clear hfz21_0
    try clear hfz21_1
    try clear hfz21_2
    try clear hfz23_0
    try clear hfz23_1
    try clear hfz23_2
    try clear hfz32_0
    try clear hfz32_1
    try clear hfz32_2
    try clear hfz32_3
    try clear hfz32_4
    try clear hfz34_0
    try clear hfz34_1
    try clear hfz34_2
    try clear hfz40_0
    try clear hfz40_1
    try clear hfz40_2
    try clear hfz42_0
    try clear hfz42_1
    try clear hfz42_2
    try clear hfz50_0
    try clear hfz50_1
    try clear hfz50_2
    try clear hfz50_3
    try clear hfz50_4
    try clear hfz52_0
    try clear hfz52_1
    try clear hfz52_2
    try clear hfz52_3
    try clear hfz52_4
    obtain ⟨kq, HA, HJ18, HO_12, HO_276000, HO_276003, HO_282000, HO_295000, HO_295003, BK256, BK275, BK281, BK294, HB⟩ := hcut
    cases kq with
    | zero => exact absurd HA.out (by simp [laws_FnExactBufReplace.j0])
    | succ kj18 =>
     have H := HA.out
     clear HA
     simp only [laws_FnExactBufReplace.j0] at H
     replace H := Option.bind_eq_some_iff.mp H
     obtain ⟨⟨t296, t299, t300⟩, A550, H⟩ := H
     replace H : ((laws_eqBuf.f kj18 t276 t279 t280 t296 t299 t300).bind fun t301 => (if t301 = true then (laws_FnExactBufReplace.j1 kj18 a1 a2 l3 t282 l0_0 a0_1 a0_2 t266 t269 t270 t271 t274 t276 t279 t280 t285 t288 t289 t290 t293) else (some false))) = some r := H
     have A55 := Aside0.mk A550
     clear A550
     replace H := Option.bind_eq_some_iff.mp H
     obtain ⟨t301, A560, H⟩ := H
     replace H : (if t301 = true then (laws_FnExactBufReplace.j1 kj18 a1 a2 l3 t282 l0_0 a0_1 a0_2 t266 t269 t270 t271 t274 t276 t279 t280 t285 t288 t289 t290 t293) else (some false)) = some r := H
     have A56 := Aside0.mk A560
     clear A560
     have HC57 := Aside0.mk H
     clear H
     try go_wp2
     replace HO_12 := am (Kd.R_drew HO_12.out)
     replace HO_276000 := am (Kd.R_drew HO_276000.out)
     replace HO_276003 := am (Kd.R_drew HO_276003.out)
     replace HO_282000 := am (Kd.R_drew HO_282000.out)
     replace HO_295000 := am (Kd.R_drew HO_295000.out)
     replace HO_295003 := am (Kd.R_drew HO_295003.out)
     replace BK256 := am (blk_drew BK256.out)
     replace BK275 := am (blk_drew BK275.out)
     replace BK281 := am (blk_drew BK281.out)
     replace BK294 := am (blk_drew BK294.out)
     replace HB := am (below_drew1 HB.out)
     refine start_ (n := 5) (S := fun w' => w'.cell? ⟨gb281, 0, none⟩ = some (.slice Ao37 t276.length co37) ∧ w'.cell? ⟨gb281, 1, none⟩ = some (.int .i64 t279) ∧ w'.cell? ⟨gb281, 2, none⟩ = some (.int .i64 t280) ∧ w'.cell? ⟨gb256, 0, none⟩ = some (.slice A0_0 l0_0.length c0_0) ∧ w'.cell? ⟨gb256, 1, none⟩ = some (.int .i64 a0_1) ∧ w'.cell? ⟨gb256, 2, none⟩ = some (.int .i64 a0_2)) (ds := []) #[false, false, false, false, false] (by kernel_rfl) rfl rfl ⟨bc BK281.out 0, bc BK281.out 1, bc BK281.out 2, bc BK256.out 0, bc BK256.out 1, bc BK256.out 2⟩ (fun hHeld => ?_)
     generalize wc.drew = w58 at HO_12 HO_276000 HO_276003 HO_282000 HO_295000 HO_295003 BK256 BK275 BK281 BK294 HB hHeld ⊢
     refine take_ (i := 0) (N := some 46) (v := ?_) (a' := ?_) #[true, false, false, false, false] rfl rfl (by kernel_rfl) (fun _ _ _ h => h) (Or.inl ⟨by rfl, ?_⟩) hHeld ?_ ?_; rotate_left
     ·rintro w' ⟨s0, s1, s2, s3, s4, s5⟩; go_simp; with_reducible rfl
     rotate_left
     ·simp only [Act.put, sa_, s0_, ss_, i64_w, i32_w]; rfl
     refine take_ (i := 1) (N := some 47) (v := ?_) (a' := ?_) #[true, true, false, false, false] rfl rfl (by kernel_rfl) (fun _ _ _ h => h) (Or.inl ⟨by rfl, ?_⟩) hHeld ?_ ?_; rotate_left
     ·rintro w' ⟨s0, s1, s2, s3, s4, s5⟩; go_simp; with_reducible rfl
     rotate_left
     ·simp only [Act.put, sa_, s0_, ss_, i64_w, i32_w]; rfl
     refine one_ (i := 2) (N := some 48) #[true, true, true, false, false] rfl rfl (by kernel_rfl) (by decide) (fun K hK => ?_)
     refine goes_ Try.func11 (by kernel_rfl) rfl #[.agg #[.slice A0_0 l0_0.length c0_0, .int .i64 a0_1, .int .i64 a0_2]] (by rfl) rfl rfl (by (try simp only [List.map_toArray, List.map_cons, List.map_nil]); first | done | rfl | (simp only [List.length_drop, List.length_take]; rfl)) ?_
     with_reducible refine (laws_toBuf.calls kj18 _ _ l0_0 a0_1 a0_2 t296 t299 t300 _ ?side1 ?side2 A55.out).mono ?_
     (case side1 => repeat (first | exact (Kd.C_below HR0_0.out HB.out) | (with_reducible refine Kd.C_alloc ?_ _) | (with_reducible refine Kd.C_drewN ?_ _) | (with_reducible refine Kd.C_drew ?_)))
     (case side2 => exact HC0_0.out)
     rintro e w59 ⟨v297, rfl, ho0, hb⟩
     refine ⟨_, rfl, ?_⟩
     have HO298 := am (Kd.R_lower (Kd.R_new' (Kd.R_new' (Kd.R_new' (Kd.R_new' (Kd.R_new' (Kd.R_new' ho0 (Kd.R_lt (kr HO_12.out))) (Kd.R_lt (kr HO_276000.out))) (Kd.R_lt (kr HO_276003.out))) (Kd.R_lt (kr HO_282000.out))) (Kd.R_lt (kr HO_295000.out))) (Kd.R_lt (kr HO_295003.out))) (below_size (bl HB.out)))
     replace HO_12 := am (Kd.R_elder' (kr HO_12.out) (Kd.R_base ho0) hb)
     replace HO_276000 := am (Kd.R_elder' (kr HO_276000.out) (Kd.R_base ho0) hb)
     replace HO_276003 := am (Kd.R_elder' (kr HO_276003.out) (Kd.R_base ho0) hb)
     replace HO_282000 := am (Kd.R_elder' (kr HO_282000.out) (Kd.R_base ho0) hb)
     replace HO_295000 := am (Kd.R_elder' (kr HO_295000.out) (Kd.R_base ho0) hb)
     replace HO_295003 := am (Kd.R_elder' (kr HO_295003.out) (Kd.R_base ho0) hb)
     replace BK256 := am (blk_below (pk BK256.out) hb)
     replace BK275 := am (blk_below (pk BK275.out) hb)
     replace BK281 := am (blk_below (pk BK281.out) hb)
     replace BK294 := am (blk_below (pk BK294.out) hb)
     replace HB := am (below_step (bl HB.out) hb)
     (try clear hb)
     (try clear hb2)
     (try clear hk)
     (try clear hi)
     (try clear ho0)
     obtain ⟨Ao60, co60, eo60⟩ := Kd.R_slice HO298.out
     (first | subst eo60 | (injection eo60 with f1_ f2_ f3_; have f4_ := f1_.symm; have f5_ := f3_.symm; clear f1_ f2_ f3_; subst f4_; subst f5_))
     refine hK.out _ _ ⟨bc BK281.out 0, bc BK281.out 1, bc BK281.out 2, bc BK256.out 0, bc BK256.out 1, bc BK256.out 2⟩ (fun hHeld => ?_)
     clear hK K
     refine norm_ (a' := ?_) ?_ ?_
     rotate_left
     ·show Act.put _ (some 48) _ = _
      simp only [Act.put, sa_, s0_, ss_, i64_w, i32_w]
      rfl
     refine one_ (i := 3) (N := some 49) #[true, true, true, true, false] rfl rfl (by kernel_rfl) (by decide) (fun K hK => ?_)
     refine goes_ Try.func15 (by kernel_rfl) rfl #[.agg #[.slice Ao37 t276.length co37, .int .i64 t279, .int .i64 t280], .agg #[.slice Ao60 t296.length co60, .int .i64 t299, .int .i64 t300]] (by rfl) rfl rfl (by (try simp only [List.map_toArray, List.map_cons, List.map_nil]); first | done | rfl | (simp only [List.length_drop, List.length_take]; rfl)) ?_
     with_reducible refine (laws_eqBuf.calls kj18 _ _ t276 t279 t280 _ _ t296 t299 t300 t301 _ ?side1 ?side2 ?side3 ?side4 A56.out).mono ?_
     (case side1 => repeat (first | exact (Kd.R_reads' HO_282000.out).2.2 | (with_reducible refine Kd.C_alloc ?_ _) | (with_reducible refine Kd.C_drewN ?_ _) | (with_reducible refine Kd.C_drew ?_)))
     (case side2 => exact (Kd.R_reads' HO_282000.out).2.1)
     (case side3 => repeat (first | exact (Kd.R_reads' HO298.out).2.2 | (with_reducible refine Kd.C_alloc ?_ _) | (with_reducible refine Kd.C_drewN ?_ _) | (with_reducible refine Kd.C_drew ?_)))
     (case side4 => exact (Kd.R_reads' HO298.out).2.1)
     rintro e w61 ⟨rfl, hb⟩
     refine ⟨_, rfl, ?_⟩
     replace HO_12 := am (Kd.R_below (kr HO_12.out) hb)
     replace HO_276000 := am (Kd.R_below (kr HO_276000.out) hb)
     replace HO_276003 := am (Kd.R_below (kr HO_276003.out) hb)
     replace HO_282000 := am (Kd.R_below (kr HO_282000.out) hb)
     replace HO_295000 := am (Kd.R_below (kr HO_295000.out) hb)
     replace HO_295003 := am (Kd.R_below (kr HO_295003.out) hb)
     replace HO298 := am (Kd.R_below (kr HO298.out) hb)
     replace BK256 := am (blk_below (pk BK256.out) hb)
     replace BK275 := am (blk_below (pk BK275.out) hb)
     replace BK281 := am (blk_below (pk BK281.out) hb)
     replace BK294 := am (blk_below (pk BK294.out) hb)
     replace HB := am (below_step (bl HB.out) hb)
     (try clear hb)
     (try clear hb2)
     (try clear hk)
     (try clear hi)
     refine hK.out _ _ ⟨bc BK281.out 0, bc BK281.out 1, bc BK281.out 2, bc BK256.out 0, bc BK256.out 1, bc BK256.out 2⟩ (fun hHeld => ?_)
     clear hK K
     refine norm_ (a' := ?_) ?_ ?_
     rotate_left
     ·show Act.put _ (some 49) _ = _
      simp only [Act.put, sa_, s0_, ss_, i64_w, i32_w]
      rfl
     refine pure_ (i := 4) (N := some 50) (v := ?_) (a' := ?_) #[true, true, true, true, true] rfl rfl (by kernel_rfl) (fun _ _ _ h => h) (Or.inl ⟨by rfl, ?_⟩) ?_ ?_; rotate_left
     ·intro w'; go_simp; with_reducible rfl
     rotate_left
     ·simp only [Act.put, sa_, s0_, ss_, i64_w, i32_w]; rfl
     refine done_ (by kernel_rfl) ?_
     go_upto_if 50 with (fail)
     go_cut [] (fun wc => ∃ (kq : Nat), Aside0 (laws_FnExactBufReplace.j1 kq a1 a2 l3 t282 l0_0 a0_1 a0_2 t266 t269 t270 t271 t274 t276 t279 t280 t285 t288 t289 t290 t293 = some r) ∧ Aside0 (kq ≤ kj18) ∧ Aside0 (Kd.R (Kd.int .i64) 2 wc w.heap.size (fun k_ => some k_ ≠ ((.slice Ao30 t266.length co30) : Value).ownBlock ∧ some k_ ≠ ((.slice Ao33 t271.length co33) : Value).ownBlock ∧ some k_ ≠ ((.slice Ao37 t276.length co37) : Value).ownBlock ∧ some k_ ≠ ((.slice Ao46 t285.length co46) : Value).ownBlock ∧ some k_ ≠ ((.slice Ao51 t290.length co51) : Value).ownBlock) (.slice Ao43 t282.length co43) t282) ∧ Aside0 (Kd.R (Kd.int .i64) 2 wc w.heap.size (fun k_ => some k_ ≠ ((.slice Ao43 t282.length co43) : Value).ownBlock ∧ some k_ ≠ ((.slice Ao33 t271.length co33) : Value).ownBlock ∧ some k_ ≠ ((.slice Ao37 t276.length co37) : Value).ownBlock ∧ some k_ ≠ ((.slice Ao46 t285.length co46) : Value).ownBlock ∧ some k_ ≠ ((.slice Ao51 t290.length co51) : Value).ownBlock) (.slice Ao30 t266.length co30) t266) ∧ Aside0 (Kd.R (Kd.int .i64) 2 wc w.heap.size (fun k_ => some k_ ≠ ((.slice Ao43 t282.length co43) : Value).ownBlock ∧ some k_ ≠ ((.slice Ao30 t266.length co30) : Value).ownBlock ∧ some k_ ≠ ((.slice Ao37 t276.length co37) : Value).ownBlock ∧ some k_ ≠ ((.slice Ao46 t285.length co46) : Value).ownBlock ∧ some k_ ≠ ((.slice Ao51 t290.length co51) : Value).ownBlock) (.slice Ao33 t271.length co33) t271) ∧ Aside0 (Kd.R (Kd.int .i64) 2 wc w.heap.size (fun k_ => some k_ ≠ ((.slice Ao43 t282.length co43) : Value).ownBlock ∧ some k_ ≠ ((.slice Ao30 t266.length co30) : Value).ownBlock ∧ some k_ ≠ ((.slice Ao33 t271.length co33) : Value).ownBlock ∧ some k_ ≠ ((.slice Ao46 t285.length co46) : Value).ownBlock ∧ some k_ ≠ ((.slice Ao51 t290.length co51) : Value).ownBlock) (.slice Ao37 t276.length co37) t276) ∧ Aside0 (Kd.R (Kd.int .i64) 2 wc w.heap.size (fun k_ => some k_ ≠ ((.slice Ao43 t282.length co43) : Value).ownBlock ∧ some k_ ≠ ((.slice Ao30 t266.length co30) : Value).ownBlock ∧ some k_ ≠ ((.slice Ao33 t271.length co33) : Value).ownBlock ∧ some k_ ≠ ((.slice Ao37 t276.length co37) : Value).ownBlock ∧ some k_ ≠ ((.slice Ao51 t290.length co51) : Value).ownBlock) (.slice Ao46 t285.length co46) t285) ∧ Aside0 (Kd.R (Kd.int .i64) 2 wc w.heap.size (fun k_ => some k_ ≠ ((.slice Ao43 t282.length co43) : Value).ownBlock ∧ some k_ ≠ ((.slice Ao30 t266.length co30) : Value).ownBlock ∧ some k_ ≠ ((.slice Ao33 t271.length co33) : Value).ownBlock ∧ some k_ ≠ ((.slice Ao37 t276.length co37) : Value).ownBlock ∧ some k_ ≠ ((.slice Ao46 t285.length co46) : Value).ownBlock) (.slice Ao51 t290.length co51) t290) ∧ Aside0 (wc.heap[gb256]? = some (.cells #[(.slice A0_0 l0_0.length c0_0), .int .i64 a0_1, .int .i64 a0_2] 24 (0, 0))) ∧ Aside0 (wc.heap[gb275]? = some (.cells #[(.slice Ao30 t266.length co30), .int .i64 t269, .int .i64 t270, (.slice Ao33 t271.length co33), .int .i64 t274] 28 (0, 0))) ∧ Aside0 (wc.heap[gb281]? = some (.cells #[(.slice Ao37 t276.length co37), .int .i64 t279, .int .i64 t280] 26 (0, 0))) ∧ Aside0 (wc.heap[gb294]? = some (.cells #[(.slice Ao46 t285.length co46), .int .i64 t288, .int .i64 t289, (.slice Ao51 t290.length co51), .int .i64 t293] 28 (0, 0))) ∧ Aside0 (Below w.heap.size w wc))
     case first =>
      have H := HC57.out
      clear HC57
      by_cases c62 : t301 = true
      ·subst c62
       have H1 : (laws_FnExactBufReplace.j1 kj18 a1 a2 l3 t282 l0_0 a0_1 a0_2 t266 t269 t270 t271 t274 t276 t279 t280 t285 t288 t289 t290 t293) = some r := by rw [if_pos rfl] at H; exact H
       clear H
       have H := H1
       clear H1
       have H' := Aside0.mk H
       clear H
       go_wp2
       go_meet
       case rel => exact ⟨_, H', ⟨by have := HJ18.out; first | omega | exact Nat.le_refl _⟩, ⟨kr (Kd.R_mono HO_12.out (fun _ hk => ⟨hk.1.1, ⟨hk.1.2.1, ⟨hk.1.2.2.1, ⟨hk.1.2.2.2.1, hk.1.2.2.2.2⟩⟩⟩⟩))⟩, ⟨kr (Kd.R_mono HO_276000.out (fun _ hk => ⟨hk.1.1, ⟨hk.1.2.1, ⟨hk.1.2.2.1, ⟨hk.1.2.2.2.1, hk.1.2.2.2.2⟩⟩⟩⟩))⟩, ⟨kr (Kd.R_mono HO_276003.out (fun _ hk => ⟨hk.1.1, ⟨hk.1.2.1, ⟨hk.1.2.2.1, ⟨hk.1.2.2.2.1, hk.1.2.2.2.2⟩⟩⟩⟩))⟩, ⟨kr (Kd.R_mono HO_282000.out (fun _ hk => ⟨hk.1.1, ⟨hk.1.2.1, ⟨hk.1.2.2.1, ⟨hk.1.2.2.2.1, hk.1.2.2.2.2⟩⟩⟩⟩))⟩, ⟨kr (Kd.R_mono HO_295000.out (fun _ hk => ⟨hk.1.1, ⟨hk.1.2.1, ⟨hk.1.2.2.1, ⟨hk.1.2.2.2.1, hk.1.2.2.2.2⟩⟩⟩⟩))⟩, ⟨kr (Kd.R_mono HO_295003.out (fun _ hk => ⟨hk.1.1, ⟨hk.1.2.1, ⟨hk.1.2.2.1, ⟨hk.1.2.2.2.1, hk.1.2.2.2.2⟩⟩⟩⟩))⟩, ⟨pk BK256.out⟩, ⟨pk BK275.out⟩, ⟨pk BK281.out⟩, ⟨pk BK294.out⟩, ⟨by repeat (first | (with_reducible first | exact HB.out | apply below_alloc | apply pw_below_drewN | apply below_drew1 | refine below_set ?_ GE256.out | refine below_set ?_ GE275.out | refine below_set ?_ GE281.out | refine below_set ?_ GE294.out) | exact HB.out)⟩⟩
      ·replace c62 := Bool.eq_false_iff.mpr c62
       subst c62
       have H1 : (some false) = some r := by rw [if_neg (show ¬ (false = true) by decide)] at H; exact H
       clear H
       have H := H1
       clear H1
       obtain rfl := Option.some.inj H
       go_wp2
       go_ret
       exact ⟨by first | rfl | (simp [errW_none, errW_some] <;> rfl) | (simp [*, errW_none, errW_some] <;> rfl), by repeat (first | (with_reducible first | exact HB.out | apply below_alloc | apply pw_below_drewN | apply below_drew1 | refine below_set ?_ GE256.out | refine below_set ?_ GE275.out | refine below_set ?_ GE281.out | refine below_set ?_ GE294.out) | exact HB.out)⟩
     case rest =>
      clear HC57
      try clear c1
      try clear p2
      try clear c3
      try clear c4
      try clear c5
      try clear c5b0
      try clear c5b1
      try clear c6
      try clear c8
      try clear c8b0
      try clear c9
      try clear c10
      try clear c11
      try clear c12
      try clear c13
      try clear c14
      try clear c15
      try clear c31
      try clear c38
      try clear c39
      try clear c47
      try clear c48
      try clear c49
      try clear c54
      try clear c62
      try clear hcz10_0
      try clear hcz10_1
      try clear hcz10_2
      try clear hcz21_0
      try clear hcz21_1
      try clear hcz21_2
      try clear hcz23_0
      try clear hcz23_1
      try clear hcz23_2
      try clear hcz32_0
      try clear hcz32_1
      try clear hcz32_2
      try clear hcz32_3
      try clear hcz32_4
      try clear hcz34_0
      try clear hcz34_1
      try clear hcz34_2
      try clear hcz40_0
      try clear hcz40_1
      try clear hcz40_2
      try clear hcz42_0
      try clear hcz42_1
      try clear hcz42_2
      try clear hcz50_0
      try clear hcz50_1
      try clear hcz50_2
      try clear hcz50_3
      try clear hcz50_4
      try clear hcz52_0
      try clear hcz52_1
      try clear hcz52_2
      try clear hcz52_3
      try clear hcz52_4
      try clear hfz10_0
      try clear hfz10_1
      try clear hfz10_2
      try clear hfz21_0
      try clear hfz21_1
      try clear hfz21_2
      try clear hfz23_0
      try clear hfz23_1
      try clear hfz23_2
      try clear hfz32_0
      try clear hfz32_1
      try clear hfz32_2
      try clear hfz32_3
      try clear hfz32_4
      try clear hfz34_0
      try clear hfz34_1
      try clear hfz34_2
      try clear hfz40_0
      try clear hfz40_1
      try clear hfz40_2
      try clear hfz42_0
      try clear hfz42_1
      try clear hfz42_2
      try clear hfz50_0
      try clear hfz50_1
      try clear hfz50_2
      try clear hfz50_3
      try clear hfz50_4
      try clear hfz52_0
      try clear hfz52_1
      try clear hfz52_2
      try clear hfz52_3
      try clear hfz52_4
      try clear p2
      obtain ⟨kq, HA, HJ56, HO_12, HO_276000, HO_276003, HO_282000, HO_295000, HO_295003, BK256, BK275, BK281, BK294, HB⟩ := hcut
      cases kq with
      | zero => exact absurd HA.out (by simp [laws_FnExactBufReplace.j1])
      | succ kj56 =>
       have H := HA.out
       clear HA
       simp only [laws_FnExactBufReplace.j1] at H
       replace H := Option.bind_eq_some_iff.mp H
       obtain ⟨t302, A630, H⟩ := H
       replace H : ((laws_eqInt64S.f kj56 t282 t302).bind fun t305 => (if t305 = true then (laws_FnExactBufReplace.j2 kj56 a1 a2 l3 t282 l0_0 a0_1 a0_2 t266 t269 t270 t271 t274 t276 t279 t280 t285 t288 t289 t290 t293) else (some false))) = some r := H
       have A63 := Aside0.mk A630
       clear A630
       replace H := Option.bind_eq_some_iff.mp H
       obtain ⟨t305, A640, H⟩ := H
       replace H : (if t305 = true then (laws_FnExactBufReplace.j2 kj56 a1 a2 l3 t282 l0_0 a0_1 a0_2 t266 t269 t270 t271 t274 t276 t279 t280 t285 t288 t289 t290 t293) else (some false)) = some r := H
       have A64 := Aside0.mk A640
       clear A640
       have HC65 := Aside0.mk H
       clear H
       go_upto_if 55 with (first | ((with_reducible refine gate_callee (f := 12) rfl ?_); refine gl (some 53) Try.func12 #[.slice A3 l3.length c3] ?_; (with_reducible refine (laws_toInt64S.calls kj56 _ _ l3 t302 _ ?side1 ?side2 A63.out).mono ?_); (case side1 => repeat (first | exact (Kd.C_below HR3.out HB.out) | (with_reducible refine Kd.C_alloc ?_ _) | (with_reducible refine Kd.C_drewN ?_ _) | (with_reducible refine Kd.C_drew ?_))); (case side2 => exact HC3.out); rintro e w66 ⟨v303, rfl, ho0, hb⟩; refine ⟨_, rfl, ?_⟩; have HO304 := am (Kd.R_lower (Kd.R_new' (Kd.R_new' (Kd.R_new' (Kd.R_new' (Kd.R_new' (Kd.R_new' ho0 (Kd.R_lt (kr HO_12.out))) (Kd.R_lt (kr HO_276000.out))) (Kd.R_lt (kr HO_276003.out))) (Kd.R_lt (kr HO_282000.out))) (Kd.R_lt (kr HO_295000.out))) (Kd.R_lt (kr HO_295003.out))) (below_size (bl HB.out))); replace HO_12 := am (Kd.R_elder' (kr HO_12.out) (Kd.R_base ho0) hb); replace HO_276000 := am (Kd.R_elder' (kr HO_276000.out) (Kd.R_base ho0) hb); replace HO_276003 := am (Kd.R_elder' (kr HO_276003.out) (Kd.R_base ho0) hb); replace HO_282000 := am (Kd.R_elder' (kr HO_282000.out) (Kd.R_base ho0) hb); replace HO_295000 := am (Kd.R_elder' (kr HO_295000.out) (Kd.R_base ho0) hb); replace HO_295003 := am (Kd.R_elder' (kr HO_295003.out) (Kd.R_base ho0) hb); replace BK256 := am (blk_below (pk BK256.out) hb); replace BK275 := am (blk_below (pk BK275.out) hb); replace BK281 := am (blk_below (pk BK281.out) hb); replace BK294 := am (blk_below (pk BK294.out) hb); replace HB := am (below_step (bl HB.out) hb); (try clear hb); (try clear hb2); (try clear hk); (try clear hi); (try clear ho0); obtain ⟨Ao67, co67, eo67⟩ := Kd.R_slice HO304.out; subst eo67) | ((with_reducible refine gate_callee (f := 16) rfl ?_); refine gl (some 54) Try.func16 #[.slice Ao43 t282.length co43, .slice Ao67 t302.length co67] ?_; (with_reducible refine (laws_eqInt64S.calls kj56 _ _ t282 _ _ t302 t305 _ ?side1 ?side2 ?side3 ?side4 A64.out).mono ?_); (case side1 => repeat (first | exact (Kd.R_reads' HO_12.out).2.2 | (with_reducible refine Kd.C_alloc ?_ _) | (with_reducible refine Kd.C_drewN ?_ _) | (with_reducible refine Kd.C_drew ?_))); (case side2 => exact (Kd.R_reads' HO_12.out).2.1); (case side3 => repeat (first | exact (Kd.R_reads' HO304.out).2.2 | (with_reducible refine Kd.C_alloc ?_ _) | (with_reducible refine Kd.C_drewN ?_ _) | (with_reducible refine Kd.C_drew ?_))); (case side4 => exact (Kd.R_reads' HO304.out).2.1); rintro e w' ⟨rfl, ⟨nd, rfl⟩⟩; refine ⟨_, rfl, ?_⟩))
       (try simp only [Act.put, sa_, s0_, ss_])
       go_cut [] (fun wc => ∃ (kq : Nat), Aside0 (laws_FnExactBufReplace.j2 kq a1 a2 l3 t282 l0_0 a0_1 a0_2 t266 t269 t270 t271 t274 t276 t279 t280 t285 t288 t289 t290 t293 = some r) ∧ Aside0 (kq ≤ kj56) ∧ Aside0 (Kd.R (Kd.int .i64) 2 wc w.heap.size (fun k_ => some k_ ≠ ((.slice Ao30 t266.length co30) : Value).ownBlock ∧ some k_ ≠ ((.slice Ao33 t271.length co33) : Value).ownBlock ∧ some k_ ≠ ((.slice Ao37 t276.length co37) : Value).ownBlock ∧ some k_ ≠ ((.slice Ao46 t285.length co46) : Value).ownBlock ∧ some k_ ≠ ((.slice Ao51 t290.length co51) : Value).ownBlock) (.slice Ao43 t282.length co43) t282) ∧ Aside0 (Kd.R (Kd.int .i64) 2 wc w.heap.size (fun k_ => some k_ ≠ ((.slice Ao43 t282.length co43) : Value).ownBlock ∧ some k_ ≠ ((.slice Ao33 t271.length co33) : Value).ownBlock ∧ some k_ ≠ ((.slice Ao37 t276.length co37) : Value).ownBlock ∧ some k_ ≠ ((.slice Ao46 t285.length co46) : Value).ownBlock ∧ some k_ ≠ ((.slice Ao51 t290.length co51) : Value).ownBlock) (.slice Ao30 t266.length co30) t266) ∧ Aside0 (Kd.R (Kd.int .i64) 2 wc w.heap.size (fun k_ => some k_ ≠ ((.slice Ao43 t282.length co43) : Value).ownBlock ∧ some k_ ≠ ((.slice Ao30 t266.length co30) : Value).ownBlock ∧ some k_ ≠ ((.slice Ao37 t276.length co37) : Value).ownBlock ∧ some k_ ≠ ((.slice Ao46 t285.length co46) : Value).ownBlock ∧ some k_ ≠ ((.slice Ao51 t290.length co51) : Value).ownBlock) (.slice Ao33 t271.length co33) t271) ∧ Aside0 (Kd.R (Kd.int .i64) 2 wc w.heap.size (fun k_ => some k_ ≠ ((.slice Ao43 t282.length co43) : Value).ownBlock ∧ some k_ ≠ ((.slice Ao30 t266.length co30) : Value).ownBlock ∧ some k_ ≠ ((.slice Ao33 t271.length co33) : Value).ownBlock ∧ some k_ ≠ ((.slice Ao46 t285.length co46) : Value).ownBlock ∧ some k_ ≠ ((.slice Ao51 t290.length co51) : Value).ownBlock) (.slice Ao37 t276.length co37) t276) ∧ Aside0 (Kd.R (Kd.int .i64) 2 wc w.heap.size (fun k_ => some k_ ≠ ((.slice Ao43 t282.length co43) : Value).ownBlock ∧ some k_ ≠ ((.slice Ao30 t266.length co30) : Value).ownBlock ∧ some k_ ≠ ((.slice Ao33 t271.length co33) : Value).ownBlock ∧ some k_ ≠ ((.slice Ao37 t276.length co37) : Value).ownBlock ∧ some k_ ≠ ((.slice Ao51 t290.length co51) : Value).ownBlock) (.slice Ao46 t285.length co46) t285) ∧ Aside0 (Kd.R (Kd.int .i64) 2 wc w.heap.size (fun k_ => some k_ ≠ ((.slice Ao43 t282.length co43) : Value).ownBlock ∧ some k_ ≠ ((.slice Ao30 t266.length co30) : Value).ownBlock ∧ some k_ ≠ ((.slice Ao33 t271.length co33) : Value).ownBlock ∧ some k_ ≠ ((.slice Ao37 t276.length co37) : Value).ownBlock ∧ some k_ ≠ ((.slice Ao46 t285.length co46) : Value).ownBlock) (.slice Ao51 t290.length co51) t290) ∧ Aside0 (wc.heap[gb256]? = some (.cells #[(.slice A0_0 l0_0.length c0_0), .int .i64 a0_1, .int .i64 a0_2] 24 (0, 0))) ∧ Aside0 (wc.heap[gb275]? = some (.cells #[(.slice Ao30 t266.length co30), .int .i64 t269, .int .i64 t270, (.slice Ao33 t271.length co33), .int .i64 t274] 28 (0, 0))) ∧ Aside0 (wc.heap[gb281]? = some (.cells #[(.slice Ao37 t276.length co37), .int .i64 t279, .int .i64 t280] 26 (0, 0))) ∧ Aside0 (wc.heap[gb294]? = some (.cells #[(.slice Ao46 t285.length co46), .int .i64 t288, .int .i64 t289, (.slice Ao51 t290.length co51), .int .i64 t293] 28 (0, 0))) ∧ Aside0 (Below w.heap.size w wc))
       case first =>
        have H := HC65.out
        clear HC65
        by_cases c68 : t305 = true
        ·subst c68
         have H1 : (laws_FnExactBufReplace.j2 kj56 a1 a2 l3 t282 l0_0 a0_1 a0_2 t266 t269 t270 t271 t274 t276 t279 t280 t285 t288 t289 t290 t293) = some r := by rw [if_pos rfl] at H; exact H
         clear H
         have H := H1
         clear H1
         have H' := Aside0.mk H
         clear H
         go_wp2
         go_meet
         case rel => exact ⟨_, H', ⟨by have := HJ18.out; have := HJ56.out; first | omega | exact Nat.le_refl _⟩, ⟨kr (Kd.R_mono HO_12.out (fun _ hk => ⟨hk.1.1, ⟨hk.1.2.1, ⟨hk.1.2.2.1, ⟨hk.1.2.2.2.1, hk.1.2.2.2.2⟩⟩⟩⟩))⟩, ⟨kr (Kd.R_mono HO_276000.out (fun _ hk => ⟨hk.1.1, ⟨hk.1.2.1, ⟨hk.1.2.2.1, ⟨hk.1.2.2.2.1, hk.1.2.2.2.2⟩⟩⟩⟩))⟩, ⟨kr (Kd.R_mono HO_276003.out (fun _ hk => ⟨hk.1.1, ⟨hk.1.2.1, ⟨hk.1.2.2.1, ⟨hk.1.2.2.2.1, hk.1.2.2.2.2⟩⟩⟩⟩))⟩, ⟨kr (Kd.R_mono HO_282000.out (fun _ hk => ⟨hk.1.1, ⟨hk.1.2.1, ⟨hk.1.2.2.1, ⟨hk.1.2.2.2.1, hk.1.2.2.2.2⟩⟩⟩⟩))⟩, ⟨kr (Kd.R_mono HO_295000.out (fun _ hk => ⟨hk.1.1, ⟨hk.1.2.1, ⟨hk.1.2.2.1, ⟨hk.1.2.2.2.1, hk.1.2.2.2.2⟩⟩⟩⟩))⟩, ⟨kr (Kd.R_mono HO_295003.out (fun _ hk => ⟨hk.1.1, ⟨hk.1.2.1, ⟨hk.1.2.2.1, ⟨hk.1.2.2.2.1, hk.1.2.2.2.2⟩⟩⟩⟩))⟩, ⟨pk BK256.out⟩, ⟨pk BK275.out⟩, ⟨pk BK281.out⟩, ⟨pk BK294.out⟩, ⟨by repeat (first | (with_reducible first | exact HB.out | apply below_alloc | apply pw_below_drewN | apply below_drew1 | refine below_set ?_ GE256.out | refine below_set ?_ GE275.out | refine below_set ?_ GE281.out | refine below_set ?_ GE294.out) | exact HB.out)⟩⟩
        ·replace c68 := Bool.eq_false_iff.mpr c68
         subst c68
         have H1 : (some false) = some r := by rw [if_neg (show ¬ (false = true) by decide)] at H; exact H
         clear H
         have H := H1
         clear H1
         obtain rfl := Option.some.inj H
         go_wp2
         go_ret
         exact ⟨by first | rfl | (simp [errW_none, errW_some] <;> rfl) | (simp [*, errW_none, errW_some] <;> rfl), by repeat (first | (with_reducible first | exact HB.out | apply below_alloc | apply pw_below_drewN | apply below_drew1 | refine below_set ?_ GE256.out | refine below_set ?_ GE275.out | refine below_set ?_ GE281.out | refine below_set ?_ GE294.out) | exact HB.out)⟩
       case rest =>
        clear HC65
        try clear c1
        try clear p2
        try clear c3
        try clear c4
        try clear c5
        try clear c5b0
        try clear c5b1
        try clear c6
        try clear c8
        try clear c8b0
        try clear c9
        try clear c10
        try clear c11
        try clear c12
        try clear c13
        try clear c14
        try clear c15
        try clear c16
        try clear c31
        try clear c38
        try clear c39
        try clear c47
        try clear c48
        try clear c49
        try clear c54
        try clear c62
        try clear c68
        try clear hcz10_0
        try clear hcz10_1
        try clear hcz10_2
        try clear hcz21_0
        try clear hcz21_1
        try clear hcz21_2
        try clear hcz23_0
        try clear hcz23_1
        try clear hcz23_2
        try clear hcz32_0
        try clear hcz32_1
        try clear hcz32_2
        try clear hcz32_3
        try clear hcz32_4
        try clear hcz34_0
        try clear hcz34_1
        try clear hcz34_2
        try clear hcz40_0
        try clear hcz40_1
        try clear hcz40_2
        try clear hcz42_0
        try clear hcz42_1
        try clear hcz42_2
        try clear hcz50_0
        try clear hcz50_1
        try clear hcz50_2
        try clear hcz50_3
        try clear hcz50_4
        try clear hcz52_0
        try clear hcz52_1
        try clear hcz52_2
        try clear hcz52_3
        try clear hcz52_4
        try clear hfz10_0
        try clear hfz10_1
        try clear hfz10_2
        try clear hfz21_0
        try clear hfz21_1
        try clear hfz21_2
        try clear hfz23_0
        try clear hfz23_1
        try clear hfz23_2
        try clear hfz32_0
        try clear hfz32_1
        try clear hfz32_2
        try clear hfz32_3
        try clear hfz32_4
        try clear hfz34_0
        try clear hfz34_1
        try clear hfz34_2
        try clear hfz40_0
        try clear hfz40_1
        try clear hfz40_2
        try clear hfz42_0
        try clear hfz42_1
        try clear hfz42_2
        try clear hfz50_0
        try clear hfz50_1
        try clear hfz50_2
        try clear hfz50_3
        try clear hfz50_4
        try clear hfz52_0
        try clear hfz52_1
        try clear hfz52_2
        try clear hfz52_3
        try clear hfz52_4
        try clear p2
        obtain ⟨kq, HA, HJ64, HO_12, HO_276000, HO_276003, HO_282000, HO_295000, HO_295003, BK256, BK275, BK281, BK294, HB⟩ := hcut
        cases kq with
        | zero => exact absurd HA.out (by simp [laws_FnExactBufReplace.j2])
        | succ kj64 =>
         have H := HA.out
         clear HA
         simp only [laws_FnExactBufReplace.j2] at H
         replace H := Option.bind_eq_some_iff.mp H
         obtain ⟨⟨t306, t307⟩, A690, H⟩ := H
         replace H : ((laws_markInt64S.f kj64 t282 t306).bind fun bt308 => (if bt308.1 < 0 then (laws_FnExactBufReplace.j3 kj64 a1 a2 l3 true l0_0 a0_1 a0_2 t266 t269 t270 t271 t274 t285 t288 t289 t290 t293) else ((laws_eqBufOut.f kj64 t285 t288 t289 t290 t293 t266 t269 t270 t271 t274).bind fun t310 => (laws_FnExactBufReplace.j3 kj64 a1 a2 l3 (!t310) l0_0 a0_1 a0_2 t266 t269 t270 t271 t274 t285 t288 t289 t290 t293)))) = some r := H
         have A69 := Aside0.mk A690
         clear A690
         replace H := Option.bind_eq_some_iff.mp H
         obtain ⟨⟨t308, t309⟩, A700, H⟩ := H
         replace H : (if t308 < 0 then (laws_FnExactBufReplace.j3 kj64 a1 a2 l3 true l0_0 a0_1 a0_2 t266 t269 t270 t271 t274 t285 t288 t289 t290 t293) else ((laws_eqBufOut.f kj64 t285 t288 t289 t290 t293 t266 t269 t270 t271 t274).bind fun t310 => (laws_FnExactBufReplace.j3 kj64 a1 a2 l3 (!t310) l0_0 a0_1 a0_2 t266 t269 t270 t271 t274 t285 t288 t289 t290 t293))) = some r := H
         have A70 := Aside0.mk A700
         clear A700
         have HC71 := Aside0.mk H
         clear H
         have hnb72 := NB281_256.out
         have hnc72 := NB256_281.out
         have hnb73 := NB281_275.out
         have hnc73 := NB275_281.out
         have hnb74 := NB281_294.out
         have hnc74 := NB294_281.out
         have hcz75_0 : wc.cell? ⟨gb281, 0, none⟩ = some (.slice Ao37 t276.length co37) := bc BK281.out 0
         have hcz75_1 : wc.cell? ⟨gb281, 1, none⟩ = some (.int .i64 t279) := bc BK281.out 1
         have hcz75_2 : wc.cell? ⟨gb281, 2, none⟩ = some (.int .i64 t280) := bc BK281.out 2
         have hfz75_0 := blk_frozen BK281.out 0
         have hfz75_1 := blk_frozen BK281.out 1
         have hfz75_2 := blk_frozen BK281.out 2
         go_upto_region 20 with (first | ((with_reducible refine gate_callee (f := 17) rfl ?_); refine gl (some 58) Try.func17 #[.agg #[.slice Ao37 t276.length co37, .int .i64 t279, .int .i64 t280], .int .i64 1] ?_; (with_reducible refine (laws_markBuf.calls kj64 (fun k_ => some k_ = (.slice Ao37 t276.length co37 : Value).ownBlock) (.slice Ao37 t276.length co37) t276 t279 t280 1 t306 t307 w _ ?side1 ?side2 A69.out).mono ?_); (case side1 => repeat (first | (with_reducible first | exact HB.out | apply below_alloc | apply pw_below_drewN | apply below_drew1 | refine below_set ?_ GE256.out | refine below_set ?_ GE275.out | refine below_set ?_ GE281.out | refine below_set ?_ GE294.out) | exact HB.out)); (case side2 => exact Kd.R_tight rfl HO_282000.out); rintro e w76 ⟨rfl, hy0, hb, hkp⟩; refine ⟨_, rfl, ?_⟩; replace HO_12 := am (Kd.R_mono (ok' := fun k_ => some k_ ≠ (.slice Ao30 t266.length co30 : Value).ownBlock ∧ some k_ ≠ (.slice Ao33 t271.length co33 : Value).ownBlock ∧ some k_ ≠ (.slice Ao37 t276.length co37 : Value).ownBlock ∧ some k_ ≠ (.slice Ao46 t285.length co46 : Value).ownBlock ∧ some k_ ≠ (.slice Ao51 t290.length co51 : Value).ownBlock) (Kd.R_keptB (HO_12.out) hkp (fun k_ hk_ hs_ => (hk_.2.2.1) hs_)) (fun k_ hk_ => ⟨hk_.1.1, hk_.1.2.1, hk_.1.2.2.1, hk_.1.2.2.2.1, hk_.1.2.2.2.2⟩)); replace HO_276000 := am (Kd.R_mono (ok' := fun k_ => some k_ ≠ (.slice Ao43 t282.length co43 : Value).ownBlock ∧ some k_ ≠ (.slice Ao33 t271.length co33 : Value).ownBlock ∧ some k_ ≠ (.slice Ao37 t276.length co37 : Value).ownBlock ∧ some k_ ≠ (.slice Ao46 t285.length co46 : Value).ownBlock ∧ some k_ ≠ (.slice Ao51 t290.length co51 : Value).ownBlock) (Kd.R_keptB (HO_276000.out) hkp (fun k_ hk_ hs_ => (hk_.2.2.1) hs_)) (fun k_ hk_ => ⟨hk_.1.1, hk_.1.2.1, hk_.1.2.2.1, hk_.1.2.2.2.1, hk_.1.2.2.2.2⟩)); replace HO_276003 := am (Kd.R_mono (ok' := fun k_ => some k_ ≠ (.slice Ao43 t282.length co43 : Value).ownBlock ∧ some k_ ≠ (.slice Ao30 t266.length co30 : Value).ownBlock ∧ some k_ ≠ (.slice Ao37 t276.length co37 : Value).ownBlock ∧ some k_ ≠ (.slice Ao46 t285.length co46 : Value).ownBlock ∧ some k_ ≠ (.slice Ao51 t290.length co51 : Value).ownBlock) (Kd.R_keptB (HO_276003.out) hkp (fun k_ hk_ hs_ => (hk_.2.2.1) hs_)) (fun k_ hk_ => ⟨hk_.1.1, hk_.1.2.1, hk_.1.2.2.1, hk_.1.2.2.2.1, hk_.1.2.2.2.2⟩)); replace HO_295000 := am (Kd.R_mono (ok' := fun k_ => some k_ ≠ (.slice Ao43 t282.length co43 : Value).ownBlock ∧ some k_ ≠ (.slice Ao30 t266.length co30 : Value).ownBlock ∧ some k_ ≠ (.slice Ao33 t271.length co33 : Value).ownBlock ∧ some k_ ≠ (.slice Ao37 t276.length co37 : Value).ownBlock ∧ some k_ ≠ (.slice Ao51 t290.length co51 : Value).ownBlock) (Kd.R_keptB (HO_295000.out) hkp (fun k_ hk_ hs_ => (hk_.2.2.2.1) hs_)) (fun k_ hk_ => ⟨hk_.1.1, hk_.1.2.1, hk_.1.2.2.1, hk_.1.2.2.2.1, hk_.1.2.2.2.2⟩)); replace HO_295003 := am (Kd.R_mono (ok' := fun k_ => some k_ ≠ (.slice Ao43 t282.length co43 : Value).ownBlock ∧ some k_ ≠ (.slice Ao30 t266.length co30 : Value).ownBlock ∧ some k_ ≠ (.slice Ao33 t271.length co33 : Value).ownBlock ∧ some k_ ≠ (.slice Ao37 t276.length co37 : Value).ownBlock ∧ some k_ ≠ (.slice Ao46 t285.length co46 : Value).ownBlock) (Kd.R_keptB (HO_295003.out) hkp (fun k_ hk_ hs_ => (hk_.2.2.2.1) hs_)) (fun k_ hk_ => ⟨hk_.1.1, hk_.1.2.1, hk_.1.2.2.1, hk_.1.2.2.2.1, hk_.1.2.2.2.2⟩)); replace BK256 := am (blk_kept (pk BK256.out) hkp (fun hs_ => (fun e_ => (Kd.R_ne HO_282000.out BK256.out (by decide)) e_) hs_)); replace BK275 := am (blk_kept (pk BK275.out) hkp (fun hs_ => (fun e_ => (Kd.R_ne HO_282000.out BK275.out (by decide)) e_) hs_)); replace BK281 := am (blk_kept (pk BK281.out) hkp (fun hs_ => (fun e_ => (Kd.R_ne HO_282000.out BK281.out (by decide)) e_) hs_)); replace BK294 := am (blk_kept (pk BK294.out) hkp (fun hs_ => (fun e_ => (Kd.R_ne HO_282000.out BK294.out (by decide)) e_) hs_)); replace HO_282000 := am (Kd.R_reok rfl hy0 (fun k_ e_ => HO_282000.out.1 k_ e_)); replace HB := am (hb); (try clear hb); (try clear hkp); (try clear hy0)) | ((with_reducible refine gate_callee (f := 18) rfl ?_); refine gl (some 61) Try.func18 #[.slice Ao43 t282.length co43, .int .i64 t306] ?_; (with_reducible refine (laws_markInt64S.calls kj64 (fun k_ => some k_ = (.slice Ao43 t282.length co43 : Value).ownBlock) (.slice Ao43 t282.length co43) t282 t306 t308 t309 w _ ?side1 ?side2 A70.out).mono ?_); (case side1 => repeat (first | (with_reducible first | exact HB.out | apply below_alloc | apply pw_below_drewN | apply below_drew1 | refine below_set ?_ GE256.out | refine below_set ?_ GE275.out | refine below_set ?_ GE281.out | refine below_set ?_ GE294.out) | exact HB.out)); (case side2 => exact Kd.R_tight rfl HO_12.out); rintro e w77 ⟨rfl, hy0, hb, hkp⟩; refine ⟨_, rfl, ?_⟩; replace HO_276000 := am (Kd.R_mono (ok' := fun k_ => some k_ ≠ (.slice Ao43 t282.length co43 : Value).ownBlock ∧ some k_ ≠ (.slice Ao33 t271.length co33 : Value).ownBlock ∧ some k_ ≠ (.slice Ao37 t276.length co37 : Value).ownBlock ∧ some k_ ≠ (.slice Ao46 t285.length co46 : Value).ownBlock ∧ some k_ ≠ (.slice Ao51 t290.length co51 : Value).ownBlock) (Kd.R_keptB (HO_276000.out) hkp (fun k_ hk_ hs_ => (hk_.1) hs_)) (fun k_ hk_ => ⟨hk_.1.1, hk_.1.2.1, hk_.1.2.2.1, hk_.1.2.2.2.1, hk_.1.2.2.2.2⟩)); replace HO_276003 := am (Kd.R_mono (ok' := fun k_ => some k_ ≠ (.slice Ao43 t282.length co43 : Value).ownBlock ∧ some k_ ≠ (.slice Ao30 t266.length co30 : Value).ownBlock ∧ some k_ ≠ (.slice Ao37 t276.length co37 : Value).ownBlock ∧ some k_ ≠ (.slice Ao46 t285.length co46 : Value).ownBlock ∧ some k_ ≠ (.slice Ao51 t290.length co51 : Value).ownBlock) (Kd.R_keptB (HO_276003.out) hkp (fun k_ hk_ hs_ => (hk_.1) hs_)) (fun k_ hk_ => ⟨hk_.1.1, hk_.1.2.1, hk_.1.2.2.1, hk_.1.2.2.2.1, hk_.1.2.2.2.2⟩)); replace HO_282000 := am (Kd.R_mono (ok' := fun k_ => some k_ ≠ (.slice Ao43 t282.length co43 : Value).ownBlock ∧ some k_ ≠ (.slice Ao30 t266.length co30 : Value).ownBlock ∧ some k_ ≠ (.slice Ao33 t271.length co33 : Value).ownBlock ∧ some k_ ≠ (.slice Ao46 t285.length co46 : Value).ownBlock ∧ some k_ ≠ (.slice Ao51 t290.length co51 : Value).ownBlock) (Kd.R_keptB (HO_282000.out) hkp (fun k_ hk_ hs_ => (hk_.1) hs_)) (fun k_ hk_ => ⟨hk_.1.1, hk_.1.2.1, hk_.1.2.2.1, hk_.1.2.2.2.1, hk_.1.2.2.2.2⟩)); replace HO_295000 := am (Kd.R_mono (ok' := fun k_ => some k_ ≠ (.slice Ao43 t282.length co43 : Value).ownBlock ∧ some k_ ≠ (.slice Ao30 t266.length co30 : Value).ownBlock ∧ some k_ ≠ (.slice Ao33 t271.length co33 : Value).ownBlock ∧ some k_ ≠ (.slice Ao37 t276.length co37 : Value).ownBlock ∧ some k_ ≠ (.slice Ao51 t290.length co51 : Value).ownBlock) (Kd.R_keptB (HO_295000.out) hkp (fun k_ hk_ hs_ => (hk_.1) hs_)) (fun k_ hk_ => ⟨hk_.1.1, hk_.1.2.1, hk_.1.2.2.1, hk_.1.2.2.2.1, hk_.1.2.2.2.2⟩)); replace HO_295003 := am (Kd.R_mono (ok' := fun k_ => some k_ ≠ (.slice Ao43 t282.length co43 : Value).ownBlock ∧ some k_ ≠ (.slice Ao30 t266.length co30 : Value).ownBlock ∧ some k_ ≠ (.slice Ao33 t271.length co33 : Value).ownBlock ∧ some k_ ≠ (.slice Ao37 t276.length co37 : Value).ownBlock ∧ some k_ ≠ (.slice Ao46 t285.length co46 : Value).ownBlock) (Kd.R_keptB (HO_295003.out) hkp (fun k_ hk_ hs_ => (hk_.1) hs_)) (fun k_ hk_ => ⟨hk_.1.1, hk_.1.2.1, hk_.1.2.2.1, hk_.1.2.2.2.1, hk_.1.2.2.2.2⟩)); replace BK256 := am (blk_kept (pk BK256.out) hkp (fun hs_ => (fun e_ => (Kd.R_ne HO_12.out BK256.out (by decide)) e_) hs_)); replace BK275 := am (blk_kept (pk BK275.out) hkp (fun hs_ => (fun e_ => (Kd.R_ne HO_12.out BK275.out (by decide)) e_) hs_)); replace BK281 := am (blk_kept (pk BK281.out) hkp (fun hs_ => (fun e_ => (Kd.R_ne HO_12.out BK281.out (by decide)) e_) hs_)); replace BK294 := am (blk_kept (pk BK294.out) hkp (fun hs_ => (fun e_ => (Kd.R_ne HO_12.out BK294.out (by decide)) e_) hs_)); replace HO_12 := am (Kd.R_reok rfl hy0 (fun k_ e_ => HO_12.out.1 k_ e_)); replace HB := am (hb); (try clear hb); (try clear hkp); (try clear hy0)))
         (try simp only [Act.put, sa_, s0_, ss_])
         go_cut [69] (fun v69 wc => ∃ (kq : Nat) (x69_70 : Bool), v69 = .bool x69_70 ∧ Aside0 (laws_FnExactBufReplace.j3 kq a1 a2 l3 x69_70 l0_0 a0_1 a0_2 t266 t269 t270 t271 t274 t285 t288 t289 t290 t293 = some r) ∧ Aside0 (kq ≤ kj64) ∧ Aside0 (Kd.R (Kd.int .i64) 2 wc w.heap.size (fun k_ => some k_ ≠ ((.slice Ao33 t271.length co33) : Value).ownBlock ∧ some k_ ≠ ((.slice Ao37 t276.length co37) : Value).ownBlock ∧ some k_ ≠ ((.slice Ao46 t285.length co46) : Value).ownBlock ∧ some k_ ≠ ((.slice Ao51 t290.length co51) : Value).ownBlock) (.slice Ao30 t266.length co30) t266) ∧ Aside0 (Kd.R (Kd.int .i64) 2 wc w.heap.size (fun k_ => some k_ ≠ ((.slice Ao30 t266.length co30) : Value).ownBlock ∧ some k_ ≠ ((.slice Ao37 t276.length co37) : Value).ownBlock ∧ some k_ ≠ ((.slice Ao46 t285.length co46) : Value).ownBlock ∧ some k_ ≠ ((.slice Ao51 t290.length co51) : Value).ownBlock) (.slice Ao33 t271.length co33) t271) ∧ Aside0 (Kd.R (Kd.int .i64) 2 wc w.heap.size (fun k_ => some k_ ≠ ((.slice Ao30 t266.length co30) : Value).ownBlock ∧ some k_ ≠ ((.slice Ao33 t271.length co33) : Value).ownBlock ∧ some k_ ≠ ((.slice Ao46 t285.length co46) : Value).ownBlock ∧ some k_ ≠ ((.slice Ao51 t290.length co51) : Value).ownBlock) (.slice Ao37 t276.length co37) t307) ∧ Aside0 (Kd.R (Kd.int .i64) 2 wc w.heap.size (fun k_ => some k_ ≠ ((.slice Ao30 t266.length co30) : Value).ownBlock ∧ some k_ ≠ ((.slice Ao33 t271.length co33) : Value).ownBlock ∧ some k_ ≠ ((.slice Ao37 t276.length co37) : Value).ownBlock ∧ some k_ ≠ ((.slice Ao51 t290.length co51) : Value).ownBlock) (.slice Ao46 t285.length co46) t285) ∧ Aside0 (Kd.R (Kd.int .i64) 2 wc w.heap.size (fun k_ => some k_ ≠ ((.slice Ao30 t266.length co30) : Value).ownBlock ∧ some k_ ≠ ((.slice Ao33 t271.length co33) : Value).ownBlock ∧ some k_ ≠ ((.slice Ao37 t276.length co37) : Value).ownBlock ∧ some k_ ≠ ((.slice Ao46 t285.length co46) : Value).ownBlock) (.slice Ao51 t290.length co51) t290) ∧ Aside0 (wc.heap[gb256]? = some (.cells #[(.slice A0_0 l0_0.length c0_0), .int .i64 a0_1, .int .i64 a0_2] 24 (0, 0))) ∧ Aside0 (wc.heap[gb275]? = some (.cells #[(.slice Ao30 t266.length co30), .int .i64 t269, .int .i64 t270, (.slice Ao33 t271.length co33), .int .i64 t274] 28 (0, 0))) ∧ Aside0 (wc.heap[gb281]? = some (.cells #[(.slice Ao37 t276.length co37), .int .i64 t279, .int .i64 t280] 26 (0, 0))) ∧ Aside0 (wc.heap[gb294]? = some (.cells #[(.slice Ao46 t285.length co46), .int .i64 t288, .int .i64 t289, (.slice Ao51 t290.length co51), .int .i64 t293] 28 (0, 0))) ∧ Aside0 (Below w.heap.size w wc))
         case first =>
          have H := HC71.out
          clear HC71
          by_cases c78 : t308 < 0
          ·rw [if_pos c78] at H
           have c78b0 : decide (t308 < 0) = true := decide_eq_true c78
           clear c78
           (first | rw [c78b0] | (simp only [i64_w, i32_w]; rw [c78b0]) | (have e9_ := c78b0; unfold bne at e9_; rw [e9_]) | skip)
           have H' := Aside0.mk H
           clear H
           go_wp2
           go_meet
           case rel => exact ⟨_, (true), (by first | rfl | (simp; done) | (simp [*]; done)), H', ⟨by have := HJ18.out; have := HJ56.out; have := HJ64.out; first | omega | exact Nat.le_refl _⟩, ⟨kr (Kd.R_mono HO_276000.out (fun _ hk => ⟨hk.2.1, ⟨hk.2.2.1, ⟨hk.2.2.2.1, hk.2.2.2.2⟩⟩⟩))⟩, ⟨kr (Kd.R_mono HO_276003.out (fun _ hk => ⟨hk.2.1, ⟨hk.2.2.1, ⟨hk.2.2.2.1, hk.2.2.2.2⟩⟩⟩))⟩, ⟨kr (Kd.R_mono HO_282000.out (fun _ hk => ⟨hk.2.1, ⟨hk.2.2.1, ⟨hk.2.2.2.1, hk.2.2.2.2⟩⟩⟩))⟩, ⟨kr (Kd.R_mono HO_295000.out (fun _ hk => ⟨hk.2.1, ⟨hk.2.2.1, ⟨hk.2.2.2.1, hk.2.2.2.2⟩⟩⟩))⟩, ⟨kr (Kd.R_mono HO_295003.out (fun _ hk => ⟨hk.2.1, ⟨hk.2.2.1, ⟨hk.2.2.2.1, hk.2.2.2.2⟩⟩⟩))⟩, ⟨pk BK256.out⟩, ⟨pk BK275.out⟩, ⟨pk BK281.out⟩, ⟨pk BK294.out⟩, ⟨by repeat (first | (with_reducible first | exact HB.out | apply below_alloc | apply pw_below_drewN | apply below_drew1 | refine below_set ?_ GE256.out | refine below_set ?_ GE275.out | refine below_set ?_ GE281.out | refine below_set ?_ GE294.out) | exact HB.out)⟩⟩
          ·rw [if_neg c78] at H
           have c78b0 : decide (t308 < 0) = false := decide_eq_false c78
           clear c78
           (first | rw [c78b0] | (simp only [i64_w, i32_w]; rw [c78b0]) | (have e9_ := c78b0; unfold bne at e9_; rw [e9_]) | skip)
           replace H := Option.bind_eq_some_iff.mp H
           obtain ⟨t310, A790, H⟩ := H
           replace H : (laws_FnExactBufReplace.j3 kj64 a1 a2 l3 (!t310) l0_0 a0_1 a0_2 t266 t269 t270 t271 t274 t285 t288 t289 t290 t293) = some r := H
           have A79 := Aside0.mk A790
           clear A790
           have H' := Aside0.mk H
           clear H
           have hnb80 := NB294_256.out
           have hnc80 := NB256_294.out
           have hnb81 := NB294_275.out
           have hnc81 := NB275_294.out
           have hnb82 := NB294_281.out
           have hnc82 := NB281_294.out
           have hcz83_0 : w77.cell? ⟨gb294, 0, none⟩ = some (.slice Ao46 t285.length co46) := bc BK294.out 0
           have hcz83_1 : w77.cell? ⟨gb294, 1, none⟩ = some (.int .i64 t288) := bc BK294.out 1
           have hcz83_2 : w77.cell? ⟨gb294, 2, none⟩ = some (.int .i64 t289) := bc BK294.out 2
           have hcz83_3 : w77.cell? ⟨gb294, 3, none⟩ = some (.slice Ao51 t290.length co51) := bc BK294.out 3
           have hcz83_4 : w77.cell? ⟨gb294, 4, none⟩ = some (.int .i64 t293) := bc BK294.out 4
           have hfz83_0 := blk_frozen BK294.out 0
           have hfz83_1 := blk_frozen BK294.out 1
           have hfz83_2 := blk_frozen BK294.out 2
           have hfz83_3 := blk_frozen BK294.out 3
           have hfz83_4 := blk_frozen BK294.out 4
           have hnb84 := NB275_256.out
           have hnc84 := NB256_275.out
           have hnb85 := NB275_281.out
           have hnc85 := NB281_275.out
           have hcz86_0 : w77.cell? ⟨gb275, 0, none⟩ = some (.slice Ao30 t266.length co30) := bc BK275.out 0
           have hcz86_1 : w77.cell? ⟨gb275, 1, none⟩ = some (.int .i64 t269) := bc BK275.out 1
           have hcz86_2 : w77.cell? ⟨gb275, 2, none⟩ = some (.int .i64 t270) := bc BK275.out 2
           have hcz86_3 : w77.cell? ⟨gb275, 3, none⟩ = some (.slice Ao33 t271.length co33) := bc BK275.out 3
           have hcz86_4 : w77.cell? ⟨gb275, 4, none⟩ = some (.int .i64 t274) := bc BK275.out 4
           have hfz86_0 := blk_frozen BK275.out 0
           have hfz86_1 := blk_frozen BK275.out 1
           have hfz86_2 := blk_frozen BK275.out 2
           have hfz86_3 := blk_frozen BK275.out 3
           have hfz86_4 := blk_frozen BK275.out 4
           go_wp2_with (first | (go_at_call 14; (with_reducible refine (laws_eqBufOut.calls kj64 _ _ t285 t288 t289 _ _ t290 t293 _ _ t266 t269 t270 _ _ t271 t274 t310 _ ?side1 ?side2 ?side3 ?side4 ?side5 ?side6 ?side7 ?side8 A79.out).mono ?_); (case side1 => repeat (first | exact (Kd.R_reads' HO_295000.out).2.2 | (with_reducible refine Kd.C_alloc ?_ _) | (with_reducible refine Kd.C_drewN ?_ _) | (with_reducible refine Kd.C_drew ?_))); (case side2 => exact (Kd.R_reads' HO_295000.out).2.1); (case side3 => repeat (first | exact (Kd.R_reads' HO_295003.out).2.2 | (with_reducible refine Kd.C_alloc ?_ _) | (with_reducible refine Kd.C_drewN ?_ _) | (with_reducible refine Kd.C_drew ?_))); (case side4 => exact (Kd.R_reads' HO_295003.out).2.1); (case side5 => repeat (first | exact (Kd.R_reads' HO_276000.out).2.2 | (with_reducible refine Kd.C_alloc ?_ _) | (with_reducible refine Kd.C_drewN ?_ _) | (with_reducible refine Kd.C_drew ?_))); (case side6 => exact (Kd.R_reads' HO_276000.out).2.1); (case side7 => repeat (first | exact (Kd.R_reads' HO_276003.out).2.2 | (with_reducible refine Kd.C_alloc ?_ _) | (with_reducible refine Kd.C_drewN ?_ _) | (with_reducible refine Kd.C_drew ?_))); (case side8 => exact (Kd.R_reads' HO_276003.out).2.1); rintro e w87 ⟨rfl, hb⟩; replace HO_12 := am (Kd.R_below (kr HO_12.out) hb); replace HO_276000 := am (Kd.R_below (kr HO_276000.out) hb); replace HO_276003 := am (Kd.R_below (kr HO_276003.out) hb); replace HO_282000 := am (Kd.R_below (kr HO_282000.out) hb); replace HO_295000 := am (Kd.R_below (kr HO_295000.out) hb); replace HO_295003 := am (Kd.R_below (kr HO_295003.out) hb); replace BK256 := am (blk_below (pk BK256.out) hb); replace BK275 := am (blk_below (pk BK275.out) hb); replace BK281 := am (blk_below (pk BK281.out) hb); replace BK294 := am (blk_below (pk BK294.out) hb); replace HB := am (below_step (bl HB.out) hb); (try clear hb); (try clear hb2); (try clear hk); (try clear hi)))
           go_meet
           case rel => exact ⟨_, (!t310), (by first | rfl | (simp; done) | (simp [*]; done)), H', ⟨by have := HJ18.out; have := HJ56.out; have := HJ64.out; first | omega | exact Nat.le_refl _⟩, ⟨kr (Kd.R_mono HO_276000.out (fun _ hk => ⟨hk.2.1, ⟨hk.2.2.1, ⟨hk.2.2.2.1, hk.2.2.2.2⟩⟩⟩))⟩, ⟨kr (Kd.R_mono HO_276003.out (fun _ hk => ⟨hk.2.1, ⟨hk.2.2.1, ⟨hk.2.2.2.1, hk.2.2.2.2⟩⟩⟩))⟩, ⟨kr (Kd.R_mono HO_282000.out (fun _ hk => ⟨hk.2.1, ⟨hk.2.2.1, ⟨hk.2.2.2.1, hk.2.2.2.2⟩⟩⟩))⟩, ⟨kr (Kd.R_mono HO_295000.out (fun _ hk => ⟨hk.2.1, ⟨hk.2.2.1, ⟨hk.2.2.2.1, hk.2.2.2.2⟩⟩⟩))⟩, ⟨kr (Kd.R_mono HO_295003.out (fun _ hk => ⟨hk.2.1, ⟨hk.2.2.1, ⟨hk.2.2.2.1, hk.2.2.2.2⟩⟩⟩))⟩, ⟨pk BK256.out⟩, ⟨pk BK275.out⟩, ⟨pk BK281.out⟩, ⟨pk BK294.out⟩, ⟨by repeat (first | (with_reducible first | exact HB.out | apply below_alloc | apply pw_below_drewN | apply below_drew1 | refine below_set ?_ GE256.out | refine below_set ?_ GE275.out | refine below_set ?_ GE281.out | refine below_set ?_ GE294.out) | exact HB.out)⟩⟩
         case rest =>
          clear HC71
          try clear c1
          try clear p2
          try clear c3
          try clear c4
          try clear c5
          try clear c5b0
          try clear c5b1
          try clear c6
          try clear c7
          try clear c8
          try clear c8b0
          try clear c9
          try clear c10
          try clear c11
          try clear c12
          try clear c13
          try clear c14
          try clear c15
          try clear c16
          try clear c17
          try clear c18
          try clear c31
          try clear c38
          try clear c39
          try clear c47
          try clear c48
          try clear c49
          try clear c54
          try clear c62
          try clear c68
          try clear c72
          try clear c73
          try clear c74
          try clear c78
          try clear c78b0
          try clear c80
          try clear c81
          try clear c82
          try clear c84
          try clear c85
          try clear hcz10_0
          try clear hcz10_1
          try clear hcz10_2
          try clear hcz21_0
          try clear hcz21_1
          try clear hcz21_2
          try clear hcz23_0
          try clear hcz23_1
          try clear hcz23_2
          try clear hcz32_0
          try clear hcz32_1
          try clear hcz32_2
          try clear hcz32_3
          try clear hcz32_4
          try clear hcz34_0
          try clear hcz34_1
          try clear hcz34_2
          try clear hcz40_0
          try clear hcz40_1
          try clear hcz40_2
          try clear hcz42_0
          try clear hcz42_1
          try clear hcz42_2
          try clear hcz50_0
          try clear hcz50_1
          try clear hcz50_2
          try clear hcz50_3
          try clear hcz50_4
          try clear hcz52_0
          try clear hcz52_1
          try clear hcz52_2
          try clear hcz52_3
          try clear hcz52_4
          try clear hcz75_0
          try clear hcz75_1
          try clear hcz75_2
          try clear hcz83_0
          try clear hcz83_1
          try clear hcz83_2
          try clear hcz83_3
          try clear hcz83_4
          try clear hcz86_0
          try clear hcz86_1
          try clear hcz86_2
          try clear hcz86_3
          try clear hcz86_4
          try clear hfz10_0
          try clear hfz10_1
          try clear hfz10_2
          try clear hfz21_0
          try clear hfz21_1
          try clear hfz21_2
          try clear hfz23_0
          try clear hfz23_1
          try clear hfz23_2
          try clear hfz32_0
          try clear hfz32_1
          try clear hfz32_2
          try clear hfz32_3
          try clear hfz32_4
          try clear hfz34_0
          try clear hfz34_1
          try clear hfz34_2
          try clear hfz40_0
          try clear hfz40_1
          try clear hfz40_2
          try clear hfz42_0
          try clear hfz42_1
          try clear hfz42_2
          try clear hfz50_0
          try clear hfz50_1
          try clear hfz50_2
          try clear hfz50_3
          try clear hfz50_4
          try clear hfz52_0
          try clear hfz52_1
          try clear hfz52_2
          try clear hfz52_3
          try clear hfz52_4
          try clear hfz75_0
          try clear hfz75_1
          try clear hfz75_2
          try clear hfz83_0
          try clear hfz83_1
          try clear hfz83_2
          try clear hfz83_3
          try clear hfz83_4
          try clear hfz86_0
          try clear hfz86_1
          try clear hfz86_2
          try clear hfz86_3
          try clear hfz86_4
          try clear p2
          obtain ⟨kq, x69_70, rfl, HA, HJ70, HO_276000, HO_276003, HO_282000, HO_295000, HO_295003, BK256, BK275, BK281, BK294, HB⟩ := hcut
          have hl282000_70 := (Kd.R_reads' HO_282000.out).1
          rw [hl282000_70] at HO_282000
          (try simp only [hl282000_70])
          (try simp only [hl282000_70] at BK256)
          (try simp only [hl282000_70] at BK275)
          (try simp only [hl282000_70] at BK281)
          (try simp only [hl282000_70] at BK294)
          (try simp only [hl282000_70] at HO_276000)
          (try simp only [hl282000_70] at HO_276003)
          (try simp only [hl282000_70] at HO_295000)
          (try simp only [hl282000_70] at HO_295003)
          cases kq with
          | zero => exact absurd HA.out (by simp [laws_FnExactBufReplace.j3])
          | succ kj70 =>
           have H := HA.out
           clear HA
           simp only [laws_FnExactBufReplace.j3] at H
           have HC88 := Aside0.mk H
           clear H
           go_upto_if 69 with (fail)
           go_cut [] (fun wc => ∃ (kq : Nat), Aside0 (laws_FnExactBufReplace.j4 kq a1 a2 l3 l0_0 a0_1 a0_2 t266 t269 t270 t271 t274 t285 t288 t289 t290 t293 = some r) ∧ Aside0 (kq ≤ kj70) ∧ Aside0 (Kd.R (Kd.int .i64) 2 wc w.heap.size (fun k_ => some k_ ≠ ((.slice Ao33 t271.length co33) : Value).ownBlock ∧ some k_ ≠ ((.slice Ao37 t307.length co37) : Value).ownBlock ∧ some k_ ≠ ((.slice Ao46 t285.length co46) : Value).ownBlock ∧ some k_ ≠ ((.slice Ao51 t290.length co51) : Value).ownBlock) (.slice Ao30 t266.length co30) t266) ∧ Aside0 (Kd.R (Kd.int .i64) 2 wc w.heap.size (fun k_ => some k_ ≠ ((.slice Ao30 t266.length co30) : Value).ownBlock ∧ some k_ ≠ ((.slice Ao37 t307.length co37) : Value).ownBlock ∧ some k_ ≠ ((.slice Ao46 t285.length co46) : Value).ownBlock ∧ some k_ ≠ ((.slice Ao51 t290.length co51) : Value).ownBlock) (.slice Ao33 t271.length co33) t271) ∧ Aside0 (Kd.R (Kd.int .i64) 2 wc w.heap.size (fun k_ => some k_ ≠ ((.slice Ao30 t266.length co30) : Value).ownBlock ∧ some k_ ≠ ((.slice Ao33 t271.length co33) : Value).ownBlock ∧ some k_ ≠ ((.slice Ao46 t285.length co46) : Value).ownBlock ∧ some k_ ≠ ((.slice Ao51 t290.length co51) : Value).ownBlock) (.slice Ao37 t307.length co37) t307) ∧ Aside0 (Kd.R (Kd.int .i64) 2 wc w.heap.size (fun k_ => some k_ ≠ ((.slice Ao30 t266.length co30) : Value).ownBlock ∧ some k_ ≠ ((.slice Ao33 t271.length co33) : Value).ownBlock ∧ some k_ ≠ ((.slice Ao37 t307.length co37) : Value).ownBlock ∧ some k_ ≠ ((.slice Ao51 t290.length co51) : Value).ownBlock) (.slice Ao46 t285.length co46) t285) ∧ Aside0 (Kd.R (Kd.int .i64) 2 wc w.heap.size (fun k_ => some k_ ≠ ((.slice Ao30 t266.length co30) : Value).ownBlock ∧ some k_ ≠ ((.slice Ao33 t271.length co33) : Value).ownBlock ∧ some k_ ≠ ((.slice Ao37 t307.length co37) : Value).ownBlock ∧ some k_ ≠ ((.slice Ao46 t285.length co46) : Value).ownBlock) (.slice Ao51 t290.length co51) t290) ∧ Aside0 (wc.heap[gb256]? = some (.cells #[(.slice A0_0 l0_0.length c0_0), .int .i64 a0_1, .int .i64 a0_2] 24 (0, 0))) ∧ Aside0 (wc.heap[gb275]? = some (.cells #[(.slice Ao30 t266.length co30), .int .i64 t269, .int .i64 t270, (.slice Ao33 t271.length co33), .int .i64 t274] 28 (0, 0))) ∧ Aside0 (wc.heap[gb281]? = some (.cells #[(.slice Ao37 t307.length co37), .int .i64 t279, .int .i64 t280] 26 (0, 0))) ∧ Aside0 (wc.heap[gb294]? = some (.cells #[(.slice Ao46 t285.length co46), .int .i64 t288, .int .i64 t289, (.slice Ao51 t290.length co51), .int .i64 t293] 28 (0, 0))) ∧ Aside0 (Below w.heap.size w wc))
           case first =>
            have H := HC88.out
            clear HC88
            by_cases c89 : x69_70 = true
            ·subst c89
             have H1 : (some false) = some r := by rw [if_pos rfl] at H; exact H
             clear H
             have H := H1
             clear H1
             obtain rfl := Option.some.inj H
             go_wp2
             go_ret
             exact ⟨by first | rfl | (simp [errW_none, errW_some] <;> rfl) | (simp [*, errW_none, errW_some] <;> rfl), by repeat (first | (with_reducible first | exact HB.out | apply below_alloc | apply pw_below_drewN | apply below_drew1 | refine below_set ?_ GE256.out | refine below_set ?_ GE275.out | refine below_set ?_ GE281.out | refine below_set ?_ GE294.out) | exact HB.out)⟩
            ·replace c89 := Bool.eq_false_iff.mpr c89
             subst c89
             have H1 : (laws_FnExactBufReplace.j4 kj70 a1 a2 l3 l0_0 a0_1 a0_2 t266 t269 t270 t271 t274 t285 t288 t289 t290 t293) = some r := by rw [if_neg (show ¬ (false = true) by decide)] at H; exact H
             clear H
             have H := H1
             clear H1
             have H' := Aside0.mk H
             clear H
             go_wp2
             go_meet
             case rel => exact ⟨_, H', ⟨by have := HJ18.out; have := HJ56.out; have := HJ64.out; have := HJ70.out; first | omega | exact Nat.le_refl _⟩, ⟨by (try simp only [hl282000_70]); (with_reducible repeat (first | apply Kd.R_alloc | apply Kd.R_drewN | apply Kd.R_drew)); exact HO_276000.out⟩, ⟨by (try simp only [hl282000_70]); (with_reducible repeat (first | apply Kd.R_alloc | apply Kd.R_drewN | apply Kd.R_drew)); exact HO_276003.out⟩, ⟨by (try simp only [hl282000_70]); (with_reducible repeat (first | apply Kd.R_alloc | apply Kd.R_drewN | apply Kd.R_drew)); exact HO_282000.out⟩, ⟨by (try simp only [hl282000_70]); (with_reducible repeat (first | apply Kd.R_alloc | apply Kd.R_drewN | apply Kd.R_drew)); exact HO_295000.out⟩, ⟨by (try simp only [hl282000_70]); (with_reducible repeat (first | apply Kd.R_alloc | apply Kd.R_drewN | apply Kd.R_drew)); exact HO_295003.out⟩, ⟨by (try simp only [hl282000_70]); (with_reducible repeat (first | refine blk_drewN ?_ _ | refine blk_drew ?_ | refine blk_alloc ?_ _)); exact BK256.out⟩, ⟨by (try simp only [hl282000_70]); (with_reducible repeat (first | refine blk_drewN ?_ _ | refine blk_drew ?_ | refine blk_alloc ?_ _)); exact BK275.out⟩, ⟨by (try simp only [hl282000_70]); (with_reducible repeat (first | refine blk_drewN ?_ _ | refine blk_drew ?_ | refine blk_alloc ?_ _)); exact BK281.out⟩, ⟨by (try simp only [hl282000_70]); (with_reducible repeat (first | refine blk_drewN ?_ _ | refine blk_drew ?_ | refine blk_alloc ?_ _)); exact BK294.out⟩, ⟨by repeat (first | (with_reducible first | exact HB.out | apply below_alloc | apply pw_below_drewN | apply below_drew1 | refine below_set ?_ GE256.out | refine below_set ?_ GE275.out | refine below_set ?_ GE281.out | refine below_set ?_ GE294.out) | exact HB.out)⟩⟩
           case rest =>
            clear HC88
            try clear c1
            try clear p2
            try clear c3
            try clear c4
            try clear c5
            try clear c5b0
            try clear c5b1
            try clear c6
            try clear c7
            try clear c8
            try clear c8b0
            try clear c9
            try clear c10
            try clear c11
            try clear c12
            try clear c13
            try clear c14
            try clear c15
            try clear c16
            try clear c17
            try clear c18
            try clear c31
            try clear c38
            try clear c39
            try clear c47
            try clear c48
            try clear c49
            try clear c54
            try clear c62
            try clear c68
            try clear c72
            try clear c73
            try clear c74
            try clear c78
            try clear c78b0
            try clear c80
            try clear c81
            try clear c82
            try clear c84
            try clear c85
            try clear c89
            try clear hcz10_0
            try clear hcz10_1
            try clear hcz10_2
            try clear hcz21_0
            try clear hcz21_1
            try clear hcz21_2
            try clear hcz23_0
            try clear hcz23_1
            try clear hcz23_2
            try clear hcz32_0
            try clear hcz32_1
            try clear hcz32_2
            try clear hcz32_3
            try clear hcz32_4
            try clear hcz34_0
            try clear hcz34_1
            try clear hcz34_2
            try clear hcz40_0
            try clear hcz40_1
            try clear hcz40_2
            try clear hcz42_0
            try clear hcz42_1
            try clear hcz42_2
            try clear hcz50_0
            try clear hcz50_1
            try clear hcz50_2
            try clear hcz50_3
            try clear hcz50_4
            try clear hcz52_0
            try clear hcz52_1
            try clear hcz52_2
            try clear hcz52_3
            try clear hcz52_4
            try clear hcz75_0
            try clear hcz75_1
            try clear hcz75_2
            try clear hcz83_0
            try clear hcz83_1
            try clear hcz83_2
            try clear hcz83_3
            try clear hcz83_4
            try clear hcz86_0
            try clear hcz86_1
            try clear hcz86_2
            try clear hcz86_3
            try clear hcz86_4
            try clear hfz10_0
            try clear hfz10_1
            try clear hfz10_2
            try clear hfz21_0
            try clear hfz21_1
            try clear hfz21_2
            try clear hfz23_0
            try clear hfz23_1
            try clear hfz23_2
            try clear hfz32_0
            try clear hfz32_1
            try clear hfz32_2
            try clear hfz32_3
            try clear hfz32_4
            try clear hfz34_0
            try clear hfz34_1
            try clear hfz34_2
            try clear hfz40_0
            try clear hfz40_1
            try clear hfz40_2
            try clear hfz42_0
            try clear hfz42_1
            try clear hfz42_2
            try clear hfz50_0
            try clear hfz50_1
            try clear hfz50_2
            try clear hfz50_3
            try clear hfz50_4
            try clear hfz52_0
            try clear hfz52_1
            try clear hfz52_2
            try clear hfz52_3
            try clear hfz52_4
            try clear hfz75_0
            try clear hfz75_1
            try clear hfz75_2
            try clear hfz83_0
            try clear hfz83_1
            try clear hfz83_2
            try clear hfz83_3
            try clear hfz83_4
            try clear hfz86_0
            try clear hfz86_1
            try clear hfz86_2
            try clear hfz86_3
            try clear hfz86_4
            try clear p2
            obtain ⟨kq, HA, HJ87, HO_276000, HO_276003, HO_282000, HO_295000, HO_295003, BK256, BK275, BK281, BK294, HB⟩ := hcut
            cases kq with
            | zero => exact absurd HA.out (by simp [laws_FnExactBufReplace.j4])
            | succ kj87 =>
             have H := HA.out
             clear HA
             simp only [laws_FnExactBufReplace.j4] at H
             replace H := Option.bind_eq_some_iff.mp H
             obtain ⟨⟨t311, t312, t313⟩, A900, H⟩ := H
             replace H : ((laws_heldBufOut.f kj87 t312 t288 t289 t313 t293 1).bind fun t314 => (if t314 < 0 then (some false) else (laws_FnExactBufReplace.j5 kj87 a1 a2 l3 t311 t314 l0_0 a0_1 a0_2 t266 t269 t270 t271 t274 t312 t288 t289 t313 t293))) = some r := H
             have A90 := Aside0.mk A900
             clear A900
             replace H := Option.bind_eq_some_iff.mp H
             obtain ⟨t314, A910, H⟩ := H
             replace H : (if t314 < 0 then (some false) else (laws_FnExactBufReplace.j5 kj87 a1 a2 l3 t311 t314 l0_0 a0_1 a0_2 t266 t269 t270 t271 t274 t312 t288 t289 t313 t293)) = some r := H
             have A91 := Aside0.mk A910
             clear A910
             have HC92 := Aside0.mk H
             clear H
             have hnb93 := NB294_256.out
             have hnc93 := NB256_294.out
             have hnb94 := NB294_275.out
             have hnc94 := NB275_294.out
             have hnb95 := NB294_281.out
             have hnc95 := NB281_294.out
             have hcz96_0 : wc.cell? ⟨gb294, 0, none⟩ = some (.slice Ao46 t285.length co46) := bc BK294.out 0
             have hcz96_1 : wc.cell? ⟨gb294, 1, none⟩ = some (.int .i64 t288) := bc BK294.out 1
             have hcz96_2 : wc.cell? ⟨gb294, 2, none⟩ = some (.int .i64 t289) := bc BK294.out 2
             have hcz96_3 : wc.cell? ⟨gb294, 3, none⟩ = some (.slice Ao51 t290.length co51) := bc BK294.out 3
             have hcz96_4 : wc.cell? ⟨gb294, 4, none⟩ = some (.int .i64 t293) := bc BK294.out 4
             have hfz96_0 := blk_frozen BK294.out 0
             have hfz96_1 := blk_frozen BK294.out 1
             have hfz96_2 := blk_frozen BK294.out 2
             have hfz96_3 := blk_frozen BK294.out 3
             have hfz96_4 := blk_frozen BK294.out 4
             go_upto_if 77 with (first | ((with_reducible refine gate_callee (f := 19) rfl ?_); refine gl (some 72) Try.func19 #[.agg #[.slice Ao46 t285.length co46, .int .i64 t288, .int .i64 t289, .slice Ao51 t290.length co51, .int .i64 t293], .int .i64 1] ?_; (with_reducible refine (laws_markBufOut.calls kj87 (fun k_ => some k_ = (.slice Ao46 t285.length co46 : Value).ownBlock) (.slice Ao46 t285.length co46) t285 t288 t289 (fun k_ => some k_ = (.slice Ao51 t290.length co51 : Value).ownBlock) (.slice Ao51 t290.length co51) t290 t293 1 t311 t312 t313 w _ ?side1 ?side2 ?side3 ?side4 ?side5 A90.out).mono ?_); (case side1 => repeat (first | (with_reducible first | exact HB.out | apply below_alloc | apply pw_below_drewN | apply below_drew1 | refine below_set ?_ GE256.out | refine below_set ?_ GE275.out | refine below_set ?_ GE281.out | refine below_set ?_ GE294.out) | exact HB.out)); (case side2 => exact Kd.R_tight rfl HO_295000.out); (case side3 => exact fun k_ e_ => (HO_295000.out.1 k_ e_.symm).2.2.2); (case side4 => exact Kd.R_tight rfl HO_295003.out); (case side5 => exact fun k_ e_ => (HO_295003.out.1 k_ e_.symm).2.2.2); rintro e w97 ⟨rfl, hy0, hy1, hb, hkp⟩; refine ⟨_, rfl, ?_⟩; replace HO_276000 := am (Kd.R_mono (ok' := fun k_ => some k_ ≠ (.slice Ao33 t271.length co33 : Value).ownBlock ∧ some k_ ≠ (.slice Ao37 t307.length co37 : Value).ownBlock ∧ some k_ ≠ (.slice Ao46 t285.length co46 : Value).ownBlock ∧ some k_ ≠ (.slice Ao51 t290.length co51 : Value).ownBlock) (Kd.R_keptB (HO_276000.out) hkp (fun k_ hk_ hs_ => Or.elim hs_ (fun e_ => (hk_.2.2.1) e_) (fun e_ => (hk_.2.2.2) e_))) (fun k_ hk_ => ⟨hk_.1.1, hk_.1.2.1, hk_.1.2.2.1, hk_.1.2.2.2⟩)); replace HO_276003 := am (Kd.R_mono (ok' := fun k_ => some k_ ≠ (.slice Ao30 t266.length co30 : Value).ownBlock ∧ some k_ ≠ (.slice Ao37 t307.length co37 : Value).ownBlock ∧ some k_ ≠ (.slice Ao46 t285.length co46 : Value).ownBlock ∧ some k_ ≠ (.slice Ao51 t290.length co51 : Value).ownBlock) (Kd.R_keptB (HO_276003.out) hkp (fun k_ hk_ hs_ => Or.elim hs_ (fun e_ => (hk_.2.2.1) e_) (fun e_ => (hk_.2.2.2) e_))) (fun k_ hk_ => ⟨hk_.1.1, hk_.1.2.1, hk_.1.2.2.1, hk_.1.2.2.2⟩)); replace HO_282000 := am (Kd.R_mono (ok' := fun k_ => some k_ ≠ (.slice Ao30 t266.length co30 : Value).ownBlock ∧ some k_ ≠ (.slice Ao33 t271.length co33 : Value).ownBlock ∧ some k_ ≠ (.slice Ao46 t285.length co46 : Value).ownBlock ∧ some k_ ≠ (.slice Ao51 t290.length co51 : Value).ownBlock) (Kd.R_keptB (HO_282000.out) hkp (fun k_ hk_ hs_ => Or.elim hs_ (fun e_ => (hk_.2.2.1) e_) (fun e_ => (hk_.2.2.2) e_))) (fun k_ hk_ => ⟨hk_.1.1, hk_.1.2.1, hk_.1.2.2.1, hk_.1.2.2.2⟩)); replace BK256 := am (blk_kept (pk BK256.out) hkp (fun hs_ => Or.elim hs_ (fun e_ => (fun e_ => (Kd.R_ne HO_295000.out BK256.out (by decide)) e_) e_) (fun e_ => (fun e_ => (Kd.R_ne HO_295003.out BK256.out (by decide)) e_) e_))); replace BK275 := am (blk_kept (pk BK275.out) hkp (fun hs_ => Or.elim hs_ (fun e_ => (fun e_ => (Kd.R_ne HO_295000.out BK275.out (by decide)) e_) e_) (fun e_ => (fun e_ => (Kd.R_ne HO_295003.out BK275.out (by decide)) e_) e_))); replace BK281 := am (blk_kept (pk BK281.out) hkp (fun hs_ => Or.elim hs_ (fun e_ => (fun e_ => (Kd.R_ne HO_295000.out BK281.out (by decide)) e_) e_) (fun e_ => (fun e_ => (Kd.R_ne HO_295003.out BK281.out (by decide)) e_) e_))); replace BK294 := am (blk_kept (pk BK294.out) hkp (fun hs_ => Or.elim hs_ (fun e_ => (fun e_ => (Kd.R_ne HO_295000.out BK294.out (by decide)) e_) e_) (fun e_ => (fun e_ => (Kd.R_ne HO_295003.out BK294.out (by decide)) e_) e_))); replace HO_295000 := am (Kd.R_reok rfl hy0 (fun k_ e_ => HO_295000.out.1 k_ e_)); replace HO_295003 := am (Kd.R_reok rfl hy1 (fun k_ e_ => HO_295003.out.1 k_ e_)); replace HB := am (hb); (try clear hb); (try clear hkp); (try clear hy0); (try clear hy1); have hcz98_0 : w97.cell? ⟨gb294, 0, none⟩ = some (.slice Ao46 t285.length co46) := bc BK294.out 0; have hcz98_1 : w97.cell? ⟨gb294, 1, none⟩ = some (.int .i64 t288) := bc BK294.out 1; have hcz98_2 : w97.cell? ⟨gb294, 2, none⟩ = some (.int .i64 t289) := bc BK294.out 2; have hcz98_3 : w97.cell? ⟨gb294, 3, none⟩ = some (.slice Ao51 t290.length co51) := bc BK294.out 3; have hcz98_4 : w97.cell? ⟨gb294, 4, none⟩ = some (.int .i64 t293) := bc BK294.out 4; have hfz98_0 := blk_frozen BK294.out 0; have hfz98_1 := blk_frozen BK294.out 1; have hfz98_2 := blk_frozen BK294.out 2; have hfz98_3 := blk_frozen BK294.out 3; have hfz98_4 := blk_frozen BK294.out 4) | ((with_reducible refine gate_callee (f := 20) rfl ?_); refine goesL_ (some 75) rfl rfl Try.func20 (by kernel_rfl) rfl #[.agg #[.slice Ao46 t312.length co46, .int .i64 t288, .int .i64 t289, .slice Ao51 t313.length co51, .int .i64 t293], .int .i64 1] rfl (by (try simp only [List.map_toArray, List.map_cons, List.map_nil]); first | done | (rw [show t312.length = t285.length from (Kd.R_reads' HO_295000.out).1.symm, show t313.length = t290.length from (Kd.R_reads' HO_295003.out).1.symm] <;> rfl) | rfl | (simp only [List.length_drop, List.length_take]; rfl)) ?_; (with_reducible refine (laws_heldBufOut.calls kj87 _ _ t312 t288 t289 _ _ t313 t293 1 t314 _ ?side1 ?side2 ?side3 ?side4 A91.out).mono ?_); (case side1 => repeat (first | exact (Kd.R_reads' HO_295000.out).2.2 | (with_reducible refine Kd.C_alloc ?_ _) | (with_reducible refine Kd.C_drewN ?_ _) | (with_reducible refine Kd.C_drew ?_))); (case side2 => rw [show t312.length = t285.length from (Kd.R_reads' HO_295000.out).1.symm]; exact (Kd.R_reads' HO_295000.out).2.1); (case side3 => repeat (first | exact (Kd.R_reads' HO_295003.out).2.2 | (with_reducible refine Kd.C_alloc ?_ _) | (with_reducible refine Kd.C_drewN ?_ _) | (with_reducible refine Kd.C_drew ?_))); (case side4 => rw [show t313.length = t290.length from (Kd.R_reads' HO_295003.out).1.symm]; exact (Kd.R_reads' HO_295003.out).2.1); rintro e w99 ⟨rfl, hb⟩; refine ⟨_, rfl, ?_⟩; replace HO_276000 := am (Kd.R_below (kr HO_276000.out) hb); replace HO_276003 := am (Kd.R_below (kr HO_276003.out) hb); replace HO_282000 := am (Kd.R_below (kr HO_282000.out) hb); replace HO_295000 := am (Kd.R_below (kr HO_295000.out) hb); replace HO_295003 := am (Kd.R_below (kr HO_295003.out) hb); replace BK256 := am (blk_below (pk BK256.out) hb); replace BK275 := am (blk_below (pk BK275.out) hb); replace BK281 := am (blk_below (pk BK281.out) hb); replace BK294 := am (blk_below (pk BK294.out) hb); replace HB := am (below_step (bl HB.out) hb); (try clear hb); (try clear hb2); (try clear hk); (try clear hi)))
             (try simp only [Act.put, sa_, s0_, ss_])
             go_cut [] (fun wc => ∃ (kq : Nat), Aside0 (laws_FnExactBufReplace.j5 kq a1 a2 l3 t311 t314 l0_0 a0_1 a0_2 t266 t269 t270 t271 t274 t312 t288 t289 t313 t293 = some r) ∧ Aside0 (kq ≤ kj87) ∧ Aside0 (Kd.R (Kd.int .i64) 2 wc w.heap.size (fun k_ => some k_ ≠ ((.slice Ao33 t271.length co33) : Value).ownBlock ∧ some k_ ≠ ((.slice Ao37 t307.length co37) : Value).ownBlock ∧ some k_ ≠ ((.slice Ao46 t285.length co46) : Value).ownBlock ∧ some k_ ≠ ((.slice Ao51 t290.length co51) : Value).ownBlock) (.slice Ao30 t266.length co30) t266) ∧ Aside0 (Kd.R (Kd.int .i64) 2 wc w.heap.size (fun k_ => some k_ ≠ ((.slice Ao30 t266.length co30) : Value).ownBlock ∧ some k_ ≠ ((.slice Ao37 t307.length co37) : Value).ownBlock ∧ some k_ ≠ ((.slice Ao46 t285.length co46) : Value).ownBlock ∧ some k_ ≠ ((.slice Ao51 t290.length co51) : Value).ownBlock) (.slice Ao33 t271.length co33) t271) ∧ Aside0 (Kd.R (Kd.int .i64) 2 wc w.heap.size (fun k_ => some k_ ≠ ((.slice Ao30 t266.length co30) : Value).ownBlock ∧ some k_ ≠ ((.slice Ao33 t271.length co33) : Value).ownBlock ∧ some k_ ≠ ((.slice Ao46 t285.length co46) : Value).ownBlock ∧ some k_ ≠ ((.slice Ao51 t290.length co51) : Value).ownBlock) (.slice Ao37 t307.length co37) t307) ∧ Aside0 (Kd.R (Kd.int .i64) 2 wc w.heap.size (fun k_ => some k_ ≠ ((.slice Ao30 t266.length co30) : Value).ownBlock ∧ some k_ ≠ ((.slice Ao33 t271.length co33) : Value).ownBlock ∧ some k_ ≠ ((.slice Ao37 t307.length co37) : Value).ownBlock ∧ some k_ ≠ ((.slice Ao51 t290.length co51) : Value).ownBlock) (.slice Ao46 t285.length co46) t312) ∧ Aside0 (Kd.R (Kd.int .i64) 2 wc w.heap.size (fun k_ => some k_ ≠ ((.slice Ao30 t266.length co30) : Value).ownBlock ∧ some k_ ≠ ((.slice Ao33 t271.length co33) : Value).ownBlock ∧ some k_ ≠ ((.slice Ao37 t307.length co37) : Value).ownBlock ∧ some k_ ≠ ((.slice Ao46 t285.length co46) : Value).ownBlock) (.slice Ao51 t290.length co51) t313) ∧ Aside0 (wc.heap[gb256]? = some (.cells #[(.slice A0_0 l0_0.length c0_0), .int .i64 a0_1, .int .i64 a0_2] 24 (0, 0))) ∧ Aside0 (wc.heap[gb275]? = some (.cells #[(.slice Ao30 t266.length co30), .int .i64 t269, .int .i64 t270, (.slice Ao33 t271.length co33), .int .i64 t274] 28 (0, 0))) ∧ Aside0 (wc.heap[gb281]? = some (.cells #[(.slice Ao37 t307.length co37), .int .i64 t279, .int .i64 t280] 26 (0, 0))) ∧ Aside0 (wc.heap[gb294]? = some (.cells #[(.slice Ao46 t285.length co46), .int .i64 t288, .int .i64 t289, (.slice Ao51 t290.length co51), .int .i64 t293] 28 (0, 0))) ∧ Aside0 (Below w.heap.size w wc))
             case first =>
              have H := HC92.out
              clear HC92
              by_cases c100 : t314 < 0
              ·rw [if_pos c100] at H
               have c100b0 : decide (t314 < 0) = true := decide_eq_true c100
               clear c100
               (first | rw [c100b0] | (simp only [i64_w, i32_w]; rw [c100b0]) | (have e9_ := c100b0; unfold bne at e9_; rw [e9_]) | skip)
               obtain rfl := Option.some.inj H
               go_wp2
               go_ret
               exact ⟨by first | rfl | (simp [errW_none, errW_some] <;> rfl) | (simp [*, errW_none, errW_some] <;> rfl), by repeat (first | (with_reducible first | exact HB.out | apply below_alloc | apply pw_below_drewN | apply below_drew1 | refine below_set ?_ GE256.out | refine below_set ?_ GE275.out | refine below_set ?_ GE281.out | refine below_set ?_ GE294.out) | exact HB.out)⟩
              ·rw [if_neg c100] at H
               have c100b0 : decide (t314 < 0) = false := decide_eq_false c100
               clear c100
               (first | rw [c100b0] | (simp only [i64_w, i32_w]; rw [c100b0]) | (have e9_ := c100b0; unfold bne at e9_; rw [e9_]) | skip)
               have H' := Aside0.mk H
               clear H
               go_wp2
               go_meet
               case rel => exact ⟨_, H', ⟨by have := HJ18.out; have := HJ56.out; have := HJ64.out; have := HJ70.out; have := HJ87.out; first | omega | exact Nat.le_refl _⟩, ⟨by (try simp only [hl282000_70]); (with_reducible repeat (first | apply Kd.R_alloc | apply Kd.R_drewN | apply Kd.R_drew)); exact HO_276000.out⟩, ⟨by (try simp only [hl282000_70]); (with_reducible repeat (first | apply Kd.R_alloc | apply Kd.R_drewN | apply Kd.R_drew)); exact HO_276003.out⟩, ⟨by (try simp only [hl282000_70]); (with_reducible repeat (first | apply Kd.R_alloc | apply Kd.R_drewN | apply Kd.R_drew)); exact HO_282000.out⟩, ⟨by (try simp only [hl282000_70]); (with_reducible repeat (first | apply Kd.R_alloc | apply Kd.R_drewN | apply Kd.R_drew)); exact HO_295000.out⟩, ⟨by (try simp only [hl282000_70]); (with_reducible repeat (first | apply Kd.R_alloc | apply Kd.R_drewN | apply Kd.R_drew)); exact HO_295003.out⟩, ⟨by (try simp only [hl282000_70]); (with_reducible repeat (first | refine blk_drewN ?_ _ | refine blk_drew ?_ | refine blk_alloc ?_ _)); exact BK256.out⟩, ⟨by (try simp only [hl282000_70]); (with_reducible repeat (first | refine blk_drewN ?_ _ | refine blk_drew ?_ | refine blk_alloc ?_ _)); exact BK275.out⟩, ⟨by (try simp only [hl282000_70]); (with_reducible repeat (first | refine blk_drewN ?_ _ | refine blk_drew ?_ | refine blk_alloc ?_ _)); exact BK281.out⟩, ⟨by (try simp only [hl282000_70]); (with_reducible repeat (first | refine blk_drewN ?_ _ | refine blk_drew ?_ | refine blk_alloc ?_ _)); exact BK294.out⟩, ⟨by repeat (first | (with_reducible first | exact HB.out | apply below_alloc | apply pw_below_drewN | apply below_drew1 | refine below_set ?_ GE256.out | refine below_set ?_ GE275.out | refine below_set ?_ GE281.out | refine below_set ?_ GE294.out) | exact HB.out)⟩⟩
             case rest =>
              clear HC92
              try clear c1
              try clear c2
              try clear p2
              try clear c3
              try clear c4
              try clear c5
              try clear c5b0
              try clear c5b1
              try clear c6
              try clear c7
              try clear c8
              try clear c8b0
              try clear c9
              try clear c10
              try clear c11
              try clear c12
              try clear c13
              try clear c14
              try clear c15
              try clear c16
              try clear c17
              try clear c18
              try clear c19
              try clear c20
              try clear c31
              try clear c38
              try clear c39
              try clear c47
              try clear c48
              try clear c49
              try clear c54
              try clear c62
              try clear c68
              try clear c72
              try clear c73
              try clear c74
              try clear c78
              try clear c78b0
              try clear c80
              try clear c81
              try clear c82
              try clear c84
              try clear c85
              try clear c89
              try clear c93
              try clear c94
              try clear c95
              try clear c100
              try clear c100b0
              try clear hcz10_0
              try clear hcz10_1
              try clear hcz10_2
              try clear hcz21_0
              try clear hcz21_1
              try clear hcz21_2
              try clear hcz23_0
              try clear hcz23_1
              try clear hcz23_2
              try clear hcz32_0
              try clear hcz32_1
              try clear hcz32_2
              try clear hcz32_3
              try clear hcz32_4
              try clear hcz34_0
              try clear hcz34_1
              try clear hcz34_2
              try clear hcz40_0
              try clear hcz40_1
              try clear hcz40_2
              try clear hcz42_0
              try clear hcz42_1
              try clear hcz42_2
              try clear hcz50_0
              try clear hcz50_1
              try clear hcz50_2
              try clear hcz50_3
              try clear hcz50_4
              try clear hcz52_0
              try clear hcz52_1
              try clear hcz52_2
              try clear hcz52_3
              try clear hcz52_4
              try clear hcz75_0
              try clear hcz75_1
              try clear hcz75_2
              try clear hcz83_0
              try clear hcz83_1
              try clear hcz83_2
              try clear hcz83_3
              try clear hcz83_4
              try clear hcz86_0
              try clear hcz86_1
              try clear hcz86_2
              try clear hcz86_3
              try clear hcz86_4
              try clear hcz96_0
              try clear hcz96_1
              try clear hcz96_2
              try clear hcz96_3
              try clear hcz96_4
              try clear hcz98_0
              try clear hcz98_1
              try clear hcz98_2
              try clear hcz98_3
              try clear hcz98_4
              try clear hfz10_0
              try clear hfz10_1
              try clear hfz10_2
              try clear hfz21_0
              try clear hfz21_1
              try clear hfz21_2
              try clear hfz23_0
              try clear hfz23_1
              try clear hfz23_2
              try clear hfz32_0
              try clear hfz32_1
              try clear hfz32_2
              try clear hfz32_3
              try clear hfz32_4
              try clear hfz34_0
              try clear hfz34_1
              try clear hfz34_2
              try clear hfz40_0
              try clear hfz40_1
              try clear hfz40_2
              try clear hfz42_0
              try clear hfz42_1
              try clear hfz42_2
              try clear hfz50_0
              try clear hfz50_1
              try clear hfz50_2
              try clear hfz50_3
              try clear hfz50_4
              try clear hfz52_0
              try clear hfz52_1
              try clear hfz52_2
              try clear hfz52_3
              try clear hfz52_4
              try clear hfz75_0
              try clear hfz75_1
              try clear hfz75_2
              try clear hfz83_0
              try clear hfz83_1
              try clear hfz83_2
              try clear hfz83_3
              try clear hfz83_4
              try clear hfz86_0
              try clear hfz86_1
              try clear hfz86_2
              try clear hfz86_3
              try clear hfz86_4
              try clear hfz96_0
              try clear hfz96_1
              try clear hfz96_2
              try clear hfz96_3
              try clear hfz96_4
              try clear hfz98_0
              try clear hfz98_1
              try clear hfz98_2
              try clear hfz98_3
              try clear hfz98_4
              try clear p2
              obtain ⟨kq, HA, HJ91, HO_276000, HO_276003, HO_282000, HO_295000, HO_295003, BK256, BK275, BK281, BK294, HB⟩ := hcut
              have hl295000_91 := (Kd.R_reads' HO_295000.out).1
              rw [hl295000_91] at HO_295000
              (try simp only [hl295000_91])
              (try simp only [hl295000_91] at BK256)
              (try simp only [hl295000_91] at BK275)
              (try simp only [hl295000_91] at BK281)
              (try simp only [hl295000_91] at BK294)
              (try simp only [hl295000_91] at HO_276000)
              (try simp only [hl295000_91] at HO_276003)
              (try simp only [hl295000_91] at HO_282000)
              (try simp only [hl295000_91] at HO_295003)
              have hl295003_91 := (Kd.R_reads' HO_295003.out).1
              rw [hl295003_91] at HO_295003
              (try simp only [hl295003_91])
              (try simp only [hl295003_91] at BK256)
              (try simp only [hl295003_91] at BK275)
              (try simp only [hl295003_91] at BK281)
              (try simp only [hl295003_91] at BK294)
              (try simp only [hl295003_91] at HO_276000)
              (try simp only [hl295003_91] at HO_276003)
              (try simp only [hl295003_91] at HO_282000)
              (try simp only [hl295003_91] at HO_295000)
              cases kq with
              | zero => exact absurd HA.out (by simp [laws_FnExactBufReplace.j5])
              | succ kj91 =>
               have H := HA.out
               clear HA
               simp only [laws_FnExactBufReplace.j5] at H
               by_cases c101 : t314 = t311
               ·rw [if_pos c101] at H
                have c101b0 : (t314 == t311) = true := beq_iff_eq.mpr c101
                have c101b1 : (t314 != t311) = false := bne_eq_false_iff_eq.mpr c101
                clear c101
                replace H := Option.bind_eq_some_iff.mp H
                obtain ⟨⟨t315, t318, t319⟩, A1020, H⟩ := H
                replace H : ((laws_toInt64S.f kj91 l3).bind fun t320 => ((impl_BufReplace.f kj91 t315 t318 t319 a1 a2 t320).bind fun bt323 => ((laws_eqBufOut.f kj91 bt323.1 bt323.2.1 bt323.2.2.1 bt323.2.2.2.1 bt323.2.2.2.2 t266 t269 t270 t271 t274).bind fun t333 => (if t333 = true then (laws_FnExactBufReplace.j6 kj91 t311 t312 t288 t289 t313 t293) else (some false))))) = some r := H
                have A102 := Aside0.mk A1020
                clear A1020
                replace H := Option.bind_eq_some_iff.mp H
                obtain ⟨t320, A1030, H⟩ := H
                replace H : ((impl_BufReplace.f kj91 t315 t318 t319 a1 a2 t320).bind fun bt323 => ((laws_eqBufOut.f kj91 bt323.1 bt323.2.1 bt323.2.2.1 bt323.2.2.2.1 bt323.2.2.2.2 t266 t269 t270 t271 t274).bind fun t333 => (if t333 = true then (laws_FnExactBufReplace.j6 kj91 t311 t312 t288 t289 t313 t293) else (some false)))) = some r := H
                have A103 := Aside0.mk A1030
                clear A1030
                replace H := Option.bind_eq_some_iff.mp H
                obtain ⟨⟨t323, t326, t327, t328, t331⟩, A1040, H⟩ := H
                replace H : ((laws_eqBufOut.f kj91 t323 t326 t327 t328 t331 t266 t269 t270 t271 t274).bind fun t333 => (if t333 = true then (laws_FnExactBufReplace.j6 kj91 t311 t312 t288 t289 t313 t293) else (some false))) = some r := H
                have A104 := Aside0.mk A1040
                clear A1040
                replace H := Option.bind_eq_some_iff.mp H
                obtain ⟨t333, A1050, H⟩ := H
                replace H : (if t333 = true then (laws_FnExactBufReplace.j6 kj91 t311 t312 t288 t289 t313 t293) else (some false)) = some r := H
                have A105 := Aside0.mk A1050
                clear A1050
                have HC106 := Aside0.mk H
                clear H
                have hnb107 := NB256_275.out
                have hnc107 := NB275_256.out
                have hnb108 := NB256_281.out
                have hnc108 := NB281_256.out
                have hnb109 := NB256_294.out
                have hnc109 := NB294_256.out
                have hcz110_0 : wc.cell? ⟨gb256, 0, none⟩ = some (.slice A0_0 l0_0.length c0_0) := bc BK256.out 0
                have hcz110_1 : wc.cell? ⟨gb256, 1, none⟩ = some (.int .i64 a0_1) := bc BK256.out 1
                have hcz110_2 : wc.cell? ⟨gb256, 2, none⟩ = some (.int .i64 a0_2) := bc BK256.out 2
                have hfz110_0 := blk_frozen BK256.out 0
                have hfz110_1 := blk_frozen BK256.out 1
                have hfz110_2 := blk_frozen BK256.out 2
                go_upto_if 91 with (first | ((with_reducible refine gate_callee (f := 11) rfl ?_); refine gl (some 82) Try.func11 #[.agg #[.slice A0_0 l0_0.length c0_0, .int .i64 a0_1, .int .i64 a0_2]] ?_; (with_reducible refine (laws_toBuf.calls kj91 _ _ l0_0 a0_1 a0_2 t315 t318 t319 _ ?side1 ?side2 A102.out).mono ?_); (case side1 => repeat (first | exact (Kd.C_below HR0_0.out HB.out) | (with_reducible refine Kd.C_alloc ?_ _) | (with_reducible refine Kd.C_drewN ?_ _) | (with_reducible refine Kd.C_drew ?_))); (case side2 => exact HC0_0.out); rintro e w111 ⟨v316, rfl, ho0, hb⟩; refine ⟨_, rfl, ?_⟩; have HO317 := am (Kd.R_lower (Kd.R_new' (Kd.R_new' (Kd.R_new' (Kd.R_new' (Kd.R_new' ho0 (Kd.R_lt (kr HO_276000.out))) (Kd.R_lt (kr HO_276003.out))) (Kd.R_lt (kr HO_282000.out))) (Kd.R_lt (kr HO_295000.out))) (Kd.R_lt (kr HO_295003.out))) (below_size (bl HB.out))); replace HO_276000 := am (Kd.R_elder' (kr HO_276000.out) (Kd.R_base ho0) hb); replace HO_276003 := am (Kd.R_elder' (kr HO_276003.out) (Kd.R_base ho0) hb); replace HO_282000 := am (Kd.R_elder' (kr HO_282000.out) (Kd.R_base ho0) hb); replace HO_295000 := am (Kd.R_elder' (kr HO_295000.out) (Kd.R_base ho0) hb); replace HO_295003 := am (Kd.R_elder' (kr HO_295003.out) (Kd.R_base ho0) hb); replace BK256 := am (blk_below (pk BK256.out) hb); replace BK275 := am (blk_below (pk BK275.out) hb); replace BK281 := am (blk_below (pk BK281.out) hb); replace BK294 := am (blk_below (pk BK294.out) hb); replace HB := am (below_step (bl HB.out) hb); (try clear hb); (try clear hb2); (try clear hk); (try clear hi); (try clear ho0)) | ((with_reducible refine gate_callee (f := 12) rfl ?_); refine gl (some 86) Try.func12 #[.slice A3 l3.length c3] ?_; (with_reducible refine (laws_toInt64S.calls kj91 _ _ l3 t320 _ ?side1 ?side2 A103.out).mono ?_); (case side1 => repeat (first | exact (Kd.C_below HR3.out HB.out) | (with_reducible refine Kd.C_alloc ?_ _) | (with_reducible refine Kd.C_drewN ?_ _) | (with_reducible refine Kd.C_drew ?_))); (case side2 => exact HC3.out); rintro e w112 ⟨v321, rfl, ho0, hb⟩; refine ⟨_, rfl, ?_⟩; have HO322 := am (Kd.R_lower (Kd.R_new' (Kd.R_new' (Kd.R_new' (Kd.R_new' (Kd.R_new' (Kd.R_new' ho0 (Kd.R_lt (kr HO_276000.out))) (Kd.R_lt (kr HO_276003.out))) (Kd.R_lt (kr HO_282000.out))) (Kd.R_lt (kr HO_295000.out))) (Kd.R_lt (kr HO_295003.out))) (Kd.R_lt (kr HO317.out))) (below_size (bl HB.out))); replace HO_276000 := am (Kd.R_elder' (kr HO_276000.out) (Kd.R_base ho0) hb); replace HO_276003 := am (Kd.R_elder' (kr HO_276003.out) (Kd.R_base ho0) hb); replace HO_282000 := am (Kd.R_elder' (kr HO_282000.out) (Kd.R_base ho0) hb); replace HO_295000 := am (Kd.R_elder' (kr HO_295000.out) (Kd.R_base ho0) hb); replace HO_295003 := am (Kd.R_elder' (kr HO_295003.out) (Kd.R_base ho0) hb); replace HO317 := am (Kd.R_elder' (kr HO317.out) (Kd.R_base ho0) hb); replace BK256 := am (blk_below (pk BK256.out) hb); replace BK275 := am (blk_below (pk BK275.out) hb); replace BK281 := am (blk_below (pk BK281.out) hb); replace BK294 := am (blk_below (pk BK294.out) hb); replace HB := am (below_step (bl HB.out) hb); (try clear hb); (try clear hb2); (try clear hk); (try clear hi); (try clear ho0); obtain ⟨Ao113, co113, eo113⟩ := Kd.R_slice HO317.out; subst eo113; obtain ⟨Ao114, co114, eo114⟩ := Kd.R_slice HO322.out; subst eo114) | ((with_reducible refine gate_callee (f := 13) rfl ?_); refine gl (some 87) Try.func13 #[.agg #[.slice Ao113 t315.length co113, .int .i64 t318, .int .i64 t319], .int .i64 a1, .int .i64 a2, .slice Ao114 t320.length co114] ?_; (with_reducible refine (impl_BufReplace.calls kj91 _ _ t315 t318 t319 a1 a2 _ _ t320 t323 t326 t327 t328 t331 _ ?side1 ?side2 ?side3 ?side4 A104.out).mono ?_); (case side1 => repeat (first | exact (Kd.R_reads' HO317.out).2.2 | (with_reducible refine Kd.C_alloc ?_ _) | (with_reducible refine Kd.C_drewN ?_ _) | (with_reducible refine Kd.C_drew ?_))); (case side2 => exact (Kd.R_reads' HO317.out).2.1); (case side3 => repeat (first | exact (Kd.R_reads' HO322.out).2.2 | (with_reducible refine Kd.C_alloc ?_ _) | (with_reducible refine Kd.C_drewN ?_ _) | (with_reducible refine Kd.C_drew ?_))); (case side4 => exact (Kd.R_reads' HO322.out).2.1); rintro e w115 ⟨v324, v329, rfl, ho0, ho1, hb⟩; refine ⟨_, rfl, ?_⟩; have HO325 := am (Kd.R_lower (Kd.R_new' (Kd.R_new' (Kd.R_new' (Kd.R_new' (Kd.R_new' (Kd.R_new' (Kd.R_new' ho0 (Kd.R_lt (kr HO_276000.out))) (Kd.R_lt (kr HO_276003.out))) (Kd.R_lt (kr HO_282000.out))) (Kd.R_lt (kr HO_295000.out))) (Kd.R_lt (kr HO_295003.out))) (Kd.R_lt (kr HO317.out))) (Kd.R_lt (kr HO322.out))) (below_size (bl HB.out))); have HO330 := am (Kd.R_lower (Kd.R_new' (Kd.R_new' (Kd.R_new' (Kd.R_new' (Kd.R_new' (Kd.R_new' (Kd.R_new' ho1 (Kd.R_lt (kr HO_276000.out))) (Kd.R_lt (kr HO_276003.out))) (Kd.R_lt (kr HO_282000.out))) (Kd.R_lt (kr HO_295000.out))) (Kd.R_lt (kr HO_295003.out))) (Kd.R_lt (kr HO317.out))) (Kd.R_lt (kr HO322.out))) (below_size (bl HB.out))); replace HO_276000 := am (Kd.R_mono (Kd.R_told (Kd.R_told (Kd.R_old (kr HO_276000.out) hb) (Kd.R_base ho0)) (Kd.R_base ho1)) (fun _ h_ => h_.1)); replace HO_276003 := am (Kd.R_mono (Kd.R_told (Kd.R_told (Kd.R_old (kr HO_276003.out) hb) (Kd.R_base ho0)) (Kd.R_base ho1)) (fun _ h_ => h_.1)); replace HO_282000 := am (Kd.R_mono (Kd.R_told (Kd.R_told (Kd.R_old (kr HO_282000.out) hb) (Kd.R_base ho0)) (Kd.R_base ho1)) (fun _ h_ => h_.1)); replace HO_295000 := am (Kd.R_mono (Kd.R_told (Kd.R_told (Kd.R_old (kr HO_295000.out) hb) (Kd.R_base ho0)) (Kd.R_base ho1)) (fun _ h_ => h_.1)); replace HO_295003 := am (Kd.R_mono (Kd.R_told (Kd.R_told (Kd.R_old (kr HO_295003.out) hb) (Kd.R_base ho0)) (Kd.R_base ho1)) (fun _ h_ => h_.1)); replace HO317 := am (Kd.R_mono (Kd.R_told (Kd.R_told (Kd.R_old (kr HO317.out) hb) (Kd.R_base ho0)) (Kd.R_base ho1)) (fun _ h_ => h_.1)); replace HO322 := am (Kd.R_mono (Kd.R_told (Kd.R_told (Kd.R_old (kr HO322.out) hb) (Kd.R_base ho0)) (Kd.R_base ho1)) (fun _ h_ => h_.1)); replace BK256 := am (blk_below (pk BK256.out) hb); replace BK275 := am (blk_below (pk BK275.out) hb); replace BK281 := am (blk_below (pk BK281.out) hb); replace BK294 := am (blk_below (pk BK294.out) hb); replace HB := am (below_step (bl HB.out) hb); (try clear hb); (try clear hb2); (try clear hk); (try clear hi); (try clear ho0); (try clear ho1)) | ((with_reducible refine gate_dst (N := 17) rfl ?_); refine box_event ?hg (N := 17) ?hd (cs := #[.slice none 0 0, .int .i64 0, .int .i64 0, .slice none 0 0, .int .i64 0]) (t := 28) ?hr ?_; (case hd => rfl); (case hg => rfl); (case hr => first | (go_simp; done) | (go_simp; rfl)); intro gb332 hg w116 hbox hb; replace HO_276000 := am (Kd.R_below (kr HO_276000.out) hb); replace HO_276003 := am (Kd.R_below (kr HO_276003.out) hb); replace HO_282000 := am (Kd.R_below (kr HO_282000.out) hb); replace HO_295000 := am (Kd.R_below (kr HO_295000.out) hb); replace HO_295003 := am (Kd.R_below (kr HO_295003.out) hb); replace HO317 := am (Kd.R_below (kr HO317.out) hb); replace HO322 := am (Kd.R_below (kr HO322.out) hb); replace HO325 := am (Kd.R_below (kr HO325.out) hb); replace HO330 := am (Kd.R_below (kr HO330.out) hb); have BK332 := am (hbox); have GW332 := am ((by rw [hg]; exact (below_size (bl HB.out)) : w.heap.size ≤ gb332)); have GE332 := GW332; replace HB := am (below_step (bl HB.out) hb); have NB256_332 := am ((by rw [hg]; exact Nat.ne_of_lt (blk_lt (pk BK256.out)) : gb256 ≠ gb332)); have NB332_256 := am ((by rw [hg]; exact Nat.ne_of_gt (blk_lt (pk BK256.out)) : gb332 ≠ gb256)); replace BK256 := am (blk_below (pk BK256.out) hb); have NB275_332 := am ((by rw [hg]; exact Nat.ne_of_lt (blk_lt (pk BK275.out)) : gb275 ≠ gb332)); have NB332_275 := am ((by rw [hg]; exact Nat.ne_of_gt (blk_lt (pk BK275.out)) : gb332 ≠ gb275)); replace BK275 := am (blk_below (pk BK275.out) hb); have NB281_332 := am ((by rw [hg]; exact Nat.ne_of_lt (blk_lt (pk BK281.out)) : gb281 ≠ gb332)); have NB332_281 := am ((by rw [hg]; exact Nat.ne_of_gt (blk_lt (pk BK281.out)) : gb332 ≠ gb281)); replace BK281 := am (blk_below (pk BK281.out) hb); have NB294_332 := am ((by rw [hg]; exact Nat.ne_of_lt (blk_lt (pk BK294.out)) : gb294 ≠ gb332)); have NB332_294 := am ((by rw [hg]; exact Nat.ne_of_gt (blk_lt (pk BK294.out)) : gb332 ≠ gb294)); replace BK294 := am (blk_below (pk BK294.out) hb); clear hb hbox hg; obtain ⟨Ao117, co117, eo117⟩ := Kd.R_slice HO325.out; subst eo117; have hnb118 := NB332_256.out; have hnc118 := NB256_332.out; have hnb119 := NB332_275.out; have hnc119 := NB275_332.out; have hnb120 := NB332_281.out; have hnc120 := NB281_332.out; have hnb121 := NB332_294.out; have hnc121 := NB294_332.out; have hcz122_0 : w116.cell? ⟨gb332, 0, none⟩ = some (.slice none 0 0) := bc BK332.out 0; have hcz122_1 : w116.cell? ⟨gb332, 1, none⟩ = some (.int .i64 0) := bc BK332.out 1; have hcz122_2 : w116.cell? ⟨gb332, 2, none⟩ = some (.int .i64 0) := bc BK332.out 2; have hcz122_3 : w116.cell? ⟨gb332, 3, none⟩ = some (.slice none 0 0) := bc BK332.out 3; have hcz122_4 : w116.cell? ⟨gb332, 4, none⟩ = some (.int .i64 0) := bc BK332.out 4; have hfz122_0 := blk_frozen BK332.out 0; have hfz122_1 := blk_frozen BK332.out 1; have hfz122_2 := blk_frozen BK332.out 2; have hfz122_3 := blk_frozen BK332.out 3; have hfz122_4 := blk_frozen BK332.out 4; obtain ⟨Ao123, co123, eo123⟩ := Kd.R_slice HO330.out; subst eo123; have hnb124 := NB275_281.out; have hnc124 := NB281_275.out; have hnb125 := NB275_294.out; have hnc125 := NB294_275.out; have hcz126_0 : w116.cell? ⟨gb275, 0, none⟩ = some (.slice Ao30 t266.length co30) := bc BK275.out 0; have hcz126_1 : w116.cell? ⟨gb275, 1, none⟩ = some (.int .i64 t269) := bc BK275.out 1; have hcz126_2 : w116.cell? ⟨gb275, 2, none⟩ = some (.int .i64 t270) := bc BK275.out 2; have hcz126_3 : w116.cell? ⟨gb275, 3, none⟩ = some (.slice Ao33 t271.length co33) := bc BK275.out 3; have hcz126_4 : w116.cell? ⟨gb275, 4, none⟩ = some (.int .i64 t274) := bc BK275.out 4; have hfz126_0 := blk_frozen BK275.out 0; have hfz126_1 := blk_frozen BK275.out 1; have hfz126_2 := blk_frozen BK275.out 2; have hfz126_3 := blk_frozen BK275.out 3; have hfz126_4 := blk_frozen BK275.out 4) | ((with_reducible refine gate_callee (f := 14) rfl ?_); refine gl (some 90) Try.func14 #[.agg #[.slice Ao117 t323.length co117, .int .i64 t326, .int .i64 t327, .slice Ao123 t328.length co123, .int .i64 t331], .agg #[.slice Ao30 t266.length co30, .int .i64 t269, .int .i64 t270, .slice Ao33 t271.length co33, .int .i64 t274]] ?_; (with_reducible refine (laws_eqBufOut.calls kj91 _ _ t323 t326 t327 _ _ t328 t331 _ _ t266 t269 t270 _ _ t271 t274 t333 _ ?side1 ?side2 ?side3 ?side4 ?side5 ?side6 ?side7 ?side8 A105.out).mono ?_); (case side1 => refine (Kd.R_reads' (e := 2) (base := w.heap.size) (ok := fun k_ => (((((((some k_ ≠ (.slice Ao123 t328.length co123 : Value).ownBlock ∧ some k_ ≠ (.slice Ao30 t266.length co30 : Value).ownBlock) ∧ some k_ ≠ (.slice Ao33 t271.length co33 : Value).ownBlock) ∧ some k_ ≠ (.slice Ao37 t307.length co37 : Value).ownBlock) ∧ some k_ ≠ (.slice Ao46 t312.length co46 : Value).ownBlock) ∧ some k_ ≠ (.slice Ao51 t313.length co51 : Value).ownBlock) ∧ some k_ ≠ (.slice Ao113 t315.length co113 : Value).ownBlock) ∧ some k_ ≠ (.slice Ao114 t320.length co114 : Value).ownBlock)) (n := t323.length) (c := co117) ?_).2.2; exact (kr ((Kd.R_mono (Kd.R_far (p := ⟨gb332, 4, none⟩) (Kd.R_far (p := ⟨gb332, 3, none⟩) (Kd.R_far (p := ⟨gb332, 2, none⟩) (Kd.R_far (p := ⟨gb332, 1, none⟩) (Kd.R_far (p := ⟨gb332, 0, none⟩) (Kd.R_types HO325.out BK332.out (by decide)) (fun _ hk => hk.2) (.slice Ao117 t323.length co117)) (fun _ hk => hk.2) (.int .i64 t326)) (fun _ hk => hk.2) (.int .i64 t327)) (fun _ hk => hk.2) (.slice Ao123 t328.length co123)) (fun _ hk => hk.2) (.int .i64 t331)) (fun _ h_ => h_.1))))); (case side2 => exact (Kd.R_reads' HO325.out).2.1); (case side3 => refine (Kd.R_reads' (e := 2) (base := w.heap.size) (ok := fun k_ => (((((((some k_ ≠ (.slice Ao117 t323.length co117 : Value).ownBlock ∧ some k_ ≠ (.slice Ao30 t266.length co30 : Value).ownBlock) ∧ some k_ ≠ (.slice Ao33 t271.length co33 : Value).ownBlock) ∧ some k_ ≠ (.slice Ao37 t307.length co37 : Value).ownBlock) ∧ some k_ ≠ (.slice Ao46 t312.length co46 : Value).ownBlock) ∧ some k_ ≠ (.slice Ao51 t313.length co51 : Value).ownBlock) ∧ some k_ ≠ (.slice Ao113 t315.length co113 : Value).ownBlock) ∧ some k_ ≠ (.slice Ao114 t320.length co114 : Value).ownBlock)) (n := t328.length) (c := co123) ?_).2.2; exact (kr ((Kd.R_mono (Kd.R_far (p := ⟨gb332, 4, none⟩) (Kd.R_far (p := ⟨gb332, 3, none⟩) (Kd.R_far (p := ⟨gb332, 2, none⟩) (Kd.R_far (p := ⟨gb332, 1, none⟩) (Kd.R_far (p := ⟨gb332, 0, none⟩) (Kd.R_types HO330.out BK332.out (by decide)) (fun _ hk => hk.2) (.slice Ao117 t323.length co117)) (fun _ hk => hk.2) (.int .i64 t326)) (fun _ hk => hk.2) (.int .i64 t327)) (fun _ hk => hk.2) (.slice Ao123 t328.length co123)) (fun _ hk => hk.2) (.int .i64 t331)) (fun _ h_ => h_.1))))); (case side4 => exact (Kd.R_reads' HO330.out).2.1); (case side5 => refine (Kd.R_reads' (e := 2) (base := w.heap.size) (ok := fun k_ => (((((some k_ ≠ (.slice Ao33 t271.length co33 : Value).ownBlock ∧ (some k_ ≠ (.slice Ao37 t307.length co37 : Value).ownBlock ∧ (some k_ ≠ (.slice Ao46 t312.length co46 : Value).ownBlock ∧ some k_ ≠ (.slice Ao51 t313.length co51 : Value).ownBlock))) ∧ some k_ ≠ (.slice Ao113 t315.length co113 : Value).ownBlock) ∧ some k_ ≠ (.slice Ao114 t320.length co114 : Value).ownBlock) ∧ some k_ ≠ (.slice Ao117 t323.length co117 : Value).ownBlock) ∧ some k_ ≠ (.slice Ao123 t328.length co123 : Value).ownBlock)) (n := t266.length) (c := co30) ?_).2.2; exact (kr ((Kd.R_mono (Kd.R_far (p := ⟨gb332, 4, none⟩) (Kd.R_far (p := ⟨gb332, 3, none⟩) (Kd.R_far (p := ⟨gb332, 2, none⟩) (Kd.R_far (p := ⟨gb332, 1, none⟩) (Kd.R_far (p := ⟨gb332, 0, none⟩) (Kd.R_types HO_276000.out BK332.out (by decide)) (fun _ hk => hk.2) (.slice Ao117 t323.length co117)) (fun _ hk => hk.2) (.int .i64 t326)) (fun _ hk => hk.2) (.int .i64 t327)) (fun _ hk => hk.2) (.slice Ao123 t328.length co123)) (fun _ hk => hk.2) (.int .i64 t331)) (fun _ h_ => h_.1))))); (case side6 => exact (Kd.R_reads' HO_276000.out).2.1); (case side7 => refine (Kd.R_reads' (e := 2) (base := w.heap.size) (ok := fun k_ => (((((some k_ ≠ (.slice Ao30 t266.length co30 : Value).ownBlock ∧ (some k_ ≠ (.slice Ao37 t307.length co37 : Value).ownBlock ∧ (some k_ ≠ (.slice Ao46 t312.length co46 : Value).ownBlock ∧ some k_ ≠ (.slice Ao51 t313.length co51 : Value).ownBlock))) ∧ some k_ ≠ (.slice Ao113 t315.length co113 : Value).ownBlock) ∧ some k_ ≠ (.slice Ao114 t320.length co114 : Value).ownBlock) ∧ some k_ ≠ (.slice Ao117 t323.length co117 : Value).ownBlock) ∧ some k_ ≠ (.slice Ao123 t328.length co123 : Value).ownBlock)) (n := t271.length) (c := co33) ?_).2.2; exact (kr ((Kd.R_mono (Kd.R_far (p := ⟨gb332, 4, none⟩) (Kd.R_far (p := ⟨gb332, 3, none⟩) (Kd.R_far (p := ⟨gb332, 2, none⟩) (Kd.R_far (p := ⟨gb332, 1, none⟩) (Kd.R_far (p := ⟨gb332, 0, none⟩) (Kd.R_types HO_276003.out BK332.out (by decide)) (fun _ hk => hk.2) (.slice Ao117 t323.length co117)) (fun _ hk => hk.2) (.int .i64 t326)) (fun _ hk => hk.2) (.int .i64 t327)) (fun _ hk => hk.2) (.slice Ao123 t328.length co123)) (fun _ hk => hk.2) (.int .i64 t331)) (fun _ h_ => h_.1))))); (case side8 => exact (Kd.R_reads' HO_276003.out).2.1); rintro e w127 ⟨rfl, hb⟩; refine ⟨_, rfl, ?_⟩; replace HO_276000 := am (Kd.R_below (kr ((Kd.R_mono (Kd.R_far (p := ⟨gb332, 4, none⟩) (Kd.R_far (p := ⟨gb332, 3, none⟩) (Kd.R_far (p := ⟨gb332, 2, none⟩) (Kd.R_far (p := ⟨gb332, 1, none⟩) (Kd.R_far (p := ⟨gb332, 0, none⟩) (Kd.R_types HO_276000.out BK332.out (by decide)) (fun _ hk => hk.2) (.slice Ao117 t323.length co117)) (fun _ hk => hk.2) (.int .i64 t326)) (fun _ hk => hk.2) (.int .i64 t327)) (fun _ hk => hk.2) (.slice Ao123 t328.length co123)) (fun _ hk => hk.2) (.int .i64 t331)) (fun _ h_ => h_.1)))) hb); replace HO_276003 := am (Kd.R_below (kr ((Kd.R_mono (Kd.R_far (p := ⟨gb332, 4, none⟩) (Kd.R_far (p := ⟨gb332, 3, none⟩) (Kd.R_far (p := ⟨gb332, 2, none⟩) (Kd.R_far (p := ⟨gb332, 1, none⟩) (Kd.R_far (p := ⟨gb332, 0, none⟩) (Kd.R_types HO_276003.out BK332.out (by decide)) (fun _ hk => hk.2) (.slice Ao117 t323.length co117)) (fun _ hk => hk.2) (.int .i64 t326)) (fun _ hk => hk.2) (.int .i64 t327)) (fun _ hk => hk.2) (.slice Ao123 t328.length co123)) (fun _ hk => hk.2) (.int .i64 t331)) (fun _ h_ => h_.1)))) hb); replace HO_282000 := am (Kd.R_below (kr ((Kd.R_mono (Kd.R_far (p := ⟨gb332, 4, none⟩) (Kd.R_far (p := ⟨gb332, 3, none⟩) (Kd.R_far (p := ⟨gb332, 2, none⟩) (Kd.R_far (p := ⟨gb332, 1, none⟩) (Kd.R_far (p := ⟨gb332, 0, none⟩) (Kd.R_types HO_282000.out BK332.out (by decide)) (fun _ hk => hk.2) (.slice Ao117 t323.length co117)) (fun _ hk => hk.2) (.int .i64 t326)) (fun _ hk => hk.2) (.int .i64 t327)) (fun _ hk => hk.2) (.slice Ao123 t328.length co123)) (fun _ hk => hk.2) (.int .i64 t331)) (fun _ h_ => h_.1)))) hb); replace HO_295000 := am (Kd.R_below (kr ((Kd.R_mono (Kd.R_far (p := ⟨gb332, 4, none⟩) (Kd.R_far (p := ⟨gb332, 3, none⟩) (Kd.R_far (p := ⟨gb332, 2, none⟩) (Kd.R_far (p := ⟨gb332, 1, none⟩) (Kd.R_far (p := ⟨gb332, 0, none⟩) (Kd.R_types HO_295000.out BK332.out (by decide)) (fun _ hk => hk.2) (.slice Ao117 t323.length co117)) (fun _ hk => hk.2) (.int .i64 t326)) (fun _ hk => hk.2) (.int .i64 t327)) (fun _ hk => hk.2) (.slice Ao123 t328.length co123)) (fun _ hk => hk.2) (.int .i64 t331)) (fun _ h_ => h_.1)))) hb); replace HO_295003 := am (Kd.R_below (kr ((Kd.R_mono (Kd.R_far (p := ⟨gb332, 4, none⟩) (Kd.R_far (p := ⟨gb332, 3, none⟩) (Kd.R_far (p := ⟨gb332, 2, none⟩) (Kd.R_far (p := ⟨gb332, 1, none⟩) (Kd.R_far (p := ⟨gb332, 0, none⟩) (Kd.R_types HO_295003.out BK332.out (by decide)) (fun _ hk => hk.2) (.slice Ao117 t323.length co117)) (fun _ hk => hk.2) (.int .i64 t326)) (fun _ hk => hk.2) (.int .i64 t327)) (fun _ hk => hk.2) (.slice Ao123 t328.length co123)) (fun _ hk => hk.2) (.int .i64 t331)) (fun _ h_ => h_.1)))) hb); replace HO317 := am (Kd.R_below (kr ((Kd.R_mono (Kd.R_far (p := ⟨gb332, 4, none⟩) (Kd.R_far (p := ⟨gb332, 3, none⟩) (Kd.R_far (p := ⟨gb332, 2, none⟩) (Kd.R_far (p := ⟨gb332, 1, none⟩) (Kd.R_far (p := ⟨gb332, 0, none⟩) (Kd.R_types HO317.out BK332.out (by decide)) (fun _ hk => hk.2) (.slice Ao117 t323.length co117)) (fun _ hk => hk.2) (.int .i64 t326)) (fun _ hk => hk.2) (.int .i64 t327)) (fun _ hk => hk.2) (.slice Ao123 t328.length co123)) (fun _ hk => hk.2) (.int .i64 t331)) (fun _ h_ => h_.1)))) hb); replace HO322 := am (Kd.R_below (kr ((Kd.R_mono (Kd.R_far (p := ⟨gb332, 4, none⟩) (Kd.R_far (p := ⟨gb332, 3, none⟩) (Kd.R_far (p := ⟨gb332, 2, none⟩) (Kd.R_far (p := ⟨gb332, 1, none⟩) (Kd.R_far (p := ⟨gb332, 0, none⟩) (Kd.R_types HO322.out BK332.out (by decide)) (fun _ hk => hk.2) (.slice Ao117 t323.length co117)) (fun _ hk => hk.2) (.int .i64 t326)) (fun _ hk => hk.2) (.int .i64 t327)) (fun _ hk => hk.2) (.slice Ao123 t328.length co123)) (fun _ hk => hk.2) (.int .i64 t331)) (fun _ h_ => h_.1)))) hb); replace HO325 := am (Kd.R_below (kr ((Kd.R_mono (Kd.R_far (p := ⟨gb332, 4, none⟩) (Kd.R_far (p := ⟨gb332, 3, none⟩) (Kd.R_far (p := ⟨gb332, 2, none⟩) (Kd.R_far (p := ⟨gb332, 1, none⟩) (Kd.R_far (p := ⟨gb332, 0, none⟩) (Kd.R_types HO325.out BK332.out (by decide)) (fun _ hk => hk.2) (.slice Ao117 t323.length co117)) (fun _ hk => hk.2) (.int .i64 t326)) (fun _ hk => hk.2) (.int .i64 t327)) (fun _ hk => hk.2) (.slice Ao123 t328.length co123)) (fun _ hk => hk.2) (.int .i64 t331)) (fun _ h_ => h_.1)))) hb); replace HO330 := am (Kd.R_below (kr ((Kd.R_mono (Kd.R_far (p := ⟨gb332, 4, none⟩) (Kd.R_far (p := ⟨gb332, 3, none⟩) (Kd.R_far (p := ⟨gb332, 2, none⟩) (Kd.R_far (p := ⟨gb332, 1, none⟩) (Kd.R_far (p := ⟨gb332, 0, none⟩) (Kd.R_types HO330.out BK332.out (by decide)) (fun _ hk => hk.2) (.slice Ao117 t323.length co117)) (fun _ hk => hk.2) (.int .i64 t326)) (fun _ hk => hk.2) (.int .i64 t327)) (fun _ hk => hk.2) (.slice Ao123 t328.length co123)) (fun _ hk => hk.2) (.int .i64 t331)) (fun _ h_ => h_.1)))) hb); replace BK256 := am (blk_below (g := gb256) (o := .cells #[.slice A0_0 l0_0.length c0_0, .int .i64 a0_1, .int .i64 a0_2] 24 (0, 0)) (by (with_reducible repeat (first | refine blk_drewN ?_ _ | refine blk_drew ?_ | refine blk_alloc ?_ _)); refine blk_far ?_ NB256_332.out _; (with_reducible repeat (first | refine blk_drewN ?_ _ | refine blk_drew ?_ | refine blk_alloc ?_ _)); refine blk_far ?_ NB256_332.out _; (with_reducible repeat (first | refine blk_drewN ?_ _ | refine blk_drew ?_ | refine blk_alloc ?_ _)); refine blk_far ?_ NB256_332.out _; (with_reducible repeat (first | refine blk_drewN ?_ _ | refine blk_drew ?_ | refine blk_alloc ?_ _)); refine blk_far ?_ NB256_332.out _; (with_reducible repeat (first | refine blk_drewN ?_ _ | refine blk_drew ?_ | refine blk_alloc ?_ _)); refine blk_far ?_ NB256_332.out _; (with_reducible repeat (first | refine blk_drewN ?_ _ | refine blk_drew ?_ | refine blk_alloc ?_ _)); exact BK256.out) hb); replace BK275 := am (blk_below (g := gb275) (o := .cells #[.slice Ao30 t266.length co30, .int .i64 t269, .int .i64 t270, .slice Ao33 t271.length co33, .int .i64 t274] 28 (0, 0)) (by (with_reducible repeat (first | refine blk_drewN ?_ _ | refine blk_drew ?_ | refine blk_alloc ?_ _)); refine blk_far ?_ NB275_332.out _; (with_reducible repeat (first | refine blk_drewN ?_ _ | refine blk_drew ?_ | refine blk_alloc ?_ _)); refine blk_far ?_ NB275_332.out _; (with_reducible repeat (first | refine blk_drewN ?_ _ | refine blk_drew ?_ | refine blk_alloc ?_ _)); refine blk_far ?_ NB275_332.out _; (with_reducible repeat (first | refine blk_drewN ?_ _ | refine blk_drew ?_ | refine blk_alloc ?_ _)); refine blk_far ?_ NB275_332.out _; (with_reducible repeat (first | refine blk_drewN ?_ _ | refine blk_drew ?_ | refine blk_alloc ?_ _)); refine blk_far ?_ NB275_332.out _; (with_reducible repeat (first | refine blk_drewN ?_ _ | refine blk_drew ?_ | refine blk_alloc ?_ _)); exact BK275.out) hb); replace BK281 := am (blk_below (g := gb281) (o := .cells #[.slice Ao37 t307.length co37, .int .i64 t279, .int .i64 t280] 26 (0, 0)) (by (with_reducible repeat (first | refine blk_drewN ?_ _ | refine blk_drew ?_ | refine blk_alloc ?_ _)); refine blk_far ?_ NB281_332.out _; (with_reducible repeat (first | refine blk_drewN ?_ _ | refine blk_drew ?_ | refine blk_alloc ?_ _)); refine blk_far ?_ NB281_332.out _; (with_reducible repeat (first | refine blk_drewN ?_ _ | refine blk_drew ?_ | refine blk_alloc ?_ _)); refine blk_far ?_ NB281_332.out _; (with_reducible repeat (first | refine blk_drewN ?_ _ | refine blk_drew ?_ | refine blk_alloc ?_ _)); refine blk_far ?_ NB281_332.out _; (with_reducible repeat (first | refine blk_drewN ?_ _ | refine blk_drew ?_ | refine blk_alloc ?_ _)); refine blk_far ?_ NB281_332.out _; (with_reducible repeat (first | refine blk_drewN ?_ _ | refine blk_drew ?_ | refine blk_alloc ?_ _)); exact BK281.out) hb); replace BK294 := am (blk_below (g := gb294) (o := .cells #[.slice Ao46 t312.length co46, .int .i64 t288, .int .i64 t289, .slice Ao51 t313.length co51, .int .i64 t293] 28 (0, 0)) (by (with_reducible repeat (first | refine blk_drewN ?_ _ | refine blk_drew ?_ | refine blk_alloc ?_ _)); refine blk_far ?_ NB294_332.out _; (with_reducible repeat (first | refine blk_drewN ?_ _ | refine blk_drew ?_ | refine blk_alloc ?_ _)); refine blk_far ?_ NB294_332.out _; (with_reducible repeat (first | refine blk_drewN ?_ _ | refine blk_drew ?_ | refine blk_alloc ?_ _)); refine blk_far ?_ NB294_332.out _; (with_reducible repeat (first | refine blk_drewN ?_ _ | refine blk_drew ?_ | refine blk_alloc ?_ _)); refine blk_far ?_ NB294_332.out _; (with_reducible repeat (first | refine blk_drewN ?_ _ | refine blk_drew ?_ | refine blk_alloc ?_ _)); refine blk_far ?_ NB294_332.out _; (with_reducible repeat (first | refine blk_drewN ?_ _ | refine blk_drew ?_ | refine blk_alloc ?_ _)); exact BK294.out) hb); replace BK332 := am (blk_below (g := gb332) (o := .cells #[.slice Ao117 t323.length co117, .int .i64 t326, .int .i64 t327, .slice Ao123 t328.length co123, .int .i64 t331] 28 (0, 0)) (by (with_reducible repeat (first | refine blk_drewN ?_ _ | refine blk_drew ?_ | refine blk_alloc ?_ _)); refine blk_put (cs := #[.slice Ao117 t323.length co117, .int .i64 t326, .int .i64 t327, .slice Ao123 t328.length co123, .int .i64 0]) ?_ 4 _ rfl; (with_reducible repeat (first | refine blk_drewN ?_ _ | refine blk_drew ?_ | refine blk_alloc ?_ _)); refine blk_put (cs := #[.slice Ao117 t323.length co117, .int .i64 t326, .int .i64 t327, .slice none 0 0, .int .i64 0]) ?_ 3 _ rfl; (with_reducible repeat (first | refine blk_drewN ?_ _ | refine blk_drew ?_ | refine blk_alloc ?_ _)); refine blk_put (cs := #[.slice Ao117 t323.length co117, .int .i64 t326, .int .i64 0, .slice none 0 0, .int .i64 0]) ?_ 2 _ rfl; (with_reducible repeat (first | refine blk_drewN ?_ _ | refine blk_drew ?_ | refine blk_alloc ?_ _)); refine blk_put (cs := #[.slice Ao117 t323.length co117, .int .i64 0, .int .i64 0, .slice none 0 0, .int .i64 0]) ?_ 1 _ rfl; (with_reducible repeat (first | refine blk_drewN ?_ _ | refine blk_drew ?_ | refine blk_alloc ?_ _)); refine blk_put (cs := #[.slice none 0 0, .int .i64 0, .int .i64 0, .slice none 0 0, .int .i64 0]) ?_ 0 _ rfl; (with_reducible repeat (first | refine blk_drewN ?_ _ | refine blk_drew ?_ | refine blk_alloc ?_ _)); exact BK332.out) hb); replace HB := am (below_step (bl HB.out) hb); (try clear hb); (try clear hb2); (try clear hk); (try clear hi)))
                (try simp only [Act.put, sa_, s0_, ss_])
                go_cut [] (fun wc => ∃ (kq : Nat), Aside0 (laws_FnExactBufReplace.j6 kq t311 t312 t288 t289 t313 t293 = some r) ∧ Aside0 (kq ≤ kj91) ∧ Aside0 (Kd.R (Kd.int .i64) 2 wc w.heap.size (fun k_ => some k_ ≠ ((.slice Ao33 t271.length co33) : Value).ownBlock ∧ some k_ ≠ ((.slice Ao37 t307.length co37) : Value).ownBlock ∧ some k_ ≠ ((.slice Ao46 t312.length co46) : Value).ownBlock ∧ some k_ ≠ ((.slice Ao51 t313.length co51) : Value).ownBlock ∧ some k_ ≠ ((.slice Ao117 t323.length co117) : Value).ownBlock ∧ some k_ ≠ ((.slice Ao123 t328.length co123) : Value).ownBlock) (.slice Ao30 t266.length co30) t266) ∧ Aside0 (Kd.R (Kd.int .i64) 2 wc w.heap.size (fun k_ => some k_ ≠ ((.slice Ao30 t266.length co30) : Value).ownBlock ∧ some k_ ≠ ((.slice Ao37 t307.length co37) : Value).ownBlock ∧ some k_ ≠ ((.slice Ao46 t312.length co46) : Value).ownBlock ∧ some k_ ≠ ((.slice Ao51 t313.length co51) : Value).ownBlock ∧ some k_ ≠ ((.slice Ao117 t323.length co117) : Value).ownBlock ∧ some k_ ≠ ((.slice Ao123 t328.length co123) : Value).ownBlock) (.slice Ao33 t271.length co33) t271) ∧ Aside0 (Kd.R (Kd.int .i64) 2 wc w.heap.size (fun k_ => some k_ ≠ ((.slice Ao30 t266.length co30) : Value).ownBlock ∧ some k_ ≠ ((.slice Ao33 t271.length co33) : Value).ownBlock ∧ some k_ ≠ ((.slice Ao46 t312.length co46) : Value).ownBlock ∧ some k_ ≠ ((.slice Ao51 t313.length co51) : Value).ownBlock ∧ some k_ ≠ ((.slice Ao117 t323.length co117) : Value).ownBlock ∧ some k_ ≠ ((.slice Ao123 t328.length co123) : Value).ownBlock) (.slice Ao37 t307.length co37) t307) ∧ Aside0 (Kd.R (Kd.int .i64) 2 wc w.heap.size (fun k_ => some k_ ≠ ((.slice Ao30 t266.length co30) : Value).ownBlock ∧ some k_ ≠ ((.slice Ao33 t271.length co33) : Value).ownBlock ∧ some k_ ≠ ((.slice Ao37 t307.length co37) : Value).ownBlock ∧ some k_ ≠ ((.slice Ao51 t313.length co51) : Value).ownBlock ∧ some k_ ≠ ((.slice Ao117 t323.length co117) : Value).ownBlock ∧ some k_ ≠ ((.slice Ao123 t328.length co123) : Value).ownBlock) (.slice Ao46 t312.length co46) t312) ∧ Aside0 (Kd.R (Kd.int .i64) 2 wc w.heap.size (fun k_ => some k_ ≠ ((.slice Ao30 t266.length co30) : Value).ownBlock ∧ some k_ ≠ ((.slice Ao33 t271.length co33) : Value).ownBlock ∧ some k_ ≠ ((.slice Ao37 t307.length co37) : Value).ownBlock ∧ some k_ ≠ ((.slice Ao46 t312.length co46) : Value).ownBlock ∧ some k_ ≠ ((.slice Ao117 t323.length co117) : Value).ownBlock ∧ some k_ ≠ ((.slice Ao123 t328.length co123) : Value).ownBlock) (.slice Ao51 t313.length co51) t313) ∧ Aside0 (Kd.R (Kd.int .i64) 2 wc w.heap.size (fun k_ => some k_ ≠ ((.slice Ao30 t266.length co30) : Value).ownBlock ∧ some k_ ≠ ((.slice Ao33 t271.length co33) : Value).ownBlock ∧ some k_ ≠ ((.slice Ao37 t307.length co37) : Value).ownBlock ∧ some k_ ≠ ((.slice Ao46 t312.length co46) : Value).ownBlock ∧ some k_ ≠ ((.slice Ao51 t313.length co51) : Value).ownBlock ∧ some k_ ≠ ((.slice Ao123 t328.length co123) : Value).ownBlock) (.slice Ao117 t323.length co117) t323) ∧ Aside0 (Kd.R (Kd.int .i64) 2 wc w.heap.size (fun k_ => some k_ ≠ ((.slice Ao30 t266.length co30) : Value).ownBlock ∧ some k_ ≠ ((.slice Ao33 t271.length co33) : Value).ownBlock ∧ some k_ ≠ ((.slice Ao37 t307.length co37) : Value).ownBlock ∧ some k_ ≠ ((.slice Ao46 t312.length co46) : Value).ownBlock ∧ some k_ ≠ ((.slice Ao51 t313.length co51) : Value).ownBlock ∧ some k_ ≠ ((.slice Ao117 t323.length co117) : Value).ownBlock) (.slice Ao123 t328.length co123) t328) ∧ Aside0 (wc.heap[gb256]? = some (.cells #[(.slice A0_0 l0_0.length c0_0), .int .i64 a0_1, .int .i64 a0_2] 24 (0, 0))) ∧ Aside0 (wc.heap[gb275]? = some (.cells #[(.slice Ao30 t266.length co30), .int .i64 t269, .int .i64 t270, (.slice Ao33 t271.length co33), .int .i64 t274] 28 (0, 0))) ∧ Aside0 (wc.heap[gb281]? = some (.cells #[(.slice Ao37 t307.length co37), .int .i64 t279, .int .i64 t280] 26 (0, 0))) ∧ Aside0 (wc.heap[gb294]? = some (.cells #[(.slice Ao46 t312.length co46), .int .i64 t288, .int .i64 t289, (.slice Ao51 t313.length co51), .int .i64 t293] 28 (0, 0))) ∧ Aside0 (wc.heap[gb332]? = some (.cells #[(.slice Ao117 t323.length co117), .int .i64 t326, .int .i64 t327, (.slice Ao123 t328.length co123), .int .i64 t331] 28 (0, 0))) ∧ Aside0 (Below w.heap.size w wc))
                case first =>
                 have H := HC106.out
                 clear HC106
                 by_cases c128 : t333 = true
                 ·subst c128
                  have H1 : (laws_FnExactBufReplace.j6 kj91 t311 t312 t288 t289 t313 t293) = some r := by rw [if_pos rfl] at H; exact H
                  clear H
                  have H := H1
                  clear H1
                  have H' := Aside0.mk H
                  clear H
                  go_wp2
                  go_meet
                  case rel => exact ⟨_, H', ⟨by have := HJ18.out; have := HJ56.out; have := HJ64.out; have := HJ70.out; have := HJ87.out; have := HJ91.out; first | omega | exact Nat.le_refl _⟩, ⟨by (try simp only [hl282000_70]); (try simp only [hl295000_91]); (try simp only [hl295003_91]); (with_reducible repeat (first | apply Kd.R_alloc | apply Kd.R_drewN | apply Kd.R_drew)); exact Kd.R_mono HO_276000.out (fun _ hk => ⟨hk.1.1.1.1.1, ⟨hk.1.1.1.1.2.1, ⟨hk.1.1.1.1.2.2.1, ⟨hk.1.1.1.1.2.2.2, ⟨hk.1.2, hk.2⟩⟩⟩⟩⟩)⟩, ⟨by (try simp only [hl282000_70]); (try simp only [hl295000_91]); (try simp only [hl295003_91]); (with_reducible repeat (first | apply Kd.R_alloc | apply Kd.R_drewN | apply Kd.R_drew)); exact Kd.R_mono HO_276003.out (fun _ hk => ⟨hk.1.1.1.1.1, ⟨hk.1.1.1.1.2.1, ⟨hk.1.1.1.1.2.2.1, ⟨hk.1.1.1.1.2.2.2, ⟨hk.1.2, hk.2⟩⟩⟩⟩⟩)⟩, ⟨by (try simp only [hl282000_70]); (try simp only [hl295000_91]); (try simp only [hl295003_91]); (with_reducible repeat (first | apply Kd.R_alloc | apply Kd.R_drewN | apply Kd.R_drew)); exact Kd.R_mono HO_282000.out (fun _ hk => ⟨hk.1.1.1.1.1, ⟨hk.1.1.1.1.2.1, ⟨hk.1.1.1.1.2.2.1, ⟨hk.1.1.1.1.2.2.2, ⟨hk.1.2, hk.2⟩⟩⟩⟩⟩)⟩, ⟨by (try simp only [hl282000_70]); (try simp only [hl295000_91]); (try simp only [hl295003_91]); (with_reducible repeat (first | apply Kd.R_alloc | apply Kd.R_drewN | apply Kd.R_drew)); exact Kd.R_mono HO_295000.out (fun _ hk => ⟨hk.1.1.1.1.1, ⟨hk.1.1.1.1.2.1, ⟨hk.1.1.1.1.2.2.1, ⟨hk.1.1.1.1.2.2.2, ⟨hk.1.2, hk.2⟩⟩⟩⟩⟩)⟩, ⟨by (try simp only [hl282000_70]); (try simp only [hl295000_91]); (try simp only [hl295003_91]); (with_reducible repeat (first | apply Kd.R_alloc | apply Kd.R_drewN | apply Kd.R_drew)); exact Kd.R_mono HO_295003.out (fun _ hk => ⟨hk.1.1.1.1.1, ⟨hk.1.1.1.1.2.1, ⟨hk.1.1.1.1.2.2.1, ⟨hk.1.1.1.1.2.2.2, ⟨hk.1.2, hk.2⟩⟩⟩⟩⟩)⟩, ⟨by (try simp only [hl282000_70]); (try simp only [hl295000_91]); (try simp only [hl295003_91]); (with_reducible repeat (first | apply Kd.R_alloc | apply Kd.R_drewN | apply Kd.R_drew)); exact Kd.R_mono HO325.out (fun _ hk => ⟨hk.1.1.1.1.1.1.2, ⟨hk.1.1.1.1.1.2, ⟨hk.1.1.1.1.2, ⟨hk.1.1.1.2, ⟨hk.1.1.2, hk.1.1.1.1.1.1.1⟩⟩⟩⟩⟩)⟩, ⟨by (try simp only [hl282000_70]); (try simp only [hl295000_91]); (try simp only [hl295003_91]); (with_reducible repeat (first | apply Kd.R_alloc | apply Kd.R_drewN | apply Kd.R_drew)); exact Kd.R_mono HO330.out (fun _ hk => ⟨hk.1.1.1.1.1.1.2, ⟨hk.1.1.1.1.1.2, ⟨hk.1.1.1.1.2, ⟨hk.1.1.1.2, ⟨hk.1.1.2, hk.1.1.1.1.1.1.1⟩⟩⟩⟩⟩)⟩, ⟨by (try simp only [hl282000_70]); (try simp only [hl295000_91]); (try simp only [hl295003_91]); (with_reducible repeat (first | refine blk_drewN ?_ _ | refine blk_drew ?_ | refine blk_alloc ?_ _)); exact BK256.out⟩, ⟨by (try simp only [hl282000_70]); (try simp only [hl295000_91]); (try simp only [hl295003_91]); (with_reducible repeat (first | refine blk_drewN ?_ _ | refine blk_drew ?_ | refine blk_alloc ?_ _)); exact BK275.out⟩, ⟨by (try simp only [hl282000_70]); (try simp only [hl295000_91]); (try simp only [hl295003_91]); (with_reducible repeat (first | refine blk_drewN ?_ _ | refine blk_drew ?_ | refine blk_alloc ?_ _)); exact BK281.out⟩, ⟨by (try simp only [hl282000_70]); (try simp only [hl295000_91]); (try simp only [hl295003_91]); (with_reducible repeat (first | refine blk_drewN ?_ _ | refine blk_drew ?_ | refine blk_alloc ?_ _)); exact BK294.out⟩, ⟨by (try simp only [hl282000_70]); (try simp only [hl295000_91]); (try simp only [hl295003_91]); (with_reducible repeat (first | refine blk_drewN ?_ _ | refine blk_drew ?_ | refine blk_alloc ?_ _)); exact BK332.out⟩, ⟨by repeat (first | (with_reducible first | exact HB.out | apply below_alloc | apply pw_below_drewN | apply below_drew1 | refine below_set ?_ GE256.out | refine below_set ?_ GE275.out | refine below_set ?_ GE281.out | refine below_set ?_ GE294.out | refine below_set ?_ GE332.out) | exact HB.out)⟩⟩
                 ·replace c128 := Bool.eq_false_iff.mpr c128
                  subst c128
                  have H1 : (some false) = some r := by rw [if_neg (show ¬ (false = true) by decide)] at H; exact H
                  clear H
                  have H := H1
                  clear H1
                  obtain rfl := Option.some.inj H
                  go_wp2
                  go_ret
                  exact ⟨by first | rfl | (simp [errW_none, errW_some] <;> rfl) | (simp [*, errW_none, errW_some] <;> rfl), by repeat (first | (with_reducible first | exact HB.out | apply below_alloc | apply pw_below_drewN | apply below_drew1 | refine below_set ?_ GE256.out | refine below_set ?_ GE275.out | refine below_set ?_ GE281.out | refine below_set ?_ GE294.out | refine below_set ?_ GE332.out) | exact HB.out)⟩
                case rest =>
                 clear HC106
                 try clear c1
                 try clear c2
                 try clear p2
                 try clear c3
                 try clear c4
                 try clear c5
                 try clear c5b0
                 try clear c5b1
                 try clear c6
                 try clear c7
                 try clear c8
                 try clear c8b0
                 try clear c9
                 try clear c10
                 try clear c11
                 try clear c12
                 try clear c13
                 try clear c14
                 try clear c15
                 try clear c16
                 try clear c17
                 try clear c18
                 try clear c19
                 try clear c20
                 try clear c31
                 try clear c38
                 try clear c39
                 try clear c47
                 try clear c48
                 try clear c49
                 try clear c54
                 try clear c62
                 try clear c68
                 try clear c72
                 try clear c73
                 try clear c74
                 try clear c78
                 try clear c78b0
                 try clear c80
                 try clear c81
                 try clear c82
                 try clear c84
                 try clear c85
                 try clear c89
                 try clear c93
                 try clear c94
                 try clear c95
                 try clear c100
                 try clear c100b0
                 try clear c101
                 try clear c101b0
                 try clear c101b1
                 try clear c107
                 try clear c108
                 try clear c109
                 try clear c118
                 try clear c119
                 try clear c120
                 try clear c121
                 try clear c124
                 try clear c125
                 try clear c128
                 try clear hcz10_0
                 try clear hcz10_1
                 try clear hcz10_2
                 try clear hcz110_0
                 try clear hcz110_1
                 try clear hcz110_2
                 try clear hcz122_0
                 try clear hcz122_1
                 try clear hcz122_2
                 try clear hcz122_3
                 try clear hcz122_4
                 try clear hcz126_0
                 try clear hcz126_1
                 try clear hcz126_2
                 try clear hcz126_3
                 try clear hcz126_4
                 try clear hcz21_0
                 try clear hcz21_1
                 try clear hcz21_2
                 try clear hcz23_0
                 try clear hcz23_1
                 try clear hcz23_2
                 try clear hcz32_0
                 try clear hcz32_1
                 try clear hcz32_2
                 try clear hcz32_3
                 try clear hcz32_4
                 try clear hcz34_0
                 try clear hcz34_1
                 try clear hcz34_2
                 try clear hcz40_0
                 try clear hcz40_1
                 try clear hcz40_2
                 try clear hcz42_0
                 try clear hcz42_1
                 try clear hcz42_2
                 try clear hcz50_0
                 try clear hcz50_1
                 try clear hcz50_2
                 try clear hcz50_3
                 try clear hcz50_4
                 try clear hcz52_0
                 try clear hcz52_1
                 try clear hcz52_2
                 try clear hcz52_3
                 try clear hcz52_4
                 try clear hcz75_0
                 try clear hcz75_1
                 try clear hcz75_2
                 try clear hcz83_0
                 try clear hcz83_1
                 try clear hcz83_2
                 try clear hcz83_3
                 try clear hcz83_4
                 try clear hcz86_0
                 try clear hcz86_1
                 try clear hcz86_2
                 try clear hcz86_3
                 try clear hcz86_4
                 try clear hcz96_0
                 try clear hcz96_1
                 try clear hcz96_2
                 try clear hcz96_3
                 try clear hcz96_4
                 try clear hcz98_0
                 try clear hcz98_1
                 try clear hcz98_2
                 try clear hcz98_3
                 try clear hcz98_4
                 try clear hfz10_0
                 try clear hfz10_1
                 try clear hfz10_2
                 try clear hfz110_0
                 try clear hfz110_1
                 try clear hfz110_2
                 try clear hfz122_0
                 try clear hfz122_1
                 try clear hfz122_2
                 try clear hfz122_3
                 try clear hfz122_4
                 try clear hfz126_0
                 try clear hfz126_1
                 try clear hfz126_2
                 try clear hfz126_3
                 try clear hfz126_4
                 try clear hfz21_0
                 try clear hfz21_1
                 try clear hfz21_2
                 try clear hfz23_0
                 try clear hfz23_1
                 try clear hfz23_2
                 try clear hfz32_0
                 try clear hfz32_1
                 try clear hfz32_2
                 try clear hfz32_3
                 try clear hfz32_4
                 try clear hfz34_0
                 try clear hfz34_1
                 try clear hfz34_2
                 try clear hfz40_0
                 try clear hfz40_1
                 try clear hfz40_2
                 try clear hfz42_0
                 try clear hfz42_1
                 try clear hfz42_2
                 try clear hfz50_0
                 try clear hfz50_1
                 try clear hfz50_2
                 try clear hfz50_3
                 try clear hfz50_4
                 try clear hfz52_0
                 try clear hfz52_1
                 try clear hfz52_2
                 try clear hfz52_3
                 try clear hfz52_4
                 try clear hfz75_0
                 try clear hfz75_1
                 try clear hfz75_2
                 try clear hfz83_0
                 try clear hfz83_1
                 try clear hfz83_2
                 try clear hfz83_3
                 try clear hfz83_4
                 try clear hfz86_0
                 try clear hfz86_1
                 try clear hfz86_2
                 try clear hfz86_3
                 try clear hfz86_4
                 try clear hfz96_0
                 try clear hfz96_1
                 try clear hfz96_2
                 try clear hfz96_3
                 try clear hfz96_4
                 try clear hfz98_0
                 try clear hfz98_1
                 try clear hfz98_2
                 try clear hfz98_3
                 try clear hfz98_4
                 try clear p2
                 obtain ⟨kq, HA, HJ105, HO_276000, HO_276003, HO_282000, HO_295000, HO_295003, HO_333000, HO_333003, BK256, BK275, BK281, BK294, BK332, HB⟩ := hcut
                 cases kq with
                 | zero => exact absurd HA.out (by simp [laws_FnExactBufReplace.j6])
                 | succ kj105 =>
                  have H := HA.out
                  clear HA
                  simp only [laws_FnExactBufReplace.j6] at H
                  replace H := Option.bind_eq_some_iff.mp H
                  obtain ⟨t334, A1290, H⟩ := H
                  replace H : (if t334 < 0 then (some false) else (if t334 = t311 then (some true) else (some false))) = some r := H
                  have A129 := Aside0.mk A1290
                  clear A1290
                  by_cases c130 : t334 < 0
                  ·rw [if_pos c130] at H
                   have c130b0 : decide (t334 < 0) = true := decide_eq_true c130
                   clear c130
                   obtain rfl := Option.some.inj H
                   have hnb131 := NB294_256.out
                   have hnc131 := NB256_294.out
                   have hnb132 := NB294_275.out
                   have hnc132 := NB275_294.out
                   have hnb133 := NB294_281.out
                   have hnc133 := NB281_294.out
                   have hnb134 := NB294_332.out
                   have hnc134 := NB332_294.out
                   have hcz135_0 : wc.cell? ⟨gb294, 0, none⟩ = some (.slice Ao46 t312.length co46) := bc BK294.out 0
                   have hcz135_1 : wc.cell? ⟨gb294, 1, none⟩ = some (.int .i64 t288) := bc BK294.out 1
                   have hcz135_2 : wc.cell? ⟨gb294, 2, none⟩ = some (.int .i64 t289) := bc BK294.out 2
                   have hcz135_3 : wc.cell? ⟨gb294, 3, none⟩ = some (.slice Ao51 t313.length co51) := bc BK294.out 3
                   have hcz135_4 : wc.cell? ⟨gb294, 4, none⟩ = some (.int .i64 t293) := bc BK294.out 4
                   have hfz135_0 := blk_frozen BK294.out 0
                   have hfz135_1 := blk_frozen BK294.out 1
                   have hfz135_2 := blk_frozen BK294.out 2
                   have hfz135_3 := blk_frozen BK294.out 3
                   have hfz135_4 := blk_frozen BK294.out 4
                   go_wp2_with (first | ((with_reducible refine gate_callee (f := 20) rfl ?_); refine gl (some 94) Try.func20 #[.agg #[.slice Ao46 t312.length co46, .int .i64 t288, .int .i64 t289, .slice Ao51 t313.length co51, .int .i64 t293], .int .i64 1] ?_; (with_reducible refine (laws_heldBufOut.calls kj105 _ _ t312 t288 t289 _ _ t313 t293 1 t334 _ ?side1 ?side2 ?side3 ?side4 A129.out).mono ?_); (case side1 => repeat (first | exact (Kd.R_reads' HO_295000.out).2.2 | (with_reducible refine Kd.C_alloc ?_ _) | (with_reducible refine Kd.C_drewN ?_ _) | (with_reducible refine Kd.C_drew ?_))); (case side2 => exact (Kd.R_reads' HO_295000.out).2.1); (case side3 => repeat (first | exact (Kd.R_reads' HO_295003.out).2.2 | (with_reducible refine Kd.C_alloc ?_ _) | (with_reducible refine Kd.C_drewN ?_ _) | (with_reducible refine Kd.C_drew ?_))); (case side4 => exact (Kd.R_reads' HO_295003.out).2.1); rintro e w136 ⟨rfl, hb⟩; refine ⟨_, rfl, ?_⟩; replace HO_276000 := am (Kd.R_below (kr HO_276000.out) hb); replace HO_276003 := am (Kd.R_below (kr HO_276003.out) hb); replace HO_282000 := am (Kd.R_below (kr HO_282000.out) hb); replace HO_295000 := am (Kd.R_below (kr HO_295000.out) hb); replace HO_295003 := am (Kd.R_below (kr HO_295003.out) hb); replace HO_333000 := am (Kd.R_below (kr HO_333000.out) hb); replace HO_333003 := am (Kd.R_below (kr HO_333003.out) hb); replace BK256 := am (blk_below (pk BK256.out) hb); replace BK275 := am (blk_below (pk BK275.out) hb); replace BK281 := am (blk_below (pk BK281.out) hb); replace BK294 := am (blk_below (pk BK294.out) hb); replace BK332 := am (blk_below (pk BK332.out) hb); replace HB := am (below_step (bl HB.out) hb); (try clear hb); (try clear hb2); (try clear hk); (try clear hi)))
                   go_ret
                   exact ⟨by first | rfl | (simp [errW_none, errW_some] <;> rfl) | (simp [*, errW_none, errW_some] <;> rfl), by repeat (first | (with_reducible first | exact HB.out | apply below_alloc | apply pw_below_drewN | apply below_drew1 | refine below_set ?_ GE256.out | refine below_set ?_ GE275.out | refine below_set ?_ GE281.out | refine below_set ?_ GE294.out | refine below_set ?_ GE332.out) | exact HB.out)⟩
                  ·rw [if_neg c130] at H
                   have c130b0 : decide (t334 < 0) = false := decide_eq_false c130
                   clear c130
                   by_cases c137 : t334 = t311
                   ·rw [if_pos c137] at H
                    have c137b0 : (t334 == t311) = true := beq_iff_eq.mpr c137
                    have c137b1 : (t334 != t311) = false := bne_eq_false_iff_eq.mpr c137
                    clear c137
                    obtain rfl := Option.some.inj H
                    have hnb138 := NB294_256.out
                    have hnc138 := NB256_294.out
                    have hnb139 := NB294_275.out
                    have hnc139 := NB275_294.out
                    have hnb140 := NB294_281.out
                    have hnc140 := NB281_294.out
                    have hnb141 := NB294_332.out
                    have hnc141 := NB332_294.out
                    have hcz142_0 : wc.cell? ⟨gb294, 0, none⟩ = some (.slice Ao46 t312.length co46) := bc BK294.out 0
                    have hcz142_1 : wc.cell? ⟨gb294, 1, none⟩ = some (.int .i64 t288) := bc BK294.out 1
                    have hcz142_2 : wc.cell? ⟨gb294, 2, none⟩ = some (.int .i64 t289) := bc BK294.out 2
                    have hcz142_3 : wc.cell? ⟨gb294, 3, none⟩ = some (.slice Ao51 t313.length co51) := bc BK294.out 3
                    have hcz142_4 : wc.cell? ⟨gb294, 4, none⟩ = some (.int .i64 t293) := bc BK294.out 4
                    have hfz142_0 := blk_frozen BK294.out 0
                    have hfz142_1 := blk_frozen BK294.out 1
                    have hfz142_2 := blk_frozen BK294.out 2
                    have hfz142_3 := blk_frozen BK294.out 3
                    have hfz142_4 := blk_frozen BK294.out 4
                    go_wp2_with (first | ((with_reducible refine gate_callee (f := 20) rfl ?_); refine gl (some 94) Try.func20 #[.agg #[.slice Ao46 t312.length co46, .int .i64 t288, .int .i64 t289, .slice Ao51 t313.length co51, .int .i64 t293], .int .i64 1] ?_; (with_reducible refine (laws_heldBufOut.calls kj105 _ _ t312 t288 t289 _ _ t313 t293 1 t334 _ ?side1 ?side2 ?side3 ?side4 A129.out).mono ?_); (case side1 => repeat (first | exact (Kd.R_reads' HO_295000.out).2.2 | (with_reducible refine Kd.C_alloc ?_ _) | (with_reducible refine Kd.C_drewN ?_ _) | (with_reducible refine Kd.C_drew ?_))); (case side2 => exact (Kd.R_reads' HO_295000.out).2.1); (case side3 => repeat (first | exact (Kd.R_reads' HO_295003.out).2.2 | (with_reducible refine Kd.C_alloc ?_ _) | (with_reducible refine Kd.C_drewN ?_ _) | (with_reducible refine Kd.C_drew ?_))); (case side4 => exact (Kd.R_reads' HO_295003.out).2.1); rintro e w143 ⟨rfl, hb⟩; refine ⟨_, rfl, ?_⟩; replace HO_276000 := am (Kd.R_below (kr HO_276000.out) hb); replace HO_276003 := am (Kd.R_below (kr HO_276003.out) hb); replace HO_282000 := am (Kd.R_below (kr HO_282000.out) hb); replace HO_295000 := am (Kd.R_below (kr HO_295000.out) hb); replace HO_295003 := am (Kd.R_below (kr HO_295003.out) hb); replace HO_333000 := am (Kd.R_below (kr HO_333000.out) hb); replace HO_333003 := am (Kd.R_below (kr HO_333003.out) hb); replace BK256 := am (blk_below (pk BK256.out) hb); replace BK275 := am (blk_below (pk BK275.out) hb); replace BK281 := am (blk_below (pk BK281.out) hb); replace BK294 := am (blk_below (pk BK294.out) hb); replace BK332 := am (blk_below (pk BK332.out) hb); replace HB := am (below_step (bl HB.out) hb); (try clear hb); (try clear hb2); (try clear hk); (try clear hi)))
                    go_ret
                    exact ⟨by first | rfl | (simp [errW_none, errW_some] <;> rfl) | (simp [*, errW_none, errW_some] <;> rfl), by repeat (first | (with_reducible first | exact HB.out | apply below_alloc | apply pw_below_drewN | apply below_drew1 | refine below_set ?_ GE256.out | refine below_set ?_ GE275.out | refine below_set ?_ GE281.out | refine below_set ?_ GE294.out | refine below_set ?_ GE332.out) | exact HB.out)⟩
                   ·rw [if_neg c137] at H
                    have c137b0 : (t334 == t311) = false := beq_eq_false_iff_ne.mpr c137
                    have c137b1 : (t334 != t311) = true := bne_iff_ne.mpr c137
                    obtain rfl := Option.some.inj H
                    have hnb144 := NB294_256.out
                    have hnc144 := NB256_294.out
                    have hnb145 := NB294_275.out
                    have hnc145 := NB275_294.out
                    have hnb146 := NB294_281.out
                    have hnc146 := NB281_294.out
                    have hnb147 := NB294_332.out
                    have hnc147 := NB332_294.out
                    have hcz148_0 : wc.cell? ⟨gb294, 0, none⟩ = some (.slice Ao46 t312.length co46) := bc BK294.out 0
                    have hcz148_1 : wc.cell? ⟨gb294, 1, none⟩ = some (.int .i64 t288) := bc BK294.out 1
                    have hcz148_2 : wc.cell? ⟨gb294, 2, none⟩ = some (.int .i64 t289) := bc BK294.out 2
                    have hcz148_3 : wc.cell? ⟨gb294, 3, none⟩ = some (.slice Ao51 t313.length co51) := bc BK294.out 3
                    have hcz148_4 : wc.cell? ⟨gb294, 4, none⟩ = some (.int .i64 t293) := bc BK294.out 4
                    have hfz148_0 := blk_frozen BK294.out 0
                    have hfz148_1 := blk_frozen BK294.out 1
                    have hfz148_2 := blk_frozen BK294.out 2
                    have hfz148_3 := blk_frozen BK294.out 3
                    have hfz148_4 := blk_frozen BK294.out 4
                    go_wp2_with (first | ((with_reducible refine gate_callee (f := 20) rfl ?_); refine gl (some 94) Try.func20 #[.agg #[.slice Ao46 t312.length co46, .int .i64 t288, .int .i64 t289, .slice Ao51 t313.length co51, .int .i64 t293], .int .i64 1] ?_; (with_reducible refine (laws_heldBufOut.calls kj105 _ _ t312 t288 t289 _ _ t313 t293 1 t334 _ ?side1 ?side2 ?side3 ?side4 A129.out).mono ?_); (case side1 => repeat (first | exact (Kd.R_reads' HO_295000.out).2.2 | (with_reducible refine Kd.C_alloc ?_ _) | (with_reducible refine Kd.C_drewN ?_ _) | (with_reducible refine Kd.C_drew ?_))); (case side2 => exact (Kd.R_reads' HO_295000.out).2.1); (case side3 => repeat (first | exact (Kd.R_reads' HO_295003.out).2.2 | (with_reducible refine Kd.C_alloc ?_ _) | (with_reducible refine Kd.C_drewN ?_ _) | (with_reducible refine Kd.C_drew ?_))); (case side4 => exact (Kd.R_reads' HO_295003.out).2.1); rintro e w149 ⟨rfl, hb⟩; refine ⟨_, rfl, ?_⟩; replace HO_276000 := am (Kd.R_below (kr HO_276000.out) hb); replace HO_276003 := am (Kd.R_below (kr HO_276003.out) hb); replace HO_282000 := am (Kd.R_below (kr HO_282000.out) hb); replace HO_295000 := am (Kd.R_below (kr HO_295000.out) hb); replace HO_295003 := am (Kd.R_below (kr HO_295003.out) hb); replace HO_333000 := am (Kd.R_below (kr HO_333000.out) hb); replace HO_333003 := am (Kd.R_below (kr HO_333003.out) hb); replace BK256 := am (blk_below (pk BK256.out) hb); replace BK275 := am (blk_below (pk BK275.out) hb); replace BK281 := am (blk_below (pk BK281.out) hb); replace BK294 := am (blk_below (pk BK294.out) hb); replace BK332 := am (blk_below (pk BK332.out) hb); replace HB := am (below_step (bl HB.out) hb); (try clear hb); (try clear hb2); (try clear hk); (try clear hi)))
                    go_ret
                    exact ⟨by first | rfl | (simp [errW_none, errW_some] <;> rfl) | (simp [*, errW_none, errW_some] <;> rfl), by repeat (first | (with_reducible first | exact HB.out | apply below_alloc | apply pw_below_drewN | apply below_drew1 | refine below_set ?_ GE256.out | refine below_set ?_ GE275.out | refine below_set ?_ GE281.out | refine below_set ?_ GE294.out | refine below_set ?_ GE332.out) | exact HB.out)⟩
               ·rw [if_neg c101] at H
                have c101b0 : (t314 == t311) = false := beq_eq_false_iff_ne.mpr c101
                have c101b1 : (t314 != t311) = true := bne_iff_ne.mpr c101
                obtain rfl := Option.some.inj H
                go_wp2
                go_ret
                exact ⟨by first | rfl | (simp [errW_none, errW_some] <;> rfl) | (simp [*, errW_none, errW_some] <;> rfl), by repeat (first | (with_reducible first | exact HB.out | apply below_alloc | apply pw_below_drewN | apply below_drew1 | refine below_set ?_ GE256.out | refine below_set ?_ GE275.out | refine below_set ?_ GE281.out | refine below_set ?_ GE294.out) | exact HB.out)⟩

/-- THE ONE PURE STATEMENT of laws_FnExactBufReplace. -/
def laws_FnExactBufReplace.Pure : Prop := ∀ (l0_0 : List Int) (a0_1 : Int) (a0_2 : Int) (a1 : Int) (a2 : Int) (l3 : List Int), ((l0_0.length ≤ maxLen ∧ ∀ y0_ ∈ l0_0, (Lit.int .i64 y0_).wf = true) ∧ (Lit.int .i64 a0_1).wf = true ∧ (Lit.int .i64 a0_2).wf = true) → (Lit.int .i64 a1).wf = true → (Lit.int .i64 a2).wf = true → (l3.length ≤ maxLen ∧ ∀ y1_ ∈ l3, (Lit.int .i64 y1_).wf = true) → ∃ k, laws_FnExactBufReplace.f k l0_0 a0_1 a0_2 a1 a2 l3 = some true

end Go.Proofs.Ytejgkbejdkaccaa.PFnExactBufReplace
