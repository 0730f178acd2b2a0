-- Written by xprint.py (this claim's own program, over the kit's printer); Lean checks it.
import Derived.Test.YtejgkbejdkaccaaPFnExactBufInsertx0
import Derived.Test.YtejgkbejdkaccaaPFnExactBufInsertx1
import Derived.Test.YtejgkbejdkaccaaPFnExactBufInsertx2
import Derived.Test.YtejgkbejdkaccaaPFnExactBufInsertx4
import Derived.Test.YtejgkbejdkaccaaPFnExactBufInsertx6
namespace Go.Proofs.Ytejgkbejdkaccaa.PFnExactBufInsert
open Go.RowKit Go.Proofs.YtejgkbejdkaccaaW.PrintWords Go.Proofs.YtejgkbejdkaccaaW.PrintLast Go.Proofs.YtejgkbejdkaccaaW.PrintMore
attribute [local go_sem] max2_int min2_int max_two min_two max_three min_three max_four min_four   -- for this text's walks alone
set_option linter.unusedVariables false
set_option linter.unusedSimpArgs false   -- squeezed

/-! ### laws_FnExactBufInsert: function 4 -/
mutual
def laws_FnExactBufInsert.j0 : Nat → List Int → List Int → List Int → Int → Int → List Int → Int → Int → List Int → Int → List Int → Int → Int → List Int → Int → Int → List Int → Int → Option (Bool)
 | 0, _, _, _, _, _, _, _, _, _, _, _, _, _, _, _, _, _, _ => none
 | k + 1, x1, x8, x279000, x279001, x279002, x298000, x298001, x298002, x298003, x298004, x304000, x304001, x304002, x317000, x317001, x317002, x317003, x317004 => (laws_toBuf.f k x279000 x279001 x279002).bind fun bt318 => ((laws_eqBuf.f k x304000 x304001 x304002 bt318.1 bt318.2.1 bt318.2.2).bind fun t323 => (if t323 = true then (laws_FnExactBufInsert.j1 k x1 x8 x279000 x279001 x279002 x298000 x298001 x298002 x298003 x298004 x304000 x304001 x304002 x317000 x317001 x317002 x317003 x317004) else (some false)))
def laws_FnExactBufInsert.j1 : Nat → List Int → List Int → List Int → Int → Int → List Int → Int → Int → List Int → Int → List Int → Int → Int → List Int → Int → Int → List Int → Int → Option (Bool)
 | 0, _, _, _, _, _, _, _, _, _, _, _, _, _, _, _, _, _, _ => none
 | k + 1, x1, x8, x279000, x279001, x279002, x298000, x298001, x298002, x298003, x298004, x304000, x304001, x304002, x317000, x317001, x317002, x317003, x317004 => (laws_toInt64S.f k x1).bind fun t324 => ((laws_eqInt64S.f k x8 t324).bind fun t327 => (if t327 = true then (laws_FnExactBufInsert.j2 k x1 x8 x279000 x279001 x279002 x298000 x298001 x298002 x298003 x298004 x304000 x304001 x304002 x317000 x317001 x317002 x317003 x317004) else (some false)))
def laws_FnExactBufInsert.j2 : Nat → List Int → List Int → List Int → Int → Int → List Int → Int → Int → List Int → Int → List Int → Int → Int → List Int → Int → Int → List Int → Int → Option (Bool)
 | 0, _, _, _, _, _, _, _, _, _, _, _, _, _, _, _, _, _, _ => none
 | k + 1, x1, x8, x279000, x279001, x279002, x298000, x298001, x298002, x298003, x298004, x304000, x304001, x304002, x317000, x317001, x317002, x317003, x317004 => (laws_markBuf.f k x304000 x304001 x304002 1).bind fun bt328 => ((laws_markInt64S.f k x8 bt328.1).bind fun bt330 => (if bt330.1 < 0 then (laws_FnExactBufInsert.j3 k x1 true x279000 x279001 x279002 x298000 x298001 x298002 x298003 x298004 x317000 x317001 x317002 x317003 x317004) else ((laws_eqBufOut.f k x317000 x317001 x317002 x317003 x317004 x298000 x298001 x298002 x298003 x298004).bind fun t332 => (laws_FnExactBufInsert.j3 k x1 (!t332) x279000 x279001 x279002 x298000 x298001 x298002 x298003 x298004 x317000 x317001 x317002 x317003 x317004))))
def laws_FnExactBufInsert.j3 : Nat → List Int → Bool → List Int → Int → Int → List Int → Int → Int → List Int → Int → List Int → Int → Int → List Int → Int → Option (Bool)
 | 0, _, _, _, _, _, _, _, _, _, _, _, _, _, _, _ => none
 | k + 1, x1, x61, x279000, x279001, x279002, x298000, x298001, x298002, x298003, x298004, x317000, x317001, x317002, x317003, x317004 => if x61 = true then (some false) else (laws_FnExactBufInsert.j4 k x1 x279000 x279001 x279002 x298000 x298001 x298002 x298003 x298004 x317000 x317001 x317002 x317003 x317004)
def laws_FnExactBufInsert.j4 : Nat → List Int → List Int → Int → Int → List Int → Int → Int → List Int → Int → List Int → Int → Int → List Int → Int → Option (Bool)
 | 0, _, _, _, _, _, _, _, _, _, _, _, _, _, _ => none
 | k + 1, x1, x279000, x279001, x279002, x298000, x298001, x298002, x298003, x298004, x317000, x317001, x317002, x317003, x317004 => (laws_markBufOut.f k x317000 x317001 x317002 x317003 x317004 1).bind fun bt333 => ((laws_heldBufOut.f k bt333.2.1 x317001 x317002 bt333.2.2 x317004 1).bind fun t336 => (if t336 < 0 then (some false) else (laws_FnExactBufInsert.j5 k x1 bt333.1 t336 x279000 x279001 x279002 x298000 x298001 x298002 x298003 x298004 bt333.2.1 x317001 x317002 bt333.2.2 x317004)))
def laws_FnExactBufInsert.j5 : Nat → List Int → Int → Int → List Int → Int → Int → List Int → Int → Int → List Int → Int → List Int → Int → Int → List Int → Int → Option (Bool)
 | 0, _, _, _, _, _, _, _, _, _, _, _, _, _, _, _, _ => none
 | k + 1, x1, x11, x12, x279000, x279001, x279002, x298000, x298001, x298002, x298003, x298004, x317000, x317001, x317002, x317003, x317004 => if x12 = x11 then ((laws_toBuf.f k x279000 x279001 x279002).bind fun bt337 => ((laws_toInt64S.f k x1).bind fun t342 => ((impl_BufInsert.f k bt337.1 bt337.2.1 bt337.2.2 t342).bind fun bt345 => ((laws_eqBufOut.f k bt345.1 bt345.2.1 bt345.2.2.1 bt345.2.2.2.1 bt345.2.2.2.2 x298000 x298001 x298002 x298003 x298004).bind fun t355 => (if t355 = true then (laws_FnExactBufInsert.j6 k x11 x317000 x317001 x317002 x317003 x317004) else (some false)))))) else (some false)
def laws_FnExactBufInsert.j6 : Nat → Int → List Int → Int → Int → List Int → Int → Option (Bool)
 | 0, _, _, _, _, _, _ => none
 | k + 1, x11, x317000, x317001, x317002, x317003, x317004 => (laws_heldBufOut.f k x317000 x317001 x317002 x317003 x317004 1).bind fun t356 => (if t356 < 0 then (some false) else (if t356 = x11 then (some true) else (some false)))
end
def laws_FnExactBufInsert.f (k : Nat) (l0_0 : List Int) (a0_1 : Int) (a0_2 : Int) (l1 : List Int) : Option (Bool) := if (l1.length : Int) > 1048576 then (some true) else ((laws_szBuf.f l0_0 a0_1 a0_2 1048576).bind fun t279 => (if t279 < 0 then (some true) else ((laws_toBuf.f k l0_0 a0_1 a0_2).bind fun bt280 => ((laws_toInt64S.f k l1).bind fun t285 => ((spec_BufInsert.f k bt280.1 bt280.2.1 bt280.2.2 t285).bind fun bt288 => ((laws_toBuf.f k l0_0 a0_1 a0_2).bind fun bt298 => ((laws_toInt64S.f k l1).bind fun t304 => ((impl_BufInsert.f k bt298.1 bt298.2.1 bt298.2.2 t304).bind fun bt307 => ((laws_eqBufOut.f k bt307.1 bt307.2.1 bt307.2.2.1 bt307.2.2.2.1 bt307.2.2.2.2 bt288.1 bt288.2.1 bt288.2.2.1 bt288.2.2.2.1 bt288.2.2.2.2).bind fun t317 => (if t317 = true then (laws_FnExactBufInsert.j0 k l1 t304 l0_0 a0_1 a0_2 bt288.1 bt288.2.1 bt288.2.2.1 bt288.2.2.2.1 bt288.2.2.2.2 bt298.1 bt298.2.1 bt298.2.2 bt307.1 bt307.2.1 bt307.2.2.1 bt307.2.2.2.1 bt307.2.2.2.2) else (some false)))))))))))
theorem laws_FnExactBufInsert.mono_l : ∀ k, (∀ y0 y1 y2 y3 y4 y5 y6 y7 y8 y9 y10 y11 y12 y13 y14 y15 y16 y17, LeO (laws_FnExactBufInsert.j0 k y0 y1 y2 y3 y4 y5 y6 y7 y8 y9 y10 y11 y12 y13 y14 y15 y16 y17) (laws_FnExactBufInsert.j0 (k + 1) y0 y1 y2 y3 y4 y5 y6 y7 y8 y9 y10 y11 y12 y13 y14 y15 y16 y17)) ∧ (∀ y0 y1 y2 y3 y4 y5 y6 y7 y8 y9 y10 y11 y12 y13 y14 y15 y16 y17, LeO (laws_FnExactBufInsert.j1 k y0 y1 y2 y3 y4 y5 y6 y7 y8 y9 y10 y11 y12 y13 y14 y15 y16 y17) (laws_FnExactBufInsert.j1 (k + 1) y0 y1 y2 y3 y4 y5 y6 y7 y8 y9 y10 y11 y12 y13 y14 y15 y16 y17)) ∧ (∀ y0 y1 y2 y3 y4 y5 y6 y7 y8 y9 y10 y11 y12 y13 y14 y15 y16 y17, LeO (laws_FnExactBufInsert.j2 k y0 y1 y2 y3 y4 y5 y6 y7 y8 y9 y10 y11 y12 y13 y14 y15 y16 y17) (laws_FnExactBufInsert.j2 (k + 1) y0 y1 y2 y3 y4 y5 y6 y7 y8 y9 y10 y11 y12 y13 y14 y15 y16 y17)) ∧ (∀ y0 y1 y2 y3 y4 y5 y6 y7 y8 y9 y10 y11 y12 y13 y14, LeO (laws_FnExactBufInsert.j3 k y0 y1 y2 y3 y4 y5 y6 y7 y8 y9 y10 y11 y12 y13 y14) (laws_FnExactBufInsert.j3 (k + 1) y0 y1 y2 y3 y4 y5 y6 y7 y8 y9 y10 y11 y12 y13 y14)) ∧ (∀ y0 y1 y2 y3 y4 y5 y6 y7 y8 y9 y10 y11 y12 y13, LeO (laws_FnExactBufInsert.j4 k y0 y1 y2 y3 y4 y5 y6 y7 y8 y9 y10 y11 y12 y13) (laws_FnExactBufInsert.j4 (k + 1) y0 y1 y2 y3 y4 y5 y6 y7 y8 y9 y10 y11 y12 y13)) ∧ (∀ y0 y1 y2 y3 y4 y5 y6 y7 y8 y9 y10 y11 y12 y13 y14 y15, LeO (laws_FnExactBufInsert.j5 k y0 y1 y2 y3 y4 y5 y6 y7 y8 y9 y10 y11 y12 y13 y14 y15) (laws_FnExactBufInsert.j5 (k + 1) y0 y1 y2 y3 y4 y5 y6 y7 y8 y9 y10 y11 y12 y13 y14 y15)) ∧ (∀ y0 y1 y2 y3 y4 y5, LeO (laws_FnExactBufInsert.j6 k y0 y1 y2 y3 y4 y5) (laws_FnExactBufInsert.j6 (k + 1) y0 y1 y2 y3 y4 y5))
 | 0 => ⟨fun _ _ _ _ _ _ _ _ _ _ _ _ _ _ _ _ _ _ r h => by simp [laws_FnExactBufInsert.j0] at h, fun _ _ _ _ _ _ _ _ _ _ _ _ _ _ _ _ _ _ r h => by simp [laws_FnExactBufInsert.j1] at h, fun _ _ _ _ _ _ _ _ _ _ _ _ _ _ _ _ _ _ r h => by simp [laws_FnExactBufInsert.j2] at h, fun _ _ _ _ _ _ _ _ _ _ _ _ _ _ _ r h => by simp [laws_FnExactBufInsert.j3] at h, fun _ _ _ _ _ _ _ _ _ _ _ _ _ _ r h => by simp [laws_FnExactBufInsert.j4] at h, fun _ _ _ _ _ _ _ _ _ _ _ _ _ _ _ _ r h => by simp [laws_FnExactBufInsert.j5] at h, fun _ _ _ _ _ _ r h => by simp [laws_FnExactBufInsert.j6] at h⟩
 | k + 1 => by
  obtain ⟨ih0, ih1, ih2, ih3, ih4, ih5, ih6⟩ := laws_FnExactBufInsert.mono_l k
  refine ⟨?_, ?_, ?_, ?_, ?_, ?_, ?_⟩
  ·intro y0 y1 y2 y3 y4 y5 y6 y7 y8 y9 y10 y11 y12 y13 y14 y15 y16 y17
   unfold laws_FnExactBufInsert.j0
   repeat' first
   | (with_reducible exact ih0 _ _ _ _ _ _ _ _ _ _ _ _ _ _ _ _ _ _)
   | (with_reducible exact ih1 _ _ _ _ _ _ _ _ _ _ _ _ _ _ _ _ _ _)
   | (with_reducible exact ih2 _ _ _ _ _ _ _ _ _ _ _ _ _ _ _ _ _ _)
   | (with_reducible exact ih3 _ _ _ _ _ _ _ _ _ _ _ _ _ _ _)
   | (with_reducible exact ih4 _ _ _ _ _ _ _ _ _ _ _ _ _ _)
   | (with_reducible exact ih5 _ _ _ _ _ _ _ _ _ _ _ _ _ _ _ _)
   | (with_reducible exact ih6 _ _ _ _ _ _)
   | (with_reducible exact impl_BufInsert.mono _ _ _ _ _)
   | (with_reducible exact laws_eqBuf.mono _ _ _ _ _ _ _)
   | (with_reducible exact laws_eqBufOut.mono _ _ _ _ _ _ _ _ _ _ _)
   | (with_reducible exact laws_eqInt64S.mono _ _ _)
   | (with_reducible exact laws_heldBufOut.mono _ _ _ _ _ _ _)
   | (with_reducible exact laws_markBuf.mono _ _ _ _ _)
   | (with_reducible exact laws_markBufOut.mono _ _ _ _ _ _ _)
   | (with_reducible exact laws_markInt64S.mono _ _ _)
   | (with_reducible exact laws_toBuf.mono _ _ _ _)
   | (with_reducible exact laws_toInt64S.mono _ _)
   | (with_reducible exact spec_BufInsert.mono _ _ _ _ _)
   | (with_reducible exact LeO.refl _)
   | (with_reducible exact LeO.none _)
   | (with_reducible refine LeO.ite ?_ ?_)
   | (with_reducible refine LeO.bind ?_ (fun _ => ?_))
   | exact ih0 _ _ _ _ _ _ _ _ _ _ _ _ _ _ _ _ _ _
   | exact ih1 _ _ _ _ _ _ _ _ _ _ _ _ _ _ _ _ _ _
   | exact ih2 _ _ _ _ _ _ _ _ _ _ _ _ _ _ _ _ _ _
   | exact ih3 _ _ _ _ _ _ _ _ _ _ _ _ _ _ _
   | exact ih4 _ _ _ _ _ _ _ _ _ _ _ _ _ _
   | exact ih5 _ _ _ _ _ _ _ _ _ _ _ _ _ _ _ _
   | exact ih6 _ _ _ _ _ _
   | exact impl_BufInsert.mono _ _ _ _ _
   | exact laws_eqBuf.mono _ _ _ _ _ _ _
   | exact laws_eqBufOut.mono _ _ _ _ _ _ _ _ _ _ _
   | exact laws_eqInt64S.mono _ _ _
   | exact laws_heldBufOut.mono _ _ _ _ _ _ _
   | exact laws_markBuf.mono _ _ _ _ _
   | exact laws_markBufOut.mono _ _ _ _ _ _ _
   | exact laws_markInt64S.mono _ _ _
   | exact laws_toBuf.mono _ _ _ _
   | exact laws_toInt64S.mono _ _
   | exact spec_BufInsert.mono _ _ _ _ _
   | exact LeO.none _
   | refine LeO.ite ?_ ?_
   | refine LeO.bind ?_ (fun _ => ?_)
  ·intro y0 y1 y2 y3 y4 y5 y6 y7 y8 y9 y10 y11 y12 y13 y14 y15 y16 y17
   unfold laws_FnExactBufInsert.j1
   repeat' first
   | (with_reducible exact ih0 _ _ _ _ _ _ _ _ _ _ _ _ _ _ _ _ _ _)
   | (with_reducible exact ih1 _ _ _ _ _ _ _ _ _ _ _ _ _ _ _ _ _ _)
   | (with_reducible exact ih2 _ _ _ _ _ _ _ _ _ _ _ _ _ _ _ _ _ _)
   | (with_reducible exact ih3 _ _ _ _ _ _ _ _ _ _ _ _ _ _ _)
   | (with_reducible exact ih4 _ _ _ _ _ _ _ _ _ _ _ _ _ _)
   | (with_reducible exact ih5 _ _ _ _ _ _ _ _ _ _ _ _ _ _ _ _)
   | (with_reducible exact ih6 _ _ _ _ _ _)
   | (with_reducible exact impl_BufInsert.mono _ _ _ _ _)
   | (with_reducible exact laws_eqBuf.mono _ _ _ _ _ _ _)
   | (with_reducible exact laws_eqBufOut.mono _ _ _ _ _ _ _ _ _ _ _)
   | (with_reducible exact laws_eqInt64S.mono _ _ _)
   | (with_reducible exact laws_heldBufOut.mono _ _ _ _ _ _ _)
   | (with_reducible exact laws_markBuf.mono _ _ _ _ _)
   | (with_reducible exact laws_markBufOut.mono _ _ _ _ _ _ _)
   | (with_reducible exact laws_markInt64S.mono _ _ _)
   | (with_reducible exact laws_toBuf.mono _ _ _ _)
   | (with_reducible exact laws_toInt64S.mono _ _)
   | (with_reducible exact spec_BufInsert.mono _ _ _ _ _)
   | (with_reducible exact LeO.refl _)
   | (with_reducible exact LeO.none _)
   | (with_reducible refine LeO.ite ?_ ?_)
   | (with_reducible refine LeO.bind ?_ (fun _ => ?_))
   | exact ih0 _ _ _ _ _ _ _ _ _ _ _ _ _ _ _ _ _ _
   | exact ih1 _ _ _ _ _ _ _ _ _ _ _ _ _ _ _ _ _ _
   | exact ih2 _ _ _ _ _ _ _ _ _ _ _ _ _ _ _ _ _ _
   | exact ih3 _ _ _ _ _ _ _ _ _ _ _ _ _ _ _
   | exact ih4 _ _ _ _ _ _ _ _ _ _ _ _ _ _
   | exact ih5 _ _ _ _ _ _ _ _ _ _ _ _ _ _ _ _
   | exact ih6 _ _ _ _ _ _
   | exact impl_BufInsert.mono _ _ _ _ _
   | exact laws_eqBuf.mono _ _ _ _ _ _ _
   | exact laws_eqBufOut.mono _ _ _ _ _ _ _ _ _ _ _
   | exact laws_eqInt64S.mono _ _ _
   | exact laws_heldBufOut.mono _ _ _ _ _ _ _
   | exact laws_markBuf.mono _ _ _ _ _
   | exact laws_markBufOut.mono _ _ _ _ _ _ _
   | exact laws_markInt64S.mono _ _ _
   | exact laws_toBuf.mono _ _ _ _
   | exact laws_toInt64S.mono _ _
   | exact spec_BufInsert.mono _ _ _ _ _
   | exact LeO.none _
   | refine LeO.ite ?_ ?_
   | refine LeO.bind ?_ (fun _ => ?_)
  ·intro y0 y1 y2 y3 y4 y5 y6 y7 y8 y9 y10 y11 y12 y13 y14 y15 y16 y17
   unfold laws_FnExactBufInsert.j2
   repeat' first
   | (with_reducible exact ih0 _ _ _ _ _ _ _ _ _ _ _ _ _ _ _ _ _ _)
   | (with_reducible exact ih1 _ _ _ _ _ _ _ _ _ _ _ _ _ _ _ _ _ _)
   | (with_reducible exact ih2 _ _ _ _ _ _ _ _ _ _ _ _ _ _ _ _ _ _)
   | (with_reducible exact ih3 _ _ _ _ _ _ _ _ _ _ _ _ _ _ _)
   | (with_reducible exact ih4 _ _ _ _ _ _ _ _ _ _ _ _ _ _)
   | (with_reducible exact ih5 _ _ _ _ _ _ _ _ _ _ _ _ _ _ _ _)
   | (with_reducible exact ih6 _ _ _ _ _ _)
   | (with_reducible exact impl_BufInsert.mono _ _ _ _ _)
   | (with_reducible exact laws_eqBuf.mono _ _ _ _ _ _ _)
   | (with_reducible exact laws_eqBufOut.mono _ _ _ _ _ _ _ _ _ _ _)
   | (with_reducible exact laws_eqInt64S.mono _ _ _)
   | (with_reducible exact laws_heldBufOut.mono _ _ _ _ _ _ _)
   | (with_reducible exact laws_markBuf.mono _ _ _ _ _)
   | (with_reducible exact laws_markBufOut.mono _ _ _ _ _ _ _)
   | (with_reducible exact laws_markInt64S.mono _ _ _)
   | (with_reducible exact laws_toBuf.mono _ _ _ _)
   | (with_reducible exact laws_toInt64S.mono _ _)
   | (with_reducible exact spec_BufInsert.mono _ _ _ _ _)
   | (with_reducible exact LeO.refl _)
   | (with_reducible exact LeO.none _)
   | (with_reducible refine LeO.ite ?_ ?_)
   | (with_reducible refine LeO.bind ?_ (fun _ => ?_))
   | exact ih0 _ _ _ _ _ _ _ _ _ _ _ _ _ _ _ _ _ _
   | exact ih1 _ _ _ _ _ _ _ _ _ _ _ _ _ _ _ _ _ _
   | exact ih2 _ _ _ _ _ _ _ _ _ _ _ _ _ _ _ _ _ _
   | exact ih3 _ _ _ _ _ _ _ _ _ _ _ _ _ _ _
   | exact ih4 _ _ _ _ _ _ _ _ _ _ _ _ _ _
   | exact ih5 _ _ _ _ _ _ _ _ _ _ _ _ _ _ _ _
   | exact ih6 _ _ _ _ _ _
   | exact impl_BufInsert.mono _ _ _ _ _
   | exact laws_eqBuf.mono _ _ _ _ _ _ _
   | exact laws_eqBufOut.mono _ _ _ _ _ _ _ _ _ _ _
   | exact laws_eqInt64S.mono _ _ _
   | exact laws_heldBufOut.mono _ _ _ _ _ _ _
   | exact laws_markBuf.mono _ _ _ _ _
   | exact laws_markBufOut.mono _ _ _ _ _ _ _
   | exact laws_markInt64S.mono _ _ _
   | exact laws_toBuf.mono _ _ _ _
   | exact laws_toInt64S.mono _ _
   | exact spec_BufInsert.mono _ _ _ _ _
   | exact LeO.none _
   | refine LeO.ite ?_ ?_
   | refine LeO.bind ?_ (fun _ => ?_)
  ·intro y0 y1 y2 y3 y4 y5 y6 y7 y8 y9 y10 y11 y12 y13 y14
   unfold laws_FnExactBufInsert.j3
   repeat' first
   | (with_reducible exact ih0 _ _ _ _ _ _ _ _ _ _ _ _ _ _ _ _ _ _)
   | (with_reducible exact ih1 _ _ _ _ _ _ _ _ _ _ _ _ _ _ _ _ _ _)
   | (with_reducible exact ih2 _ _ _ _ _ _ _ _ _ _ _ _ _ _ _ _ _ _)
   | (with_reducible exact ih3 _ _ _ _ _ _ _ _ _ _ _ _ _ _ _)
   | (with_reducible exact ih4 _ _ _ _ _ _ _ _ _ _ _ _ _ _)
   | (with_reducible exact ih5 _ _ _ _ _ _ _ _ _ _ _ _ _ _ _ _)
   | (with_reducible exact ih6 _ _ _ _ _ _)
   | (with_reducible exact impl_BufInsert.mono _ _ _ _ _)
   | (with_reducible exact laws_eqBuf.mono _ _ _ _ _ _ _)
   | (with_reducible exact laws_eqBufOut.mono _ _ _ _ _ _ _ _ _ _ _)
   | (with_reducible exact laws_eqInt64S.mono _ _ _)
   | (with_reducible exact laws_heldBufOut.mono _ _ _ _ _ _ _)
   | (with_reducible exact laws_markBuf.mono _ _ _ _ _)
   | (with_reducible exact laws_markBufOut.mono _ _ _ _ _ _ _)
   | (with_reducible exact laws_markInt64S.mono _ _ _)
   | (with_reducible exact laws_toBuf.mono _ _ _ _)
   | (with_reducible exact laws_toInt64S.mono _ _)
   | (with_reducible exact spec_BufInsert.mono _ _ _ _ _)
   | (with_reducible exact LeO.refl _)
   | (with_reducible exact LeO.none _)
   | (with_reducible refine LeO.ite ?_ ?_)
   | (with_reducible refine LeO.bind ?_ (fun _ => ?_))
   | exact ih0 _ _ _ _ _ _ _ _ _ _ _ _ _ _ _ _ _ _
   | exact ih1 _ _ _ _ _ _ _ _ _ _ _ _ _ _ _ _ _ _
   | exact ih2 _ _ _ _ _ _ _ _ _ _ _ _ _ _ _ _ _ _
   | exact ih3 _ _ _ _ _ _ _ _ _ _ _ _ _ _ _
   | exact ih4 _ _ _ _ _ _ _ _ _ _ _ _ _ _
   | exact ih5 _ _ _ _ _ _ _ _ _ _ _ _ _ _ _ _
   | exact ih6 _ _ _ _ _ _
   | exact impl_BufInsert.mono _ _ _ _ _
   | exact laws_eqBuf.mono _ _ _ _ _ _ _
   | exact laws_eqBufOut.mono _ _ _ _ _ _ _ _ _ _ _
   | exact laws_eqInt64S.mono _ _ _
   | exact laws_heldBufOut.mono _ _ _ _ _ _ _
   | exact laws_markBuf.mono _ _ _ _ _
   | exact laws_markBufOut.mono _ _ _ _ _ _ _
   | exact laws_markInt64S.mono _ _ _
   | exact laws_toBuf.mono _ _ _ _
   | exact laws_toInt64S.mono _ _
   | exact spec_BufInsert.mono _ _ _ _ _
   | exact LeO.none _
   | refine LeO.ite ?_ ?_
   | refine LeO.bind ?_ (fun _ => ?_)
  ·intro y0 y1 y2 y3 y4 y5 y6 y7 y8 y9 y10 y11 y12 y13
   unfold laws_FnExactBufInsert.j4
   repeat' first
   | (with_reducible exact ih0 _ _ _ _ _ _ _ _ _ _ _ _ _ _ _ _ _ _)
   | (with_reducible exact ih1 _ _ _ _ _ _ _ _ _ _ _ _ _ _ _ _ _ _)
   | (with_reducible exact ih2 _ _ _ _ _ _ _ _ _ _ _ _ _ _ _ _ _ _)
   | (with_reducible exact ih3 _ _ _ _ _ _ _ _ _ _ _ _ _ _ _)
   | (with_reducible exact ih4 _ _ _ _ _ _ _ _ _ _ _ _ _ _)
   | (with_reducible exact ih5 _ _ _ _ _ _ _ _ _ _ _ _ _ _ _ _)
   | (with_reducible exact ih6 _ _ _ _ _ _)
   | (with_reducible exact impl_BufInsert.mono _ _ _ _ _)
   | (with_reducible exact laws_eqBuf.mono _ _ _ _ _ _ _)
   | (with_reducible exact laws_eqBufOut.mono _ _ _ _ _ _ _ _ _ _ _)
   | (with_reducible exact laws_eqInt64S.mono _ _ _)
   | (with_reducible exact laws_heldBufOut.mono _ _ _ _ _ _ _)
   | (with_reducible exact laws_markBuf.mono _ _ _ _ _)
   | (with_reducible exact laws_markBufOut.mono _ _ _ _ _ _ _)
   | (with_reducible exact laws_markInt64S.mono _ _ _)
   | (with_reducible exact laws_toBuf.mono _ _ _ _)
   | (with_reducible exact laws_toInt64S.mono _ _)
   | (with_reducible exact spec_BufInsert.mono _ _ _ _ _)
   | (with_reducible exact LeO.refl _)
   | (with_reducible exact LeO.none _)
   | (with_reducible refine LeO.ite ?_ ?_)
   | (with_reducible refine LeO.bind ?_ (fun _ => ?_))
   | exact ih0 _ _ _ _ _ _ _ _ _ _ _ _ _ _ _ _ _ _
   | exact ih1 _ _ _ _ _ _ _ _ _ _ _ _ _ _ _ _ _ _
   | exact ih2 _ _ _ _ _ _ _ _ _ _ _ _ _ _ _ _ _ _
   | exact ih3 _ _ _ _ _ _ _ _ _ _ _ _ _ _ _
   | exact ih4 _ _ _ _ _ _ _ _ _ _ _ _ _ _
   | exact ih5 _ _ _ _ _ _ _ _ _ _ _ _ _ _ _ _
   | exact ih6 _ _ _ _ _ _
   | exact impl_BufInsert.mono _ _ _ _ _
   | exact laws_eqBuf.mono _ _ _ _ _ _ _
   | exact laws_eqBufOut.mono _ _ _ _ _ _ _ _ _ _ _
   | exact laws_eqInt64S.mono _ _ _
   | exact laws_heldBufOut.mono _ _ _ _ _ _ _
   | exact laws_markBuf.mono _ _ _ _ _
   | exact laws_markBufOut.mono _ _ _ _ _ _ _
   | exact laws_markInt64S.mono _ _ _
   | exact laws_toBuf.mono _ _ _ _
   | exact laws_toInt64S.mono _ _
   | exact spec_BufInsert.mono _ _ _ _ _
   | exact LeO.none _
   | refine LeO.ite ?_ ?_
   | refine LeO.bind ?_ (fun _ => ?_)
  ·intro y0 y1 y2 y3 y4 y5 y6 y7 y8 y9 y10 y11 y12 y13 y14 y15
   unfold laws_FnExactBufInsert.j5
   repeat' first
   | (with_reducible exact ih0 _ _ _ _ _ _ _ _ _ _ _ _ _ _ _ _ _ _)
   | (with_reducible exact ih1 _ _ _ _ _ _ _ _ _ _ _ _ _ _ _ _ _ _)
   | (with_reducible exact ih2 _ _ _ _ _ _ _ _ _ _ _ _ _ _ _ _ _ _)
   | (with_reducible exact ih3 _ _ _ _ _ _ _ _ _ _ _ _ _ _ _)
   | (with_reducible exact ih4 _ _ _ _ _ _ _ _ _ _ _ _ _ _)
   | (with_reducible exact ih5 _ _ _ _ _ _ _ _ _ _ _ _ _ _ _ _)
   | (with_reducible exact ih6 _ _ _ _ _ _)
   | (with_reducible exact impl_BufInsert.mono _ _ _ _ _)
   | (with_reducible exact laws_eqBuf.mono _ _ _ _ _ _ _)
   | (with_reducible exact laws_eqBufOut.mono _ _ _ _ _ _ _ _ _ _ _)
   | (with_reducible exact laws_eqInt64S.mono _ _ _)
   | (with_reducible exact laws_heldBufOut.mono _ _ _ _ _ _ _)
   | (with_reducible exact laws_markBuf.mono _ _ _ _ _)
   | (with_reducible exact laws_markBufOut.mono _ _ _ _ _ _ _)
   | (with_reducible exact laws_markInt64S.mono _ _ _)
   | (with_reducible exact laws_toBuf.mono _ _ _ _)
   | (with_reducible exact laws_toInt64S.mono _ _)
   | (with_reducible exact spec_BufInsert.mono _ _ _ _ _)
   | (with_reducible exact LeO.refl _)
   | (with_reducible exact LeO.none _)
   | (with_reducible refine LeO.ite ?_ ?_)
   | (with_reducible refine LeO.bind ?_ (fun _ => ?_))
   | exact ih0 _ _ _ _ _ _ _ _ _ _ _ _ _ _ _ _ _ _
   | exact ih1 _ _ _ _ _ _ _ _ _ _ _ _ _ _ _ _ _ _
   | exact ih2 _ _ _ _ _ _ _ _ _ _ _ _ _ _ _ _ _ _
   | exact ih3 _ _ _ _ _ _ _ _ _ _ _ _ _ _ _
   | exact ih4 _ _ _ _ _ _ _ _ _ _ _ _ _ _
   | exact ih5 _ _ _ _ _ _ _ _ _ _ _ _ _ _ _ _
   | exact ih6 _ _ _ _ _ _
   | exact impl_BufInsert.mono _ _ _ _ _
   | exact laws_eqBuf.mono _ _ _ _ _ _ _
   | exact laws_eqBufOut.mono _ _ _ _ _ _ _ _ _ _ _
   | exact laws_eqInt64S.mono _ _ _
   | exact laws_heldBufOut.mono _ _ _ _ _ _ _
   | exact laws_markBuf.mono _ _ _ _ _
   | exact laws_markBufOut.mono _ _ _ _ _ _ _
   | exact laws_markInt64S.mono _ _ _
   | exact laws_toBuf.mono _ _ _ _
   | exact laws_toInt64S.mono _ _
   | exact spec_BufInsert.mono _ _ _ _ _
   | exact LeO.none _
   | refine LeO.ite ?_ ?_
   | refine LeO.bind ?_ (fun _ => ?_)
  ·intro y0 y1 y2 y3 y4 y5
   unfold laws_FnExactBufInsert.j6
   repeat' first
   | (with_reducible exact ih0 _ _ _ _ _ _ _ _ _ _ _ _ _ _ _ _ _ _)
   | (with_reducible exact ih1 _ _ _ _ _ _ _ _ _ _ _ _ _ _ _ _ _ _)
   | (with_reducible exact ih2 _ _ _ _ _ _ _ _ _ _ _ _ _ _ _ _ _ _)
   | (with_reducible exact ih3 _ _ _ _ _ _ _ _ _ _ _ _ _ _ _)
   | (with_reducible exact ih4 _ _ _ _ _ _ _ _ _ _ _ _ _ _)
   | (with_reducible exact ih5 _ _ _ _ _ _ _ _ _ _ _ _ _ _ _ _)
   | (with_reducible exact ih6 _ _ _ _ _ _)
   | (with_reducible exact impl_BufInsert.mono _ _ _ _ _)
   | (with_reducible exact laws_eqBuf.mono _ _ _ _ _ _ _)
   | (with_reducible exact laws_eqBufOut.mono _ _ _ _ _ _ _ _ _ _ _)
   | (with_reducible exact laws_eqInt64S.mono _ _ _)
   | (with_reducible exact laws_heldBufOut.mono _ _ _ _ _ _ _)
   | (with_reducible exact laws_markBuf.mono _ _ _ _ _)
   | (with_reducible exact laws_markBufOut.mono _ _ _ _ _ _ _)
   | (with_reducible exact laws_markInt64S.mono _ _ _)
   | (with_reducible exact laws_toBuf.mono _ _ _ _)
   | (with_reducible exact laws_toInt64S.mono _ _)
   | (with_reducible exact spec_BufInsert.mono _ _ _ _ _)
   | (with_reducible exact LeO.refl _)
   | (with_reducible exact LeO.none _)
   | (with_reducible refine LeO.ite ?_ ?_)
   | (with_reducible refine LeO.bind ?_ (fun _ => ?_))
   | exact ih0 _ _ _ _ _ _ _ _ _ _ _ _ _ _ _ _ _ _
   | exact ih1 _ _ _ _ _ _ _ _ _ _ _ _ _ _ _ _ _ _
   | exact ih2 _ _ _ _ _ _ _ _ _ _ _ _ _ _ _ _ _ _
   | exact ih3 _ _ _ _ _ _ _ _ _ _ _ _ _ _ _
   | exact ih4 _ _ _ _ _ _ _ _ _ _ _ _ _ _
   | exact ih5 _ _ _ _ _ _ _ _ _ _ _ _ _ _ _ _
   | exact ih6 _ _ _ _ _ _
   | exact impl_BufInsert.mono _ _ _ _ _
   | exact laws_eqBuf.mono _ _ _ _ _ _ _
   | exact laws_eqBufOut.mono _ _ _ _ _ _ _ _ _ _ _
   | exact laws_eqInt64S.mono _ _ _
   | exact laws_heldBufOut.mono _ _ _ _ _ _ _
   | exact laws_markBuf.mono _ _ _ _ _
   | exact laws_markBufOut.mono _ _ _ _ _ _ _
   | exact laws_markInt64S.mono _ _ _
   | exact laws_toBuf.mono _ _ _ _
   | exact laws_toInt64S.mono _ _
   | exact spec_BufInsert.mono _ _ _ _ _
   | exact LeO.none _
   | refine LeO.ite ?_ ?_
   | refine LeO.bind ?_ (fun _ => ?_)
theorem laws_FnExactBufInsert.mono : ∀ a0 a1 a2 a3 k, LeO (laws_FnExactBufInsert.f k a0 a1 a2 a3) (laws_FnExactBufInsert.f (k + 1) a0 a1 a2 a3) := by
 intro a0 a1 a2 a3 k
 obtain ⟨ih0, ih1, ih2, ih3, ih4, ih5, ih6⟩ := laws_FnExactBufInsert.mono_l k
 unfold laws_FnExactBufInsert.f
 repeat' first
   | (with_reducible exact ih0 _ _ _ _ _ _ _ _ _ _ _ _ _ _ _ _ _ _)
   | (with_reducible exact ih1 _ _ _ _ _ _ _ _ _ _ _ _ _ _ _ _ _ _)
   | (with_reducible exact ih2 _ _ _ _ _ _ _ _ _ _ _ _ _ _ _ _ _ _)
   | (with_reducible exact ih3 _ _ _ _ _ _ _ _ _ _ _ _ _ _ _)
   | (with_reducible exact ih4 _ _ _ _ _ _ _ _ _ _ _ _ _ _)
   | (with_reducible exact ih5 _ _ _ _ _ _ _ _ _ _ _ _ _ _ _ _)
   | (with_reducible exact ih6 _ _ _ _ _ _)
   | (with_reducible exact impl_BufInsert.mono _ _ _ _ _)
   | (with_reducible exact laws_eqBuf.mono _ _ _ _ _ _ _)
   | (with_reducible exact laws_eqBufOut.mono _ _ _ _ _ _ _ _ _ _ _)
   | (with_reducible exact laws_eqInt64S.mono _ _ _)
   | (with_reducible exact laws_heldBufOut.mono _ _ _ _ _ _ _)
   | (with_reducible exact laws_markBuf.mono _ _ _ _ _)
   | (with_reducible exact laws_markBufOut.mono _ _ _ _ _ _ _)
   | (with_reducible exact laws_markInt64S.mono _ _ _)
   | (with_reducible exact laws_toBuf.mono _ _ _ _)
   | (with_reducible exact laws_toInt64S.mono _ _)
   | (with_reducible exact spec_BufInsert.mono _ _ _ _ _)
   | (with_reducible exact LeO.refl _)
   | (with_reducible exact LeO.none _)
   | (with_reducible refine LeO.ite ?_ ?_)
   | (with_reducible refine LeO.bind ?_ (fun _ => ?_))
   | exact ih0 _ _ _ _ _ _ _ _ _ _ _ _ _ _ _ _ _ _
   | exact ih1 _ _ _ _ _ _ _ _ _ _ _ _ _ _ _ _ _ _
   | exact ih2 _ _ _ _ _ _ _ _ _ _ _ _ _ _ _ _ _ _
   | exact ih3 _ _ _ _ _ _ _ _ _ _ _ _ _ _ _
   | exact ih4 _ _ _ _ _ _ _ _ _ _ _ _ _ _
   | exact ih5 _ _ _ _ _ _ _ _ _ _ _ _ _ _ _ _
   | exact ih6 _ _ _ _ _ _
   | exact impl_BufInsert.mono _ _ _ _ _
   | exact laws_eqBuf.mono _ _ _ _ _ _ _
   | exact laws_eqBufOut.mono _ _ _ _ _ _ _ _ _ _ _
   | exact laws_eqInt64S.mono _ _ _
   | exact laws_heldBufOut.mono _ _ _ _ _ _ _
   | exact laws_markBuf.mono _ _ _ _ _
   | exact laws_markBufOut.mono _ _ _ _ _ _ _
   | exact laws_markInt64S.mono _ _ _
   | exact laws_toBuf.mono _ _ _ _
   | exact laws_toInt64S.mono _ _
   | exact spec_BufInsert.mono _ _ _ _ _
   | exact LeO.none _
   | refine LeO.ite ?_ ?_
   | refine LeO.bind ?_ (fun _ => ?_)
set_option maxHeartbeats 8000000 in
set_option maxRecDepth 100000 in
theorem laws_FnExactBufInsert.calls (k : Nat) (A0_0 : Option Addr) (c0_0 : Nat) (l0_0 : List Int) (a0_1 : Int) (a0_2 : Int) (A1 : Option Addr) (c1 : Nat) (l1 : List Int) (r : Bool) (w : World) (hr0_0 : Kd.C (Kd.int .i64) w A0_0 l0_0.length l0_0) (hc0_0 : l0_0.length ≤ c0_0) (hr1 : Kd.C (Kd.int .i64) w A1 l1.length l1) (hc1 : l1.length ≤ c1) (h : laws_FnExactBufInsert.f k l0_0 a0_1 a0_2 l1 = some r) :
  Calls Try.prog 4 #[.agg #[.slice A0_0 l0_0.length c0_0, .int .i64 a0_1, .int .i64 a0_2], .slice A1 l1.length c1] w fun e w' => e = .returned (.bool r) ∧ Below w.heap.size w w' := by
 have hu24 := Try.underlying24
 have hu28 := Try.underlying28
 have hu26 := Try.underlying26
 have HR0_0 := am hr0_0
 have HC0_0 := am hc0_0
 clear hr0_0 hc0_0
 have HR1 := am hr1
 have HC1 := am hc1
 clear hr1 hc1
 have HB := am (Below.refl w.heap.size w)
 have H : (if (l1.length : Int) > 1048576 then (some true) else ((laws_szBuf.f l0_0 a0_1 a0_2 1048576).bind fun t279 => (if t279 < 0 then (some true) else ((laws_toBuf.f k l0_0 a0_1 a0_2).bind fun bt280 => ((laws_toInt64S.f k l1).bind fun t285 => ((spec_BufInsert.f k bt280.1 bt280.2.1 bt280.2.2 t285).bind fun bt288 => ((laws_toBuf.f k l0_0 a0_1 a0_2).bind fun bt298 => ((laws_toInt64S.f k l1).bind fun t304 => ((impl_BufInsert.f k bt298.1 bt298.2.1 bt298.2.2 t304).bind fun bt307 => ((laws_eqBufOut.f k bt307.1 bt307.2.1 bt307.2.2.1 bt307.2.2.2.1 bt307.2.2.2.2 bt288.1 bt288.2.1 bt288.2.2.1 bt288.2.2.2.1 bt288.2.2.2.2).bind fun t317 => (if t317 = true then (laws_FnExactBufInsert.j0 k l1 t304 l0_0 a0_1 a0_2 bt288.1 bt288.2.1 bt288.2.2.1 bt288.2.2.2.1 bt288.2.2.2.2 bt298.1 bt298.2.1 bt298.2.2 bt307.1 bt307.2.1 bt307.2.2.1 bt307.2.2.2.1 bt307.2.2.2.2) else (some false)))))))))))) = some r := h
 clear h
 by_cases c3 : (l1.length : Int) > 1048576
 ·rw [if_pos c3] at H
  have c3b0 : decide (1048576 < (l1.length : Int)) = true := decide_eq_true c3
  have c3b1 : decide (1048576 < l1.length) = true := decide_eq_true (by omega)
  clear c3
  obtain rfl := Option.some.inj H
  go_enter Try.func4, Try.ntmps4
  go_wp2_with (first | ((with_reducible refine gate_dst (N := 2) rfl ?_); refine box_event ?hg (N := 2) ?hd (cs := #[.slice A0_0 l0_0.length c0_0, .int .i64 a0_1, .int .i64 a0_2]) (t := 24) ?hr ?_; (case hd => rfl); (case hg => rfl); (case hr => first | (go_simp; done) | (go_simp; rfl)); intro gb278 hg w4 hbox hb; have BK278 := am (hbox); have GW278 := am ((by rw [hg]; exact (below_size (bl HB.out)) : w.heap.size ≤ gb278)); have GE278 := GW278; replace HB := am (below_step (bl HB.out) hb); clear hb hbox hg))
  go_ret
  exact ⟨by first | rfl | (simp [errW_none, errW_some] <;> rfl) | (simp [*, errW_none, errW_some] <;> rfl), by repeat (first | (with_reducible first | exact HB.out | apply below_alloc | apply pw_below_drewN | apply below_drew1 | refine below_set ?_ GE278.out) | exact HB.out)⟩
 ·rw [if_neg c3] at H
  have c3b0 : decide (1048576 < (l1.length : Int)) = false := decide_eq_false c3
  have c3b1 : decide (1048576 < l1.length) = false := decide_eq_false (by omega)
  clear c3
  replace H := Option.bind_eq_some_iff.mp H
  obtain ⟨t279, A50, H⟩ := H
  replace H : (if t279 < 0 then (some true) else ((laws_toBuf.f k l0_0 a0_1 a0_2).bind fun bt280 => ((laws_toInt64S.f k l1).bind fun t285 => ((spec_BufInsert.f k bt280.1 bt280.2.1 bt280.2.2 t285).bind fun bt288 => ((laws_toBuf.f k l0_0 a0_1 a0_2).bind fun bt298 => ((laws_toInt64S.f k l1).bind fun t304 => ((impl_BufInsert.f k bt298.1 bt298.2.1 bt298.2.2 t304).bind fun bt307 => ((laws_eqBufOut.f k bt307.1 bt307.2.1 bt307.2.2.1 bt307.2.2.2.1 bt307.2.2.2.2 bt288.1 bt288.2.1 bt288.2.2.1 bt288.2.2.2.1 bt288.2.2.2.2).bind fun t317 => (if t317 = true then (laws_FnExactBufInsert.j0 k l1 t304 l0_0 a0_1 a0_2 bt288.1 bt288.2.1 bt288.2.2.1 bt288.2.2.2.1 bt288.2.2.2.2 bt298.1 bt298.2.1 bt298.2.2 bt307.1 bt307.2.1 bt307.2.2.1 bt307.2.2.2.1 bt307.2.2.2.2) else (some false)))))))))) = some r := H
  have A5 := Aside0.mk A50
  clear A50
  by_cases c6 : t279 < 0
  ·rw [if_pos c6] at H
   have c6b0 : decide (t279 < 0) = true := decide_eq_true c6
   clear c6
   obtain rfl := Option.some.inj H
   go_enter Try.func4, Try.ntmps4
   go_wp2_with (first | ((with_reducible refine gate_dst (N := 2) rfl ?_); refine box_event ?hg (N := 2) ?hd (cs := #[.slice A0_0 l0_0.length c0_0, .int .i64 a0_1, .int .i64 a0_2]) (t := 24) ?hr ?_; (case hd => rfl); (case hg => rfl); (case hr => first | (go_simp; done) | (go_simp; rfl)); intro gb278 hg w7 hbox hb; have BK278 := am (hbox); have GW278 := am ((by rw [hg]; exact (below_size (bl HB.out)) : w.heap.size ≤ gb278)); have GE278 := GW278; replace HB := am (below_step (bl HB.out) hb); clear hb hbox hg; have hcz8_0 : w7.cell? ⟨gb278, 0, none⟩ = some (.slice A0_0 l0_0.length c0_0) := bc BK278.out 0; have hcz8_1 : w7.cell? ⟨gb278, 1, none⟩ = some (.int .i64 a0_1) := bc BK278.out 1; have hcz8_2 : w7.cell? ⟨gb278, 2, none⟩ = some (.int .i64 a0_2) := bc BK278.out 2; have hfz8_0 := blk_frozen BK278.out 0; have hfz8_1 := blk_frozen BK278.out 1; have hfz8_2 := blk_frozen BK278.out 2) | ((with_reducible refine gate_callee (f := 9) rfl ?_); refine gl (some 19) Try.func9 #[.agg #[.slice A0_0 l0_0.length c0_0, .int .i64 a0_1, .int .i64 a0_2], .int .i64 1048576] ?_; (with_reducible refine (laws_szBuf.calls _ _ l0_0 a0_1 a0_2 1048576 t279 _ ?side1 ?side2 A5.out).mono ?_); (case side1 => repeat (first | exact (Kd.C_below HR0_0.out HB.out) | (with_reducible refine Kd.C_alloc ?_ _) | (with_reducible refine Kd.C_drewN ?_ _) | (with_reducible refine Kd.C_drew ?_))); (case side2 => exact HC0_0.out); rintro e w9 ⟨rfl, hb⟩; refine ⟨_, rfl, ?_⟩; replace BK278 := am (blk_below (pk BK278.out) hb); replace HB := am (below_step (bl HB.out) hb); (try clear hb); (try clear hb2); (try clear hk); (try clear hi)))
   go_ret
   exact ⟨by first | rfl | (simp [errW_none, errW_some] <;> rfl) | (simp [*, errW_none, errW_some] <;> rfl), by repeat (first | (with_reducible first | exact HB.out | apply below_alloc | apply pw_below_drewN | apply below_drew1 | refine below_set ?_ GE278.out) | exact HB.out)⟩
  ·rw [if_neg c6] at H
   have c6b0 : decide (t279 < 0) = false := decide_eq_false c6
   clear c6
   replace H := Option.bind_eq_some_iff.mp H
   obtain ⟨⟨t280, t283, t284⟩, A100, H⟩ := H
   replace H : ((laws_toInt64S.f k l1).bind fun t285 => ((spec_BufInsert.f k t280 t283 t284 t285).bind fun bt288 => ((laws_toBuf.f k l0_0 a0_1 a0_2).bind fun bt298 => ((laws_toInt64S.f k l1).bind fun t304 => ((impl_BufInsert.f k bt298.1 bt298.2.1 bt298.2.2 t304).bind fun bt307 => ((laws_eqBufOut.f k bt307.1 bt307.2.1 bt307.2.2.1 bt307.2.2.2.1 bt307.2.2.2.2 bt288.1 bt288.2.1 bt288.2.2.1 bt288.2.2.2.1 bt288.2.2.2.2).bind fun t317 => (if t317 = true then (laws_FnExactBufInsert.j0 k l1 t304 l0_0 a0_1 a0_2 bt288.1 bt288.2.1 bt288.2.2.1 bt288.2.2.2.1 bt288.2.2.2.2 bt298.1 bt298.2.1 bt298.2.2 bt307.1 bt307.2.1 bt307.2.2.1 bt307.2.2.2.1 bt307.2.2.2.2) else (some false)))))))) = some r := H
   have A10 := Aside0.mk A100
   clear A100
   replace H := Option.bind_eq_some_iff.mp H
   obtain ⟨t285, A110, H⟩ := H
   replace H : ((spec_BufInsert.f k t280 t283 t284 t285).bind fun bt288 => ((laws_toBuf.f k l0_0 a0_1 a0_2).bind fun bt298 => ((laws_toInt64S.f k l1).bind fun t304 => ((impl_BufInsert.f k bt298.1 bt298.2.1 bt298.2.2 t304).bind fun bt307 => ((laws_eqBufOut.f k bt307.1 bt307.2.1 bt307.2.2.1 bt307.2.2.2.1 bt307.2.2.2.2 bt288.1 bt288.2.1 bt288.2.2.1 bt288.2.2.2.1 bt288.2.2.2.2).bind fun t317 => (if t317 = true then (laws_FnExactBufInsert.j0 k l1 t304 l0_0 a0_1 a0_2 bt288.1 bt288.2.1 bt288.2.2.1 bt288.2.2.2.1 bt288.2.2.2.2 bt298.1 bt298.2.1 bt298.2.2 bt307.1 bt307.2.1 bt307.2.2.1 bt307.2.2.2.1 bt307.2.2.2.2) else (some false))))))) = some r := H
   have A11 := Aside0.mk A110
   clear A110
   replace H := Option.bind_eq_some_iff.mp H
   obtain ⟨⟨t288, t291, t292, t293, t296⟩, A120, H⟩ := H
   replace H : ((laws_toBuf.f k l0_0 a0_1 a0_2).bind fun bt298 => ((laws_toInt64S.f k l1).bind fun t304 => ((impl_BufInsert.f k bt298.1 bt298.2.1 bt298.2.2 t304).bind fun bt307 => ((laws_eqBufOut.f k bt307.1 bt307.2.1 bt307.2.2.1 bt307.2.2.2.1 bt307.2.2.2.2 t288 t291 t292 t293 t296).bind fun t317 => (if t317 = true then (laws_FnExactBufInsert.j0 k l1 t304 l0_0 a0_1 a0_2 t288 t291 t292 t293 t296 bt298.1 bt298.2.1 bt298.2.2 bt307.1 bt307.2.1 bt307.2.2.1 bt307.2.2.2.1 bt307.2.2.2.2) else (some false)))))) = some r := H
   have A12 := Aside0.mk A120
   clear A120
   replace H := Option.bind_eq_some_iff.mp H
   obtain ⟨⟨t298, t301, t302⟩, A130, H⟩ := H
   replace H : ((laws_toInt64S.f k l1).bind fun t304 => ((impl_BufInsert.f k t298 t301 t302 t304).bind fun bt307 => ((laws_eqBufOut.f k bt307.1 bt307.2.1 bt307.2.2.1 bt307.2.2.2.1 bt307.2.2.2.2 t288 t291 t292 t293 t296).bind fun t317 => (if t317 = true then (laws_FnExactBufInsert.j0 k l1 t304 l0_0 a0_1 a0_2 t288 t291 t292 t293 t296 t298 t301 t302 bt307.1 bt307.2.1 bt307.2.2.1 bt307.2.2.2.1 bt307.2.2.2.2) else (some false))))) = some r := H
   have A13 := Aside0.mk A130
   clear A130
   replace H := Option.bind_eq_some_iff.mp H
   obtain ⟨t304, A140, H⟩ := H
   replace H : ((impl_BufInsert.f k t298 t301 t302 t304).bind fun bt307 => ((laws_eqBufOut.f k bt307.1 bt307.2.1 bt307.2.2.1 bt307.2.2.2.1 bt307.2.2.2.2 t288 t291 t292 t293 t296).bind fun t317 => (if t317 = true then (laws_FnExactBufInsert.j0 k l1 t304 l0_0 a0_1 a0_2 t288 t291 t292 t293 t296 t298 t301 t302 bt307.1 bt307.2.1 bt307.2.2.1 bt307.2.2.2.1 bt307.2.2.2.2) else (some false)))) = some r := H
   have A14 := Aside0.mk A140
   clear A140
   replace H := Option.bind_eq_some_iff.mp H
   obtain ⟨⟨t307, t310, t311, t312, t315⟩, A150, H⟩ := H
   replace H : ((laws_eqBufOut.f k t307 t310 t311 t312 t315 t288 t291 t292 t293 t296).bind fun t317 => (if t317 = true then (laws_FnExactBufInsert.j0 k l1 t304 l0_0 a0_1 a0_2 t288 t291 t292 t293 t296 t298 t301 t302 t307 t310 t311 t312 t315) else (some false))) = some r := H
   have A15 := Aside0.mk A150
   clear A150
   replace H := Option.bind_eq_some_iff.mp H
   obtain ⟨t317, A160, H⟩ := H
   replace H : (if t317 = true then (laws_FnExactBufInsert.j0 k l1 t304 l0_0 a0_1 a0_2 t288 t291 t292 t293 t296 t298 t301 t302 t307 t310 t311 t312 t315) else (some false)) = some r := H
   have A16 := Aside0.mk A160
   clear A160
   have HC17 := Aside0.mk H
   clear H
   go_enter Try.func4, Try.ntmps4
   go_upto_if 37 with (first | ((with_reducible refine gate_dst (N := 2) rfl ?_); refine box_event ?hg (N := 2) ?hd (cs := #[.slice A0_0 l0_0.length c0_0, .int .i64 a0_1, .int .i64 a0_2]) (t := 24) ?hr ?_; (case hd => rfl); (case hg => rfl); (case hr => first | (go_simp; done) | (go_simp; rfl)); intro gb278 hg w18 hbox hb; have BK278 := am (hbox); have GW278 := am ((by rw [hg]; exact (below_size (bl HB.out)) : w.heap.size ≤ gb278)); have GE278 := GW278; replace HB := am (below_step (bl HB.out) hb); clear hb hbox hg; have hcz19_0 : w18.cell? ⟨gb278, 0, none⟩ = some (.slice A0_0 l0_0.length c0_0) := bc BK278.out 0; have hcz19_1 : w18.cell? ⟨gb278, 1, none⟩ = some (.int .i64 a0_1) := bc BK278.out 1; have hcz19_2 : w18.cell? ⟨gb278, 2, none⟩ = some (.int .i64 a0_2) := bc BK278.out 2; have hfz19_0 := blk_frozen BK278.out 0; have hfz19_1 := blk_frozen BK278.out 1; have hfz19_2 := blk_frozen BK278.out 2) | ((with_reducible refine gate_callee (f := 9) rfl ?_); refine gl (some 19) Try.func9 #[.agg #[.slice A0_0 l0_0.length c0_0, .int .i64 a0_1, .int .i64 a0_2], .int .i64 1048576] ?_; (with_reducible refine (laws_szBuf.calls _ _ l0_0 a0_1 a0_2 1048576 t279 _ ?side1 ?side2 A5.out).mono ?_); (case side1 => repeat (first | exact (Kd.C_below HR0_0.out HB.out) | (with_reducible refine Kd.C_alloc ?_ _) | (with_reducible refine Kd.C_drewN ?_ _) | (with_reducible refine Kd.C_drew ?_))); (case side2 => exact HC0_0.out); rintro e w20 ⟨rfl, hb⟩; refine ⟨_, rfl, ?_⟩; replace BK278 := am (blk_below (pk BK278.out) hb); replace HB := am (below_step (bl HB.out) hb); (try clear hb); (try clear hb2); (try clear hk); (try clear hi); have hcz21_0 : w20.cell? ⟨gb278, 0, none⟩ = some (.slice A0_0 l0_0.length c0_0) := bc BK278.out 0; have hcz21_1 : w20.cell? ⟨gb278, 1, none⟩ = some (.int .i64 a0_1) := bc BK278.out 1; have hcz21_2 : w20.cell? ⟨gb278, 2, none⟩ = some (.int .i64 a0_2) := bc BK278.out 2; have hfz21_0 := blk_frozen BK278.out 0; have hfz21_1 := blk_frozen BK278.out 1; have hfz21_2 := blk_frozen BK278.out 2) | ((with_reducible refine gate_callee (f := 11) rfl ?_); refine gl (some 23) Try.func11 #[.agg #[.slice A0_0 l0_0.length c0_0, .int .i64 a0_1, .int .i64 a0_2]] ?_; (with_reducible refine (laws_toBuf.calls k _ _ l0_0 a0_1 a0_2 t280 t283 t284 _ ?side1 ?side2 A10.out).mono ?_); (case side1 => repeat (first | exact (Kd.C_below HR0_0.out HB.out) | (with_reducible refine Kd.C_alloc ?_ _) | (with_reducible refine Kd.C_drewN ?_ _) | (with_reducible refine Kd.C_drew ?_))); (case side2 => exact HC0_0.out); rintro e w22 ⟨v281, rfl, ho0, hb⟩; refine ⟨_, rfl, ?_⟩; have HO282 := am (Kd.R_lower ho0 (below_size (bl HB.out))); replace BK278 := am (blk_below (pk BK278.out) hb); replace HB := am (below_step (bl HB.out) hb); (try clear hb); (try clear hb2); (try clear hk); (try clear hi); (try clear ho0)) | ((with_reducible refine gate_callee (f := 12) rfl ?_); refine gl (some 25) Try.func12 #[.slice A1 l1.length c1] ?_; (with_reducible refine (laws_toInt64S.calls k _ _ l1 t285 _ ?side1 ?side2 A11.out).mono ?_); (case side1 => repeat (first | exact (Kd.C_below HR1.out HB.out) | (with_reducible refine Kd.C_alloc ?_ _) | (with_reducible refine Kd.C_drewN ?_ _) | (with_reducible refine Kd.C_drew ?_))); (case side2 => exact HC1.out); rintro e w23 ⟨v286, rfl, ho0, hb⟩; refine ⟨_, rfl, ?_⟩; have HO287 := am (Kd.R_lower (Kd.R_new' ho0 (Kd.R_lt (kr HO282.out))) (below_size (bl HB.out))); replace HO282 := am (Kd.R_elder' (kr HO282.out) (Kd.R_base ho0) hb); replace BK278 := am (blk_below (pk BK278.out) hb); replace HB := am (below_step (bl HB.out) hb); (try clear hb); (try clear hb2); (try clear hk); (try clear hi); (try clear ho0); obtain ⟨Ao24, co24, eo24⟩ := Kd.R_slice HO282.out; subst eo24; obtain ⟨Ao25, co25, eo25⟩ := Kd.R_slice HO287.out; subst eo25) | ((with_reducible refine gate_callee (f := 21) rfl ?_); refine gl (some 26) Try.func21 #[.agg #[.slice Ao24 t280.length co24, .int .i64 t283, .int .i64 t284], .slice Ao25 t285.length co25] ?_; (with_reducible refine (spec_BufInsert.calls k _ _ t280 t283 t284 _ _ t285 t288 t291 t292 t293 t296 _ ?side1 ?side2 ?side3 ?side4 A12.out).mono ?_); (case side1 => repeat (first | exact (Kd.R_reads' HO282.out).2.2 | (with_reducible refine Kd.C_alloc ?_ _) | (with_reducible refine Kd.C_drewN ?_ _) | (with_reducible refine Kd.C_drew ?_))); (case side2 => exact (Kd.R_reads' HO282.out).2.1); (case side3 => repeat (first | exact (Kd.R_reads' HO287.out).2.2 | (with_reducible refine Kd.C_alloc ?_ _) | (with_reducible refine Kd.C_drewN ?_ _) | (with_reducible refine Kd.C_drew ?_))); (case side4 => exact (Kd.R_reads' HO287.out).2.1); rintro e w26 ⟨v289, v294, rfl, ho0, ho1, hb⟩; refine ⟨_, rfl, ?_⟩; have HO290 := am (Kd.R_lower (Kd.R_new' (Kd.R_new' ho0 (Kd.R_lt (kr HO282.out))) (Kd.R_lt (kr HO287.out))) (below_size (bl HB.out))); have HO295 := am (Kd.R_lower (Kd.R_new' (Kd.R_new' ho1 (Kd.R_lt (kr HO282.out))) (Kd.R_lt (kr HO287.out))) (below_size (bl HB.out))); replace HO282 := am (Kd.R_mono (Kd.R_told (Kd.R_told (Kd.R_old (kr HO282.out) hb) (Kd.R_base ho0)) (Kd.R_base ho1)) (fun _ h_ => h_.1)); replace HO287 := am (Kd.R_mono (Kd.R_told (Kd.R_told (Kd.R_old (kr HO287.out) hb) (Kd.R_base ho0)) (Kd.R_base ho1)) (fun _ h_ => h_.1)); replace BK278 := am (blk_below (pk BK278.out) hb); replace HB := am (below_step (bl HB.out) hb); (try clear hb); (try clear hb2); (try clear hk); (try clear hi); (try clear ho0); (try clear ho1)) | ((with_reducible refine gate_dst (N := 6) rfl ?_); refine box_event ?hg (N := 6) ?hd (cs := #[.slice none 0 0, .int .i64 0, .int .i64 0, .slice none 0 0, .int .i64 0]) (t := 28) ?hr ?_; (case hd => rfl); (case hg => rfl); (case hr => first | (go_simp; done) | (go_simp; rfl)); intro gb297 hg w27 hbox hb; replace HO282 := am (Kd.R_below (kr HO282.out) hb); replace HO287 := am (Kd.R_below (kr HO287.out) hb); replace HO290 := am (Kd.R_below (kr HO290.out) hb); replace HO295 := am (Kd.R_below (kr HO295.out) hb); have BK297 := am (hbox); have GW297 := am ((by rw [hg]; exact (below_size (bl HB.out)) : w.heap.size ≤ gb297)); have GE297 := GW297; replace HB := am (below_step (bl HB.out) hb); have NB278_297 := am ((by rw [hg]; exact Nat.ne_of_lt (blk_lt (pk BK278.out)) : gb278 ≠ gb297)); have NB297_278 := am ((by rw [hg]; exact Nat.ne_of_gt (blk_lt (pk BK278.out)) : gb297 ≠ gb278)); replace BK278 := am (blk_below (pk BK278.out) hb); clear hb hbox hg; obtain ⟨Ao28, co28, eo28⟩ := Kd.R_slice HO290.out; subst eo28; have hnb29 := NB297_278.out; have hnc29 := NB278_297.out; have hcz30_0 : w27.cell? ⟨gb297, 0, none⟩ = some (.slice none 0 0) := bc BK297.out 0; have hcz30_1 : w27.cell? ⟨gb297, 1, none⟩ = some (.int .i64 0) := bc BK297.out 1; have hcz30_2 : w27.cell? ⟨gb297, 2, none⟩ = some (.int .i64 0) := bc BK297.out 2; have hcz30_3 : w27.cell? ⟨gb297, 3, none⟩ = some (.slice none 0 0) := bc BK297.out 3; have hcz30_4 : w27.cell? ⟨gb297, 4, none⟩ = some (.int .i64 0) := bc BK297.out 4; have hfz30_0 := blk_frozen BK297.out 0; have hfz30_1 := blk_frozen BK297.out 1; have hfz30_2 := blk_frozen BK297.out 2; have hfz30_3 := blk_frozen BK297.out 3; have hfz30_4 := blk_frozen BK297.out 4; obtain ⟨Ao31, co31, eo31⟩ := Kd.R_slice HO295.out; subst eo31; have hcz32_0 : w27.cell? ⟨gb278, 0, none⟩ = some (.slice A0_0 l0_0.length c0_0) := bc BK278.out 0; have hcz32_1 : w27.cell? ⟨gb278, 1, none⟩ = some (.int .i64 a0_1) := bc BK278.out 1; have hcz32_2 : w27.cell? ⟨gb278, 2, none⟩ = some (.int .i64 a0_2) := bc BK278.out 2; have hfz32_0 := blk_frozen BK278.out 0; have hfz32_1 := blk_frozen BK278.out 1; have hfz32_2 := blk_frozen BK278.out 2) | ((with_reducible refine gate_callee (f := 11) rfl ?_); refine gl (some 28) Try.func11 #[.agg #[.slice A0_0 l0_0.length c0_0, .int .i64 a0_1, .int .i64 a0_2]] ?_; (with_reducible refine (laws_toBuf.calls k _ _ l0_0 a0_1 a0_2 t298 t301 t302 _ ?side1 ?side2 A13.out).mono ?_); (case side1 => exact Kd.C_below HR0_0.out (bl HB.out)); (case side2 => exact HC0_0.out); rintro e w33 ⟨v299, rfl, ho0, hb⟩; refine ⟨_, rfl, ?_⟩; have HO300 := am (Kd.R_lower (Kd.R_new' (Kd.R_new' (Kd.R_new' (Kd.R_new' ho0 (Kd.R_lt (kr ((Kd.R_mono (Kd.R_far (p := ⟨gb297, 4, none⟩) (Kd.R_far (p := ⟨gb297, 3, none⟩) (Kd.R_far (p := ⟨gb297, 2, none⟩) (Kd.R_far (p := ⟨gb297, 1, none⟩) (Kd.R_far (p := ⟨gb297, 0, none⟩) (Kd.R_types HO282.out BK297.out (by decide)) (fun _ hk => hk.2) (.slice Ao28 t288.length co28)) (fun _ hk => hk.2) (.int .i64 t291)) (fun _ hk => hk.2) (.int .i64 t292)) (fun _ hk => hk.2) (.slice Ao31 t293.length co31)) (fun _ hk => hk.2) (.int .i64 t296)) (fun _ h_ => h_.1)))))) (Kd.R_lt (kr ((Kd.R_mono (Kd.R_far (p := ⟨gb297, 4, none⟩) (Kd.R_far (p := ⟨gb297, 3, none⟩) (Kd.R_far (p := ⟨gb297, 2, none⟩) (Kd.R_far (p := ⟨gb297, 1, none⟩) (Kd.R_far (p := ⟨gb297, 0, none⟩) (Kd.R_types HO287.out BK297.out (by decide)) (fun _ hk => hk.2) (.slice Ao28 t288.length co28)) (fun _ hk => hk.2) (.int .i64 t291)) (fun _ hk => hk.2) (.int .i64 t292)) (fun _ hk => hk.2) (.slice Ao31 t293.length co31)) (fun _ hk => hk.2) (.int .i64 t296)) (fun _ h_ => h_.1)))))) (Kd.R_lt (kr ((Kd.R_mono (Kd.R_far (p := ⟨gb297, 4, none⟩) (Kd.R_far (p := ⟨gb297, 3, none⟩) (Kd.R_far (p := ⟨gb297, 2, none⟩) (Kd.R_far (p := ⟨gb297, 1, none⟩) (Kd.R_far (p := ⟨gb297, 0, none⟩) (Kd.R_types HO290.out BK297.out (by decide)) (fun _ hk => hk.2) (.slice Ao28 t288.length co28)) (fun _ hk => hk.2) (.int .i64 t291)) (fun _ hk => hk.2) (.int .i64 t292)) (fun _ hk => hk.2) (.slice Ao31 t293.length co31)) (fun _ hk => hk.2) (.int .i64 t296)) (fun _ h_ => h_.1)))))) (Kd.R_lt (kr ((Kd.R_mono (Kd.R_far (p := ⟨gb297, 4, none⟩) (Kd.R_far (p := ⟨gb297, 3, none⟩) (Kd.R_far (p := ⟨gb297, 2, none⟩) (Kd.R_far (p := ⟨gb297, 1, none⟩) (Kd.R_far (p := ⟨gb297, 0, none⟩) (Kd.R_types HO295.out BK297.out (by decide)) (fun _ hk => hk.2) (.slice Ao28 t288.length co28)) (fun _ hk => hk.2) (.int .i64 t291)) (fun _ hk => hk.2) (.int .i64 t292)) (fun _ hk => hk.2) (.slice Ao31 t293.length co31)) (fun _ hk => hk.2) (.int .i64 t296)) (fun _ h_ => h_.1)))))) (below_size (bl HB.out))); replace HO282 := am (Kd.R_elder' (kr ((Kd.R_mono (Kd.R_far (p := ⟨gb297, 4, none⟩) (Kd.R_far (p := ⟨gb297, 3, none⟩) (Kd.R_far (p := ⟨gb297, 2, none⟩) (Kd.R_far (p := ⟨gb297, 1, none⟩) (Kd.R_far (p := ⟨gb297, 0, none⟩) (Kd.R_types HO282.out BK297.out (by decide)) (fun _ hk => hk.2) (.slice Ao28 t288.length co28)) (fun _ hk => hk.2) (.int .i64 t291)) (fun _ hk => hk.2) (.int .i64 t292)) (fun _ hk => hk.2) (.slice Ao31 t293.length co31)) (fun _ hk => hk.2) (.int .i64 t296)) (fun _ h_ => h_.1)))) (Kd.R_base ho0) hb); replace HO287 := am (Kd.R_elder' (kr ((Kd.R_mono (Kd.R_far (p := ⟨gb297, 4, none⟩) (Kd.R_far (p := ⟨gb297, 3, none⟩) (Kd.R_far (p := ⟨gb297, 2, none⟩) (Kd.R_far (p := ⟨gb297, 1, none⟩) (Kd.R_far (p := ⟨gb297, 0, none⟩) (Kd.R_types HO287.out BK297.out (by decide)) (fun _ hk => hk.2) (.slice Ao28 t288.length co28)) (fun _ hk => hk.2) (.int .i64 t291)) (fun _ hk => hk.2) (.int .i64 t292)) (fun _ hk => hk.2) (.slice Ao31 t293.length co31)) (fun _ hk => hk.2) (.int .i64 t296)) (fun _ h_ => h_.1)))) (Kd.R_base ho0) hb); replace HO290 := am (Kd.R_elder' (kr ((Kd.R_mono (Kd.R_far (p := ⟨gb297, 4, none⟩) (Kd.R_far (p := ⟨gb297, 3, none⟩) (Kd.R_far (p := ⟨gb297, 2, none⟩) (Kd.R_far (p := ⟨gb297, 1, none⟩) (Kd.R_far (p := ⟨gb297, 0, none⟩) (Kd.R_types HO290.out BK297.out (by decide)) (fun _ hk => hk.2) (.slice Ao28 t288.length co28)) (fun _ hk => hk.2) (.int .i64 t291)) (fun _ hk => hk.2) (.int .i64 t292)) (fun _ hk => hk.2) (.slice Ao31 t293.length co31)) (fun _ hk => hk.2) (.int .i64 t296)) (fun _ h_ => h_.1)))) (Kd.R_base ho0) hb); replace HO295 := am (Kd.R_elder' (kr ((Kd.R_mono (Kd.R_far (p := ⟨gb297, 4, none⟩) (Kd.R_far (p := ⟨gb297, 3, none⟩) (Kd.R_far (p := ⟨gb297, 2, none⟩) (Kd.R_far (p := ⟨gb297, 1, none⟩) (Kd.R_far (p := ⟨gb297, 0, none⟩) (Kd.R_types HO295.out BK297.out (by decide)) (fun _ hk => hk.2) (.slice Ao28 t288.length co28)) (fun _ hk => hk.2) (.int .i64 t291)) (fun _ hk => hk.2) (.int .i64 t292)) (fun _ hk => hk.2) (.slice Ao31 t293.length co31)) (fun _ hk => hk.2) (.int .i64 t296)) (fun _ h_ => h_.1)))) (Kd.R_base ho0) hb); replace BK278 := am (blk_below (g := gb278) (o := .cells #[.slice A0_0 l0_0.length c0_0, .int .i64 a0_1, .int .i64 a0_2] 24 (0, 0)) (by (with_reducible repeat (first | refine blk_drewN ?_ _ | refine blk_drew ?_ | refine blk_alloc ?_ _)); refine blk_far ?_ NB278_297.out _; (with_reducible repeat (first | refine blk_drewN ?_ _ | refine blk_drew ?_ | refine blk_alloc ?_ _)); refine blk_far ?_ NB278_297.out _; (with_reducible repeat (first | refine blk_drewN ?_ _ | refine blk_drew ?_ | refine blk_alloc ?_ _)); refine blk_far ?_ NB278_297.out _; (with_reducible repeat (first | refine blk_drewN ?_ _ | refine blk_drew ?_ | refine blk_alloc ?_ _)); refine blk_far ?_ NB278_297.out _; (with_reducible repeat (first | refine blk_drewN ?_ _ | refine blk_drew ?_ | refine blk_alloc ?_ _)); refine blk_far ?_ NB278_297.out _; (with_reducible repeat (first | refine blk_drewN ?_ _ | refine blk_drew ?_ | refine blk_alloc ?_ _)); exact BK278.out) hb); replace BK297 := am (blk_below (g := gb297) (o := .cells #[.slice Ao28 t288.length co28, .int .i64 t291, .int .i64 t292, .slice Ao31 t293.length co31, .int .i64 t296] 28 (0, 0)) (by (with_reducible repeat (first | refine blk_drewN ?_ _ | refine blk_drew ?_ | refine blk_alloc ?_ _)); refine blk_put (cs := #[.slice Ao28 t288.length co28, .int .i64 t291, .int .i64 t292, .slice Ao31 t293.length co31, .int .i64 0]) ?_ 4 _ rfl; (with_reducible repeat (first | refine blk_drewN ?_ _ | refine blk_drew ?_ | refine blk_alloc ?_ _)); refine blk_put (cs := #[.slice Ao28 t288.length co28, .int .i64 t291, .int .i64 t292, .slice none 0 0, .int .i64 0]) ?_ 3 _ rfl; (with_reducible repeat (first | refine blk_drewN ?_ _ | refine blk_drew ?_ | refine blk_alloc ?_ _)); refine blk_put (cs := #[.slice Ao28 t288.length co28, .int .i64 t291, .int .i64 0, .slice none 0 0, .int .i64 0]) ?_ 2 _ rfl; (with_reducible repeat (first | refine blk_drewN ?_ _ | refine blk_drew ?_ | refine blk_alloc ?_ _)); refine blk_put (cs := #[.slice Ao28 t288.length co28, .int .i64 0, .int .i64 0, .slice none 0 0, .int .i64 0]) ?_ 1 _ rfl; (with_reducible repeat (first | refine blk_drewN ?_ _ | refine blk_drew ?_ | refine blk_alloc ?_ _)); refine blk_put (cs := #[.slice none 0 0, .int .i64 0, .int .i64 0, .slice none 0 0, .int .i64 0]) ?_ 0 _ rfl; (with_reducible repeat (first | refine blk_drewN ?_ _ | refine blk_drew ?_ | refine blk_alloc ?_ _)); exact BK297.out) hb); replace HB := am (below_step (bl HB.out) hb); (try clear hb); (try clear hb2); (try clear hk); (try clear hi); (try clear ho0)) | ((with_reducible refine gate_dst (N := 7) rfl ?_); refine box_event ?hg (N := 7) ?hd (cs := #[.slice none 0 0, .int .i64 0, .int .i64 0]) (t := 26) ?hr ?_; (case hd => rfl); (case hg => rfl); (case hr => first | (go_simp; done) | (go_simp; rfl)); intro gb303 hg w34 hbox hb; replace HO282 := am (Kd.R_below (kr HO282.out) hb); replace HO287 := am (Kd.R_below (kr HO287.out) hb); replace HO290 := am (Kd.R_below (kr HO290.out) hb); replace HO295 := am (Kd.R_below (kr HO295.out) hb); replace HO300 := am (Kd.R_below (kr HO300.out) hb); have BK303 := am (hbox); have GW303 := am ((by rw [hg]; exact (below_size (bl HB.out)) : w.heap.size ≤ gb303)); have GE303 := GW303; replace HB := am (below_step (bl HB.out) hb); have NB278_303 := am ((by rw [hg]; exact Nat.ne_of_lt (blk_lt (pk BK278.out)) : gb278 ≠ gb303)); have NB303_278 := am ((by rw [hg]; exact Nat.ne_of_gt (blk_lt (pk BK278.out)) : gb303 ≠ gb278)); replace BK278 := am (blk_below (pk BK278.out) hb); have NB297_303 := am ((by rw [hg]; exact Nat.ne_of_lt (blk_lt (pk BK297.out)) : gb297 ≠ gb303)); have NB303_297 := am ((by rw [hg]; exact Nat.ne_of_gt (blk_lt (pk BK297.out)) : gb303 ≠ gb297)); replace BK297 := am (blk_below (pk BK297.out) hb); clear hb hbox hg; obtain ⟨Ao35, co35, eo35⟩ := Kd.R_slice HO300.out; subst eo35; have hnb36 := NB303_278.out; have hnc36 := NB278_303.out; have hnb37 := NB303_297.out; have hnc37 := NB297_303.out; have hcz38_0 : w34.cell? ⟨gb303, 0, none⟩ = some (.slice none 0 0) := bc BK303.out 0; have hcz38_1 : w34.cell? ⟨gb303, 1, none⟩ = some (.int .i64 0) := bc BK303.out 1; have hcz38_2 : w34.cell? ⟨gb303, 2, none⟩ = some (.int .i64 0) := bc BK303.out 2; have hfz38_0 := blk_frozen BK303.out 0; have hfz38_1 := blk_frozen BK303.out 1; have hfz38_2 := blk_frozen BK303.out 2) | ((with_reducible refine gate_callee (f := 12) rfl ?_); refine gl (some 30) Try.func12 #[.slice A1 l1.length c1] ?_; (with_reducible refine (laws_toInt64S.calls k _ _ l1 t304 _ ?side1 ?side2 A14.out).mono ?_); (case side1 => exact Kd.C_below HR1.out (bl HB.out)); (case side2 => exact HC1.out); rintro e w39 ⟨v305, rfl, ho0, hb⟩; refine ⟨_, rfl, ?_⟩; have HO306 := am (Kd.R_lower (Kd.R_new' (Kd.R_new' (Kd.R_new' (Kd.R_new' (Kd.R_new' ho0 (Kd.R_lt (kr ((Kd.R_mono (Kd.R_far (p := ⟨gb303, 2, none⟩) (Kd.R_far (p := ⟨gb303, 1, none⟩) (Kd.R_far (p := ⟨gb303, 0, none⟩) (Kd.R_types HO282.out BK303.out (by decide)) (fun _ hk => hk.2) (.slice Ao35 t298.length co35)) (fun _ hk => hk.2) (.int .i64 t301)) (fun _ hk => hk.2) (.int .i64 t302)) (fun _ h_ => h_.1)))))) (Kd.R_lt (kr ((Kd.R_mono (Kd.R_far (p := ⟨gb303, 2, none⟩) (Kd.R_far (p := ⟨gb303, 1, none⟩) (Kd.R_far (p := ⟨gb303, 0, none⟩) (Kd.R_types HO287.out BK303.out (by decide)) (fun _ hk => hk.2) (.slice Ao35 t298.length co35)) (fun _ hk => hk.2) (.int .i64 t301)) (fun _ hk => hk.2) (.int .i64 t302)) (fun _ h_ => h_.1)))))) (Kd.R_lt (kr ((Kd.R_mono (Kd.R_far (p := ⟨gb303, 2, none⟩) (Kd.R_far (p := ⟨gb303, 1, none⟩) (Kd.R_far (p := ⟨gb303, 0, none⟩) (Kd.R_types HO290.out BK303.out (by decide)) (fun _ hk => hk.2) (.slice Ao35 t298.length co35)) (fun _ hk => hk.2) (.int .i64 t301)) (fun _ hk => hk.2) (.int .i64 t302)) (fun _ h_ => h_.1)))))) (Kd.R_lt (kr ((Kd.R_mono (Kd.R_far (p := ⟨gb303, 2, none⟩) (Kd.R_far (p := ⟨gb303, 1, none⟩) (Kd.R_far (p := ⟨gb303, 0, none⟩) (Kd.R_types HO295.out BK303.out (by decide)) (fun _ hk => hk.2) (.slice Ao35 t298.length co35)) (fun _ hk => hk.2) (.int .i64 t301)) (fun _ hk => hk.2) (.int .i64 t302)) (fun _ h_ => h_.1)))))) (Kd.R_lt (kr ((Kd.R_mono (Kd.R_far (p := ⟨gb303, 2, none⟩) (Kd.R_far (p := ⟨gb303, 1, none⟩) (Kd.R_far (p := ⟨gb303, 0, none⟩) (Kd.R_types HO300.out BK303.out (by decide)) (fun _ hk => hk.2) (.slice Ao35 t298.length co35)) (fun _ hk => hk.2) (.int .i64 t301)) (fun _ hk => hk.2) (.int .i64 t302)) (fun _ h_ => h_.1)))))) (below_size (bl HB.out))); replace HO282 := am (Kd.R_elder' (kr ((Kd.R_mono (Kd.R_far (p := ⟨gb303, 2, none⟩) (Kd.R_far (p := ⟨gb303, 1, none⟩) (Kd.R_far (p := ⟨gb303, 0, none⟩) (Kd.R_types HO282.out BK303.out (by decide)) (fun _ hk => hk.2) (.slice Ao35 t298.length co35)) (fun _ hk => hk.2) (.int .i64 t301)) (fun _ hk => hk.2) (.int .i64 t302)) (fun _ h_ => h_.1)))) (Kd.R_base ho0) hb); replace HO287 := am (Kd.R_elder' (kr ((Kd.R_mono (Kd.R_far (p := ⟨gb303, 2, none⟩) (Kd.R_far (p := ⟨gb303, 1, none⟩) (Kd.R_far (p := ⟨gb303, 0, none⟩) (Kd.R_types HO287.out BK303.out (by decide)) (fun _ hk => hk.2) (.slice Ao35 t298.length co35)) (fun _ hk => hk.2) (.int .i64 t301)) (fun _ hk => hk.2) (.int .i64 t302)) (fun _ h_ => h_.1)))) (Kd.R_base ho0) hb); replace HO290 := am (Kd.R_elder' (kr ((Kd.R_mono (Kd.R_far (p := ⟨gb303, 2, none⟩) (Kd.R_far (p := ⟨gb303, 1, none⟩) (Kd.R_far (p := ⟨gb303, 0, none⟩) (Kd.R_types HO290.out BK303.out (by decide)) (fun _ hk => hk.2) (.slice Ao35 t298.length co35)) (fun _ hk => hk.2) (.int .i64 t301)) (fun _ hk => hk.2) (.int .i64 t302)) (fun _ h_ => h_.1)))) (Kd.R_base ho0) hb); replace HO295 := am (Kd.R_elder' (kr ((Kd.R_mono (Kd.R_far (p := ⟨gb303, 2, none⟩) (Kd.R_far (p := ⟨gb303, 1, none⟩) (Kd.R_far (p := ⟨gb303, 0, none⟩) (Kd.R_types HO295.out BK303.out (by decide)) (fun _ hk => hk.2) (.slice Ao35 t298.length co35)) (fun _ hk => hk.2) (.int .i64 t301)) (fun _ hk => hk.2) (.int .i64 t302)) (fun _ h_ => h_.1)))) (Kd.R_base ho0) hb); replace HO300 := am (Kd.R_elder' (kr ((Kd.R_mono (Kd.R_far (p := ⟨gb303, 2, none⟩) (Kd.R_far (p := ⟨gb303, 1, none⟩) (Kd.R_far (p := ⟨gb303, 0, none⟩) (Kd.R_types HO300.out BK303.out (by decide)) (fun _ hk => hk.2) (.slice Ao35 t298.length co35)) (fun _ hk => hk.2) (.int .i64 t301)) (fun _ hk => hk.2) (.int .i64 t302)) (fun _ h_ => h_.1)))) (Kd.R_base ho0) hb); replace BK278 := am (blk_below (g := gb278) (o := .cells #[.slice A0_0 l0_0.length c0_0, .int .i64 a0_1, .int .i64 a0_2] 24 (0, 0)) (by (with_reducible repeat (first | refine blk_drewN ?_ _ | refine blk_drew ?_ | refine blk_alloc ?_ _)); refine blk_far ?_ NB278_303.out _; (with_reducible repeat (first | refine blk_drewN ?_ _ | refine blk_drew ?_ | refine blk_alloc ?_ _)); refine blk_far ?_ NB278_303.out _; (with_reducible repeat (first | refine blk_drewN ?_ _ | refine blk_drew ?_ | refine blk_alloc ?_ _)); refine blk_far ?_ NB278_303.out _; (with_reducible repeat (first | refine blk_drewN ?_ _ | refine blk_drew ?_ | refine blk_alloc ?_ _)); exact BK278.out) hb); replace BK297 := am (blk_below (g := gb297) (o := .cells #[.slice Ao28 t288.length co28, .int .i64 t291, .int .i64 t292, .slice Ao31 t293.length co31, .int .i64 t296] 28 (0, 0)) (by (with_reducible repeat (first | refine blk_drewN ?_ _ | refine blk_drew ?_ | refine blk_alloc ?_ _)); refine blk_far ?_ NB297_303.out _; (with_reducible repeat (first | refine blk_drewN ?_ _ | refine blk_drew ?_ | refine blk_alloc ?_ _)); refine blk_far ?_ NB297_303.out _; (with_reducible repeat (first | refine blk_drewN ?_ _ | refine blk_drew ?_ | refine blk_alloc ?_ _)); refine blk_far ?_ NB297_303.out _; (with_reducible repeat (first | refine blk_drewN ?_ _ | refine blk_drew ?_ | refine blk_alloc ?_ _)); exact BK297.out) hb); replace BK303 := am (blk_below (g := gb303) (o := .cells #[.slice Ao35 t298.length co35, .int .i64 t301, .int .i64 t302] 26 (0, 0)) (by (with_reducible repeat (first | refine blk_drewN ?_ _ | refine blk_drew ?_ | refine blk_alloc ?_ _)); refine blk_put (cs := #[.slice Ao35 t298.length co35, .int .i64 t301, .int .i64 0]) ?_ 2 _ rfl; (with_reducible repeat (first | refine blk_drewN ?_ _ | refine blk_drew ?_ | refine blk_alloc ?_ _)); refine blk_put (cs := #[.slice Ao35 t298.length co35, .int .i64 0, .int .i64 0]) ?_ 1 _ rfl; (with_reducible repeat (first | refine blk_drewN ?_ _ | refine blk_drew ?_ | refine blk_alloc ?_ _)); refine blk_put (cs := #[.slice none 0 0, .int .i64 0, .int .i64 0]) ?_ 0 _ rfl; (with_reducible repeat (first | refine blk_drewN ?_ _ | refine blk_drew ?_ | refine blk_alloc ?_ _)); exact BK303.out) hb); replace HB := am (below_step (bl HB.out) hb); (try clear hb); (try clear hb2); (try clear hk); (try clear hi); (try clear ho0); have hcz40_0 : w39.cell? ⟨gb303, 0, none⟩ = some (.slice Ao35 t298.length co35) := bc BK303.out 0; have hcz40_1 : w39.cell? ⟨gb303, 1, none⟩ = some (.int .i64 t301) := bc BK303.out 1; have hcz40_2 : w39.cell? ⟨gb303, 2, none⟩ = some (.int .i64 t302) := bc BK303.out 2; have hfz40_0 := blk_frozen BK303.out 0; have hfz40_1 := blk_frozen BK303.out 1; have hfz40_2 := blk_frozen BK303.out 2; obtain ⟨Ao41, co41, eo41⟩ := Kd.R_slice HO306.out; subst eo41) | ((with_reducible refine gate_callee (f := 22) rfl ?_); refine gl (some 33) Try.func22 #[.agg #[.slice Ao35 t298.length co35, .int .i64 t301, .int .i64 t302], .slice Ao41 t304.length co41] ?_; (with_reducible refine (impl_BufInsert.calls k _ _ t298 t301 t302 _ _ t304 t307 t310 t311 t312 t315 _ ?side1 ?side2 ?side3 ?side4 A15.out).mono ?_); (case side1 => repeat (first | exact (Kd.R_reads' HO300.out).2.2 | (with_reducible refine Kd.C_alloc ?_ _) | (with_reducible refine Kd.C_drewN ?_ _) | (with_reducible refine Kd.C_drew ?_))); (case side2 => exact (Kd.R_reads' HO300.out).2.1); (case side3 => repeat (first | exact (Kd.R_reads' HO306.out).2.2 | (with_reducible refine Kd.C_alloc ?_ _) | (with_reducible refine Kd.C_drewN ?_ _) | (with_reducible refine Kd.C_drew ?_))); (case side4 => exact (Kd.R_reads' HO306.out).2.1); rintro e w42 ⟨v308, v313, rfl, ho0, ho1, hb⟩; refine ⟨_, rfl, ?_⟩; have HO309 := am (Kd.R_lower (Kd.R_new' (Kd.R_new' (Kd.R_new' (Kd.R_new' (Kd.R_new' (Kd.R_new' ho0 (Kd.R_lt (kr HO282.out))) (Kd.R_lt (kr HO287.out))) (Kd.R_lt (kr HO290.out))) (Kd.R_lt (kr HO295.out))) (Kd.R_lt (kr HO300.out))) (Kd.R_lt (kr HO306.out))) (below_size (bl HB.out))); have HO314 := am (Kd.R_lower (Kd.R_new' (Kd.R_new' (Kd.R_new' (Kd.R_new' (Kd.R_new' (Kd.R_new' ho1 (Kd.R_lt (kr HO282.out))) (Kd.R_lt (kr HO287.out))) (Kd.R_lt (kr HO290.out))) (Kd.R_lt (kr HO295.out))) (Kd.R_lt (kr HO300.out))) (Kd.R_lt (kr HO306.out))) (below_size (bl HB.out))); replace HO282 := am (Kd.R_mono (Kd.R_told (Kd.R_told (Kd.R_old (kr HO282.out) hb) (Kd.R_base ho0)) (Kd.R_base ho1)) (fun _ h_ => h_.1)); replace HO287 := am (Kd.R_mono (Kd.R_told (Kd.R_told (Kd.R_old (kr HO287.out) hb) (Kd.R_base ho0)) (Kd.R_base ho1)) (fun _ h_ => h_.1)); replace HO290 := am (Kd.R_mono (Kd.R_told (Kd.R_told (Kd.R_old (kr HO290.out) hb) (Kd.R_base ho0)) (Kd.R_base ho1)) (fun _ h_ => h_.1)); replace HO295 := am (Kd.R_mono (Kd.R_told (Kd.R_told (Kd.R_old (kr HO295.out) hb) (Kd.R_base ho0)) (Kd.R_base ho1)) (fun _ h_ => h_.1)); replace HO300 := am (Kd.R_mono (Kd.R_told (Kd.R_told (Kd.R_old (kr HO300.out) hb) (Kd.R_base ho0)) (Kd.R_base ho1)) (fun _ h_ => h_.1)); replace HO306 := am (Kd.R_mono (Kd.R_told (Kd.R_told (Kd.R_old (kr HO306.out) hb) (Kd.R_base ho0)) (Kd.R_base ho1)) (fun _ h_ => h_.1)); replace BK278 := am (blk_below (pk BK278.out) hb); replace BK297 := am (blk_below (pk BK297.out) hb); replace BK303 := am (blk_below (pk BK303.out) hb); replace HB := am (below_step (bl HB.out) hb); (try clear hb); (try clear hb2); (try clear hk); (try clear hi); (try clear ho0); (try clear ho1)) | ((with_reducible refine gate_dst (N := 9) rfl ?_); refine box_event ?hg (N := 9) ?hd (cs := #[.slice none 0 0, .int .i64 0, .int .i64 0, .slice none 0 0, .int .i64 0]) (t := 28) ?hr ?_; (case hd => rfl); (case hg => rfl); (case hr => first | (go_simp; done) | (go_simp; rfl)); intro gb316 hg w43 hbox hb; replace HO282 := am (Kd.R_below (kr HO282.out) hb); replace HO287 := am (Kd.R_below (kr HO287.out) hb); replace HO290 := am (Kd.R_below (kr HO290.out) hb); replace HO295 := am (Kd.R_below (kr HO295.out) hb); replace HO300 := am (Kd.R_below (kr HO300.out) hb); replace HO306 := am (Kd.R_below (kr HO306.out) hb); replace HO309 := am (Kd.R_below (kr HO309.out) hb); replace HO314 := am (Kd.R_below (kr HO314.out) hb); have BK316 := am (hbox); have GW316 := am ((by rw [hg]; exact (below_size (bl HB.out)) : w.heap.size ≤ gb316)); have GE316 := GW316; replace HB := am (below_step (bl HB.out) hb); have NB278_316 := am ((by rw [hg]; exact Nat.ne_of_lt (blk_lt (pk BK278.out)) : gb278 ≠ gb316)); have NB316_278 := am ((by rw [hg]; exact Nat.ne_of_gt (blk_lt (pk BK278.out)) : gb316 ≠ gb278)); replace BK278 := am (blk_below (pk BK278.out) hb); have NB297_316 := am ((by rw [hg]; exact Nat.ne_of_lt (blk_lt (pk BK297.out)) : gb297 ≠ gb316)); have NB316_297 := am ((by rw [hg]; exact Nat.ne_of_gt (blk_lt (pk BK297.out)) : gb316 ≠ gb297)); replace BK297 := am (blk_below (pk BK297.out) hb); have NB303_316 := am ((by rw [hg]; exact Nat.ne_of_lt (blk_lt (pk BK303.out)) : gb303 ≠ gb316)); have NB316_303 := am ((by rw [hg]; exact Nat.ne_of_gt (blk_lt (pk BK303.out)) : gb316 ≠ gb303)); replace BK303 := am (blk_below (pk BK303.out) hb); clear hb hbox hg; obtain ⟨Ao44, co44, eo44⟩ := Kd.R_slice HO309.out; subst eo44; have hnb45 := NB316_278.out; have hnc45 := NB278_316.out; have hnb46 := NB316_297.out; have hnc46 := NB297_316.out; have hnb47 := NB316_303.out; have hnc47 := NB303_316.out; have hcz48_0 : w43.cell? ⟨gb316, 0, none⟩ = some (.slice none 0 0) := bc BK316.out 0; have hcz48_1 : w43.cell? ⟨gb316, 1, none⟩ = some (.int .i64 0) := bc BK316.out 1; have hcz48_2 : w43.cell? ⟨gb316, 2, none⟩ = some (.int .i64 0) := bc BK316.out 2; have hcz48_3 : w43.cell? ⟨gb316, 3, none⟩ = some (.slice none 0 0) := bc BK316.out 3; have hcz48_4 : w43.cell? ⟨gb316, 4, none⟩ = some (.int .i64 0) := bc BK316.out 4; have hfz48_0 := blk_frozen BK316.out 0; have hfz48_1 := blk_frozen BK316.out 1; have hfz48_2 := blk_frozen BK316.out 2; have hfz48_3 := blk_frozen BK316.out 3; have hfz48_4 := blk_frozen BK316.out 4; obtain ⟨Ao49, co49, eo49⟩ := Kd.R_slice HO314.out; subst eo49; have hcz50_0 : w43.cell? ⟨gb297, 0, none⟩ = some (.slice Ao28 t288.length co28) := bc BK297.out 0; have hcz50_1 : w43.cell? ⟨gb297, 1, none⟩ = some (.int .i64 t291) := bc BK297.out 1; have hcz50_2 : w43.cell? ⟨gb297, 2, none⟩ = some (.int .i64 t292) := bc BK297.out 2; have hcz50_3 : w43.cell? ⟨gb297, 3, none⟩ = some (.slice Ao31 t293.length co31) := bc BK297.out 3; have hcz50_4 : w43.cell? ⟨gb297, 4, none⟩ = some (.int .i64 t296) := bc BK297.out 4; have hfz50_0 := blk_frozen BK297.out 0; have hfz50_1 := blk_frozen BK297.out 1; have hfz50_2 := blk_frozen BK297.out 2; have hfz50_3 := blk_frozen BK297.out 3; have hfz50_4 := blk_frozen BK297.out 4) | ((with_reducible refine gate_callee (f := 14) rfl ?_); refine gl (some 36) Try.func14 #[.agg #[.slice Ao44 t307.length co44, .int .i64 t310, .int .i64 t311, .slice Ao49 t312.length co49, .int .i64 t315], .agg #[.slice Ao28 t288.length co28, .int .i64 t291, .int .i64 t292, .slice Ao31 t293.length co31, .int .i64 t296]] ?_; (with_reducible refine (laws_eqBufOut.calls k _ _ t307 t310 t311 _ _ t312 t315 _ _ t288 t291 t292 _ _ t293 t296 t317 _ ?side1 ?side2 ?side3 ?side4 ?side5 ?side6 ?side7 ?side8 A16.out).mono ?_); (case side1 => refine (Kd.R_reads' (e := 2) (base := w.heap.size) (ok := fun k_ => ((((((some k_ ≠ (.slice Ao49 t312.length co49 : Value).ownBlock ∧ some k_ ≠ (.slice Ao24 t280.length co24 : Value).ownBlock) ∧ some k_ ≠ (.slice Ao25 t285.length co25 : Value).ownBlock) ∧ some k_ ≠ (.slice Ao28 t288.length co28 : Value).ownBlock) ∧ some k_ ≠ (.slice Ao31 t293.length co31 : Value).ownBlock) ∧ some k_ ≠ (.slice Ao35 t298.length co35 : Value).ownBlock) ∧ some k_ ≠ (.slice Ao41 t304.length co41 : Value).ownBlock)) (n := t307.length) (c := co44) ?_).2.2; exact (kr ((Kd.R_mono (Kd.R_far (p := ⟨gb316, 4, none⟩) (Kd.R_far (p := ⟨gb316, 3, none⟩) (Kd.R_far (p := ⟨gb316, 2, none⟩) (Kd.R_far (p := ⟨gb316, 1, none⟩) (Kd.R_far (p := ⟨gb316, 0, none⟩) (Kd.R_types HO309.out BK316.out (by decide)) (fun _ hk => hk.2) (.slice Ao44 t307.length co44)) (fun _ hk => hk.2) (.int .i64 t310)) (fun _ hk => hk.2) (.int .i64 t311)) (fun _ hk => hk.2) (.slice Ao49 t312.length co49)) (fun _ hk => hk.2) (.int .i64 t315)) (fun _ h_ => h_.1))))); (case side2 => exact (Kd.R_reads' HO309.out).2.1); (case side3 => refine (Kd.R_reads' (e := 2) (base := w.heap.size) (ok := fun k_ => ((((((some k_ ≠ (.slice Ao44 t307.length co44 : Value).ownBlock ∧ some k_ ≠ (.slice Ao24 t280.length co24 : Value).ownBlock) ∧ some k_ ≠ (.slice Ao25 t285.length co25 : Value).ownBlock) ∧ some k_ ≠ (.slice Ao28 t288.length co28 : Value).ownBlock) ∧ some k_ ≠ (.slice Ao31 t293.length co31 : Value).ownBlock) ∧ some k_ ≠ (.slice Ao35 t298.length co35 : Value).ownBlock) ∧ some k_ ≠ (.slice Ao41 t304.length co41 : Value).ownBlock)) (n := t312.length) (c := co49) ?_).2.2; exact (kr ((Kd.R_mono (Kd.R_far (p := ⟨gb316, 4, none⟩) (Kd.R_far (p := ⟨gb316, 3, none⟩) (Kd.R_far (p := ⟨gb316, 2, none⟩) (Kd.R_far (p := ⟨gb316, 1, none⟩) (Kd.R_far (p := ⟨gb316, 0, none⟩) (Kd.R_types HO314.out BK316.out (by decide)) (fun _ hk => hk.2) (.slice Ao44 t307.length co44)) (fun _ hk => hk.2) (.int .i64 t310)) (fun _ hk => hk.2) (.int .i64 t311)) (fun _ hk => hk.2) (.slice Ao49 t312.length co49)) (fun _ hk => hk.2) (.int .i64 t315)) (fun _ h_ => h_.1))))); (case side4 => exact (Kd.R_reads' HO314.out).2.1); (case side5 => refine (Kd.R_reads' (e := 2) (base := w.heap.size) (ok := fun k_ => ((((((some k_ ≠ (.slice Ao31 t293.length co31 : Value).ownBlock ∧ some k_ ≠ (.slice Ao24 t280.length co24 : Value).ownBlock) ∧ some k_ ≠ (.slice Ao25 t285.length co25 : Value).ownBlock) ∧ some k_ ≠ (.slice Ao35 t298.length co35 : Value).ownBlock) ∧ some k_ ≠ (.slice Ao41 t304.length co41 : Value).ownBlock) ∧ some k_ ≠ (.slice Ao44 t307.length co44 : Value).ownBlock) ∧ some k_ ≠ (.slice Ao49 t312.length co49 : Value).ownBlock)) (n := t288.length) (c := co28) ?_).2.2; exact (kr ((Kd.R_mono (Kd.R_far (p := ⟨gb316, 4, none⟩) (Kd.R_far (p := ⟨gb316, 3, none⟩) (Kd.R_far (p := ⟨gb316, 2, none⟩) (Kd.R_far (p := ⟨gb316, 1, none⟩) (Kd.R_far (p := ⟨gb316, 0, none⟩) (Kd.R_types HO290.out BK316.out (by decide)) (fun _ hk => hk.2) (.slice Ao44 t307.length co44)) (fun _ hk => hk.2) (.int .i64 t310)) (fun _ hk => hk.2) (.int .i64 t311)) (fun _ hk => hk.2) (.slice Ao49 t312.length co49)) (fun _ hk => hk.2) (.int .i64 t315)) (fun _ h_ => h_.1))))); (case side6 => exact (Kd.R_reads' HO290.out).2.1); (case side7 => refine (Kd.R_reads' (e := 2) (base := w.heap.size) (ok := fun k_ => ((((((some k_ ≠ (.slice Ao28 t288.length co28 : Value).ownBlock ∧ some k_ ≠ (.slice Ao24 t280.length co24 : Value).ownBlock) ∧ some k_ ≠ (.slice Ao25 t285.length co25 : Value).ownBlock) ∧ some k_ ≠ (.slice Ao35 t298.length co35 : Value).ownBlock) ∧ some k_ ≠ (.slice Ao41 t304.length co41 : Value).ownBlock) ∧ some k_ ≠ (.slice Ao44 t307.length co44 : Value).ownBlock) ∧ some k_ ≠ (.slice Ao49 t312.length co49 : Value).ownBlock)) (n := t293.length) (c := co31) ?_).2.2; exact (kr ((Kd.R_mono (Kd.R_far (p := ⟨gb316, 4, none⟩) (Kd.R_far (p := ⟨gb316, 3, none⟩) (Kd.R_far (p := ⟨gb316, 2, none⟩) (Kd.R_far (p := ⟨gb316, 1, none⟩) (Kd.R_far (p := ⟨gb316, 0, none⟩) (Kd.R_types HO295.out BK316.out (by decide)) (fun _ hk => hk.2) (.slice Ao44 t307.length co44)) (fun _ hk => hk.2) (.int .i64 t310)) (fun _ hk => hk.2) (.int .i64 t311)) (fun _ hk => hk.2) (.slice Ao49 t312.length co49)) (fun _ hk => hk.2) (.int .i64 t315)) (fun _ h_ => h_.1))))); (case side8 => exact (Kd.R_reads' HO295.out).2.1); rintro e w51 ⟨rfl, hb⟩; refine ⟨_, rfl, ?_⟩; replace HO282 := am (Kd.R_below (kr ((Kd.R_mono (Kd.R_far (p := ⟨gb316, 4, none⟩) (Kd.R_far (p := ⟨gb316, 3, none⟩) (Kd.R_far (p := ⟨gb316, 2, none⟩) (Kd.R_far (p := ⟨gb316, 1, none⟩) (Kd.R_far (p := ⟨gb316, 0, none⟩) (Kd.R_types HO282.out BK316.out (by decide)) (fun _ hk => hk.2) (.slice Ao44 t307.length co44)) (fun _ hk => hk.2) (.int .i64 t310)) (fun _ hk => hk.2) (.int .i64 t311)) (fun _ hk => hk.2) (.slice Ao49 t312.length co49)) (fun _ hk => hk.2) (.int .i64 t315)) (fun _ h_ => h_.1)))) hb); replace HO287 := am (Kd.R_below (kr ((Kd.R_mono (Kd.R_far (p := ⟨gb316, 4, none⟩) (Kd.R_far (p := ⟨gb316, 3, none⟩) (Kd.R_far (p := ⟨gb316, 2, none⟩) (Kd.R_far (p := ⟨gb316, 1, none⟩) (Kd.R_far (p := ⟨gb316, 0, none⟩) (Kd.R_types HO287.out BK316.out (by decide)) (fun _ hk => hk.2) (.slice Ao44 t307.length co44)) (fun _ hk => hk.2) (.int .i64 t310)) (fun _ hk => hk.2) (.int .i64 t311)) (fun _ hk => hk.2) (.slice Ao49 t312.length co49)) (fun _ hk => hk.2) (.int .i64 t315)) (fun _ h_ => h_.1)))) hb); replace HO290 := am (Kd.R_below (kr ((Kd.R_mono (Kd.R_far (p := ⟨gb316, 4, none⟩) (Kd.R_far (p := ⟨gb316, 3, none⟩) (Kd.R_far (p := ⟨gb316, 2, none⟩) (Kd.R_far (p := ⟨gb316, 1, none⟩) (Kd.R_far (p := ⟨gb316, 0, none⟩) (Kd.R_types HO290.out BK316.out (by decide)) (fun _ hk => hk.2) (.slice Ao44 t307.length co44)) (fun _ hk => hk.2) (.int .i64 t310)) (fun _ hk => hk.2) (.int .i64 t311)) (fun _ hk => hk.2) (.slice Ao49 t312.length co49)) (fun _ hk => hk.2) (.int .i64 t315)) (fun _ h_ => h_.1)))) hb); replace HO295 := am (Kd.R_below (kr ((Kd.R_mono (Kd.R_far (p := ⟨gb316, 4, none⟩) (Kd.R_far (p := ⟨gb316, 3, none⟩) (Kd.R_far (p := ⟨gb316, 2, none⟩) (Kd.R_far (p := ⟨gb316, 1, none⟩) (Kd.R_far (p := ⟨gb316, 0, none⟩) (Kd.R_types HO295.out BK316.out (by decide)) (fun _ hk => hk.2) (.slice Ao44 t307.length co44)) (fun _ hk => hk.2) (.int .i64 t310)) (fun _ hk => hk.2) (.int .i64 t311)) (fun _ hk => hk.2) (.slice Ao49 t312.length co49)) (fun _ hk => hk.2) (.int .i64 t315)) (fun _ h_ => h_.1)))) hb); replace HO300 := am (Kd.R_below (kr ((Kd.R_mono (Kd.R_far (p := ⟨gb316, 4, none⟩) (Kd.R_far (p := ⟨gb316, 3, none⟩) (Kd.R_far (p := ⟨gb316, 2, none⟩) (Kd.R_far (p := ⟨gb316, 1, none⟩) (Kd.R_far (p := ⟨gb316, 0, none⟩) (Kd.R_types HO300.out BK316.out (by decide)) (fun _ hk => hk.2) (.slice Ao44 t307.length co44)) (fun _ hk => hk.2) (.int .i64 t310)) (fun _ hk => hk.2) (.int .i64 t311)) (fun _ hk => hk.2) (.slice Ao49 t312.length co49)) (fun _ hk => hk.2) (.int .i64 t315)) (fun _ h_ => h_.1)))) hb); replace HO306 := am (Kd.R_below (kr ((Kd.R_mono (Kd.R_far (p := ⟨gb316, 4, none⟩) (Kd.R_far (p := ⟨gb316, 3, none⟩) (Kd.R_far (p := ⟨gb316, 2, none⟩) (Kd.R_far (p := ⟨gb316, 1, none⟩) (Kd.R_far (p := ⟨gb316, 0, none⟩) (Kd.R_types HO306.out BK316.out (by decide)) (fun _ hk => hk.2) (.slice Ao44 t307.length co44)) (fun _ hk => hk.2) (.int .i64 t310)) (fun _ hk => hk.2) (.int .i64 t311)) (fun _ hk => hk.2) (.slice Ao49 t312.length co49)) (fun _ hk => hk.2) (.int .i64 t315)) (fun _ h_ => h_.1)))) hb); replace HO309 := am (Kd.R_below (kr ((Kd.R_mono (Kd.R_far (p := ⟨gb316, 4, none⟩) (Kd.R_far (p := ⟨gb316, 3, none⟩) (Kd.R_far (p := ⟨gb316, 2, none⟩) (Kd.R_far (p := ⟨gb316, 1, none⟩) (Kd.R_far (p := ⟨gb316, 0, none⟩) (Kd.R_types HO309.out BK316.out (by decide)) (fun _ hk => hk.2) (.slice Ao44 t307.length co44)) (fun _ hk => hk.2) (.int .i64 t310)) (fun _ hk => hk.2) (.int .i64 t311)) (fun _ hk => hk.2) (.slice Ao49 t312.length co49)) (fun _ hk => hk.2) (.int .i64 t315)) (fun _ h_ => h_.1)))) hb); replace HO314 := am (Kd.R_below (kr ((Kd.R_mono (Kd.R_far (p := ⟨gb316, 4, none⟩) (Kd.R_far (p := ⟨gb316, 3, none⟩) (Kd.R_far (p := ⟨gb316, 2, none⟩) (Kd.R_far (p := ⟨gb316, 1, none⟩) (Kd.R_far (p := ⟨gb316, 0, none⟩) (Kd.R_types HO314.out BK316.out (by decide)) (fun _ hk => hk.2) (.slice Ao44 t307.length co44)) (fun _ hk => hk.2) (.int .i64 t310)) (fun _ hk => hk.2) (.int .i64 t311)) (fun _ hk => hk.2) (.slice Ao49 t312.length co49)) (fun _ hk => hk.2) (.int .i64 t315)) (fun _ h_ => h_.1)))) hb); replace BK278 := am (blk_below (g := gb278) (o := .cells #[.slice A0_0 l0_0.length c0_0, .int .i64 a0_1, .int .i64 a0_2] 24 (0, 0)) (by (with_reducible repeat (first | refine blk_drewN ?_ _ | refine blk_drew ?_ | refine blk_alloc ?_ _)); refine blk_far ?_ NB278_316.out _; (with_reducible repeat (first | refine blk_drewN ?_ _ | refine blk_drew ?_ | refine blk_alloc ?_ _)); refine blk_far ?_ NB278_316.out _; (with_reducible repeat (first | refine blk_drewN ?_ _ | refine blk_drew ?_ | refine blk_alloc ?_ _)); refine blk_far ?_ NB278_316.out _; (with_reducible repeat (first | refine blk_drewN ?_ _ | refine blk_drew ?_ | refine blk_alloc ?_ _)); refine blk_far ?_ NB278_316.out _; (with_reducible repeat (first | refine blk_drewN ?_ _ | refine blk_drew ?_ | refine blk_alloc ?_ _)); refine blk_far ?_ NB278_316.out _; (with_reducible repeat (first | refine blk_drewN ?_ _ | refine blk_drew ?_ | refine blk_alloc ?_ _)); exact BK278.out) hb); replace BK297 := am (blk_below (g := gb297) (o := .cells #[.slice Ao28 t288.length co28, .int .i64 t291, .int .i64 t292, .slice Ao31 t293.length co31, .int .i64 t296] 28 (0, 0)) (by (with_reducible repeat (first | refine blk_drewN ?_ _ | refine blk_drew ?_ | refine blk_alloc ?_ _)); refine blk_far ?_ NB297_316.out _; (with_reducible repeat (first | refine blk_drewN ?_ _ | refine blk_drew ?_ | refine blk_alloc ?_ _)); refine blk_far ?_ NB297_316.out _; (with_reducible repeat (first | refine blk_drewN ?_ _ | refine blk_drew ?_ | refine blk_alloc ?_ _)); refine blk_far ?_ NB297_316.out _; (with_reducible repeat (first | refine blk_drewN ?_ _ | refine blk_drew ?_ | refine blk_alloc ?_ _)); refine blk_far ?_ NB297_316.out _; (with_reducible repeat (first | refine blk_drewN ?_ _ | refine blk_drew ?_ | refine blk_alloc ?_ _)); refine blk_far ?_ NB297_316.out _; (with_reducible repeat (first | refine blk_drewN ?_ _ | refine blk_drew ?_ | refine blk_alloc ?_ _)); exact BK297.out) hb); replace BK303 := am (blk_below (g := gb303) (o := .cells #[.slice Ao35 t298.length co35, .int .i64 t301, .int .i64 t302] 26 (0, 0)) (by (with_reducible repeat (first | refine blk_drewN ?_ _ | refine blk_drew ?_ | refine blk_alloc ?_ _)); refine blk_far ?_ NB303_316.out _; (with_reducible repeat (first | refine blk_drewN ?_ _ | refine blk_drew ?_ | refine blk_alloc ?_ _)); refine blk_far ?_ NB303_316.out _; (with_reducible repeat (first | refine blk_drewN ?_ _ | refine blk_drew ?_ | refine blk_alloc ?_ _)); refine blk_far ?_ NB303_316.out _; (with_reducible repeat (first | refine blk_drewN ?_ _ | refine blk_drew ?_ | refine blk_alloc ?_ _)); refine blk_far ?_ NB303_316.out _; (with_reducible repeat (first | refine blk_drewN ?_ _ | refine blk_drew ?_ | refine blk_alloc ?_ _)); refine blk_far ?_ NB303_316.out _; (with_reducible repeat (first | refine blk_drewN ?_ _ | refine blk_drew ?_ | refine blk_alloc ?_ _)); exact BK303.out) hb); replace BK316 := am (blk_below (g := gb316) (o := .cells #[.slice Ao44 t307.length co44, .int .i64 t310, .int .i64 t311, .slice Ao49 t312.length co49, .int .i64 t315] 28 (0, 0)) (by (with_reducible repeat (first | refine blk_drewN ?_ _ | refine blk_drew ?_ | refine blk_alloc ?_ _)); refine blk_put (cs := #[.slice Ao44 t307.length co44, .int .i64 t310, .int .i64 t311, .slice Ao49 t312.length co49, .int .i64 0]) ?_ 4 _ rfl; (with_reducible repeat (first | refine blk_drewN ?_ _ | refine blk_drew ?_ | refine blk_alloc ?_ _)); refine blk_put (cs := #[.slice Ao44 t307.length co44, .int .i64 t310, .int .i64 t311, .slice none 0 0, .int .i64 0]) ?_ 3 _ rfl; (with_reducible repeat (first | refine blk_drewN ?_ _ | refine blk_drew ?_ | refine blk_alloc ?_ _)); refine blk_put (cs := #[.slice Ao44 t307.length co44, .int .i64 t310, .int .i64 0, .slice none 0 0, .int .i64 0]) ?_ 2 _ rfl; (with_reducible repeat (first | refine blk_drewN ?_ _ | refine blk_drew ?_ | refine blk_alloc ?_ _)); refine blk_put (cs := #[.slice Ao44 t307.length co44, .int .i64 0, .int .i64 0, .slice none 0 0, .int .i64 0]) ?_ 1 _ rfl; (with_reducible repeat (first | refine blk_drewN ?_ _ | refine blk_drew ?_ | refine blk_alloc ?_ _)); refine blk_put (cs := #[.slice none 0 0, .int .i64 0, .int .i64 0, .slice none 0 0, .int .i64 0]) ?_ 0 _ rfl; (with_reducible repeat (first | refine blk_drewN ?_ _ | refine blk_drew ?_ | refine blk_alloc ?_ _)); exact BK316.out) hb); replace HB := am (below_step (bl HB.out) hb); (try clear hb); (try clear hb2); (try clear hk); (try clear hi)))
   (try simp only [Act.put, sa_, s0_, ss_])
   go_cut [] (fun wc => ∃ (kq : Nat), Aside0 (laws_FnExactBufInsert.j0 kq l1 t304 l0_0 a0_1 a0_2 t288 t291 t292 t293 t296 t298 t301 t302 t307 t310 t311 t312 t315 = some r) ∧ Aside0 (kq ≤ k) ∧ Aside0 (Kd.R (Kd.int .i64) 2 wc w.heap.size (fun k_ => some k_ ≠ ((.slice Ao28 t288.length co28) : Value).ownBlock ∧ some k_ ≠ ((.slice Ao31 t293.length co31) : Value).ownBlock ∧ some k_ ≠ ((.slice Ao35 t298.length co35) : Value).ownBlock ∧ some k_ ≠ ((.slice Ao44 t307.length co44) : Value).ownBlock ∧ some k_ ≠ ((.slice Ao49 t312.length co49) : Value).ownBlock) (.slice Ao41 t304.length co41) t304) ∧ Aside0 (Kd.R (Kd.int .i64) 2 wc w.heap.size (fun k_ => some k_ ≠ ((.slice Ao41 t304.length co41) : Value).ownBlock ∧ some k_ ≠ ((.slice Ao31 t293.length co31) : Value).ownBlock ∧ some k_ ≠ ((.slice Ao35 t298.length co35) : Value).ownBlock ∧ some k_ ≠ ((.slice Ao44 t307.length co44) : Value).ownBlock ∧ some k_ ≠ ((.slice Ao49 t312.length co49) : Value).ownBlock) (.slice Ao28 t288.length co28) t288) ∧ Aside0 (Kd.R (Kd.int .i64) 2 wc w.heap.size (fun k_ => some k_ ≠ ((.slice Ao41 t304.length co41) : Value).ownBlock ∧ some k_ ≠ ((.slice Ao28 t288.length co28) : Value).ownBlock ∧ some k_ ≠ ((.slice Ao35 t298.length co35) : Value).ownBlock ∧ some k_ ≠ ((.slice Ao44 t307.length co44) : Value).ownBlock ∧ some k_ ≠ ((.slice Ao49 t312.length co49) : Value).ownBlock) (.slice Ao31 t293.length co31) t293) ∧ Aside0 (Kd.R (Kd.int .i64) 2 wc w.heap.size (fun k_ => some k_ ≠ ((.slice Ao41 t304.length co41) : Value).ownBlock ∧ some k_ ≠ ((.slice Ao28 t288.length co28) : Value).ownBlock ∧ some k_ ≠ ((.slice Ao31 t293.length co31) : Value).ownBlock ∧ some k_ ≠ ((.slice Ao44 t307.length co44) : Value).ownBlock ∧ some k_ ≠ ((.slice Ao49 t312.length co49) : Value).ownBlock) (.slice Ao35 t298.length co35) t298) ∧ Aside0 (Kd.R (Kd.int .i64) 2 wc w.heap.size (fun k_ => some k_ ≠ ((.slice Ao41 t304.length co41) : Value).ownBlock ∧ some k_ ≠ ((.slice Ao28 t288.length co28) : Value).ownBlock ∧ some k_ ≠ ((.slice Ao31 t293.length co31) : Value).ownBlock ∧ some k_ ≠ ((.slice Ao35 t298.length co35) : Value).ownBlock ∧ some k_ ≠ ((.slice Ao49 t312.length co49) : Value).ownBlock) (.slice Ao44 t307.length co44) t307) ∧ Aside0 (Kd.R (Kd.int .i64) 2 wc w.heap.size (fun k_ => some k_ ≠ ((.slice Ao41 t304.length co41) : Value).ownBlock ∧ some k_ ≠ ((.slice Ao28 t288.length co28) : Value).ownBlock ∧ some k_ ≠ ((.slice Ao31 t293.length co31) : Value).ownBlock ∧ some k_ ≠ ((.slice Ao35 t298.length co35) : Value).ownBlock ∧ some k_ ≠ ((.slice Ao44 t307.length co44) : Value).ownBlock) (.slice Ao49 t312.length co49) t312) ∧ Aside0 (wc.heap[gb278]? = some (.cells #[(.slice A0_0 l0_0.length c0_0), .int .i64 a0_1, .int .i64 a0_2] 24 (0, 0))) ∧ Aside0 (wc.heap[gb297]? = some (.cells #[(.slice Ao28 t288.length co28), .int .i64 t291, .int .i64 t292, (.slice Ao31 t293.length co31), .int .i64 t296] 28 (0, 0))) ∧ Aside0 (wc.heap[gb303]? = some (.cells #[(.slice Ao35 t298.length co35), .int .i64 t301, .int .i64 t302] 26 (0, 0))) ∧ Aside0 (wc.heap[gb316]? = some (.cells #[(.slice Ao44 t307.length co44), .int .i64 t310, .int .i64 t311, (.slice Ao49 t312.length co49), .int .i64 t315] 28 (0, 0))) ∧ Aside0 (Below w.heap.size w wc))
   case first =>
    have H := HC17.out
    clear HC17
    by_cases c52 : t317 = true
    ·subst c52
     have H1 : (laws_FnExactBufInsert.j0 k l1 t304 l0_0 a0_1 a0_2 t288 t291 t292 t293 t296 t298 t301 t302 t307 t310 t311 t312 t315) = some r := by rw [if_pos rfl] at H; exact H
     clear H
     have H := H1
     clear H1
     have H' := Aside0.mk H
     clear H
     go_wp2
     go_meet
     case rel => exact ⟨_, H', ⟨by first | omega | exact Nat.le_refl _⟩, ⟨kr (Kd.R_mono HO306.out (fun _ hk => ⟨hk.1.1.1.1.2, ⟨hk.1.1.1.2, ⟨hk.1.1.2, ⟨hk.1.2, hk.2⟩⟩⟩⟩))⟩, ⟨kr (Kd.R_mono HO290.out (fun _ hk => ⟨hk.1.1.2, ⟨hk.1.1.1.1.1.1, ⟨hk.1.1.1.2, ⟨hk.1.2, hk.2⟩⟩⟩⟩))⟩, ⟨kr (Kd.R_mono HO295.out (fun _ hk => ⟨hk.1.1.2, ⟨hk.1.1.1.1.1.1, ⟨hk.1.1.1.2, ⟨hk.1.2, hk.2⟩⟩⟩⟩))⟩, ⟨kr (Kd.R_mono HO300.out (fun _ hk => ⟨hk.1.1.2, ⟨hk.1.1.1.1.2, ⟨hk.1.1.1.2, ⟨hk.1.2, hk.2⟩⟩⟩⟩))⟩, ⟨kr (Kd.R_mono HO309.out (fun _ hk => ⟨hk.2, ⟨hk.1.1.1.2, ⟨hk.1.1.2, ⟨hk.1.2, hk.1.1.1.1.1.1⟩⟩⟩⟩))⟩, ⟨kr (Kd.R_mono HO314.out (fun _ hk => ⟨hk.2, ⟨hk.1.1.1.2, ⟨hk.1.1.2, ⟨hk.1.2, hk.1.1.1.1.1.1⟩⟩⟩⟩))⟩, ⟨pk BK278.out⟩, ⟨pk BK297.out⟩, ⟨pk BK303.out⟩, ⟨pk BK316.out⟩, ⟨by repeat (first | (with_reducible first | exact HB.out | apply below_alloc | apply pw_below_drewN | apply below_drew1 | refine below_set ?_ GE278.out | refine below_set ?_ GE297.out | refine below_set ?_ GE303.out | refine below_set ?_ GE316.out) | exact HB.out)⟩⟩
    ·replace c52 := Bool.eq_false_iff.mpr c52
     subst c52
     have H1 : (some false) = some r := by rw [if_neg (show ¬ (false = true) by decide)] at H; exact H
     clear H
     have H := H1
     clear H1
     obtain rfl := Option.some.inj H
     go_wp2
     go_ret
     exact ⟨by first | rfl | (simp [errW_none, errW_some] <;> rfl) | (simp [*, errW_none, errW_some] <;> rfl), by repeat (first | (with_reducible first | exact HB.out | apply below_alloc | apply pw_below_drewN | apply below_drew1 | refine below_set ?_ GE278.out | refine below_set ?_ GE297.out | refine below_set ?_ GE303.out | refine below_set ?_ GE316.out) | exact HB.out)⟩
   case rest =>
    clear HC17
    try clear c1
    try clear c2
    try clear p2
    try clear c3
    try clear c3b0
    try clear c3b1
    try clear c4
    try clear c5
    try clear c6
    try clear c6b0
    try clear c9
    try clear c11
    try clear c12
    try clear c14
    try clear c21
    try clear c22
    try clear c29
    try clear c36
    try clear c37
    try clear c45
    try clear c46
    try clear c47
    try clear c52
    try clear hcz19_0
    try clear hcz19_1
    try clear hcz19_2
    try clear hcz21_0
    try clear hcz21_1
    try clear hcz21_2
    try clear hcz30_0
    try clear hcz30_1
    try clear hcz30_2
    try clear hcz30_3
    try clear hcz30_4
    try clear hcz32_0
    try clear hcz32_1
    try clear hcz32_2
    try clear hcz38_0
    try clear hcz38_1
    try clear hcz38_2
    try clear hcz40_0
    try clear hcz40_1
    try clear hcz40_2
    try clear hcz48_0
    try clear hcz48_1
    try clear hcz48_2
    try clear hcz48_3
    try clear hcz48_4
    try clear hcz50_0
    try clear hcz50_1
    try clear hcz50_2
    try clear hcz50_3
    try clear hcz50_4
    try clear hcz8_0
    try clear hcz8_1
    try clear hcz8_2
    try clear hfz19_0
    try clear hfz19_1
    try clear hfz19_2
    try clear hfz21_0
    try clear hfz21_1
    try clear hfz21_2
    try clear hfz30_0
    try clear hfz30_1
    try clear hfz30_2
    try clear hfz30_3
    try clear hfz30_4
    try clear hfz32_0
    try clear hfz32_1
    try clear hfz32_2
    try clear hfz38_0
    try clear hfz38_1
    try clear hfz38_2
    try clear hfz40_0
    try clear hfz40_1
    try clear hfz40_2
    try clear hfz48_0
    try clear hfz48_1
    try clear hfz48_2
    try clear hfz48_3
    try clear hfz48_4
    try clear hfz50_0
    try clear hfz50_1
    try clear hfz50_2
    try clear hfz50_3
    try clear hfz50_4
    try clear hfz8_0
    try clear hfz8_1
    try clear hfz8_2
    obtain ⟨kq, HA, HJ16, HO_8, HO_298000, HO_298003, HO_304000, HO_317000, HO_317003, BK278, BK297, BK303, BK316, HB⟩ := hcut
    cases kq with
    | zero => exact absurd HA.out (by simp [laws_FnExactBufInsert.j0])
    | succ kj16 =>
     have H := HA.out
     clear HA
     simp only [laws_FnExactBufInsert.j0] at H
     replace H := Option.bind_eq_some_iff.mp H
     obtain ⟨⟨t318, t321, t322⟩, A530, H⟩ := H
     replace H : ((laws_eqBuf.f kj16 t298 t301 t302 t318 t321 t322).bind fun t323 => (if t323 = true then (laws_FnExactBufInsert.j1 kj16 l1 t304 l0_0 a0_1 a0_2 t288 t291 t292 t293 t296 t298 t301 t302 t307 t310 t311 t312 t315) else (some false))) = some r := H
     have A53 := Aside0.mk A530
     clear A530
     replace H := Option.bind_eq_some_iff.mp H
     obtain ⟨t323, A540, H⟩ := H
     replace H : (if t323 = true then (laws_FnExactBufInsert.j1 kj16 l1 t304 l0_0 a0_1 a0_2 t288 t291 t292 t293 t296 t298 t301 t302 t307 t310 t311 t312 t315) else (some false)) = some r := H
     have A54 := Aside0.mk A540
     clear A540
     have HC55 := Aside0.mk H
     clear H
     try go_wp2
     replace HO_8 := am (Kd.R_drew HO_8.out)
     replace HO_298000 := am (Kd.R_drew HO_298000.out)
     replace HO_298003 := am (Kd.R_drew HO_298003.out)
     replace HO_304000 := am (Kd.R_drew HO_304000.out)
     replace HO_317000 := am (Kd.R_drew HO_317000.out)
     replace HO_317003 := am (Kd.R_drew HO_317003.out)
     replace BK278 := am (blk_drew BK278.out)
     replace BK297 := am (blk_drew BK297.out)
     replace BK303 := am (blk_drew BK303.out)
     replace BK316 := am (blk_drew BK316.out)
     replace HB := am (below_drew1 HB.out)
     refine start_ (n := 5) (S := fun w' => w'.cell? ⟨gb303, 0, none⟩ = some (.slice Ao35 t298.length co35) ∧ w'.cell? ⟨gb303, 1, none⟩ = some (.int .i64 t301) ∧ w'.cell? ⟨gb303, 2, none⟩ = some (.int .i64 t302) ∧ w'.cell? ⟨gb278, 0, none⟩ = some (.slice A0_0 l0_0.length c0_0) ∧ w'.cell? ⟨gb278, 1, none⟩ = some (.int .i64 a0_1) ∧ w'.cell? ⟨gb278, 2, none⟩ = some (.int .i64 a0_2)) (ds := []) #[false, false, false, false, false] (by kernel_rfl) rfl rfl ⟨bc BK303.out 0, bc BK303.out 1, bc BK303.out 2, bc BK278.out 0, bc BK278.out 1, bc BK278.out 2⟩ (fun hHeld => ?_)
     generalize wc.drew = w56 at HO_8 HO_298000 HO_298003 HO_304000 HO_317000 HO_317003 BK278 BK297 BK303 BK316 HB hHeld ⊢
     refine take_ (i := 0) (N := some 38) (v := ?_) (a' := ?_) #[true, false, false, false, false] rfl rfl (by kernel_rfl) (fun _ _ _ h => h) (Or.inl ⟨by rfl, ?_⟩) hHeld ?_ ?_; rotate_left
     ·rintro w' ⟨s0, s1, s2, s3, s4, s5⟩; go_simp; with_reducible rfl
     rotate_left
     ·simp only [Act.put, sa_, s0_, ss_, i64_w, i32_w]; rfl
     refine take_ (i := 1) (N := some 39) (v := ?_) (a' := ?_) #[true, true, false, false, false] rfl rfl (by kernel_rfl) (fun _ _ _ h => h) (Or.inl ⟨by rfl, ?_⟩) hHeld ?_ ?_; rotate_left
     ·rintro w' ⟨s0, s1, s2, s3, s4, s5⟩; go_simp; with_reducible rfl
     rotate_left
     ·simp only [Act.put, sa_, s0_, ss_, i64_w, i32_w]; rfl
     refine one_ (i := 2) (N := some 40) #[true, true, true, false, false] rfl rfl (by kernel_rfl) (by decide) (fun K hK => ?_)
     refine goes_ Try.func11 (by kernel_rfl) rfl #[.agg #[.slice A0_0 l0_0.length c0_0, .int .i64 a0_1, .int .i64 a0_2]] (by rfl) rfl rfl (by (try simp only [List.map_toArray, List.map_cons, List.map_nil]); first | done | rfl | (simp only [List.length_drop, List.length_take]; rfl)) ?_
     with_reducible refine (laws_toBuf.calls kj16 _ _ l0_0 a0_1 a0_2 t318 t321 t322 _ ?side1 ?side2 A53.out).mono ?_
     (case side1 => repeat (first | exact (Kd.C_below HR0_0.out HB.out) | (with_reducible refine Kd.C_alloc ?_ _) | (with_reducible refine Kd.C_drewN ?_ _) | (with_reducible refine Kd.C_drew ?_)))
     (case side2 => exact HC0_0.out)
     rintro e w57 ⟨v319, rfl, ho0, hb⟩
     refine ⟨_, rfl, ?_⟩
     have HO320 := am (Kd.R_lower (Kd.R_new' (Kd.R_new' (Kd.R_new' (Kd.R_new' (Kd.R_new' (Kd.R_new' ho0 (Kd.R_lt (kr HO_8.out))) (Kd.R_lt (kr HO_298000.out))) (Kd.R_lt (kr HO_298003.out))) (Kd.R_lt (kr HO_304000.out))) (Kd.R_lt (kr HO_317000.out))) (Kd.R_lt (kr HO_317003.out))) (below_size (bl HB.out)))
     replace HO_8 := am (Kd.R_elder' (kr HO_8.out) (Kd.R_base ho0) hb)
     replace HO_298000 := am (Kd.R_elder' (kr HO_298000.out) (Kd.R_base ho0) hb)
     replace HO_298003 := am (Kd.R_elder' (kr HO_298003.out) (Kd.R_base ho0) hb)
     replace HO_304000 := am (Kd.R_elder' (kr HO_304000.out) (Kd.R_base ho0) hb)
     replace HO_317000 := am (Kd.R_elder' (kr HO_317000.out) (Kd.R_base ho0) hb)
     replace HO_317003 := am (Kd.R_elder' (kr HO_317003.out) (Kd.R_base ho0) hb)
     replace BK278 := am (blk_below (pk BK278.out) hb)
     replace BK297 := am (blk_below (pk BK297.out) hb)
     replace BK303 := am (blk_below (pk BK303.out) hb)
     replace BK316 := am (blk_below (pk BK316.out) hb)
     replace HB := am (below_step (bl HB.out) hb)
     (try clear hb)
     (try clear hb2)
     (try clear hk)
     (try clear hi)
     (try clear ho0)
     obtain ⟨Ao58, co58, eo58⟩ := Kd.R_slice HO320.out
     (first | subst eo58 | (injection eo58 with f1_ f2_ f3_; have f4_ := f1_.symm; have f5_ := f3_.symm; clear f1_ f2_ f3_; subst f4_; subst f5_))
     refine hK.out _ _ ⟨bc BK303.out 0, bc BK303.out 1, bc BK303.out 2, bc BK278.out 0, bc BK278.out 1, bc BK278.out 2⟩ (fun hHeld => ?_)
     clear hK K
     refine norm_ (a' := ?_) ?_ ?_
     rotate_left
     ·show Act.put _ (some 40) _ = _
      simp only [Act.put, sa_, s0_, ss_, i64_w, i32_w]
      rfl
     refine one_ (i := 3) (N := some 41) #[true, true, true, true, false] rfl rfl (by kernel_rfl) (by decide) (fun K hK => ?_)
     refine goes_ Try.func15 (by kernel_rfl) rfl #[.agg #[.slice Ao35 t298.length co35, .int .i64 t301, .int .i64 t302], .agg #[.slice Ao58 t318.length co58, .int .i64 t321, .int .i64 t322]] (by rfl) rfl rfl (by (try simp only [List.map_toArray, List.map_cons, List.map_nil]); first | done | rfl | (simp only [List.length_drop, List.length_take]; rfl)) ?_
     with_reducible refine (laws_eqBuf.calls kj16 _ _ t298 t301 t302 _ _ t318 t321 t322 t323 _ ?side1 ?side2 ?side3 ?side4 A54.out).mono ?_
     (case side1 => repeat (first | exact (Kd.R_reads' HO_304000.out).2.2 | (with_reducible refine Kd.C_alloc ?_ _) | (with_reducible refine Kd.C_drewN ?_ _) | (with_reducible refine Kd.C_drew ?_)))
     (case side2 => exact (Kd.R_reads' HO_304000.out).2.1)
     (case side3 => repeat (first | exact (Kd.R_reads' HO320.out).2.2 | (with_reducible refine Kd.C_alloc ?_ _) | (with_reducible refine Kd.C_drewN ?_ _) | (with_reducible refine Kd.C_drew ?_)))
     (case side4 => exact (Kd.R_reads' HO320.out).2.1)
     rintro e w59 ⟨rfl, hb⟩
     refine ⟨_, rfl, ?_⟩
     replace HO_8 := am (Kd.R_below (kr HO_8.out) hb)
     replace HO_298000 := am (Kd.R_below (kr HO_298000.out) hb)
     replace HO_298003 := am (Kd.R_below (kr HO_298003.out) hb)
     replace HO_304000 := am (Kd.R_below (kr HO_304000.out) hb)
     replace HO_317000 := am (Kd.R_below (kr HO_317000.out) hb)
     replace HO_317003 := am (Kd.R_below (kr HO_317003.out) hb)
     replace HO320 := am (Kd.R_below (kr HO320.out) hb)
     replace BK278 := am (blk_below (pk BK278.out) hb)
     replace BK297 := am (blk_below (pk BK297.out) hb)
     replace BK303 := am (blk_below (pk BK303.out) hb)
     replace BK316 := am (blk_below (pk BK316.out) hb)
     replace HB := am (below_step (bl HB.out) hb)
     (try clear hb)
     (try clear hb2)
     (try clear hk)
     (try clear hi)
     refine hK.out _ _ ⟨bc BK303.out 0, bc BK303.out 1, bc BK303.out 2, bc BK278.out 0, bc BK278.out 1, bc BK278.out 2⟩ (fun hHeld => ?_)
     clear hK K
     refine norm_ (a' := ?_) ?_ ?_
     rotate_left
     ·show Act.put _ (some 41) _ = _
      simp only [Act.put, sa_, s0_, ss_, i64_w, i32_w]
      rfl
     refine pure_ (i := 4) (N := some 42) (v := ?_) (a' := ?_) #[true, true, true, true, true] rfl rfl (by kernel_rfl) (fun _ _ _ h => h) (Or.inl ⟨by rfl, ?_⟩) ?_ ?_; rotate_left
     ·intro w'; go_simp; with_reducible rfl
     rotate_left
     ·simp only [Act.put, sa_, s0_, ss_, i64_w, i32_w]; rfl
     refine done_ (by kernel_rfl) ?_
     go_upto_if 42 with (fail)
     go_cut [] (fun wc => ∃ (kq : Nat), Aside0 (laws_FnExactBufInsert.j1 kq l1 t304 l0_0 a0_1 a0_2 t288 t291 t292 t293 t296 t298 t301 t302 t307 t310 t311 t312 t315 = some r) ∧ Aside0 (kq ≤ kj16) ∧ Aside0 (Kd.R (Kd.int .i64) 2 wc w.heap.size (fun k_ => some k_ ≠ ((.slice Ao28 t288.length co28) : Value).ownBlock ∧ some k_ ≠ ((.slice Ao31 t293.length co31) : Value).ownBlock ∧ some k_ ≠ ((.slice Ao35 t298.length co35) : Value).ownBlock ∧ some k_ ≠ ((.slice Ao44 t307.length co44) : Value).ownBlock ∧ some k_ ≠ ((.slice Ao49 t312.length co49) : Value).ownBlock) (.slice Ao41 t304.length co41) t304) ∧ Aside0 (Kd.R (Kd.int .i64) 2 wc w.heap.size (fun k_ => some k_ ≠ ((.slice Ao41 t304.length co41) : Value).ownBlock ∧ some k_ ≠ ((.slice Ao31 t293.length co31) : Value).ownBlock ∧ some k_ ≠ ((.slice Ao35 t298.length co35) : Value).ownBlock ∧ some k_ ≠ ((.slice Ao44 t307.length co44) : Value).ownBlock ∧ some k_ ≠ ((.slice Ao49 t312.length co49) : Value).ownBlock) (.slice Ao28 t288.length co28) t288) ∧ Aside0 (Kd.R (Kd.int .i64) 2 wc w.heap.size (fun k_ => some k_ ≠ ((.slice Ao41 t304.length co41) : Value).ownBlock ∧ some k_ ≠ ((.slice Ao28 t288.length co28) : Value).ownBlock ∧ some k_ ≠ ((.slice Ao35 t298.length co35) : Value).ownBlock ∧ some k_ ≠ ((.slice Ao44 t307.length co44) : Value).ownBlock ∧ some k_ ≠ ((.slice Ao49 t312.length co49) : Value).ownBlock) (.slice Ao31 t293.length co31) t293) ∧ Aside0 (Kd.R (Kd.int .i64) 2 wc w.heap.size (fun k_ => some k_ ≠ ((.slice Ao41 t304.length co41) : Value).ownBlock ∧ some k_ ≠ ((.slice Ao28 t288.length co28) : Value).ownBlock ∧ some k_ ≠ ((.slice Ao31 t293.length co31) : Value).ownBlock ∧ some k_ ≠ ((.slice Ao44 t307.length co44) : Value).ownBlock ∧ some k_ ≠ ((.slice Ao49 t312.length co49) : Value).ownBlock) (.slice Ao35 t298.length co35) t298) ∧ Aside0 (Kd.R (Kd.int .i64) 2 wc w.heap.size (fun k_ => some k_ ≠ ((.slice Ao41 t304.length co41) : Value).ownBlock ∧ some k_ ≠ ((.slice Ao28 t288.length co28) : Value).ownBlock ∧ some k_ ≠ ((.slice Ao31 t293.length co31) : Value).ownBlock ∧ some k_ ≠ ((.slice Ao35 t298.length co35) : Value).ownBlock ∧ some k_ ≠ ((.slice Ao49 t312.length co49) : Value).ownBlock) (.slice Ao44 t307.length co44) t307) ∧ Aside0 (Kd.R (Kd.int .i64) 2 wc w.heap.size (fun k_ => some k_ ≠ ((.slice Ao41 t304.length co41) : Value).ownBlock ∧ some k_ ≠ ((.slice Ao28 t288.length co28) : Value).ownBlock ∧ some k_ ≠ ((.slice Ao31 t293.length co31) : Value).ownBlock ∧ some k_ ≠ ((.slice Ao35 t298.length co35) : Value).ownBlock ∧ some k_ ≠ ((.slice Ao44 t307.length co44) : Value).ownBlock) (.slice Ao49 t312.length co49) t312) ∧ Aside0 (wc.heap[gb278]? = some (.cells #[(.slice A0_0 l0_0.length c0_0), .int .i64 a0_1, .int .i64 a0_2] 24 (0, 0))) ∧ Aside0 (wc.heap[gb297]? = some (.cells #[(.slice Ao28 t288.length co28), .int .i64 t291, .int .i64 t292, (.slice Ao31 t293.length co31), .int .i64 t296] 28 (0, 0))) ∧ Aside0 (wc.heap[gb303]? = some (.cells #[(.slice Ao35 t298.length co35), .int .i64 t301, .int .i64 t302] 26 (0, 0))) ∧ Aside0 (wc.heap[gb316]? = some (.cells #[(.slice Ao44 t307.length co44), .int .i64 t310, .int .i64 t311, (.slice Ao49 t312.length co49), .int .i64 t315] 28 (0, 0))) ∧ Aside0 (Below w.heap.size w wc))
     case first =>
      have H := HC55.out
      clear HC55
      by_cases c60 : t323 = true
      ·subst c60
       have H1 : (laws_FnExactBufInsert.j1 kj16 l1 t304 l0_0 a0_1 a0_2 t288 t291 t292 t293 t296 t298 t301 t302 t307 t310 t311 t312 t315) = some r := by rw [if_pos rfl] at H; exact H
       clear H
       have H := H1
       clear H1
       have H' := Aside0.mk H
       clear H
       go_wp2
       go_meet
       case rel => exact ⟨_, H', ⟨by have := HJ16.out; first | omega | exact Nat.le_refl _⟩, ⟨kr (Kd.R_mono HO_8.out (fun _ hk => ⟨hk.1.1, ⟨hk.1.2.1, ⟨hk.1.2.2.1, ⟨hk.1.2.2.2.1, hk.1.2.2.2.2⟩⟩⟩⟩))⟩, ⟨kr (Kd.R_mono HO_298000.out (fun _ hk => ⟨hk.1.1, ⟨hk.1.2.1, ⟨hk.1.2.2.1, ⟨hk.1.2.2.2.1, hk.1.2.2.2.2⟩⟩⟩⟩))⟩, ⟨kr (Kd.R_mono HO_298003.out (fun _ hk => ⟨hk.1.1, ⟨hk.1.2.1, ⟨hk.1.2.2.1, ⟨hk.1.2.2.2.1, hk.1.2.2.2.2⟩⟩⟩⟩))⟩, ⟨kr (Kd.R_mono HO_304000.out (fun _ hk => ⟨hk.1.1, ⟨hk.1.2.1, ⟨hk.1.2.2.1, ⟨hk.1.2.2.2.1, hk.1.2.2.2.2⟩⟩⟩⟩))⟩, ⟨kr (Kd.R_mono HO_317000.out (fun _ hk => ⟨hk.1.1, ⟨hk.1.2.1, ⟨hk.1.2.2.1, ⟨hk.1.2.2.2.1, hk.1.2.2.2.2⟩⟩⟩⟩))⟩, ⟨kr (Kd.R_mono HO_317003.out (fun _ hk => ⟨hk.1.1, ⟨hk.1.2.1, ⟨hk.1.2.2.1, ⟨hk.1.2.2.2.1, hk.1.2.2.2.2⟩⟩⟩⟩))⟩, ⟨pk BK278.out⟩, ⟨pk BK297.out⟩, ⟨pk BK303.out⟩, ⟨pk BK316.out⟩, ⟨by repeat (first | (with_reducible first | exact HB.out | apply below_alloc | apply pw_below_drewN | apply below_drew1 | refine below_set ?_ GE278.out | refine below_set ?_ GE297.out | refine below_set ?_ GE303.out | refine below_set ?_ GE316.out) | exact HB.out)⟩⟩
      ·replace c60 := Bool.eq_false_iff.mpr c60
       subst c60
       have H1 : (some false) = some r := by rw [if_neg (show ¬ (false = true) by decide)] at H; exact H
       clear H
       have H := H1
       clear H1
       obtain rfl := Option.some.inj H
       go_wp2
       go_ret
       exact ⟨by first | rfl | (simp [errW_none, errW_some] <;> rfl) | (simp [*, errW_none, errW_some] <;> rfl), by repeat (first | (with_reducible first | exact HB.out | apply below_alloc | apply pw_below_drewN | apply below_drew1 | refine below_set ?_ GE278.out | refine below_set ?_ GE297.out | refine below_set ?_ GE303.out | refine below_set ?_ GE316.out) | exact HB.out)⟩
     case rest =>
      clear HC55
      try clear c1
      try clear c2
      try clear p2
      try clear c3
      try clear c3b0
      try clear c3b1
      try clear c4
      try clear c5
      try clear c6
      try clear c6b0
      try clear c9
      try clear c11
      try clear c12
      try clear c14
      try clear c15
      try clear c21
      try clear c22
      try clear c29
      try clear c36
      try clear c37
      try clear c45
      try clear c46
      try clear c47
      try clear c52
      try clear c60
      try clear hcz19_0
      try clear hcz19_1
      try clear hcz19_2
      try clear hcz21_0
      try clear hcz21_1
      try clear hcz21_2
      try clear hcz30_0
      try clear hcz30_1
      try clear hcz30_2
      try clear hcz30_3
      try clear hcz30_4
      try clear hcz32_0
      try clear hcz32_1
      try clear hcz32_2
      try clear hcz38_0
      try clear hcz38_1
      try clear hcz38_2
      try clear hcz40_0
      try clear hcz40_1
      try clear hcz40_2
      try clear hcz48_0
      try clear hcz48_1
      try clear hcz48_2
      try clear hcz48_3
      try clear hcz48_4
      try clear hcz50_0
      try clear hcz50_1
      try clear hcz50_2
      try clear hcz50_3
      try clear hcz50_4
      try clear hcz8_0
      try clear hcz8_1
      try clear hcz8_2
      try clear hfz19_0
      try clear hfz19_1
      try clear hfz19_2
      try clear hfz21_0
      try clear hfz21_1
      try clear hfz21_2
      try clear hfz30_0
      try clear hfz30_1
      try clear hfz30_2
      try clear hfz30_3
      try clear hfz30_4
      try clear hfz32_0
      try clear hfz32_1
      try clear hfz32_2
      try clear hfz38_0
      try clear hfz38_1
      try clear hfz38_2
      try clear hfz40_0
      try clear hfz40_1
      try clear hfz40_2
      try clear hfz48_0
      try clear hfz48_1
      try clear hfz48_2
      try clear hfz48_3
      try clear hfz48_4
      try clear hfz50_0
      try clear hfz50_1
      try clear hfz50_2
      try clear hfz50_3
      try clear hfz50_4
      try clear hfz8_0
      try clear hfz8_1
      try clear hfz8_2
      try clear p2
      obtain ⟨kq, HA, HJ54, HO_8, HO_298000, HO_298003, HO_304000, HO_317000, HO_317003, BK278, BK297, BK303, BK316, HB⟩ := hcut
      cases kq with
      | zero => exact absurd HA.out (by simp [laws_FnExactBufInsert.j1])
      | succ kj54 =>
       have H := HA.out
       clear HA
       simp only [laws_FnExactBufInsert.j1] at H
       replace H := Option.bind_eq_some_iff.mp H
       obtain ⟨t324, A610, H⟩ := H
       replace H : ((laws_eqInt64S.f kj54 t304 t324).bind fun t327 => (if t327 = true then (laws_FnExactBufInsert.j2 kj54 l1 t304 l0_0 a0_1 a0_2 t288 t291 t292 t293 t296 t298 t301 t302 t307 t310 t311 t312 t315) else (some false))) = some r := H
       have A61 := Aside0.mk A610
       clear A610
       replace H := Option.bind_eq_some_iff.mp H
       obtain ⟨t327, A620, H⟩ := H
       replace H : (if t327 = true then (laws_FnExactBufInsert.j2 kj54 l1 t304 l0_0 a0_1 a0_2 t288 t291 t292 t293 t296 t298 t301 t302 t307 t310 t311 t312 t315) else (some false)) = some r := H
       have A62 := Aside0.mk A620
       clear A620
       have HC63 := Aside0.mk H
       clear H
       go_upto_if 47 with (first | ((with_reducible refine gate_callee (f := 12) rfl ?_); refine gl (some 45) Try.func12 #[.slice A1 l1.length c1] ?_; (with_reducible refine (laws_toInt64S.calls kj54 _ _ l1 t324 _ ?side1 ?side2 A61.out).mono ?_); (case side1 => repeat (first | exact (Kd.C_below HR1.out HB.out) | (with_reducible refine Kd.C_alloc ?_ _) | (with_reducible refine Kd.C_drewN ?_ _) | (with_reducible refine Kd.C_drew ?_))); (case side2 => exact HC1.out); rintro e w64 ⟨v325, rfl, ho0, hb⟩; refine ⟨_, rfl, ?_⟩; have HO326 := am (Kd.R_lower (Kd.R_new' (Kd.R_new' (Kd.R_new' (Kd.R_new' (Kd.R_new' (Kd.R_new' ho0 (Kd.R_lt (kr HO_8.out))) (Kd.R_lt (kr HO_298000.out))) (Kd.R_lt (kr HO_298003.out))) (Kd.R_lt (kr HO_304000.out))) (Kd.R_lt (kr HO_317000.out))) (Kd.R_lt (kr HO_317003.out))) (below_size (bl HB.out))); replace HO_8 := am (Kd.R_elder' (kr HO_8.out) (Kd.R_base ho0) hb); replace HO_298000 := am (Kd.R_elder' (kr HO_298000.out) (Kd.R_base ho0) hb); replace HO_298003 := am (Kd.R_elder' (kr HO_298003.out) (Kd.R_base ho0) hb); replace HO_304000 := am (Kd.R_elder' (kr HO_304000.out) (Kd.R_base ho0) hb); replace HO_317000 := am (Kd.R_elder' (kr HO_317000.out) (Kd.R_base ho0) hb); replace HO_317003 := am (Kd.R_elder' (kr HO_317003.out) (Kd.R_base ho0) hb); replace BK278 := am (blk_below (pk BK278.out) hb); replace BK297 := am (blk_below (pk BK297.out) hb); replace BK303 := am (blk_below (pk BK303.out) hb); replace BK316 := am (blk_below (pk BK316.out) hb); replace HB := am (below_step (bl HB.out) hb); (try clear hb); (try clear hb2); (try clear hk); (try clear hi); (try clear ho0); obtain ⟨Ao65, co65, eo65⟩ := Kd.R_slice HO326.out; subst eo65) | ((with_reducible refine gate_callee (f := 16) rfl ?_); refine gl (some 46) Try.func16 #[.slice Ao41 t304.length co41, .slice Ao65 t324.length co65] ?_; (with_reducible refine (laws_eqInt64S.calls kj54 _ _ t304 _ _ t324 t327 _ ?side1 ?side2 ?side3 ?side4 A62.out).mono ?_); (case side1 => repeat (first | exact (Kd.R_reads' HO_8.out).2.2 | (with_reducible refine Kd.C_alloc ?_ _) | (with_reducible refine Kd.C_drewN ?_ _) | (with_reducible refine Kd.C_drew ?_))); (case side2 => exact (Kd.R_reads' HO_8.out).2.1); (case side3 => repeat (first | exact (Kd.R_reads' HO326.out).2.2 | (with_reducible refine Kd.C_alloc ?_ _) | (with_reducible refine Kd.C_drewN ?_ _) | (with_reducible refine Kd.C_drew ?_))); (case side4 => exact (Kd.R_reads' HO326.out).2.1); rintro e w' ⟨rfl, ⟨nd, rfl⟩⟩; refine ⟨_, rfl, ?_⟩))
       (try simp only [Act.put, sa_, s0_, ss_])
       go_cut [] (fun wc => ∃ (kq : Nat), Aside0 (laws_FnExactBufInsert.j2 kq l1 t304 l0_0 a0_1 a0_2 t288 t291 t292 t293 t296 t298 t301 t302 t307 t310 t311 t312 t315 = some r) ∧ Aside0 (kq ≤ kj54) ∧ Aside0 (Kd.R (Kd.int .i64) 2 wc w.heap.size (fun k_ => some k_ ≠ ((.slice Ao28 t288.length co28) : Value).ownBlock ∧ some k_ ≠ ((.slice Ao31 t293.length co31) : Value).ownBlock ∧ some k_ ≠ ((.slice Ao35 t298.length co35) : Value).ownBlock ∧ some k_ ≠ ((.slice Ao44 t307.length co44) : Value).ownBlock ∧ some k_ ≠ ((.slice Ao49 t312.length co49) : Value).ownBlock) (.slice Ao41 t304.length co41) t304) ∧ Aside0 (Kd.R (Kd.int .i64) 2 wc w.heap.size (fun k_ => some k_ ≠ ((.slice Ao41 t304.length co41) : Value).ownBlock ∧ some k_ ≠ ((.slice Ao31 t293.length co31) : Value).ownBlock ∧ some k_ ≠ ((.slice Ao35 t298.length co35) : Value).ownBlock ∧ some k_ ≠ ((.slice Ao44 t307.length co44) : Value).ownBlock ∧ some k_ ≠ ((.slice Ao49 t312.length co49) : Value).ownBlock) (.slice Ao28 t288.length co28) t288) ∧ Aside0 (Kd.R (Kd.int .i64) 2 wc w.heap.size (fun k_ => some k_ ≠ ((.slice Ao41 t304.length co41) : Value).ownBlock ∧ some k_ ≠ ((.slice Ao28 t288.length co28) : Value).ownBlock ∧ some k_ ≠ ((.slice Ao35 t298.length co35) : Value).ownBlock ∧ some k_ ≠ ((.slice Ao44 t307.length co44) : Value).ownBlock ∧ some k_ ≠ ((.slice Ao49 t312.length co49) : Value).ownBlock) (.slice Ao31 t293.length co31) t293) ∧ Aside0 (Kd.R (Kd.int .i64) 2 wc w.heap.size (fun k_ => some k_ ≠ ((.slice Ao41 t304.length co41) : Value).ownBlock ∧ some k_ ≠ ((.slice Ao28 t288.length co28) : Value).ownBlock ∧ some k_ ≠ ((.slice Ao31 t293.length co31) : Value).ownBlock ∧ some k_ ≠ ((.slice Ao44 t307.length co44) : Value).ownBlock ∧ some k_ ≠ ((.slice Ao49 t312.length co49) : Value).ownBlock) (.slice Ao35 t298.length co35) t298) ∧ Aside0 (Kd.R (Kd.int .i64) 2 wc w.heap.size (fun k_ => some k_ ≠ ((.slice Ao41 t304.length co41) : Value).ownBlock ∧ some k_ ≠ ((.slice Ao28 t288.length co28) : Value).ownBlock ∧ some k_ ≠ ((.slice Ao31 t293.length co31) : Value).ownBlock ∧ some k_ ≠ ((.slice Ao35 t298.length co35) : Value).ownBlock ∧ some k_ ≠ ((.slice Ao49 t312.length co49) : Value).ownBlock) (.slice Ao44 t307.length co44) t307) ∧ Aside0 (Kd.R (Kd.int .i64) 2 wc w.heap.size (fun k_ => some k_ ≠ ((.slice Ao41 t304.length co41) : Value).ownBlock ∧ some k_ ≠ ((.slice Ao28 t288.length co28) : Value).ownBlock ∧ some k_ ≠ ((.slice Ao31 t293.length co31) : Value).ownBlock ∧ some k_ ≠ ((.slice Ao35 t298.length co35) : Value).ownBlock ∧ some k_ ≠ ((.slice Ao44 t307.length co44) : Value).ownBlock) (.slice Ao49 t312.length co49) t312) ∧ Aside0 (wc.heap[gb278]? = some (.cells #[(.slice A0_0 l0_0.length c0_0), .int .i64 a0_1, .int .i64 a0_2] 24 (0, 0))) ∧ Aside0 (wc.heap[gb297]? = some (.cells #[(.slice Ao28 t288.length co28), .int .i64 t291, .int .i64 t292, (.slice Ao31 t293.length co31), .int .i64 t296] 28 (0, 0))) ∧ Aside0 (wc.heap[gb303]? = some (.cells #[(.slice Ao35 t298.length co35), .int .i64 t301, .int .i64 t302] 26 (0, 0))) ∧ Aside0 (wc.heap[gb316]? = some (.cells #[(.slice Ao44 t307.length co44), .int .i64 t310, .int .i64 t311, (.slice Ao49 t312.length co49), .int .i64 t315] 28 (0, 0))) ∧ Aside0 (Below w.heap.size w wc))
       case first =>
        have H := HC63.out
        clear HC63
        by_cases c66 : t327 = true
        ·subst c66
         have H1 : (laws_FnExactBufInsert.j2 kj54 l1 t304 l0_0 a0_1 a0_2 t288 t291 t292 t293 t296 t298 t301 t302 t307 t310 t311 t312 t315) = some r := by rw [if_pos rfl] at H; exact H
         clear H
         have H := H1
         clear H1
         have H' := Aside0.mk H
         clear H
         go_wp2
         go_meet
         case rel => exact ⟨_, H', ⟨by have := HJ16.out; have := HJ54.out; first | omega | exact Nat.le_refl _⟩, ⟨kr (Kd.R_mono HO_8.out (fun _ hk => ⟨hk.1.1, ⟨hk.1.2.1, ⟨hk.1.2.2.1, ⟨hk.1.2.2.2.1, hk.1.2.2.2.2⟩⟩⟩⟩))⟩, ⟨kr (Kd.R_mono HO_298000.out (fun _ hk => ⟨hk.1.1, ⟨hk.1.2.1, ⟨hk.1.2.2.1, ⟨hk.1.2.2.2.1, hk.1.2.2.2.2⟩⟩⟩⟩))⟩, ⟨kr (Kd.R_mono HO_298003.out (fun _ hk => ⟨hk.1.1, ⟨hk.1.2.1, ⟨hk.1.2.2.1, ⟨hk.1.2.2.2.1, hk.1.2.2.2.2⟩⟩⟩⟩))⟩, ⟨kr (Kd.R_mono HO_304000.out (fun _ hk => ⟨hk.1.1, ⟨hk.1.2.1, ⟨hk.1.2.2.1, ⟨hk.1.2.2.2.1, hk.1.2.2.2.2⟩⟩⟩⟩))⟩, ⟨kr (Kd.R_mono HO_317000.out (fun _ hk => ⟨hk.1.1, ⟨hk.1.2.1, ⟨hk.1.2.2.1, ⟨hk.1.2.2.2.1, hk.1.2.2.2.2⟩⟩⟩⟩))⟩, ⟨kr (Kd.R_mono HO_317003.out (fun _ hk => ⟨hk.1.1, ⟨hk.1.2.1, ⟨hk.1.2.2.1, ⟨hk.1.2.2.2.1, hk.1.2.2.2.2⟩⟩⟩⟩))⟩, ⟨pk BK278.out⟩, ⟨pk BK297.out⟩, ⟨pk BK303.out⟩, ⟨pk BK316.out⟩, ⟨by repeat (first | (with_reducible first | exact HB.out | apply below_alloc | apply pw_below_drewN | apply below_drew1 | refine below_set ?_ GE278.out | refine below_set ?_ GE297.out | refine below_set ?_ GE303.out | refine below_set ?_ GE316.out) | exact HB.out)⟩⟩
        ·replace c66 := Bool.eq_false_iff.mpr c66
         subst c66
         have H1 : (some false) = some r := by rw [if_neg (show ¬ (false = true) by decide)] at H; exact H
         clear H
         have H := H1
         clear H1
         obtain rfl := Option.some.inj H
         go_wp2
         go_ret
         exact ⟨by first | rfl | (simp [errW_none, errW_some] <;> rfl) | (simp [*, errW_none, errW_some] <;> rfl), by repeat (first | (with_reducible first | exact HB.out | apply below_alloc | apply pw_below_drewN | apply below_drew1 | refine below_set ?_ GE278.out | refine below_set ?_ GE297.out | refine below_set ?_ GE303.out | refine below_set ?_ GE316.out) | exact HB.out)⟩
       case rest =>
        clear HC63
        try clear c1
        try clear c2
        try clear p2
        try clear c3
        try clear c3b0
        try clear c3b1
        try clear c4
        try clear c5
        try clear c6
        try clear c6b0
        try clear c9
        try clear c11
        try clear c12
        try clear c14
        try clear c15
        try clear c16
        try clear c21
        try clear c22
        try clear c29
        try clear c36
        try clear c37
        try clear c45
        try clear c46
        try clear c47
        try clear c52
        try clear c60
        try clear c66
        try clear hcz19_0
        try clear hcz19_1
        try clear hcz19_2
        try clear hcz21_0
        try clear hcz21_1
        try clear hcz21_2
        try clear hcz30_0
        try clear hcz30_1
        try clear hcz30_2
        try clear hcz30_3
        try clear hcz30_4
        try clear hcz32_0
        try clear hcz32_1
        try clear hcz32_2
        try clear hcz38_0
        try clear hcz38_1
        try clear hcz38_2
        try clear hcz40_0
        try clear hcz40_1
        try clear hcz40_2
        try clear hcz48_0
        try clear hcz48_1
        try clear hcz48_2
        try clear hcz48_3
        try clear hcz48_4
        try clear hcz50_0
        try clear hcz50_1
        try clear hcz50_2
        try clear hcz50_3
        try clear hcz50_4
        try clear hcz8_0
        try clear hcz8_1
        try clear hcz8_2
        try clear hfz19_0
        try clear hfz19_1
        try clear hfz19_2
        try clear hfz21_0
        try clear hfz21_1
        try clear hfz21_2
        try clear hfz30_0
        try clear hfz30_1
        try clear hfz30_2
        try clear hfz30_3
        try clear hfz30_4
        try clear hfz32_0
        try clear hfz32_1
        try clear hfz32_2
        try clear hfz38_0
        try clear hfz38_1
        try clear hfz38_2
        try clear hfz40_0
        try clear hfz40_1
        try clear hfz40_2
        try clear hfz48_0
        try clear hfz48_1
        try clear hfz48_2
        try clear hfz48_3
        try clear hfz48_4
        try clear hfz50_0
        try clear hfz50_1
        try clear hfz50_2
        try clear hfz50_3
        try clear hfz50_4
        try clear hfz8_0
        try clear hfz8_1
        try clear hfz8_2
        try clear p2
        obtain ⟨kq, HA, HJ62, HO_8, HO_298000, HO_298003, HO_304000, HO_317000, HO_317003, BK278, BK297, BK303, BK316, HB⟩ := hcut
        cases kq with
        | zero => exact absurd HA.out (by simp [laws_FnExactBufInsert.j2])
        | succ kj62 =>
         have H := HA.out
         clear HA
         simp only [laws_FnExactBufInsert.j2] at H
         replace H := Option.bind_eq_some_iff.mp H
         obtain ⟨⟨t328, t329⟩, A670, H⟩ := H
         replace H : ((laws_markInt64S.f kj62 t304 t328).bind fun bt330 => (if bt330.1 < 0 then (laws_FnExactBufInsert.j3 kj62 l1 true l0_0 a0_1 a0_2 t288 t291 t292 t293 t296 t307 t310 t311 t312 t315) else ((laws_eqBufOut.f kj62 t307 t310 t311 t312 t315 t288 t291 t292 t293 t296).bind fun t332 => (laws_FnExactBufInsert.j3 kj62 l1 (!t332) l0_0 a0_1 a0_2 t288 t291 t292 t293 t296 t307 t310 t311 t312 t315)))) = some r := H
         have A67 := Aside0.mk A670
         clear A670
         replace H := Option.bind_eq_some_iff.mp H
         obtain ⟨⟨t330, t331⟩, A680, H⟩ := H
         replace H : (if t330 < 0 then (laws_FnExactBufInsert.j3 kj62 l1 true l0_0 a0_1 a0_2 t288 t291 t292 t293 t296 t307 t310 t311 t312 t315) else ((laws_eqBufOut.f kj62 t307 t310 t311 t312 t315 t288 t291 t292 t293 t296).bind fun t332 => (laws_FnExactBufInsert.j3 kj62 l1 (!t332) l0_0 a0_1 a0_2 t288 t291 t292 t293 t296 t307 t310 t311 t312 t315))) = some r := H
         have A68 := Aside0.mk A680
         clear A680
         have HC69 := Aside0.mk H
         clear H
         have hnb70 := NB303_278.out
         have hnc70 := NB278_303.out
         have hnb71 := NB303_297.out
         have hnc71 := NB297_303.out
         have hnb72 := NB303_316.out
         have hnc72 := NB316_303.out
         have hcz73_0 : wc.cell? ⟨gb303, 0, none⟩ = some (.slice Ao35 t298.length co35) := bc BK303.out 0
         have hcz73_1 : wc.cell? ⟨gb303, 1, none⟩ = some (.int .i64 t301) := bc BK303.out 1
         have hcz73_2 : wc.cell? ⟨gb303, 2, none⟩ = some (.int .i64 t302) := bc BK303.out 2
         have hfz73_0 := blk_frozen BK303.out 0
         have hfz73_1 := blk_frozen BK303.out 1
         have hfz73_2 := blk_frozen BK303.out 2
         go_upto_region 20 with (first | ((with_reducible refine gate_callee (f := 17) rfl ?_); refine gl (some 50) Try.func17 #[.agg #[.slice Ao35 t298.length co35, .int .i64 t301, .int .i64 t302], .int .i64 1] ?_; (with_reducible refine (laws_markBuf.calls kj62 (fun k_ => some k_ = (.slice Ao35 t298.length co35 : Value).ownBlock) (.slice Ao35 t298.length co35) t298 t301 t302 1 t328 t329 w _ ?side1 ?side2 A67.out).mono ?_); (case side1 => repeat (first | (with_reducible first | exact HB.out | apply below_alloc | apply pw_below_drewN | apply below_drew1 | refine below_set ?_ GE278.out | refine below_set ?_ GE297.out | refine below_set ?_ GE303.out | refine below_set ?_ GE316.out) | exact HB.out)); (case side2 => exact Kd.R_tight rfl HO_304000.out); rintro e w74 ⟨rfl, hy0, hb, hkp⟩; refine ⟨_, rfl, ?_⟩; replace HO_8 := am (Kd.R_mono (ok' := fun k_ => some k_ ≠ (.slice Ao28 t288.length co28 : Value).ownBlock ∧ some k_ ≠ (.slice Ao31 t293.length co31 : Value).ownBlock ∧ some k_ ≠ (.slice Ao35 t298.length co35 : Value).ownBlock ∧ some k_ ≠ (.slice Ao44 t307.length co44 : Value).ownBlock ∧ some k_ ≠ (.slice Ao49 t312.length co49 : Value).ownBlock) (Kd.R_keptB (HO_8.out) hkp (fun k_ hk_ hs_ => (hk_.2.2.1) hs_)) (fun k_ hk_ => ⟨hk_.1.1, hk_.1.2.1, hk_.1.2.2.1, hk_.1.2.2.2.1, hk_.1.2.2.2.2⟩)); replace HO_298000 := am (Kd.R_mono (ok' := fun k_ => some k_ ≠ (.slice Ao41 t304.length co41 : Value).ownBlock ∧ some k_ ≠ (.slice Ao31 t293.length co31 : Value).ownBlock ∧ some k_ ≠ (.slice Ao35 t298.length co35 : Value).ownBlock ∧ some k_ ≠ (.slice Ao44 t307.length co44 : Value).ownBlock ∧ some k_ ≠ (.slice Ao49 t312.length co49 : Value).ownBlock) (Kd.R_keptB (HO_298000.out) hkp (fun k_ hk_ hs_ => (hk_.2.2.1) hs_)) (fun k_ hk_ => ⟨hk_.1.1, hk_.1.2.1, hk_.1.2.2.1, hk_.1.2.2.2.1, hk_.1.2.2.2.2⟩)); replace HO_298003 := am (Kd.R_mono (ok' := fun k_ => some k_ ≠ (.slice Ao41 t304.length co41 : Value).ownBlock ∧ some k_ ≠ (.slice Ao28 t288.length co28 : Value).ownBlock ∧ some k_ ≠ (.slice Ao35 t298.length co35 : Value).ownBlock ∧ some k_ ≠ (.slice Ao44 t307.length co44 : Value).ownBlock ∧ some k_ ≠ (.slice Ao49 t312.length co49 : Value).ownBlock) (Kd.R_keptB (HO_298003.out) hkp (fun k_ hk_ hs_ => (hk_.2.2.1) hs_)) (fun k_ hk_ => ⟨hk_.1.1, hk_.1.2.1, hk_.1.2.2.1, hk_.1.2.2.2.1, hk_.1.2.2.2.2⟩)); replace HO_317000 := am (Kd.R_mono (ok' := fun k_ => some k_ ≠ (.slice Ao41 t304.length co41 : Value).ownBlock ∧ some k_ ≠ (.slice Ao28 t288.length co28 : Value).ownBlock ∧ some k_ ≠ (.slice Ao31 t293.length co31 : Value).ownBlock ∧ some k_ ≠ (.slice Ao35 t298.length co35 : Value).ownBlock ∧ some k_ ≠ (.slice Ao49 t312.length co49 : Value).ownBlock) (Kd.R_keptB (HO_317000.out) hkp (fun k_ hk_ hs_ => (hk_.2.2.2.1) hs_)) (fun k_ hk_ => ⟨hk_.1.1, hk_.1.2.1, hk_.1.2.2.1, hk_.1.2.2.2.1, hk_.1.2.2.2.2⟩)); replace HO_317003 := am (Kd.R_mono (ok' := fun k_ => some k_ ≠ (.slice Ao41 t304.length co41 : Value).ownBlock ∧ some k_ ≠ (.slice Ao28 t288.length co28 : Value).ownBlock ∧ some k_ ≠ (.slice Ao31 t293.length co31 : Value).ownBlock ∧ some k_ ≠ (.slice Ao35 t298.length co35 : Value).ownBlock ∧ some k_ ≠ (.slice Ao44 t307.length co44 : Value).ownBlock) (Kd.R_keptB (HO_317003.out) hkp (fun k_ hk_ hs_ => (hk_.2.2.2.1) hs_)) (fun k_ hk_ => ⟨hk_.1.1, hk_.1.2.1, hk_.1.2.2.1, hk_.1.2.2.2.1, hk_.1.2.2.2.2⟩)); replace BK278 := am (blk_kept (pk BK278.out) hkp (fun hs_ => (fun e_ => (Kd.R_ne HO_304000.out BK278.out (by decide)) e_) hs_)); replace BK297 := am (blk_kept (pk BK297.out) hkp (fun hs_ => (fun e_ => (Kd.R_ne HO_304000.out BK297.out (by decide)) e_) hs_)); replace BK303 := am (blk_kept (pk BK303.out) hkp (fun hs_ => (fun e_ => (Kd.R_ne HO_304000.out BK303.out (by decide)) e_) hs_)); replace BK316 := am (blk_kept (pk BK316.out) hkp (fun hs_ => (fun e_ => (Kd.R_ne HO_304000.out BK316.out (by decide)) e_) hs_)); replace HO_304000 := am (Kd.R_reok rfl hy0 (fun k_ e_ => HO_304000.out.1 k_ e_)); replace HB := am (hb); (try clear hb); (try clear hkp); (try clear hy0)) | ((with_reducible refine gate_callee (f := 18) rfl ?_); refine gl (some 53) Try.func18 #[.slice Ao41 t304.length co41, .int .i64 t328] ?_; (with_reducible refine (laws_markInt64S.calls kj62 (fun k_ => some k_ = (.slice Ao41 t304.length co41 : Value).ownBlock) (.slice Ao41 t304.length co41) t304 t328 t330 t331 w _ ?side1 ?side2 A68.out).mono ?_); (case side1 => repeat (first | (with_reducible first | exact HB.out | apply below_alloc | apply pw_below_drewN | apply below_drew1 | refine below_set ?_ GE278.out | refine below_set ?_ GE297.out | refine below_set ?_ GE303.out | refine below_set ?_ GE316.out) | exact HB.out)); (case side2 => exact Kd.R_tight rfl HO_8.out); rintro e w75 ⟨rfl, hy0, hb, hkp⟩; refine ⟨_, rfl, ?_⟩; replace HO_298000 := am (Kd.R_mono (ok' := fun k_ => some k_ ≠ (.slice Ao41 t304.length co41 : Value).ownBlock ∧ some k_ ≠ (.slice Ao31 t293.length co31 : Value).ownBlock ∧ some k_ ≠ (.slice Ao35 t298.length co35 : Value).ownBlock ∧ some k_ ≠ (.slice Ao44 t307.length co44 : Value).ownBlock ∧ some k_ ≠ (.slice Ao49 t312.length co49 : Value).ownBlock) (Kd.R_keptB (HO_298000.out) hkp (fun k_ hk_ hs_ => (hk_.1) hs_)) (fun k_ hk_ => ⟨hk_.1.1, hk_.1.2.1, hk_.1.2.2.1, hk_.1.2.2.2.1, hk_.1.2.2.2.2⟩)); replace HO_298003 := am (Kd.R_mono (ok' := fun k_ => some k_ ≠ (.slice Ao41 t304.length co41 : Value).ownBlock ∧ some k_ ≠ (.slice Ao28 t288.length co28 : Value).ownBlock ∧ some k_ ≠ (.slice Ao35 t298.length co35 : Value).ownBlock ∧ some k_ ≠ (.slice Ao44 t307.length co44 : Value).ownBlock ∧ some k_ ≠ (.slice Ao49 t312.length co49 : Value).ownBlock) (Kd.R_keptB (HO_298003.out) hkp (fun k_ hk_ hs_ => (hk_.1) hs_)) (fun k_ hk_ => ⟨hk_.1.1, hk_.1.2.1, hk_.1.2.2.1, hk_.1.2.2.2.1, hk_.1.2.2.2.2⟩)); replace HO_304000 := am (Kd.R_mono (ok' := fun k_ => some k_ ≠ (.slice Ao41 t304.length co41 : Value).ownBlock ∧ some k_ ≠ (.slice Ao28 t288.length co28 : Value).ownBlock ∧ some k_ ≠ (.slice Ao31 t293.length co31 : Value).ownBlock ∧ some k_ ≠ (.slice Ao44 t307.length co44 : Value).ownBlock ∧ some k_ ≠ (.slice Ao49 t312.length co49 : Value).ownBlock) (Kd.R_keptB (HO_304000.out) hkp (fun k_ hk_ hs_ => (hk_.1) hs_)) (fun k_ hk_ => ⟨hk_.1.1, hk_.1.2.1, hk_.1.2.2.1, hk_.1.2.2.2.1, hk_.1.2.2.2.2⟩)); replace HO_317000 := am (Kd.R_mono (ok' := fun k_ => some k_ ≠ (.slice Ao41 t304.length co41 : Value).ownBlock ∧ some k_ ≠ (.slice Ao28 t288.length co28 : Value).ownBlock ∧ some k_ ≠ (.slice Ao31 t293.length co31 : Value).ownBlock ∧ some k_ ≠ (.slice Ao35 t298.length co35 : Value).ownBlock ∧ some k_ ≠ (.slice Ao49 t312.length co49 : Value).ownBlock) (Kd.R_keptB (HO_317000.out) hkp (fun k_ hk_ hs_ => (hk_.1) hs_)) (fun k_ hk_ => ⟨hk_.1.1, hk_.1.2.1, hk_.1.2.2.1, hk_.1.2.2.2.1, hk_.1.2.2.2.2⟩)); replace HO_317003 := am (Kd.R_mono (ok' := fun k_ => some k_ ≠ (.slice Ao41 t304.length co41 : Value).ownBlock ∧ some k_ ≠ (.slice Ao28 t288.length co28 : Value).ownBlock ∧ some k_ ≠ (.slice Ao31 t293.length co31 : Value).ownBlock ∧ some k_ ≠ (.slice Ao35 t298.length co35 : Value).ownBlock ∧ some k_ ≠ (.slice Ao44 t307.length co44 : Value).ownBlock) (Kd.R_keptB (HO_317003.out) hkp (fun k_ hk_ hs_ => (hk_.1) hs_)) (fun k_ hk_ => ⟨hk_.1.1, hk_.1.2.1, hk_.1.2.2.1, hk_.1.2.2.2.1, hk_.1.2.2.2.2⟩)); replace BK278 := am (blk_kept (pk BK278.out) hkp (fun hs_ => (fun e_ => (Kd.R_ne HO_8.out BK278.out (by decide)) e_) hs_)); replace BK297 := am (blk_kept (pk BK297.out) hkp (fun hs_ => (fun e_ => (Kd.R_ne HO_8.out BK297.out (by decide)) e_) hs_)); replace BK303 := am (blk_kept (pk BK303.out) hkp (fun hs_ => (fun e_ => (Kd.R_ne HO_8.out BK303.out (by decide)) e_) hs_)); replace BK316 := am (blk_kept (pk BK316.out) hkp (fun hs_ => (fun e_ => (Kd.R_ne HO_8.out BK316.out (by decide)) e_) hs_)); replace HO_8 := am (Kd.R_reok rfl hy0 (fun k_ e_ => HO_8.out.1 k_ e_)); replace HB := am (hb); (try clear hb); (try clear hkp); (try clear hy0)))
         (try simp only [Act.put, sa_, s0_, ss_])
         go_cut [61] (fun v61 wc => ∃ (kq : Nat) (x61_68 : Bool), v61 = .bool x61_68 ∧ Aside0 (laws_FnExactBufInsert.j3 kq l1 x61_68 l0_0 a0_1 a0_2 t288 t291 t292 t293 t296 t307 t310 t311 t312 t315 = some r) ∧ Aside0 (kq ≤ kj62) ∧ Aside0 (Kd.R (Kd.int .i64) 2 wc w.heap.size (fun k_ => some k_ ≠ ((.slice Ao31 t293.length co31) : Value).ownBlock ∧ some k_ ≠ ((.slice Ao35 t298.length co35) : Value).ownBlock ∧ some k_ ≠ ((.slice Ao44 t307.length co44) : Value).ownBlock ∧ some k_ ≠ ((.slice Ao49 t312.length co49) : Value).ownBlock) (.slice Ao28 t288.length co28) t288) ∧ Aside0 (Kd.R (Kd.int .i64) 2 wc w.heap.size (fun k_ => some k_ ≠ ((.slice Ao28 t288.length co28) : Value).ownBlock ∧ some k_ ≠ ((.slice Ao35 t298.length co35) : Value).ownBlock ∧ some k_ ≠ ((.slice Ao44 t307.length co44) : Value).ownBlock ∧ some k_ ≠ ((.slice Ao49 t312.length co49) : Value).ownBlock) (.slice Ao31 t293.length co31) t293) ∧ Aside0 (Kd.R (Kd.int .i64) 2 wc w.heap.size (fun k_ => some k_ ≠ ((.slice Ao28 t288.length co28) : Value).ownBlock ∧ some k_ ≠ ((.slice Ao31 t293.length co31) : Value).ownBlock ∧ some k_ ≠ ((.slice Ao44 t307.length co44) : Value).ownBlock ∧ some k_ ≠ ((.slice Ao49 t312.length co49) : Value).ownBlock) (.slice Ao35 t298.length co35) t329) ∧ Aside0 (Kd.R (Kd.int .i64) 2 wc w.heap.size (fun k_ => some k_ ≠ ((.slice Ao28 t288.length co28) : Value).ownBlock ∧ some k_ ≠ ((.slice Ao31 t293.length co31) : Value).ownBlock ∧ some k_ ≠ ((.slice Ao35 t298.length co35) : Value).ownBlock ∧ some k_ ≠ ((.slice Ao49 t312.length co49) : Value).ownBlock) (.slice Ao44 t307.length co44) t307) ∧ Aside0 (Kd.R (Kd.int .i64) 2 wc w.heap.size (fun k_ => some k_ ≠ ((.slice Ao28 t288.length co28) : Value).ownBlock ∧ some k_ ≠ ((.slice Ao31 t293.length co31) : Value).ownBlock ∧ some k_ ≠ ((.slice Ao35 t298.length co35) : Value).ownBlock ∧ some k_ ≠ ((.slice Ao44 t307.length co44) : Value).ownBlock) (.slice Ao49 t312.length co49) t312) ∧ Aside0 (wc.heap[gb278]? = some (.cells #[(.slice A0_0 l0_0.length c0_0), .int .i64 a0_1, .int .i64 a0_2] 24 (0, 0))) ∧ Aside0 (wc.heap[gb297]? = some (.cells #[(.slice Ao28 t288.length co28), .int .i64 t291, .int .i64 t292, (.slice Ao31 t293.length co31), .int .i64 t296] 28 (0, 0))) ∧ Aside0 (wc.heap[gb303]? = some (.cells #[(.slice Ao35 t298.length co35), .int .i64 t301, .int .i64 t302] 26 (0, 0))) ∧ Aside0 (wc.heap[gb316]? = some (.cells #[(.slice Ao44 t307.length co44), .int .i64 t310, .int .i64 t311, (.slice Ao49 t312.length co49), .int .i64 t315] 28 (0, 0))) ∧ Aside0 (Below w.heap.size w wc))
         case first =>
          have H := HC69.out
          clear HC69
          by_cases c76 : t330 < 0
          ·rw [if_pos c76] at H
           have c76b0 : decide (t330 < 0) = true := decide_eq_true c76
           clear c76
           (first | rw [c76b0] | (simp only [i64_w, i32_w]; rw [c76b0]) | (have e9_ := c76b0; unfold bne at e9_; rw [e9_]) | skip)
           have H' := Aside0.mk H
           clear H
           go_wp2
           go_meet
           case rel => exact ⟨_, (true), (by first | rfl | (simp; done) | (simp [*]; done)), H', ⟨by have := HJ16.out; have := HJ54.out; have := HJ62.out; first | omega | exact Nat.le_refl _⟩, ⟨kr (Kd.R_mono HO_298000.out (fun _ hk => ⟨hk.2.1, ⟨hk.2.2.1, ⟨hk.2.2.2.1, hk.2.2.2.2⟩⟩⟩))⟩, ⟨kr (Kd.R_mono HO_298003.out (fun _ hk => ⟨hk.2.1, ⟨hk.2.2.1, ⟨hk.2.2.2.1, hk.2.2.2.2⟩⟩⟩))⟩, ⟨kr (Kd.R_mono HO_304000.out (fun _ hk => ⟨hk.2.1, ⟨hk.2.2.1, ⟨hk.2.2.2.1, hk.2.2.2.2⟩⟩⟩))⟩, ⟨kr (Kd.R_mono HO_317000.out (fun _ hk => ⟨hk.2.1, ⟨hk.2.2.1, ⟨hk.2.2.2.1, hk.2.2.2.2⟩⟩⟩))⟩, ⟨kr (Kd.R_mono HO_317003.out (fun _ hk => ⟨hk.2.1, ⟨hk.2.2.1, ⟨hk.2.2.2.1, hk.2.2.2.2⟩⟩⟩))⟩, ⟨pk BK278.out⟩, ⟨pk BK297.out⟩, ⟨pk BK303.out⟩, ⟨pk BK316.out⟩, ⟨by repeat (first | (with_reducible first | exact HB.out | apply below_alloc | apply pw_below_drewN | apply below_drew1 | refine below_set ?_ GE278.out | refine below_set ?_ GE297.out | refine below_set ?_ GE303.out | refine below_set ?_ GE316.out) | exact HB.out)⟩⟩
          ·rw [if_neg c76] at H
           have c76b0 : decide (t330 < 0) = false := decide_eq_false c76
           clear c76
           (first | rw [c76b0] | (simp only [i64_w, i32_w]; rw [c76b0]) | (have e9_ := c76b0; unfold bne at e9_; rw [e9_]) | skip)
           replace H := Option.bind_eq_some_iff.mp H
           obtain ⟨t332, A770, H⟩ := H
           replace H : (laws_FnExactBufInsert.j3 kj62 l1 (!t332) l0_0 a0_1 a0_2 t288 t291 t292 t293 t296 t307 t310 t311 t312 t315) = some r := H
           have A77 := Aside0.mk A770
           clear A770
           have H' := Aside0.mk H
           clear H
           have hnb78 := NB316_278.out
           have hnc78 := NB278_316.out
           have hnb79 := NB316_297.out
           have hnc79 := NB297_316.out
           have hnb80 := NB316_303.out
           have hnc80 := NB303_316.out
           have hcz81_0 : w75.cell? ⟨gb316, 0, none⟩ = some (.slice Ao44 t307.length co44) := bc BK316.out 0
           have hcz81_1 : w75.cell? ⟨gb316, 1, none⟩ = some (.int .i64 t310) := bc BK316.out 1
           have hcz81_2 : w75.cell? ⟨gb316, 2, none⟩ = some (.int .i64 t311) := bc BK316.out 2
           have hcz81_3 : w75.cell? ⟨gb316, 3, none⟩ = some (.slice Ao49 t312.length co49) := bc BK316.out 3
           have hcz81_4 : w75.cell? ⟨gb316, 4, none⟩ = some (.int .i64 t315) := bc BK316.out 4
           have hfz81_0 := blk_frozen BK316.out 0
           have hfz81_1 := blk_frozen BK316.out 1
           have hfz81_2 := blk_frozen BK316.out 2
           have hfz81_3 := blk_frozen BK316.out 3
           have hfz81_4 := blk_frozen BK316.out 4
           have hnb82 := NB297_278.out
           have hnc82 := NB278_297.out
           have hnb83 := NB297_303.out
           have hnc83 := NB303_297.out
           have hcz84_0 : w75.cell? ⟨gb297, 0, none⟩ = some (.slice Ao28 t288.length co28) := bc BK297.out 0
           have hcz84_1 : w75.cell? ⟨gb297, 1, none⟩ = some (.int .i64 t291) := bc BK297.out 1
           have hcz84_2 : w75.cell? ⟨gb297, 2, none⟩ = some (.int .i64 t292) := bc BK297.out 2
           have hcz84_3 : w75.cell? ⟨gb297, 3, none⟩ = some (.slice Ao31 t293.length co31) := bc BK297.out 3
           have hcz84_4 : w75.cell? ⟨gb297, 4, none⟩ = some (.int .i64 t296) := bc BK297.out 4
           have hfz84_0 := blk_frozen BK297.out 0
           have hfz84_1 := blk_frozen BK297.out 1
           have hfz84_2 := blk_frozen BK297.out 2
           have hfz84_3 := blk_frozen BK297.out 3
           have hfz84_4 := blk_frozen BK297.out 4
           go_wp2_with (first | (go_at_call 14; (with_reducible refine (laws_eqBufOut.calls kj62 _ _ t307 t310 t311 _ _ t312 t315 _ _ t288 t291 t292 _ _ t293 t296 t332 _ ?side1 ?side2 ?side3 ?side4 ?side5 ?side6 ?side7 ?side8 A77.out).mono ?_); (case side1 => repeat (first | exact (Kd.R_reads' HO_317000.out).2.2 | (with_reducible refine Kd.C_alloc ?_ _) | (with_reducible refine Kd.C_drewN ?_ _) | (with_reducible refine Kd.C_drew ?_))); (case side2 => exact (Kd.R_reads' HO_317000.out).2.1); (case side3 => repeat (first | exact (Kd.R_reads' HO_317003.out).2.2 | (with_reducible refine Kd.C_alloc ?_ _) | (with_reducible refine Kd.C_drewN ?_ _) | (with_reducible refine Kd.C_drew ?_))); (case side4 => exact (Kd.R_reads' HO_317003.out).2.1); (case side5 => repeat (first | exact (Kd.R_reads' HO_298000.out).2.2 | (with_reducible refine Kd.C_alloc ?_ _) | (with_reducible refine Kd.C_drewN ?_ _) | (with_reducible refine Kd.C_drew ?_))); (case side6 => exact (Kd.R_reads' HO_298000.out).2.1); (case side7 => repeat (first | exact (Kd.R_reads' HO_298003.out).2.2 | (with_reducible refine Kd.C_alloc ?_ _) | (with_reducible refine Kd.C_drewN ?_ _) | (with_reducible refine Kd.C_drew ?_))); (case side8 => exact (Kd.R_reads' HO_298003.out).2.1); rintro e w85 ⟨rfl, hb⟩; replace HO_8 := am (Kd.R_below (kr HO_8.out) hb); replace HO_298000 := am (Kd.R_below (kr HO_298000.out) hb); replace HO_298003 := am (Kd.R_below (kr HO_298003.out) hb); replace HO_304000 := am (Kd.R_below (kr HO_304000.out) hb); replace HO_317000 := am (Kd.R_below (kr HO_317000.out) hb); replace HO_317003 := am (Kd.R_below (kr HO_317003.out) hb); replace BK278 := am (blk_below (pk BK278.out) hb); replace BK297 := am (blk_below (pk BK297.out) hb); replace BK303 := am (blk_below (pk BK303.out) hb); replace BK316 := am (blk_below (pk BK316.out) hb); replace HB := am (below_step (bl HB.out) hb); (try clear hb); (try clear hb2); (try clear hk); (try clear hi)))
           go_meet
           case rel => exact ⟨_, (!t332), (by first | rfl | (simp; done) | (simp [*]; done)), H', ⟨by have := HJ16.out; have := HJ54.out; have := HJ62.out; first | omega | exact Nat.le_refl _⟩, ⟨kr (Kd.R_mono HO_298000.out (fun _ hk => ⟨hk.2.1, ⟨hk.2.2.1, ⟨hk.2.2.2.1, hk.2.2.2.2⟩⟩⟩))⟩, ⟨kr (Kd.R_mono HO_298003.out (fun _ hk => ⟨hk.2.1, ⟨hk.2.2.1, ⟨hk.2.2.2.1, hk.2.2.2.2⟩⟩⟩))⟩, ⟨kr (Kd.R_mono HO_304000.out (fun _ hk => ⟨hk.2.1, ⟨hk.2.2.1, ⟨hk.2.2.2.1, hk.2.2.2.2⟩⟩⟩))⟩, ⟨kr (Kd.R_mono HO_317000.out (fun _ hk => ⟨hk.2.1, ⟨hk.2.2.1, ⟨hk.2.2.2.1, hk.2.2.2.2⟩⟩⟩))⟩, ⟨kr (Kd.R_mono HO_317003.out (fun _ hk => ⟨hk.2.1, ⟨hk.2.2.1, ⟨hk.2.2.2.1, hk.2.2.2.2⟩⟩⟩))⟩, ⟨pk BK278.out⟩, ⟨pk BK297.out⟩, ⟨pk BK303.out⟩, ⟨pk BK316.out⟩, ⟨by repeat (first | (with_reducible first | exact HB.out | apply below_alloc | apply pw_below_drewN | apply below_drew1 | refine below_set ?_ GE278.out | refine below_set ?_ GE297.out | refine below_set ?_ GE303.out | refine below_set ?_ GE316.out) | exact HB.out)⟩⟩
         case rest =>
          clear HC69
          try clear c1
          try clear c2
          try clear p2
          try clear c3
          try clear c3b0
          try clear c3b1
          try clear c4
          try clear c5
          try clear c6
          try clear c6b0
          try clear c7
          try clear c8
          try clear c9
          try clear c11
          try clear c12
          try clear c14
          try clear c15
          try clear c16
          try clear c17
          try clear c18
          try clear c21
          try clear c22
          try clear c29
          try clear c36
          try clear c37
          try clear c45
          try clear c46
          try clear c47
          try clear c52
          try clear c60
          try clear c66
          try clear c70
          try clear c71
          try clear c72
          try clear c76
          try clear c76b0
          try clear c78
          try clear c79
          try clear c80
          try clear c82
          try clear c83
          try clear hcz19_0
          try clear hcz19_1
          try clear hcz19_2
          try clear hcz21_0
          try clear hcz21_1
          try clear hcz21_2
          try clear hcz30_0
          try clear hcz30_1
          try clear hcz30_2
          try clear hcz30_3
          try clear hcz30_4
          try clear hcz32_0
          try clear hcz32_1
          try clear hcz32_2
          try clear hcz38_0
          try clear hcz38_1
          try clear hcz38_2
          try clear hcz40_0
          try clear hcz40_1
          try clear hcz40_2
          try clear hcz48_0
          try clear hcz48_1
          try clear hcz48_2
          try clear hcz48_3
          try clear hcz48_4
          try clear hcz50_0
          try clear hcz50_1
          try clear hcz50_2
          try clear hcz50_3
          try clear hcz50_4
          try clear hcz73_0
          try clear hcz73_1
          try clear hcz73_2
          try clear hcz81_0
          try clear hcz81_1
          try clear hcz81_2
          try clear hcz81_3
          try clear hcz81_4
          try clear hcz84_0
          try clear hcz84_1
          try clear hcz84_2
          try clear hcz84_3
          try clear hcz84_4
          try clear hcz8_0
          try clear hcz8_1
          try clear hcz8_2
          try clear hfz19_0
          try clear hfz19_1
          try clear hfz19_2
          try clear hfz21_0
          try clear hfz21_1
          try clear hfz21_2
          try clear hfz30_0
          try clear hfz30_1
          try clear hfz30_2
          try clear hfz30_3
          try clear hfz30_4
          try clear hfz32_0
          try clear hfz32_1
          try clear hfz32_2
          try clear hfz38_0
          try clear hfz38_1
          try clear hfz38_2
          try clear hfz40_0
          try clear hfz40_1
          try clear hfz40_2
          try clear hfz48_0
          try clear hfz48_1
          try clear hfz48_2
          try clear hfz48_3
          try clear hfz48_4
          try clear hfz50_0
          try clear hfz50_1
          try clear hfz50_2
          try clear hfz50_3
          try clear hfz50_4
          try clear hfz73_0
          try clear hfz73_1
          try clear hfz73_2
          try clear hfz81_0
          try clear hfz81_1
          try clear hfz81_2
          try clear hfz81_3
          try clear hfz81_4
          try clear hfz84_0
          try clear hfz84_1
          try clear hfz84_2
          try clear hfz84_3
          try clear hfz84_4
          try clear hfz8_0
          try clear hfz8_1
          try clear hfz8_2
          try clear p2
          obtain ⟨kq, x61_68, rfl, HA, HJ68, HO_298000, HO_298003, HO_304000, HO_317000, HO_317003, BK278, BK297, BK303, BK316, HB⟩ := hcut
          have hl304000_68 := (Kd.R_reads' HO_304000.out).1
          rw [hl304000_68] at HO_304000
          (try simp only [hl304000_68])
          (try simp only [hl304000_68] at BK278)
          (try simp only [hl304000_68] at BK297)
          (try simp only [hl304000_68] at BK303)
          (try simp only [hl304000_68] at BK316)
          (try simp only [hl304000_68] at HO_298000)
          (try simp only [hl304000_68] at HO_298003)
          (try simp only [hl304000_68] at HO_317000)
          (try simp only [hl304000_68] at HO_317003)
          cases kq with
          | zero => exact absurd HA.out (by simp [laws_FnExactBufInsert.j3])
          | succ kj68 =>
           have H := HA.out
           clear HA
           simp only [laws_FnExactBufInsert.j3] at H
           have HC86 := Aside0.mk H
           clear H
           go_upto_if 61 with (fail)
           go_cut [] (fun wc => ∃ (kq : Nat), Aside0 (laws_FnExactBufInsert.j4 kq l1 l0_0 a0_1 a0_2 t288 t291 t292 t293 t296 t307 t310 t311 t312 t315 = some r) ∧ Aside0 (kq ≤ kj68) ∧ Aside0 (Kd.R (Kd.int .i64) 2 wc w.heap.size (fun k_ => some k_ ≠ ((.slice Ao31 t293.length co31) : Value).ownBlock ∧ some k_ ≠ ((.slice Ao35 t329.length co35) : Value).ownBlock ∧ some k_ ≠ ((.slice Ao44 t307.length co44) : Value).ownBlock ∧ some k_ ≠ ((.slice Ao49 t312.length co49) : Value).ownBlock) (.slice Ao28 t288.length co28) t288) ∧ Aside0 (Kd.R (Kd.int .i64) 2 wc w.heap.size (fun k_ => some k_ ≠ ((.slice Ao28 t288.length co28) : Value).ownBlock ∧ some k_ ≠ ((.slice Ao35 t329.length co35) : Value).ownBlock ∧ some k_ ≠ ((.slice Ao44 t307.length co44) : Value).ownBlock ∧ some k_ ≠ ((.slice Ao49 t312.length co49) : Value).ownBlock) (.slice Ao31 t293.length co31) t293) ∧ Aside0 (Kd.R (Kd.int .i64) 2 wc w.heap.size (fun k_ => some k_ ≠ ((.slice Ao28 t288.length co28) : Value).ownBlock ∧ some k_ ≠ ((.slice Ao31 t293.length co31) : Value).ownBlock ∧ some k_ ≠ ((.slice Ao44 t307.length co44) : Value).ownBlock ∧ some k_ ≠ ((.slice Ao49 t312.length co49) : Value).ownBlock) (.slice Ao35 t329.length co35) t329) ∧ Aside0 (Kd.R (Kd.int .i64) 2 wc w.heap.size (fun k_ => some k_ ≠ ((.slice Ao28 t288.length co28) : Value).ownBlock ∧ some k_ ≠ ((.slice Ao31 t293.length co31) : Value).ownBlock ∧ some k_ ≠ ((.slice Ao35 t329.length co35) : Value).ownBlock ∧ some k_ ≠ ((.slice Ao49 t312.length co49) : Value).ownBlock) (.slice Ao44 t307.length co44) t307) ∧ Aside0 (Kd.R (Kd.int .i64) 2 wc w.heap.size (fun k_ => some k_ ≠ ((.slice Ao28 t288.length co28) : Value).ownBlock ∧ some k_ ≠ ((.slice Ao31 t293.length co31) : Value).ownBlock ∧ some k_ ≠ ((.slice Ao35 t329.length co35) : Value).ownBlock ∧ some k_ ≠ ((.slice Ao44 t307.length co44) : Value).ownBlock) (.slice Ao49 t312.length co49) t312) ∧ Aside0 (wc.heap[gb278]? = some (.cells #[(.slice A0_0 l0_0.length c0_0), .int .i64 a0_1, .int .i64 a0_2] 24 (0, 0))) ∧ Aside0 (wc.heap[gb297]? = some (.cells #[(.slice Ao28 t288.length co28), .int .i64 t291, .int .i64 t292, (.slice Ao31 t293.length co31), .int .i64 t296] 28 (0, 0))) ∧ Aside0 (wc.heap[gb303]? = some (.cells #[(.slice Ao35 t329.length co35), .int .i64 t301, .int .i64 t302] 26 (0, 0))) ∧ Aside0 (wc.heap[gb316]? = some (.cells #[(.slice Ao44 t307.length co44), .int .i64 t310, .int .i64 t311, (.slice Ao49 t312.length co49), .int .i64 t315] 28 (0, 0))) ∧ Aside0 (Below w.heap.size w wc))
           case first =>
            have H := HC86.out
            clear HC86
            by_cases c87 : x61_68 = true
            ·subst c87
             have H1 : (some false) = some r := by rw [if_pos rfl] at H; exact H
             clear H
             have H := H1
             clear H1
             obtain rfl := Option.some.inj H
             go_wp2
             go_ret
             exact ⟨by first | rfl | (simp [errW_none, errW_some] <;> rfl) | (simp [*, errW_none, errW_some] <;> rfl), by repeat (first | (with_reducible first | exact HB.out | apply below_alloc | apply pw_below_drewN | apply below_drew1 | refine below_set ?_ GE278.out | refine below_set ?_ GE297.out | refine below_set ?_ GE303.out | refine below_set ?_ GE316.out) | exact HB.out)⟩
            ·replace c87 := Bool.eq_false_iff.mpr c87
             subst c87
             have H1 : (laws_FnExactBufInsert.j4 kj68 l1 l0_0 a0_1 a0_2 t288 t291 t292 t293 t296 t307 t310 t311 t312 t315) = some r := by rw [if_neg (show ¬ (false = true) by decide)] at H; exact H
             clear H
             have H := H1
             clear H1
             have H' := Aside0.mk H
             clear H
             go_wp2
             go_meet
             case rel => exact ⟨_, H', ⟨by have := HJ16.out; have := HJ54.out; have := HJ62.out; have := HJ68.out; first | omega | exact Nat.le_refl _⟩, ⟨by (try simp only [hl304000_68]); (with_reducible repeat (first | apply Kd.R_alloc | apply Kd.R_drewN | apply Kd.R_drew)); exact HO_298000.out⟩, ⟨by (try simp only [hl304000_68]); (with_reducible repeat (first | apply Kd.R_alloc | apply Kd.R_drewN | apply Kd.R_drew)); exact HO_298003.out⟩, ⟨by (try simp only [hl304000_68]); (with_reducible repeat (first | apply Kd.R_alloc | apply Kd.R_drewN | apply Kd.R_drew)); exact HO_304000.out⟩, ⟨by (try simp only [hl304000_68]); (with_reducible repeat (first | apply Kd.R_alloc | apply Kd.R_drewN | apply Kd.R_drew)); exact HO_317000.out⟩, ⟨by (try simp only [hl304000_68]); (with_reducible repeat (first | apply Kd.R_alloc | apply Kd.R_drewN | apply Kd.R_drew)); exact HO_317003.out⟩, ⟨by (try simp only [hl304000_68]); (with_reducible repeat (first | refine blk_drewN ?_ _ | refine blk_drew ?_ | refine blk_alloc ?_ _)); exact BK278.out⟩, ⟨by (try simp only [hl304000_68]); (with_reducible repeat (first | refine blk_drewN ?_ _ | refine blk_drew ?_ | refine blk_alloc ?_ _)); exact BK297.out⟩, ⟨by (try simp only [hl304000_68]); (with_reducible repeat (first | refine blk_drewN ?_ _ | refine blk_drew ?_ | refine blk_alloc ?_ _)); exact BK303.out⟩, ⟨by (try simp only [hl304000_68]); (with_reducible repeat (first | refine blk_drewN ?_ _ | refine blk_drew ?_ | refine blk_alloc ?_ _)); exact BK316.out⟩, ⟨by repeat (first | (with_reducible first | exact HB.out | apply below_alloc | apply pw_below_drewN | apply below_drew1 | refine below_set ?_ GE278.out | refine below_set ?_ GE297.out | refine below_set ?_ GE303.out | refine below_set ?_ GE316.out) | exact HB.out)⟩⟩
           case rest =>
            clear HC86
            try clear c1
            try clear c2
            try clear p2
            try clear c3
            try clear c3b0
            try clear c3b1
            try clear c4
            try clear c5
            try clear c6
            try clear c6b0
            try clear c7
            try clear c8
            try clear c9
            try clear c11
            try clear c12
            try clear c14
            try clear c15
            try clear c16
            try clear c17
            try clear c18
            try clear c21
            try clear c22
            try clear c29
            try clear c36
            try clear c37
            try clear c45
            try clear c46
            try clear c47
            try clear c52
            try clear c60
            try clear c66
            try clear c70
            try clear c71
            try clear c72
            try clear c76
            try clear c76b0
            try clear c78
            try clear c79
            try clear c80
            try clear c82
            try clear c83
            try clear c87
            try clear hcz19_0
            try clear hcz19_1
            try clear hcz19_2
            try clear hcz21_0
            try clear hcz21_1
            try clear hcz21_2
            try clear hcz30_0
            try clear hcz30_1
            try clear hcz30_2
            try clear hcz30_3
            try clear hcz30_4
            try clear hcz32_0
            try clear hcz32_1
            try clear hcz32_2
            try clear hcz38_0
            try clear hcz38_1
            try clear hcz38_2
            try clear hcz40_0
            try clear hcz40_1
            try clear hcz40_2
            try clear hcz48_0
            try clear hcz48_1
            try clear hcz48_2
            try clear hcz48_3
            try clear hcz48_4
            try clear hcz50_0
            try clear hcz50_1
            try clear hcz50_2
            try clear hcz50_3
            try clear hcz50_4
            try clear hcz73_0
            try clear hcz73_1
            try clear hcz73_2
            try clear hcz81_0
            try clear hcz81_1
            try clear hcz81_2
            try clear hcz81_3
            try clear hcz81_4
            try clear hcz84_0
            try clear hcz84_1
            try clear hcz84_2
            try clear hcz84_3
            try clear hcz84_4
            try clear hcz8_0
            try clear hcz8_1
            try clear hcz8_2
            try clear hfz19_0
            try clear hfz19_1
            try clear hfz19_2
            try clear hfz21_0
            try clear hfz21_1
            try clear hfz21_2
            try clear hfz30_0
            try clear hfz30_1
            try clear hfz30_2
            try clear hfz30_3
            try clear hfz30_4
            try clear hfz32_0
            try clear hfz32_1
            try clear hfz32_2
            try clear hfz38_0
            try clear hfz38_1
            try clear hfz38_2
            try clear hfz40_0
            try clear hfz40_1
            try clear hfz40_2
            try clear hfz48_0
            try clear hfz48_1
            try clear hfz48_2
            try clear hfz48_3
            try clear hfz48_4
            try clear hfz50_0
            try clear hfz50_1
            try clear hfz50_2
            try clear hfz50_3
            try clear hfz50_4
            try clear hfz73_0
            try clear hfz73_1
            try clear hfz73_2
            try clear hfz81_0
            try clear hfz81_1
            try clear hfz81_2
            try clear hfz81_3
            try clear hfz81_4
            try clear hfz84_0
            try clear hfz84_1
            try clear hfz84_2
            try clear hfz84_3
            try clear hfz84_4
            try clear hfz8_0
            try clear hfz8_1
            try clear hfz8_2
            try clear p2
            obtain ⟨kq, HA, HJ85, HO_298000, HO_298003, HO_304000, HO_317000, HO_317003, BK278, BK297, BK303, BK316, HB⟩ := hcut
            cases kq with
            | zero => exact absurd HA.out (by simp [laws_FnExactBufInsert.j4])
            | succ kj85 =>
             have H := HA.out
             clear HA
             simp only [laws_FnExactBufInsert.j4] at H
             replace H := Option.bind_eq_some_iff.mp H
             obtain ⟨⟨t333, t334, t335⟩, A880, H⟩ := H
             replace H : ((laws_heldBufOut.f kj85 t334 t310 t311 t335 t315 1).bind fun t336 => (if t336 < 0 then (some false) else (laws_FnExactBufInsert.j5 kj85 l1 t333 t336 l0_0 a0_1 a0_2 t288 t291 t292 t293 t296 t334 t310 t311 t335 t315))) = some r := H
             have A88 := Aside0.mk A880
             clear A880
             replace H := Option.bind_eq_some_iff.mp H
             obtain ⟨t336, A890, H⟩ := H
             replace H : (if t336 < 0 then (some false) else (laws_FnExactBufInsert.j5 kj85 l1 t333 t336 l0_0 a0_1 a0_2 t288 t291 t292 t293 t296 t334 t310 t311 t335 t315)) = some r := H
             have A89 := Aside0.mk A890
             clear A890
             have HC90 := Aside0.mk H
             clear H
             have hnb91 := NB316_278.out
             have hnc91 := NB278_316.out
             have hnb92 := NB316_297.out
             have hnc92 := NB297_316.out
             have hnb93 := NB316_303.out
             have hnc93 := NB303_316.out
             have hcz94_0 : wc.cell? ⟨gb316, 0, none⟩ = some (.slice Ao44 t307.length co44) := bc BK316.out 0
             have hcz94_1 : wc.cell? ⟨gb316, 1, none⟩ = some (.int .i64 t310) := bc BK316.out 1
             have hcz94_2 : wc.cell? ⟨gb316, 2, none⟩ = some (.int .i64 t311) := bc BK316.out 2
             have hcz94_3 : wc.cell? ⟨gb316, 3, none⟩ = some (.slice Ao49 t312.length co49) := bc BK316.out 3
             have hcz94_4 : wc.cell? ⟨gb316, 4, none⟩ = some (.int .i64 t315) := bc BK316.out 4
             have hfz94_0 := blk_frozen BK316.out 0
             have hfz94_1 := blk_frozen BK316.out 1
             have hfz94_2 := blk_frozen BK316.out 2
             have hfz94_3 := blk_frozen BK316.out 3
             have hfz94_4 := blk_frozen BK316.out 4
             go_upto_if 69 with (first | ((with_reducible refine gate_callee (f := 19) rfl ?_); refine gl (some 64) Try.func19 #[.agg #[.slice Ao44 t307.length co44, .int .i64 t310, .int .i64 t311, .slice Ao49 t312.length co49, .int .i64 t315], .int .i64 1] ?_; (with_reducible refine (laws_markBufOut.calls kj85 (fun k_ => some k_ = (.slice Ao44 t307.length co44 : Value).ownBlock) (.slice Ao44 t307.length co44) t307 t310 t311 (fun k_ => some k_ = (.slice Ao49 t312.length co49 : Value).ownBlock) (.slice Ao49 t312.length co49) t312 t315 1 t333 t334 t335 w _ ?side1 ?side2 ?side3 ?side4 ?side5 A88.out).mono ?_); (case side1 => repeat (first | (with_reducible first | exact HB.out | apply below_alloc | apply pw_below_drewN | apply below_drew1 | refine below_set ?_ GE278.out | refine below_set ?_ GE297.out | refine below_set ?_ GE303.out | refine below_set ?_ GE316.out) | exact HB.out)); (case side2 => exact Kd.R_tight rfl HO_317000.out); (case side3 => exact fun k_ e_ => (HO_317000.out.1 k_ e_.symm).2.2.2); (case side4 => exact Kd.R_tight rfl HO_317003.out); (case side5 => exact fun k_ e_ => (HO_317003.out.1 k_ e_.symm).2.2.2); rintro e w95 ⟨rfl, hy0, hy1, hb, hkp⟩; refine ⟨_, rfl, ?_⟩; replace HO_298000 := am (Kd.R_mono (ok' := fun k_ => some k_ ≠ (.slice Ao31 t293.length co31 : Value).ownBlock ∧ some k_ ≠ (.slice Ao35 t329.length co35 : Value).ownBlock ∧ some k_ ≠ (.slice Ao44 t307.length co44 : Value).ownBlock ∧ some k_ ≠ (.slice Ao49 t312.length co49 : Value).ownBlock) (Kd.R_keptB (HO_298000.out) hkp (fun k_ hk_ hs_ => Or.elim hs_ (fun e_ => (hk_.2.2.1) e_) (fun e_ => (hk_.2.2.2) e_))) (fun k_ hk_ => ⟨hk_.1.1, hk_.1.2.1, hk_.1.2.2.1, hk_.1.2.2.2⟩)); replace HO_298003 := am (Kd.R_mono (ok' := fun k_ => some k_ ≠ (.slice Ao28 t288.length co28 : Value).ownBlock ∧ some k_ ≠ (.slice Ao35 t329.length co35 : Value).ownBlock ∧ some k_ ≠ (.slice Ao44 t307.length co44 : Value).ownBlock ∧ some k_ ≠ (.slice Ao49 t312.length co49 : Value).ownBlock) (Kd.R_keptB (HO_298003.out) hkp (fun k_ hk_ hs_ => Or.elim hs_ (fun e_ => (hk_.2.2.1) e_) (fun e_ => (hk_.2.2.2) e_))) (fun k_ hk_ => ⟨hk_.1.1, hk_.1.2.1, hk_.1.2.2.1, hk_.1.2.2.2⟩)); replace HO_304000 := am (Kd.R_mono (ok' := fun k_ => some k_ ≠ (.slice Ao28 t288.length co28 : Value).ownBlock ∧ some k_ ≠ (.slice Ao31 t293.length co31 : Value).ownBlock ∧ some k_ ≠ (.slice Ao44 t307.length co44 : Value).ownBlock ∧ some k_ ≠ (.slice Ao49 t312.length co49 : Value).ownBlock) (Kd.R_keptB (HO_304000.out) hkp (fun k_ hk_ hs_ => Or.elim hs_ (fun e_ => (hk_.2.2.1) e_) (fun e_ => (hk_.2.2.2) e_))) (fun k_ hk_ => ⟨hk_.1.1, hk_.1.2.1, hk_.1.2.2.1, hk_.1.2.2.2⟩)); replace BK278 := am (blk_kept (pk BK278.out) hkp (fun hs_ => Or.elim hs_ (fun e_ => (fun e_ => (Kd.R_ne HO_317000.out BK278.out (by decide)) e_) e_) (fun e_ => (fun e_ => (Kd.R_ne HO_317003.out BK278.out (by decide)) e_) e_))); replace BK297 := am (blk_kept (pk BK297.out) hkp (fun hs_ => Or.elim hs_ (fun e_ => (fun e_ => (Kd.R_ne HO_317000.out BK297.out (by decide)) e_) e_) (fun e_ => (fun e_ => (Kd.R_ne HO_317003.out BK297.out (by decide)) e_) e_))); replace BK303 := am (blk_kept (pk BK303.out) hkp (fun hs_ => Or.elim hs_ (fun e_ => (fun e_ => (Kd.R_ne HO_317000.out BK303.out (by decide)) e_) e_) (fun e_ => (fun e_ => (Kd.R_ne HO_317003.out BK303.out (by decide)) e_) e_))); replace BK316 := am (blk_kept (pk BK316.out) hkp (fun hs_ => Or.elim hs_ (fun e_ => (fun e_ => (Kd.R_ne HO_317000.out BK316.out (by decide)) e_) e_) (fun e_ => (fun e_ => (Kd.R_ne HO_317003.out BK316.out (by decide)) e_) e_))); replace HO_317000 := am (Kd.R_reok rfl hy0 (fun k_ e_ => HO_317000.out.1 k_ e_)); replace HO_317003 := am (Kd.R_reok rfl hy1 (fun k_ e_ => HO_317003.out.1 k_ e_)); replace HB := am (hb); (try clear hb); (try clear hkp); (try clear hy0); (try clear hy1); have hcz96_0 : w95.cell? ⟨gb316, 0, none⟩ = some (.slice Ao44 t307.length co44) := bc BK316.out 0; have hcz96_1 : w95.cell? ⟨gb316, 1, none⟩ = some (.int .i64 t310) := bc BK316.out 1; have hcz96_2 : w95.cell? ⟨gb316, 2, none⟩ = some (.int .i64 t311) := bc BK316.out 2; have hcz96_3 : w95.cell? ⟨gb316, 3, none⟩ = some (.slice Ao49 t312.length co49) := bc BK316.out 3; have hcz96_4 : w95.cell? ⟨gb316, 4, none⟩ = some (.int .i64 t315) := bc BK316.out 4; have hfz96_0 := blk_frozen BK316.out 0; have hfz96_1 := blk_frozen BK316.out 1; have hfz96_2 := blk_frozen BK316.out 2; have hfz96_3 := blk_frozen BK316.out 3; have hfz96_4 := blk_frozen BK316.out 4) | ((with_reducible refine gate_callee (f := 20) rfl ?_); refine goesL_ (some 67) rfl rfl Try.func20 (by kernel_rfl) rfl #[.agg #[.slice Ao44 t334.length co44, .int .i64 t310, .int .i64 t311, .slice Ao49 t335.length co49, .int .i64 t315], .int .i64 1] rfl (by (try simp only [List.map_toArray, List.map_cons, List.map_nil]); first | done | (rw [show t334.length = t307.length from (Kd.R_reads' HO_317000.out).1.symm, show t335.length = t312.length from (Kd.R_reads' HO_317003.out).1.symm] <;> rfl) | rfl | (simp only [List.length_drop, List.length_take]; rfl)) ?_; (with_reducible refine (laws_heldBufOut.calls kj85 _ _ t334 t310 t311 _ _ t335 t315 1 t336 _ ?side1 ?side2 ?side3 ?side4 A89.out).mono ?_); (case side1 => repeat (first | exact (Kd.R_reads' HO_317000.out).2.2 | (with_reducible refine Kd.C_alloc ?_ _) | (with_reducible refine Kd.C_drewN ?_ _) | (with_reducible refine Kd.C_drew ?_))); (case side2 => rw [show t334.length = t307.length from (Kd.R_reads' HO_317000.out).1.symm]; exact (Kd.R_reads' HO_317000.out).2.1); (case side3 => repeat (first | exact (Kd.R_reads' HO_317003.out).2.2 | (with_reducible refine Kd.C_alloc ?_ _) | (with_reducible refine Kd.C_drewN ?_ _) | (with_reducible refine Kd.C_drew ?_))); (case side4 => rw [show t335.length = t312.length from (Kd.R_reads' HO_317003.out).1.symm]; exact (Kd.R_reads' HO_317003.out).2.1); rintro e w97 ⟨rfl, hb⟩; refine ⟨_, rfl, ?_⟩; replace HO_298000 := am (Kd.R_below (kr HO_298000.out) hb); replace HO_298003 := am (Kd.R_below (kr HO_298003.out) hb); replace HO_304000 := am (Kd.R_below (kr HO_304000.out) hb); replace HO_317000 := am (Kd.R_below (kr HO_317000.out) hb); replace HO_317003 := am (Kd.R_below (kr HO_317003.out) hb); replace BK278 := am (blk_below (pk BK278.out) hb); replace BK297 := am (blk_below (pk BK297.out) hb); replace BK303 := am (blk_below (pk BK303.out) hb); replace BK316 := am (blk_below (pk BK316.out) hb); replace HB := am (below_step (bl HB.out) hb); (try clear hb); (try clear hb2); (try clear hk); (try clear hi)))
             (try simp only [Act.put, sa_, s0_, ss_])
             go_cut [] (fun wc => ∃ (kq : Nat), Aside0 (laws_FnExactBufInsert.j5 kq l1 t333 t336 l0_0 a0_1 a0_2 t288 t291 t292 t293 t296 t334 t310 t311 t335 t315 = some r) ∧ Aside0 (kq ≤ kj85) ∧ Aside0 (Kd.R (Kd.int .i64) 2 wc w.heap.size (fun k_ => some k_ ≠ ((.slice Ao31 t293.length co31) : Value).ownBlock ∧ some k_ ≠ ((.slice Ao35 t329.length co35) : Value).ownBlock ∧ some k_ ≠ ((.slice Ao44 t307.length co44) : Value).ownBlock ∧ some k_ ≠ ((.slice Ao49 t312.length co49) : Value).ownBlock) (.slice Ao28 t288.length co28) t288) ∧ Aside0 (Kd.R (Kd.int .i64) 2 wc w.heap.size (fun k_ => some k_ ≠ ((.slice Ao28 t288.length co28) : Value).ownBlock ∧ some k_ ≠ ((.slice Ao35 t329.length co35) : Value).ownBlock ∧ some k_ ≠ ((.slice Ao44 t307.length co44) : Value).ownBlock ∧ some k_ ≠ ((.slice Ao49 t312.length co49) : Value).ownBlock) (.slice Ao31 t293.length co31) t293) ∧ Aside0 (Kd.R (Kd.int .i64) 2 wc w.heap.size (fun k_ => some k_ ≠ ((.slice Ao28 t288.length co28) : Value).ownBlock ∧ some k_ ≠ ((.slice Ao31 t293.length co31) : Value).ownBlock ∧ some k_ ≠ ((.slice Ao44 t307.length co44) : Value).ownBlock ∧ some k_ ≠ ((.slice Ao49 t312.length co49) : Value).ownBlock) (.slice Ao35 t329.length co35) t329) ∧ Aside0 (Kd.R (Kd.int .i64) 2 wc w.heap.size (fun k_ => some k_ ≠ ((.slice Ao28 t288.length co28) : Value).ownBlock ∧ some k_ ≠ ((.slice Ao31 t293.length co31) : Value).ownBlock ∧ some k_ ≠ ((.slice Ao35 t329.length co35) : Value).ownBlock ∧ some k_ ≠ ((.slice Ao49 t312.length co49) : Value).ownBlock) (.slice Ao44 t307.length co44) t334) ∧ Aside0 (Kd.R (Kd.int .i64) 2 wc w.heap.size (fun k_ => some k_ ≠ ((.slice Ao28 t288.length co28) : Value).ownBlock ∧ some k_ ≠ ((.slice Ao31 t293.length co31) : Value).ownBlock ∧ some k_ ≠ ((.slice Ao35 t329.length co35) : Value).ownBlock ∧ some k_ ≠ ((.slice Ao44 t307.length co44) : Value).ownBlock) (.slice Ao49 t312.length co49) t335) ∧ Aside0 (wc.heap[gb278]? = some (.cells #[(.slice A0_0 l0_0.length c0_0), .int .i64 a0_1, .int .i64 a0_2] 24 (0, 0))) ∧ Aside0 (wc.heap[gb297]? = some (.cells #[(.slice Ao28 t288.length co28), .int .i64 t291, .int .i64 t292, (.slice Ao31 t293.length co31), .int .i64 t296] 28 (0, 0))) ∧ Aside0 (wc.heap[gb303]? = some (.cells #[(.slice Ao35 t329.length co35), .int .i64 t301, .int .i64 t302] 26 (0, 0))) ∧ Aside0 (wc.heap[gb316]? = some (.cells #[(.slice Ao44 t307.length co44), .int .i64 t310, .int .i64 t311, (.slice Ao49 t312.length co49), .int .i64 t315] 28 (0, 0))) ∧ Aside0 (Below w.heap.size w wc))
             case first =>
              have H := HC90.out
              clear HC90
              by_cases c98 : t336 < 0
              ·rw [if_pos c98] at H
               have c98b0 : decide (t336 < 0) = true := decide_eq_true c98
               clear c98
               (first | rw [c98b0] | (simp only [i64_w, i32_w]; rw [c98b0]) | (have e9_ := c98b0; unfold bne at e9_; rw [e9_]) | skip)
               obtain rfl := Option.some.inj H
               go_wp2
               go_ret
               exact ⟨by first | rfl | (simp [errW_none, errW_some] <;> rfl) | (simp [*, errW_none, errW_some] <;> rfl), by repeat (first | (with_reducible first | exact HB.out | apply below_alloc | apply pw_below_drewN | apply below_drew1 | refine below_set ?_ GE278.out | refine below_set ?_ GE297.out | refine below_set ?_ GE303.out | refine below_set ?_ GE316.out) | exact HB.out)⟩
              ·rw [if_neg c98] at H
               have c98b0 : decide (t336 < 0) = false := decide_eq_false c98
               clear c98
               (first | rw [c98b0] | (simp only [i64_w, i32_w]; rw [c98b0]) | (have e9_ := c98b0; unfold bne at e9_; rw [e9_]) | skip)
               have H' := Aside0.mk H
               clear H
               go_wp2
               go_meet
               case rel => exact ⟨_, H', ⟨by have := HJ16.out; have := HJ54.out; have := HJ62.out; have := HJ68.out; have := HJ85.out; first | omega | exact Nat.le_refl _⟩, ⟨by (try simp only [hl304000_68]); (with_reducible repeat (first | apply Kd.R_alloc | apply Kd.R_drewN | apply Kd.R_drew)); exact HO_298000.out⟩, ⟨by (try simp only [hl304000_68]); (with_reducible repeat (first | apply Kd.R_alloc | apply Kd.R_drewN | apply Kd.R_drew)); exact HO_298003.out⟩, ⟨by (try simp only [hl304000_68]); (with_reducible repeat (first | apply Kd.R_alloc | apply Kd.R_drewN | apply Kd.R_drew)); exact HO_304000.out⟩, ⟨by (try simp only [hl304000_68]); (with_reducible repeat (first | apply Kd.R_alloc | apply Kd.R_drewN | apply Kd.R_drew)); exact HO_317000.out⟩, ⟨by (try simp only [hl304000_68]); (with_reducible repeat (first | apply Kd.R_alloc | apply Kd.R_drewN | apply Kd.R_drew)); exact HO_317003.out⟩, ⟨by (try simp only [hl304000_68]); (with_reducible repeat (first | refine blk_drewN ?_ _ | refine blk_drew ?_ | refine blk_alloc ?_ _)); exact BK278.out⟩, ⟨by (try simp only [hl304000_68]); (with_reducible repeat (first | refine blk_drewN ?_ _ | refine blk_drew ?_ | refine blk_alloc ?_ _)); exact BK297.out⟩, ⟨by (try simp only [hl304000_68]); (with_reducible repeat (first | refine blk_drewN ?_ _ | refine blk_drew ?_ | refine blk_alloc ?_ _)); exact BK303.out⟩, ⟨by (try simp only [hl304000_68]); (with_reducible repeat (first | refine blk_drewN ?_ _ | refine blk_drew ?_ | refine blk_alloc ?_ _)); exact BK316.out⟩, ⟨by repeat (first | (with_reducible first | exact HB.out | apply below_alloc | apply pw_below_drewN | apply below_drew1 | refine below_set ?_ GE278.out | refine below_set ?_ GE297.out | refine below_set ?_ GE303.out | refine below_set ?_ GE316.out) | exact HB.out)⟩⟩
             case rest =>
              clear HC90
              try clear c1
              try clear c2
              try clear p2
              try clear c3
              try clear c3b0
              try clear c3b1
              try clear c4
              try clear c5
              try clear c6
              try clear c6b0
              try clear c7
              try clear c8
              try clear c9
              try clear c11
              try clear c12
              try clear c14
              try clear c15
              try clear c16
              try clear c17
              try clear c18
              try clear c19
              try clear c20
              try clear c21
              try clear c22
              try clear c29
              try clear c36
              try clear c37
              try clear c45
              try clear c46
              try clear c47
              try clear c52
              try clear c60
              try clear c66
              try clear c70
              try clear c71
              try clear c72
              try clear c76
              try clear c76b0
              try clear c78
              try clear c79
              try clear c80
              try clear c82
              try clear c83
              try clear c87
              try clear c91
              try clear c92
              try clear c93
              try clear c98
              try clear c98b0
              try clear hcz19_0
              try clear hcz19_1
              try clear hcz19_2
              try clear hcz21_0
              try clear hcz21_1
              try clear hcz21_2
              try clear hcz30_0
              try clear hcz30_1
              try clear hcz30_2
              try clear hcz30_3
              try clear hcz30_4
              try clear hcz32_0
              try clear hcz32_1
              try clear hcz32_2
              try clear hcz38_0
              try clear hcz38_1
              try clear hcz38_2
              try clear hcz40_0
              try clear hcz40_1
              try clear hcz40_2
              try clear hcz48_0
              try clear hcz48_1
              try clear hcz48_2
              try clear hcz48_3
              try clear hcz48_4
              try clear hcz50_0
              try clear hcz50_1
              try clear hcz50_2
              try clear hcz50_3
              try clear hcz50_4
              try clear hcz73_0
              try clear hcz73_1
              try clear hcz73_2
              try clear hcz81_0
              try clear hcz81_1
              try clear hcz81_2
              try clear hcz81_3
              try clear hcz81_4
              try clear hcz84_0
              try clear hcz84_1
              try clear hcz84_2
              try clear hcz84_3
              try clear hcz84_4
              try clear hcz8_0
              try clear hcz8_1
              try clear hcz8_2
              try clear hcz94_0
              try clear hcz94_1
              try clear hcz94_2
              try clear hcz94_3
              try clear hcz94_4
              try clear hcz96_0
              try clear hcz96_1
              try clear hcz96_2
              try clear hcz96_3
              try clear hcz96_4
              try clear hfz19_0
              try clear hfz19_1
              try clear hfz19_2
              try clear hfz21_0
              try clear hfz21_1
              try clear hfz21_2
              try clear hfz30_0
              try clear hfz30_1
              try clear hfz30_2
              try clear hfz30_3
              try clear hfz30_4
              try clear hfz32_0
              try clear hfz32_1
              try clear hfz32_2
              try clear hfz38_0
              try clear hfz38_1
              try clear hfz38_2
              try clear hfz40_0
              try clear hfz40_1
              try clear hfz40_2
              try clear hfz48_0
              try clear hfz48_1
              try clear hfz48_2
              try clear hfz48_3
              try clear hfz48_4
              try clear hfz50_0
              try clear hfz50_1
              try clear hfz50_2
              try clear hfz50_3
              try clear hfz50_4
              try clear hfz73_0
              try clear hfz73_1
              try clear hfz73_2
              try clear hfz81_0
              try clear hfz81_1
              try clear hfz81_2
              try clear hfz81_3
              try clear hfz81_4
              try clear hfz84_0
              try clear hfz84_1
              try clear hfz84_2
              try clear hfz84_3
              try clear hfz84_4
              try clear hfz8_0
              try clear hfz8_1
              try clear hfz8_2
              try clear hfz94_0
              try clear hfz94_1
              try clear hfz94_2
              try clear hfz94_3
              try clear hfz94_4
              try clear hfz96_0
              try clear hfz96_1
              try clear hfz96_2
              try clear hfz96_3
              try clear hfz96_4
              try clear p2
              obtain ⟨kq, HA, HJ89, HO_298000, HO_298003, HO_304000, HO_317000, HO_317003, BK278, BK297, BK303, BK316, HB⟩ := hcut
              have hl317000_89 := (Kd.R_reads' HO_317000.out).1
              rw [hl317000_89] at HO_317000
              (try simp only [hl317000_89])
              (try simp only [hl317000_89] at BK278)
              (try simp only [hl317000_89] at BK297)
              (try simp only [hl317000_89] at BK303)
              (try simp only [hl317000_89] at BK316)
              (try simp only [hl317000_89] at HO_298000)
              (try simp only [hl317000_89] at HO_298003)
              (try simp only [hl317000_89] at HO_304000)
              (try simp only [hl317000_89] at HO_317003)
              have hl317003_89 := (Kd.R_reads' HO_317003.out).1
              rw [hl317003_89] at HO_317003
              (try simp only [hl317003_89])
              (try simp only [hl317003_89] at BK278)
              (try simp only [hl317003_89] at BK297)
              (try simp only [hl317003_89] at BK303)
              (try simp only [hl317003_89] at BK316)
              (try simp only [hl317003_89] at HO_298000)
              (try simp only [hl317003_89] at HO_298003)
              (try simp only [hl317003_89] at HO_304000)
              (try simp only [hl317003_89] at HO_317000)
              cases kq with
              | zero => exact absurd HA.out (by simp [laws_FnExactBufInsert.j5])
              | succ kj89 =>
               have H := HA.out
               clear HA
               simp only [laws_FnExactBufInsert.j5] at H
               by_cases c99 : t336 = t333
               ·rw [if_pos c99] at H
                have c99b0 : (t336 == t333) = true := beq_iff_eq.mpr c99
                have c99b1 : (t336 != t333) = false := bne_eq_false_iff_eq.mpr c99
                clear c99
                replace H := Option.bind_eq_some_iff.mp H
                obtain ⟨⟨t337, t340, t341⟩, A1000, H⟩ := H
                replace H : ((laws_toInt64S.f kj89 l1).bind fun t342 => ((impl_BufInsert.f kj89 t337 t340 t341 t342).bind fun bt345 => ((laws_eqBufOut.f kj89 bt345.1 bt345.2.1 bt345.2.2.1 bt345.2.2.2.1 bt345.2.2.2.2 t288 t291 t292 t293 t296).bind fun t355 => (if t355 = true then (laws_FnExactBufInsert.j6 kj89 t333 t334 t310 t311 t335 t315) else (some false))))) = some r := H
                have A100 := Aside0.mk A1000
                clear A1000
                replace H := Option.bind_eq_some_iff.mp H
                obtain ⟨t342, A1010, H⟩ := H
                replace H : ((impl_BufInsert.f kj89 t337 t340 t341 t342).bind fun bt345 => ((laws_eqBufOut.f kj89 bt345.1 bt345.2.1 bt345.2.2.1 bt345.2.2.2.1 bt345.2.2.2.2 t288 t291 t292 t293 t296).bind fun t355 => (if t355 = true then (laws_FnExactBufInsert.j6 kj89 t333 t334 t310 t311 t335 t315) else (some false)))) = some r := H
                have A101 := Aside0.mk A1010
                clear A1010
                replace H := Option.bind_eq_some_iff.mp H
                obtain ⟨⟨t345, t348, t349, t350, t353⟩, A1020, H⟩ := H
                replace H : ((laws_eqBufOut.f kj89 t345 t348 t349 t350 t353 t288 t291 t292 t293 t296).bind fun t355 => (if t355 = true then (laws_FnExactBufInsert.j6 kj89 t333 t334 t310 t311 t335 t315) else (some false))) = some r := H
                have A102 := Aside0.mk A1020
                clear A1020
                replace H := Option.bind_eq_some_iff.mp H
                obtain ⟨t355, A1030, H⟩ := H
                replace H : (if t355 = true then (laws_FnExactBufInsert.j6 kj89 t333 t334 t310 t311 t335 t315) else (some false)) = some r := H
                have A103 := Aside0.mk A1030
                clear A1030
                have HC104 := Aside0.mk H
                clear H
                have hnb105 := NB278_297.out
                have hnc105 := NB297_278.out
                have hnb106 := NB278_303.out
                have hnc106 := NB303_278.out
                have hnb107 := NB278_316.out
                have hnc107 := NB316_278.out
                have hcz108_0 : wc.cell? ⟨gb278, 0, none⟩ = some (.slice A0_0 l0_0.length c0_0) := bc BK278.out 0
                have hcz108_1 : wc.cell? ⟨gb278, 1, none⟩ = some (.int .i64 a0_1) := bc BK278.out 1
                have hcz108_2 : wc.cell? ⟨gb278, 2, none⟩ = some (.int .i64 a0_2) := bc BK278.out 2
                have hfz108_0 := blk_frozen BK278.out 0
                have hfz108_1 := blk_frozen BK278.out 1
                have hfz108_2 := blk_frozen BK278.out 2
                go_upto_if 81 with (first | ((with_reducible refine gate_callee (f := 11) rfl ?_); refine gl (some 74) Try.func11 #[.agg #[.slice A0_0 l0_0.length c0_0, .int .i64 a0_1, .int .i64 a0_2]] ?_; (with_reducible refine (laws_toBuf.calls kj89 _ _ l0_0 a0_1 a0_2 t337 t340 t341 _ ?side1 ?side2 A100.out).mono ?_); (case side1 => repeat (first | exact (Kd.C_below HR0_0.out HB.out) | (with_reducible refine Kd.C_alloc ?_ _) | (with_reducible refine Kd.C_drewN ?_ _) | (with_reducible refine Kd.C_drew ?_))); (case side2 => exact HC0_0.out); rintro e w109 ⟨v338, rfl, ho0, hb⟩; refine ⟨_, rfl, ?_⟩; have HO339 := am (Kd.R_lower (Kd.R_new' (Kd.R_new' (Kd.R_new' (Kd.R_new' (Kd.R_new' ho0 (Kd.R_lt (kr HO_298000.out))) (Kd.R_lt (kr HO_298003.out))) (Kd.R_lt (kr HO_304000.out))) (Kd.R_lt (kr HO_317000.out))) (Kd.R_lt (kr HO_317003.out))) (below_size (bl HB.out))); replace HO_298000 := am (Kd.R_elder' (kr HO_298000.out) (Kd.R_base ho0) hb); replace HO_298003 := am (Kd.R_elder' (kr HO_298003.out) (Kd.R_base ho0) hb); replace HO_304000 := am (Kd.R_elder' (kr HO_304000.out) (Kd.R_base ho0) hb); replace HO_317000 := am (Kd.R_elder' (kr HO_317000.out) (Kd.R_base ho0) hb); replace HO_317003 := am (Kd.R_elder' (kr HO_317003.out) (Kd.R_base ho0) hb); replace BK278 := am (blk_below (pk BK278.out) hb); replace BK297 := am (blk_below (pk BK297.out) hb); replace BK303 := am (blk_below (pk BK303.out) hb); replace BK316 := am (blk_below (pk BK316.out) hb); replace HB := am (below_step (bl HB.out) hb); (try clear hb); (try clear hb2); (try clear hk); (try clear hi); (try clear ho0)) | ((with_reducible refine gate_callee (f := 12) rfl ?_); refine gl (some 76) Try.func12 #[.slice A1 l1.length c1] ?_; (with_reducible refine (laws_toInt64S.calls kj89 _ _ l1 t342 _ ?side1 ?side2 A101.out).mono ?_); (case side1 => repeat (first | exact (Kd.C_below HR1.out HB.out) | (with_reducible refine Kd.C_alloc ?_ _) | (with_reducible refine Kd.C_drewN ?_ _) | (with_reducible refine Kd.C_drew ?_))); (case side2 => exact HC1.out); rintro e w110 ⟨v343, rfl, ho0, hb⟩; refine ⟨_, rfl, ?_⟩; have HO344 := am (Kd.R_lower (Kd.R_new' (Kd.R_new' (Kd.R_new' (Kd.R_new' (Kd.R_new' (Kd.R_new' ho0 (Kd.R_lt (kr HO_298000.out))) (Kd.R_lt (kr HO_298003.out))) (Kd.R_lt (kr HO_304000.out))) (Kd.R_lt (kr HO_317000.out))) (Kd.R_lt (kr HO_317003.out))) (Kd.R_lt (kr HO339.out))) (below_size (bl HB.out))); replace HO_298000 := am (Kd.R_elder' (kr HO_298000.out) (Kd.R_base ho0) hb); replace HO_298003 := am (Kd.R_elder' (kr HO_298003.out) (Kd.R_base ho0) hb); replace HO_304000 := am (Kd.R_elder' (kr HO_304000.out) (Kd.R_base ho0) hb); replace HO_317000 := am (Kd.R_elder' (kr HO_317000.out) (Kd.R_base ho0) hb); replace HO_317003 := am (Kd.R_elder' (kr HO_317003.out) (Kd.R_base ho0) hb); replace HO339 := am (Kd.R_elder' (kr HO339.out) (Kd.R_base ho0) hb); replace BK278 := am (blk_below (pk BK278.out) hb); replace BK297 := am (blk_below (pk BK297.out) hb); replace BK303 := am (blk_below (pk BK303.out) hb); replace BK316 := am (blk_below (pk BK316.out) hb); replace HB := am (below_step (bl HB.out) hb); (try clear hb); (try clear hb2); (try clear hk); (try clear hi); (try clear ho0); obtain ⟨Ao111, co111, eo111⟩ := Kd.R_slice HO339.out; subst eo111; obtain ⟨Ao112, co112, eo112⟩ := Kd.R_slice HO344.out; subst eo112) | ((with_reducible refine gate_callee (f := 22) rfl ?_); refine gl (some 77) Try.func22 #[.agg #[.slice Ao111 t337.length co111, .int .i64 t340, .int .i64 t341], .slice Ao112 t342.length co112] ?_; (with_reducible refine (impl_BufInsert.calls kj89 _ _ t337 t340 t341 _ _ t342 t345 t348 t349 t350 t353 _ ?side1 ?side2 ?side3 ?side4 A102.out).mono ?_); (case side1 => repeat (first | exact (Kd.R_reads' HO339.out).2.2 | (with_reducible refine Kd.C_alloc ?_ _) | (with_reducible refine Kd.C_drewN ?_ _) | (with_reducible refine Kd.C_drew ?_))); (case side2 => exact (Kd.R_reads' HO339.out).2.1); (case side3 => repeat (first | exact (Kd.R_reads' HO344.out).2.2 | (with_reducible refine Kd.C_alloc ?_ _) | (with_reducible refine Kd.C_drewN ?_ _) | (with_reducible refine Kd.C_drew ?_))); (case side4 => exact (Kd.R_reads' HO344.out).2.1); rintro e w113 ⟨v346, v351, rfl, ho0, ho1, hb⟩; refine ⟨_, rfl, ?_⟩; have HO347 := am (Kd.R_lower (Kd.R_new' (Kd.R_new' (Kd.R_new' (Kd.R_new' (Kd.R_new' (Kd.R_new' (Kd.R_new' ho0 (Kd.R_lt (kr HO_298000.out))) (Kd.R_lt (kr HO_298003.out))) (Kd.R_lt (kr HO_304000.out))) (Kd.R_lt (kr HO_317000.out))) (Kd.R_lt (kr HO_317003.out))) (Kd.R_lt (kr HO339.out))) (Kd.R_lt (kr HO344.out))) (below_size (bl HB.out))); have HO352 := am (Kd.R_lower (Kd.R_new' (Kd.R_new' (Kd.R_new' (Kd.R_new' (Kd.R_new' (Kd.R_new' (Kd.R_new' ho1 (Kd.R_lt (kr HO_298000.out))) (Kd.R_lt (kr HO_298003.out))) (Kd.R_lt (kr HO_304000.out))) (Kd.R_lt (kr HO_317000.out))) (Kd.R_lt (kr HO_317003.out))) (Kd.R_lt (kr HO339.out))) (Kd.R_lt (kr HO344.out))) (below_size (bl HB.out))); replace HO_298000 := am (Kd.R_mono (Kd.R_told (Kd.R_told (Kd.R_old (kr HO_298000.out) hb) (Kd.R_base ho0)) (Kd.R_base ho1)) (fun _ h_ => h_.1)); replace HO_298003 := am (Kd.R_mono (Kd.R_told (Kd.R_told (Kd.R_old (kr HO_298003.out) hb) (Kd.R_base ho0)) (Kd.R_base ho1)) (fun _ h_ => h_.1)); replace HO_304000 := am (Kd.R_mono (Kd.R_told (Kd.R_told (Kd.R_old (kr HO_304000.out) hb) (Kd.R_base ho0)) (Kd.R_base ho1)) (fun _ h_ => h_.1)); replace HO_317000 := am (Kd.R_mono (Kd.R_told (Kd.R_told (Kd.R_old (kr HO_317000.out) hb) (Kd.R_base ho0)) (Kd.R_base ho1)) (fun _ h_ => h_.1)); replace HO_317003 := am (Kd.R_mono (Kd.R_told (Kd.R_told (Kd.R_old (kr HO_317003.out) hb) (Kd.R_base ho0)) (Kd.R_base ho1)) (fun _ h_ => h_.1)); replace HO339 := am (Kd.R_mono (Kd.R_told (Kd.R_told (Kd.R_old (kr HO339.out) hb) (Kd.R_base ho0)) (Kd.R_base ho1)) (fun _ h_ => h_.1)); replace HO344 := am (Kd.R_mono (Kd.R_told (Kd.R_told (Kd.R_old (kr HO344.out) hb) (Kd.R_base ho0)) (Kd.R_base ho1)) (fun _ h_ => h_.1)); replace BK278 := am (blk_below (pk BK278.out) hb); replace BK297 := am (blk_below (pk BK297.out) hb); replace BK303 := am (blk_below (pk BK303.out) hb); replace BK316 := am (blk_below (pk BK316.out) hb); replace HB := am (below_step (bl HB.out) hb); (try clear hb); (try clear hb2); (try clear hk); (try clear hi); (try clear ho0); (try clear ho1)) | ((with_reducible refine gate_dst (N := 13) rfl ?_); refine box_event ?hg (N := 13) ?hd (cs := #[.slice none 0 0, .int .i64 0, .int .i64 0, .slice none 0 0, .int .i64 0]) (t := 28) ?hr ?_; (case hd => rfl); (case hg => rfl); (case hr => first | (go_simp; done) | (go_simp; rfl)); intro gb354 hg w114 hbox hb; replace HO_298000 := am (Kd.R_below (kr HO_298000.out) hb); replace HO_298003 := am (Kd.R_below (kr HO_298003.out) hb); replace HO_304000 := am (Kd.R_below (kr HO_304000.out) hb); replace HO_317000 := am (Kd.R_below (kr HO_317000.out) hb); replace HO_317003 := am (Kd.R_below (kr HO_317003.out) hb); replace HO339 := am (Kd.R_below (kr HO339.out) hb); replace HO344 := am (Kd.R_below (kr HO344.out) hb); replace HO347 := am (Kd.R_below (kr HO347.out) hb); replace HO352 := am (Kd.R_below (kr HO352.out) hb); have BK354 := am (hbox); have GW354 := am ((by rw [hg]; exact (below_size (bl HB.out)) : w.heap.size ≤ gb354)); have GE354 := GW354; replace HB := am (below_step (bl HB.out) hb); have NB278_354 := am ((by rw [hg]; exact Nat.ne_of_lt (blk_lt (pk BK278.out)) : gb278 ≠ gb354)); have NB354_278 := am ((by rw [hg]; exact Nat.ne_of_gt (blk_lt (pk BK278.out)) : gb354 ≠ gb278)); replace BK278 := am (blk_below (pk BK278.out) hb); have NB297_354 := am ((by rw [hg]; exact Nat.ne_of_lt (blk_lt (pk BK297.out)) : gb297 ≠ gb354)); have NB354_297 := am ((by rw [hg]; exact Nat.ne_of_gt (blk_lt (pk BK297.out)) : gb354 ≠ gb297)); replace BK297 := am (blk_below (pk BK297.out) hb); have NB303_354 := am ((by rw [hg]; exact Nat.ne_of_lt (blk_lt (pk BK303.out)) : gb303 ≠ gb354)); have NB354_303 := am ((by rw [hg]; exact Nat.ne_of_gt (blk_lt (pk BK303.out)) : gb354 ≠ gb303)); replace BK303 := am (blk_below (pk BK303.out) hb); have NB316_354 := am ((by rw [hg]; exact Nat.ne_of_lt (blk_lt (pk BK316.out)) : gb316 ≠ gb354)); have NB354_316 := am ((by rw [hg]; exact Nat.ne_of_gt (blk_lt (pk BK316.out)) : gb354 ≠ gb316)); replace BK316 := am (blk_below (pk BK316.out) hb); clear hb hbox hg; obtain ⟨Ao115, co115, eo115⟩ := Kd.R_slice HO347.out; subst eo115; have hnb116 := NB354_278.out; have hnc116 := NB278_354.out; have hnb117 := NB354_297.out; have hnc117 := NB297_354.out; have hnb118 := NB354_303.out; have hnc118 := NB303_354.out; have hnb119 := NB354_316.out; have hnc119 := NB316_354.out; have hcz120_0 : w114.cell? ⟨gb354, 0, none⟩ = some (.slice none 0 0) := bc BK354.out 0; have hcz120_1 : w114.cell? ⟨gb354, 1, none⟩ = some (.int .i64 0) := bc BK354.out 1; have hcz120_2 : w114.cell? ⟨gb354, 2, none⟩ = some (.int .i64 0) := bc BK354.out 2; have hcz120_3 : w114.cell? ⟨gb354, 3, none⟩ = some (.slice none 0 0) := bc BK354.out 3; have hcz120_4 : w114.cell? ⟨gb354, 4, none⟩ = some (.int .i64 0) := bc BK354.out 4; have hfz120_0 := blk_frozen BK354.out 0; have hfz120_1 := blk_frozen BK354.out 1; have hfz120_2 := blk_frozen BK354.out 2; have hfz120_3 := blk_frozen BK354.out 3; have hfz120_4 := blk_frozen BK354.out 4; obtain ⟨Ao121, co121, eo121⟩ := Kd.R_slice HO352.out; subst eo121; have hnb122 := NB297_303.out; have hnc122 := NB303_297.out; have hnb123 := NB297_316.out; have hnc123 := NB316_297.out; have hcz124_0 : w114.cell? ⟨gb297, 0, none⟩ = some (.slice Ao28 t288.length co28) := bc BK297.out 0; have hcz124_1 : w114.cell? ⟨gb297, 1, none⟩ = some (.int .i64 t291) := bc BK297.out 1; have hcz124_2 : w114.cell? ⟨gb297, 2, none⟩ = some (.int .i64 t292) := bc BK297.out 2; have hcz124_3 : w114.cell? ⟨gb297, 3, none⟩ = some (.slice Ao31 t293.length co31) := bc BK297.out 3; have hcz124_4 : w114.cell? ⟨gb297, 4, none⟩ = some (.int .i64 t296) := bc BK297.out 4; have hfz124_0 := blk_frozen BK297.out 0; have hfz124_1 := blk_frozen BK297.out 1; have hfz124_2 := blk_frozen BK297.out 2; have hfz124_3 := blk_frozen BK297.out 3; have hfz124_4 := blk_frozen BK297.out 4) | ((with_reducible refine gate_callee (f := 14) rfl ?_); refine gl (some 80) Try.func14 #[.agg #[.slice Ao115 t345.length co115, .int .i64 t348, .int .i64 t349, .slice Ao121 t350.length co121, .int .i64 t353], .agg #[.slice Ao28 t288.length co28, .int .i64 t291, .int .i64 t292, .slice Ao31 t293.length co31, .int .i64 t296]] ?_; (with_reducible refine (laws_eqBufOut.calls kj89 _ _ t345 t348 t349 _ _ t350 t353 _ _ t288 t291 t292 _ _ t293 t296 t355 _ ?side1 ?side2 ?side3 ?side4 ?side5 ?side6 ?side7 ?side8 A103.out).mono ?_); (case side1 => refine (Kd.R_reads' (e := 2) (base := w.heap.size) (ok := fun k_ => (((((((some k_ ≠ (.slice Ao121 t350.length co121 : Value).ownBlock ∧ some k_ ≠ (.slice Ao28 t288.length co28 : Value).ownBlock) ∧ some k_ ≠ (.slice Ao31 t293.length co31 : Value).ownBlock) ∧ some k_ ≠ (.slice Ao35 t329.length co35 : Value).ownBlock) ∧ some k_ ≠ (.slice Ao44 t334.length co44 : Value).ownBlock) ∧ some k_ ≠ (.slice Ao49 t335.length co49 : Value).ownBlock) ∧ some k_ ≠ (.slice Ao111 t337.length co111 : Value).ownBlock) ∧ some k_ ≠ (.slice Ao112 t342.length co112 : Value).ownBlock)) (n := t345.length) (c := co115) ?_).2.2; exact (kr ((Kd.R_mono (Kd.R_far (p := ⟨gb354, 4, none⟩) (Kd.R_far (p := ⟨gb354, 3, none⟩) (Kd.R_far (p := ⟨gb354, 2, none⟩) (Kd.R_far (p := ⟨gb354, 1, none⟩) (Kd.R_far (p := ⟨gb354, 0, none⟩) (Kd.R_types HO347.out BK354.out (by decide)) (fun _ hk => hk.2) (.slice Ao115 t345.length co115)) (fun _ hk => hk.2) (.int .i64 t348)) (fun _ hk => hk.2) (.int .i64 t349)) (fun _ hk => hk.2) (.slice Ao121 t350.length co121)) (fun _ hk => hk.2) (.int .i64 t353)) (fun _ h_ => h_.1))))); (case side2 => exact (Kd.R_reads' HO347.out).2.1); (case side3 => refine (Kd.R_reads' (e := 2) (base := w.heap.size) (ok := fun k_ => (((((((some k_ ≠ (.slice Ao115 t345.length co115 : Value).ownBlock ∧ some k_ ≠ (.slice Ao28 t288.length co28 : Value).ownBlock) ∧ some k_ ≠ (.slice Ao31 t293.length co31 : Value).ownBlock) ∧ some k_ ≠ (.slice Ao35 t329.length co35 : Value).ownBlock) ∧ some k_ ≠ (.slice Ao44 t334.length co44 : Value).ownBlock) ∧ some k_ ≠ (.slice Ao49 t335.length co49 : Value).ownBlock) ∧ some k_ ≠ (.slice Ao111 t337.length co111 : Value).ownBlock) ∧ some k_ ≠ (.slice Ao112 t342.length co112 : Value).ownBlock)) (n := t350.length) (c := co121) ?_).2.2; exact (kr ((Kd.R_mono (Kd.R_far (p := ⟨gb354, 4, none⟩) (Kd.R_far (p := ⟨gb354, 3, none⟩) (Kd.R_far (p := ⟨gb354, 2, none⟩) (Kd.R_far (p := ⟨gb354, 1, none⟩) (Kd.R_far (p := ⟨gb354, 0, none⟩) (Kd.R_types HO352.out BK354.out (by decide)) (fun _ hk => hk.2) (.slice Ao115 t345.length co115)) (fun _ hk => hk.2) (.int .i64 t348)) (fun _ hk => hk.2) (.int .i64 t349)) (fun _ hk => hk.2) (.slice Ao121 t350.length co121)) (fun _ hk => hk.2) (.int .i64 t353)) (fun _ h_ => h_.1))))); (case side4 => exact (Kd.R_reads' HO352.out).2.1); (case side5 => refine (Kd.R_reads' (e := 2) (base := w.heap.size) (ok := fun k_ => (((((some k_ ≠ (.slice Ao31 t293.length co31 : Value).ownBlock ∧ (some k_ ≠ (.slice Ao35 t329.length co35 : Value).ownBlock ∧ (some k_ ≠ (.slice Ao44 t334.length co44 : Value).ownBlock ∧ some k_ ≠ (.slice Ao49 t335.length co49 : Value).ownBlock))) ∧ some k_ ≠ (.slice Ao111 t337.length co111 : Value).ownBlock) ∧ some k_ ≠ (.slice Ao112 t342.length co112 : Value).ownBlock) ∧ some k_ ≠ (.slice Ao115 t345.length co115 : Value).ownBlock) ∧ some k_ ≠ (.slice Ao121 t350.length co121 : Value).ownBlock)) (n := t288.length) (c := co28) ?_).2.2; exact (kr ((Kd.R_mono (Kd.R_far (p := ⟨gb354, 4, none⟩) (Kd.R_far (p := ⟨gb354, 3, none⟩) (Kd.R_far (p := ⟨gb354, 2, none⟩) (Kd.R_far (p := ⟨gb354, 1, none⟩) (Kd.R_far (p := ⟨gb354, 0, none⟩) (Kd.R_types HO_298000.out BK354.out (by decide)) (fun _ hk => hk.2) (.slice Ao115 t345.length co115)) (fun _ hk => hk.2) (.int .i64 t348)) (fun _ hk => hk.2) (.int .i64 t349)) (fun _ hk => hk.2) (.slice Ao121 t350.length co121)) (fun _ hk => hk.2) (.int .i64 t353)) (fun _ h_ => h_.1))))); (case side6 => exact (Kd.R_reads' HO_298000.out).2.1); (case side7 => refine (Kd.R_reads' (e := 2) (base := w.heap.size) (ok := fun k_ => (((((some k_ ≠ (.slice Ao28 t288.length co28 : Value).ownBlock ∧ (some k_ ≠ (.slice Ao35 t329.length co35 : Value).ownBlock ∧ (some k_ ≠ (.slice Ao44 t334.length co44 : Value).ownBlock ∧ some k_ ≠ (.slice Ao49 t335.length co49 : Value).ownBlock))) ∧ some k_ ≠ (.slice Ao111 t337.length co111 : Value).ownBlock) ∧ some k_ ≠ (.slice Ao112 t342.length co112 : Value).ownBlock) ∧ some k_ ≠ (.slice Ao115 t345.length co115 : Value).ownBlock) ∧ some k_ ≠ (.slice Ao121 t350.length co121 : Value).ownBlock)) (n := t293.length) (c := co31) ?_).2.2; exact (kr ((Kd.R_mono (Kd.R_far (p := ⟨gb354, 4, none⟩) (Kd.R_far (p := ⟨gb354, 3, none⟩) (Kd.R_far (p := ⟨gb354, 2, none⟩) (Kd.R_far (p := ⟨gb354, 1, none⟩) (Kd.R_far (p := ⟨gb354, 0, none⟩) (Kd.R_types HO_298003.out BK354.out (by decide)) (fun _ hk => hk.2) (.slice Ao115 t345.length co115)) (fun _ hk => hk.2) (.int .i64 t348)) (fun _ hk => hk.2) (.int .i64 t349)) (fun _ hk => hk.2) (.slice Ao121 t350.length co121)) (fun _ hk => hk.2) (.int .i64 t353)) (fun _ h_ => h_.1))))); (case side8 => exact (Kd.R_reads' HO_298003.out).2.1); rintro e w125 ⟨rfl, hb⟩; refine ⟨_, rfl, ?_⟩; replace HO_298000 := am (Kd.R_below (kr ((Kd.R_mono (Kd.R_far (p := ⟨gb354, 4, none⟩) (Kd.R_far (p := ⟨gb354, 3, none⟩) (Kd.R_far (p := ⟨gb354, 2, none⟩) (Kd.R_far (p := ⟨gb354, 1, none⟩) (Kd.R_far (p := ⟨gb354, 0, none⟩) (Kd.R_types HO_298000.out BK354.out (by decide)) (fun _ hk => hk.2) (.slice Ao115 t345.length co115)) (fun _ hk => hk.2) (.int .i64 t348)) (fun _ hk => hk.2) (.int .i64 t349)) (fun _ hk => hk.2) (.slice Ao121 t350.length co121)) (fun _ hk => hk.2) (.int .i64 t353)) (fun _ h_ => h_.1)))) hb); replace HO_298003 := am (Kd.R_below (kr ((Kd.R_mono (Kd.R_far (p := ⟨gb354, 4, none⟩) (Kd.R_far (p := ⟨gb354, 3, none⟩) (Kd.R_far (p := ⟨gb354, 2, none⟩) (Kd.R_far (p := ⟨gb354, 1, none⟩) (Kd.R_far (p := ⟨gb354, 0, none⟩) (Kd.R_types HO_298003.out BK354.out (by decide)) (fun _ hk => hk.2) (.slice Ao115 t345.length co115)) (fun _ hk => hk.2) (.int .i64 t348)) (fun _ hk => hk.2) (.int .i64 t349)) (fun _ hk => hk.2) (.slice Ao121 t350.length co121)) (fun _ hk => hk.2) (.int .i64 t353)) (fun _ h_ => h_.1)))) hb); replace HO_304000 := am (Kd.R_below (kr ((Kd.R_mono (Kd.R_far (p := ⟨gb354, 4, none⟩) (Kd.R_far (p := ⟨gb354, 3, none⟩) (Kd.R_far (p := ⟨gb354, 2, none⟩) (Kd.R_far (p := ⟨gb354, 1, none⟩) (Kd.R_far (p := ⟨gb354, 0, none⟩) (Kd.R_types HO_304000.out BK354.out (by decide)) (fun _ hk => hk.2) (.slice Ao115 t345.length co115)) (fun _ hk => hk.2) (.int .i64 t348)) (fun _ hk => hk.2) (.int .i64 t349)) (fun _ hk => hk.2) (.slice Ao121 t350.length co121)) (fun _ hk => hk.2) (.int .i64 t353)) (fun _ h_ => h_.1)))) hb); replace HO_317000 := am (Kd.R_below (kr ((Kd.R_mono (Kd.R_far (p := ⟨gb354, 4, none⟩) (Kd.R_far (p := ⟨gb354, 3, none⟩) (Kd.R_far (p := ⟨gb354, 2, none⟩) (Kd.R_far (p := ⟨gb354, 1, none⟩) (Kd.R_far (p := ⟨gb354, 0, none⟩) (Kd.R_types HO_317000.out BK354.out (by decide)) (fun _ hk => hk.2) (.slice Ao115 t345.length co115)) (fun _ hk => hk.2) (.int .i64 t348)) (fun _ hk => hk.2) (.int .i64 t349)) (fun _ hk => hk.2) (.slice Ao121 t350.length co121)) (fun _ hk => hk.2) (.int .i64 t353)) (fun _ h_ => h_.1)))) hb); replace HO_317003 := am (Kd.R_below (kr ((Kd.R_mono (Kd.R_far (p := ⟨gb354, 4, none⟩) (Kd.R_far (p := ⟨gb354, 3, none⟩) (Kd.R_far (p := ⟨gb354, 2, none⟩) (Kd.R_far (p := ⟨gb354, 1, none⟩) (Kd.R_far (p := ⟨gb354, 0, none⟩) (Kd.R_types HO_317003.out BK354.out (by decide)) (fun _ hk => hk.2) (.slice Ao115 t345.length co115)) (fun _ hk => hk.2) (.int .i64 t348)) (fun _ hk => hk.2) (.int .i64 t349)) (fun _ hk => hk.2) (.slice Ao121 t350.length co121)) (fun _ hk => hk.2) (.int .i64 t353)) (fun _ h_ => h_.1)))) hb); replace HO339 := am (Kd.R_below (kr ((Kd.R_mono (Kd.R_far (p := ⟨gb354, 4, none⟩) (Kd.R_far (p := ⟨gb354, 3, none⟩) (Kd.R_far (p := ⟨gb354, 2, none⟩) (Kd.R_far (p := ⟨gb354, 1, none⟩) (Kd.R_far (p := ⟨gb354, 0, none⟩) (Kd.R_types HO339.out BK354.out (by decide)) (fun _ hk => hk.2) (.slice Ao115 t345.length co115)) (fun _ hk => hk.2) (.int .i64 t348)) (fun _ hk => hk.2) (.int .i64 t349)) (fun _ hk => hk.2) (.slice Ao121 t350.length co121)) (fun _ hk => hk.2) (.int .i64 t353)) (fun _ h_ => h_.1)))) hb); replace HO344 := am (Kd.R_below (kr ((Kd.R_mono (Kd.R_far (p := ⟨gb354, 4, none⟩) (Kd.R_far (p := ⟨gb354, 3, none⟩) (Kd.R_far (p := ⟨gb354, 2, none⟩) (Kd.R_far (p := ⟨gb354, 1, none⟩) (Kd.R_far (p := ⟨gb354, 0, none⟩) (Kd.R_types HO344.out BK354.out (by decide)) (fun _ hk => hk.2) (.slice Ao115 t345.length co115)) (fun _ hk => hk.2) (.int .i64 t348)) (fun _ hk => hk.2) (.int .i64 t349)) (fun _ hk => hk.2) (.slice Ao121 t350.length co121)) (fun _ hk => hk.2) (.int .i64 t353)) (fun _ h_ => h_.1)))) hb); replace HO347 := am (Kd.R_below (kr ((Kd.R_mono (Kd.R_far (p := ⟨gb354, 4, none⟩) (Kd.R_far (p := ⟨gb354, 3, none⟩) (Kd.R_far (p := ⟨gb354, 2, none⟩) (Kd.R_far (p := ⟨gb354, 1, none⟩) (Kd.R_far (p := ⟨gb354, 0, none⟩) (Kd.R_types HO347.out BK354.out (by decide)) (fun _ hk => hk.2) (.slice Ao115 t345.length co115)) (fun _ hk => hk.2) (.int .i64 t348)) (fun _ hk => hk.2) (.int .i64 t349)) (fun _ hk => hk.2) (.slice Ao121 t350.length co121)) (fun _ hk => hk.2) (.int .i64 t353)) (fun _ h_ => h_.1)))) hb); replace HO352 := am (Kd.R_below (kr ((Kd.R_mono (Kd.R_far (p := ⟨gb354, 4, none⟩) (Kd.R_far (p := ⟨gb354, 3, none⟩) (Kd.R_far (p := ⟨gb354, 2, none⟩) (Kd.R_far (p := ⟨gb354, 1, none⟩) (Kd.R_far (p := ⟨gb354, 0, none⟩) (Kd.R_types HO352.out BK354.out (by decide)) (fun _ hk => hk.2) (.slice Ao115 t345.length co115)) (fun _ hk => hk.2) (.int .i64 t348)) (fun _ hk => hk.2) (.int .i64 t349)) (fun _ hk => hk.2) (.slice Ao121 t350.length co121)) (fun _ hk => hk.2) (.int .i64 t353)) (fun _ h_ => h_.1)))) hb); replace BK278 := am (blk_below (g := gb278) (o := .cells #[.slice A0_0 l0_0.length c0_0, .int .i64 a0_1, .int .i64 a0_2] 24 (0, 0)) (by (with_reducible repeat (first | refine blk_drewN ?_ _ | refine blk_drew ?_ | refine blk_alloc ?_ _)); refine blk_far ?_ NB278_354.out _; (with_reducible repeat (first | refine blk_drewN ?_ _ | refine blk_drew ?_ | refine blk_alloc ?_ _)); refine blk_far ?_ NB278_354.out _; (with_reducible repeat (first | refine blk_drewN ?_ _ | refine blk_drew ?_ | refine blk_alloc ?_ _)); refine blk_far ?_ NB278_354.out _; (with_reducible repeat (first | refine blk_drewN ?_ _ | refine blk_drew ?_ | refine blk_alloc ?_ _)); refine blk_far ?_ NB278_354.out _; (with_reducible repeat (first | refine blk_drewN ?_ _ | refine blk_drew ?_ | refine blk_alloc ?_ _)); refine blk_far ?_ NB278_354.out _; (with_reducible repeat (first | refine blk_drewN ?_ _ | refine blk_drew ?_ | refine blk_alloc ?_ _)); exact BK278.out) hb); replace BK297 := am (blk_below (g := gb297) (o := .cells #[.slice Ao28 t288.length co28, .int .i64 t291, .int .i64 t292, .slice Ao31 t293.length co31, .int .i64 t296] 28 (0, 0)) (by (with_reducible repeat (first | refine blk_drewN ?_ _ | refine blk_drew ?_ | refine blk_alloc ?_ _)); refine blk_far ?_ NB297_354.out _; (with_reducible repeat (first | refine blk_drewN ?_ _ | refine blk_drew ?_ | refine blk_alloc ?_ _)); refine blk_far ?_ NB297_354.out _; (with_reducible repeat (first | refine blk_drewN ?_ _ | refine blk_drew ?_ | refine blk_alloc ?_ _)); refine blk_far ?_ NB297_354.out _; (with_reducible repeat (first | refine blk_drewN ?_ _ | refine blk_drew ?_ | refine blk_alloc ?_ _)); refine blk_far ?_ NB297_354.out _; (with_reducible repeat (first | refine blk_drewN ?_ _ | refine blk_drew ?_ | refine blk_alloc ?_ _)); refine blk_far ?_ NB297_354.out _; (with_reducible repeat (first | refine blk_drewN ?_ _ | refine blk_drew ?_ | refine blk_alloc ?_ _)); exact BK297.out) hb); replace BK303 := am (blk_below (g := gb303) (o := .cells #[.slice Ao35 t329.length co35, .int .i64 t301, .int .i64 t302] 26 (0, 0)) (by (with_reducible repeat (first | refine blk_drewN ?_ _ | refine blk_drew ?_ | refine blk_alloc ?_ _)); refine blk_far ?_ NB303_354.out _; (with_reducible repeat (first | refine blk_drewN ?_ _ | refine blk_drew ?_ | refine blk_alloc ?_ _)); refine blk_far ?_ NB303_354.out _; (with_reducible repeat (first | refine blk_drewN ?_ _ | refine blk_drew ?_ | refine blk_alloc ?_ _)); refine blk_far ?_ NB303_354.out _; (with_reducible repeat (first | refine blk_drewN ?_ _ | refine blk_drew ?_ | refine blk_alloc ?_ _)); refine blk_far ?_ NB303_354.out _; (with_reducible repeat (first | refine blk_drewN ?_ _ | refine blk_drew ?_ | refine blk_alloc ?_ _)); refine blk_far ?_ NB303_354.out _; (with_reducible repeat (first | refine blk_drewN ?_ _ | refine blk_drew ?_ | refine blk_alloc ?_ _)); exact BK303.out) hb); replace BK316 := am (blk_below (g := gb316) (o := .cells #[.slice Ao44 t334.length co44, .int .i64 t310, .int .i64 t311, .slice Ao49 t335.length co49, .int .i64 t315] 28 (0, 0)) (by (with_reducible repeat (first | refine blk_drewN ?_ _ | refine blk_drew ?_ | refine blk_alloc ?_ _)); refine blk_far ?_ NB316_354.out _; (with_reducible repeat (first | refine blk_drewN ?_ _ | refine blk_drew ?_ | refine blk_alloc ?_ _)); refine blk_far ?_ NB316_354.out _; (with_reducible repeat (first | refine blk_drewN ?_ _ | refine blk_drew ?_ | refine blk_alloc ?_ _)); refine blk_far ?_ NB316_354.out _; (with_reducible repeat (first | refine blk_drewN ?_ _ | refine blk_drew ?_ | refine blk_alloc ?_ _)); refine blk_far ?_ NB316_354.out _; (with_reducible repeat (first | refine blk_drewN ?_ _ | refine blk_drew ?_ | refine blk_alloc ?_ _)); refine blk_far ?_ NB316_354.out _; (with_reducible repeat (first | refine blk_drewN ?_ _ | refine blk_drew ?_ | refine blk_alloc ?_ _)); exact BK316.out) hb); replace BK354 := am (blk_below (g := gb354) (o := .cells #[.slice Ao115 t345.length co115, .int .i64 t348, .int .i64 t349, .slice Ao121 t350.length co121, .int .i64 t353] 28 (0, 0)) (by (with_reducible repeat (first | refine blk_drewN ?_ _ | refine blk_drew ?_ | refine blk_alloc ?_ _)); refine blk_put (cs := #[.slice Ao115 t345.length co115, .int .i64 t348, .int .i64 t349, .slice Ao121 t350.length co121, .int .i64 0]) ?_ 4 _ rfl; (with_reducible repeat (first | refine blk_drewN ?_ _ | refine blk_drew ?_ | refine blk_alloc ?_ _)); refine blk_put (cs := #[.slice Ao115 t345.length co115, .int .i64 t348, .int .i64 t349, .slice none 0 0, .int .i64 0]) ?_ 3 _ rfl; (with_reducible repeat (first | refine blk_drewN ?_ _ | refine blk_drew ?_ | refine blk_alloc ?_ _)); refine blk_put (cs := #[.slice Ao115 t345.length co115, .int .i64 t348, .int .i64 0, .slice none 0 0, .int .i64 0]) ?_ 2 _ rfl; (with_reducible repeat (first | refine blk_drewN ?_ _ | refine blk_drew ?_ | refine blk_alloc ?_ _)); refine blk_put (cs := #[.slice Ao115 t345.length co115, .int .i64 0, .int .i64 0, .slice none 0 0, .int .i64 0]) ?_ 1 _ rfl; (with_reducible repeat (first | refine blk_drewN ?_ _ | refine blk_drew ?_ | refine blk_alloc ?_ _)); refine blk_put (cs := #[.slice none 0 0, .int .i64 0, .int .i64 0, .slice none 0 0, .int .i64 0]) ?_ 0 _ rfl; (with_reducible repeat (first | refine blk_drewN ?_ _ | refine blk_drew ?_ | refine blk_alloc ?_ _)); exact BK354.out) hb); replace HB := am (below_step (bl HB.out) hb); (try clear hb); (try clear hb2); (try clear hk); (try clear hi)))
                (try simp only [Act.put, sa_, s0_, ss_])
                go_cut [] (fun wc => ∃ (kq : Nat), Aside0 (laws_FnExactBufInsert.j6 kq t333 t334 t310 t311 t335 t315 = some r) ∧ Aside0 (kq ≤ kj89) ∧ Aside0 (Kd.R (Kd.int .i64) 2 wc w.heap.size (fun k_ => some k_ ≠ ((.slice Ao31 t293.length co31) : Value).ownBlock ∧ some k_ ≠ ((.slice Ao35 t329.length co35) : Value).ownBlock ∧ some k_ ≠ ((.slice Ao44 t334.length co44) : Value).ownBlock ∧ some k_ ≠ ((.slice Ao49 t335.length co49) : Value).ownBlock ∧ some k_ ≠ ((.slice Ao115 t345.length co115) : Value).ownBlock ∧ some k_ ≠ ((.slice Ao121 t350.length co121) : Value).ownBlock) (.slice Ao28 t288.length co28) t288) ∧ Aside0 (Kd.R (Kd.int .i64) 2 wc w.heap.size (fun k_ => some k_ ≠ ((.slice Ao28 t288.length co28) : Value).ownBlock ∧ some k_ ≠ ((.slice Ao35 t329.length co35) : Value).ownBlock ∧ some k_ ≠ ((.slice Ao44 t334.length co44) : Value).ownBlock ∧ some k_ ≠ ((.slice Ao49 t335.length co49) : Value).ownBlock ∧ some k_ ≠ ((.slice Ao115 t345.length co115) : Value).ownBlock ∧ some k_ ≠ ((.slice Ao121 t350.length co121) : Value).ownBlock) (.slice Ao31 t293.length co31) t293) ∧ Aside0 (Kd.R (Kd.int .i64) 2 wc w.heap.size (fun k_ => some k_ ≠ ((.slice Ao28 t288.length co28) : Value).ownBlock ∧ some k_ ≠ ((.slice Ao31 t293.length co31) : Value).ownBlock ∧ some k_ ≠ ((.slice Ao44 t334.length co44) : Value).ownBlock ∧ some k_ ≠ ((.slice Ao49 t335.length co49) : Value).ownBlock ∧ some k_ ≠ ((.slice Ao115 t345.length co115) : Value).ownBlock ∧ some k_ ≠ ((.slice Ao121 t350.length co121) : Value).ownBlock) (.slice Ao35 t329.length co35) t329) ∧ Aside0 (Kd.R (Kd.int .i64) 2 wc w.heap.size (fun k_ => some k_ ≠ ((.slice Ao28 t288.length co28) : Value).ownBlock ∧ some k_ ≠ ((.slice Ao31 t293.length co31) : Value).ownBlock ∧ some k_ ≠ ((.slice Ao35 t329.length co35) : Value).ownBlock ∧ some k_ ≠ ((.slice Ao49 t335.length co49) : Value).ownBlock ∧ some k_ ≠ ((.slice Ao115 t345.length co115) : Value).ownBlock ∧ some k_ ≠ ((.slice Ao121 t350.length co121) : Value).ownBlock) (.slice Ao44 t334.length co44) t334) ∧ Aside0 (Kd.R (Kd.int .i64) 2 wc w.heap.size (fun k_ => some k_ ≠ ((.slice Ao28 t288.length co28) : Value).ownBlock ∧ some k_ ≠ ((.slice Ao31 t293.length co31) : Value).ownBlock ∧ some k_ ≠ ((.slice Ao35 t329.length co35) : Value).ownBlock ∧ some k_ ≠ ((.slice Ao44 t334.length co44) : Value).ownBlock ∧ some k_ ≠ ((.slice Ao115 t345.length co115) : Value).ownBlock ∧ some k_ ≠ ((.slice Ao121 t350.length co121) : Value).ownBlock) (.slice Ao49 t335.length co49) t335) ∧ Aside0 (Kd.R (Kd.int .i64) 2 wc w.heap.size (fun k_ => some k_ ≠ ((.slice Ao28 t288.length co28) : Value).ownBlock ∧ some k_ ≠ ((.slice Ao31 t293.length co31) : Value).ownBlock ∧ some k_ ≠ ((.slice Ao35 t329.length co35) : Value).ownBlock ∧ some k_ ≠ ((.slice Ao44 t334.length co44) : Value).ownBlock ∧ some k_ ≠ ((.slice Ao49 t335.length co49) : Value).ownBlock ∧ some k_ ≠ ((.slice Ao121 t350.length co121) : Value).ownBlock) (.slice Ao115 t345.length co115) t345) ∧ Aside0 (Kd.R (Kd.int .i64) 2 wc w.heap.size (fun k_ => some k_ ≠ ((.slice Ao28 t288.length co28) : Value).ownBlock ∧ some k_ ≠ ((.slice Ao31 t293.length co31) : Value).ownBlock ∧ some k_ ≠ ((.slice Ao35 t329.length co35) : Value).ownBlock ∧ some k_ ≠ ((.slice Ao44 t334.length co44) : Value).ownBlock ∧ some k_ ≠ ((.slice Ao49 t335.length co49) : Value).ownBlock ∧ some k_ ≠ ((.slice Ao115 t345.length co115) : Value).ownBlock) (.slice Ao121 t350.length co121) t350) ∧ Aside0 (wc.heap[gb278]? = some (.cells #[(.slice A0_0 l0_0.length c0_0), .int .i64 a0_1, .int .i64 a0_2] 24 (0, 0))) ∧ Aside0 (wc.heap[gb297]? = some (.cells #[(.slice Ao28 t288.length co28), .int .i64 t291, .int .i64 t292, (.slice Ao31 t293.length co31), .int .i64 t296] 28 (0, 0))) ∧ Aside0 (wc.heap[gb303]? = some (.cells #[(.slice Ao35 t329.length co35), .int .i64 t301, .int .i64 t302] 26 (0, 0))) ∧ Aside0 (wc.heap[gb316]? = some (.cells #[(.slice Ao44 t334.length co44), .int .i64 t310, .int .i64 t311, (.slice Ao49 t335.length co49), .int .i64 t315] 28 (0, 0))) ∧ Aside0 (wc.heap[gb354]? = some (.cells #[(.slice Ao115 t345.length co115), .int .i64 t348, .int .i64 t349, (.slice Ao121 t350.length co121), .int .i64 t353] 28 (0, 0))) ∧ Aside0 (Below w.heap.size w wc))
                case first =>
                 have H := HC104.out
                 clear HC104
                 by_cases c126 : t355 = true
                 ·subst c126
                  have H1 : (laws_FnExactBufInsert.j6 kj89 t333 t334 t310 t311 t335 t315) = some r := by rw [if_pos rfl] at H; exact H
                  clear H
                  have H := H1
                  clear H1
                  have H' := Aside0.mk H
                  clear H
                  go_wp2
                  go_meet
                  case rel => exact ⟨_, H', ⟨by have := HJ16.out; have := HJ54.out; have := HJ62.out; have := HJ68.out; have := HJ85.out; have := HJ89.out; first | omega | exact Nat.le_refl _⟩, ⟨by (try simp only [hl304000_68]); (try simp only [hl317000_89]); (try simp only [hl317003_89]); (with_reducible repeat (first | apply Kd.R_alloc | apply Kd.R_drewN | apply Kd.R_drew)); exact Kd.R_mono HO_298000.out (fun _ hk => ⟨hk.1.1.1.1.1, ⟨hk.1.1.1.1.2.1, ⟨hk.1.1.1.1.2.2.1, ⟨hk.1.1.1.1.2.2.2, ⟨hk.1.2, hk.2⟩⟩⟩⟩⟩)⟩, ⟨by (try simp only [hl304000_68]); (try simp only [hl317000_89]); (try simp only [hl317003_89]); (with_reducible repeat (first | apply Kd.R_alloc | apply Kd.R_drewN | apply Kd.R_drew)); exact Kd.R_mono HO_298003.out (fun _ hk => ⟨hk.1.1.1.1.1, ⟨hk.1.1.1.1.2.1, ⟨hk.1.1.1.1.2.2.1, ⟨hk.1.1.1.1.2.2.2, ⟨hk.1.2, hk.2⟩⟩⟩⟩⟩)⟩, ⟨by (try simp only [hl304000_68]); (try simp only [hl317000_89]); (try simp only [hl317003_89]); (with_reducible repeat (first | apply Kd.R_alloc | apply Kd.R_drewN | apply Kd.R_drew)); exact Kd.R_mono HO_304000.out (fun _ hk => ⟨hk.1.1.1.1.1, ⟨hk.1.1.1.1.2.1, ⟨hk.1.1.1.1.2.2.1, ⟨hk.1.1.1.1.2.2.2, ⟨hk.1.2, hk.2⟩⟩⟩⟩⟩)⟩, ⟨by (try simp only [hl304000_68]); (try simp only [hl317000_89]); (try simp only [hl317003_89]); (with_reducible repeat (first | apply Kd.R_alloc | apply Kd.R_drewN | apply Kd.R_drew)); exact Kd.R_mono HO_317000.out (fun _ hk => ⟨hk.1.1.1.1.1, ⟨hk.1.1.1.1.2.1, ⟨hk.1.1.1.1.2.2.1, ⟨hk.1.1.1.1.2.2.2, ⟨hk.1.2, hk.2⟩⟩⟩⟩⟩)⟩, ⟨by (try simp only [hl304000_68]); (try simp only [hl317000_89]); (try simp only [hl317003_89]); (with_reducible repeat (first | apply Kd.R_alloc | apply Kd.R_drewN | apply Kd.R_drew)); exact Kd.R_mono HO_317003.out (fun _ hk => ⟨hk.1.1.1.1.1, ⟨hk.1.1.1.1.2.1, ⟨hk.1.1.1.1.2.2.1, ⟨hk.1.1.1.1.2.2.2, ⟨hk.1.2, hk.2⟩⟩⟩⟩⟩)⟩, ⟨by (try simp only [hl304000_68]); (try simp only [hl317000_89]); (try simp only [hl317003_89]); (with_reducible repeat (first | apply Kd.R_alloc | apply Kd.R_drewN | apply Kd.R_drew)); exact Kd.R_mono HO347.out (fun _ hk => ⟨hk.1.1.1.1.1.1.2, ⟨hk.1.1.1.1.1.2, ⟨hk.1.1.1.1.2, ⟨hk.1.1.1.2, ⟨hk.1.1.2, hk.1.1.1.1.1.1.1⟩⟩⟩⟩⟩)⟩, ⟨by (try simp only [hl304000_68]); (try simp only [hl317000_89]); (try simp only [hl317003_89]); (with_reducible repeat (first | apply Kd.R_alloc | apply Kd.R_drewN | apply Kd.R_drew)); exact Kd.R_mono HO352.out (fun _ hk => ⟨hk.1.1.1.1.1.1.2, ⟨hk.1.1.1.1.1.2, ⟨hk.1.1.1.1.2, ⟨hk.1.1.1.2, ⟨hk.1.1.2, hk.1.1.1.1.1.1.1⟩⟩⟩⟩⟩)⟩, ⟨by (try simp only [hl304000_68]); (try simp only [hl317000_89]); (try simp only [hl317003_89]); (with_reducible repeat (first | refine blk_drewN ?_ _ | refine blk_drew ?_ | refine blk_alloc ?_ _)); exact BK278.out⟩, ⟨by (try simp only [hl304000_68]); (try simp only [hl317000_89]); (try simp only [hl317003_89]); (with_reducible repeat (first | refine blk_drewN ?_ _ | refine blk_drew ?_ | refine blk_alloc ?_ _)); exact BK297.out⟩, ⟨by (try simp only [hl304000_68]); (try simp only [hl317000_89]); (try simp only [hl317003_89]); (with_reducible repeat (first | refine blk_drewN ?_ _ | refine blk_drew ?_ | refine blk_alloc ?_ _)); exact BK303.out⟩, ⟨by (try simp only [hl304000_68]); (try simp only [hl317000_89]); (try simp only [hl317003_89]); (with_reducible repeat (first | refine blk_drewN ?_ _ | refine blk_drew ?_ | refine blk_alloc ?_ _)); exact BK316.out⟩, ⟨by (try simp only [hl304000_68]); (try simp only [hl317000_89]); (try simp only [hl317003_89]); (with_reducible repeat (first | refine blk_drewN ?_ _ | refine blk_drew ?_ | refine blk_alloc ?_ _)); exact BK354.out⟩, ⟨by repeat (first | (with_reducible first | exact HB.out | apply below_alloc | apply pw_below_drewN | apply below_drew1 | refine below_set ?_ GE278.out | refine below_set ?_ GE297.out | refine below_set ?_ GE303.out | refine below_set ?_ GE316.out | refine below_set ?_ GE354.out) | exact HB.out)⟩⟩
                 ·replace c126 := Bool.eq_false_iff.mpr c126
                  subst c126
                  have H1 : (some false) = some r := by rw [if_neg (show ¬ (false = true) by decide)] at H; exact H
                  clear H
                  have H := H1
                  clear H1
                  obtain rfl := Option.some.inj H
                  go_wp2
                  go_ret
                  exact ⟨by first | rfl | (simp [errW_none, errW_some] <;> rfl) | (simp [*, errW_none, errW_some] <;> rfl), by repeat (first | (with_reducible first | exact HB.out | apply below_alloc | apply pw_below_drewN | apply below_drew1 | refine below_set ?_ GE278.out | refine below_set ?_ GE297.out | refine below_set ?_ GE303.out | refine below_set ?_ GE316.out | refine below_set ?_ GE354.out) | exact HB.out)⟩
                case rest =>
                 clear HC104
                 try clear c1
                 try clear c2
                 try clear p2
                 try clear c3
                 try clear c3b0
                 try clear c3b1
                 try clear c4
                 try clear c5
                 try clear c6
                 try clear c6b0
                 try clear c7
                 try clear c8
                 try clear c9
                 try clear c10
                 try clear c11
                 try clear c12
                 try clear c14
                 try clear c15
                 try clear c16
                 try clear c17
                 try clear c18
                 try clear c19
                 try clear c20
                 try clear c21
                 try clear c22
                 try clear c29
                 try clear c36
                 try clear c37
                 try clear c45
                 try clear c46
                 try clear c47
                 try clear c52
                 try clear c60
                 try clear c66
                 try clear c70
                 try clear c71
                 try clear c72
                 try clear c76
                 try clear c76b0
                 try clear c78
                 try clear c79
                 try clear c80
                 try clear c82
                 try clear c83
                 try clear c87
                 try clear c91
                 try clear c92
                 try clear c93
                 try clear c98
                 try clear c98b0
                 try clear c99
                 try clear c99b0
                 try clear c99b1
                 try clear c105
                 try clear c106
                 try clear c107
                 try clear c116
                 try clear c117
                 try clear c118
                 try clear c119
                 try clear c122
                 try clear c123
                 try clear c126
                 try clear hcz108_0
                 try clear hcz108_1
                 try clear hcz108_2
                 try clear hcz120_0
                 try clear hcz120_1
                 try clear hcz120_2
                 try clear hcz120_3
                 try clear hcz120_4
                 try clear hcz124_0
                 try clear hcz124_1
                 try clear hcz124_2
                 try clear hcz124_3
                 try clear hcz124_4
                 try clear hcz19_0
                 try clear hcz19_1
                 try clear hcz19_2
                 try clear hcz21_0
                 try clear hcz21_1
                 try clear hcz21_2
                 try clear hcz30_0
                 try clear hcz30_1
                 try clear hcz30_2
                 try clear hcz30_3
                 try clear hcz30_4
                 try clear hcz32_0
                 try clear hcz32_1
                 try clear hcz32_2
                 try clear hcz38_0
                 try clear hcz38_1
                 try clear hcz38_2
                 try clear hcz40_0
                 try clear hcz40_1
                 try clear hcz40_2
                 try clear hcz48_0
                 try clear hcz48_1
                 try clear hcz48_2
                 try clear hcz48_3
                 try clear hcz48_4
                 try clear hcz50_0
                 try clear hcz50_1
                 try clear hcz50_2
                 try clear hcz50_3
                 try clear hcz50_4
                 try clear hcz73_0
                 try clear hcz73_1
                 try clear hcz73_2
                 try clear hcz81_0
                 try clear hcz81_1
                 try clear hcz81_2
                 try clear hcz81_3
                 try clear hcz81_4
                 try clear hcz84_0
                 try clear hcz84_1
                 try clear hcz84_2
                 try clear hcz84_3
                 try clear hcz84_4
                 try clear hcz8_0
                 try clear hcz8_1
                 try clear hcz8_2
                 try clear hcz94_0
                 try clear hcz94_1
                 try clear hcz94_2
                 try clear hcz94_3
                 try clear hcz94_4
                 try clear hcz96_0
                 try clear hcz96_1
                 try clear hcz96_2
                 try clear hcz96_3
                 try clear hcz96_4
                 try clear hfz108_0
                 try clear hfz108_1
                 try clear hfz108_2
                 try clear hfz120_0
                 try clear hfz120_1
                 try clear hfz120_2
                 try clear hfz120_3
                 try clear hfz120_4
                 try clear hfz124_0
                 try clear hfz124_1
                 try clear hfz124_2
                 try clear hfz124_3
                 try clear hfz124_4
                 try clear hfz19_0
                 try clear hfz19_1
                 try clear hfz19_2
                 try clear hfz21_0
                 try clear hfz21_1
                 try clear hfz21_2
                 try clear hfz30_0
                 try clear hfz30_1
                 try clear hfz30_2
                 try clear hfz30_3
                 try clear hfz30_4
                 try clear hfz32_0
                 try clear hfz32_1
                 try clear hfz32_2
                 try clear hfz38_0
                 try clear hfz38_1
                 try clear hfz38_2
                 try clear hfz40_0
                 try clear hfz40_1
                 try clear hfz40_2
                 try clear hfz48_0
                 try clear hfz48_1
                 try clear hfz48_2
                 try clear hfz48_3
                 try clear hfz48_4
                 try clear hfz50_0
                 try clear hfz50_1
                 try clear hfz50_2
                 try clear hfz50_3
                 try clear hfz50_4
                 try clear hfz73_0
                 try clear hfz73_1
                 try clear hfz73_2
                 try clear hfz81_0
                 try clear hfz81_1
                 try clear hfz81_2
                 try clear hfz81_3
                 try clear hfz81_4
                 try clear hfz84_0
                 try clear hfz84_1
                 try clear hfz84_2
                 try clear hfz84_3
                 try clear hfz84_4
                 try clear hfz8_0
                 try clear hfz8_1
                 try clear hfz8_2
                 try clear hfz94_0
                 try clear hfz94_1
                 try clear hfz94_2
                 try clear hfz94_3
                 try clear hfz94_4
                 try clear hfz96_0
                 try clear hfz96_1
                 try clear hfz96_2
                 try clear hfz96_3
                 try clear hfz96_4
                 try clear p2
                 obtain ⟨kq, HA, HJ103, HO_298000, HO_298003, HO_304000, HO_317000, HO_317003, HO_355000, HO_355003, BK278, BK297, BK303, BK316, BK354, HB⟩ := hcut
                 cases kq with
                 | zero => exact absurd HA.out (by simp [laws_FnExactBufInsert.j6])
                 | succ kj103 =>
                  have H := HA.out
                  clear HA
                  simp only [laws_FnExactBufInsert.j6] at H
                  replace H := Option.bind_eq_some_iff.mp H
                  obtain ⟨t356, A1270, H⟩ := H
                  replace H : (if t356 < 0 then (some false) else (if t356 = t333 then (some true) else (some false))) = some r := H
                  have A127 := Aside0.mk A1270
                  clear A1270
                  by_cases c128 : t356 < 0
                  ·rw [if_pos c128] at H
                   have c128b0 : decide (t356 < 0) = true := decide_eq_true c128
                   clear c128
                   obtain rfl := Option.some.inj H
                   have hnb129 := NB316_278.out
                   have hnc129 := NB278_316.out
                   have hnb130 := NB316_297.out
                   have hnc130 := NB297_316.out
                   have hnb131 := NB316_303.out
                   have hnc131 := NB303_316.out
                   have hnb132 := NB316_354.out
                   have hnc132 := NB354_316.out
                   have hcz133_0 : wc.cell? ⟨gb316, 0, none⟩ = some (.slice Ao44 t334.length co44) := bc BK316.out 0
                   have hcz133_1 : wc.cell? ⟨gb316, 1, none⟩ = some (.int .i64 t310) := bc BK316.out 1
                   have hcz133_2 : wc.cell? ⟨gb316, 2, none⟩ = some (.int .i64 t311) := bc BK316.out 2
                   have hcz133_3 : wc.cell? ⟨gb316, 3, none⟩ = some (.slice Ao49 t335.length co49) := bc BK316.out 3
                   have hcz133_4 : wc.cell? ⟨gb316, 4, none⟩ = some (.int .i64 t315) := bc BK316.out 4
                   have hfz133_0 := blk_frozen BK316.out 0
                   have hfz133_1 := blk_frozen BK316.out 1
                   have hfz133_2 := blk_frozen BK316.out 2
                   have hfz133_3 := blk_frozen BK316.out 3
                   have hfz133_4 := blk_frozen BK316.out 4
                   go_wp2_with (first | ((with_reducible refine gate_callee (f := 20) rfl ?_); refine gl (some 84) Try.func20 #[.agg #[.slice Ao44 t334.length co44, .int .i64 t310, .int .i64 t311, .slice Ao49 t335.length co49, .int .i64 t315], .int .i64 1] ?_; (with_reducible refine (laws_heldBufOut.calls kj103 _ _ t334 t310 t311 _ _ t335 t315 1 t356 _ ?side1 ?side2 ?side3 ?side4 A127.out).mono ?_); (case side1 => repeat (first | exact (Kd.R_reads' HO_317000.out).2.2 | (with_reducible refine Kd.C_alloc ?_ _) | (with_reducible refine Kd.C_drewN ?_ _) | (with_reducible refine Kd.C_drew ?_))); (case side2 => exact (Kd.R_reads' HO_317000.out).2.1); (case side3 => repeat (first | exact (Kd.R_reads' HO_317003.out).2.2 | (with_reducible refine Kd.C_alloc ?_ _) | (with_reducible refine Kd.C_drewN ?_ _) | (with_reducible refine Kd.C_drew ?_))); (case side4 => exact (Kd.R_reads' HO_317003.out).2.1); rintro e w134 ⟨rfl, hb⟩; refine ⟨_, rfl, ?_⟩; replace HO_298000 := am (Kd.R_below (kr HO_298000.out) hb); replace HO_298003 := am (Kd.R_below (kr HO_298003.out) hb); replace HO_304000 := am (Kd.R_below (kr HO_304000.out) hb); replace HO_317000 := am (Kd.R_below (kr HO_317000.out) hb); replace HO_317003 := am (Kd.R_below (kr HO_317003.out) hb); replace HO_355000 := am (Kd.R_below (kr HO_355000.out) hb); replace HO_355003 := am (Kd.R_below (kr HO_355003.out) hb); replace BK278 := am (blk_below (pk BK278.out) hb); replace BK297 := am (blk_below (pk BK297.out) hb); replace BK303 := am (blk_below (pk BK303.out) hb); replace BK316 := am (blk_below (pk BK316.out) hb); replace BK354 := am (blk_below (pk BK354.out) hb); replace HB := am (below_step (bl HB.out) hb); (try clear hb); (try clear hb2); (try clear hk); (try clear hi)))
                   go_ret
                   exact ⟨by first | rfl | (simp [errW_none, errW_some] <;> rfl) | (simp [*, errW_none, errW_some] <;> rfl), by repeat (first | (with_reducible first | exact HB.out | apply below_alloc | apply pw_below_drewN | apply below_drew1 | refine below_set ?_ GE278.out | refine below_set ?_ GE297.out | refine below_set ?_ GE303.out | refine below_set ?_ GE316.out | refine below_set ?_ GE354.out) | exact HB.out)⟩
                  ·rw [if_neg c128] at H
                   have c128b0 : decide (t356 < 0) = false := decide_eq_false c128
                   clear c128
                   by_cases c135 : t356 = t333
                   ·rw [if_pos c135] at H
                    have c135b0 : (t356 == t333) = true := beq_iff_eq.mpr c135
                    have c135b1 : (t356 != t333) = false := bne_eq_false_iff_eq.mpr c135
                    clear c135
                    obtain rfl := Option.some.inj H
                    have hnb136 := NB316_278.out
                    have hnc136 := NB278_316.out
                    have hnb137 := NB316_297.out
                    have hnc137 := NB297_316.out
                    have hnb138 := NB316_303.out
                    have hnc138 := NB303_316.out
                    have hnb139 := NB316_354.out
                    have hnc139 := NB354_316.out
                    have hcz140_0 : wc.cell? ⟨gb316, 0, none⟩ = some (.slice Ao44 t334.length co44) := bc BK316.out 0
                    have hcz140_1 : wc.cell? ⟨gb316, 1, none⟩ = some (.int .i64 t310) := bc BK316.out 1
                    have hcz140_2 : wc.cell? ⟨gb316, 2, none⟩ = some (.int .i64 t311) := bc BK316.out 2
                    have hcz140_3 : wc.cell? ⟨gb316, 3, none⟩ = some (.slice Ao49 t335.length co49) := bc BK316.out 3
                    have hcz140_4 : wc.cell? ⟨gb316, 4, none⟩ = some (.int .i64 t315) := bc BK316.out 4
                    have hfz140_0 := blk_frozen BK316.out 0
                    have hfz140_1 := blk_frozen BK316.out 1
                    have hfz140_2 := blk_frozen BK316.out 2
                    have hfz140_3 := blk_frozen BK316.out 3
                    have hfz140_4 := blk_frozen BK316.out 4
                    go_wp2_with (first | ((with_reducible refine gate_callee (f := 20) rfl ?_); refine gl (some 84) Try.func20 #[.agg #[.slice Ao44 t334.length co44, .int .i64 t310, .int .i64 t311, .slice Ao49 t335.length co49, .int .i64 t315], .int .i64 1] ?_; (with_reducible refine (laws_heldBufOut.calls kj103 _ _ t334 t310 t311 _ _ t335 t315 1 t356 _ ?side1 ?side2 ?side3 ?side4 A127.out).mono ?_); (case side1 => repeat (first | exact (Kd.R_reads' HO_317000.out).2.2 | (with_reducible refine Kd.C_alloc ?_ _) | (with_reducible refine Kd.C_drewN ?_ _) | (with_reducible refine Kd.C_drew ?_))); (case side2 => exact (Kd.R_reads' HO_317000.out).2.1); (case side3 => repeat (first | exact (Kd.R_reads' HO_317003.out).2.2 | (with_reducible refine Kd.C_alloc ?_ _) | (with_reducible refine Kd.C_drewN ?_ _) | (with_reducible refine Kd.C_drew ?_))); (case side4 => exact (Kd.R_reads' HO_317003.out).2.1); rintro e w141 ⟨rfl, hb⟩; refine ⟨_, rfl, ?_⟩; replace HO_298000 := am (Kd.R_below (kr HO_298000.out) hb); replace HO_298003 := am (Kd.R_below (kr HO_298003.out) hb); replace HO_304000 := am (Kd.R_below (kr HO_304000.out) hb); replace HO_317000 := am (Kd.R_below (kr HO_317000.out) hb); replace HO_317003 := am (Kd.R_below (kr HO_317003.out) hb); replace HO_355000 := am (Kd.R_below (kr HO_355000.out) hb); replace HO_355003 := am (Kd.R_below (kr HO_355003.out) hb); replace BK278 := am (blk_below (pk BK278.out) hb); replace BK297 := am (blk_below (pk BK297.out) hb); replace BK303 := am (blk_below (pk BK303.out) hb); replace BK316 := am (blk_below (pk BK316.out) hb); replace BK354 := am (blk_below (pk BK354.out) hb); replace HB := am (below_step (bl HB.out) hb); (try clear hb); (try clear hb2); (try clear hk); (try clear hi)))
                    go_ret
                    exact ⟨by first | rfl | (simp [errW_none, errW_some] <;> rfl) | (simp [*, errW_none, errW_some] <;> rfl), by repeat (first | (with_reducible first | exact HB.out | apply below_alloc | apply pw_below_drewN | apply below_drew1 | refine below_set ?_ GE278.out | refine below_set ?_ GE297.out | refine below_set ?_ GE303.out | refine below_set ?_ GE316.out | refine below_set ?_ GE354.out) | exact HB.out)⟩
                   ·rw [if_neg c135] at H
                    have c135b0 : (t356 == t333) = false := beq_eq_false_iff_ne.mpr c135
                    have c135b1 : (t356 != t333) = true := bne_iff_ne.mpr c135
                    obtain rfl := Option.some.inj H
                    have hnb142 := NB316_278.out
                    have hnc142 := NB278_316.out
                    have hnb143 := NB316_297.out
                    have hnc143 := NB297_316.out
                    have hnb144 := NB316_303.out
                    have hnc144 := NB303_316.out
                    have hnb145 := NB316_354.out
                    have hnc145 := NB354_316.out
                    have hcz146_0 : wc.cell? ⟨gb316, 0, none⟩ = some (.slice Ao44 t334.length co44) := bc BK316.out 0
                    have hcz146_1 : wc.cell? ⟨gb316, 1, none⟩ = some (.int .i64 t310) := bc BK316.out 1
                    have hcz146_2 : wc.cell? ⟨gb316, 2, none⟩ = some (.int .i64 t311) := bc BK316.out 2
                    have hcz146_3 : wc.cell? ⟨gb316, 3, none⟩ = some (.slice Ao49 t335.length co49) := bc BK316.out 3
                    have hcz146_4 : wc.cell? ⟨gb316, 4, none⟩ = some (.int .i64 t315) := bc BK316.out 4
                    have hfz146_0 := blk_frozen BK316.out 0
                    have hfz146_1 := blk_frozen BK316.out 1
                    have hfz146_2 := blk_frozen BK316.out 2
                    have hfz146_3 := blk_frozen BK316.out 3
                    have hfz146_4 := blk_frozen BK316.out 4
                    go_wp2_with (first | ((with_reducible refine gate_callee (f := 20) rfl ?_); refine gl (some 84) Try.func20 #[.agg #[.slice Ao44 t334.length co44, .int .i64 t310, .int .i64 t311, .slice Ao49 t335.length co49, .int .i64 t315], .int .i64 1] ?_; (with_reducible refine (laws_heldBufOut.calls kj103 _ _ t334 t310 t311 _ _ t335 t315 1 t356 _ ?side1 ?side2 ?side3 ?side4 A127.out).mono ?_); (case side1 => repeat (first | exact (Kd.R_reads' HO_317000.out).2.2 | (with_reducible refine Kd.C_alloc ?_ _) | (with_reducible refine Kd.C_drewN ?_ _) | (with_reducible refine Kd.C_drew ?_))); (case side2 => exact (Kd.R_reads' HO_317000.out).2.1); (case side3 => repeat (first | exact (Kd.R_reads' HO_317003.out).2.2 | (with_reducible refine Kd.C_alloc ?_ _) | (with_reducible refine Kd.C_drewN ?_ _) | (with_reducible refine Kd.C_drew ?_))); (case side4 => exact (Kd.R_reads' HO_317003.out).2.1); rintro e w147 ⟨rfl, hb⟩; refine ⟨_, rfl, ?_⟩; replace HO_298000 := am (Kd.R_below (kr HO_298000.out) hb); replace HO_298003 := am (Kd.R_below (kr HO_298003.out) hb); replace HO_304000 := am (Kd.R_below (kr HO_304000.out) hb); replace HO_317000 := am (Kd.R_below (kr HO_317000.out) hb); replace HO_317003 := am (Kd.R_below (kr HO_317003.out) hb); replace HO_355000 := am (Kd.R_below (kr HO_355000.out) hb); replace HO_355003 := am (Kd.R_below (kr HO_355003.out) hb); replace BK278 := am (blk_below (pk BK278.out) hb); replace BK297 := am (blk_below (pk BK297.out) hb); replace BK303 := am (blk_below (pk BK303.out) hb); replace BK316 := am (blk_below (pk BK316.out) hb); replace BK354 := am (blk_below (pk BK354.out) hb); replace HB := am (below_step (bl HB.out) hb); (try clear hb); (try clear hb2); (try clear hk); (try clear hi)))
                    go_ret
                    exact ⟨by first | rfl | (simp [errW_none, errW_some] <;> rfl) | (simp [*, errW_none, errW_some] <;> rfl), by repeat (first | (with_reducible first | exact HB.out | apply below_alloc | apply pw_below_drewN | apply below_drew1 | refine below_set ?_ GE278.out | refine below_set ?_ GE297.out | refine below_set ?_ GE303.out | refine below_set ?_ GE316.out | refine below_set ?_ GE354.out) | exact HB.out)⟩
               ·rw [if_neg c99] at H
                have c99b0 : (t336 == t333) = false := beq_eq_false_iff_ne.mpr c99
                have c99b1 : (t336 != t333) = true := bne_iff_ne.mpr c99
                obtain rfl := Option.some.inj H
                go_wp2
                go_ret
                exact ⟨by first | rfl | (simp [errW_none, errW_some] <;> rfl) | (simp [*, errW_none, errW_some] <;> rfl), by repeat (first | (with_reducible first | exact HB.out | apply below_alloc | apply pw_below_drewN | apply below_drew1 | refine below_set ?_ GE278.out | refine below_set ?_ GE297.out | refine below_set ?_ GE303.out | refine below_set ?_ GE316.out) | exact HB.out)⟩

/-- THE ONE PURE STATEMENT of laws_FnExactBufInsert. -/
def laws_FnExactBufInsert.Pure : Prop := ∀ (l0_0 : List Int) (a0_1 : Int) (a0_2 : Int) (l1 : List Int), ((l0_0.length ≤ maxLen ∧ ∀ y0_ ∈ l0_0, (Lit.int .i64 y0_).wf = true) ∧ (Lit.int .i64 a0_1).wf = true ∧ (Lit.int .i64 a0_2).wf = true) → (l1.length ≤ maxLen ∧ ∀ y1_ ∈ l1, (Lit.int .i64 y1_).wf = true) → ∃ k, laws_FnExactBufInsert.f k l0_0 a0_1 a0_2 l1 = some true

end Go.Proofs.Ytejgkbejdkaccaa.PFnExactBufInsert
