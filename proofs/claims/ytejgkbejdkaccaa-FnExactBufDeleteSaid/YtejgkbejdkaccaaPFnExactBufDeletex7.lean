-- Written by xprint.py (this claim's own program, over the kit's printer); Lean checks it.
import Derived.Test.YtejgkbejdkaccaaPFnExactBufDeletex0
import Derived.Test.YtejgkbejdkaccaaPFnExactBufDeletex1
import Derived.Test.YtejgkbejdkaccaaPFnExactBufDeletex2
import Derived.Test.YtejgkbejdkaccaaPFnExactBufDeletex4
import Derived.Test.YtejgkbejdkaccaaPFnExactBufDeletex6
namespace Go.Proofs.Ytejgkbejdkaccaa.PFnExactBufDelete
open Go.RowKit Go.Proofs.YtejgkbejdkaccaaW.PrintWords Go.Proofs.YtejgkbejdkaccaaW.PrintLast Go.Proofs.YtejgkbejdkaccaaW.PrintMore
attribute [local go_sem] max2_int min2_int max_two min_two max_three min_three max_four min_four   -- for this text's walks alone
set_option linter.unusedVariables false
set_option linter.unusedSimpArgs false   -- squeezed

/-! ### laws_FnExactBufDelete: function 5 -/
mutual
def laws_FnExactBufDelete.j0 : Nat → Int → Int → List Int → Int → Int → List Int → Int → Int → List Int → Int → List Int → Int → Int → List Int → Int → Int → List Int → Int → Option (Bool)
 | 0, _, _, _, _, _, _, _, _, _, _, _, _, _, _, _, _, _, _ => none
 | k + 1, x1, x2, x282000, x282001, x282002, x298000, x298001, x298002, x298003, x298004, x304000, x304001, x304002, x314000, x314001, x314002, x314003, x314004 => (laws_toBuf.f k x282000 x282001 x282002).bind fun bt315 => ((laws_eqBuf.f k x304000 x304001 x304002 bt315.1 bt315.2.1 bt315.2.2).bind fun t320 => (if t320 = true then (laws_FnExactBufDelete.j1 k x1 x2 x282000 x282001 x282002 x298000 x298001 x298002 x298003 x298004 x304000 x304001 x304002 x314000 x314001 x314002 x314003 x314004) else (some false)))
def laws_FnExactBufDelete.j1 : Nat → Int → Int → List Int → Int → Int → List Int → Int → Int → List Int → Int → List Int → Int → Int → List Int → Int → Int → List Int → Int → Option (Bool)
 | 0, _, _, _, _, _, _, _, _, _, _, _, _, _, _, _, _, _, _ => none
 | k + 1, x1, x2, x282000, x282001, x282002, x298000, x298001, x298002, x298003, x298004, x304000, x304001, x304002, x314000, x314001, x314002, x314003, x314004 => (laws_markBuf.f k x304000 x304001 x304002 1).bind fun bt321 => (if bt321.1 < 0 then (laws_FnExactBufDelete.j2 k x1 x2 true x282000 x282001 x282002 x298000 x298001 x298002 x298003 x298004 x314000 x314001 x314002 x314003 x314004) else ((laws_eqBufOut.f k x314000 x314001 x314002 x314003 x314004 x298000 x298001 x298002 x298003 x298004).bind fun t323 => (laws_FnExactBufDelete.j2 k x1 x2 (!t323) x282000 x282001 x282002 x298000 x298001 x298002 x298003 x298004 x314000 x314001 x314002 x314003 x314004)))
def laws_FnExactBufDelete.j2 : Nat → Int → Int → Bool → List Int → Int → Int → List Int → Int → Int → List Int → Int → List Int → Int → Int → List Int → Int → Option (Bool)
 | 0, _, _, _, _, _, _, _, _, _, _, _, _, _, _, _, _ => none
 | k + 1, x1, x2, x50, x282000, x282001, x282002, x298000, x298001, x298002, x298003, x298004, x314000, x314001, x314002, x314003, x314004 => if x50 = true then (some false) else (laws_FnExactBufDelete.j3 k x1 x2 x282000 x282001 x282002 x298000 x298001 x298002 x298003 x298004 x314000 x314001 x314002 x314003 x314004)
def laws_FnExactBufDelete.j3 : Nat → Int → Int → List Int → Int → Int → List Int → Int → Int → List Int → Int → List Int → Int → Int → List Int → Int → Option (Bool)
 | 0, _, _, _, _, _, _, _, _, _, _, _, _, _, _, _ => none
 | k + 1, x1, x2, x282000, x282001, x282002, x298000, x298001, x298002, x298003, x298004, x314000, x314001, x314002, x314003, x314004 => (laws_markBufOut.f k x314000 x314001 x314002 x314003 x314004 1).bind fun bt324 => ((laws_heldBufOut.f k bt324.2.1 x314001 x314002 bt324.2.2 x314004 1).bind fun t327 => (if t327 < 0 then (some false) else (laws_FnExactBufDelete.j4 k x1 x2 bt324.1 t327 x282000 x282001 x282002 x298000 x298001 x298002 x298003 x298004 bt324.2.1 x314001 x314002 bt324.2.2 x314004)))
def laws_FnExactBufDelete.j4 : Nat → Int → Int → Int → Int → List Int → Int → Int → List Int → Int → Int → List Int → Int → List Int → Int → Int → List Int → Int → Option (Bool)
 | 0, _, _, _, _, _, _, _, _, _, _, _, _, _, _, _, _, _ => none
 | k + 1, x1, x2, x12, x13, x282000, x282001, x282002, x298000, x298001, x298002, x298003, x298004, x314000, x314001, x314002, x314003, x314004 => if x13 = x12 then ((laws_toBuf.f k x282000 x282001 x282002).bind fun bt328 => ((impl_BufDelete.f k bt328.1 bt328.2.1 bt328.2.2 x1 x2).bind fun bt333 => ((laws_eqBufOut.f k bt333.1 bt333.2.1 bt333.2.2.1 bt333.2.2.2.1 bt333.2.2.2.2 x298000 x298001 x298002 x298003 x298004).bind fun t343 => (if t343 = true then (laws_FnExactBufDelete.j5 k x12 x314000 x314001 x314002 x314003 x314004) else (some false))))) else (some false)
def laws_FnExactBufDelete.j5 : Nat → Int → List Int → Int → Int → List Int → Int → Option (Bool)
 | 0, _, _, _, _, _, _ => none
 | k + 1, x12, x314000, x314001, x314002, x314003, x314004 => (laws_heldBufOut.f k x314000 x314001 x314002 x314003 x314004 1).bind fun t344 => (if t344 < 0 then (some false) else (if t344 = x12 then (some true) else (some false)))
end
def laws_FnExactBufDelete.f (k : Nat) (l0_0 : List Int) (a0_1 : Int) (a0_2 : Int) (a1 : Int) (a2 : Int) : Option (Bool) := (laws_szBuf.f l0_0 a0_1 a0_2 1048576).bind fun t282 => (if t282 < 0 then (some true) else ((laws_toBuf.f k l0_0 a0_1 a0_2).bind fun bt283 => ((spec_BufDelete.f k bt283.1 bt283.2.1 bt283.2.2 a1 a2).bind fun bt288 => ((laws_toBuf.f k l0_0 a0_1 a0_2).bind fun bt298 => ((impl_BufDelete.f k bt298.1 bt298.2.1 bt298.2.2 a1 a2).bind fun bt304 => ((laws_eqBufOut.f k bt304.1 bt304.2.1 bt304.2.2.1 bt304.2.2.2.1 bt304.2.2.2.2 bt288.1 bt288.2.1 bt288.2.2.1 bt288.2.2.2.1 bt288.2.2.2.2).bind fun t314 => (if t314 = true then (laws_FnExactBufDelete.j0 k a1 a2 l0_0 a0_1 a0_2 bt288.1 bt288.2.1 bt288.2.2.1 bt288.2.2.2.1 bt288.2.2.2.2 bt298.1 bt298.2.1 bt298.2.2 bt304.1 bt304.2.1 bt304.2.2.1 bt304.2.2.2.1 bt304.2.2.2.2) else (some false))))))))
theorem laws_FnExactBufDelete.mono_l : ∀ k, (∀ y0 y1 y2 y3 y4 y5 y6 y7 y8 y9 y10 y11 y12 y13 y14 y15 y16 y17, LeO (laws_FnExactBufDelete.j0 k y0 y1 y2 y3 y4 y5 y6 y7 y8 y9 y10 y11 y12 y13 y14 y15 y16 y17) (laws_FnExactBufDelete.j0 (k + 1) y0 y1 y2 y3 y4 y5 y6 y7 y8 y9 y10 y11 y12 y13 y14 y15 y16 y17)) ∧ (∀ y0 y1 y2 y3 y4 y5 y6 y7 y8 y9 y10 y11 y12 y13 y14 y15 y16 y17, LeO (laws_FnExactBufDelete.j1 k y0 y1 y2 y3 y4 y5 y6 y7 y8 y9 y10 y11 y12 y13 y14 y15 y16 y17) (laws_FnExactBufDelete.j1 (k + 1) y0 y1 y2 y3 y4 y5 y6 y7 y8 y9 y10 y11 y12 y13 y14 y15 y16 y17)) ∧ (∀ y0 y1 y2 y3 y4 y5 y6 y7 y8 y9 y10 y11 y12 y13 y14 y15, LeO (laws_FnExactBufDelete.j2 k y0 y1 y2 y3 y4 y5 y6 y7 y8 y9 y10 y11 y12 y13 y14 y15) (laws_FnExactBufDelete.j2 (k + 1) y0 y1 y2 y3 y4 y5 y6 y7 y8 y9 y10 y11 y12 y13 y14 y15)) ∧ (∀ y0 y1 y2 y3 y4 y5 y6 y7 y8 y9 y10 y11 y12 y13 y14, LeO (laws_FnExactBufDelete.j3 k y0 y1 y2 y3 y4 y5 y6 y7 y8 y9 y10 y11 y12 y13 y14) (laws_FnExactBufDelete.j3 (k + 1) y0 y1 y2 y3 y4 y5 y6 y7 y8 y9 y10 y11 y12 y13 y14)) ∧ (∀ y0 y1 y2 y3 y4 y5 y6 y7 y8 y9 y10 y11 y12 y13 y14 y15 y16, LeO (laws_FnExactBufDelete.j4 k y0 y1 y2 y3 y4 y5 y6 y7 y8 y9 y10 y11 y12 y13 y14 y15 y16) (laws_FnExactBufDelete.j4 (k + 1) y0 y1 y2 y3 y4 y5 y6 y7 y8 y9 y10 y11 y12 y13 y14 y15 y16)) ∧ (∀ y0 y1 y2 y3 y4 y5, LeO (laws_FnExactBufDelete.j5 k y0 y1 y2 y3 y4 y5) (laws_FnExactBufDelete.j5 (k + 1) y0 y1 y2 y3 y4 y5))
 | 0 => ⟨fun _ _ _ _ _ _ _ _ _ _ _ _ _ _ _ _ _ _ r h => by simp [laws_FnExactBufDelete.j0] at h, fun _ _ _ _ _ _ _ _ _ _ _ _ _ _ _ _ _ _ r h => by simp [laws_FnExactBufDelete.j1] at h, fun _ _ _ _ _ _ _ _ _ _ _ _ _ _ _ _ r h => by simp [laws_FnExactBufDelete.j2] at h, fun _ _ _ _ _ _ _ _ _ _ _ _ _ _ _ r h => by simp [laws_FnExactBufDelete.j3] at h, fun _ _ _ _ _ _ _ _ _ _ _ _ _ _ _ _ _ r h => by simp [laws_FnExactBufDelete.j4] at h, fun _ _ _ _ _ _ r h => by simp [laws_FnExactBufDelete.j5] at h⟩
 | k + 1 => by
  obtain ⟨ih0, ih1, ih2, ih3, ih4, ih5⟩ := laws_FnExactBufDelete.mono_l k
  refine ⟨?_, ?_, ?_, ?_, ?_, ?_⟩
  ·intro y0 y1 y2 y3 y4 y5 y6 y7 y8 y9 y10 y11 y12 y13 y14 y15 y16 y17
   unfold laws_FnExactBufDelete.j0
   repeat' first
   | (with_reducible exact ih0 _ _ _ _ _ _ _ _ _ _ _ _ _ _ _ _ _ _)
   | (with_reducible exact ih1 _ _ _ _ _ _ _ _ _ _ _ _ _ _ _ _ _ _)
   | (with_reducible exact ih2 _ _ _ _ _ _ _ _ _ _ _ _ _ _ _ _)
   | (with_reducible exact ih3 _ _ _ _ _ _ _ _ _ _ _ _ _ _ _)
   | (with_reducible exact ih4 _ _ _ _ _ _ _ _ _ _ _ _ _ _ _ _ _)
   | (with_reducible exact ih5 _ _ _ _ _ _)
   | (with_reducible exact impl_BufDelete.mono _ _ _ _ _ _)
   | (with_reducible exact laws_eqBuf.mono _ _ _ _ _ _ _)
   | (with_reducible exact laws_eqBufOut.mono _ _ _ _ _ _ _ _ _ _ _)
   | (with_reducible exact laws_heldBufOut.mono _ _ _ _ _ _ _)
   | (with_reducible exact laws_markBuf.mono _ _ _ _ _)
   | (with_reducible exact laws_markBufOut.mono _ _ _ _ _ _ _)
   | (with_reducible exact laws_toBuf.mono _ _ _ _)
   | (with_reducible exact spec_BufDelete.mono _ _ _ _ _ _)
   | (with_reducible exact LeO.refl _)
   | (with_reducible exact LeO.none _)
   | (with_reducible refine LeO.ite ?_ ?_)
   | (with_reducible refine LeO.bind ?_ (fun _ => ?_))
   | exact ih0 _ _ _ _ _ _ _ _ _ _ _ _ _ _ _ _ _ _
   | exact ih1 _ _ _ _ _ _ _ _ _ _ _ _ _ _ _ _ _ _
   | exact ih2 _ _ _ _ _ _ _ _ _ _ _ _ _ _ _ _
   | exact ih3 _ _ _ _ _ _ _ _ _ _ _ _ _ _ _
   | exact ih4 _ _ _ _ _ _ _ _ _ _ _ _ _ _ _ _ _
   | exact ih5 _ _ _ _ _ _
   | exact impl_BufDelete.mono _ _ _ _ _ _
   | exact laws_eqBuf.mono _ _ _ _ _ _ _
   | exact laws_eqBufOut.mono _ _ _ _ _ _ _ _ _ _ _
   | exact laws_heldBufOut.mono _ _ _ _ _ _ _
   | exact laws_markBuf.mono _ _ _ _ _
   | exact laws_markBufOut.mono _ _ _ _ _ _ _
   | exact laws_toBuf.mono _ _ _ _
   | exact spec_BufDelete.mono _ _ _ _ _ _
   | exact LeO.none _
   | refine LeO.ite ?_ ?_
   | refine LeO.bind ?_ (fun _ => ?_)
  ·intro y0 y1 y2 y3 y4 y5 y6 y7 y8 y9 y10 y11 y12 y13 y14 y15 y16 y17
   unfold laws_FnExactBufDelete.j1
   repeat' first
   | (with_reducible exact ih0 _ _ _ _ _ _ _ _ _ _ _ _ _ _ _ _ _ _)
   | (with_reducible exact ih1 _ _ _ _ _ _ _ _ _ _ _ _ _ _ _ _ _ _)
   | (with_reducible exact ih2 _ _ _ _ _ _ _ _ _ _ _ _ _ _ _ _)
   | (with_reducible exact ih3 _ _ _ _ _ _ _ _ _ _ _ _ _ _ _)
   | (with_reducible exact ih4 _ _ _ _ _ _ _ _ _ _ _ _ _ _ _ _ _)
   | (with_reducible exact ih5 _ _ _ _ _ _)
   | (with_reducible exact impl_BufDelete.mono _ _ _ _ _ _)
   | (with_reducible exact laws_eqBuf.mono _ _ _ _ _ _ _)
   | (with_reducible exact laws_eqBufOut.mono _ _ _ _ _ _ _ _ _ _ _)
   | (with_reducible exact laws_heldBufOut.mono _ _ _ _ _ _ _)
   | (with_reducible exact laws_markBuf.mono _ _ _ _ _)
   | (with_reducible exact laws_markBufOut.mono _ _ _ _ _ _ _)
   | (with_reducible exact laws_toBuf.mono _ _ _ _)
   | (with_reducible exact spec_BufDelete.mono _ _ _ _ _ _)
   | (with_reducible exact LeO.refl _)
   | (with_reducible exact LeO.none _)
   | (with_reducible refine LeO.ite ?_ ?_)
   | (with_reducible refine LeO.bind ?_ (fun _ => ?_))
   | exact ih0 _ _ _ _ _ _ _ _ _ _ _ _ _ _ _ _ _ _
   | exact ih1 _ _ _ _ _ _ _ _ _ _ _ _ _ _ _ _ _ _
   | exact ih2 _ _ _ _ _ _ _ _ _ _ _ _ _ _ _ _
   | exact ih3 _ _ _ _ _ _ _ _ _ _ _ _ _ _ _
   | exact ih4 _ _ _ _ _ _ _ _ _ _ _ _ _ _ _ _ _
   | exact ih5 _ _ _ _ _ _
   | exact impl_BufDelete.mono _ _ _ _ _ _
   | exact laws_eqBuf.mono _ _ _ _ _ _ _
   | exact laws_eqBufOut.mono _ _ _ _ _ _ _ _ _ _ _
   | exact laws_heldBufOut.mono _ _ _ _ _ _ _
   | exact laws_markBuf.mono _ _ _ _ _
   | exact laws_markBufOut.mono _ _ _ _ _ _ _
   | exact laws_toBuf.mono _ _ _ _
   | exact spec_BufDelete.mono _ _ _ _ _ _
   | exact LeO.none _
   | refine LeO.ite ?_ ?_
   | refine LeO.bind ?_ (fun _ => ?_)
  ·intro y0 y1 y2 y3 y4 y5 y6 y7 y8 y9 y10 y11 y12 y13 y14 y15
   unfold laws_FnExactBufDelete.j2
   repeat' first
   | (with_reducible exact ih0 _ _ _ _ _ _ _ _ _ _ _ _ _ _ _ _ _ _)
   | (with_reducible exact ih1 _ _ _ _ _ _ _ _ _ _ _ _ _ _ _ _ _ _)
   | (with_reducible exact ih2 _ _ _ _ _ _ _ _ _ _ _ _ _ _ _ _)
   | (with_reducible exact ih3 _ _ _ _ _ _ _ _ _ _ _ _ _ _ _)
   | (with_reducible exact ih4 _ _ _ _ _ _ _ _ _ _ _ _ _ _ _ _ _)
   | (with_reducible exact ih5 _ _ _ _ _ _)
   | (with_reducible exact impl_BufDelete.mono _ _ _ _ _ _)
   | (with_reducible exact laws_eqBuf.mono _ _ _ _ _ _ _)
   | (with_reducible exact laws_eqBufOut.mono _ _ _ _ _ _ _ _ _ _ _)
   | (with_reducible exact laws_heldBufOut.mono _ _ _ _ _ _ _)
   | (with_reducible exact laws_markBuf.mono _ _ _ _ _)
   | (with_reducible exact laws_markBufOut.mono _ _ _ _ _ _ _)
   | (with_reducible exact laws_toBuf.mono _ _ _ _)
   | (with_reducible exact spec_BufDelete.mono _ _ _ _ _ _)
   | (with_reducible exact LeO.refl _)
   | (with_reducible exact LeO.none _)
   | (with_reducible refine LeO.ite ?_ ?_)
   | (with_reducible refine LeO.bind ?_ (fun _ => ?_))
   | exact ih0 _ _ _ _ _ _ _ _ _ _ _ _ _ _ _ _ _ _
   | exact ih1 _ _ _ _ _ _ _ _ _ _ _ _ _ _ _ _ _ _
   | exact ih2 _ _ _ _ _ _ _ _ _ _ _ _ _ _ _ _
   | exact ih3 _ _ _ _ _ _ _ _ _ _ _ _ _ _ _
   | exact ih4 _ _ _ _ _ _ _ _ _ _ _ _ _ _ _ _ _
   | exact ih5 _ _ _ _ _ _
   | exact impl_BufDelete.mono _ _ _ _ _ _
   | exact laws_eqBuf.mono _ _ _ _ _ _ _
   | exact laws_eqBufOut.mono _ _ _ _ _ _ _ _ _ _ _
   | exact laws_heldBufOut.mono _ _ _ _ _ _ _
   | exact laws_markBuf.mono _ _ _ _ _
   | exact laws_markBufOut.mono _ _ _ _ _ _ _
   | exact laws_toBuf.mono _ _ _ _
   | exact spec_BufDelete.mono _ _ _ _ _ _
   | exact LeO.none _
   | refine LeO.ite ?_ ?_
   | refine LeO.bind ?_ (fun _ => ?_)
  ·intro y0 y1 y2 y3 y4 y5 y6 y7 y8 y9 y10 y11 y12 y13 y14
   unfold laws_FnExactBufDelete.j3
   repeat' first
   | (with_reducible exact ih0 _ _ _ _ _ _ _ _ _ _ _ _ _ _ _ _ _ _)
   | (with_reducible exact ih1 _ _ _ _ _ _ _ _ _ _ _ _ _ _ _ _ _ _)
   | (with_reducible exact ih2 _ _ _ _ _ _ _ _ _ _ _ _ _ _ _ _)
   | (with_reducible exact ih3 _ _ _ _ _ _ _ _ _ _ _ _ _ _ _)
   | (with_reducible exact ih4 _ _ _ _ _ _ _ _ _ _ _ _ _ _ _ _ _)
   | (with_reducible exact ih5 _ _ _ _ _ _)
   | (with_reducible exact impl_BufDelete.mono _ _ _ _ _ _)
   | (with_reducible exact laws_eqBuf.mono _ _ _ _ _ _ _)
   | (with_reducible exact laws_eqBufOut.mono _ _ _ _ _ _ _ _ _ _ _)
   | (with_reducible exact laws_heldBufOut.mono _ _ _ _ _ _ _)
   | (with_reducible exact laws_markBuf.mono _ _ _ _ _)
   | (with_reducible exact laws_markBufOut.mono _ _ _ _ _ _ _)
   | (with_reducible exact laws_toBuf.mono _ _ _ _)
   | (with_reducible exact spec_BufDelete.mono _ _ _ _ _ _)
   | (with_reducible exact LeO.refl _)
   | (with_reducible exact LeO.none _)
   | (with_reducible refine LeO.ite ?_ ?_)
   | (with_reducible refine LeO.bind ?_ (fun _ => ?_))
   | exact ih0 _ _ _ _ _ _ _ _ _ _ _ _ _ _ _ _ _ _
   | exact ih1 _ _ _ _ _ _ _ _ _ _ _ _ _ _ _ _ _ _
   | exact ih2 _ _ _ _ _ _ _ _ _ _ _ _ _ _ _ _
   | exact ih3 _ _ _ _ _ _ _ _ _ _ _ _ _ _ _
   | exact ih4 _ _ _ _ _ _ _ _ _ _ _ _ _ _ _ _ _
   | exact ih5 _ _ _ _ _ _
   | exact impl_BufDelete.mono _ _ _ _ _ _
   | exact laws_eqBuf.mono _ _ _ _ _ _ _
   | exact laws_eqBufOut.mono _ _ _ _ _ _ _ _ _ _ _
   | exact laws_heldBufOut.mono _ _ _ _ _ _ _
   | exact laws_markBuf.mono _ _ _ _ _
   | exact laws_markBufOut.mono _ _ _ _ _ _ _
   | exact laws_toBuf.mono _ _ _ _
   | exact spec_BufDelete.mono _ _ _ _ _ _
   | exact LeO.none _
   | refine LeO.ite ?_ ?_
   | refine LeO.bind ?_ (fun _ => ?_)
  ·intro y0 y1 y2 y3 y4 y5 y6 y7 y8 y9 y10 y11 y12 y13 y14 y15 y16
   unfold laws_FnExactBufDelete.j4
   repeat' first
   | (with_reducible exact ih0 _ _ _ _ _ _ _ _ _ _ _ _ _ _ _ _ _ _)
   | (with_reducible exact ih1 _ _ _ _ _ _ _ _ _ _ _ _ _ _ _ _ _ _)
   | (with_reducible exact ih2 _ _ _ _ _ _ _ _ _ _ _ _ _ _ _ _)
   | (with_reducible exact ih3 _ _ _ _ _ _ _ _ _ _ _ _ _ _ _)
   | (with_reducible exact ih4 _ _ _ _ _ _ _ _ _ _ _ _ _ _ _ _ _)
   | (with_reducible exact ih5 _ _ _ _ _ _)
   | (with_reducible exact impl_BufDelete.mono _ _ _ _ _ _)
   | (with_reducible exact laws_eqBuf.mono _ _ _ _ _ _ _)
   | (with_reducible exact laws_eqBufOut.mono _ _ _ _ _ _ _ _ _ _ _)
   | (with_reducible exact laws_heldBufOut.mono _ _ _ _ _ _ _)
   | (with_reducible exact laws_markBuf.mono _ _ _ _ _)
   | (with_reducible exact laws_markBufOut.mono _ _ _ _ _ _ _)
   | (with_reducible exact laws_toBuf.mono _ _ _ _)
   | (with_reducible exact spec_BufDelete.mono _ _ _ _ _ _)
   | (with_reducible exact LeO.refl _)
   | (with_reducible exact LeO.none _)
   | (with_reducible refine LeO.ite ?_ ?_)
   | (with_reducible refine LeO.bind ?_ (fun _ => ?_))
   | exact ih0 _ _ _ _ _ _ _ _ _ _ _ _ _ _ _ _ _ _
   | exact ih1 _ _ _ _ _ _ _ _ _ _ _ _ _ _ _ _ _ _
   | exact ih2 _ _ _ _ _ _ _ _ _ _ _ _ _ _ _ _
   | exact ih3 _ _ _ _ _ _ _ _ _ _ _ _ _ _ _
   | exact ih4 _ _ _ _ _ _ _ _ _ _ _ _ _ _ _ _ _
   | exact ih5 _ _ _ _ _ _
   | exact impl_BufDelete.mono _ _ _ _ _ _
   | exact laws_eqBuf.mono _ _ _ _ _ _ _
   | exact laws_eqBufOut.mono _ _ _ _ _ _ _ _ _ _ _
   | exact laws_heldBufOut.mono _ _ _ _ _ _ _
   | exact laws_markBuf.mono _ _ _ _ _
   | exact laws_markBufOut.mono _ _ _ _ _ _ _
   | exact laws_toBuf.mono _ _ _ _
   | exact spec_BufDelete.mono _ _ _ _ _ _
   | exact LeO.none _
   | refine LeO.ite ?_ ?_
   | refine LeO.bind ?_ (fun _ => ?_)
  ·intro y0 y1 y2 y3 y4 y5
   unfold laws_FnExactBufDelete.j5
   repeat' first
   | (with_reducible exact ih0 _ _ _ _ _ _ _ _ _ _ _ _ _ _ _ _ _ _)
   | (with_reducible exact ih1 _ _ _ _ _ _ _ _ _ _ _ _ _ _ _ _ _ _)
   | (with_reducible exact ih2 _ _ _ _ _ _ _ _ _ _ _ _ _ _ _ _)
   | (with_reducible exact ih3 _ _ _ _ _ _ _ _ _ _ _ _ _ _ _)
   | (with_reducible exact ih4 _ _ _ _ _ _ _ _ _ _ _ _ _ _ _ _ _)
   | (with_reducible exact ih5 _ _ _ _ _ _)
   | (with_reducible exact impl_BufDelete.mono _ _ _ _ _ _)
   | (with_reducible exact laws_eqBuf.mono _ _ _ _ _ _ _)
   | (with_reducible exact laws_eqBufOut.mono _ _ _ _ _ _ _ _ _ _ _)
   | (with_reducible exact laws_heldBufOut.mono _ _ _ _ _ _ _)
   | (with_reducible exact laws_markBuf.mono _ _ _ _ _)
   | (with_reducible exact laws_markBufOut.mono _ _ _ _ _ _ _)
   | (with_reducible exact laws_toBuf.mono _ _ _ _)
   | (with_reducible exact spec_BufDelete.mono _ _ _ _ _ _)
   | (with_reducible exact LeO.refl _)
   | (with_reducible exact LeO.none _)
   | (with_reducible refine LeO.ite ?_ ?_)
   | (with_reducible refine LeO.bind ?_ (fun _ => ?_))
   | exact ih0 _ _ _ _ _ _ _ _ _ _ _ _ _ _ _ _ _ _
   | exact ih1 _ _ _ _ _ _ _ _ _ _ _ _ _ _ _ _ _ _
   | exact ih2 _ _ _ _ _ _ _ _ _ _ _ _ _ _ _ _
   | exact ih3 _ _ _ _ _ _ _ _ _ _ _ _ _ _ _
   | exact ih4 _ _ _ _ _ _ _ _ _ _ _ _ _ _ _ _ _
   | exact ih5 _ _ _ _ _ _
   | exact impl_BufDelete.mono _ _ _ _ _ _
   | exact laws_eqBuf.mono _ _ _ _ _ _ _
   | exact laws_eqBufOut.mono _ _ _ _ _ _ _ _ _ _ _
   | exact laws_heldBufOut.mono _ _ _ _ _ _ _
   | exact laws_markBuf.mono _ _ _ _ _
   | exact laws_markBufOut.mono _ _ _ _ _ _ _
   | exact laws_toBuf.mono _ _ _ _
   | exact spec_BufDelete.mono _ _ _ _ _ _
   | exact LeO.none _
   | refine LeO.ite ?_ ?_
   | refine LeO.bind ?_ (fun _ => ?_)
theorem laws_FnExactBufDelete.mono : ∀ a0 a1 a2 a3 a4 k, LeO (laws_FnExactBufDelete.f k a0 a1 a2 a3 a4) (laws_FnExactBufDelete.f (k + 1) a0 a1 a2 a3 a4) := by
 intro a0 a1 a2 a3 a4 k
 obtain ⟨ih0, ih1, ih2, ih3, ih4, ih5⟩ := laws_FnExactBufDelete.mono_l k
 unfold laws_FnExactBufDelete.f
 repeat' first
   | (with_reducible exact ih0 _ _ _ _ _ _ _ _ _ _ _ _ _ _ _ _ _ _)
   | (with_reducible exact ih1 _ _ _ _ _ _ _ _ _ _ _ _ _ _ _ _ _ _)
   | (with_reducible exact ih2 _ _ _ _ _ _ _ _ _ _ _ _ _ _ _ _)
   | (with_reducible exact ih3 _ _ _ _ _ _ _ _ _ _ _ _ _ _ _)
   | (with_reducible exact ih4 _ _ _ _ _ _ _ _ _ _ _ _ _ _ _ _ _)
   | (with_reducible exact ih5 _ _ _ _ _ _)
   | (with_reducible exact impl_BufDelete.mono _ _ _ _ _ _)
   | (with_reducible exact laws_eqBuf.mono _ _ _ _ _ _ _)
   | (with_reducible exact laws_eqBufOut.mono _ _ _ _ _ _ _ _ _ _ _)
   | (with_reducible exact laws_heldBufOut.mono _ _ _ _ _ _ _)
   | (with_reducible exact laws_markBuf.mono _ _ _ _ _)
   | (with_reducible exact laws_markBufOut.mono _ _ _ _ _ _ _)
   | (with_reducible exact laws_toBuf.mono _ _ _ _)
   | (with_reducible exact spec_BufDelete.mono _ _ _ _ _ _)
   | (with_reducible exact LeO.refl _)
   | (with_reducible exact LeO.none _)
   | (with_reducible refine LeO.ite ?_ ?_)
   | (with_reducible refine LeO.bind ?_ (fun _ => ?_))
   | exact ih0 _ _ _ _ _ _ _ _ _ _ _ _ _ _ _ _ _ _
   | exact ih1 _ _ _ _ _ _ _ _ _ _ _ _ _ _ _ _ _ _
   | exact ih2 _ _ _ _ _ _ _ _ _ _ _ _ _ _ _ _
   | exact ih3 _ _ _ _ _ _ _ _ _ _ _ _ _ _ _
   | exact ih4 _ _ _ _ _ _ _ _ _ _ _ _ _ _ _ _ _
   | exact ih5 _ _ _ _ _ _
   | exact impl_BufDelete.mono _ _ _ _ _ _
   | exact laws_eqBuf.mono _ _ _ _ _ _ _
   | exact laws_eqBufOut.mono _ _ _ _ _ _ _ _ _ _ _
   | exact laws_heldBufOut.mono _ _ _ _ _ _ _
   | exact laws_markBuf.mono _ _ _ _ _
   | exact laws_markBufOut.mono _ _ _ _ _ _ _
   | exact laws_toBuf.mono _ _ _ _
   | exact spec_BufDelete.mono _ _ _ _ _ _
   | exact LeO.none _
   | refine LeO.ite ?_ ?_
   | refine LeO.bind ?_ (fun _ => ?_)
set_option maxHeartbeats 8000000 in
set_option maxRecDepth 100000 in
theorem laws_FnExactBufDelete.calls (k : Nat) (A0_0 : Option Addr) (c0_0 : Nat) (l0_0 : List Int) (a0_1 : Int) (a0_2 : Int) (a1 : Int) (a2 : Int) (r : Bool) (w : World) (hr0_0 : Kd.C (Kd.int .i64) w A0_0 l0_0.length l0_0) (hc0_0 : l0_0.length ≤ c0_0) (h : laws_FnExactBufDelete.f k l0_0 a0_1 a0_2 a1 a2 = some r) :
  Calls Try.prog 5 #[.agg #[.slice A0_0 l0_0.length c0_0, .int .i64 a0_1, .int .i64 a0_2], .int .i64 a1, .int .i64 a2] w fun e w' => e = .returned (.bool r) ∧ Below w.heap.size w w' := by
 have hu24 := Try.underlying24
 have hu28 := Try.underlying28
 have hu26 := Try.underlying26
 have HR0_0 := am hr0_0
 have HC0_0 := am hc0_0
 clear hr0_0 hc0_0
 have HB := am (Below.refl w.heap.size w)
 have H : ((laws_szBuf.f l0_0 a0_1 a0_2 1048576).bind fun t282 => (if t282 < 0 then (some true) else ((laws_toBuf.f k l0_0 a0_1 a0_2).bind fun bt283 => ((spec_BufDelete.f k bt283.1 bt283.2.1 bt283.2.2 a1 a2).bind fun bt288 => ((laws_toBuf.f k l0_0 a0_1 a0_2).bind fun bt298 => ((impl_BufDelete.f k bt298.1 bt298.2.1 bt298.2.2 a1 a2).bind fun bt304 => ((laws_eqBufOut.f k bt304.1 bt304.2.1 bt304.2.2.1 bt304.2.2.2.1 bt304.2.2.2.2 bt288.1 bt288.2.1 bt288.2.2.1 bt288.2.2.2.1 bt288.2.2.2.2).bind fun t314 => (if t314 = true then (laws_FnExactBufDelete.j0 k a1 a2 l0_0 a0_1 a0_2 bt288.1 bt288.2.1 bt288.2.2.1 bt288.2.2.2.1 bt288.2.2.2.2 bt298.1 bt298.2.1 bt298.2.2 bt304.1 bt304.2.1 bt304.2.2.1 bt304.2.2.2.1 bt304.2.2.2.2) else (some false))))))))) = some r := h
 clear h
 replace H := Option.bind_eq_some_iff.mp H
 obtain ⟨t282, A40, H⟩ := H
 replace H : (if t282 < 0 then (some true) else ((laws_toBuf.f k l0_0 a0_1 a0_2).bind fun bt283 => ((spec_BufDelete.f k bt283.1 bt283.2.1 bt283.2.2 a1 a2).bind fun bt288 => ((laws_toBuf.f k l0_0 a0_1 a0_2).bind fun bt298 => ((impl_BufDelete.f k bt298.1 bt298.2.1 bt298.2.2 a1 a2).bind fun bt304 => ((laws_eqBufOut.f k bt304.1 bt304.2.1 bt304.2.2.1 bt304.2.2.2.1 bt304.2.2.2.2 bt288.1 bt288.2.1 bt288.2.2.1 bt288.2.2.2.1 bt288.2.2.2.2).bind fun t314 => (if t314 = true then (laws_FnExactBufDelete.j0 k a1 a2 l0_0 a0_1 a0_2 bt288.1 bt288.2.1 bt288.2.2.1 bt288.2.2.2.1 bt288.2.2.2.2 bt298.1 bt298.2.1 bt298.2.2 bt304.1 bt304.2.1 bt304.2.2.1 bt304.2.2.2.1 bt304.2.2.2.2) else (some false)))))))) = some r := H
 have A4 := Aside0.mk A40
 clear A40
 by_cases c5 : t282 < 0
 ·rw [if_pos c5] at H
  have c5b0 : decide (t282 < 0) = true := decide_eq_true c5
  clear c5
  obtain rfl := Option.some.inj H
  go_enter Try.func5, Try.ntmps5
  go_wp2_with (first | ((with_reducible refine gate_dst (N := 3) rfl ?_); refine box_event ?hg (N := 3) ?hd (cs := #[.slice A0_0 l0_0.length c0_0, .int .i64 a0_1, .int .i64 a0_2]) (t := 24) ?hr ?_; (case hd => rfl); (case hg => rfl); (case hr => first | (go_simp; done) | (go_simp; rfl)); intro gb281 hg w6 hbox hb; have BK281 := am (hbox); have GW281 := am ((by rw [hg]; exact (below_size (bl HB.out)) : w.heap.size ≤ gb281)); have GE281 := GW281; replace HB := am (below_step (bl HB.out) hb); clear hb hbox hg; have hcz7_0 : w6.cell? ⟨gb281, 0, none⟩ = some (.slice A0_0 l0_0.length c0_0) := bc BK281.out 0; have hcz7_1 : w6.cell? ⟨gb281, 1, none⟩ = some (.int .i64 a0_1) := bc BK281.out 1; have hcz7_2 : w6.cell? ⟨gb281, 2, none⟩ = some (.int .i64 a0_2) := bc BK281.out 2; have hfz7_0 := blk_frozen BK281.out 0; have hfz7_1 := blk_frozen BK281.out 1; have hfz7_2 := blk_frozen BK281.out 2) | ((with_reducible refine gate_callee (f := 9) rfl ?_); refine gl (some 17) Try.func9 #[.agg #[.slice A0_0 l0_0.length c0_0, .int .i64 a0_1, .int .i64 a0_2], .int .i64 1048576] ?_; (with_reducible refine (laws_szBuf.calls _ _ l0_0 a0_1 a0_2 1048576 t282 _ ?side1 ?side2 A4.out).mono ?_); (case side1 => repeat (first | exact (Kd.C_below HR0_0.out HB.out) | (with_reducible refine Kd.C_alloc ?_ _) | (with_reducible refine Kd.C_drewN ?_ _) | (with_reducible refine Kd.C_drew ?_))); (case side2 => exact HC0_0.out); rintro e w8 ⟨rfl, hb⟩; refine ⟨_, rfl, ?_⟩; replace BK281 := am (blk_below (pk BK281.out) hb); replace HB := am (below_step (bl HB.out) hb); (try clear hb); (try clear hb2); (try clear hk); (try clear hi)))
  go_ret
  exact ⟨by first | rfl | (simp [errW_none, errW_some] <;> rfl) | (simp [*, errW_none, errW_some] <;> rfl), by repeat (first | (with_reducible first | exact HB.out | apply below_alloc | apply pw_below_drewN | apply below_drew1 | refine below_set ?_ GE281.out) | exact HB.out)⟩
 ·rw [if_neg c5] at H
  have c5b0 : decide (t282 < 0) = false := decide_eq_false c5
  clear c5
  replace H := Option.bind_eq_some_iff.mp H
  obtain ⟨⟨t283, t286, t287⟩, A90, H⟩ := H
  replace H : ((spec_BufDelete.f k t283 t286 t287 a1 a2).bind fun bt288 => ((laws_toBuf.f k l0_0 a0_1 a0_2).bind fun bt298 => ((impl_BufDelete.f k bt298.1 bt298.2.1 bt298.2.2 a1 a2).bind fun bt304 => ((laws_eqBufOut.f k bt304.1 bt304.2.1 bt304.2.2.1 bt304.2.2.2.1 bt304.2.2.2.2 bt288.1 bt288.2.1 bt288.2.2.1 bt288.2.2.2.1 bt288.2.2.2.2).bind fun t314 => (if t314 = true then (laws_FnExactBufDelete.j0 k a1 a2 l0_0 a0_1 a0_2 bt288.1 bt288.2.1 bt288.2.2.1 bt288.2.2.2.1 bt288.2.2.2.2 bt298.1 bt298.2.1 bt298.2.2 bt304.1 bt304.2.1 bt304.2.2.1 bt304.2.2.2.1 bt304.2.2.2.2) else (some false)))))) = some r := H
  have A9 := Aside0.mk A90
  clear A90
  replace H := Option.bind_eq_some_iff.mp H
  obtain ⟨⟨t288, t291, t292, t293, t296⟩, A100, H⟩ := H
  replace H : ((laws_toBuf.f k l0_0 a0_1 a0_2).bind fun bt298 => ((impl_BufDelete.f k bt298.1 bt298.2.1 bt298.2.2 a1 a2).bind fun bt304 => ((laws_eqBufOut.f k bt304.1 bt304.2.1 bt304.2.2.1 bt304.2.2.2.1 bt304.2.2.2.2 t288 t291 t292 t293 t296).bind fun t314 => (if t314 = true then (laws_FnExactBufDelete.j0 k a1 a2 l0_0 a0_1 a0_2 t288 t291 t292 t293 t296 bt298.1 bt298.2.1 bt298.2.2 bt304.1 bt304.2.1 bt304.2.2.1 bt304.2.2.2.1 bt304.2.2.2.2) else (some false))))) = some r := H
  have A10 := Aside0.mk A100
  clear A100
  replace H := Option.bind_eq_some_iff.mp H
  obtain ⟨⟨t298, t301, t302⟩, A110, H⟩ := H
  replace H : ((impl_BufDelete.f k t298 t301 t302 a1 a2).bind fun bt304 => ((laws_eqBufOut.f k bt304.1 bt304.2.1 bt304.2.2.1 bt304.2.2.2.1 bt304.2.2.2.2 t288 t291 t292 t293 t296).bind fun t314 => (if t314 = true then (laws_FnExactBufDelete.j0 k a1 a2 l0_0 a0_1 a0_2 t288 t291 t292 t293 t296 t298 t301 t302 bt304.1 bt304.2.1 bt304.2.2.1 bt304.2.2.2.1 bt304.2.2.2.2) else (some false)))) = some r := H
  have A11 := Aside0.mk A110
  clear A110
  replace H := Option.bind_eq_some_iff.mp H
  obtain ⟨⟨t304, t307, t308, t309, t312⟩, A120, H⟩ := H
  replace H : ((laws_eqBufOut.f k t304 t307 t308 t309 t312 t288 t291 t292 t293 t296).bind fun t314 => (if t314 = true then (laws_FnExactBufDelete.j0 k a1 a2 l0_0 a0_1 a0_2 t288 t291 t292 t293 t296 t298 t301 t302 t304 t307 t308 t309 t312) else (some false))) = some r := H
  have A12 := Aside0.mk A120
  clear A120
  replace H := Option.bind_eq_some_iff.mp H
  obtain ⟨t314, A130, H⟩ := H
  replace H : (if t314 = true then (laws_FnExactBufDelete.j0 k a1 a2 l0_0 a0_1 a0_2 t288 t291 t292 t293 t296 t298 t301 t302 t304 t307 t308 t309 t312) else (some false)) = some r := H
  have A13 := Aside0.mk A130
  clear A130
  have HC14 := Aside0.mk H
  clear H
  go_enter Try.func5, Try.ntmps5
  go_upto_if 34 with (first | ((with_reducible refine gate_dst (N := 3) rfl ?_); refine box_event ?hg (N := 3) ?hd (cs := #[.slice A0_0 l0_0.length c0_0, .int .i64 a0_1, .int .i64 a0_2]) (t := 24) ?hr ?_; (case hd => rfl); (case hg => rfl); (case hr => first | (go_simp; done) | (go_simp; rfl)); intro gb281 hg w15 hbox hb; have BK281 := am (hbox); have GW281 := am ((by rw [hg]; exact (below_size (bl HB.out)) : w.heap.size ≤ gb281)); have GE281 := GW281; replace HB := am (below_step (bl HB.out) hb); clear hb hbox hg; have hcz16_0 : w15.cell? ⟨gb281, 0, none⟩ = some (.slice A0_0 l0_0.length c0_0) := bc BK281.out 0; have hcz16_1 : w15.cell? ⟨gb281, 1, none⟩ = some (.int .i64 a0_1) := bc BK281.out 1; have hcz16_2 : w15.cell? ⟨gb281, 2, none⟩ = some (.int .i64 a0_2) := bc BK281.out 2; have hfz16_0 := blk_frozen BK281.out 0; have hfz16_1 := blk_frozen BK281.out 1; have hfz16_2 := blk_frozen BK281.out 2) | ((with_reducible refine gate_callee (f := 9) rfl ?_); refine gl (some 17) Try.func9 #[.agg #[.slice A0_0 l0_0.length c0_0, .int .i64 a0_1, .int .i64 a0_2], .int .i64 1048576] ?_; (with_reducible refine (laws_szBuf.calls _ _ l0_0 a0_1 a0_2 1048576 t282 _ ?side1 ?side2 A4.out).mono ?_); (case side1 => repeat (first | exact (Kd.C_below HR0_0.out HB.out) | (with_reducible refine Kd.C_alloc ?_ _) | (with_reducible refine Kd.C_drewN ?_ _) | (with_reducible refine Kd.C_drew ?_))); (case side2 => exact HC0_0.out); rintro e w17 ⟨rfl, hb⟩; refine ⟨_, rfl, ?_⟩; replace BK281 := am (blk_below (pk BK281.out) hb); replace HB := am (below_step (bl HB.out) hb); (try clear hb); (try clear hb2); (try clear hk); (try clear hi); have hcz18_0 : w17.cell? ⟨gb281, 0, none⟩ = some (.slice A0_0 l0_0.length c0_0) := bc BK281.out 0; have hcz18_1 : w17.cell? ⟨gb281, 1, none⟩ = some (.int .i64 a0_1) := bc BK281.out 1; have hcz18_2 : w17.cell? ⟨gb281, 2, none⟩ = some (.int .i64 a0_2) := bc BK281.out 2; have hfz18_0 := blk_frozen BK281.out 0; have hfz18_1 := blk_frozen BK281.out 1; have hfz18_2 := blk_frozen BK281.out 2) | ((with_reducible refine gate_callee (f := 11) rfl ?_); refine gl (some 21) Try.func11 #[.agg #[.slice A0_0 l0_0.length c0_0, .int .i64 a0_1, .int .i64 a0_2]] ?_; (with_reducible refine (laws_toBuf.calls k _ _ l0_0 a0_1 a0_2 t283 t286 t287 _ ?side1 ?side2 A9.out).mono ?_); (case side1 => repeat (first | exact (Kd.C_below HR0_0.out HB.out) | (with_reducible refine Kd.C_alloc ?_ _) | (with_reducible refine Kd.C_drewN ?_ _) | (with_reducible refine Kd.C_drew ?_))); (case side2 => exact HC0_0.out); rintro e w19 ⟨v284, rfl, ho0, hb⟩; refine ⟨_, rfl, ?_⟩; have HO285 := am (Kd.R_lower ho0 (below_size (bl HB.out))); replace BK281 := am (blk_below (pk BK281.out) hb); replace HB := am (below_step (bl HB.out) hb); (try clear hb); (try clear hb2); (try clear hk); (try clear hi); (try clear ho0); obtain ⟨Ao20, co20, eo20⟩ := Kd.R_slice HO285.out; subst eo20) | ((with_reducible refine gate_callee (f := 23) rfl ?_); refine gl (some 24) Try.func23 #[.agg #[.slice Ao20 t283.length co20, .int .i64 t286, .int .i64 t287], .int .i64 a1, .int .i64 a2] ?_; (with_reducible refine (spec_BufDelete.calls k _ _ t283 t286 t287 a1 a2 t288 t291 t292 t293 t296 _ ?side1 ?side2 A10.out).mono ?_); (case side1 => repeat (first | exact (Kd.R_reads' HO285.out).2.2 | (with_reducible refine Kd.C_alloc ?_ _) | (with_reducible refine Kd.C_drewN ?_ _) | (with_reducible refine Kd.C_drew ?_))); (case side2 => exact (Kd.R_reads' HO285.out).2.1); rintro e w21 ⟨v289, v294, rfl, ho0, ho1, hb⟩; refine ⟨_, rfl, ?_⟩; have HO290 := am (Kd.R_lower (Kd.R_new' ho0 (Kd.R_lt (kr HO285.out))) (below_size (bl HB.out))); have HO295 := am (Kd.R_lower (Kd.R_new' ho1 (Kd.R_lt (kr HO285.out))) (below_size (bl HB.out))); replace HO285 := am (Kd.R_mono (Kd.R_told (Kd.R_told (Kd.R_old (kr HO285.out) hb) (Kd.R_base ho0)) (Kd.R_base ho1)) (fun _ h_ => h_.1)); replace BK281 := am (blk_below (pk BK281.out) hb); replace HB := am (below_step (bl HB.out) hb); (try clear hb); (try clear hb2); (try clear hk); (try clear hi); (try clear ho0); (try clear ho1)) | ((with_reducible refine gate_dst (N := 8) rfl ?_); refine box_event ?hg (N := 8) ?hd (cs := #[.slice none 0 0, .int .i64 0, .int .i64 0, .slice none 0 0, .int .i64 0]) (t := 28) ?hr ?_; (case hd => rfl); (case hg => rfl); (case hr => first | (go_simp; done) | (go_simp; rfl)); intro gb297 hg w22 hbox hb; replace HO285 := am (Kd.R_below (kr HO285.out) hb); replace HO290 := am (Kd.R_below (kr HO290.out) hb); replace HO295 := am (Kd.R_below (kr HO295.out) hb); have BK297 := am (hbox); have GW297 := am ((by rw [hg]; exact (below_size (bl HB.out)) : w.heap.size ≤ gb297)); have GE297 := GW297; replace HB := am (below_step (bl HB.out) hb); have NB281_297 := am ((by rw [hg]; exact Nat.ne_of_lt (blk_lt (pk BK281.out)) : gb281 ≠ gb297)); have NB297_281 := am ((by rw [hg]; exact Nat.ne_of_gt (blk_lt (pk BK281.out)) : gb297 ≠ gb281)); replace BK281 := am (blk_below (pk BK281.out) hb); clear hb hbox hg; obtain ⟨Ao23, co23, eo23⟩ := Kd.R_slice HO290.out; subst eo23; have hnb24 := NB297_281.out; have hnc24 := NB281_297.out; have hcz25_0 : w22.cell? ⟨gb297, 0, none⟩ = some (.slice none 0 0) := bc BK297.out 0; have hcz25_1 : w22.cell? ⟨gb297, 1, none⟩ = some (.int .i64 0) := bc BK297.out 1; have hcz25_2 : w22.cell? ⟨gb297, 2, none⟩ = some (.int .i64 0) := bc BK297.out 2; have hcz25_3 : w22.cell? ⟨gb297, 3, none⟩ = some (.slice none 0 0) := bc BK297.out 3; have hcz25_4 : w22.cell? ⟨gb297, 4, none⟩ = some (.int .i64 0) := bc BK297.out 4; have hfz25_0 := blk_frozen BK297.out 0; have hfz25_1 := blk_frozen BK297.out 1; have hfz25_2 := blk_frozen BK297.out 2; have hfz25_3 := blk_frozen BK297.out 3; have hfz25_4 := blk_frozen BK297.out 4; obtain ⟨Ao26, co26, eo26⟩ := Kd.R_slice HO295.out; subst eo26; have hcz27_0 : w22.cell? ⟨gb281, 0, none⟩ = some (.slice A0_0 l0_0.length c0_0) := bc BK281.out 0; have hcz27_1 : w22.cell? ⟨gb281, 1, none⟩ = some (.int .i64 a0_1) := bc BK281.out 1; have hcz27_2 : w22.cell? ⟨gb281, 2, none⟩ = some (.int .i64 a0_2) := bc BK281.out 2; have hfz27_0 := blk_frozen BK281.out 0; have hfz27_1 := blk_frozen BK281.out 1; have hfz27_2 := blk_frozen BK281.out 2) | ((with_reducible refine gate_callee (f := 11) rfl ?_); refine gl (some 26) Try.func11 #[.agg #[.slice A0_0 l0_0.length c0_0, .int .i64 a0_1, .int .i64 a0_2]] ?_; (with_reducible refine (laws_toBuf.calls k _ _ l0_0 a0_1 a0_2 t298 t301 t302 _ ?side1 ?side2 A11.out).mono ?_); (case side1 => exact Kd.C_below HR0_0.out (bl HB.out)); (case side2 => exact HC0_0.out); rintro e w28 ⟨v299, rfl, ho0, hb⟩; refine ⟨_, rfl, ?_⟩; have HO300 := am (Kd.R_lower (Kd.R_new' (Kd.R_new' (Kd.R_new' ho0 (Kd.R_lt (kr ((Kd.R_mono (Kd.R_far (p := ⟨gb297, 4, none⟩) (Kd.R_far (p := ⟨gb297, 3, none⟩) (Kd.R_far (p := ⟨gb297, 2, none⟩) (Kd.R_far (p := ⟨gb297, 1, none⟩) (Kd.R_far (p := ⟨gb297, 0, none⟩) (Kd.R_types HO285.out BK297.out (by decide)) (fun _ hk => hk.2) (.slice Ao23 t288.length co23)) (fun _ hk => hk.2) (.int .i64 t291)) (fun _ hk => hk.2) (.int .i64 t292)) (fun _ hk => hk.2) (.slice Ao26 t293.length co26)) (fun _ hk => hk.2) (.int .i64 t296)) (fun _ h_ => h_.1)))))) (Kd.R_lt (kr ((Kd.R_mono (Kd.R_far (p := ⟨gb297, 4, none⟩) (Kd.R_far (p := ⟨gb297, 3, none⟩) (Kd.R_far (p := ⟨gb297, 2, none⟩) (Kd.R_far (p := ⟨gb297, 1, none⟩) (Kd.R_far (p := ⟨gb297, 0, none⟩) (Kd.R_types HO290.out BK297.out (by decide)) (fun _ hk => hk.2) (.slice Ao23 t288.length co23)) (fun _ hk => hk.2) (.int .i64 t291)) (fun _ hk => hk.2) (.int .i64 t292)) (fun _ hk => hk.2) (.slice Ao26 t293.length co26)) (fun _ hk => hk.2) (.int .i64 t296)) (fun _ h_ => h_.1)))))) (Kd.R_lt (kr ((Kd.R_mono (Kd.R_far (p := ⟨gb297, 4, none⟩) (Kd.R_far (p := ⟨gb297, 3, none⟩) (Kd.R_far (p := ⟨gb297, 2, none⟩) (Kd.R_far (p := ⟨gb297, 1, none⟩) (Kd.R_far (p := ⟨gb297, 0, none⟩) (Kd.R_types HO295.out BK297.out (by decide)) (fun _ hk => hk.2) (.slice Ao23 t288.length co23)) (fun _ hk => hk.2) (.int .i64 t291)) (fun _ hk => hk.2) (.int .i64 t292)) (fun _ hk => hk.2) (.slice Ao26 t293.length co26)) (fun _ hk => hk.2) (.int .i64 t296)) (fun _ h_ => h_.1)))))) (below_size (bl HB.out))); replace HO285 := am (Kd.R_elder' (kr ((Kd.R_mono (Kd.R_far (p := ⟨gb297, 4, none⟩) (Kd.R_far (p := ⟨gb297, 3, none⟩) (Kd.R_far (p := ⟨gb297, 2, none⟩) (Kd.R_far (p := ⟨gb297, 1, none⟩) (Kd.R_far (p := ⟨gb297, 0, none⟩) (Kd.R_types HO285.out BK297.out (by decide)) (fun _ hk => hk.2) (.slice Ao23 t288.length co23)) (fun _ hk => hk.2) (.int .i64 t291)) (fun _ hk => hk.2) (.int .i64 t292)) (fun _ hk => hk.2) (.slice Ao26 t293.length co26)) (fun _ hk => hk.2) (.int .i64 t296)) (fun _ h_ => h_.1)))) (Kd.R_base ho0) hb); replace HO290 := am (Kd.R_elder' (kr ((Kd.R_mono (Kd.R_far (p := ⟨gb297, 4, none⟩) (Kd.R_far (p := ⟨gb297, 3, none⟩) (Kd.R_far (p := ⟨gb297, 2, none⟩) (Kd.R_far (p := ⟨gb297, 1, none⟩) (Kd.R_far (p := ⟨gb297, 0, none⟩) (Kd.R_types HO290.out BK297.out (by decide)) (fun _ hk => hk.2) (.slice Ao23 t288.length co23)) (fun _ hk => hk.2) (.int .i64 t291)) (fun _ hk => hk.2) (.int .i64 t292)) (fun _ hk => hk.2) (.slice Ao26 t293.length co26)) (fun _ hk => hk.2) (.int .i64 t296)) (fun _ h_ => h_.1)))) (Kd.R_base ho0) hb); replace HO295 := am (Kd.R_elder' (kr ((Kd.R_mono (Kd.R_far (p := ⟨gb297, 4, none⟩) (Kd.R_far (p := ⟨gb297, 3, none⟩) (Kd.R_far (p := ⟨gb297, 2, none⟩) (Kd.R_far (p := ⟨gb297, 1, none⟩) (Kd.R_far (p := ⟨gb297, 0, none⟩) (Kd.R_types HO295.out BK297.out (by decide)) (fun _ hk => hk.2) (.slice Ao23 t288.length co23)) (fun _ hk => hk.2) (.int .i64 t291)) (fun _ hk => hk.2) (.int .i64 t292)) (fun _ hk => hk.2) (.slice Ao26 t293.length co26)) (fun _ hk => hk.2) (.int .i64 t296)) (fun _ h_ => h_.1)))) (Kd.R_base ho0) hb); replace BK281 := am (blk_below (g := gb281) (o := .cells #[.slice A0_0 l0_0.length c0_0, .int .i64 a0_1, .int .i64 a0_2] 24 (0, 0)) (by (with_reducible repeat (first | refine blk_drewN ?_ _ | refine blk_drew ?_ | refine blk_alloc ?_ _)); refine blk_far ?_ NB281_297.out _; (with_reducible repeat (first | refine blk_drewN ?_ _ | refine blk_drew ?_ | refine blk_alloc ?_ _)); refine blk_far ?_ NB281_297.out _; (with_reducible repeat (first | refine blk_drewN ?_ _ | refine blk_drew ?_ | refine blk_alloc ?_ _)); refine blk_far ?_ NB281_297.out _; (with_reducible repeat (first | refine blk_drewN ?_ _ | refine blk_drew ?_ | refine blk_alloc ?_ _)); refine blk_far ?_ NB281_297.out _; (with_reducible repeat (first | refine blk_drewN ?_ _ | refine blk_drew ?_ | refine blk_alloc ?_ _)); refine blk_far ?_ NB281_297.out _; (with_reducible repeat (first | refine blk_drewN ?_ _ | refine blk_drew ?_ | refine blk_alloc ?_ _)); exact BK281.out) hb); replace BK297 := am (blk_below (g := gb297) (o := .cells #[.slice Ao23 t288.length co23, .int .i64 t291, .int .i64 t292, .slice Ao26 t293.length co26, .int .i64 t296] 28 (0, 0)) (by (with_reducible repeat (first | refine blk_drewN ?_ _ | refine blk_drew ?_ | refine blk_alloc ?_ _)); refine blk_put (cs := #[.slice Ao23 t288.length co23, .int .i64 t291, .int .i64 t292, .slice Ao26 t293.length co26, .int .i64 0]) ?_ 4 _ rfl; (with_reducible repeat (first | refine blk_drewN ?_ _ | refine blk_drew ?_ | refine blk_alloc ?_ _)); refine blk_put (cs := #[.slice Ao23 t288.length co23, .int .i64 t291, .int .i64 t292, .slice none 0 0, .int .i64 0]) ?_ 3 _ rfl; (with_reducible repeat (first | refine blk_drewN ?_ _ | refine blk_drew ?_ | refine blk_alloc ?_ _)); refine blk_put (cs := #[.slice Ao23 t288.length co23, .int .i64 t291, .int .i64 0, .slice none 0 0, .int .i64 0]) ?_ 2 _ rfl; (with_reducible repeat (first | refine blk_drewN ?_ _ | refine blk_drew ?_ | refine blk_alloc ?_ _)); refine blk_put (cs := #[.slice Ao23 t288.length co23, .int .i64 0, .int .i64 0, .slice none 0 0, .int .i64 0]) ?_ 1 _ rfl; (with_reducible repeat (first | refine blk_drewN ?_ _ | refine blk_drew ?_ | refine blk_alloc ?_ _)); refine blk_put (cs := #[.slice none 0 0, .int .i64 0, .int .i64 0, .slice none 0 0, .int .i64 0]) ?_ 0 _ rfl; (with_reducible repeat (first | refine blk_drewN ?_ _ | refine blk_drew ?_ | refine blk_alloc ?_ _)); exact BK297.out) hb); replace HB := am (below_step (bl HB.out) hb); (try clear hb); (try clear hb2); (try clear hk); (try clear hi); (try clear ho0)) | ((with_reducible refine gate_dst (N := 9) rfl ?_); refine box_event ?hg (N := 9) ?hd (cs := #[.slice none 0 0, .int .i64 0, .int .i64 0]) (t := 26) ?hr ?_; (case hd => rfl); (case hg => rfl); (case hr => first | (go_simp; done) | (go_simp; rfl)); intro gb303 hg w29 hbox hb; replace HO285 := am (Kd.R_below (kr HO285.out) hb); replace HO290 := am (Kd.R_below (kr HO290.out) hb); replace HO295 := am (Kd.R_below (kr HO295.out) hb); replace HO300 := am (Kd.R_below (kr HO300.out) hb); have BK303 := am (hbox); have GW303 := am ((by rw [hg]; exact (below_size (bl HB.out)) : w.heap.size ≤ gb303)); have GE303 := GW303; replace HB := am (below_step (bl HB.out) hb); have NB281_303 := am ((by rw [hg]; exact Nat.ne_of_lt (blk_lt (pk BK281.out)) : gb281 ≠ gb303)); have NB303_281 := am ((by rw [hg]; exact Nat.ne_of_gt (blk_lt (pk BK281.out)) : gb303 ≠ gb281)); replace BK281 := am (blk_below (pk BK281.out) hb); have NB297_303 := am ((by rw [hg]; exact Nat.ne_of_lt (blk_lt (pk BK297.out)) : gb297 ≠ gb303)); have NB303_297 := am ((by rw [hg]; exact Nat.ne_of_gt (blk_lt (pk BK297.out)) : gb303 ≠ gb297)); replace BK297 := am (blk_below (pk BK297.out) hb); clear hb hbox hg; obtain ⟨Ao30, co30, eo30⟩ := Kd.R_slice HO300.out; subst eo30; have hnb31 := NB303_281.out; have hnc31 := NB281_303.out; have hnb32 := NB303_297.out; have hnc32 := NB297_303.out; have hcz33_0 : w29.cell? ⟨gb303, 0, none⟩ = some (.slice none 0 0) := bc BK303.out 0; have hcz33_1 : w29.cell? ⟨gb303, 1, none⟩ = some (.int .i64 0) := bc BK303.out 1; have hcz33_2 : w29.cell? ⟨gb303, 2, none⟩ = some (.int .i64 0) := bc BK303.out 2; have hfz33_0 := blk_frozen BK303.out 0; have hfz33_1 := blk_frozen BK303.out 1; have hfz33_2 := blk_frozen BK303.out 2) | ((with_reducible refine gate_callee (f := 24) rfl ?_); refine gl (some 30) Try.func24 #[.agg #[.slice Ao30 t298.length co30, .int .i64 t301, .int .i64 t302], .int .i64 a1, .int .i64 a2] ?_; (with_reducible refine (impl_BufDelete.calls k _ _ t298 t301 t302 a1 a2 t304 t307 t308 t309 t312 _ ?side1 ?side2 A12.out).mono ?_); (case side1 => refine (Kd.R_reads' (e := 2) (base := w.heap.size) (ok := fun k_ => (((True ∧ some k_ ≠ (.slice Ao20 t283.length co20 : Value).ownBlock) ∧ some k_ ≠ (.slice Ao23 t288.length co23 : Value).ownBlock) ∧ some k_ ≠ (.slice Ao26 t293.length co26 : Value).ownBlock)) (n := t298.length) (c := co30) ?_).2.2; exact (kr ((Kd.R_mono (Kd.R_far (p := ⟨gb303, 2, none⟩) (Kd.R_far (p := ⟨gb303, 1, none⟩) (Kd.R_far (p := ⟨gb303, 0, none⟩) (Kd.R_types HO300.out BK303.out (by decide)) (fun _ hk => hk.2) (.slice Ao30 t298.length co30)) (fun _ hk => hk.2) (.int .i64 t301)) (fun _ hk => hk.2) (.int .i64 t302)) (fun _ h_ => h_.1))))); (case side2 => exact (Kd.R_reads' HO300.out).2.1); rintro e w34 ⟨v305, v310, rfl, ho0, ho1, hb⟩; refine ⟨_, rfl, ?_⟩; have HO306 := am (Kd.R_lower (Kd.R_new' (Kd.R_new' (Kd.R_new' (Kd.R_new' ho0 (Kd.R_lt (kr ((Kd.R_mono (Kd.R_far (p := ⟨gb303, 2, none⟩) (Kd.R_far (p := ⟨gb303, 1, none⟩) (Kd.R_far (p := ⟨gb303, 0, none⟩) (Kd.R_types HO285.out BK303.out (by decide)) (fun _ hk => hk.2) (.slice Ao30 t298.length co30)) (fun _ hk => hk.2) (.int .i64 t301)) (fun _ hk => hk.2) (.int .i64 t302)) (fun _ h_ => h_.1)))))) (Kd.R_lt (kr ((Kd.R_mono (Kd.R_far (p := ⟨gb303, 2, none⟩) (Kd.R_far (p := ⟨gb303, 1, none⟩) (Kd.R_far (p := ⟨gb303, 0, none⟩) (Kd.R_types HO290.out BK303.out (by decide)) (fun _ hk => hk.2) (.slice Ao30 t298.length co30)) (fun _ hk => hk.2) (.int .i64 t301)) (fun _ hk => hk.2) (.int .i64 t302)) (fun _ h_ => h_.1)))))) (Kd.R_lt (kr ((Kd.R_mono (Kd.R_far (p := ⟨gb303, 2, none⟩) (Kd.R_far (p := ⟨gb303, 1, none⟩) (Kd.R_far (p := ⟨gb303, 0, none⟩) (Kd.R_types HO295.out BK303.out (by decide)) (fun _ hk => hk.2) (.slice Ao30 t298.length co30)) (fun _ hk => hk.2) (.int .i64 t301)) (fun _ hk => hk.2) (.int .i64 t302)) (fun _ h_ => h_.1)))))) (Kd.R_lt (kr ((Kd.R_mono (Kd.R_far (p := ⟨gb303, 2, none⟩) (Kd.R_far (p := ⟨gb303, 1, none⟩) (Kd.R_far (p := ⟨gb303, 0, none⟩) (Kd.R_types HO300.out BK303.out (by decide)) (fun _ hk => hk.2) (.slice Ao30 t298.length co30)) (fun _ hk => hk.2) (.int .i64 t301)) (fun _ hk => hk.2) (.int .i64 t302)) (fun _ h_ => h_.1)))))) (below_size (bl HB.out))); have HO311 := am (Kd.R_lower (Kd.R_new' (Kd.R_new' (Kd.R_new' (Kd.R_new' ho1 (Kd.R_lt (kr ((Kd.R_mono (Kd.R_far (p := ⟨gb303, 2, none⟩) (Kd.R_far (p := ⟨gb303, 1, none⟩) (Kd.R_far (p := ⟨gb303, 0, none⟩) (Kd.R_types HO285.out BK303.out (by decide)) (fun _ hk => hk.2) (.slice Ao30 t298.length co30)) (fun _ hk => hk.2) (.int .i64 t301)) (fun _ hk => hk.2) (.int .i64 t302)) (fun _ h_ => h_.1)))))) (Kd.R_lt (kr ((Kd.R_mono (Kd.R_far (p := ⟨gb303, 2, none⟩) (Kd.R_far (p := ⟨gb303, 1, none⟩) (Kd.R_far (p := ⟨gb303, 0, none⟩) (Kd.R_types HO290.out BK303.out (by decide)) (fun _ hk => hk.2) (.slice Ao30 t298.length co30)) (fun _ hk => hk.2) (.int .i64 t301)) (fun _ hk => hk.2) (.int .i64 t302)) (fun _ h_ => h_.1)))))) (Kd.R_lt (kr ((Kd.R_mono (Kd.R_far (p := ⟨gb303, 2, none⟩) (Kd.R_far (p := ⟨gb303, 1, none⟩) (Kd.R_far (p := ⟨gb303, 0, none⟩) (Kd.R_types HO295.out BK303.out (by decide)) (fun _ hk => hk.2) (.slice Ao30 t298.length co30)) (fun _ hk => hk.2) (.int .i64 t301)) (fun _ hk => hk.2) (.int .i64 t302)) (fun _ h_ => h_.1)))))) (Kd.R_lt (kr ((Kd.R_mono (Kd.R_far (p := ⟨gb303, 2, none⟩) (Kd.R_far (p := ⟨gb303, 1, none⟩) (Kd.R_far (p := ⟨gb303, 0, none⟩) (Kd.R_types HO300.out BK303.out (by decide)) (fun _ hk => hk.2) (.slice Ao30 t298.length co30)) (fun _ hk => hk.2) (.int .i64 t301)) (fun _ hk => hk.2) (.int .i64 t302)) (fun _ h_ => h_.1)))))) (below_size (bl HB.out))); replace HO285 := am (Kd.R_mono (Kd.R_told (Kd.R_told (Kd.R_old (kr ((Kd.R_mono (Kd.R_far (p := ⟨gb303, 2, none⟩) (Kd.R_far (p := ⟨gb303, 1, none⟩) (Kd.R_far (p := ⟨gb303, 0, none⟩) (Kd.R_types HO285.out BK303.out (by decide)) (fun _ hk => hk.2) (.slice Ao30 t298.length co30)) (fun _ hk => hk.2) (.int .i64 t301)) (fun _ hk => hk.2) (.int .i64 t302)) (fun _ h_ => h_.1)))) hb) (Kd.R_base ho0)) (Kd.R_base ho1)) (fun _ h_ => h_.1)); replace HO290 := am (Kd.R_mono (Kd.R_told (Kd.R_told (Kd.R_old (kr ((Kd.R_mono (Kd.R_far (p := ⟨gb303, 2, none⟩) (Kd.R_far (p := ⟨gb303, 1, none⟩) (Kd.R_far (p := ⟨gb303, 0, none⟩) (Kd.R_types HO290.out BK303.out (by decide)) (fun _ hk => hk.2) (.slice Ao30 t298.length co30)) (fun _ hk => hk.2) (.int .i64 t301)) (fun _ hk => hk.2) (.int .i64 t302)) (fun _ h_ => h_.1)))) hb) (Kd.R_base ho0)) (Kd.R_base ho1)) (fun _ h_ => h_.1)); replace HO295 := am (Kd.R_mono (Kd.R_told (Kd.R_told (Kd.R_old (kr ((Kd.R_mono (Kd.R_far (p := ⟨gb303, 2, none⟩) (Kd.R_far (p := ⟨gb303, 1, none⟩) (Kd.R_far (p := ⟨gb303, 0, none⟩) (Kd.R_types HO295.out BK303.out (by decide)) (fun _ hk => hk.2) (.slice Ao30 t298.length co30)) (fun _ hk => hk.2) (.int .i64 t301)) (fun _ hk => hk.2) (.int .i64 t302)) (fun _ h_ => h_.1)))) hb) (Kd.R_base ho0)) (Kd.R_base ho1)) (fun _ h_ => h_.1)); replace HO300 := am (Kd.R_mono (Kd.R_told (Kd.R_told (Kd.R_old (kr ((Kd.R_mono (Kd.R_far (p := ⟨gb303, 2, none⟩) (Kd.R_far (p := ⟨gb303, 1, none⟩) (Kd.R_far (p := ⟨gb303, 0, none⟩) (Kd.R_types HO300.out BK303.out (by decide)) (fun _ hk => hk.2) (.slice Ao30 t298.length co30)) (fun _ hk => hk.2) (.int .i64 t301)) (fun _ hk => hk.2) (.int .i64 t302)) (fun _ h_ => h_.1)))) hb) (Kd.R_base ho0)) (Kd.R_base ho1)) (fun _ h_ => h_.1)); replace BK281 := am (blk_below (g := gb281) (o := .cells #[.slice A0_0 l0_0.length c0_0, .int .i64 a0_1, .int .i64 a0_2] 24 (0, 0)) (by (with_reducible repeat (first | refine blk_drewN ?_ _ | refine blk_drew ?_ | refine blk_alloc ?_ _)); refine blk_far ?_ NB281_303.out _; (with_reducible repeat (first | refine blk_drewN ?_ _ | refine blk_drew ?_ | refine blk_alloc ?_ _)); refine blk_far ?_ NB281_303.out _; (with_reducible repeat (first | refine blk_drewN ?_ _ | refine blk_drew ?_ | refine blk_alloc ?_ _)); refine blk_far ?_ NB281_303.out _; (with_reducible repeat (first | refine blk_drewN ?_ _ | refine blk_drew ?_ | refine blk_alloc ?_ _)); exact BK281.out) hb); replace BK297 := am (blk_below (g := gb297) (o := .cells #[.slice Ao23 t288.length co23, .int .i64 t291, .int .i64 t292, .slice Ao26 t293.length co26, .int .i64 t296] 28 (0, 0)) (by (with_reducible repeat (first | refine blk_drewN ?_ _ | refine blk_drew ?_ | refine blk_alloc ?_ _)); refine blk_far ?_ NB297_303.out _; (with_reducible repeat (first | refine blk_drewN ?_ _ | refine blk_drew ?_ | refine blk_alloc ?_ _)); refine blk_far ?_ NB297_303.out _; (with_reducible repeat (first | refine blk_drewN ?_ _ | refine blk_drew ?_ | refine blk_alloc ?_ _)); refine blk_far ?_ NB297_303.out _; (with_reducible repeat (first | refine blk_drewN ?_ _ | refine blk_drew ?_ | refine blk_alloc ?_ _)); exact BK297.out) hb); replace BK303 := am (blk_below (g := gb303) (o := .cells #[.slice Ao30 t298.length co30, .int .i64 t301, .int .i64 t302] 26 (0, 0)) (by (with_reducible repeat (first | refine blk_drewN ?_ _ | refine blk_drew ?_ | refine blk_alloc ?_ _)); refine blk_put (cs := #[.slice Ao30 t298.length co30, .int .i64 t301, .int .i64 0]) ?_ 2 _ rfl; (with_reducible repeat (first | refine blk_drewN ?_ _ | refine blk_drew ?_ | refine blk_alloc ?_ _)); refine blk_put (cs := #[.slice Ao30 t298.length co30, .int .i64 0, .int .i64 0]) ?_ 1 _ rfl; (with_reducible repeat (first | refine blk_drewN ?_ _ | refine blk_drew ?_ | refine blk_alloc ?_ _)); refine blk_put (cs := #[.slice none 0 0, .int .i64 0, .int .i64 0]) ?_ 0 _ rfl; (with_reducible repeat (first | refine blk_drewN ?_ _ | refine blk_drew ?_ | refine blk_alloc ?_ _)); exact BK303.out) hb); replace HB := am (below_step (bl HB.out) hb); (try clear hb); (try clear hb2); (try clear hk); (try clear hi); (try clear ho0); (try clear ho1)) | ((with_reducible refine gate_dst (N := 10) rfl ?_); refine box_event ?hg (N := 10) ?hd (cs := #[.slice none 0 0, .int .i64 0, .int .i64 0, .slice none 0 0, .int .i64 0]) (t := 28) ?hr ?_; (case hd => rfl); (case hg => rfl); (case hr => first | (go_simp; done) | (go_simp; rfl)); intro gb313 hg w35 hbox hb; replace HO285 := am (Kd.R_below (kr HO285.out) hb); replace HO290 := am (Kd.R_below (kr HO290.out) hb); replace HO295 := am (Kd.R_below (kr HO295.out) hb); replace HO300 := am (Kd.R_below (kr HO300.out) hb); replace HO306 := am (Kd.R_below (kr HO306.out) hb); replace HO311 := am (Kd.R_below (kr HO311.out) hb); have BK313 := am (hbox); have GW313 := am ((by rw [hg]; exact (below_size (bl HB.out)) : w.heap.size ≤ gb313)); have GE313 := GW313; replace HB := am (below_step (bl HB.out) hb); have NB281_313 := am ((by rw [hg]; exact Nat.ne_of_lt (blk_lt (pk BK281.out)) : gb281 ≠ gb313)); have NB313_281 := am ((by rw [hg]; exact Nat.ne_of_gt (blk_lt (pk BK281.out)) : gb313 ≠ gb281)); replace BK281 := am (blk_below (pk BK281.out) hb); have NB297_313 := am ((by rw [hg]; exact Nat.ne_of_lt (blk_lt (pk BK297.out)) : gb297 ≠ gb313)); have NB313_297 := am ((by rw [hg]; exact Nat.ne_of_gt (blk_lt (pk BK297.out)) : gb313 ≠ gb297)); replace BK297 := am (blk_below (pk BK297.out) hb); have NB303_313 := am ((by rw [hg]; exact Nat.ne_of_lt (blk_lt (pk BK303.out)) : gb303 ≠ gb313)); have NB313_303 := am ((by rw [hg]; exact Nat.ne_of_gt (blk_lt (pk BK303.out)) : gb313 ≠ gb303)); replace BK303 := am (blk_below (pk BK303.out) hb); clear hb hbox hg; obtain ⟨Ao36, co36, eo36⟩ := Kd.R_slice HO306.out; subst eo36; have hnb37 := NB313_281.out; have hnc37 := NB281_313.out; have hnb38 := NB313_297.out; have hnc38 := NB297_313.out; have hnb39 := NB313_303.out; have hnc39 := NB303_313.out; have hcz40_0 : w35.cell? ⟨gb313, 0, none⟩ = some (.slice none 0 0) := bc BK313.out 0; have hcz40_1 : w35.cell? ⟨gb313, 1, none⟩ = some (.int .i64 0) := bc BK313.out 1; have hcz40_2 : w35.cell? ⟨gb313, 2, none⟩ = some (.int .i64 0) := bc BK313.out 2; have hcz40_3 : w35.cell? ⟨gb313, 3, none⟩ = some (.slice none 0 0) := bc BK313.out 3; have hcz40_4 : w35.cell? ⟨gb313, 4, none⟩ = some (.int .i64 0) := bc BK313.out 4; have hfz40_0 := blk_frozen BK313.out 0; have hfz40_1 := blk_frozen BK313.out 1; have hfz40_2 := blk_frozen BK313.out 2; have hfz40_3 := blk_frozen BK313.out 3; have hfz40_4 := blk_frozen BK313.out 4; obtain ⟨Ao41, co41, eo41⟩ := Kd.R_slice HO311.out; subst eo41; have hcz42_0 : w35.cell? ⟨gb297, 0, none⟩ = some (.slice Ao23 t288.length co23) := bc BK297.out 0; have hcz42_1 : w35.cell? ⟨gb297, 1, none⟩ = some (.int .i64 t291) := bc BK297.out 1; have hcz42_2 : w35.cell? ⟨gb297, 2, none⟩ = some (.int .i64 t292) := bc BK297.out 2; have hcz42_3 : w35.cell? ⟨gb297, 3, none⟩ = some (.slice Ao26 t293.length co26) := bc BK297.out 3; have hcz42_4 : w35.cell? ⟨gb297, 4, none⟩ = some (.int .i64 t296) := bc BK297.out 4; have hfz42_0 := blk_frozen BK297.out 0; have hfz42_1 := blk_frozen BK297.out 1; have hfz42_2 := blk_frozen BK297.out 2; have hfz42_3 := blk_frozen BK297.out 3; have hfz42_4 := blk_frozen BK297.out 4) | ((with_reducible refine gate_callee (f := 14) rfl ?_); refine gl (some 33) Try.func14 #[.agg #[.slice Ao36 t304.length co36, .int .i64 t307, .int .i64 t308, .slice Ao41 t309.length co41, .int .i64 t312], .agg #[.slice Ao23 t288.length co23, .int .i64 t291, .int .i64 t292, .slice Ao26 t293.length co26, .int .i64 t296]] ?_; (with_reducible refine (laws_eqBufOut.calls k _ _ t304 t307 t308 _ _ t309 t312 _ _ t288 t291 t292 _ _ t293 t296 t314 _ ?side1 ?side2 ?side3 ?side4 ?side5 ?side6 ?side7 ?side8 A13.out).mono ?_); (case side1 => refine (Kd.R_reads' (e := 2) (base := w.heap.size) (ok := fun k_ => ((((some k_ ≠ (.slice Ao41 t309.length co41 : Value).ownBlock ∧ some k_ ≠ (.slice Ao20 t283.length co20 : Value).ownBlock) ∧ some k_ ≠ (.slice Ao23 t288.length co23 : Value).ownBlock) ∧ some k_ ≠ (.slice Ao26 t293.length co26 : Value).ownBlock) ∧ some k_ ≠ (.slice Ao30 t298.length co30 : Value).ownBlock)) (n := t304.length) (c := co36) ?_).2.2; exact (kr ((Kd.R_mono (Kd.R_far (p := ⟨gb313, 4, none⟩) (Kd.R_far (p := ⟨gb313, 3, none⟩) (Kd.R_far (p := ⟨gb313, 2, none⟩) (Kd.R_far (p := ⟨gb313, 1, none⟩) (Kd.R_far (p := ⟨gb313, 0, none⟩) (Kd.R_types HO306.out BK313.out (by decide)) (fun _ hk => hk.2) (.slice Ao36 t304.length co36)) (fun _ hk => hk.2) (.int .i64 t307)) (fun _ hk => hk.2) (.int .i64 t308)) (fun _ hk => hk.2) (.slice Ao41 t309.length co41)) (fun _ hk => hk.2) (.int .i64 t312)) (fun _ h_ => h_.1))))); (case side2 => exact (Kd.R_reads' HO306.out).2.1); (case side3 => refine (Kd.R_reads' (e := 2) (base := w.heap.size) (ok := fun k_ => ((((some k_ ≠ (.slice Ao36 t304.length co36 : Value).ownBlock ∧ some k_ ≠ (.slice Ao20 t283.length co20 : Value).ownBlock) ∧ some k_ ≠ (.slice Ao23 t288.length co23 : Value).ownBlock) ∧ some k_ ≠ (.slice Ao26 t293.length co26 : Value).ownBlock) ∧ some k_ ≠ (.slice Ao30 t298.length co30 : Value).ownBlock)) (n := t309.length) (c := co41) ?_).2.2; exact (kr ((Kd.R_mono (Kd.R_far (p := ⟨gb313, 4, none⟩) (Kd.R_far (p := ⟨gb313, 3, none⟩) (Kd.R_far (p := ⟨gb313, 2, none⟩) (Kd.R_far (p := ⟨gb313, 1, none⟩) (Kd.R_far (p := ⟨gb313, 0, none⟩) (Kd.R_types HO311.out BK313.out (by decide)) (fun _ hk => hk.2) (.slice Ao36 t304.length co36)) (fun _ hk => hk.2) (.int .i64 t307)) (fun _ hk => hk.2) (.int .i64 t308)) (fun _ hk => hk.2) (.slice Ao41 t309.length co41)) (fun _ hk => hk.2) (.int .i64 t312)) (fun _ h_ => h_.1))))); (case side4 => exact (Kd.R_reads' HO311.out).2.1); (case side5 => refine (Kd.R_reads' (e := 2) (base := w.heap.size) (ok := fun k_ => ((((some k_ ≠ (.slice Ao26 t293.length co26 : Value).ownBlock ∧ some k_ ≠ (.slice Ao20 t283.length co20 : Value).ownBlock) ∧ some k_ ≠ (.slice Ao30 t298.length co30 : Value).ownBlock) ∧ some k_ ≠ (.slice Ao36 t304.length co36 : Value).ownBlock) ∧ some k_ ≠ (.slice Ao41 t309.length co41 : Value).ownBlock)) (n := t288.length) (c := co23) ?_).2.2; exact (kr ((Kd.R_mono (Kd.R_far (p := ⟨gb313, 4, none⟩) (Kd.R_far (p := ⟨gb313, 3, none⟩) (Kd.R_far (p := ⟨gb313, 2, none⟩) (Kd.R_far (p := ⟨gb313, 1, none⟩) (Kd.R_far (p := ⟨gb313, 0, none⟩) (Kd.R_types HO290.out BK313.out (by decide)) (fun _ hk => hk.2) (.slice Ao36 t304.length co36)) (fun _ hk => hk.2) (.int .i64 t307)) (fun _ hk => hk.2) (.int .i64 t308)) (fun _ hk => hk.2) (.slice Ao41 t309.length co41)) (fun _ hk => hk.2) (.int .i64 t312)) (fun _ h_ => h_.1))))); (case side6 => exact (Kd.R_reads' HO290.out).2.1); (case side7 => refine (Kd.R_reads' (e := 2) (base := w.heap.size) (ok := fun k_ => ((((some k_ ≠ (.slice Ao23 t288.length co23 : Value).ownBlock ∧ some k_ ≠ (.slice Ao20 t283.length co20 : Value).ownBlock) ∧ some k_ ≠ (.slice Ao30 t298.length co30 : Value).ownBlock) ∧ some k_ ≠ (.slice Ao36 t304.length co36 : Value).ownBlock) ∧ some k_ ≠ (.slice Ao41 t309.length co41 : Value).ownBlock)) (n := t293.length) (c := co26) ?_).2.2; exact (kr ((Kd.R_mono (Kd.R_far (p := ⟨gb313, 4, none⟩) (Kd.R_far (p := ⟨gb313, 3, none⟩) (Kd.R_far (p := ⟨gb313, 2, none⟩) (Kd.R_far (p := ⟨gb313, 1, none⟩) (Kd.R_far (p := ⟨gb313, 0, none⟩) (Kd.R_types HO295.out BK313.out (by decide)) (fun _ hk => hk.2) (.slice Ao36 t304.length co36)) (fun _ hk => hk.2) (.int .i64 t307)) (fun _ hk => hk.2) (.int .i64 t308)) (fun _ hk => hk.2) (.slice Ao41 t309.length co41)) (fun _ hk => hk.2) (.int .i64 t312)) (fun _ h_ => h_.1))))); (case side8 => exact (Kd.R_reads' HO295.out).2.1); rintro e w43 ⟨rfl, hb⟩; refine ⟨_, rfl, ?_⟩; replace HO285 := am (Kd.R_below (kr ((Kd.R_mono (Kd.R_far (p := ⟨gb313, 4, none⟩) (Kd.R_far (p := ⟨gb313, 3, none⟩) (Kd.R_far (p := ⟨gb313, 2, none⟩) (Kd.R_far (p := ⟨gb313, 1, none⟩) (Kd.R_far (p := ⟨gb313, 0, none⟩) (Kd.R_types HO285.out BK313.out (by decide)) (fun _ hk => hk.2) (.slice Ao36 t304.length co36)) (fun _ hk => hk.2) (.int .i64 t307)) (fun _ hk => hk.2) (.int .i64 t308)) (fun _ hk => hk.2) (.slice Ao41 t309.length co41)) (fun _ hk => hk.2) (.int .i64 t312)) (fun _ h_ => h_.1)))) hb); replace HO290 := am (Kd.R_below (kr ((Kd.R_mono (Kd.R_far (p := ⟨gb313, 4, none⟩) (Kd.R_far (p := ⟨gb313, 3, none⟩) (Kd.R_far (p := ⟨gb313, 2, none⟩) (Kd.R_far (p := ⟨gb313, 1, none⟩) (Kd.R_far (p := ⟨gb313, 0, none⟩) (Kd.R_types HO290.out BK313.out (by decide)) (fun _ hk => hk.2) (.slice Ao36 t304.length co36)) (fun _ hk => hk.2) (.int .i64 t307)) (fun _ hk => hk.2) (.int .i64 t308)) (fun _ hk => hk.2) (.slice Ao41 t309.length co41)) (fun _ hk => hk.2) (.int .i64 t312)) (fun _ h_ => h_.1)))) hb); replace HO295 := am (Kd.R_below (kr ((Kd.R_mono (Kd.R_far (p := ⟨gb313, 4, none⟩) (Kd.R_far (p := ⟨gb313, 3, none⟩) (Kd.R_far (p := ⟨gb313, 2, none⟩) (Kd.R_far (p := ⟨gb313, 1, none⟩) (Kd.R_far (p := ⟨gb313, 0, none⟩) (Kd.R_types HO295.out BK313.out (by decide)) (fun _ hk => hk.2) (.slice Ao36 t304.length co36)) (fun _ hk => hk.2) (.int .i64 t307)) (fun _ hk => hk.2) (.int .i64 t308)) (fun _ hk => hk.2) (.slice Ao41 t309.length co41)) (fun _ hk => hk.2) (.int .i64 t312)) (fun _ h_ => h_.1)))) hb); replace HO300 := am (Kd.R_below (kr ((Kd.R_mono (Kd.R_far (p := ⟨gb313, 4, none⟩) (Kd.R_far (p := ⟨gb313, 3, none⟩) (Kd.R_far (p := ⟨gb313, 2, none⟩) (Kd.R_far (p := ⟨gb313, 1, none⟩) (Kd.R_far (p := ⟨gb313, 0, none⟩) (Kd.R_types HO300.out BK313.out (by decide)) (fun _ hk => hk.2) (.slice Ao36 t304.length co36)) (fun _ hk => hk.2) (.int .i64 t307)) (fun _ hk => hk.2) (.int .i64 t308)) (fun _ hk => hk.2) (.slice Ao41 t309.length co41)) (fun _ hk => hk.2) (.int .i64 t312)) (fun _ h_ => h_.1)))) hb); replace HO306 := am (Kd.R_below (kr ((Kd.R_mono (Kd.R_far (p := ⟨gb313, 4, none⟩) (Kd.R_far (p := ⟨gb313, 3, none⟩) (Kd.R_far (p := ⟨gb313, 2, none⟩) (Kd.R_far (p := ⟨gb313, 1, none⟩) (Kd.R_far (p := ⟨gb313, 0, none⟩) (Kd.R_types HO306.out BK313.out (by decide)) (fun _ hk => hk.2) (.slice Ao36 t304.length co36)) (fun _ hk => hk.2) (.int .i64 t307)) (fun _ hk => hk.2) (.int .i64 t308)) (fun _ hk => hk.2) (.slice Ao41 t309.length co41)) (fun _ hk => hk.2) (.int .i64 t312)) (fun _ h_ => h_.1)))) hb); replace HO311 := am (Kd.R_below (kr ((Kd.R_mono (Kd.R_far (p := ⟨gb313, 4, none⟩) (Kd.R_far (p := ⟨gb313, 3, none⟩) (Kd.R_far (p := ⟨gb313, 2, none⟩) (Kd.R_far (p := ⟨gb313, 1, none⟩) (Kd.R_far (p := ⟨gb313, 0, none⟩) (Kd.R_types HO311.out BK313.out (by decide)) (fun _ hk => hk.2) (.slice Ao36 t304.length co36)) (fun _ hk => hk.2) (.int .i64 t307)) (fun _ hk => hk.2) (.int .i64 t308)) (fun _ hk => hk.2) (.slice Ao41 t309.length co41)) (fun _ hk => hk.2) (.int .i64 t312)) (fun _ h_ => h_.1)))) hb); replace BK281 := am (blk_below (g := gb281) (o := .cells #[.slice A0_0 l0_0.length c0_0, .int .i64 a0_1, .int .i64 a0_2] 24 (0, 0)) (by (with_reducible repeat (first | refine blk_drewN ?_ _ | refine blk_drew ?_ | refine blk_alloc ?_ _)); refine blk_far ?_ NB281_313.out _; (with_reducible repeat (first | refine blk_drewN ?_ _ | refine blk_drew ?_ | refine blk_alloc ?_ _)); refine blk_far ?_ NB281_313.out _; (with_reducible repeat (first | refine blk_drewN ?_ _ | refine blk_drew ?_ | refine blk_alloc ?_ _)); refine blk_far ?_ NB281_313.out _; (with_reducible repeat (first | refine blk_drewN ?_ _ | refine blk_drew ?_ | refine blk_alloc ?_ _)); refine blk_far ?_ NB281_313.out _; (with_reducible repeat (first | refine blk_drewN ?_ _ | refine blk_drew ?_ | refine blk_alloc ?_ _)); refine blk_far ?_ NB281_313.out _; (with_reducible repeat (first | refine blk_drewN ?_ _ | refine blk_drew ?_ | refine blk_alloc ?_ _)); exact BK281.out) hb); replace BK297 := am (blk_below (g := gb297) (o := .cells #[.slice Ao23 t288.length co23, .int .i64 t291, .int .i64 t292, .slice Ao26 t293.length co26, .int .i64 t296] 28 (0, 0)) (by (with_reducible repeat (first | refine blk_drewN ?_ _ | refine blk_drew ?_ | refine blk_alloc ?_ _)); refine blk_far ?_ NB297_313.out _; (with_reducible repeat (first | refine blk_drewN ?_ _ | refine blk_drew ?_ | refine blk_alloc ?_ _)); refine blk_far ?_ NB297_313.out _; (with_reducible repeat (first | refine blk_drewN ?_ _ | refine blk_drew ?_ | refine blk_alloc ?_ _)); refine blk_far ?_ NB297_313.out _; (with_reducible repeat (first | refine blk_drewN ?_ _ | refine blk_drew ?_ | refine blk_alloc ?_ _)); refine blk_far ?_ NB297_313.out _; (with_reducible repeat (first | refine blk_drewN ?_ _ | refine blk_drew ?_ | refine blk_alloc ?_ _)); refine blk_far ?_ NB297_313.out _; (with_reducible repeat (first | refine blk_drewN ?_ _ | refine blk_drew ?_ | refine blk_alloc ?_ _)); exact BK297.out) hb); replace BK303 := am (blk_below (g := gb303) (o := .cells #[.slice Ao30 t298.length co30, .int .i64 t301, .int .i64 t302] 26 (0, 0)) (by (with_reducible repeat (first | refine blk_drewN ?_ _ | refine blk_drew ?_ | refine blk_alloc ?_ _)); refine blk_far ?_ NB303_313.out _; (with_reducible repeat (first | refine blk_drewN ?_ _ | refine blk_drew ?_ | refine blk_alloc ?_ _)); refine blk_far ?_ NB303_313.out _; (with_reducible repeat (first | refine blk_drewN ?_ _ | refine blk_drew ?_ | refine blk_alloc ?_ _)); refine blk_far ?_ NB303_313.out _; (with_reducible repeat (first | refine blk_drewN ?_ _ | refine blk_drew ?_ | refine blk_alloc ?_ _)); refine blk_far ?_ NB303_313.out _; (with_reducible repeat (first | refine blk_drewN ?_ _ | refine blk_drew ?_ | refine blk_alloc ?_ _)); refine blk_far ?_ NB303_313.out _; (with_reducible repeat (first | refine blk_drewN ?_ _ | refine blk_drew ?_ | refine blk_alloc ?_ _)); exact BK303.out) hb); replace BK313 := am (blk_below (g := gb313) (o := .cells #[.slice Ao36 t304.length co36, .int .i64 t307, .int .i64 t308, .slice Ao41 t309.length co41, .int .i64 t312] 28 (0, 0)) (by (with_reducible repeat (first | refine blk_drewN ?_ _ | refine blk_drew ?_ | refine blk_alloc ?_ _)); refine blk_put (cs := #[.slice Ao36 t304.length co36, .int .i64 t307, .int .i64 t308, .slice Ao41 t309.length co41, .int .i64 0]) ?_ 4 _ rfl; (with_reducible repeat (first | refine blk_drewN ?_ _ | refine blk_drew ?_ | refine blk_alloc ?_ _)); refine blk_put (cs := #[.slice Ao36 t304.length co36, .int .i64 t307, .int .i64 t308, .slice none 0 0, .int .i64 0]) ?_ 3 _ rfl; (with_reducible repeat (first | refine blk_drewN ?_ _ | refine blk_drew ?_ | refine blk_alloc ?_ _)); refine blk_put (cs := #[.slice Ao36 t304.length co36, .int .i64 t307, .int .i64 0, .slice none 0 0, .int .i64 0]) ?_ 2 _ rfl; (with_reducible repeat (first | refine blk_drewN ?_ _ | refine blk_drew ?_ | refine blk_alloc ?_ _)); refine blk_put (cs := #[.slice Ao36 t304.length co36, .int .i64 0, .int .i64 0, .slice none 0 0, .int .i64 0]) ?_ 1 _ rfl; (with_reducible repeat (first | refine blk_drewN ?_ _ | refine blk_drew ?_ | refine blk_alloc ?_ _)); refine blk_put (cs := #[.slice none 0 0, .int .i64 0, .int .i64 0, .slice none 0 0, .int .i64 0]) ?_ 0 _ rfl; (with_reducible repeat (first | refine blk_drewN ?_ _ | refine blk_drew ?_ | refine blk_alloc ?_ _)); exact BK313.out) hb); replace HB := am (below_step (bl HB.out) hb); (try clear hb); (try clear hb2); (try clear hk); (try clear hi)))
  (try simp only [Act.put, sa_, s0_, ss_])
  go_cut [] (fun wc => ∃ (kq : Nat), Aside0 (laws_FnExactBufDelete.j0 kq a1 a2 l0_0 a0_1 a0_2 t288 t291 t292 t293 t296 t298 t301 t302 t304 t307 t308 t309 t312 = some r) ∧ Aside0 (kq ≤ k) ∧ Aside0 (Kd.R (Kd.int .i64) 2 wc w.heap.size (fun k_ => some k_ ≠ ((.slice Ao26 t293.length co26) : Value).ownBlock ∧ some k_ ≠ ((.slice Ao30 t298.length co30) : Value).ownBlock ∧ some k_ ≠ ((.slice Ao36 t304.length co36) : Value).ownBlock ∧ some k_ ≠ ((.slice Ao41 t309.length co41) : Value).ownBlock) (.slice Ao23 t288.length co23) t288) ∧ Aside0 (Kd.R (Kd.int .i64) 2 wc w.heap.size (fun k_ => some k_ ≠ ((.slice Ao23 t288.length co23) : Value).ownBlock ∧ some k_ ≠ ((.slice Ao30 t298.length co30) : Value).ownBlock ∧ some k_ ≠ ((.slice Ao36 t304.length co36) : Value).ownBlock ∧ some k_ ≠ ((.slice Ao41 t309.length co41) : Value).ownBlock) (.slice Ao26 t293.length co26) t293) ∧ Aside0 (Kd.R (Kd.int .i64) 2 wc w.heap.size (fun k_ => some k_ ≠ ((.slice Ao23 t288.length co23) : Value).ownBlock ∧ some k_ ≠ ((.slice Ao26 t293.length co26) : Value).ownBlock ∧ some k_ ≠ ((.slice Ao36 t304.length co36) : Value).ownBlock ∧ some k_ ≠ ((.slice Ao41 t309.length co41) : Value).ownBlock) (.slice Ao30 t298.length co30) t298) ∧ Aside0 (Kd.R (Kd.int .i64) 2 wc w.heap.size (fun k_ => some k_ ≠ ((.slice Ao23 t288.length co23) : Value).ownBlock ∧ some k_ ≠ ((.slice Ao26 t293.length co26) : Value).ownBlock ∧ some k_ ≠ ((.slice Ao30 t298.length co30) : Value).ownBlock ∧ some k_ ≠ ((.slice Ao41 t309.length co41) : Value).ownBlock) (.slice Ao36 t304.length co36) t304) ∧ Aside0 (Kd.R (Kd.int .i64) 2 wc w.heap.size (fun k_ => some k_ ≠ ((.slice Ao23 t288.length co23) : Value).ownBlock ∧ some k_ ≠ ((.slice Ao26 t293.length co26) : Value).ownBlock ∧ some k_ ≠ ((.slice Ao30 t298.length co30) : Value).ownBlock ∧ some k_ ≠ ((.slice Ao36 t304.length co36) : Value).ownBlock) (.slice Ao41 t309.length co41) t309) ∧ Aside0 (wc.heap[gb281]? = some (.cells #[(.slice A0_0 l0_0.length c0_0), .int .i64 a0_1, .int .i64 a0_2] 24 (0, 0))) ∧ Aside0 (wc.heap[gb297]? = some (.cells #[(.slice Ao23 t288.length co23), .int .i64 t291, .int .i64 t292, (.slice Ao26 t293.length co26), .int .i64 t296] 28 (0, 0))) ∧ Aside0 (wc.heap[gb303]? = some (.cells #[(.slice Ao30 t298.length co30), .int .i64 t301, .int .i64 t302] 26 (0, 0))) ∧ Aside0 (wc.heap[gb313]? = some (.cells #[(.slice Ao36 t304.length co36), .int .i64 t307, .int .i64 t308, (.slice Ao41 t309.length co41), .int .i64 t312] 28 (0, 0))) ∧ Aside0 (Below w.heap.size w wc))
  case first =>
   have H := HC14.out
   clear HC14
   by_cases c44 : t314 = true
   ·subst c44
    have H1 : (laws_FnExactBufDelete.j0 k a1 a2 l0_0 a0_1 a0_2 t288 t291 t292 t293 t296 t298 t301 t302 t304 t307 t308 t309 t312) = some r := by rw [if_pos rfl] at H; exact H
    clear H
    have H := H1
    clear H1
    have H' := Aside0.mk H
    clear H
    go_wp2
    go_meet
    case rel => exact ⟨_, H', ⟨by first | omega | exact Nat.le_refl _⟩, ⟨kr (Kd.R_mono HO290.out (fun _ hk => ⟨hk.1.1.1.1, ⟨hk.1.1.2, ⟨hk.1.2, hk.2⟩⟩⟩))⟩, ⟨kr (Kd.R_mono HO295.out (fun _ hk => ⟨hk.1.1.1.1, ⟨hk.1.1.2, ⟨hk.1.2, hk.2⟩⟩⟩))⟩, ⟨kr (Kd.R_mono HO300.out (fun _ hk => ⟨hk.1.1.1.2, ⟨hk.1.1.2, ⟨hk.1.2, hk.2⟩⟩⟩))⟩, ⟨kr (Kd.R_mono HO306.out (fun _ hk => ⟨hk.1.1.2, ⟨hk.1.2, ⟨hk.2, hk.1.1.1.1⟩⟩⟩))⟩, ⟨kr (Kd.R_mono HO311.out (fun _ hk => ⟨hk.1.1.2, ⟨hk.1.2, ⟨hk.2, hk.1.1.1.1⟩⟩⟩))⟩, ⟨pk BK281.out⟩, ⟨pk BK297.out⟩, ⟨pk BK303.out⟩, ⟨pk BK313.out⟩, ⟨by repeat (first | (with_reducible first | exact HB.out | apply below_alloc | apply pw_below_drewN | apply below_drew1 | refine below_set ?_ GE281.out | refine below_set ?_ GE297.out | refine below_set ?_ GE303.out | refine below_set ?_ GE313.out) | exact HB.out)⟩⟩
   ·replace c44 := Bool.eq_false_iff.mpr c44
    subst c44
    have H1 : (some false) = some r := by rw [if_neg (show ¬ (false = true) by decide)] at H; exact H
    clear H
    have H := H1
    clear H1
    obtain rfl := Option.some.inj H
    go_wp2
    go_ret
    exact ⟨by first | rfl | (simp [errW_none, errW_some] <;> rfl) | (simp [*, errW_none, errW_some] <;> rfl), by repeat (first | (with_reducible first | exact HB.out | apply below_alloc | apply pw_below_drewN | apply below_drew1 | refine below_set ?_ GE281.out | refine below_set ?_ GE297.out | refine below_set ?_ GE303.out | refine below_set ?_ GE313.out) | exact HB.out)⟩
  case rest =>
   clear HC14
   try clear c1
   try clear c2
   try clear p2
   try clear c3
   try clear c4
   try clear c5
   try clear c5b0
   try clear c9
   try clear c11
   try clear c14
   try clear c23
   try clear c24
   try clear c31
   try clear c32
   try clear c37
   try clear c38
   try clear c39
   try clear c44
   try clear hcz16_0
   try clear hcz16_1
   try clear hcz16_2
   try clear hcz18_0
   try clear hcz18_1
   try clear hcz18_2
   try clear hcz25_0
   try clear hcz25_1
   try clear hcz25_2
   try clear hcz25_3
   try clear hcz25_4
   try clear hcz27_0
   try clear hcz27_1
   try clear hcz27_2
   try clear hcz33_0
   try clear hcz33_1
   try clear hcz33_2
   try clear hcz40_0
   try clear hcz40_1
   try clear hcz40_2
   try clear hcz40_3
   try clear hcz40_4
   try clear hcz42_0
   try clear hcz42_1
   try clear hcz42_2
   try clear hcz42_3
   try clear hcz42_4
   try clear hcz7_0
   try clear hcz7_1
   try clear hcz7_2
   try clear hfz16_0
   try clear hfz16_1
   try clear hfz16_2
   try clear hfz18_0
   try clear hfz18_1
   try clear hfz18_2
   try clear hfz25_0
   try clear hfz25_1
   try clear hfz25_2
   try clear hfz25_3
   try clear hfz25_4
   try clear hfz27_0
   try clear hfz27_1
   try clear hfz27_2
   try clear hfz33_0
   try clear hfz33_1
   try clear hfz33_2
   try clear hfz40_0
   try clear hfz40_1
   try clear hfz40_2
   try clear hfz40_3
   try clear hfz40_4
   try clear hfz42_0
   try clear hfz42_1
   try clear hfz42_2
   try clear hfz42_3
   try clear hfz42_4
   try clear hfz7_0
   try clear hfz7_1
   try clear hfz7_2
   obtain ⟨kq, HA, HJ13, HO_298000, HO_298003, HO_304000, HO_314000, HO_314003, BK281, BK297, BK303, BK313, HB⟩ := hcut
   cases kq with
   | zero => exact absurd HA.out (by simp [laws_FnExactBufDelete.j0])
   | succ kj13 =>
    have H := HA.out
    clear HA
    simp only [laws_FnExactBufDelete.j0] at H
    replace H := Option.bind_eq_some_iff.mp H
    obtain ⟨⟨t315, t318, t319⟩, A450, H⟩ := H
    replace H : ((laws_eqBuf.f kj13 t298 t301 t302 t315 t318 t319).bind fun t320 => (if t320 = true then (laws_FnExactBufDelete.j1 kj13 a1 a2 l0_0 a0_1 a0_2 t288 t291 t292 t293 t296 t298 t301 t302 t304 t307 t308 t309 t312) else (some false))) = some r := H
    have A45 := Aside0.mk A450
    clear A450
    replace H := Option.bind_eq_some_iff.mp H
    obtain ⟨t320, A460, H⟩ := H
    replace H : (if t320 = true then (laws_FnExactBufDelete.j1 kj13 a1 a2 l0_0 a0_1 a0_2 t288 t291 t292 t293 t296 t298 t301 t302 t304 t307 t308 t309 t312) else (some false)) = some r := H
    have A46 := Aside0.mk A460
    clear A460
    have HC47 := Aside0.mk H
    clear H
    try go_wp2
    replace HO_298000 := am (Kd.R_drew HO_298000.out)
    replace HO_298003 := am (Kd.R_drew HO_298003.out)
    replace HO_304000 := am (Kd.R_drew HO_304000.out)
    replace HO_314000 := am (Kd.R_drew HO_314000.out)
    replace HO_314003 := am (Kd.R_drew HO_314003.out)
    replace BK281 := am (blk_drew BK281.out)
    replace BK297 := am (blk_drew BK297.out)
    replace BK303 := am (blk_drew BK303.out)
    replace BK313 := am (blk_drew BK313.out)
    replace HB := am (below_drew1 HB.out)
    refine start_ (n := 5) (S := fun w' => w'.cell? ⟨gb303, 0, none⟩ = some (.slice Ao30 t298.length co30) ∧ w'.cell? ⟨gb303, 1, none⟩ = some (.int .i64 t301) ∧ w'.cell? ⟨gb303, 2, none⟩ = some (.int .i64 t302) ∧ w'.cell? ⟨gb281, 0, none⟩ = some (.slice A0_0 l0_0.length c0_0) ∧ w'.cell? ⟨gb281, 1, none⟩ = some (.int .i64 a0_1) ∧ w'.cell? ⟨gb281, 2, none⟩ = some (.int .i64 a0_2)) (ds := []) #[false, false, false, false, false] (by kernel_rfl) rfl rfl ⟨bc BK303.out 0, bc BK303.out 1, bc BK303.out 2, bc BK281.out 0, bc BK281.out 1, bc BK281.out 2⟩ (fun hHeld => ?_)
    generalize wc.drew = w48 at HO_298000 HO_298003 HO_304000 HO_314000 HO_314003 BK281 BK297 BK303 BK313 HB hHeld ⊢
    refine take_ (i := 0) (N := some 35) (v := ?_) (a' := ?_) #[true, false, false, false, false] rfl rfl (by kernel_rfl) (fun _ _ _ h => h) (Or.inl ⟨by rfl, ?_⟩) hHeld ?_ ?_; rotate_left
    ·rintro w' ⟨s0, s1, s2, s3, s4, s5⟩; go_simp; with_reducible rfl
    rotate_left
    ·simp only [Act.put, sa_, s0_, ss_, i64_w, i32_w]; rfl
    refine take_ (i := 1) (N := some 36) (v := ?_) (a' := ?_) #[true, true, false, false, false] rfl rfl (by kernel_rfl) (fun _ _ _ h => h) (Or.inl ⟨by rfl, ?_⟩) hHeld ?_ ?_; rotate_left
    ·rintro w' ⟨s0, s1, s2, s3, s4, s5⟩; go_simp; with_reducible rfl
    rotate_left
    ·simp only [Act.put, sa_, s0_, ss_, i64_w, i32_w]; rfl
    refine one_ (i := 2) (N := some 37) #[true, true, true, false, false] rfl rfl (by kernel_rfl) (by decide) (fun K hK => ?_)
    refine goes_ Try.func11 (by kernel_rfl) rfl #[.agg #[.slice A0_0 l0_0.length c0_0, .int .i64 a0_1, .int .i64 a0_2]] (by rfl) rfl rfl (by (try simp only [List.map_toArray, List.map_cons, List.map_nil]); first | done | rfl | (simp only [List.length_drop, List.length_take]; rfl)) ?_
    with_reducible refine (laws_toBuf.calls kj13 _ _ l0_0 a0_1 a0_2 t315 t318 t319 _ ?side1 ?side2 A45.out).mono ?_
    (case side1 => repeat (first | exact (Kd.C_below HR0_0.out HB.out) | (with_reducible refine Kd.C_alloc ?_ _) | (with_reducible refine Kd.C_drewN ?_ _) | (with_reducible refine Kd.C_drew ?_)))
    (case side2 => exact HC0_0.out)
    rintro e w49 ⟨v316, rfl, ho0, hb⟩
    refine ⟨_, rfl, ?_⟩
    have HO317 := am (Kd.R_lower (Kd.R_new' (Kd.R_new' (Kd.R_new' (Kd.R_new' (Kd.R_new' ho0 (Kd.R_lt (kr HO_298000.out))) (Kd.R_lt (kr HO_298003.out))) (Kd.R_lt (kr HO_304000.out))) (Kd.R_lt (kr HO_314000.out))) (Kd.R_lt (kr HO_314003.out))) (below_size (bl HB.out)))
    replace HO_298000 := am (Kd.R_elder' (kr HO_298000.out) (Kd.R_base ho0) hb)
    replace HO_298003 := am (Kd.R_elder' (kr HO_298003.out) (Kd.R_base ho0) hb)
    replace HO_304000 := am (Kd.R_elder' (kr HO_304000.out) (Kd.R_base ho0) hb)
    replace HO_314000 := am (Kd.R_elder' (kr HO_314000.out) (Kd.R_base ho0) hb)
    replace HO_314003 := am (Kd.R_elder' (kr HO_314003.out) (Kd.R_base ho0) hb)
    replace BK281 := am (blk_below (pk BK281.out) hb)
    replace BK297 := am (blk_below (pk BK297.out) hb)
    replace BK303 := am (blk_below (pk BK303.out) hb)
    replace BK313 := am (blk_below (pk BK313.out) hb)
    replace HB := am (below_step (bl HB.out) hb)
    (try clear hb)
    (try clear hb2)
    (try clear hk)
    (try clear hi)
    (try clear ho0)
    obtain ⟨Ao50, co50, eo50⟩ := Kd.R_slice HO317.out
    (first | subst eo50 | (injection eo50 with f1_ f2_ f3_; have f4_ := f1_.symm; have f5_ := f3_.symm; clear f1_ f2_ f3_; subst f4_; subst f5_))
    refine hK.out _ _ ⟨bc BK303.out 0, bc BK303.out 1, bc BK303.out 2, bc BK281.out 0, bc BK281.out 1, bc BK281.out 2⟩ (fun hHeld => ?_)
    clear hK K
    refine norm_ (a' := ?_) ?_ ?_
    rotate_left
    ·show Act.put _ (some 37) _ = _
     simp only [Act.put, sa_, s0_, ss_, i64_w, i32_w]
     rfl
    refine one_ (i := 3) (N := some 38) #[true, true, true, true, false] rfl rfl (by kernel_rfl) (by decide) (fun K hK => ?_)
    refine goes_ Try.func15 (by kernel_rfl) rfl #[.agg #[.slice Ao30 t298.length co30, .int .i64 t301, .int .i64 t302], .agg #[.slice Ao50 t315.length co50, .int .i64 t318, .int .i64 t319]] (by rfl) rfl rfl (by (try simp only [List.map_toArray, List.map_cons, List.map_nil]); first | done | rfl | (simp only [List.length_drop, List.length_take]; rfl)) ?_
    with_reducible refine (laws_eqBuf.calls kj13 _ _ t298 t301 t302 _ _ t315 t318 t319 t320 _ ?side1 ?side2 ?side3 ?side4 A46.out).mono ?_
    (case side1 => repeat (first | exact (Kd.R_reads' HO_304000.out).2.2 | (with_reducible refine Kd.C_alloc ?_ _) | (with_reducible refine Kd.C_drewN ?_ _) | (with_reducible refine Kd.C_drew ?_)))
    (case side2 => exact (Kd.R_reads' HO_304000.out).2.1)
    (case side3 => repeat (first | exact (Kd.R_reads' HO317.out).2.2 | (with_reducible refine Kd.C_alloc ?_ _) | (with_reducible refine Kd.C_drewN ?_ _) | (with_reducible refine Kd.C_drew ?_)))
    (case side4 => exact (Kd.R_reads' HO317.out).2.1)
    rintro e w51 ⟨rfl, hb⟩
    refine ⟨_, rfl, ?_⟩
    replace HO_298000 := am (Kd.R_below (kr HO_298000.out) hb)
    replace HO_298003 := am (Kd.R_below (kr HO_298003.out) hb)
    replace HO_304000 := am (Kd.R_below (kr HO_304000.out) hb)
    replace HO_314000 := am (Kd.R_below (kr HO_314000.out) hb)
    replace HO_314003 := am (Kd.R_below (kr HO_314003.out) hb)
    replace HO317 := am (Kd.R_below (kr HO317.out) hb)
    replace BK281 := am (blk_below (pk BK281.out) hb)
    replace BK297 := am (blk_below (pk BK297.out) hb)
    replace BK303 := am (blk_below (pk BK303.out) hb)
    replace BK313 := am (blk_below (pk BK313.out) hb)
    replace HB := am (below_step (bl HB.out) hb)
    (try clear hb)
    (try clear hb2)
    (try clear hk)
    (try clear hi)
    refine hK.out _ _ ⟨bc BK303.out 0, bc BK303.out 1, bc BK303.out 2, bc BK281.out 0, bc BK281.out 1, bc BK281.out 2⟩ (fun hHeld => ?_)
    clear hK K
    refine norm_ (a' := ?_) ?_ ?_
    rotate_left
    ·show Act.put _ (some 38) _ = _
     simp only [Act.put, sa_, s0_, ss_, i64_w, i32_w]
     rfl
    refine pure_ (i := 4) (N := some 39) (v := ?_) (a' := ?_) #[true, true, true, true, true] rfl rfl (by kernel_rfl) (fun _ _ _ h => h) (Or.inl ⟨by rfl, ?_⟩) ?_ ?_; rotate_left
    ·intro w'; go_simp; with_reducible rfl
    rotate_left
    ·simp only [Act.put, sa_, s0_, ss_, i64_w, i32_w]; rfl
    refine done_ (by kernel_rfl) ?_
    go_upto_if 39 with (fail)
    go_cut [] (fun wc => ∃ (kq : Nat), Aside0 (laws_FnExactBufDelete.j1 kq a1 a2 l0_0 a0_1 a0_2 t288 t291 t292 t293 t296 t298 t301 t302 t304 t307 t308 t309 t312 = some r) ∧ Aside0 (kq ≤ kj13) ∧ Aside0 (Kd.R (Kd.int .i64) 2 wc w.heap.size (fun k_ => some k_ ≠ ((.slice Ao26 t293.length co26) : Value).ownBlock ∧ some k_ ≠ ((.slice Ao30 t298.length co30) : Value).ownBlock ∧ some k_ ≠ ((.slice Ao36 t304.length co36) : Value).ownBlock ∧ some k_ ≠ ((.slice Ao41 t309.length co41) : Value).ownBlock) (.slice Ao23 t288.length co23) t288) ∧ Aside0 (Kd.R (Kd.int .i64) 2 wc w.heap.size (fun k_ => some k_ ≠ ((.slice Ao23 t288.length co23) : Value).ownBlock ∧ some k_ ≠ ((.slice Ao30 t298.length co30) : Value).ownBlock ∧ some k_ ≠ ((.slice Ao36 t304.length co36) : Value).ownBlock ∧ some k_ ≠ ((.slice Ao41 t309.length co41) : Value).ownBlock) (.slice Ao26 t293.length co26) t293) ∧ Aside0 (Kd.R (Kd.int .i64) 2 wc w.heap.size (fun k_ => some k_ ≠ ((.slice Ao23 t288.length co23) : Value).ownBlock ∧ some k_ ≠ ((.slice Ao26 t293.length co26) : Value).ownBlock ∧ some k_ ≠ ((.slice Ao36 t304.length co36) : Value).ownBlock ∧ some k_ ≠ ((.slice Ao41 t309.length co41) : Value).ownBlock) (.slice Ao30 t298.length co30) t298) ∧ Aside0 (Kd.R (Kd.int .i64) 2 wc w.heap.size (fun k_ => some k_ ≠ ((.slice Ao23 t288.length co23) : Value).ownBlock ∧ some k_ ≠ ((.slice Ao26 t293.length co26) : Value).ownBlock ∧ some k_ ≠ ((.slice Ao30 t298.length co30) : Value).ownBlock ∧ some k_ ≠ ((.slice Ao41 t309.length co41) : Value).ownBlock) (.slice Ao36 t304.length co36) t304) ∧ Aside0 (Kd.R (Kd.int .i64) 2 wc w.heap.size (fun k_ => some k_ ≠ ((.slice Ao23 t288.length co23) : Value).ownBlock ∧ some k_ ≠ ((.slice Ao26 t293.length co26) : Value).ownBlock ∧ some k_ ≠ ((.slice Ao30 t298.length co30) : Value).ownBlock ∧ some k_ ≠ ((.slice Ao36 t304.length co36) : Value).ownBlock) (.slice Ao41 t309.length co41) t309) ∧ Aside0 (wc.heap[gb281]? = some (.cells #[(.slice A0_0 l0_0.length c0_0), .int .i64 a0_1, .int .i64 a0_2] 24 (0, 0))) ∧ Aside0 (wc.heap[gb297]? = some (.cells #[(.slice Ao23 t288.length co23), .int .i64 t291, .int .i64 t292, (.slice Ao26 t293.length co26), .int .i64 t296] 28 (0, 0))) ∧ Aside0 (wc.heap[gb303]? = some (.cells #[(.slice Ao30 t298.length co30), .int .i64 t301, .int .i64 t302] 26 (0, 0))) ∧ Aside0 (wc.heap[gb313]? = some (.cells #[(.slice Ao36 t304.length co36), .int .i64 t307, .int .i64 t308, (.slice Ao41 t309.length co41), .int .i64 t312] 28 (0, 0))) ∧ Aside0 (Below w.heap.size w wc))
    case first =>
     have H := HC47.out
     clear HC47
     by_cases c52 : t320 = true
     ·subst c52
      have H1 : (laws_FnExactBufDelete.j1 kj13 a1 a2 l0_0 a0_1 a0_2 t288 t291 t292 t293 t296 t298 t301 t302 t304 t307 t308 t309 t312) = some r := by rw [if_pos rfl] at H; exact H
      clear H
      have H := H1
      clear H1
      have H' := Aside0.mk H
      clear H
      go_wp2
      go_meet
      case rel => exact ⟨_, H', ⟨by have := HJ13.out; first | omega | exact Nat.le_refl _⟩, ⟨kr (Kd.R_mono HO_298000.out (fun _ hk => ⟨hk.1.1, ⟨hk.1.2.1, ⟨hk.1.2.2.1, hk.1.2.2.2⟩⟩⟩))⟩, ⟨kr (Kd.R_mono HO_298003.out (fun _ hk => ⟨hk.1.1, ⟨hk.1.2.1, ⟨hk.1.2.2.1, hk.1.2.2.2⟩⟩⟩))⟩, ⟨kr (Kd.R_mono HO_304000.out (fun _ hk => ⟨hk.1.1, ⟨hk.1.2.1, ⟨hk.1.2.2.1, hk.1.2.2.2⟩⟩⟩))⟩, ⟨kr (Kd.R_mono HO_314000.out (fun _ hk => ⟨hk.1.1, ⟨hk.1.2.1, ⟨hk.1.2.2.1, hk.1.2.2.2⟩⟩⟩))⟩, ⟨kr (Kd.R_mono HO_314003.out (fun _ hk => ⟨hk.1.1, ⟨hk.1.2.1, ⟨hk.1.2.2.1, hk.1.2.2.2⟩⟩⟩))⟩, ⟨pk BK281.out⟩, ⟨pk BK297.out⟩, ⟨pk BK303.out⟩, ⟨pk BK313.out⟩, ⟨by repeat (first | (with_reducible first | exact HB.out | apply below_alloc | apply pw_below_drewN | apply below_drew1 | refine below_set ?_ GE281.out | refine below_set ?_ GE297.out | refine below_set ?_ GE303.out | refine below_set ?_ GE313.out) | exact HB.out)⟩⟩
     ·replace c52 := Bool.eq_false_iff.mpr c52
      subst c52
      have H1 : (some false) = some r := by rw [if_neg (show ¬ (false = true) by decide)] at H; exact H
      clear H
      have H := H1
      clear H1
      obtain rfl := Option.some.inj H
      go_wp2
      go_ret
      exact ⟨by first | rfl | (simp [errW_none, errW_some] <;> rfl) | (simp [*, errW_none, errW_some] <;> rfl), by repeat (first | (with_reducible first | exact HB.out | apply below_alloc | apply pw_below_drewN | apply below_drew1 | refine below_set ?_ GE281.out | refine below_set ?_ GE297.out | refine below_set ?_ GE303.out | refine below_set ?_ GE313.out) | exact HB.out)⟩
    case rest =>
     clear HC47
     try clear c1
     try clear c2
     try clear p2
     try clear c3
     try clear c4
     try clear c5
     try clear c5b0
     try clear c9
     try clear c11
     try clear c14
     try clear c15
     try clear c23
     try clear c24
     try clear c31
     try clear c32
     try clear c37
     try clear c38
     try clear c39
     try clear c44
     try clear c52
     try clear hcz16_0
     try clear hcz16_1
     try clear hcz16_2
     try clear hcz18_0
     try clear hcz18_1
     try clear hcz18_2
     try clear hcz25_0
     try clear hcz25_1
     try clear hcz25_2
     try clear hcz25_3
     try clear hcz25_4
     try clear hcz27_0
     try clear hcz27_1
     try clear hcz27_2
     try clear hcz33_0
     try clear hcz33_1
     try clear hcz33_2
     try clear hcz40_0
     try clear hcz40_1
     try clear hcz40_2
     try clear hcz40_3
     try clear hcz40_4
     try clear hcz42_0
     try clear hcz42_1
     try clear hcz42_2
     try clear hcz42_3
     try clear hcz42_4
     try clear hcz7_0
     try clear hcz7_1
     try clear hcz7_2
     try clear hfz16_0
     try clear hfz16_1
     try clear hfz16_2
     try clear hfz18_0
     try clear hfz18_1
     try clear hfz18_2
     try clear hfz25_0
     try clear hfz25_1
     try clear hfz25_2
     try clear hfz25_3
     try clear hfz25_4
     try clear hfz27_0
     try clear hfz27_1
     try clear hfz27_2
     try clear hfz33_0
     try clear hfz33_1
     try clear hfz33_2
     try clear hfz40_0
     try clear hfz40_1
     try clear hfz40_2
     try clear hfz40_3
     try clear hfz40_4
     try clear hfz42_0
     try clear hfz42_1
     try clear hfz42_2
     try clear hfz42_3
     try clear hfz42_4
     try clear hfz7_0
     try clear hfz7_1
     try clear hfz7_2
     try clear p2
     obtain ⟨kq, HA, HJ46, HO_298000, HO_298003, HO_304000, HO_314000, HO_314003, BK281, BK297, BK303, BK313, HB⟩ := hcut
     cases kq with
     | zero => exact absurd HA.out (by simp [laws_FnExactBufDelete.j1])
     | succ kj46 =>
      have H := HA.out
      clear HA
      simp only [laws_FnExactBufDelete.j1] at H
      replace H := Option.bind_eq_some_iff.mp H
      obtain ⟨⟨t321, t322⟩, A530, H⟩ := H
      replace H : (if t321 < 0 then (laws_FnExactBufDelete.j2 kj46 a1 a2 true l0_0 a0_1 a0_2 t288 t291 t292 t293 t296 t304 t307 t308 t309 t312) else ((laws_eqBufOut.f kj46 t304 t307 t308 t309 t312 t288 t291 t292 t293 t296).bind fun t323 => (laws_FnExactBufDelete.j2 kj46 a1 a2 (!t323) l0_0 a0_1 a0_2 t288 t291 t292 t293 t296 t304 t307 t308 t309 t312))) = some r := H
      have A53 := Aside0.mk A530
      clear A530
      have HC54 := Aside0.mk H
      clear H
      have hnb55 := NB303_281.out
      have hnc55 := NB281_303.out
      have hnb56 := NB303_297.out
      have hnc56 := NB297_303.out
      have hnb57 := NB303_313.out
      have hnc57 := NB313_303.out
      have hcz58_0 : wc.cell? ⟨gb303, 0, none⟩ = some (.slice Ao30 t298.length co30) := bc BK303.out 0
      have hcz58_1 : wc.cell? ⟨gb303, 1, none⟩ = some (.int .i64 t301) := bc BK303.out 1
      have hcz58_2 : wc.cell? ⟨gb303, 2, none⟩ = some (.int .i64 t302) := bc BK303.out 2
      have hfz58_0 := blk_frozen BK303.out 0
      have hfz58_1 := blk_frozen BK303.out 1
      have hfz58_2 := blk_frozen BK303.out 2
      go_upto_region 14 with (first | ((with_reducible refine gate_callee (f := 17) rfl ?_); refine gl (some 42) Try.func17 #[.agg #[.slice Ao30 t298.length co30, .int .i64 t301, .int .i64 t302], .int .i64 1] ?_; (with_reducible refine (laws_markBuf.calls kj46 (fun k_ => some k_ = (.slice Ao30 t298.length co30 : Value).ownBlock) (.slice Ao30 t298.length co30) t298 t301 t302 1 t321 t322 w _ ?side1 ?side2 A53.out).mono ?_); (case side1 => repeat (first | (with_reducible first | exact HB.out | apply below_alloc | apply pw_below_drewN | apply below_drew1 | refine below_set ?_ GE281.out | refine below_set ?_ GE297.out | refine below_set ?_ GE303.out | refine below_set ?_ GE313.out) | exact HB.out)); (case side2 => exact Kd.R_tight rfl HO_304000.out); rintro e w59 ⟨rfl, hy0, hb, hkp⟩; refine ⟨_, rfl, ?_⟩; replace HO_298000 := am (Kd.R_mono (ok' := fun k_ => some k_ ≠ (.slice Ao26 t293.length co26 : Value).ownBlock ∧ some k_ ≠ (.slice Ao30 t298.length co30 : Value).ownBlock ∧ some k_ ≠ (.slice Ao36 t304.length co36 : Value).ownBlock ∧ some k_ ≠ (.slice Ao41 t309.length co41 : Value).ownBlock) (Kd.R_keptB (HO_298000.out) hkp (fun k_ hk_ hs_ => (hk_.2.1) hs_)) (fun k_ hk_ => ⟨hk_.1.1, hk_.1.2.1, hk_.1.2.2.1, hk_.1.2.2.2⟩)); replace HO_298003 := am (Kd.R_mono (ok' := fun k_ => some k_ ≠ (.slice Ao23 t288.length co23 : Value).ownBlock ∧ some k_ ≠ (.slice Ao30 t298.length co30 : Value).ownBlock ∧ some k_ ≠ (.slice Ao36 t304.length co36 : Value).ownBlock ∧ some k_ ≠ (.slice Ao41 t309.length co41 : Value).ownBlock) (Kd.R_keptB (HO_298003.out) hkp (fun k_ hk_ hs_ => (hk_.2.1) hs_)) (fun k_ hk_ => ⟨hk_.1.1, hk_.1.2.1, hk_.1.2.2.1, hk_.1.2.2.2⟩)); replace HO_314000 := am (Kd.R_mono (ok' := fun k_ => some k_ ≠ (.slice Ao23 t288.length co23 : Value).ownBlock ∧ some k_ ≠ (.slice Ao26 t293.length co26 : Value).ownBlock ∧ some k_ ≠ (.slice Ao30 t298.length co30 : Value).ownBlock ∧ some k_ ≠ (.slice Ao41 t309.length co41 : Value).ownBlock) (Kd.R_keptB (HO_314000.out) hkp (fun k_ hk_ hs_ => (hk_.2.2.1) hs_)) (fun k_ hk_ => ⟨hk_.1.1, hk_.1.2.1, hk_.1.2.2.1, hk_.1.2.2.2⟩)); replace HO_314003 := am (Kd.R_mono (ok' := fun k_ => some k_ ≠ (.slice Ao23 t288.length co23 : Value).ownBlock ∧ some k_ ≠ (.slice Ao26 t293.length co26 : Value).ownBlock ∧ some k_ ≠ (.slice Ao30 t298.length co30 : Value).ownBlock ∧ some k_ ≠ (.slice Ao36 t304.length co36 : Value).ownBlock) (Kd.R_keptB (HO_314003.out) hkp (fun k_ hk_ hs_ => (hk_.2.2.1) hs_)) (fun k_ hk_ => ⟨hk_.1.1, hk_.1.2.1, hk_.1.2.2.1, hk_.1.2.2.2⟩)); replace BK281 := am (blk_kept (pk BK281.out) hkp (fun hs_ => (fun e_ => (Kd.R_ne HO_304000.out BK281.out (by decide)) e_) hs_)); replace BK297 := am (blk_kept (pk BK297.out) hkp (fun hs_ => (fun e_ => (Kd.R_ne HO_304000.out BK297.out (by decide)) e_) hs_)); replace BK303 := am (blk_kept (pk BK303.out) hkp (fun hs_ => (fun e_ => (Kd.R_ne HO_304000.out BK303.out (by decide)) e_) hs_)); replace BK313 := am (blk_kept (pk BK313.out) hkp (fun hs_ => (fun e_ => (Kd.R_ne HO_304000.out BK313.out (by decide)) e_) hs_)); replace HO_304000 := am (Kd.R_reok rfl hy0 (fun k_ e_ => HO_304000.out.1 k_ e_)); replace HB := am (hb); (try clear hb); (try clear hkp); (try clear hy0)))
      (try simp only [Act.put, sa_, s0_, ss_])
      go_cut [50] (fun v50 wc => ∃ (kq : Nat) (x50_53 : Bool), v50 = .bool x50_53 ∧ Aside0 (laws_FnExactBufDelete.j2 kq a1 a2 x50_53 l0_0 a0_1 a0_2 t288 t291 t292 t293 t296 t304 t307 t308 t309 t312 = some r) ∧ Aside0 (kq ≤ kj46) ∧ Aside0 (Kd.R (Kd.int .i64) 2 wc w.heap.size (fun k_ => some k_ ≠ ((.slice Ao26 t293.length co26) : Value).ownBlock ∧ some k_ ≠ ((.slice Ao30 t298.length co30) : Value).ownBlock ∧ some k_ ≠ ((.slice Ao36 t304.length co36) : Value).ownBlock ∧ some k_ ≠ ((.slice Ao41 t309.length co41) : Value).ownBlock) (.slice Ao23 t288.length co23) t288) ∧ Aside0 (Kd.R (Kd.int .i64) 2 wc w.heap.size (fun k_ => some k_ ≠ ((.slice Ao23 t288.length co23) : Value).ownBlock ∧ some k_ ≠ ((.slice Ao30 t298.length co30) : Value).ownBlock ∧ some k_ ≠ ((.slice Ao36 t304.length co36) : Value).ownBlock ∧ some k_ ≠ ((.slice Ao41 t309.length co41) : Value).ownBlock) (.slice Ao26 t293.length co26) t293) ∧ Aside0 (Kd.R (Kd.int .i64) 2 wc w.heap.size (fun k_ => some k_ ≠ ((.slice Ao23 t288.length co23) : Value).ownBlock ∧ some k_ ≠ ((.slice Ao26 t293.length co26) : Value).ownBlock ∧ some k_ ≠ ((.slice Ao36 t304.length co36) : Value).ownBlock ∧ some k_ ≠ ((.slice Ao41 t309.length co41) : Value).ownBlock) (.slice Ao30 t298.length co30) t322) ∧ Aside0 (Kd.R (Kd.int .i64) 2 wc w.heap.size (fun k_ => some k_ ≠ ((.slice Ao23 t288.length co23) : Value).ownBlock ∧ some k_ ≠ ((.slice Ao26 t293.length co26) : Value).ownBlock ∧ some k_ ≠ ((.slice Ao30 t298.length co30) : Value).ownBlock ∧ some k_ ≠ ((.slice Ao41 t309.length co41) : Value).ownBlock) (.slice Ao36 t304.length co36) t304) ∧ Aside0 (Kd.R (Kd.int .i64) 2 wc w.heap.size (fun k_ => some k_ ≠ ((.slice Ao23 t288.length co23) : Value).ownBlock ∧ some k_ ≠ ((.slice Ao26 t293.length co26) : Value).ownBlock ∧ some k_ ≠ ((.slice Ao30 t298.length co30) : Value).ownBlock ∧ some k_ ≠ ((.slice Ao36 t304.length co36) : Value).ownBlock) (.slice Ao41 t309.length co41) t309) ∧ Aside0 (wc.heap[gb281]? = some (.cells #[(.slice A0_0 l0_0.length c0_0), .int .i64 a0_1, .int .i64 a0_2] 24 (0, 0))) ∧ Aside0 (wc.heap[gb297]? = some (.cells #[(.slice Ao23 t288.length co23), .int .i64 t291, .int .i64 t292, (.slice Ao26 t293.length co26), .int .i64 t296] 28 (0, 0))) ∧ Aside0 (wc.heap[gb303]? = some (.cells #[(.slice Ao30 t298.length co30), .int .i64 t301, .int .i64 t302] 26 (0, 0))) ∧ Aside0 (wc.heap[gb313]? = some (.cells #[(.slice Ao36 t304.length co36), .int .i64 t307, .int .i64 t308, (.slice Ao41 t309.length co41), .int .i64 t312] 28 (0, 0))) ∧ Aside0 (Below w.heap.size w wc))
      case first =>
       have H := HC54.out
       clear HC54
       by_cases c60 : t321 < 0
       ·rw [if_pos c60] at H
        have c60b0 : decide (t321 < 0) = true := decide_eq_true c60
        clear c60
        (first | rw [c60b0] | (simp only [i64_w, i32_w]; rw [c60b0]) | (have e9_ := c60b0; unfold bne at e9_; rw [e9_]) | skip)
        have H' := Aside0.mk H
        clear H
        go_wp2
        go_meet
        case rel => exact ⟨_, (true), (by first | rfl | (simp; done) | (simp [*]; done)), H', ⟨by have := HJ13.out; have := HJ46.out; first | omega | exact Nat.le_refl _⟩, ⟨kr HO_298000.out⟩, ⟨kr HO_298003.out⟩, ⟨kr HO_304000.out⟩, ⟨kr HO_314000.out⟩, ⟨kr HO_314003.out⟩, ⟨pk BK281.out⟩, ⟨pk BK297.out⟩, ⟨pk BK303.out⟩, ⟨pk BK313.out⟩, ⟨by repeat (first | (with_reducible first | exact HB.out | apply below_alloc | apply pw_below_drewN | apply below_drew1 | refine below_set ?_ GE281.out | refine below_set ?_ GE297.out | refine below_set ?_ GE303.out | refine below_set ?_ GE313.out) | exact HB.out)⟩⟩
       ·rw [if_neg c60] at H
        have c60b0 : decide (t321 < 0) = false := decide_eq_false c60
        clear c60
        (first | rw [c60b0] | (simp only [i64_w, i32_w]; rw [c60b0]) | (have e9_ := c60b0; unfold bne at e9_; rw [e9_]) | skip)
        replace H := Option.bind_eq_some_iff.mp H
        obtain ⟨t323, A610, H⟩ := H
        replace H : (laws_FnExactBufDelete.j2 kj46 a1 a2 (!t323) l0_0 a0_1 a0_2 t288 t291 t292 t293 t296 t304 t307 t308 t309 t312) = some r := H
        have A61 := Aside0.mk A610
        clear A610
        have H' := Aside0.mk H
        clear H
        have hnb62 := NB313_281.out
        have hnc62 := NB281_313.out
        have hnb63 := NB313_297.out
        have hnc63 := NB297_313.out
        have hnb64 := NB313_303.out
        have hnc64 := NB303_313.out
        have hcz65_0 : w59.cell? ⟨gb313, 0, none⟩ = some (.slice Ao36 t304.length co36) := bc BK313.out 0
        have hcz65_1 : w59.cell? ⟨gb313, 1, none⟩ = some (.int .i64 t307) := bc BK313.out 1
        have hcz65_2 : w59.cell? ⟨gb313, 2, none⟩ = some (.int .i64 t308) := bc BK313.out 2
        have hcz65_3 : w59.cell? ⟨gb313, 3, none⟩ = some (.slice Ao41 t309.length co41) := bc BK313.out 3
        have hcz65_4 : w59.cell? ⟨gb313, 4, none⟩ = some (.int .i64 t312) := bc BK313.out 4
        have hfz65_0 := blk_frozen BK313.out 0
        have hfz65_1 := blk_frozen BK313.out 1
        have hfz65_2 := blk_frozen BK313.out 2
        have hfz65_3 := blk_frozen BK313.out 3
        have hfz65_4 := blk_frozen BK313.out 4
        have hnb66 := NB297_281.out
        have hnc66 := NB281_297.out
        have hnb67 := NB297_303.out
        have hnc67 := NB303_297.out
        have hcz68_0 : w59.cell? ⟨gb297, 0, none⟩ = some (.slice Ao23 t288.length co23) := bc BK297.out 0
        have hcz68_1 : w59.cell? ⟨gb297, 1, none⟩ = some (.int .i64 t291) := bc BK297.out 1
        have hcz68_2 : w59.cell? ⟨gb297, 2, none⟩ = some (.int .i64 t292) := bc BK297.out 2
        have hcz68_3 : w59.cell? ⟨gb297, 3, none⟩ = some (.slice Ao26 t293.length co26) := bc BK297.out 3
        have hcz68_4 : w59.cell? ⟨gb297, 4, none⟩ = some (.int .i64 t296) := bc BK297.out 4
        have hfz68_0 := blk_frozen BK297.out 0
        have hfz68_1 := blk_frozen BK297.out 1
        have hfz68_2 := blk_frozen BK297.out 2
        have hfz68_3 := blk_frozen BK297.out 3
        have hfz68_4 := blk_frozen BK297.out 4
        go_wp2_with (first | (go_at_call 14; (with_reducible refine (laws_eqBufOut.calls kj46 _ _ t304 t307 t308 _ _ t309 t312 _ _ t288 t291 t292 _ _ t293 t296 t323 _ ?side1 ?side2 ?side3 ?side4 ?side5 ?side6 ?side7 ?side8 A61.out).mono ?_); (case side1 => repeat (first | exact (Kd.R_reads' HO_314000.out).2.2 | (with_reducible refine Kd.C_alloc ?_ _) | (with_reducible refine Kd.C_drewN ?_ _) | (with_reducible refine Kd.C_drew ?_))); (case side2 => exact (Kd.R_reads' HO_314000.out).2.1); (case side3 => repeat (first | exact (Kd.R_reads' HO_314003.out).2.2 | (with_reducible refine Kd.C_alloc ?_ _) | (with_reducible refine Kd.C_drewN ?_ _) | (with_reducible refine Kd.C_drew ?_))); (case side4 => exact (Kd.R_reads' HO_314003.out).2.1); (case side5 => repeat (first | exact (Kd.R_reads' HO_298000.out).2.2 | (with_reducible refine Kd.C_alloc ?_ _) | (with_reducible refine Kd.C_drewN ?_ _) | (with_reducible refine Kd.C_drew ?_))); (case side6 => exact (Kd.R_reads' HO_298000.out).2.1); (case side7 => repeat (first | exact (Kd.R_reads' HO_298003.out).2.2 | (with_reducible refine Kd.C_alloc ?_ _) | (with_reducible refine Kd.C_drewN ?_ _) | (with_reducible refine Kd.C_drew ?_))); (case side8 => exact (Kd.R_reads' HO_298003.out).2.1); rintro e w69 ⟨rfl, hb⟩; replace HO_298000 := am (Kd.R_below (kr HO_298000.out) hb); replace HO_298003 := am (Kd.R_below (kr HO_298003.out) hb); replace HO_304000 := am (Kd.R_below (kr HO_304000.out) hb); replace HO_314000 := am (Kd.R_below (kr HO_314000.out) hb); replace HO_314003 := am (Kd.R_below (kr HO_314003.out) hb); replace BK281 := am (blk_below (pk BK281.out) hb); replace BK297 := am (blk_below (pk BK297.out) hb); replace BK303 := am (blk_below (pk BK303.out) hb); replace BK313 := am (blk_below (pk BK313.out) hb); replace HB := am (below_step (bl HB.out) hb); (try clear hb); (try clear hb2); (try clear hk); (try clear hi)))
        go_meet
        case rel => exact ⟨_, (!t323), (by first | rfl | (simp; done) | (simp [*]; done)), H', ⟨by have := HJ13.out; have := HJ46.out; first | omega | exact Nat.le_refl _⟩, ⟨kr HO_298000.out⟩, ⟨kr HO_298003.out⟩, ⟨kr HO_304000.out⟩, ⟨kr HO_314000.out⟩, ⟨kr HO_314003.out⟩, ⟨pk BK281.out⟩, ⟨pk BK297.out⟩, ⟨pk BK303.out⟩, ⟨pk BK313.out⟩, ⟨by repeat (first | (with_reducible first | exact HB.out | apply below_alloc | apply pw_below_drewN | apply below_drew1 | refine below_set ?_ GE281.out | refine below_set ?_ GE297.out | refine below_set ?_ GE303.out | refine below_set ?_ GE313.out) | exact HB.out)⟩⟩
      case rest =>
       clear HC54
       try clear c1
       try clear c2
       try clear p2
       try clear c3
       try clear c4
       try clear c5
       try clear c5b0
       try clear c6
       try clear c9
       try clear c11
       try clear c14
       try clear c15
       try clear c17
       try clear c23
       try clear c24
       try clear c31
       try clear c32
       try clear c37
       try clear c38
       try clear c39
       try clear c44
       try clear c52
       try clear c55
       try clear c56
       try clear c57
       try clear c60
       try clear c60b0
       try clear c62
       try clear c63
       try clear c64
       try clear c66
       try clear c67
       try clear hcz16_0
       try clear hcz16_1
       try clear hcz16_2
       try clear hcz18_0
       try clear hcz18_1
       try clear hcz18_2
       try clear hcz25_0
       try clear hcz25_1
       try clear hcz25_2
       try clear hcz25_3
       try clear hcz25_4
       try clear hcz27_0
       try clear hcz27_1
       try clear hcz27_2
       try clear hcz33_0
       try clear hcz33_1
       try clear hcz33_2
       try clear hcz40_0
       try clear hcz40_1
       try clear hcz40_2
       try clear hcz40_3
       try clear hcz40_4
       try clear hcz42_0
       try clear hcz42_1
       try clear hcz42_2
       try clear hcz42_3
       try clear hcz42_4
       try clear hcz58_0
       try clear hcz58_1
       try clear hcz58_2
       try clear hcz65_0
       try clear hcz65_1
       try clear hcz65_2
       try clear hcz65_3
       try clear hcz65_4
       try clear hcz68_0
       try clear hcz68_1
       try clear hcz68_2
       try clear hcz68_3
       try clear hcz68_4
       try clear hcz7_0
       try clear hcz7_1
       try clear hcz7_2
       try clear hfz16_0
       try clear hfz16_1
       try clear hfz16_2
       try clear hfz18_0
       try clear hfz18_1
       try clear hfz18_2
       try clear hfz25_0
       try clear hfz25_1
       try clear hfz25_2
       try clear hfz25_3
       try clear hfz25_4
       try clear hfz27_0
       try clear hfz27_1
       try clear hfz27_2
       try clear hfz33_0
       try clear hfz33_1
       try clear hfz33_2
       try clear hfz40_0
       try clear hfz40_1
       try clear hfz40_2
       try clear hfz40_3
       try clear hfz40_4
       try clear hfz42_0
       try clear hfz42_1
       try clear hfz42_2
       try clear hfz42_3
       try clear hfz42_4
       try clear hfz58_0
       try clear hfz58_1
       try clear hfz58_2
       try clear hfz65_0
       try clear hfz65_1
       try clear hfz65_2
       try clear hfz65_3
       try clear hfz65_4
       try clear hfz68_0
       try clear hfz68_1
       try clear hfz68_2
       try clear hfz68_3
       try clear hfz68_4
       try clear hfz7_0
       try clear hfz7_1
       try clear hfz7_2
       try clear p2
       obtain ⟨kq, x50_53, rfl, HA, HJ53, HO_298000, HO_298003, HO_304000, HO_314000, HO_314003, BK281, BK297, BK303, BK313, HB⟩ := hcut
       have hl304000_53 := (Kd.R_reads' HO_304000.out).1
       rw [hl304000_53] at HO_304000
       (try simp only [hl304000_53])
       (try simp only [hl304000_53] at BK281)
       (try simp only [hl304000_53] at BK297)
       (try simp only [hl304000_53] at BK303)
       (try simp only [hl304000_53] at BK313)
       (try simp only [hl304000_53] at HO_298000)
       (try simp only [hl304000_53] at HO_298003)
       (try simp only [hl304000_53] at HO_314000)
       (try simp only [hl304000_53] at HO_314003)
       cases kq with
       | zero => exact absurd HA.out (by simp [laws_FnExactBufDelete.j2])
       | succ kj53 =>
        have H := HA.out
        clear HA
        simp only [laws_FnExactBufDelete.j2] at H
        have HC70 := Aside0.mk H
        clear H
        go_upto_if 50 with (fail)
        go_cut [] (fun wc => ∃ (kq : Nat), Aside0 (laws_FnExactBufDelete.j3 kq a1 a2 l0_0 a0_1 a0_2 t288 t291 t292 t293 t296 t304 t307 t308 t309 t312 = some r) ∧ Aside0 (kq ≤ kj53) ∧ Aside0 (Kd.R (Kd.int .i64) 2 wc w.heap.size (fun k_ => some k_ ≠ ((.slice Ao26 t293.length co26) : Value).ownBlock ∧ some k_ ≠ ((.slice Ao30 t322.length co30) : Value).ownBlock ∧ some k_ ≠ ((.slice Ao36 t304.length co36) : Value).ownBlock ∧ some k_ ≠ ((.slice Ao41 t309.length co41) : Value).ownBlock) (.slice Ao23 t288.length co23) t288) ∧ Aside0 (Kd.R (Kd.int .i64) 2 wc w.heap.size (fun k_ => some k_ ≠ ((.slice Ao23 t288.length co23) : Value).ownBlock ∧ some k_ ≠ ((.slice Ao30 t322.length co30) : Value).ownBlock ∧ some k_ ≠ ((.slice Ao36 t304.length co36) : Value).ownBlock ∧ some k_ ≠ ((.slice Ao41 t309.length co41) : Value).ownBlock) (.slice Ao26 t293.length co26) t293) ∧ Aside0 (Kd.R (Kd.int .i64) 2 wc w.heap.size (fun k_ => some k_ ≠ ((.slice Ao23 t288.length co23) : Value).ownBlock ∧ some k_ ≠ ((.slice Ao26 t293.length co26) : Value).ownBlock ∧ some k_ ≠ ((.slice Ao36 t304.length co36) : Value).ownBlock ∧ some k_ ≠ ((.slice Ao41 t309.length co41) : Value).ownBlock) (.slice Ao30 t322.length co30) t322) ∧ Aside0 (Kd.R (Kd.int .i64) 2 wc w.heap.size (fun k_ => some k_ ≠ ((.slice Ao23 t288.length co23) : Value).ownBlock ∧ some k_ ≠ ((.slice Ao26 t293.length co26) : Value).ownBlock ∧ some k_ ≠ ((.slice Ao30 t322.length co30) : Value).ownBlock ∧ some k_ ≠ ((.slice Ao41 t309.length co41) : Value).ownBlock) (.slice Ao36 t304.length co36) t304) ∧ Aside0 (Kd.R (Kd.int .i64) 2 wc w.heap.size (fun k_ => some k_ ≠ ((.slice Ao23 t288.length co23) : Value).ownBlock ∧ some k_ ≠ ((.slice Ao26 t293.length co26) : Value).ownBlock ∧ some k_ ≠ ((.slice Ao30 t322.length co30) : Value).ownBlock ∧ some k_ ≠ ((.slice Ao36 t304.length co36) : Value).ownBlock) (.slice Ao41 t309.length co41) t309) ∧ Aside0 (wc.heap[gb281]? = some (.cells #[(.slice A0_0 l0_0.length c0_0), .int .i64 a0_1, .int .i64 a0_2] 24 (0, 0))) ∧ Aside0 (wc.heap[gb297]? = some (.cells #[(.slice Ao23 t288.length co23), .int .i64 t291, .int .i64 t292, (.slice Ao26 t293.length co26), .int .i64 t296] 28 (0, 0))) ∧ Aside0 (wc.heap[gb303]? = some (.cells #[(.slice Ao30 t322.length co30), .int .i64 t301, .int .i64 t302] 26 (0, 0))) ∧ Aside0 (wc.heap[gb313]? = some (.cells #[(.slice Ao36 t304.length co36), .int .i64 t307, .int .i64 t308, (.slice Ao41 t309.length co41), .int .i64 t312] 28 (0, 0))) ∧ Aside0 (Below w.heap.size w wc))
        case first =>
         have H := HC70.out
         clear HC70
         by_cases c71 : x50_53 = true
         ·subst c71
          have H1 : (some false) = some r := by rw [if_pos rfl] at H; exact H
          clear H
          have H := H1
          clear H1
          obtain rfl := Option.some.inj H
          go_wp2
          go_ret
          exact ⟨by first | rfl | (simp [errW_none, errW_some] <;> rfl) | (simp [*, errW_none, errW_some] <;> rfl), by repeat (first | (with_reducible first | exact HB.out | apply below_alloc | apply pw_below_drewN | apply below_drew1 | refine below_set ?_ GE281.out | refine below_set ?_ GE297.out | refine below_set ?_ GE303.out | refine below_set ?_ GE313.out) | exact HB.out)⟩
         ·replace c71 := Bool.eq_false_iff.mpr c71
          subst c71
          have H1 : (laws_FnExactBufDelete.j3 kj53 a1 a2 l0_0 a0_1 a0_2 t288 t291 t292 t293 t296 t304 t307 t308 t309 t312) = some r := by rw [if_neg (show ¬ (false = true) by decide)] at H; exact H
          clear H
          have H := H1
          clear H1
          have H' := Aside0.mk H
          clear H
          go_wp2
          go_meet
          case rel => exact ⟨_, H', ⟨by have := HJ13.out; have := HJ46.out; have := HJ53.out; first | omega | exact Nat.le_refl _⟩, ⟨by (try simp only [hl304000_53]); (with_reducible repeat (first | apply Kd.R_alloc | apply Kd.R_drewN | apply Kd.R_drew)); exact HO_298000.out⟩, ⟨by (try simp only [hl304000_53]); (with_reducible repeat (first | apply Kd.R_alloc | apply Kd.R_drewN | apply Kd.R_drew)); exact HO_298003.out⟩, ⟨by (try simp only [hl304000_53]); (with_reducible repeat (first | apply Kd.R_alloc | apply Kd.R_drewN | apply Kd.R_drew)); exact HO_304000.out⟩, ⟨by (try simp only [hl304000_53]); (with_reducible repeat (first | apply Kd.R_alloc | apply Kd.R_drewN | apply Kd.R_drew)); exact HO_314000.out⟩, ⟨by (try simp only [hl304000_53]); (with_reducible repeat (first | apply Kd.R_alloc | apply Kd.R_drewN | apply Kd.R_drew)); exact HO_314003.out⟩, ⟨by (try simp only [hl304000_53]); (with_reducible repeat (first | refine blk_drewN ?_ _ | refine blk_drew ?_ | refine blk_alloc ?_ _)); exact BK281.out⟩, ⟨by (try simp only [hl304000_53]); (with_reducible repeat (first | refine blk_drewN ?_ _ | refine blk_drew ?_ | refine blk_alloc ?_ _)); exact BK297.out⟩, ⟨by (try simp only [hl304000_53]); (with_reducible repeat (first | refine blk_drewN ?_ _ | refine blk_drew ?_ | refine blk_alloc ?_ _)); exact BK303.out⟩, ⟨by (try simp only [hl304000_53]); (with_reducible repeat (first | refine blk_drewN ?_ _ | refine blk_drew ?_ | refine blk_alloc ?_ _)); exact BK313.out⟩, ⟨by repeat (first | (with_reducible first | exact HB.out | apply below_alloc | apply pw_below_drewN | apply below_drew1 | refine below_set ?_ GE281.out | refine below_set ?_ GE297.out | refine below_set ?_ GE303.out | refine below_set ?_ GE313.out) | exact HB.out)⟩⟩
        case rest =>
         clear HC70
         try clear c1
         try clear c2
         try clear p2
         try clear c3
         try clear c4
         try clear c5
         try clear c5b0
         try clear c6
         try clear c7
         try clear c9
         try clear c11
         try clear c14
         try clear c15
         try clear c17
         try clear c23
         try clear c24
         try clear c31
         try clear c32
         try clear c37
         try clear c38
         try clear c39
         try clear c44
         try clear c52
         try clear c55
         try clear c56
         try clear c57
         try clear c60
         try clear c60b0
         try clear c62
         try clear c63
         try clear c64
         try clear c66
         try clear c67
         try clear c71
         try clear hcz16_0
         try clear hcz16_1
         try clear hcz16_2
         try clear hcz18_0
         try clear hcz18_1
         try clear hcz18_2
         try clear hcz25_0
         try clear hcz25_1
         try clear hcz25_2
         try clear hcz25_3
         try clear hcz25_4
         try clear hcz27_0
         try clear hcz27_1
         try clear hcz27_2
         try clear hcz33_0
         try clear hcz33_1
         try clear hcz33_2
         try clear hcz40_0
         try clear hcz40_1
         try clear hcz40_2
         try clear hcz40_3
         try clear hcz40_4
         try clear hcz42_0
         try clear hcz42_1
         try clear hcz42_2
         try clear hcz42_3
         try clear hcz42_4
         try clear hcz58_0
         try clear hcz58_1
         try clear hcz58_2
         try clear hcz65_0
         try clear hcz65_1
         try clear hcz65_2
         try clear hcz65_3
         try clear hcz65_4
         try clear hcz68_0
         try clear hcz68_1
         try clear hcz68_2
         try clear hcz68_3
         try clear hcz68_4
         try clear hcz7_0
         try clear hcz7_1
         try clear hcz7_2
         try clear hfz16_0
         try clear hfz16_1
         try clear hfz16_2
         try clear hfz18_0
         try clear hfz18_1
         try clear hfz18_2
         try clear hfz25_0
         try clear hfz25_1
         try clear hfz25_2
         try clear hfz25_3
         try clear hfz25_4
         try clear hfz27_0
         try clear hfz27_1
         try clear hfz27_2
         try clear hfz33_0
         try clear hfz33_1
         try clear hfz33_2
         try clear hfz40_0
         try clear hfz40_1
         try clear hfz40_2
         try clear hfz40_3
         try clear hfz40_4
         try clear hfz42_0
         try clear hfz42_1
         try clear hfz42_2
         try clear hfz42_3
         try clear hfz42_4
         try clear hfz58_0
         try clear hfz58_1
         try clear hfz58_2
         try clear hfz65_0
         try clear hfz65_1
         try clear hfz65_2
         try clear hfz65_3
         try clear hfz65_4
         try clear hfz68_0
         try clear hfz68_1
         try clear hfz68_2
         try clear hfz68_3
         try clear hfz68_4
         try clear hfz7_0
         try clear hfz7_1
         try clear hfz7_2
         try clear p2
         obtain ⟨kq, HA, HJ69, HO_298000, HO_298003, HO_304000, HO_314000, HO_314003, BK281, BK297, BK303, BK313, HB⟩ := hcut
         cases kq with
         | zero => exact absurd HA.out (by simp [laws_FnExactBufDelete.j3])
         | succ kj69 =>
          have H := HA.out
          clear HA
          simp only [laws_FnExactBufDelete.j3] at H
          replace H := Option.bind_eq_some_iff.mp H
          obtain ⟨⟨t324, t325, t326⟩, A720, H⟩ := H
          replace H : ((laws_heldBufOut.f kj69 t325 t307 t308 t326 t312 1).bind fun t327 => (if t327 < 0 then (some false) else (laws_FnExactBufDelete.j4 kj69 a1 a2 t324 t327 l0_0 a0_1 a0_2 t288 t291 t292 t293 t296 t325 t307 t308 t326 t312))) = some r := H
          have A72 := Aside0.mk A720
          clear A720
          replace H := Option.bind_eq_some_iff.mp H
          obtain ⟨t327, A730, H⟩ := H
          replace H : (if t327 < 0 then (some false) else (laws_FnExactBufDelete.j4 kj69 a1 a2 t324 t327 l0_0 a0_1 a0_2 t288 t291 t292 t293 t296 t325 t307 t308 t326 t312)) = some r := H
          have A73 := Aside0.mk A730
          clear A730
          have HC74 := Aside0.mk H
          clear H
          have hnb75 := NB313_281.out
          have hnc75 := NB281_313.out
          have hnb76 := NB313_297.out
          have hnc76 := NB297_313.out
          have hnb77 := NB313_303.out
          have hnc77 := NB303_313.out
          have hcz78_0 : wc.cell? ⟨gb313, 0, none⟩ = some (.slice Ao36 t304.length co36) := bc BK313.out 0
          have hcz78_1 : wc.cell? ⟨gb313, 1, none⟩ = some (.int .i64 t307) := bc BK313.out 1
          have hcz78_2 : wc.cell? ⟨gb313, 2, none⟩ = some (.int .i64 t308) := bc BK313.out 2
          have hcz78_3 : wc.cell? ⟨gb313, 3, none⟩ = some (.slice Ao41 t309.length co41) := bc BK313.out 3
          have hcz78_4 : wc.cell? ⟨gb313, 4, none⟩ = some (.int .i64 t312) := bc BK313.out 4
          have hfz78_0 := blk_frozen BK313.out 0
          have hfz78_1 := blk_frozen BK313.out 1
          have hfz78_2 := blk_frozen BK313.out 2
          have hfz78_3 := blk_frozen BK313.out 3
          have hfz78_4 := blk_frozen BK313.out 4
          go_upto_if 58 with (first | ((with_reducible refine gate_callee (f := 19) rfl ?_); refine gl (some 53) Try.func19 #[.agg #[.slice Ao36 t304.length co36, .int .i64 t307, .int .i64 t308, .slice Ao41 t309.length co41, .int .i64 t312], .int .i64 1] ?_; (with_reducible refine (laws_markBufOut.calls kj69 (fun k_ => some k_ = (.slice Ao36 t304.length co36 : Value).ownBlock) (.slice Ao36 t304.length co36) t304 t307 t308 (fun k_ => some k_ = (.slice Ao41 t309.length co41 : Value).ownBlock) (.slice Ao41 t309.length co41) t309 t312 1 t324 t325 t326 w _ ?side1 ?side2 ?side3 ?side4 ?side5 A72.out).mono ?_); (case side1 => repeat (first | (with_reducible first | exact HB.out | apply below_alloc | apply pw_below_drewN | apply below_drew1 | refine below_set ?_ GE281.out | refine below_set ?_ GE297.out | refine below_set ?_ GE303.out | refine below_set ?_ GE313.out) | exact HB.out)); (case side2 => exact Kd.R_tight rfl HO_314000.out); (case side3 => exact fun k_ e_ => (HO_314000.out.1 k_ e_.symm).2.2.2); (case side4 => exact Kd.R_tight rfl HO_314003.out); (case side5 => exact fun k_ e_ => (HO_314003.out.1 k_ e_.symm).2.2.2); rintro e w79 ⟨rfl, hy0, hy1, hb, hkp⟩; refine ⟨_, rfl, ?_⟩; replace HO_298000 := am (Kd.R_mono (ok' := fun k_ => some k_ ≠ (.slice Ao26 t293.length co26 : Value).ownBlock ∧ some k_ ≠ (.slice Ao30 t322.length co30 : Value).ownBlock ∧ some k_ ≠ (.slice Ao36 t304.length co36 : Value).ownBlock ∧ some k_ ≠ (.slice Ao41 t309.length co41 : Value).ownBlock) (Kd.R_keptB (HO_298000.out) hkp (fun k_ hk_ hs_ => Or.elim hs_ (fun e_ => (hk_.2.2.1) e_) (fun e_ => (hk_.2.2.2) e_))) (fun k_ hk_ => ⟨hk_.1.1, hk_.1.2.1, hk_.1.2.2.1, hk_.1.2.2.2⟩)); replace HO_298003 := am (Kd.R_mono (ok' := fun k_ => some k_ ≠ (.slice Ao23 t288.length co23 : Value).ownBlock ∧ some k_ ≠ (.slice Ao30 t322.length co30 : Value).ownBlock ∧ some k_ ≠ (.slice Ao36 t304.length co36 : Value).ownBlock ∧ some k_ ≠ (.slice Ao41 t309.length co41 : Value).ownBlock) (Kd.R_keptB (HO_298003.out) hkp (fun k_ hk_ hs_ => Or.elim hs_ (fun e_ => (hk_.2.2.1) e_) (fun e_ => (hk_.2.2.2) e_))) (fun k_ hk_ => ⟨hk_.1.1, hk_.1.2.1, hk_.1.2.2.1, hk_.1.2.2.2⟩)); replace HO_304000 := am (Kd.R_mono (ok' := fun k_ => some k_ ≠ (.slice Ao23 t288.length co23 : Value).ownBlock ∧ some k_ ≠ (.slice Ao26 t293.length co26 : Value).ownBlock ∧ some k_ ≠ (.slice Ao36 t304.length co36 : Value).ownBlock ∧ some k_ ≠ (.slice Ao41 t309.length co41 : Value).ownBlock) (Kd.R_keptB (HO_304000.out) hkp (fun k_ hk_ hs_ => Or.elim hs_ (fun e_ => (hk_.2.2.1) e_) (fun e_ => (hk_.2.2.2) e_))) (fun k_ hk_ => ⟨hk_.1.1, hk_.1.2.1, hk_.1.2.2.1, hk_.1.2.2.2⟩)); replace BK281 := am (blk_kept (pk BK281.out) hkp (fun hs_ => Or.elim hs_ (fun e_ => (fun e_ => (Kd.R_ne HO_314000.out BK281.out (by decide)) e_) e_) (fun e_ => (fun e_ => (Kd.R_ne HO_314003.out BK281.out (by decide)) e_) e_))); replace BK297 := am (blk_kept (pk BK297.out) hkp (fun hs_ => Or.elim hs_ (fun e_ => (fun e_ => (Kd.R_ne HO_314000.out BK297.out (by decide)) e_) e_) (fun e_ => (fun e_ => (Kd.R_ne HO_314003.out BK297.out (by decide)) e_) e_))); replace BK303 := am (blk_kept (pk BK303.out) hkp (fun hs_ => Or.elim hs_ (fun e_ => (fun e_ => (Kd.R_ne HO_314000.out BK303.out (by decide)) e_) e_) (fun e_ => (fun e_ => (Kd.R_ne HO_314003.out BK303.out (by decide)) e_) e_))); replace BK313 := am (blk_kept (pk BK313.out) hkp (fun hs_ => Or.elim hs_ (fun e_ => (fun e_ => (Kd.R_ne HO_314000.out BK313.out (by decide)) e_) e_) (fun e_ => (fun e_ => (Kd.R_ne HO_314003.out BK313.out (by decide)) e_) e_))); replace HO_314000 := am (Kd.R_reok rfl hy0 (fun k_ e_ => HO_314000.out.1 k_ e_)); replace HO_314003 := am (Kd.R_reok rfl hy1 (fun k_ e_ => HO_314003.out.1 k_ e_)); replace HB := am (hb); (try clear hb); (try clear hkp); (try clear hy0); (try clear hy1); have hcz80_0 : w79.cell? ⟨gb313, 0, none⟩ = some (.slice Ao36 t304.length co36) := bc BK313.out 0; have hcz80_1 : w79.cell? ⟨gb313, 1, none⟩ = some (.int .i64 t307) := bc BK313.out 1; have hcz80_2 : w79.cell? ⟨gb313, 2, none⟩ = some (.int .i64 t308) := bc BK313.out 2; have hcz80_3 : w79.cell? ⟨gb313, 3, none⟩ = some (.slice Ao41 t309.length co41) := bc BK313.out 3; have hcz80_4 : w79.cell? ⟨gb313, 4, none⟩ = some (.int .i64 t312) := bc BK313.out 4; have hfz80_0 := blk_frozen BK313.out 0; have hfz80_1 := blk_frozen BK313.out 1; have hfz80_2 := blk_frozen BK313.out 2; have hfz80_3 := blk_frozen BK313.out 3; have hfz80_4 := blk_frozen BK313.out 4) | ((with_reducible refine gate_callee (f := 20) rfl ?_); refine goesL_ (some 56) rfl rfl Try.func20 (by kernel_rfl) rfl #[.agg #[.slice Ao36 t325.length co36, .int .i64 t307, .int .i64 t308, .slice Ao41 t326.length co41, .int .i64 t312], .int .i64 1] rfl (by (try simp only [List.map_toArray, List.map_cons, List.map_nil]); first | done | (rw [show t325.length = t304.length from (Kd.R_reads' HO_314000.out).1.symm, show t326.length = t309.length from (Kd.R_reads' HO_314003.out).1.symm] <;> rfl) | rfl | (simp only [List.length_drop, List.length_take]; rfl)) ?_; (with_reducible refine (laws_heldBufOut.calls kj69 _ _ t325 t307 t308 _ _ t326 t312 1 t327 _ ?side1 ?side2 ?side3 ?side4 A73.out).mono ?_); (case side1 => repeat (first | exact (Kd.R_reads' HO_314000.out).2.2 | (with_reducible refine Kd.C_alloc ?_ _) | (with_reducible refine Kd.C_drewN ?_ _) | (with_reducible refine Kd.C_drew ?_))); (case side2 => rw [show t325.length = t304.length from (Kd.R_reads' HO_314000.out).1.symm]; exact (Kd.R_reads' HO_314000.out).2.1); (case side3 => repeat (first | exact (Kd.R_reads' HO_314003.out).2.2 | (with_reducible refine Kd.C_alloc ?_ _) | (with_reducible refine Kd.C_drewN ?_ _) | (with_reducible refine Kd.C_drew ?_))); (case side4 => rw [show t326.length = t309.length from (Kd.R_reads' HO_314003.out).1.symm]; exact (Kd.R_reads' HO_314003.out).2.1); rintro e w81 ⟨rfl, hb⟩; refine ⟨_, rfl, ?_⟩; replace HO_298000 := am (Kd.R_below (kr HO_298000.out) hb); replace HO_298003 := am (Kd.R_below (kr HO_298003.out) hb); replace HO_304000 := am (Kd.R_below (kr HO_304000.out) hb); replace HO_314000 := am (Kd.R_below (kr HO_314000.out) hb); replace HO_314003 := am (Kd.R_below (kr HO_314003.out) hb); replace BK281 := am (blk_below (pk BK281.out) hb); replace BK297 := am (blk_below (pk BK297.out) hb); replace BK303 := am (blk_below (pk BK303.out) hb); replace BK313 := am (blk_below (pk BK313.out) hb); replace HB := am (below_step (bl HB.out) hb); (try clear hb); (try clear hb2); (try clear hk); (try clear hi)))
          (try simp only [Act.put, sa_, s0_, ss_])
          go_cut [] (fun wc => ∃ (kq : Nat), Aside0 (laws_FnExactBufDelete.j4 kq a1 a2 t324 t327 l0_0 a0_1 a0_2 t288 t291 t292 t293 t296 t325 t307 t308 t326 t312 = some r) ∧ Aside0 (kq ≤ kj69) ∧ Aside0 (Kd.R (Kd.int .i64) 2 wc w.heap.size (fun k_ => some k_ ≠ ((.slice Ao26 t293.length co26) : Value).ownBlock ∧ some k_ ≠ ((.slice Ao30 t322.length co30) : Value).ownBlock ∧ some k_ ≠ ((.slice Ao36 t304.length co36) : Value).ownBlock ∧ some k_ ≠ ((.slice Ao41 t309.length co41) : Value).ownBlock) (.slice Ao23 t288.length co23) t288) ∧ Aside0 (Kd.R (Kd.int .i64) 2 wc w.heap.size (fun k_ => some k_ ≠ ((.slice Ao23 t288.length co23) : Value).ownBlock ∧ some k_ ≠ ((.slice Ao30 t322.length co30) : Value).ownBlock ∧ some k_ ≠ ((.slice Ao36 t304.length co36) : Value).ownBlock ∧ some k_ ≠ ((.slice Ao41 t309.length co41) : Value).ownBlock) (.slice Ao26 t293.length co26) t293) ∧ Aside0 (Kd.R (Kd.int .i64) 2 wc w.heap.size (fun k_ => some k_ ≠ ((.slice Ao23 t288.length co23) : Value).ownBlock ∧ some k_ ≠ ((.slice Ao26 t293.length co26) : Value).ownBlock ∧ some k_ ≠ ((.slice Ao36 t304.length co36) : Value).ownBlock ∧ some k_ ≠ ((.slice Ao41 t309.length co41) : Value).ownBlock) (.slice Ao30 t322.length co30) t322) ∧ Aside0 (Kd.R (Kd.int .i64) 2 wc w.heap.size (fun k_ => some k_ ≠ ((.slice Ao23 t288.length co23) : Value).ownBlock ∧ some k_ ≠ ((.slice Ao26 t293.length co26) : Value).ownBlock ∧ some k_ ≠ ((.slice Ao30 t322.length co30) : Value).ownBlock ∧ some k_ ≠ ((.slice Ao41 t309.length co41) : Value).ownBlock) (.slice Ao36 t304.length co36) t325) ∧ Aside0 (Kd.R (Kd.int .i64) 2 wc w.heap.size (fun k_ => some k_ ≠ ((.slice Ao23 t288.length co23) : Value).ownBlock ∧ some k_ ≠ ((.slice Ao26 t293.length co26) : Value).ownBlock ∧ some k_ ≠ ((.slice Ao30 t322.length co30) : Value).ownBlock ∧ some k_ ≠ ((.slice Ao36 t304.length co36) : Value).ownBlock) (.slice Ao41 t309.length co41) t326) ∧ Aside0 (wc.heap[gb281]? = some (.cells #[(.slice A0_0 l0_0.length c0_0), .int .i64 a0_1, .int .i64 a0_2] 24 (0, 0))) ∧ Aside0 (wc.heap[gb297]? = some (.cells #[(.slice Ao23 t288.length co23), .int .i64 t291, .int .i64 t292, (.slice Ao26 t293.length co26), .int .i64 t296] 28 (0, 0))) ∧ Aside0 (wc.heap[gb303]? = some (.cells #[(.slice Ao30 t322.length co30), .int .i64 t301, .int .i64 t302] 26 (0, 0))) ∧ Aside0 (wc.heap[gb313]? = some (.cells #[(.slice Ao36 t304.length co36), .int .i64 t307, .int .i64 t308, (.slice Ao41 t309.length co41), .int .i64 t312] 28 (0, 0))) ∧ Aside0 (Below w.heap.size w wc))
          case first =>
           have H := HC74.out
           clear HC74
           by_cases c82 : t327 < 0
           ·rw [if_pos c82] at H
            have c82b0 : decide (t327 < 0) = true := decide_eq_true c82
            clear c82
            (first | rw [c82b0] | (simp only [i64_w, i32_w]; rw [c82b0]) | (have e9_ := c82b0; unfold bne at e9_; rw [e9_]) | skip)
            obtain rfl := Option.some.inj H
            go_wp2
            go_ret
            exact ⟨by first | rfl | (simp [errW_none, errW_some] <;> rfl) | (simp [*, errW_none, errW_some] <;> rfl), by repeat (first | (with_reducible first | exact HB.out | apply below_alloc | apply pw_below_drewN | apply below_drew1 | refine below_set ?_ GE281.out | refine below_set ?_ GE297.out | refine below_set ?_ GE303.out | refine below_set ?_ GE313.out) | exact HB.out)⟩
           ·rw [if_neg c82] at H
            have c82b0 : decide (t327 < 0) = false := decide_eq_false c82
            clear c82
            (first | rw [c82b0] | (simp only [i64_w, i32_w]; rw [c82b0]) | (have e9_ := c82b0; unfold bne at e9_; rw [e9_]) | skip)
            have H' := Aside0.mk H
            clear H
            go_wp2
            go_meet
            case rel => exact ⟨_, H', ⟨by have := HJ13.out; have := HJ46.out; have := HJ53.out; have := HJ69.out; first | omega | exact Nat.le_refl _⟩, ⟨by (try simp only [hl304000_53]); (with_reducible repeat (first | apply Kd.R_alloc | apply Kd.R_drewN | apply Kd.R_drew)); exact HO_298000.out⟩, ⟨by (try simp only [hl304000_53]); (with_reducible repeat (first | apply Kd.R_alloc | apply Kd.R_drewN | apply Kd.R_drew)); exact HO_298003.out⟩, ⟨by (try simp only [hl304000_53]); (with_reducible repeat (first | apply Kd.R_alloc | apply Kd.R_drewN | apply Kd.R_drew)); exact HO_304000.out⟩, ⟨by (try simp only [hl304000_53]); (with_reducible repeat (first | apply Kd.R_alloc | apply Kd.R_drewN | apply Kd.R_drew)); exact HO_314000.out⟩, ⟨by (try simp only [hl304000_53]); (with_reducible repeat (first | apply Kd.R_alloc | apply Kd.R_drewN | apply Kd.R_drew)); exact HO_314003.out⟩, ⟨by (try simp only [hl304000_53]); (with_reducible repeat (first | refine blk_drewN ?_ _ | refine blk_drew ?_ | refine blk_alloc ?_ _)); exact BK281.out⟩, ⟨by (try simp only [hl304000_53]); (with_reducible repeat (first | refine blk_drewN ?_ _ | refine blk_drew ?_ | refine blk_alloc ?_ _)); exact BK297.out⟩, ⟨by (try simp only [hl304000_53]); (with_reducible repeat (first | refine blk_drewN ?_ _ | refine blk_drew ?_ | refine blk_alloc ?_ _)); exact BK303.out⟩, ⟨by (try simp only [hl304000_53]); (with_reducible repeat (first | refine blk_drewN ?_ _ | refine blk_drew ?_ | refine blk_alloc ?_ _)); exact BK313.out⟩, ⟨by repeat (first | (with_reducible first | exact HB.out | apply below_alloc | apply pw_below_drewN | apply below_drew1 | refine below_set ?_ GE281.out | refine below_set ?_ GE297.out | refine below_set ?_ GE303.out | refine below_set ?_ GE313.out) | exact HB.out)⟩⟩
          case rest =>
           clear HC74
           try clear c1
           try clear c2
           try clear p2
           try clear c3
           try clear c4
           try clear c5
           try clear c5b0
           try clear c6
           try clear c7
           try clear c8
           try clear c9
           try clear c11
           try clear c14
           try clear c15
           try clear c17
           try clear c19
           try clear c20
           try clear c23
           try clear c24
           try clear c31
           try clear c32
           try clear c37
           try clear c38
           try clear c39
           try clear c44
           try clear c52
           try clear c55
           try clear c56
           try clear c57
           try clear c60
           try clear c60b0
           try clear c62
           try clear c63
           try clear c64
           try clear c66
           try clear c67
           try clear c71
           try clear c75
           try clear c76
           try clear c77
           try clear c82
           try clear c82b0
           try clear hcz16_0
           try clear hcz16_1
           try clear hcz16_2
           try clear hcz18_0
           try clear hcz18_1
           try clear hcz18_2
           try clear hcz25_0
           try clear hcz25_1
           try clear hcz25_2
           try clear hcz25_3
           try clear hcz25_4
           try clear hcz27_0
           try clear hcz27_1
           try clear hcz27_2
           try clear hcz33_0
           try clear hcz33_1
           try clear hcz33_2
           try clear hcz40_0
           try clear hcz40_1
           try clear hcz40_2
           try clear hcz40_3
           try clear hcz40_4
           try clear hcz42_0
           try clear hcz42_1
           try clear hcz42_2
           try clear hcz42_3
           try clear hcz42_4
           try clear hcz58_0
           try clear hcz58_1
           try clear hcz58_2
           try clear hcz65_0
           try clear hcz65_1
           try clear hcz65_2
           try clear hcz65_3
           try clear hcz65_4
           try clear hcz68_0
           try clear hcz68_1
           try clear hcz68_2
           try clear hcz68_3
           try clear hcz68_4
           try clear hcz78_0
           try clear hcz78_1
           try clear hcz78_2
           try clear hcz78_3
           try clear hcz78_4
           try clear hcz7_0
           try clear hcz7_1
           try clear hcz7_2
           try clear hcz80_0
           try clear hcz80_1
           try clear hcz80_2
           try clear hcz80_3
           try clear hcz80_4
           try clear hfz16_0
           try clear hfz16_1
           try clear hfz16_2
           try clear hfz18_0
           try clear hfz18_1
           try clear hfz18_2
           try clear hfz25_0
           try clear hfz25_1
           try clear hfz25_2
           try clear hfz25_3
           try clear hfz25_4
           try clear hfz27_0
           try clear hfz27_1
           try clear hfz27_2
           try clear hfz33_0
           try clear hfz33_1
           try clear hfz33_2
           try clear hfz40_0
           try clear hfz40_1
           try clear hfz40_2
           try clear hfz40_3
           try clear hfz40_4
           try clear hfz42_0
           try clear hfz42_1
           try clear hfz42_2
           try clear hfz42_3
           try clear hfz42_4
           try clear hfz58_0
           try clear hfz58_1
           try clear hfz58_2
           try clear hfz65_0
           try clear hfz65_1
           try clear hfz65_2
           try clear hfz65_3
           try clear hfz65_4
           try clear hfz68_0
           try clear hfz68_1
           try clear hfz68_2
           try clear hfz68_3
           try clear hfz68_4
           try clear hfz78_0
           try clear hfz78_1
           try clear hfz78_2
           try clear hfz78_3
           try clear hfz78_4
           try clear hfz7_0
           try clear hfz7_1
           try clear hfz7_2
           try clear hfz80_0
           try clear hfz80_1
           try clear hfz80_2
           try clear hfz80_3
           try clear hfz80_4
           try clear p2
           obtain ⟨kq, HA, HJ73, HO_298000, HO_298003, HO_304000, HO_314000, HO_314003, BK281, BK297, BK303, BK313, HB⟩ := hcut
           have hl314000_73 := (Kd.R_reads' HO_314000.out).1
           rw [hl314000_73] at HO_314000
           (try simp only [hl314000_73])
           (try simp only [hl314000_73] at BK281)
           (try simp only [hl314000_73] at BK297)
           (try simp only [hl314000_73] at BK303)
           (try simp only [hl314000_73] at BK313)
           (try simp only [hl314000_73] at HO_298000)
           (try simp only [hl314000_73] at HO_298003)
           (try simp only [hl314000_73] at HO_304000)
           (try simp only [hl314000_73] at HO_314003)
           have hl314003_73 := (Kd.R_reads' HO_314003.out).1
           rw [hl314003_73] at HO_314003
           (try simp only [hl314003_73])
           (try simp only [hl314003_73] at BK281)
           (try simp only [hl314003_73] at BK297)
           (try simp only [hl314003_73] at BK303)
           (try simp only [hl314003_73] at BK313)
           (try simp only [hl314003_73] at HO_298000)
           (try simp only [hl314003_73] at HO_298003)
           (try simp only [hl314003_73] at HO_304000)
           (try simp only [hl314003_73] at HO_314000)
           cases kq with
           | zero => exact absurd HA.out (by simp [laws_FnExactBufDelete.j4])
           | succ kj73 =>
            have H := HA.out
            clear HA
            simp only [laws_FnExactBufDelete.j4] at H
            by_cases c83 : t327 = t324
            ·rw [if_pos c83] at H
             have c83b0 : (t327 == t324) = true := beq_iff_eq.mpr c83
             have c83b1 : (t327 != t324) = false := bne_eq_false_iff_eq.mpr c83
             clear c83
             replace H := Option.bind_eq_some_iff.mp H
             obtain ⟨⟨t328, t331, t332⟩, A840, H⟩ := H
             replace H : ((impl_BufDelete.f kj73 t328 t331 t332 a1 a2).bind fun bt333 => ((laws_eqBufOut.f kj73 bt333.1 bt333.2.1 bt333.2.2.1 bt333.2.2.2.1 bt333.2.2.2.2 t288 t291 t292 t293 t296).bind fun t343 => (if t343 = true then (laws_FnExactBufDelete.j5 kj73 t324 t325 t307 t308 t326 t312) else (some false)))) = some r := H
             have A84 := Aside0.mk A840
             clear A840
             replace H := Option.bind_eq_some_iff.mp H
             obtain ⟨⟨t333, t336, t337, t338, t341⟩, A850, H⟩ := H
             replace H : ((laws_eqBufOut.f kj73 t333 t336 t337 t338 t341 t288 t291 t292 t293 t296).bind fun t343 => (if t343 = true then (laws_FnExactBufDelete.j5 kj73 t324 t325 t307 t308 t326 t312) else (some false))) = some r := H
             have A85 := Aside0.mk A850
             clear A850
             replace H := Option.bind_eq_some_iff.mp H
             obtain ⟨t343, A860, H⟩ := H
             replace H : (if t343 = true then (laws_FnExactBufDelete.j5 kj73 t324 t325 t307 t308 t326 t312) else (some false)) = some r := H
             have A86 := Aside0.mk A860
             clear A860
             have HC87 := Aside0.mk H
             clear H
             have hnb88 := NB281_297.out
             have hnc88 := NB297_281.out
             have hnb89 := NB281_303.out
             have hnc89 := NB303_281.out
             have hnb90 := NB281_313.out
             have hnc90 := NB313_281.out
             have hcz91_0 : wc.cell? ⟨gb281, 0, none⟩ = some (.slice A0_0 l0_0.length c0_0) := bc BK281.out 0
             have hcz91_1 : wc.cell? ⟨gb281, 1, none⟩ = some (.int .i64 a0_1) := bc BK281.out 1
             have hcz91_2 : wc.cell? ⟨gb281, 2, none⟩ = some (.int .i64 a0_2) := bc BK281.out 2
             have hfz91_0 := blk_frozen BK281.out 0
             have hfz91_1 := blk_frozen BK281.out 1
             have hfz91_2 := blk_frozen BK281.out 2
             go_upto_if 70 with (first | ((with_reducible refine gate_callee (f := 11) rfl ?_); refine gl (some 63) Try.func11 #[.agg #[.slice A0_0 l0_0.length c0_0, .int .i64 a0_1, .int .i64 a0_2]] ?_; (with_reducible refine (laws_toBuf.calls kj73 _ _ l0_0 a0_1 a0_2 t328 t331 t332 _ ?side1 ?side2 A84.out).mono ?_); (case side1 => repeat (first | exact (Kd.C_below HR0_0.out HB.out) | (with_reducible refine Kd.C_alloc ?_ _) | (with_reducible refine Kd.C_drewN ?_ _) | (with_reducible refine Kd.C_drew ?_))); (case side2 => exact HC0_0.out); rintro e w92 ⟨v329, rfl, ho0, hb⟩; refine ⟨_, rfl, ?_⟩; have HO330 := am (Kd.R_lower (Kd.R_new' (Kd.R_new' (Kd.R_new' (Kd.R_new' (Kd.R_new' ho0 (Kd.R_lt (kr HO_298000.out))) (Kd.R_lt (kr HO_298003.out))) (Kd.R_lt (kr HO_304000.out))) (Kd.R_lt (kr HO_314000.out))) (Kd.R_lt (kr HO_314003.out))) (below_size (bl HB.out))); replace HO_298000 := am (Kd.R_elder' (kr HO_298000.out) (Kd.R_base ho0) hb); replace HO_298003 := am (Kd.R_elder' (kr HO_298003.out) (Kd.R_base ho0) hb); replace HO_304000 := am (Kd.R_elder' (kr HO_304000.out) (Kd.R_base ho0) hb); replace HO_314000 := am (Kd.R_elder' (kr HO_314000.out) (Kd.R_base ho0) hb); replace HO_314003 := am (Kd.R_elder' (kr HO_314003.out) (Kd.R_base ho0) hb); replace BK281 := am (blk_below (pk BK281.out) hb); replace BK297 := am (blk_below (pk BK297.out) hb); replace BK303 := am (blk_below (pk BK303.out) hb); replace BK313 := am (blk_below (pk BK313.out) hb); replace HB := am (below_step (bl HB.out) hb); (try clear hb); (try clear hb2); (try clear hk); (try clear hi); (try clear ho0); obtain ⟨Ao93, co93, eo93⟩ := Kd.R_slice HO330.out; subst eo93) | ((with_reducible refine gate_callee (f := 24) rfl ?_); refine gl (some 66) Try.func24 #[.agg #[.slice Ao93 t328.length co93, .int .i64 t331, .int .i64 t332], .int .i64 a1, .int .i64 a2] ?_; (with_reducible refine (impl_BufDelete.calls kj73 _ _ t328 t331 t332 a1 a2 t333 t336 t337 t338 t341 _ ?side1 ?side2 A85.out).mono ?_); (case side1 => repeat (first | exact (Kd.R_reads' HO330.out).2.2 | (with_reducible refine Kd.C_alloc ?_ _) | (with_reducible refine Kd.C_drewN ?_ _) | (with_reducible refine Kd.C_drew ?_))); (case side2 => exact (Kd.R_reads' HO330.out).2.1); rintro e w94 ⟨v334, v339, rfl, ho0, ho1, hb⟩; refine ⟨_, rfl, ?_⟩; have HO335 := am (Kd.R_lower (Kd.R_new' (Kd.R_new' (Kd.R_new' (Kd.R_new' (Kd.R_new' (Kd.R_new' ho0 (Kd.R_lt (kr HO_298000.out))) (Kd.R_lt (kr HO_298003.out))) (Kd.R_lt (kr HO_304000.out))) (Kd.R_lt (kr HO_314000.out))) (Kd.R_lt (kr HO_314003.out))) (Kd.R_lt (kr HO330.out))) (below_size (bl HB.out))); have HO340 := am (Kd.R_lower (Kd.R_new' (Kd.R_new' (Kd.R_new' (Kd.R_new' (Kd.R_new' (Kd.R_new' ho1 (Kd.R_lt (kr HO_298000.out))) (Kd.R_lt (kr HO_298003.out))) (Kd.R_lt (kr HO_304000.out))) (Kd.R_lt (kr HO_314000.out))) (Kd.R_lt (kr HO_314003.out))) (Kd.R_lt (kr HO330.out))) (below_size (bl HB.out))); replace HO_298000 := am (Kd.R_mono (Kd.R_told (Kd.R_told (Kd.R_old (kr HO_298000.out) hb) (Kd.R_base ho0)) (Kd.R_base ho1)) (fun _ h_ => h_.1)); replace HO_298003 := am (Kd.R_mono (Kd.R_told (Kd.R_told (Kd.R_old (kr HO_298003.out) hb) (Kd.R_base ho0)) (Kd.R_base ho1)) (fun _ h_ => h_.1)); replace HO_304000 := am (Kd.R_mono (Kd.R_told (Kd.R_told (Kd.R_old (kr HO_304000.out) hb) (Kd.R_base ho0)) (Kd.R_base ho1)) (fun _ h_ => h_.1)); replace HO_314000 := am (Kd.R_mono (Kd.R_told (Kd.R_told (Kd.R_old (kr HO_314000.out) hb) (Kd.R_base ho0)) (Kd.R_base ho1)) (fun _ h_ => h_.1)); replace HO_314003 := am (Kd.R_mono (Kd.R_told (Kd.R_told (Kd.R_old (kr HO_314003.out) hb) (Kd.R_base ho0)) (Kd.R_base ho1)) (fun _ h_ => h_.1)); replace HO330 := am (Kd.R_mono (Kd.R_told (Kd.R_told (Kd.R_old (kr HO330.out) hb) (Kd.R_base ho0)) (Kd.R_base ho1)) (fun _ h_ => h_.1)); replace BK281 := am (blk_below (pk BK281.out) hb); replace BK297 := am (blk_below (pk BK297.out) hb); replace BK303 := am (blk_below (pk BK303.out) hb); replace BK313 := am (blk_below (pk BK313.out) hb); replace HB := am (below_step (bl HB.out) hb); (try clear hb); (try clear hb2); (try clear hk); (try clear hi); (try clear ho0); (try clear ho1)) | ((with_reducible refine gate_dst (N := 14) rfl ?_); refine box_event ?hg (N := 14) ?hd (cs := #[.slice none 0 0, .int .i64 0, .int .i64 0, .slice none 0 0, .int .i64 0]) (t := 28) ?hr ?_; (case hd => rfl); (case hg => rfl); (case hr => first | (go_simp; done) | (go_simp; rfl)); intro gb342 hg w95 hbox hb; replace HO_298000 := am (Kd.R_below (kr HO_298000.out) hb); replace HO_298003 := am (Kd.R_below (kr HO_298003.out) hb); replace HO_304000 := am (Kd.R_below (kr HO_304000.out) hb); replace HO_314000 := am (Kd.R_below (kr HO_314000.out) hb); replace HO_314003 := am (Kd.R_below (kr HO_314003.out) hb); replace HO330 := am (Kd.R_below (kr HO330.out) hb); replace HO335 := am (Kd.R_below (kr HO335.out) hb); replace HO340 := am (Kd.R_below (kr HO340.out) hb); have BK342 := am (hbox); have GW342 := am ((by rw [hg]; exact (below_size (bl HB.out)) : w.heap.size ≤ gb342)); have GE342 := GW342; replace HB := am (below_step (bl HB.out) hb); have NB281_342 := am ((by rw [hg]; exact Nat.ne_of_lt (blk_lt (pk BK281.out)) : gb281 ≠ gb342)); have NB342_281 := am ((by rw [hg]; exact Nat.ne_of_gt (blk_lt (pk BK281.out)) : gb342 ≠ gb281)); replace BK281 := am (blk_below (pk BK281.out) hb); have NB297_342 := am ((by rw [hg]; exact Nat.ne_of_lt (blk_lt (pk BK297.out)) : gb297 ≠ gb342)); have NB342_297 := am ((by rw [hg]; exact Nat.ne_of_gt (blk_lt (pk BK297.out)) : gb342 ≠ gb297)); replace BK297 := am (blk_below (pk BK297.out) hb); have NB303_342 := am ((by rw [hg]; exact Nat.ne_of_lt (blk_lt (pk BK303.out)) : gb303 ≠ gb342)); have NB342_303 := am ((by rw [hg]; exact Nat.ne_of_gt (blk_lt (pk BK303.out)) : gb342 ≠ gb303)); replace BK303 := am (blk_below (pk BK303.out) hb); have NB313_342 := am ((by rw [hg]; exact Nat.ne_of_lt (blk_lt (pk BK313.out)) : gb313 ≠ gb342)); have NB342_313 := am ((by rw [hg]; exact Nat.ne_of_gt (blk_lt (pk BK313.out)) : gb342 ≠ gb313)); replace BK313 := am (blk_below (pk BK313.out) hb); clear hb hbox hg; obtain ⟨Ao96, co96, eo96⟩ := Kd.R_slice HO335.out; subst eo96; have hnb97 := NB342_281.out; have hnc97 := NB281_342.out; have hnb98 := NB342_297.out; have hnc98 := NB297_342.out; have hnb99 := NB342_303.out; have hnc99 := NB303_342.out; have hnb100 := NB342_313.out; have hnc100 := NB313_342.out; have hcz101_0 : w95.cell? ⟨gb342, 0, none⟩ = some (.slice none 0 0) := bc BK342.out 0; have hcz101_1 : w95.cell? ⟨gb342, 1, none⟩ = some (.int .i64 0) := bc BK342.out 1; have hcz101_2 : w95.cell? ⟨gb342, 2, none⟩ = some (.int .i64 0) := bc BK342.out 2; have hcz101_3 : w95.cell? ⟨gb342, 3, none⟩ = some (.slice none 0 0) := bc BK342.out 3; have hcz101_4 : w95.cell? ⟨gb342, 4, none⟩ = some (.int .i64 0) := bc BK342.out 4; have hfz101_0 := blk_frozen BK342.out 0; have hfz101_1 := blk_frozen BK342.out 1; have hfz101_2 := blk_frozen BK342.out 2; have hfz101_3 := blk_frozen BK342.out 3; have hfz101_4 := blk_frozen BK342.out 4; obtain ⟨Ao102, co102, eo102⟩ := Kd.R_slice HO340.out; subst eo102; have hnb103 := NB297_303.out; have hnc103 := NB303_297.out; have hnb104 := NB297_313.out; have hnc104 := NB313_297.out; have hcz105_0 : w95.cell? ⟨gb297, 0, none⟩ = some (.slice Ao23 t288.length co23) := bc BK297.out 0; have hcz105_1 : w95.cell? ⟨gb297, 1, none⟩ = some (.int .i64 t291) := bc BK297.out 1; have hcz105_2 : w95.cell? ⟨gb297, 2, none⟩ = some (.int .i64 t292) := bc BK297.out 2; have hcz105_3 : w95.cell? ⟨gb297, 3, none⟩ = some (.slice Ao26 t293.length co26) := bc BK297.out 3; have hcz105_4 : w95.cell? ⟨gb297, 4, none⟩ = some (.int .i64 t296) := bc BK297.out 4; have hfz105_0 := blk_frozen BK297.out 0; have hfz105_1 := blk_frozen BK297.out 1; have hfz105_2 := blk_frozen BK297.out 2; have hfz105_3 := blk_frozen BK297.out 3; have hfz105_4 := blk_frozen BK297.out 4) | ((with_reducible refine gate_callee (f := 14) rfl ?_); refine gl (some 69) Try.func14 #[.agg #[.slice Ao96 t333.length co96, .int .i64 t336, .int .i64 t337, .slice Ao102 t338.length co102, .int .i64 t341], .agg #[.slice Ao23 t288.length co23, .int .i64 t291, .int .i64 t292, .slice Ao26 t293.length co26, .int .i64 t296]] ?_; (with_reducible refine (laws_eqBufOut.calls kj73 _ _ t333 t336 t337 _ _ t338 t341 _ _ t288 t291 t292 _ _ t293 t296 t343 _ ?side1 ?side2 ?side3 ?side4 ?side5 ?side6 ?side7 ?side8 A86.out).mono ?_); (case side1 => refine (Kd.R_reads' (e := 2) (base := w.heap.size) (ok := fun k_ => ((((((some k_ ≠ (.slice Ao102 t338.length co102 : Value).ownBlock ∧ some k_ ≠ (.slice Ao23 t288.length co23 : Value).ownBlock) ∧ some k_ ≠ (.slice Ao26 t293.length co26 : Value).ownBlock) ∧ some k_ ≠ (.slice Ao30 t322.length co30 : Value).ownBlock) ∧ some k_ ≠ (.slice Ao36 t325.length co36 : Value).ownBlock) ∧ some k_ ≠ (.slice Ao41 t326.length co41 : Value).ownBlock) ∧ some k_ ≠ (.slice Ao93 t328.length co93 : Value).ownBlock)) (n := t333.length) (c := co96) ?_).2.2; exact (kr ((Kd.R_mono (Kd.R_far (p := ⟨gb342, 4, none⟩) (Kd.R_far (p := ⟨gb342, 3, none⟩) (Kd.R_far (p := ⟨gb342, 2, none⟩) (Kd.R_far (p := ⟨gb342, 1, none⟩) (Kd.R_far (p := ⟨gb342, 0, none⟩) (Kd.R_types HO335.out BK342.out (by decide)) (fun _ hk => hk.2) (.slice Ao96 t333.length co96)) (fun _ hk => hk.2) (.int .i64 t336)) (fun _ hk => hk.2) (.int .i64 t337)) (fun _ hk => hk.2) (.slice Ao102 t338.length co102)) (fun _ hk => hk.2) (.int .i64 t341)) (fun _ h_ => h_.1))))); (case side2 => exact (Kd.R_reads' HO335.out).2.1); (case side3 => refine (Kd.R_reads' (e := 2) (base := w.heap.size) (ok := fun k_ => ((((((some k_ ≠ (.slice Ao96 t333.length co96 : Value).ownBlock ∧ some k_ ≠ (.slice Ao23 t288.length co23 : Value).ownBlock) ∧ some k_ ≠ (.slice Ao26 t293.length co26 : Value).ownBlock) ∧ some k_ ≠ (.slice Ao30 t322.length co30 : Value).ownBlock) ∧ some k_ ≠ (.slice Ao36 t325.length co36 : Value).ownBlock) ∧ some k_ ≠ (.slice Ao41 t326.length co41 : Value).ownBlock) ∧ some k_ ≠ (.slice Ao93 t328.length co93 : Value).ownBlock)) (n := t338.length) (c := co102) ?_).2.2; exact (kr ((Kd.R_mono (Kd.R_far (p := ⟨gb342, 4, none⟩) (Kd.R_far (p := ⟨gb342, 3, none⟩) (Kd.R_far (p := ⟨gb342, 2, none⟩) (Kd.R_far (p := ⟨gb342, 1, none⟩) (Kd.R_far (p := ⟨gb342, 0, none⟩) (Kd.R_types HO340.out BK342.out (by decide)) (fun _ hk => hk.2) (.slice Ao96 t333.length co96)) (fun _ hk => hk.2) (.int .i64 t336)) (fun _ hk => hk.2) (.int .i64 t337)) (fun _ hk => hk.2) (.slice Ao102 t338.length co102)) (fun _ hk => hk.2) (.int .i64 t341)) (fun _ h_ => h_.1))))); (case side4 => exact (Kd.R_reads' HO340.out).2.1); (case side5 => refine (Kd.R_reads' (e := 2) (base := w.heap.size) (ok := fun k_ => ((((some k_ ≠ (.slice Ao26 t293.length co26 : Value).ownBlock ∧ (some k_ ≠ (.slice Ao30 t322.length co30 : Value).ownBlock ∧ (some k_ ≠ (.slice Ao36 t325.length co36 : Value).ownBlock ∧ some k_ ≠ (.slice Ao41 t326.length co41 : Value).ownBlock))) ∧ some k_ ≠ (.slice Ao93 t328.length co93 : Value).ownBlock) ∧ some k_ ≠ (.slice Ao96 t333.length co96 : Value).ownBlock) ∧ some k_ ≠ (.slice Ao102 t338.length co102 : Value).ownBlock)) (n := t288.length) (c := co23) ?_).2.2; exact (kr ((Kd.R_mono (Kd.R_far (p := ⟨gb342, 4, none⟩) (Kd.R_far (p := ⟨gb342, 3, none⟩) (Kd.R_far (p := ⟨gb342, 2, none⟩) (Kd.R_far (p := ⟨gb342, 1, none⟩) (Kd.R_far (p := ⟨gb342, 0, none⟩) (Kd.R_types HO_298000.out BK342.out (by decide)) (fun _ hk => hk.2) (.slice Ao96 t333.length co96)) (fun _ hk => hk.2) (.int .i64 t336)) (fun _ hk => hk.2) (.int .i64 t337)) (fun _ hk => hk.2) (.slice Ao102 t338.length co102)) (fun _ hk => hk.2) (.int .i64 t341)) (fun _ h_ => h_.1))))); (case side6 => exact (Kd.R_reads' HO_298000.out).2.1); (case side7 => refine (Kd.R_reads' (e := 2) (base := w.heap.size) (ok := fun k_ => ((((some k_ ≠ (.slice Ao23 t288.length co23 : Value).ownBlock ∧ (some k_ ≠ (.slice Ao30 t322.length co30 : Value).ownBlock ∧ (some k_ ≠ (.slice Ao36 t325.length co36 : Value).ownBlock ∧ some k_ ≠ (.slice Ao41 t326.length co41 : Value).ownBlock))) ∧ some k_ ≠ (.slice Ao93 t328.length co93 : Value).ownBlock) ∧ some k_ ≠ (.slice Ao96 t333.length co96 : Value).ownBlock) ∧ some k_ ≠ (.slice Ao102 t338.length co102 : Value).ownBlock)) (n := t293.length) (c := co26) ?_).2.2; exact (kr ((Kd.R_mono (Kd.R_far (p := ⟨gb342, 4, none⟩) (Kd.R_far (p := ⟨gb342, 3, none⟩) (Kd.R_far (p := ⟨gb342, 2, none⟩) (Kd.R_far (p := ⟨gb342, 1, none⟩) (Kd.R_far (p := ⟨gb342, 0, none⟩) (Kd.R_types HO_298003.out BK342.out (by decide)) (fun _ hk => hk.2) (.slice Ao96 t333.length co96)) (fun _ hk => hk.2) (.int .i64 t336)) (fun _ hk => hk.2) (.int .i64 t337)) (fun _ hk => hk.2) (.slice Ao102 t338.length co102)) (fun _ hk => hk.2) (.int .i64 t341)) (fun _ h_ => h_.1))))); (case side8 => exact (Kd.R_reads' HO_298003.out).2.1); rintro e w106 ⟨rfl, hb⟩; refine ⟨_, rfl, ?_⟩; replace HO_298000 := am (Kd.R_below (kr ((Kd.R_mono (Kd.R_far (p := ⟨gb342, 4, none⟩) (Kd.R_far (p := ⟨gb342, 3, none⟩) (Kd.R_far (p := ⟨gb342, 2, none⟩) (Kd.R_far (p := ⟨gb342, 1, none⟩) (Kd.R_far (p := ⟨gb342, 0, none⟩) (Kd.R_types HO_298000.out BK342.out (by decide)) (fun _ hk => hk.2) (.slice Ao96 t333.length co96)) (fun _ hk => hk.2) (.int .i64 t336)) (fun _ hk => hk.2) (.int .i64 t337)) (fun _ hk => hk.2) (.slice Ao102 t338.length co102)) (fun _ hk => hk.2) (.int .i64 t341)) (fun _ h_ => h_.1)))) hb); replace HO_298003 := am (Kd.R_below (kr ((Kd.R_mono (Kd.R_far (p := ⟨gb342, 4, none⟩) (Kd.R_far (p := ⟨gb342, 3, none⟩) (Kd.R_far (p := ⟨gb342, 2, none⟩) (Kd.R_far (p := ⟨gb342, 1, none⟩) (Kd.R_far (p := ⟨gb342, 0, none⟩) (Kd.R_types HO_298003.out BK342.out (by decide)) (fun _ hk => hk.2) (.slice Ao96 t333.length co96)) (fun _ hk => hk.2) (.int .i64 t336)) (fun _ hk => hk.2) (.int .i64 t337)) (fun _ hk => hk.2) (.slice Ao102 t338.length co102)) (fun _ hk => hk.2) (.int .i64 t341)) (fun _ h_ => h_.1)))) hb); replace HO_304000 := am (Kd.R_below (kr ((Kd.R_mono (Kd.R_far (p := ⟨gb342, 4, none⟩) (Kd.R_far (p := ⟨gb342, 3, none⟩) (Kd.R_far (p := ⟨gb342, 2, none⟩) (Kd.R_far (p := ⟨gb342, 1, none⟩) (Kd.R_far (p := ⟨gb342, 0, none⟩) (Kd.R_types HO_304000.out BK342.out (by decide)) (fun _ hk => hk.2) (.slice Ao96 t333.length co96)) (fun _ hk => hk.2) (.int .i64 t336)) (fun _ hk => hk.2) (.int .i64 t337)) (fun _ hk => hk.2) (.slice Ao102 t338.length co102)) (fun _ hk => hk.2) (.int .i64 t341)) (fun _ h_ => h_.1)))) hb); replace HO_314000 := am (Kd.R_below (kr ((Kd.R_mono (Kd.R_far (p := ⟨gb342, 4, none⟩) (Kd.R_far (p := ⟨gb342, 3, none⟩) (Kd.R_far (p := ⟨gb342, 2, none⟩) (Kd.R_far (p := ⟨gb342, 1, none⟩) (Kd.R_far (p := ⟨gb342, 0, none⟩) (Kd.R_types HO_314000.out BK342.out (by decide)) (fun _ hk => hk.2) (.slice Ao96 t333.length co96)) (fun _ hk => hk.2) (.int .i64 t336)) (fun _ hk => hk.2) (.int .i64 t337)) (fun _ hk => hk.2) (.slice Ao102 t338.length co102)) (fun _ hk => hk.2) (.int .i64 t341)) (fun _ h_ => h_.1)))) hb); replace HO_314003 := am (Kd.R_below (kr ((Kd.R_mono (Kd.R_far (p := ⟨gb342, 4, none⟩) (Kd.R_far (p := ⟨gb342, 3, none⟩) (Kd.R_far (p := ⟨gb342, 2, none⟩) (Kd.R_far (p := ⟨gb342, 1, none⟩) (Kd.R_far (p := ⟨gb342, 0, none⟩) (Kd.R_types HO_314003.out BK342.out (by decide)) (fun _ hk => hk.2) (.slice Ao96 t333.length co96)) (fun _ hk => hk.2) (.int .i64 t336)) (fun _ hk => hk.2) (.int .i64 t337)) (fun _ hk => hk.2) (.slice Ao102 t338.length co102)) (fun _ hk => hk.2) (.int .i64 t341)) (fun _ h_ => h_.1)))) hb); replace HO330 := am (Kd.R_below (kr ((Kd.R_mono (Kd.R_far (p := ⟨gb342, 4, none⟩) (Kd.R_far (p := ⟨gb342, 3, none⟩) (Kd.R_far (p := ⟨gb342, 2, none⟩) (Kd.R_far (p := ⟨gb342, 1, none⟩) (Kd.R_far (p := ⟨gb342, 0, none⟩) (Kd.R_types HO330.out BK342.out (by decide)) (fun _ hk => hk.2) (.slice Ao96 t333.length co96)) (fun _ hk => hk.2) (.int .i64 t336)) (fun _ hk => hk.2) (.int .i64 t337)) (fun _ hk => hk.2) (.slice Ao102 t338.length co102)) (fun _ hk => hk.2) (.int .i64 t341)) (fun _ h_ => h_.1)))) hb); replace HO335 := am (Kd.R_below (kr ((Kd.R_mono (Kd.R_far (p := ⟨gb342, 4, none⟩) (Kd.R_far (p := ⟨gb342, 3, none⟩) (Kd.R_far (p := ⟨gb342, 2, none⟩) (Kd.R_far (p := ⟨gb342, 1, none⟩) (Kd.R_far (p := ⟨gb342, 0, none⟩) (Kd.R_types HO335.out BK342.out (by decide)) (fun _ hk => hk.2) (.slice Ao96 t333.length co96)) (fun _ hk => hk.2) (.int .i64 t336)) (fun _ hk => hk.2) (.int .i64 t337)) (fun _ hk => hk.2) (.slice Ao102 t338.length co102)) (fun _ hk => hk.2) (.int .i64 t341)) (fun _ h_ => h_.1)))) hb); replace HO340 := am (Kd.R_below (kr ((Kd.R_mono (Kd.R_far (p := ⟨gb342, 4, none⟩) (Kd.R_far (p := ⟨gb342, 3, none⟩) (Kd.R_far (p := ⟨gb342, 2, none⟩) (Kd.R_far (p := ⟨gb342, 1, none⟩) (Kd.R_far (p := ⟨gb342, 0, none⟩) (Kd.R_types HO340.out BK342.out (by decide)) (fun _ hk => hk.2) (.slice Ao96 t333.length co96)) (fun _ hk => hk.2) (.int .i64 t336)) (fun _ hk => hk.2) (.int .i64 t337)) (fun _ hk => hk.2) (.slice Ao102 t338.length co102)) (fun _ hk => hk.2) (.int .i64 t341)) (fun _ h_ => h_.1)))) hb); replace BK281 := am (blk_below (g := gb281) (o := .cells #[.slice A0_0 l0_0.length c0_0, .int .i64 a0_1, .int .i64 a0_2] 24 (0, 0)) (by (with_reducible repeat (first | refine blk_drewN ?_ _ | refine blk_drew ?_ | refine blk_alloc ?_ _)); refine blk_far ?_ NB281_342.out _; (with_reducible repeat (first | refine blk_drewN ?_ _ | refine blk_drew ?_ | refine blk_alloc ?_ _)); refine blk_far ?_ NB281_342.out _; (with_reducible repeat (first | refine blk_drewN ?_ _ | refine blk_drew ?_ | refine blk_alloc ?_ _)); refine blk_far ?_ NB281_342.out _; (with_reducible repeat (first | refine blk_drewN ?_ _ | refine blk_drew ?_ | refine blk_alloc ?_ _)); refine blk_far ?_ NB281_342.out _; (with_reducible repeat (first | refine blk_drewN ?_ _ | refine blk_drew ?_ | refine blk_alloc ?_ _)); refine blk_far ?_ NB281_342.out _; (with_reducible repeat (first | refine blk_drewN ?_ _ | refine blk_drew ?_ | refine blk_alloc ?_ _)); exact BK281.out) hb); replace BK297 := am (blk_below (g := gb297) (o := .cells #[.slice Ao23 t288.length co23, .int .i64 t291, .int .i64 t292, .slice Ao26 t293.length co26, .int .i64 t296] 28 (0, 0)) (by (with_reducible repeat (first | refine blk_drewN ?_ _ | refine blk_drew ?_ | refine blk_alloc ?_ _)); refine blk_far ?_ NB297_342.out _; (with_reducible repeat (first | refine blk_drewN ?_ _ | refine blk_drew ?_ | refine blk_alloc ?_ _)); refine blk_far ?_ NB297_342.out _; (with_reducible repeat (first | refine blk_drewN ?_ _ | refine blk_drew ?_ | refine blk_alloc ?_ _)); refine blk_far ?_ NB297_342.out _; (with_reducible repeat (first | refine blk_drewN ?_ _ | refine blk_drew ?_ | refine blk_alloc ?_ _)); refine blk_far ?_ NB297_342.out _; (with_reducible repeat (first | refine blk_drewN ?_ _ | refine blk_drew ?_ | refine blk_alloc ?_ _)); refine blk_far ?_ NB297_342.out _; (with_reducible repeat (first | refine blk_drewN ?_ _ | refine blk_drew ?_ | refine blk_alloc ?_ _)); exact BK297.out) hb); replace BK303 := am (blk_below (g := gb303) (o := .cells #[.slice Ao30 t322.length co30, .int .i64 t301, .int .i64 t302] 26 (0, 0)) (by (with_reducible repeat (first | refine blk_drewN ?_ _ | refine blk_drew ?_ | refine blk_alloc ?_ _)); refine blk_far ?_ NB303_342.out _; (with_reducible repeat (first | refine blk_drewN ?_ _ | refine blk_drew ?_ | refine blk_alloc ?_ _)); refine blk_far ?_ NB303_342.out _; (with_reducible repeat (first | refine blk_drewN ?_ _ | refine blk_drew ?_ | refine blk_alloc ?_ _)); refine blk_far ?_ NB303_342.out _; (with_reducible repeat (first | refine blk_drewN ?_ _ | refine blk_drew ?_ | refine blk_alloc ?_ _)); refine blk_far ?_ NB303_342.out _; (with_reducible repeat (first | refine blk_drewN ?_ _ | refine blk_drew ?_ | refine blk_alloc ?_ _)); refine blk_far ?_ NB303_342.out _; (with_reducible repeat (first | refine blk_drewN ?_ _ | refine blk_drew ?_ | refine blk_alloc ?_ _)); exact BK303.out) hb); replace BK313 := am (blk_below (g := gb313) (o := .cells #[.slice Ao36 t325.length co36, .int .i64 t307, .int .i64 t308, .slice Ao41 t326.length co41, .int .i64 t312] 28 (0, 0)) (by (with_reducible repeat (first | refine blk_drewN ?_ _ | refine blk_drew ?_ | refine blk_alloc ?_ _)); refine blk_far ?_ NB313_342.out _; (with_reducible repeat (first | refine blk_drewN ?_ _ | refine blk_drew ?_ | refine blk_alloc ?_ _)); refine blk_far ?_ NB313_342.out _; (with_reducible repeat (first | refine blk_drewN ?_ _ | refine blk_drew ?_ | refine blk_alloc ?_ _)); refine blk_far ?_ NB313_342.out _; (with_reducible repeat (first | refine blk_drewN ?_ _ | refine blk_drew ?_ | refine blk_alloc ?_ _)); refine blk_far ?_ NB313_342.out _; (with_reducible repeat (first | refine blk_drewN ?_ _ | refine blk_drew ?_ | refine blk_alloc ?_ _)); refine blk_far ?_ NB313_342.out _; (with_reducible repeat (first | refine blk_drewN ?_ _ | refine blk_drew ?_ | refine blk_alloc ?_ _)); exact BK313.out) hb); replace BK342 := am (blk_below (g := gb342) (o := .cells #[.slice Ao96 t333.length co96, .int .i64 t336, .int .i64 t337, .slice Ao102 t338.length co102, .int .i64 t341] 28 (0, 0)) (by (with_reducible repeat (first | refine blk_drewN ?_ _ | refine blk_drew ?_ | refine blk_alloc ?_ _)); refine blk_put (cs := #[.slice Ao96 t333.length co96, .int .i64 t336, .int .i64 t337, .slice Ao102 t338.length co102, .int .i64 0]) ?_ 4 _ rfl; (with_reducible repeat (first | refine blk_drewN ?_ _ | refine blk_drew ?_ | refine blk_alloc ?_ _)); refine blk_put (cs := #[.slice Ao96 t333.length co96, .int .i64 t336, .int .i64 t337, .slice none 0 0, .int .i64 0]) ?_ 3 _ rfl; (with_reducible repeat (first | refine blk_drewN ?_ _ | refine blk_drew ?_ | refine blk_alloc ?_ _)); refine blk_put (cs := #[.slice Ao96 t333.length co96, .int .i64 t336, .int .i64 0, .slice none 0 0, .int .i64 0]) ?_ 2 _ rfl; (with_reducible repeat (first | refine blk_drewN ?_ _ | refine blk_drew ?_ | refine blk_alloc ?_ _)); refine blk_put (cs := #[.slice Ao96 t333.length co96, .int .i64 0, .int .i64 0, .slice none 0 0, .int .i64 0]) ?_ 1 _ rfl; (with_reducible repeat (first | refine blk_drewN ?_ _ | refine blk_drew ?_ | refine blk_alloc ?_ _)); refine blk_put (cs := #[.slice none 0 0, .int .i64 0, .int .i64 0, .slice none 0 0, .int .i64 0]) ?_ 0 _ rfl; (with_reducible repeat (first | refine blk_drewN ?_ _ | refine blk_drew ?_ | refine blk_alloc ?_ _)); exact BK342.out) hb); replace HB := am (below_step (bl HB.out) hb); (try clear hb); (try clear hb2); (try clear hk); (try clear hi)))
             (try simp only [Act.put, sa_, s0_, ss_])
             go_cut [] (fun wc => ∃ (kq : Nat), Aside0 (laws_FnExactBufDelete.j5 kq t324 t325 t307 t308 t326 t312 = some r) ∧ Aside0 (kq ≤ kj73) ∧ Aside0 (Kd.R (Kd.int .i64) 2 wc w.heap.size (fun k_ => some k_ ≠ ((.slice Ao26 t293.length co26) : Value).ownBlock ∧ some k_ ≠ ((.slice Ao30 t322.length co30) : Value).ownBlock ∧ some k_ ≠ ((.slice Ao36 t325.length co36) : Value).ownBlock ∧ some k_ ≠ ((.slice Ao41 t326.length co41) : Value).ownBlock ∧ some k_ ≠ ((.slice Ao96 t333.length co96) : Value).ownBlock ∧ some k_ ≠ ((.slice Ao102 t338.length co102) : Value).ownBlock) (.slice Ao23 t288.length co23) t288) ∧ Aside0 (Kd.R (Kd.int .i64) 2 wc w.heap.size (fun k_ => some k_ ≠ ((.slice Ao23 t288.length co23) : Value).ownBlock ∧ some k_ ≠ ((.slice Ao30 t322.length co30) : Value).ownBlock ∧ some k_ ≠ ((.slice Ao36 t325.length co36) : Value).ownBlock ∧ some k_ ≠ ((.slice Ao41 t326.length co41) : Value).ownBlock ∧ some k_ ≠ ((.slice Ao96 t333.length co96) : Value).ownBlock ∧ some k_ ≠ ((.slice Ao102 t338.length co102) : Value).ownBlock) (.slice Ao26 t293.length co26) t293) ∧ Aside0 (Kd.R (Kd.int .i64) 2 wc w.heap.size (fun k_ => some k_ ≠ ((.slice Ao23 t288.length co23) : Value).ownBlock ∧ some k_ ≠ ((.slice Ao26 t293.length co26) : Value).ownBlock ∧ some k_ ≠ ((.slice Ao36 t325.length co36) : Value).ownBlock ∧ some k_ ≠ ((.slice Ao41 t326.length co41) : Value).ownBlock ∧ some k_ ≠ ((.slice Ao96 t333.length co96) : Value).ownBlock ∧ some k_ ≠ ((.slice Ao102 t338.length co102) : Value).ownBlock) (.slice Ao30 t322.length co30) t322) ∧ Aside0 (Kd.R (Kd.int .i64) 2 wc w.heap.size (fun k_ => some k_ ≠ ((.slice Ao23 t288.length co23) : Value).ownBlock ∧ some k_ ≠ ((.slice Ao26 t293.length co26) : Value).ownBlock ∧ some k_ ≠ ((.slice Ao30 t322.length co30) : Value).ownBlock ∧ some k_ ≠ ((.slice Ao41 t326.length co41) : Value).ownBlock ∧ some k_ ≠ ((.slice Ao96 t333.length co96) : Value).ownBlock ∧ some k_ ≠ ((.slice Ao102 t338.length co102) : Value).ownBlock) (.slice Ao36 t325.length co36) t325) ∧ Aside0 (Kd.R (Kd.int .i64) 2 wc w.heap.size (fun k_ => some k_ ≠ ((.slice Ao23 t288.length co23) : Value).ownBlock ∧ some k_ ≠ ((.slice Ao26 t293.length co26) : Value).ownBlock ∧ some k_ ≠ ((.slice Ao30 t322.length co30) : Value).ownBlock ∧ some k_ ≠ ((.slice Ao36 t325.length co36) : Value).ownBlock ∧ some k_ ≠ ((.slice Ao96 t333.length co96) : Value).ownBlock ∧ some k_ ≠ ((.slice Ao102 t338.length co102) : Value).ownBlock) (.slice Ao41 t326.length co41) t326) ∧ Aside0 (Kd.R (Kd.int .i64) 2 wc w.heap.size (fun k_ => some k_ ≠ ((.slice Ao23 t288.length co23) : Value).ownBlock ∧ some k_ ≠ ((.slice Ao26 t293.length co26) : Value).ownBlock ∧ some k_ ≠ ((.slice Ao30 t322.length co30) : Value).ownBlock ∧ some k_ ≠ ((.slice Ao36 t325.length co36) : Value).ownBlock ∧ some k_ ≠ ((.slice Ao41 t326.length co41) : Value).ownBlock ∧ some k_ ≠ ((.slice Ao102 t338.length co102) : Value).ownBlock) (.slice Ao96 t333.length co96) t333) ∧ Aside0 (Kd.R (Kd.int .i64) 2 wc w.heap.size (fun k_ => some k_ ≠ ((.slice Ao23 t288.length co23) : Value).ownBlock ∧ some k_ ≠ ((.slice Ao26 t293.length co26) : Value).ownBlock ∧ some k_ ≠ ((.slice Ao30 t322.length co30) : Value).ownBlock ∧ some k_ ≠ ((.slice Ao36 t325.length co36) : Value).ownBlock ∧ some k_ ≠ ((.slice Ao41 t326.length co41) : Value).ownBlock ∧ some k_ ≠ ((.slice Ao96 t333.length co96) : Value).ownBlock) (.slice Ao102 t338.length co102) t338) ∧ Aside0 (wc.heap[gb281]? = some (.cells #[(.slice A0_0 l0_0.length c0_0), .int .i64 a0_1, .int .i64 a0_2] 24 (0, 0))) ∧ Aside0 (wc.heap[gb297]? = some (.cells #[(.slice Ao23 t288.length co23), .int .i64 t291, .int .i64 t292, (.slice Ao26 t293.length co26), .int .i64 t296] 28 (0, 0))) ∧ Aside0 (wc.heap[gb303]? = some (.cells #[(.slice Ao30 t322.length co30), .int .i64 t301, .int .i64 t302] 26 (0, 0))) ∧ Aside0 (wc.heap[gb313]? = some (.cells #[(.slice Ao36 t325.length co36), .int .i64 t307, .int .i64 t308, (.slice Ao41 t326.length co41), .int .i64 t312] 28 (0, 0))) ∧ Aside0 (wc.heap[gb342]? = some (.cells #[(.slice Ao96 t333.length co96), .int .i64 t336, .int .i64 t337, (.slice Ao102 t338.length co102), .int .i64 t341] 28 (0, 0))) ∧ Aside0 (Below w.heap.size w wc))
             case first =>
              have H := HC87.out
              clear HC87
              by_cases c107 : t343 = true
              ·subst c107
               have H1 : (laws_FnExactBufDelete.j5 kj73 t324 t325 t307 t308 t326 t312) = some r := by rw [if_pos rfl] at H; exact H
               clear H
               have H := H1
               clear H1
               have H' := Aside0.mk H
               clear H
               go_wp2
               go_meet
               case rel => exact ⟨_, H', ⟨by have := HJ13.out; have := HJ46.out; have := HJ53.out; have := HJ69.out; have := HJ73.out; first | omega | exact Nat.le_refl _⟩, ⟨by (try simp only [hl304000_53]); (try simp only [hl314000_73]); (try simp only [hl314003_73]); (with_reducible repeat (first | apply Kd.R_alloc | apply Kd.R_drewN | apply Kd.R_drew)); exact Kd.R_mono HO_298000.out (fun _ hk => ⟨hk.1.1.1.1, ⟨hk.1.1.1.2.1, ⟨hk.1.1.1.2.2.1, ⟨hk.1.1.1.2.2.2, ⟨hk.1.2, hk.2⟩⟩⟩⟩⟩)⟩, ⟨by (try simp only [hl304000_53]); (try simp only [hl314000_73]); (try simp only [hl314003_73]); (with_reducible repeat (first | apply Kd.R_alloc | apply Kd.R_drewN | apply Kd.R_drew)); exact Kd.R_mono HO_298003.out (fun _ hk => ⟨hk.1.1.1.1, ⟨hk.1.1.1.2.1, ⟨hk.1.1.1.2.2.1, ⟨hk.1.1.1.2.2.2, ⟨hk.1.2, hk.2⟩⟩⟩⟩⟩)⟩, ⟨by (try simp only [hl304000_53]); (try simp only [hl314000_73]); (try simp only [hl314003_73]); (with_reducible repeat (first | apply Kd.R_alloc | apply Kd.R_drewN | apply Kd.R_drew)); exact Kd.R_mono HO_304000.out (fun _ hk => ⟨hk.1.1.1.1, ⟨hk.1.1.1.2.1, ⟨hk.1.1.1.2.2.1, ⟨hk.1.1.1.2.2.2, ⟨hk.1.2, hk.2⟩⟩⟩⟩⟩)⟩, ⟨by (try simp only [hl304000_53]); (try simp only [hl314000_73]); (try simp only [hl314003_73]); (with_reducible repeat (first | apply Kd.R_alloc | apply Kd.R_drewN | apply Kd.R_drew)); exact Kd.R_mono HO_314000.out (fun _ hk => ⟨hk.1.1.1.1, ⟨hk.1.1.1.2.1, ⟨hk.1.1.1.2.2.1, ⟨hk.1.1.1.2.2.2, ⟨hk.1.2, hk.2⟩⟩⟩⟩⟩)⟩, ⟨by (try simp only [hl304000_53]); (try simp only [hl314000_73]); (try simp only [hl314003_73]); (with_reducible repeat (first | apply Kd.R_alloc | apply Kd.R_drewN | apply Kd.R_drew)); exact Kd.R_mono HO_314003.out (fun _ hk => ⟨hk.1.1.1.1, ⟨hk.1.1.1.2.1, ⟨hk.1.1.1.2.2.1, ⟨hk.1.1.1.2.2.2, ⟨hk.1.2, hk.2⟩⟩⟩⟩⟩)⟩, ⟨by (try simp only [hl304000_53]); (try simp only [hl314000_73]); (try simp only [hl314003_73]); (with_reducible repeat (first | apply Kd.R_alloc | apply Kd.R_drewN | apply Kd.R_drew)); exact Kd.R_mono HO335.out (fun _ hk => ⟨hk.1.1.1.1.1.2, ⟨hk.1.1.1.1.2, ⟨hk.1.1.1.2, ⟨hk.1.1.2, ⟨hk.1.2, hk.1.1.1.1.1.1⟩⟩⟩⟩⟩)⟩, ⟨by (try simp only [hl304000_53]); (try simp only [hl314000_73]); (try simp only [hl314003_73]); (with_reducible repeat (first | apply Kd.R_alloc | apply Kd.R_drewN | apply Kd.R_drew)); exact Kd.R_mono HO340.out (fun _ hk => ⟨hk.1.1.1.1.1.2, ⟨hk.1.1.1.1.2, ⟨hk.1.1.1.2, ⟨hk.1.1.2, ⟨hk.1.2, hk.1.1.1.1.1.1⟩⟩⟩⟩⟩)⟩, ⟨by (try simp only [hl304000_53]); (try simp only [hl314000_73]); (try simp only [hl314003_73]); (with_reducible repeat (first | refine blk_drewN ?_ _ | refine blk_drew ?_ | refine blk_alloc ?_ _)); exact BK281.out⟩, ⟨by (try simp only [hl304000_53]); (try simp only [hl314000_73]); (try simp only [hl314003_73]); (with_reducible repeat (first | refine blk_drewN ?_ _ | refine blk_drew ?_ | refine blk_alloc ?_ _)); exact BK297.out⟩, ⟨by (try simp only [hl304000_53]); (try simp only [hl314000_73]); (try simp only [hl314003_73]); (with_reducible repeat (first | refine blk_drewN ?_ _ | refine blk_drew ?_ | refine blk_alloc ?_ _)); exact BK303.out⟩, ⟨by (try simp only [hl304000_53]); (try simp only [hl314000_73]); (try simp only [hl314003_73]); (with_reducible repeat (first | refine blk_drewN ?_ _ | refine blk_drew ?_ | refine blk_alloc ?_ _)); exact BK313.out⟩, ⟨by (try simp only [hl304000_53]); (try simp only [hl314000_73]); (try simp only [hl314003_73]); (with_reducible repeat (first | refine blk_drewN ?_ _ | refine blk_drew ?_ | refine blk_alloc ?_ _)); exact BK342.out⟩, ⟨by repeat (first | (with_reducible first | exact HB.out | apply below_alloc | apply pw_below_drewN | apply below_drew1 | refine below_set ?_ GE281.out | refine below_set ?_ GE297.out | refine below_set ?_ GE303.out | refine below_set ?_ GE313.out | refine below_set ?_ GE342.out) | exact HB.out)⟩⟩
              ·replace c107 := Bool.eq_false_iff.mpr c107
               subst c107
               have H1 : (some false) = some r := by rw [if_neg (show ¬ (false = true) by decide)] at H; exact H
               clear H
               have H := H1
               clear H1
               obtain rfl := Option.some.inj H
               go_wp2
               go_ret
               exact ⟨by first | rfl | (simp [errW_none, errW_some] <;> rfl) | (simp [*, errW_none, errW_some] <;> rfl), by repeat (first | (with_reducible first | exact HB.out | apply below_alloc | apply pw_below_drewN | apply below_drew1 | refine below_set ?_ GE281.out | refine below_set ?_ GE297.out | refine below_set ?_ GE303.out | refine below_set ?_ GE313.out | refine below_set ?_ GE342.out) | exact HB.out)⟩
             case rest =>
              clear HC87
              try clear c1
              try clear c2
              try clear p2
              try clear c3
              try clear c4
              try clear c5
              try clear c5b0
              try clear c6
              try clear c7
              try clear c8
              try clear c9
              try clear c10
              try clear c11
              try clear c14
              try clear c15
              try clear c17
              try clear c19
              try clear c20
              try clear c23
              try clear c24
              try clear c31
              try clear c32
              try clear c37
              try clear c38
              try clear c39
              try clear c44
              try clear c52
              try clear c55
              try clear c56
              try clear c57
              try clear c60
              try clear c60b0
              try clear c62
              try clear c63
              try clear c64
              try clear c66
              try clear c67
              try clear c71
              try clear c75
              try clear c76
              try clear c77
              try clear c82
              try clear c82b0
              try clear c83
              try clear c83b0
              try clear c83b1
              try clear c88
              try clear c89
              try clear c90
              try clear c97
              try clear c98
              try clear c99
              try clear c100
              try clear c103
              try clear c104
              try clear c107
              try clear hcz101_0
              try clear hcz101_1
              try clear hcz101_2
              try clear hcz101_3
              try clear hcz101_4
              try clear hcz105_0
              try clear hcz105_1
              try clear hcz105_2
              try clear hcz105_3
              try clear hcz105_4
              try clear hcz16_0
              try clear hcz16_1
              try clear hcz16_2
              try clear hcz18_0
              try clear hcz18_1
              try clear hcz18_2
              try clear hcz25_0
              try clear hcz25_1
              try clear hcz25_2
              try clear hcz25_3
              try clear hcz25_4
              try clear hcz27_0
              try clear hcz27_1
              try clear hcz27_2
              try clear hcz33_0
              try clear hcz33_1
              try clear hcz33_2
              try clear hcz40_0
              try clear hcz40_1
              try clear hcz40_2
              try clear hcz40_3
              try clear hcz40_4
              try clear hcz42_0
              try clear hcz42_1
              try clear hcz42_2
              try clear hcz42_3
              try clear hcz42_4
              try clear hcz58_0
              try clear hcz58_1
              try clear hcz58_2
              try clear hcz65_0
              try clear hcz65_1
              try clear hcz65_2
              try clear hcz65_3
              try clear hcz65_4
              try clear hcz68_0
              try clear hcz68_1
              try clear hcz68_2
              try clear hcz68_3
              try clear hcz68_4
              try clear hcz78_0
              try clear hcz78_1
              try clear hcz78_2
              try clear hcz78_3
              try clear hcz78_4
              try clear hcz7_0
              try clear hcz7_1
              try clear hcz7_2
              try clear hcz80_0
              try clear hcz80_1
              try clear hcz80_2
              try clear hcz80_3
              try clear hcz80_4
              try clear hcz91_0
              try clear hcz91_1
              try clear hcz91_2
              try clear hfz101_0
              try clear hfz101_1
              try clear hfz101_2
              try clear hfz101_3
              try clear hfz101_4
              try clear hfz105_0
              try clear hfz105_1
              try clear hfz105_2
              try clear hfz105_3
              try clear hfz105_4
              try clear hfz16_0
              try clear hfz16_1
              try clear hfz16_2
              try clear hfz18_0
              try clear hfz18_1
              try clear hfz18_2
              try clear hfz25_0
              try clear hfz25_1
              try clear hfz25_2
              try clear hfz25_3
              try clear hfz25_4
              try clear hfz27_0
              try clear hfz27_1
              try clear hfz27_2
              try clear hfz33_0
              try clear hfz33_1
              try clear hfz33_2
              try clear hfz40_0
              try clear hfz40_1
              try clear hfz40_2
              try clear hfz40_3
              try clear hfz40_4
              try clear hfz42_0
              try clear hfz42_1
              try clear hfz42_2
              try clear hfz42_3
              try clear hfz42_4
              try clear hfz58_0
              try clear hfz58_1
              try clear hfz58_2
              try clear hfz65_0
              try clear hfz65_1
              try clear hfz65_2
              try clear hfz65_3
              try clear hfz65_4
              try clear hfz68_0
              try clear hfz68_1
              try clear hfz68_2
              try clear hfz68_3
              try clear hfz68_4
              try clear hfz78_0
              try clear hfz78_1
              try clear hfz78_2
              try clear hfz78_3
              try clear hfz78_4
              try clear hfz7_0
              try clear hfz7_1
              try clear hfz7_2
              try clear hfz80_0
              try clear hfz80_1
              try clear hfz80_2
              try clear hfz80_3
              try clear hfz80_4
              try clear hfz91_0
              try clear hfz91_1
              try clear hfz91_2
              try clear p2
              obtain ⟨kq, HA, HJ86, HO_298000, HO_298003, HO_304000, HO_314000, HO_314003, HO_343000, HO_343003, BK281, BK297, BK303, BK313, BK342, HB⟩ := hcut
              cases kq with
              | zero => exact absurd HA.out (by simp [laws_FnExactBufDelete.j5])
              | succ kj86 =>
               have H := HA.out
               clear HA
               simp only [laws_FnExactBufDelete.j5] at H
               replace H := Option.bind_eq_some_iff.mp H
               obtain ⟨t344, A1080, H⟩ := H
               replace H : (if t344 < 0 then (some false) else (if t344 = t324 then (some true) else (some false))) = some r := H
               have A108 := Aside0.mk A1080
               clear A1080
               by_cases c109 : t344 < 0
               ·rw [if_pos c109] at H
                have c109b0 : decide (t344 < 0) = true := decide_eq_true c109
                clear c109
                obtain rfl := Option.some.inj H
                have hnb110 := NB313_281.out
                have hnc110 := NB281_313.out
                have hnb111 := NB313_297.out
                have hnc111 := NB297_313.out
                have hnb112 := NB313_303.out
                have hnc112 := NB303_313.out
                have hnb113 := NB313_342.out
                have hnc113 := NB342_313.out
                have hcz114_0 : wc.cell? ⟨gb313, 0, none⟩ = some (.slice Ao36 t325.length co36) := bc BK313.out 0
                have hcz114_1 : wc.cell? ⟨gb313, 1, none⟩ = some (.int .i64 t307) := bc BK313.out 1
                have hcz114_2 : wc.cell? ⟨gb313, 2, none⟩ = some (.int .i64 t308) := bc BK313.out 2
                have hcz114_3 : wc.cell? ⟨gb313, 3, none⟩ = some (.slice Ao41 t326.length co41) := bc BK313.out 3
                have hcz114_4 : wc.cell? ⟨gb313, 4, none⟩ = some (.int .i64 t312) := bc BK313.out 4
                have hfz114_0 := blk_frozen BK313.out 0
                have hfz114_1 := blk_frozen BK313.out 1
                have hfz114_2 := blk_frozen BK313.out 2
                have hfz114_3 := blk_frozen BK313.out 3
                have hfz114_4 := blk_frozen BK313.out 4
                go_wp2_with (first | ((with_reducible refine gate_callee (f := 20) rfl ?_); refine gl (some 73) Try.func20 #[.agg #[.slice Ao36 t325.length co36, .int .i64 t307, .int .i64 t308, .slice Ao41 t326.length co41, .int .i64 t312], .int .i64 1] ?_; (with_reducible refine (laws_heldBufOut.calls kj86 _ _ t325 t307 t308 _ _ t326 t312 1 t344 _ ?side1 ?side2 ?side3 ?side4 A108.out).mono ?_); (case side1 => repeat (first | exact (Kd.R_reads' HO_314000.out).2.2 | (with_reducible refine Kd.C_alloc ?_ _) | (with_reducible refine Kd.C_drewN ?_ _) | (with_reducible refine Kd.C_drew ?_))); (case side2 => exact (Kd.R_reads' HO_314000.out).2.1); (case side3 => repeat (first | exact (Kd.R_reads' HO_314003.out).2.2 | (with_reducible refine Kd.C_alloc ?_ _) | (with_reducible refine Kd.C_drewN ?_ _) | (with_reducible refine Kd.C_drew ?_))); (case side4 => exact (Kd.R_reads' HO_314003.out).2.1); rintro e w115 ⟨rfl, hb⟩; refine ⟨_, rfl, ?_⟩; replace HO_298000 := am (Kd.R_below (kr HO_298000.out) hb); replace HO_298003 := am (Kd.R_below (kr HO_298003.out) hb); replace HO_304000 := am (Kd.R_below (kr HO_304000.out) hb); replace HO_314000 := am (Kd.R_below (kr HO_314000.out) hb); replace HO_314003 := am (Kd.R_below (kr HO_314003.out) hb); replace HO_343000 := am (Kd.R_below (kr HO_343000.out) hb); replace HO_343003 := am (Kd.R_below (kr HO_343003.out) hb); replace BK281 := am (blk_below (pk BK281.out) hb); replace BK297 := am (blk_below (pk BK297.out) hb); replace BK303 := am (blk_below (pk BK303.out) hb); replace BK313 := am (blk_below (pk BK313.out) hb); replace BK342 := am (blk_below (pk BK342.out) hb); replace HB := am (below_step (bl HB.out) hb); (try clear hb); (try clear hb2); (try clear hk); (try clear hi)))
                go_ret
                exact ⟨by first | rfl | (simp [errW_none, errW_some] <;> rfl) | (simp [*, errW_none, errW_some] <;> rfl), by repeat (first | (with_reducible first | exact HB.out | apply below_alloc | apply pw_below_drewN | apply below_drew1 | refine below_set ?_ GE281.out | refine below_set ?_ GE297.out | refine below_set ?_ GE303.out | refine below_set ?_ GE313.out | refine below_set ?_ GE342.out) | exact HB.out)⟩
               ·rw [if_neg c109] at H
                have c109b0 : decide (t344 < 0) = false := decide_eq_false c109
                clear c109
                by_cases c116 : t344 = t324
                ·rw [if_pos c116] at H
                 have c116b0 : (t344 == t324) = true := beq_iff_eq.mpr c116
                 have c116b1 : (t344 != t324) = false := bne_eq_false_iff_eq.mpr c116
                 clear c116
                 obtain rfl := Option.some.inj H
                 have hnb117 := NB313_281.out
                 have hnc117 := NB281_313.out
                 have hnb118 := NB313_297.out
                 have hnc118 := NB297_313.out
                 have hnb119 := NB313_303.out
                 have hnc119 := NB303_313.out
                 have hnb120 := NB313_342.out
                 have hnc120 := NB342_313.out
                 have hcz121_0 : wc.cell? ⟨gb313, 0, none⟩ = some (.slice Ao36 t325.length co36) := bc BK313.out 0
                 have hcz121_1 : wc.cell? ⟨gb313, 1, none⟩ = some (.int .i64 t307) := bc BK313.out 1
                 have hcz121_2 : wc.cell? ⟨gb313, 2, none⟩ = some (.int .i64 t308) := bc BK313.out 2
                 have hcz121_3 : wc.cell? ⟨gb313, 3, none⟩ = some (.slice Ao41 t326.length co41) := bc BK313.out 3
                 have hcz121_4 : wc.cell? ⟨gb313, 4, none⟩ = some (.int .i64 t312) := bc BK313.out 4
                 have hfz121_0 := blk_frozen BK313.out 0
                 have hfz121_1 := blk_frozen BK313.out 1
                 have hfz121_2 := blk_frozen BK313.out 2
                 have hfz121_3 := blk_frozen BK313.out 3
                 have hfz121_4 := blk_frozen BK313.out 4
                 go_wp2_with (first | ((with_reducible refine gate_callee (f := 20) rfl ?_); refine gl (some 73) Try.func20 #[.agg #[.slice Ao36 t325.length co36, .int .i64 t307, .int .i64 t308, .slice Ao41 t326.length co41, .int .i64 t312], .int .i64 1] ?_; (with_reducible refine (laws_heldBufOut.calls kj86 _ _ t325 t307 t308 _ _ t326 t312 1 t344 _ ?side1 ?side2 ?side3 ?side4 A108.out).mono ?_); (case side1 => repeat (first | exact (Kd.R_reads' HO_314000.out).2.2 | (with_reducible refine Kd.C_alloc ?_ _) | (with_reducible refine Kd.C_drewN ?_ _) | (with_reducible refine Kd.C_drew ?_))); (case side2 => exact (Kd.R_reads' HO_314000.out).2.1); (case side3 => repeat (first | exact (Kd.R_reads' HO_314003.out).2.2 | (with_reducible refine Kd.C_alloc ?_ _) | (with_reducible refine Kd.C_drewN ?_ _) | (with_reducible refine Kd.C_drew ?_))); (case side4 => exact (Kd.R_reads' HO_314003.out).2.1); rintro e w122 ⟨rfl, hb⟩; refine ⟨_, rfl, ?_⟩; replace HO_298000 := am (Kd.R_below (kr HO_298000.out) hb); replace HO_298003 := am (Kd.R_below (kr HO_298003.out) hb); replace HO_304000 := am (Kd.R_below (kr HO_304000.out) hb); replace HO_314000 := am (Kd.R_below (kr HO_314000.out) hb); replace HO_314003 := am (Kd.R_below (kr HO_314003.out) hb); replace HO_343000 := am (Kd.R_below (kr HO_343000.out) hb); replace HO_343003 := am (Kd.R_below (kr HO_343003.out) hb); replace BK281 := am (blk_below (pk BK281.out) hb); replace BK297 := am (blk_below (pk BK297.out) hb); replace BK303 := am (blk_below (pk BK303.out) hb); replace BK313 := am (blk_below (pk BK313.out) hb); replace BK342 := am (blk_below (pk BK342.out) hb); replace HB := am (below_step (bl HB.out) hb); (try clear hb); (try clear hb2); (try clear hk); (try clear hi)))
                 go_ret
                 exact ⟨by first | rfl | (simp [errW_none, errW_some] <;> rfl) | (simp [*, errW_none, errW_some] <;> rfl), by repeat (first | (with_reducible first | exact HB.out | apply below_alloc | apply pw_below_drewN | apply below_drew1 | refine below_set ?_ GE281.out | refine below_set ?_ GE297.out | refine below_set ?_ GE303.out | refine below_set ?_ GE313.out | refine below_set ?_ GE342.out) | exact HB.out)⟩
                ·rw [if_neg c116] at H
                 have c116b0 : (t344 == t324) = false := beq_eq_false_iff_ne.mpr c116
                 have c116b1 : (t344 != t324) = true := bne_iff_ne.mpr c116
                 obtain rfl := Option.some.inj H
                 have hnb123 := NB313_281.out
                 have hnc123 := NB281_313.out
                 have hnb124 := NB313_297.out
                 have hnc124 := NB297_313.out
                 have hnb125 := NB313_303.out
                 have hnc125 := NB303_313.out
                 have hnb126 := NB313_342.out
                 have hnc126 := NB342_313.out
                 have hcz127_0 : wc.cell? ⟨gb313, 0, none⟩ = some (.slice Ao36 t325.length co36) := bc BK313.out 0
                 have hcz127_1 : wc.cell? ⟨gb313, 1, none⟩ = some (.int .i64 t307) := bc BK313.out 1
                 have hcz127_2 : wc.cell? ⟨gb313, 2, none⟩ = some (.int .i64 t308) := bc BK313.out 2
                 have hcz127_3 : wc.cell? ⟨gb313, 3, none⟩ = some (.slice Ao41 t326.length co41) := bc BK313.out 3
                 have hcz127_4 : wc.cell? ⟨gb313, 4, none⟩ = some (.int .i64 t312) := bc BK313.out 4
                 have hfz127_0 := blk_frozen BK313.out 0
                 have hfz127_1 := blk_frozen BK313.out 1
                 have hfz127_2 := blk_frozen BK313.out 2
                 have hfz127_3 := blk_frozen BK313.out 3
                 have hfz127_4 := blk_frozen BK313.out 4
                 go_wp2_with (first | ((with_reducible refine gate_callee (f := 20) rfl ?_); refine gl (some 73) Try.func20 #[.agg #[.slice Ao36 t325.length co36, .int .i64 t307, .int .i64 t308, .slice Ao41 t326.length co41, .int .i64 t312], .int .i64 1] ?_; (with_reducible refine (laws_heldBufOut.calls kj86 _ _ t325 t307 t308 _ _ t326 t312 1 t344 _ ?side1 ?side2 ?side3 ?side4 A108.out).mono ?_); (case side1 => repeat (first | exact (Kd.R_reads' HO_314000.out).2.2 | (with_reducible refine Kd.C_alloc ?_ _) | (with_reducible refine Kd.C_drewN ?_ _) | (with_reducible refine Kd.C_drew ?_))); (case side2 => exact (Kd.R_reads' HO_314000.out).2.1); (case side3 => repeat (first | exact (Kd.R_reads' HO_314003.out).2.2 | (with_reducible refine Kd.C_alloc ?_ _) | (with_reducible refine Kd.C_drewN ?_ _) | (with_reducible refine Kd.C_drew ?_))); (case side4 => exact (Kd.R_reads' HO_314003.out).2.1); rintro e w128 ⟨rfl, hb⟩; refine ⟨_, rfl, ?_⟩; replace HO_298000 := am (Kd.R_below (kr HO_298000.out) hb); replace HO_298003 := am (Kd.R_below (kr HO_298003.out) hb); replace HO_304000 := am (Kd.R_below (kr HO_304000.out) hb); replace HO_314000 := am (Kd.R_below (kr HO_314000.out) hb); replace HO_314003 := am (Kd.R_below (kr HO_314003.out) hb); replace HO_343000 := am (Kd.R_below (kr HO_343000.out) hb); replace HO_343003 := am (Kd.R_below (kr HO_343003.out) hb); replace BK281 := am (blk_below (pk BK281.out) hb); replace BK297 := am (blk_below (pk BK297.out) hb); replace BK303 := am (blk_below (pk BK303.out) hb); replace BK313 := am (blk_below (pk BK313.out) hb); replace BK342 := am (blk_below (pk BK342.out) hb); replace HB := am (below_step (bl HB.out) hb); (try clear hb); (try clear hb2); (try clear hk); (try clear hi)))
                 go_ret
                 exact ⟨by first | rfl | (simp [errW_none, errW_some] <;> rfl) | (simp [*, errW_none, errW_some] <;> rfl), by repeat (first | (with_reducible first | exact HB.out | apply below_alloc | apply pw_below_drewN | apply below_drew1 | refine below_set ?_ GE281.out | refine below_set ?_ GE297.out | refine below_set ?_ GE303.out | refine below_set ?_ GE313.out | refine below_set ?_ GE342.out) | exact HB.out)⟩
            ·rw [if_neg c83] at H
             have c83b0 : (t327 == t324) = false := beq_eq_false_iff_ne.mpr c83
             have c83b1 : (t327 != t324) = true := bne_iff_ne.mpr c83
             obtain rfl := Option.some.inj H
             go_wp2
             go_ret
             exact ⟨by first | rfl | (simp [errW_none, errW_some] <;> rfl) | (simp [*, errW_none, errW_some] <;> rfl), by repeat (first | (with_reducible first | exact HB.out | apply below_alloc | apply pw_below_drewN | apply below_drew1 | refine below_set ?_ GE281.out | refine below_set ?_ GE297.out | refine below_set ?_ GE303.out | refine below_set ?_ GE313.out) | exact HB.out)⟩

/-- THE ONE PURE STATEMENT of laws_FnExactBufDelete. -/
def laws_FnExactBufDelete.Pure : Prop := ∀ (l0_0 : List Int) (a0_1 : Int) (a0_2 : Int) (a1 : Int) (a2 : Int), ((l0_0.length ≤ maxLen ∧ ∀ y0_ ∈ l0_0, (Lit.int .i64 y0_).wf = true) ∧ (Lit.int .i64 a0_1).wf = true ∧ (Lit.int .i64 a0_2).wf = true) → (Lit.int .i64 a1).wf = true → (Lit.int .i64 a2).wf = true → ∃ k, laws_FnExactBufDelete.f k l0_0 a0_1 a0_2 a1 a2 = some true

end Go.Proofs.Ytejgkbejdkaccaa.PFnExactBufDelete
