-- Written by xprint.py (this claim's own program, over the kit's printer); Lean checks it.
import Derived.Test.YthcnhafdhjajpaaPFnHistFindx0
import Derived.Test.YthcnhafdhjajpaaPFnHistFindx1
import Derived.Test.YthcnhafdhjajpaaPFnHistFindx7
import Derived.Test.YthcnhafdhjajpaaPFnHistFindx9
import Derived.Test.YthcnhafdhjajpaaPFnHistFindx10
namespace Go.Proofs.Ythcnhafdhjajpaa.PFnHistFind
open Go.RowKit Go.Proofs.YthcnhafdhjajpaaW.PrintWords Go.Proofs.YthcnhafdhjajpaaW.PrintLast Go.Proofs.YthcnhafdhjajpaaW.PrintMore
attribute [local go_sem] max2_int min2_int max_two min_two max_three min_three max_four min_four   -- for this text's walks alone
set_option linter.unusedVariables false
set_option linter.unusedSimpArgs false   -- squeezed

/-! ### laws_FnHistFind: function 7 -/
mutual
def laws_FnHistFind.j0 : Nat → List Int → Int → Int → List (List Int) → Int → List Int → Option (Bool)
 | 0, _, _, _, _, _, _ => none
 | k + 1, x4, x5, x6, x395000, x395001, x395002 => (spec_HistRight.f k x395000 x395001 x395002).bind fun t400 => (if t400 = true then ((spec_PointsRight.f k x4).bind fun t401 => (laws_FnHistFind.j1 k x4 x5 x6 (!t401) x395000 x395001 x395002)) else (laws_FnHistFind.j1 k x4 x5 x6 true x395000 x395001 x395002))
def laws_FnHistFind.j1 : Nat → List Int → Int → Int → Bool → List (List Int) → Int → List Int → Option (Bool)
 | 0, _, _, _, _, _, _, _ => none
 | k + 1, x4, x5, x6, x37, x395000, x395001, x395002 => if x37 = true then (some true) else (laws_FnHistFind.j2 k x4 x5 x6 x395000 x395001 x395002)
def laws_FnHistFind.j2 : Nat → List Int → Int → Int → List (List Int) → Int → List Int → Option (Bool)
 | 0, _, _, _, _, _, _ => none
 | k + 1, x4, x5, x6, x395000, x395001, x395002 => laws_FnHistFind.l0 k x4 x5 x6 (wrap64 ((x395000.length : Int) - 1)) x395000 x395001 x395002
def laws_FnHistFind.l0 : Nat → List Int → Int → Int → Int → List (List Int) → Int → List Int → Option (Bool)
 | 0, _, _, _, _, _, _, _ => none
 | k + 1, x4, x5, x6, x7, x395000, x395001, x395002 => if x7 ≥ 0 then (laws_FnHistFind.j4 k x4 x5 x6 x7 x395000 x395001 x395002) else (some (x6 == (-1)))
def laws_FnHistFind.j4 : Nat → List Int → Int → Int → Int → List (List Int) → Int → List Int → Option (Bool)
 | 0, _, _, _, _, _, _, _ => none
 | k + 1, x4, x5, x6, x7, x395000, x395001, x395002 => laws_FnHistFind.l1 k x4 x5 x6 x7 false 0 x395000 x395001 x395002
def laws_FnHistFind.l1 : Nat → List Int → Int → Int → Int → Bool → Int → List (List Int) → Int → List Int → Option (Bool)
 | 0, _, _, _, _, _, _, _, _, _ => none
 | k + 1, x4, x5, x6, x7, x8, x9, x395000, x395001, x395002 => if 0 ≤ x7 then (if x7 < (x395000.length : Int) then (if (wrap64 (x9 + (x4.length : Int))) ≤ ((rd_L3 x395000 x7).length : Int) then (if x8 = true then (laws_FnHistFind.l1 k x4 x5 x6 x7 true (wrap64 (x9 + 1)) x395000 x395001 x395002) else (if 0 ≤ x9 then (if x9 ≤ (wrap64 (x9 + (x4.length : Int))) then ((laws_lwSame.f k (((rd_L3 x395000 x7).take ((wrap64 (x9 + (x4.length : Int))) : Int).toNat).drop (x9 : Int).toNat) x4).bind fun t408 => (laws_FnHistFind.l1 k x4 x5 x6 x7 t408 (wrap64 (x9 + 1)) x395000 x395001 x395002)) else (none)) else (none))) else (if x7 < x5 then (if x8 = true then (some (x6 == x7)) else (laws_FnHistFind.l0 k x4 x5 x6 (wrap64 (x7 - 1)) x395000 x395001 x395002)) else (laws_FnHistFind.l0 k x4 x5 x6 (wrap64 (x7 - 1)) x395000 x395001 x395002))) else (none)) else (none)
end
def laws_FnHistFind.f (k : Nat) (l0 : List Int) : Option (Bool) := if (l0.length : Int) > 1048576 then (some true) else ((spec_DrawHistFind.f k l0).bind fun bt383 => ((laws_lwCopy.f bt383.2.2.2.1).bind fun t395 => ((impl_HistFind.f k bt383.1 bt383.2.1 bt383.2.2.1 t395 bt383.2.2.2.2).bind fun t398 => ((spec_HistFind.f k bt383.1 bt383.2.1 bt383.2.2.1 bt383.2.2.2.1 bt383.2.2.2.2).bind fun t399 => (if t398 = t399 then (laws_FnHistFind.j0 k bt383.2.2.2.1 bt383.2.2.2.2 t398 bt383.1 bt383.2.1 bt383.2.2.1) else (some false))))))
theorem laws_FnHistFind.mono_l : ∀ k, (∀ y0 y1 y2 y3 y4 y5, LeO (laws_FnHistFind.j0 k y0 y1 y2 y3 y4 y5) (laws_FnHistFind.j0 (k + 1) y0 y1 y2 y3 y4 y5)) ∧ (∀ y0 y1 y2 y3 y4 y5 y6, LeO (laws_FnHistFind.j1 k y0 y1 y2 y3 y4 y5 y6) (laws_FnHistFind.j1 (k + 1) y0 y1 y2 y3 y4 y5 y6)) ∧ (∀ y0 y1 y2 y3 y4 y5, LeO (laws_FnHistFind.j2 k y0 y1 y2 y3 y4 y5) (laws_FnHistFind.j2 (k + 1) y0 y1 y2 y3 y4 y5)) ∧ (∀ y0 y1 y2 y3 y4 y5 y6, LeO (laws_FnHistFind.l0 k y0 y1 y2 y3 y4 y5 y6) (laws_FnHistFind.l0 (k + 1) y0 y1 y2 y3 y4 y5 y6)) ∧ (∀ y0 y1 y2 y3 y4 y5 y6, LeO (laws_FnHistFind.j4 k y0 y1 y2 y3 y4 y5 y6) (laws_FnHistFind.j4 (k + 1) y0 y1 y2 y3 y4 y5 y6)) ∧ (∀ y0 y1 y2 y3 y4 y5 y6 y7 y8, LeO (laws_FnHistFind.l1 k y0 y1 y2 y3 y4 y5 y6 y7 y8) (laws_FnHistFind.l1 (k + 1) y0 y1 y2 y3 y4 y5 y6 y7 y8))
 | 0 => ⟨fun _ _ _ _ _ _ r h => by simp [laws_FnHistFind.j0] at h, fun _ _ _ _ _ _ _ r h => by simp [laws_FnHistFind.j1] at h, fun _ _ _ _ _ _ r h => by simp [laws_FnHistFind.j2] at h, fun _ _ _ _ _ _ _ r h => by simp [laws_FnHistFind.l0] at h, fun _ _ _ _ _ _ _ r h => by simp [laws_FnHistFind.j4] at h, fun _ _ _ _ _ _ _ _ _ r h => by simp [laws_FnHistFind.l1] at h⟩
 | k + 1 => by
  obtain ⟨ih0, ih1, ih2, ih3, ih4, ih5⟩ := laws_FnHistFind.mono_l k
  refine ⟨?_, ?_, ?_, ?_, ?_, ?_⟩
  ·intro y0 y1 y2 y3 y4 y5
   unfold laws_FnHistFind.j0
   repeat' first
   | (with_reducible exact ih0 _ _ _ _ _ _)
   | (with_reducible exact ih1 _ _ _ _ _ _ _)
   | (with_reducible exact ih2 _ _ _ _ _ _)
   | (with_reducible exact ih3 _ _ _ _ _ _ _)
   | (with_reducible exact ih4 _ _ _ _ _ _ _)
   | (with_reducible exact ih5 _ _ _ _ _ _ _ _ _)
   | (with_reducible exact impl_HistFind.mono _ _ _ _ _ _)
   | (with_reducible exact laws_lwSame.mono _ _ _)
   | (with_reducible exact spec_DrawHistFind.mono _ _)
   | (with_reducible exact spec_HistFind.mono _ _ _ _ _ _)
   | (with_reducible exact spec_HistRight.mono _ _ _ _)
   | (with_reducible exact spec_PointsRight.mono _ _)
   | (with_reducible exact LeO.refl _)
   | (with_reducible exact LeO.none _)
   | (with_reducible refine LeO.ite ?_ ?_)
   | (with_reducible refine LeO.bind ?_ (fun _ => ?_))
   | exact ih0 _ _ _ _ _ _
   | exact ih1 _ _ _ _ _ _ _
   | exact ih2 _ _ _ _ _ _
   | exact ih3 _ _ _ _ _ _ _
   | exact ih4 _ _ _ _ _ _ _
   | exact ih5 _ _ _ _ _ _ _ _ _
   | exact impl_HistFind.mono _ _ _ _ _ _
   | exact laws_lwSame.mono _ _ _
   | exact spec_DrawHistFind.mono _ _
   | exact spec_HistFind.mono _ _ _ _ _ _
   | exact spec_HistRight.mono _ _ _ _
   | exact spec_PointsRight.mono _ _
   | exact LeO.none _
   | refine LeO.ite ?_ ?_
   | refine LeO.bind ?_ (fun _ => ?_)
  ·intro y0 y1 y2 y3 y4 y5 y6
   unfold laws_FnHistFind.j1
   repeat' first
   | (with_reducible exact ih0 _ _ _ _ _ _)
   | (with_reducible exact ih1 _ _ _ _ _ _ _)
   | (with_reducible exact ih2 _ _ _ _ _ _)
   | (with_reducible exact ih3 _ _ _ _ _ _ _)
   | (with_reducible exact ih4 _ _ _ _ _ _ _)
   | (with_reducible exact ih5 _ _ _ _ _ _ _ _ _)
   | (with_reducible exact impl_HistFind.mono _ _ _ _ _ _)
   | (with_reducible exact laws_lwSame.mono _ _ _)
   | (with_reducible exact spec_DrawHistFind.mono _ _)
   | (with_reducible exact spec_HistFind.mono _ _ _ _ _ _)
   | (with_reducible exact spec_HistRight.mono _ _ _ _)
   | (with_reducible exact spec_PointsRight.mono _ _)
   | (with_reducible exact LeO.refl _)
   | (with_reducible exact LeO.none _)
   | (with_reducible refine LeO.ite ?_ ?_)
   | (with_reducible refine LeO.bind ?_ (fun _ => ?_))
   | exact ih0 _ _ _ _ _ _
   | exact ih1 _ _ _ _ _ _ _
   | exact ih2 _ _ _ _ _ _
   | exact ih3 _ _ _ _ _ _ _
   | exact ih4 _ _ _ _ _ _ _
   | exact ih5 _ _ _ _ _ _ _ _ _
   | exact impl_HistFind.mono _ _ _ _ _ _
   | exact laws_lwSame.mono _ _ _
   | exact spec_DrawHistFind.mono _ _
   | exact spec_HistFind.mono _ _ _ _ _ _
   | exact spec_HistRight.mono _ _ _ _
   | exact spec_PointsRight.mono _ _
   | exact LeO.none _
   | refine LeO.ite ?_ ?_
   | refine LeO.bind ?_ (fun _ => ?_)
  ·intro y0 y1 y2 y3 y4 y5
   unfold laws_FnHistFind.j2
   repeat' first
   | (with_reducible exact ih0 _ _ _ _ _ _)
   | (with_reducible exact ih1 _ _ _ _ _ _ _)
   | (with_reducible exact ih2 _ _ _ _ _ _)
   | (with_reducible exact ih3 _ _ _ _ _ _ _)
   | (with_reducible exact ih4 _ _ _ _ _ _ _)
   | (with_reducible exact ih5 _ _ _ _ _ _ _ _ _)
   | (with_reducible exact impl_HistFind.mono _ _ _ _ _ _)
   | (with_reducible exact laws_lwSame.mono _ _ _)
   | (with_reducible exact spec_DrawHistFind.mono _ _)
   | (with_reducible exact spec_HistFind.mono _ _ _ _ _ _)
   | (with_reducible exact spec_HistRight.mono _ _ _ _)
   | (with_reducible exact spec_PointsRight.mono _ _)
   | (with_reducible exact LeO.refl _)
   | (with_reducible exact LeO.none _)
   | (with_reducible refine LeO.ite ?_ ?_)
   | (with_reducible refine LeO.bind ?_ (fun _ => ?_))
   | exact ih0 _ _ _ _ _ _
   | exact ih1 _ _ _ _ _ _ _
   | exact ih2 _ _ _ _ _ _
   | exact ih3 _ _ _ _ _ _ _
   | exact ih4 _ _ _ _ _ _ _
   | exact ih5 _ _ _ _ _ _ _ _ _
   | exact impl_HistFind.mono _ _ _ _ _ _
   | exact laws_lwSame.mono _ _ _
   | exact spec_DrawHistFind.mono _ _
   | exact spec_HistFind.mono _ _ _ _ _ _
   | exact spec_HistRight.mono _ _ _ _
   | exact spec_PointsRight.mono _ _
   | exact LeO.none _
   | refine LeO.ite ?_ ?_
   | refine LeO.bind ?_ (fun _ => ?_)
  ·intro y0 y1 y2 y3 y4 y5 y6
   unfold laws_FnHistFind.l0
   repeat' first
   | (with_reducible exact ih0 _ _ _ _ _ _)
   | (with_reducible exact ih1 _ _ _ _ _ _ _)
   | (with_reducible exact ih2 _ _ _ _ _ _)
   | (with_reducible exact ih3 _ _ _ _ _ _ _)
   | (with_reducible exact ih4 _ _ _ _ _ _ _)
   | (with_reducible exact ih5 _ _ _ _ _ _ _ _ _)
   | (with_reducible exact impl_HistFind.mono _ _ _ _ _ _)
   | (with_reducible exact laws_lwSame.mono _ _ _)
   | (with_reducible exact spec_DrawHistFind.mono _ _)
   | (with_reducible exact spec_HistFind.mono _ _ _ _ _ _)
   | (with_reducible exact spec_HistRight.mono _ _ _ _)
   | (with_reducible exact spec_PointsRight.mono _ _)
   | (with_reducible exact LeO.refl _)
   | (with_reducible exact LeO.none _)
   | (with_reducible refine LeO.ite ?_ ?_)
   | (with_reducible refine LeO.bind ?_ (fun _ => ?_))
   | exact ih0 _ _ _ _ _ _
   | exact ih1 _ _ _ _ _ _ _
   | exact ih2 _ _ _ _ _ _
   | exact ih3 _ _ _ _ _ _ _
   | exact ih4 _ _ _ _ _ _ _
   | exact ih5 _ _ _ _ _ _ _ _ _
   | exact impl_HistFind.mono _ _ _ _ _ _
   | exact laws_lwSame.mono _ _ _
   | exact spec_DrawHistFind.mono _ _
   | exact spec_HistFind.mono _ _ _ _ _ _
   | exact spec_HistRight.mono _ _ _ _
   | exact spec_PointsRight.mono _ _
   | exact LeO.none _
   | refine LeO.ite ?_ ?_
   | refine LeO.bind ?_ (fun _ => ?_)
  ·intro y0 y1 y2 y3 y4 y5 y6
   unfold laws_FnHistFind.j4
   repeat' first
   | (with_reducible exact ih0 _ _ _ _ _ _)
   | (with_reducible exact ih1 _ _ _ _ _ _ _)
   | (with_reducible exact ih2 _ _ _ _ _ _)
   | (with_reducible exact ih3 _ _ _ _ _ _ _)
   | (with_reducible exact ih4 _ _ _ _ _ _ _)
   | (with_reducible exact ih5 _ _ _ _ _ _ _ _ _)
   | (with_reducible exact impl_HistFind.mono _ _ _ _ _ _)
   | (with_reducible exact laws_lwSame.mono _ _ _)
   | (with_reducible exact spec_DrawHistFind.mono _ _)
   | (with_reducible exact spec_HistFind.mono _ _ _ _ _ _)
   | (with_reducible exact spec_HistRight.mono _ _ _ _)
   | (with_reducible exact spec_PointsRight.mono _ _)
   | (with_reducible exact LeO.refl _)
   | (with_reducible exact LeO.none _)
   | (with_reducible refine LeO.ite ?_ ?_)
   | (with_reducible refine LeO.bind ?_ (fun _ => ?_))
   | exact ih0 _ _ _ _ _ _
   | exact ih1 _ _ _ _ _ _ _
   | exact ih2 _ _ _ _ _ _
   | exact ih3 _ _ _ _ _ _ _
   | exact ih4 _ _ _ _ _ _ _
   | exact ih5 _ _ _ _ _ _ _ _ _
   | exact impl_HistFind.mono _ _ _ _ _ _
   | exact laws_lwSame.mono _ _ _
   | exact spec_DrawHistFind.mono _ _
   | exact spec_HistFind.mono _ _ _ _ _ _
   | exact spec_HistRight.mono _ _ _ _
   | exact spec_PointsRight.mono _ _
   | exact LeO.none _
   | refine LeO.ite ?_ ?_
   | refine LeO.bind ?_ (fun _ => ?_)
  ·intro y0 y1 y2 y3 y4 y5 y6 y7 y8
   unfold laws_FnHistFind.l1
   repeat' first
   | (with_reducible exact ih0 _ _ _ _ _ _)
   | (with_reducible exact ih1 _ _ _ _ _ _ _)
   | (with_reducible exact ih2 _ _ _ _ _ _)
   | (with_reducible exact ih3 _ _ _ _ _ _ _)
   | (with_reducible exact ih4 _ _ _ _ _ _ _)
   | (with_reducible exact ih5 _ _ _ _ _ _ _ _ _)
   | (with_reducible exact impl_HistFind.mono _ _ _ _ _ _)
   | (with_reducible exact laws_lwSame.mono _ _ _)
   | (with_reducible exact spec_DrawHistFind.mono _ _)
   | (with_reducible exact spec_HistFind.mono _ _ _ _ _ _)
   | (with_reducible exact spec_HistRight.mono _ _ _ _)
   | (with_reducible exact spec_PointsRight.mono _ _)
   | (with_reducible exact LeO.refl _)
   | (with_reducible exact LeO.none _)
   | (with_reducible refine LeO.ite ?_ ?_)
   | (with_reducible refine LeO.bind ?_ (fun _ => ?_))
   | exact ih0 _ _ _ _ _ _
   | exact ih1 _ _ _ _ _ _ _
   | exact ih2 _ _ _ _ _ _
   | exact ih3 _ _ _ _ _ _ _
   | exact ih4 _ _ _ _ _ _ _
   | exact ih5 _ _ _ _ _ _ _ _ _
   | exact impl_HistFind.mono _ _ _ _ _ _
   | exact laws_lwSame.mono _ _ _
   | exact spec_DrawHistFind.mono _ _
   | exact spec_HistFind.mono _ _ _ _ _ _
   | exact spec_HistRight.mono _ _ _ _
   | exact spec_PointsRight.mono _ _
   | exact LeO.none _
   | refine LeO.ite ?_ ?_
   | refine LeO.bind ?_ (fun _ => ?_)
theorem laws_FnHistFind.mono : ∀ a0 k, LeO (laws_FnHistFind.f k a0) (laws_FnHistFind.f (k + 1) a0) := by
 intro a0 k
 obtain ⟨ih0, ih1, ih2, ih3, ih4, ih5⟩ := laws_FnHistFind.mono_l k
 unfold laws_FnHistFind.f
 repeat' first
   | (with_reducible exact ih0 _ _ _ _ _ _)
   | (with_reducible exact ih1 _ _ _ _ _ _ _)
   | (with_reducible exact ih2 _ _ _ _ _ _)
   | (with_reducible exact ih3 _ _ _ _ _ _ _)
   | (with_reducible exact ih4 _ _ _ _ _ _ _)
   | (with_reducible exact ih5 _ _ _ _ _ _ _ _ _)
   | (with_reducible exact impl_HistFind.mono _ _ _ _ _ _)
   | (with_reducible exact laws_lwSame.mono _ _ _)
   | (with_reducible exact spec_DrawHistFind.mono _ _)
   | (with_reducible exact spec_HistFind.mono _ _ _ _ _ _)
   | (with_reducible exact spec_HistRight.mono _ _ _ _)
   | (with_reducible exact spec_PointsRight.mono _ _)
   | (with_reducible exact LeO.refl _)
   | (with_reducible exact LeO.none _)
   | (with_reducible refine LeO.ite ?_ ?_)
   | (with_reducible refine LeO.bind ?_ (fun _ => ?_))
   | exact ih0 _ _ _ _ _ _
   | exact ih1 _ _ _ _ _ _ _
   | exact ih2 _ _ _ _ _ _
   | exact ih3 _ _ _ _ _ _ _
   | exact ih4 _ _ _ _ _ _ _
   | exact ih5 _ _ _ _ _ _ _ _ _
   | exact impl_HistFind.mono _ _ _ _ _ _
   | exact laws_lwSame.mono _ _ _
   | exact spec_DrawHistFind.mono _ _
   | exact spec_HistFind.mono _ _ _ _ _ _
   | exact spec_HistRight.mono _ _ _ _
   | exact spec_PointsRight.mono _ _
   | exact LeO.none _
   | refine LeO.ite ?_ ?_
   | refine LeO.bind ?_ (fun _ => ?_)
set_option maxHeartbeats 8000000 in
set_option maxRecDepth 100000 in
theorem laws_FnHistFind.calls (k : Nat) (A0 : Option Addr) (c0 : Nat) (l0 : List Int) (r : Bool) (w : World) (hr0 : Kd.C (Kd.int .u8) w A0 l0.length l0) (hc0 : l0.length ≤ c0) (h : laws_FnHistFind.f k l0 = some r) :
  Calls Try.prog 7 #[.slice A0 l0.length c0] w fun e w' => e = .returned (.bool r) ∧ Below w.heap.size w w' := by
 have hu53 := Try.underlying53
 have HR0 := am hr0
 have HC0 := am hc0
 clear hr0 hc0
 have HB := am (Below.refl w.heap.size w)
 have H : (if (l0.length : Int) > 1048576 then (some true) else ((spec_DrawHistFind.f k l0).bind fun bt383 => ((laws_lwCopy.f bt383.2.2.2.1).bind fun t395 => ((impl_HistFind.f k bt383.1 bt383.2.1 bt383.2.2.1 t395 bt383.2.2.2.2).bind fun t398 => ((spec_HistFind.f k bt383.1 bt383.2.1 bt383.2.2.1 bt383.2.2.2.1 bt383.2.2.2.2).bind fun t399 => (if t398 = t399 then (laws_FnHistFind.j0 k bt383.2.2.2.1 bt383.2.2.2.2 t398 bt383.1 bt383.2.1 bt383.2.2.1) else (some false))))))) = some r := h
 clear h
 by_cases c2 : (l0.length : Int) > 1048576
 ·rw [if_pos c2] at H
  have c2b0 : decide (1048576 < (l0.length : Int)) = true := decide_eq_true c2
  have c2b1 : decide (1048576 < l0.length) = true := decide_eq_true (by omega)
  clear c2
  obtain rfl := Option.some.inj H
  go_enter Try.func7, Try.ntmps7
  go_wp2
  go_ret
  exact ⟨by first | rfl | (simp [errW_none, errW_some] <;> rfl) | (simp [*, errW_none, errW_some] <;> rfl), by repeat (first | (with_reducible first | exact HB.out | apply below_alloc | apply pw_below_drewN | apply below_drew1) | exact HB.out)⟩
 ·rw [if_neg c2] at H
  have c2b0 : decide (1048576 < (l0.length : Int)) = false := decide_eq_false c2
  have c2b1 : decide (1048576 < l0.length) = false := decide_eq_false (by omega)
  clear c2
  replace H := Option.bind_eq_some_iff.mp H
  obtain ⟨⟨t383, t386, t387, t390, t393⟩, A30, H⟩ := H
  replace H : ((laws_lwCopy.f t390).bind fun t395 => ((impl_HistFind.f k t383 t386 t387 t395 t393).bind fun t398 => ((spec_HistFind.f k t383 t386 t387 t390 t393).bind fun t399 => (if t398 = t399 then (laws_FnHistFind.j0 k t390 t393 t398 t383 t386 t387) else (some false))))) = some r := H
  have A3 := Aside0.mk A30
  clear A30
  replace H := Option.bind_eq_some_iff.mp H
  obtain ⟨t395, A40, H⟩ := H
  replace H : ((impl_HistFind.f k t383 t386 t387 t395 t393).bind fun t398 => ((spec_HistFind.f k t383 t386 t387 t390 t393).bind fun t399 => (if t398 = t399 then (laws_FnHistFind.j0 k t390 t393 t398 t383 t386 t387) else (some false)))) = some r := H
  have A4 := Aside0.mk A40
  clear A40
  replace H := Option.bind_eq_some_iff.mp H
  obtain ⟨t398, A50, H⟩ := H
  replace H : ((spec_HistFind.f k t383 t386 t387 t390 t393).bind fun t399 => (if t398 = t399 then (laws_FnHistFind.j0 k t390 t393 t398 t383 t386 t387) else (some false))) = some r := H
  have A5 := Aside0.mk A50
  clear A50
  replace H := Option.bind_eq_some_iff.mp H
  obtain ⟨t399, A60, H⟩ := H
  replace H : (if t398 = t399 then (laws_FnHistFind.j0 k t390 t393 t398 t383 t386 t387) else (some false)) = some r := H
  have A6 := Aside0.mk A60
  clear A60
  have HC7 := Aside0.mk H
  clear H
  go_enter Try.func7, Try.ntmps7
  try go_wp2_with (first | ((with_reducible refine gate_callee (f := 29) rfl ?_); refine gl (some 15) Try.func29 #[.slice A0 l0.length c0] ?_; (with_reducible refine (spec_DrawHistFind.calls k _ _ l0 t383 t386 t387 t390 t393 _ ?side1 ?side2 A3.out).mono ?_); (case side1 => repeat (first | exact HR0.out | (with_reducible refine Kd.C_alloc ?_ _) | (with_reducible refine Kd.C_drewN ?_ _) | (with_reducible refine Kd.C_drew ?_))); (case side2 => exact HC0.out); rintro e w8 ⟨v384, v388, v391, rfl, ho0, ho1, ho2, hb⟩; refine ⟨_, rfl, ?_⟩; have n0_ := am (Kd.S_lower ho0 (below_size (bl HB.out))); have n1_ := am (Kd.R_lower ho1 (below_size (bl HB.out))); have n2_ := am (Kd.R_lower ho2 (below_size (bl HB.out))); have n3_ := am (below_step (bl HB.out) hb); clear HB; have HO385 := n0_; have HO389 := n1_; have HO392 := n2_; have HB := n3_; clear n0_ n1_ n2_ n3_; (try clear hb); (try clear hb2); (try clear hk); (try clear hi); (try clear ho0); (try clear ho1); (try clear ho2)) | ((with_reducible refine gate_dst (N := 3) rfl ?_); (try (refine gate_guard (by rfl) ?_; dsimp only)); refine box_event ?hg (N := 3) ?hd (cs := #[.slice none 0 0, .int .i64 0, .slice none 0 0]) (t := 53) ?hr ?_; (case hd => rfl); (case hg => rfl); (case hr => first | (go_simp; done) | (go_simp; rfl)); intro gb394 hg w9 hbox hb; have n0_ := am (Kd.S_below (by (with_reducible repeat (first | apply Kd.S_alloc | apply Kd.S_drewN | apply Kd.S_drew)); exact HO385.out) hb); have n1_ := am (Kd.R_below (by (with_reducible repeat (first | apply Kd.R_alloc | apply Kd.R_drewN | apply Kd.R_drew)); exact HO389.out) hb); have n2_ := am (Kd.R_below (by (with_reducible repeat (first | apply Kd.R_alloc | apply Kd.R_drewN | apply Kd.R_drew)); exact HO392.out) hb); have n3_ := am (below_step (bl HB.out) hb); have n4_ := am (hbox); have n5_ := am ((by rw [hg]; exact (below_size (bl HB.out)) : w.heap.size ≤ gb394)); have n6_ := am ((by rw [hg]; exact (below_size (bl HB.out)) : w.heap.size ≤ gb394)); clear HO385; clear HO389; clear HO392; clear HB; have HO385 := n0_; have HO389 := n1_; have HO392 := n2_; have HB := n3_; have BK394 := n4_; have GW394 := n5_; have GE394 := n6_; clear n0_ n1_ n2_ n3_ n4_ n5_ n6_; clear hb hbox hg; obtain ⟨Ao10, co10, eo10⟩ := Kd.S_slice HO385.out; subst eo10; have hcz11_0 : w9.cell? ⟨gb394, 0, none⟩ = some (.slice none 0 0) := (blk_cell BK394.out 0).trans rfl; have hcz11_1 : w9.cell? ⟨gb394, 1, none⟩ = some (.int .i64 0) := (blk_cell BK394.out 1).trans rfl; have hcz11_2 : w9.cell? ⟨gb394, 2, none⟩ = some (.slice none 0 0) := (blk_cell BK394.out 2).trans rfl; have hfz11_0 := blk_frozen BK394.out 0; have hfz11_1 := blk_frozen BK394.out 1; have hfz11_2 := blk_frozen BK394.out 2; obtain ⟨Ao12, co12, eo12⟩ := Kd.R_slice HO389.out; subst eo12))
  have n0_ : Aside0 (Kd.S (Kd.slice 2 (Kd.int .i64)) 23 (((w9.setCell ⟨gb394, 0, none⟩ (.slice Ao10 t383.length co10)).setCell ⟨gb394, 1, none⟩ (.int .i64 t386)).setCell ⟨gb394, 2, none⟩ (.slice Ao12 t387.length co12)) w.heap.size (fun k_ => some k_ ≠ (.slice Ao12 t387.length co12 : Value).ownBlock ∧ some k_ ≠ (v391 : Value).ownBlock) (.slice Ao10 t383.length co10) t383) := ⟨by (with_reducible repeat (first | apply Kd.S_alloc | apply Kd.S_drewN | apply Kd.S_drew)); exact Kd.S_mono (Kd.S_far (p := ⟨gb394, 2, none⟩) (Kd.S_far (p := ⟨gb394, 1, none⟩) (Kd.S_far (p := ⟨gb394, 0, none⟩) (Kd.S_types HO385.out BK394.out (by decide)) (fun _ hk => hk.2) (.slice Ao10 t383.length co10)) (fun _ hk => hk.2) (.int .i64 t386)) (fun _ hk => hk.2) (.slice Ao12 t387.length co12)) (fun _ hk => ⟨hk.1.1, hk.1.2⟩)⟩
  have n1_ : Aside0 (Kd.R (Kd.int .i64) 2 (((w9.setCell ⟨gb394, 0, none⟩ (.slice Ao10 t383.length co10)).setCell ⟨gb394, 1, none⟩ (.int .i64 t386)).setCell ⟨gb394, 2, none⟩ (.slice Ao12 t387.length co12)) w.heap.size (fun k_ => some k_ ≠ (v391 : Value).ownBlock) (.slice Ao12 t387.length co12) t387) := ⟨by (with_reducible repeat (first | apply Kd.R_alloc | apply Kd.R_drewN | apply Kd.R_drew)); exact Kd.R_mono (Kd.R_far (p := ⟨gb394, 2, none⟩) (Kd.R_far (p := ⟨gb394, 1, none⟩) (Kd.R_far (p := ⟨gb394, 0, none⟩) (Kd.R_types HO389.out BK394.out (by decide)) (fun _ hk => hk.2) (.slice Ao10 t383.length co10)) (fun _ hk => hk.2) (.int .i64 t386)) (fun _ hk => hk.2) (.slice Ao12 t387.length co12)) (fun _ hk => hk.1)⟩
  have n2_ : Aside0 (Kd.R (Kd.int .i64) 2 (((w9.setCell ⟨gb394, 0, none⟩ (.slice Ao10 t383.length co10)).setCell ⟨gb394, 1, none⟩ (.int .i64 t386)).setCell ⟨gb394, 2, none⟩ (.slice Ao12 t387.length co12)) w.heap.size (fun k_ => some k_ ≠ (.slice Ao12 t387.length co12 : Value).ownBlock) v391 t390) := ⟨by (with_reducible repeat (first | apply Kd.R_alloc | apply Kd.R_drewN | apply Kd.R_drew)); exact Kd.R_mono (Kd.R_far (p := ⟨gb394, 2, none⟩) (Kd.R_far (p := ⟨gb394, 1, none⟩) (Kd.R_far (p := ⟨gb394, 0, none⟩) (Kd.R_types HO392.out BK394.out (by decide)) (fun _ hk => hk.2) (.slice Ao10 t383.length co10)) (fun _ hk => hk.2) (.int .i64 t386)) (fun _ hk => hk.2) (.slice Ao12 t387.length co12)) (fun _ hk => hk.1)⟩
  have n3_ : Aside0 ((((w9.setCell ⟨gb394, 0, none⟩ (.slice Ao10 t383.length co10)).setCell ⟨gb394, 1, none⟩ (.int .i64 t386)).setCell ⟨gb394, 2, none⟩ (.slice Ao12 t387.length co12)).heap[gb394]? = some (.cells #[.slice Ao10 t383.length co10, .int .i64 t386, .slice Ao12 t387.length co12] 53 (0, 0))) := ⟨by (with_reducible repeat (first | refine blk_drewN ?_ _ | refine blk_drew ?_ | refine blk_alloc ?_ _)); refine blk_put (cs := #[.slice Ao10 t383.length co10, .int .i64 t386, .slice none 0 0]) ?_ 2 _ rfl; (with_reducible repeat (first | refine blk_drewN ?_ _ | refine blk_drew ?_ | refine blk_alloc ?_ _)); refine blk_put (cs := #[.slice Ao10 t383.length co10, .int .i64 0, .slice none 0 0]) ?_ 1 _ rfl; (with_reducible repeat (first | refine blk_drewN ?_ _ | refine blk_drew ?_ | refine blk_alloc ?_ _)); refine blk_put (cs := #[.slice none 0 0, .int .i64 0, .slice none 0 0]) ?_ 0 _ rfl; (with_reducible repeat (first | refine blk_drewN ?_ _ | refine blk_drew ?_ | refine blk_alloc ?_ _)); exact BK394.out⟩
  have n4_ : Aside0 (Below w.heap.size w (((w9.setCell ⟨gb394, 0, none⟩ (.slice Ao10 t383.length co10)).setCell ⟨gb394, 1, none⟩ (.int .i64 t386)).setCell ⟨gb394, 2, none⟩ (.slice Ao12 t387.length co12))) := ⟨by repeat (first | (with_reducible first | exact HB.out | apply below_alloc | apply pw_below_drewN | apply below_drew1 | refine below_set ?_ GE394.out) | exact HB.out)⟩
  (try clear HO385)
  (try clear HO389)
  (try clear HO392)
  (try clear BK394)
  (try clear HB)
  generalize (((w9.setCell ⟨gb394, 0, none⟩ (.slice Ao10 t383.length co10)).setCell ⟨gb394, 1, none⟩ (.int .i64 t386)).setCell ⟨gb394, 2, none⟩ (.slice Ao12 t387.length co12)) = w13 at n0_ n1_ n2_ n3_ n4_ ⊢
  have HO385 := n0_
  have HO389 := n1_
  have HO392 := n2_
  have BK394 := n3_
  have HB := n4_
  clear n0_ n1_ n2_ n3_ n4_
  have n0_ := am (Kd.S_drew HO385.out)
  have n1_ := am (Kd.R_drew HO389.out)
  have n2_ := am (Kd.R_drew HO392.out)
  have n3_ := am (blk_drew BK394.out)
  have n4_ := am (below_drew1 HB.out)
  clear HO385
  clear HO389
  clear HO392
  clear BK394
  clear HB
  have HO385 := n0_
  have HO389 := n1_
  have HO392 := n2_
  have BK394 := n3_
  have HB := n4_
  clear n0_ n1_ n2_ n3_ n4_
  obtain ⟨Ao15, co15, eo15⟩ := Kd.R_slice HO392.out
  (first | subst eo15 | (injection eo15 with f1_ f2_ f3_; have f4_ := f1_.symm; have f5_ := f3_.symm; clear f1_ f2_ f3_; subst f4_; subst f5_))
  refine start_ (n := 6) (S := fun w' => w'.cell? ⟨gb394, 0, none⟩ = some (.slice Ao10 t383.length co10) ∧ w'.cell? ⟨gb394, 1, none⟩ = some (.int .i64 t386) ∧ w'.cell? ⟨gb394, 2, none⟩ = some (.slice Ao12 t387.length co12)) (ds := []) #[false, false, false, false, false, false] (by kernel_rfl) rfl rfl ⟨(blk_cell BK394.out 0).trans rfl, (blk_cell BK394.out 1).trans rfl, (blk_cell BK394.out 2).trans rfl⟩ (fun hHeld => ?_)
  generalize w13.drew = w14 at HO385 HO389 HO392 BK394 HB hHeld ⊢
  refine pure_ (i := 1) (N := some 20) (v := ?_) (a' := ?_) #[false, true, false, false, false, false] rfl rfl (by kernel_rfl) (fun _ _ _ h => h) (Or.inl ⟨by rfl, ?_⟩) ?_ ?_
  rotate_left
  ·intro w'
   go_simp
   with_reducible rfl
  rotate_left
  ·simp only [Act.put, List.setIfInBounds_toArray, List.set_cons_zero, List.set_cons_succ, i64_w, i32_w]
   rfl
  refine pure_ (i := 3) (N := some 22) (v := ?_) (a' := ?_) #[false, true, false, true, false, false] rfl rfl (by kernel_rfl) (fun _ _ _ h => h) (Or.inl ⟨by rfl, ?_⟩) ?_ ?_
  rotate_left
  ·intro w'
   go_simp
   with_reducible rfl
  rotate_left
  ·simp only [Act.put, List.setIfInBounds_toArray, List.set_cons_zero, List.set_cons_succ, i64_w, i32_w]
   rfl
  refine take_ (i := 0) (N := some 19) (v := ?_) (a' := ?_) #[true, true, false, true, false, false] rfl rfl (by kernel_rfl) (fun _ _ _ h => h) (Or.inl ⟨by rfl, ?_⟩) hHeld ?_ ?_
  rotate_left
  ·rintro w' ⟨s0, s1, s2⟩
   go_simp
   with_reducible rfl
  rotate_left
  ·simp only [Act.put, List.setIfInBounds_toArray, List.set_cons_zero, List.set_cons_succ, i64_w, i32_w]
   rfl
  refine one_ (i := 2) (N := some 21) #[true, true, true, true, false, false] rfl rfl (by kernel_rfl) (by decide) (fun K hK => ?_)
  refine goes_ Try.func11 (by kernel_rfl) rfl #[.slice Ao15 t390.length co15] (by rfl) rfl rfl (by (try simp only [List.map_toArray, List.map_cons, List.map_nil]); first | done | rfl | (simp only [List.length_drop, List.length_take]; rfl)) ?_
  with_reducible refine (laws_lwCopy.calls _ _ t390 t395 _ ?side1 ?side2 A4.out).mono ?_
  (case side1 => repeat (first | exact (Kd.R_reads' HO392.out).2.2 | (with_reducible refine Kd.C_alloc ?_ _) | (with_reducible refine Kd.C_drewN ?_ _) | (with_reducible refine Kd.C_drew ?_)))
  (case side2 => exact (Kd.R_reads' HO392.out).2.1)
  rintro e w16 ⟨v396, rfl, ho0, hb⟩
  refine ⟨_, rfl, ?_⟩
  have n0_ := am (Kd.S_elder' (by (with_reducible repeat (first | apply Kd.S_alloc | apply Kd.S_drewN | apply Kd.S_drew)); exact HO385.out) (Kd.R_base ho0) hb)
  have n1_ := am (Kd.R_elder' (by (with_reducible repeat (first | apply Kd.R_alloc | apply Kd.R_drewN | apply Kd.R_drew)); exact HO389.out) (Kd.R_base ho0) hb)
  have n2_ := am (Kd.R_elder' (by (with_reducible repeat (first | apply Kd.R_alloc | apply Kd.R_drewN | apply Kd.R_drew)); exact HO392.out) (Kd.R_base ho0) hb)
  have n3_ := am (Kd.R_lower (Kd.R_new' (Kd.R_new' ho0 (Kd.R_lt (by (with_reducible repeat (first | apply Kd.R_alloc | apply Kd.R_drewN | apply Kd.R_drew)); exact HO389.out))) (Kd.R_lt (by (with_reducible repeat (first | apply Kd.R_alloc | apply Kd.R_drewN | apply Kd.R_drew)); exact HO392.out))) (below_size (by repeat (first | (with_reducible first | exact HB.out | apply below_alloc | apply pw_below_drewN | apply below_drew1 | refine below_set ?_ GE394.out) | exact HB.out))))
  have n4_ := am (blk_below (g := gb394) (o := .cells #[.slice Ao10 t383.length co10, .int .i64 t386, .slice Ao12 t387.length co12] 53 (0, 0)) (pk BK394.out) hb)
  have n5_ := am (below_step (by repeat (first | (with_reducible first | exact HB.out | apply below_alloc | apply pw_below_drewN | apply below_drew1 | refine below_set ?_ GE394.out) | exact HB.out)) hb)
  clear HO385
  clear HO389
  clear HO392
  clear BK394
  clear HB
  have HO385 := n0_
  have HO389 := n1_
  have HO392 := n2_
  have HO397 := n3_
  have BK394 := n4_
  have HB := n5_
  clear n0_ n1_ n2_ n3_ n4_ n5_
  (try clear hb)
  (try clear hb2)
  (try clear hk)
  (try clear hi)
  (try clear ho0)
  obtain ⟨Ao17, co17, eo17⟩ := Kd.R_slice HO397.out
  (first | subst eo17 | (injection eo17 with f1_ f2_ f3_; have f4_ := f1_.symm; have f5_ := f3_.symm; clear f1_ f2_ f3_; subst f4_; subst f5_))
  refine hK.out _ _ ⟨(blk_cell BK394.out 0).trans rfl, (blk_cell BK394.out 1).trans rfl, (blk_cell BK394.out 2).trans rfl⟩ (fun hHeld => ?_)
  clear hK K
  refine norm_ (a' := ?_) ?_ ?_
  rotate_left
  ·show Act.put _ (some 21) _ = _
   simp only [Act.put, List.setIfInBounds_toArray, List.set_cons_zero, List.set_cons_succ, i64_w, i32_w]
   rfl
  refine one_ (i := 4) (N := some 23) #[true, true, true, true, true, false] rfl rfl (by kernel_rfl) (by decide) (fun K hK => ?_)
  refine goes_ Try.func30 (by kernel_rfl) rfl #[.agg #[.slice Ao10 t383.length co10, .int .i64 t386, .slice Ao12 t387.length co12], .slice Ao17 t395.length co17, .int .i64 t393] (by rfl) rfl rfl (by (try simp only [List.map_toArray, List.map_cons, List.map_nil]); first | done | rfl | (simp only [List.length_drop, List.length_take]; rfl)) ?_
  with_reducible refine (impl_HistFind.calls k _ _ t383 t386 _ _ t387 _ _ t395 t393 t398 _ ?side1 ?side2 ?side3 ?side4 ?side5 ?side6 A5.out).mono ?_
  (case side1 => repeat (first | exact (Kd.S_reads' HO385.out).2.2 | (with_reducible refine Kd.C_alloc ?_ _) | (with_reducible refine Kd.C_drewN ?_ _) | (with_reducible refine Kd.C_drew ?_)))
  (case side2 => exact (Kd.S_reads' HO385.out).2.1)
  (case side3 => repeat (first | exact (Kd.R_reads' HO389.out).2.2 | (with_reducible refine Kd.C_alloc ?_ _) | (with_reducible refine Kd.C_drewN ?_ _) | (with_reducible refine Kd.C_drew ?_)))
  (case side4 => exact (Kd.R_reads' HO389.out).2.1)
  (case side5 => repeat (first | exact (Kd.R_reads' HO397.out).2.2 | (with_reducible refine Kd.C_alloc ?_ _) | (with_reducible refine Kd.C_drewN ?_ _) | (with_reducible refine Kd.C_drew ?_)))
  (case side6 => exact (Kd.R_reads' HO397.out).2.1)
  rintro e w18 ⟨rfl, hb⟩
  refine ⟨_, rfl, ?_⟩
  have n0_ := am (Kd.S_below (by (with_reducible repeat (first | apply Kd.S_alloc | apply Kd.S_drewN | apply Kd.S_drew)); exact HO385.out) hb)
  have n1_ := am (Kd.R_below (by (with_reducible repeat (first | apply Kd.R_alloc | apply Kd.R_drewN | apply Kd.R_drew)); exact HO389.out) hb)
  have n2_ := am (Kd.R_below (by (with_reducible repeat (first | apply Kd.R_alloc | apply Kd.R_drewN | apply Kd.R_drew)); exact HO392.out) hb)
  have n3_ := am (Kd.R_below (by (with_reducible repeat (first | apply Kd.R_alloc | apply Kd.R_drewN | apply Kd.R_drew)); exact HO397.out) hb)
  have n4_ := am (blk_below (g := gb394) (o := .cells #[.slice Ao10 t383.length co10, .int .i64 t386, .slice Ao12 t387.length co12] 53 (0, 0)) (pk BK394.out) hb)
  have n5_ := am (below_step (by repeat (first | (with_reducible first | exact HB.out | apply below_alloc | apply pw_below_drewN | apply below_drew1 | refine below_set ?_ GE394.out) | exact HB.out)) hb)
  clear HO385
  clear HO389
  clear HO392
  clear HO397
  clear BK394
  clear HB
  have HO385 := n0_
  have HO389 := n1_
  have HO392 := n2_
  have HO397 := n3_
  have BK394 := n4_
  have HB := n5_
  clear n0_ n1_ n2_ n3_ n4_ n5_
  (try clear hb)
  (try clear hb2)
  (try clear hk)
  (try clear hi)
  refine hK.out _ _ ⟨(blk_cell BK394.out 0).trans rfl, (blk_cell BK394.out 1).trans rfl, (blk_cell BK394.out 2).trans rfl⟩ (fun hHeld => ?_)
  clear hK K
  refine norm_ (a' := ?_) ?_ ?_
  rotate_left
  ·show Act.put _ (some 23) _ = _
   simp only [Act.put, List.setIfInBounds_toArray, List.set_cons_zero, List.set_cons_succ, i64_w, i32_w]
   rfl
  refine pure_ (i := 5) (N := some 6) (v := ?_) (a' := ?_) #[true, true, true, true, true, true] rfl rfl (by kernel_rfl) (fun _ _ _ h => h) (Or.inl ⟨by rfl, ?_⟩) ?_ ?_
  rotate_left
  ·intro w'
   go_simp
   with_reducible rfl
  rotate_left
  ·simp only [Act.put, List.setIfInBounds_toArray, List.set_cons_zero, List.set_cons_succ, i64_w, i32_w]
   rfl
  refine done_ (by kernel_rfl) ?_
  have hcz19_0 : w18.cell? ⟨gb394, 0, none⟩ = some (.slice Ao10 t383.length co10) := (blk_cell BK394.out 0).trans rfl
  have hcz19_1 : w18.cell? ⟨gb394, 1, none⟩ = some (.int .i64 t386) := (blk_cell BK394.out 1).trans rfl
  have hcz19_2 : w18.cell? ⟨gb394, 2, none⟩ = some (.slice Ao12 t387.length co12) := (blk_cell BK394.out 2).trans rfl
  have hfz19_0 := blk_frozen BK394.out 0
  have hfz19_1 := blk_frozen BK394.out 1
  have hfz19_2 := blk_frozen BK394.out 2
  go_upto_if 29 with (first | ((with_reducible refine gate_callee (f := 31) rfl ?_); refine gl (some 28) Try.func31 #[.agg #[.slice Ao10 t383.length co10, .int .i64 t386, .slice Ao12 t387.length co12], .slice Ao15 t390.length co15, .int .i64 t393] ?_; (with_reducible refine (spec_HistFind.calls k _ _ t383 t386 _ _ t387 _ _ t390 t393 t399 _ ?side1 ?side2 ?side3 ?side4 ?side5 ?side6 A6.out).mono ?_); (case side1 => repeat (first | exact (Kd.S_reads' HO385.out).2.2 | (with_reducible refine Kd.C_alloc ?_ _) | (with_reducible refine Kd.C_drewN ?_ _) | (with_reducible refine Kd.C_drew ?_))); (case side2 => exact (Kd.S_reads' HO385.out).2.1); (case side3 => repeat (first | exact (Kd.R_reads' HO389.out).2.2 | (with_reducible refine Kd.C_alloc ?_ _) | (with_reducible refine Kd.C_drewN ?_ _) | (with_reducible refine Kd.C_drew ?_))); (case side4 => exact (Kd.R_reads' HO389.out).2.1); (case side5 => repeat (first | exact (Kd.R_reads' HO392.out).2.2 | (with_reducible refine Kd.C_alloc ?_ _) | (with_reducible refine Kd.C_drewN ?_ _) | (with_reducible refine Kd.C_drew ?_))); (case side6 => exact (Kd.R_reads' HO392.out).2.1); rintro e w20 ⟨rfl, hb⟩; refine ⟨_, rfl, ?_⟩; have n0_ := am (Kd.S_below (by (with_reducible repeat (first | apply Kd.S_alloc | apply Kd.S_drewN | apply Kd.S_drew)); exact HO385.out) hb); have n1_ := am (Kd.R_below (by (with_reducible repeat (first | apply Kd.R_alloc | apply Kd.R_drewN | apply Kd.R_drew)); exact HO389.out) hb); have n2_ := am (Kd.R_below (by (with_reducible repeat (first | apply Kd.R_alloc | apply Kd.R_drewN | apply Kd.R_drew)); exact HO392.out) hb); have n3_ := am (Kd.R_below (by (with_reducible repeat (first | apply Kd.R_alloc | apply Kd.R_drewN | apply Kd.R_drew)); exact HO397.out) hb); have n4_ := am (blk_below (g := gb394) (o := .cells #[.slice Ao10 t383.length co10, .int .i64 t386, .slice Ao12 t387.length co12] 53 (0, 0)) (pk BK394.out) hb); have n5_ := am (below_step (by repeat (first | (with_reducible first | exact HB.out | apply below_alloc | apply pw_below_drewN | apply below_drew1 | refine below_set ?_ GE394.out) | exact HB.out)) hb); clear HO385; clear HO389; clear HO392; clear HO397; clear BK394; clear HB; have HO385 := n0_; have HO389 := n1_; have HO392 := n2_; have HO397 := n3_; have BK394 := n4_; have HB := n5_; clear n0_ n1_ n2_ n3_ n4_ n5_; (try clear hb); (try clear hb2); (try clear hk); (try clear hi)))
  (try simp only [Act.put, List.setIfInBounds_toArray, List.set_cons_zero, List.set_cons_succ])
  go_cut [] (fun wc => ∃ (kq : Nat), Aside0 (laws_FnHistFind.j0 kq t390 t393 t398 t383 t386 t387 = some r) ∧ Aside0 (kq ≤ k) ∧ Aside0 (Kd.R (Kd.int .i64) 2 wc w.heap.size (fun k_ => some k_ ≠ ((.slice Ao12 t387.length co12) : Value).ownBlock) (.slice Ao15 t390.length co15) t390) ∧ Aside0 (Kd.S (Kd.slice 2 (Kd.int .i64)) 23 wc w.heap.size (fun k_ => some k_ ≠ ((.slice Ao15 t390.length co15) : Value).ownBlock ∧ some k_ ≠ ((.slice Ao12 t387.length co12) : Value).ownBlock) (.slice Ao10 t383.length co10) t383) ∧ Aside0 (Kd.R (Kd.int .i64) 2 wc w.heap.size (fun k_ => some k_ ≠ ((.slice Ao15 t390.length co15) : Value).ownBlock) (.slice Ao12 t387.length co12) t387) ∧ Aside0 (wc.heap[gb394]? = some (.cells #[(.slice Ao10 t383.length co10), .int .i64 t386, (.slice Ao12 t387.length co12)] 53 (0, 0))) ∧ Aside0 (Below w.heap.size w wc))
  case first =>
   have H := HC7.out
   clear HC7
   by_cases c21 : t398 = t399
   ·rw [if_pos c21] at H
    have c21b0 : (t398 == t399) = true := beq_iff_eq.mpr c21
    have c21b1 : (t398 != t399) = false := bne_eq_false_iff_eq.mpr c21
    clear c21
    (first | rw [c21b0] | (simp only [i64_w, i32_w]; rw [c21b0]) | (have e9_ := c21b0; unfold bne at e9_; rw [e9_]) | skip)
    have H' := Aside0.mk H
    clear H
    go_wp2
    go_meet
    case rel => exact ⟨_, H', ⟨by first | omega | exact Nat.le_refl _⟩, ⟨by (with_reducible repeat (first | apply Kd.R_alloc | apply Kd.R_drewN | apply Kd.R_drew)); exact Kd.R_mono HO392.out (fun _ hk => hk.1)⟩, ⟨by (with_reducible repeat (first | apply Kd.S_alloc | apply Kd.S_drewN | apply Kd.S_drew)); exact Kd.S_mono HO385.out (fun _ hk => ⟨hk.1.2, hk.1.1⟩)⟩, ⟨by (with_reducible repeat (first | apply Kd.R_alloc | apply Kd.R_drewN | apply Kd.R_drew)); exact Kd.R_mono HO389.out (fun _ hk => hk.1)⟩, ⟨by (with_reducible repeat (first | refine blk_drewN ?_ _ | refine blk_drew ?_ | refine blk_alloc ?_ _)); exact BK394.out⟩, ⟨by repeat (first | (with_reducible first | exact HB.out | apply below_alloc | apply pw_below_drewN | apply below_drew1 | refine below_set ?_ GE394.out) | exact HB.out)⟩⟩
   ·rw [if_neg c21] at H
    have c21b0 : (t398 == t399) = false := beq_eq_false_iff_ne.mpr c21
    have c21b1 : (t398 != t399) = true := bne_iff_ne.mpr c21
    (first | rw [c21b0] | (simp only [i64_w, i32_w]; rw [c21b0]) | (have e9_ := c21b0; unfold bne at e9_; rw [e9_]) | skip)
    obtain rfl := Option.some.inj H
    go_wp2
    go_ret
    exact ⟨by first | rfl | (simp [errW_none, errW_some] <;> rfl) | (simp [*, errW_none, errW_some] <;> rfl), by repeat (first | (with_reducible first | exact HB.out | apply below_alloc | apply pw_below_drewN | apply below_drew1 | refine below_set ?_ GE394.out) | exact HB.out)⟩
  case rest =>
   clear HC7
   try clear c1
   try clear c2
   try clear c2b0
   try clear c2b1
   try clear p2
   try clear c3
   try clear c7
   try clear c11
   try clear c21
   try clear c21b0
   try clear c21b1
   try clear hcz11_0
   try clear hcz11_1
   try clear hcz11_2
   try clear hcz19_0
   try clear hcz19_1
   try clear hcz19_2
   try clear hfz11_0
   try clear hfz11_1
   try clear hfz11_2
   try clear hfz19_0
   try clear hfz19_1
   try clear hfz19_2
   obtain ⟨kq, HA, HJ6, HO_4, HO_395000, HO_395002, BK394, HB⟩ := hcut
   cases kq with
   | zero => exact absurd HA.out (by simp [laws_FnHistFind.j0])
   | succ kj6 =>
    have H := HA.out
    clear HA
    simp only [laws_FnHistFind.j0] at H
    have HC22 := Aside0.mk H
    clear H
    go_upto_region 7 with (fail)
    go_cut [37] (fun v37 wc => ∃ (kq : Nat) (x37_21 : Bool), v37 = .bool x37_21 ∧ Aside0 (laws_FnHistFind.j1 kq t390 t393 t398 x37_21 t383 t386 t387 = some r) ∧ Aside0 (kq ≤ kj6) ∧ Aside0 (Kd.R (Kd.int .i64) 2 wc w.heap.size (fun k_ => some k_ ≠ ((.slice Ao12 t387.length co12) : Value).ownBlock) (.slice Ao15 t390.length co15) t390) ∧ Aside0 (Kd.S (Kd.slice 2 (Kd.int .i64)) 23 wc w.heap.size (fun k_ => some k_ ≠ ((.slice Ao15 t390.length co15) : Value).ownBlock ∧ some k_ ≠ ((.slice Ao12 t387.length co12) : Value).ownBlock) (.slice Ao10 t383.length co10) t383) ∧ Aside0 (Kd.R (Kd.int .i64) 2 wc w.heap.size (fun k_ => some k_ ≠ ((.slice Ao15 t390.length co15) : Value).ownBlock) (.slice Ao12 t387.length co12) t387) ∧ Aside0 (wc.heap[gb394]? = some (.cells #[(.slice Ao10 t383.length co10), .int .i64 t386, (.slice Ao12 t387.length co12)] 53 (0, 0))) ∧ Aside0 (Below w.heap.size w wc))
    case first =>
     have H := HC22.out
     clear HC22
     replace H := Option.bind_eq_some_iff.mp H
     obtain ⟨t400, A230, H⟩ := H
     replace H : (if t400 = true then ((spec_PointsRight.f kj6 t390).bind fun t401 => (laws_FnHistFind.j1 kj6 t390 t393 t398 (!t401) t383 t386 t387)) else (laws_FnHistFind.j1 kj6 t390 t393 t398 true t383 t386 t387)) = some r := H
     have A23 := Aside0.mk A230
     clear A230
     by_cases c24 : t400 = true
     ·subst c24
      have H1 : ((spec_PointsRight.f kj6 t390).bind fun t401 => (laws_FnHistFind.j1 kj6 t390 t393 t398 (!t401) t383 t386 t387)) = some r := by rw [if_pos rfl] at H; exact H
      clear H
      have H := H1
      clear H1
      replace H := Option.bind_eq_some_iff.mp H
      obtain ⟨t401, A250, H⟩ := H
      replace H : (laws_FnHistFind.j1 kj6 t390 t393 t398 (!t401) t383 t386 t387) = some r := H
      have A25 := Aside0.mk A250
      clear A250
      have H' := Aside0.mk H
      clear H
      have hcz26_0 : wc.cell? ⟨gb394, 0, none⟩ = some (.slice Ao10 t383.length co10) := (blk_cell BK394.out 0).trans rfl
      have hcz26_1 : wc.cell? ⟨gb394, 1, none⟩ = some (.int .i64 t386) := (blk_cell BK394.out 1).trans rfl
      have hcz26_2 : wc.cell? ⟨gb394, 2, none⟩ = some (.slice Ao12 t387.length co12) := (blk_cell BK394.out 2).trans rfl
      have hfz26_0 := blk_frozen BK394.out 0
      have hfz26_1 := blk_frozen BK394.out 1
      have hfz26_2 := blk_frozen BK394.out 2
      go_wp2_with (first | ((with_reducible refine gate_callee (f := 32) rfl ?_); refine gl (some 31) Try.func32 #[.agg #[.slice Ao10 t383.length co10, .int .i64 t386, .slice Ao12 t387.length co12]] ?_; (with_reducible refine (spec_HistRight.calls kj6 _ _ t383 t386 _ _ t387 true _ ?side1 ?side2 ?side3 ?side4 A23.out).mono ?_); (case side1 => repeat (first | exact (Kd.S_reads' HO_395000.out).2.2 | (with_reducible refine Kd.C_alloc ?_ _) | (with_reducible refine Kd.C_drewN ?_ _) | (with_reducible refine Kd.C_drew ?_))); (case side2 => exact (Kd.S_reads' HO_395000.out).2.1); (case side3 => repeat (first | exact (Kd.R_reads' HO_395002.out).2.2 | (with_reducible refine Kd.C_alloc ?_ _) | (with_reducible refine Kd.C_drewN ?_ _) | (with_reducible refine Kd.C_drew ?_))); (case side4 => exact (Kd.R_reads' HO_395002.out).2.1); rintro e w27 ⟨rfl, hb⟩; refine ⟨_, rfl, ?_⟩; have n0_ := am (Kd.R_below (by (with_reducible repeat (first | apply Kd.R_alloc | apply Kd.R_drewN | apply Kd.R_drew)); exact HO_4.out) hb); have n1_ := am (Kd.S_below (by (with_reducible repeat (first | apply Kd.S_alloc | apply Kd.S_drewN | apply Kd.S_drew)); exact HO_395000.out) hb); have n2_ := am (Kd.R_below (by (with_reducible repeat (first | apply Kd.R_alloc | apply Kd.R_drewN | apply Kd.R_drew)); exact HO_395002.out) hb); have n3_ := am (blk_below (g := gb394) (o := .cells #[.slice Ao10 t383.length co10, .int .i64 t386, .slice Ao12 t387.length co12] 53 (0, 0)) (pk BK394.out) hb); have n4_ := am (below_step (by repeat (first | (with_reducible first | exact HB.out | apply below_alloc | apply pw_below_drewN | apply below_drew1 | refine below_set ?_ GE394.out) | exact HB.out)) hb); clear HO_4; clear HO_395000; clear HO_395002; clear BK394; clear HB; have HO_4 := n0_; have HO_395000 := n1_; have HO_395002 := n2_; have BK394 := n3_; have HB := n4_; clear n0_ n1_ n2_ n3_ n4_; (try clear hb); (try clear hb2); (try clear hk); (try clear hi)) | (go_at_call 12; (with_reducible refine (spec_PointsRight.calls kj6 _ _ t390 t401 _ ?side1 ?side2 A25.out).mono ?_); (case side1 => repeat (first | exact (Kd.R_reads' HO_4.out).2.2 | (with_reducible refine Kd.C_alloc ?_ _) | (with_reducible refine Kd.C_drewN ?_ _) | (with_reducible refine Kd.C_drew ?_))); (case side2 => exact (Kd.R_reads' HO_4.out).2.1); rintro e w' ⟨rfl, ⟨nd, rfl⟩⟩))
      go_meet
      case rel => exact ⟨_, (!t401), (by first | rfl | (simp; done) | (simp [*]; done)), H', ⟨by have := HJ6.out; first | omega | exact Nat.le_refl _⟩, ⟨by (with_reducible repeat (first | apply Kd.R_alloc | apply Kd.R_drewN | apply Kd.R_drew)); exact HO_4.out⟩, ⟨by (with_reducible repeat (first | apply Kd.S_alloc | apply Kd.S_drewN | apply Kd.S_drew)); exact HO_395000.out⟩, ⟨by (with_reducible repeat (first | apply Kd.R_alloc | apply Kd.R_drewN | apply Kd.R_drew)); exact HO_395002.out⟩, ⟨by (with_reducible repeat (first | refine blk_drewN ?_ _ | refine blk_drew ?_ | refine blk_alloc ?_ _)); exact BK394.out⟩, ⟨by repeat (first | (with_reducible first | exact HB.out | apply below_alloc | apply pw_below_drewN | apply below_drew1 | refine below_set ?_ GE394.out) | exact HB.out)⟩⟩
     ·replace c24 := Bool.eq_false_iff.mpr c24
      subst c24
      have H1 : (laws_FnHistFind.j1 kj6 t390 t393 t398 true t383 t386 t387) = some r := by rw [if_neg (show ¬ (false = true) by decide)] at H; exact H
      clear H
      have H := H1
      clear H1
      have H' := Aside0.mk H
      clear H
      have hcz28_0 : wc.cell? ⟨gb394, 0, none⟩ = some (.slice Ao10 t383.length co10) := (blk_cell BK394.out 0).trans rfl
      have hcz28_1 : wc.cell? ⟨gb394, 1, none⟩ = some (.int .i64 t386) := (blk_cell BK394.out 1).trans rfl
      have hcz28_2 : wc.cell? ⟨gb394, 2, none⟩ = some (.slice Ao12 t387.length co12) := (blk_cell BK394.out 2).trans rfl
      have hfz28_0 := blk_frozen BK394.out 0
      have hfz28_1 := blk_frozen BK394.out 1
      have hfz28_2 := blk_frozen BK394.out 2
      go_wp2_with (first | ((with_reducible refine gate_callee (f := 32) rfl ?_); refine gl (some 31) Try.func32 #[.agg #[.slice Ao10 t383.length co10, .int .i64 t386, .slice Ao12 t387.length co12]] ?_; (with_reducible refine (spec_HistRight.calls kj6 _ _ t383 t386 _ _ t387 false _ ?side1 ?side2 ?side3 ?side4 A23.out).mono ?_); (case side1 => repeat (first | exact (Kd.S_reads' HO_395000.out).2.2 | (with_reducible refine Kd.C_alloc ?_ _) | (with_reducible refine Kd.C_drewN ?_ _) | (with_reducible refine Kd.C_drew ?_))); (case side2 => exact (Kd.S_reads' HO_395000.out).2.1); (case side3 => repeat (first | exact (Kd.R_reads' HO_395002.out).2.2 | (with_reducible refine Kd.C_alloc ?_ _) | (with_reducible refine Kd.C_drewN ?_ _) | (with_reducible refine Kd.C_drew ?_))); (case side4 => exact (Kd.R_reads' HO_395002.out).2.1); rintro e w29 ⟨rfl, hb⟩; refine ⟨_, rfl, ?_⟩; have n0_ := am (Kd.R_below (by (with_reducible repeat (first | apply Kd.R_alloc | apply Kd.R_drewN | apply Kd.R_drew)); exact HO_4.out) hb); have n1_ := am (Kd.S_below (by (with_reducible repeat (first | apply Kd.S_alloc | apply Kd.S_drewN | apply Kd.S_drew)); exact HO_395000.out) hb); have n2_ := am (Kd.R_below (by (with_reducible repeat (first | apply Kd.R_alloc | apply Kd.R_drewN | apply Kd.R_drew)); exact HO_395002.out) hb); have n3_ := am (blk_below (g := gb394) (o := .cells #[.slice Ao10 t383.length co10, .int .i64 t386, .slice Ao12 t387.length co12] 53 (0, 0)) (pk BK394.out) hb); have n4_ := am (below_step (by repeat (first | (with_reducible first | exact HB.out | apply below_alloc | apply pw_below_drewN | apply below_drew1 | refine below_set ?_ GE394.out) | exact HB.out)) hb); clear HO_4; clear HO_395000; clear HO_395002; clear BK394; clear HB; have HO_4 := n0_; have HO_395000 := n1_; have HO_395002 := n2_; have BK394 := n3_; have HB := n4_; clear n0_ n1_ n2_ n3_ n4_; (try clear hb); (try clear hb2); (try clear hk); (try clear hi)))
      go_meet
      case rel => exact ⟨_, (true), (by first | rfl | (simp; done) | (simp [*]; done)), H', ⟨by have := HJ6.out; first | omega | exact Nat.le_refl _⟩, ⟨by (with_reducible repeat (first | apply Kd.R_alloc | apply Kd.R_drewN | apply Kd.R_drew)); exact HO_4.out⟩, ⟨by (with_reducible repeat (first | apply Kd.S_alloc | apply Kd.S_drewN | apply Kd.S_drew)); exact HO_395000.out⟩, ⟨by (with_reducible repeat (first | apply Kd.R_alloc | apply Kd.R_drewN | apply Kd.R_drew)); exact HO_395002.out⟩, ⟨by (with_reducible repeat (first | refine blk_drewN ?_ _ | refine blk_drew ?_ | refine blk_alloc ?_ _)); exact BK394.out⟩, ⟨by repeat (first | (with_reducible first | exact HB.out | apply below_alloc | apply pw_below_drewN | apply below_drew1 | refine below_set ?_ GE394.out) | exact HB.out)⟩⟩
    case rest =>
     clear HC22
     try clear c1
     try clear c2
     try clear c2b0
     try clear c2b1
     try clear p2
     try clear c3
     try clear c7
     try clear c11
     try clear c21
     try clear c21b0
     try clear c21b1
     try clear c24
     try clear c29
     try clear hcz11_0
     try clear hcz11_1
     try clear hcz11_2
     try clear hcz19_0
     try clear hcz19_1
     try clear hcz19_2
     try clear hcz26_0
     try clear hcz26_1
     try clear hcz26_2
     try clear hcz28_0
     try clear hcz28_1
     try clear hcz28_2
     try clear hfz11_0
     try clear hfz11_1
     try clear hfz11_2
     try clear hfz19_0
     try clear hfz19_1
     try clear hfz19_2
     try clear hfz26_0
     try clear hfz26_1
     try clear hfz26_2
     try clear hfz28_0
     try clear hfz28_1
     try clear hfz28_2
     try clear p2
     obtain ⟨kq, x37_21, rfl, HA, HJ21, HO_4, HO_395000, HO_395002, BK394, HB⟩ := hcut
     cases kq with
     | zero => exact absurd HA.out (by simp [laws_FnHistFind.j1])
     | succ kj21 =>
      have H := HA.out
      clear HA
      simp only [laws_FnHistFind.j1] at H
      have HC30 := Aside0.mk H
      clear H
      go_upto_if 37 with (fail)
      go_cut [] (fun wc => ∃ (kq : Nat), Aside0 (laws_FnHistFind.j2 kq t390 t393 t398 t383 t386 t387 = some r) ∧ Aside0 (kq ≤ kj21) ∧ Aside0 (Kd.R (Kd.int .i64) 2 wc w.heap.size (fun k_ => some k_ ≠ ((.slice Ao12 t387.length co12) : Value).ownBlock) (.slice Ao15 t390.length co15) t390) ∧ Aside0 (Kd.S (Kd.slice 2 (Kd.int .i64)) 23 wc w.heap.size (fun k_ => some k_ ≠ ((.slice Ao15 t390.length co15) : Value).ownBlock ∧ some k_ ≠ ((.slice Ao12 t387.length co12) : Value).ownBlock) (.slice Ao10 t383.length co10) t383) ∧ Aside0 (Kd.R (Kd.int .i64) 2 wc w.heap.size (fun k_ => some k_ ≠ ((.slice Ao15 t390.length co15) : Value).ownBlock) (.slice Ao12 t387.length co12) t387) ∧ Aside0 (wc.heap[gb394]? = some (.cells #[(.slice Ao10 t383.length co10), .int .i64 t386, (.slice Ao12 t387.length co12)] 53 (0, 0))) ∧ Aside0 (Below w.heap.size w wc))
      case first =>
       have H := HC30.out
       clear HC30
       by_cases c31 : x37_21 = true
       ·subst c31
        have H1 : (some true) = some r := by rw [if_pos rfl] at H; exact H
        clear H
        have H := H1
        clear H1
        obtain rfl := Option.some.inj H
        go_wp2
        go_ret
        exact ⟨by first | rfl | (simp [errW_none, errW_some] <;> rfl) | (simp [*, errW_none, errW_some] <;> rfl), by repeat (first | (with_reducible first | exact HB.out | apply below_alloc | apply pw_below_drewN | apply below_drew1 | refine below_set ?_ GE394.out) | exact HB.out)⟩
       ·replace c31 := Bool.eq_false_iff.mpr c31
        subst c31
        have H1 : (laws_FnHistFind.j2 kj21 t390 t393 t398 t383 t386 t387) = some r := by rw [if_neg (show ¬ (false = true) by decide)] at H; exact H
        clear H
        have H := H1
        clear H1
        have H' := Aside0.mk H
        clear H
        go_wp2
        go_meet
        case rel => exact ⟨_, H', ⟨by have := HJ6.out; have := HJ21.out; first | omega | exact Nat.le_refl _⟩, ⟨by (with_reducible repeat (first | apply Kd.R_alloc | apply Kd.R_drewN | apply Kd.R_drew)); exact HO_4.out⟩, ⟨by (with_reducible repeat (first | apply Kd.S_alloc | apply Kd.S_drewN | apply Kd.S_drew)); exact HO_395000.out⟩, ⟨by (with_reducible repeat (first | apply Kd.R_alloc | apply Kd.R_drewN | apply Kd.R_drew)); exact HO_395002.out⟩, ⟨by (with_reducible repeat (first | refine blk_drewN ?_ _ | refine blk_drew ?_ | refine blk_alloc ?_ _)); exact BK394.out⟩, ⟨by repeat (first | (with_reducible first | exact HB.out | apply below_alloc | apply pw_below_drewN | apply below_drew1 | refine below_set ?_ GE394.out) | exact HB.out)⟩⟩
      case rest =>
       clear HC30
       try clear c1
       try clear c2
       try clear c2b0
       try clear c2b1
       try clear p2
       try clear c3
       try clear c7
       try clear c11
       try clear c21
       try clear c21b0
       try clear c21b1
       try clear c24
       try clear c29
       try clear c30
       try clear c31
       try clear hcz11_0
       try clear hcz11_1
       try clear hcz11_2
       try clear hcz19_0
       try clear hcz19_1
       try clear hcz19_2
       try clear hcz26_0
       try clear hcz26_1
       try clear hcz26_2
       try clear hcz28_0
       try clear hcz28_1
       try clear hcz28_2
       try clear hfz11_0
       try clear hfz11_1
       try clear hfz11_2
       try clear hfz19_0
       try clear hfz19_1
       try clear hfz19_2
       try clear hfz26_0
       try clear hfz26_1
       try clear hfz26_2
       try clear hfz28_0
       try clear hfz28_1
       try clear hfz28_2
       try clear p2
       obtain ⟨kq, HA, HJ29, HO_4, HO_395000, HO_395002, BK394, HB⟩ := hcut
       cases kq with
       | zero => exact absurd HA.out (by simp [laws_FnHistFind.j2])
       | succ kj29 =>
        have H := HA.out
        clear HA
        simp only [laws_FnHistFind.j2] at H
        have H' := Aside0.mk H
        clear H
        have hcz32_0 : wc.cell? ⟨gb394, 0, none⟩ = some (.slice Ao10 t383.length co10) := (blk_cell BK394.out 0).trans rfl
        have hcz32_1 : wc.cell? ⟨gb394, 1, none⟩ = some (.int .i64 t386) := (blk_cell BK394.out 1).trans rfl
        have hcz32_2 : wc.cell? ⟨gb394, 2, none⟩ = some (.slice Ao12 t387.length co12) := (blk_cell BK394.out 2).trans rfl
        have hfz32_0 := blk_frozen BK394.out 0
        have hfz32_1 := blk_frozen BK394.out 1
        have hfz32_2 := blk_frozen BK394.out 2
        go_wp2
        go_loopg [7] kj29 (fun kq v7 w' => ∃ (x7_4 : Int), v7 = .int .i64 x7_4 ∧ Aside0 (laws_FnHistFind.l0 kq t390 t393 t398 x7_4 t383 t386 t387 = some r) ∧ Aside0 (kq ≤ kj29) ∧ Aside0 (Kd.R (Kd.int .i64) 2 w' w.heap.size (fun k_ => some k_ ≠ ((.slice Ao12 t387.length co12) : Value).ownBlock) (.slice Ao15 t390.length co15) t390) ∧ Aside0 (Kd.S (Kd.slice 2 (Kd.int .i64)) 23 w' w.heap.size (fun k_ => some k_ ≠ ((.slice Ao15 t390.length co15) : Value).ownBlock ∧ some k_ ≠ ((.slice Ao12 t387.length co12) : Value).ownBlock) (.slice Ao10 t383.length co10) t383) ∧ Aside0 (Kd.R (Kd.int .i64) 2 w' w.heap.size (fun k_ => some k_ ≠ ((.slice Ao15 t390.length co15) : Value).ownBlock) (.slice Ao12 t387.length co12) t387) ∧ Aside0 (w'.heap[gb394]? = some (.cells #[(.slice Ao10 t383.length co10), .int .i64 t386, (.slice Ao12 t387.length co12)] 53 (0, 0))) ∧ Aside0 (Below w.heap.size w w'))
        case atStart => exact ⟨(wrap64 ((t383.length : Int) - 1)), (by first | rfl | (simp; done) | (simp [*]; done)), H', ⟨Nat.le_refl _⟩, ⟨by (with_reducible repeat (first | apply Kd.R_alloc | apply Kd.R_drewN | apply Kd.R_drew)); exact HO_4.out⟩, ⟨by (with_reducible repeat (first | apply Kd.S_alloc | apply Kd.S_drewN | apply Kd.S_drew)); exact HO_395000.out⟩, ⟨by (with_reducible repeat (first | apply Kd.R_alloc | apply Kd.R_drewN | apply Kd.R_drew)); exact HO_395002.out⟩, ⟨by (with_reducible repeat (first | refine blk_drewN ?_ _ | refine blk_drew ?_ | refine blk_alloc ?_ _)); exact BK394.out⟩, ⟨by repeat (first | (with_reducible first | exact HB.out | apply below_alloc | apply pw_below_drewN | apply below_drew1 | refine below_set ?_ GE394.out) | exact HB.out)⟩⟩
        case round =>
         clear H'
         try clear c1
         try clear c2
         try clear c2b0
         try clear c2b1
         try clear p2
         try clear c3
         try clear p6
         try clear c7
         try clear c11
         try clear c21
         try clear c21b0
         try clear c21b1
         try clear c24
         try clear c29
         try clear c30
         try clear c31
         try clear c32
         try clear hcz11_0
         try clear hcz11_1
         try clear hcz11_2
         try clear hcz19_0
         try clear hcz19_1
         try clear hcz19_2
         try clear hcz26_0
         try clear hcz26_1
         try clear hcz26_2
         try clear hcz28_0
         try clear hcz28_1
         try clear hcz28_2
         try clear hcz32_0
         try clear hcz32_1
         try clear hcz32_2
         try clear hfz11_0
         try clear hfz11_1
         try clear hfz11_2
         try clear hfz19_0
         try clear hfz19_1
         try clear hfz19_2
         try clear hfz26_0
         try clear hfz26_1
         try clear hfz26_2
         try clear hfz28_0
         try clear hfz28_1
         try clear hfz28_2
         try clear hfz32_0
         try clear hfz32_1
         try clear hfz32_2
         try clear p2
         obtain ⟨x7_4, rfl, HA, HK4, HO_4, HO_395000, HO_395002, BK394, HB⟩ := hrel
         cases gk with
         | zero => exact absurd HA.out (by simp [laws_FnHistFind.l0])
         | succ k4 =>
          have H := HA.out
          clear HA
          simp only [laws_FnHistFind.l0] at H
          have HC33 := Aside0.mk H
          clear H
          go_upto_if 43 with (fail)
          go_cut [] (fun wc => ∃ (kq : Nat), Aside0 (laws_FnHistFind.j4 kq t390 t393 t398 x7_4 t383 t386 t387 = some r) ∧ Aside0 (kq ≤ k4) ∧ Aside0 (Kd.R (Kd.int .i64) 2 wc w.heap.size (fun k_ => some k_ ≠ ((.slice Ao12 t387.length co12) : Value).ownBlock) (.slice Ao15 t390.length co15) t390) ∧ Aside0 (Kd.S (Kd.slice 2 (Kd.int .i64)) 23 wc w.heap.size (fun k_ => some k_ ≠ ((.slice Ao15 t390.length co15) : Value).ownBlock ∧ some k_ ≠ ((.slice Ao12 t387.length co12) : Value).ownBlock) (.slice Ao10 t383.length co10) t383) ∧ Aside0 (Kd.R (Kd.int .i64) 2 wc w.heap.size (fun k_ => some k_ ≠ ((.slice Ao15 t390.length co15) : Value).ownBlock) (.slice Ao12 t387.length co12) t387) ∧ Aside0 (wc.heap[gb394]? = some (.cells #[(.slice Ao10 t383.length co10), .int .i64 t386, (.slice Ao12 t387.length co12)] 53 (0, 0))) ∧ Aside0 (Below w.heap.size w wc))
          case first =>
           have H := HC33.out
           clear HC33
           by_cases c34 : x7_4 ≥ 0
           ·rw [if_pos c34] at H
            have c34b0 : decide (0 ≤ x7_4) = true := decide_eq_true c34
            clear c34
            (first | rw [c34b0] | (simp only [i64_w, i32_w]; rw [c34b0]) | (have e9_ := c34b0; unfold bne at e9_; rw [e9_]) | skip)
            have H' := Aside0.mk H
            clear H
            go_wp2
            go_meet
            case rel => exact ⟨_, H', ⟨by have := HJ6.out; have := HJ21.out; have := HJ29.out; have := HK4.out; first | omega | exact Nat.le_refl _⟩, ⟨by (with_reducible repeat (first | apply Kd.R_alloc | apply Kd.R_drewN | apply Kd.R_drew)); exact HO_4.out⟩, ⟨by (with_reducible repeat (first | apply Kd.S_alloc | apply Kd.S_drewN | apply Kd.S_drew)); exact HO_395000.out⟩, ⟨by (with_reducible repeat (first | apply Kd.R_alloc | apply Kd.R_drewN | apply Kd.R_drew)); exact HO_395002.out⟩, ⟨by (with_reducible repeat (first | refine blk_drewN ?_ _ | refine blk_drew ?_ | refine blk_alloc ?_ _)); exact BK394.out⟩, ⟨by repeat (first | (with_reducible first | exact HB.out | apply below_alloc | apply pw_below_drewN | apply below_drew1 | refine below_set ?_ GE394.out) | exact HB.out)⟩⟩
           ·rw [if_neg c34] at H
            have c34b0 : decide (0 ≤ x7_4) = false := decide_eq_false c34
            clear c34
            (first | rw [c34b0] | (simp only [i64_w, i32_w]; rw [c34b0]) | (have e9_ := c34b0; unfold bne at e9_; rw [e9_]) | skip)
            obtain rfl := Option.some.inj H
            go_wp2
            go_ret
            exact ⟨by first | rfl | (simp [errW_none, errW_some] <;> rfl) | (simp [*, errW_none, errW_some] <;> rfl), by repeat (first | (with_reducible first | exact HB.out | apply below_alloc | apply pw_below_drewN | apply below_drew1 | refine below_set ?_ GE394.out) | exact HB.out)⟩
          case rest =>
           clear HC33
           try clear c1
           try clear c2
           try clear c2b0
           try clear c2b1
           try clear p2
           try clear c3
           try clear p6
           try clear c7
           try clear c11
           try clear c21
           try clear c21b0
           try clear c21b1
           try clear c24
           try clear c29
           try clear c30
           try clear c31
           try clear c32
           try clear c34
           try clear c34b0
           try clear hcz11_0
           try clear hcz11_1
           try clear hcz11_2
           try clear hcz19_0
           try clear hcz19_1
           try clear hcz19_2
           try clear hcz26_0
           try clear hcz26_1
           try clear hcz26_2
           try clear hcz28_0
           try clear hcz28_1
           try clear hcz28_2
           try clear hcz32_0
           try clear hcz32_1
           try clear hcz32_2
           try clear hfz11_0
           try clear hfz11_1
           try clear hfz11_2
           try clear hfz19_0
           try clear hfz19_1
           try clear hfz19_2
           try clear hfz26_0
           try clear hfz26_1
           try clear hfz26_2
           try clear hfz28_0
           try clear hfz28_1
           try clear hfz28_2
           try clear hfz32_0
           try clear hfz32_1
           try clear hfz32_2
           try clear p2
           try clear p6
           obtain ⟨kq, HA, HJ32, HO_4, HO_395000, HO_395002, BK394, HB⟩ := hcut
           cases kq with
           | zero => exact absurd HA.out (by simp [laws_FnHistFind.j4])
           | succ kj32 =>
            have H := HA.out
            clear HA
            simp only [laws_FnHistFind.j4] at H
            have H' := Aside0.mk H
            clear H
            go_wp2
            go_loopg [8, 9] kj32 (fun kq v8 v9 w' => ∃ (x8_6 : Bool) (x9_6 : Int), v8 = .bool x8_6 ∧ v9 = .int .i64 x9_6 ∧ Aside0 (laws_FnHistFind.l1 kq t390 t393 t398 x7_4 x8_6 x9_6 t383 t386 t387 = some r) ∧ Aside0 (kq ≤ kj32) ∧ Aside0 (Kd.R (Kd.int .i64) 2 w' w.heap.size (fun k_ => some k_ ≠ ((.slice Ao12 t387.length co12) : Value).ownBlock) (.slice Ao15 t390.length co15) t390) ∧ Aside0 (Kd.S (Kd.slice 2 (Kd.int .i64)) 23 w' w.heap.size (fun k_ => some k_ ≠ ((.slice Ao15 t390.length co15) : Value).ownBlock ∧ some k_ ≠ ((.slice Ao12 t387.length co12) : Value).ownBlock) (.slice Ao10 t383.length co10) t383) ∧ Aside0 (Kd.R (Kd.int .i64) 2 w' w.heap.size (fun k_ => some k_ ≠ ((.slice Ao15 t390.length co15) : Value).ownBlock) (.slice Ao12 t387.length co12) t387) ∧ Aside0 (w'.heap[gb394]? = some (.cells #[(.slice Ao10 t383.length co10), .int .i64 t386, (.slice Ao12 t387.length co12)] 53 (0, 0))) ∧ Aside0 (Below w.heap.size w w'))
            case atStart => exact ⟨(false), (0), (by first | rfl | (simp; done) | (simp [*]; done)), (by first | rfl | (simp; done) | (simp [*]; done)), H', ⟨Nat.le_refl _⟩, ⟨by (with_reducible repeat (first | apply Kd.R_alloc | apply Kd.R_drewN | apply Kd.R_drew)); exact HO_4.out⟩, ⟨by (with_reducible repeat (first | apply Kd.S_alloc | apply Kd.S_drewN | apply Kd.S_drew)); exact HO_395000.out⟩, ⟨by (with_reducible repeat (first | apply Kd.R_alloc | apply Kd.R_drewN | apply Kd.R_drew)); exact HO_395002.out⟩, ⟨by (with_reducible repeat (first | refine blk_drewN ?_ _ | refine blk_drew ?_ | refine blk_alloc ?_ _)); exact BK394.out⟩, ⟨by repeat (first | (with_reducible first | exact HB.out | apply below_alloc | apply pw_below_drewN | apply below_drew1 | refine below_set ?_ GE394.out) | exact HB.out)⟩⟩
            case round =>
             clear H'
             try clear c1
             try clear c2
             try clear c2b0
             try clear c2b1
             try clear p2
             try clear c3
             try clear p6
             try clear c7
             try clear c11
             try clear c21
             try clear c21b0
             try clear c21b1
             try clear c24
             try clear c29
             try clear c30
             try clear c31
             try clear c32
             try clear c34
             try clear c34b0
             try clear hcz11_0
             try clear hcz11_1
             try clear hcz11_2
             try clear hcz19_0
             try clear hcz19_1
             try clear hcz19_2
             try clear hcz26_0
             try clear hcz26_1
             try clear hcz26_2
             try clear hcz28_0
             try clear hcz28_1
             try clear hcz28_2
             try clear hcz32_0
             try clear hcz32_1
             try clear hcz32_2
             try clear hfz11_0
             try clear hfz11_1
             try clear hfz11_2
             try clear hfz19_0
             try clear hfz19_1
             try clear hfz19_2
             try clear hfz26_0
             try clear hfz26_1
             try clear hfz26_2
             try clear hfz28_0
             try clear hfz28_1
             try clear hfz28_2
             try clear hfz32_0
             try clear hfz32_1
             try clear hfz32_2
             try clear p2
             try clear p6
             obtain ⟨x8_6, x9_6, rfl, rfl, HA, HK6, HO_4, HO_395000, HO_395002, BK394, HB⟩ := hrel
             cases gk with
             | zero => exact absurd HA.out (by simp [laws_FnHistFind.l1])
             | succ k6 =>
              have H := HA.out
              clear HA
              simp only [laws_FnHistFind.l1] at H
              by_cases c35 : 0 ≤ x7_4
              ·rw [if_pos c35] at H
               have c35b0 : decide (0 ≤ x7_4) = true := decide_eq_true c35
               clear c35
               by_cases c36 : x7_4 < (t383.length : Int)
               ·rw [if_pos c36] at H
                have c36b0 : decide (x7_4 < (t383.length : Int)) = true := decide_eq_true c36
                clear c36
                by_cases c37 : (wrap64 (x9_6 + (t390.length : Int))) ≤ ((rd_L3 t383 x7_4).length : Int)
                ·rw [if_pos c37] at H
                 have c37b0 : decide ((wrap64 (x9_6 + (t390.length : Int))) ≤ ((rd_L3 t383 x7_4).length : Int)) = true := decide_eq_true c37
                 clear c37
                 by_cases c38 : x8_6 = true
                 ·subst c38
                  have H1 : (laws_FnHistFind.l1 k6 t390 t393 t398 x7_4 true (wrap64 (x9_6 + 1)) t383 t386 t387) = some r := by rw [if_pos rfl] at H; exact H
                  clear H
                  have H := H1
                  clear H1
                  have H' := Aside0.mk H
                  clear H
                  have hcz39_0 : wr.cell? ⟨gb394, 0, none⟩ = some (.slice Ao10 t383.length co10) := (blk_cell BK394.out 0).trans rfl
                  have hcz39_1 : wr.cell? ⟨gb394, 1, none⟩ = some (.int .i64 t386) := (blk_cell BK394.out 1).trans rfl
                  have hcz39_2 : wr.cell? ⟨gb394, 2, none⟩ = some (.slice Ao12 t387.length co12) := (blk_cell BK394.out 2).trans rfl
                  have hfz39_0 := blk_frozen BK394.out 0
                  have hfz39_1 := blk_frozen BK394.out 1
                  have hfz39_2 := blk_frozen BK394.out 2
                  have p402 : 0 ≤ (x7_4 : Int) := of_decide_eq_true (by first | (with_reducible assumption) | assumption)
                  have q402 : x7_4 < (t383.length : Int) := of_decide_eq_true (by first | (with_reducible assumption) | assumption)
                  obtain ⟨ad402, A402_0, c402_0, e402, hx402_0, hl402_0, hi402_0⟩ := at_L3 (Kd.S_reads' HO_395000.out).2.2 x7_4 p402 q402
                  cases e402
                  obtain ⟨ce402, hce402, hMe402, hcc402⟩ := Kd.S_get HO_395000.out [] x7_4 p402 (by first | exact q402 | exact of_decide_eq_true (by first | (with_reducible assumption) | assumption) | (have e_ := (Kd.S_reads' HO_395000.out).1; omega))
                  obtain ⟨ve402_0, rfl, ge402_0⟩ := hMe402
                  have hv402_0 := hcc402 0 _ rfl
                  rw [Nat.add_zero, show ((Kd.slice 2 (Kd.int .i64))).sz = 1 from rfl, Nat.mul_one] at hv402_0
                  replace hv402_0 := Option.some.inj (hv402_0.symm.trans hx402_0)
                  rw [hv402_0] at ge402_0
                  have HL402_0 := am (show Kd.R (Kd.int .i64) 2 _ _ _ _ (rd_L3 t383 x7_4) from ge402_0)
                  clear hv402_0 ge402_0
                  clear hcc402 hce402
                  have HR402_0 := am hi402_0
                  have HC402_0 := am hl402_0
                  clear hi402_0 hl402_0
                  replace p402 := eq_true p402
                  replace q402 := eq_true q402
                  go_wp2
                  go_roundg k6
                  case measure => have := HJ6.out; have := HJ21.out; have := HJ29.out; have := HK4.out; have := HJ32.out; have := HK6.out; omega
                  case rel => exact ⟨(true), (wrap64 (x9_6 + 1)), (by first | rfl | (simp; done) | (simp [*]; done)), (by first | rfl | (simp; done) | (simp [*]; done)), H', ⟨by have := HJ6.out; have := HJ21.out; have := HJ29.out; have := HK4.out; have := HJ32.out; have := HK6.out; omega⟩, ⟨by (with_reducible repeat (first | apply Kd.R_alloc | apply Kd.R_drewN | apply Kd.R_drew)); exact HO_4.out⟩, ⟨by (with_reducible repeat (first | apply Kd.S_alloc | apply Kd.S_drewN | apply Kd.S_drew)); exact HO_395000.out⟩, ⟨by (with_reducible repeat (first | apply Kd.R_alloc | apply Kd.R_drewN | apply Kd.R_drew)); exact HO_395002.out⟩, ⟨by (with_reducible repeat (first | refine blk_drewN ?_ _ | refine blk_drew ?_ | refine blk_alloc ?_ _)); exact BK394.out⟩, ⟨by repeat (first | (with_reducible first | exact HB.out | apply below_alloc | apply pw_below_drewN | apply below_drew1 | refine below_set ?_ GE394.out) | exact HB.out)⟩⟩
                 ·replace c38 := Bool.eq_false_iff.mpr c38
                  subst c38
                  have H1 : (if 0 ≤ x9_6 then (if x9_6 ≤ (wrap64 (x9_6 + (t390.length : Int))) then ((laws_lwSame.f k6 (((rd_L3 t383 x7_4).take ((wrap64 (x9_6 + (t390.length : Int))) : Int).toNat).drop (x9_6 : Int).toNat) t390).bind fun t408 => (laws_FnHistFind.l1 k6 t390 t393 t398 x7_4 t408 (wrap64 (x9_6 + 1)) t383 t386 t387)) else (none)) else (none)) = some r := by rw [if_neg (show ¬ (false = true) by decide)] at H; exact H
                  clear H
                  have H := H1
                  clear H1
                  by_cases c40 : 0 ≤ x9_6
                  ·rw [if_pos c40] at H
                   have c40b0 := eq_true c40
                   have c40b1 : decide (0 ≤ x9_6) = true := decide_eq_true c40
                   clear c40
                   by_cases c41 : x9_6 ≤ (wrap64 (x9_6 + (t390.length : Int)))
                   ·rw [if_pos c41] at H
                    have c41b0 := eq_true c41
                    have c41b1 : decide (x9_6 ≤ (wrap64 (x9_6 + (t390.length : Int)))) = true := decide_eq_true c41
                    have c42b0 := eq_true (of_decide_eq_true (by first | (with_reducible assumption) | assumption) : (wrap64 (x9_6 + (t390.length : Int))) ≤ ((rd_L3 t383 x7_4).length : Int))
                    obtain ⟨y404, hy404⟩ : ∃ y_ : List Int, y_ = (((rd_L3 t383 x7_4).take ((wrap64 (x9_6 + (t390.length : Int))) : Int).toNat).drop (x9_6 : Int).toNat) := ⟨_, rfl⟩
                    replace H : ((laws_lwSame.f k6 y404 t390).bind fun t408 => (laws_FnHistFind.l1 k6 t390 t393 t398 x7_4 t408 (wrap64 (x9_6 + 1)) t383 t386 t387)) = some r := by first | (rw [hy404]; with_reducible exact H) | (have H2_ := (Option.bind_some _ _).symm.trans H; rw [hy404]; with_reducible exact H2_) | (have H2_ := (Option.bind_some _ _).symm.trans H; with_reducible exact H2_) | with_reducible exact H | (rw [hy404]; exact H) | exact H
                    have Ny404 := am hy404
                    clear hy404
                    replace H := Option.bind_eq_some_iff.mp H
                    obtain ⟨t408, A430, H⟩ := H
                    replace H : (laws_FnHistFind.l1 k6 t390 t393 t398 x7_4 t408 (wrap64 (x9_6 + 1)) t383 t386 t387) = some r := H
                    have A43 := Aside0.mk A430
                    clear A430
                    have H' := Aside0.mk H
                    clear H
                    have hcz44_0 : wr.cell? ⟨gb394, 0, none⟩ = some (.slice Ao10 t383.length co10) := (blk_cell BK394.out 0).trans rfl
                    have hcz44_1 : wr.cell? ⟨gb394, 1, none⟩ = some (.int .i64 t386) := (blk_cell BK394.out 1).trans rfl
                    have hcz44_2 : wr.cell? ⟨gb394, 2, none⟩ = some (.slice Ao12 t387.length co12) := (blk_cell BK394.out 2).trans rfl
                    have hfz44_0 := blk_frozen BK394.out 0
                    have hfz44_1 := blk_frozen BK394.out 1
                    have hfz44_2 := blk_frozen BK394.out 2
                    have p402 : 0 ≤ (x7_4 : Int) := of_decide_eq_true (by first | (with_reducible assumption) | assumption)
                    have q402 : x7_4 < (t383.length : Int) := of_decide_eq_true (by first | (with_reducible assumption) | assumption)
                    obtain ⟨ad402, A402_0, c402_0, e402, hx402_0, hl402_0, hi402_0⟩ := at_L3 (Kd.S_reads' HO_395000.out).2.2 x7_4 p402 q402
                    cases e402
                    obtain ⟨ce402, hce402, hMe402, hcc402⟩ := Kd.S_get HO_395000.out [] x7_4 p402 (by first | exact q402 | exact of_decide_eq_true (by first | (with_reducible assumption) | assumption) | (have e_ := (Kd.S_reads' HO_395000.out).1; omega))
                    obtain ⟨ve402_0, rfl, ge402_0⟩ := hMe402
                    have hv402_0 := hcc402 0 _ rfl
                    rw [Nat.add_zero, show ((Kd.slice 2 (Kd.int .i64))).sz = 1 from rfl, Nat.mul_one] at hv402_0
                    replace hv402_0 := Option.some.inj (hv402_0.symm.trans hx402_0)
                    rw [hv402_0] at ge402_0
                    have HL402_0 := am (show Kd.R (Kd.int .i64) 2 _ _ _ _ (rd_L3 t383 x7_4) from ge402_0)
                    clear hv402_0 ge402_0
                    clear hcc402 hce402
                    have HR402_0 := am hi402_0
                    have HC402_0 := am hl402_0
                    clear hi402_0 hl402_0
                    replace p402 := eq_true p402
                    replace q402 := eq_true q402
                    have p403 : 0 ≤ (x7_4 : Int) := of_decide_eq_true (by first | (with_reducible assumption) | assumption)
                    have q403 : x7_4 < (t383.length : Int) := of_decide_eq_true (by first | (with_reducible assumption) | assumption)
                    obtain ⟨ad403, A403_0, c403_0, e403, hx403_0, hl403_0, hi403_0⟩ := at_L3 (Kd.S_reads' HO_395000.out).2.2 x7_4 p403 q403
                    obtain rfl : ad402 = ad403 := (by injection e403)
                    obtain ⟨ce403, hce403, hMe403, hcc403⟩ := Kd.S_get HO_395000.out [] x7_4 p403 (by first | exact q403 | exact of_decide_eq_true (by first | (with_reducible assumption) | assumption) | (have e_ := (Kd.S_reads' HO_395000.out).1; omega))
                    obtain ⟨ve403_0, rfl, ge403_0⟩ := hMe403
                    have hv403_0 := hcc403 0 _ rfl
                    rw [Nat.add_zero, show ((Kd.slice 2 (Kd.int .i64))).sz = 1 from rfl, Nat.mul_one] at hv403_0
                    replace hv403_0 := Option.some.inj (hv403_0.symm.trans hx403_0)
                    rw [hv403_0] at ge403_0
                    have HL403_0 := am (show Kd.R (Kd.int .i64) 2 _ _ _ _ (rd_L3 t383 x7_4) from ge403_0)
                    clear hv403_0 ge403_0
                    clear hcc403 hce403
                    have HR403_0 := am hi403_0
                    have HC403_0 := am hl403_0
                    clear hi403_0 hl403_0
                    replace p403 := eq_true p403
                    replace q403 := eq_true q403
                    (first | have ea_ := Option.some.inj (hx402_0.symm.trans hx403_0) | have ea_ := Option.some.inj (hxw402_0.symm.trans hxw403_0))
                    injection ea_ with ea_ en_ ec_
                    subst ea_
                    subst ec_
                    clear en_
                    have q45 : ((wrap64 (x9_6 + (t390.length : Int))) : Int) ≤ (((rd_L3 t383 x7_4).length : Int) : Int) := of_decide_eq_true (by first | (with_reducible assumption) | assumption)
                    obtain ⟨i045, hi045, _, hsz45, _⟩ := info_parts info2
                    have hroom45 : (rd_L3 t383 x7_4).length ≤ c402_0 := HC403_0.out
                    have hC45 : Kd.C (Kd.int .i64) _ A402_0 (rd_L3 t383 x7_4).length (rd_L3 t383 x7_4) := (by repeat (first | (with_reducible exact HR403_0.out) | (with_reducible refine Kd.C_alloc ?_ _) | (with_reducible refine Kd.C_drewN ?_ _) | (with_reducible refine Kd.C_drew ?_) | exact HR403_0.out))
                    have ql45 : (x9_6 : Int) ≤ ((wrap64 (x9_6 + (t390.length : Int))) : Int) := of_decide_eq_true (by first | (with_reducible assumption) | assumption)
                    have q045 : (0 : Int) ≤ (x9_6 : Int) := of_decide_eq_true (by first | (with_reducible assumption) | assumption)
                    have hcut45 := cut_mid (P := Try.prog) 23 2 .i64 .i64 Try.underlying23 hi045 1 hsz45 A402_0 (rd_L3 t383 x7_4).length c402_0 x9_6 (wrap64 (x9_6 + (t390.length : Int))) q045 ql45 q45 hroom45
                    have hr45 := Kd.C_mid (lo := (x9_6 : Int).toNat) (hi := ((wrap64 (x9_6 + (t390.length : Int))) : Int).toNat) (c := c402_0) hC45 (by omega) (by omega) hroom45
                    obtain ⟨A45, hA45⟩ : ∃ A1, A1 = (if c402_0 = (x9_6 : Int).toNat then A402_0 else (A402_0 : Option Addr).map (·.add ((x9_6 : Int).toNat * 1))) := ⟨_, rfl⟩
                    obtain ⟨c45, hc45⟩ : ∃ c1, c1 = c402_0 - (x9_6 : Int).toNat := ⟨_, rfl⟩
                    have hy45 : y404.length = ((wrap64 (x9_6 + (t390.length : Int))) : Int).toNat - (x9_6 : Int).toNat := (by rw [Ny404.out, List.length_drop, List.length_take] <;> omega)
                    rw [show ((rd_L3 t383 x7_4).take ((wrap64 (x9_6 + (t390.length : Int))) : Int).toNat).drop (x9_6 : Int).toNat = y404 from Ny404.out.symm] at hr45
                    replace hr45 : Kd.C (Kd.int .i64) _ A45 y404.length y404 := (by rw [hA45]; exact hr45)
                    rw [← hy45, ← hA45, ← hc45] at hcut45
                    have HR407 := am hr45
                    have HC407 := am (show y404.length ≤ c45 from by rw [hy45, hc45]; exact Nat.sub_le_sub_right (Nat.le_trans (by omega) hroom45) _)
                    clear hr45 hC45 hroom45 hi045 hsz45 hc45
                    have KY45 := am hy45
                    have KA45 := am hA45
                    clear hy45 hA45
                    replace q45 := eq_true q45
                    go_wp2_with (first | (go_at_call 33; refine calls_of_args (args' := #[.slice A45 y404.length c45, .slice Ao15 t390.length co15]) (by first | rfl | (simp only [List.length_drop, List.length_take, Int.toNat_natCast]; done) | (simp; done) | (simp only [List.length_drop, List.length_take, Int.toNat_natCast]; congr; exact (Nat.min_eq_left (Int.toNat_le.2 (of_eq_true (by assumption)))).symm)) ?_; (with_reducible refine (laws_lwSame.calls k6 _ _ y404 _ _ t390 t408 _ ?side1 ?side2 ?side3 ?side4 A43.out).mono ?_); (case side1 => repeat (first | exact (by repeat (first | (with_reducible exact HR407.out) | (with_reducible refine Kd.C_alloc ?_ _) | (with_reducible refine Kd.C_drewN ?_ _) | (with_reducible refine Kd.C_drew ?_) | exact HR407.out)) | (with_reducible refine Kd.C_alloc ?_ _) | (with_reducible refine Kd.C_drewN ?_ _) | (with_reducible refine Kd.C_drew ?_))); (case side2 => exact HC407.out); (case side3 => repeat (first | exact (Kd.R_reads' HO_4.out).2.2 | (with_reducible refine Kd.C_alloc ?_ _) | (with_reducible refine Kd.C_drewN ?_ _) | (with_reducible refine Kd.C_drew ?_))); (case side4 => exact (Kd.R_reads' HO_4.out).2.1); rintro e w' ⟨rfl, ⟨nd, rfl⟩⟩))
                    go_roundg k6
                    case measure => have := HJ6.out; have := HJ21.out; have := HJ29.out; have := HK4.out; have := HJ32.out; have := HK6.out; omega
                    case rel => exact ⟨(t408), (wrap64 (x9_6 + 1)), (by first | rfl | (simp; done) | (simp [*]; done)), (by first | rfl | (simp; done) | (simp [*]; done)), H', ⟨by have := HJ6.out; have := HJ21.out; have := HJ29.out; have := HK4.out; have := HJ32.out; have := HK6.out; omega⟩, ⟨by (with_reducible repeat (first | apply Kd.R_alloc | apply Kd.R_drewN | apply Kd.R_drew)); exact HO_4.out⟩, ⟨by (with_reducible repeat (first | apply Kd.S_alloc | apply Kd.S_drewN | apply Kd.S_drew)); exact HO_395000.out⟩, ⟨by (with_reducible repeat (first | apply Kd.R_alloc | apply Kd.R_drewN | apply Kd.R_drew)); exact HO_395002.out⟩, ⟨by (with_reducible repeat (first | refine blk_drewN ?_ _ | refine blk_drew ?_ | refine blk_alloc ?_ _)); exact BK394.out⟩, ⟨by repeat (first | (with_reducible first | exact HB.out | apply below_alloc | apply pw_below_drewN | apply below_drew1 | refine below_set ?_ GE394.out) | exact HB.out)⟩⟩
                   ·rw [if_neg c41] at H
                    exact absurd H (by simp)
                  ·rw [if_neg c40] at H
                   exact absurd H (by simp)
                ·rw [if_neg c37] at H
                 have c37b0 : decide ((wrap64 (x9_6 + (t390.length : Int))) ≤ ((rd_L3 t383 x7_4).length : Int)) = false := decide_eq_false c37
                 clear c37
                 by_cases c46 : x7_4 < t393
                 ·rw [if_pos c46] at H
                  have c46b0 : decide (x7_4 < t393) = true := decide_eq_true c46
                  clear c46
                  by_cases c47 : x8_6 = true
                  ·subst c47
                   have H1 : (some (t398 == x7_4)) = some r := by rw [if_pos rfl] at H; exact H
                   clear H
                   have H := H1
                   clear H1
                   obtain rfl := Option.some.inj H
                   have hcz48_0 : wr.cell? ⟨gb394, 0, none⟩ = some (.slice Ao10 t383.length co10) := (blk_cell BK394.out 0).trans rfl
                   have hcz48_1 : wr.cell? ⟨gb394, 1, none⟩ = some (.int .i64 t386) := (blk_cell BK394.out 1).trans rfl
                   have hcz48_2 : wr.cell? ⟨gb394, 2, none⟩ = some (.slice Ao12 t387.length co12) := (blk_cell BK394.out 2).trans rfl
                   have hfz48_0 := blk_frozen BK394.out 0
                   have hfz48_1 := blk_frozen BK394.out 1
                   have hfz48_2 := blk_frozen BK394.out 2
                   have p402 : 0 ≤ (x7_4 : Int) := of_decide_eq_true (by first | (with_reducible assumption) | assumption)
                   have q402 : x7_4 < (t383.length : Int) := of_decide_eq_true (by first | (with_reducible assumption) | assumption)
                   obtain ⟨ad402, A402_0, c402_0, e402, hx402_0, hl402_0, hi402_0⟩ := at_L3 (Kd.S_reads' HO_395000.out).2.2 x7_4 p402 q402
                   cases e402
                   obtain ⟨ce402, hce402, hMe402, hcc402⟩ := Kd.S_get HO_395000.out [] x7_4 p402 (by first | exact q402 | exact of_decide_eq_true (by first | (with_reducible assumption) | assumption) | (have e_ := (Kd.S_reads' HO_395000.out).1; omega))
                   obtain ⟨ve402_0, rfl, ge402_0⟩ := hMe402
                   have hv402_0 := hcc402 0 _ rfl
                   rw [Nat.add_zero, show ((Kd.slice 2 (Kd.int .i64))).sz = 1 from rfl, Nat.mul_one] at hv402_0
                   replace hv402_0 := Option.some.inj (hv402_0.symm.trans hx402_0)
                   rw [hv402_0] at ge402_0
                   have HL402_0 := am (show Kd.R (Kd.int .i64) 2 _ _ _ _ (rd_L3 t383 x7_4) from ge402_0)
                   clear hv402_0 ge402_0
                   clear hcc402 hce402
                   have HR402_0 := am hi402_0
                   have HC402_0 := am hl402_0
                   clear hi402_0 hl402_0
                   replace p402 := eq_true p402
                   replace q402 := eq_true q402
                   go_wp2
                   go_ret
                   exact ⟨by first | rfl | (simp [errW_none, errW_some] <;> rfl) | (simp [*, errW_none, errW_some] <;> rfl), by repeat (first | (with_reducible first | exact HB.out | apply below_alloc | apply pw_below_drewN | apply below_drew1 | refine below_set ?_ GE394.out) | exact HB.out)⟩
                  ·replace c47 := Bool.eq_false_iff.mpr c47
                   subst c47
                   have H1 : (laws_FnHistFind.l0 k6 t390 t393 t398 (wrap64 (x7_4 - 1)) t383 t386 t387) = some r := by rw [if_neg (show ¬ (false = true) by decide)] at H; exact H
                   clear H
                   have H := H1
                   clear H1
                   have H' := Aside0.mk H
                   clear H
                   have hcz49_0 : wr.cell? ⟨gb394, 0, none⟩ = some (.slice Ao10 t383.length co10) := (blk_cell BK394.out 0).trans rfl
                   have hcz49_1 : wr.cell? ⟨gb394, 1, none⟩ = some (.int .i64 t386) := (blk_cell BK394.out 1).trans rfl
                   have hcz49_2 : wr.cell? ⟨gb394, 2, none⟩ = some (.slice Ao12 t387.length co12) := (blk_cell BK394.out 2).trans rfl
                   have hfz49_0 := blk_frozen BK394.out 0
                   have hfz49_1 := blk_frozen BK394.out 1
                   have hfz49_2 := blk_frozen BK394.out 2
                   have p402 : 0 ≤ (x7_4 : Int) := of_decide_eq_true (by first | (with_reducible assumption) | assumption)
                   have q402 : x7_4 < (t383.length : Int) := of_decide_eq_true (by first | (with_reducible assumption) | assumption)
                   obtain ⟨ad402, A402_0, c402_0, e402, hx402_0, hl402_0, hi402_0⟩ := at_L3 (Kd.S_reads' HO_395000.out).2.2 x7_4 p402 q402
                   cases e402
                   obtain ⟨ce402, hce402, hMe402, hcc402⟩ := Kd.S_get HO_395000.out [] x7_4 p402 (by first | exact q402 | exact of_decide_eq_true (by first | (with_reducible assumption) | assumption) | (have e_ := (Kd.S_reads' HO_395000.out).1; omega))
                   obtain ⟨ve402_0, rfl, ge402_0⟩ := hMe402
                   have hv402_0 := hcc402 0 _ rfl
                   rw [Nat.add_zero, show ((Kd.slice 2 (Kd.int .i64))).sz = 1 from rfl, Nat.mul_one] at hv402_0
                   replace hv402_0 := Option.some.inj (hv402_0.symm.trans hx402_0)
                   rw [hv402_0] at ge402_0
                   have HL402_0 := am (show Kd.R (Kd.int .i64) 2 _ _ _ _ (rd_L3 t383 x7_4) from ge402_0)
                   clear hv402_0 ge402_0
                   clear hcc402 hce402
                   have HR402_0 := am hi402_0
                   have HC402_0 := am hl402_0
                   clear hi402_0 hl402_0
                   replace p402 := eq_true p402
                   replace q402 := eq_true q402
                   go_wp2
                   go_roundg k6
                   case measure => have := HJ6.out; have := HJ21.out; have := HJ29.out; have := HK4.out; have := HJ32.out; have := HK6.out; omega
                   case rel => exact ⟨(wrap64 (x7_4 - 1)), (by first | rfl | (simp; done) | (simp [*]; done)), H', ⟨by have := HJ6.out; have := HJ21.out; have := HJ29.out; have := HK4.out; have := HJ32.out; have := HK6.out; omega⟩, ⟨by (with_reducible repeat (first | apply Kd.R_alloc | apply Kd.R_drewN | apply Kd.R_drew)); exact HO_4.out⟩, ⟨by (with_reducible repeat (first | apply Kd.S_alloc | apply Kd.S_drewN | apply Kd.S_drew)); exact HO_395000.out⟩, ⟨by (with_reducible repeat (first | apply Kd.R_alloc | apply Kd.R_drewN | apply Kd.R_drew)); exact HO_395002.out⟩, ⟨by (with_reducible repeat (first | refine blk_drewN ?_ _ | refine blk_drew ?_ | refine blk_alloc ?_ _)); exact BK394.out⟩, ⟨by repeat (first | (with_reducible first | exact HB.out | apply below_alloc | apply pw_below_drewN | apply below_drew1 | refine below_set ?_ GE394.out) | exact HB.out)⟩⟩
                 ·rw [if_neg c46] at H
                  have c46b0 : decide (x7_4 < t393) = false := decide_eq_false c46
                  clear c46
                  have H' := Aside0.mk H
                  clear H
                  have hcz50_0 : wr.cell? ⟨gb394, 0, none⟩ = some (.slice Ao10 t383.length co10) := (blk_cell BK394.out 0).trans rfl
                  have hcz50_1 : wr.cell? ⟨gb394, 1, none⟩ = some (.int .i64 t386) := (blk_cell BK394.out 1).trans rfl
                  have hcz50_2 : wr.cell? ⟨gb394, 2, none⟩ = some (.slice Ao12 t387.length co12) := (blk_cell BK394.out 2).trans rfl
                  have hfz50_0 := blk_frozen BK394.out 0
                  have hfz50_1 := blk_frozen BK394.out 1
                  have hfz50_2 := blk_frozen BK394.out 2
                  have p402 : 0 ≤ (x7_4 : Int) := of_decide_eq_true (by first | (with_reducible assumption) | assumption)
                  have q402 : x7_4 < (t383.length : Int) := of_decide_eq_true (by first | (with_reducible assumption) | assumption)
                  obtain ⟨ad402, A402_0, c402_0, e402, hx402_0, hl402_0, hi402_0⟩ := at_L3 (Kd.S_reads' HO_395000.out).2.2 x7_4 p402 q402
                  cases e402
                  obtain ⟨ce402, hce402, hMe402, hcc402⟩ := Kd.S_get HO_395000.out [] x7_4 p402 (by first | exact q402 | exact of_decide_eq_true (by first | (with_reducible assumption) | assumption) | (have e_ := (Kd.S_reads' HO_395000.out).1; omega))
                  obtain ⟨ve402_0, rfl, ge402_0⟩ := hMe402
                  have hv402_0 := hcc402 0 _ rfl
                  rw [Nat.add_zero, show ((Kd.slice 2 (Kd.int .i64))).sz = 1 from rfl, Nat.mul_one] at hv402_0
                  replace hv402_0 := Option.some.inj (hv402_0.symm.trans hx402_0)
                  rw [hv402_0] at ge402_0
                  have HL402_0 := am (show Kd.R (Kd.int .i64) 2 _ _ _ _ (rd_L3 t383 x7_4) from ge402_0)
                  clear hv402_0 ge402_0
                  clear hcc402 hce402
                  have HR402_0 := am hi402_0
                  have HC402_0 := am hl402_0
                  clear hi402_0 hl402_0
                  replace p402 := eq_true p402
                  replace q402 := eq_true q402
                  go_wp2
                  go_roundg k6
                  case measure => have := HJ6.out; have := HJ21.out; have := HJ29.out; have := HK4.out; have := HJ32.out; have := HK6.out; omega
                  case rel => exact ⟨(wrap64 (x7_4 - 1)), (by first | rfl | (simp; done) | (simp [*]; done)), H', ⟨by have := HJ6.out; have := HJ21.out; have := HJ29.out; have := HK4.out; have := HJ32.out; have := HK6.out; omega⟩, ⟨by (with_reducible repeat (first | apply Kd.R_alloc | apply Kd.R_drewN | apply Kd.R_drew)); exact HO_4.out⟩, ⟨by (with_reducible repeat (first | apply Kd.S_alloc | apply Kd.S_drewN | apply Kd.S_drew)); exact HO_395000.out⟩, ⟨by (with_reducible repeat (first | apply Kd.R_alloc | apply Kd.R_drewN | apply Kd.R_drew)); exact HO_395002.out⟩, ⟨by (with_reducible repeat (first | refine blk_drewN ?_ _ | refine blk_drew ?_ | refine blk_alloc ?_ _)); exact BK394.out⟩, ⟨by repeat (first | (with_reducible first | exact HB.out | apply below_alloc | apply pw_below_drewN | apply below_drew1 | refine below_set ?_ GE394.out) | exact HB.out)⟩⟩
               ·rw [if_neg c36] at H
                exact absurd H (by simp)
              ·rw [if_neg c35] at H
               exact absurd H (by simp)

/-- THE ONE PURE STATEMENT of laws_FnHistFind. -/
def laws_FnHistFind.Pure : Prop := ∀ (l0 : List Int), (l0.length ≤ maxLen ∧ ∀ y0_ ∈ l0, (Lit.int .u8 y0_).wf = true) → ∃ k, laws_FnHistFind.f k l0 = some true

end Go.Proofs.Ythcnhafdhjajpaa.PFnHistFind
