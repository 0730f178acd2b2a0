-- Written by xprint.py (this claim's own program, over the kit's printer); Lean checks it.
import Derived.Test.YtnhmoacjmieggaaPFnKeysx0
import Derived.Test.YtnhmoacjmieggaaPFnKeysx7
import Derived.Test.YtnhmoacjmieggaaPFnKeysx8
import Derived.Test.YtnhmoacjmieggaaPFnKeysx12
namespace Go.Proofs.Ytnhmoacjmieggaa.PFnKeys
open Go.RowKit Go.Proofs.YtnhmoacjmieggaaW.PrintWords Go.Proofs.YtnhmoacjmieggaaW.PrintLast Go.Proofs.YtnhmoacjmieggaaW.PrintMore
attribute [local go_sem] max2_int min2_int max_two min_two max_three min_three max_four min_four   -- for this text's walks alone
set_option linter.unusedVariables false
set_option linter.unusedSimpArgs false   -- squeezed

/-! ### laws_FnKeys: function 4 -/
mutual
def laws_FnKeys.j0 : Nat → List (S40) → Int → ByteArray → Bool → Bool → List (S38) → ByteArray → Int → List (S38) → ByteArray → Int → Option (Bool)
 | 0, _, _, _, _, _, _, _, _, _, _, _ => none
 | k + 1, x3, x4, x5, x6, x48, x449000, x449001, x449002, x461000, x461001, x461002 => if x48 = true then (some false) else (laws_FnKeys.j1 k x3 x4 x5 x6 x449000 x449001 x449002 x461000 x461001 x461002)
def laws_FnKeys.j1 : Nat → List (S40) → Int → ByteArray → Bool → List (S38) → ByteArray → Int → List (S38) → ByteArray → Int → Option (Bool)
 | 0, _, _, _, _, _, _, _, _, _, _ => none
 | k + 1, x3, x4, x5, x6, x449000, x449001, x449002, x461000, x461001, x461002 => if x449002 = 0 then (laws_FnKeys.l0 k x3 x4 x5 x6 (⟨#[]⟩ : ByteArray) 0 x461000 x461001 x461002) else (some true)
def laws_FnKeys.l0 : Nat → List (S40) → Int → ByteArray → Bool → ByteArray → Int → List (S38) → ByteArray → Int → Option (Bool)
 | 0, _, _, _, _, _, _, _, _, _ => none
 | k + 1, x3, x4, x5, x6, x9, x10, x461000, x461001, x461002 => if x10 < (x461000.length : Int) then (laws_FnKeys.j3 k x3 x4 x5 x6 x9 x10 x461000 x461001 x461002) else (if x9.size + x461001.size ≤ 9223372036854775807 then (if (x9 ++ x461001).toList = x5.toList then (if x6 = true then (if x461001.toList = ([] : List UInt8) then (some (decide ((x461001.size : Int) < 6))) else (some false)) else (some (decide ((x461001.size : Int) < 6)))) else (some false)) else (none))
def laws_FnKeys.j3 : Nat → List (S40) → Int → ByteArray → Bool → ByteArray → Int → List (S38) → ByteArray → Int → Option (Bool)
 | 0, _, _, _, _, _, _, _, _, _ => none
 | k + 1, x3, x4, x5, x6, x9, x10, x461000, x461001, x461002 => if 0 ≤ x10 then (if x10 < (x461000.length : Int) then (if x9.size + ((rd_T38 x461000 x10).f1).size ≤ 9223372036854775807 then (if ((rd_T38 x461000 x10).f0).toList = ([] : List UInt8) then (laws_FnKeys.j4 k x3 x4 x5 x6 (x9 ++ ((rd_T38 x461000 x10).f1)) x10 ((((rd_T38 x461000 x10).f1).size : Int) == 1) x461000 x461001 x461002) else (laws_FnKeys.j4 k x3 x4 x5 x6 (x9 ++ ((rd_T38 x461000 x10).f1)) x10 false x461000 x461001 x461002)) else (none)) else (none)) else (none)
def laws_FnKeys.j4 : Nat → List (S40) → Int → ByteArray → Bool → ByteArray → Int → Bool → List (S38) → ByteArray → Int → Option (Bool)
 | 0, _, _, _, _, _, _, _, _, _, _ => none
 | k + 1, x3, x4, x5, x6, x9, x10, x11, x461000, x461001, x461002 => laws_FnKeys.l1 k x3 x4 x5 x6 x9 x10 x11 0 x461000 x461001 x461002
def laws_FnKeys.l1 : Nat → List (S40) → Int → ByteArray → Bool → ByteArray → Int → Bool → Int → List (S38) → ByteArray → Int → Option (Bool)
 | 0, _, _, _, _, _, _, _, _, _, _, _ => none
 | k + 1, x3, x4, x5, x6, x9, x10, x11, x12, x461000, x461001, x461002 => if x12 < (x3.length : Int) then (if x11 = true then (laws_FnKeys.l1 k x3 x4 x5 x6 x9 x10 true (wrap64 (x12 + 1)) x461000 x461001 x461002) else (if 0 ≤ x12 then (if ((rd_T40 x3 x12).f0) = x4 then (if 0 ≤ x10 then (if x10 < (x461000.length : Int) then (if ((rd_T40 x3 x12).f1).toList = ((rd_T38 x461000 x10).f1).toList then (laws_FnKeys.l1 k x3 x4 x5 x6 x9 x10 (((rd_T40 x3 x12).f2).toList == ((rd_T38 x461000 x10).f0).toList) (wrap64 (x12 + 1)) x461000 x461001 x461002) else (laws_FnKeys.l1 k x3 x4 x5 x6 x9 x10 false (wrap64 (x12 + 1)) x461000 x461001 x461002)) else (none)) else (none)) else (laws_FnKeys.l1 k x3 x4 x5 x6 x9 x10 false (wrap64 (x12 + 1)) x461000 x461001 x461002)) else (none))) else (if x11 = true then (laws_FnKeys.l0 k x3 x4 x5 x6 x9 (wrap64 (x10 + 1)) x461000 x461001 x461002) else (some false))
end
def laws_FnKeys.f (k : Nat) (l0 : List Int) : Option (Bool) := if (l0.length : Int) > 1048576 then (some true) else ((spec_DrawKeyFeed.f k l0).bind fun bt437 => ((spec_KeyFeed.f k bt437.1 bt437.2.1 bt437.2.2.1 bt437.2.2.2).bind fun bt443 => ((some (([] : List (S40)) : List (S40))).bind fun y449 => (if y449.length + bt437.1.length < 3518437208883 then ((impl_KeyFeed.f k (y449 ++ bt437.1) bt437.2.1 bt437.2.2.1 bt437.2.2.2).bind fun bt455 => (if bt455.2.2 = bt443.2.2 then (laws_FnKeys.j0 k bt437.1 bt437.2.1 bt437.2.2.1 bt437.2.2.2 ((bt455.1.length : Int) != (bt443.1.length : Int)) bt443.1 bt443.2.1 bt443.2.2 bt455.1 bt455.2.1 bt455.2.2) else (laws_FnKeys.j0 k bt437.1 bt437.2.1 bt437.2.2.1 bt437.2.2.2 true bt443.1 bt443.2.1 bt443.2.2 bt455.1 bt455.2.1 bt455.2.2))) else (none)))))
theorem laws_FnKeys.mono_l : ∀ k, (∀ y0 y1 y2 y3 y4 y5 y6 y7 y8 y9 y10, LeO (laws_FnKeys.j0 k y0 y1 y2 y3 y4 y5 y6 y7 y8 y9 y10) (laws_FnKeys.j0 (k + 1) y0 y1 y2 y3 y4 y5 y6 y7 y8 y9 y10)) ∧ (∀ y0 y1 y2 y3 y4 y5 y6 y7 y8 y9, LeO (laws_FnKeys.j1 k y0 y1 y2 y3 y4 y5 y6 y7 y8 y9) (laws_FnKeys.j1 (k + 1) y0 y1 y2 y3 y4 y5 y6 y7 y8 y9)) ∧ (∀ y0 y1 y2 y3 y4 y5 y6 y7 y8, LeO (laws_FnKeys.l0 k y0 y1 y2 y3 y4 y5 y6 y7 y8) (laws_FnKeys.l0 (k + 1) y0 y1 y2 y3 y4 y5 y6 y7 y8)) ∧ (∀ y0 y1 y2 y3 y4 y5 y6 y7 y8, LeO (laws_FnKeys.j3 k y0 y1 y2 y3 y4 y5 y6 y7 y8) (laws_FnKeys.j3 (k + 1) y0 y1 y2 y3 y4 y5 y6 y7 y8)) ∧ (∀ y0 y1 y2 y3 y4 y5 y6 y7 y8 y9, LeO (laws_FnKeys.j4 k y0 y1 y2 y3 y4 y5 y6 y7 y8 y9) (laws_FnKeys.j4 (k + 1) y0 y1 y2 y3 y4 y5 y6 y7 y8 y9)) ∧ (∀ y0 y1 y2 y3 y4 y5 y6 y7 y8 y9 y10, LeO (laws_FnKeys.l1 k y0 y1 y2 y3 y4 y5 y6 y7 y8 y9 y10) (laws_FnKeys.l1 (k + 1) y0 y1 y2 y3 y4 y5 y6 y7 y8 y9 y10))
 | 0 => ⟨fun _ _ _ _ _ _ _ _ _ _ _ r h => by simp [laws_FnKeys.j0] at h, fun _ _ _ _ _ _ _ _ _ _ r h => by simp [laws_FnKeys.j1] at h, fun _ _ _ _ _ _ _ _ _ r h => by simp [laws_FnKeys.l0] at h, fun _ _ _ _ _ _ _ _ _ r h => by simp [laws_FnKeys.j3] at h, fun _ _ _ _ _ _ _ _ _ _ r h => by simp [laws_FnKeys.j4] at h, fun _ _ _ _ _ _ _ _ _ _ _ r h => by simp [laws_FnKeys.l1] at h⟩
 | k + 1 => by
  obtain ⟨ih0, ih1, ih2, ih3, ih4, ih5⟩ := laws_FnKeys.mono_l k
  refine ⟨?_, ?_, ?_, ?_, ?_, ?_⟩
  ·intro y0 y1 y2 y3 y4 y5 y6 y7 y8 y9 y10
   unfold laws_FnKeys.j0
   repeat' first
   | (with_reducible exact ih0 _ _ _ _ _ _ _ _ _ _ _)
   | (with_reducible exact ih1 _ _ _ _ _ _ _ _ _ _)
   | (with_reducible exact ih2 _ _ _ _ _ _ _ _ _)
   | (with_reducible exact ih3 _ _ _ _ _ _ _ _ _)
   | (with_reducible exact ih4 _ _ _ _ _ _ _ _ _ _)
   | (with_reducible exact ih5 _ _ _ _ _ _ _ _ _ _ _)
   | (with_reducible exact impl_KeyFeed.mono _ _ _ _ _)
   | (with_reducible exact spec_DrawKeyFeed.mono _ _)
   | (with_reducible exact spec_KeyFeed.mono _ _ _ _ _)
   | (with_reducible exact LeO.refl _)
   | (with_reducible exact LeO.none _)
   | (with_reducible refine LeO.ite ?_ ?_)
   | (with_reducible refine LeO.bind ?_ (fun _ => ?_))
   | exact ih0 _ _ _ _ _ _ _ _ _ _ _
   | exact ih1 _ _ _ _ _ _ _ _ _ _
   | exact ih2 _ _ _ _ _ _ _ _ _
   | exact ih3 _ _ _ _ _ _ _ _ _
   | exact ih4 _ _ _ _ _ _ _ _ _ _
   | exact ih5 _ _ _ _ _ _ _ _ _ _ _
   | exact impl_KeyFeed.mono _ _ _ _ _
   | exact spec_DrawKeyFeed.mono _ _
   | exact spec_KeyFeed.mono _ _ _ _ _
   | refine LeO.bind ?_ (fun _ => ?_)
  ·intro y0 y1 y2 y3 y4 y5 y6 y7 y8 y9
   unfold laws_FnKeys.j1
   repeat' first
   | (with_reducible exact ih0 _ _ _ _ _ _ _ _ _ _ _)
   | (with_reducible exact ih1 _ _ _ _ _ _ _ _ _ _)
   | (with_reducible exact ih2 _ _ _ _ _ _ _ _ _)
   | (with_reducible exact ih3 _ _ _ _ _ _ _ _ _)
   | (with_reducible exact ih4 _ _ _ _ _ _ _ _ _ _)
   | (with_reducible exact ih5 _ _ _ _ _ _ _ _ _ _ _)
   | (with_reducible exact impl_KeyFeed.mono _ _ _ _ _)
   | (with_reducible exact spec_DrawKeyFeed.mono _ _)
   | (with_reducible exact spec_KeyFeed.mono _ _ _ _ _)
   | (with_reducible exact LeO.refl _)
   | (with_reducible exact LeO.none _)
   | (with_reducible refine LeO.ite ?_ ?_)
   | (with_reducible refine LeO.bind ?_ (fun _ => ?_))
   | exact ih0 _ _ _ _ _ _ _ _ _ _ _
   | exact ih1 _ _ _ _ _ _ _ _ _ _
   | exact ih2 _ _ _ _ _ _ _ _ _
   | exact ih3 _ _ _ _ _ _ _ _ _
   | exact ih4 _ _ _ _ _ _ _ _ _ _
   | exact ih5 _ _ _ _ _ _ _ _ _ _ _
   | exact impl_KeyFeed.mono _ _ _ _ _
   | exact spec_DrawKeyFeed.mono _ _
   | exact spec_KeyFeed.mono _ _ _ _ _
   | refine LeO.bind ?_ (fun _ => ?_)
  ·intro y0 y1 y2 y3 y4 y5 y6 y7 y8
   unfold laws_FnKeys.l0
   repeat' first
   | (with_reducible exact ih0 _ _ _ _ _ _ _ _ _ _ _)
   | (with_reducible exact ih1 _ _ _ _ _ _ _ _ _ _)
   | (with_reducible exact ih2 _ _ _ _ _ _ _ _ _)
   | (with_reducible exact ih3 _ _ _ _ _ _ _ _ _)
   | (with_reducible exact ih4 _ _ _ _ _ _ _ _ _ _)
   | (with_reducible exact ih5 _ _ _ _ _ _ _ _ _ _ _)
   | (with_reducible exact impl_KeyFeed.mono _ _ _ _ _)
   | (with_reducible exact spec_DrawKeyFeed.mono _ _)
   | (with_reducible exact spec_KeyFeed.mono _ _ _ _ _)
   | (with_reducible exact LeO.refl _)
   | (with_reducible exact LeO.none _)
   | (with_reducible refine LeO.ite ?_ ?_)
   | (with_reducible refine LeO.bind ?_ (fun _ => ?_))
   | exact ih0 _ _ _ _ _ _ _ _ _ _ _
   | exact ih1 _ _ _ _ _ _ _ _ _ _
   | exact ih2 _ _ _ _ _ _ _ _ _
   | exact ih3 _ _ _ _ _ _ _ _ _
   | exact ih4 _ _ _ _ _ _ _ _ _ _
   | exact ih5 _ _ _ _ _ _ _ _ _ _ _
   | exact impl_KeyFeed.mono _ _ _ _ _
   | exact spec_DrawKeyFeed.mono _ _
   | exact spec_KeyFeed.mono _ _ _ _ _
   | refine LeO.bind ?_ (fun _ => ?_)
  ·intro y0 y1 y2 y3 y4 y5 y6 y7 y8
   unfold laws_FnKeys.j3
   repeat' first
   | (with_reducible exact ih0 _ _ _ _ _ _ _ _ _ _ _)
   | (with_reducible exact ih1 _ _ _ _ _ _ _ _ _ _)
   | (with_reducible exact ih2 _ _ _ _ _ _ _ _ _)
   | (with_reducible exact ih3 _ _ _ _ _ _ _ _ _)
   | (with_reducible exact ih4 _ _ _ _ _ _ _ _ _ _)
   | (with_reducible exact ih5 _ _ _ _ _ _ _ _ _ _ _)
   | (with_reducible exact impl_KeyFeed.mono _ _ _ _ _)
   | (with_reducible exact spec_DrawKeyFeed.mono _ _)
   | (with_reducible exact spec_KeyFeed.mono _ _ _ _ _)
   | (with_reducible exact LeO.refl _)
   | (with_reducible exact LeO.none _)
   | (with_reducible refine LeO.ite ?_ ?_)
   | (with_reducible refine LeO.bind ?_ (fun _ => ?_))
   | exact ih0 _ _ _ _ _ _ _ _ _ _ _
   | exact ih1 _ _ _ _ _ _ _ _ _ _
   | exact ih2 _ _ _ _ _ _ _ _ _
   | exact ih3 _ _ _ _ _ _ _ _ _
   | exact ih4 _ _ _ _ _ _ _ _ _ _
   | exact ih5 _ _ _ _ _ _ _ _ _ _ _
   | exact impl_KeyFeed.mono _ _ _ _ _
   | exact spec_DrawKeyFeed.mono _ _
   | exact spec_KeyFeed.mono _ _ _ _ _
   | refine LeO.bind ?_ (fun _ => ?_)
  ·intro y0 y1 y2 y3 y4 y5 y6 y7 y8 y9
   unfold laws_FnKeys.j4
   repeat' first
   | (with_reducible exact ih0 _ _ _ _ _ _ _ _ _ _ _)
   | (with_reducible exact ih1 _ _ _ _ _ _ _ _ _ _)
   | (with_reducible exact ih2 _ _ _ _ _ _ _ _ _)
   | (with_reducible exact ih3 _ _ _ _ _ _ _ _ _)
   | (with_reducible exact ih4 _ _ _ _ _ _ _ _ _ _)
   | (with_reducible exact ih5 _ _ _ _ _ _ _ _ _ _ _)
   | (with_reducible exact impl_KeyFeed.mono _ _ _ _ _)
   | (with_reducible exact spec_DrawKeyFeed.mono _ _)
   | (with_reducible exact spec_KeyFeed.mono _ _ _ _ _)
   | (with_reducible exact LeO.refl _)
   | (with_reducible exact LeO.none _)
   | (with_reducible refine LeO.ite ?_ ?_)
   | (with_reducible refine LeO.bind ?_ (fun _ => ?_))
   | exact ih0 _ _ _ _ _ _ _ _ _ _ _
   | exact ih1 _ _ _ _ _ _ _ _ _ _
   | exact ih2 _ _ _ _ _ _ _ _ _
   | exact ih3 _ _ _ _ _ _ _ _ _
   | exact ih4 _ _ _ _ _ _ _ _ _ _
   | exact ih5 _ _ _ _ _ _ _ _ _ _ _
   | exact impl_KeyFeed.mono _ _ _ _ _
   | exact spec_DrawKeyFeed.mono _ _
   | exact spec_KeyFeed.mono _ _ _ _ _
   | refine LeO.bind ?_ (fun _ => ?_)
  ·intro y0 y1 y2 y3 y4 y5 y6 y7 y8 y9 y10
   unfold laws_FnKeys.l1
   repeat' first
   | (with_reducible exact ih0 _ _ _ _ _ _ _ _ _ _ _)
   | (with_reducible exact ih1 _ _ _ _ _ _ _ _ _ _)
   | (with_reducible exact ih2 _ _ _ _ _ _ _ _ _)
   | (with_reducible exact ih3 _ _ _ _ _ _ _ _ _)
   | (with_reducible exact ih4 _ _ _ _ _ _ _ _ _ _)
   | (with_reducible exact ih5 _ _ _ _ _ _ _ _ _ _ _)
   | (with_reducible exact impl_KeyFeed.mono _ _ _ _ _)
   | (with_reducible exact spec_DrawKeyFeed.mono _ _)
   | (with_reducible exact spec_KeyFeed.mono _ _ _ _ _)
   | (with_reducible exact LeO.refl _)
   | (with_reducible exact LeO.none _)
   | (with_reducible refine LeO.ite ?_ ?_)
   | (with_reducible refine LeO.bind ?_ (fun _ => ?_))
   | exact ih0 _ _ _ _ _ _ _ _ _ _ _
   | exact ih1 _ _ _ _ _ _ _ _ _ _
   | exact ih2 _ _ _ _ _ _ _ _ _
   | exact ih3 _ _ _ _ _ _ _ _ _
   | exact ih4 _ _ _ _ _ _ _ _ _ _
   | exact ih5 _ _ _ _ _ _ _ _ _ _ _
   | exact impl_KeyFeed.mono _ _ _ _ _
   | exact spec_DrawKeyFeed.mono _ _
   | exact spec_KeyFeed.mono _ _ _ _ _
   | refine LeO.bind ?_ (fun _ => ?_)
theorem laws_FnKeys.mono : ∀ a0 k, LeO (laws_FnKeys.f k a0) (laws_FnKeys.f (k + 1) a0) := by
 intro a0 k
 obtain ⟨ih0, ih1, ih2, ih3, ih4, ih5⟩ := laws_FnKeys.mono_l k
 unfold laws_FnKeys.f
 repeat' first
   | (with_reducible exact ih0 _ _ _ _ _ _ _ _ _ _ _)
   | (with_reducible exact ih1 _ _ _ _ _ _ _ _ _ _)
   | (with_reducible exact ih2 _ _ _ _ _ _ _ _ _)
   | (with_reducible exact ih3 _ _ _ _ _ _ _ _ _)
   | (with_reducible exact ih4 _ _ _ _ _ _ _ _ _ _)
   | (with_reducible exact ih5 _ _ _ _ _ _ _ _ _ _ _)
   | (with_reducible exact impl_KeyFeed.mono _ _ _ _ _)
   | (with_reducible exact spec_DrawKeyFeed.mono _ _)
   | (with_reducible exact spec_KeyFeed.mono _ _ _ _ _)
   | (with_reducible exact LeO.refl _)
   | (with_reducible exact LeO.none _)
   | (with_reducible refine LeO.ite ?_ ?_)
   | (with_reducible refine LeO.bind ?_ (fun _ => ?_))
   | exact ih0 _ _ _ _ _ _ _ _ _ _ _
   | exact ih1 _ _ _ _ _ _ _ _ _ _
   | exact ih2 _ _ _ _ _ _ _ _ _
   | exact ih3 _ _ _ _ _ _ _ _ _
   | exact ih4 _ _ _ _ _ _ _ _ _ _
   | exact ih5 _ _ _ _ _ _ _ _ _ _ _
   | exact impl_KeyFeed.mono _ _ _ _ _
   | exact spec_DrawKeyFeed.mono _ _
   | exact spec_KeyFeed.mono _ _ _ _ _
   | refine LeO.bind ?_ (fun _ => ?_)
set_option maxHeartbeats 8000000 in
set_option maxRecDepth 100000 in
theorem laws_FnKeys.calls (k : Nat) (A0 : Option Addr) (c0 : Nat) (l0 : List Int) (r : Bool) (w : World) (hr0 : Kd.C (Kd.int .u8) w A0 l0.length l0) (hc0 : l0.length ≤ c0) (h : laws_FnKeys.f k l0 = some r) :
  Calls Try.prog 4 #[.slice A0 l0.length c0] w fun e w' => e = .returned (.bool r) ∧ Below w.heap.size w w' := by
 have hu35 := Try.underlying35
 have HR0 := am hr0
 have HC0 := am hc0
 clear hr0 hc0
 have HB := am (Below.refl w.heap.size w)
 have H : (if (l0.length : Int) > 1048576 then (some true) else ((spec_DrawKeyFeed.f k l0).bind fun bt437 => ((spec_KeyFeed.f k bt437.1 bt437.2.1 bt437.2.2.1 bt437.2.2.2).bind fun bt443 => ((some (([] : List (S40)) : List (S40))).bind fun y449 => (if y449.length + bt437.1.length < 3518437208883 then ((impl_KeyFeed.f k (y449 ++ bt437.1) bt437.2.1 bt437.2.2.1 bt437.2.2.2).bind fun bt455 => (if bt455.2.2 = bt443.2.2 then (laws_FnKeys.j0 k bt437.1 bt437.2.1 bt437.2.2.1 bt437.2.2.2 ((bt455.1.length : Int) != (bt443.1.length : Int)) bt443.1 bt443.2.1 bt443.2.2 bt455.1 bt455.2.1 bt455.2.2) else (laws_FnKeys.j0 k bt437.1 bt437.2.1 bt437.2.2.1 bt437.2.2.2 true bt443.1 bt443.2.1 bt443.2.2 bt455.1 bt455.2.1 bt455.2.2))) else (none)))))) = some r := h
 clear h
 by_cases c2 : (l0.length : Int) > 1048576
 ·rw [if_pos c2] at H
  have c2b0 : decide (1048576 < (l0.length : Int)) = true := decide_eq_true c2
  have c2b1 : decide (1048576 < l0.length) = true := decide_eq_true (by omega)
  clear c2
  obtain rfl := Option.some.inj H
  go_enter Try.func4, Try.ntmps4
  go_wp2
  repeat (go_quiet (fail); try go_wp2)
  go_ret
  exact ⟨by first | rfl | (simp [errW_none, errW_some] <;> rfl) | (simp [*, errW_none, errW_some] <;> rfl), by repeat (first | (with_reducible first | exact HB.out | apply below_alloc | apply pw_below_drewN | apply below_drew1) | exact HB.out)⟩
 ·rw [if_neg c2] at H
  have c2b0 : decide (1048576 < (l0.length : Int)) = false := decide_eq_false c2
  have c2b1 : decide (1048576 < l0.length) = false := decide_eq_false (by omega)
  clear c2
  replace H := Option.bind_eq_some_iff.mp H
  obtain ⟨⟨t437, t438, t439, t440⟩, A30, H⟩ := H
  replace H : ((spec_KeyFeed.f k t437 t438 t439 t440).bind fun bt443 => ((some (([] : List (S40)) : List (S40))).bind fun y449 => (if y449.length + t437.length < 3518437208883 then ((impl_KeyFeed.f k (y449 ++ t437) t438 t439 t440).bind fun bt455 => (if bt455.2.2 = bt443.2.2 then (laws_FnKeys.j0 k t437 t438 t439 t440 ((bt455.1.length : Int) != (bt443.1.length : Int)) bt443.1 bt443.2.1 bt443.2.2 bt455.1 bt455.2.1 bt455.2.2) else (laws_FnKeys.j0 k t437 t438 t439 t440 true bt443.1 bt443.2.1 bt443.2.2 bt455.1 bt455.2.1 bt455.2.2))) else (none)))) = some r := H
  have A3 := Aside0.mk A30
  clear A30
  replace H := Option.bind_eq_some_iff.mp H
  obtain ⟨⟨t443, t446, t447⟩, A40, H⟩ := H
  replace H : ((some (([] : List (S40)) : List (S40))).bind fun y449 => (if y449.length + t437.length < 3518437208883 then ((impl_KeyFeed.f k (y449 ++ t437) t438 t439 t440).bind fun bt455 => (if bt455.2.2 = t447 then (laws_FnKeys.j0 k t437 t438 t439 t440 ((bt455.1.length : Int) != (t443.length : Int)) t443 t446 t447 bt455.1 bt455.2.1 bt455.2.2) else (laws_FnKeys.j0 k t437 t438 t439 t440 true t443 t446 t447 bt455.1 bt455.2.1 bt455.2.2))) else (none))) = some r := H
  have A4 := Aside0.mk A40
  clear A40
  obtain ⟨y449, hy449⟩ : ∃ y_ : List (S40), y_ = (([] : List (S40))) := ⟨_, rfl⟩
  replace H : (if y449.length + t437.length < 3518437208883 then ((impl_KeyFeed.f k (y449 ++ t437) t438 t439 t440).bind fun bt455 => (if bt455.2.2 = t447 then (laws_FnKeys.j0 k t437 t438 t439 t440 ((bt455.1.length : Int) != (t443.length : Int)) t443 t446 t447 bt455.1 bt455.2.1 bt455.2.2) else (laws_FnKeys.j0 k t437 t438 t439 t440 true t443 t446 t447 bt455.1 bt455.2.1 bt455.2.2))) else (none)) = some r := by first | (rw [hy449]; with_reducible exact H) | (have H2_ := (Option.bind_some _ _).symm.trans H; rw [hy449]; with_reducible exact H2_) | (have H2_ := (Option.bind_some _ _).symm.trans H; with_reducible exact H2_) | with_reducible exact H | (rw [hy449]; exact H) | exact H
  have Ny449 := am hy449
  clear hy449
  by_cases c5 : y449.length + t437.length < 3518437208883
  ·rw [if_pos c5] at H
   have LMc5 := Aside0.mk c5
   clear c5
   obtain ⟨y452, hy452⟩ : ∃ y_ : List (S40), y_ = (y449 ++ t437) := ⟨_, rfl⟩
   replace H : ((impl_KeyFeed.f k y452 t438 t439 t440).bind fun bt455 => (if bt455.2.2 = t447 then (laws_FnKeys.j0 k t437 t438 t439 t440 ((bt455.1.length : Int) != (t443.length : Int)) t443 t446 t447 bt455.1 bt455.2.1 bt455.2.2) else (laws_FnKeys.j0 k t437 t438 t439 t440 true t443 t446 t447 bt455.1 bt455.2.1 bt455.2.2))) = some r := by first | (rw [hy452]; with_reducible exact H) | (have H2_ := (Option.bind_some _ _).symm.trans H; rw [hy452]; with_reducible exact H2_) | (have H2_ := (Option.bind_some _ _).symm.trans H; with_reducible exact H2_) | with_reducible exact H | (rw [hy452]; exact H) | exact H
   have Ny452 := am hy452
   clear hy452
   replace H := Option.bind_eq_some_iff.mp H
   obtain ⟨⟨t455, t458, t459⟩, A60, H⟩ := H
   replace H : (if t459 = t447 then (laws_FnKeys.j0 k t437 t438 t439 t440 ((t455.length : Int) != (t443.length : Int)) t443 t446 t447 t455 t458 t459) else (laws_FnKeys.j0 k t437 t438 t439 t440 true t443 t446 t447 t455 t458 t459)) = some r := H
   have A6 := Aside0.mk A60
   clear A60
   have HC7 := Aside0.mk H
   clear H
   go_enter Try.func4, Try.ntmps4
   go_upto_region 6 with (first | (go_at_call 13; (with_reducible refine (spec_DrawKeyFeed.calls k _ _ l0 t437 t438 t439 t440 _ ?side1 ?side2 A3.out).mono ?_); (case side1 => repeat (first | exact HR0.out | (with_reducible refine Kd.C_alloc ?_ _) | (with_reducible refine Kd.C_drewN ?_ _) | (with_reducible refine Kd.C_drew ?_))); (case side2 => exact HC0.out); rintro e w8 ⟨v441, rfl, ho0, hb⟩; have HO442 := am (Kd.R_lower ho0 (below_size (bl HB.out))); replace HB := am (below_step (bl HB.out) hb); (try clear hb); (try clear hb2); (try clear hk); (try clear hi); (try clear ho0); obtain ⟨Ao9, co9, eo9⟩ := Kd.R_slice HO442.out; subst eo9) | (go_at_call 14; (with_reducible refine (spec_KeyFeed.calls k _ _ t437 t438 t439 t440 t443 t446 t447 _ ?side1 ?side2 A4.out).mono ?_); (case side1 => repeat (first | exact (Kd.R_reads' HO442.out).2.2 | (with_reducible refine Kd.C_alloc ?_ _) | (with_reducible refine Kd.C_drewN ?_ _) | (with_reducible refine Kd.C_drew ?_))); (case side2 => exact (Kd.R_reads' HO442.out).2.1); rintro e w10 ⟨v444, rfl, ho0, hb⟩; replace HO442 := am (Kd.R_below (kr HO442.out) hb); have HO445 := am (Kd.R_lower ho0 (below_size (bl HB.out))); replace HB := am (below_step (bl HB.out) hb); (try clear hb); (try clear hb2); (try clear hk); (try clear hi); (try clear ho0)) | ((with_reducible refine gate_dst (N := 7) rfl ?_); (try (refine gate_guard (by rfl) ?_; dsimp only)); refine box_event ?hg (N := 7) ?hd (cs := #[.slice none 0 0, .string (⟨#[]⟩ : ByteArray), .int .i64 0]) (t := 35) ?hr ?_; (case hd => rfl); (case hg => rfl); (case hr => first | (go_simp; done) | (go_simp; rfl)); intro gb448 hg w11 hbox hb; replace HO442 := am (Kd.R_below (kr HO442.out) hb); replace HO445 := am (Kd.R_below (kr HO445.out) hb); have BK448 := am (hbox); have GW448 := am ((by rw [hg]; exact (below_size (bl HB.out)) : w.heap.size ≤ gb448)); have GE448 := GW448; replace HB := am (below_step (bl HB.out) hb); clear hb hbox hg; obtain ⟨Ao12, co12, eo12⟩ := Kd.R_slice HO445.out; subst eo12; have hcz13_0 : w11.cell? ⟨gb448, 0, none⟩ = some (.slice none 0 0) := bc BK448.out 0; have hcz13_1 : w11.cell? ⟨gb448, 1, none⟩ = some (.string (⟨#[]⟩ : ByteArray)) := bc BK448.out 1; have hcz13_2 : w11.cell? ⟨gb448, 2, none⟩ = some (.int .i64 0) := bc BK448.out 2; have hfz13_0 := blk_frozen BK448.out 0; have hfz13_1 := blk_frozen BK448.out 1; have hfz13_2 := blk_frozen BK448.out 2) | ((with_reducible refine gate_dst (N := 28) rfl ?_); (try (refine gate_guard (by rfl) ?_; dsimp only)); refine Kd.R_lit k40 _ 40 ?hg (N := 28) ?hd (xs := ([] : List (S40))) (inner := []) (ok := fun _ => True) (okp := fun _ => True) ?hr ?hp (fun _ hk => hk) trivial (Below.refl _ _) (Nat.le_refl _) (by simp) ?_; (case hd => rfl); (case hg => rfl); (case hr => first | (go_simp; done) | (go_simp; rfl)); (case hp => exact (Reps.none _ _)); intro v450 w14 ho15 hb hg_ hnew_; clear hg_ hnew_; (first | rw [← Ny449.out] at ho15 | (simp only [Int.reduceToNat] at ho15; rw [← Ny449.out] at ho15)); replace HO445 := am (Kd.R_below (kr ((Kd.R_mono (Kd.R_far (p := ⟨gb448, 2, none⟩) (Kd.R_far (p := ⟨gb448, 1, none⟩) (Kd.R_far (p := ⟨gb448, 0, none⟩) (Kd.R_types HO445.out BK448.out (by decide)) (fun _ hk => hk.2) (.slice Ao12 t443.length co12)) (fun _ hk => hk.2) (.string t446)) (fun _ hk => hk.2) (.int .i64 t447)) (fun _ h_ => h_.1)))) hb); have HO451 := am (Kd.R_lower (Kd.R_new' ho15 (Kd.R_lt (kr ((Kd.R_mono (Kd.R_far (p := ⟨gb448, 2, none⟩) (Kd.R_far (p := ⟨gb448, 1, none⟩) (Kd.R_far (p := ⟨gb448, 0, none⟩) (Kd.R_types HO442.out BK448.out (by decide)) (fun _ hk => hk.2) (.slice Ao12 t443.length co12)) (fun _ hk => hk.2) (.string t446)) (fun _ hk => hk.2) (.int .i64 t447)) (fun _ h_ => h_.1)))))) (below_size (bl HB.out))); replace HO442 := am (Kd.R_elder' (kr ((Kd.R_mono (Kd.R_far (p := ⟨gb448, 2, none⟩) (Kd.R_far (p := ⟨gb448, 1, none⟩) (Kd.R_far (p := ⟨gb448, 0, none⟩) (Kd.R_types HO442.out BK448.out (by decide)) (fun _ hk => hk.2) (.slice Ao12 t443.length co12)) (fun _ hk => hk.2) (.string t446)) (fun _ hk => hk.2) (.int .i64 t447)) (fun _ h_ => h_.1)))) (Kd.R_base ho15) hb); replace BK448 := am (blk_below (g := gb448) (o := .cells #[.slice Ao12 t443.length co12, .string t446, .int .i64 t447] 35 (0, 0)) (by refine pk ?_; refine blk_put (cs := #[.slice Ao12 t443.length co12, .string t446, .int .i64 0]) ?_ 2 _ rfl; refine pk ?_; refine blk_put (cs := #[.slice Ao12 t443.length co12, .string (⟨#[]⟩ : ByteArray), .int .i64 0]) ?_ 1 _ rfl; refine pk ?_; refine blk_put (cs := #[.slice none 0 0, .string (⟨#[]⟩ : ByteArray), .int .i64 0]) ?_ 0 _ rfl; refine pk ?_; exact BK448.out) hb); replace HB := am (below_step (bl HB.out) hb); clear hb ho15) | ((with_reducible refine gate_builtin (b := .append) (xs := #[.tmp 28, .tmp 29]) rfl ?_); (try (refine gate_guard (by rfl) ?_; dsimp only)); at_builtin; refine Kd.R_append_rows k40 (w0 := w) w.heap.size rfl (.tmp 28) (.tmp 29) 24 40 (.agg #[(.int .i64 0), (.string ⟨#[]⟩), (.string ⟨#[]⟩)]) 40 rfl Try.underlying24 info40 rfl (by decide) (by omega) v450 y449 t437 _ _ _ (fun k_ => some k_ ≠ (.slice Ao9 t437.length co9 : Value).ownBlock) (fun _ => False) rfl rfl ?aO ?aR (fun _ _ h => h) (fun _ h => h.elim) ?aF ?aB ?aS ?aL ?_; (case aR => repeat (first | exact (Kd.R_reads' HO442.out).2.2 | (with_reducible refine Kd.C_alloc ?_ _) | (with_reducible refine Kd.C_drewN ?_ _) | (with_reducible refine Kd.C_drew ?_))); (case aB => exact (bl HB.out)); (case aF => exact (fun k_ hk => Kd.fresh' (Kd.R_lt (kr HO442.out)) k_ hk)); (case aO => exact (kr (Kd.R_mono HO451.out (fun _ hk => hk.2)))); (case aS => exact (below_size (bl HB.out))); (case aL => have := LMc5.out; omega); intro v453 w16 ho hb hg hat; rw [← Ny452.out] at ho; replace HO442 := am (Kd.R_after (ok := (fun _ => True)) (kr HO442.out) hg hat); replace HO445 := am (Kd.R_over' (kr HO445.out) (Kd.R_typed (kr HO451.out)) (by decide) hg); replace BK448 := am (blk_grown (g := gb448) (o := .cells #[.slice Ao12 t443.length co12, .string t446, .int .i64 t447] 35 (0, 0)) (pk BK448.out) hg (Kd.R_ne HO451.out BK448.out (by decide))); replace HB := am (hb); have HO454 := am (ho); clear HO451; clear ho hb hg hat; obtain ⟨Ao17, co17, eo17⟩ := Kd.R_slice HO454.out; subst eo17) | (go_at_call 15; (with_reducible refine (impl_KeyFeed.calls k _ _ y452 t438 t439 t440 t455 t458 t459 _ ?side1 ?side2 A6.out).mono ?_); (case side1 => repeat (first | exact (Kd.R_reads' HO454.out).2.2 | (with_reducible refine Kd.C_alloc ?_ _) | (with_reducible refine Kd.C_drewN ?_ _) | (with_reducible refine Kd.C_drew ?_))); (case side2 => exact (Kd.R_reads' HO454.out).2.1); rintro e w18 ⟨v456, rfl, ho0, hb⟩; replace HO442 := am (Kd.R_below (kr HO442.out) hb); replace HO454 := am (Kd.R_below (kr HO454.out) hb); have HO457 := am (Kd.R_lower (Kd.R_new' ho0 (Kd.R_lt (kr HO445.out))) (below_size (bl HB.out))); replace HO445 := am (Kd.R_elder' (kr HO445.out) (Kd.R_base ho0) hb); replace BK448 := am (blk_below (pk BK448.out) hb); replace HB := am (below_step (bl HB.out) hb); (try clear hb); (try clear hb2); (try clear hk); (try clear hi); (try clear ho0)) | ((with_reducible refine gate_dst (N := 8) rfl ?_); (try (refine gate_guard (by rfl) ?_; dsimp only)); refine box_event ?hg (N := 8) ?hd (cs := #[.slice none 0 0, .string (⟨#[]⟩ : ByteArray), .int .i64 0]) (t := 35) ?hr ?_; (case hd => rfl); (case hg => rfl); (case hr => first | (go_simp; done) | (go_simp; rfl)); intro gb460 hg w19 hbox hb; replace HO442 := am (Kd.R_below (kr HO442.out) hb); replace HO445 := am (Kd.R_below (kr HO445.out) hb); replace HO454 := am (Kd.R_below (kr HO454.out) hb); replace HO457 := am (Kd.R_below (kr HO457.out) hb); have BK460 := am (hbox); have GW460 := am ((by rw [hg]; exact (below_size (bl HB.out)) : w.heap.size ≤ gb460)); have GE460 := GW460; replace HB := am (below_step (bl HB.out) hb); have NB448_460 := am ((by rw [hg]; exact Nat.ne_of_lt (blk_lt (pk BK448.out)) : gb448 ≠ gb460)); have NB460_448 := am ((by rw [hg]; exact Nat.ne_of_gt (blk_lt (pk BK448.out)) : gb460 ≠ gb448)); replace BK448 := am (blk_below (pk BK448.out) hb); clear hb hbox hg; obtain ⟨Ao20, co20, eo20⟩ := Kd.R_slice HO457.out; subst eo20; have hnb21 := NB460_448.out; have hnc21 := NB448_460.out; have hcz22_0 : w19.cell? ⟨gb460, 0, none⟩ = some (.slice none 0 0) := bc BK460.out 0; have hcz22_1 : w19.cell? ⟨gb460, 1, none⟩ = some (.string (⟨#[]⟩ : ByteArray)) := bc BK460.out 1; have hcz22_2 : w19.cell? ⟨gb460, 2, none⟩ = some (.int .i64 0) := bc BK460.out 2; have hfz22_0 := blk_frozen BK460.out 0; have hfz22_1 := blk_frozen BK460.out 1; have hfz22_2 := blk_frozen BK460.out 2))
   repeat (go_quiet (first | (go_at_call 13; (with_reducible refine (spec_DrawKeyFeed.calls k _ _ l0 t437 t438 t439 t440 _ ?side1 ?side2 A3.out).mono ?_); (case side1 => repeat (first | exact HR0.out | (with_reducible refine Kd.C_alloc ?_ _) | (with_reducible refine Kd.C_drewN ?_ _) | (with_reducible refine Kd.C_drew ?_))); (case side2 => exact HC0.out); rintro e w8 ⟨v441, rfl, ho0, hb⟩; have HO442 := am (Kd.R_lower ho0 (below_size (bl HB.out))); replace HB := am (below_step (bl HB.out) hb); (try clear hb); (try clear hb2); (try clear hk); (try clear hi); (try clear ho0); obtain ⟨Ao9, co9, eo9⟩ := Kd.R_slice HO442.out; subst eo9) | (go_at_call 14; (with_reducible refine (spec_KeyFeed.calls k _ _ t437 t438 t439 t440 t443 t446 t447 _ ?side1 ?side2 A4.out).mono ?_); (case side1 => repeat (first | exact (Kd.R_reads' HO442.out).2.2 | (with_reducible refine Kd.C_alloc ?_ _) | (with_reducible refine Kd.C_drewN ?_ _) | (with_reducible refine Kd.C_drew ?_))); (case side2 => exact (Kd.R_reads' HO442.out).2.1); rintro e w10 ⟨v444, rfl, ho0, hb⟩; replace HO442 := am (Kd.R_below (kr HO442.out) hb); have HO445 := am (Kd.R_lower ho0 (below_size (bl HB.out))); replace HB := am (below_step (bl HB.out) hb); (try clear hb); (try clear hb2); (try clear hk); (try clear hi); (try clear ho0)) | ((with_reducible refine gate_dst (N := 7) rfl ?_); (try (refine gate_guard (by rfl) ?_; dsimp only)); refine box_event ?hg (N := 7) ?hd (cs := #[.slice none 0 0, .string (⟨#[]⟩ : ByteArray), .int .i64 0]) (t := 35) ?hr ?_; (case hd => rfl); (case hg => rfl); (case hr => first | (go_simp; done) | (go_simp; rfl)); intro gb448 hg w11 hbox hb; replace HO442 := am (Kd.R_below (kr HO442.out) hb); replace HO445 := am (Kd.R_below (kr HO445.out) hb); have BK448 := am (hbox); have GW448 := am ((by rw [hg]; exact (below_size (bl HB.out)) : w.heap.size ≤ gb448)); have GE448 := GW448; replace HB := am (below_step (bl HB.out) hb); clear hb hbox hg; obtain ⟨Ao12, co12, eo12⟩ := Kd.R_slice HO445.out; subst eo12; have hcz13_0 : w11.cell? ⟨gb448, 0, none⟩ = some (.slice none 0 0) := bc BK448.out 0; have hcz13_1 : w11.cell? ⟨gb448, 1, none⟩ = some (.string (⟨#[]⟩ : ByteArray)) := bc BK448.out 1; have hcz13_2 : w11.cell? ⟨gb448, 2, none⟩ = some (.int .i64 0) := bc BK448.out 2; have hfz13_0 := blk_frozen BK448.out 0; have hfz13_1 := blk_frozen BK448.out 1; have hfz13_2 := blk_frozen BK448.out 2) | ((with_reducible refine gate_dst (N := 28) rfl ?_); (try (refine gate_guard (by rfl) ?_; dsimp only)); refine Kd.R_lit k40 _ 40 ?hg (N := 28) ?hd (xs := ([] : List (S40))) (inner := []) (ok := fun _ => True) (okp := fun _ => True) ?hr ?hp (fun _ hk => hk) trivial (Below.refl _ _) (Nat.le_refl _) (by simp) ?_; (case hd => rfl); (case hg => rfl); (case hr => first | (go_simp; done) | (go_simp; rfl)); (case hp => exact (Reps.none _ _)); intro v450 w14 ho15 hb hg_ hnew_; clear hg_ hnew_; (first | rw [← Ny449.out] at ho15 | (simp only [Int.reduceToNat] at ho15; rw [← Ny449.out] at ho15)); replace HO445 := am (Kd.R_below (kr ((Kd.R_mono (Kd.R_far (p := ⟨gb448, 2, none⟩) (Kd.R_far (p := ⟨gb448, 1, none⟩) (Kd.R_far (p := ⟨gb448, 0, none⟩) (Kd.R_types HO445.out BK448.out (by decide)) (fun _ hk => hk.2) (.slice Ao12 t443.length co12)) (fun _ hk => hk.2) (.string t446)) (fun _ hk => hk.2) (.int .i64 t447)) (fun _ h_ => h_.1)))) hb); have HO451 := am (Kd.R_lower (Kd.R_new' ho15 (Kd.R_lt (kr ((Kd.R_mono (Kd.R_far (p := ⟨gb448, 2, none⟩) (Kd.R_far (p := ⟨gb448, 1, none⟩) (Kd.R_far (p := ⟨gb448, 0, none⟩) (Kd.R_types HO442.out BK448.out (by decide)) (fun _ hk => hk.2) (.slice Ao12 t443.length co12)) (fun _ hk => hk.2) (.string t446)) (fun _ hk => hk.2) (.int .i64 t447)) (fun _ h_ => h_.1)))))) (below_size (bl HB.out))); replace HO442 := am (Kd.R_elder' (kr ((Kd.R_mono (Kd.R_far (p := ⟨gb448, 2, none⟩) (Kd.R_far (p := ⟨gb448, 1, none⟩) (Kd.R_far (p := ⟨gb448, 0, none⟩) (Kd.R_types HO442.out BK448.out (by decide)) (fun _ hk => hk.2) (.slice Ao12 t443.length co12)) (fun _ hk => hk.2) (.string t446)) (fun _ hk => hk.2) (.int .i64 t447)) (fun _ h_ => h_.1)))) (Kd.R_base ho15) hb); replace BK448 := am (blk_below (g := gb448) (o := .cells #[.slice Ao12 t443.length co12, .string t446, .int .i64 t447] 35 (0, 0)) (by refine pk ?_; refine blk_put (cs := #[.slice Ao12 t443.length co12, .string t446, .int .i64 0]) ?_ 2 _ rfl; refine pk ?_; refine blk_put (cs := #[.slice Ao12 t443.length co12, .string (⟨#[]⟩ : ByteArray), .int .i64 0]) ?_ 1 _ rfl; refine pk ?_; refine blk_put (cs := #[.slice none 0 0, .string (⟨#[]⟩ : ByteArray), .int .i64 0]) ?_ 0 _ rfl; refine pk ?_; exact BK448.out) hb); replace HB := am (below_step (bl HB.out) hb); clear hb ho15) | ((with_reducible refine gate_builtin (b := .append) (xs := #[.tmp 28, .tmp 29]) rfl ?_); (try (refine gate_guard (by rfl) ?_; dsimp only)); at_builtin; refine Kd.R_append_rows k40 (w0 := w) w.heap.size rfl (.tmp 28) (.tmp 29) 24 40 (.agg #[(.int .i64 0), (.string ⟨#[]⟩), (.string ⟨#[]⟩)]) 40 rfl Try.underlying24 info40 rfl (by decide) (by omega) v450 y449 t437 _ _ _ (fun k_ => some k_ ≠ (.slice Ao9 t437.length co9 : Value).ownBlock) (fun _ => False) rfl rfl ?aO ?aR (fun _ _ h => h) (fun _ h => h.elim) ?aF ?aB ?aS ?aL ?_; (case aR => repeat (first | exact (Kd.R_reads' HO442.out).2.2 | (with_reducible refine Kd.C_alloc ?_ _) | (with_reducible refine Kd.C_drewN ?_ _) | (with_reducible refine Kd.C_drew ?_))); (case aB => exact (bl HB.out)); (case aF => exact (fun k_ hk => Kd.fresh' (Kd.R_lt (kr HO442.out)) k_ hk)); (case aO => exact (kr (Kd.R_mono HO451.out (fun _ hk => hk.2)))); (case aS => exact (below_size (bl HB.out))); (case aL => have := LMc5.out; omega); intro v453 w16 ho hb hg hat; rw [← Ny452.out] at ho; replace HO442 := am (Kd.R_after (ok := (fun _ => True)) (kr HO442.out) hg hat); replace HO445 := am (Kd.R_over' (kr HO445.out) (Kd.R_typed (kr HO451.out)) (by decide) hg); replace BK448 := am (blk_grown (g := gb448) (o := .cells #[.slice Ao12 t443.length co12, .string t446, .int .i64 t447] 35 (0, 0)) (pk BK448.out) hg (Kd.R_ne HO451.out BK448.out (by decide))); replace HB := am (hb); have HO454 := am (ho); clear HO451; clear ho hb hg hat; obtain ⟨Ao17, co17, eo17⟩ := Kd.R_slice HO454.out; subst eo17) | (go_at_call 15; (with_reducible refine (impl_KeyFeed.calls k _ _ y452 t438 t439 t440 t455 t458 t459 _ ?side1 ?side2 A6.out).mono ?_); (case side1 => repeat (first | exact (Kd.R_reads' HO454.out).2.2 | (with_reducible refine Kd.C_alloc ?_ _) | (with_reducible refine Kd.C_drewN ?_ _) | (with_reducible refine Kd.C_drew ?_))); (case side2 => exact (Kd.R_reads' HO454.out).2.1); rintro e w18 ⟨v456, rfl, ho0, hb⟩; replace HO442 := am (Kd.R_below (kr HO442.out) hb); replace HO454 := am (Kd.R_below (kr HO454.out) hb); have HO457 := am (Kd.R_lower (Kd.R_new' ho0 (Kd.R_lt (kr HO445.out))) (below_size (bl HB.out))); replace HO445 := am (Kd.R_elder' (kr HO445.out) (Kd.R_base ho0) hb); replace BK448 := am (blk_below (pk BK448.out) hb); replace HB := am (below_step (bl HB.out) hb); (try clear hb); (try clear hb2); (try clear hk); (try clear hi); (try clear ho0)) | ((with_reducible refine gate_dst (N := 8) rfl ?_); (try (refine gate_guard (by rfl) ?_; dsimp only)); refine box_event ?hg (N := 8) ?hd (cs := #[.slice none 0 0, .string (⟨#[]⟩ : ByteArray), .int .i64 0]) (t := 35) ?hr ?_; (case hd => rfl); (case hg => rfl); (case hr => first | (go_simp; done) | (go_simp; rfl)); intro gb460 hg w19 hbox hb; replace HO442 := am (Kd.R_below (kr HO442.out) hb); replace HO445 := am (Kd.R_below (kr HO445.out) hb); replace HO454 := am (Kd.R_below (kr HO454.out) hb); replace HO457 := am (Kd.R_below (kr HO457.out) hb); have BK460 := am (hbox); have GW460 := am ((by rw [hg]; exact (below_size (bl HB.out)) : w.heap.size ≤ gb460)); have GE460 := GW460; replace HB := am (below_step (bl HB.out) hb); have NB448_460 := am ((by rw [hg]; exact Nat.ne_of_lt (blk_lt (pk BK448.out)) : gb448 ≠ gb460)); have NB460_448 := am ((by rw [hg]; exact Nat.ne_of_gt (blk_lt (pk BK448.out)) : gb460 ≠ gb448)); replace BK448 := am (blk_below (pk BK448.out) hb); clear hb hbox hg; obtain ⟨Ao20, co20, eo20⟩ := Kd.R_slice HO457.out; subst eo20; have hnb21 := NB460_448.out; have hnc21 := NB448_460.out; have hcz22_0 : w19.cell? ⟨gb460, 0, none⟩ = some (.slice none 0 0) := bc BK460.out 0; have hcz22_1 : w19.cell? ⟨gb460, 1, none⟩ = some (.string (⟨#[]⟩ : ByteArray)) := bc BK460.out 1; have hcz22_2 : w19.cell? ⟨gb460, 2, none⟩ = some (.int .i64 0) := bc BK460.out 2; have hfz22_0 := blk_frozen BK460.out 0; have hfz22_1 := blk_frozen BK460.out 1; have hfz22_2 := blk_frozen BK460.out 2)); go_upto_region 6 with (first | (go_at_call 13; (with_reducible refine (spec_DrawKeyFeed.calls k _ _ l0 t437 t438 t439 t440 _ ?side1 ?side2 A3.out).mono ?_); (case side1 => repeat (first | exact HR0.out | (with_reducible refine Kd.C_alloc ?_ _) | (with_reducible refine Kd.C_drewN ?_ _) | (with_reducible refine Kd.C_drew ?_))); (case side2 => exact HC0.out); rintro e w8 ⟨v441, rfl, ho0, hb⟩; have HO442 := am (Kd.R_lower ho0 (below_size (bl HB.out))); replace HB := am (below_step (bl HB.out) hb); (try clear hb); (try clear hb2); (try clear hk); (try clear hi); (try clear ho0); obtain ⟨Ao9, co9, eo9⟩ := Kd.R_slice HO442.out; subst eo9) | (go_at_call 14; (with_reducible refine (spec_KeyFeed.calls k _ _ t437 t438 t439 t440 t443 t446 t447 _ ?side1 ?side2 A4.out).mono ?_); (case side1 => repeat (first | exact (Kd.R_reads' HO442.out).2.2 | (with_reducible refine Kd.C_alloc ?_ _) | (with_reducible refine Kd.C_drewN ?_ _) | (with_reducible refine Kd.C_drew ?_))); (case side2 => exact (Kd.R_reads' HO442.out).2.1); rintro e w10 ⟨v444, rfl, ho0, hb⟩; replace HO442 := am (Kd.R_below (kr HO442.out) hb); have HO445 := am (Kd.R_lower ho0 (below_size (bl HB.out))); replace HB := am (below_step (bl HB.out) hb); (try clear hb); (try clear hb2); (try clear hk); (try clear hi); (try clear ho0)) | ((with_reducible refine gate_dst (N := 7) rfl ?_); (try (refine gate_guard (by rfl) ?_; dsimp only)); refine box_event ?hg (N := 7) ?hd (cs := #[.slice none 0 0, .string (⟨#[]⟩ : ByteArray), .int .i64 0]) (t := 35) ?hr ?_; (case hd => rfl); (case hg => rfl); (case hr => first | (go_simp; done) | (go_simp; rfl)); intro gb448 hg w11 hbox hb; replace HO442 := am (Kd.R_below (kr HO442.out) hb); replace HO445 := am (Kd.R_below (kr HO445.out) hb); have BK448 := am (hbox); have GW448 := am ((by rw [hg]; exact (below_size (bl HB.out)) : w.heap.size ≤ gb448)); have GE448 := GW448; replace HB := am (below_step (bl HB.out) hb); clear hb hbox hg; obtain ⟨Ao12, co12, eo12⟩ := Kd.R_slice HO445.out; subst eo12; have hcz13_0 : w11.cell? ⟨gb448, 0, none⟩ = some (.slice none 0 0) := bc BK448.out 0; have hcz13_1 : w11.cell? ⟨gb448, 1, none⟩ = some (.string (⟨#[]⟩ : ByteArray)) := bc BK448.out 1; have hcz13_2 : w11.cell? ⟨gb448, 2, none⟩ = some (.int .i64 0) := bc BK448.out 2; have hfz13_0 := blk_frozen BK448.out 0; have hfz13_1 := blk_frozen BK448.out 1; have hfz13_2 := blk_frozen BK448.out 2) | ((with_reducible refine gate_dst (N := 28) rfl ?_); (try (refine gate_guard (by rfl) ?_; dsimp only)); refine Kd.R_lit k40 _ 40 ?hg (N := 28) ?hd (xs := ([] : List (S40))) (inner := []) (ok := fun _ => True) (okp := fun _ => True) ?hr ?hp (fun _ hk => hk) trivial (Below.refl _ _) (Nat.le_refl _) (by simp) ?_; (case hd => rfl); (case hg => rfl); (case hr => first | (go_simp; done) | (go_simp; rfl)); (case hp => exact (Reps.none _ _)); intro v450 w14 ho15 hb hg_ hnew_; clear hg_ hnew_; (first | rw [← Ny449.out] at ho15 | (simp only [Int.reduceToNat] at ho15; rw [← Ny449.out] at ho15)); replace HO445 := am (Kd.R_below (kr ((Kd.R_mono (Kd.R_far (p := ⟨gb448, 2, none⟩) (Kd.R_far (p := ⟨gb448, 1, none⟩) (Kd.R_far (p := ⟨gb448, 0, none⟩) (Kd.R_types HO445.out BK448.out (by decide)) (fun _ hk => hk.2) (.slice Ao12 t443.length co12)) (fun _ hk => hk.2) (.string t446)) (fun _ hk => hk.2) (.int .i64 t447)) (fun _ h_ => h_.1)))) hb); have HO451 := am (Kd.R_lower (Kd.R_new' ho15 (Kd.R_lt (kr ((Kd.R_mono (Kd.R_far (p := ⟨gb448, 2, none⟩) (Kd.R_far (p := ⟨gb448, 1, none⟩) (Kd.R_far (p := ⟨gb448, 0, none⟩) (Kd.R_types HO442.out BK448.out (by decide)) (fun _ hk => hk.2) (.slice Ao12 t443.length co12)) (fun _ hk => hk.2) (.string t446)) (fun _ hk => hk.2) (.int .i64 t447)) (fun _ h_ => h_.1)))))) (below_size (bl HB.out))); replace HO442 := am (Kd.R_elder' (kr ((Kd.R_mono (Kd.R_far (p := ⟨gb448, 2, none⟩) (Kd.R_far (p := ⟨gb448, 1, none⟩) (Kd.R_far (p := ⟨gb448, 0, none⟩) (Kd.R_types HO442.out BK448.out (by decide)) (fun _ hk => hk.2) (.slice Ao12 t443.length co12)) (fun _ hk => hk.2) (.string t446)) (fun _ hk => hk.2) (.int .i64 t447)) (fun _ h_ => h_.1)))) (Kd.R_base ho15) hb); replace BK448 := am (blk_below (g := gb448) (o := .cells #[.slice Ao12 t443.length co12, .string t446, .int .i64 t447] 35 (0, 0)) (by refine pk ?_; refine blk_put (cs := #[.slice Ao12 t443.length co12, .string t446, .int .i64 0]) ?_ 2 _ rfl; refine pk ?_; refine blk_put (cs := #[.slice Ao12 t443.length co12, .string (⟨#[]⟩ : ByteArray), .int .i64 0]) ?_ 1 _ rfl; refine pk ?_; refine blk_put (cs := #[.slice none 0 0, .string (⟨#[]⟩ : ByteArray), .int .i64 0]) ?_ 0 _ rfl; refine pk ?_; exact BK448.out) hb); replace HB := am (below_step (bl HB.out) hb); clear hb ho15) | ((with_reducible refine gate_builtin (b := .append) (xs := #[.tmp 28, .tmp 29]) rfl ?_); (try (refine gate_guard (by rfl) ?_; dsimp only)); at_builtin; refine Kd.R_append_rows k40 (w0 := w) w.heap.size rfl (.tmp 28) (.tmp 29) 24 40 (.agg #[(.int .i64 0), (.string ⟨#[]⟩), (.string ⟨#[]⟩)]) 40 rfl Try.underlying24 info40 rfl (by decide) (by omega) v450 y449 t437 _ _ _ (fun k_ => some k_ ≠ (.slice Ao9 t437.length co9 : Value).ownBlock) (fun _ => False) rfl rfl ?aO ?aR (fun _ _ h => h) (fun _ h => h.elim) ?aF ?aB ?aS ?aL ?_; (case aR => repeat (first | exact (Kd.R_reads' HO442.out).2.2 | (with_reducible refine Kd.C_alloc ?_ _) | (with_reducible refine Kd.C_drewN ?_ _) | (with_reducible refine Kd.C_drew ?_))); (case aB => exact (bl HB.out)); (case aF => exact (fun k_ hk => Kd.fresh' (Kd.R_lt (kr HO442.out)) k_ hk)); (case aO => exact (kr (Kd.R_mono HO451.out (fun _ hk => hk.2)))); (case aS => exact (below_size (bl HB.out))); (case aL => have := LMc5.out; omega); intro v453 w16 ho hb hg hat; rw [← Ny452.out] at ho; replace HO442 := am (Kd.R_after (ok := (fun _ => True)) (kr HO442.out) hg hat); replace HO445 := am (Kd.R_over' (kr HO445.out) (Kd.R_typed (kr HO451.out)) (by decide) hg); replace BK448 := am (blk_grown (g := gb448) (o := .cells #[.slice Ao12 t443.length co12, .string t446, .int .i64 t447] 35 (0, 0)) (pk BK448.out) hg (Kd.R_ne HO451.out BK448.out (by decide))); replace HB := am (hb); have HO454 := am (ho); clear HO451; clear ho hb hg hat; obtain ⟨Ao17, co17, eo17⟩ := Kd.R_slice HO454.out; subst eo17) | (go_at_call 15; (with_reducible refine (impl_KeyFeed.calls k _ _ y452 t438 t439 t440 t455 t458 t459 _ ?side1 ?side2 A6.out).mono ?_); (case side1 => repeat (first | exact (Kd.R_reads' HO454.out).2.2 | (with_reducible refine Kd.C_alloc ?_ _) | (with_reducible refine Kd.C_drewN ?_ _) | (with_reducible refine Kd.C_drew ?_))); (case side2 => exact (Kd.R_reads' HO454.out).2.1); rintro e w18 ⟨v456, rfl, ho0, hb⟩; replace HO442 := am (Kd.R_below (kr HO442.out) hb); replace HO454 := am (Kd.R_below (kr HO454.out) hb); have HO457 := am (Kd.R_lower (Kd.R_new' ho0 (Kd.R_lt (kr HO445.out))) (below_size (bl HB.out))); replace HO445 := am (Kd.R_elder' (kr HO445.out) (Kd.R_base ho0) hb); replace BK448 := am (blk_below (pk BK448.out) hb); replace HB := am (below_step (bl HB.out) hb); (try clear hb); (try clear hb2); (try clear hk); (try clear hi); (try clear ho0)) | ((with_reducible refine gate_dst (N := 8) rfl ?_); (try (refine gate_guard (by rfl) ?_; dsimp only)); refine box_event ?hg (N := 8) ?hd (cs := #[.slice none 0 0, .string (⟨#[]⟩ : ByteArray), .int .i64 0]) (t := 35) ?hr ?_; (case hd => rfl); (case hg => rfl); (case hr => first | (go_simp; done) | (go_simp; rfl)); intro gb460 hg w19 hbox hb; replace HO442 := am (Kd.R_below (kr HO442.out) hb); replace HO445 := am (Kd.R_below (kr HO445.out) hb); replace HO454 := am (Kd.R_below (kr HO454.out) hb); replace HO457 := am (Kd.R_below (kr HO457.out) hb); have BK460 := am (hbox); have GW460 := am ((by rw [hg]; exact (below_size (bl HB.out)) : w.heap.size ≤ gb460)); have GE460 := GW460; replace HB := am (below_step (bl HB.out) hb); have NB448_460 := am ((by rw [hg]; exact Nat.ne_of_lt (blk_lt (pk BK448.out)) : gb448 ≠ gb460)); have NB460_448 := am ((by rw [hg]; exact Nat.ne_of_gt (blk_lt (pk BK448.out)) : gb460 ≠ gb448)); replace BK448 := am (blk_below (pk BK448.out) hb); clear hb hbox hg; obtain ⟨Ao20, co20, eo20⟩ := Kd.R_slice HO457.out; subst eo20; have hnb21 := NB460_448.out; have hnc21 := NB448_460.out; have hcz22_0 : w19.cell? ⟨gb460, 0, none⟩ = some (.slice none 0 0) := bc BK460.out 0; have hcz22_1 : w19.cell? ⟨gb460, 1, none⟩ = some (.string (⟨#[]⟩ : ByteArray)) := bc BK460.out 1; have hcz22_2 : w19.cell? ⟨gb460, 2, none⟩ = some (.int .i64 0) := bc BK460.out 2; have hfz22_0 := blk_frozen BK460.out 0; have hfz22_1 := blk_frozen BK460.out 1; have hfz22_2 := blk_frozen BK460.out 2)))
   (try simp only [Act.put, sa_, s0_, ss_])
   go_cut [48] (fun v48 wc => ∃ (kq : Nat) (x48_6 : Bool), v48 = .bool x48_6 ∧ Aside0 (laws_FnKeys.j0 kq t437 t438 t439 t440 x48_6 t443 t446 t447 t455 t458 t459 = some r) ∧ Aside0 (kq ≤ k) ∧ Aside0 (Kd.R k40 40 wc w.heap.size (fun _ => True) (.slice Ao9 t437.length co9) t437) ∧ Aside0 (Kd.R k38 38 wc w.heap.size (fun k_ => some k_ ≠ ((.slice Ao20 t455.length co20) : Value).ownBlock) (.slice Ao12 t443.length co12) t443) ∧ Aside0 (Kd.R k38 38 wc w.heap.size (fun k_ => some k_ ≠ ((.slice Ao12 t443.length co12) : Value).ownBlock) (.slice Ao20 t455.length co20) t455) ∧ Aside0 (wc.heap[gb448]? = some (.cells #[(.slice Ao12 t443.length co12), .string t446, .int .i64 t447] 35 (0, 0))) ∧ Aside0 (wc.heap[gb460]? = some (.cells #[(.slice Ao20 t455.length co20), .string t458, .int .i64 t459] 35 (0, 0))) ∧ Aside0 (Below w.heap.size w wc))
   case first =>
    have H := HC7.out
    clear HC7
    by_cases c23 : t459 = t447
    ·rw [if_pos c23] at H
     have c23b0 : (t459 == t447) = true := beq_iff_eq.mpr c23
     have c23b1 : (t459 != t447) = false := bne_eq_false_iff_eq.mpr c23
     clear c23
     (first | rw [c23b0] | (simp only [i64_w, i32_w]; rw [c23b0]) | (have e9_ := c23b0; unfold bne at e9_; rw [e9_]) | skip)
     have H' := Aside0.mk H
     clear H
     have hnb24 := NB460_448.out
     have hnc24 := NB448_460.out
     have hcz25_0 : w19.cell? ⟨gb460, 0, none⟩ = some (.slice none 0 0) := bc BK460.out 0
     have hcz25_1 : w19.cell? ⟨gb460, 1, none⟩ = some (.string (⟨#[]⟩ : ByteArray)) := bc BK460.out 1
     have hcz25_2 : w19.cell? ⟨gb460, 2, none⟩ = some (.int .i64 0) := bc BK460.out 2
     have hfz25_0 := blk_frozen BK460.out 0
     have hfz25_1 := blk_frozen BK460.out 1
     have hfz25_2 := blk_frozen BK460.out 2
     have hcz26_0 : w19.cell? ⟨gb448, 0, none⟩ = some (.slice Ao12 t443.length co12) := bc BK448.out 0
     have hcz26_1 : w19.cell? ⟨gb448, 1, none⟩ = some (.string t446) := bc BK448.out 1
     have hcz26_2 : w19.cell? ⟨gb448, 2, none⟩ = some (.int .i64 t447) := bc BK448.out 2
     have hfz26_0 := blk_frozen BK448.out 0
     have hfz26_1 := blk_frozen BK448.out 1
     have hfz26_2 := blk_frozen BK448.out 2
     go_wp2
     repeat (go_quiet (fail); try go_wp2)
     go_meet
     case rel => exact ⟨_, (((t455.length : Int) != (t443.length : Int))), (by first | rfl | (simp; done) | (simp [*]; done)), H', ⟨by first | omega | exact Nat.le_refl _⟩, ⟨kr (Kd.R_mono (Kd.R_far (p := ⟨gb460, 2, none⟩) (Kd.R_far (p := ⟨gb460, 1, none⟩) (Kd.R_far (p := ⟨gb460, 0, none⟩) (Kd.R_types HO442.out BK460.out (by decide)) (fun _ hk => hk.2) (.slice Ao20 t455.length co20)) (fun _ hk => hk.2) (.string t458)) (fun _ hk => hk.2) (.int .i64 t459)) (fun _ hk => trivial))⟩, ⟨kr (Kd.R_mono (Kd.R_far (p := ⟨gb460, 2, none⟩) (Kd.R_far (p := ⟨gb460, 1, none⟩) (Kd.R_far (p := ⟨gb460, 0, none⟩) (Kd.R_types HO445.out BK460.out (by decide)) (fun _ hk => hk.2) (.slice Ao20 t455.length co20)) (fun _ hk => hk.2) (.string t458)) (fun _ hk => hk.2) (.int .i64 t459)) (fun _ hk => hk.1.2))⟩, ⟨kr (Kd.R_mono (Kd.R_far (p := ⟨gb460, 2, none⟩) (Kd.R_far (p := ⟨gb460, 1, none⟩) (Kd.R_far (p := ⟨gb460, 0, none⟩) (Kd.R_types HO457.out BK460.out (by decide)) (fun _ hk => hk.2) (.slice Ao20 t455.length co20)) (fun _ hk => hk.2) (.string t458)) (fun _ hk => hk.2) (.int .i64 t459)) (fun _ hk => hk.1.2))⟩, ⟨by refine pk ?_; refine blk_far ?_ NB448_460.out _; refine pk ?_; refine blk_far ?_ NB448_460.out _; refine pk ?_; refine blk_far ?_ NB448_460.out _; refine pk ?_; exact BK448.out⟩, ⟨by refine pk ?_; refine blk_put (cs := #[.slice Ao20 t455.length co20, .string t458, .int .i64 0]) ?_ 2 _ rfl; refine pk ?_; refine blk_put (cs := #[.slice Ao20 t455.length co20, .string (⟨#[]⟩ : ByteArray), .int .i64 0]) ?_ 1 _ rfl; refine pk ?_; refine blk_put (cs := #[.slice none 0 0, .string (⟨#[]⟩ : ByteArray), .int .i64 0]) ?_ 0 _ rfl; refine pk ?_; exact BK460.out⟩, ⟨by repeat (first | (with_reducible first | exact HB.out | apply below_alloc | apply pw_below_drewN | apply below_drew1 | refine below_set ?_ GE448.out | refine below_set ?_ GE460.out) | exact HB.out)⟩⟩
    ·rw [if_neg c23] at H
     have c23b0 : (t459 == t447) = false := beq_eq_false_iff_ne.mpr c23
     have c23b1 : (t459 != t447) = true := bne_iff_ne.mpr c23
     (first | rw [c23b0] | (simp only [i64_w, i32_w]; rw [c23b0]) | (have e9_ := c23b0; unfold bne at e9_; rw [e9_]) | skip)
     have H' := Aside0.mk H
     clear H
     have hnb27 := NB460_448.out
     have hnc27 := NB448_460.out
     have hcz28_0 : w19.cell? ⟨gb460, 0, none⟩ = some (.slice none 0 0) := bc BK460.out 0
     have hcz28_1 : w19.cell? ⟨gb460, 1, none⟩ = some (.string (⟨#[]⟩ : ByteArray)) := bc BK460.out 1
     have hcz28_2 : w19.cell? ⟨gb460, 2, none⟩ = some (.int .i64 0) := bc BK460.out 2
     have hfz28_0 := blk_frozen BK460.out 0
     have hfz28_1 := blk_frozen BK460.out 1
     have hfz28_2 := blk_frozen BK460.out 2
     have hcz29_0 : w19.cell? ⟨gb448, 0, none⟩ = some (.slice Ao12 t443.length co12) := bc BK448.out 0
     have hcz29_1 : w19.cell? ⟨gb448, 1, none⟩ = some (.string t446) := bc BK448.out 1
     have hcz29_2 : w19.cell? ⟨gb448, 2, none⟩ = some (.int .i64 t447) := bc BK448.out 2
     have hfz29_0 := blk_frozen BK448.out 0
     have hfz29_1 := blk_frozen BK448.out 1
     have hfz29_2 := blk_frozen BK448.out 2
     go_wp2
     repeat (go_quiet (fail); try go_wp2)
     go_meet
     case rel => exact ⟨_, (true), (by first | rfl | (simp; done) | (simp [*]; done)), H', ⟨by first | omega | exact Nat.le_refl _⟩, ⟨kr (Kd.R_mono (Kd.R_far (p := ⟨gb460, 2, none⟩) (Kd.R_far (p := ⟨gb460, 1, none⟩) (Kd.R_far (p := ⟨gb460, 0, none⟩) (Kd.R_types HO442.out BK460.out (by decide)) (fun _ hk => hk.2) (.slice Ao20 t455.length co20)) (fun _ hk => hk.2) (.string t458)) (fun _ hk => hk.2) (.int .i64 t459)) (fun _ hk => trivial))⟩, ⟨kr (Kd.R_mono (Kd.R_far (p := ⟨gb460, 2, none⟩) (Kd.R_far (p := ⟨gb460, 1, none⟩) (Kd.R_far (p := ⟨gb460, 0, none⟩) (Kd.R_types HO445.out BK460.out (by decide)) (fun _ hk => hk.2) (.slice Ao20 t455.length co20)) (fun _ hk => hk.2) (.string t458)) (fun _ hk => hk.2) (.int .i64 t459)) (fun _ hk => hk.1.2))⟩, ⟨kr (Kd.R_mono (Kd.R_far (p := ⟨gb460, 2, none⟩) (Kd.R_far (p := ⟨gb460, 1, none⟩) (Kd.R_far (p := ⟨gb460, 0, none⟩) (Kd.R_types HO457.out BK460.out (by decide)) (fun _ hk => hk.2) (.slice Ao20 t455.length co20)) (fun _ hk => hk.2) (.string t458)) (fun _ hk => hk.2) (.int .i64 t459)) (fun _ hk => hk.1.2))⟩, ⟨by refine pk ?_; refine blk_far ?_ NB448_460.out _; refine pk ?_; refine blk_far ?_ NB448_460.out _; refine pk ?_; refine blk_far ?_ NB448_460.out _; refine pk ?_; exact BK448.out⟩, ⟨by refine pk ?_; refine blk_put (cs := #[.slice Ao20 t455.length co20, .string t458, .int .i64 0]) ?_ 2 _ rfl; refine pk ?_; refine blk_put (cs := #[.slice Ao20 t455.length co20, .string (⟨#[]⟩ : ByteArray), .int .i64 0]) ?_ 1 _ rfl; refine pk ?_; refine blk_put (cs := #[.slice none 0 0, .string (⟨#[]⟩ : ByteArray), .int .i64 0]) ?_ 0 _ rfl; refine pk ?_; exact BK460.out⟩, ⟨by repeat (first | (with_reducible first | exact HB.out | apply below_alloc | apply pw_below_drewN | apply below_drew1 | refine below_set ?_ GE448.out | refine below_set ?_ GE460.out) | exact HB.out)⟩⟩
   case rest =>
    clear HC7
    try clear c2
    try clear c2b0
    try clear c2b1
    try clear p2
    try clear c4
    try clear c5
    try clear c21
    try clear c23
    try clear c23b0
    try clear c23b1
    try clear c24
    try clear c27
    try clear hcz13_0
    try clear hcz13_1
    try clear hcz13_2
    try clear hcz22_0
    try clear hcz22_1
    try clear hcz22_2
    try clear hcz25_0
    try clear hcz25_1
    try clear hcz25_2
    try clear hcz26_0
    try clear hcz26_1
    try clear hcz26_2
    try clear hcz28_0
    try clear hcz28_1
    try clear hcz28_2
    try clear hcz29_0
    try clear hcz29_1
    try clear hcz29_2
    try clear hfz13_0
    try clear hfz13_1
    try clear hfz13_2
    try clear hfz22_0
    try clear hfz22_1
    try clear hfz22_2
    try clear hfz25_0
    try clear hfz25_1
    try clear hfz25_2
    try clear hfz26_0
    try clear hfz26_1
    try clear hfz26_2
    try clear hfz28_0
    try clear hfz28_1
    try clear hfz28_2
    try clear hfz29_0
    try clear hfz29_1
    try clear hfz29_2
    obtain ⟨kq, x48_6, rfl, HA, HJ6, HO_3, HO_449000, HO_461000, BK448, BK460, HB⟩ := hcut
    cases kq with
    | zero => exact absurd HA.out (by simp [laws_FnKeys.j0])
    | succ kj6 =>
     have H := HA.out
     clear HA
     simp only [laws_FnKeys.j0] at H
     have HC30 := Aside0.mk H
     clear H
     go_upto_if 48 with (fail)
     repeat (go_quiet (fail); go_upto_if 48 with (fail))
     go_cut [] (fun wc => ∃ (kq : Nat), Aside0 (laws_FnKeys.j1 kq t437 t438 t439 t440 t443 t446 t447 t455 t458 t459 = some r) ∧ Aside0 (kq ≤ kj6) ∧ Aside0 (Kd.R k40 40 wc w.heap.size (fun _ => True) (.slice Ao9 t437.length co9) t437) ∧ Aside0 (Kd.R k38 38 wc w.heap.size (fun k_ => some k_ ≠ ((.slice Ao20 t455.length co20) : Value).ownBlock) (.slice Ao12 t443.length co12) t443) ∧ Aside0 (Kd.R k38 38 wc w.heap.size (fun k_ => some k_ ≠ ((.slice Ao12 t443.length co12) : Value).ownBlock) (.slice Ao20 t455.length co20) t455) ∧ Aside0 (wc.heap[gb448]? = some (.cells #[(.slice Ao12 t443.length co12), .string t446, .int .i64 t447] 35 (0, 0))) ∧ Aside0 (wc.heap[gb460]? = some (.cells #[(.slice Ao20 t455.length co20), .string t458, .int .i64 t459] 35 (0, 0))) ∧ Aside0 (Below w.heap.size w wc))
     case first =>
      have H := HC30.out
      clear HC30
      by_cases c31 : x48_6 = true
      ·subst c31
       have H1 : (some false) = some r := by rw [if_pos rfl] at H; exact H
       clear H
       have H := H1
       clear H1
       obtain rfl := Option.some.inj H
       go_wp2
       repeat (go_quiet (fail); try go_wp2)
       go_ret
       exact ⟨by first | rfl | (simp [errW_none, errW_some] <;> rfl) | (simp [*, errW_none, errW_some] <;> rfl), by repeat (first | (with_reducible first | exact HB.out | apply below_alloc | apply pw_below_drewN | apply below_drew1 | refine below_set ?_ GE448.out | refine below_set ?_ GE460.out) | exact HB.out)⟩
      ·replace c31 := Bool.eq_false_iff.mpr c31
       subst c31
       have H1 : (laws_FnKeys.j1 kj6 t437 t438 t439 t440 t443 t446 t447 t455 t458 t459) = some r := by rw [if_neg (show ¬ (false = true) by decide)] at H; exact H
       clear H
       have H := H1
       clear H1
       have H' := Aside0.mk H
       clear H
       go_wp2
       repeat (go_quiet (fail); try go_wp2)
       go_meet
       case rel => exact ⟨_, H', ⟨by have := HJ6.out; first | omega | exact Nat.le_refl _⟩, ⟨kr HO_3.out⟩, ⟨kr HO_449000.out⟩, ⟨kr HO_461000.out⟩, ⟨pk BK448.out⟩, ⟨pk BK460.out⟩, ⟨by repeat (first | (with_reducible first | exact HB.out | apply below_alloc | apply pw_below_drewN | apply below_drew1 | refine below_set ?_ GE448.out | refine below_set ?_ GE460.out) | exact HB.out)⟩⟩
     case rest =>
      clear HC30
      try clear c2
      try clear c2b0
      try clear c2b1
      try clear p2
      try clear c3
      try clear c4
      try clear c5
      try clear c21
      try clear c23
      try clear c23b0
      try clear c23b1
      try clear c24
      try clear c27
      try clear c31
      try clear hcz13_0
      try clear hcz13_1
      try clear hcz13_2
      try clear hcz22_0
      try clear hcz22_1
      try clear hcz22_2
      try clear hcz25_0
      try clear hcz25_1
      try clear hcz25_2
      try clear hcz26_0
      try clear hcz26_1
      try clear hcz26_2
      try clear hcz28_0
      try clear hcz28_1
      try clear hcz28_2
      try clear hcz29_0
      try clear hcz29_1
      try clear hcz29_2
      try clear hfz13_0
      try clear hfz13_1
      try clear hfz13_2
      try clear hfz22_0
      try clear hfz22_1
      try clear hfz22_2
      try clear hfz25_0
      try clear hfz25_1
      try clear hfz25_2
      try clear hfz26_0
      try clear hfz26_1
      try clear hfz26_2
      try clear hfz28_0
      try clear hfz28_1
      try clear hfz28_2
      try clear hfz29_0
      try clear hfz29_1
      try clear hfz29_2
      try clear p2
      obtain ⟨kq, HA, HJ29, HO_3, HO_449000, HO_461000, BK448, BK460, HB⟩ := hcut
      cases kq with
      | zero => exact absurd HA.out (by simp [laws_FnKeys.j1])
      | succ kj29 =>
       have H := HA.out
       clear HA
       simp only [laws_FnKeys.j1] at H
       by_cases c32 : t447 = 0
       ·rw [if_pos c32] at H
        have c32b0 : (t447 == 0) = true := beq_iff_eq.mpr c32
        have c32b1 : (t447 != 0) = false := bne_eq_false_iff_eq.mpr c32
        clear c32
        have H' := Aside0.mk H
        clear H
        have hnb33 := NB448_460.out
        have hnc33 := NB460_448.out
        have hcz34_0 : wc.cell? ⟨gb448, 0, none⟩ = some (.slice Ao12 t443.length co12) := bc BK448.out 0
        have hcz34_1 : wc.cell? ⟨gb448, 1, none⟩ = some (.string t446) := bc BK448.out 1
        have hcz34_2 : wc.cell? ⟨gb448, 2, none⟩ = some (.int .i64 t447) := bc BK448.out 2
        have hfz34_0 := blk_frozen BK448.out 0
        have hfz34_1 := blk_frozen BK448.out 1
        have hfz34_2 := blk_frozen BK448.out 2
        go_wp2
        repeat (go_quiet (fail); try go_wp2)
        go_loopg [9, 10] kj29 (fun kq v9 v10 w' => ∃ (x9_3 : ByteArray) (x10_3 : Int), v9 = .string x9_3 ∧ v10 = .int .i64 x10_3 ∧ Aside0 (laws_FnKeys.l0 kq t437 t438 t439 t440 x9_3 x10_3 t455 t458 t459 = some r) ∧ Aside0 (kq ≤ kj29) ∧ Aside0 (Kd.R k40 40 w' w.heap.size (fun _ => True) (.slice Ao9 t437.length co9) t437) ∧ Aside0 (Kd.R k38 38 w' w.heap.size (fun k_ => some k_ ≠ ((.slice Ao20 t455.length co20) : Value).ownBlock) (.slice Ao12 t443.length co12) t443) ∧ Aside0 (Kd.R k38 38 w' w.heap.size (fun k_ => some k_ ≠ ((.slice Ao12 t443.length co12) : Value).ownBlock) (.slice Ao20 t455.length co20) t455) ∧ Aside0 (w'.heap[gb448]? = some (.cells #[(.slice Ao12 t443.length co12), .string t446, .int .i64 t447] 35 (0, 0))) ∧ Aside0 (w'.heap[gb460]? = some (.cells #[(.slice Ao20 t455.length co20), .string t458, .int .i64 t459] 35 (0, 0))) ∧ Aside0 (Below w.heap.size w w'))
        case atStart => exact ⟨((⟨#[]⟩ : ByteArray)), (0), (by first | rfl | (simp; done) | (simp [*]; done)), (by first | rfl | (simp; done) | (simp [*]; done)), H', ⟨Nat.le_refl _⟩, ⟨kr HO_3.out⟩, ⟨kr HO_449000.out⟩, ⟨kr HO_461000.out⟩, ⟨pk BK448.out⟩, ⟨pk BK460.out⟩, ⟨by repeat (first | (with_reducible first | exact HB.out | apply below_alloc | apply pw_below_drewN | apply below_drew1 | refine below_set ?_ GE448.out | refine below_set ?_ GE460.out) | exact HB.out)⟩⟩
        case round =>
         clear H'
         try clear c2
         try clear c2b0
         try clear c2b1
         try clear p2
         try clear c3
         try clear c4
         try clear c5
         try clear c21
         try clear c23
         try clear c23b0
         try clear c23b1
         try clear c24
         try clear c27
         try clear c31
         try clear c32
         try clear c32b0
         try clear c32b1
         try clear c33
         try clear hcz13_0
         try clear hcz13_1
         try clear hcz13_2
         try clear hcz22_0
         try clear hcz22_1
         try clear hcz22_2
         try clear hcz25_0
         try clear hcz25_1
         try clear hcz25_2
         try clear hcz26_0
         try clear hcz26_1
         try clear hcz26_2
         try clear hcz28_0
         try clear hcz28_1
         try clear hcz28_2
         try clear hcz29_0
         try clear hcz29_1
         try clear hcz29_2
         try clear hcz34_0
         try clear hcz34_1
         try clear hcz34_2
         try clear hfz13_0
         try clear hfz13_1
         try clear hfz13_2
         try clear hfz22_0
         try clear hfz22_1
         try clear hfz22_2
         try clear hfz25_0
         try clear hfz25_1
         try clear hfz25_2
         try clear hfz26_0
         try clear hfz26_1
         try clear hfz26_2
         try clear hfz28_0
         try clear hfz28_1
         try clear hfz28_2
         try clear hfz29_0
         try clear hfz29_1
         try clear hfz29_2
         try clear hfz34_0
         try clear hfz34_1
         try clear hfz34_2
         try clear p2
         obtain ⟨x9_3, x10_3, rfl, rfl, HA, HK3, HO_3, HO_449000, HO_461000, BK448, BK460, HB⟩ := hrel
         cases gk with
         | zero => exact absurd HA.out (by simp [laws_FnKeys.l0])
         | succ k3 =>
          have H := HA.out
          clear HA
          simp only [laws_FnKeys.l0] at H
          have HC35 := Aside0.mk H
          clear H
          have hnb36 := NB460_448.out
          have hnc36 := NB448_460.out
          have hcz37_0 : wr.cell? ⟨gb460, 0, none⟩ = some (.slice Ao20 t455.length co20) := bc BK460.out 0
          have hcz37_1 : wr.cell? ⟨gb460, 1, none⟩ = some (.string t458) := bc BK460.out 1
          have hcz37_2 : wr.cell? ⟨gb460, 2, none⟩ = some (.int .i64 t459) := bc BK460.out 2
          have hfz37_0 := blk_frozen BK460.out 0
          have hfz37_1 := blk_frozen BK460.out 1
          have hfz37_2 := blk_frozen BK460.out 2
          go_upto_if 56 with (fail)
          repeat (go_quiet (fail); go_upto_if 56 with (fail))
          go_cut [] (fun wc => ∃ (kq : Nat), Aside0 (laws_FnKeys.j3 kq t437 t438 t439 t440 x9_3 x10_3 t455 t458 t459 = some r) ∧ Aside0 (kq ≤ k3) ∧ Aside0 (Kd.R k40 40 wc w.heap.size (fun _ => True) (.slice Ao9 t437.length co9) t437) ∧ Aside0 (Kd.R k38 38 wc w.heap.size (fun k_ => some k_ ≠ ((.slice Ao20 t455.length co20) : Value).ownBlock) (.slice Ao12 t443.length co12) t443) ∧ Aside0 (Kd.R k38 38 wc w.heap.size (fun k_ => some k_ ≠ ((.slice Ao12 t443.length co12) : Value).ownBlock) (.slice Ao20 t455.length co20) t455) ∧ Aside0 (wc.heap[gb448]? = some (.cells #[(.slice Ao12 t443.length co12), .string t446, .int .i64 t447] 35 (0, 0))) ∧ Aside0 (wc.heap[gb460]? = some (.cells #[(.slice Ao20 t455.length co20), .string t458, .int .i64 t459] 35 (0, 0))) ∧ Aside0 (Below w.heap.size w wc))
          case first =>
           have H := HC35.out
           clear HC35
           by_cases c38 : x10_3 < (t455.length : Int)
           ·rw [if_pos c38] at H
            have c38b0 : decide (x10_3 < (t455.length : Int)) = true := decide_eq_true c38
            clear c38
            (first | rw [c38b0] | (simp only [i64_w, i32_w]; rw [c38b0]) | (have e9_ := c38b0; unfold bne at e9_; rw [e9_]) | skip)
            have H' := Aside0.mk H
            clear H
            go_wp2
            repeat (go_quiet (fail); try go_wp2)
            go_meet
            case rel => exact ⟨_, H', ⟨by have := HJ6.out; have := HJ29.out; have := HK3.out; first | omega | exact Nat.le_refl _⟩, ⟨kr HO_3.out⟩, ⟨kr HO_449000.out⟩, ⟨kr HO_461000.out⟩, ⟨pk BK448.out⟩, ⟨pk BK460.out⟩, ⟨by repeat (first | (with_reducible first | exact HB.out | apply below_alloc | apply pw_below_drewN | apply below_drew1 | refine below_set ?_ GE448.out | refine below_set ?_ GE460.out) | exact HB.out)⟩⟩
           ·rw [if_neg c38] at H
            have c38b0 : decide (x10_3 < (t455.length : Int)) = false := decide_eq_false c38
            clear c38
            (first | rw [c38b0] | (simp only [i64_w, i32_w]; rw [c38b0]) | (have e9_ := c38b0; unfold bne at e9_; rw [e9_]) | skip)
            by_cases c39 : x9_3.size + t458.size ≤ 9223372036854775807
            ·rw [if_pos c39] at H
             have c39b0 := eq_true c39
             have c39b1 : decide (x9_3.size + t458.size ≤ 9223372036854775807) = true := decide_eq_true c39
             try have c39b2 : (9223372036854775807 < x9_3.size + t458.size) = False := eq_false (Nat.not_lt.2 c39)
             by_cases c40 : (x9_3 ++ t458).toList = t439.toList
             ·rw [if_pos c40] at H
              have c40b0 : ((x9_3 ++ t458).toList == t439.toList) = true := beq_iff_eq.mpr c40
              have c40b1 : ((x9_3 ++ t458).toList != t439.toList) = false := bne_eq_false_iff_eq.mpr c40
              clear c40
              by_cases c41 : t440 = true
              ·subst c41
               have H1 : (if t458.toList = ([] : List UInt8) then (some (decide ((t458.size : Int) < 6))) else (some false)) = some r := by rw [if_pos rfl] at H; exact H
               clear H
               have H := H1
               clear H1
               by_cases c42 : t458.toList = ([] : List UInt8)
               ·rw [if_pos c42] at H
                have c42b0 : (t458.toList == ([] : List UInt8)) = true := beq_iff_eq.mpr c42
                have c42b1 : (t458.toList != ([] : List UInt8)) = false := bne_eq_false_iff_eq.mpr c42
                clear c42
                obtain rfl := Option.some.inj H
                have hnb43 := NB460_448.out
                have hnc43 := NB448_460.out
                have hcz44_0 : wr.cell? ⟨gb460, 0, none⟩ = some (.slice Ao20 t455.length co20) := bc BK460.out 0
                have hcz44_1 : wr.cell? ⟨gb460, 1, none⟩ = some (.string t458) := bc BK460.out 1
                have hcz44_2 : wr.cell? ⟨gb460, 2, none⟩ = some (.int .i64 t459) := bc BK460.out 2
                have hfz44_0 := blk_frozen BK460.out 0
                have hfz44_1 := blk_frozen BK460.out 1
                have hfz44_2 := blk_frozen BK460.out 2
                go_wp2
                repeat (go_quiet (fail); try go_wp2)
                go_ret
                exact ⟨by first | rfl | (simp [errW_none, errW_some] <;> rfl) | (simp [*, errW_none, errW_some] <;> rfl), by repeat (first | (with_reducible first | exact HB.out | apply below_alloc | apply pw_below_drewN | apply below_drew1 | refine below_set ?_ GE448.out | refine below_set ?_ GE460.out) | exact HB.out)⟩
               ·rw [if_neg c42] at H
                have c42b0 : (t458.toList == ([] : List UInt8)) = false := beq_eq_false_iff_ne.mpr c42
                have c42b1 : (t458.toList != ([] : List UInt8)) = true := bne_iff_ne.mpr c42
                obtain rfl := Option.some.inj H
                have hnb45 := NB460_448.out
                have hnc45 := NB448_460.out
                have hcz46_0 : wr.cell? ⟨gb460, 0, none⟩ = some (.slice Ao20 t455.length co20) := bc BK460.out 0
                have hcz46_1 : wr.cell? ⟨gb460, 1, none⟩ = some (.string t458) := bc BK460.out 1
                have hcz46_2 : wr.cell? ⟨gb460, 2, none⟩ = some (.int .i64 t459) := bc BK460.out 2
                have hfz46_0 := blk_frozen BK460.out 0
                have hfz46_1 := blk_frozen BK460.out 1
                have hfz46_2 := blk_frozen BK460.out 2
                go_wp2
                repeat (go_quiet (fail); try go_wp2)
                go_ret
                exact ⟨by first | rfl | (simp [errW_none, errW_some] <;> rfl) | (simp [*, errW_none, errW_some] <;> rfl), by repeat (first | (with_reducible first | exact HB.out | apply below_alloc | apply pw_below_drewN | apply below_drew1 | refine below_set ?_ GE448.out | refine below_set ?_ GE460.out) | exact HB.out)⟩
              ·replace c41 := Bool.eq_false_iff.mpr c41
               subst c41
               have H1 : (some (decide ((t458.size : Int) < 6))) = some r := by rw [if_neg (show ¬ (false = true) by decide)] at H; exact H
               clear H
               have H := H1
               clear H1
               obtain rfl := Option.some.inj H
               have hnb47 := NB460_448.out
               have hnc47 := NB448_460.out
               have hcz48_0 : wr.cell? ⟨gb460, 0, none⟩ = some (.slice Ao20 t455.length co20) := bc BK460.out 0
               have hcz48_1 : wr.cell? ⟨gb460, 1, none⟩ = some (.string t458) := bc BK460.out 1
               have hcz48_2 : wr.cell? ⟨gb460, 2, none⟩ = some (.int .i64 t459) := bc BK460.out 2
               have hfz48_0 := blk_frozen BK460.out 0
               have hfz48_1 := blk_frozen BK460.out 1
               have hfz48_2 := blk_frozen BK460.out 2
               go_wp2
               repeat (go_quiet (fail); try go_wp2)
               go_ret
               exact ⟨by first | rfl | (simp [errW_none, errW_some] <;> rfl) | (simp [*, errW_none, errW_some] <;> rfl), by repeat (first | (with_reducible first | exact HB.out | apply below_alloc | apply pw_below_drewN | apply below_drew1 | refine below_set ?_ GE448.out | refine below_set ?_ GE460.out) | exact HB.out)⟩
             ·rw [if_neg c40] at H
              have c40b0 : ((x9_3 ++ t458).toList == t439.toList) = false := beq_eq_false_iff_ne.mpr c40
              have c40b1 : ((x9_3 ++ t458).toList != t439.toList) = true := bne_iff_ne.mpr c40
              obtain rfl := Option.some.inj H
              have hnb49 := NB460_448.out
              have hnc49 := NB448_460.out
              have hcz50_0 : wr.cell? ⟨gb460, 0, none⟩ = some (.slice Ao20 t455.length co20) := bc BK460.out 0
              have hcz50_1 : wr.cell? ⟨gb460, 1, none⟩ = some (.string t458) := bc BK460.out 1
              have hcz50_2 : wr.cell? ⟨gb460, 2, none⟩ = some (.int .i64 t459) := bc BK460.out 2
              have hfz50_0 := blk_frozen BK460.out 0
              have hfz50_1 := blk_frozen BK460.out 1
              have hfz50_2 := blk_frozen BK460.out 2
              go_wp2
              repeat (go_quiet (fail); try go_wp2)
              go_ret
              exact ⟨by first | rfl | (simp [errW_none, errW_some] <;> rfl) | (simp [*, errW_none, errW_some] <;> rfl), by repeat (first | (with_reducible first | exact HB.out | apply below_alloc | apply pw_below_drewN | apply below_drew1 | refine below_set ?_ GE448.out | refine below_set ?_ GE460.out) | exact HB.out)⟩
            ·rw [if_neg c39] at H
             exact absurd H (by simp)
          case rest =>
           clear HC35
           try clear c2
           try clear c2b0
           try clear c2b1
           try clear p2
           try clear c3
           try clear c4
           try clear c5
           try clear c21
           try clear c23
           try clear c23b0
           try clear c23b1
           try clear c24
           try clear c27
           try clear c31
           try clear c32
           try clear c32b0
           try clear c32b1
           try clear c33
           try clear c36
           try clear c38
           try clear c38b0
           try clear c39
           try clear c39b0
           try clear c39b1
           try clear c39b2
           try clear c40
           try clear c40b0
           try clear c40b1
           try clear c41
           try clear c42
           try clear c42b0
           try clear c42b1
           try clear c43
           try clear c45
           try clear c47
           try clear c49
           try clear hcz13_0
           try clear hcz13_1
           try clear hcz13_2
           try clear hcz22_0
           try clear hcz22_1
           try clear hcz22_2
           try clear hcz25_0
           try clear hcz25_1
           try clear hcz25_2
           try clear hcz26_0
           try clear hcz26_1
           try clear hcz26_2
           try clear hcz28_0
           try clear hcz28_1
           try clear hcz28_2
           try clear hcz29_0
           try clear hcz29_1
           try clear hcz29_2
           try clear hcz34_0
           try clear hcz34_1
           try clear hcz34_2
           try clear hcz37_0
           try clear hcz37_1
           try clear hcz37_2
           try clear hcz44_0
           try clear hcz44_1
           try clear hcz44_2
           try clear hcz46_0
           try clear hcz46_1
           try clear hcz46_2
           try clear hcz48_0
           try clear hcz48_1
           try clear hcz48_2
           try clear hcz50_0
           try clear hcz50_1
           try clear hcz50_2
           try clear hfz13_0
           try clear hfz13_1
           try clear hfz13_2
           try clear hfz22_0
           try clear hfz22_1
           try clear hfz22_2
           try clear hfz25_0
           try clear hfz25_1
           try clear hfz25_2
           try clear hfz26_0
           try clear hfz26_1
           try clear hfz26_2
           try clear hfz28_0
           try clear hfz28_1
           try clear hfz28_2
           try clear hfz29_0
           try clear hfz29_1
           try clear hfz29_2
           try clear hfz34_0
           try clear hfz34_1
           try clear hfz34_2
           try clear hfz37_0
           try clear hfz37_1
           try clear hfz37_2
           try clear hfz44_0
           try clear hfz44_1
           try clear hfz44_2
           try clear hfz46_0
           try clear hfz46_1
           try clear hfz46_2
           try clear hfz48_0
           try clear hfz48_1
           try clear hfz48_2
           try clear hfz50_0
           try clear hfz50_1
           try clear hfz50_2
           try clear p2
           obtain ⟨kq, HA, HJ34, HO_3, HO_449000, HO_461000, BK448, BK460, HB⟩ := hcut
           cases kq with
           | zero => exact absurd HA.out (by simp [laws_FnKeys.j3])
           | succ kj34 =>
            have H := HA.out
            clear HA
            simp only [laws_FnKeys.j3] at H
            by_cases c51 : 0 ≤ x10_3
            ·rw [if_pos c51] at H
             have c51b0 : decide (0 ≤ x10_3) = true := decide_eq_true c51
             clear c51
             by_cases c52 : x10_3 < (t455.length : Int)
             ·rw [if_pos c52] at H
              have c52b0 : decide (x10_3 < (t455.length : Int)) = true := decide_eq_true c52
              clear c52
              by_cases c53 : x9_3.size + ((rd_T38 t455 x10_3).f1).size ≤ 9223372036854775807
              ·rw [if_pos c53] at H
               have c53b0 := eq_true c53
               have c53b1 : decide (x9_3.size + ((rd_T38 t455 x10_3).f1).size ≤ 9223372036854775807) = true := decide_eq_true c53
               try have c53b2 : (9223372036854775807 < x9_3.size + ((rd_T38 t455 x10_3).f1).size) = False := eq_false (Nat.not_lt.2 c53)
               have HC54 := Aside0.mk H
               clear H
               have hnb55 := NB460_448.out
               have hnc55 := NB448_460.out
               have hcz56_0 : wc.cell? ⟨gb460, 0, none⟩ = some (.slice Ao20 t455.length co20) := bc BK460.out 0
               have hcz56_1 : wc.cell? ⟨gb460, 1, none⟩ = some (.string t458) := bc BK460.out 1
               have hcz56_2 : wc.cell? ⟨gb460, 2, none⟩ = some (.int .i64 t459) := bc BK460.out 2
               have hfz56_0 := blk_frozen BK460.out 0
               have hfz56_1 := blk_frozen BK460.out 1
               have hfz56_2 := blk_frozen BK460.out 2
               have p461 : 0 ≤ (x10_3 : Int) := of_decide_eq_true (by first | (with_reducible assumption) | assumption)
               have q461 : x10_3 < (t455.length : Int) := of_decide_eq_true (by first | (with_reducible assumption) | assumption)
               obtain ⟨ad461, e461, hx461_0, hx461_1⟩ := at_T38 (Kd.R_reads' HO_461000.out).2.2 x10_3 p461 q461
               cases e461
               replace p461 := eq_true p461
               replace q461 := eq_true q461
               go_upto_region 15 with (fail)
               repeat (go_quiet (fail); go_upto_region 15 with (fail))
               go_cut [11] (fun v11 wc => ∃ (kq : Nat) (x11_53 : Bool), v11 = .bool x11_53 ∧ Aside0 (laws_FnKeys.j4 kq t437 t438 t439 t440 (x9_3 ++ ((rd_T38 t455 x10_3).f1)) x10_3 x11_53 t455 t458 t459 = some r) ∧ Aside0 (kq ≤ kj34) ∧ Aside0 (Kd.R k40 40 wc w.heap.size (fun _ => True) (.slice Ao9 t437.length co9) t437) ∧ Aside0 (Kd.R k38 38 wc w.heap.size (fun k_ => some k_ ≠ ((.slice (some ad461) t455.length co20) : Value).ownBlock) (.slice Ao12 t443.length co12) t443) ∧ Aside0 (Kd.R k38 38 wc w.heap.size (fun k_ => some k_ ≠ ((.slice Ao12 t443.length co12) : Value).ownBlock) (.slice (some ad461) t455.length co20) t455) ∧ Aside0 (wc.heap[gb448]? = some (.cells #[(.slice Ao12 t443.length co12), .string t446, .int .i64 t447] 35 (0, 0))) ∧ Aside0 (wc.heap[gb460]? = some (.cells #[(.slice (some ad461) t455.length co20), .string t458, .int .i64 t459] 35 (0, 0))) ∧ Aside0 (Below w.heap.size w wc))
               case first =>
                have H := HC54.out
                clear HC54
                by_cases c57 : ((rd_T38 t455 x10_3).f0).toList = ([] : List UInt8)
                ·rw [if_pos c57] at H
                 have c57b0 : (((rd_T38 t455 x10_3).f0).toList == ([] : List UInt8)) = true := beq_iff_eq.mpr c57
                 have c57b1 : (((rd_T38 t455 x10_3).f0).toList != ([] : List UInt8)) = false := bne_eq_false_iff_eq.mpr c57
                 clear c57
                 (first | rw [c57b0] | (simp only [i64_w, i32_w]; rw [c57b0]) | (have e9_ := c57b0; unfold bne at e9_; rw [e9_]) | skip)
                 have H' := Aside0.mk H
                 clear H
                 have hnb58 := NB460_448.out
                 have hnc58 := NB448_460.out
                 have hcz59_0 : wc.cell? ⟨gb460, 0, none⟩ = some (.slice (some ad461) t455.length co20) := bc BK460.out 0
                 have hcz59_1 : wc.cell? ⟨gb460, 1, none⟩ = some (.string t458) := bc BK460.out 1
                 have hcz59_2 : wc.cell? ⟨gb460, 2, none⟩ = some (.int .i64 t459) := bc BK460.out 2
                 have hfz59_0 := blk_frozen BK460.out 0
                 have hfz59_1 := blk_frozen BK460.out 1
                 have hfz59_2 := blk_frozen BK460.out 2
                 have p462 : 0 ≤ (x10_3 : Int) := of_decide_eq_true (by first | (with_reducible assumption) | assumption)
                 have q462 : x10_3 < (t455.length : Int) := of_decide_eq_true (by first | (with_reducible assumption) | assumption)
                 obtain ⟨ad462, e462, hx462_0, hx462_1⟩ := at_T38 (Kd.R_reads' HO_461000.out).2.2 x10_3 p462 q462
                 obtain rfl : ad461 = ad462 := (by injection e462)
                 replace p462 := eq_true p462
                 replace q462 := eq_true q462
                 have p463 : 0 ≤ (x10_3 : Int) := of_decide_eq_true (by first | (with_reducible assumption) | assumption)
                 have q463 : x10_3 < (t455.length : Int) := of_decide_eq_true (by first | (with_reducible assumption) | assumption)
                 obtain ⟨ad463, e463, hx463_0, hx463_1⟩ := at_T38 (Kd.R_reads' HO_461000.out).2.2 x10_3 p463 q463
                 obtain rfl : ad461 = ad463 := (by injection e463)
                 replace p463 := eq_true p463
                 replace q463 := eq_true q463
                 go_wp2
                 repeat (go_quiet (fail); try go_wp2)
                 go_meet
                 case rel => exact ⟨_, (((((rd_T38 t455 x10_3).f1).size : Int) == 1)), (by first | rfl | (simp; done) | (simp [*]; done)), H', ⟨by have := HJ6.out; have := HJ29.out; have := HK3.out; have := HJ34.out; first | omega | exact Nat.le_refl _⟩, ⟨kr HO_3.out⟩, ⟨kr HO_449000.out⟩, ⟨kr HO_461000.out⟩, ⟨pk BK448.out⟩, ⟨pk BK460.out⟩, ⟨by repeat (first | (with_reducible first | exact HB.out | apply below_alloc | apply pw_below_drewN | apply below_drew1 | refine below_set ?_ GE448.out | refine below_set ?_ GE460.out) | exact HB.out)⟩⟩
                ·rw [if_neg c57] at H
                 have c57b0 : (((rd_T38 t455 x10_3).f0).toList == ([] : List UInt8)) = false := beq_eq_false_iff_ne.mpr c57
                 have c57b1 : (((rd_T38 t455 x10_3).f0).toList != ([] : List UInt8)) = true := bne_iff_ne.mpr c57
                 (first | rw [c57b0] | (simp only [i64_w, i32_w]; rw [c57b0]) | (have e9_ := c57b0; unfold bne at e9_; rw [e9_]) | skip)
                 have H' := Aside0.mk H
                 clear H
                 have hnb60 := NB460_448.out
                 have hnc60 := NB448_460.out
                 have hcz61_0 : wc.cell? ⟨gb460, 0, none⟩ = some (.slice (some ad461) t455.length co20) := bc BK460.out 0
                 have hcz61_1 : wc.cell? ⟨gb460, 1, none⟩ = some (.string t458) := bc BK460.out 1
                 have hcz61_2 : wc.cell? ⟨gb460, 2, none⟩ = some (.int .i64 t459) := bc BK460.out 2
                 have hfz61_0 := blk_frozen BK460.out 0
                 have hfz61_1 := blk_frozen BK460.out 1
                 have hfz61_2 := blk_frozen BK460.out 2
                 have p462 : 0 ≤ (x10_3 : Int) := of_decide_eq_true (by first | (with_reducible assumption) | assumption)
                 have q462 : x10_3 < (t455.length : Int) := of_decide_eq_true (by first | (with_reducible assumption) | assumption)
                 obtain ⟨ad462, e462, hx462_0, hx462_1⟩ := at_T38 (Kd.R_reads' HO_461000.out).2.2 x10_3 p462 q462
                 obtain rfl : ad461 = ad462 := (by injection e462)
                 replace p462 := eq_true p462
                 replace q462 := eq_true q462
                 go_wp2
                 repeat (go_quiet (fail); try go_wp2)
                 go_meet
                 case rel => exact ⟨_, (false), (by first | rfl | (simp; done) | (simp [*]; done)), H', ⟨by have := HJ6.out; have := HJ29.out; have := HK3.out; have := HJ34.out; first | omega | exact Nat.le_refl _⟩, ⟨kr HO_3.out⟩, ⟨kr HO_449000.out⟩, ⟨kr HO_461000.out⟩, ⟨pk BK448.out⟩, ⟨pk BK460.out⟩, ⟨by repeat (first | (with_reducible first | exact HB.out | apply below_alloc | apply pw_below_drewN | apply below_drew1 | refine below_set ?_ GE448.out | refine below_set ?_ GE460.out) | exact HB.out)⟩⟩
               case rest =>
                clear HC54
                try clear c2
                try clear c2b0
                try clear c2b1
                try clear p2
                try clear c3
                try clear c4
                try clear p4
                try clear q4
                try clear hx4
                try clear c5
                try clear c6
                try clear c21
                try clear c23
                try clear c23b0
                try clear c23b1
                try clear c24
                try clear c27
                try clear c31
                try clear c32
                try clear c32b0
                try clear c32b1
                try clear c33
                try clear c36
                try clear c38
                try clear c38b0
                try clear c39
                try clear c39b0
                try clear c39b1
                try clear c39b2
                try clear c40
                try clear c40b0
                try clear c40b1
                try clear c41
                try clear c42
                try clear c42b0
                try clear c42b1
                try clear c43
                try clear c45
                try clear p46
                try clear q46
                try clear hx46
                try clear c47
                try clear c49
                try clear c51
                try clear c51b0
                try clear c52
                try clear c52b0
                try clear c53
                try clear c53b0
                try clear c53b1
                try clear c53b2
                try clear c55
                try clear c57
                try clear c57b0
                try clear c57b1
                try clear c58
                try clear c60
                try clear hcz13_0
                try clear hcz13_1
                try clear hcz13_2
                try clear hcz22_0
                try clear hcz22_1
                try clear hcz22_2
                try clear hcz25_0
                try clear hcz25_1
                try clear hcz25_2
                try clear hcz26_0
                try clear hcz26_1
                try clear hcz26_2
                try clear hcz28_0
                try clear hcz28_1
                try clear hcz28_2
                try clear hcz29_0
                try clear hcz29_1
                try clear hcz29_2
                try clear hcz34_0
                try clear hcz34_1
                try clear hcz34_2
                try clear hcz37_0
                try clear hcz37_1
                try clear hcz37_2
                try clear hcz44_0
                try clear hcz44_1
                try clear hcz44_2
                try clear hcz46_0
                try clear hcz46_1
                try clear hcz46_2
                try clear hcz48_0
                try clear hcz48_1
                try clear hcz48_2
                try clear hcz50_0
                try clear hcz50_1
                try clear hcz50_2
                try clear hcz56_0
                try clear hcz56_1
                try clear hcz56_2
                try clear hcz59_0
                try clear hcz59_1
                try clear hcz59_2
                try clear hcz61_0
                try clear hcz61_1
                try clear hcz61_2
                try clear hfz13_0
                try clear hfz13_1
                try clear hfz13_2
                try clear hfz22_0
                try clear hfz22_1
                try clear hfz22_2
                try clear hfz25_0
                try clear hfz25_1
                try clear hfz25_2
                try clear hfz26_0
                try clear hfz26_1
                try clear hfz26_2
                try clear hfz28_0
                try clear hfz28_1
                try clear hfz28_2
                try clear hfz29_0
                try clear hfz29_1
                try clear hfz29_2
                try clear hfz34_0
                try clear hfz34_1
                try clear hfz34_2
                try clear hfz37_0
                try clear hfz37_1
                try clear hfz37_2
                try clear hfz44_0
                try clear hfz44_1
                try clear hfz44_2
                try clear hfz46_0
                try clear hfz46_1
                try clear hfz46_2
                try clear hfz48_0
                try clear hfz48_1
                try clear hfz48_2
                try clear hfz50_0
                try clear hfz50_1
                try clear hfz50_2
                try clear hfz56_0
                try clear hfz56_1
                try clear hfz56_2
                try clear hfz59_0
                try clear hfz59_1
                try clear hfz59_2
                try clear hfz61_0
                try clear hfz61_1
                try clear hfz61_2
                try clear hx461_0
                try clear hx461_1
                try clear hx462_0
                try clear hx462_1
                try clear hx463_0
                try clear hx463_1
                try clear p2
                try clear p461
                try clear p462
                try clear p463
                try clear q461
                try clear q462
                try clear q463
                obtain ⟨kq, x11_53, rfl, HA, HJ53, HO_3, HO_449000, HO_461000, BK448, BK460, HB⟩ := hcut
                cases kq with
                | zero => exact absurd HA.out (by simp [laws_FnKeys.j4])
                | succ kj53 =>
                 have H := HA.out
                 clear HA
                 simp only [laws_FnKeys.j4] at H
                 have H' := Aside0.mk H
                 clear H
                 go_wp2
                 repeat (go_quiet (fail); try go_wp2)
                 go_loopg [11, 12] kj53 (fun kq v11 v12 w' => ∃ (x11_6 : Bool) (x12_6 : Int), v11 = .bool x11_6 ∧ v12 = .int .i64 x12_6 ∧ Aside0 (laws_FnKeys.l1 kq t437 t438 t439 t440 (x9_3 ++ ((rd_T38 t455 x10_3).f1)) x10_3 x11_6 x12_6 t455 t458 t459 = some r) ∧ Aside0 (kq ≤ kj53) ∧ Aside0 (Kd.R k40 40 w' w.heap.size (fun _ => True) (.slice Ao9 t437.length co9) t437) ∧ Aside0 (Kd.R k38 38 w' w.heap.size (fun k_ => some k_ ≠ ((.slice (some ad461) t455.length co20) : Value).ownBlock) (.slice Ao12 t443.length co12) t443) ∧ Aside0 (Kd.R k38 38 w' w.heap.size (fun k_ => some k_ ≠ ((.slice Ao12 t443.length co12) : Value).ownBlock) (.slice (some ad461) t455.length co20) t455) ∧ Aside0 (w'.heap[gb448]? = some (.cells #[(.slice Ao12 t443.length co12), .string t446, .int .i64 t447] 35 (0, 0))) ∧ Aside0 (w'.heap[gb460]? = some (.cells #[(.slice (some ad461) t455.length co20), .string t458, .int .i64 t459] 35 (0, 0))) ∧ Aside0 (Below w.heap.size w w'))
                 case atStart => exact ⟨(x11_53), (0), (by first | rfl | (simp; done) | (simp [*]; done)), (by first | rfl | (simp; done) | (simp [*]; done)), H', ⟨Nat.le_refl _⟩, ⟨kr HO_3.out⟩, ⟨kr HO_449000.out⟩, ⟨kr HO_461000.out⟩, ⟨pk BK448.out⟩, ⟨pk BK460.out⟩, ⟨by repeat (first | (with_reducible first | exact HB.out | apply below_alloc | apply pw_below_drewN | apply below_drew1 | refine below_set ?_ GE448.out | refine below_set ?_ GE460.out) | exact HB.out)⟩⟩
                 case round =>
                  clear H'
                  try clear c2
                  try clear c2b0
                  try clear c2b1
                  try clear p2
                  try clear c3
                  try clear c4
                  try clear p4
                  try clear q4
                  try clear hx4
                  try clear c5
                  try clear c6
                  try clear c21
                  try clear c23
                  try clear c23b0
                  try clear c23b1
                  try clear c24
                  try clear c27
                  try clear c31
                  try clear c32
                  try clear c32b0
                  try clear c32b1
                  try clear c33
                  try clear c36
                  try clear c38
                  try clear c38b0
                  try clear c39
                  try clear c39b0
                  try clear c39b1
                  try clear c39b2
                  try clear c40
                  try clear c40b0
                  try clear c40b1
                  try clear c41
                  try clear c42
                  try clear c42b0
                  try clear c42b1
                  try clear c43
                  try clear c45
                  try clear p46
                  try clear q46
                  try clear hx46
                  try clear c47
                  try clear c49
                  try clear c51
                  try clear c51b0
                  try clear c52
                  try clear c52b0
                  try clear c53
                  try clear c53b0
                  try clear c53b1
                  try clear c53b2
                  try clear c55
                  try clear c57
                  try clear c57b0
                  try clear c57b1
                  try clear c58
                  try clear c60
                  try clear hcz13_0
                  try clear hcz13_1
                  try clear hcz13_2
                  try clear hcz22_0
                  try clear hcz22_1
                  try clear hcz22_2
                  try clear hcz25_0
                  try clear hcz25_1
                  try clear hcz25_2
                  try clear hcz26_0
                  try clear hcz26_1
                  try clear hcz26_2
                  try clear hcz28_0
                  try clear hcz28_1
                  try clear hcz28_2
                  try clear hcz29_0
                  try clear hcz29_1
                  try clear hcz29_2
                  try clear hcz34_0
                  try clear hcz34_1
                  try clear hcz34_2
                  try clear hcz37_0
                  try clear hcz37_1
                  try clear hcz37_2
                  try clear hcz44_0
                  try clear hcz44_1
                  try clear hcz44_2
                  try clear hcz46_0
                  try clear hcz46_1
                  try clear hcz46_2
                  try clear hcz48_0
                  try clear hcz48_1
                  try clear hcz48_2
                  try clear hcz50_0
                  try clear hcz50_1
                  try clear hcz50_2
                  try clear hcz56_0
                  try clear hcz56_1
                  try clear hcz56_2
                  try clear hcz59_0
                  try clear hcz59_1
                  try clear hcz59_2
                  try clear hcz61_0
                  try clear hcz61_1
                  try clear hcz61_2
                  try clear hfz13_0
                  try clear hfz13_1
                  try clear hfz13_2
                  try clear hfz22_0
                  try clear hfz22_1
                  try clear hfz22_2
                  try clear hfz25_0
                  try clear hfz25_1
                  try clear hfz25_2
                  try clear hfz26_0
                  try clear hfz26_1
                  try clear hfz26_2
                  try clear hfz28_0
                  try clear hfz28_1
                  try clear hfz28_2
                  try clear hfz29_0
                  try clear hfz29_1
                  try clear hfz29_2
                  try clear hfz34_0
                  try clear hfz34_1
                  try clear hfz34_2
                  try clear hfz37_0
                  try clear hfz37_1
                  try clear hfz37_2
                  try clear hfz44_0
                  try clear hfz44_1
                  try clear hfz44_2
                  try clear hfz46_0
                  try clear hfz46_1
                  try clear hfz46_2
                  try clear hfz48_0
                  try clear hfz48_1
                  try clear hfz48_2
                  try clear hfz50_0
                  try clear hfz50_1
                  try clear hfz50_2
                  try clear hfz56_0
                  try clear hfz56_1
                  try clear hfz56_2
                  try clear hfz59_0
                  try clear hfz59_1
                  try clear hfz59_2
                  try clear hfz61_0
                  try clear hfz61_1
                  try clear hfz61_2
                  try clear hx461_0
                  try clear hx461_1
                  try clear hx462_0
                  try clear hx462_1
                  try clear hx463_0
                  try clear hx463_1
                  try clear p2
                  try clear p4
                  try clear p46
                  try clear p461
                  try clear p462
                  try clear p463
                  try clear q4
                  try clear q46
                  try clear q461
                  try clear q462
                  try clear q463
                  obtain ⟨x11_6, x12_6, rfl, rfl, HA, HK6, HO_3, HO_449000, HO_461000, BK448, BK460, HB⟩ := hrel
                  cases gk with
                  | zero => exact absurd HA.out (by simp [laws_FnKeys.l1])
                  | succ k6 =>
                   have H := HA.out
                   clear HA
                   simp only [laws_FnKeys.l1] at H
                   by_cases c62 : x12_6 < (t437.length : Int)
                   ·rw [if_pos c62] at H
                    have c62b0 : decide (x12_6 < (t437.length : Int)) = true := decide_eq_true c62
                    clear c62
                    by_cases c63 : x11_6 = true
                    ·subst c63
                     have H1 : (laws_FnKeys.l1 k6 t437 t438 t439 t440 (x9_3 ++ ((rd_T38 t455 x10_3).f1)) x10_3 true (wrap64 (x12_6 + 1)) t455 t458 t459) = some r := by rw [if_pos rfl] at H; exact H
                     clear H
                     have H := H1
                     clear H1
                     have H' := Aside0.mk H
                     clear H
                     go_wp2
                     repeat (go_quiet (fail); try go_wp2)
                     go_roundg k6
                     case measure => have := HJ6.out; have := HJ29.out; have := HK3.out; have := HJ34.out; have := HJ53.out; have := HK6.out; omega
                     case rel => exact ⟨(true), (wrap64 (x12_6 + 1)), (by first | rfl | (simp; done) | (simp [*]; done)), (by first | rfl | (simp; done) | (simp [*]; done)), H', ⟨by have := HJ6.out; have := HJ29.out; have := HK3.out; have := HJ34.out; have := HJ53.out; have := HK6.out; omega⟩, ⟨kr HO_3.out⟩, ⟨kr HO_449000.out⟩, ⟨kr HO_461000.out⟩, ⟨pk BK448.out⟩, ⟨pk BK460.out⟩, ⟨by repeat (first | (with_reducible first | exact HB.out | apply below_alloc | apply pw_below_drewN | apply below_drew1 | refine below_set ?_ GE448.out | refine below_set ?_ GE460.out) | exact HB.out)⟩⟩
                    ·replace c63 := Bool.eq_false_iff.mpr c63
                     subst c63
                     have H1 : (if 0 ≤ x12_6 then (if ((rd_T40 t437 x12_6).f0) = t438 then (if 0 ≤ x10_3 then (if x10_3 < (t455.length : Int) then (if ((rd_T40 t437 x12_6).f1).toList = ((rd_T38 t455 x10_3).f1).toList then (laws_FnKeys.l1 k6 t437 t438 t439 t440 (x9_3 ++ ((rd_T38 t455 x10_3).f1)) x10_3 (((rd_T40 t437 x12_6).f2).toList == ((rd_T38 t455 x10_3).f0).toList) (wrap64 (x12_6 + 1)) t455 t458 t459) else (laws_FnKeys.l1 k6 t437 t438 t439 t440 (x9_3 ++ ((rd_T38 t455 x10_3).f1)) x10_3 false (wrap64 (x12_6 + 1)) t455 t458 t459)) else (none)) else (none)) else (laws_FnKeys.l1 k6 t437 t438 t439 t440 (x9_3 ++ ((rd_T38 t455 x10_3).f1)) x10_3 false (wrap64 (x12_6 + 1)) t455 t458 t459)) else (none)) = some r := by rw [if_neg (show ¬ (false = true) by decide)] at H; exact H
                     clear H
                     have H := H1
                     clear H1
                     by_cases c64 : 0 ≤ x12_6
                     ·rw [if_pos c64] at H
                      have c64b0 : decide (0 ≤ x12_6) = true := decide_eq_true c64
                      clear c64
                      by_cases c65 : ((rd_T40 t437 x12_6).f0) = t438
                      ·rw [if_pos c65] at H
                       have c65b0 : (((rd_T40 t437 x12_6).f0) == t438) = true := beq_iff_eq.mpr c65
                       have c65b1 : (((rd_T40 t437 x12_6).f0) != t438) = false := bne_eq_false_iff_eq.mpr c65
                       clear c65
                       by_cases c66 : 0 ≤ x10_3
                       ·rw [if_pos c66] at H
                        have c66b0 : decide (0 ≤ x10_3) = true := decide_eq_true c66
                        clear c66
                        by_cases c67 : x10_3 < (t455.length : Int)
                        ·rw [if_pos c67] at H
                         have c67b0 : decide (x10_3 < (t455.length : Int)) = true := decide_eq_true c67
                         clear c67
                         by_cases c68 : ((rd_T40 t437 x12_6).f1).toList = ((rd_T38 t455 x10_3).f1).toList
                         ·rw [if_pos c68] at H
                          have c68b0 : (((rd_T40 t437 x12_6).f1).toList == ((rd_T38 t455 x10_3).f1).toList) = true := beq_iff_eq.mpr c68
                          have c68b1 : (((rd_T40 t437 x12_6).f1).toList != ((rd_T38 t455 x10_3).f1).toList) = false := bne_eq_false_iff_eq.mpr c68
                          clear c68
                          have H' := Aside0.mk H
                          clear H
                          have p464 : 0 ≤ (x12_6 : Int) := of_decide_eq_true (by first | (with_reducible assumption) | assumption)
                          have q464 : x12_6 < (t437.length : Int) := of_decide_eq_true (by first | (with_reducible assumption) | assumption)
                          obtain ⟨ad464, e464, hx464_0, hx464_1, hx464_2⟩ := at_T40 (Kd.R_reads' HO_3.out).2.2 x12_6 p464 q464
                          cases e464
                          replace p464 := eq_true p464
                          replace q464 := eq_true q464
                          have p465 : 0 ≤ (x12_6 : Int) := of_decide_eq_true (by first | (with_reducible assumption) | assumption)
                          have q465 : x12_6 < (t437.length : Int) := of_decide_eq_true (by first | (with_reducible assumption) | assumption)
                          obtain ⟨ad465, e465, hx465_0, hx465_1, hx465_2⟩ := at_T40 (Kd.R_reads' HO_3.out).2.2 x12_6 p465 q465
                          obtain rfl : ad464 = ad465 := (by injection e465)
                          replace p465 := eq_true p465
                          replace q465 := eq_true q465
                          have hnb69 := NB460_448.out
                          have hnc69 := NB448_460.out
                          have hcz70_0 : wr.cell? ⟨gb460, 0, none⟩ = some (.slice (some ad461) t455.length co20) := bc BK460.out 0
                          have hcz70_1 : wr.cell? ⟨gb460, 1, none⟩ = some (.string t458) := bc BK460.out 1
                          have hcz70_2 : wr.cell? ⟨gb460, 2, none⟩ = some (.int .i64 t459) := bc BK460.out 2
                          have hfz70_0 := blk_frozen BK460.out 0
                          have hfz70_1 := blk_frozen BK460.out 1
                          have hfz70_2 := blk_frozen BK460.out 2
                          have p466 : 0 ≤ (x10_3 : Int) := of_decide_eq_true (by first | (with_reducible assumption) | assumption)
                          have q466 : x10_3 < (t455.length : Int) := of_decide_eq_true (by first | (with_reducible assumption) | assumption)
                          obtain ⟨ad466, e466, hx466_0, hx466_1⟩ := at_T38 (Kd.R_reads' HO_461000.out).2.2 x10_3 p466 q466
                          obtain rfl : ad461 = ad466 := (by injection e466)
                          replace p466 := eq_true p466
                          replace q466 := eq_true q466
                          have p467 : 0 ≤ (x12_6 : Int) := of_decide_eq_true (by first | (with_reducible assumption) | assumption)
                          have q467 : x12_6 < (t437.length : Int) := of_decide_eq_true (by first | (with_reducible assumption) | assumption)
                          obtain ⟨ad467, e467, hx467_0, hx467_1, hx467_2⟩ := at_T40 (Kd.R_reads' HO_3.out).2.2 x12_6 p467 q467
                          obtain rfl : ad464 = ad467 := (by injection e467)
                          replace p467 := eq_true p467
                          replace q467 := eq_true q467
                          have p468 : 0 ≤ (x10_3 : Int) := of_decide_eq_true (by first | (with_reducible assumption) | assumption)
                          have q468 : x10_3 < (t455.length : Int) := of_decide_eq_true (by first | (with_reducible assumption) | assumption)
                          obtain ⟨ad468, e468, hx468_0, hx468_1⟩ := at_T38 (Kd.R_reads' HO_461000.out).2.2 x10_3 p468 q468
                          obtain rfl : ad461 = ad468 := (by injection e468)
                          replace p468 := eq_true p468
                          replace q468 := eq_true q468
                          go_wp2
                          repeat (go_quiet (fail); try go_wp2)
                          go_roundg k6
                          case measure => have := HJ6.out; have := HJ29.out; have := HK3.out; have := HJ34.out; have := HJ53.out; have := HK6.out; omega
                          case rel => exact ⟨((((rd_T40 t437 x12_6).f2).toList == ((rd_T38 t455 x10_3).f0).toList)), (wrap64 (x12_6 + 1)), (by first | rfl | (simp; done) | (simp [*]; done)), (by first | rfl | (simp; done) | (simp [*]; done)), H', ⟨by have := HJ6.out; have := HJ29.out; have := HK3.out; have := HJ34.out; have := HJ53.out; have := HK6.out; omega⟩, ⟨kr HO_3.out⟩, ⟨kr HO_449000.out⟩, ⟨kr HO_461000.out⟩, ⟨pk BK448.out⟩, ⟨pk BK460.out⟩, ⟨by repeat (first | (with_reducible first | exact HB.out | apply below_alloc | apply pw_below_drewN | apply below_drew1 | refine below_set ?_ GE448.out | refine below_set ?_ GE460.out) | exact HB.out)⟩⟩
                         ·rw [if_neg c68] at H
                          have c68b0 : (((rd_T40 t437 x12_6).f1).toList == ((rd_T38 t455 x10_3).f1).toList) = false := beq_eq_false_iff_ne.mpr c68
                          have c68b1 : (((rd_T40 t437 x12_6).f1).toList != ((rd_T38 t455 x10_3).f1).toList) = true := bne_iff_ne.mpr c68
                          have H' := Aside0.mk H
                          clear H
                          have p464 : 0 ≤ (x12_6 : Int) := of_decide_eq_true (by first | (with_reducible assumption) | assumption)
                          have q464 : x12_6 < (t437.length : Int) := of_decide_eq_true (by first | (with_reducible assumption) | assumption)
                          obtain ⟨ad464, e464, hx464_0, hx464_1, hx464_2⟩ := at_T40 (Kd.R_reads' HO_3.out).2.2 x12_6 p464 q464
                          cases e464
                          replace p464 := eq_true p464
                          replace q464 := eq_true q464
                          have p465 : 0 ≤ (x12_6 : Int) := of_decide_eq_true (by first | (with_reducible assumption) | assumption)
                          have q465 : x12_6 < (t437.length : Int) := of_decide_eq_true (by first | (with_reducible assumption) | assumption)
                          obtain ⟨ad465, e465, hx465_0, hx465_1, hx465_2⟩ := at_T40 (Kd.R_reads' HO_3.out).2.2 x12_6 p465 q465
                          obtain rfl : ad464 = ad465 := (by injection e465)
                          replace p465 := eq_true p465
                          replace q465 := eq_true q465
                          have hnb71 := NB460_448.out
                          have hnc71 := NB448_460.out
                          have hcz72_0 : wr.cell? ⟨gb460, 0, none⟩ = some (.slice (some ad461) t455.length co20) := bc BK460.out 0
                          have hcz72_1 : wr.cell? ⟨gb460, 1, none⟩ = some (.string t458) := bc BK460.out 1
                          have hcz72_2 : wr.cell? ⟨gb460, 2, none⟩ = some (.int .i64 t459) := bc BK460.out 2
                          have hfz72_0 := blk_frozen BK460.out 0
                          have hfz72_1 := blk_frozen BK460.out 1
                          have hfz72_2 := blk_frozen BK460.out 2
                          have p466 : 0 ≤ (x10_3 : Int) := of_decide_eq_true (by first | (with_reducible assumption) | assumption)
                          have q466 : x10_3 < (t455.length : Int) := of_decide_eq_true (by first | (with_reducible assumption) | assumption)
                          obtain ⟨ad466, e466, hx466_0, hx466_1⟩ := at_T38 (Kd.R_reads' HO_461000.out).2.2 x10_3 p466 q466
                          obtain rfl : ad461 = ad466 := (by injection e466)
                          replace p466 := eq_true p466
                          replace q466 := eq_true q466
                          go_wp2
                          repeat (go_quiet (fail); try go_wp2)
                          go_roundg k6
                          case measure => have := HJ6.out; have := HJ29.out; have := HK3.out; have := HJ34.out; have := HJ53.out; have := HK6.out; omega
                          case rel => exact ⟨(false), (wrap64 (x12_6 + 1)), (by first | rfl | (simp; done) | (simp [*]; done)), (by first | rfl | (simp; done) | (simp [*]; done)), H', ⟨by have := HJ6.out; have := HJ29.out; have := HK3.out; have := HJ34.out; have := HJ53.out; have := HK6.out; omega⟩, ⟨kr HO_3.out⟩, ⟨kr HO_449000.out⟩, ⟨kr HO_461000.out⟩, ⟨pk BK448.out⟩, ⟨pk BK460.out⟩, ⟨by repeat (first | (with_reducible first | exact HB.out | apply below_alloc | apply pw_below_drewN | apply below_drew1 | refine below_set ?_ GE448.out | refine below_set ?_ GE460.out) | exact HB.out)⟩⟩
                        ·rw [if_neg c67] at H
                         exact absurd H (by simp)
                       ·rw [if_neg c66] at H
                        exact absurd H (by simp)
                      ·rw [if_neg c65] at H
                       have c65b0 : (((rd_T40 t437 x12_6).f0) == t438) = false := beq_eq_false_iff_ne.mpr c65
                       have c65b1 : (((rd_T40 t437 x12_6).f0) != t438) = true := bne_iff_ne.mpr c65
                       have H' := Aside0.mk H
                       clear H
                       have p464 : 0 ≤ (x12_6 : Int) := of_decide_eq_true (by first | (with_reducible assumption) | assumption)
                       have q464 : x12_6 < (t437.length : Int) := of_decide_eq_true (by first | (with_reducible assumption) | assumption)
                       obtain ⟨ad464, e464, hx464_0, hx464_1, hx464_2⟩ := at_T40 (Kd.R_reads' HO_3.out).2.2 x12_6 p464 q464
                       cases e464
                       replace p464 := eq_true p464
                       replace q464 := eq_true q464
                       go_wp2
                       repeat (go_quiet (fail); try go_wp2)
                       go_roundg k6
                       case measure => have := HJ6.out; have := HJ29.out; have := HK3.out; have := HJ34.out; have := HJ53.out; have := HK6.out; omega
                       case rel => exact ⟨(false), (wrap64 (x12_6 + 1)), (by first | rfl | (simp; done) | (simp [*]; done)), (by first | rfl | (simp; done) | (simp [*]; done)), H', ⟨by have := HJ6.out; have := HJ29.out; have := HK3.out; have := HJ34.out; have := HJ53.out; have := HK6.out; omega⟩, ⟨kr HO_3.out⟩, ⟨kr HO_449000.out⟩, ⟨kr HO_461000.out⟩, ⟨pk BK448.out⟩, ⟨pk BK460.out⟩, ⟨by repeat (first | (with_reducible first | exact HB.out | apply below_alloc | apply pw_below_drewN | apply below_drew1 | refine below_set ?_ GE448.out | refine below_set ?_ GE460.out) | exact HB.out)⟩⟩
                     ·rw [if_neg c64] at H
                      exact absurd H (by simp)
                   ·rw [if_neg c62] at H
                    have c62b0 : decide (x12_6 < (t437.length : Int)) = false := decide_eq_false c62
                    clear c62
                    by_cases c73 : x11_6 = true
                    ·subst c73
                     have H1 : (laws_FnKeys.l0 k6 t437 t438 t439 t440 (x9_3 ++ ((rd_T38 t455 x10_3).f1)) (wrap64 (x10_3 + 1)) t455 t458 t459) = some r := by rw [if_pos rfl] at H; exact H
                     clear H
                     have H := H1
                     clear H1
                     have H' := Aside0.mk H
                     clear H
                     go_wp2
                     repeat (go_quiet (fail); try go_wp2)
                     go_roundg k6
                     case measure => have := HJ6.out; have := HJ29.out; have := HK3.out; have := HJ34.out; have := HJ53.out; have := HK6.out; omega
                     case rel => exact ⟨((x9_3 ++ ((rd_T38 t455 x10_3).f1))), (wrap64 (x10_3 + 1)), (by first | rfl | (simp; done) | (simp [*]; done)), (by first | rfl | (simp; done) | (simp [*]; done)), H', ⟨by have := HJ6.out; have := HJ29.out; have := HK3.out; have := HJ34.out; have := HJ53.out; have := HK6.out; omega⟩, ⟨kr HO_3.out⟩, ⟨kr HO_449000.out⟩, ⟨kr HO_461000.out⟩, ⟨pk BK448.out⟩, ⟨pk BK460.out⟩, ⟨by repeat (first | (with_reducible first | exact HB.out | apply below_alloc | apply pw_below_drewN | apply below_drew1 | refine below_set ?_ GE448.out | refine below_set ?_ GE460.out) | exact HB.out)⟩⟩
                    ·replace c73 := Bool.eq_false_iff.mpr c73
                     subst c73
                     have H1 : (some false) = some r := by rw [if_neg (show ¬ (false = true) by decide)] at H; exact H
                     clear H
                     have H := H1
                     clear H1
                     obtain rfl := Option.some.inj H
                     go_wp2
                     repeat (go_quiet (fail); try go_wp2)
                     go_ret
                     exact ⟨by first | rfl | (simp [errW_none, errW_some] <;> rfl) | (simp [*, errW_none, errW_some] <;> rfl), by repeat (first | (with_reducible first | exact HB.out | apply below_alloc | apply pw_below_drewN | apply below_drew1 | refine below_set ?_ GE448.out | refine below_set ?_ GE460.out) | exact HB.out)⟩
              ·rw [if_neg c53] at H
               exact absurd H (by simp)
             ·rw [if_neg c52] at H
              exact absurd H (by simp)
            ·rw [if_neg c51] at H
             exact absurd H (by simp)
       ·rw [if_neg c32] at H
        have c32b0 : (t447 == 0) = false := beq_eq_false_iff_ne.mpr c32
        have c32b1 : (t447 != 0) = true := bne_iff_ne.mpr c32
        obtain rfl := Option.some.inj H
        have hnb74 := NB448_460.out
        have hnc74 := NB460_448.out
        have hcz75_0 : wc.cell? ⟨gb448, 0, none⟩ = some (.slice Ao12 t443.length co12) := bc BK448.out 0
        have hcz75_1 : wc.cell? ⟨gb448, 1, none⟩ = some (.string t446) := bc BK448.out 1
        have hcz75_2 : wc.cell? ⟨gb448, 2, none⟩ = some (.int .i64 t447) := bc BK448.out 2
        have hfz75_0 := blk_frozen BK448.out 0
        have hfz75_1 := blk_frozen BK448.out 1
        have hfz75_2 := blk_frozen BK448.out 2
        go_wp2
        repeat (go_quiet (fail); try go_wp2)
        go_ret
        exact ⟨by first | rfl | (simp [errW_none, errW_some] <;> rfl) | (simp [*, errW_none, errW_some] <;> rfl), by repeat (first | (with_reducible first | exact HB.out | apply below_alloc | apply pw_below_drewN | apply below_drew1 | refine below_set ?_ GE448.out | refine below_set ?_ GE460.out) | exact HB.out)⟩
  ·rw [if_neg c5] at H
   exact absurd H (by simp)

/-- THE ONE PURE STATEMENT of laws_FnKeys. -/
def laws_FnKeys.Pure : Prop := ∀ (l0 : List Int), (l0.length ≤ maxLen ∧ ∀ y0_ ∈ l0, (Lit.int .u8 y0_).wf = true) → ∃ k, laws_FnKeys.f k l0 = some true

end Go.Proofs.Ytnhmoacjmieggaa.PFnKeys
