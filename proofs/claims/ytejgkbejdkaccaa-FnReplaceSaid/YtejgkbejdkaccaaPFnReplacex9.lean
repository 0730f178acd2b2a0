-- Written by xprint.py (this claim's own program, over the kit's printer); Lean checks it.
import Derived.Test.YtejgkbejdkaccaaPFnReplacex0
import Derived.Test.YtejgkbejdkaccaaPFnReplacex2
import Derived.Test.YtejgkbejdkaccaaPFnReplacex3
import Derived.Test.YtejgkbejdkaccaaPFnReplacex5
import Derived.Test.YtejgkbejdkaccaaPFnReplacex8
namespace Go.Proofs.Ytejgkbejdkaccaa.PFnReplace
open Go.RowKit Go.Proofs.YtejgkbejdkaccaaW.PrintWords Go.Proofs.YtejgkbejdkaccaaW.PrintLast Go.Proofs.YtejgkbejdkaccaaW.PrintMore
attribute [local go_sem] max2_int min2_int max_two min_two max_three min_three max_four min_four   -- for this text's walks alone
set_option linter.unusedVariables false
set_option linter.unusedSimpArgs false   -- squeezed

/-! ### laws_FnReplace: function 8 -/
@[reducible] def b8_0 : Array Bool := (br true [7, 1]).toArray
@[reducible] def b8_1 : Array Bool := (br true [5, 1, 1, 1]).toArray
@[reducible] def b8_2 : Array Bool := (br true [12, 1]).toArray
@[reducible] def b8_3 : Array Bool := (br true [10, 1, 1, 1]).toArray
mutual
def laws_FnReplace.j0 : Nat → Int → Int → List Int → List Int → Int → Int → List Int → Int → Int → List Int → Int → List Int → Int → Int → List Int → Int → Option (Bool)
 | 0, _, _, _, _, _, _, _, _, _, _, _, _, _, _, _, _ => none
 | k + 1, x4, x5, x6, x437000, x437001, x437002, x447000, x447001, x447002, x447003, x447004, x460000, x460001, x460002, x460003, x460004 => if x447004 = 0 then ((laws_lwCopy.f x460003).bind fun t460 => ((impl_BufReplace.f k x460000 x460001 x460002 x4 (wrap64 (x4 + (x6.length : Int))) t460).bind fun bt463 => ((impl_BufRight.f k x460000 x460001 x460002).bind fun t473 => (if t473 = true then (if (x460003.length : Int) = (wrap64 (x5 - x4)) then (if bt463.2.2.2.2 = 0 then ((laws_lwSame.f k bt463.1 x437000).bind fun t474 => (if t474 = true then ((laws_lwSame.f k bt463.2.2.2.1 x6).bind fun t475 => (laws_FnReplace.j1 k t475)) else (laws_FnReplace.j1 k false))) else (laws_FnReplace.j1 k false)) else (laws_FnReplace.j1 k false)) else (laws_FnReplace.j1 k false))))) else (some true)
def laws_FnReplace.j1 : Nat → Bool → Option (Bool)
 | 0, _ => none
 | k + 1, x2 => some x2
end
def laws_FnReplace.f (k : Nat) (l0 : List Int) : Option (Bool) := if (l0.length : Int) > 1048576 then (some true) else ((spec_DrawBufReplace.f k l0).bind fun bt426 => ((spec_BufReplace.f k bt426.1 bt426.2.1 bt426.2.2.1 bt426.2.2.2.1 bt426.2.2.2.2.1 bt426.2.2.2.2.2).bind fun bt437 => ((laws_lwCopy.f bt426.2.2.2.2.2).bind fun t447 => ((impl_BufReplace.f k bt426.1 bt426.2.1 bt426.2.2.1 bt426.2.2.2.1 bt426.2.2.2.2.1 t447).bind fun bt450 => (if bt450.2.2.2.2 = bt437.2.2.2.2 then (laws_FnReplace.j0 k bt426.2.2.2.1 bt426.2.2.2.2.1 bt426.2.2.2.2.2 bt426.1 bt426.2.1 bt426.2.2.1 bt437.1 bt437.2.1 bt437.2.2.1 bt437.2.2.2.1 bt437.2.2.2.2 bt450.1 bt450.2.1 bt450.2.2.1 bt450.2.2.2.1 bt450.2.2.2.2) else (some false))))))
theorem laws_FnReplace.mono_l : ∀ k, (∀ y0 y1 y2 y3 y4 y5 y6 y7 y8 y9 y10 y11 y12 y13 y14 y15, LeO (laws_FnReplace.j0 k y0 y1 y2 y3 y4 y5 y6 y7 y8 y9 y10 y11 y12 y13 y14 y15) (laws_FnReplace.j0 (k + 1) y0 y1 y2 y3 y4 y5 y6 y7 y8 y9 y10 y11 y12 y13 y14 y15)) ∧ (∀ y0, LeO (laws_FnReplace.j1 k y0) (laws_FnReplace.j1 (k + 1) y0))
 | 0 => ⟨fun _ _ _ _ _ _ _ _ _ _ _ _ _ _ _ _ r h => by simp [laws_FnReplace.j0] at h, fun _ r h => by simp [laws_FnReplace.j1] at h⟩
 | k + 1 => by
  obtain ⟨ih0, ih1⟩ := laws_FnReplace.mono_l k
  refine ⟨?_, ?_⟩
  ·intro y0 y1 y2 y3 y4 y5 y6 y7 y8 y9 y10 y11 y12 y13 y14 y15
   unfold laws_FnReplace.j0
   repeat' first
   | (with_reducible exact ih0 _ _ _ _ _ _ _ _ _ _ _ _ _ _ _ _)
   | (with_reducible exact ih1 _)
   | (with_reducible exact impl_BufReplace.mono _ _ _ _ _ _ _)
   | (with_reducible exact impl_BufRight.mono _ _ _ _)
   | (with_reducible exact laws_lwSame.mono _ _ _)
   | (with_reducible exact spec_BufReplace.mono _ _ _ _ _ _ _)
   | (with_reducible exact spec_DrawBufReplace.mono _ _)
   | (with_reducible exact LeO.refl _)
   | (with_reducible exact LeO.none _)
   | (with_reducible refine LeO.ite ?_ ?_)
   | (with_reducible refine LeO.bind ?_ (fun _ => ?_))
   | exact ih0 _ _ _ _ _ _ _ _ _ _ _ _ _ _ _ _
   | exact ih1 _
   | exact impl_BufReplace.mono _ _ _ _ _ _ _
   | exact impl_BufRight.mono _ _ _ _
   | exact laws_lwSame.mono _ _ _
   | exact spec_BufReplace.mono _ _ _ _ _ _ _
   | exact spec_DrawBufReplace.mono _ _
   | exact LeO.none _
   | refine LeO.ite ?_ ?_
   | refine LeO.bind ?_ (fun _ => ?_)
  ·intro y0
   unfold laws_FnReplace.j1
   repeat' first
   | (with_reducible exact ih0 _ _ _ _ _ _ _ _ _ _ _ _ _ _ _ _)
   | (with_reducible exact ih1 _)
   | (with_reducible exact impl_BufReplace.mono _ _ _ _ _ _ _)
   | (with_reducible exact impl_BufRight.mono _ _ _ _)
   | (with_reducible exact laws_lwSame.mono _ _ _)
   | (with_reducible exact spec_BufReplace.mono _ _ _ _ _ _ _)
   | (with_reducible exact spec_DrawBufReplace.mono _ _)
   | (with_reducible exact LeO.refl _)
   | (with_reducible exact LeO.none _)
   | (with_reducible refine LeO.ite ?_ ?_)
   | (with_reducible refine LeO.bind ?_ (fun _ => ?_))
   | exact ih0 _ _ _ _ _ _ _ _ _ _ _ _ _ _ _ _
   | exact ih1 _
   | exact impl_BufReplace.mono _ _ _ _ _ _ _
   | exact impl_BufRight.mono _ _ _ _
   | exact laws_lwSame.mono _ _ _
   | exact spec_BufReplace.mono _ _ _ _ _ _ _
   | exact spec_DrawBufReplace.mono _ _
   | exact LeO.none _
   | refine LeO.ite ?_ ?_
   | refine LeO.bind ?_ (fun _ => ?_)
theorem laws_FnReplace.mono : ∀ a0 k, LeO (laws_FnReplace.f k a0) (laws_FnReplace.f (k + 1) a0) := by
 intro a0 k
 obtain ⟨ih0, ih1⟩ := laws_FnReplace.mono_l k
 unfold laws_FnReplace.f
 repeat' first
   | (with_reducible exact ih0 _ _ _ _ _ _ _ _ _ _ _ _ _ _ _ _)
   | (with_reducible exact ih1 _)
   | (with_reducible exact impl_BufReplace.mono _ _ _ _ _ _ _)
   | (with_reducible exact impl_BufRight.mono _ _ _ _)
   | (with_reducible exact laws_lwSame.mono _ _ _)
   | (with_reducible exact spec_BufReplace.mono _ _ _ _ _ _ _)
   | (with_reducible exact spec_DrawBufReplace.mono _ _)
   | (with_reducible exact LeO.refl _)
   | (with_reducible exact LeO.none _)
   | (with_reducible refine LeO.ite ?_ ?_)
   | (with_reducible refine LeO.bind ?_ (fun _ => ?_))
   | exact ih0 _ _ _ _ _ _ _ _ _ _ _ _ _ _ _ _
   | exact ih1 _
   | exact impl_BufReplace.mono _ _ _ _ _ _ _
   | exact impl_BufRight.mono _ _ _ _
   | exact laws_lwSame.mono _ _ _
   | exact spec_BufReplace.mono _ _ _ _ _ _ _
   | exact spec_DrawBufReplace.mono _ _
   | exact LeO.none _
   | refine LeO.ite ?_ ?_
   | refine LeO.bind ?_ (fun _ => ?_)
def laws_FnReplace.T5 : Bool × List (List Nat × List Nat) := (true, [([], []), ([], []), ([], []), ([], []), ([3], [3]), ([0, 1, 2, 4, 4], [0, 1, 2, 4]), ([], []), ([6, 5, 5, 0, 1, 2, 3, 4, 5, 6], [5, 6])])
def laws_FnReplace.B5 : List Nat := [0, 0, 0, 0, 8, 31, 0, 127]
theorem laws_FnReplace.tab5 : rtab .any (opsOf Try.f8 5) = laws_FnReplace.T5 := by kernel_rfl
theorem laws_FnReplace.bits5 : waitsOk laws_FnReplace.T5.2 laws_FnReplace.B5 = true := by kernel_rfl
def laws_FnReplace.T10 : Bool × List (List Nat × List Nat) := (true, [([], []), ([0], [0]), ([], []), ([], []), ([], []), ([4], [4]), ([3, 5], [3, 5]), ([], []), ([7], [7]), ([8], [8]), ([1, 2, 6, 9, 9], [1, 2, 6, 9]), ([], []), ([11, 10, 10, 0, 1, 2, 3, 4, 5, 6, 7, 8, 9, 10, 11], [10, 11])])
def laws_FnReplace.B10 : List Nat := [0, 1, 0, 0, 0, 16, 56, 0, 128, 384, 1023, 0, 4095]
theorem laws_FnReplace.tab10 : rtab .any (opsOf Try.f8 10) = laws_FnReplace.T10 := by kernel_rfl
theorem laws_FnReplace.bits10 : waitsOk laws_FnReplace.T10.2 laws_FnReplace.B10 = true := by kernel_rfl
set_option maxHeartbeats 8000000 in
set_option maxRecDepth 100000 in
theorem laws_FnReplace.calls (k : Nat) (A0 : Option Addr) (c0 : Nat) (l0 : List Int) (r : Bool) (w : World) (hr0 : Kd.C (Kd.int .u8) w A0 l0.length l0) (hc0 : l0.length ≤ c0) (h : laws_FnReplace.f k l0 = some r) :
  Calls Try.prog 8 #[.slice A0 l0.length c0] w fun e w' => e = .returned (.bool r) ∧ Below w.heap.size w w' := by
 have hu26 := Try.underlying26
 have hu28 := Try.underlying28
 have HR0 := am hr0
 have HC0 := am hc0
 clear hr0 hc0
 have HB := am (Below.refl w.heap.size w)
 have H : (if (l0.length : Int) > 1048576 then (some true) else ((spec_DrawBufReplace.f k l0).bind fun bt426 => ((spec_BufReplace.f k bt426.1 bt426.2.1 bt426.2.2.1 bt426.2.2.2.1 bt426.2.2.2.2.1 bt426.2.2.2.2.2).bind fun bt437 => ((laws_lwCopy.f bt426.2.2.2.2.2).bind fun t447 => ((impl_BufReplace.f k bt426.1 bt426.2.1 bt426.2.2.1 bt426.2.2.2.1 bt426.2.2.2.2.1 t447).bind fun bt450 => (if bt450.2.2.2.2 = bt437.2.2.2.2 then (laws_FnReplace.j0 k bt426.2.2.2.1 bt426.2.2.2.2.1 bt426.2.2.2.2.2 bt426.1 bt426.2.1 bt426.2.2.1 bt437.1 bt437.2.1 bt437.2.2.1 bt437.2.2.2.1 bt437.2.2.2.2 bt450.1 bt450.2.1 bt450.2.2.1 bt450.2.2.2.1 bt450.2.2.2.2) else (some false))))))) = some r := h
 clear h
 by_cases c2 : (l0.length : Int) > 1048576
 ·rw [if_pos c2] at H
  have c2b0 : decide (1048576 < (l0.length : Int)) = true := decide_eq_true c2
  have c2b1 : decide (1048576 < l0.length) = true := decide_eq_true (by omega)
  clear c2
  obtain rfl := Option.some.inj H
  go_enter Try.func8, Try.ntmps8
  go_wp2
  go_ret
  exact ⟨by first | rfl | (simp [errW_none, errW_some] <;> rfl) | (simp [*, errW_none, errW_some] <;> rfl), by repeat (first | (with_reducible first | exact HB.out | apply below_alloc | apply pw_below_drewN | apply below_drew1) | exact HB.out)⟩
 ·rw [if_neg c2] at H
  have c2b0 : decide (1048576 < (l0.length : Int)) = false := decide_eq_false c2
  have c2b1 : decide (1048576 < l0.length) = false := decide_eq_false (by omega)
  clear c2
  replace H := Option.bind_eq_some_iff.mp H
  obtain ⟨⟨t426, t429, t430, t431, t432, t433⟩, A30, H⟩ := H
  replace H : ((spec_BufReplace.f k t426 t429 t430 t431 t432 t433).bind fun bt437 => ((laws_lwCopy.f t433).bind fun t447 => ((impl_BufReplace.f k t426 t429 t430 t431 t432 t447).bind fun bt450 => (if bt450.2.2.2.2 = bt437.2.2.2.2 then (laws_FnReplace.j0 k t431 t432 t433 t426 t429 t430 bt437.1 bt437.2.1 bt437.2.2.1 bt437.2.2.2.1 bt437.2.2.2.2 bt450.1 bt450.2.1 bt450.2.2.1 bt450.2.2.2.1 bt450.2.2.2.2) else (some false))))) = some r := H
  have A3 := Aside0.mk A30
  clear A30
  replace H := Option.bind_eq_some_iff.mp H
  obtain ⟨⟨t437, t440, t441, t442, t445⟩, A40, H⟩ := H
  replace H : ((laws_lwCopy.f t433).bind fun t447 => ((impl_BufReplace.f k t426 t429 t430 t431 t432 t447).bind fun bt450 => (if bt450.2.2.2.2 = t445 then (laws_FnReplace.j0 k t431 t432 t433 t426 t429 t430 t437 t440 t441 t442 t445 bt450.1 bt450.2.1 bt450.2.2.1 bt450.2.2.2.1 bt450.2.2.2.2) else (some false)))) = some r := H
  have A4 := Aside0.mk A40
  clear A40
  replace H := Option.bind_eq_some_iff.mp H
  obtain ⟨t447, A50, H⟩ := H
  replace H : ((impl_BufReplace.f k t426 t429 t430 t431 t432 t447).bind fun bt450 => (if bt450.2.2.2.2 = t445 then (laws_FnReplace.j0 k t431 t432 t433 t426 t429 t430 t437 t440 t441 t442 t445 bt450.1 bt450.2.1 bt450.2.2.1 bt450.2.2.2.1 bt450.2.2.2.2) else (some false))) = some r := H
  have A5 := Aside0.mk A50
  clear A50
  replace H := Option.bind_eq_some_iff.mp H
  obtain ⟨⟨t450, t453, t454, t455, t458⟩, A60, H⟩ := H
  replace H : (if t458 = t445 then (laws_FnReplace.j0 k t431 t432 t433 t426 t429 t430 t437 t440 t441 t442 t445 t450 t453 t454 t455 t458) else (some false)) = some r := H
  have A6 := Aside0.mk A60
  clear A60
  have HC7 := Aside0.mk H
  clear H
  go_enter Try.func8, Try.ntmps8
  try go_wp2_with (first | ((with_reducible refine gate_callee (f := 36) rfl ?_); refine gl (some 15) Try.func36 #[.slice A0 l0.length c0] ?_; (with_reducible refine (spec_DrawBufReplace.calls k _ _ l0 t426 t429 t430 t431 t432 t433 _ ?side1 ?side2 A3.out).mono ?_); (case side1 => repeat (first | exact HR0.out | (with_reducible refine Kd.C_alloc ?_ _) | (with_reducible refine Kd.C_drewN ?_ _) | (with_reducible refine Kd.C_drew ?_))); (case side2 => exact HC0.out); rintro e w8 ⟨v427, v434, rfl, ho0, ho1, hb⟩; refine ⟨_, rfl, ?_⟩; have HO428 := am (Kd.R_lower ho0 (below_size (bl HB.out))); have HO435 := am (Kd.R_lower ho1 (below_size (bl HB.out))); replace HB := am (below_step (bl HB.out) hb); (try clear hb); (try clear hb2); (try clear hk); (try clear hi); (try clear ho0); (try clear ho1)) | ((with_reducible refine gate_dst (N := 3) rfl ?_); (try (refine gate_guard (by rfl) ?_; dsimp only)); refine box_event ?hg (N := 3) ?hd (cs := #[.slice none 0 0, .int .i64 0, .int .i64 0]) (t := 26) ?hr ?_; (case hd => rfl); (case hg => rfl); (case hr => first | (go_simp; done) | (go_simp; rfl)); intro gb436 hg w9 hbox hb; replace HO428 := am (Kd.R_below (kr HO428.out) hb); replace HO435 := am (Kd.R_below (kr HO435.out) hb); have BK436 := am (hbox); have GW436 := am ((by rw [hg]; exact (below_size (bl HB.out)) : w.heap.size ≤ gb436)); have GE436 := GW436; replace HB := am (below_step (bl HB.out) hb); clear hb hbox hg; obtain ⟨Ao10, co10, eo10⟩ := Kd.R_slice HO428.out; subst eo10; have hcz11_0 : w9.cell? ⟨gb436, 0, none⟩ = some (.slice none 0 0) := bc BK436.out 0; have hcz11_1 : w9.cell? ⟨gb436, 1, none⟩ = some (.int .i64 0) := bc BK436.out 1; have hcz11_2 : w9.cell? ⟨gb436, 2, none⟩ = some (.int .i64 0) := bc BK436.out 2; have hfz11_0 := blk_frozen BK436.out 0; have hfz11_1 := blk_frozen BK436.out 1; have hfz11_2 := blk_frozen BK436.out 2; obtain ⟨Ao12, co12, eo12⟩ := Kd.R_slice HO435.out; subst eo12) | ((with_reducible refine gate_callee (f := 10) rfl ?_); refine gl (some 24) Try.func10 #[.agg #[.slice Ao10 t426.length co10, .int .i64 t429, .int .i64 t430], .int .i64 t431, .int .i64 t432, .slice Ao12 t433.length co12] ?_; (with_reducible refine (spec_BufReplace.calls k _ _ t426 t429 t430 t431 t432 _ _ t433 t437 t440 t441 t442 t445 _ ?side1 ?side2 ?side3 ?side4 A4.out).mono ?_); (case side1 => refine (Kd.R_reads' (e := 2) (base := w.heap.size) (ok := fun k_ => some k_ ≠ (.slice Ao12 t433.length co12 : Value).ownBlock) (n := t426.length) (c := co10) ?_).2.2; exact (kr ((Kd.R_mono (Kd.R_far (p := ⟨gb436, 2, none⟩) (Kd.R_far (p := ⟨gb436, 1, none⟩) (Kd.R_far (p := ⟨gb436, 0, none⟩) (Kd.R_types HO428.out BK436.out (by decide)) (fun _ hk => hk.2) (.slice Ao10 t426.length co10)) (fun _ hk => hk.2) (.int .i64 t429)) (fun _ hk => hk.2) (.int .i64 t430)) (fun _ h_ => h_.1))))); (case side2 => exact (Kd.R_reads' HO428.out).2.1); (case side3 => refine (Kd.R_reads' (e := 2) (base := w.heap.size) (ok := fun k_ => some k_ ≠ (.slice Ao10 t426.length co10 : Value).ownBlock) (n := t433.length) (c := co12) ?_).2.2; exact (kr ((Kd.R_mono (Kd.R_far (p := ⟨gb436, 2, none⟩) (Kd.R_far (p := ⟨gb436, 1, none⟩) (Kd.R_far (p := ⟨gb436, 0, none⟩) (Kd.R_types HO435.out BK436.out (by decide)) (fun _ hk => hk.2) (.slice Ao10 t426.length co10)) (fun _ hk => hk.2) (.int .i64 t429)) (fun _ hk => hk.2) (.int .i64 t430)) (fun _ h_ => h_.1))))); (case side4 => exact (Kd.R_reads' HO435.out).2.1); rintro e w13 ⟨v438, v443, rfl, ho0, ho1, hb⟩; refine ⟨_, rfl, ?_⟩; have HO439 := am (Kd.R_lower (Kd.R_new' (Kd.R_new' ho0 (Kd.R_lt (kr ((Kd.R_mono (Kd.R_far (p := ⟨gb436, 2, none⟩) (Kd.R_far (p := ⟨gb436, 1, none⟩) (Kd.R_far (p := ⟨gb436, 0, none⟩) (Kd.R_types HO428.out BK436.out (by decide)) (fun _ hk => hk.2) (.slice Ao10 t426.length co10)) (fun _ hk => hk.2) (.int .i64 t429)) (fun _ hk => hk.2) (.int .i64 t430)) (fun _ h_ => h_.1)))))) (Kd.R_lt (kr ((Kd.R_mono (Kd.R_far (p := ⟨gb436, 2, none⟩) (Kd.R_far (p := ⟨gb436, 1, none⟩) (Kd.R_far (p := ⟨gb436, 0, none⟩) (Kd.R_types HO435.out BK436.out (by decide)) (fun _ hk => hk.2) (.slice Ao10 t426.length co10)) (fun _ hk => hk.2) (.int .i64 t429)) (fun _ hk => hk.2) (.int .i64 t430)) (fun _ h_ => h_.1)))))) (below_size (bl HB.out))); have HO444 := am (Kd.R_lower (Kd.R_new' (Kd.R_new' ho1 (Kd.R_lt (kr ((Kd.R_mono (Kd.R_far (p := ⟨gb436, 2, none⟩) (Kd.R_far (p := ⟨gb436, 1, none⟩) (Kd.R_far (p := ⟨gb436, 0, none⟩) (Kd.R_types HO428.out BK436.out (by decide)) (fun _ hk => hk.2) (.slice Ao10 t426.length co10)) (fun _ hk => hk.2) (.int .i64 t429)) (fun _ hk => hk.2) (.int .i64 t430)) (fun _ h_ => h_.1)))))) (Kd.R_lt (kr ((Kd.R_mono (Kd.R_far (p := ⟨gb436, 2, none⟩) (Kd.R_far (p := ⟨gb436, 1, none⟩) (Kd.R_far (p := ⟨gb436, 0, none⟩) (Kd.R_types HO435.out BK436.out (by decide)) (fun _ hk => hk.2) (.slice Ao10 t426.length co10)) (fun _ hk => hk.2) (.int .i64 t429)) (fun _ hk => hk.2) (.int .i64 t430)) (fun _ h_ => h_.1)))))) (below_size (bl HB.out))); replace HO428 := am (Kd.R_mono (Kd.R_told (Kd.R_told (Kd.R_old (kr ((Kd.R_mono (Kd.R_far (p := ⟨gb436, 2, none⟩) (Kd.R_far (p := ⟨gb436, 1, none⟩) (Kd.R_far (p := ⟨gb436, 0, none⟩) (Kd.R_types HO428.out BK436.out (by decide)) (fun _ hk => hk.2) (.slice Ao10 t426.length co10)) (fun _ hk => hk.2) (.int .i64 t429)) (fun _ hk => hk.2) (.int .i64 t430)) (fun _ h_ => h_.1)))) hb) (Kd.R_base ho0)) (Kd.R_base ho1)) (fun _ h_ => h_.1)); replace HO435 := am (Kd.R_mono (Kd.R_told (Kd.R_told (Kd.R_old (kr ((Kd.R_mono (Kd.R_far (p := ⟨gb436, 2, none⟩) (Kd.R_far (p := ⟨gb436, 1, none⟩) (Kd.R_far (p := ⟨gb436, 0, none⟩) (Kd.R_types HO435.out BK436.out (by decide)) (fun _ hk => hk.2) (.slice Ao10 t426.length co10)) (fun _ hk => hk.2) (.int .i64 t429)) (fun _ hk => hk.2) (.int .i64 t430)) (fun _ h_ => h_.1)))) hb) (Kd.R_base ho0)) (Kd.R_base ho1)) (fun _ h_ => h_.1)); replace BK436 := am (blk_below (g := gb436) (o := .cells #[.slice Ao10 t426.length co10, .int .i64 t429, .int .i64 t430] 26 (0, 0)) (by (with_reducible repeat (first | refine blk_drewN ?_ _ | refine blk_drew ?_ | refine blk_alloc ?_ _)); refine blk_put (cs := #[.slice Ao10 t426.length co10, .int .i64 t429, .int .i64 0]) ?_ 2 _ rfl; (with_reducible repeat (first | refine blk_drewN ?_ _ | refine blk_drew ?_ | refine blk_alloc ?_ _)); refine blk_put (cs := #[.slice Ao10 t426.length co10, .int .i64 0, .int .i64 0]) ?_ 1 _ rfl; (with_reducible repeat (first | refine blk_drewN ?_ _ | refine blk_drew ?_ | refine blk_alloc ?_ _)); refine blk_put (cs := #[.slice none 0 0, .int .i64 0, .int .i64 0]) ?_ 0 _ rfl; (with_reducible repeat (first | refine blk_drewN ?_ _ | refine blk_drew ?_ | refine blk_alloc ?_ _)); exact BK436.out) hb); replace HB := am (below_step (bl HB.out) hb); (try clear hb); (try clear hb2); (try clear hk); (try clear hi); (try clear ho0); (try clear ho1)) | ((with_reducible refine gate_dst (N := 7) rfl ?_); (try (refine gate_guard (by rfl) ?_; dsimp only)); refine box_event ?hg (N := 7) ?hd (cs := #[.slice none 0 0, .int .i64 0, .int .i64 0, .slice none 0 0, .int .i64 0]) (t := 28) ?hr ?_; (case hd => rfl); (case hg => rfl); (case hr => first | (go_simp; done) | (go_simp; rfl)); intro gb446 hg w14 hbox hb; replace HO428 := am (Kd.R_below (kr HO428.out) hb); replace HO435 := am (Kd.R_below (kr HO435.out) hb); replace HO439 := am (Kd.R_below (kr HO439.out) hb); replace HO444 := am (Kd.R_below (kr HO444.out) hb); have BK446 := am (hbox); have GW446 := am ((by rw [hg]; exact (below_size (bl HB.out)) : w.heap.size ≤ gb446)); have GE446 := GW446; replace HB := am (below_step (bl HB.out) hb); have NB436_446 := am ((by rw [hg]; exact Nat.ne_of_lt (blk_lt (pk BK436.out)) : gb436 ≠ gb446)); have NB446_436 := am ((by rw [hg]; exact Nat.ne_of_gt (blk_lt (pk BK436.out)) : gb446 ≠ gb436)); replace BK436 := am (blk_below (pk BK436.out) hb); clear hb hbox hg; obtain ⟨Ao15, co15, eo15⟩ := Kd.R_slice HO439.out; subst eo15; have hnb16 := NB446_436.out; have hnc16 := NB436_446.out; have hcz17_0 : w14.cell? ⟨gb446, 0, none⟩ = some (.slice none 0 0) := bc BK446.out 0; have hcz17_1 : w14.cell? ⟨gb446, 1, none⟩ = some (.int .i64 0) := bc BK446.out 1; have hcz17_2 : w14.cell? ⟨gb446, 2, none⟩ = some (.int .i64 0) := bc BK446.out 2; have hcz17_3 : w14.cell? ⟨gb446, 3, none⟩ = some (.slice none 0 0) := bc BK446.out 3; have hcz17_4 : w14.cell? ⟨gb446, 4, none⟩ = some (.int .i64 0) := bc BK446.out 4; have hfz17_0 := blk_frozen BK446.out 0; have hfz17_1 := blk_frozen BK446.out 1; have hfz17_2 := blk_frozen BK446.out 2; have hfz17_3 := blk_frozen BK446.out 3; have hfz17_4 := blk_frozen BK446.out 4; obtain ⟨Ao18, co18, eo18⟩ := Kd.R_slice HO444.out; subst eo18))
  have n0_ : Aside0 (Kd.R (Kd.int .i64) 2 (((((w14.setCell ⟨gb446, 0, none⟩ (.slice Ao15 t437.length co15)).setCell ⟨gb446, 1, none⟩ (.int .i64 t440)).setCell ⟨gb446, 2, none⟩ (.int .i64 t441)).setCell ⟨gb446, 3, none⟩ (.slice Ao18 t442.length co18)).setCell ⟨gb446, 4, none⟩ (.int .i64 t445)) w.heap.size (fun k_ => some k_ ≠ (.slice Ao12 t433.length co12 : Value).ownBlock ∧ some k_ ≠ (.slice Ao15 t437.length co15 : Value).ownBlock ∧ some k_ ≠ (.slice Ao18 t442.length co18 : Value).ownBlock) (.slice Ao10 t426.length co10) t426) := ⟨kr (Kd.R_mono (Kd.R_far (p := ⟨gb446, 4, none⟩) (Kd.R_far (p := ⟨gb446, 3, none⟩) (Kd.R_far (p := ⟨gb446, 2, none⟩) (Kd.R_far (p := ⟨gb446, 1, none⟩) (Kd.R_far (p := ⟨gb446, 0, none⟩) (Kd.R_types HO428.out BK446.out (by decide)) (fun _ hk => hk.2) (.slice Ao15 t437.length co15)) (fun _ hk => hk.2) (.int .i64 t440)) (fun _ hk => hk.2) (.int .i64 t441)) (fun _ hk => hk.2) (.slice Ao18 t442.length co18)) (fun _ hk => hk.2) (.int .i64 t445)) (fun _ hk => ⟨hk.1.1.1, ⟨hk.1.1.2, hk.1.2⟩⟩))⟩
  have n1_ : Aside0 (Kd.R (Kd.int .i64) 2 (((((w14.setCell ⟨gb446, 0, none⟩ (.slice Ao15 t437.length co15)).setCell ⟨gb446, 1, none⟩ (.int .i64 t440)).setCell ⟨gb446, 2, none⟩ (.int .i64 t441)).setCell ⟨gb446, 3, none⟩ (.slice Ao18 t442.length co18)).setCell ⟨gb446, 4, none⟩ (.int .i64 t445)) w.heap.size (fun k_ => some k_ ≠ (.slice Ao10 t426.length co10 : Value).ownBlock ∧ some k_ ≠ (.slice Ao15 t437.length co15 : Value).ownBlock ∧ some k_ ≠ (.slice Ao18 t442.length co18 : Value).ownBlock) (.slice Ao12 t433.length co12) t433) := ⟨kr (Kd.R_mono (Kd.R_far (p := ⟨gb446, 4, none⟩) (Kd.R_far (p := ⟨gb446, 3, none⟩) (Kd.R_far (p := ⟨gb446, 2, none⟩) (Kd.R_far (p := ⟨gb446, 1, none⟩) (Kd.R_far (p := ⟨gb446, 0, none⟩) (Kd.R_types HO435.out BK446.out (by decide)) (fun _ hk => hk.2) (.slice Ao15 t437.length co15)) (fun _ hk => hk.2) (.int .i64 t440)) (fun _ hk => hk.2) (.int .i64 t441)) (fun _ hk => hk.2) (.slice Ao18 t442.length co18)) (fun _ hk => hk.2) (.int .i64 t445)) (fun _ hk => ⟨hk.1.1.1, ⟨hk.1.1.2, hk.1.2⟩⟩))⟩
  have n2_ : Aside0 (Kd.R (Kd.int .i64) 2 (((((w14.setCell ⟨gb446, 0, none⟩ (.slice Ao15 t437.length co15)).setCell ⟨gb446, 1, none⟩ (.int .i64 t440)).setCell ⟨gb446, 2, none⟩ (.int .i64 t441)).setCell ⟨gb446, 3, none⟩ (.slice Ao18 t442.length co18)).setCell ⟨gb446, 4, none⟩ (.int .i64 t445)) w.heap.size (fun k_ => some k_ ≠ (.slice Ao10 t426.length co10 : Value).ownBlock ∧ some k_ ≠ (.slice Ao12 t433.length co12 : Value).ownBlock ∧ some k_ ≠ (.slice Ao18 t442.length co18 : Value).ownBlock) (.slice Ao15 t437.length co15) t437) := ⟨kr (Kd.R_mono (Kd.R_far (p := ⟨gb446, 4, none⟩) (Kd.R_far (p := ⟨gb446, 3, none⟩) (Kd.R_far (p := ⟨gb446, 2, none⟩) (Kd.R_far (p := ⟨gb446, 1, none⟩) (Kd.R_far (p := ⟨gb446, 0, none⟩) (Kd.R_types HO439.out BK446.out (by decide)) (fun _ hk => hk.2) (.slice Ao15 t437.length co15)) (fun _ hk => hk.2) (.int .i64 t440)) (fun _ hk => hk.2) (.int .i64 t441)) (fun _ hk => hk.2) (.slice Ao18 t442.length co18)) (fun _ hk => hk.2) (.int .i64 t445)) (fun _ hk => ⟨hk.1.1.2, ⟨hk.1.2, hk.1.1.1⟩⟩))⟩
  have n3_ : Aside0 (Kd.R (Kd.int .i64) 2 (((((w14.setCell ⟨gb446, 0, none⟩ (.slice Ao15 t437.length co15)).setCell ⟨gb446, 1, none⟩ (.int .i64 t440)).setCell ⟨gb446, 2, none⟩ (.int .i64 t441)).setCell ⟨gb446, 3, none⟩ (.slice Ao18 t442.length co18)).setCell ⟨gb446, 4, none⟩ (.int .i64 t445)) w.heap.size (fun k_ => some k_ ≠ (.slice Ao10 t426.length co10 : Value).ownBlock ∧ some k_ ≠ (.slice Ao12 t433.length co12 : Value).ownBlock ∧ some k_ ≠ (.slice Ao15 t437.length co15 : Value).ownBlock) (.slice Ao18 t442.length co18) t442) := ⟨kr (Kd.R_mono (Kd.R_far (p := ⟨gb446, 4, none⟩) (Kd.R_far (p := ⟨gb446, 3, none⟩) (Kd.R_far (p := ⟨gb446, 2, none⟩) (Kd.R_far (p := ⟨gb446, 1, none⟩) (Kd.R_far (p := ⟨gb446, 0, none⟩) (Kd.R_types HO444.out BK446.out (by decide)) (fun _ hk => hk.2) (.slice Ao15 t437.length co15)) (fun _ hk => hk.2) (.int .i64 t440)) (fun _ hk => hk.2) (.int .i64 t441)) (fun _ hk => hk.2) (.slice Ao18 t442.length co18)) (fun _ hk => hk.2) (.int .i64 t445)) (fun _ hk => ⟨hk.1.1.2, ⟨hk.1.2, hk.1.1.1⟩⟩))⟩
  have n4_ : Aside0 ((((((w14.setCell ⟨gb446, 0, none⟩ (.slice Ao15 t437.length co15)).setCell ⟨gb446, 1, none⟩ (.int .i64 t440)).setCell ⟨gb446, 2, none⟩ (.int .i64 t441)).setCell ⟨gb446, 3, none⟩ (.slice Ao18 t442.length co18)).setCell ⟨gb446, 4, none⟩ (.int .i64 t445)).heap[gb436]? = some (.cells #[.slice Ao10 t426.length co10, .int .i64 t429, .int .i64 t430] 26 (0, 0))) := ⟨by (with_reducible repeat (first | refine blk_drewN ?_ _ | refine blk_drew ?_ | refine blk_alloc ?_ _)); refine blk_far ?_ NB436_446.out _; (with_reducible repeat (first | refine blk_drewN ?_ _ | refine blk_drew ?_ | refine blk_alloc ?_ _)); refine blk_far ?_ NB436_446.out _; (with_reducible repeat (first | refine blk_drewN ?_ _ | refine blk_drew ?_ | refine blk_alloc ?_ _)); refine blk_far ?_ NB436_446.out _; (with_reducible repeat (first | refine blk_drewN ?_ _ | refine blk_drew ?_ | refine blk_alloc ?_ _)); refine blk_far ?_ NB436_446.out _; (with_reducible repeat (first | refine blk_drewN ?_ _ | refine blk_drew ?_ | refine blk_alloc ?_ _)); refine blk_far ?_ NB436_446.out _; (with_reducible repeat (first | refine blk_drewN ?_ _ | refine blk_drew ?_ | refine blk_alloc ?_ _)); exact BK436.out⟩
  have n5_ : Aside0 ((((((w14.setCell ⟨gb446, 0, none⟩ (.slice Ao15 t437.length co15)).setCell ⟨gb446, 1, none⟩ (.int .i64 t440)).setCell ⟨gb446, 2, none⟩ (.int .i64 t441)).setCell ⟨gb446, 3, none⟩ (.slice Ao18 t442.length co18)).setCell ⟨gb446, 4, none⟩ (.int .i64 t445)).heap[gb446]? = some (.cells #[.slice Ao15 t437.length co15, .int .i64 t440, .int .i64 t441, .slice Ao18 t442.length co18, .int .i64 t445] 28 (0, 0))) := ⟨by (with_reducible repeat (first | refine blk_drewN ?_ _ | refine blk_drew ?_ | refine blk_alloc ?_ _)); refine blk_put (cs := #[.slice Ao15 t437.length co15, .int .i64 t440, .int .i64 t441, .slice Ao18 t442.length co18, .int .i64 0]) ?_ 4 _ rfl; (with_reducible repeat (first | refine blk_drewN ?_ _ | refine blk_drew ?_ | refine blk_alloc ?_ _)); refine blk_put (cs := #[.slice Ao15 t437.length co15, .int .i64 t440, .int .i64 t441, .slice none 0 0, .int .i64 0]) ?_ 3 _ rfl; (with_reducible repeat (first | refine blk_drewN ?_ _ | refine blk_drew ?_ | refine blk_alloc ?_ _)); refine blk_put (cs := #[.slice Ao15 t437.length co15, .int .i64 t440, .int .i64 0, .slice none 0 0, .int .i64 0]) ?_ 2 _ rfl; (with_reducible repeat (first | refine blk_drewN ?_ _ | refine blk_drew ?_ | refine blk_alloc ?_ _)); refine blk_put (cs := #[.slice Ao15 t437.length co15, .int .i64 0, .int .i64 0, .slice none 0 0, .int .i64 0]) ?_ 1 _ rfl; (with_reducible repeat (first | refine blk_drewN ?_ _ | refine blk_drew ?_ | refine blk_alloc ?_ _)); refine blk_put (cs := #[.slice none 0 0, .int .i64 0, .int .i64 0, .slice none 0 0, .int .i64 0]) ?_ 0 _ rfl; (with_reducible repeat (first | refine blk_drewN ?_ _ | refine blk_drew ?_ | refine blk_alloc ?_ _)); exact BK446.out⟩
  have n6_ : Aside0 (Below w.heap.size w (((((w14.setCell ⟨gb446, 0, none⟩ (.slice Ao15 t437.length co15)).setCell ⟨gb446, 1, none⟩ (.int .i64 t440)).setCell ⟨gb446, 2, none⟩ (.int .i64 t441)).setCell ⟨gb446, 3, none⟩ (.slice Ao18 t442.length co18)).setCell ⟨gb446, 4, none⟩ (.int .i64 t445))) := ⟨by repeat (first | (with_reducible first | exact HB.out | apply below_alloc | apply pw_below_drewN | apply below_drew1 | refine below_set ?_ GE436.out | refine below_set ?_ GE446.out) | exact HB.out)⟩
  (try clear HO428)
  (try clear HO435)
  (try clear HO439)
  (try clear HO444)
  (try clear BK436)
  (try clear BK446)
  (try clear HB)
  generalize (((((w14.setCell ⟨gb446, 0, none⟩ (.slice Ao15 t437.length co15)).setCell ⟨gb446, 1, none⟩ (.int .i64 t440)).setCell ⟨gb446, 2, none⟩ (.int .i64 t441)).setCell ⟨gb446, 3, none⟩ (.slice Ao18 t442.length co18)).setCell ⟨gb446, 4, none⟩ (.int .i64 t445)) = w19 at n0_ n1_ n2_ n3_ n4_ n5_ n6_ ⊢
  have HO428 := n0_
  have HO435 := n1_
  have HO439 := n2_
  have HO444 := n3_
  have BK436 := n4_
  have BK446 := n5_
  have HB := n6_
  clear n0_ n1_ n2_ n3_ n4_ n5_ n6_
  replace HO428 := am (Kd.R_drew HO428.out)
  replace HO435 := am (Kd.R_drew HO435.out)
  replace HO439 := am (Kd.R_drew HO439.out)
  replace HO444 := am (Kd.R_drew HO444.out)
  replace BK436 := am (blk_drew BK436.out)
  replace BK446 := am (blk_drew BK446.out)
  replace HB := am (below_drew1 HB.out)
  refine start_ (n := 8) (S := fun w' => w'.cell? ⟨gb436, 0, none⟩ = some (.slice Ao10 t426.length co10) ∧ w'.cell? ⟨gb436, 1, none⟩ = some (.int .i64 t429) ∧ w'.cell? ⟨gb436, 2, none⟩ = some (.int .i64 t430)) (ds := []) #[false, false, false, false, false, false, false, false] (by kernel_rfl) rfl rfl ⟨bc BK436.out 0, bc BK436.out 1, bc BK436.out 2⟩ (fun hHeld => ?_); refine with_tabW laws_FnReplace.tab5 laws_FnReplace.bits5 (fun HT_ HW_ => ?_)
  generalize w19.drew = w20 at HO428 HO435 HO439 HO444 BK436 BK446 HB hHeld ⊢
  refine pure_ (i := 1) (N := some 26) (v := ?_) (a' := ?_) #[false, true, false, false, false, false, false, false] rfl rfl (any_of HT_.out (by kernel_rfl)) (fun _ _ _ h => h) (Or.inl ⟨by rfl, ?_⟩) ?_ ?_; rotate_left
  ·intro w'; go_simp; with_reducible rfl
  rotate_left
  ·simp only [Act.put, sa_, s0_, ss_, i64_w, i32_w]; rfl
  refine pure_ (i := 2) (N := some 27) (v := ?_) (a' := ?_) #[false, true, true, false, false, false, false, false] rfl rfl (any_of HT_.out (by kernel_rfl)) (fun _ _ _ h => h) (Or.inl ⟨by rfl, ?_⟩) ?_ ?_; rotate_left
  ·intro w'; go_simp; with_reducible rfl
  rotate_left
  ·simp only [Act.put, sa_, s0_, ss_, i64_w, i32_w]; rfl
  refine pure_ (i := 3) (N := some 28) (v := ?_) (a' := ?_) #[false, true, true, true, false, false, false, false] rfl rfl (any_of HT_.out (by kernel_rfl)) (fun _ _ _ h => h) (Or.inl ⟨by rfl, ?_⟩) ?_ ?_; rotate_left
  ·intro w'; go_simp; with_reducible rfl
  rotate_left
  ·simp only [Act.put, sa_, s0_, ss_, i64_w, i32_w]; rfl
  refine take_ (i := 0) (N := some 25) (v := ?_) (a' := ?_) #[true, true, true, true, false, false, false, false] rfl rfl (take_ofW HT_.out HW_.out (by kernel_rfl)) (fun _ _ _ h => h) (Or.inl ⟨by rfl, ?_⟩) hHeld ?_ ?_; rotate_left
  ·rintro w' ⟨s0, s1, s2⟩; go_simp; with_reducible rfl
  rotate_left
  ·simp only [Act.put, sa_, s0_, ss_, i64_w, i32_w]; rfl
  refine join_ (σ := Value × Value × Value × Nat) 1 b8_0 (fun s_ => [(29, s_.1), (30, .agg #[s_.2.1, .int .i64 t453, .int .i64 t454, s_.2.2.1, .int .i64 t458]), (8, .pointer (some ⟨s_.2.2.2, 0, none⟩))]) (fun s_ w' => (w'.cell? ⟨gb436, 0, none⟩ = some (.slice Ao10 t426.length co10) ∧ w'.cell? ⟨gb436, 1, none⟩ = some (.int .i64 t429) ∧ w'.cell? ⟨gb436, 2, none⟩ = some (.int .i64 t430)) ∧ (Kd.R (Kd.int .i64) 2 w' w.heap.size (fun k_ => some k_ ≠ (.slice Ao12 t433.length co12 : Value).ownBlock ∧ some k_ ≠ (.slice Ao15 t437.length co15 : Value).ownBlock ∧ some k_ ≠ (.slice Ao18 t442.length co18 : Value).ownBlock ∧ some k_ ≠ (s_.1 : Value).ownBlock ∧ some k_ ≠ (s_.2.1 : Value).ownBlock ∧ some k_ ≠ (s_.2.2.1 : Value).ownBlock) (.slice Ao10 t426.length co10) t426) ∧ (Kd.R (Kd.int .i64) 2 w' w.heap.size (fun k_ => some k_ ≠ (.slice Ao10 t426.length co10 : Value).ownBlock ∧ some k_ ≠ (.slice Ao15 t437.length co15 : Value).ownBlock ∧ some k_ ≠ (.slice Ao18 t442.length co18 : Value).ownBlock ∧ some k_ ≠ (s_.1 : Value).ownBlock ∧ some k_ ≠ (s_.2.1 : Value).ownBlock ∧ some k_ ≠ (s_.2.2.1 : Value).ownBlock) (.slice Ao12 t433.length co12) t433) ∧ (Kd.R (Kd.int .i64) 2 w' w.heap.size (fun k_ => some k_ ≠ (.slice Ao10 t426.length co10 : Value).ownBlock ∧ some k_ ≠ (.slice Ao12 t433.length co12 : Value).ownBlock ∧ some k_ ≠ (.slice Ao18 t442.length co18 : Value).ownBlock ∧ some k_ ≠ (s_.1 : Value).ownBlock ∧ some k_ ≠ (s_.2.1 : Value).ownBlock ∧ some k_ ≠ (s_.2.2.1 : Value).ownBlock) (.slice Ao15 t437.length co15) t437) ∧ (Kd.R (Kd.int .i64) 2 w' w.heap.size (fun k_ => some k_ ≠ (.slice Ao10 t426.length co10 : Value).ownBlock ∧ some k_ ≠ (.slice Ao12 t433.length co12 : Value).ownBlock ∧ some k_ ≠ (.slice Ao15 t437.length co15 : Value).ownBlock ∧ some k_ ≠ (s_.1 : Value).ownBlock ∧ some k_ ≠ (s_.2.1 : Value).ownBlock ∧ some k_ ≠ (s_.2.2.1 : Value).ownBlock) (.slice Ao18 t442.length co18) t442) ∧ (Kd.R (Kd.int .i64) 2 w' w.heap.size (fun k_ => some k_ ≠ (.slice Ao10 t426.length co10 : Value).ownBlock ∧ some k_ ≠ (.slice Ao12 t433.length co12 : Value).ownBlock ∧ some k_ ≠ (.slice Ao15 t437.length co15 : Value).ownBlock ∧ some k_ ≠ (.slice Ao18 t442.length co18 : Value).ownBlock ∧ some k_ ≠ (s_.2.1 : Value).ownBlock ∧ some k_ ≠ (s_.2.2.1 : Value).ownBlock) s_.1 t447) ∧ (Kd.R (Kd.int .i64) 2 w' w.heap.size (fun k_ => some k_ ≠ (.slice Ao10 t426.length co10 : Value).ownBlock ∧ some k_ ≠ (.slice Ao12 t433.length co12 : Value).ownBlock ∧ some k_ ≠ (.slice Ao15 t437.length co15 : Value).ownBlock ∧ some k_ ≠ (.slice Ao18 t442.length co18 : Value).ownBlock ∧ some k_ ≠ (s_.1 : Value).ownBlock ∧ some k_ ≠ (s_.2.2.1 : Value).ownBlock) s_.2.1 t450) ∧ (Kd.R (Kd.int .i64) 2 w' w.heap.size (fun k_ => some k_ ≠ (.slice Ao10 t426.length co10 : Value).ownBlock ∧ some k_ ≠ (.slice Ao12 t433.length co12 : Value).ownBlock ∧ some k_ ≠ (.slice Ao15 t437.length co15 : Value).ownBlock ∧ some k_ ≠ (.slice Ao18 t442.length co18 : Value).ownBlock ∧ some k_ ≠ (s_.1 : Value).ownBlock ∧ some k_ ≠ (s_.2.1 : Value).ownBlock) s_.2.2.1 t455) ∧ (w'.heap[gb436]? = some (.cells #[.slice Ao10 t426.length co10, .int .i64 t429, .int .i64 t430] 26 (0, 0))) ∧ (w'.heap[gb446]? = some (.cells #[.slice Ao15 t437.length co15, .int .i64 t440, .int .i64 t441, .slice Ao18 t442.length co18, .int .i64 t445] 28 (0, 0))) ∧ (w'.heap[s_.2.2.2]? = some (.cells #[.slice none 0 0, .int .i64 0, .int .i64 0, .slice none 0 0, .int .i64 0] 28 (0, 0))) ∧ (w.heap.size ≤ s_.2.2.2) ∧ (w.heap.size ≤ s_.2.2.2) ∧ (gb436 ≠ s_.2.2.2) ∧ (s_.2.2.2 ≠ gb436) ∧ (gb446 ≠ s_.2.2.2) ∧ (s_.2.2.2 ≠ gb446) ∧ (Below w.heap.size w w')) ?_ ?_
  rotate_left
  ·intro hCont
   refine two_ (i := 4) (j := 6) (Ni := some 29) (Nj := some 8) #[true, true, true, true, true, false, false, false] #[true, true, true, true, false, false, true, false] rfl rfl rfl rfl (two_of HT_.out (by kernel_rfl)) (by decide) (by decide) (fun K hK => ?_) (fun K hK => ?_)
   ·skip
    refine goes_ Try.func37 (by kernel_rfl) rfl #[.slice Ao12 t433.length co12] (by rfl) rfl rfl (by (try simp only [List.map_toArray, List.map_cons, List.map_nil]); first | done | rfl | (simp only [List.length_drop, List.length_take]; rfl)) ?_
    with_reducible refine (laws_lwCopy.calls _ _ t433 t447 _ ?side1 ?side2 A5.out).mono ?_
    (case side1 => repeat (first | exact (Kd.R_reads' HO435.out).2.2 | (with_reducible refine Kd.C_alloc ?_ _) | (with_reducible refine Kd.C_drewN ?_ _) | (with_reducible refine Kd.C_drew ?_)))
    (case side2 => exact (Kd.R_reads' HO435.out).2.1)
    rintro e w21 ⟨v448, rfl, ho0, hb⟩
    refine ⟨_, rfl, ?_⟩
    have HO449 := am (Kd.R_lower (Kd.R_new' (Kd.R_new' (Kd.R_new' (Kd.R_new' ho0 (Kd.R_lt (kr HO428.out))) (Kd.R_lt (kr HO435.out))) (Kd.R_lt (kr HO439.out))) (Kd.R_lt (kr HO444.out))) (below_size (bl HB.out)))
    replace HO428 := am (Kd.R_elder' (kr HO428.out) (Kd.R_base ho0) hb)
    replace HO435 := am (Kd.R_elder' (kr HO435.out) (Kd.R_base ho0) hb)
    replace HO439 := am (Kd.R_elder' (kr HO439.out) (Kd.R_base ho0) hb)
    replace HO444 := am (Kd.R_elder' (kr HO444.out) (Kd.R_base ho0) hb)
    replace BK436 := am (blk_below (pk BK436.out) hb)
    replace BK446 := am (blk_below (pk BK446.out) hb)
    replace HB := am (below_step (bl HB.out) hb)
    (try clear hb)
    (try clear hb2)
    (try clear hk)
    (try clear hi)
    (try clear ho0)
    obtain ⟨Ao22, co22, eo22⟩ := Kd.R_slice HO449.out
    (first | subst eo22 | (injection eo22 with f1_ f2_ f3_; have f4_ := f1_.symm; have f5_ := f3_.symm; clear f1_ f2_ f3_; subst f4_; subst f5_))
    refine hK.out _ _ ⟨bc BK436.out 0, bc BK436.out 1, bc BK436.out 2⟩ (fun hHeld => ?_)
    clear hK K
    refine norm_ (a' := ?_) ?_ ?_
    rotate_left
    ·show Act.put _ (some 29) _ = _
     simp only [Act.put, sa_, s0_, ss_, i64_w, i32_w]
     rfl
    refine two_ (i := 5) (j := 6) (Ni := some 30) (Nj := some 8) #[true, true, true, true, true, true, false, false] b8_1 rfl rfl rfl rfl (two_of HT_.out (by kernel_rfl)) (by decide) (by decide) (fun K hK => ?_) (fun K hK => ?_)
    ·skip
     refine goes_ Try.func13 (by kernel_rfl) rfl #[.agg #[.slice Ao10 t426.length co10, .int .i64 t429, .int .i64 t430], .int .i64 t431, .int .i64 t432, .slice Ao22 t447.length co22] (by rfl) rfl rfl (by (try simp only [List.map_toArray, List.map_cons, List.map_nil]); first | done | rfl | (simp only [List.length_drop, List.length_take]; rfl)) ?_
     with_reducible refine (impl_BufReplace.calls k _ _ t426 t429 t430 t431 t432 _ _ t447 t450 t453 t454 t455 t458 _ ?side1 ?side2 ?side3 ?side4 A6.out).mono ?_
     (case side1 => repeat (first | exact (Kd.R_reads' HO428.out).2.2 | (with_reducible refine Kd.C_alloc ?_ _) | (with_reducible refine Kd.C_drewN ?_ _) | (with_reducible refine Kd.C_drew ?_)))
     (case side2 => exact (Kd.R_reads' HO428.out).2.1)
     (case side3 => repeat (first | exact (Kd.R_reads' HO449.out).2.2 | (with_reducible refine Kd.C_alloc ?_ _) | (with_reducible refine Kd.C_drewN ?_ _) | (with_reducible refine Kd.C_drew ?_)))
     (case side4 => exact (Kd.R_reads' HO449.out).2.1)
     rintro e w23 ⟨v451, v456, rfl, ho0, ho1, hb⟩
     refine ⟨_, rfl, ?_⟩
     have HO452 := am (Kd.R_lower (Kd.R_new' (Kd.R_new' (Kd.R_new' (Kd.R_new' (Kd.R_new' ho0 (Kd.R_lt (kr HO428.out))) (Kd.R_lt (kr HO435.out))) (Kd.R_lt (kr HO439.out))) (Kd.R_lt (kr HO444.out))) (Kd.R_lt (kr HO449.out))) (below_size (bl HB.out)))
     have HO457 := am (Kd.R_lower (Kd.R_new' (Kd.R_new' (Kd.R_new' (Kd.R_new' (Kd.R_new' ho1 (Kd.R_lt (kr HO428.out))) (Kd.R_lt (kr HO435.out))) (Kd.R_lt (kr HO439.out))) (Kd.R_lt (kr HO444.out))) (Kd.R_lt (kr HO449.out))) (below_size (bl HB.out)))
     replace HO428 := am (Kd.R_mono (Kd.R_told (Kd.R_told (Kd.R_old (kr HO428.out) hb) (Kd.R_base ho0)) (Kd.R_base ho1)) (fun _ h_ => h_.1))
     replace HO435 := am (Kd.R_mono (Kd.R_told (Kd.R_told (Kd.R_old (kr HO435.out) hb) (Kd.R_base ho0)) (Kd.R_base ho1)) (fun _ h_ => h_.1))
     replace HO439 := am (Kd.R_mono (Kd.R_told (Kd.R_told (Kd.R_old (kr HO439.out) hb) (Kd.R_base ho0)) (Kd.R_base ho1)) (fun _ h_ => h_.1))
     replace HO444 := am (Kd.R_mono (Kd.R_told (Kd.R_told (Kd.R_old (kr HO444.out) hb) (Kd.R_base ho0)) (Kd.R_base ho1)) (fun _ h_ => h_.1))
     replace HO449 := am (Kd.R_mono (Kd.R_told (Kd.R_told (Kd.R_old (kr HO449.out) hb) (Kd.R_base ho0)) (Kd.R_base ho1)) (fun _ h_ => h_.1))
     replace BK436 := am (blk_below (pk BK436.out) hb)
     replace BK446 := am (blk_below (pk BK446.out) hb)
     replace HB := am (below_step (bl HB.out) hb)
     (try clear hb)
     (try clear hb2)
     (try clear hk)
     (try clear hi)
     (try clear ho0)
     (try clear ho1)
     refine hK.out _ _ ⟨bc BK436.out 0, bc BK436.out 1, bc BK436.out 2⟩ (fun hHeld => ?_)
     clear hK K
     refine norm_ (a' := ?_) ?_ ?_
     rotate_left
     ·show Act.put _ (some 30) _ = _
      simp only [Act.put, sa_, s0_, ss_, i64_w, i32_w]
      rfl
     refine one_ (i := 6) (N := some 8) b8_0 rfl rfl (one_of HT_.out (by kernel_rfl)) (by decide) (fun K hK => ?_)
     refine box_step ?hg (N := 8) ?hd (cs := #[.slice none 0 0, .int .i64 0, .int .i64 0, .slice none 0 0, .int .i64 0]) (t := 28) ?hr ?_; (case hd => rfl); (case hg => rfl); (case hr => first | (go_simp; done) | (go_simp; rfl))
     intro gb459 hg w24 hbox hb
     replace HO428 := am (Kd.R_below (kr HO428.out) hb)
     replace HO435 := am (Kd.R_below (kr HO435.out) hb)
     replace HO439 := am (Kd.R_below (kr HO439.out) hb)
     replace HO444 := am (Kd.R_below (kr HO444.out) hb)
     replace HO449 := am (Kd.R_below (kr HO449.out) hb)
     replace HO452 := am (Kd.R_below (kr HO452.out) hb)
     replace HO457 := am (Kd.R_below (kr HO457.out) hb)
     have BK459 := am (hbox)
     have GW459 := am ((by rw [hg]; exact (below_size (bl HB.out)) : w.heap.size ≤ gb459))
     have GE459 := GW459
     replace HB := am (below_step (bl HB.out) hb)
     have NB436_459 := am ((by rw [hg]; exact Nat.ne_of_lt (blk_lt (pk BK436.out)) : gb436 ≠ gb459))
     have NB459_436 := am ((by rw [hg]; exact Nat.ne_of_gt (blk_lt (pk BK436.out)) : gb459 ≠ gb436))
     replace BK436 := am (blk_below (pk BK436.out) hb)
     have NB446_459 := am ((by rw [hg]; exact Nat.ne_of_lt (blk_lt (pk BK446.out)) : gb446 ≠ gb459))
     have NB459_446 := am ((by rw [hg]; exact Nat.ne_of_gt (blk_lt (pk BK446.out)) : gb459 ≠ gb446))
     replace BK446 := am (blk_below (pk BK446.out) hb)
     clear hb hbox hg
     refine hK.out _ _ ⟨bc BK436.out 0, bc BK436.out 1, bc BK436.out 2⟩ (fun hHeld => ?_)
     clear hK K
     refine norm_ (a' := ?_) ?_ ?_
     rotate_left
     ·show Act.put _ (some 8) _ = _
      simp only [Act.put, sa_, s0_, ss_, i64_w, i32_w]
      rfl
     exact norm_ (by simp only [putAll, Act.put, sa_, s0_, ss_]) (hCont (.slice Ao22 t447.length co22, v451, v456, gb459) _ ⟨hHeld, (kr (Kd.R_mono HO428.out (fun _ hk => ⟨hk.1.1.1.1, ⟨hk.1.1.1.2.1, ⟨hk.1.1.1.2.2, ⟨hk.1.1.2, ⟨hk.1.2, hk.2⟩⟩⟩⟩⟩))), (kr (Kd.R_mono HO435.out (fun _ hk => ⟨hk.1.1.1.1, ⟨hk.1.1.1.2.1, ⟨hk.1.1.1.2.2, ⟨hk.1.1.2, ⟨hk.1.2, hk.2⟩⟩⟩⟩⟩))), (kr (Kd.R_mono HO439.out (fun _ hk => ⟨hk.1.1.1.1, ⟨hk.1.1.1.2.1, ⟨hk.1.1.1.2.2, ⟨hk.1.1.2, ⟨hk.1.2, hk.2⟩⟩⟩⟩⟩))), (kr (Kd.R_mono HO444.out (fun _ hk => ⟨hk.1.1.1.1, ⟨hk.1.1.1.2.1, ⟨hk.1.1.1.2.2, ⟨hk.1.1.2, ⟨hk.1.2, hk.2⟩⟩⟩⟩⟩))), (kr (Kd.R_mono HO449.out (fun _ hk => ⟨hk.1.1.1.1.1.2, ⟨hk.1.1.1.1.2, ⟨hk.1.1.1.2, ⟨hk.1.1.2, ⟨hk.1.2, hk.2⟩⟩⟩⟩⟩))), (kr (Kd.R_mono HO452.out (fun _ hk => ⟨hk.1.1.1.1.2, ⟨hk.1.1.1.2, ⟨hk.1.1.2, ⟨hk.1.2, ⟨hk.2, hk.1.1.1.1.1⟩⟩⟩⟩⟩))), (kr (Kd.R_mono HO457.out (fun _ hk => ⟨hk.1.1.1.1.2, ⟨hk.1.1.1.2, ⟨hk.1.1.2, ⟨hk.1.2, ⟨hk.2, hk.1.1.1.1.1⟩⟩⟩⟩⟩))), (pk BK436.out), (pk BK446.out), (pk BK459.out), GW459.out, GE459.out, NB436_459.out, NB459_436.out, NB446_459.out, NB459_446.out, (bl HB.out)⟩)
    ·skip
     refine box_step ?hg (N := 8) ?hd (cs := #[.slice none 0 0, .int .i64 0, .int .i64 0, .slice none 0 0, .int .i64 0]) (t := 28) ?hr ?_; (case hd => rfl); (case hg => rfl); (case hr => first | (go_simp; done) | (go_simp; rfl))
     intro gb459 hg w22 hbox hb
     replace HO428 := am (Kd.R_below (kr HO428.out) hb)
     replace HO435 := am (Kd.R_below (kr HO435.out) hb)
     replace HO439 := am (Kd.R_below (kr HO439.out) hb)
     replace HO444 := am (Kd.R_below (kr HO444.out) hb)
     replace HO449 := am (Kd.R_below (kr HO449.out) hb)
     have BK459 := am (hbox)
     have GW459 := am ((by rw [hg]; exact (below_size (bl HB.out)) : w.heap.size ≤ gb459))
     have GE459 := GW459
     replace HB := am (below_step (bl HB.out) hb)
     have NB436_459 := am ((by rw [hg]; exact Nat.ne_of_lt (blk_lt (pk BK436.out)) : gb436 ≠ gb459))
     have NB459_436 := am ((by rw [hg]; exact Nat.ne_of_gt (blk_lt (pk BK436.out)) : gb459 ≠ gb436))
     replace BK436 := am (blk_below (pk BK436.out) hb)
     have NB446_459 := am ((by rw [hg]; exact Nat.ne_of_lt (blk_lt (pk BK446.out)) : gb446 ≠ gb459))
     have NB459_446 := am ((by rw [hg]; exact Nat.ne_of_gt (blk_lt (pk BK446.out)) : gb459 ≠ gb446))
     replace BK446 := am (blk_below (pk BK446.out) hb)
     clear hb hbox hg
     obtain ⟨Ao23, co23, eo23⟩ := Kd.R_slice HO449.out
     (first | subst eo23 | (injection eo23 with f1_ f2_ f3_; have f4_ := f1_.symm; have f5_ := f3_.symm; clear f1_ f2_ f3_; subst f4_; subst f5_))
     refine hK.out _ _ ⟨bc BK436.out 0, bc BK436.out 1, bc BK436.out 2⟩ (fun hHeld => ?_)
     clear hK K
     refine norm_ (a' := ?_) ?_ ?_
     rotate_left
     ·show Act.put _ (some 8) _ = _
      simp only [Act.put, sa_, s0_, ss_, i64_w, i32_w]
      rfl
     refine one_ (i := 5) (N := some 30) b8_0 rfl rfl (one_of HT_.out (by kernel_rfl)) (by decide) (fun K hK => ?_)
     refine goes_ Try.func13 (by kernel_rfl) rfl #[.agg #[.slice Ao10 t426.length co10, .int .i64 t429, .int .i64 t430], .int .i64 t431, .int .i64 t432, .slice Ao23 t447.length co23] (by rfl) rfl rfl (by (try simp only [List.map_toArray, List.map_cons, List.map_nil]); first | done | rfl | (simp only [List.length_drop, List.length_take]; rfl)) ?_
     with_reducible refine (impl_BufReplace.calls k _ _ t426 t429 t430 t431 t432 _ _ t447 t450 t453 t454 t455 t458 _ ?side1 ?side2 ?side3 ?side4 A6.out).mono ?_
     (case side1 => repeat (first | exact (Kd.R_reads' HO428.out).2.2 | (with_reducible refine Kd.C_alloc ?_ _) | (with_reducible refine Kd.C_drewN ?_ _) | (with_reducible refine Kd.C_drew ?_)))
     (case side2 => exact (Kd.R_reads' HO428.out).2.1)
     (case side3 => repeat (first | exact (Kd.R_reads' HO449.out).2.2 | (with_reducible refine Kd.C_alloc ?_ _) | (with_reducible refine Kd.C_drewN ?_ _) | (with_reducible refine Kd.C_drew ?_)))
     (case side4 => exact (Kd.R_reads' HO449.out).2.1)
     rintro e w24 ⟨v451, v456, rfl, ho0, ho1, hb⟩
     refine ⟨_, rfl, ?_⟩
     have HO452 := am (Kd.R_lower (Kd.R_new' (Kd.R_new' (Kd.R_new' (Kd.R_new' (Kd.R_new' ho0 (Kd.R_lt (kr HO428.out))) (Kd.R_lt (kr HO435.out))) (Kd.R_lt (kr HO439.out))) (Kd.R_lt (kr HO444.out))) (Kd.R_lt (kr HO449.out))) (below_size (bl HB.out)))
     have HO457 := am (Kd.R_lower (Kd.R_new' (Kd.R_new' (Kd.R_new' (Kd.R_new' (Kd.R_new' ho1 (Kd.R_lt (kr HO428.out))) (Kd.R_lt (kr HO435.out))) (Kd.R_lt (kr HO439.out))) (Kd.R_lt (kr HO444.out))) (Kd.R_lt (kr HO449.out))) (below_size (bl HB.out)))
     replace HO428 := am (Kd.R_mono (Kd.R_told (Kd.R_told (Kd.R_old (kr HO428.out) hb) (Kd.R_base ho0)) (Kd.R_base ho1)) (fun _ h_ => h_.1))
     replace HO435 := am (Kd.R_mono (Kd.R_told (Kd.R_told (Kd.R_old (kr HO435.out) hb) (Kd.R_base ho0)) (Kd.R_base ho1)) (fun _ h_ => h_.1))
     replace HO439 := am (Kd.R_mono (Kd.R_told (Kd.R_told (Kd.R_old (kr HO439.out) hb) (Kd.R_base ho0)) (Kd.R_base ho1)) (fun _ h_ => h_.1))
     replace HO444 := am (Kd.R_mono (Kd.R_told (Kd.R_told (Kd.R_old (kr HO444.out) hb) (Kd.R_base ho0)) (Kd.R_base ho1)) (fun _ h_ => h_.1))
     replace HO449 := am (Kd.R_mono (Kd.R_told (Kd.R_told (Kd.R_old (kr HO449.out) hb) (Kd.R_base ho0)) (Kd.R_base ho1)) (fun _ h_ => h_.1))
     replace BK436 := am (blk_below (pk BK436.out) hb)
     replace BK446 := am (blk_below (pk BK446.out) hb)
     replace BK459 := am (blk_below (pk BK459.out) hb)
     replace HB := am (below_step (bl HB.out) hb)
     (try clear hb)
     (try clear hb2)
     (try clear hk)
     (try clear hi)
     (try clear ho0)
     (try clear ho1)
     refine hK.out _ _ ⟨bc BK436.out 0, bc BK436.out 1, bc BK436.out 2⟩ (fun hHeld => ?_)
     clear hK K
     refine norm_ (a' := ?_) ?_ ?_
     rotate_left
     ·show Act.put _ (some 30) _ = _
      simp only [Act.put, sa_, s0_, ss_, i64_w, i32_w]
      rfl
     exact norm_ (by simp only [putAll, Act.put, sa_, s0_, ss_]) (hCont (.slice Ao23 t447.length co23, v451, v456, gb459) _ ⟨hHeld, (kr (Kd.R_mono HO428.out (fun _ hk => ⟨hk.1.1.1.1, ⟨hk.1.1.1.2.1, ⟨hk.1.1.1.2.2, ⟨hk.1.1.2, ⟨hk.1.2, hk.2⟩⟩⟩⟩⟩))), (kr (Kd.R_mono HO435.out (fun _ hk => ⟨hk.1.1.1.1, ⟨hk.1.1.1.2.1, ⟨hk.1.1.1.2.2, ⟨hk.1.1.2, ⟨hk.1.2, hk.2⟩⟩⟩⟩⟩))), (kr (Kd.R_mono HO439.out (fun _ hk => ⟨hk.1.1.1.1, ⟨hk.1.1.1.2.1, ⟨hk.1.1.1.2.2, ⟨hk.1.1.2, ⟨hk.1.2, hk.2⟩⟩⟩⟩⟩))), (kr (Kd.R_mono HO444.out (fun _ hk => ⟨hk.1.1.1.1, ⟨hk.1.1.1.2.1, ⟨hk.1.1.1.2.2, ⟨hk.1.1.2, ⟨hk.1.2, hk.2⟩⟩⟩⟩⟩))), (kr (Kd.R_mono HO449.out (fun _ hk => ⟨hk.1.1.1.1.1.2, ⟨hk.1.1.1.1.2, ⟨hk.1.1.1.2, ⟨hk.1.1.2, ⟨hk.1.2, hk.2⟩⟩⟩⟩⟩))), (kr (Kd.R_mono HO452.out (fun _ hk => ⟨hk.1.1.1.1.2, ⟨hk.1.1.1.2, ⟨hk.1.1.2, ⟨hk.1.2, ⟨hk.2, hk.1.1.1.1.1⟩⟩⟩⟩⟩))), (kr (Kd.R_mono HO457.out (fun _ hk => ⟨hk.1.1.1.1.2, ⟨hk.1.1.1.2, ⟨hk.1.1.2, ⟨hk.1.2, ⟨hk.2, hk.1.1.1.1.1⟩⟩⟩⟩⟩))), (pk BK436.out), (pk BK446.out), (pk BK459.out), GW459.out, GE459.out, NB436_459.out, NB459_436.out, NB446_459.out, NB459_446.out, (bl HB.out)⟩)
   ·skip
    refine box_step ?hg (N := 8) ?hd (cs := #[.slice none 0 0, .int .i64 0, .int .i64 0, .slice none 0 0, .int .i64 0]) (t := 28) ?hr ?_; (case hd => rfl); (case hg => rfl); (case hr => first | (go_simp; done) | (go_simp; rfl))
    intro gb459 hg w21 hbox hb
    replace HO428 := am (Kd.R_below (kr HO428.out) hb)
    replace HO435 := am (Kd.R_below (kr HO435.out) hb)
    replace HO439 := am (Kd.R_below (kr HO439.out) hb)
    replace HO444 := am (Kd.R_below (kr HO444.out) hb)
    have BK459 := am (hbox)
    have GW459 := am ((by rw [hg]; exact (below_size (bl HB.out)) : w.heap.size ≤ gb459))
    have GE459 := GW459
    replace HB := am (below_step (bl HB.out) hb)
    have NB436_459 := am ((by rw [hg]; exact Nat.ne_of_lt (blk_lt (pk BK436.out)) : gb436 ≠ gb459))
    have NB459_436 := am ((by rw [hg]; exact Nat.ne_of_gt (blk_lt (pk BK436.out)) : gb459 ≠ gb436))
    replace BK436 := am (blk_below (pk BK436.out) hb)
    have NB446_459 := am ((by rw [hg]; exact Nat.ne_of_lt (blk_lt (pk BK446.out)) : gb446 ≠ gb459))
    have NB459_446 := am ((by rw [hg]; exact Nat.ne_of_gt (blk_lt (pk BK446.out)) : gb459 ≠ gb446))
    replace BK446 := am (blk_below (pk BK446.out) hb)
    clear hb hbox hg
    refine hK.out _ _ ⟨bc BK436.out 0, bc BK436.out 1, bc BK436.out 2⟩ (fun hHeld => ?_)
    clear hK K
    refine norm_ (a' := ?_) ?_ ?_
    rotate_left
    ·show Act.put _ (some 8) _ = _
     simp only [Act.put, sa_, s0_, ss_, i64_w, i32_w]
     rfl
    refine one_ (i := 4) (N := some 29) b8_1 rfl rfl (one_of HT_.out (by kernel_rfl)) (by decide) (fun K hK => ?_)
    refine goes_ Try.func37 (by kernel_rfl) rfl #[.slice Ao12 t433.length co12] (by rfl) rfl rfl (by (try simp only [List.map_toArray, List.map_cons, List.map_nil]); first | done | rfl | (simp only [List.length_drop, List.length_take]; rfl)) ?_
    with_reducible refine (laws_lwCopy.calls _ _ t433 t447 _ ?side1 ?side2 A5.out).mono ?_
    (case side1 => repeat (first | exact (Kd.R_reads' HO435.out).2.2 | (with_reducible refine Kd.C_alloc ?_ _) | (with_reducible refine Kd.C_drewN ?_ _) | (with_reducible refine Kd.C_drew ?_)))
    (case side2 => exact (Kd.R_reads' HO435.out).2.1)
    rintro e w22 ⟨v448, rfl, ho0, hb⟩
    refine ⟨_, rfl, ?_⟩
    have HO449 := am (Kd.R_lower (Kd.R_new' (Kd.R_new' (Kd.R_new' (Kd.R_new' ho0 (Kd.R_lt (kr HO428.out))) (Kd.R_lt (kr HO435.out))) (Kd.R_lt (kr HO439.out))) (Kd.R_lt (kr HO444.out))) (below_size (bl HB.out)))
    replace HO428 := am (Kd.R_elder' (kr HO428.out) (Kd.R_base ho0) hb)
    replace HO435 := am (Kd.R_elder' (kr HO435.out) (Kd.R_base ho0) hb)
    replace HO439 := am (Kd.R_elder' (kr HO439.out) (Kd.R_base ho0) hb)
    replace HO444 := am (Kd.R_elder' (kr HO444.out) (Kd.R_base ho0) hb)
    replace BK436 := am (blk_below (pk BK436.out) hb)
    replace BK446 := am (blk_below (pk BK446.out) hb)
    replace BK459 := am (blk_below (pk BK459.out) hb)
    replace HB := am (below_step (bl HB.out) hb)
    (try clear hb)
    (try clear hb2)
    (try clear hk)
    (try clear hi)
    (try clear ho0)
    obtain ⟨Ao23, co23, eo23⟩ := Kd.R_slice HO449.out
    (first | subst eo23 | (injection eo23 with f1_ f2_ f3_; have f4_ := f1_.symm; have f5_ := f3_.symm; clear f1_ f2_ f3_; subst f4_; subst f5_))
    refine hK.out _ _ ⟨bc BK436.out 0, bc BK436.out 1, bc BK436.out 2⟩ (fun hHeld => ?_)
    clear hK K
    refine norm_ (a' := ?_) ?_ ?_
    rotate_left
    ·show Act.put _ (some 29) _ = _
     simp only [Act.put, sa_, s0_, ss_, i64_w, i32_w]
     rfl
    refine one_ (i := 5) (N := some 30) b8_0 rfl rfl (one_of HT_.out (by kernel_rfl)) (by decide) (fun K hK => ?_)
    refine goes_ Try.func13 (by kernel_rfl) rfl #[.agg #[.slice Ao10 t426.length co10, .int .i64 t429, .int .i64 t430], .int .i64 t431, .int .i64 t432, .slice Ao23 t447.length co23] (by rfl) rfl rfl (by (try simp only [List.map_toArray, List.map_cons, List.map_nil]); first | done | rfl | (simp only [List.length_drop, List.length_take]; rfl)) ?_
    with_reducible refine (impl_BufReplace.calls k _ _ t426 t429 t430 t431 t432 _ _ t447 t450 t453 t454 t455 t458 _ ?side1 ?side2 ?side3 ?side4 A6.out).mono ?_
    (case side1 => repeat (first | exact (Kd.R_reads' HO428.out).2.2 | (with_reducible refine Kd.C_alloc ?_ _) | (with_reducible refine Kd.C_drewN ?_ _) | (with_reducible refine Kd.C_drew ?_)))
    (case side2 => exact (Kd.R_reads' HO428.out).2.1)
    (case side3 => repeat (first | exact (Kd.R_reads' HO449.out).2.2 | (with_reducible refine Kd.C_alloc ?_ _) | (with_reducible refine Kd.C_drewN ?_ _) | (with_reducible refine Kd.C_drew ?_)))
    (case side4 => exact (Kd.R_reads' HO449.out).2.1)
    rintro e w24 ⟨v451, v456, rfl, ho0, ho1, hb⟩
    refine ⟨_, rfl, ?_⟩
    have HO452 := am (Kd.R_lower (Kd.R_new' (Kd.R_new' (Kd.R_new' (Kd.R_new' (Kd.R_new' ho0 (Kd.R_lt (kr HO428.out))) (Kd.R_lt (kr HO435.out))) (Kd.R_lt (kr HO439.out))) (Kd.R_lt (kr HO444.out))) (Kd.R_lt (kr HO449.out))) (below_size (bl HB.out)))
    have HO457 := am (Kd.R_lower (Kd.R_new' (Kd.R_new' (Kd.R_new' (Kd.R_new' (Kd.R_new' ho1 (Kd.R_lt (kr HO428.out))) (Kd.R_lt (kr HO435.out))) (Kd.R_lt (kr HO439.out))) (Kd.R_lt (kr HO444.out))) (Kd.R_lt (kr HO449.out))) (below_size (bl HB.out)))
    replace HO428 := am (Kd.R_mono (Kd.R_told (Kd.R_told (Kd.R_old (kr HO428.out) hb) (Kd.R_base ho0)) (Kd.R_base ho1)) (fun _ h_ => h_.1))
    replace HO435 := am (Kd.R_mono (Kd.R_told (Kd.R_told (Kd.R_old (kr HO435.out) hb) (Kd.R_base ho0)) (Kd.R_base ho1)) (fun _ h_ => h_.1))
    replace HO439 := am (Kd.R_mono (Kd.R_told (Kd.R_told (Kd.R_old (kr HO439.out) hb) (Kd.R_base ho0)) (Kd.R_base ho1)) (fun _ h_ => h_.1))
    replace HO444 := am (Kd.R_mono (Kd.R_told (Kd.R_told (Kd.R_old (kr HO444.out) hb) (Kd.R_base ho0)) (Kd.R_base ho1)) (fun _ h_ => h_.1))
    replace HO449 := am (Kd.R_mono (Kd.R_told (Kd.R_told (Kd.R_old (kr HO449.out) hb) (Kd.R_base ho0)) (Kd.R_base ho1)) (fun _ h_ => h_.1))
    replace BK436 := am (blk_below (pk BK436.out) hb)
    replace BK446 := am (blk_below (pk BK446.out) hb)
    replace BK459 := am (blk_below (pk BK459.out) hb)
    replace HB := am (below_step (bl HB.out) hb)
    (try clear hb)
    (try clear hb2)
    (try clear hk)
    (try clear hi)
    (try clear ho0)
    (try clear ho1)
    refine hK.out _ _ ⟨bc BK436.out 0, bc BK436.out 1, bc BK436.out 2⟩ (fun hHeld => ?_)
    clear hK K
    refine norm_ (a' := ?_) ?_ ?_
    rotate_left
    ·show Act.put _ (some 30) _ = _
     simp only [Act.put, sa_, s0_, ss_, i64_w, i32_w]
     rfl
    exact norm_ (by simp only [putAll, Act.put, sa_, s0_, ss_]) (hCont (.slice Ao23 t447.length co23, v451, v456, gb459) _ ⟨hHeld, (kr (Kd.R_mono HO428.out (fun _ hk => ⟨hk.1.1.1.1, ⟨hk.1.1.1.2.1, ⟨hk.1.1.1.2.2, ⟨hk.1.1.2, ⟨hk.1.2, hk.2⟩⟩⟩⟩⟩))), (kr (Kd.R_mono HO435.out (fun _ hk => ⟨hk.1.1.1.1, ⟨hk.1.1.1.2.1, ⟨hk.1.1.1.2.2, ⟨hk.1.1.2, ⟨hk.1.2, hk.2⟩⟩⟩⟩⟩))), (kr (Kd.R_mono HO439.out (fun _ hk => ⟨hk.1.1.1.1, ⟨hk.1.1.1.2.1, ⟨hk.1.1.1.2.2, ⟨hk.1.1.2, ⟨hk.1.2, hk.2⟩⟩⟩⟩⟩))), (kr (Kd.R_mono HO444.out (fun _ hk => ⟨hk.1.1.1.1, ⟨hk.1.1.1.2.1, ⟨hk.1.1.1.2.2, ⟨hk.1.1.2, ⟨hk.1.2, hk.2⟩⟩⟩⟩⟩))), (kr (Kd.R_mono HO449.out (fun _ hk => ⟨hk.1.1.1.1.1.2, ⟨hk.1.1.1.1.2, ⟨hk.1.1.1.2, ⟨hk.1.1.2, ⟨hk.1.2, hk.2⟩⟩⟩⟩⟩))), (kr (Kd.R_mono HO452.out (fun _ hk => ⟨hk.1.1.1.1.2, ⟨hk.1.1.1.2, ⟨hk.1.1.2, ⟨hk.1.2, ⟨hk.2, hk.1.1.1.1.1⟩⟩⟩⟩⟩))), (kr (Kd.R_mono HO457.out (fun _ hk => ⟨hk.1.1.1.1.2, ⟨hk.1.1.1.2, ⟨hk.1.1.2, ⟨hk.1.2, ⟨hk.2, hk.1.1.1.1.1⟩⟩⟩⟩⟩))), (pk BK436.out), (pk BK446.out), (pk BK459.out), GW459.out, GE459.out, NB436_459.out, NB459_436.out, NB446_459.out, NB459_446.out, (bl HB.out)⟩)
  rintro ⟨v448, v451, v456, gb459⟩ w25 ⟨hS_, h0_, h1_, h2_, h3_, h4_, h5_, h6_, h7_, h8_, h9_, h10_, h11_, h12_, h13_, h14_, h15_, h16_⟩
  replace HO428 : Aside0 (Kd.R (Kd.int .i64) 2 w25 w.heap.size (fun k_ => some k_ ≠ (.slice Ao12 t433.length co12 : Value).ownBlock ∧ some k_ ≠ (.slice Ao15 t437.length co15 : Value).ownBlock ∧ some k_ ≠ (.slice Ao18 t442.length co18 : Value).ownBlock ∧ some k_ ≠ (v448 : Value).ownBlock ∧ some k_ ≠ (v451 : Value).ownBlock ∧ some k_ ≠ (v456 : Value).ownBlock) (.slice Ao10 t426.length co10) t426) := ⟨h0_⟩
  replace HO435 : Aside0 (Kd.R (Kd.int .i64) 2 w25 w.heap.size (fun k_ => some k_ ≠ (.slice Ao10 t426.length co10 : Value).ownBlock ∧ some k_ ≠ (.slice Ao15 t437.length co15 : Value).ownBlock ∧ some k_ ≠ (.slice Ao18 t442.length co18 : Value).ownBlock ∧ some k_ ≠ (v448 : Value).ownBlock ∧ some k_ ≠ (v451 : Value).ownBlock ∧ some k_ ≠ (v456 : Value).ownBlock) (.slice Ao12 t433.length co12) t433) := ⟨h1_⟩
  replace HO439 : Aside0 (Kd.R (Kd.int .i64) 2 w25 w.heap.size (fun k_ => some k_ ≠ (.slice Ao10 t426.length co10 : Value).ownBlock ∧ some k_ ≠ (.slice Ao12 t433.length co12 : Value).ownBlock ∧ some k_ ≠ (.slice Ao18 t442.length co18 : Value).ownBlock ∧ some k_ ≠ (v448 : Value).ownBlock ∧ some k_ ≠ (v451 : Value).ownBlock ∧ some k_ ≠ (v456 : Value).ownBlock) (.slice Ao15 t437.length co15) t437) := ⟨h2_⟩
  replace HO444 : Aside0 (Kd.R (Kd.int .i64) 2 w25 w.heap.size (fun k_ => some k_ ≠ (.slice Ao10 t426.length co10 : Value).ownBlock ∧ some k_ ≠ (.slice Ao12 t433.length co12 : Value).ownBlock ∧ some k_ ≠ (.slice Ao15 t437.length co15 : Value).ownBlock ∧ some k_ ≠ (v448 : Value).ownBlock ∧ some k_ ≠ (v451 : Value).ownBlock ∧ some k_ ≠ (v456 : Value).ownBlock) (.slice Ao18 t442.length co18) t442) := ⟨h3_⟩
  have HO449 : Aside0 (Kd.R (Kd.int .i64) 2 w25 w.heap.size (fun k_ => some k_ ≠ (.slice Ao10 t426.length co10 : Value).ownBlock ∧ some k_ ≠ (.slice Ao12 t433.length co12 : Value).ownBlock ∧ some k_ ≠ (.slice Ao15 t437.length co15 : Value).ownBlock ∧ some k_ ≠ (.slice Ao18 t442.length co18 : Value).ownBlock ∧ some k_ ≠ (v451 : Value).ownBlock ∧ some k_ ≠ (v456 : Value).ownBlock) v448 t447) := ⟨h4_⟩
  have HO452 : Aside0 (Kd.R (Kd.int .i64) 2 w25 w.heap.size (fun k_ => some k_ ≠ (.slice Ao10 t426.length co10 : Value).ownBlock ∧ some k_ ≠ (.slice Ao12 t433.length co12 : Value).ownBlock ∧ some k_ ≠ (.slice Ao15 t437.length co15 : Value).ownBlock ∧ some k_ ≠ (.slice Ao18 t442.length co18 : Value).ownBlock ∧ some k_ ≠ (v448 : Value).ownBlock ∧ some k_ ≠ (v456 : Value).ownBlock) v451 t450) := ⟨h5_⟩
  have HO457 : Aside0 (Kd.R (Kd.int .i64) 2 w25 w.heap.size (fun k_ => some k_ ≠ (.slice Ao10 t426.length co10 : Value).ownBlock ∧ some k_ ≠ (.slice Ao12 t433.length co12 : Value).ownBlock ∧ some k_ ≠ (.slice Ao15 t437.length co15 : Value).ownBlock ∧ some k_ ≠ (.slice Ao18 t442.length co18 : Value).ownBlock ∧ some k_ ≠ (v448 : Value).ownBlock ∧ some k_ ≠ (v451 : Value).ownBlock) v456 t455) := ⟨h6_⟩
  replace BK436 : Aside0 (w25.heap[gb436]? = some (.cells #[.slice Ao10 t426.length co10, .int .i64 t429, .int .i64 t430] 26 (0, 0))) := ⟨h7_⟩
  replace BK446 : Aside0 (w25.heap[gb446]? = some (.cells #[.slice Ao15 t437.length co15, .int .i64 t440, .int .i64 t441, .slice Ao18 t442.length co18, .int .i64 t445] 28 (0, 0))) := ⟨h8_⟩
  have BK459 : Aside0 (w25.heap[gb459]? = some (.cells #[.slice none 0 0, .int .i64 0, .int .i64 0, .slice none 0 0, .int .i64 0] 28 (0, 0))) := ⟨h9_⟩
  have GW459 : Aside0 (w.heap.size ≤ gb459) := ⟨h10_⟩
  have GE459 : Aside0 (w.heap.size ≤ gb459) := ⟨h11_⟩
  have NB436_459 : Aside0 (gb436 ≠ gb459) := ⟨h12_⟩
  have NB459_436 : Aside0 (gb459 ≠ gb436) := ⟨h13_⟩
  have NB446_459 : Aside0 (gb446 ≠ gb459) := ⟨h14_⟩
  have NB459_446 : Aside0 (gb459 ≠ gb446) := ⟨h15_⟩
  replace HB : Aside0 (Below w.heap.size w w25) := ⟨h16_⟩
  clear h0_ h1_ h2_ h3_ h4_ h5_ h6_ h7_ h8_ h9_ h10_ h11_ h12_ h13_ h14_ h15_ h16_
  have hHeld : w25.cell? ⟨gb436, 0, none⟩ = some (.slice Ao10 t426.length co10) ∧ w25.cell? ⟨gb436, 1, none⟩ = some (.int .i64 t429) ∧ w25.cell? ⟨gb436, 2, none⟩ = some (.int .i64 t430) := hS_
  obtain ⟨Ao26, co26, eo26⟩ := Kd.R_slice HO452.out
  (first | subst eo26 | (injection eo26 with f1_ f2_ f3_; have f4_ := f1_.symm; have f5_ := f3_.symm; clear f1_ f2_ f3_; subst f4_; subst f5_))
  obtain ⟨Ao30, co30, eo30⟩ := Kd.R_slice HO457.out
  (first | subst eo30 | (injection eo30 with f1_ f2_ f3_; have f4_ := f1_.symm; have f5_ := f3_.symm; clear f1_ f2_ f3_; subst f4_; subst f5_))
  refine norm_ (a' := ?_) ?_ ?_
  rotate_left
  ·simp only [putAll, Act.put, sa_, s0_, ss_]
   rfl
  refine one_ (i := 7) (N := none) #[true, true, true, true, true, true, true, true] rfl rfl (one_of HT_.out (by kernel_rfl)) (by decide) (fun K hK => ?_)
  have hs27 : w25.cell? ⟨gb459, 0, none⟩ = some (.slice none 0 0) := bc BK459.out 0
  have hfs27 := blk_frozen BK459.out 0
  have hns27_0 := NB436_459.out
  have hns27_1 := NB446_459.out
  have hms27_0 := NB459_436.out
  have hms27_1 := NB459_446.out
  have hs28 : w25.cell? ⟨gb459, 1, none⟩ = some (.int .i64 0) := bc BK459.out 1
  have hfs28 := blk_frozen BK459.out 1
  have hns28_0 := NB436_459.out
  have hns28_1 := NB446_459.out
  have hms28_0 := NB459_436.out
  have hms28_1 := NB459_446.out
  have hs29 : w25.cell? ⟨gb459, 2, none⟩ = some (.int .i64 0) := bc BK459.out 2
  have hfs29 := blk_frozen BK459.out 2
  have hns29_0 := NB436_459.out
  have hns29_1 := NB446_459.out
  have hms29_0 := NB459_436.out
  have hms29_1 := NB459_446.out
  have hs31 : w25.cell? ⟨gb459, 3, none⟩ = some (.slice none 0 0) := bc BK459.out 3
  have hfs31 := blk_frozen BK459.out 3
  have hns31_0 := NB436_459.out
  have hns31_1 := NB446_459.out
  have hms31_0 := NB459_436.out
  have hms31_1 := NB459_446.out
  have hs32 : w25.cell? ⟨gb459, 4, none⟩ = some (.int .i64 0) := bc BK459.out 4
  have hfs32 := blk_frozen BK459.out 4
  have hns32_0 := NB436_459.out
  have hns32_1 := NB446_459.out
  have hms32_0 := NB459_436.out
  have hms32_1 := NB459_446.out
  refine skip_ (w1 := ?_) (by rfl) rfl ?_ ?_
  rotate_left
  ·go_simp
   rfl
  refine hK.out _ _ ⟨((cell_far (p := ⟨gb459, _, none⟩) NB436_459.out _).trans (((cell_far (p := ⟨gb459, _, none⟩) NB436_459.out _).trans (((cell_far (p := ⟨gb459, _, none⟩) NB436_459.out _).trans (((cell_far (p := ⟨gb459, _, none⟩) NB436_459.out _).trans (((cell_far (p := ⟨gb459, _, none⟩) NB436_459.out _).trans (hHeld.1)))))))))), ((cell_far (p := ⟨gb459, _, none⟩) NB436_459.out _).trans (((cell_far (p := ⟨gb459, _, none⟩) NB436_459.out _).trans (((cell_far (p := ⟨gb459, _, none⟩) NB436_459.out _).trans (((cell_far (p := ⟨gb459, _, none⟩) NB436_459.out _).trans (((cell_far (p := ⟨gb459, _, none⟩) NB436_459.out _).trans (hHeld.2.1)))))))))), ((cell_far (p := ⟨gb459, _, none⟩) NB436_459.out _).trans (((cell_far (p := ⟨gb459, _, none⟩) NB436_459.out _).trans (((cell_far (p := ⟨gb459, _, none⟩) NB436_459.out _).trans (((cell_far (p := ⟨gb459, _, none⟩) NB436_459.out _).trans (((cell_far (p := ⟨gb459, _, none⟩) NB436_459.out _).trans (hHeld.2.2))))))))))⟩ (fun hHeld => ?_)
  clear hK K
  refine done_ (done_of HT_.out (by kernel_rfl)) ?_
  have hnb33 := NB459_436.out
  have hnc33 := NB436_459.out
  have hnb34 := NB459_446.out
  have hnc34 := NB446_459.out
  have hcz35_0 : w25.cell? ⟨gb459, 0, none⟩ = some (.slice none 0 0) := bc BK459.out 0
  have hcz35_1 : w25.cell? ⟨gb459, 1, none⟩ = some (.int .i64 0) := bc BK459.out 1
  have hcz35_2 : w25.cell? ⟨gb459, 2, none⟩ = some (.int .i64 0) := bc BK459.out 2
  have hcz35_3 : w25.cell? ⟨gb459, 3, none⟩ = some (.slice none 0 0) := bc BK459.out 3
  have hcz35_4 : w25.cell? ⟨gb459, 4, none⟩ = some (.int .i64 0) := bc BK459.out 4
  have hfz35_0 := blk_frozen BK459.out 0
  have hfz35_1 := blk_frozen BK459.out 1
  have hfz35_2 := blk_frozen BK459.out 2
  have hfz35_3 := blk_frozen BK459.out 3
  have hfz35_4 := blk_frozen BK459.out 4
  have hcz36_0 : w25.cell? ⟨gb446, 0, none⟩ = some (.slice Ao15 t437.length co15) := bc BK446.out 0
  have hcz36_1 : w25.cell? ⟨gb446, 1, none⟩ = some (.int .i64 t440) := bc BK446.out 1
  have hcz36_2 : w25.cell? ⟨gb446, 2, none⟩ = some (.int .i64 t441) := bc BK446.out 2
  have hcz36_3 : w25.cell? ⟨gb446, 3, none⟩ = some (.slice Ao18 t442.length co18) := bc BK446.out 3
  have hcz36_4 : w25.cell? ⟨gb446, 4, none⟩ = some (.int .i64 t445) := bc BK446.out 4
  have hfz36_0 := blk_frozen BK446.out 0
  have hfz36_1 := blk_frozen BK446.out 1
  have hfz36_2 := blk_frozen BK446.out 2
  have hfz36_3 := blk_frozen BK446.out 3
  have hfz36_4 := blk_frozen BK446.out 4
  go_upto_if 35 with (fail)
  go_cut [] (fun wc => ∃ (kq : Nat), Aside0 (laws_FnReplace.j0 kq t431 t432 t433 t426 t429 t430 t437 t440 t441 t442 t445 t450 t453 t454 t455 t458 = some r) ∧ Aside0 (kq ≤ k) ∧ Aside0 (Kd.R (Kd.int .i64) 2 wc w.heap.size (fun k_ => some k_ ≠ ((.slice Ao10 t426.length co10) : Value).ownBlock ∧ some k_ ≠ ((.slice Ao15 t437.length co15) : Value).ownBlock ∧ some k_ ≠ ((.slice Ao18 t442.length co18) : Value).ownBlock ∧ some k_ ≠ ((.slice Ao26 t450.length co26) : Value).ownBlock ∧ some k_ ≠ ((.slice Ao30 t455.length co30) : Value).ownBlock) (.slice Ao12 t433.length co12) t433) ∧ Aside0 (Kd.R (Kd.int .i64) 2 wc w.heap.size (fun k_ => some k_ ≠ ((.slice Ao12 t433.length co12) : Value).ownBlock ∧ some k_ ≠ ((.slice Ao15 t437.length co15) : Value).ownBlock ∧ some k_ ≠ ((.slice Ao18 t442.length co18) : Value).ownBlock ∧ some k_ ≠ ((.slice Ao26 t450.length co26) : Value).ownBlock ∧ some k_ ≠ ((.slice Ao30 t455.length co30) : Value).ownBlock) (.slice Ao10 t426.length co10) t426) ∧ Aside0 (Kd.R (Kd.int .i64) 2 wc w.heap.size (fun k_ => some k_ ≠ ((.slice Ao12 t433.length co12) : Value).ownBlock ∧ some k_ ≠ ((.slice Ao10 t426.length co10) : Value).ownBlock ∧ some k_ ≠ ((.slice Ao18 t442.length co18) : Value).ownBlock ∧ some k_ ≠ ((.slice Ao26 t450.length co26) : Value).ownBlock ∧ some k_ ≠ ((.slice Ao30 t455.length co30) : Value).ownBlock) (.slice Ao15 t437.length co15) t437) ∧ Aside0 (Kd.R (Kd.int .i64) 2 wc w.heap.size (fun k_ => some k_ ≠ ((.slice Ao12 t433.length co12) : Value).ownBlock ∧ some k_ ≠ ((.slice Ao10 t426.length co10) : Value).ownBlock ∧ some k_ ≠ ((.slice Ao15 t437.length co15) : Value).ownBlock ∧ some k_ ≠ ((.slice Ao26 t450.length co26) : Value).ownBlock ∧ some k_ ≠ ((.slice Ao30 t455.length co30) : Value).ownBlock) (.slice Ao18 t442.length co18) t442) ∧ Aside0 (Kd.R (Kd.int .i64) 2 wc w.heap.size (fun k_ => some k_ ≠ ((.slice Ao12 t433.length co12) : Value).ownBlock ∧ some k_ ≠ ((.slice Ao10 t426.length co10) : Value).ownBlock ∧ some k_ ≠ ((.slice Ao15 t437.length co15) : Value).ownBlock ∧ some k_ ≠ ((.slice Ao18 t442.length co18) : Value).ownBlock ∧ some k_ ≠ ((.slice Ao30 t455.length co30) : Value).ownBlock) (.slice Ao26 t450.length co26) t450) ∧ Aside0 (Kd.R (Kd.int .i64) 2 wc w.heap.size (fun k_ => some k_ ≠ ((.slice Ao12 t433.length co12) : Value).ownBlock ∧ some k_ ≠ ((.slice Ao10 t426.length co10) : Value).ownBlock ∧ some k_ ≠ ((.slice Ao15 t437.length co15) : Value).ownBlock ∧ some k_ ≠ ((.slice Ao18 t442.length co18) : Value).ownBlock ∧ some k_ ≠ ((.slice Ao26 t450.length co26) : Value).ownBlock) (.slice Ao30 t455.length co30) t455) ∧ Aside0 (wc.heap[gb436]? = some (.cells #[(.slice Ao10 t426.length co10), .int .i64 t429, .int .i64 t430] 26 (0, 0))) ∧ Aside0 (wc.heap[gb446]? = some (.cells #[(.slice Ao15 t437.length co15), .int .i64 t440, .int .i64 t441, (.slice Ao18 t442.length co18), .int .i64 t445] 28 (0, 0))) ∧ Aside0 (wc.heap[gb459]? = some (.cells #[(.slice Ao26 t450.length co26), .int .i64 t453, .int .i64 t454, (.slice Ao30 t455.length co30), .int .i64 t458] 28 (0, 0))) ∧ Aside0 (Below w.heap.size w wc))
  case first =>
   have H := HC7.out
   clear HC7
   by_cases c37 : t458 = t445
   ·rw [if_pos c37] at H
    have c37b0 : (t458 == t445) = true := beq_iff_eq.mpr c37
    have c37b1 : (t458 != t445) = false := bne_eq_false_iff_eq.mpr c37
    clear c37
    (first | rw [c37b0] | (simp only [i64_w, i32_w]; rw [c37b0]) | (have e9_ := c37b0; unfold bne at e9_; rw [e9_]) | skip)
    have H' := Aside0.mk H
    clear H
    go_wp2
    go_meet
    case rel => exact ⟨_, H', ⟨by first | omega | exact Nat.le_refl _⟩, ⟨kr (Kd.R_mono (Kd.R_far (p := ⟨gb459, 4, none⟩) (Kd.R_far (p := ⟨gb459, 3, none⟩) (Kd.R_far (p := ⟨gb459, 2, none⟩) (Kd.R_far (p := ⟨gb459, 1, none⟩) (Kd.R_far (p := ⟨gb459, 0, none⟩) (Kd.R_types HO435.out BK459.out (by decide)) (fun _ hk => hk.2) (.slice Ao26 t450.length co26)) (fun _ hk => hk.2) (.int .i64 t453)) (fun _ hk => hk.2) (.int .i64 t454)) (fun _ hk => hk.2) (.slice Ao30 t455.length co30)) (fun _ hk => hk.2) (.int .i64 t458)) (fun _ hk => ⟨hk.1.1, ⟨hk.1.2.1, ⟨hk.1.2.2.1, ⟨hk.1.2.2.2.2.1, hk.1.2.2.2.2.2⟩⟩⟩⟩))⟩, ⟨kr (Kd.R_mono (Kd.R_far (p := ⟨gb459, 4, none⟩) (Kd.R_far (p := ⟨gb459, 3, none⟩) (Kd.R_far (p := ⟨gb459, 2, none⟩) (Kd.R_far (p := ⟨gb459, 1, none⟩) (Kd.R_far (p := ⟨gb459, 0, none⟩) (Kd.R_types HO428.out BK459.out (by decide)) (fun _ hk => hk.2) (.slice Ao26 t450.length co26)) (fun _ hk => hk.2) (.int .i64 t453)) (fun _ hk => hk.2) (.int .i64 t454)) (fun _ hk => hk.2) (.slice Ao30 t455.length co30)) (fun _ hk => hk.2) (.int .i64 t458)) (fun _ hk => ⟨hk.1.1, ⟨hk.1.2.1, ⟨hk.1.2.2.1, ⟨hk.1.2.2.2.2.1, hk.1.2.2.2.2.2⟩⟩⟩⟩))⟩, ⟨kr (Kd.R_mono (Kd.R_far (p := ⟨gb459, 4, none⟩) (Kd.R_far (p := ⟨gb459, 3, none⟩) (Kd.R_far (p := ⟨gb459, 2, none⟩) (Kd.R_far (p := ⟨gb459, 1, none⟩) (Kd.R_far (p := ⟨gb459, 0, none⟩) (Kd.R_types HO439.out BK459.out (by decide)) (fun _ hk => hk.2) (.slice Ao26 t450.length co26)) (fun _ hk => hk.2) (.int .i64 t453)) (fun _ hk => hk.2) (.int .i64 t454)) (fun _ hk => hk.2) (.slice Ao30 t455.length co30)) (fun _ hk => hk.2) (.int .i64 t458)) (fun _ hk => ⟨hk.1.2.1, ⟨hk.1.1, ⟨hk.1.2.2.1, ⟨hk.1.2.2.2.2.1, hk.1.2.2.2.2.2⟩⟩⟩⟩))⟩, ⟨kr (Kd.R_mono (Kd.R_far (p := ⟨gb459, 4, none⟩) (Kd.R_far (p := ⟨gb459, 3, none⟩) (Kd.R_far (p := ⟨gb459, 2, none⟩) (Kd.R_far (p := ⟨gb459, 1, none⟩) (Kd.R_far (p := ⟨gb459, 0, none⟩) (Kd.R_types HO444.out BK459.out (by decide)) (fun _ hk => hk.2) (.slice Ao26 t450.length co26)) (fun _ hk => hk.2) (.int .i64 t453)) (fun _ hk => hk.2) (.int .i64 t454)) (fun _ hk => hk.2) (.slice Ao30 t455.length co30)) (fun _ hk => hk.2) (.int .i64 t458)) (fun _ hk => ⟨hk.1.2.1, ⟨hk.1.1, ⟨hk.1.2.2.1, ⟨hk.1.2.2.2.2.1, hk.1.2.2.2.2.2⟩⟩⟩⟩))⟩, ⟨kr (Kd.R_mono (Kd.R_far (p := ⟨gb459, 4, none⟩) (Kd.R_far (p := ⟨gb459, 3, none⟩) (Kd.R_far (p := ⟨gb459, 2, none⟩) (Kd.R_far (p := ⟨gb459, 1, none⟩) (Kd.R_far (p := ⟨gb459, 0, none⟩) (Kd.R_types HO452.out BK459.out (by decide)) (fun _ hk => hk.2) (.slice Ao26 t450.length co26)) (fun _ hk => hk.2) (.int .i64 t453)) (fun _ hk => hk.2) (.int .i64 t454)) (fun _ hk => hk.2) (.slice Ao30 t455.length co30)) (fun _ hk => hk.2) (.int .i64 t458)) (fun _ hk => ⟨hk.1.2.1, ⟨hk.1.1, ⟨hk.1.2.2.1, ⟨hk.1.2.2.2.1, hk.1.2.2.2.2.2⟩⟩⟩⟩))⟩, ⟨kr (Kd.R_mono (Kd.R_far (p := ⟨gb459, 4, none⟩) (Kd.R_far (p := ⟨gb459, 3, none⟩) (Kd.R_far (p := ⟨gb459, 2, none⟩) (Kd.R_far (p := ⟨gb459, 1, none⟩) (Kd.R_far (p := ⟨gb459, 0, none⟩) (Kd.R_types HO457.out BK459.out (by decide)) (fun _ hk => hk.2) (.slice Ao26 t450.length co26)) (fun _ hk => hk.2) (.int .i64 t453)) (fun _ hk => hk.2) (.int .i64 t454)) (fun _ hk => hk.2) (.slice Ao30 t455.length co30)) (fun _ hk => hk.2) (.int .i64 t458)) (fun _ hk => ⟨hk.1.2.1, ⟨hk.1.1, ⟨hk.1.2.2.1, ⟨hk.1.2.2.2.1, hk.1.2.2.2.2.2⟩⟩⟩⟩))⟩, ⟨by (with_reducible repeat (first | refine blk_drewN ?_ _ | refine blk_drew ?_ | refine blk_alloc ?_ _)); refine blk_far ?_ NB436_459.out _; (with_reducible repeat (first | refine blk_drewN ?_ _ | refine blk_drew ?_ | refine blk_alloc ?_ _)); refine blk_far ?_ NB436_459.out _; (with_reducible repeat (first | refine blk_drewN ?_ _ | refine blk_drew ?_ | refine blk_alloc ?_ _)); refine blk_far ?_ NB436_459.out _; (with_reducible repeat (first | refine blk_drewN ?_ _ | refine blk_drew ?_ | refine blk_alloc ?_ _)); refine blk_far ?_ NB436_459.out _; (with_reducible repeat (first | refine blk_drewN ?_ _ | refine blk_drew ?_ | refine blk_alloc ?_ _)); refine blk_far ?_ NB436_459.out _; (with_reducible repeat (first | refine blk_drewN ?_ _ | refine blk_drew ?_ | refine blk_alloc ?_ _)); exact BK436.out⟩, ⟨by (with_reducible repeat (first | refine blk_drewN ?_ _ | refine blk_drew ?_ | refine blk_alloc ?_ _)); refine blk_far ?_ NB446_459.out _; (with_reducible repeat (first | refine blk_drewN ?_ _ | refine blk_drew ?_ | refine blk_alloc ?_ _)); refine blk_far ?_ NB446_459.out _; (with_reducible repeat (first | refine blk_drewN ?_ _ | refine blk_drew ?_ | refine blk_alloc ?_ _)); refine blk_far ?_ NB446_459.out _; (with_reducible repeat (first | refine blk_drewN ?_ _ | refine blk_drew ?_ | refine blk_alloc ?_ _)); refine blk_far ?_ NB446_459.out _; (with_reducible repeat (first | refine blk_drewN ?_ _ | refine blk_drew ?_ | refine blk_alloc ?_ _)); refine blk_far ?_ NB446_459.out _; (with_reducible repeat (first | refine blk_drewN ?_ _ | refine blk_drew ?_ | refine blk_alloc ?_ _)); exact BK446.out⟩, ⟨by (with_reducible repeat (first | refine blk_drewN ?_ _ | refine blk_drew ?_ | refine blk_alloc ?_ _)); refine blk_put (cs := #[.slice Ao26 t450.length co26, .int .i64 t453, .int .i64 t454, .slice Ao30 t455.length co30, .int .i64 0]) ?_ 4 _ rfl; (with_reducible repeat (first | refine blk_drewN ?_ _ | refine blk_drew ?_ | refine blk_alloc ?_ _)); refine blk_put (cs := #[.slice Ao26 t450.length co26, .int .i64 t453, .int .i64 t454, .slice none 0 0, .int .i64 0]) ?_ 3 _ rfl; (with_reducible repeat (first | refine blk_drewN ?_ _ | refine blk_drew ?_ | refine blk_alloc ?_ _)); refine blk_put (cs := #[.slice Ao26 t450.length co26, .int .i64 t453, .int .i64 0, .slice none 0 0, .int .i64 0]) ?_ 2 _ rfl; (with_reducible repeat (first | refine blk_drewN ?_ _ | refine blk_drew ?_ | refine blk_alloc ?_ _)); refine blk_put (cs := #[.slice Ao26 t450.length co26, .int .i64 0, .int .i64 0, .slice none 0 0, .int .i64 0]) ?_ 1 _ rfl; (with_reducible repeat (first | refine blk_drewN ?_ _ | refine blk_drew ?_ | refine blk_alloc ?_ _)); refine blk_put (cs := #[.slice none 0 0, .int .i64 0, .int .i64 0, .slice none 0 0, .int .i64 0]) ?_ 0 _ rfl; (with_reducible repeat (first | refine blk_drewN ?_ _ | refine blk_drew ?_ | refine blk_alloc ?_ _)); exact BK459.out⟩, ⟨by repeat (first | (with_reducible first | exact HB.out | apply below_alloc | apply pw_below_drewN | apply below_drew1 | refine below_set ?_ GE436.out | refine below_set ?_ GE446.out | refine below_set ?_ GE459.out) | exact HB.out)⟩⟩
   ·rw [if_neg c37] at H
    have c37b0 : (t458 == t445) = false := beq_eq_false_iff_ne.mpr c37
    have c37b1 : (t458 != t445) = true := bne_iff_ne.mpr c37
    (first | rw [c37b0] | (simp only [i64_w, i32_w]; rw [c37b0]) | (have e9_ := c37b0; unfold bne at e9_; rw [e9_]) | skip)
    obtain rfl := Option.some.inj H
    go_wp2
    go_ret
    exact ⟨by first | rfl | (simp [errW_none, errW_some] <;> rfl) | (simp [*, errW_none, errW_some] <;> rfl), by repeat (first | (with_reducible first | exact HB.out | apply below_alloc | apply pw_below_drewN | apply below_drew1 | refine below_set ?_ GE436.out | refine below_set ?_ GE446.out | refine below_set ?_ GE459.out) | exact HB.out)⟩
  case rest =>
   clear HC7
   try clear c1
   try clear p2
   try clear c3
   try clear c13
   try clear c33
   try clear c34
   try clear c37
   try clear c37b0
   try clear c37b1
   try clear hcz35_0
   try clear hcz35_1
   try clear hcz35_2
   try clear hcz35_3
   try clear hcz35_4
   try clear hcz36_0
   try clear hcz36_1
   try clear hcz36_2
   try clear hcz36_3
   try clear hcz36_4
   try clear hfz35_0
   try clear hfz35_1
   try clear hfz35_2
   try clear hfz35_3
   try clear hfz35_4
   try clear hfz36_0
   try clear hfz36_1
   try clear hfz36_2
   try clear hfz36_3
   try clear hfz36_4
   obtain ⟨kq, HA, HJ6, HO_6, HO_437000, HO_447000, HO_447003, HO_460000, HO_460003, BK436, BK446, BK459, HB⟩ := hcut
   cases kq with
   | zero => exact absurd HA.out (by simp [laws_FnReplace.j0])
   | succ kj6 =>
    have H := HA.out
    clear HA
    simp only [laws_FnReplace.j0] at H
    by_cases c38 : t445 = 0
    ·rw [if_pos c38] at H
     have c38b0 : (t445 == 0) = true := beq_iff_eq.mpr c38
     have c38b1 : (t445 != 0) = false := bne_eq_false_iff_eq.mpr c38
     clear c38
     replace H := Option.bind_eq_some_iff.mp H
     obtain ⟨t460, A390, H⟩ := H
     replace H : ((impl_BufReplace.f kj6 t450 t453 t454 t431 (wrap64 (t431 + (t433.length : Int))) t460).bind fun bt463 => ((impl_BufRight.f kj6 t450 t453 t454).bind fun t473 => (if t473 = true then (if (t455.length : Int) = (wrap64 (t432 - t431)) then (if bt463.2.2.2.2 = 0 then ((laws_lwSame.f kj6 bt463.1 t426).bind fun t474 => (if t474 = true then ((laws_lwSame.f kj6 bt463.2.2.2.1 t433).bind fun t475 => (laws_FnReplace.j1 kj6 t475)) else (laws_FnReplace.j1 kj6 false))) else (laws_FnReplace.j1 kj6 false)) else (laws_FnReplace.j1 kj6 false)) else (laws_FnReplace.j1 kj6 false)))) = some r := H
     have A39 := Aside0.mk A390
     clear A390
     replace H := Option.bind_eq_some_iff.mp H
     obtain ⟨⟨t463, t466, t467, t468, t471⟩, A400, H⟩ := H
     replace H : ((impl_BufRight.f kj6 t450 t453 t454).bind fun t473 => (if t473 = true then (if (t455.length : Int) = (wrap64 (t432 - t431)) then (if t471 = 0 then ((laws_lwSame.f kj6 t463 t426).bind fun t474 => (if t474 = true then ((laws_lwSame.f kj6 t468 t433).bind fun t475 => (laws_FnReplace.j1 kj6 t475)) else (laws_FnReplace.j1 kj6 false))) else (laws_FnReplace.j1 kj6 false)) else (laws_FnReplace.j1 kj6 false)) else (laws_FnReplace.j1 kj6 false))) = some r := H
     have A40 := Aside0.mk A400
     clear A400
     have HC41 := Aside0.mk H
     clear H
     have hnb42 := NB446_436.out
     have hnc42 := NB436_446.out
     have hnb43 := NB446_459.out
     have hnc43 := NB459_446.out
     have hcz44_0 : wc.cell? ⟨gb446, 0, none⟩ = some (.slice Ao15 t437.length co15) := bc BK446.out 0
     have hcz44_1 : wc.cell? ⟨gb446, 1, none⟩ = some (.int .i64 t440) := bc BK446.out 1
     have hcz44_2 : wc.cell? ⟨gb446, 2, none⟩ = some (.int .i64 t441) := bc BK446.out 2
     have hcz44_3 : wc.cell? ⟨gb446, 3, none⟩ = some (.slice Ao18 t442.length co18) := bc BK446.out 3
     have hcz44_4 : wc.cell? ⟨gb446, 4, none⟩ = some (.int .i64 t445) := bc BK446.out 4
     have hfz44_0 := blk_frozen BK446.out 0
     have hfz44_1 := blk_frozen BK446.out 1
     have hfz44_2 := blk_frozen BK446.out 2
     have hfz44_3 := blk_frozen BK446.out 3
     have hfz44_4 := blk_frozen BK446.out 4
     try go_wp2
     replace HO_6 := am (Kd.R_drew HO_6.out)
     replace HO_437000 := am (Kd.R_drew HO_437000.out)
     replace HO_447000 := am (Kd.R_drew HO_447000.out)
     replace HO_447003 := am (Kd.R_drew HO_447003.out)
     replace HO_460000 := am (Kd.R_drew HO_460000.out)
     replace HO_460003 := am (Kd.R_drew HO_460003.out)
     replace BK436 := am (blk_drew BK436.out)
     replace BK446 := am (blk_drew BK446.out)
     replace BK459 := am (blk_drew BK459.out)
     replace HB := am (below_drew1 HB.out)
     refine start_ (n := 13) (S := fun w' => w'.cell? ⟨gb459, 0, none⟩ = some (.slice Ao26 t450.length co26) ∧ w'.cell? ⟨gb459, 1, none⟩ = some (.int .i64 t453) ∧ w'.cell? ⟨gb459, 2, none⟩ = some (.int .i64 t454) ∧ w'.cell? ⟨gb459, 3, none⟩ = some (.slice Ao30 t455.length co30) ∧ w'.cell? ⟨gb459, 4, none⟩ = some (.int .i64 t458)) (ds := []) #[false, false, false, false, false, false, false, false, false, false, false, false, false] (by kernel_rfl) rfl rfl ⟨bc BK459.out 0, bc BK459.out 1, bc BK459.out 2, bc BK459.out 3, bc BK459.out 4⟩ (fun hHeld => ?_); refine with_tabW laws_FnReplace.tab10 laws_FnReplace.bits10 (fun HT_ HW_ => ?_)
     generalize wc.drew = w45 at HO_6 HO_437000 HO_447000 HO_447003 HO_460000 HO_460003 BK436 BK446 BK459 HB hHeld ⊢
     refine pure_ (i := 0) (N := some 39) (v := ?_) (a' := ?_) #[true, false, false, false, false, false, false, false, false, false, false, false, false] rfl rfl (any_of HT_.out (by kernel_rfl)) (fun _ _ _ h => h) (Or.inl ⟨by rfl, ?_⟩) ?_ ?_; rotate_left
     ·intro w'; go_simp; with_reducible rfl
     rotate_left
     ·simp only [Act.put, sa_, s0_, ss_, i64_w, i32_w]; rfl
     refine pure_ (i := 2) (N := some 41) (v := ?_) (a' := ?_) #[true, false, true, false, false, false, false, false, false, false, false, false, false] rfl rfl (any_of HT_.out (by kernel_rfl)) (fun _ _ _ h => h) (Or.inl ⟨by rfl, ?_⟩) ?_ ?_; rotate_left
     ·intro w'; go_simp; with_reducible rfl
     rotate_left
     ·simp only [Act.put, sa_, s0_, ss_, i64_w, i32_w]; rfl
     refine pure_ (i := 3) (N := some 42) (v := ?_) (a' := ?_) #[true, false, true, true, false, false, false, false, false, false, false, false, false] rfl rfl (any_of HT_.out (by kernel_rfl)) (fun _ _ _ h => h) (Or.inl ⟨by rfl, ?_⟩) ?_ ?_; rotate_left
     ·intro w'; go_simp; with_reducible rfl
     rotate_left
     ·simp only [Act.put, sa_, s0_, ss_, i64_w, i32_w]; rfl
     refine pure_ (i := 4) (N := some 43) (v := ?_) (a' := ?_) #[true, false, true, true, true, false, false, false, false, false, false, false, false] rfl rfl (any_of HT_.out (by kernel_rfl)) (fun _ _ _ h => h) (Or.inl ⟨by rfl, ?_⟩) ?_ ?_; rotate_left
     ·intro w'; go_simp; with_reducible rfl
     rotate_left
     ·simp only [Act.put, sa_, s0_, ss_, i64_w, i32_w]; rfl
     refine pure_ (i := 5) (N := some 44) (v := ?_) (a' := ?_) #[true, false, true, true, true, true, false, false, false, false, false, false, false] rfl rfl (any_of HT_.out (by kernel_rfl)) (fun _ _ _ h => h) (Or.inl ⟨by rfl, ?_⟩) ?_ ?_; rotate_left
     ·intro w'; go_simp; with_reducible rfl
     rotate_left
     ·simp only [Act.put, sa_, s0_, ss_, i64_w, i32_w]; rfl
     refine pure_ (i := 6) (N := some 45) (v := ?_) (a' := ?_) #[true, false, true, true, true, true, true, false, false, false, false, false, false] rfl rfl (any_of HT_.out (by kernel_rfl)) (fun _ _ _ h => h) (Or.inl ⟨by rfl, ?_⟩) ?_ ?_; rotate_left
     ·intro w'; go_simp; with_reducible rfl
     rotate_left
     ·simp only [Act.put, sa_, s0_, ss_, i64_w, i32_w]; rfl
     refine pure_ (i := 7) (N := some 46) (v := ?_) (a' := ?_) #[true, false, true, true, true, true, true, true, false, false, false, false, false] rfl rfl (any_of HT_.out (by kernel_rfl)) (fun _ _ _ h => h) (Or.inl ⟨by rfl, ?_⟩) ?_ ?_; rotate_left
     ·intro w'; go_simp; with_reducible rfl
     rotate_left
     ·simp only [Act.put, sa_, s0_, ss_, i64_w, i32_w]; rfl
     refine take_ (i := 1) (N := some 40) (v := ?_) (a' := ?_) #[true, true, true, true, true, true, true, true, false, false, false, false, false] rfl rfl (take_ofW HT_.out HW_.out (by kernel_rfl)) (fun _ _ _ h => h) (Or.inl ⟨by rfl, ?_⟩) hHeld ?_ ?_; rotate_left
     ·rintro w' ⟨s0, s1, s2, s3, s4⟩; go_simp; with_reducible rfl
     rotate_left
     ·simp only [Act.put, sa_, s0_, ss_, i64_w, i32_w]; rfl
     refine take_ (i := 8) (N := some 47) (v := ?_) (a' := ?_) #[true, true, true, true, true, true, true, true, true, false, false, false, false] rfl rfl (take_ofW HT_.out HW_.out (by kernel_rfl)) (fun _ _ _ h => h) (Or.inl ⟨by rfl, ?_⟩) hHeld ?_ ?_; rotate_left
     ·rintro w' ⟨s0, s1, s2, s3, s4⟩; go_simp; with_reducible rfl
     rotate_left
     ·simp only [Act.put, sa_, s0_, ss_, i64_w, i32_w]; rfl
     refine join_ (σ := Value × Value × Value × Nat) 1 b8_2 (fun s_ => [(48, s_.1), (49, .agg #[s_.2.1, .int .i64 t466, .int .i64 t467, s_.2.2.1, .int .i64 t471]), (9, .pointer (some ⟨s_.2.2.2, 0, none⟩))]) (fun s_ w' => (w'.cell? ⟨gb459, 0, none⟩ = some (.slice Ao26 t450.length co26) ∧ w'.cell? ⟨gb459, 1, none⟩ = some (.int .i64 t453) ∧ w'.cell? ⟨gb459, 2, none⟩ = some (.int .i64 t454) ∧ w'.cell? ⟨gb459, 3, none⟩ = some (.slice Ao30 t455.length co30) ∧ w'.cell? ⟨gb459, 4, none⟩ = some (.int .i64 t458)) ∧ (Kd.R (Kd.int .i64) 2 w' w.heap.size (fun k_ => some k_ ≠ (s_.2.1 : Value).ownBlock ∧ some k_ ≠ (s_.2.2.1 : Value).ownBlock ∧ some k_ ≠ (.slice Ao10 t426.length co10 : Value).ownBlock ∧ some k_ ≠ (.slice Ao15 t437.length co15 : Value).ownBlock ∧ some k_ ≠ (.slice Ao18 t442.length co18 : Value).ownBlock ∧ some k_ ≠ (.slice Ao26 t450.length co26 : Value).ownBlock ∧ some k_ ≠ (.slice Ao30 t455.length co30 : Value).ownBlock ∧ some k_ ≠ (.slice Ao12 t433.length co12 : Value).ownBlock) s_.1 t460) ∧ (Kd.R (Kd.int .i64) 2 w' w.heap.size (fun k_ => some k_ ≠ (s_.1 : Value).ownBlock ∧ some k_ ≠ (s_.2.2.1 : Value).ownBlock ∧ some k_ ≠ (.slice Ao10 t426.length co10 : Value).ownBlock ∧ some k_ ≠ (.slice Ao15 t437.length co15 : Value).ownBlock ∧ some k_ ≠ (.slice Ao18 t442.length co18 : Value).ownBlock ∧ some k_ ≠ (.slice Ao26 t450.length co26 : Value).ownBlock ∧ some k_ ≠ (.slice Ao30 t455.length co30 : Value).ownBlock ∧ some k_ ≠ (.slice Ao12 t433.length co12 : Value).ownBlock) s_.2.1 t463) ∧ (Kd.R (Kd.int .i64) 2 w' w.heap.size (fun k_ => some k_ ≠ (s_.1 : Value).ownBlock ∧ some k_ ≠ (s_.2.1 : Value).ownBlock ∧ some k_ ≠ (.slice Ao10 t426.length co10 : Value).ownBlock ∧ some k_ ≠ (.slice Ao15 t437.length co15 : Value).ownBlock ∧ some k_ ≠ (.slice Ao18 t442.length co18 : Value).ownBlock ∧ some k_ ≠ (.slice Ao26 t450.length co26 : Value).ownBlock ∧ some k_ ≠ (.slice Ao30 t455.length co30 : Value).ownBlock ∧ some k_ ≠ (.slice Ao12 t433.length co12 : Value).ownBlock) s_.2.2.1 t468) ∧ (Kd.R (Kd.int .i64) 2 w' w.heap.size (fun k_ => some k_ ≠ (s_.1 : Value).ownBlock ∧ some k_ ≠ (s_.2.1 : Value).ownBlock ∧ some k_ ≠ (s_.2.2.1 : Value).ownBlock ∧ some k_ ≠ (.slice Ao15 t437.length co15 : Value).ownBlock ∧ some k_ ≠ (.slice Ao18 t442.length co18 : Value).ownBlock ∧ some k_ ≠ (.slice Ao26 t450.length co26 : Value).ownBlock ∧ some k_ ≠ (.slice Ao30 t455.length co30 : Value).ownBlock ∧ some k_ ≠ (.slice Ao12 t433.length co12 : Value).ownBlock) (.slice Ao10 t426.length co10) t426) ∧ (Kd.R (Kd.int .i64) 2 w' w.heap.size (fun k_ => some k_ ≠ (s_.1 : Value).ownBlock ∧ some k_ ≠ (s_.2.1 : Value).ownBlock ∧ some k_ ≠ (s_.2.2.1 : Value).ownBlock ∧ some k_ ≠ (.slice Ao10 t426.length co10 : Value).ownBlock ∧ some k_ ≠ (.slice Ao18 t442.length co18 : Value).ownBlock ∧ some k_ ≠ (.slice Ao26 t450.length co26 : Value).ownBlock ∧ some k_ ≠ (.slice Ao30 t455.length co30 : Value).ownBlock ∧ some k_ ≠ (.slice Ao12 t433.length co12 : Value).ownBlock) (.slice Ao15 t437.length co15) t437) ∧ (Kd.R (Kd.int .i64) 2 w' w.heap.size (fun k_ => some k_ ≠ (s_.1 : Value).ownBlock ∧ some k_ ≠ (s_.2.1 : Value).ownBlock ∧ some k_ ≠ (s_.2.2.1 : Value).ownBlock ∧ some k_ ≠ (.slice Ao10 t426.length co10 : Value).ownBlock ∧ some k_ ≠ (.slice Ao15 t437.length co15 : Value).ownBlock ∧ some k_ ≠ (.slice Ao26 t450.length co26 : Value).ownBlock ∧ some k_ ≠ (.slice Ao30 t455.length co30 : Value).ownBlock ∧ some k_ ≠ (.slice Ao12 t433.length co12 : Value).ownBlock) (.slice Ao18 t442.length co18) t442) ∧ (Kd.R (Kd.int .i64) 2 w' w.heap.size (fun k_ => some k_ ≠ (s_.1 : Value).ownBlock ∧ some k_ ≠ (s_.2.1 : Value).ownBlock ∧ some k_ ≠ (s_.2.2.1 : Value).ownBlock ∧ some k_ ≠ (.slice Ao10 t426.length co10 : Value).ownBlock ∧ some k_ ≠ (.slice Ao15 t437.length co15 : Value).ownBlock ∧ some k_ ≠ (.slice Ao18 t442.length co18 : Value).ownBlock ∧ some k_ ≠ (.slice Ao30 t455.length co30 : Value).ownBlock ∧ some k_ ≠ (.slice Ao12 t433.length co12 : Value).ownBlock) (.slice Ao26 t450.length co26) t450) ∧ (Kd.R (Kd.int .i64) 2 w' w.heap.size (fun k_ => some k_ ≠ (s_.1 : Value).ownBlock ∧ some k_ ≠ (s_.2.1 : Value).ownBlock ∧ some k_ ≠ (s_.2.2.1 : Value).ownBlock ∧ some k_ ≠ (.slice Ao10 t426.length co10 : Value).ownBlock ∧ some k_ ≠ (.slice Ao15 t437.length co15 : Value).ownBlock ∧ some k_ ≠ (.slice Ao18 t442.length co18 : Value).ownBlock ∧ some k_ ≠ (.slice Ao26 t450.length co26 : Value).ownBlock ∧ some k_ ≠ (.slice Ao12 t433.length co12 : Value).ownBlock) (.slice Ao30 t455.length co30) t455) ∧ (Kd.R (Kd.int .i64) 2 w' w.heap.size (fun k_ => some k_ ≠ (s_.1 : Value).ownBlock ∧ some k_ ≠ (s_.2.1 : Value).ownBlock ∧ some k_ ≠ (s_.2.2.1 : Value).ownBlock ∧ some k_ ≠ (.slice Ao10 t426.length co10 : Value).ownBlock ∧ some k_ ≠ (.slice Ao15 t437.length co15 : Value).ownBlock ∧ some k_ ≠ (.slice Ao18 t442.length co18 : Value).ownBlock ∧ some k_ ≠ (.slice Ao26 t450.length co26 : Value).ownBlock ∧ some k_ ≠ (.slice Ao30 t455.length co30 : Value).ownBlock) (.slice Ao12 t433.length co12) t433) ∧ (w'.heap[gb436]? = some (.cells #[.slice Ao10 t426.length co10, .int .i64 t429, .int .i64 t430] 26 (0, 0))) ∧ (w'.heap[gb446]? = some (.cells #[.slice Ao15 t437.length co15, .int .i64 t440, .int .i64 t441, .slice Ao18 t442.length co18, .int .i64 t445] 28 (0, 0))) ∧ (w'.heap[gb459]? = some (.cells #[.slice Ao26 t450.length co26, .int .i64 t453, .int .i64 t454, .slice Ao30 t455.length co30, .int .i64 t458] 28 (0, 0))) ∧ (w'.heap[s_.2.2.2]? = some (.cells #[.slice none 0 0, .int .i64 0, .int .i64 0, .slice none 0 0, .int .i64 0] 28 (0, 0))) ∧ (w.heap.size ≤ s_.2.2.2) ∧ (w.heap.size ≤ s_.2.2.2) ∧ (gb436 ≠ s_.2.2.2) ∧ (s_.2.2.2 ≠ gb436) ∧ (gb446 ≠ s_.2.2.2) ∧ (s_.2.2.2 ≠ gb446) ∧ (gb459 ≠ s_.2.2.2) ∧ (s_.2.2.2 ≠ gb459) ∧ (Below w.heap.size w w')) ?_ ?_
     rotate_left
     ·intro hCont
      refine two_ (i := 9) (j := 11) (Ni := some 48) (Nj := some 9) #[true, true, true, true, true, true, true, true, true, true, false, false, false] #[true, true, true, true, true, true, true, true, true, false, false, true, false] rfl rfl rfl rfl (two_of HT_.out (by kernel_rfl)) (by decide) (by decide) (fun K hK => ?_) (fun K hK => ?_)
      ·skip
       refine goes_ Try.func37 (by kernel_rfl) rfl #[.slice Ao30 t455.length co30] (by rfl) rfl rfl (by (try simp only [List.map_toArray, List.map_cons, List.map_nil]); first | done | rfl | (simp only [List.length_drop, List.length_take]; rfl)) ?_
       with_reducible refine (laws_lwCopy.calls _ _ t455 t460 _ ?side1 ?side2 A39.out).mono ?_
       (case side1 => repeat (first | exact (Kd.R_reads' HO_460003.out).2.2 | (with_reducible refine Kd.C_alloc ?_ _) | (with_reducible refine Kd.C_drewN ?_ _) | (with_reducible refine Kd.C_drew ?_)))
       (case side2 => exact (Kd.R_reads' HO_460003.out).2.1)
       rintro e w46 ⟨v461, rfl, ho0, hb⟩
       refine ⟨_, rfl, ?_⟩
       have HO462 := am (Kd.R_lower (Kd.R_new' (Kd.R_new' (Kd.R_new' (Kd.R_new' (Kd.R_new' (Kd.R_new' ho0 (Kd.R_lt (kr HO_6.out))) (Kd.R_lt (kr HO_437000.out))) (Kd.R_lt (kr HO_447000.out))) (Kd.R_lt (kr HO_447003.out))) (Kd.R_lt (kr HO_460000.out))) (Kd.R_lt (kr HO_460003.out))) (below_size (bl HB.out)))
       replace HO_6 := am (Kd.R_elder' (kr HO_6.out) (Kd.R_base ho0) hb)
       replace HO_437000 := am (Kd.R_elder' (kr HO_437000.out) (Kd.R_base ho0) hb)
       replace HO_447000 := am (Kd.R_elder' (kr HO_447000.out) (Kd.R_base ho0) hb)
       replace HO_447003 := am (Kd.R_elder' (kr HO_447003.out) (Kd.R_base ho0) hb)
       replace HO_460000 := am (Kd.R_elder' (kr HO_460000.out) (Kd.R_base ho0) hb)
       replace HO_460003 := am (Kd.R_elder' (kr HO_460003.out) (Kd.R_base ho0) hb)
       replace BK436 := am (blk_below (pk BK436.out) hb)
       replace BK446 := am (blk_below (pk BK446.out) hb)
       replace BK459 := am (blk_below (pk BK459.out) hb)
       replace HB := am (below_step (bl HB.out) hb)
       (try clear hb)
       (try clear hb2)
       (try clear hk)
       (try clear hi)
       (try clear ho0)
       obtain ⟨Ao47, co47, eo47⟩ := Kd.R_slice HO462.out
       (first | subst eo47 | (injection eo47 with f1_ f2_ f3_; have f4_ := f1_.symm; have f5_ := f3_.symm; clear f1_ f2_ f3_; subst f4_; subst f5_))
       refine hK.out _ _ ⟨bc BK459.out 0, bc BK459.out 1, bc BK459.out 2, bc BK459.out 3, bc BK459.out 4⟩ (fun hHeld => ?_)
       clear hK K
       refine norm_ (a' := ?_) ?_ ?_
       rotate_left
       ·show Act.put _ (some 48) _ = _
        simp only [Act.put, sa_, s0_, ss_, i64_w, i32_w]
        rfl
       refine two_ (i := 10) (j := 11) (Ni := some 49) (Nj := some 9) #[true, true, true, true, true, true, true, true, true, true, true, false, false] b8_3 rfl rfl rfl rfl (two_of HT_.out (by kernel_rfl)) (by decide) (by decide) (fun K hK => ?_) (fun K hK => ?_)
       ·skip
        refine goes_ Try.func13 (by kernel_rfl) rfl #[.agg #[.slice Ao26 t450.length co26, .int .i64 t453, .int .i64 t454], .int .i64 t431, .int .i64 (wrap64 (t431 + (t433.length : Int))), .slice Ao47 t460.length co47] (by rfl) rfl rfl (by (try simp only [List.map_toArray, List.map_cons, List.map_nil]); first | done | rfl | (simp only [List.length_drop, List.length_take]; rfl)) ?_
        with_reducible refine (impl_BufReplace.calls kj6 _ _ t450 t453 t454 t431 (wrap64 (t431 + (t433.length : Int))) _ _ t460 t463 t466 t467 t468 t471 _ ?side1 ?side2 ?side3 ?side4 A40.out).mono ?_
        (case side1 => repeat (first | exact (Kd.R_reads' HO_460000.out).2.2 | (with_reducible refine Kd.C_alloc ?_ _) | (with_reducible refine Kd.C_drewN ?_ _) | (with_reducible refine Kd.C_drew ?_)))
        (case side2 => exact (Kd.R_reads' HO_460000.out).2.1)
        (case side3 => repeat (first | exact (Kd.R_reads' HO462.out).2.2 | (with_reducible refine Kd.C_alloc ?_ _) | (with_reducible refine Kd.C_drewN ?_ _) | (with_reducible refine Kd.C_drew ?_)))
        (case side4 => exact (Kd.R_reads' HO462.out).2.1)
        rintro e w48 ⟨v464, v469, rfl, ho0, ho1, hb⟩
        refine ⟨_, rfl, ?_⟩
        have HO465 := am (Kd.R_lower (Kd.R_new' (Kd.R_new' (Kd.R_new' (Kd.R_new' (Kd.R_new' (Kd.R_new' (Kd.R_new' ho0 (Kd.R_lt (kr HO_6.out))) (Kd.R_lt (kr HO_437000.out))) (Kd.R_lt (kr HO_447000.out))) (Kd.R_lt (kr HO_447003.out))) (Kd.R_lt (kr HO_460000.out))) (Kd.R_lt (kr HO_460003.out))) (Kd.R_lt (kr HO462.out))) (below_size (bl HB.out)))
        have HO470 := am (Kd.R_lower (Kd.R_new' (Kd.R_new' (Kd.R_new' (Kd.R_new' (Kd.R_new' (Kd.R_new' (Kd.R_new' ho1 (Kd.R_lt (kr HO_6.out))) (Kd.R_lt (kr HO_437000.out))) (Kd.R_lt (kr HO_447000.out))) (Kd.R_lt (kr HO_447003.out))) (Kd.R_lt (kr HO_460000.out))) (Kd.R_lt (kr HO_460003.out))) (Kd.R_lt (kr HO462.out))) (below_size (bl HB.out)))
        replace HO_6 := am (Kd.R_mono (Kd.R_told (Kd.R_told (Kd.R_old (kr HO_6.out) hb) (Kd.R_base ho0)) (Kd.R_base ho1)) (fun _ h_ => h_.1))
        replace HO_437000 := am (Kd.R_mono (Kd.R_told (Kd.R_told (Kd.R_old (kr HO_437000.out) hb) (Kd.R_base ho0)) (Kd.R_base ho1)) (fun _ h_ => h_.1))
        replace HO_447000 := am (Kd.R_mono (Kd.R_told (Kd.R_told (Kd.R_old (kr HO_447000.out) hb) (Kd.R_base ho0)) (Kd.R_base ho1)) (fun _ h_ => h_.1))
        replace HO_447003 := am (Kd.R_mono (Kd.R_told (Kd.R_told (Kd.R_old (kr HO_447003.out) hb) (Kd.R_base ho0)) (Kd.R_base ho1)) (fun _ h_ => h_.1))
        replace HO_460000 := am (Kd.R_mono (Kd.R_told (Kd.R_told (Kd.R_old (kr HO_460000.out) hb) (Kd.R_base ho0)) (Kd.R_base ho1)) (fun _ h_ => h_.1))
        replace HO_460003 := am (Kd.R_mono (Kd.R_told (Kd.R_told (Kd.R_old (kr HO_460003.out) hb) (Kd.R_base ho0)) (Kd.R_base ho1)) (fun _ h_ => h_.1))
        replace HO462 := am (Kd.R_mono (Kd.R_told (Kd.R_told (Kd.R_old (kr HO462.out) hb) (Kd.R_base ho0)) (Kd.R_base ho1)) (fun _ h_ => h_.1))
        replace BK436 := am (blk_below (pk BK436.out) hb)
        replace BK446 := am (blk_below (pk BK446.out) hb)
        replace BK459 := am (blk_below (pk BK459.out) hb)
        replace HB := am (below_step (bl HB.out) hb)
        (try clear hb)
        (try clear hb2)
        (try clear hk)
        (try clear hi)
        (try clear ho0)
        (try clear ho1)
        refine hK.out _ _ ⟨bc BK459.out 0, bc BK459.out 1, bc BK459.out 2, bc BK459.out 3, bc BK459.out 4⟩ (fun hHeld => ?_)
        clear hK K
        refine norm_ (a' := ?_) ?_ ?_
        rotate_left
        ·show Act.put _ (some 49) _ = _
         simp only [Act.put, sa_, s0_, ss_, i64_w, i32_w]
         rfl
        refine one_ (i := 11) (N := some 9) b8_2 rfl rfl (one_of HT_.out (by kernel_rfl)) (by decide) (fun K hK => ?_)
        refine box_step ?hg (N := 9) ?hd (cs := #[.slice none 0 0, .int .i64 0, .int .i64 0, .slice none 0 0, .int .i64 0]) (t := 28) ?hr ?_; (case hd => rfl); (case hg => rfl); (case hr => first | (go_simp; done) | (go_simp; rfl))
        intro gb472 hg w49 hbox hb
        replace HO_6 := am (Kd.R_below (kr HO_6.out) hb)
        replace HO_437000 := am (Kd.R_below (kr HO_437000.out) hb)
        replace HO_447000 := am (Kd.R_below (kr HO_447000.out) hb)
        replace HO_447003 := am (Kd.R_below (kr HO_447003.out) hb)
        replace HO_460000 := am (Kd.R_below (kr HO_460000.out) hb)
        replace HO_460003 := am (Kd.R_below (kr HO_460003.out) hb)
        replace HO462 := am (Kd.R_below (kr HO462.out) hb)
        replace HO465 := am (Kd.R_below (kr HO465.out) hb)
        replace HO470 := am (Kd.R_below (kr HO470.out) hb)
        have BK472 := am (hbox)
        have GW472 := am ((by rw [hg]; exact (below_size (bl HB.out)) : w.heap.size ≤ gb472))
        have GE472 := GW472
        replace HB := am (below_step (bl HB.out) hb)
        have NB436_472 := am ((by rw [hg]; exact Nat.ne_of_lt (blk_lt (pk BK436.out)) : gb436 ≠ gb472))
        have NB472_436 := am ((by rw [hg]; exact Nat.ne_of_gt (blk_lt (pk BK436.out)) : gb472 ≠ gb436))
        replace BK436 := am (blk_below (pk BK436.out) hb)
        have NB446_472 := am ((by rw [hg]; exact Nat.ne_of_lt (blk_lt (pk BK446.out)) : gb446 ≠ gb472))
        have NB472_446 := am ((by rw [hg]; exact Nat.ne_of_gt (blk_lt (pk BK446.out)) : gb472 ≠ gb446))
        replace BK446 := am (blk_below (pk BK446.out) hb)
        have NB459_472 := am ((by rw [hg]; exact Nat.ne_of_lt (blk_lt (pk BK459.out)) : gb459 ≠ gb472))
        have NB472_459 := am ((by rw [hg]; exact Nat.ne_of_gt (blk_lt (pk BK459.out)) : gb472 ≠ gb459))
        replace BK459 := am (blk_below (pk BK459.out) hb)
        clear hb hbox hg
        refine hK.out _ _ ⟨bc BK459.out 0, bc BK459.out 1, bc BK459.out 2, bc BK459.out 3, bc BK459.out 4⟩ (fun hHeld => ?_)
        clear hK K
        refine norm_ (a' := ?_) ?_ ?_
        rotate_left
        ·show Act.put _ (some 9) _ = _
         simp only [Act.put, sa_, s0_, ss_, i64_w, i32_w]
         rfl
        exact norm_ (by simp only [putAll, Act.put, sa_, s0_, ss_]) (hCont (.slice Ao47 t460.length co47, v464, v469, gb472) _ ⟨hHeld, (kr (Kd.R_mono HO462.out (fun _ hk => ⟨hk.1.2, ⟨hk.2, ⟨hk.1.1.1.1.1.1.2, ⟨hk.1.1.1.1.1.2, ⟨hk.1.1.1.1.2, ⟨hk.1.1.1.2, ⟨hk.1.1.2, hk.1.1.1.1.1.1.1.2⟩⟩⟩⟩⟩⟩⟩))), (kr (Kd.R_mono HO465.out (fun _ hk => ⟨hk.2, ⟨hk.1.1.1.1.1.1.1, ⟨hk.1.1.1.1.1.2, ⟨hk.1.1.1.1.2, ⟨hk.1.1.1.2, ⟨hk.1.1.2, ⟨hk.1.2, hk.1.1.1.1.1.1.2⟩⟩⟩⟩⟩⟩⟩))), (kr (Kd.R_mono HO470.out (fun _ hk => ⟨hk.2, ⟨hk.1.1.1.1.1.1.1, ⟨hk.1.1.1.1.1.2, ⟨hk.1.1.1.1.2, ⟨hk.1.1.1.2, ⟨hk.1.1.2, ⟨hk.1.2, hk.1.1.1.1.1.1.2⟩⟩⟩⟩⟩⟩⟩))), (kr (Kd.R_mono HO_437000.out (fun _ hk => ⟨hk.1.1.2, ⟨hk.1.2, ⟨hk.2, ⟨hk.1.1.1.2.1, ⟨hk.1.1.1.2.2.1, ⟨hk.1.1.1.2.2.2.1, ⟨hk.1.1.1.2.2.2.2, hk.1.1.1.1⟩⟩⟩⟩⟩⟩⟩))), (kr (Kd.R_mono HO_447000.out (fun _ hk => ⟨hk.1.1.2, ⟨hk.1.2, ⟨hk.2, ⟨hk.1.1.1.2.1, ⟨hk.1.1.1.2.2.1, ⟨hk.1.1.1.2.2.2.1, ⟨hk.1.1.1.2.2.2.2, hk.1.1.1.1⟩⟩⟩⟩⟩⟩⟩))), (kr (Kd.R_mono HO_447003.out (fun _ hk => ⟨hk.1.1.2, ⟨hk.1.2, ⟨hk.2, ⟨hk.1.1.1.2.1, ⟨hk.1.1.1.2.2.1, ⟨hk.1.1.1.2.2.2.1, ⟨hk.1.1.1.2.2.2.2, hk.1.1.1.1⟩⟩⟩⟩⟩⟩⟩))), (kr (Kd.R_mono HO_460000.out (fun _ hk => ⟨hk.1.1.2, ⟨hk.1.2, ⟨hk.2, ⟨hk.1.1.1.2.1, ⟨hk.1.1.1.2.2.1, ⟨hk.1.1.1.2.2.2.1, ⟨hk.1.1.1.2.2.2.2, hk.1.1.1.1⟩⟩⟩⟩⟩⟩⟩))), (kr (Kd.R_mono HO_460003.out (fun _ hk => ⟨hk.1.1.2, ⟨hk.1.2, ⟨hk.2, ⟨hk.1.1.1.2.1, ⟨hk.1.1.1.2.2.1, ⟨hk.1.1.1.2.2.2.1, ⟨hk.1.1.1.2.2.2.2, hk.1.1.1.1⟩⟩⟩⟩⟩⟩⟩))), (kr (Kd.R_mono HO_6.out (fun _ hk => ⟨hk.1.1.2, ⟨hk.1.2, ⟨hk.2, ⟨hk.1.1.1.1, ⟨hk.1.1.1.2.1, ⟨hk.1.1.1.2.2.1, ⟨hk.1.1.1.2.2.2.1, hk.1.1.1.2.2.2.2⟩⟩⟩⟩⟩⟩⟩))), (pk BK436.out), (pk BK446.out), (pk BK459.out), (pk BK472.out), GW472.out, GE472.out, NB436_472.out, NB472_436.out, NB446_472.out, NB472_446.out, NB459_472.out, NB472_459.out, (bl HB.out)⟩)
       ·skip
        refine box_step ?hg (N := 9) ?hd (cs := #[.slice none 0 0, .int .i64 0, .int .i64 0, .slice none 0 0, .int .i64 0]) (t := 28) ?hr ?_; (case hd => rfl); (case hg => rfl); (case hr => first | (go_simp; done) | (go_simp; rfl))
        intro gb472 hg w47 hbox hb
        replace HO_6 := am (Kd.R_below (kr HO_6.out) hb)
        replace HO_437000 := am (Kd.R_below (kr HO_437000.out) hb)
        replace HO_447000 := am (Kd.R_below (kr HO_447000.out) hb)
        replace HO_447003 := am (Kd.R_below (kr HO_447003.out) hb)
        replace HO_460000 := am (Kd.R_below (kr HO_460000.out) hb)
        replace HO_460003 := am (Kd.R_below (kr HO_460003.out) hb)
        replace HO462 := am (Kd.R_below (kr HO462.out) hb)
        have BK472 := am (hbox)
        have GW472 := am ((by rw [hg]; exact (below_size (bl HB.out)) : w.heap.size ≤ gb472))
        have GE472 := GW472
        replace HB := am (below_step (bl HB.out) hb)
        have NB436_472 := am ((by rw [hg]; exact Nat.ne_of_lt (blk_lt (pk BK436.out)) : gb436 ≠ gb472))
        have NB472_436 := am ((by rw [hg]; exact Nat.ne_of_gt (blk_lt (pk BK436.out)) : gb472 ≠ gb436))
        replace BK436 := am (blk_below (pk BK436.out) hb)
        have NB446_472 := am ((by rw [hg]; exact Nat.ne_of_lt (blk_lt (pk BK446.out)) : gb446 ≠ gb472))
        have NB472_446 := am ((by rw [hg]; exact Nat.ne_of_gt (blk_lt (pk BK446.out)) : gb472 ≠ gb446))
        replace BK446 := am (blk_below (pk BK446.out) hb)
        have NB459_472 := am ((by rw [hg]; exact Nat.ne_of_lt (blk_lt (pk BK459.out)) : gb459 ≠ gb472))
        have NB472_459 := am ((by rw [hg]; exact Nat.ne_of_gt (blk_lt (pk BK459.out)) : gb472 ≠ gb459))
        replace BK459 := am (blk_below (pk BK459.out) hb)
        clear hb hbox hg
        obtain ⟨Ao48, co48, eo48⟩ := Kd.R_slice HO462.out
        (first | subst eo48 | (injection eo48 with f1_ f2_ f3_; have f4_ := f1_.symm; have f5_ := f3_.symm; clear f1_ f2_ f3_; subst f4_; subst f5_))
        refine hK.out _ _ ⟨bc BK459.out 0, bc BK459.out 1, bc BK459.out 2, bc BK459.out 3, bc BK459.out 4⟩ (fun hHeld => ?_)
        clear hK K
        refine norm_ (a' := ?_) ?_ ?_
        rotate_left
        ·show Act.put _ (some 9) _ = _
         simp only [Act.put, sa_, s0_, ss_, i64_w, i32_w]
         rfl
        refine one_ (i := 10) (N := some 49) b8_2 rfl rfl (one_of HT_.out (by kernel_rfl)) (by decide) (fun K hK => ?_)
        refine goes_ Try.func13 (by kernel_rfl) rfl #[.agg #[.slice Ao26 t450.length co26, .int .i64 t453, .int .i64 t454], .int .i64 t431, .int .i64 (wrap64 (t431 + (t433.length : Int))), .slice Ao48 t460.length co48] (by rfl) rfl rfl (by (try simp only [List.map_toArray, List.map_cons, List.map_nil]); first | done | rfl | (simp only [List.length_drop, List.length_take]; rfl)) ?_
        with_reducible refine (impl_BufReplace.calls kj6 _ _ t450 t453 t454 t431 (wrap64 (t431 + (t433.length : Int))) _ _ t460 t463 t466 t467 t468 t471 _ ?side1 ?side2 ?side3 ?side4 A40.out).mono ?_
        (case side1 => repeat (first | exact (Kd.R_reads' HO_460000.out).2.2 | (with_reducible refine Kd.C_alloc ?_ _) | (with_reducible refine Kd.C_drewN ?_ _) | (with_reducible refine Kd.C_drew ?_)))
        (case side2 => exact (Kd.R_reads' HO_460000.out).2.1)
        (case side3 => repeat (first | exact (Kd.R_reads' HO462.out).2.2 | (with_reducible refine Kd.C_alloc ?_ _) | (with_reducible refine Kd.C_drewN ?_ _) | (with_reducible refine Kd.C_drew ?_)))
        (case side4 => exact (Kd.R_reads' HO462.out).2.1)
        rintro e w49 ⟨v464, v469, rfl, ho0, ho1, hb⟩
        refine ⟨_, rfl, ?_⟩
        have HO465 := am (Kd.R_lower (Kd.R_new' (Kd.R_new' (Kd.R_new' (Kd.R_new' (Kd.R_new' (Kd.R_new' (Kd.R_new' ho0 (Kd.R_lt (kr HO_6.out))) (Kd.R_lt (kr HO_437000.out))) (Kd.R_lt (kr HO_447000.out))) (Kd.R_lt (kr HO_447003.out))) (Kd.R_lt (kr HO_460000.out))) (Kd.R_lt (kr HO_460003.out))) (Kd.R_lt (kr HO462.out))) (below_size (bl HB.out)))
        have HO470 := am (Kd.R_lower (Kd.R_new' (Kd.R_new' (Kd.R_new' (Kd.R_new' (Kd.R_new' (Kd.R_new' (Kd.R_new' ho1 (Kd.R_lt (kr HO_6.out))) (Kd.R_lt (kr HO_437000.out))) (Kd.R_lt (kr HO_447000.out))) (Kd.R_lt (kr HO_447003.out))) (Kd.R_lt (kr HO_460000.out))) (Kd.R_lt (kr HO_460003.out))) (Kd.R_lt (kr HO462.out))) (below_size (bl HB.out)))
        replace HO_6 := am (Kd.R_mono (Kd.R_told (Kd.R_told (Kd.R_old (kr HO_6.out) hb) (Kd.R_base ho0)) (Kd.R_base ho1)) (fun _ h_ => h_.1))
        replace HO_437000 := am (Kd.R_mono (Kd.R_told (Kd.R_told (Kd.R_old (kr HO_437000.out) hb) (Kd.R_base ho0)) (Kd.R_base ho1)) (fun _ h_ => h_.1))
        replace HO_447000 := am (Kd.R_mono (Kd.R_told (Kd.R_told (Kd.R_old (kr HO_447000.out) hb) (Kd.R_base ho0)) (Kd.R_base ho1)) (fun _ h_ => h_.1))
        replace HO_447003 := am (Kd.R_mono (Kd.R_told (Kd.R_told (Kd.R_old (kr HO_447003.out) hb) (Kd.R_base ho0)) (Kd.R_base ho1)) (fun _ h_ => h_.1))
        replace HO_460000 := am (Kd.R_mono (Kd.R_told (Kd.R_told (Kd.R_old (kr HO_460000.out) hb) (Kd.R_base ho0)) (Kd.R_base ho1)) (fun _ h_ => h_.1))
        replace HO_460003 := am (Kd.R_mono (Kd.R_told (Kd.R_told (Kd.R_old (kr HO_460003.out) hb) (Kd.R_base ho0)) (Kd.R_base ho1)) (fun _ h_ => h_.1))
        replace HO462 := am (Kd.R_mono (Kd.R_told (Kd.R_told (Kd.R_old (kr HO462.out) hb) (Kd.R_base ho0)) (Kd.R_base ho1)) (fun _ h_ => h_.1))
        replace BK436 := am (blk_below (pk BK436.out) hb)
        replace BK446 := am (blk_below (pk BK446.out) hb)
        replace BK459 := am (blk_below (pk BK459.out) hb)
        replace BK472 := am (blk_below (pk BK472.out) hb)
        replace HB := am (below_step (bl HB.out) hb)
        (try clear hb)
        (try clear hb2)
        (try clear hk)
        (try clear hi)
        (try clear ho0)
        (try clear ho1)
        refine hK.out _ _ ⟨bc BK459.out 0, bc BK459.out 1, bc BK459.out 2, bc BK459.out 3, bc BK459.out 4⟩ (fun hHeld => ?_)
        clear hK K
        refine norm_ (a' := ?_) ?_ ?_
        rotate_left
        ·show Act.put _ (some 49) _ = _
         simp only [Act.put, sa_, s0_, ss_, i64_w, i32_w]
         rfl
        exact norm_ (by simp only [putAll, Act.put, sa_, s0_, ss_]) (hCont (.slice Ao48 t460.length co48, v464, v469, gb472) _ ⟨hHeld, (kr (Kd.R_mono HO462.out (fun _ hk => ⟨hk.1.2, ⟨hk.2, ⟨hk.1.1.1.1.1.1.2, ⟨hk.1.1.1.1.1.2, ⟨hk.1.1.1.1.2, ⟨hk.1.1.1.2, ⟨hk.1.1.2, hk.1.1.1.1.1.1.1.2⟩⟩⟩⟩⟩⟩⟩))), (kr (Kd.R_mono HO465.out (fun _ hk => ⟨hk.2, ⟨hk.1.1.1.1.1.1.1, ⟨hk.1.1.1.1.1.2, ⟨hk.1.1.1.1.2, ⟨hk.1.1.1.2, ⟨hk.1.1.2, ⟨hk.1.2, hk.1.1.1.1.1.1.2⟩⟩⟩⟩⟩⟩⟩))), (kr (Kd.R_mono HO470.out (fun _ hk => ⟨hk.2, ⟨hk.1.1.1.1.1.1.1, ⟨hk.1.1.1.1.1.2, ⟨hk.1.1.1.1.2, ⟨hk.1.1.1.2, ⟨hk.1.1.2, ⟨hk.1.2, hk.1.1.1.1.1.1.2⟩⟩⟩⟩⟩⟩⟩))), (kr (Kd.R_mono HO_437000.out (fun _ hk => ⟨hk.1.1.2, ⟨hk.1.2, ⟨hk.2, ⟨hk.1.1.1.2.1, ⟨hk.1.1.1.2.2.1, ⟨hk.1.1.1.2.2.2.1, ⟨hk.1.1.1.2.2.2.2, hk.1.1.1.1⟩⟩⟩⟩⟩⟩⟩))), (kr (Kd.R_mono HO_447000.out (fun _ hk => ⟨hk.1.1.2, ⟨hk.1.2, ⟨hk.2, ⟨hk.1.1.1.2.1, ⟨hk.1.1.1.2.2.1, ⟨hk.1.1.1.2.2.2.1, ⟨hk.1.1.1.2.2.2.2, hk.1.1.1.1⟩⟩⟩⟩⟩⟩⟩))), (kr (Kd.R_mono HO_447003.out (fun _ hk => ⟨hk.1.1.2, ⟨hk.1.2, ⟨hk.2, ⟨hk.1.1.1.2.1, ⟨hk.1.1.1.2.2.1, ⟨hk.1.1.1.2.2.2.1, ⟨hk.1.1.1.2.2.2.2, hk.1.1.1.1⟩⟩⟩⟩⟩⟩⟩))), (kr (Kd.R_mono HO_460000.out (fun _ hk => ⟨hk.1.1.2, ⟨hk.1.2, ⟨hk.2, ⟨hk.1.1.1.2.1, ⟨hk.1.1.1.2.2.1, ⟨hk.1.1.1.2.2.2.1, ⟨hk.1.1.1.2.2.2.2, hk.1.1.1.1⟩⟩⟩⟩⟩⟩⟩))), (kr (Kd.R_mono HO_460003.out (fun _ hk => ⟨hk.1.1.2, ⟨hk.1.2, ⟨hk.2, ⟨hk.1.1.1.2.1, ⟨hk.1.1.1.2.2.1, ⟨hk.1.1.1.2.2.2.1, ⟨hk.1.1.1.2.2.2.2, hk.1.1.1.1⟩⟩⟩⟩⟩⟩⟩))), (kr (Kd.R_mono HO_6.out (fun _ hk => ⟨hk.1.1.2, ⟨hk.1.2, ⟨hk.2, ⟨hk.1.1.1.1, ⟨hk.1.1.1.2.1, ⟨hk.1.1.1.2.2.1, ⟨hk.1.1.1.2.2.2.1, hk.1.1.1.2.2.2.2⟩⟩⟩⟩⟩⟩⟩))), (pk BK436.out), (pk BK446.out), (pk BK459.out), (pk BK472.out), GW472.out, GE472.out, NB436_472.out, NB472_436.out, NB446_472.out, NB472_446.out, NB459_472.out, NB472_459.out, (bl HB.out)⟩)
      ·skip
       refine box_step ?hg (N := 9) ?hd (cs := #[.slice none 0 0, .int .i64 0, .int .i64 0, .slice none 0 0, .int .i64 0]) (t := 28) ?hr ?_; (case hd => rfl); (case hg => rfl); (case hr => first | (go_simp; done) | (go_simp; rfl))
       intro gb472 hg w46 hbox hb
       replace HO_6 := am (Kd.R_below (kr HO_6.out) hb)
       replace HO_437000 := am (Kd.R_below (kr HO_437000.out) hb)
       replace HO_447000 := am (Kd.R_below (kr HO_447000.out) hb)
       replace HO_447003 := am (Kd.R_below (kr HO_447003.out) hb)
       replace HO_460000 := am (Kd.R_below (kr HO_460000.out) hb)
       replace HO_460003 := am (Kd.R_below (kr HO_460003.out) hb)
       have BK472 := am (hbox)
       have GW472 := am ((by rw [hg]; exact (below_size (bl HB.out)) : w.heap.size ≤ gb472))
       have GE472 := GW472
       replace HB := am (below_step (bl HB.out) hb)
       have NB436_472 := am ((by rw [hg]; exact Nat.ne_of_lt (blk_lt (pk BK436.out)) : gb436 ≠ gb472))
       have NB472_436 := am ((by rw [hg]; exact Nat.ne_of_gt (blk_lt (pk BK436.out)) : gb472 ≠ gb436))
       replace BK436 := am (blk_below (pk BK436.out) hb)
       have NB446_472 := am ((by rw [hg]; exact Nat.ne_of_lt (blk_lt (pk BK446.out)) : gb446 ≠ gb472))
       have NB472_446 := am ((by rw [hg]; exact Nat.ne_of_gt (blk_lt (pk BK446.out)) : gb472 ≠ gb446))
       replace BK446 := am (blk_below (pk BK446.out) hb)
       have NB459_472 := am ((by rw [hg]; exact Nat.ne_of_lt (blk_lt (pk BK459.out)) : gb459 ≠ gb472))
       have NB472_459 := am ((by rw [hg]; exact Nat.ne_of_gt (blk_lt (pk BK459.out)) : gb472 ≠ gb459))
       replace BK459 := am (blk_below (pk BK459.out) hb)
       clear hb hbox hg
       refine hK.out _ _ ⟨bc BK459.out 0, bc BK459.out 1, bc BK459.out 2, bc BK459.out 3, bc BK459.out 4⟩ (fun hHeld => ?_)
       clear hK K
       refine norm_ (a' := ?_) ?_ ?_
       rotate_left
       ·show Act.put _ (some 9) _ = _
        simp only [Act.put, sa_, s0_, ss_, i64_w, i32_w]
        rfl
       refine one_ (i := 9) (N := some 48) b8_3 rfl rfl (one_of HT_.out (by kernel_rfl)) (by decide) (fun K hK => ?_)
       refine goes_ Try.func37 (by kernel_rfl) rfl #[.slice Ao30 t455.length co30] (by rfl) rfl rfl (by (try simp only [List.map_toArray, List.map_cons, List.map_nil]); first | done | rfl | (simp only [List.length_drop, List.length_take]; rfl)) ?_
       with_reducible refine (laws_lwCopy.calls _ _ t455 t460 _ ?side1 ?side2 A39.out).mono ?_
       (case side1 => repeat (first | exact (Kd.R_reads' HO_460003.out).2.2 | (with_reducible refine Kd.C_alloc ?_ _) | (with_reducible refine Kd.C_drewN ?_ _) | (with_reducible refine Kd.C_drew ?_)))
       (case side2 => exact (Kd.R_reads' HO_460003.out).2.1)
       rintro e w47 ⟨v461, rfl, ho0, hb⟩
       refine ⟨_, rfl, ?_⟩
       have HO462 := am (Kd.R_lower (Kd.R_new' (Kd.R_new' (Kd.R_new' (Kd.R_new' (Kd.R_new' (Kd.R_new' ho0 (Kd.R_lt (kr HO_6.out))) (Kd.R_lt (kr HO_437000.out))) (Kd.R_lt (kr HO_447000.out))) (Kd.R_lt (kr HO_447003.out))) (Kd.R_lt (kr HO_460000.out))) (Kd.R_lt (kr HO_460003.out))) (below_size (bl HB.out)))
       replace HO_6 := am (Kd.R_elder' (kr HO_6.out) (Kd.R_base ho0) hb)
       replace HO_437000 := am (Kd.R_elder' (kr HO_437000.out) (Kd.R_base ho0) hb)
       replace HO_447000 := am (Kd.R_elder' (kr HO_447000.out) (Kd.R_base ho0) hb)
       replace HO_447003 := am (Kd.R_elder' (kr HO_447003.out) (Kd.R_base ho0) hb)
       replace HO_460000 := am (Kd.R_elder' (kr HO_460000.out) (Kd.R_base ho0) hb)
       replace HO_460003 := am (Kd.R_elder' (kr HO_460003.out) (Kd.R_base ho0) hb)
       replace BK436 := am (blk_below (pk BK436.out) hb)
       replace BK446 := am (blk_below (pk BK446.out) hb)
       replace BK459 := am (blk_below (pk BK459.out) hb)
       replace BK472 := am (blk_below (pk BK472.out) hb)
       replace HB := am (below_step (bl HB.out) hb)
       (try clear hb)
       (try clear hb2)
       (try clear hk)
       (try clear hi)
       (try clear ho0)
       obtain ⟨Ao48, co48, eo48⟩ := Kd.R_slice HO462.out
       (first | subst eo48 | (injection eo48 with f1_ f2_ f3_; have f4_ := f1_.symm; have f5_ := f3_.symm; clear f1_ f2_ f3_; subst f4_; subst f5_))
       refine hK.out _ _ ⟨bc BK459.out 0, bc BK459.out 1, bc BK459.out 2, bc BK459.out 3, bc BK459.out 4⟩ (fun hHeld => ?_)
       clear hK K
       refine norm_ (a' := ?_) ?_ ?_
       rotate_left
       ·show Act.put _ (some 48) _ = _
        simp only [Act.put, sa_, s0_, ss_, i64_w, i32_w]
        rfl
       refine one_ (i := 10) (N := some 49) b8_2 rfl rfl (one_of HT_.out (by kernel_rfl)) (by decide) (fun K hK => ?_)
       refine goes_ Try.func13 (by kernel_rfl) rfl #[.agg #[.slice Ao26 t450.length co26, .int .i64 t453, .int .i64 t454], .int .i64 t431, .int .i64 (wrap64 (t431 + (t433.length : Int))), .slice Ao48 t460.length co48] (by rfl) rfl rfl (by (try simp only [List.map_toArray, List.map_cons, List.map_nil]); first | done | rfl | (simp only [List.length_drop, List.length_take]; rfl)) ?_
       with_reducible refine (impl_BufReplace.calls kj6 _ _ t450 t453 t454 t431 (wrap64 (t431 + (t433.length : Int))) _ _ t460 t463 t466 t467 t468 t471 _ ?side1 ?side2 ?side3 ?side4 A40.out).mono ?_
       (case side1 => repeat (first | exact (Kd.R_reads' HO_460000.out).2.2 | (with_reducible refine Kd.C_alloc ?_ _) | (with_reducible refine Kd.C_drewN ?_ _) | (with_reducible refine Kd.C_drew ?_)))
       (case side2 => exact (Kd.R_reads' HO_460000.out).2.1)
       (case side3 => repeat (first | exact (Kd.R_reads' HO462.out).2.2 | (with_reducible refine Kd.C_alloc ?_ _) | (with_reducible refine Kd.C_drewN ?_ _) | (with_reducible refine Kd.C_drew ?_)))
       (case side4 => exact (Kd.R_reads' HO462.out).2.1)
       rintro e w49 ⟨v464, v469, rfl, ho0, ho1, hb⟩
       refine ⟨_, rfl, ?_⟩
       have HO465 := am (Kd.R_lower (Kd.R_new' (Kd.R_new' (Kd.R_new' (Kd.R_new' (Kd.R_new' (Kd.R_new' (Kd.R_new' ho0 (Kd.R_lt (kr HO_6.out))) (Kd.R_lt (kr HO_437000.out))) (Kd.R_lt (kr HO_447000.out))) (Kd.R_lt (kr HO_447003.out))) (Kd.R_lt (kr HO_460000.out))) (Kd.R_lt (kr HO_460003.out))) (Kd.R_lt (kr HO462.out))) (below_size (bl HB.out)))
       have HO470 := am (Kd.R_lower (Kd.R_new' (Kd.R_new' (Kd.R_new' (Kd.R_new' (Kd.R_new' (Kd.R_new' (Kd.R_new' ho1 (Kd.R_lt (kr HO_6.out))) (Kd.R_lt (kr HO_437000.out))) (Kd.R_lt (kr HO_447000.out))) (Kd.R_lt (kr HO_447003.out))) (Kd.R_lt (kr HO_460000.out))) (Kd.R_lt (kr HO_460003.out))) (Kd.R_lt (kr HO462.out))) (below_size (bl HB.out)))
       replace HO_6 := am (Kd.R_mono (Kd.R_told (Kd.R_told (Kd.R_old (kr HO_6.out) hb) (Kd.R_base ho0)) (Kd.R_base ho1)) (fun _ h_ => h_.1))
       replace HO_437000 := am (Kd.R_mono (Kd.R_told (Kd.R_told (Kd.R_old (kr HO_437000.out) hb) (Kd.R_base ho0)) (Kd.R_base ho1)) (fun _ h_ => h_.1))
       replace HO_447000 := am (Kd.R_mono (Kd.R_told (Kd.R_told (Kd.R_old (kr HO_447000.out) hb) (Kd.R_base ho0)) (Kd.R_base ho1)) (fun _ h_ => h_.1))
       replace HO_447003 := am (Kd.R_mono (Kd.R_told (Kd.R_told (Kd.R_old (kr HO_447003.out) hb) (Kd.R_base ho0)) (Kd.R_base ho1)) (fun _ h_ => h_.1))
       replace HO_460000 := am (Kd.R_mono (Kd.R_told (Kd.R_told (Kd.R_old (kr HO_460000.out) hb) (Kd.R_base ho0)) (Kd.R_base ho1)) (fun _ h_ => h_.1))
       replace HO_460003 := am (Kd.R_mono (Kd.R_told (Kd.R_told (Kd.R_old (kr HO_460003.out) hb) (Kd.R_base ho0)) (Kd.R_base ho1)) (fun _ h_ => h_.1))
       replace HO462 := am (Kd.R_mono (Kd.R_told (Kd.R_told (Kd.R_old (kr HO462.out) hb) (Kd.R_base ho0)) (Kd.R_base ho1)) (fun _ h_ => h_.1))
       replace BK436 := am (blk_below (pk BK436.out) hb)
       replace BK446 := am (blk_below (pk BK446.out) hb)
       replace BK459 := am (blk_below (pk BK459.out) hb)
       replace BK472 := am (blk_below (pk BK472.out) hb)
       replace HB := am (below_step (bl HB.out) hb)
       (try clear hb)
       (try clear hb2)
       (try clear hk)
       (try clear hi)
       (try clear ho0)
       (try clear ho1)
       refine hK.out _ _ ⟨bc BK459.out 0, bc BK459.out 1, bc BK459.out 2, bc BK459.out 3, bc BK459.out 4⟩ (fun hHeld => ?_)
       clear hK K
       refine norm_ (a' := ?_) ?_ ?_
       rotate_left
       ·show Act.put _ (some 49) _ = _
        simp only [Act.put, sa_, s0_, ss_, i64_w, i32_w]
        rfl
       exact norm_ (by simp only [putAll, Act.put, sa_, s0_, ss_]) (hCont (.slice Ao48 t460.length co48, v464, v469, gb472) _ ⟨hHeld, (kr (Kd.R_mono HO462.out (fun _ hk => ⟨hk.1.2, ⟨hk.2, ⟨hk.1.1.1.1.1.1.2, ⟨hk.1.1.1.1.1.2, ⟨hk.1.1.1.1.2, ⟨hk.1.1.1.2, ⟨hk.1.1.2, hk.1.1.1.1.1.1.1.2⟩⟩⟩⟩⟩⟩⟩))), (kr (Kd.R_mono HO465.out (fun _ hk => ⟨hk.2, ⟨hk.1.1.1.1.1.1.1, ⟨hk.1.1.1.1.1.2, ⟨hk.1.1.1.1.2, ⟨hk.1.1.1.2, ⟨hk.1.1.2, ⟨hk.1.2, hk.1.1.1.1.1.1.2⟩⟩⟩⟩⟩⟩⟩))), (kr (Kd.R_mono HO470.out (fun _ hk => ⟨hk.2, ⟨hk.1.1.1.1.1.1.1, ⟨hk.1.1.1.1.1.2, ⟨hk.1.1.1.1.2, ⟨hk.1.1.1.2, ⟨hk.1.1.2, ⟨hk.1.2, hk.1.1.1.1.1.1.2⟩⟩⟩⟩⟩⟩⟩))), (kr (Kd.R_mono HO_437000.out (fun _ hk => ⟨hk.1.1.2, ⟨hk.1.2, ⟨hk.2, ⟨hk.1.1.1.2.1, ⟨hk.1.1.1.2.2.1, ⟨hk.1.1.1.2.2.2.1, ⟨hk.1.1.1.2.2.2.2, hk.1.1.1.1⟩⟩⟩⟩⟩⟩⟩))), (kr (Kd.R_mono HO_447000.out (fun _ hk => ⟨hk.1.1.2, ⟨hk.1.2, ⟨hk.2, ⟨hk.1.1.1.2.1, ⟨hk.1.1.1.2.2.1, ⟨hk.1.1.1.2.2.2.1, ⟨hk.1.1.1.2.2.2.2, hk.1.1.1.1⟩⟩⟩⟩⟩⟩⟩))), (kr (Kd.R_mono HO_447003.out (fun _ hk => ⟨hk.1.1.2, ⟨hk.1.2, ⟨hk.2, ⟨hk.1.1.1.2.1, ⟨hk.1.1.1.2.2.1, ⟨hk.1.1.1.2.2.2.1, ⟨hk.1.1.1.2.2.2.2, hk.1.1.1.1⟩⟩⟩⟩⟩⟩⟩))), (kr (Kd.R_mono HO_460000.out (fun _ hk => ⟨hk.1.1.2, ⟨hk.1.2, ⟨hk.2, ⟨hk.1.1.1.2.1, ⟨hk.1.1.1.2.2.1, ⟨hk.1.1.1.2.2.2.1, ⟨hk.1.1.1.2.2.2.2, hk.1.1.1.1⟩⟩⟩⟩⟩⟩⟩))), (kr (Kd.R_mono HO_460003.out (fun _ hk => ⟨hk.1.1.2, ⟨hk.1.2, ⟨hk.2, ⟨hk.1.1.1.2.1, ⟨hk.1.1.1.2.2.1, ⟨hk.1.1.1.2.2.2.1, ⟨hk.1.1.1.2.2.2.2, hk.1.1.1.1⟩⟩⟩⟩⟩⟩⟩))), (kr (Kd.R_mono HO_6.out (fun _ hk => ⟨hk.1.1.2, ⟨hk.1.2, ⟨hk.2, ⟨hk.1.1.1.1, ⟨hk.1.1.1.2.1, ⟨hk.1.1.1.2.2.1, ⟨hk.1.1.1.2.2.2.1, hk.1.1.1.2.2.2.2⟩⟩⟩⟩⟩⟩⟩))), (pk BK436.out), (pk BK446.out), (pk BK459.out), (pk BK472.out), GW472.out, GE472.out, NB436_472.out, NB472_436.out, NB446_472.out, NB472_446.out, NB459_472.out, NB472_459.out, (bl HB.out)⟩)
     rintro ⟨v461, v464, v469, gb472⟩ w50 ⟨hS_, h0_, h1_, h2_, h3_, h4_, h5_, h6_, h7_, h8_, h9_, h10_, h11_, h12_, h13_, h14_, h15_, h16_, h17_, h18_, h19_, h20_, h21_⟩
     have HO462 : Aside0 (Kd.R (Kd.int .i64) 2 w50 w.heap.size (fun k_ => some k_ ≠ (v464 : Value).ownBlock ∧ some k_ ≠ (v469 : Value).ownBlock ∧ some k_ ≠ (.slice Ao10 t426.length co10 : Value).ownBlock ∧ some k_ ≠ (.slice Ao15 t437.length co15 : Value).ownBlock ∧ some k_ ≠ (.slice Ao18 t442.length co18 : Value).ownBlock ∧ some k_ ≠ (.slice Ao26 t450.length co26 : Value).ownBlock ∧ some k_ ≠ (.slice Ao30 t455.length co30 : Value).ownBlock ∧ some k_ ≠ (.slice Ao12 t433.length co12 : Value).ownBlock) v461 t460) := ⟨h0_⟩
     have HO465 : Aside0 (Kd.R (Kd.int .i64) 2 w50 w.heap.size (fun k_ => some k_ ≠ (v461 : Value).ownBlock ∧ some k_ ≠ (v469 : Value).ownBlock ∧ some k_ ≠ (.slice Ao10 t426.length co10 : Value).ownBlock ∧ some k_ ≠ (.slice Ao15 t437.length co15 : Value).ownBlock ∧ some k_ ≠ (.slice Ao18 t442.length co18 : Value).ownBlock ∧ some k_ ≠ (.slice Ao26 t450.length co26 : Value).ownBlock ∧ some k_ ≠ (.slice Ao30 t455.length co30 : Value).ownBlock ∧ some k_ ≠ (.slice Ao12 t433.length co12 : Value).ownBlock) v464 t463) := ⟨h1_⟩
     have HO470 : Aside0 (Kd.R (Kd.int .i64) 2 w50 w.heap.size (fun k_ => some k_ ≠ (v461 : Value).ownBlock ∧ some k_ ≠ (v464 : Value).ownBlock ∧ some k_ ≠ (.slice Ao10 t426.length co10 : Value).ownBlock ∧ some k_ ≠ (.slice Ao15 t437.length co15 : Value).ownBlock ∧ some k_ ≠ (.slice Ao18 t442.length co18 : Value).ownBlock ∧ some k_ ≠ (.slice Ao26 t450.length co26 : Value).ownBlock ∧ some k_ ≠ (.slice Ao30 t455.length co30 : Value).ownBlock ∧ some k_ ≠ (.slice Ao12 t433.length co12 : Value).ownBlock) v469 t468) := ⟨h2_⟩
     replace HO_437000 : Aside0 (Kd.R (Kd.int .i64) 2 w50 w.heap.size (fun k_ => some k_ ≠ (v461 : Value).ownBlock ∧ some k_ ≠ (v464 : Value).ownBlock ∧ some k_ ≠ (v469 : Value).ownBlock ∧ some k_ ≠ (.slice Ao15 t437.length co15 : Value).ownBlock ∧ some k_ ≠ (.slice Ao18 t442.length co18 : Value).ownBlock ∧ some k_ ≠ (.slice Ao26 t450.length co26 : Value).ownBlock ∧ some k_ ≠ (.slice Ao30 t455.length co30 : Value).ownBlock ∧ some k_ ≠ (.slice Ao12 t433.length co12 : Value).ownBlock) (.slice Ao10 t426.length co10) t426) := ⟨h3_⟩
     replace HO_447000 : Aside0 (Kd.R (Kd.int .i64) 2 w50 w.heap.size (fun k_ => some k_ ≠ (v461 : Value).ownBlock ∧ some k_ ≠ (v464 : Value).ownBlock ∧ some k_ ≠ (v469 : Value).ownBlock ∧ some k_ ≠ (.slice Ao10 t426.length co10 : Value).ownBlock ∧ some k_ ≠ (.slice Ao18 t442.length co18 : Value).ownBlock ∧ some k_ ≠ (.slice Ao26 t450.length co26 : Value).ownBlock ∧ some k_ ≠ (.slice Ao30 t455.length co30 : Value).ownBlock ∧ some k_ ≠ (.slice Ao12 t433.length co12 : Value).ownBlock) (.slice Ao15 t437.length co15) t437) := ⟨h4_⟩
     replace HO_447003 : Aside0 (Kd.R (Kd.int .i64) 2 w50 w.heap.size (fun k_ => some k_ ≠ (v461 : Value).ownBlock ∧ some k_ ≠ (v464 : Value).ownBlock ∧ some k_ ≠ (v469 : Value).ownBlock ∧ some k_ ≠ (.slice Ao10 t426.length co10 : Value).ownBlock ∧ some k_ ≠ (.slice Ao15 t437.length co15 : Value).ownBlock ∧ some k_ ≠ (.slice Ao26 t450.length co26 : Value).ownBlock ∧ some k_ ≠ (.slice Ao30 t455.length co30 : Value).ownBlock ∧ some k_ ≠ (.slice Ao12 t433.length co12 : Value).ownBlock) (.slice Ao18 t442.length co18) t442) := ⟨h5_⟩
     replace HO_460000 : Aside0 (Kd.R (Kd.int .i64) 2 w50 w.heap.size (fun k_ => some k_ ≠ (v461 : Value).ownBlock ∧ some k_ ≠ (v464 : Value).ownBlock ∧ some k_ ≠ (v469 : Value).ownBlock ∧ some k_ ≠ (.slice Ao10 t426.length co10 : Value).ownBlock ∧ some k_ ≠ (.slice Ao15 t437.length co15 : Value).ownBlock ∧ some k_ ≠ (.slice Ao18 t442.length co18 : Value).ownBlock ∧ some k_ ≠ (.slice Ao30 t455.length co30 : Value).ownBlock ∧ some k_ ≠ (.slice Ao12 t433.length co12 : Value).ownBlock) (.slice Ao26 t450.length co26) t450) := ⟨h6_⟩
     replace HO_460003 : Aside0 (Kd.R (Kd.int .i64) 2 w50 w.heap.size (fun k_ => some k_ ≠ (v461 : Value).ownBlock ∧ some k_ ≠ (v464 : Value).ownBlock ∧ some k_ ≠ (v469 : Value).ownBlock ∧ some k_ ≠ (.slice Ao10 t426.length co10 : Value).ownBlock ∧ some k_ ≠ (.slice Ao15 t437.length co15 : Value).ownBlock ∧ some k_ ≠ (.slice Ao18 t442.length co18 : Value).ownBlock ∧ some k_ ≠ (.slice Ao26 t450.length co26 : Value).ownBlock ∧ some k_ ≠ (.slice Ao12 t433.length co12 : Value).ownBlock) (.slice Ao30 t455.length co30) t455) := ⟨h7_⟩
     replace HO_6 : Aside0 (Kd.R (Kd.int .i64) 2 w50 w.heap.size (fun k_ => some k_ ≠ (v461 : Value).ownBlock ∧ some k_ ≠ (v464 : Value).ownBlock ∧ some k_ ≠ (v469 : Value).ownBlock ∧ some k_ ≠ (.slice Ao10 t426.length co10 : Value).ownBlock ∧ some k_ ≠ (.slice Ao15 t437.length co15 : Value).ownBlock ∧ some k_ ≠ (.slice Ao18 t442.length co18 : Value).ownBlock ∧ some k_ ≠ (.slice Ao26 t450.length co26 : Value).ownBlock ∧ some k_ ≠ (.slice Ao30 t455.length co30 : Value).ownBlock) (.slice Ao12 t433.length co12) t433) := ⟨h8_⟩
     replace BK436 : Aside0 (w50.heap[gb436]? = some (.cells #[.slice Ao10 t426.length co10, .int .i64 t429, .int .i64 t430] 26 (0, 0))) := ⟨h9_⟩
     replace BK446 : Aside0 (w50.heap[gb446]? = some (.cells #[.slice Ao15 t437.length co15, .int .i64 t440, .int .i64 t441, .slice Ao18 t442.length co18, .int .i64 t445] 28 (0, 0))) := ⟨h10_⟩
     replace BK459 : Aside0 (w50.heap[gb459]? = some (.cells #[.slice Ao26 t450.length co26, .int .i64 t453, .int .i64 t454, .slice Ao30 t455.length co30, .int .i64 t458] 28 (0, 0))) := ⟨h11_⟩
     have BK472 : Aside0 (w50.heap[gb472]? = some (.cells #[.slice none 0 0, .int .i64 0, .int .i64 0, .slice none 0 0, .int .i64 0] 28 (0, 0))) := ⟨h12_⟩
     have GW472 : Aside0 (w.heap.size ≤ gb472) := ⟨h13_⟩
     have GE472 : Aside0 (w.heap.size ≤ gb472) := ⟨h14_⟩
     have NB436_472 : Aside0 (gb436 ≠ gb472) := ⟨h15_⟩
     have NB472_436 : Aside0 (gb472 ≠ gb436) := ⟨h16_⟩
     have NB446_472 : Aside0 (gb446 ≠ gb472) := ⟨h17_⟩
     have NB472_446 : Aside0 (gb472 ≠ gb446) := ⟨h18_⟩
     have NB459_472 : Aside0 (gb459 ≠ gb472) := ⟨h19_⟩
     have NB472_459 : Aside0 (gb472 ≠ gb459) := ⟨h20_⟩
     replace HB : Aside0 (Below w.heap.size w w50) := ⟨h21_⟩
     clear h0_ h1_ h2_ h3_ h4_ h5_ h6_ h7_ h8_ h9_ h10_ h11_ h12_ h13_ h14_ h15_ h16_ h17_ h18_ h19_ h20_ h21_
     have hHeld : w50.cell? ⟨gb459, 0, none⟩ = some (.slice Ao26 t450.length co26) ∧ w50.cell? ⟨gb459, 1, none⟩ = some (.int .i64 t453) ∧ w50.cell? ⟨gb459, 2, none⟩ = some (.int .i64 t454) ∧ w50.cell? ⟨gb459, 3, none⟩ = some (.slice Ao30 t455.length co30) ∧ w50.cell? ⟨gb459, 4, none⟩ = some (.int .i64 t458) := hS_
     obtain ⟨Ao51, co51, eo51⟩ := Kd.R_slice HO465.out
     (first | subst eo51 | (injection eo51 with f1_ f2_ f3_; have f4_ := f1_.symm; have f5_ := f3_.symm; clear f1_ f2_ f3_; subst f4_; subst f5_))
     obtain ⟨Ao55, co55, eo55⟩ := Kd.R_slice HO470.out
     (first | subst eo55 | (injection eo55 with f1_ f2_ f3_; have f4_ := f1_.symm; have f5_ := f3_.symm; clear f1_ f2_ f3_; subst f4_; subst f5_))
     refine norm_ (a' := ?_) ?_ ?_
     rotate_left
     ·simp only [putAll, Act.put, sa_, s0_, ss_]
      rfl
     refine one_ (i := 12) (N := none) #[true, true, true, true, true, true, true, true, true, true, true, true, true] rfl rfl (one_of HT_.out (by kernel_rfl)) (by decide) (fun K hK => ?_)
     have hs52 : w50.cell? ⟨gb472, 0, none⟩ = some (.slice none 0 0) := bc BK472.out 0
     have hfs52 := blk_frozen BK472.out 0
     have hns52_0 := NB436_472.out
     have hns52_1 := NB446_472.out
     have hns52_2 := NB459_472.out
     have hms52_0 := NB472_436.out
     have hms52_1 := NB472_446.out
     have hms52_2 := NB472_459.out
     have hs53 : w50.cell? ⟨gb472, 1, none⟩ = some (.int .i64 0) := bc BK472.out 1
     have hfs53 := blk_frozen BK472.out 1
     have hns53_0 := NB436_472.out
     have hns53_1 := NB446_472.out
     have hns53_2 := NB459_472.out
     have hms53_0 := NB472_436.out
     have hms53_1 := NB472_446.out
     have hms53_2 := NB472_459.out
     have hs54 : w50.cell? ⟨gb472, 2, none⟩ = some (.int .i64 0) := bc BK472.out 2
     have hfs54 := blk_frozen BK472.out 2
     have hns54_0 := NB436_472.out
     have hns54_1 := NB446_472.out
     have hns54_2 := NB459_472.out
     have hms54_0 := NB472_436.out
     have hms54_1 := NB472_446.out
     have hms54_2 := NB472_459.out
     have hs56 : w50.cell? ⟨gb472, 3, none⟩ = some (.slice none 0 0) := bc BK472.out 3
     have hfs56 := blk_frozen BK472.out 3
     have hns56_0 := NB436_472.out
     have hns56_1 := NB446_472.out
     have hns56_2 := NB459_472.out
     have hms56_0 := NB472_436.out
     have hms56_1 := NB472_446.out
     have hms56_2 := NB472_459.out
     have hs57 : w50.cell? ⟨gb472, 4, none⟩ = some (.int .i64 0) := bc BK472.out 4
     have hfs57 := blk_frozen BK472.out 4
     have hns57_0 := NB436_472.out
     have hns57_1 := NB446_472.out
     have hns57_2 := NB459_472.out
     have hms57_0 := NB472_436.out
     have hms57_1 := NB472_446.out
     have hms57_2 := NB472_459.out
     refine skip_ (w1 := ?_) (by rfl) rfl ?_ ?_
     rotate_left
     ·go_simp
      rfl
     refine hK.out _ _ ⟨((cell_far (p := ⟨gb472, _, none⟩) NB459_472.out _).trans (((cell_far (p := ⟨gb472, _, none⟩) NB459_472.out _).trans (((cell_far (p := ⟨gb472, _, none⟩) NB459_472.out _).trans (((cell_far (p := ⟨gb472, _, none⟩) NB459_472.out _).trans (((cell_far (p := ⟨gb472, _, none⟩) NB459_472.out _).trans (hHeld.1)))))))))), ((cell_far (p := ⟨gb472, _, none⟩) NB459_472.out _).trans (((cell_far (p := ⟨gb472, _, none⟩) NB459_472.out _).trans (((cell_far (p := ⟨gb472, _, none⟩) NB459_472.out _).trans (((cell_far (p := ⟨gb472, _, none⟩) NB459_472.out _).trans (((cell_far (p := ⟨gb472, _, none⟩) NB459_472.out _).trans (hHeld.2.1)))))))))), ((cell_far (p := ⟨gb472, _, none⟩) NB459_472.out _).trans (((cell_far (p := ⟨gb472, _, none⟩) NB459_472.out _).trans (((cell_far (p := ⟨gb472, _, none⟩) NB459_472.out _).trans (((cell_far (p := ⟨gb472, _, none⟩) NB459_472.out _).trans (((cell_far (p := ⟨gb472, _, none⟩) NB459_472.out _).trans (hHeld.2.2.1)))))))))), ((cell_far (p := ⟨gb472, _, none⟩) NB459_472.out _).trans (((cell_far (p := ⟨gb472, _, none⟩) NB459_472.out _).trans (((cell_far (p := ⟨gb472, _, none⟩) NB459_472.out _).trans (((cell_far (p := ⟨gb472, _, none⟩) NB459_472.out _).trans (((cell_far (p := ⟨gb472, _, none⟩) NB459_472.out _).trans (hHeld.2.2.2.1)))))))))), ((cell_far (p := ⟨gb472, _, none⟩) NB459_472.out _).trans (((cell_far (p := ⟨gb472, _, none⟩) NB459_472.out _).trans (((cell_far (p := ⟨gb472, _, none⟩) NB459_472.out _).trans (((cell_far (p := ⟨gb472, _, none⟩) NB459_472.out _).trans (((cell_far (p := ⟨gb472, _, none⟩) NB459_472.out _).trans (hHeld.2.2.2.2))))))))))⟩ (fun hHeld => ?_)
     clear hK K
     refine done_ (done_of HT_.out (by kernel_rfl)) ?_
     go_upto_region 11 with (fail)
     go_cut [2] (fun v2 wc => ∃ (kq : Nat) (x2_40 : Bool), v2 = .bool x2_40 ∧ Aside0 (laws_FnReplace.j1 kq x2_40 = some r) ∧ Aside0 (kq ≤ kj6) ∧ Aside0 (Kd.R (Kd.int .i64) 2 wc w.heap.size (fun k_ => some k_ ≠ ((.slice Ao15 t437.length co15) : Value).ownBlock ∧ some k_ ≠ ((.slice Ao18 t442.length co18) : Value).ownBlock ∧ some k_ ≠ ((.slice Ao26 t450.length co26) : Value).ownBlock ∧ some k_ ≠ ((.slice Ao30 t455.length co30) : Value).ownBlock ∧ some k_ ≠ ((.slice Ao51 t463.length co51) : Value).ownBlock ∧ some k_ ≠ ((.slice Ao55 t468.length co55) : Value).ownBlock) (.slice Ao10 t426.length co10) t426) ∧ Aside0 (Kd.R (Kd.int .i64) 2 wc w.heap.size (fun k_ => some k_ ≠ ((.slice Ao10 t426.length co10) : Value).ownBlock ∧ some k_ ≠ ((.slice Ao18 t442.length co18) : Value).ownBlock ∧ some k_ ≠ ((.slice Ao26 t450.length co26) : Value).ownBlock ∧ some k_ ≠ ((.slice Ao30 t455.length co30) : Value).ownBlock ∧ some k_ ≠ ((.slice Ao51 t463.length co51) : Value).ownBlock ∧ some k_ ≠ ((.slice Ao55 t468.length co55) : Value).ownBlock) (.slice Ao15 t437.length co15) t437) ∧ Aside0 (Kd.R (Kd.int .i64) 2 wc w.heap.size (fun k_ => some k_ ≠ ((.slice Ao10 t426.length co10) : Value).ownBlock ∧ some k_ ≠ ((.slice Ao15 t437.length co15) : Value).ownBlock ∧ some k_ ≠ ((.slice Ao26 t450.length co26) : Value).ownBlock ∧ some k_ ≠ ((.slice Ao30 t455.length co30) : Value).ownBlock ∧ some k_ ≠ ((.slice Ao51 t463.length co51) : Value).ownBlock ∧ some k_ ≠ ((.slice Ao55 t468.length co55) : Value).ownBlock) (.slice Ao18 t442.length co18) t442) ∧ Aside0 (Kd.R (Kd.int .i64) 2 wc w.heap.size (fun k_ => some k_ ≠ ((.slice Ao10 t426.length co10) : Value).ownBlock ∧ some k_ ≠ ((.slice Ao15 t437.length co15) : Value).ownBlock ∧ some k_ ≠ ((.slice Ao18 t442.length co18) : Value).ownBlock ∧ some k_ ≠ ((.slice Ao30 t455.length co30) : Value).ownBlock ∧ some k_ ≠ ((.slice Ao51 t463.length co51) : Value).ownBlock ∧ some k_ ≠ ((.slice Ao55 t468.length co55) : Value).ownBlock) (.slice Ao26 t450.length co26) t450) ∧ Aside0 (Kd.R (Kd.int .i64) 2 wc w.heap.size (fun k_ => some k_ ≠ ((.slice Ao10 t426.length co10) : Value).ownBlock ∧ some k_ ≠ ((.slice Ao15 t437.length co15) : Value).ownBlock ∧ some k_ ≠ ((.slice Ao18 t442.length co18) : Value).ownBlock ∧ some k_ ≠ ((.slice Ao26 t450.length co26) : Value).ownBlock ∧ some k_ ≠ ((.slice Ao51 t463.length co51) : Value).ownBlock ∧ some k_ ≠ ((.slice Ao55 t468.length co55) : Value).ownBlock) (.slice Ao30 t455.length co30) t455) ∧ Aside0 (Kd.R (Kd.int .i64) 2 wc w.heap.size (fun k_ => some k_ ≠ ((.slice Ao10 t426.length co10) : Value).ownBlock ∧ some k_ ≠ ((.slice Ao15 t437.length co15) : Value).ownBlock ∧ some k_ ≠ ((.slice Ao18 t442.length co18) : Value).ownBlock ∧ some k_ ≠ ((.slice Ao26 t450.length co26) : Value).ownBlock ∧ some k_ ≠ ((.slice Ao30 t455.length co30) : Value).ownBlock ∧ some k_ ≠ ((.slice Ao55 t468.length co55) : Value).ownBlock) (.slice Ao51 t463.length co51) t463) ∧ Aside0 (Kd.R (Kd.int .i64) 2 wc w.heap.size (fun k_ => some k_ ≠ ((.slice Ao10 t426.length co10) : Value).ownBlock ∧ some k_ ≠ ((.slice Ao15 t437.length co15) : Value).ownBlock ∧ some k_ ≠ ((.slice Ao18 t442.length co18) : Value).ownBlock ∧ some k_ ≠ ((.slice Ao26 t450.length co26) : Value).ownBlock ∧ some k_ ≠ ((.slice Ao30 t455.length co30) : Value).ownBlock ∧ some k_ ≠ ((.slice Ao51 t463.length co51) : Value).ownBlock) (.slice Ao55 t468.length co55) t468) ∧ Aside0 (wc.heap[gb436]? = some (.cells #[(.slice Ao10 t426.length co10), .int .i64 t429, .int .i64 t430] 26 (0, 0))) ∧ Aside0 (wc.heap[gb446]? = some (.cells #[(.slice Ao15 t437.length co15), .int .i64 t440, .int .i64 t441, (.slice Ao18 t442.length co18), .int .i64 t445] 28 (0, 0))) ∧ Aside0 (wc.heap[gb459]? = some (.cells #[(.slice Ao26 t450.length co26), .int .i64 t453, .int .i64 t454, (.slice Ao30 t455.length co30), .int .i64 t458] 28 (0, 0))) ∧ Aside0 (wc.heap[gb472]? = some (.cells #[(.slice Ao51 t463.length co51), .int .i64 t466, .int .i64 t467, (.slice Ao55 t468.length co55), .int .i64 t471] 28 (0, 0))) ∧ Aside0 (Below w.heap.size w wc))
     case first =>
      have H := HC41.out
      clear HC41
      replace H := Option.bind_eq_some_iff.mp H
      obtain ⟨t473, A580, H⟩ := H
      replace H : (if t473 = true then (if (t455.length : Int) = (wrap64 (t432 - t431)) then (if t471 = 0 then ((laws_lwSame.f kj6 t463 t426).bind fun t474 => (if t474 = true then ((laws_lwSame.f kj6 t468 t433).bind fun t475 => (laws_FnReplace.j1 kj6 t475)) else (laws_FnReplace.j1 kj6 false))) else (laws_FnReplace.j1 kj6 false)) else (laws_FnReplace.j1 kj6 false)) else (laws_FnReplace.j1 kj6 false)) = some r := H
      have A58 := Aside0.mk A580
      clear A580
      by_cases c59 : t473 = true
      ·subst c59
       have H1 : (if (t455.length : Int) = (wrap64 (t432 - t431)) then (if t471 = 0 then ((laws_lwSame.f kj6 t463 t426).bind fun t474 => (if t474 = true then ((laws_lwSame.f kj6 t468 t433).bind fun t475 => (laws_FnReplace.j1 kj6 t475)) else (laws_FnReplace.j1 kj6 false))) else (laws_FnReplace.j1 kj6 false)) else (laws_FnReplace.j1 kj6 false)) = some r := by rw [if_pos rfl] at H; exact H
       clear H
       have H := H1
       clear H1
       by_cases c60 : (t455.length : Int) = (wrap64 (t432 - t431))
       ·rw [if_pos c60] at H
        have c60b0 : ((t455.length : Int) == (wrap64 (t432 - t431))) = true := beq_iff_eq.mpr c60
        have c60b1 : ((t455.length : Int) != (wrap64 (t432 - t431))) = false := bne_eq_false_iff_eq.mpr c60
        clear c60
        (first | rw [c60b0] | (simp only [i64_w, i32_w]; rw [c60b0]) | (have e9_ := c60b0; unfold bne at e9_; rw [e9_]) | skip)
        by_cases c61 : t471 = 0
        ·rw [if_pos c61] at H
         have c61b0 : (t471 == 0) = true := beq_iff_eq.mpr c61
         have c61b1 : (t471 != 0) = false := bne_eq_false_iff_eq.mpr c61
         clear c61
         replace H := Option.bind_eq_some_iff.mp H
         obtain ⟨t474, A620, H⟩ := H
         replace H : (if t474 = true then ((laws_lwSame.f kj6 t468 t433).bind fun t475 => (laws_FnReplace.j1 kj6 t475)) else (laws_FnReplace.j1 kj6 false)) = some r := H
         have A62 := Aside0.mk A620
         clear A620
         by_cases c63 : t474 = true
         ·subst c63
          have H1 : ((laws_lwSame.f kj6 t468 t433).bind fun t475 => (laws_FnReplace.j1 kj6 t475)) = some r := by rw [if_pos rfl] at H; exact H
          clear H
          have H := H1
          clear H1
          replace H := Option.bind_eq_some_iff.mp H
          obtain ⟨t475, A640, H⟩ := H
          replace H : (laws_FnReplace.j1 kj6 t475) = some r := H
          have A64 := Aside0.mk A640
          clear A640
          have H' := Aside0.mk H
          clear H
          have hnb65 := NB459_436.out
          have hnc65 := NB436_459.out
          have hnb66 := NB459_446.out
          have hnc66 := NB446_459.out
          have hnb67 := NB459_472.out
          have hnc67 := NB472_459.out
          have hcz68_0 : w50.cell? ⟨gb459, 0, none⟩ = some (.slice Ao26 t450.length co26) := bc BK459.out 0
          have hcz68_1 : w50.cell? ⟨gb459, 1, none⟩ = some (.int .i64 t453) := bc BK459.out 1
          have hcz68_2 : w50.cell? ⟨gb459, 2, none⟩ = some (.int .i64 t454) := bc BK459.out 2
          have hcz68_3 : w50.cell? ⟨gb459, 3, none⟩ = some (.slice Ao30 t455.length co30) := bc BK459.out 3
          have hcz68_4 : w50.cell? ⟨gb459, 4, none⟩ = some (.int .i64 t458) := bc BK459.out 4
          have hfz68_0 := blk_frozen BK459.out 0
          have hfz68_1 := blk_frozen BK459.out 1
          have hfz68_2 := blk_frozen BK459.out 2
          have hfz68_3 := blk_frozen BK459.out 3
          have hfz68_4 := blk_frozen BK459.out 4
          go_wp2_with (first | ((with_reducible refine gate_callee (f := 38) rfl ?_); refine gl (some 52) Try.func38 #[.agg #[.slice Ao26 t450.length co26, .int .i64 t453, .int .i64 t454]] ?_; (with_reducible refine (impl_BufRight.calls kj6 _ _ t450 t453 t454 true _ ?side1 ?side2 A58.out).mono ?_); (case side1 => refine (Kd.R_reads' (e := 2) (base := w.heap.size) (ok := fun k_ => (some k_ ≠ (v461 : Value).ownBlock ∧ (some k_ ≠ (.slice Ao51 t463.length co51 : Value).ownBlock ∧ (some k_ ≠ (.slice Ao55 t468.length co55 : Value).ownBlock ∧ (some k_ ≠ (.slice Ao10 t426.length co10 : Value).ownBlock ∧ (some k_ ≠ (.slice Ao15 t437.length co15 : Value).ownBlock ∧ (some k_ ≠ (.slice Ao18 t442.length co18 : Value).ownBlock ∧ (some k_ ≠ (.slice Ao30 t455.length co30 : Value).ownBlock ∧ some k_ ≠ (.slice Ao12 t433.length co12 : Value).ownBlock)))))))) (n := t450.length) (c := co26) ?_).2.2; exact (kr ((Kd.R_mono (Kd.R_far (p := ⟨gb472, 4, none⟩) (Kd.R_far (p := ⟨gb472, 3, none⟩) (Kd.R_far (p := ⟨gb472, 2, none⟩) (Kd.R_far (p := ⟨gb472, 1, none⟩) (Kd.R_far (p := ⟨gb472, 0, none⟩) (Kd.R_types HO_460000.out BK472.out (by decide)) (fun _ hk => hk.2) (.slice Ao51 t463.length co51)) (fun _ hk => hk.2) (.int .i64 t466)) (fun _ hk => hk.2) (.int .i64 t467)) (fun _ hk => hk.2) (.slice Ao55 t468.length co55)) (fun _ hk => hk.2) (.int .i64 t471)) (fun _ h_ => h_.1))))); (case side2 => exact (Kd.R_reads' HO_460000.out).2.1); rintro e w69 ⟨rfl, hb⟩; refine ⟨_, rfl, ?_⟩; replace HO_6 := am (Kd.R_below (kr ((Kd.R_mono (Kd.R_far (p := ⟨gb472, 4, none⟩) (Kd.R_far (p := ⟨gb472, 3, none⟩) (Kd.R_far (p := ⟨gb472, 2, none⟩) (Kd.R_far (p := ⟨gb472, 1, none⟩) (Kd.R_far (p := ⟨gb472, 0, none⟩) (Kd.R_types HO_6.out BK472.out (by decide)) (fun _ hk => hk.2) (.slice Ao51 t463.length co51)) (fun _ hk => hk.2) (.int .i64 t466)) (fun _ hk => hk.2) (.int .i64 t467)) (fun _ hk => hk.2) (.slice Ao55 t468.length co55)) (fun _ hk => hk.2) (.int .i64 t471)) (fun _ h_ => h_.1)))) hb); replace HO_437000 := am (Kd.R_below (kr ((Kd.R_mono (Kd.R_far (p := ⟨gb472, 4, none⟩) (Kd.R_far (p := ⟨gb472, 3, none⟩) (Kd.R_far (p := ⟨gb472, 2, none⟩) (Kd.R_far (p := ⟨gb472, 1, none⟩) (Kd.R_far (p := ⟨gb472, 0, none⟩) (Kd.R_types HO_437000.out BK472.out (by decide)) (fun _ hk => hk.2) (.slice Ao51 t463.length co51)) (fun _ hk => hk.2) (.int .i64 t466)) (fun _ hk => hk.2) (.int .i64 t467)) (fun _ hk => hk.2) (.slice Ao55 t468.length co55)) (fun _ hk => hk.2) (.int .i64 t471)) (fun _ h_ => h_.1)))) hb); replace HO_447000 := am (Kd.R_below (kr ((Kd.R_mono (Kd.R_far (p := ⟨gb472, 4, none⟩) (Kd.R_far (p := ⟨gb472, 3, none⟩) (Kd.R_far (p := ⟨gb472, 2, none⟩) (Kd.R_far (p := ⟨gb472, 1, none⟩) (Kd.R_far (p := ⟨gb472, 0, none⟩) (Kd.R_types HO_447000.out BK472.out (by decide)) (fun _ hk => hk.2) (.slice Ao51 t463.length co51)) (fun _ hk => hk.2) (.int .i64 t466)) (fun _ hk => hk.2) (.int .i64 t467)) (fun _ hk => hk.2) (.slice Ao55 t468.length co55)) (fun _ hk => hk.2) (.int .i64 t471)) (fun _ h_ => h_.1)))) hb); replace HO_447003 := am (Kd.R_below (kr ((Kd.R_mono (Kd.R_far (p := ⟨gb472, 4, none⟩) (Kd.R_far (p := ⟨gb472, 3, none⟩) (Kd.R_far (p := ⟨gb472, 2, none⟩) (Kd.R_far (p := ⟨gb472, 1, none⟩) (Kd.R_far (p := ⟨gb472, 0, none⟩) (Kd.R_types HO_447003.out BK472.out (by decide)) (fun _ hk => hk.2) (.slice Ao51 t463.length co51)) (fun _ hk => hk.2) (.int .i64 t466)) (fun _ hk => hk.2) (.int .i64 t467)) (fun _ hk => hk.2) (.slice Ao55 t468.length co55)) (fun _ hk => hk.2) (.int .i64 t471)) (fun _ h_ => h_.1)))) hb); replace HO_460000 := am (Kd.R_below (kr ((Kd.R_mono (Kd.R_far (p := ⟨gb472, 4, none⟩) (Kd.R_far (p := ⟨gb472, 3, none⟩) (Kd.R_far (p := ⟨gb472, 2, none⟩) (Kd.R_far (p := ⟨gb472, 1, none⟩) (Kd.R_far (p := ⟨gb472, 0, none⟩) (Kd.R_types HO_460000.out BK472.out (by decide)) (fun _ hk => hk.2) (.slice Ao51 t463.length co51)) (fun _ hk => hk.2) (.int .i64 t466)) (fun _ hk => hk.2) (.int .i64 t467)) (fun _ hk => hk.2) (.slice Ao55 t468.length co55)) (fun _ hk => hk.2) (.int .i64 t471)) (fun _ h_ => h_.1)))) hb); replace HO_460003 := am (Kd.R_below (kr ((Kd.R_mono (Kd.R_far (p := ⟨gb472, 4, none⟩) (Kd.R_far (p := ⟨gb472, 3, none⟩) (Kd.R_far (p := ⟨gb472, 2, none⟩) (Kd.R_far (p := ⟨gb472, 1, none⟩) (Kd.R_far (p := ⟨gb472, 0, none⟩) (Kd.R_types HO_460003.out BK472.out (by decide)) (fun _ hk => hk.2) (.slice Ao51 t463.length co51)) (fun _ hk => hk.2) (.int .i64 t466)) (fun _ hk => hk.2) (.int .i64 t467)) (fun _ hk => hk.2) (.slice Ao55 t468.length co55)) (fun _ hk => hk.2) (.int .i64 t471)) (fun _ h_ => h_.1)))) hb); replace HO462 := am (Kd.R_below (kr ((Kd.R_mono (Kd.R_far (p := ⟨gb472, 4, none⟩) (Kd.R_far (p := ⟨gb472, 3, none⟩) (Kd.R_far (p := ⟨gb472, 2, none⟩) (Kd.R_far (p := ⟨gb472, 1, none⟩) (Kd.R_far (p := ⟨gb472, 0, none⟩) (Kd.R_types HO462.out BK472.out (by decide)) (fun _ hk => hk.2) (.slice Ao51 t463.length co51)) (fun _ hk => hk.2) (.int .i64 t466)) (fun _ hk => hk.2) (.int .i64 t467)) (fun _ hk => hk.2) (.slice Ao55 t468.length co55)) (fun _ hk => hk.2) (.int .i64 t471)) (fun _ h_ => h_.1)))) hb); replace HO465 := am (Kd.R_below (kr ((Kd.R_mono (Kd.R_far (p := ⟨gb472, 4, none⟩) (Kd.R_far (p := ⟨gb472, 3, none⟩) (Kd.R_far (p := ⟨gb472, 2, none⟩) (Kd.R_far (p := ⟨gb472, 1, none⟩) (Kd.R_far (p := ⟨gb472, 0, none⟩) (Kd.R_types HO465.out BK472.out (by decide)) (fun _ hk => hk.2) (.slice Ao51 t463.length co51)) (fun _ hk => hk.2) (.int .i64 t466)) (fun _ hk => hk.2) (.int .i64 t467)) (fun _ hk => hk.2) (.slice Ao55 t468.length co55)) (fun _ hk => hk.2) (.int .i64 t471)) (fun _ h_ => h_.1)))) hb); replace HO470 := am (Kd.R_below (kr ((Kd.R_mono (Kd.R_far (p := ⟨gb472, 4, none⟩) (Kd.R_far (p := ⟨gb472, 3, none⟩) (Kd.R_far (p := ⟨gb472, 2, none⟩) (Kd.R_far (p := ⟨gb472, 1, none⟩) (Kd.R_far (p := ⟨gb472, 0, none⟩) (Kd.R_types HO470.out BK472.out (by decide)) (fun _ hk => hk.2) (.slice Ao51 t463.length co51)) (fun _ hk => hk.2) (.int .i64 t466)) (fun _ hk => hk.2) (.int .i64 t467)) (fun _ hk => hk.2) (.slice Ao55 t468.length co55)) (fun _ hk => hk.2) (.int .i64 t471)) (fun _ h_ => h_.1)))) hb); replace BK436 := am (blk_below (g := gb436) (o := .cells #[.slice Ao10 t426.length co10, .int .i64 t429, .int .i64 t430] 26 (0, 0)) (by (with_reducible repeat (first | refine blk_drewN ?_ _ | refine blk_drew ?_ | refine blk_alloc ?_ _)); refine blk_far ?_ NB436_472.out _; (with_reducible repeat (first | refine blk_drewN ?_ _ | refine blk_drew ?_ | refine blk_alloc ?_ _)); refine blk_far ?_ NB436_472.out _; (with_reducible repeat (first | refine blk_drewN ?_ _ | refine blk_drew ?_ | refine blk_alloc ?_ _)); refine blk_far ?_ NB436_472.out _; (with_reducible repeat (first | refine blk_drewN ?_ _ | refine blk_drew ?_ | refine blk_alloc ?_ _)); refine blk_far ?_ NB436_472.out _; (with_reducible repeat (first | refine blk_drewN ?_ _ | refine blk_drew ?_ | refine blk_alloc ?_ _)); refine blk_far ?_ NB436_472.out _; (with_reducible repeat (first | refine blk_drewN ?_ _ | refine blk_drew ?_ | refine blk_alloc ?_ _)); exact BK436.out) hb); replace BK446 := am (blk_below (g := gb446) (o := .cells #[.slice Ao15 t437.length co15, .int .i64 t440, .int .i64 t441, .slice Ao18 t442.length co18, .int .i64 t445] 28 (0, 0)) (by (with_reducible repeat (first | refine blk_drewN ?_ _ | refine blk_drew ?_ | refine blk_alloc ?_ _)); refine blk_far ?_ NB446_472.out _; (with_reducible repeat (first | refine blk_drewN ?_ _ | refine blk_drew ?_ | refine blk_alloc ?_ _)); refine blk_far ?_ NB446_472.out _; (with_reducible repeat (first | refine blk_drewN ?_ _ | refine blk_drew ?_ | refine blk_alloc ?_ _)); refine blk_far ?_ NB446_472.out _; (with_reducible repeat (first | refine blk_drewN ?_ _ | refine blk_drew ?_ | refine blk_alloc ?_ _)); refine blk_far ?_ NB446_472.out _; (with_reducible repeat (first | refine blk_drewN ?_ _ | refine blk_drew ?_ | refine blk_alloc ?_ _)); refine blk_far ?_ NB446_472.out _; (with_reducible repeat (first | refine blk_drewN ?_ _ | refine blk_drew ?_ | refine blk_alloc ?_ _)); exact BK446.out) hb); replace BK459 := am (blk_below (g := gb459) (o := .cells #[.slice Ao26 t450.length co26, .int .i64 t453, .int .i64 t454, .slice Ao30 t455.length co30, .int .i64 t458] 28 (0, 0)) (by (with_reducible repeat (first | refine blk_drewN ?_ _ | refine blk_drew ?_ | refine blk_alloc ?_ _)); refine blk_far ?_ NB459_472.out _; (with_reducible repeat (first | refine blk_drewN ?_ _ | refine blk_drew ?_ | refine blk_alloc ?_ _)); refine blk_far ?_ NB459_472.out _; (with_reducible repeat (first | refine blk_drewN ?_ _ | refine blk_drew ?_ | refine blk_alloc ?_ _)); refine blk_far ?_ NB459_472.out _; (with_reducible repeat (first | refine blk_drewN ?_ _ | refine blk_drew ?_ | refine blk_alloc ?_ _)); refine blk_far ?_ NB459_472.out _; (with_reducible repeat (first | refine blk_drewN ?_ _ | refine blk_drew ?_ | refine blk_alloc ?_ _)); refine blk_far ?_ NB459_472.out _; (with_reducible repeat (first | refine blk_drewN ?_ _ | refine blk_drew ?_ | refine blk_alloc ?_ _)); exact BK459.out) hb); replace BK472 := am (blk_below (g := gb472) (o := .cells #[.slice Ao51 t463.length co51, .int .i64 t466, .int .i64 t467, .slice Ao55 t468.length co55, .int .i64 t471] 28 (0, 0)) (by (with_reducible repeat (first | refine blk_drewN ?_ _ | refine blk_drew ?_ | refine blk_alloc ?_ _)); refine blk_put (cs := #[.slice Ao51 t463.length co51, .int .i64 t466, .int .i64 t467, .slice Ao55 t468.length co55, .int .i64 0]) ?_ 4 _ rfl; (with_reducible repeat (first | refine blk_drewN ?_ _ | refine blk_drew ?_ | refine blk_alloc ?_ _)); refine blk_put (cs := #[.slice Ao51 t463.length co51, .int .i64 t466, .int .i64 t467, .slice none 0 0, .int .i64 0]) ?_ 3 _ rfl; (with_reducible repeat (first | refine blk_drewN ?_ _ | refine blk_drew ?_ | refine blk_alloc ?_ _)); refine blk_put (cs := #[.slice Ao51 t463.length co51, .int .i64 t466, .int .i64 0, .slice none 0 0, .int .i64 0]) ?_ 2 _ rfl; (with_reducible repeat (first | refine blk_drewN ?_ _ | refine blk_drew ?_ | refine blk_alloc ?_ _)); refine blk_put (cs := #[.slice Ao51 t463.length co51, .int .i64 0, .int .i64 0, .slice none 0 0, .int .i64 0]) ?_ 1 _ rfl; (with_reducible repeat (first | refine blk_drewN ?_ _ | refine blk_drew ?_ | refine blk_alloc ?_ _)); refine blk_put (cs := #[.slice none 0 0, .int .i64 0, .int .i64 0, .slice none 0 0, .int .i64 0]) ?_ 0 _ rfl; (with_reducible repeat (first | refine blk_drewN ?_ _ | refine blk_drew ?_ | refine blk_alloc ?_ _)); exact BK472.out) hb); replace HB := am (below_step (bl HB.out) hb); (try clear hb); (try clear hb2); (try clear hk); (try clear hi); have hcz70_0 : w69.cell? ⟨gb459, 0, none⟩ = some (.slice Ao26 t450.length co26) := bc BK459.out 0; have hcz70_1 : w69.cell? ⟨gb459, 1, none⟩ = some (.int .i64 t453) := bc BK459.out 1; have hcz70_2 : w69.cell? ⟨gb459, 2, none⟩ = some (.int .i64 t454) := bc BK459.out 2; have hcz70_3 : w69.cell? ⟨gb459, 3, none⟩ = some (.slice Ao30 t455.length co30) := bc BK459.out 3; have hcz70_4 : w69.cell? ⟨gb459, 4, none⟩ = some (.int .i64 t458) := bc BK459.out 4; have hfz70_0 := blk_frozen BK459.out 0; have hfz70_1 := blk_frozen BK459.out 1; have hfz70_2 := blk_frozen BK459.out 2; have hfz70_3 := blk_frozen BK459.out 3; have hfz70_4 := blk_frozen BK459.out 4; have hnb71 := NB472_436.out; have hnc71 := NB436_472.out; have hnb72 := NB472_446.out; have hnc72 := NB446_472.out; have hcz73_0 : w69.cell? ⟨gb472, 0, none⟩ = some (.slice Ao51 t463.length co51) := bc BK472.out 0; have hcz73_1 : w69.cell? ⟨gb472, 1, none⟩ = some (.int .i64 t466) := bc BK472.out 1; have hcz73_2 : w69.cell? ⟨gb472, 2, none⟩ = some (.int .i64 t467) := bc BK472.out 2; have hcz73_3 : w69.cell? ⟨gb472, 3, none⟩ = some (.slice Ao55 t468.length co55) := bc BK472.out 3; have hcz73_4 : w69.cell? ⟨gb472, 4, none⟩ = some (.int .i64 t471) := bc BK472.out 4; have hfz73_0 := blk_frozen BK472.out 0; have hfz73_1 := blk_frozen BK472.out 1; have hfz73_2 := blk_frozen BK472.out 2; have hfz73_3 := blk_frozen BK472.out 3; have hfz73_4 := blk_frozen BK472.out 4; have hnb74 := NB436_446.out; have hnc74 := NB446_436.out; have hcz75_0 : w69.cell? ⟨gb436, 0, none⟩ = some (.slice Ao10 t426.length co10) := bc BK436.out 0; have hcz75_1 : w69.cell? ⟨gb436, 1, none⟩ = some (.int .i64 t429) := bc BK436.out 1; have hcz75_2 : w69.cell? ⟨gb436, 2, none⟩ = some (.int .i64 t430) := bc BK436.out 2; have hfz75_0 := blk_frozen BK436.out 0; have hfz75_1 := blk_frozen BK436.out 1; have hfz75_2 := blk_frozen BK436.out 2) | (go_at_call 39; (with_reducible refine (laws_lwSame.calls kj6 _ _ t463 _ _ t426 true _ ?side1 ?side2 ?side3 ?side4 A62.out).mono ?_); (case side1 => repeat (first | exact (Kd.R_reads' HO465.out).2.2 | (with_reducible refine Kd.C_alloc ?_ _) | (with_reducible refine Kd.C_drewN ?_ _) | (with_reducible refine Kd.C_drew ?_))); (case side2 => exact (Kd.R_reads' HO465.out).2.1); (case side3 => repeat (first | exact (Kd.R_reads' HO_437000.out).2.2 | (with_reducible refine Kd.C_alloc ?_ _) | (with_reducible refine Kd.C_drewN ?_ _) | (with_reducible refine Kd.C_drew ?_))); (case side4 => exact (Kd.R_reads' HO_437000.out).2.1); rintro e w' ⟨rfl, ⟨nd, rfl⟩⟩) | (go_at_call 39; (with_reducible refine (laws_lwSame.calls kj6 _ _ t468 _ _ t433 t475 _ ?side1 ?side2 ?side3 ?side4 A64.out).mono ?_); (case side1 => repeat (first | exact (Kd.R_reads' HO470.out).2.2 | (with_reducible refine Kd.C_alloc ?_ _) | (with_reducible refine Kd.C_drewN ?_ _) | (with_reducible refine Kd.C_drew ?_))); (case side2 => exact (Kd.R_reads' HO470.out).2.1); (case side3 => repeat (first | exact (Kd.R_reads' HO_6.out).2.2 | (with_reducible refine Kd.C_alloc ?_ _) | (with_reducible refine Kd.C_drewN ?_ _) | (with_reducible refine Kd.C_drew ?_))); (case side4 => exact (Kd.R_reads' HO_6.out).2.1); rintro e w' ⟨rfl, ⟨nd, rfl⟩⟩))
          go_meet
          case rel => exact ⟨_, (t475), (by first | rfl | (simp; done) | (simp [*]; done)), H', ⟨by have := HJ6.out; first | omega | exact Nat.le_refl _⟩, ⟨kr (Kd.R_mono HO_437000.out (fun _ hk => ⟨hk.2.2.2.1, ⟨hk.2.2.2.2.1, ⟨hk.2.2.2.2.2.1, ⟨hk.2.2.2.2.2.2.1, ⟨hk.2.1, hk.2.2.1⟩⟩⟩⟩⟩))⟩, ⟨kr (Kd.R_mono HO_447000.out (fun _ hk => ⟨hk.2.2.2.1, ⟨hk.2.2.2.2.1, ⟨hk.2.2.2.2.2.1, ⟨hk.2.2.2.2.2.2.1, ⟨hk.2.1, hk.2.2.1⟩⟩⟩⟩⟩))⟩, ⟨kr (Kd.R_mono HO_447003.out (fun _ hk => ⟨hk.2.2.2.1, ⟨hk.2.2.2.2.1, ⟨hk.2.2.2.2.2.1, ⟨hk.2.2.2.2.2.2.1, ⟨hk.2.1, hk.2.2.1⟩⟩⟩⟩⟩))⟩, ⟨kr (Kd.R_mono HO_460000.out (fun _ hk => ⟨hk.2.2.2.1, ⟨hk.2.2.2.2.1, ⟨hk.2.2.2.2.2.1, ⟨hk.2.2.2.2.2.2.1, ⟨hk.2.1, hk.2.2.1⟩⟩⟩⟩⟩))⟩, ⟨kr (Kd.R_mono HO_460003.out (fun _ hk => ⟨hk.2.2.2.1, ⟨hk.2.2.2.2.1, ⟨hk.2.2.2.2.2.1, ⟨hk.2.2.2.2.2.2.1, ⟨hk.2.1, hk.2.2.1⟩⟩⟩⟩⟩))⟩, ⟨kr (Kd.R_mono HO465.out (fun _ hk => ⟨hk.2.2.1, ⟨hk.2.2.2.1, ⟨hk.2.2.2.2.1, ⟨hk.2.2.2.2.2.1, ⟨hk.2.2.2.2.2.2.1, hk.2.1⟩⟩⟩⟩⟩))⟩, ⟨kr (Kd.R_mono HO470.out (fun _ hk => ⟨hk.2.2.1, ⟨hk.2.2.2.1, ⟨hk.2.2.2.2.1, ⟨hk.2.2.2.2.2.1, ⟨hk.2.2.2.2.2.2.1, hk.2.1⟩⟩⟩⟩⟩))⟩, ⟨pk BK436.out⟩, ⟨pk BK446.out⟩, ⟨pk BK459.out⟩, ⟨pk BK472.out⟩, ⟨by repeat (first | (with_reducible first | exact HB.out | apply below_alloc | apply pw_below_drewN | apply below_drew1 | refine below_set ?_ GE436.out | refine below_set ?_ GE446.out | refine below_set ?_ GE459.out | refine below_set ?_ GE472.out) | exact HB.out)⟩⟩
         ·replace c63 := Bool.eq_false_iff.mpr c63
          subst c63
          have H1 : (laws_FnReplace.j1 kj6 false) = some r := by rw [if_neg (show ¬ (false = true) by decide)] at H; exact H
          clear H
          have H := H1
          clear H1
          have H' := Aside0.mk H
          clear H
          have hnb76 := NB459_436.out
          have hnc76 := NB436_459.out
          have hnb77 := NB459_446.out
          have hnc77 := NB446_459.out
          have hnb78 := NB459_472.out
          have hnc78 := NB472_459.out
          have hcz79_0 : w50.cell? ⟨gb459, 0, none⟩ = some (.slice Ao26 t450.length co26) := bc BK459.out 0
          have hcz79_1 : w50.cell? ⟨gb459, 1, none⟩ = some (.int .i64 t453) := bc BK459.out 1
          have hcz79_2 : w50.cell? ⟨gb459, 2, none⟩ = some (.int .i64 t454) := bc BK459.out 2
          have hcz79_3 : w50.cell? ⟨gb459, 3, none⟩ = some (.slice Ao30 t455.length co30) := bc BK459.out 3
          have hcz79_4 : w50.cell? ⟨gb459, 4, none⟩ = some (.int .i64 t458) := bc BK459.out 4
          have hfz79_0 := blk_frozen BK459.out 0
          have hfz79_1 := blk_frozen BK459.out 1
          have hfz79_2 := blk_frozen BK459.out 2
          have hfz79_3 := blk_frozen BK459.out 3
          have hfz79_4 := blk_frozen BK459.out 4
          go_wp2_with (first | ((with_reducible refine gate_callee (f := 38) rfl ?_); refine gl (some 52) Try.func38 #[.agg #[.slice Ao26 t450.length co26, .int .i64 t453, .int .i64 t454]] ?_; (with_reducible refine (impl_BufRight.calls kj6 _ _ t450 t453 t454 true _ ?side1 ?side2 A58.out).mono ?_); (case side1 => refine (Kd.R_reads' (e := 2) (base := w.heap.size) (ok := fun k_ => (some k_ ≠ (v461 : Value).ownBlock ∧ (some k_ ≠ (.slice Ao51 t463.length co51 : Value).ownBlock ∧ (some k_ ≠ (.slice Ao55 t468.length co55 : Value).ownBlock ∧ (some k_ ≠ (.slice Ao10 t426.length co10 : Value).ownBlock ∧ (some k_ ≠ (.slice Ao15 t437.length co15 : Value).ownBlock ∧ (some k_ ≠ (.slice Ao18 t442.length co18 : Value).ownBlock ∧ (some k_ ≠ (.slice Ao30 t455.length co30 : Value).ownBlock ∧ some k_ ≠ (.slice Ao12 t433.length co12 : Value).ownBlock)))))))) (n := t450.length) (c := co26) ?_).2.2; exact (kr ((Kd.R_mono (Kd.R_far (p := ⟨gb472, 4, none⟩) (Kd.R_far (p := ⟨gb472, 3, none⟩) (Kd.R_far (p := ⟨gb472, 2, none⟩) (Kd.R_far (p := ⟨gb472, 1, none⟩) (Kd.R_far (p := ⟨gb472, 0, none⟩) (Kd.R_types HO_460000.out BK472.out (by decide)) (fun _ hk => hk.2) (.slice Ao51 t463.length co51)) (fun _ hk => hk.2) (.int .i64 t466)) (fun _ hk => hk.2) (.int .i64 t467)) (fun _ hk => hk.2) (.slice Ao55 t468.length co55)) (fun _ hk => hk.2) (.int .i64 t471)) (fun _ h_ => h_.1))))); (case side2 => exact (Kd.R_reads' HO_460000.out).2.1); rintro e w80 ⟨rfl, hb⟩; refine ⟨_, rfl, ?_⟩; replace HO_6 := am (Kd.R_below (kr ((Kd.R_mono (Kd.R_far (p := ⟨gb472, 4, none⟩) (Kd.R_far (p := ⟨gb472, 3, none⟩) (Kd.R_far (p := ⟨gb472, 2, none⟩) (Kd.R_far (p := ⟨gb472, 1, none⟩) (Kd.R_far (p := ⟨gb472, 0, none⟩) (Kd.R_types HO_6.out BK472.out (by decide)) (fun _ hk => hk.2) (.slice Ao51 t463.length co51)) (fun _ hk => hk.2) (.int .i64 t466)) (fun _ hk => hk.2) (.int .i64 t467)) (fun _ hk => hk.2) (.slice Ao55 t468.length co55)) (fun _ hk => hk.2) (.int .i64 t471)) (fun _ h_ => h_.1)))) hb); replace HO_437000 := am (Kd.R_below (kr ((Kd.R_mono (Kd.R_far (p := ⟨gb472, 4, none⟩) (Kd.R_far (p := ⟨gb472, 3, none⟩) (Kd.R_far (p := ⟨gb472, 2, none⟩) (Kd.R_far (p := ⟨gb472, 1, none⟩) (Kd.R_far (p := ⟨gb472, 0, none⟩) (Kd.R_types HO_437000.out BK472.out (by decide)) (fun _ hk => hk.2) (.slice Ao51 t463.length co51)) (fun _ hk => hk.2) (.int .i64 t466)) (fun _ hk => hk.2) (.int .i64 t467)) (fun _ hk => hk.2) (.slice Ao55 t468.length co55)) (fun _ hk => hk.2) (.int .i64 t471)) (fun _ h_ => h_.1)))) hb); replace HO_447000 := am (Kd.R_below (kr ((Kd.R_mono (Kd.R_far (p := ⟨gb472, 4, none⟩) (Kd.R_far (p := ⟨gb472, 3, none⟩) (Kd.R_far (p := ⟨gb472, 2, none⟩) (Kd.R_far (p := ⟨gb472, 1, none⟩) (Kd.R_far (p := ⟨gb472, 0, none⟩) (Kd.R_types HO_447000.out BK472.out (by decide)) (fun _ hk => hk.2) (.slice Ao51 t463.length co51)) (fun _ hk => hk.2) (.int .i64 t466)) (fun _ hk => hk.2) (.int .i64 t467)) (fun _ hk => hk.2) (.slice Ao55 t468.length co55)) (fun _ hk => hk.2) (.int .i64 t471)) (fun _ h_ => h_.1)))) hb); replace HO_447003 := am (Kd.R_below (kr ((Kd.R_mono (Kd.R_far (p := ⟨gb472, 4, none⟩) (Kd.R_far (p := ⟨gb472, 3, none⟩) (Kd.R_far (p := ⟨gb472, 2, none⟩) (Kd.R_far (p := ⟨gb472, 1, none⟩) (Kd.R_far (p := ⟨gb472, 0, none⟩) (Kd.R_types HO_447003.out BK472.out (by decide)) (fun _ hk => hk.2) (.slice Ao51 t463.length co51)) (fun _ hk => hk.2) (.int .i64 t466)) (fun _ hk => hk.2) (.int .i64 t467)) (fun _ hk => hk.2) (.slice Ao55 t468.length co55)) (fun _ hk => hk.2) (.int .i64 t471)) (fun _ h_ => h_.1)))) hb); replace HO_460000 := am (Kd.R_below (kr ((Kd.R_mono (Kd.R_far (p := ⟨gb472, 4, none⟩) (Kd.R_far (p := ⟨gb472, 3, none⟩) (Kd.R_far (p := ⟨gb472, 2, none⟩) (Kd.R_far (p := ⟨gb472, 1, none⟩) (Kd.R_far (p := ⟨gb472, 0, none⟩) (Kd.R_types HO_460000.out BK472.out (by decide)) (fun _ hk => hk.2) (.slice Ao51 t463.length co51)) (fun _ hk => hk.2) (.int .i64 t466)) (fun _ hk => hk.2) (.int .i64 t467)) (fun _ hk => hk.2) (.slice Ao55 t468.length co55)) (fun _ hk => hk.2) (.int .i64 t471)) (fun _ h_ => h_.1)))) hb); replace HO_460003 := am (Kd.R_below (kr ((Kd.R_mono (Kd.R_far (p := ⟨gb472, 4, none⟩) (Kd.R_far (p := ⟨gb472, 3, none⟩) (Kd.R_far (p := ⟨gb472, 2, none⟩) (Kd.R_far (p := ⟨gb472, 1, none⟩) (Kd.R_far (p := ⟨gb472, 0, none⟩) (Kd.R_types HO_460003.out BK472.out (by decide)) (fun _ hk => hk.2) (.slice Ao51 t463.length co51)) (fun _ hk => hk.2) (.int .i64 t466)) (fun _ hk => hk.2) (.int .i64 t467)) (fun _ hk => hk.2) (.slice Ao55 t468.length co55)) (fun _ hk => hk.2) (.int .i64 t471)) (fun _ h_ => h_.1)))) hb); replace HO462 := am (Kd.R_below (kr ((Kd.R_mono (Kd.R_far (p := ⟨gb472, 4, none⟩) (Kd.R_far (p := ⟨gb472, 3, none⟩) (Kd.R_far (p := ⟨gb472, 2, none⟩) (Kd.R_far (p := ⟨gb472, 1, none⟩) (Kd.R_far (p := ⟨gb472, 0, none⟩) (Kd.R_types HO462.out BK472.out (by decide)) (fun _ hk => hk.2) (.slice Ao51 t463.length co51)) (fun _ hk => hk.2) (.int .i64 t466)) (fun _ hk => hk.2) (.int .i64 t467)) (fun _ hk => hk.2) (.slice Ao55 t468.length co55)) (fun _ hk => hk.2) (.int .i64 t471)) (fun _ h_ => h_.1)))) hb); replace HO465 := am (Kd.R_below (kr ((Kd.R_mono (Kd.R_far (p := ⟨gb472, 4, none⟩) (Kd.R_far (p := ⟨gb472, 3, none⟩) (Kd.R_far (p := ⟨gb472, 2, none⟩) (Kd.R_far (p := ⟨gb472, 1, none⟩) (Kd.R_far (p := ⟨gb472, 0, none⟩) (Kd.R_types HO465.out BK472.out (by decide)) (fun _ hk => hk.2) (.slice Ao51 t463.length co51)) (fun _ hk => hk.2) (.int .i64 t466)) (fun _ hk => hk.2) (.int .i64 t467)) (fun _ hk => hk.2) (.slice Ao55 t468.length co55)) (fun _ hk => hk.2) (.int .i64 t471)) (fun _ h_ => h_.1)))) hb); replace HO470 := am (Kd.R_below (kr ((Kd.R_mono (Kd.R_far (p := ⟨gb472, 4, none⟩) (Kd.R_far (p := ⟨gb472, 3, none⟩) (Kd.R_far (p := ⟨gb472, 2, none⟩) (Kd.R_far (p := ⟨gb472, 1, none⟩) (Kd.R_far (p := ⟨gb472, 0, none⟩) (Kd.R_types HO470.out BK472.out (by decide)) (fun _ hk => hk.2) (.slice Ao51 t463.length co51)) (fun _ hk => hk.2) (.int .i64 t466)) (fun _ hk => hk.2) (.int .i64 t467)) (fun _ hk => hk.2) (.slice Ao55 t468.length co55)) (fun _ hk => hk.2) (.int .i64 t471)) (fun _ h_ => h_.1)))) hb); replace BK436 := am (blk_below (g := gb436) (o := .cells #[.slice Ao10 t426.length co10, .int .i64 t429, .int .i64 t430] 26 (0, 0)) (by (with_reducible repeat (first | refine blk_drewN ?_ _ | refine blk_drew ?_ | refine blk_alloc ?_ _)); refine blk_far ?_ NB436_472.out _; (with_reducible repeat (first | refine blk_drewN ?_ _ | refine blk_drew ?_ | refine blk_alloc ?_ _)); refine blk_far ?_ NB436_472.out _; (with_reducible repeat (first | refine blk_drewN ?_ _ | refine blk_drew ?_ | refine blk_alloc ?_ _)); refine blk_far ?_ NB436_472.out _; (with_reducible repeat (first | refine blk_drewN ?_ _ | refine blk_drew ?_ | refine blk_alloc ?_ _)); refine blk_far ?_ NB436_472.out _; (with_reducible repeat (first | refine blk_drewN ?_ _ | refine blk_drew ?_ | refine blk_alloc ?_ _)); refine blk_far ?_ NB436_472.out _; (with_reducible repeat (first | refine blk_drewN ?_ _ | refine blk_drew ?_ | refine blk_alloc ?_ _)); exact BK436.out) hb); replace BK446 := am (blk_below (g := gb446) (o := .cells #[.slice Ao15 t437.length co15, .int .i64 t440, .int .i64 t441, .slice Ao18 t442.length co18, .int .i64 t445] 28 (0, 0)) (by (with_reducible repeat (first | refine blk_drewN ?_ _ | refine blk_drew ?_ | refine blk_alloc ?_ _)); refine blk_far ?_ NB446_472.out _; (with_reducible repeat (first | refine blk_drewN ?_ _ | refine blk_drew ?_ | refine blk_alloc ?_ _)); refine blk_far ?_ NB446_472.out _; (with_reducible repeat (first | refine blk_drewN ?_ _ | refine blk_drew ?_ | refine blk_alloc ?_ _)); refine blk_far ?_ NB446_472.out _; (with_reducible repeat (first | refine blk_drewN ?_ _ | refine blk_drew ?_ | refine blk_alloc ?_ _)); refine blk_far ?_ NB446_472.out _; (with_reducible repeat (first | refine blk_drewN ?_ _ | refine blk_drew ?_ | refine blk_alloc ?_ _)); refine blk_far ?_ NB446_472.out _; (with_reducible repeat (first | refine blk_drewN ?_ _ | refine blk_drew ?_ | refine blk_alloc ?_ _)); exact BK446.out) hb); replace BK459 := am (blk_below (g := gb459) (o := .cells #[.slice Ao26 t450.length co26, .int .i64 t453, .int .i64 t454, .slice Ao30 t455.length co30, .int .i64 t458] 28 (0, 0)) (by (with_reducible repeat (first | refine blk_drewN ?_ _ | refine blk_drew ?_ | refine blk_alloc ?_ _)); refine blk_far ?_ NB459_472.out _; (with_reducible repeat (first | refine blk_drewN ?_ _ | refine blk_drew ?_ | refine blk_alloc ?_ _)); refine blk_far ?_ NB459_472.out _; (with_reducible repeat (first | refine blk_drewN ?_ _ | refine blk_drew ?_ | refine blk_alloc ?_ _)); refine blk_far ?_ NB459_472.out _; (with_reducible repeat (first | refine blk_drewN ?_ _ | refine blk_drew ?_ | refine blk_alloc ?_ _)); refine blk_far ?_ NB459_472.out _; (with_reducible repeat (first | refine blk_drewN ?_ _ | refine blk_drew ?_ | refine blk_alloc ?_ _)); refine blk_far ?_ NB459_472.out _; (with_reducible repeat (first | refine blk_drewN ?_ _ | refine blk_drew ?_ | refine blk_alloc ?_ _)); exact BK459.out) hb); replace BK472 := am (blk_below (g := gb472) (o := .cells #[.slice Ao51 t463.length co51, .int .i64 t466, .int .i64 t467, .slice Ao55 t468.length co55, .int .i64 t471] 28 (0, 0)) (by (with_reducible repeat (first | refine blk_drewN ?_ _ | refine blk_drew ?_ | refine blk_alloc ?_ _)); refine blk_put (cs := #[.slice Ao51 t463.length co51, .int .i64 t466, .int .i64 t467, .slice Ao55 t468.length co55, .int .i64 0]) ?_ 4 _ rfl; (with_reducible repeat (first | refine blk_drewN ?_ _ | refine blk_drew ?_ | refine blk_alloc ?_ _)); refine blk_put (cs := #[.slice Ao51 t463.length co51, .int .i64 t466, .int .i64 t467, .slice none 0 0, .int .i64 0]) ?_ 3 _ rfl; (with_reducible repeat (first | refine blk_drewN ?_ _ | refine blk_drew ?_ | refine blk_alloc ?_ _)); refine blk_put (cs := #[.slice Ao51 t463.length co51, .int .i64 t466, .int .i64 0, .slice none 0 0, .int .i64 0]) ?_ 2 _ rfl; (with_reducible repeat (first | refine blk_drewN ?_ _ | refine blk_drew ?_ | refine blk_alloc ?_ _)); refine blk_put (cs := #[.slice Ao51 t463.length co51, .int .i64 0, .int .i64 0, .slice none 0 0, .int .i64 0]) ?_ 1 _ rfl; (with_reducible repeat (first | refine blk_drewN ?_ _ | refine blk_drew ?_ | refine blk_alloc ?_ _)); refine blk_put (cs := #[.slice none 0 0, .int .i64 0, .int .i64 0, .slice none 0 0, .int .i64 0]) ?_ 0 _ rfl; (with_reducible repeat (first | refine blk_drewN ?_ _ | refine blk_drew ?_ | refine blk_alloc ?_ _)); exact BK472.out) hb); replace HB := am (below_step (bl HB.out) hb); (try clear hb); (try clear hb2); (try clear hk); (try clear hi); have hcz81_0 : w80.cell? ⟨gb459, 0, none⟩ = some (.slice Ao26 t450.length co26) := bc BK459.out 0; have hcz81_1 : w80.cell? ⟨gb459, 1, none⟩ = some (.int .i64 t453) := bc BK459.out 1; have hcz81_2 : w80.cell? ⟨gb459, 2, none⟩ = some (.int .i64 t454) := bc BK459.out 2; have hcz81_3 : w80.cell? ⟨gb459, 3, none⟩ = some (.slice Ao30 t455.length co30) := bc BK459.out 3; have hcz81_4 : w80.cell? ⟨gb459, 4, none⟩ = some (.int .i64 t458) := bc BK459.out 4; have hfz81_0 := blk_frozen BK459.out 0; have hfz81_1 := blk_frozen BK459.out 1; have hfz81_2 := blk_frozen BK459.out 2; have hfz81_3 := blk_frozen BK459.out 3; have hfz81_4 := blk_frozen BK459.out 4; have hnb82 := NB472_436.out; have hnc82 := NB436_472.out; have hnb83 := NB472_446.out; have hnc83 := NB446_472.out; have hcz84_0 : w80.cell? ⟨gb472, 0, none⟩ = some (.slice Ao51 t463.length co51) := bc BK472.out 0; have hcz84_1 : w80.cell? ⟨gb472, 1, none⟩ = some (.int .i64 t466) := bc BK472.out 1; have hcz84_2 : w80.cell? ⟨gb472, 2, none⟩ = some (.int .i64 t467) := bc BK472.out 2; have hcz84_3 : w80.cell? ⟨gb472, 3, none⟩ = some (.slice Ao55 t468.length co55) := bc BK472.out 3; have hcz84_4 : w80.cell? ⟨gb472, 4, none⟩ = some (.int .i64 t471) := bc BK472.out 4; have hfz84_0 := blk_frozen BK472.out 0; have hfz84_1 := blk_frozen BK472.out 1; have hfz84_2 := blk_frozen BK472.out 2; have hfz84_3 := blk_frozen BK472.out 3; have hfz84_4 := blk_frozen BK472.out 4; have hnb85 := NB436_446.out; have hnc85 := NB446_436.out; have hcz86_0 : w80.cell? ⟨gb436, 0, none⟩ = some (.slice Ao10 t426.length co10) := bc BK436.out 0; have hcz86_1 : w80.cell? ⟨gb436, 1, none⟩ = some (.int .i64 t429) := bc BK436.out 1; have hcz86_2 : w80.cell? ⟨gb436, 2, none⟩ = some (.int .i64 t430) := bc BK436.out 2; have hfz86_0 := blk_frozen BK436.out 0; have hfz86_1 := blk_frozen BK436.out 1; have hfz86_2 := blk_frozen BK436.out 2) | (go_at_call 39; (with_reducible refine (laws_lwSame.calls kj6 _ _ t463 _ _ t426 false _ ?side1 ?side2 ?side3 ?side4 A62.out).mono ?_); (case side1 => repeat (first | exact (Kd.R_reads' HO465.out).2.2 | (with_reducible refine Kd.C_alloc ?_ _) | (with_reducible refine Kd.C_drewN ?_ _) | (with_reducible refine Kd.C_drew ?_))); (case side2 => exact (Kd.R_reads' HO465.out).2.1); (case side3 => repeat (first | exact (Kd.R_reads' HO_437000.out).2.2 | (with_reducible refine Kd.C_alloc ?_ _) | (with_reducible refine Kd.C_drewN ?_ _) | (with_reducible refine Kd.C_drew ?_))); (case side4 => exact (Kd.R_reads' HO_437000.out).2.1); rintro e w' ⟨rfl, ⟨nd, rfl⟩⟩))
          go_meet
          case rel => exact ⟨_, (false), (by first | rfl | (simp; done) | (simp [*]; done)), H', ⟨by have := HJ6.out; first | omega | exact Nat.le_refl _⟩, ⟨kr (Kd.R_mono HO_437000.out (fun _ hk => ⟨hk.2.2.2.1, ⟨hk.2.2.2.2.1, ⟨hk.2.2.2.2.2.1, ⟨hk.2.2.2.2.2.2.1, ⟨hk.2.1, hk.2.2.1⟩⟩⟩⟩⟩))⟩, ⟨kr (Kd.R_mono HO_447000.out (fun _ hk => ⟨hk.2.2.2.1, ⟨hk.2.2.2.2.1, ⟨hk.2.2.2.2.2.1, ⟨hk.2.2.2.2.2.2.1, ⟨hk.2.1, hk.2.2.1⟩⟩⟩⟩⟩))⟩, ⟨kr (Kd.R_mono HO_447003.out (fun _ hk => ⟨hk.2.2.2.1, ⟨hk.2.2.2.2.1, ⟨hk.2.2.2.2.2.1, ⟨hk.2.2.2.2.2.2.1, ⟨hk.2.1, hk.2.2.1⟩⟩⟩⟩⟩))⟩, ⟨kr (Kd.R_mono HO_460000.out (fun _ hk => ⟨hk.2.2.2.1, ⟨hk.2.2.2.2.1, ⟨hk.2.2.2.2.2.1, ⟨hk.2.2.2.2.2.2.1, ⟨hk.2.1, hk.2.2.1⟩⟩⟩⟩⟩))⟩, ⟨kr (Kd.R_mono HO_460003.out (fun _ hk => ⟨hk.2.2.2.1, ⟨hk.2.2.2.2.1, ⟨hk.2.2.2.2.2.1, ⟨hk.2.2.2.2.2.2.1, ⟨hk.2.1, hk.2.2.1⟩⟩⟩⟩⟩))⟩, ⟨kr (Kd.R_mono HO465.out (fun _ hk => ⟨hk.2.2.1, ⟨hk.2.2.2.1, ⟨hk.2.2.2.2.1, ⟨hk.2.2.2.2.2.1, ⟨hk.2.2.2.2.2.2.1, hk.2.1⟩⟩⟩⟩⟩))⟩, ⟨kr (Kd.R_mono HO470.out (fun _ hk => ⟨hk.2.2.1, ⟨hk.2.2.2.1, ⟨hk.2.2.2.2.1, ⟨hk.2.2.2.2.2.1, ⟨hk.2.2.2.2.2.2.1, hk.2.1⟩⟩⟩⟩⟩))⟩, ⟨pk BK436.out⟩, ⟨pk BK446.out⟩, ⟨pk BK459.out⟩, ⟨pk BK472.out⟩, ⟨by repeat (first | (with_reducible first | exact HB.out | apply below_alloc | apply pw_below_drewN | apply below_drew1 | refine below_set ?_ GE436.out | refine below_set ?_ GE446.out | refine below_set ?_ GE459.out | refine below_set ?_ GE472.out) | exact HB.out)⟩⟩
        ·rw [if_neg c61] at H
         have c61b0 : (t471 == 0) = false := beq_eq_false_iff_ne.mpr c61
         have c61b1 : (t471 != 0) = true := bne_iff_ne.mpr c61
         have H' := Aside0.mk H
         clear H
         have hnb87 := NB459_436.out
         have hnc87 := NB436_459.out
         have hnb88 := NB459_446.out
         have hnc88 := NB446_459.out
         have hnb89 := NB459_472.out
         have hnc89 := NB472_459.out
         have hcz90_0 : w50.cell? ⟨gb459, 0, none⟩ = some (.slice Ao26 t450.length co26) := bc BK459.out 0
         have hcz90_1 : w50.cell? ⟨gb459, 1, none⟩ = some (.int .i64 t453) := bc BK459.out 1
         have hcz90_2 : w50.cell? ⟨gb459, 2, none⟩ = some (.int .i64 t454) := bc BK459.out 2
         have hcz90_3 : w50.cell? ⟨gb459, 3, none⟩ = some (.slice Ao30 t455.length co30) := bc BK459.out 3
         have hcz90_4 : w50.cell? ⟨gb459, 4, none⟩ = some (.int .i64 t458) := bc BK459.out 4
         have hfz90_0 := blk_frozen BK459.out 0
         have hfz90_1 := blk_frozen BK459.out 1
         have hfz90_2 := blk_frozen BK459.out 2
         have hfz90_3 := blk_frozen BK459.out 3
         have hfz90_4 := blk_frozen BK459.out 4
         go_wp2_with (first | ((with_reducible refine gate_callee (f := 38) rfl ?_); refine gl (some 52) Try.func38 #[.agg #[.slice Ao26 t450.length co26, .int .i64 t453, .int .i64 t454]] ?_; (with_reducible refine (impl_BufRight.calls kj6 _ _ t450 t453 t454 true _ ?side1 ?side2 A58.out).mono ?_); (case side1 => refine (Kd.R_reads' (e := 2) (base := w.heap.size) (ok := fun k_ => (some k_ ≠ (v461 : Value).ownBlock ∧ (some k_ ≠ (.slice Ao51 t463.length co51 : Value).ownBlock ∧ (some k_ ≠ (.slice Ao55 t468.length co55 : Value).ownBlock ∧ (some k_ ≠ (.slice Ao10 t426.length co10 : Value).ownBlock ∧ (some k_ ≠ (.slice Ao15 t437.length co15 : Value).ownBlock ∧ (some k_ ≠ (.slice Ao18 t442.length co18 : Value).ownBlock ∧ (some k_ ≠ (.slice Ao30 t455.length co30 : Value).ownBlock ∧ some k_ ≠ (.slice Ao12 t433.length co12 : Value).ownBlock)))))))) (n := t450.length) (c := co26) ?_).2.2; exact (kr ((Kd.R_mono (Kd.R_far (p := ⟨gb472, 4, none⟩) (Kd.R_far (p := ⟨gb472, 3, none⟩) (Kd.R_far (p := ⟨gb472, 2, none⟩) (Kd.R_far (p := ⟨gb472, 1, none⟩) (Kd.R_far (p := ⟨gb472, 0, none⟩) (Kd.R_types HO_460000.out BK472.out (by decide)) (fun _ hk => hk.2) (.slice Ao51 t463.length co51)) (fun _ hk => hk.2) (.int .i64 t466)) (fun _ hk => hk.2) (.int .i64 t467)) (fun _ hk => hk.2) (.slice Ao55 t468.length co55)) (fun _ hk => hk.2) (.int .i64 t471)) (fun _ h_ => h_.1))))); (case side2 => exact (Kd.R_reads' HO_460000.out).2.1); rintro e w91 ⟨rfl, hb⟩; refine ⟨_, rfl, ?_⟩; replace HO_6 := am (Kd.R_below (kr ((Kd.R_mono (Kd.R_far (p := ⟨gb472, 4, none⟩) (Kd.R_far (p := ⟨gb472, 3, none⟩) (Kd.R_far (p := ⟨gb472, 2, none⟩) (Kd.R_far (p := ⟨gb472, 1, none⟩) (Kd.R_far (p := ⟨gb472, 0, none⟩) (Kd.R_types HO_6.out BK472.out (by decide)) (fun _ hk => hk.2) (.slice Ao51 t463.length co51)) (fun _ hk => hk.2) (.int .i64 t466)) (fun _ hk => hk.2) (.int .i64 t467)) (fun _ hk => hk.2) (.slice Ao55 t468.length co55)) (fun _ hk => hk.2) (.int .i64 t471)) (fun _ h_ => h_.1)))) hb); replace HO_437000 := am (Kd.R_below (kr ((Kd.R_mono (Kd.R_far (p := ⟨gb472, 4, none⟩) (Kd.R_far (p := ⟨gb472, 3, none⟩) (Kd.R_far (p := ⟨gb472, 2, none⟩) (Kd.R_far (p := ⟨gb472, 1, none⟩) (Kd.R_far (p := ⟨gb472, 0, none⟩) (Kd.R_types HO_437000.out BK472.out (by decide)) (fun _ hk => hk.2) (.slice Ao51 t463.length co51)) (fun _ hk => hk.2) (.int .i64 t466)) (fun _ hk => hk.2) (.int .i64 t467)) (fun _ hk => hk.2) (.slice Ao55 t468.length co55)) (fun _ hk => hk.2) (.int .i64 t471)) (fun _ h_ => h_.1)))) hb); replace HO_447000 := am (Kd.R_below (kr ((Kd.R_mono (Kd.R_far (p := ⟨gb472, 4, none⟩) (Kd.R_far (p := ⟨gb472, 3, none⟩) (Kd.R_far (p := ⟨gb472, 2, none⟩) (Kd.R_far (p := ⟨gb472, 1, none⟩) (Kd.R_far (p := ⟨gb472, 0, none⟩) (Kd.R_types HO_447000.out BK472.out (by decide)) (fun _ hk => hk.2) (.slice Ao51 t463.length co51)) (fun _ hk => hk.2) (.int .i64 t466)) (fun _ hk => hk.2) (.int .i64 t467)) (fun _ hk => hk.2) (.slice Ao55 t468.length co55)) (fun _ hk => hk.2) (.int .i64 t471)) (fun _ h_ => h_.1)))) hb); replace HO_447003 := am (Kd.R_below (kr ((Kd.R_mono (Kd.R_far (p := ⟨gb472, 4, none⟩) (Kd.R_far (p := ⟨gb472, 3, none⟩) (Kd.R_far (p := ⟨gb472, 2, none⟩) (Kd.R_far (p := ⟨gb472, 1, none⟩) (Kd.R_far (p := ⟨gb472, 0, none⟩) (Kd.R_types HO_447003.out BK472.out (by decide)) (fun _ hk => hk.2) (.slice Ao51 t463.length co51)) (fun _ hk => hk.2) (.int .i64 t466)) (fun _ hk => hk.2) (.int .i64 t467)) (fun _ hk => hk.2) (.slice Ao55 t468.length co55)) (fun _ hk => hk.2) (.int .i64 t471)) (fun _ h_ => h_.1)))) hb); replace HO_460000 := am (Kd.R_below (kr ((Kd.R_mono (Kd.R_far (p := ⟨gb472, 4, none⟩) (Kd.R_far (p := ⟨gb472, 3, none⟩) (Kd.R_far (p := ⟨gb472, 2, none⟩) (Kd.R_far (p := ⟨gb472, 1, none⟩) (Kd.R_far (p := ⟨gb472, 0, none⟩) (Kd.R_types HO_460000.out BK472.out (by decide)) (fun _ hk => hk.2) (.slice Ao51 t463.length co51)) (fun _ hk => hk.2) (.int .i64 t466)) (fun _ hk => hk.2) (.int .i64 t467)) (fun _ hk => hk.2) (.slice Ao55 t468.length co55)) (fun _ hk => hk.2) (.int .i64 t471)) (fun _ h_ => h_.1)))) hb); replace HO_460003 := am (Kd.R_below (kr ((Kd.R_mono (Kd.R_far (p := ⟨gb472, 4, none⟩) (Kd.R_far (p := ⟨gb472, 3, none⟩) (Kd.R_far (p := ⟨gb472, 2, none⟩) (Kd.R_far (p := ⟨gb472, 1, none⟩) (Kd.R_far (p := ⟨gb472, 0, none⟩) (Kd.R_types HO_460003.out BK472.out (by decide)) (fun _ hk => hk.2) (.slice Ao51 t463.length co51)) (fun _ hk => hk.2) (.int .i64 t466)) (fun _ hk => hk.2) (.int .i64 t467)) (fun _ hk => hk.2) (.slice Ao55 t468.length co55)) (fun _ hk => hk.2) (.int .i64 t471)) (fun _ h_ => h_.1)))) hb); replace HO462 := am (Kd.R_below (kr ((Kd.R_mono (Kd.R_far (p := ⟨gb472, 4, none⟩) (Kd.R_far (p := ⟨gb472, 3, none⟩) (Kd.R_far (p := ⟨gb472, 2, none⟩) (Kd.R_far (p := ⟨gb472, 1, none⟩) (Kd.R_far (p := ⟨gb472, 0, none⟩) (Kd.R_types HO462.out BK472.out (by decide)) (fun _ hk => hk.2) (.slice Ao51 t463.length co51)) (fun _ hk => hk.2) (.int .i64 t466)) (fun _ hk => hk.2) (.int .i64 t467)) (fun _ hk => hk.2) (.slice Ao55 t468.length co55)) (fun _ hk => hk.2) (.int .i64 t471)) (fun _ h_ => h_.1)))) hb); replace HO465 := am (Kd.R_below (kr ((Kd.R_mono (Kd.R_far (p := ⟨gb472, 4, none⟩) (Kd.R_far (p := ⟨gb472, 3, none⟩) (Kd.R_far (p := ⟨gb472, 2, none⟩) (Kd.R_far (p := ⟨gb472, 1, none⟩) (Kd.R_far (p := ⟨gb472, 0, none⟩) (Kd.R_types HO465.out BK472.out (by decide)) (fun _ hk => hk.2) (.slice Ao51 t463.length co51)) (fun _ hk => hk.2) (.int .i64 t466)) (fun _ hk => hk.2) (.int .i64 t467)) (fun _ hk => hk.2) (.slice Ao55 t468.length co55)) (fun _ hk => hk.2) (.int .i64 t471)) (fun _ h_ => h_.1)))) hb); replace HO470 := am (Kd.R_below (kr ((Kd.R_mono (Kd.R_far (p := ⟨gb472, 4, none⟩) (Kd.R_far (p := ⟨gb472, 3, none⟩) (Kd.R_far (p := ⟨gb472, 2, none⟩) (Kd.R_far (p := ⟨gb472, 1, none⟩) (Kd.R_far (p := ⟨gb472, 0, none⟩) (Kd.R_types HO470.out BK472.out (by decide)) (fun _ hk => hk.2) (.slice Ao51 t463.length co51)) (fun _ hk => hk.2) (.int .i64 t466)) (fun _ hk => hk.2) (.int .i64 t467)) (fun _ hk => hk.2) (.slice Ao55 t468.length co55)) (fun _ hk => hk.2) (.int .i64 t471)) (fun _ h_ => h_.1)))) hb); replace BK436 := am (blk_below (g := gb436) (o := .cells #[.slice Ao10 t426.length co10, .int .i64 t429, .int .i64 t430] 26 (0, 0)) (by (with_reducible repeat (first | refine blk_drewN ?_ _ | refine blk_drew ?_ | refine blk_alloc ?_ _)); refine blk_far ?_ NB436_472.out _; (with_reducible repeat (first | refine blk_drewN ?_ _ | refine blk_drew ?_ | refine blk_alloc ?_ _)); refine blk_far ?_ NB436_472.out _; (with_reducible repeat (first | refine blk_drewN ?_ _ | refine blk_drew ?_ | refine blk_alloc ?_ _)); refine blk_far ?_ NB436_472.out _; (with_reducible repeat (first | refine blk_drewN ?_ _ | refine blk_drew ?_ | refine blk_alloc ?_ _)); refine blk_far ?_ NB436_472.out _; (with_reducible repeat (first | refine blk_drewN ?_ _ | refine blk_drew ?_ | refine blk_alloc ?_ _)); refine blk_far ?_ NB436_472.out _; (with_reducible repeat (first | refine blk_drewN ?_ _ | refine blk_drew ?_ | refine blk_alloc ?_ _)); exact BK436.out) hb); replace BK446 := am (blk_below (g := gb446) (o := .cells #[.slice Ao15 t437.length co15, .int .i64 t440, .int .i64 t441, .slice Ao18 t442.length co18, .int .i64 t445] 28 (0, 0)) (by (with_reducible repeat (first | refine blk_drewN ?_ _ | refine blk_drew ?_ | refine blk_alloc ?_ _)); refine blk_far ?_ NB446_472.out _; (with_reducible repeat (first | refine blk_drewN ?_ _ | refine blk_drew ?_ | refine blk_alloc ?_ _)); refine blk_far ?_ NB446_472.out _; (with_reducible repeat (first | refine blk_drewN ?_ _ | refine blk_drew ?_ | refine blk_alloc ?_ _)); refine blk_far ?_ NB446_472.out _; (with_reducible repeat (first | refine blk_drewN ?_ _ | refine blk_drew ?_ | refine blk_alloc ?_ _)); refine blk_far ?_ NB446_472.out _; (with_reducible repeat (first | refine blk_drewN ?_ _ | refine blk_drew ?_ | refine blk_alloc ?_ _)); refine blk_far ?_ NB446_472.out _; (with_reducible repeat (first | refine blk_drewN ?_ _ | refine blk_drew ?_ | refine blk_alloc ?_ _)); exact BK446.out) hb); replace BK459 := am (blk_below (g := gb459) (o := .cells #[.slice Ao26 t450.length co26, .int .i64 t453, .int .i64 t454, .slice Ao30 t455.length co30, .int .i64 t458] 28 (0, 0)) (by (with_reducible repeat (first | refine blk_drewN ?_ _ | refine blk_drew ?_ | refine blk_alloc ?_ _)); refine blk_far ?_ NB459_472.out _; (with_reducible repeat (first | refine blk_drewN ?_ _ | refine blk_drew ?_ | refine blk_alloc ?_ _)); refine blk_far ?_ NB459_472.out _; (with_reducible repeat (first | refine blk_drewN ?_ _ | refine blk_drew ?_ | refine blk_alloc ?_ _)); refine blk_far ?_ NB459_472.out _; (with_reducible repeat (first | refine blk_drewN ?_ _ | refine blk_drew ?_ | refine blk_alloc ?_ _)); refine blk_far ?_ NB459_472.out _; (with_reducible repeat (first | refine blk_drewN ?_ _ | refine blk_drew ?_ | refine blk_alloc ?_ _)); refine blk_far ?_ NB459_472.out _; (with_reducible repeat (first | refine blk_drewN ?_ _ | refine blk_drew ?_ | refine blk_alloc ?_ _)); exact BK459.out) hb); replace BK472 := am (blk_below (g := gb472) (o := .cells #[.slice Ao51 t463.length co51, .int .i64 t466, .int .i64 t467, .slice Ao55 t468.length co55, .int .i64 t471] 28 (0, 0)) (by (with_reducible repeat (first | refine blk_drewN ?_ _ | refine blk_drew ?_ | refine blk_alloc ?_ _)); refine blk_put (cs := #[.slice Ao51 t463.length co51, .int .i64 t466, .int .i64 t467, .slice Ao55 t468.length co55, .int .i64 0]) ?_ 4 _ rfl; (with_reducible repeat (first | refine blk_drewN ?_ _ | refine blk_drew ?_ | refine blk_alloc ?_ _)); refine blk_put (cs := #[.slice Ao51 t463.length co51, .int .i64 t466, .int .i64 t467, .slice none 0 0, .int .i64 0]) ?_ 3 _ rfl; (with_reducible repeat (first | refine blk_drewN ?_ _ | refine blk_drew ?_ | refine blk_alloc ?_ _)); refine blk_put (cs := #[.slice Ao51 t463.length co51, .int .i64 t466, .int .i64 0, .slice none 0 0, .int .i64 0]) ?_ 2 _ rfl; (with_reducible repeat (first | refine blk_drewN ?_ _ | refine blk_drew ?_ | refine blk_alloc ?_ _)); refine blk_put (cs := #[.slice Ao51 t463.length co51, .int .i64 0, .int .i64 0, .slice none 0 0, .int .i64 0]) ?_ 1 _ rfl; (with_reducible repeat (first | refine blk_drewN ?_ _ | refine blk_drew ?_ | refine blk_alloc ?_ _)); refine blk_put (cs := #[.slice none 0 0, .int .i64 0, .int .i64 0, .slice none 0 0, .int .i64 0]) ?_ 0 _ rfl; (with_reducible repeat (first | refine blk_drewN ?_ _ | refine blk_drew ?_ | refine blk_alloc ?_ _)); exact BK472.out) hb); replace HB := am (below_step (bl HB.out) hb); (try clear hb); (try clear hb2); (try clear hk); (try clear hi); have hcz92_0 : w91.cell? ⟨gb459, 0, none⟩ = some (.slice Ao26 t450.length co26) := bc BK459.out 0; have hcz92_1 : w91.cell? ⟨gb459, 1, none⟩ = some (.int .i64 t453) := bc BK459.out 1; have hcz92_2 : w91.cell? ⟨gb459, 2, none⟩ = some (.int .i64 t454) := bc BK459.out 2; have hcz92_3 : w91.cell? ⟨gb459, 3, none⟩ = some (.slice Ao30 t455.length co30) := bc BK459.out 3; have hcz92_4 : w91.cell? ⟨gb459, 4, none⟩ = some (.int .i64 t458) := bc BK459.out 4; have hfz92_0 := blk_frozen BK459.out 0; have hfz92_1 := blk_frozen BK459.out 1; have hfz92_2 := blk_frozen BK459.out 2; have hfz92_3 := blk_frozen BK459.out 3; have hfz92_4 := blk_frozen BK459.out 4; have hnb93 := NB472_436.out; have hnc93 := NB436_472.out; have hnb94 := NB472_446.out; have hnc94 := NB446_472.out; have hcz95_0 : w91.cell? ⟨gb472, 0, none⟩ = some (.slice Ao51 t463.length co51) := bc BK472.out 0; have hcz95_1 : w91.cell? ⟨gb472, 1, none⟩ = some (.int .i64 t466) := bc BK472.out 1; have hcz95_2 : w91.cell? ⟨gb472, 2, none⟩ = some (.int .i64 t467) := bc BK472.out 2; have hcz95_3 : w91.cell? ⟨gb472, 3, none⟩ = some (.slice Ao55 t468.length co55) := bc BK472.out 3; have hcz95_4 : w91.cell? ⟨gb472, 4, none⟩ = some (.int .i64 t471) := bc BK472.out 4; have hfz95_0 := blk_frozen BK472.out 0; have hfz95_1 := blk_frozen BK472.out 1; have hfz95_2 := blk_frozen BK472.out 2; have hfz95_3 := blk_frozen BK472.out 3; have hfz95_4 := blk_frozen BK472.out 4))
         go_meet
         case rel => exact ⟨_, (false), (by first | rfl | (simp; done) | (simp [*]; done)), H', ⟨by have := HJ6.out; first | omega | exact Nat.le_refl _⟩, ⟨kr (Kd.R_mono HO_437000.out (fun _ hk => ⟨hk.2.2.2.1, ⟨hk.2.2.2.2.1, ⟨hk.2.2.2.2.2.1, ⟨hk.2.2.2.2.2.2.1, ⟨hk.2.1, hk.2.2.1⟩⟩⟩⟩⟩))⟩, ⟨kr (Kd.R_mono HO_447000.out (fun _ hk => ⟨hk.2.2.2.1, ⟨hk.2.2.2.2.1, ⟨hk.2.2.2.2.2.1, ⟨hk.2.2.2.2.2.2.1, ⟨hk.2.1, hk.2.2.1⟩⟩⟩⟩⟩))⟩, ⟨kr (Kd.R_mono HO_447003.out (fun _ hk => ⟨hk.2.2.2.1, ⟨hk.2.2.2.2.1, ⟨hk.2.2.2.2.2.1, ⟨hk.2.2.2.2.2.2.1, ⟨hk.2.1, hk.2.2.1⟩⟩⟩⟩⟩))⟩, ⟨kr (Kd.R_mono HO_460000.out (fun _ hk => ⟨hk.2.2.2.1, ⟨hk.2.2.2.2.1, ⟨hk.2.2.2.2.2.1, ⟨hk.2.2.2.2.2.2.1, ⟨hk.2.1, hk.2.2.1⟩⟩⟩⟩⟩))⟩, ⟨kr (Kd.R_mono HO_460003.out (fun _ hk => ⟨hk.2.2.2.1, ⟨hk.2.2.2.2.1, ⟨hk.2.2.2.2.2.1, ⟨hk.2.2.2.2.2.2.1, ⟨hk.2.1, hk.2.2.1⟩⟩⟩⟩⟩))⟩, ⟨kr (Kd.R_mono HO465.out (fun _ hk => ⟨hk.2.2.1, ⟨hk.2.2.2.1, ⟨hk.2.2.2.2.1, ⟨hk.2.2.2.2.2.1, ⟨hk.2.2.2.2.2.2.1, hk.2.1⟩⟩⟩⟩⟩))⟩, ⟨kr (Kd.R_mono HO470.out (fun _ hk => ⟨hk.2.2.1, ⟨hk.2.2.2.1, ⟨hk.2.2.2.2.1, ⟨hk.2.2.2.2.2.1, ⟨hk.2.2.2.2.2.2.1, hk.2.1⟩⟩⟩⟩⟩))⟩, ⟨pk BK436.out⟩, ⟨pk BK446.out⟩, ⟨pk BK459.out⟩, ⟨pk BK472.out⟩, ⟨by repeat (first | (with_reducible first | exact HB.out | apply below_alloc | apply pw_below_drewN | apply below_drew1 | refine below_set ?_ GE436.out | refine below_set ?_ GE446.out | refine below_set ?_ GE459.out | refine below_set ?_ GE472.out) | exact HB.out)⟩⟩
       ·rw [if_neg c60] at H
        have c60b0 : ((t455.length : Int) == (wrap64 (t432 - t431))) = false := beq_eq_false_iff_ne.mpr c60
        have c60b1 : ((t455.length : Int) != (wrap64 (t432 - t431))) = true := bne_iff_ne.mpr c60
        (first | rw [c60b0] | (simp only [i64_w, i32_w]; rw [c60b0]) | (have e9_ := c60b0; unfold bne at e9_; rw [e9_]) | skip)
        have H' := Aside0.mk H
        clear H
        have hnb96 := NB459_436.out
        have hnc96 := NB436_459.out
        have hnb97 := NB459_446.out
        have hnc97 := NB446_459.out
        have hnb98 := NB459_472.out
        have hnc98 := NB472_459.out
        have hcz99_0 : w50.cell? ⟨gb459, 0, none⟩ = some (.slice Ao26 t450.length co26) := bc BK459.out 0
        have hcz99_1 : w50.cell? ⟨gb459, 1, none⟩ = some (.int .i64 t453) := bc BK459.out 1
        have hcz99_2 : w50.cell? ⟨gb459, 2, none⟩ = some (.int .i64 t454) := bc BK459.out 2
        have hcz99_3 : w50.cell? ⟨gb459, 3, none⟩ = some (.slice Ao30 t455.length co30) := bc BK459.out 3
        have hcz99_4 : w50.cell? ⟨gb459, 4, none⟩ = some (.int .i64 t458) := bc BK459.out 4
        have hfz99_0 := blk_frozen BK459.out 0
        have hfz99_1 := blk_frozen BK459.out 1
        have hfz99_2 := blk_frozen BK459.out 2
        have hfz99_3 := blk_frozen BK459.out 3
        have hfz99_4 := blk_frozen BK459.out 4
        go_wp2_with (first | ((with_reducible refine gate_callee (f := 38) rfl ?_); refine gl (some 52) Try.func38 #[.agg #[.slice Ao26 t450.length co26, .int .i64 t453, .int .i64 t454]] ?_; (with_reducible refine (impl_BufRight.calls kj6 _ _ t450 t453 t454 true _ ?side1 ?side2 A58.out).mono ?_); (case side1 => refine (Kd.R_reads' (e := 2) (base := w.heap.size) (ok := fun k_ => (some k_ ≠ (v461 : Value).ownBlock ∧ (some k_ ≠ (.slice Ao51 t463.length co51 : Value).ownBlock ∧ (some k_ ≠ (.slice Ao55 t468.length co55 : Value).ownBlock ∧ (some k_ ≠ (.slice Ao10 t426.length co10 : Value).ownBlock ∧ (some k_ ≠ (.slice Ao15 t437.length co15 : Value).ownBlock ∧ (some k_ ≠ (.slice Ao18 t442.length co18 : Value).ownBlock ∧ (some k_ ≠ (.slice Ao30 t455.length co30 : Value).ownBlock ∧ some k_ ≠ (.slice Ao12 t433.length co12 : Value).ownBlock)))))))) (n := t450.length) (c := co26) ?_).2.2; exact (kr ((Kd.R_mono (Kd.R_far (p := ⟨gb472, 4, none⟩) (Kd.R_far (p := ⟨gb472, 3, none⟩) (Kd.R_far (p := ⟨gb472, 2, none⟩) (Kd.R_far (p := ⟨gb472, 1, none⟩) (Kd.R_far (p := ⟨gb472, 0, none⟩) (Kd.R_types HO_460000.out BK472.out (by decide)) (fun _ hk => hk.2) (.slice Ao51 t463.length co51)) (fun _ hk => hk.2) (.int .i64 t466)) (fun _ hk => hk.2) (.int .i64 t467)) (fun _ hk => hk.2) (.slice Ao55 t468.length co55)) (fun _ hk => hk.2) (.int .i64 t471)) (fun _ h_ => h_.1))))); (case side2 => exact (Kd.R_reads' HO_460000.out).2.1); rintro e w100 ⟨rfl, hb⟩; refine ⟨_, rfl, ?_⟩; replace HO_6 := am (Kd.R_below (kr ((Kd.R_mono (Kd.R_far (p := ⟨gb472, 4, none⟩) (Kd.R_far (p := ⟨gb472, 3, none⟩) (Kd.R_far (p := ⟨gb472, 2, none⟩) (Kd.R_far (p := ⟨gb472, 1, none⟩) (Kd.R_far (p := ⟨gb472, 0, none⟩) (Kd.R_types HO_6.out BK472.out (by decide)) (fun _ hk => hk.2) (.slice Ao51 t463.length co51)) (fun _ hk => hk.2) (.int .i64 t466)) (fun _ hk => hk.2) (.int .i64 t467)) (fun _ hk => hk.2) (.slice Ao55 t468.length co55)) (fun _ hk => hk.2) (.int .i64 t471)) (fun _ h_ => h_.1)))) hb); replace HO_437000 := am (Kd.R_below (kr ((Kd.R_mono (Kd.R_far (p := ⟨gb472, 4, none⟩) (Kd.R_far (p := ⟨gb472, 3, none⟩) (Kd.R_far (p := ⟨gb472, 2, none⟩) (Kd.R_far (p := ⟨gb472, 1, none⟩) (Kd.R_far (p := ⟨gb472, 0, none⟩) (Kd.R_types HO_437000.out BK472.out (by decide)) (fun _ hk => hk.2) (.slice Ao51 t463.length co51)) (fun _ hk => hk.2) (.int .i64 t466)) (fun _ hk => hk.2) (.int .i64 t467)) (fun _ hk => hk.2) (.slice Ao55 t468.length co55)) (fun _ hk => hk.2) (.int .i64 t471)) (fun _ h_ => h_.1)))) hb); replace HO_447000 := am (Kd.R_below (kr ((Kd.R_mono (Kd.R_far (p := ⟨gb472, 4, none⟩) (Kd.R_far (p := ⟨gb472, 3, none⟩) (Kd.R_far (p := ⟨gb472, 2, none⟩) (Kd.R_far (p := ⟨gb472, 1, none⟩) (Kd.R_far (p := ⟨gb472, 0, none⟩) (Kd.R_types HO_447000.out BK472.out (by decide)) (fun _ hk => hk.2) (.slice Ao51 t463.length co51)) (fun _ hk => hk.2) (.int .i64 t466)) (fun _ hk => hk.2) (.int .i64 t467)) (fun _ hk => hk.2) (.slice Ao55 t468.length co55)) (fun _ hk => hk.2) (.int .i64 t471)) (fun _ h_ => h_.1)))) hb); replace HO_447003 := am (Kd.R_below (kr ((Kd.R_mono (Kd.R_far (p := ⟨gb472, 4, none⟩) (Kd.R_far (p := ⟨gb472, 3, none⟩) (Kd.R_far (p := ⟨gb472, 2, none⟩) (Kd.R_far (p := ⟨gb472, 1, none⟩) (Kd.R_far (p := ⟨gb472, 0, none⟩) (Kd.R_types HO_447003.out BK472.out (by decide)) (fun _ hk => hk.2) (.slice Ao51 t463.length co51)) (fun _ hk => hk.2) (.int .i64 t466)) (fun _ hk => hk.2) (.int .i64 t467)) (fun _ hk => hk.2) (.slice Ao55 t468.length co55)) (fun _ hk => hk.2) (.int .i64 t471)) (fun _ h_ => h_.1)))) hb); replace HO_460000 := am (Kd.R_below (kr ((Kd.R_mono (Kd.R_far (p := ⟨gb472, 4, none⟩) (Kd.R_far (p := ⟨gb472, 3, none⟩) (Kd.R_far (p := ⟨gb472, 2, none⟩) (Kd.R_far (p := ⟨gb472, 1, none⟩) (Kd.R_far (p := ⟨gb472, 0, none⟩) (Kd.R_types HO_460000.out BK472.out (by decide)) (fun _ hk => hk.2) (.slice Ao51 t463.length co51)) (fun _ hk => hk.2) (.int .i64 t466)) (fun _ hk => hk.2) (.int .i64 t467)) (fun _ hk => hk.2) (.slice Ao55 t468.length co55)) (fun _ hk => hk.2) (.int .i64 t471)) (fun _ h_ => h_.1)))) hb); replace HO_460003 := am (Kd.R_below (kr ((Kd.R_mono (Kd.R_far (p := ⟨gb472, 4, none⟩) (Kd.R_far (p := ⟨gb472, 3, none⟩) (Kd.R_far (p := ⟨gb472, 2, none⟩) (Kd.R_far (p := ⟨gb472, 1, none⟩) (Kd.R_far (p := ⟨gb472, 0, none⟩) (Kd.R_types HO_460003.out BK472.out (by decide)) (fun _ hk => hk.2) (.slice Ao51 t463.length co51)) (fun _ hk => hk.2) (.int .i64 t466)) (fun _ hk => hk.2) (.int .i64 t467)) (fun _ hk => hk.2) (.slice Ao55 t468.length co55)) (fun _ hk => hk.2) (.int .i64 t471)) (fun _ h_ => h_.1)))) hb); replace HO462 := am (Kd.R_below (kr ((Kd.R_mono (Kd.R_far (p := ⟨gb472, 4, none⟩) (Kd.R_far (p := ⟨gb472, 3, none⟩) (Kd.R_far (p := ⟨gb472, 2, none⟩) (Kd.R_far (p := ⟨gb472, 1, none⟩) (Kd.R_far (p := ⟨gb472, 0, none⟩) (Kd.R_types HO462.out BK472.out (by decide)) (fun _ hk => hk.2) (.slice Ao51 t463.length co51)) (fun _ hk => hk.2) (.int .i64 t466)) (fun _ hk => hk.2) (.int .i64 t467)) (fun _ hk => hk.2) (.slice Ao55 t468.length co55)) (fun _ hk => hk.2) (.int .i64 t471)) (fun _ h_ => h_.1)))) hb); replace HO465 := am (Kd.R_below (kr ((Kd.R_mono (Kd.R_far (p := ⟨gb472, 4, none⟩) (Kd.R_far (p := ⟨gb472, 3, none⟩) (Kd.R_far (p := ⟨gb472, 2, none⟩) (Kd.R_far (p := ⟨gb472, 1, none⟩) (Kd.R_far (p := ⟨gb472, 0, none⟩) (Kd.R_types HO465.out BK472.out (by decide)) (fun _ hk => hk.2) (.slice Ao51 t463.length co51)) (fun _ hk => hk.2) (.int .i64 t466)) (fun _ hk => hk.2) (.int .i64 t467)) (fun _ hk => hk.2) (.slice Ao55 t468.length co55)) (fun _ hk => hk.2) (.int .i64 t471)) (fun _ h_ => h_.1)))) hb); replace HO470 := am (Kd.R_below (kr ((Kd.R_mono (Kd.R_far (p := ⟨gb472, 4, none⟩) (Kd.R_far (p := ⟨gb472, 3, none⟩) (Kd.R_far (p := ⟨gb472, 2, none⟩) (Kd.R_far (p := ⟨gb472, 1, none⟩) (Kd.R_far (p := ⟨gb472, 0, none⟩) (Kd.R_types HO470.out BK472.out (by decide)) (fun _ hk => hk.2) (.slice Ao51 t463.length co51)) (fun _ hk => hk.2) (.int .i64 t466)) (fun _ hk => hk.2) (.int .i64 t467)) (fun _ hk => hk.2) (.slice Ao55 t468.length co55)) (fun _ hk => hk.2) (.int .i64 t471)) (fun _ h_ => h_.1)))) hb); replace BK436 := am (blk_below (g := gb436) (o := .cells #[.slice Ao10 t426.length co10, .int .i64 t429, .int .i64 t430] 26 (0, 0)) (by (with_reducible repeat (first | refine blk_drewN ?_ _ | refine blk_drew ?_ | refine blk_alloc ?_ _)); refine blk_far ?_ NB436_472.out _; (with_reducible repeat (first | refine blk_drewN ?_ _ | refine blk_drew ?_ | refine blk_alloc ?_ _)); refine blk_far ?_ NB436_472.out _; (with_reducible repeat (first | refine blk_drewN ?_ _ | refine blk_drew ?_ | refine blk_alloc ?_ _)); refine blk_far ?_ NB436_472.out _; (with_reducible repeat (first | refine blk_drewN ?_ _ | refine blk_drew ?_ | refine blk_alloc ?_ _)); refine blk_far ?_ NB436_472.out _; (with_reducible repeat (first | refine blk_drewN ?_ _ | refine blk_drew ?_ | refine blk_alloc ?_ _)); refine blk_far ?_ NB436_472.out _; (with_reducible repeat (first | refine blk_drewN ?_ _ | refine blk_drew ?_ | refine blk_alloc ?_ _)); exact BK436.out) hb); replace BK446 := am (blk_below (g := gb446) (o := .cells #[.slice Ao15 t437.length co15, .int .i64 t440, .int .i64 t441, .slice Ao18 t442.length co18, .int .i64 t445] 28 (0, 0)) (by (with_reducible repeat (first | refine blk_drewN ?_ _ | refine blk_drew ?_ | refine blk_alloc ?_ _)); refine blk_far ?_ NB446_472.out _; (with_reducible repeat (first | refine blk_drewN ?_ _ | refine blk_drew ?_ | refine blk_alloc ?_ _)); refine blk_far ?_ NB446_472.out _; (with_reducible repeat (first | refine blk_drewN ?_ _ | refine blk_drew ?_ | refine blk_alloc ?_ _)); refine blk_far ?_ NB446_472.out _; (with_reducible repeat (first | refine blk_drewN ?_ _ | refine blk_drew ?_ | refine blk_alloc ?_ _)); refine blk_far ?_ NB446_472.out _; (with_reducible repeat (first | refine blk_drewN ?_ _ | refine blk_drew ?_ | refine blk_alloc ?_ _)); refine blk_far ?_ NB446_472.out _; (with_reducible repeat (first | refine blk_drewN ?_ _ | refine blk_drew ?_ | refine blk_alloc ?_ _)); exact BK446.out) hb); replace BK459 := am (blk_below (g := gb459) (o := .cells #[.slice Ao26 t450.length co26, .int .i64 t453, .int .i64 t454, .slice Ao30 t455.length co30, .int .i64 t458] 28 (0, 0)) (by (with_reducible repeat (first | refine blk_drewN ?_ _ | refine blk_drew ?_ | refine blk_alloc ?_ _)); refine blk_far ?_ NB459_472.out _; (with_reducible repeat (first | refine blk_drewN ?_ _ | refine blk_drew ?_ | refine blk_alloc ?_ _)); refine blk_far ?_ NB459_472.out _; (with_reducible repeat (first | refine blk_drewN ?_ _ | refine blk_drew ?_ | refine blk_alloc ?_ _)); refine blk_far ?_ NB459_472.out _; (with_reducible repeat (first | refine blk_drewN ?_ _ | refine blk_drew ?_ | refine blk_alloc ?_ _)); refine blk_far ?_ NB459_472.out _; (with_reducible repeat (first | refine blk_drewN ?_ _ | refine blk_drew ?_ | refine blk_alloc ?_ _)); refine blk_far ?_ NB459_472.out _; (with_reducible repeat (first | refine blk_drewN ?_ _ | refine blk_drew ?_ | refine blk_alloc ?_ _)); exact BK459.out) hb); replace BK472 := am (blk_below (g := gb472) (o := .cells #[.slice Ao51 t463.length co51, .int .i64 t466, .int .i64 t467, .slice Ao55 t468.length co55, .int .i64 t471] 28 (0, 0)) (by (with_reducible repeat (first | refine blk_drewN ?_ _ | refine blk_drew ?_ | refine blk_alloc ?_ _)); refine blk_put (cs := #[.slice Ao51 t463.length co51, .int .i64 t466, .int .i64 t467, .slice Ao55 t468.length co55, .int .i64 0]) ?_ 4 _ rfl; (with_reducible repeat (first | refine blk_drewN ?_ _ | refine blk_drew ?_ | refine blk_alloc ?_ _)); refine blk_put (cs := #[.slice Ao51 t463.length co51, .int .i64 t466, .int .i64 t467, .slice none 0 0, .int .i64 0]) ?_ 3 _ rfl; (with_reducible repeat (first | refine blk_drewN ?_ _ | refine blk_drew ?_ | refine blk_alloc ?_ _)); refine blk_put (cs := #[.slice Ao51 t463.length co51, .int .i64 t466, .int .i64 0, .slice none 0 0, .int .i64 0]) ?_ 2 _ rfl; (with_reducible repeat (first | refine blk_drewN ?_ _ | refine blk_drew ?_ | refine blk_alloc ?_ _)); refine blk_put (cs := #[.slice Ao51 t463.length co51, .int .i64 0, .int .i64 0, .slice none 0 0, .int .i64 0]) ?_ 1 _ rfl; (with_reducible repeat (first | refine blk_drewN ?_ _ | refine blk_drew ?_ | refine blk_alloc ?_ _)); refine blk_put (cs := #[.slice none 0 0, .int .i64 0, .int .i64 0, .slice none 0 0, .int .i64 0]) ?_ 0 _ rfl; (with_reducible repeat (first | refine blk_drewN ?_ _ | refine blk_drew ?_ | refine blk_alloc ?_ _)); exact BK472.out) hb); replace HB := am (below_step (bl HB.out) hb); (try clear hb); (try clear hb2); (try clear hk); (try clear hi); have hcz101_0 : w100.cell? ⟨gb459, 0, none⟩ = some (.slice Ao26 t450.length co26) := bc BK459.out 0; have hcz101_1 : w100.cell? ⟨gb459, 1, none⟩ = some (.int .i64 t453) := bc BK459.out 1; have hcz101_2 : w100.cell? ⟨gb459, 2, none⟩ = some (.int .i64 t454) := bc BK459.out 2; have hcz101_3 : w100.cell? ⟨gb459, 3, none⟩ = some (.slice Ao30 t455.length co30) := bc BK459.out 3; have hcz101_4 : w100.cell? ⟨gb459, 4, none⟩ = some (.int .i64 t458) := bc BK459.out 4; have hfz101_0 := blk_frozen BK459.out 0; have hfz101_1 := blk_frozen BK459.out 1; have hfz101_2 := blk_frozen BK459.out 2; have hfz101_3 := blk_frozen BK459.out 3; have hfz101_4 := blk_frozen BK459.out 4))
        go_meet
        case rel => exact ⟨_, (false), (by first | rfl | (simp; done) | (simp [*]; done)), H', ⟨by have := HJ6.out; first | omega | exact Nat.le_refl _⟩, ⟨kr (Kd.R_mono HO_437000.out (fun _ hk => ⟨hk.2.2.2.1, ⟨hk.2.2.2.2.1, ⟨hk.2.2.2.2.2.1, ⟨hk.2.2.2.2.2.2.1, ⟨hk.2.1, hk.2.2.1⟩⟩⟩⟩⟩))⟩, ⟨kr (Kd.R_mono HO_447000.out (fun _ hk => ⟨hk.2.2.2.1, ⟨hk.2.2.2.2.1, ⟨hk.2.2.2.2.2.1, ⟨hk.2.2.2.2.2.2.1, ⟨hk.2.1, hk.2.2.1⟩⟩⟩⟩⟩))⟩, ⟨kr (Kd.R_mono HO_447003.out (fun _ hk => ⟨hk.2.2.2.1, ⟨hk.2.2.2.2.1, ⟨hk.2.2.2.2.2.1, ⟨hk.2.2.2.2.2.2.1, ⟨hk.2.1, hk.2.2.1⟩⟩⟩⟩⟩))⟩, ⟨kr (Kd.R_mono HO_460000.out (fun _ hk => ⟨hk.2.2.2.1, ⟨hk.2.2.2.2.1, ⟨hk.2.2.2.2.2.1, ⟨hk.2.2.2.2.2.2.1, ⟨hk.2.1, hk.2.2.1⟩⟩⟩⟩⟩))⟩, ⟨kr (Kd.R_mono HO_460003.out (fun _ hk => ⟨hk.2.2.2.1, ⟨hk.2.2.2.2.1, ⟨hk.2.2.2.2.2.1, ⟨hk.2.2.2.2.2.2.1, ⟨hk.2.1, hk.2.2.1⟩⟩⟩⟩⟩))⟩, ⟨kr (Kd.R_mono HO465.out (fun _ hk => ⟨hk.2.2.1, ⟨hk.2.2.2.1, ⟨hk.2.2.2.2.1, ⟨hk.2.2.2.2.2.1, ⟨hk.2.2.2.2.2.2.1, hk.2.1⟩⟩⟩⟩⟩))⟩, ⟨kr (Kd.R_mono HO470.out (fun _ hk => ⟨hk.2.2.1, ⟨hk.2.2.2.1, ⟨hk.2.2.2.2.1, ⟨hk.2.2.2.2.2.1, ⟨hk.2.2.2.2.2.2.1, hk.2.1⟩⟩⟩⟩⟩))⟩, ⟨pk BK436.out⟩, ⟨pk BK446.out⟩, ⟨pk BK459.out⟩, ⟨pk BK472.out⟩, ⟨by repeat (first | (with_reducible first | exact HB.out | apply below_alloc | apply pw_below_drewN | apply below_drew1 | refine below_set ?_ GE436.out | refine below_set ?_ GE446.out | refine below_set ?_ GE459.out | refine below_set ?_ GE472.out) | exact HB.out)⟩⟩
      ·replace c59 := Bool.eq_false_iff.mpr c59
       subst c59
       have H1 : (laws_FnReplace.j1 kj6 false) = some r := by rw [if_neg (show ¬ (false = true) by decide)] at H; exact H
       clear H
       have H := H1
       clear H1
       have H' := Aside0.mk H
       clear H
       have hnb102 := NB459_436.out
       have hnc102 := NB436_459.out
       have hnb103 := NB459_446.out
       have hnc103 := NB446_459.out
       have hnb104 := NB459_472.out
       have hnc104 := NB472_459.out
       have hcz105_0 : w50.cell? ⟨gb459, 0, none⟩ = some (.slice Ao26 t450.length co26) := bc BK459.out 0
       have hcz105_1 : w50.cell? ⟨gb459, 1, none⟩ = some (.int .i64 t453) := bc BK459.out 1
       have hcz105_2 : w50.cell? ⟨gb459, 2, none⟩ = some (.int .i64 t454) := bc BK459.out 2
       have hcz105_3 : w50.cell? ⟨gb459, 3, none⟩ = some (.slice Ao30 t455.length co30) := bc BK459.out 3
       have hcz105_4 : w50.cell? ⟨gb459, 4, none⟩ = some (.int .i64 t458) := bc BK459.out 4
       have hfz105_0 := blk_frozen BK459.out 0
       have hfz105_1 := blk_frozen BK459.out 1
       have hfz105_2 := blk_frozen BK459.out 2
       have hfz105_3 := blk_frozen BK459.out 3
       have hfz105_4 := blk_frozen BK459.out 4
       go_wp2_with (first | ((with_reducible refine gate_callee (f := 38) rfl ?_); refine gl (some 52) Try.func38 #[.agg #[.slice Ao26 t450.length co26, .int .i64 t453, .int .i64 t454]] ?_; (with_reducible refine (impl_BufRight.calls kj6 _ _ t450 t453 t454 false _ ?side1 ?side2 A58.out).mono ?_); (case side1 => refine (Kd.R_reads' (e := 2) (base := w.heap.size) (ok := fun k_ => (some k_ ≠ (v461 : Value).ownBlock ∧ (some k_ ≠ (.slice Ao51 t463.length co51 : Value).ownBlock ∧ (some k_ ≠ (.slice Ao55 t468.length co55 : Value).ownBlock ∧ (some k_ ≠ (.slice Ao10 t426.length co10 : Value).ownBlock ∧ (some k_ ≠ (.slice Ao15 t437.length co15 : Value).ownBlock ∧ (some k_ ≠ (.slice Ao18 t442.length co18 : Value).ownBlock ∧ (some k_ ≠ (.slice Ao30 t455.length co30 : Value).ownBlock ∧ some k_ ≠ (.slice Ao12 t433.length co12 : Value).ownBlock)))))))) (n := t450.length) (c := co26) ?_).2.2; exact (kr ((Kd.R_mono (Kd.R_far (p := ⟨gb472, 4, none⟩) (Kd.R_far (p := ⟨gb472, 3, none⟩) (Kd.R_far (p := ⟨gb472, 2, none⟩) (Kd.R_far (p := ⟨gb472, 1, none⟩) (Kd.R_far (p := ⟨gb472, 0, none⟩) (Kd.R_types HO_460000.out BK472.out (by decide)) (fun _ hk => hk.2) (.slice Ao51 t463.length co51)) (fun _ hk => hk.2) (.int .i64 t466)) (fun _ hk => hk.2) (.int .i64 t467)) (fun _ hk => hk.2) (.slice Ao55 t468.length co55)) (fun _ hk => hk.2) (.int .i64 t471)) (fun _ h_ => h_.1))))); (case side2 => exact (Kd.R_reads' HO_460000.out).2.1); rintro e w106 ⟨rfl, hb⟩; refine ⟨_, rfl, ?_⟩; replace HO_6 := am (Kd.R_below (kr ((Kd.R_mono (Kd.R_far (p := ⟨gb472, 4, none⟩) (Kd.R_far (p := ⟨gb472, 3, none⟩) (Kd.R_far (p := ⟨gb472, 2, none⟩) (Kd.R_far (p := ⟨gb472, 1, none⟩) (Kd.R_far (p := ⟨gb472, 0, none⟩) (Kd.R_types HO_6.out BK472.out (by decide)) (fun _ hk => hk.2) (.slice Ao51 t463.length co51)) (fun _ hk => hk.2) (.int .i64 t466)) (fun _ hk => hk.2) (.int .i64 t467)) (fun _ hk => hk.2) (.slice Ao55 t468.length co55)) (fun _ hk => hk.2) (.int .i64 t471)) (fun _ h_ => h_.1)))) hb); replace HO_437000 := am (Kd.R_below (kr ((Kd.R_mono (Kd.R_far (p := ⟨gb472, 4, none⟩) (Kd.R_far (p := ⟨gb472, 3, none⟩) (Kd.R_far (p := ⟨gb472, 2, none⟩) (Kd.R_far (p := ⟨gb472, 1, none⟩) (Kd.R_far (p := ⟨gb472, 0, none⟩) (Kd.R_types HO_437000.out BK472.out (by decide)) (fun _ hk => hk.2) (.slice Ao51 t463.length co51)) (fun _ hk => hk.2) (.int .i64 t466)) (fun _ hk => hk.2) (.int .i64 t467)) (fun _ hk => hk.2) (.slice Ao55 t468.length co55)) (fun _ hk => hk.2) (.int .i64 t471)) (fun _ h_ => h_.1)))) hb); replace HO_447000 := am (Kd.R_below (kr ((Kd.R_mono (Kd.R_far (p := ⟨gb472, 4, none⟩) (Kd.R_far (p := ⟨gb472, 3, none⟩) (Kd.R_far (p := ⟨gb472, 2, none⟩) (Kd.R_far (p := ⟨gb472, 1, none⟩) (Kd.R_far (p := ⟨gb472, 0, none⟩) (Kd.R_types HO_447000.out BK472.out (by decide)) (fun _ hk => hk.2) (.slice Ao51 t463.length co51)) (fun _ hk => hk.2) (.int .i64 t466)) (fun _ hk => hk.2) (.int .i64 t467)) (fun _ hk => hk.2) (.slice Ao55 t468.length co55)) (fun _ hk => hk.2) (.int .i64 t471)) (fun _ h_ => h_.1)))) hb); replace HO_447003 := am (Kd.R_below (kr ((Kd.R_mono (Kd.R_far (p := ⟨gb472, 4, none⟩) (Kd.R_far (p := ⟨gb472, 3, none⟩) (Kd.R_far (p := ⟨gb472, 2, none⟩) (Kd.R_far (p := ⟨gb472, 1, none⟩) (Kd.R_far (p := ⟨gb472, 0, none⟩) (Kd.R_types HO_447003.out BK472.out (by decide)) (fun _ hk => hk.2) (.slice Ao51 t463.length co51)) (fun _ hk => hk.2) (.int .i64 t466)) (fun _ hk => hk.2) (.int .i64 t467)) (fun _ hk => hk.2) (.slice Ao55 t468.length co55)) (fun _ hk => hk.2) (.int .i64 t471)) (fun _ h_ => h_.1)))) hb); replace HO_460000 := am (Kd.R_below (kr ((Kd.R_mono (Kd.R_far (p := ⟨gb472, 4, none⟩) (Kd.R_far (p := ⟨gb472, 3, none⟩) (Kd.R_far (p := ⟨gb472, 2, none⟩) (Kd.R_far (p := ⟨gb472, 1, none⟩) (Kd.R_far (p := ⟨gb472, 0, none⟩) (Kd.R_types HO_460000.out BK472.out (by decide)) (fun _ hk => hk.2) (.slice Ao51 t463.length co51)) (fun _ hk => hk.2) (.int .i64 t466)) (fun _ hk => hk.2) (.int .i64 t467)) (fun _ hk => hk.2) (.slice Ao55 t468.length co55)) (fun _ hk => hk.2) (.int .i64 t471)) (fun _ h_ => h_.1)))) hb); replace HO_460003 := am (Kd.R_below (kr ((Kd.R_mono (Kd.R_far (p := ⟨gb472, 4, none⟩) (Kd.R_far (p := ⟨gb472, 3, none⟩) (Kd.R_far (p := ⟨gb472, 2, none⟩) (Kd.R_far (p := ⟨gb472, 1, none⟩) (Kd.R_far (p := ⟨gb472, 0, none⟩) (Kd.R_types HO_460003.out BK472.out (by decide)) (fun _ hk => hk.2) (.slice Ao51 t463.length co51)) (fun _ hk => hk.2) (.int .i64 t466)) (fun _ hk => hk.2) (.int .i64 t467)) (fun _ hk => hk.2) (.slice Ao55 t468.length co55)) (fun _ hk => hk.2) (.int .i64 t471)) (fun _ h_ => h_.1)))) hb); replace HO462 := am (Kd.R_below (kr ((Kd.R_mono (Kd.R_far (p := ⟨gb472, 4, none⟩) (Kd.R_far (p := ⟨gb472, 3, none⟩) (Kd.R_far (p := ⟨gb472, 2, none⟩) (Kd.R_far (p := ⟨gb472, 1, none⟩) (Kd.R_far (p := ⟨gb472, 0, none⟩) (Kd.R_types HO462.out BK472.out (by decide)) (fun _ hk => hk.2) (.slice Ao51 t463.length co51)) (fun _ hk => hk.2) (.int .i64 t466)) (fun _ hk => hk.2) (.int .i64 t467)) (fun _ hk => hk.2) (.slice Ao55 t468.length co55)) (fun _ hk => hk.2) (.int .i64 t471)) (fun _ h_ => h_.1)))) hb); replace HO465 := am (Kd.R_below (kr ((Kd.R_mono (Kd.R_far (p := ⟨gb472, 4, none⟩) (Kd.R_far (p := ⟨gb472, 3, none⟩) (Kd.R_far (p := ⟨gb472, 2, none⟩) (Kd.R_far (p := ⟨gb472, 1, none⟩) (Kd.R_far (p := ⟨gb472, 0, none⟩) (Kd.R_types HO465.out BK472.out (by decide)) (fun _ hk => hk.2) (.slice Ao51 t463.length co51)) (fun _ hk => hk.2) (.int .i64 t466)) (fun _ hk => hk.2) (.int .i64 t467)) (fun _ hk => hk.2) (.slice Ao55 t468.length co55)) (fun _ hk => hk.2) (.int .i64 t471)) (fun _ h_ => h_.1)))) hb); replace HO470 := am (Kd.R_below (kr ((Kd.R_mono (Kd.R_far (p := ⟨gb472, 4, none⟩) (Kd.R_far (p := ⟨gb472, 3, none⟩) (Kd.R_far (p := ⟨gb472, 2, none⟩) (Kd.R_far (p := ⟨gb472, 1, none⟩) (Kd.R_far (p := ⟨gb472, 0, none⟩) (Kd.R_types HO470.out BK472.out (by decide)) (fun _ hk => hk.2) (.slice Ao51 t463.length co51)) (fun _ hk => hk.2) (.int .i64 t466)) (fun _ hk => hk.2) (.int .i64 t467)) (fun _ hk => hk.2) (.slice Ao55 t468.length co55)) (fun _ hk => hk.2) (.int .i64 t471)) (fun _ h_ => h_.1)))) hb); replace BK436 := am (blk_below (g := gb436) (o := .cells #[.slice Ao10 t426.length co10, .int .i64 t429, .int .i64 t430] 26 (0, 0)) (by (with_reducible repeat (first | refine blk_drewN ?_ _ | refine blk_drew ?_ | refine blk_alloc ?_ _)); refine blk_far ?_ NB436_472.out _; (with_reducible repeat (first | refine blk_drewN ?_ _ | refine blk_drew ?_ | refine blk_alloc ?_ _)); refine blk_far ?_ NB436_472.out _; (with_reducible repeat (first | refine blk_drewN ?_ _ | refine blk_drew ?_ | refine blk_alloc ?_ _)); refine blk_far ?_ NB436_472.out _; (with_reducible repeat (first | refine blk_drewN ?_ _ | refine blk_drew ?_ | refine blk_alloc ?_ _)); refine blk_far ?_ NB436_472.out _; (with_reducible repeat (first | refine blk_drewN ?_ _ | refine blk_drew ?_ | refine blk_alloc ?_ _)); refine blk_far ?_ NB436_472.out _; (with_reducible repeat (first | refine blk_drewN ?_ _ | refine blk_drew ?_ | refine blk_alloc ?_ _)); exact BK436.out) hb); replace BK446 := am (blk_below (g := gb446) (o := .cells #[.slice Ao15 t437.length co15, .int .i64 t440, .int .i64 t441, .slice Ao18 t442.length co18, .int .i64 t445] 28 (0, 0)) (by (with_reducible repeat (first | refine blk_drewN ?_ _ | refine blk_drew ?_ | refine blk_alloc ?_ _)); refine blk_far ?_ NB446_472.out _; (with_reducible repeat (first | refine blk_drewN ?_ _ | refine blk_drew ?_ | refine blk_alloc ?_ _)); refine blk_far ?_ NB446_472.out _; (with_reducible repeat (first | refine blk_drewN ?_ _ | refine blk_drew ?_ | refine blk_alloc ?_ _)); refine blk_far ?_ NB446_472.out _; (with_reducible repeat (first | refine blk_drewN ?_ _ | refine blk_drew ?_ | refine blk_alloc ?_ _)); refine blk_far ?_ NB446_472.out _; (with_reducible repeat (first | refine blk_drewN ?_ _ | refine blk_drew ?_ | refine blk_alloc ?_ _)); refine blk_far ?_ NB446_472.out _; (with_reducible repeat (first | refine blk_drewN ?_ _ | refine blk_drew ?_ | refine blk_alloc ?_ _)); exact BK446.out) hb); replace BK459 := am (blk_below (g := gb459) (o := .cells #[.slice Ao26 t450.length co26, .int .i64 t453, .int .i64 t454, .slice Ao30 t455.length co30, .int .i64 t458] 28 (0, 0)) (by (with_reducible repeat (first | refine blk_drewN ?_ _ | refine blk_drew ?_ | refine blk_alloc ?_ _)); refine blk_far ?_ NB459_472.out _; (with_reducible repeat (first | refine blk_drewN ?_ _ | refine blk_drew ?_ | refine blk_alloc ?_ _)); refine blk_far ?_ NB459_472.out _; (with_reducible repeat (first | refine blk_drewN ?_ _ | refine blk_drew ?_ | refine blk_alloc ?_ _)); refine blk_far ?_ NB459_472.out _; (with_reducible repeat (first | refine blk_drewN ?_ _ | refine blk_drew ?_ | refine blk_alloc ?_ _)); refine blk_far ?_ NB459_472.out _; (with_reducible repeat (first | refine blk_drewN ?_ _ | refine blk_drew ?_ | refine blk_alloc ?_ _)); refine blk_far ?_ NB459_472.out _; (with_reducible repeat (first | refine blk_drewN ?_ _ | refine blk_drew ?_ | refine blk_alloc ?_ _)); exact BK459.out) hb); replace BK472 := am (blk_below (g := gb472) (o := .cells #[.slice Ao51 t463.length co51, .int .i64 t466, .int .i64 t467, .slice Ao55 t468.length co55, .int .i64 t471] 28 (0, 0)) (by (with_reducible repeat (first | refine blk_drewN ?_ _ | refine blk_drew ?_ | refine blk_alloc ?_ _)); refine blk_put (cs := #[.slice Ao51 t463.length co51, .int .i64 t466, .int .i64 t467, .slice Ao55 t468.length co55, .int .i64 0]) ?_ 4 _ rfl; (with_reducible repeat (first | refine blk_drewN ?_ _ | refine blk_drew ?_ | refine blk_alloc ?_ _)); refine blk_put (cs := #[.slice Ao51 t463.length co51, .int .i64 t466, .int .i64 t467, .slice none 0 0, .int .i64 0]) ?_ 3 _ rfl; (with_reducible repeat (first | refine blk_drewN ?_ _ | refine blk_drew ?_ | refine blk_alloc ?_ _)); refine blk_put (cs := #[.slice Ao51 t463.length co51, .int .i64 t466, .int .i64 0, .slice none 0 0, .int .i64 0]) ?_ 2 _ rfl; (with_reducible repeat (first | refine blk_drewN ?_ _ | refine blk_drew ?_ | refine blk_alloc ?_ _)); refine blk_put (cs := #[.slice Ao51 t463.length co51, .int .i64 0, .int .i64 0, .slice none 0 0, .int .i64 0]) ?_ 1 _ rfl; (with_reducible repeat (first | refine blk_drewN ?_ _ | refine blk_drew ?_ | refine blk_alloc ?_ _)); refine blk_put (cs := #[.slice none 0 0, .int .i64 0, .int .i64 0, .slice none 0 0, .int .i64 0]) ?_ 0 _ rfl; (with_reducible repeat (first | refine blk_drewN ?_ _ | refine blk_drew ?_ | refine blk_alloc ?_ _)); exact BK472.out) hb); replace HB := am (below_step (bl HB.out) hb); (try clear hb); (try clear hb2); (try clear hk); (try clear hi)))
       go_meet
       case rel => exact ⟨_, (false), (by first | rfl | (simp; done) | (simp [*]; done)), H', ⟨by have := HJ6.out; first | omega | exact Nat.le_refl _⟩, ⟨kr (Kd.R_mono HO_437000.out (fun _ hk => ⟨hk.2.2.2.1, ⟨hk.2.2.2.2.1, ⟨hk.2.2.2.2.2.1, ⟨hk.2.2.2.2.2.2.1, ⟨hk.2.1, hk.2.2.1⟩⟩⟩⟩⟩))⟩, ⟨kr (Kd.R_mono HO_447000.out (fun _ hk => ⟨hk.2.2.2.1, ⟨hk.2.2.2.2.1, ⟨hk.2.2.2.2.2.1, ⟨hk.2.2.2.2.2.2.1, ⟨hk.2.1, hk.2.2.1⟩⟩⟩⟩⟩))⟩, ⟨kr (Kd.R_mono HO_447003.out (fun _ hk => ⟨hk.2.2.2.1, ⟨hk.2.2.2.2.1, ⟨hk.2.2.2.2.2.1, ⟨hk.2.2.2.2.2.2.1, ⟨hk.2.1, hk.2.2.1⟩⟩⟩⟩⟩))⟩, ⟨kr (Kd.R_mono HO_460000.out (fun _ hk => ⟨hk.2.2.2.1, ⟨hk.2.2.2.2.1, ⟨hk.2.2.2.2.2.1, ⟨hk.2.2.2.2.2.2.1, ⟨hk.2.1, hk.2.2.1⟩⟩⟩⟩⟩))⟩, ⟨kr (Kd.R_mono HO_460003.out (fun _ hk => ⟨hk.2.2.2.1, ⟨hk.2.2.2.2.1, ⟨hk.2.2.2.2.2.1, ⟨hk.2.2.2.2.2.2.1, ⟨hk.2.1, hk.2.2.1⟩⟩⟩⟩⟩))⟩, ⟨kr (Kd.R_mono HO465.out (fun _ hk => ⟨hk.2.2.1, ⟨hk.2.2.2.1, ⟨hk.2.2.2.2.1, ⟨hk.2.2.2.2.2.1, ⟨hk.2.2.2.2.2.2.1, hk.2.1⟩⟩⟩⟩⟩))⟩, ⟨kr (Kd.R_mono HO470.out (fun _ hk => ⟨hk.2.2.1, ⟨hk.2.2.2.1, ⟨hk.2.2.2.2.1, ⟨hk.2.2.2.2.2.1, ⟨hk.2.2.2.2.2.2.1, hk.2.1⟩⟩⟩⟩⟩))⟩, ⟨pk BK436.out⟩, ⟨pk BK446.out⟩, ⟨pk BK459.out⟩, ⟨pk BK472.out⟩, ⟨by repeat (first | (with_reducible first | exact HB.out | apply below_alloc | apply pw_below_drewN | apply below_drew1 | refine below_set ?_ GE436.out | refine below_set ?_ GE446.out | refine below_set ?_ GE459.out | refine below_set ?_ GE472.out) | exact HB.out)⟩⟩
     case rest =>
      clear HC41
      try clear c1
      try clear p2
      try clear c3
      try clear c5
      try clear c6
      try clear p6
      try clear c7
      try clear c8
      try clear c9
      try clear c10
      try clear c13
      try clear c37
      try clear c38
      try clear c59
      try clear c60
      try clear c60b0
      try clear c60b1
      try clear c61
      try clear c61b0
      try clear c61b1
      try clear c63
      try clear p64
      try clear c65
      try clear c66
      try clear c67
      try clear c71
      try clear c72
      try clear c74
      try clear c76
      try clear c77
      try clear c78
      try clear c82
      try clear c83
      try clear c85
      try clear c87
      try clear c88
      try clear c89
      try clear c93
      try clear c94
      try clear c96
      try clear c97
      try clear c98
      try clear c102
      try clear c103
      try clear c104
      try clear hcz101_0
      try clear hcz101_1
      try clear hcz101_2
      try clear hcz101_3
      try clear hcz101_4
      try clear hcz105_0
      try clear hcz105_1
      try clear hcz105_2
      try clear hcz105_3
      try clear hcz105_4
      try clear hcz68_0
      try clear hcz68_1
      try clear hcz68_2
      try clear hcz68_3
      try clear hcz68_4
      try clear hcz70_0
      try clear hcz70_1
      try clear hcz70_2
      try clear hcz70_3
      try clear hcz70_4
      try clear hcz73_0
      try clear hcz73_1
      try clear hcz73_2
      try clear hcz73_3
      try clear hcz73_4
      try clear hcz75_0
      try clear hcz75_1
      try clear hcz75_2
      try clear hcz79_0
      try clear hcz79_1
      try clear hcz79_2
      try clear hcz79_3
      try clear hcz79_4
      try clear hcz81_0
      try clear hcz81_1
      try clear hcz81_2
      try clear hcz81_3
      try clear hcz81_4
      try clear hcz84_0
      try clear hcz84_1
      try clear hcz84_2
      try clear hcz84_3
      try clear hcz84_4
      try clear hcz86_0
      try clear hcz86_1
      try clear hcz86_2
      try clear hcz90_0
      try clear hcz90_1
      try clear hcz90_2
      try clear hcz90_3
      try clear hcz90_4
      try clear hcz92_0
      try clear hcz92_1
      try clear hcz92_2
      try clear hcz92_3
      try clear hcz92_4
      try clear hcz95_0
      try clear hcz95_1
      try clear hcz95_2
      try clear hcz95_3
      try clear hcz95_4
      try clear hcz99_0
      try clear hcz99_1
      try clear hcz99_2
      try clear hcz99_3
      try clear hcz99_4
      try clear hfz101_0
      try clear hfz101_1
      try clear hfz101_2
      try clear hfz101_3
      try clear hfz101_4
      try clear hfz105_0
      try clear hfz105_1
      try clear hfz105_2
      try clear hfz105_3
      try clear hfz105_4
      try clear hfz68_0
      try clear hfz68_1
      try clear hfz68_2
      try clear hfz68_3
      try clear hfz68_4
      try clear hfz70_0
      try clear hfz70_1
      try clear hfz70_2
      try clear hfz70_3
      try clear hfz70_4
      try clear hfz73_0
      try clear hfz73_1
      try clear hfz73_2
      try clear hfz73_3
      try clear hfz73_4
      try clear hfz75_0
      try clear hfz75_1
      try clear hfz75_2
      try clear hfz79_0
      try clear hfz79_1
      try clear hfz79_2
      try clear hfz79_3
      try clear hfz79_4
      try clear hfz81_0
      try clear hfz81_1
      try clear hfz81_2
      try clear hfz81_3
      try clear hfz81_4
      try clear hfz84_0
      try clear hfz84_1
      try clear hfz84_2
      try clear hfz84_3
      try clear hfz84_4
      try clear hfz86_0
      try clear hfz86_1
      try clear hfz86_2
      try clear hfz90_0
      try clear hfz90_1
      try clear hfz90_2
      try clear hfz90_3
      try clear hfz90_4
      try clear hfz92_0
      try clear hfz92_1
      try clear hfz92_2
      try clear hfz92_3
      try clear hfz92_4
      try clear hfz95_0
      try clear hfz95_1
      try clear hfz95_2
      try clear hfz95_3
      try clear hfz95_4
      try clear hfz99_0
      try clear hfz99_1
      try clear hfz99_2
      try clear hfz99_3
      try clear hfz99_4
      obtain ⟨kq, x2_40, rfl, HA, HJ40, HO_437000, HO_447000, HO_447003, HO_460000, HO_460003, HO_473000, HO_473003, BK436, BK446, BK459, BK472, HB⟩ := hcut
      cases kq with
      | zero => exact absurd HA.out (by simp [laws_FnReplace.j1])
      | succ kj40 =>
       have H := HA.out
       clear HA
       simp only [laws_FnReplace.j1] at H
       obtain rfl := Option.some.inj H
       go_wp2
       go_ret
       exact ⟨by first | rfl | (simp [errW_none, errW_some] <;> rfl) | (simp [*, errW_none, errW_some] <;> rfl), by repeat (first | (with_reducible first | exact HB.out | apply below_alloc | apply pw_below_drewN | apply below_drew1 | refine below_set ?_ GE436.out | refine below_set ?_ GE446.out | refine below_set ?_ GE459.out | refine below_set ?_ GE472.out) | exact HB.out)⟩
    ·rw [if_neg c38] at H
     have c38b0 : (t445 == 0) = false := beq_eq_false_iff_ne.mpr c38
     have c38b1 : (t445 != 0) = true := bne_iff_ne.mpr c38
     obtain rfl := Option.some.inj H
     have hnb107 := NB446_436.out
     have hnc107 := NB436_446.out
     have hnb108 := NB446_459.out
     have hnc108 := NB459_446.out
     have hcz109_0 : wc.cell? ⟨gb446, 0, none⟩ = some (.slice Ao15 t437.length co15) := bc BK446.out 0
     have hcz109_1 : wc.cell? ⟨gb446, 1, none⟩ = some (.int .i64 t440) := bc BK446.out 1
     have hcz109_2 : wc.cell? ⟨gb446, 2, none⟩ = some (.int .i64 t441) := bc BK446.out 2
     have hcz109_3 : wc.cell? ⟨gb446, 3, none⟩ = some (.slice Ao18 t442.length co18) := bc BK446.out 3
     have hcz109_4 : wc.cell? ⟨gb446, 4, none⟩ = some (.int .i64 t445) := bc BK446.out 4
     have hfz109_0 := blk_frozen BK446.out 0
     have hfz109_1 := blk_frozen BK446.out 1
     have hfz109_2 := blk_frozen BK446.out 2
     have hfz109_3 := blk_frozen BK446.out 3
     have hfz109_4 := blk_frozen BK446.out 4
     go_wp2
     go_ret
     exact ⟨by first | rfl | (simp [errW_none, errW_some] <;> rfl) | (simp [*, errW_none, errW_some] <;> rfl), by repeat (first | (with_reducible first | exact HB.out | apply below_alloc | apply pw_below_drewN | apply below_drew1 | refine below_set ?_ GE436.out | refine below_set ?_ GE446.out | refine below_set ?_ GE459.out) | exact HB.out)⟩

/-- THE ONE PURE STATEMENT of laws_FnReplace. -/
def laws_FnReplace.Pure : Prop := ∀ (l0 : List Int), (l0.length ≤ maxLen ∧ ∀ y0_ ∈ l0, (Lit.int .u8 y0_).wf = true) → ∃ k, laws_FnReplace.f k l0 = some true

end Go.Proofs.Ytejgkbejdkaccaa.PFnReplace
