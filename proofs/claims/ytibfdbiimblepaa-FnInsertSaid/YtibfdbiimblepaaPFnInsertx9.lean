-- Written by xprint.py (this claim's own program, over the kit's printer); Lean checks it.
import Derived.Test.YtibfdbiimblepaaPFnInsertx0
import Derived.Test.YtibfdbiimblepaaPFnInsertx4
import Derived.Test.YtibfdbiimblepaaPFnInsertx6
import Derived.Test.YtibfdbiimblepaaPFnInsertx8
namespace Go.Proofs.Ytibfdbiimblepaa.PFnInsert
open Go.RowKit Go.Proofs.YtibfdbiimblepaaW.PrintWords Go.Proofs.YtibfdbiimblepaaW.PrintLast Go.Proofs.YtibfdbiimblepaaW.PrintMore
attribute [local go_sem] max2_int min2_int max_two min_two max_three min_three max_four min_four   -- for this text's walks alone
set_option linter.unusedVariables false
set_option linter.unusedSimpArgs false   -- squeezed

/-! ### laws_FnInsert: function 3 -/
@[reducible] def b3_0 : Array Bool := (br true [5, 1]).toArray
@[reducible] def b3_1 : Array Bool := (br true [3, 1, 1, 1]).toArray
mutual
def laws_FnInsert.j0 : Nat → List Int → List Int → Int → Int → Option (Bool)
 | 0, _, _, _, _ => none
 | k + 1, x4, x451000, x451001, x451002 => (laws_lwCopy.f x4).bind fun t481 => ((impl_BufInsert.f k x451000 x451001 x451002 t481).bind fun bt484 => (if bt484.2.2.2.2 = 0 then (if bt484.2.1 = (wrap64 (x451001 + (x4.length : Int))) then (laws_FnInsert.j1 k x4 ((bt484.1.length : Int) != (wrap64 ((x451000.length : Int) + (x4.length : Int)))) x451000 x451001 x451002 bt484.1 bt484.2.1 bt484.2.2.1 bt484.2.2.2.1 bt484.2.2.2.2) else (laws_FnInsert.j1 k x4 true x451000 x451001 x451002 bt484.1 bt484.2.1 bt484.2.2.1 bt484.2.2.2.1 bt484.2.2.2.2)) else (laws_FnInsert.j1 k x4 true x451000 x451001 x451002 bt484.1 bt484.2.1 bt484.2.2.1 bt484.2.2.2.1 bt484.2.2.2.2)))
def laws_FnInsert.j1 : Nat → List Int → Bool → List Int → Int → Int → List Int → Int → Int → List Int → Int → Option (Bool)
 | 0, _, _, _, _, _, _, _, _, _, _ => none
 | k + 1, x4, x60, x451000, x451001, x451002, x494000, x494001, x494002, x494003, x494004 => if x60 = true then (some false) else (laws_FnInsert.j2 k x4 x451000 x451001 x451002 x494000 x494001 x494002 x494003 x494004)
def laws_FnInsert.j2 : Nat → List Int → List Int → Int → Int → List Int → Int → Int → List Int → Int → Option (Bool)
 | 0, _, _, _, _, _, _, _, _, _ => none
 | k + 1, x4, x451000, x451001, x451002, x494000, x494001, x494002, x494003, x494004 => (impl_BufDelete.f k x494000 x494001 x494002 x451001 x494001).bind fun bt494 => (if bt494.2.2.2.2 = 0 then ((laws_lwSame.f k bt494.2.2.2.1 x4).bind fun t504 => (if t504 = true then ((laws_lwSame.f k bt494.1 x451000).bind fun t505 => (if t505 = true then (laws_FnInsert.j3 k (bt494.2.1 != x451001) x451000 x451001 x451002 bt494.1 bt494.2.1 bt494.2.2.1 bt494.2.2.2.1 bt494.2.2.2.2) else (laws_FnInsert.j3 k true x451000 x451001 x451002 bt494.1 bt494.2.1 bt494.2.2.1 bt494.2.2.2.1 bt494.2.2.2.2))) else (laws_FnInsert.j3 k true x451000 x451001 x451002 bt494.1 bt494.2.1 bt494.2.2.1 bt494.2.2.2.1 bt494.2.2.2.2))) else (laws_FnInsert.j3 k true x451000 x451001 x451002 bt494.1 bt494.2.1 bt494.2.2.1 bt494.2.2.2.1 bt494.2.2.2.2))
def laws_FnInsert.j3 : Nat → Bool → List Int → Int → Int → List Int → Int → Int → List Int → Int → Option (Bool)
 | 0, _, _, _, _, _, _, _, _, _ => none
 | k + 1, x95, x451000, x451001, x451002, x504000, x504001, x504002, x504003, x504004 => if x95 = true then (some false) else (if x504002 = x451002 then ((impl_BufSame.f k x504000 x504001 x504002 x451000 x451001 x451002).bind fun t506 => (some t506)) else (some false))
end
def laws_FnInsert.f (k : Nat) (l0 : List Int) : Option (Bool) := if (l0.length : Int) > 1048576 then (some true) else ((spec_DrawBufInsert.f k l0).bind fun bt442 => ((spec_BufInsert.f k bt442.1 bt442.2.1 bt442.2.2.1 bt442.2.2.2).bind fun bt451 => (if bt451.2.2.2.2 = 0 then (laws_FnInsert.j0 k bt442.2.2.2 bt442.1 bt442.2.1 bt442.2.2.1) else ((laws_lwCopy.f bt442.2.2.2).bind fun t460 => ((impl_BufInsert.f k bt442.1 bt442.2.1 bt442.2.2.1 t460).bind fun bt463 => ((spec_BufInsert.f k bt442.1 bt442.2.1 bt442.2.2.1 bt442.2.2.2).bind fun bt472 => (some (bt463.2.2.2.2 == bt472.2.2.2.2))))))))
theorem laws_FnInsert.mono_l : ∀ k, (∀ y0 y1 y2 y3, LeO (laws_FnInsert.j0 k y0 y1 y2 y3) (laws_FnInsert.j0 (k + 1) y0 y1 y2 y3)) ∧ (∀ y0 y1 y2 y3 y4 y5 y6 y7 y8 y9, LeO (laws_FnInsert.j1 k y0 y1 y2 y3 y4 y5 y6 y7 y8 y9) (laws_FnInsert.j1 (k + 1) y0 y1 y2 y3 y4 y5 y6 y7 y8 y9)) ∧ (∀ y0 y1 y2 y3 y4 y5 y6 y7 y8, LeO (laws_FnInsert.j2 k y0 y1 y2 y3 y4 y5 y6 y7 y8) (laws_FnInsert.j2 (k + 1) y0 y1 y2 y3 y4 y5 y6 y7 y8)) ∧ (∀ y0 y1 y2 y3 y4 y5 y6 y7 y8, LeO (laws_FnInsert.j3 k y0 y1 y2 y3 y4 y5 y6 y7 y8) (laws_FnInsert.j3 (k + 1) y0 y1 y2 y3 y4 y5 y6 y7 y8))
 | 0 => ⟨fun _ _ _ _ r h => by simp [laws_FnInsert.j0] at h, fun _ _ _ _ _ _ _ _ _ _ r h => by simp [laws_FnInsert.j1] at h, fun _ _ _ _ _ _ _ _ _ r h => by simp [laws_FnInsert.j2] at h, fun _ _ _ _ _ _ _ _ _ r h => by simp [laws_FnInsert.j3] at h⟩
 | k + 1 => by
  obtain ⟨ih0, ih1, ih2, ih3⟩ := laws_FnInsert.mono_l k
  refine ⟨?_, ?_, ?_, ?_⟩
  ·intro y0 y1 y2 y3
   unfold laws_FnInsert.j0
   repeat' first
   | (with_reducible exact ih0 _ _ _ _)
   | (with_reducible exact ih1 _ _ _ _ _ _ _ _ _ _)
   | (with_reducible exact ih2 _ _ _ _ _ _ _ _ _)
   | (with_reducible exact ih3 _ _ _ _ _ _ _ _ _)
   | (with_reducible exact impl_BufDelete.mono _ _ _ _ _ _)
   | (with_reducible exact impl_BufInsert.mono _ _ _ _ _)
   | (with_reducible exact impl_BufSame.mono _ _ _ _ _ _ _)
   | (with_reducible exact laws_lwSame.mono _ _ _)
   | (with_reducible exact spec_BufInsert.mono _ _ _ _ _)
   | (with_reducible exact spec_DrawBufInsert.mono _ _)
   | (with_reducible exact LeO.refl _)
   | (with_reducible exact LeO.none _)
   | (with_reducible refine LeO.ite ?_ ?_)
   | (with_reducible refine LeO.bind ?_ (fun _ => ?_))
   | exact ih0 _ _ _ _
   | exact ih1 _ _ _ _ _ _ _ _ _ _
   | exact ih2 _ _ _ _ _ _ _ _ _
   | exact ih3 _ _ _ _ _ _ _ _ _
   | exact impl_BufDelete.mono _ _ _ _ _ _
   | exact impl_BufInsert.mono _ _ _ _ _
   | exact impl_BufSame.mono _ _ _ _ _ _ _
   | exact laws_lwSame.mono _ _ _
   | exact spec_BufInsert.mono _ _ _ _ _
   | exact spec_DrawBufInsert.mono _ _
   | exact LeO.none _
   | refine LeO.ite ?_ ?_
   | refine LeO.bind ?_ (fun _ => ?_)
  ·intro y0 y1 y2 y3 y4 y5 y6 y7 y8 y9
   unfold laws_FnInsert.j1
   repeat' first
   | (with_reducible exact ih0 _ _ _ _)
   | (with_reducible exact ih1 _ _ _ _ _ _ _ _ _ _)
   | (with_reducible exact ih2 _ _ _ _ _ _ _ _ _)
   | (with_reducible exact ih3 _ _ _ _ _ _ _ _ _)
   | (with_reducible exact impl_BufDelete.mono _ _ _ _ _ _)
   | (with_reducible exact impl_BufInsert.mono _ _ _ _ _)
   | (with_reducible exact impl_BufSame.mono _ _ _ _ _ _ _)
   | (with_reducible exact laws_lwSame.mono _ _ _)
   | (with_reducible exact spec_BufInsert.mono _ _ _ _ _)
   | (with_reducible exact spec_DrawBufInsert.mono _ _)
   | (with_reducible exact LeO.refl _)
   | (with_reducible exact LeO.none _)
   | (with_reducible refine LeO.ite ?_ ?_)
   | (with_reducible refine LeO.bind ?_ (fun _ => ?_))
   | exact ih0 _ _ _ _
   | exact ih1 _ _ _ _ _ _ _ _ _ _
   | exact ih2 _ _ _ _ _ _ _ _ _
   | exact ih3 _ _ _ _ _ _ _ _ _
   | exact impl_BufDelete.mono _ _ _ _ _ _
   | exact impl_BufInsert.mono _ _ _ _ _
   | exact impl_BufSame.mono _ _ _ _ _ _ _
   | exact laws_lwSame.mono _ _ _
   | exact spec_BufInsert.mono _ _ _ _ _
   | exact spec_DrawBufInsert.mono _ _
   | exact LeO.none _
   | refine LeO.ite ?_ ?_
   | refine LeO.bind ?_ (fun _ => ?_)
  ·intro y0 y1 y2 y3 y4 y5 y6 y7 y8
   unfold laws_FnInsert.j2
   repeat' first
   | (with_reducible exact ih0 _ _ _ _)
   | (with_reducible exact ih1 _ _ _ _ _ _ _ _ _ _)
   | (with_reducible exact ih2 _ _ _ _ _ _ _ _ _)
   | (with_reducible exact ih3 _ _ _ _ _ _ _ _ _)
   | (with_reducible exact impl_BufDelete.mono _ _ _ _ _ _)
   | (with_reducible exact impl_BufInsert.mono _ _ _ _ _)
   | (with_reducible exact impl_BufSame.mono _ _ _ _ _ _ _)
   | (with_reducible exact laws_lwSame.mono _ _ _)
   | (with_reducible exact spec_BufInsert.mono _ _ _ _ _)
   | (with_reducible exact spec_DrawBufInsert.mono _ _)
   | (with_reducible exact LeO.refl _)
   | (with_reducible exact LeO.none _)
   | (with_reducible refine LeO.ite ?_ ?_)
   | (with_reducible refine LeO.bind ?_ (fun _ => ?_))
   | exact ih0 _ _ _ _
   | exact ih1 _ _ _ _ _ _ _ _ _ _
   | exact ih2 _ _ _ _ _ _ _ _ _
   | exact ih3 _ _ _ _ _ _ _ _ _
   | exact impl_BufDelete.mono _ _ _ _ _ _
   | exact impl_BufInsert.mono _ _ _ _ _
   | exact impl_BufSame.mono _ _ _ _ _ _ _
   | exact laws_lwSame.mono _ _ _
   | exact spec_BufInsert.mono _ _ _ _ _
   | exact spec_DrawBufInsert.mono _ _
   | exact LeO.none _
   | refine LeO.ite ?_ ?_
   | refine LeO.bind ?_ (fun _ => ?_)
  ·intro y0 y1 y2 y3 y4 y5 y6 y7 y8
   unfold laws_FnInsert.j3
   repeat' first
   | (with_reducible exact ih0 _ _ _ _)
   | (with_reducible exact ih1 _ _ _ _ _ _ _ _ _ _)
   | (with_reducible exact ih2 _ _ _ _ _ _ _ _ _)
   | (with_reducible exact ih3 _ _ _ _ _ _ _ _ _)
   | (with_reducible exact impl_BufDelete.mono _ _ _ _ _ _)
   | (with_reducible exact impl_BufInsert.mono _ _ _ _ _)
   | (with_reducible exact impl_BufSame.mono _ _ _ _ _ _ _)
   | (with_reducible exact laws_lwSame.mono _ _ _)
   | (with_reducible exact spec_BufInsert.mono _ _ _ _ _)
   | (with_reducible exact spec_DrawBufInsert.mono _ _)
   | (with_reducible exact LeO.refl _)
   | (with_reducible exact LeO.none _)
   | (with_reducible refine LeO.ite ?_ ?_)
   | (with_reducible refine LeO.bind ?_ (fun _ => ?_))
   | exact ih0 _ _ _ _
   | exact ih1 _ _ _ _ _ _ _ _ _ _
   | exact ih2 _ _ _ _ _ _ _ _ _
   | exact ih3 _ _ _ _ _ _ _ _ _
   | exact impl_BufDelete.mono _ _ _ _ _ _
   | exact impl_BufInsert.mono _ _ _ _ _
   | exact impl_BufSame.mono _ _ _ _ _ _ _
   | exact laws_lwSame.mono _ _ _
   | exact spec_BufInsert.mono _ _ _ _ _
   | exact spec_DrawBufInsert.mono _ _
   | exact LeO.none _
   | refine LeO.ite ?_ ?_
   | refine LeO.bind ?_ (fun _ => ?_)
theorem laws_FnInsert.mono : ∀ a0 k, LeO (laws_FnInsert.f k a0) (laws_FnInsert.f (k + 1) a0) := by
 intro a0 k
 obtain ⟨ih0, ih1, ih2, ih3⟩ := laws_FnInsert.mono_l k
 unfold laws_FnInsert.f
 repeat' first
   | (with_reducible exact ih0 _ _ _ _)
   | (with_reducible exact ih1 _ _ _ _ _ _ _ _ _ _)
   | (with_reducible exact ih2 _ _ _ _ _ _ _ _ _)
   | (with_reducible exact ih3 _ _ _ _ _ _ _ _ _)
   | (with_reducible exact impl_BufDelete.mono _ _ _ _ _ _)
   | (with_reducible exact impl_BufInsert.mono _ _ _ _ _)
   | (with_reducible exact impl_BufSame.mono _ _ _ _ _ _ _)
   | (with_reducible exact laws_lwSame.mono _ _ _)
   | (with_reducible exact spec_BufInsert.mono _ _ _ _ _)
   | (with_reducible exact spec_DrawBufInsert.mono _ _)
   | (with_reducible exact LeO.refl _)
   | (with_reducible exact LeO.none _)
   | (with_reducible refine LeO.ite ?_ ?_)
   | (with_reducible refine LeO.bind ?_ (fun _ => ?_))
   | exact ih0 _ _ _ _
   | exact ih1 _ _ _ _ _ _ _ _ _ _
   | exact ih2 _ _ _ _ _ _ _ _ _
   | exact ih3 _ _ _ _ _ _ _ _ _
   | exact impl_BufDelete.mono _ _ _ _ _ _
   | exact impl_BufInsert.mono _ _ _ _ _
   | exact impl_BufSame.mono _ _ _ _ _ _ _
   | exact laws_lwSame.mono _ _ _
   | exact spec_BufInsert.mono _ _ _ _ _
   | exact spec_DrawBufInsert.mono _ _
   | exact LeO.none _
   | refine LeO.ite ?_ ?_
   | refine LeO.bind ?_ (fun _ => ?_)
def laws_FnInsert.T5 : Bool × List (List Nat × List Nat) := (true, [([], []), ([], []), ([1], [1]), ([0, 2, 2], [0, 2]), ([3], [3]), ([], []), ([], []), ([5, 6, 3], [5, 6]), ([7], [7]), ([4, 8], [4, 8]), ([9, 7, 0, 1, 2, 3, 4, 5, 6, 7, 8, 9], [9])])
def laws_FnInsert.B5 : List Nat := [0, 0, 2, 7, 15, 0, 0, 111, 239, 511, 1023]
theorem laws_FnInsert.tab5 : rtab .any (opsOf Try.f3 5) = laws_FnInsert.T5 := by kernel_rfl
theorem laws_FnInsert.bits5 : waitsOk laws_FnInsert.T5.2 laws_FnInsert.B5 = true := by kernel_rfl
set_option maxHeartbeats 8000000 in
set_option maxRecDepth 100000 in
theorem laws_FnInsert.calls (k : Nat) (A0 : Option Addr) (c0 : Nat) (l0 : List Int) (r : Bool) (w : World) (hr0 : Kd.C (Kd.int .u8) w A0 l0.length l0) (hc0 : l0.length ≤ c0) (h : laws_FnInsert.f k l0 = some r) :
  Calls Try.prog 3 #[.slice A0 l0.length c0] w fun e w' => e = .returned (.bool r) ∧ Below w.heap.size w w' := by
 have hu25 := Try.underlying25
 have hu29 := Try.underlying29
 have hfd29_2 : ∀ (x0_ x1_ x2_ x3_ x4_ : Value) (W_ : World), (Instr.field 29 (.agg #[x0_, x1_, x2_, x3_, x4_]) 2).run Try.prog W_ = .ok (x4_) W_ := fun _ _ _ _ _  _ => by kernel_rfl
 have HR0 := am hr0
 have HC0 := am hc0
 clear hr0 hc0
 have HB := am (Below.refl w.heap.size w)
 have H : (if (l0.length : Int) > 1048576 then (some true) else ((spec_DrawBufInsert.f k l0).bind fun bt442 => ((spec_BufInsert.f k bt442.1 bt442.2.1 bt442.2.2.1 bt442.2.2.2).bind fun bt451 => (if bt451.2.2.2.2 = 0 then (laws_FnInsert.j0 k bt442.2.2.2 bt442.1 bt442.2.1 bt442.2.2.1) else ((laws_lwCopy.f bt442.2.2.2).bind fun t460 => ((impl_BufInsert.f k bt442.1 bt442.2.1 bt442.2.2.1 t460).bind fun bt463 => ((spec_BufInsert.f k bt442.1 bt442.2.1 bt442.2.2.1 bt442.2.2.2).bind fun bt472 => (some (bt463.2.2.2.2 == bt472.2.2.2.2))))))))) = some r := h
 clear h
 by_cases c2 : (l0.length : Int) > 1048576
 ·rw [if_pos c2] at H
  have c2b0 : decide (1048576 < (l0.length : Int)) = true := decide_eq_true c2
  have c2b1 : decide (1048576 < l0.length) = true := decide_eq_true (by omega)
  clear c2
  obtain rfl := Option.some.inj H
  go_enter Try.func3, Try.ntmps3
  go_wp2
  go_ret
  exact ⟨by first | rfl | (simp [errW_none, errW_some] <;> rfl) | (simp [*, errW_none, errW_some] <;> rfl), by repeat (first | (with_reducible first | exact HB.out | apply below_alloc | apply pw_below_drewN | apply below_drew1) | exact HB.out)⟩
 ·rw [if_neg c2] at H
  have c2b0 : decide (1048576 < (l0.length : Int)) = false := decide_eq_false c2
  have c2b1 : decide (1048576 < l0.length) = false := decide_eq_false (by omega)
  clear c2
  replace H := Option.bind_eq_some_iff.mp H
  obtain ⟨⟨t442, t445, t446, t447⟩, A30, H⟩ := H
  replace H : ((spec_BufInsert.f k t442 t445 t446 t447).bind fun bt451 => (if bt451.2.2.2.2 = 0 then (laws_FnInsert.j0 k t447 t442 t445 t446) else ((laws_lwCopy.f t447).bind fun t460 => ((impl_BufInsert.f k t442 t445 t446 t460).bind fun bt463 => ((spec_BufInsert.f k t442 t445 t446 t447).bind fun bt472 => (some (bt463.2.2.2.2 == bt472.2.2.2.2))))))) = some r := H
  have A3 := Aside0.mk A30
  clear A30
  replace H := Option.bind_eq_some_iff.mp H
  obtain ⟨⟨t451, t454, t455, t456, t459⟩, A40, H⟩ := H
  replace H : (if t459 = 0 then (laws_FnInsert.j0 k t447 t442 t445 t446) else ((laws_lwCopy.f t447).bind fun t460 => ((impl_BufInsert.f k t442 t445 t446 t460).bind fun bt463 => ((spec_BufInsert.f k t442 t445 t446 t447).bind fun bt472 => (some (bt463.2.2.2.2 == bt472.2.2.2.2)))))) = some r := H
  have A4 := Aside0.mk A40
  clear A40
  have HC5 := Aside0.mk H
  clear H
  go_enter Try.func3, Try.ntmps3
  go_upto_if 19 with (first | ((with_reducible refine gate_callee (f := 5) rfl ?_); refine gl (some 12) Try.func5 #[.slice A0 l0.length c0] ?_; (with_reducible refine (spec_DrawBufInsert.calls k _ _ l0 t442 t445 t446 t447 _ ?side1 ?side2 A3.out).mono ?_); (case side1 => repeat (first | exact HR0.out | (with_reducible refine Kd.C_alloc ?_ _) | (with_reducible refine Kd.C_drewN ?_ _) | (with_reducible refine Kd.C_drew ?_))); (case side2 => exact HC0.out); rintro e w6 ⟨v443, v448, rfl, ho0, ho1, hb⟩; refine ⟨_, rfl, ?_⟩; have HO444 := am (Kd.R_lower ho0 (below_size (bl HB.out))); have HO449 := am (Kd.R_lower ho1 (below_size (bl HB.out))); replace HB := am (below_step (bl HB.out) hb); (try clear hb); (try clear hb2); (try clear hk); (try clear hi); (try clear ho0); (try clear ho1)) | ((with_reducible refine gate_dst (N := 3) rfl ?_); (try (refine gate_guard (by rfl) ?_; dsimp only)); refine box_event ?hg (N := 3) ?hd (cs := #[.slice none 0 0, .int .i64 0, .int .i64 0]) (t := 25) ?hr ?_; (case hd => rfl); (case hg => rfl); (case hr => first | (go_simp; done) | (go_simp; rfl)); intro gb450 hg w7 hbox hb; replace HO444 := am (Kd.R_below (kr HO444.out) hb); replace HO449 := am (Kd.R_below (kr HO449.out) hb); have BK450 := am (hbox); have GW450 := am ((by rw [hg]; exact (below_size (bl HB.out)) : w.heap.size ≤ gb450)); have GE450 := GW450; replace HB := am (below_step (bl HB.out) hb); clear hb hbox hg; obtain ⟨Ao8, co8, eo8⟩ := Kd.R_slice HO444.out; subst eo8; have hcz9_0 : w7.cell? ⟨gb450, 0, none⟩ = some (.slice none 0 0) := bc BK450.out 0; have hcz9_1 : w7.cell? ⟨gb450, 1, none⟩ = some (.int .i64 0) := bc BK450.out 1; have hcz9_2 : w7.cell? ⟨gb450, 2, none⟩ = some (.int .i64 0) := bc BK450.out 2; have hfz9_0 := blk_frozen BK450.out 0; have hfz9_1 := blk_frozen BK450.out 1; have hfz9_2 := blk_frozen BK450.out 2; obtain ⟨Ao10, co10, eo10⟩ := Kd.R_slice HO449.out; subst eo10) | ((with_reducible refine gate_callee (f := 6) rfl ?_); refine gl (some 17) Try.func6 #[.agg #[.slice Ao8 t442.length co8, .int .i64 t445, .int .i64 t446], .slice Ao10 t447.length co10] ?_; (with_reducible refine (spec_BufInsert.calls k _ _ t442 t445 t446 _ _ t447 t451 t454 t455 t456 t459 _ ?side1 ?side2 ?side3 ?side4 A4.out).mono ?_); (case side1 => refine (Kd.R_reads' (e := 2) (base := w.heap.size) (ok := fun k_ => some k_ ≠ (.slice Ao10 t447.length co10 : Value).ownBlock) (n := t442.length) (c := co8) ?_).2.2; exact (kr ((Kd.R_mono (Kd.R_far (p := ⟨gb450, 2, none⟩) (Kd.R_far (p := ⟨gb450, 1, none⟩) (Kd.R_far (p := ⟨gb450, 0, none⟩) (Kd.R_types HO444.out BK450.out (by decide)) (fun _ hk => hk.2) (.slice Ao8 t442.length co8)) (fun _ hk => hk.2) (.int .i64 t445)) (fun _ hk => hk.2) (.int .i64 t446)) (fun _ h_ => h_.1))))); (case side2 => exact (Kd.R_reads' HO444.out).2.1); (case side3 => refine (Kd.R_reads' (e := 2) (base := w.heap.size) (ok := fun k_ => some k_ ≠ (.slice Ao8 t442.length co8 : Value).ownBlock) (n := t447.length) (c := co10) ?_).2.2; exact (kr ((Kd.R_mono (Kd.R_far (p := ⟨gb450, 2, none⟩) (Kd.R_far (p := ⟨gb450, 1, none⟩) (Kd.R_far (p := ⟨gb450, 0, none⟩) (Kd.R_types HO449.out BK450.out (by decide)) (fun _ hk => hk.2) (.slice Ao8 t442.length co8)) (fun _ hk => hk.2) (.int .i64 t445)) (fun _ hk => hk.2) (.int .i64 t446)) (fun _ h_ => h_.1))))); (case side4 => exact (Kd.R_reads' HO449.out).2.1); rintro e w11 ⟨v452, v457, rfl, ho0, ho1, hb⟩; refine ⟨_, rfl, ?_⟩; have HO453 := am (Kd.R_lower (Kd.R_new' (Kd.R_new' ho0 (Kd.R_lt (kr ((Kd.R_mono (Kd.R_far (p := ⟨gb450, 2, none⟩) (Kd.R_far (p := ⟨gb450, 1, none⟩) (Kd.R_far (p := ⟨gb450, 0, none⟩) (Kd.R_types HO444.out BK450.out (by decide)) (fun _ hk => hk.2) (.slice Ao8 t442.length co8)) (fun _ hk => hk.2) (.int .i64 t445)) (fun _ hk => hk.2) (.int .i64 t446)) (fun _ h_ => h_.1)))))) (Kd.R_lt (kr ((Kd.R_mono (Kd.R_far (p := ⟨gb450, 2, none⟩) (Kd.R_far (p := ⟨gb450, 1, none⟩) (Kd.R_far (p := ⟨gb450, 0, none⟩) (Kd.R_types HO449.out BK450.out (by decide)) (fun _ hk => hk.2) (.slice Ao8 t442.length co8)) (fun _ hk => hk.2) (.int .i64 t445)) (fun _ hk => hk.2) (.int .i64 t446)) (fun _ h_ => h_.1)))))) (below_size (bl HB.out))); have HO458 := am (Kd.R_lower (Kd.R_new' (Kd.R_new' ho1 (Kd.R_lt (kr ((Kd.R_mono (Kd.R_far (p := ⟨gb450, 2, none⟩) (Kd.R_far (p := ⟨gb450, 1, none⟩) (Kd.R_far (p := ⟨gb450, 0, none⟩) (Kd.R_types HO444.out BK450.out (by decide)) (fun _ hk => hk.2) (.slice Ao8 t442.length co8)) (fun _ hk => hk.2) (.int .i64 t445)) (fun _ hk => hk.2) (.int .i64 t446)) (fun _ h_ => h_.1)))))) (Kd.R_lt (kr ((Kd.R_mono (Kd.R_far (p := ⟨gb450, 2, none⟩) (Kd.R_far (p := ⟨gb450, 1, none⟩) (Kd.R_far (p := ⟨gb450, 0, none⟩) (Kd.R_types HO449.out BK450.out (by decide)) (fun _ hk => hk.2) (.slice Ao8 t442.length co8)) (fun _ hk => hk.2) (.int .i64 t445)) (fun _ hk => hk.2) (.int .i64 t446)) (fun _ h_ => h_.1)))))) (below_size (bl HB.out))); replace HO444 := am (Kd.R_mono (Kd.R_told (Kd.R_told (Kd.R_old (kr ((Kd.R_mono (Kd.R_far (p := ⟨gb450, 2, none⟩) (Kd.R_far (p := ⟨gb450, 1, none⟩) (Kd.R_far (p := ⟨gb450, 0, none⟩) (Kd.R_types HO444.out BK450.out (by decide)) (fun _ hk => hk.2) (.slice Ao8 t442.length co8)) (fun _ hk => hk.2) (.int .i64 t445)) (fun _ hk => hk.2) (.int .i64 t446)) (fun _ h_ => h_.1)))) hb) (Kd.R_base ho0)) (Kd.R_base ho1)) (fun _ h_ => h_.1)); replace HO449 := am (Kd.R_mono (Kd.R_told (Kd.R_told (Kd.R_old (kr ((Kd.R_mono (Kd.R_far (p := ⟨gb450, 2, none⟩) (Kd.R_far (p := ⟨gb450, 1, none⟩) (Kd.R_far (p := ⟨gb450, 0, none⟩) (Kd.R_types HO449.out BK450.out (by decide)) (fun _ hk => hk.2) (.slice Ao8 t442.length co8)) (fun _ hk => hk.2) (.int .i64 t445)) (fun _ hk => hk.2) (.int .i64 t446)) (fun _ h_ => h_.1)))) hb) (Kd.R_base ho0)) (Kd.R_base ho1)) (fun _ h_ => h_.1)); replace BK450 := am (blk_below (g := gb450) (o := .cells #[.slice Ao8 t442.length co8, .int .i64 t445, .int .i64 t446] 25 (0, 0)) (by (with_reducible repeat (first | refine blk_drewN ?_ _ | refine blk_drew ?_ | refine blk_alloc ?_ _)); refine blk_put (cs := #[.slice Ao8 t442.length co8, .int .i64 t445, .int .i64 0]) ?_ 2 _ rfl; (with_reducible repeat (first | refine blk_drewN ?_ _ | refine blk_drew ?_ | refine blk_alloc ?_ _)); refine blk_put (cs := #[.slice Ao8 t442.length co8, .int .i64 0, .int .i64 0]) ?_ 1 _ rfl; (with_reducible repeat (first | refine blk_drewN ?_ _ | refine blk_drew ?_ | refine blk_alloc ?_ _)); refine blk_put (cs := #[.slice none 0 0, .int .i64 0, .int .i64 0]) ?_ 0 _ rfl; (with_reducible repeat (first | refine blk_drewN ?_ _ | refine blk_drew ?_ | refine blk_alloc ?_ _)); exact BK450.out) hb); replace HB := am (below_step (bl HB.out) hb); (try clear hb); (try clear hb2); (try clear hk); (try clear hi); (try clear ho0); (try clear ho1)))
  (try simp only [Act.put, sa_, s0_, ss_])
  go_cut [] (fun wc => ∃ (kq : Nat), Aside0 (laws_FnInsert.j0 kq t447 t442 t445 t446 = some r) ∧ Aside0 (kq ≤ k) ∧ Aside0 (Kd.R (Kd.int .i64) 2 wc w.heap.size (fun k_ => some k_ ≠ ((.slice Ao8 t442.length co8) : Value).ownBlock) (.slice Ao10 t447.length co10) t447) ∧ Aside0 (Kd.R (Kd.int .i64) 2 wc w.heap.size (fun k_ => some k_ ≠ ((.slice Ao10 t447.length co10) : Value).ownBlock) (.slice Ao8 t442.length co8) t442) ∧ Aside0 (wc.heap[gb450]? = some (.cells #[(.slice Ao8 t442.length co8), .int .i64 t445, .int .i64 t446] 25 (0, 0))) ∧ Aside0 (Below w.heap.size w wc))
  case first =>
   have H := HC5.out
   clear HC5
   by_cases c12 : t459 = 0
   ·rw [if_pos c12] at H
    have c12b0 : (t459 == 0) = true := beq_iff_eq.mpr c12
    have c12b1 : (t459 != 0) = false := bne_eq_false_iff_eq.mpr c12
    clear c12
    (first | rw [c12b0] | (simp only [i64_w, i32_w]; rw [c12b0]) | (have e9_ := c12b0; unfold bne at e9_; rw [e9_]) | skip)
    have H' := Aside0.mk H
    clear H
    go_wp2
    go_meet
    case rel => exact ⟨_, H', ⟨by first | omega | exact Nat.le_refl _⟩, ⟨kr (Kd.R_mono HO449.out (fun _ hk => hk.1.1))⟩, ⟨kr (Kd.R_mono HO444.out (fun _ hk => hk.1.1))⟩, ⟨pk BK450.out⟩, ⟨by repeat (first | (with_reducible first | exact HB.out | apply below_alloc | apply pw_below_drewN | apply below_drew1 | refine below_set ?_ GE450.out) | exact HB.out)⟩⟩
   ·rw [if_neg c12] at H
    have c12b0 : (t459 == 0) = false := beq_eq_false_iff_ne.mpr c12
    have c12b1 : (t459 != 0) = true := bne_iff_ne.mpr c12
    (first | rw [c12b0] | (simp only [i64_w, i32_w]; rw [c12b0]) | (have e9_ := c12b0; unfold bne at e9_; rw [e9_]) | skip)
    replace H := Option.bind_eq_some_iff.mp H
    obtain ⟨t460, A130, H⟩ := H
    replace H : ((impl_BufInsert.f k t442 t445 t446 t460).bind fun bt463 => ((spec_BufInsert.f k t442 t445 t446 t447).bind fun bt472 => (some (bt463.2.2.2.2 == bt472.2.2.2.2)))) = some r := H
    have A13 := Aside0.mk A130
    clear A130
    replace H := Option.bind_eq_some_iff.mp H
    obtain ⟨⟨t463, t466, t467, t468, t471⟩, A140, H⟩ := H
    replace H : ((spec_BufInsert.f k t442 t445 t446 t447).bind fun bt472 => (some (t471 == bt472.2.2.2.2))) = some r := H
    have A14 := Aside0.mk A140
    clear A140
    replace H := Option.bind_eq_some_iff.mp H
    obtain ⟨⟨t472, t475, t476, t477, t480⟩, A150, H⟩ := H
    replace H : (some (t471 == t480)) = some r := H
    have A15 := Aside0.mk A150
    clear A150
    obtain rfl := Option.some.inj H
    try go_wp2
    replace HO444 := am (Kd.R_drew HO444.out)
    replace HO449 := am (Kd.R_drew HO449.out)
    replace HO453 := am (Kd.R_drew HO453.out)
    replace HO458 := am (Kd.R_drew HO458.out)
    replace BK450 := am (blk_drew BK450.out)
    replace HB := am (below_drew1 HB.out)
    refine start_ (n := 11) (S := fun w' => w'.cell? ⟨gb450, 0, none⟩ = some (.slice Ao8 t442.length co8) ∧ w'.cell? ⟨gb450, 1, none⟩ = some (.int .i64 t445) ∧ w'.cell? ⟨gb450, 2, none⟩ = some (.int .i64 t446)) (ds := []) #[false, false, false, false, false, false, false, false, false, false, false] (by kernel_rfl) rfl rfl ⟨bc BK450.out 0, bc BK450.out 1, bc BK450.out 2⟩ (fun hHeld => ?_); refine with_tabW laws_FnInsert.tab5 laws_FnInsert.bits5 (fun HT_ HW_ => ?_)
    generalize w11.drew = w16 at HO444 HO449 HO453 HO458 BK450 HB hHeld ⊢
    refine pure_ (i := 1) (N := some 21) (v := ?_) (a' := ?_) #[false, true, false, false, false, false, false, false, false, false, false] rfl rfl (any_of HT_.out (by kernel_rfl)) (fun _ _ _ h => h) (Or.inl ⟨by rfl, ?_⟩) ?_ ?_; rotate_left
    ·intro w'; go_simp; with_reducible rfl
    rotate_left
    ·simp only [Act.put, sa_, s0_, ss_, i64_w, i32_w]; rfl
    refine pure_ (i := 6) (N := some 26) (v := ?_) (a' := ?_) #[false, true, false, false, false, false, true, false, false, false, false] rfl rfl (any_of HT_.out (by kernel_rfl)) (fun _ _ _ h => h) (Or.inl ⟨by rfl, ?_⟩) ?_ ?_; rotate_left
    ·intro w'; go_simp; with_reducible rfl
    rotate_left
    ·simp only [Act.put, sa_, s0_, ss_, i64_w, i32_w]; rfl
    refine take_ (i := 0) (N := some 20) (v := ?_) (a' := ?_) #[true, true, false, false, false, false, true, false, false, false, false] rfl rfl (take_ofW HT_.out HW_.out (by kernel_rfl)) (fun _ _ _ h => h) (Or.inl ⟨by rfl, ?_⟩) hHeld ?_ ?_; rotate_left
    ·rintro w' ⟨s0, s1, s2⟩; go_simp; with_reducible rfl
    rotate_left
    ·simp only [Act.put, sa_, s0_, ss_, i64_w, i32_w]; rfl
    refine take_ (i := 5) (N := some 25) (v := ?_) (a' := ?_) #[true, true, false, false, false, true, true, false, false, false, false] rfl rfl (take_ofW HT_.out HW_.out (by kernel_rfl)) (fun _ _ _ h => h) (Or.inl ⟨by rfl, ?_⟩) hHeld ?_ ?_; rotate_left
    ·rintro w' ⟨s0, s1, s2⟩; go_simp; with_reducible rfl
    rotate_left
    ·simp only [Act.put, sa_, s0_, ss_, i64_w, i32_w]; rfl
    refine one_ (i := 2) (N := some 22) #[true, true, true, false, false, true, true, false, false, false, false] rfl rfl (one_of HT_.out (by kernel_rfl)) (by decide) (fun K hK => ?_)
    refine goes_ Try.func8 (by kernel_rfl) rfl #[.slice Ao10 t447.length co10] (by rfl) rfl rfl (by (try simp only [List.map_toArray, List.map_cons, List.map_nil]); first | done | rfl | (simp only [List.length_drop, List.length_take]; rfl)) ?_
    with_reducible refine (laws_lwCopy.calls _ _ t447 t460 _ ?side1 ?side2 A13.out).mono ?_
    (case side1 => repeat (first | exact (Kd.R_reads' HO449.out).2.2 | (with_reducible refine Kd.C_alloc ?_ _) | (with_reducible refine Kd.C_drewN ?_ _) | (with_reducible refine Kd.C_drew ?_)))
    (case side2 => exact (Kd.R_reads' HO449.out).2.1)
    rintro e w17 ⟨v461, rfl, ho0, hb⟩
    refine ⟨_, rfl, ?_⟩
    have HO462 := am (Kd.R_lower (Kd.R_new' (Kd.R_new' (Kd.R_new' (Kd.R_new' ho0 (Kd.R_lt (kr HO444.out))) (Kd.R_lt (kr HO449.out))) (Kd.R_lt (kr HO453.out))) (Kd.R_lt (kr HO458.out))) (below_size (bl HB.out)))
    replace HO444 := am (Kd.R_elder' (kr HO444.out) (Kd.R_base ho0) hb)
    replace HO449 := am (Kd.R_elder' (kr HO449.out) (Kd.R_base ho0) hb)
    replace HO453 := am (Kd.R_elder' (kr HO453.out) (Kd.R_base ho0) hb)
    replace HO458 := am (Kd.R_elder' (kr HO458.out) (Kd.R_base ho0) hb)
    replace BK450 := am (blk_below (pk BK450.out) hb)
    replace HB := am (below_step (bl HB.out) hb)
    (try clear hb)
    (try clear hb2)
    (try clear hk)
    (try clear hi)
    (try clear ho0)
    obtain ⟨Ao18, co18, eo18⟩ := Kd.R_slice HO462.out
    (first | subst eo18 | (injection eo18 with f1_ f2_ f3_; have f4_ := f1_.symm; have f5_ := f3_.symm; clear f1_ f2_ f3_; subst f4_; subst f5_))
    refine hK.out _ _ ⟨bc BK450.out 0, bc BK450.out 1, bc BK450.out 2⟩ (fun hHeld => ?_)
    clear hK K
    refine norm_ (a' := ?_) ?_ ?_
    rotate_left
    ·show Act.put _ (some 22) _ = _
     simp only [Act.put, sa_, s0_, ss_, i64_w, i32_w]
     rfl
    refine one_ (i := 3) (N := some 23) #[true, true, true, true, false, true, true, false, false, false, false] rfl rfl (one_of HT_.out (by kernel_rfl)) (by decide) (fun K hK => ?_)
    refine goes_ Try.func7 (by kernel_rfl) rfl #[.agg #[.slice Ao8 t442.length co8, .int .i64 t445, .int .i64 t446], .slice Ao18 t460.length co18] (by rfl) rfl rfl (by (try simp only [List.map_toArray, List.map_cons, List.map_nil]); first | done | rfl | (simp only [List.length_drop, List.length_take]; rfl)) ?_
    with_reducible refine (impl_BufInsert.calls k _ _ t442 t445 t446 _ _ t460 t463 t466 t467 t468 t471 _ ?side1 ?side2 ?side3 ?side4 A14.out).mono ?_
    (case side1 => repeat (first | exact (Kd.R_reads' HO444.out).2.2 | (with_reducible refine Kd.C_alloc ?_ _) | (with_reducible refine Kd.C_drewN ?_ _) | (with_reducible refine Kd.C_drew ?_)))
    (case side2 => exact (Kd.R_reads' HO444.out).2.1)
    (case side3 => repeat (first | exact (Kd.R_reads' HO462.out).2.2 | (with_reducible refine Kd.C_alloc ?_ _) | (with_reducible refine Kd.C_drewN ?_ _) | (with_reducible refine Kd.C_drew ?_)))
    (case side4 => exact (Kd.R_reads' HO462.out).2.1)
    rintro e w19 ⟨v464, v469, rfl, ho0, ho1, hb⟩
    refine ⟨_, rfl, ?_⟩
    have HO465 := am (Kd.R_lower (Kd.R_new' (Kd.R_new' (Kd.R_new' (Kd.R_new' (Kd.R_new' ho0 (Kd.R_lt (kr HO444.out))) (Kd.R_lt (kr HO449.out))) (Kd.R_lt (kr HO453.out))) (Kd.R_lt (kr HO458.out))) (Kd.R_lt (kr HO462.out))) (below_size (bl HB.out)))
    have HO470 := am (Kd.R_lower (Kd.R_new' (Kd.R_new' (Kd.R_new' (Kd.R_new' (Kd.R_new' ho1 (Kd.R_lt (kr HO444.out))) (Kd.R_lt (kr HO449.out))) (Kd.R_lt (kr HO453.out))) (Kd.R_lt (kr HO458.out))) (Kd.R_lt (kr HO462.out))) (below_size (bl HB.out)))
    replace HO444 := am (Kd.R_mono (Kd.R_told (Kd.R_told (Kd.R_old (kr HO444.out) hb) (Kd.R_base ho0)) (Kd.R_base ho1)) (fun _ h_ => h_.1))
    replace HO449 := am (Kd.R_mono (Kd.R_told (Kd.R_told (Kd.R_old (kr HO449.out) hb) (Kd.R_base ho0)) (Kd.R_base ho1)) (fun _ h_ => h_.1))
    replace HO453 := am (Kd.R_mono (Kd.R_told (Kd.R_told (Kd.R_old (kr HO453.out) hb) (Kd.R_base ho0)) (Kd.R_base ho1)) (fun _ h_ => h_.1))
    replace HO458 := am (Kd.R_mono (Kd.R_told (Kd.R_told (Kd.R_old (kr HO458.out) hb) (Kd.R_base ho0)) (Kd.R_base ho1)) (fun _ h_ => h_.1))
    replace HO462 := am (Kd.R_mono (Kd.R_told (Kd.R_told (Kd.R_old (kr HO462.out) hb) (Kd.R_base ho0)) (Kd.R_base ho1)) (fun _ h_ => h_.1))
    replace BK450 := am (blk_below (pk BK450.out) hb)
    replace HB := am (below_step (bl HB.out) hb)
    (try clear hb)
    (try clear hb2)
    (try clear hk)
    (try clear hi)
    (try clear ho0)
    (try clear ho1)
    refine hK.out _ _ ⟨bc BK450.out 0, bc BK450.out 1, bc BK450.out 2⟩ (fun hHeld => ?_)
    clear hK K
    refine norm_ (a' := ?_) ?_ ?_
    rotate_left
    ·show Act.put _ (some 23) _ = _
     simp only [Act.put, sa_, s0_, ss_, i64_w, i32_w]
     rfl
    refine pure_ (i := 4) (N := some 24) (v := ?_) (a' := ?_) #[true, true, true, true, true, true, true, false, false, false, false] rfl rfl (any_of HT_.out (by kernel_rfl)) (fun _ _ _ h => h) (Or.inl ⟨by rfl, ?_⟩) ?_ ?_; rotate_left
    ·intro w'; go_simp; with_reducible rfl
    rotate_left
    ·simp only [Act.put, sa_, s0_, ss_, i64_w, i32_w]; rfl
    refine one_ (i := 7) (N := some 27) #[true, true, true, true, true, true, true, true, false, false, false] rfl rfl (one_of HT_.out (by kernel_rfl)) (by decide) (fun K hK => ?_)
    refine goes_ Try.func6 (by kernel_rfl) rfl #[.agg #[.slice Ao8 t442.length co8, .int .i64 t445, .int .i64 t446], .slice Ao10 t447.length co10] (by rfl) rfl rfl (by (try simp only [List.map_toArray, List.map_cons, List.map_nil]); first | done | rfl | (simp only [List.length_drop, List.length_take]; rfl)) ?_
    with_reducible refine (spec_BufInsert.calls k _ _ t442 t445 t446 _ _ t447 t472 t475 t476 t477 t480 _ ?side1 ?side2 ?side3 ?side4 A15.out).mono ?_
    (case side1 => repeat (first | exact (Kd.R_reads' HO444.out).2.2 | (with_reducible refine Kd.C_alloc ?_ _) | (with_reducible refine Kd.C_drewN ?_ _) | (with_reducible refine Kd.C_drew ?_)))
    (case side2 => exact (Kd.R_reads' HO444.out).2.1)
    (case side3 => repeat (first | exact (Kd.R_reads' HO449.out).2.2 | (with_reducible refine Kd.C_alloc ?_ _) | (with_reducible refine Kd.C_drewN ?_ _) | (with_reducible refine Kd.C_drew ?_)))
    (case side4 => exact (Kd.R_reads' HO449.out).2.1)
    rintro e w20 ⟨v473, v478, rfl, ho0, ho1, hb⟩
    refine ⟨_, rfl, ?_⟩
    have HO474 := am (Kd.R_lower (Kd.R_new' (Kd.R_new' (Kd.R_new' (Kd.R_new' (Kd.R_new' (Kd.R_new' (Kd.R_new' ho0 (Kd.R_lt (kr HO444.out))) (Kd.R_lt (kr HO449.out))) (Kd.R_lt (kr HO453.out))) (Kd.R_lt (kr HO458.out))) (Kd.R_lt (kr HO462.out))) (Kd.R_lt (kr HO465.out))) (Kd.R_lt (kr HO470.out))) (below_size (bl HB.out)))
    have HO479 := am (Kd.R_lower (Kd.R_new' (Kd.R_new' (Kd.R_new' (Kd.R_new' (Kd.R_new' (Kd.R_new' (Kd.R_new' ho1 (Kd.R_lt (kr HO444.out))) (Kd.R_lt (kr HO449.out))) (Kd.R_lt (kr HO453.out))) (Kd.R_lt (kr HO458.out))) (Kd.R_lt (kr HO462.out))) (Kd.R_lt (kr HO465.out))) (Kd.R_lt (kr HO470.out))) (below_size (bl HB.out)))
    replace HO444 := am (Kd.R_mono (Kd.R_told (Kd.R_told (Kd.R_old (kr HO444.out) hb) (Kd.R_base ho0)) (Kd.R_base ho1)) (fun _ h_ => h_.1))
    replace HO449 := am (Kd.R_mono (Kd.R_told (Kd.R_told (Kd.R_old (kr HO449.out) hb) (Kd.R_base ho0)) (Kd.R_base ho1)) (fun _ h_ => h_.1))
    replace HO453 := am (Kd.R_mono (Kd.R_told (Kd.R_told (Kd.R_old (kr HO453.out) hb) (Kd.R_base ho0)) (Kd.R_base ho1)) (fun _ h_ => h_.1))
    replace HO458 := am (Kd.R_mono (Kd.R_told (Kd.R_told (Kd.R_old (kr HO458.out) hb) (Kd.R_base ho0)) (Kd.R_base ho1)) (fun _ h_ => h_.1))
    replace HO462 := am (Kd.R_mono (Kd.R_told (Kd.R_told (Kd.R_old (kr HO462.out) hb) (Kd.R_base ho0)) (Kd.R_base ho1)) (fun _ h_ => h_.1))
    replace HO465 := am (Kd.R_mono (Kd.R_told (Kd.R_told (Kd.R_old (kr HO465.out) hb) (Kd.R_base ho0)) (Kd.R_base ho1)) (fun _ h_ => h_.1))
    replace HO470 := am (Kd.R_mono (Kd.R_told (Kd.R_told (Kd.R_old (kr HO470.out) hb) (Kd.R_base ho0)) (Kd.R_base ho1)) (fun _ h_ => h_.1))
    replace BK450 := am (blk_below (pk BK450.out) hb)
    replace HB := am (below_step (bl HB.out) hb)
    (try clear hb)
    (try clear hb2)
    (try clear hk)
    (try clear hi)
    (try clear ho0)
    (try clear ho1)
    refine hK.out _ _ ⟨bc BK450.out 0, bc BK450.out 1, bc BK450.out 2⟩ (fun hHeld => ?_)
    clear hK K
    refine norm_ (a' := ?_) ?_ ?_
    rotate_left
    ·show Act.put _ (some 27) _ = _
     simp only [Act.put, sa_, s0_, ss_, i64_w, i32_w]
     rfl
    refine pure_ (i := 8) (N := some 28) (v := ?_) (a' := ?_) #[true, true, true, true, true, true, true, true, true, false, false] rfl rfl (any_of HT_.out (by kernel_rfl)) (fun _ _ _ h => h) (Or.inl ⟨by rfl, ?_⟩) ?_ ?_; rotate_left
    ·intro w'; go_simp; with_reducible rfl
    rotate_left
    ·simp only [Act.put, sa_, s0_, ss_, i64_w, i32_w]; rfl
    refine pure_ (i := 9) (N := some 29) (v := ?_) (a' := ?_) #[true, true, true, true, true, true, true, true, true, true, false] rfl rfl (any_of HT_.out (by kernel_rfl)) (fun _ _ _ h => h) (Or.inl ⟨by rfl, ?_⟩) ?_ ?_; rotate_left
    ·intro w'; go_simp; with_reducible rfl
    rotate_left
    ·simp only [Act.put, sa_, s0_, ss_, i64_w, i32_w]; rfl
    refine pure_ (i := 10) (N := some 2) (v := ?_) (a' := ?_) #[true, true, true, true, true, true, true, true, true, true, true] rfl rfl (any_of HT_.out (by kernel_rfl)) (fun _ _ _ h => h) (Or.inl ⟨by rfl, ?_⟩) ?_ ?_; rotate_left
    ·intro w'; go_simp; with_reducible rfl
    rotate_left
    ·simp only [Act.put, sa_, s0_, ss_, i64_w, i32_w]; rfl
    refine done_ (done_of HT_.out (by kernel_rfl)) ?_
    try go_wp2
    go_ret
    exact ⟨by first | rfl | (simp [errW_none, errW_some] <;> rfl) | (simp [*, errW_none, errW_some] <;> rfl), by repeat (first | (with_reducible first | exact HB.out | apply below_alloc | apply pw_below_drewN | apply below_drew1 | refine below_set ?_ GE450.out) | exact HB.out)⟩
  case rest =>
   clear HC5
   try clear c1
   try clear c2
   try clear c2b0
   try clear c2b1
   try clear p2
   try clear c3
   try clear c5
   try clear c6
   try clear c7
   try clear c8
   try clear c12
   try clear c12b0
   try clear c12b1
   try clear hcz9_0
   try clear hcz9_1
   try clear hcz9_2
   try clear hfz9_0
   try clear hfz9_1
   try clear hfz9_2
   obtain ⟨kq, HA, HJ4, HO_4, HO_451000, BK450, HB⟩ := hcut
   cases kq with
   | zero => exact absurd HA.out (by simp [laws_FnInsert.j0])
   | succ kj4 =>
    have H := HA.out
    clear HA
    simp only [laws_FnInsert.j0] at H
    replace H := Option.bind_eq_some_iff.mp H
    obtain ⟨t481, A210, H⟩ := H
    replace H : ((impl_BufInsert.f kj4 t442 t445 t446 t481).bind fun bt484 => (if bt484.2.2.2.2 = 0 then (if bt484.2.1 = (wrap64 (t445 + (t447.length : Int))) then (laws_FnInsert.j1 kj4 t447 ((bt484.1.length : Int) != (wrap64 ((t442.length : Int) + (t447.length : Int)))) t442 t445 t446 bt484.1 bt484.2.1 bt484.2.2.1 bt484.2.2.2.1 bt484.2.2.2.2) else (laws_FnInsert.j1 kj4 t447 true t442 t445 t446 bt484.1 bt484.2.1 bt484.2.2.1 bt484.2.2.2.1 bt484.2.2.2.2)) else (laws_FnInsert.j1 kj4 t447 true t442 t445 t446 bt484.1 bt484.2.1 bt484.2.2.1 bt484.2.2.2.1 bt484.2.2.2.2))) = some r := H
    have A21 := Aside0.mk A210
    clear A210
    replace H := Option.bind_eq_some_iff.mp H
    obtain ⟨⟨t484, t487, t488, t489, t492⟩, A220, H⟩ := H
    replace H : (if t492 = 0 then (if t487 = (wrap64 (t445 + (t447.length : Int))) then (laws_FnInsert.j1 kj4 t447 ((t484.length : Int) != (wrap64 ((t442.length : Int) + (t447.length : Int)))) t442 t445 t446 t484 t487 t488 t489 t492) else (laws_FnInsert.j1 kj4 t447 true t442 t445 t446 t484 t487 t488 t489 t492)) else (laws_FnInsert.j1 kj4 t447 true t442 t445 t446 t484 t487 t488 t489 t492)) = some r := H
    have A22 := Aside0.mk A220
    clear A220
    have HC23 := Aside0.mk H
    clear H
    try go_wp2
    replace HO_4 := am (Kd.R_drew HO_4.out)
    replace HO_451000 := am (Kd.R_drew HO_451000.out)
    replace BK450 := am (blk_drew BK450.out)
    replace HB := am (below_drew1 HB.out)
    refine start_ (n := 6) (S := fun w' => w'.cell? ⟨gb450, 0, none⟩ = some (.slice Ao8 t442.length co8) ∧ w'.cell? ⟨gb450, 1, none⟩ = some (.int .i64 t445) ∧ w'.cell? ⟨gb450, 2, none⟩ = some (.int .i64 t446)) (ds := []) #[false, false, false, false, false, false] (by kernel_rfl) rfl rfl ⟨bc BK450.out 0, bc BK450.out 1, bc BK450.out 2⟩ (fun hHeld => ?_)
    generalize wc.drew = w24 at HO_4 HO_451000 BK450 HB hHeld ⊢
    refine pure_ (i := 1) (N := some 31) (v := ?_) (a' := ?_) #[false, true, false, false, false, false] rfl rfl (by kernel_rfl) (fun _ _ _ h => h) (Or.inl ⟨by rfl, ?_⟩) ?_ ?_; rotate_left
    ·intro w'; go_simp; with_reducible rfl
    rotate_left
    ·simp only [Act.put, sa_, s0_, ss_, i64_w, i32_w]; rfl
    refine take_ (i := 0) (N := some 30) (v := ?_) (a' := ?_) #[true, true, false, false, false, false] rfl rfl (by kernel_rfl) (fun _ _ _ h => h) (Or.inl ⟨by rfl, ?_⟩) hHeld ?_ ?_; rotate_left
    ·rintro w' ⟨s0, s1, s2⟩; go_simp; with_reducible rfl
    rotate_left
    ·simp only [Act.put, sa_, s0_, ss_, i64_w, i32_w]; rfl
    refine join_ (σ := Value × Value × Value × Nat) 1 b3_0 (fun s_ => [(32, s_.1), (33, .agg #[s_.2.1, .int .i64 t487, .int .i64 t488, s_.2.2.1, .int .i64 t492]), (5, .pointer (some ⟨s_.2.2.2, 0, none⟩))]) (fun s_ w' => (w'.cell? ⟨gb450, 0, none⟩ = some (.slice Ao8 t442.length co8) ∧ w'.cell? ⟨gb450, 1, none⟩ = some (.int .i64 t445) ∧ w'.cell? ⟨gb450, 2, none⟩ = some (.int .i64 t446)) ∧ (Kd.R (Kd.int .i64) 2 w' w.heap.size (fun k_ => some k_ ≠ (s_.2.1 : Value).ownBlock ∧ some k_ ≠ (s_.2.2.1 : Value).ownBlock ∧ some k_ ≠ (.slice Ao10 t447.length co10 : Value).ownBlock ∧ some k_ ≠ (.slice Ao8 t442.length co8 : Value).ownBlock) s_.1 t481) ∧ (Kd.R (Kd.int .i64) 2 w' w.heap.size (fun k_ => some k_ ≠ (s_.1 : Value).ownBlock ∧ some k_ ≠ (s_.2.2.1 : Value).ownBlock ∧ some k_ ≠ (.slice Ao10 t447.length co10 : Value).ownBlock ∧ some k_ ≠ (.slice Ao8 t442.length co8 : Value).ownBlock) s_.2.1 t484) ∧ (Kd.R (Kd.int .i64) 2 w' w.heap.size (fun k_ => some k_ ≠ (s_.1 : Value).ownBlock ∧ some k_ ≠ (s_.2.1 : Value).ownBlock ∧ some k_ ≠ (.slice Ao10 t447.length co10 : Value).ownBlock ∧ some k_ ≠ (.slice Ao8 t442.length co8 : Value).ownBlock) s_.2.2.1 t489) ∧ (Kd.R (Kd.int .i64) 2 w' w.heap.size (fun k_ => some k_ ≠ (s_.1 : Value).ownBlock ∧ some k_ ≠ (s_.2.1 : Value).ownBlock ∧ some k_ ≠ (s_.2.2.1 : Value).ownBlock ∧ some k_ ≠ (.slice Ao8 t442.length co8 : Value).ownBlock) (.slice Ao10 t447.length co10) t447) ∧ (Kd.R (Kd.int .i64) 2 w' w.heap.size (fun k_ => some k_ ≠ (s_.1 : Value).ownBlock ∧ some k_ ≠ (s_.2.1 : Value).ownBlock ∧ some k_ ≠ (s_.2.2.1 : Value).ownBlock ∧ some k_ ≠ (.slice Ao10 t447.length co10 : Value).ownBlock) (.slice Ao8 t442.length co8) t442) ∧ (w'.heap[gb450]? = some (.cells #[.slice Ao8 t442.length co8, .int .i64 t445, .int .i64 t446] 25 (0, 0))) ∧ (w'.heap[s_.2.2.2]? = some (.cells #[.slice none 0 0, .int .i64 0, .int .i64 0, .slice none 0 0, .int .i64 0] 29 (0, 0))) ∧ (w.heap.size ≤ s_.2.2.2) ∧ (w.heap.size ≤ s_.2.2.2) ∧ (gb450 ≠ s_.2.2.2) ∧ (s_.2.2.2 ≠ gb450) ∧ (Below w.heap.size w w')) ?_ ?_
    rotate_left
    ·intro hCont
     refine two_ (i := 2) (j := 4) (Ni := some 32) (Nj := some 5) #[true, true, true, false, false, false] #[true, true, false, false, true, false] rfl rfl rfl rfl (by kernel_rfl) (by decide) (by decide) (fun K hK => ?_) (fun K hK => ?_)
     ·skip
      refine goes_ Try.func8 (by kernel_rfl) rfl #[.slice Ao10 t447.length co10] (by rfl) rfl rfl (by (try simp only [List.map_toArray, List.map_cons, List.map_nil]); first | done | rfl | (simp only [List.length_drop, List.length_take]; rfl)) ?_
      with_reducible refine (laws_lwCopy.calls _ _ t447 t481 _ ?side1 ?side2 A21.out).mono ?_
      (case side1 => repeat (first | exact (Kd.R_reads' HO_4.out).2.2 | (with_reducible refine Kd.C_alloc ?_ _) | (with_reducible refine Kd.C_drewN ?_ _) | (with_reducible refine Kd.C_drew ?_)))
      (case side2 => exact (Kd.R_reads' HO_4.out).2.1)
      rintro e w25 ⟨v482, rfl, ho0, hb⟩
      refine ⟨_, rfl, ?_⟩
      have HO483 := am (Kd.R_lower (Kd.R_new' (Kd.R_new' ho0 (Kd.R_lt (kr HO_4.out))) (Kd.R_lt (kr HO_451000.out))) (below_size (bl HB.out)))
      replace HO_4 := am (Kd.R_elder' (kr HO_4.out) (Kd.R_base ho0) hb)
      replace HO_451000 := am (Kd.R_elder' (kr HO_451000.out) (Kd.R_base ho0) hb)
      replace BK450 := am (blk_below (pk BK450.out) hb)
      replace HB := am (below_step (bl HB.out) hb)
      (try clear hb)
      (try clear hb2)
      (try clear hk)
      (try clear hi)
      (try clear ho0)
      obtain ⟨Ao26, co26, eo26⟩ := Kd.R_slice HO483.out
      (first | subst eo26 | (injection eo26 with f1_ f2_ f3_; have f4_ := f1_.symm; have f5_ := f3_.symm; clear f1_ f2_ f3_; subst f4_; subst f5_))
      refine hK.out _ _ ⟨bc BK450.out 0, bc BK450.out 1, bc BK450.out 2⟩ (fun hHeld => ?_)
      clear hK K
      refine norm_ (a' := ?_) ?_ ?_
      rotate_left
      ·show Act.put _ (some 32) _ = _
       simp only [Act.put, sa_, s0_, ss_, i64_w, i32_w]
       rfl
      refine two_ (i := 3) (j := 4) (Ni := some 33) (Nj := some 5) #[true, true, true, true, false, false] b3_1 rfl rfl rfl rfl (by kernel_rfl) (by decide) (by decide) (fun K hK => ?_) (fun K hK => ?_)
      ·skip
       refine goes_ Try.func7 (by kernel_rfl) rfl #[.agg #[.slice Ao8 t442.length co8, .int .i64 t445, .int .i64 t446], .slice Ao26 t481.length co26] (by rfl) rfl rfl (by (try simp only [List.map_toArray, List.map_cons, List.map_nil]); first | done | rfl | (simp only [List.length_drop, List.length_take]; rfl)) ?_
       with_reducible refine (impl_BufInsert.calls kj4 _ _ t442 t445 t446 _ _ t481 t484 t487 t488 t489 t492 _ ?side1 ?side2 ?side3 ?side4 A22.out).mono ?_
       (case side1 => repeat (first | exact (Kd.R_reads' HO_451000.out).2.2 | (with_reducible refine Kd.C_alloc ?_ _) | (with_reducible refine Kd.C_drewN ?_ _) | (with_reducible refine Kd.C_drew ?_)))
       (case side2 => exact (Kd.R_reads' HO_451000.out).2.1)
       (case side3 => repeat (first | exact (Kd.R_reads' HO483.out).2.2 | (with_reducible refine Kd.C_alloc ?_ _) | (with_reducible refine Kd.C_drewN ?_ _) | (with_reducible refine Kd.C_drew ?_)))
       (case side4 => exact (Kd.R_reads' HO483.out).2.1)
       rintro e w27 ⟨v485, v490, rfl, ho0, ho1, hb⟩
       refine ⟨_, rfl, ?_⟩
       have HO486 := am (Kd.R_lower (Kd.R_new' (Kd.R_new' (Kd.R_new' ho0 (Kd.R_lt (kr HO_4.out))) (Kd.R_lt (kr HO_451000.out))) (Kd.R_lt (kr HO483.out))) (below_size (bl HB.out)))
       have HO491 := am (Kd.R_lower (Kd.R_new' (Kd.R_new' (Kd.R_new' ho1 (Kd.R_lt (kr HO_4.out))) (Kd.R_lt (kr HO_451000.out))) (Kd.R_lt (kr HO483.out))) (below_size (bl HB.out)))
       replace HO_4 := am (Kd.R_mono (Kd.R_told (Kd.R_told (Kd.R_old (kr HO_4.out) hb) (Kd.R_base ho0)) (Kd.R_base ho1)) (fun _ h_ => h_.1))
       replace HO_451000 := am (Kd.R_mono (Kd.R_told (Kd.R_told (Kd.R_old (kr HO_451000.out) hb) (Kd.R_base ho0)) (Kd.R_base ho1)) (fun _ h_ => h_.1))
       replace HO483 := am (Kd.R_mono (Kd.R_told (Kd.R_told (Kd.R_old (kr HO483.out) hb) (Kd.R_base ho0)) (Kd.R_base ho1)) (fun _ h_ => h_.1))
       replace BK450 := am (blk_below (pk BK450.out) hb)
       replace HB := am (below_step (bl HB.out) hb)
       (try clear hb)
       (try clear hb2)
       (try clear hk)
       (try clear hi)
       (try clear ho0)
       (try clear ho1)
       refine hK.out _ _ ⟨bc BK450.out 0, bc BK450.out 1, bc BK450.out 2⟩ (fun hHeld => ?_)
       clear hK K
       refine norm_ (a' := ?_) ?_ ?_
       rotate_left
       ·show Act.put _ (some 33) _ = _
        simp only [Act.put, sa_, s0_, ss_, i64_w, i32_w]
        rfl
       refine one_ (i := 4) (N := some 5) b3_0 rfl rfl (by kernel_rfl) (by decide) (fun K hK => ?_)
       refine box_step ?hg (N := 5) ?hd (cs := #[.slice none 0 0, .int .i64 0, .int .i64 0, .slice none 0 0, .int .i64 0]) (t := 29) ?hr ?_; (case hd => rfl); (case hg => rfl); (case hr => first | (go_simp; done) | (go_simp; rfl))
       intro gb493 hg w28 hbox hb
       replace HO_4 := am (Kd.R_below (kr HO_4.out) hb)
       replace HO_451000 := am (Kd.R_below (kr HO_451000.out) hb)
       replace HO483 := am (Kd.R_below (kr HO483.out) hb)
       replace HO486 := am (Kd.R_below (kr HO486.out) hb)
       replace HO491 := am (Kd.R_below (kr HO491.out) hb)
       have BK493 := am (hbox)
       have GW493 := am ((by rw [hg]; exact (below_size (bl HB.out)) : w.heap.size ≤ gb493))
       have GE493 := GW493
       replace HB := am (below_step (bl HB.out) hb)
       have NB450_493 := am ((by rw [hg]; exact Nat.ne_of_lt (blk_lt (pk BK450.out)) : gb450 ≠ gb493))
       have NB493_450 := am ((by rw [hg]; exact Nat.ne_of_gt (blk_lt (pk BK450.out)) : gb493 ≠ gb450))
       replace BK450 := am (blk_below (pk BK450.out) hb)
       clear hb hbox hg
       refine hK.out _ _ ⟨bc BK450.out 0, bc BK450.out 1, bc BK450.out 2⟩ (fun hHeld => ?_)
       clear hK K
       refine norm_ (a' := ?_) ?_ ?_
       rotate_left
       ·show Act.put _ (some 5) _ = _
        simp only [Act.put, sa_, s0_, ss_, i64_w, i32_w]
        rfl
       exact norm_ (by simp only [putAll, Act.put, sa_, s0_, ss_]) (hCont (.slice Ao26 t481.length co26, v485, v490, gb493) _ ⟨hHeld, (kr (Kd.R_mono HO483.out (fun _ hk => ⟨hk.1.2, ⟨hk.2, ⟨hk.1.1.1.2, hk.1.1.2⟩⟩⟩))), (kr (Kd.R_mono HO486.out (fun _ hk => ⟨hk.2, ⟨hk.1.1.1, ⟨hk.1.1.2, hk.1.2⟩⟩⟩))), (kr (Kd.R_mono HO491.out (fun _ hk => ⟨hk.2, ⟨hk.1.1.1, ⟨hk.1.1.2, hk.1.2⟩⟩⟩))), (kr (Kd.R_mono HO_4.out (fun _ hk => ⟨hk.1.1.2, ⟨hk.1.2, ⟨hk.2, hk.1.1.1⟩⟩⟩))), (kr (Kd.R_mono HO_451000.out (fun _ hk => ⟨hk.1.1.2, ⟨hk.1.2, ⟨hk.2, hk.1.1.1⟩⟩⟩))), (pk BK450.out), (pk BK493.out), GW493.out, GE493.out, NB450_493.out, NB493_450.out, (bl HB.out)⟩)
      ·skip
       refine box_step ?hg (N := 5) ?hd (cs := #[.slice none 0 0, .int .i64 0, .int .i64 0, .slice none 0 0, .int .i64 0]) (t := 29) ?hr ?_; (case hd => rfl); (case hg => rfl); (case hr => first | (go_simp; done) | (go_simp; rfl))
       intro gb493 hg w26 hbox hb
       replace HO_4 := am (Kd.R_below (kr HO_4.out) hb)
       replace HO_451000 := am (Kd.R_below (kr HO_451000.out) hb)
       replace HO483 := am (Kd.R_below (kr HO483.out) hb)
       have BK493 := am (hbox)
       have GW493 := am ((by rw [hg]; exact (below_size (bl HB.out)) : w.heap.size ≤ gb493))
       have GE493 := GW493
       replace HB := am (below_step (bl HB.out) hb)
       have NB450_493 := am ((by rw [hg]; exact Nat.ne_of_lt (blk_lt (pk BK450.out)) : gb450 ≠ gb493))
       have NB493_450 := am ((by rw [hg]; exact Nat.ne_of_gt (blk_lt (pk BK450.out)) : gb493 ≠ gb450))
       replace BK450 := am (blk_below (pk BK450.out) hb)
       clear hb hbox hg
       obtain ⟨Ao27, co27, eo27⟩ := Kd.R_slice HO483.out
       (first | subst eo27 | (injection eo27 with f1_ f2_ f3_; have f4_ := f1_.symm; have f5_ := f3_.symm; clear f1_ f2_ f3_; subst f4_; subst f5_))
       refine hK.out _ _ ⟨bc BK450.out 0, bc BK450.out 1, bc BK450.out 2⟩ (fun hHeld => ?_)
       clear hK K
       refine norm_ (a' := ?_) ?_ ?_
       rotate_left
       ·show Act.put _ (some 5) _ = _
        simp only [Act.put, sa_, s0_, ss_, i64_w, i32_w]
        rfl
       refine one_ (i := 3) (N := some 33) b3_0 rfl rfl (by kernel_rfl) (by decide) (fun K hK => ?_)
       refine goes_ Try.func7 (by kernel_rfl) rfl #[.agg #[.slice Ao8 t442.length co8, .int .i64 t445, .int .i64 t446], .slice Ao27 t481.length co27] (by rfl) rfl rfl (by (try simp only [List.map_toArray, List.map_cons, List.map_nil]); first | done | rfl | (simp only [List.length_drop, List.length_take]; rfl)) ?_
       with_reducible refine (impl_BufInsert.calls kj4 _ _ t442 t445 t446 _ _ t481 t484 t487 t488 t489 t492 _ ?side1 ?side2 ?side3 ?side4 A22.out).mono ?_
       (case side1 => repeat (first | exact (Kd.R_reads' HO_451000.out).2.2 | (with_reducible refine Kd.C_alloc ?_ _) | (with_reducible refine Kd.C_drewN ?_ _) | (with_reducible refine Kd.C_drew ?_)))
       (case side2 => exact (Kd.R_reads' HO_451000.out).2.1)
       (case side3 => repeat (first | exact (Kd.R_reads' HO483.out).2.2 | (with_reducible refine Kd.C_alloc ?_ _) | (with_reducible refine Kd.C_drewN ?_ _) | (with_reducible refine Kd.C_drew ?_)))
       (case side4 => exact (Kd.R_reads' HO483.out).2.1)
       rintro e w28 ⟨v485, v490, rfl, ho0, ho1, hb⟩
       refine ⟨_, rfl, ?_⟩
       have HO486 := am (Kd.R_lower (Kd.R_new' (Kd.R_new' (Kd.R_new' ho0 (Kd.R_lt (kr HO_4.out))) (Kd.R_lt (kr HO_451000.out))) (Kd.R_lt (kr HO483.out))) (below_size (bl HB.out)))
       have HO491 := am (Kd.R_lower (Kd.R_new' (Kd.R_new' (Kd.R_new' ho1 (Kd.R_lt (kr HO_4.out))) (Kd.R_lt (kr HO_451000.out))) (Kd.R_lt (kr HO483.out))) (below_size (bl HB.out)))
       replace HO_4 := am (Kd.R_mono (Kd.R_told (Kd.R_told (Kd.R_old (kr HO_4.out) hb) (Kd.R_base ho0)) (Kd.R_base ho1)) (fun _ h_ => h_.1))
       replace HO_451000 := am (Kd.R_mono (Kd.R_told (Kd.R_told (Kd.R_old (kr HO_451000.out) hb) (Kd.R_base ho0)) (Kd.R_base ho1)) (fun _ h_ => h_.1))
       replace HO483 := am (Kd.R_mono (Kd.R_told (Kd.R_told (Kd.R_old (kr HO483.out) hb) (Kd.R_base ho0)) (Kd.R_base ho1)) (fun _ h_ => h_.1))
       replace BK450 := am (blk_below (pk BK450.out) hb)
       replace BK493 := am (blk_below (pk BK493.out) hb)
       replace HB := am (below_step (bl HB.out) hb)
       (try clear hb)
       (try clear hb2)
       (try clear hk)
       (try clear hi)
       (try clear ho0)
       (try clear ho1)
       refine hK.out _ _ ⟨bc BK450.out 0, bc BK450.out 1, bc BK450.out 2⟩ (fun hHeld => ?_)
       clear hK K
       refine norm_ (a' := ?_) ?_ ?_
       rotate_left
       ·show Act.put _ (some 33) _ = _
        simp only [Act.put, sa_, s0_, ss_, i64_w, i32_w]
        rfl
       exact norm_ (by simp only [putAll, Act.put, sa_, s0_, ss_]) (hCont (.slice Ao27 t481.length co27, v485, v490, gb493) _ ⟨hHeld, (kr (Kd.R_mono HO483.out (fun _ hk => ⟨hk.1.2, ⟨hk.2, ⟨hk.1.1.1.2, hk.1.1.2⟩⟩⟩))), (kr (Kd.R_mono HO486.out (fun _ hk => ⟨hk.2, ⟨hk.1.1.1, ⟨hk.1.1.2, hk.1.2⟩⟩⟩))), (kr (Kd.R_mono HO491.out (fun _ hk => ⟨hk.2, ⟨hk.1.1.1, ⟨hk.1.1.2, hk.1.2⟩⟩⟩))), (kr (Kd.R_mono HO_4.out (fun _ hk => ⟨hk.1.1.2, ⟨hk.1.2, ⟨hk.2, hk.1.1.1⟩⟩⟩))), (kr (Kd.R_mono HO_451000.out (fun _ hk => ⟨hk.1.1.2, ⟨hk.1.2, ⟨hk.2, hk.1.1.1⟩⟩⟩))), (pk BK450.out), (pk BK493.out), GW493.out, GE493.out, NB450_493.out, NB493_450.out, (bl HB.out)⟩)
     ·skip
      refine box_step ?hg (N := 5) ?hd (cs := #[.slice none 0 0, .int .i64 0, .int .i64 0, .slice none 0 0, .int .i64 0]) (t := 29) ?hr ?_; (case hd => rfl); (case hg => rfl); (case hr => first | (go_simp; done) | (go_simp; rfl))
      intro gb493 hg w25 hbox hb
      replace HO_4 := am (Kd.R_below (kr HO_4.out) hb)
      replace HO_451000 := am (Kd.R_below (kr HO_451000.out) hb)
      have BK493 := am (hbox)
      have GW493 := am ((by rw [hg]; exact (below_size (bl HB.out)) : w.heap.size ≤ gb493))
      have GE493 := GW493
      replace HB := am (below_step (bl HB.out) hb)
      have NB450_493 := am ((by rw [hg]; exact Nat.ne_of_lt (blk_lt (pk BK450.out)) : gb450 ≠ gb493))
      have NB493_450 := am ((by rw [hg]; exact Nat.ne_of_gt (blk_lt (pk BK450.out)) : gb493 ≠ gb450))
      replace BK450 := am (blk_below (pk BK450.out) hb)
      clear hb hbox hg
      refine hK.out _ _ ⟨bc BK450.out 0, bc BK450.out 1, bc BK450.out 2⟩ (fun hHeld => ?_)
      clear hK K
      refine norm_ (a' := ?_) ?_ ?_
      rotate_left
      ·show Act.put _ (some 5) _ = _
       simp only [Act.put, sa_, s0_, ss_, i64_w, i32_w]
       rfl
      refine one_ (i := 2) (N := some 32) b3_1 rfl rfl (by kernel_rfl) (by decide) (fun K hK => ?_)
      refine goes_ Try.func8 (by kernel_rfl) rfl #[.slice Ao10 t447.length co10] (by rfl) rfl rfl (by (try simp only [List.map_toArray, List.map_cons, List.map_nil]); first | done | rfl | (simp only [List.length_drop, List.length_take]; rfl)) ?_
      with_reducible refine (laws_lwCopy.calls _ _ t447 t481 _ ?side1 ?side2 A21.out).mono ?_
      (case side1 => repeat (first | exact (Kd.R_reads' HO_4.out).2.2 | (with_reducible refine Kd.C_alloc ?_ _) | (with_reducible refine Kd.C_drewN ?_ _) | (with_reducible refine Kd.C_drew ?_)))
      (case side2 => exact (Kd.R_reads' HO_4.out).2.1)
      rintro e w26 ⟨v482, rfl, ho0, hb⟩
      refine ⟨_, rfl, ?_⟩
      have HO483 := am (Kd.R_lower (Kd.R_new' (Kd.R_new' ho0 (Kd.R_lt (kr HO_4.out))) (Kd.R_lt (kr HO_451000.out))) (below_size (bl HB.out)))
      replace HO_4 := am (Kd.R_elder' (kr HO_4.out) (Kd.R_base ho0) hb)
      replace HO_451000 := am (Kd.R_elder' (kr HO_451000.out) (Kd.R_base ho0) hb)
      replace BK450 := am (blk_below (pk BK450.out) hb)
      replace BK493 := am (blk_below (pk BK493.out) hb)
      replace HB := am (below_step (bl HB.out) hb)
      (try clear hb)
      (try clear hb2)
      (try clear hk)
      (try clear hi)
      (try clear ho0)
      obtain ⟨Ao27, co27, eo27⟩ := Kd.R_slice HO483.out
      (first | subst eo27 | (injection eo27 with f1_ f2_ f3_; have f4_ := f1_.symm; have f5_ := f3_.symm; clear f1_ f2_ f3_; subst f4_; subst f5_))
      refine hK.out _ _ ⟨bc BK450.out 0, bc BK450.out 1, bc BK450.out 2⟩ (fun hHeld => ?_)
      clear hK K
      refine norm_ (a' := ?_) ?_ ?_
      rotate_left
      ·show Act.put _ (some 32) _ = _
       simp only [Act.put, sa_, s0_, ss_, i64_w, i32_w]
       rfl
      refine one_ (i := 3) (N := some 33) b3_0 rfl rfl (by kernel_rfl) (by decide) (fun K hK => ?_)
      refine goes_ Try.func7 (by kernel_rfl) rfl #[.agg #[.slice Ao8 t442.length co8, .int .i64 t445, .int .i64 t446], .slice Ao27 t481.length co27] (by rfl) rfl rfl (by (try simp only [List.map_toArray, List.map_cons, List.map_nil]); first | done | rfl | (simp only [List.length_drop, List.length_take]; rfl)) ?_
      with_reducible refine (impl_BufInsert.calls kj4 _ _ t442 t445 t446 _ _ t481 t484 t487 t488 t489 t492 _ ?side1 ?side2 ?side3 ?side4 A22.out).mono ?_
      (case side1 => repeat (first | exact (Kd.R_reads' HO_451000.out).2.2 | (with_reducible refine Kd.C_alloc ?_ _) | (with_reducible refine Kd.C_drewN ?_ _) | (with_reducible refine Kd.C_drew ?_)))
      (case side2 => exact (Kd.R_reads' HO_451000.out).2.1)
      (case side3 => repeat (first | exact (Kd.R_reads' HO483.out).2.2 | (with_reducible refine Kd.C_alloc ?_ _) | (with_reducible refine Kd.C_drewN ?_ _) | (with_reducible refine Kd.C_drew ?_)))
      (case side4 => exact (Kd.R_reads' HO483.out).2.1)
      rintro e w28 ⟨v485, v490, rfl, ho0, ho1, hb⟩
      refine ⟨_, rfl, ?_⟩
      have HO486 := am (Kd.R_lower (Kd.R_new' (Kd.R_new' (Kd.R_new' ho0 (Kd.R_lt (kr HO_4.out))) (Kd.R_lt (kr HO_451000.out))) (Kd.R_lt (kr HO483.out))) (below_size (bl HB.out)))
      have HO491 := am (Kd.R_lower (Kd.R_new' (Kd.R_new' (Kd.R_new' ho1 (Kd.R_lt (kr HO_4.out))) (Kd.R_lt (kr HO_451000.out))) (Kd.R_lt (kr HO483.out))) (below_size (bl HB.out)))
      replace HO_4 := am (Kd.R_mono (Kd.R_told (Kd.R_told (Kd.R_old (kr HO_4.out) hb) (Kd.R_base ho0)) (Kd.R_base ho1)) (fun _ h_ => h_.1))
      replace HO_451000 := am (Kd.R_mono (Kd.R_told (Kd.R_told (Kd.R_old (kr HO_451000.out) hb) (Kd.R_base ho0)) (Kd.R_base ho1)) (fun _ h_ => h_.1))
      replace HO483 := am (Kd.R_mono (Kd.R_told (Kd.R_told (Kd.R_old (kr HO483.out) hb) (Kd.R_base ho0)) (Kd.R_base ho1)) (fun _ h_ => h_.1))
      replace BK450 := am (blk_below (pk BK450.out) hb)
      replace BK493 := am (blk_below (pk BK493.out) hb)
      replace HB := am (below_step (bl HB.out) hb)
      (try clear hb)
      (try clear hb2)
      (try clear hk)
      (try clear hi)
      (try clear ho0)
      (try clear ho1)
      refine hK.out _ _ ⟨bc BK450.out 0, bc BK450.out 1, bc BK450.out 2⟩ (fun hHeld => ?_)
      clear hK K
      refine norm_ (a' := ?_) ?_ ?_
      rotate_left
      ·show Act.put _ (some 33) _ = _
       simp only [Act.put, sa_, s0_, ss_, i64_w, i32_w]
       rfl
      exact norm_ (by simp only [putAll, Act.put, sa_, s0_, ss_]) (hCont (.slice Ao27 t481.length co27, v485, v490, gb493) _ ⟨hHeld, (kr (Kd.R_mono HO483.out (fun _ hk => ⟨hk.1.2, ⟨hk.2, ⟨hk.1.1.1.2, hk.1.1.2⟩⟩⟩))), (kr (Kd.R_mono HO486.out (fun _ hk => ⟨hk.2, ⟨hk.1.1.1, ⟨hk.1.1.2, hk.1.2⟩⟩⟩))), (kr (Kd.R_mono HO491.out (fun _ hk => ⟨hk.2, ⟨hk.1.1.1, ⟨hk.1.1.2, hk.1.2⟩⟩⟩))), (kr (Kd.R_mono HO_4.out (fun _ hk => ⟨hk.1.1.2, ⟨hk.1.2, ⟨hk.2, hk.1.1.1⟩⟩⟩))), (kr (Kd.R_mono HO_451000.out (fun _ hk => ⟨hk.1.1.2, ⟨hk.1.2, ⟨hk.2, hk.1.1.1⟩⟩⟩))), (pk BK450.out), (pk BK493.out), GW493.out, GE493.out, NB450_493.out, NB493_450.out, (bl HB.out)⟩)
    rintro ⟨v482, v485, v490, gb493⟩ w29 ⟨hS_, h0_, h1_, h2_, h3_, h4_, h5_, h6_, h7_, h8_, h9_, h10_, h11_⟩
    have HO483 : Aside0 (Kd.R (Kd.int .i64) 2 w29 w.heap.size (fun k_ => some k_ ≠ (v485 : Value).ownBlock ∧ some k_ ≠ (v490 : Value).ownBlock ∧ some k_ ≠ (.slice Ao10 t447.length co10 : Value).ownBlock ∧ some k_ ≠ (.slice Ao8 t442.length co8 : Value).ownBlock) v482 t481) := ⟨h0_⟩
    have HO486 : Aside0 (Kd.R (Kd.int .i64) 2 w29 w.heap.size (fun k_ => some k_ ≠ (v482 : Value).ownBlock ∧ some k_ ≠ (v490 : Value).ownBlock ∧ some k_ ≠ (.slice Ao10 t447.length co10 : Value).ownBlock ∧ some k_ ≠ (.slice Ao8 t442.length co8 : Value).ownBlock) v485 t484) := ⟨h1_⟩
    have HO491 : Aside0 (Kd.R (Kd.int .i64) 2 w29 w.heap.size (fun k_ => some k_ ≠ (v482 : Value).ownBlock ∧ some k_ ≠ (v485 : Value).ownBlock ∧ some k_ ≠ (.slice Ao10 t447.length co10 : Value).ownBlock ∧ some k_ ≠ (.slice Ao8 t442.length co8 : Value).ownBlock) v490 t489) := ⟨h2_⟩
    replace HO_4 : Aside0 (Kd.R (Kd.int .i64) 2 w29 w.heap.size (fun k_ => some k_ ≠ (v482 : Value).ownBlock ∧ some k_ ≠ (v485 : Value).ownBlock ∧ some k_ ≠ (v490 : Value).ownBlock ∧ some k_ ≠ (.slice Ao8 t442.length co8 : Value).ownBlock) (.slice Ao10 t447.length co10) t447) := ⟨h3_⟩
    replace HO_451000 : Aside0 (Kd.R (Kd.int .i64) 2 w29 w.heap.size (fun k_ => some k_ ≠ (v482 : Value).ownBlock ∧ some k_ ≠ (v485 : Value).ownBlock ∧ some k_ ≠ (v490 : Value).ownBlock ∧ some k_ ≠ (.slice Ao10 t447.length co10 : Value).ownBlock) (.slice Ao8 t442.length co8) t442) := ⟨h4_⟩
    replace BK450 : Aside0 (w29.heap[gb450]? = some (.cells #[.slice Ao8 t442.length co8, .int .i64 t445, .int .i64 t446] 25 (0, 0))) := ⟨h5_⟩
    have BK493 : Aside0 (w29.heap[gb493]? = some (.cells #[.slice none 0 0, .int .i64 0, .int .i64 0, .slice none 0 0, .int .i64 0] 29 (0, 0))) := ⟨h6_⟩
    have GW493 : Aside0 (w.heap.size ≤ gb493) := ⟨h7_⟩
    have GE493 : Aside0 (w.heap.size ≤ gb493) := ⟨h8_⟩
    have NB450_493 : Aside0 (gb450 ≠ gb493) := ⟨h9_⟩
    have NB493_450 : Aside0 (gb493 ≠ gb450) := ⟨h10_⟩
    replace HB : Aside0 (Below w.heap.size w w29) := ⟨h11_⟩
    clear h0_ h1_ h2_ h3_ h4_ h5_ h6_ h7_ h8_ h9_ h10_ h11_
    have hHeld : w29.cell? ⟨gb450, 0, none⟩ = some (.slice Ao8 t442.length co8) ∧ w29.cell? ⟨gb450, 1, none⟩ = some (.int .i64 t445) ∧ w29.cell? ⟨gb450, 2, none⟩ = some (.int .i64 t446) := hS_
    obtain ⟨Ao30, co30, eo30⟩ := Kd.R_slice HO486.out
    (first | subst eo30 | (injection eo30 with f1_ f2_ f3_; have f4_ := f1_.symm; have f5_ := f3_.symm; clear f1_ f2_ f3_; subst f4_; subst f5_))
    obtain ⟨Ao34, co34, eo34⟩ := Kd.R_slice HO491.out
    (first | subst eo34 | (injection eo34 with f1_ f2_ f3_; have f4_ := f1_.symm; have f5_ := f3_.symm; clear f1_ f2_ f3_; subst f4_; subst f5_))
    refine norm_ (a' := ?_) ?_ ?_
    rotate_left
    ·simp only [putAll, Act.put, sa_, s0_, ss_]
     rfl
    refine one_ (i := 5) (N := none) #[true, true, true, true, true, true] rfl rfl (by kernel_rfl) (by decide) (fun K hK => ?_)
    have hs31 : w29.cell? ⟨gb493, 0, none⟩ = some (.slice none 0 0) := bc BK493.out 0
    have hfs31 := blk_frozen BK493.out 0
    have hns31_0 := NB450_493.out
    have hms31_0 := NB493_450.out
    have hs32 : w29.cell? ⟨gb493, 1, none⟩ = some (.int .i64 0) := bc BK493.out 1
    have hfs32 := blk_frozen BK493.out 1
    have hns32_0 := NB450_493.out
    have hms32_0 := NB493_450.out
    have hs33 : w29.cell? ⟨gb493, 2, none⟩ = some (.int .i64 0) := bc BK493.out 2
    have hfs33 := blk_frozen BK493.out 2
    have hns33_0 := NB450_493.out
    have hms33_0 := NB493_450.out
    have hs35 : w29.cell? ⟨gb493, 3, none⟩ = some (.slice none 0 0) := bc BK493.out 3
    have hfs35 := blk_frozen BK493.out 3
    have hns35_0 := NB450_493.out
    have hms35_0 := NB493_450.out
    have hs36 : w29.cell? ⟨gb493, 4, none⟩ = some (.int .i64 0) := bc BK493.out 4
    have hfs36 := blk_frozen BK493.out 4
    have hns36_0 := NB450_493.out
    have hms36_0 := NB493_450.out
    refine skip_ (w1 := ?_) (by rfl) rfl ?_ ?_
    rotate_left
    ·go_simp
     rfl
    refine hK.out _ _ ⟨((cell_far (p := ⟨gb493, _, none⟩) NB450_493.out _).trans (((cell_far (p := ⟨gb493, _, none⟩) NB450_493.out _).trans (((cell_far (p := ⟨gb493, _, none⟩) NB450_493.out _).trans (((cell_far (p := ⟨gb493, _, none⟩) NB450_493.out _).trans (((cell_far (p := ⟨gb493, _, none⟩) NB450_493.out _).trans (hHeld.1)))))))))), ((cell_far (p := ⟨gb493, _, none⟩) NB450_493.out _).trans (((cell_far (p := ⟨gb493, _, none⟩) NB450_493.out _).trans (((cell_far (p := ⟨gb493, _, none⟩) NB450_493.out _).trans (((cell_far (p := ⟨gb493, _, none⟩) NB450_493.out _).trans (((cell_far (p := ⟨gb493, _, none⟩) NB450_493.out _).trans (hHeld.2.1)))))))))), ((cell_far (p := ⟨gb493, _, none⟩) NB450_493.out _).trans (((cell_far (p := ⟨gb493, _, none⟩) NB450_493.out _).trans (((cell_far (p := ⟨gb493, _, none⟩) NB450_493.out _).trans (((cell_far (p := ⟨gb493, _, none⟩) NB450_493.out _).trans (((cell_far (p := ⟨gb493, _, none⟩) NB450_493.out _).trans (hHeld.2.2))))))))))⟩ (fun hHeld => ?_)
    clear hK K
    refine done_ (by kernel_rfl) ?_
    go_upto_region 7 with (fail)
    go_cut [60] (fun v60 wc => ∃ (kq : Nat) (x60_22 : Bool), v60 = .bool x60_22 ∧ Aside0 (laws_FnInsert.j1 kq t447 x60_22 t442 t445 t446 t484 t487 t488 t489 t492 = some r) ∧ Aside0 (kq ≤ kj4) ∧ Aside0 (Kd.R (Kd.int .i64) 2 wc w.heap.size (fun k_ => some k_ ≠ ((.slice Ao8 t442.length co8) : Value).ownBlock ∧ some k_ ≠ ((.slice Ao30 t484.length co30) : Value).ownBlock ∧ some k_ ≠ ((.slice Ao34 t489.length co34) : Value).ownBlock) (.slice Ao10 t447.length co10) t447) ∧ Aside0 (Kd.R (Kd.int .i64) 2 wc w.heap.size (fun k_ => some k_ ≠ ((.slice Ao10 t447.length co10) : Value).ownBlock ∧ some k_ ≠ ((.slice Ao30 t484.length co30) : Value).ownBlock ∧ some k_ ≠ ((.slice Ao34 t489.length co34) : Value).ownBlock) (.slice Ao8 t442.length co8) t442) ∧ Aside0 (Kd.R (Kd.int .i64) 2 wc w.heap.size (fun k_ => some k_ ≠ ((.slice Ao10 t447.length co10) : Value).ownBlock ∧ some k_ ≠ ((.slice Ao8 t442.length co8) : Value).ownBlock ∧ some k_ ≠ ((.slice Ao34 t489.length co34) : Value).ownBlock) (.slice Ao30 t484.length co30) t484) ∧ Aside0 (Kd.R (Kd.int .i64) 2 wc w.heap.size (fun k_ => some k_ ≠ ((.slice Ao10 t447.length co10) : Value).ownBlock ∧ some k_ ≠ ((.slice Ao8 t442.length co8) : Value).ownBlock ∧ some k_ ≠ ((.slice Ao30 t484.length co30) : Value).ownBlock) (.slice Ao34 t489.length co34) t489) ∧ Aside0 (wc.heap[gb450]? = some (.cells #[(.slice Ao8 t442.length co8), .int .i64 t445, .int .i64 t446] 25 (0, 0))) ∧ Aside0 (wc.heap[gb493]? = some (.cells #[(.slice Ao30 t484.length co30), .int .i64 t487, .int .i64 t488, (.slice Ao34 t489.length co34), .int .i64 t492] 29 (0, 0))) ∧ Aside0 (Below w.heap.size w wc))
    case first =>
     have H := HC23.out
     clear HC23
     by_cases c37 : t492 = 0
     ·rw [if_pos c37] at H
      have c37b0 : (t492 == 0) = true := beq_iff_eq.mpr c37
      have c37b1 : (t492 != 0) = false := bne_eq_false_iff_eq.mpr c37
      clear c37
      (first | rw [c37b0] | (simp only [i64_w, i32_w]; rw [c37b0]) | (have e9_ := c37b0; unfold bne at e9_; rw [e9_]) | skip)
      by_cases c38 : t487 = (wrap64 (t445 + (t447.length : Int)))
      ·rw [if_pos c38] at H
       have c38b0 : (t487 == (wrap64 (t445 + (t447.length : Int)))) = true := beq_iff_eq.mpr c38
       have c38b1 : (t487 != (wrap64 (t445 + (t447.length : Int)))) = false := bne_eq_false_iff_eq.mpr c38
       clear c38
       have H' := Aside0.mk H
       clear H
       have hnb39 := NB493_450.out
       have hnc39 := NB450_493.out
       have hcz40_0 : w29.cell? ⟨gb493, 0, none⟩ = some (.slice none 0 0) := bc BK493.out 0
       have hcz40_1 : w29.cell? ⟨gb493, 1, none⟩ = some (.int .i64 0) := bc BK493.out 1
       have hcz40_2 : w29.cell? ⟨gb493, 2, none⟩ = some (.int .i64 0) := bc BK493.out 2
       have hcz40_3 : w29.cell? ⟨gb493, 3, none⟩ = some (.slice none 0 0) := bc BK493.out 3
       have hcz40_4 : w29.cell? ⟨gb493, 4, none⟩ = some (.int .i64 0) := bc BK493.out 4
       have hfz40_0 := blk_frozen BK493.out 0
       have hfz40_1 := blk_frozen BK493.out 1
       have hfz40_2 := blk_frozen BK493.out 2
       have hfz40_3 := blk_frozen BK493.out 3
       have hfz40_4 := blk_frozen BK493.out 4
       have hcz41_0 : w29.cell? ⟨gb450, 0, none⟩ = some (.slice Ao8 t442.length co8) := bc BK450.out 0
       have hcz41_1 : w29.cell? ⟨gb450, 1, none⟩ = some (.int .i64 t445) := bc BK450.out 1
       have hcz41_2 : w29.cell? ⟨gb450, 2, none⟩ = some (.int .i64 t446) := bc BK450.out 2
       have hfz41_0 := blk_frozen BK450.out 0
       have hfz41_1 := blk_frozen BK450.out 1
       have hfz41_2 := blk_frozen BK450.out 2
       go_wp2
       go_meet
       case rel => exact ⟨_, (((t484.length : Int) != (wrap64 ((t442.length : Int) + (t447.length : Int))))), (by first | rfl | (simp; done) | (simp [*]; done)), H', ⟨by have := HJ4.out; first | omega | exact Nat.le_refl _⟩, ⟨kr (Kd.R_mono (Kd.R_far (p := ⟨gb493, 4, none⟩) (Kd.R_far (p := ⟨gb493, 3, none⟩) (Kd.R_far (p := ⟨gb493, 2, none⟩) (Kd.R_far (p := ⟨gb493, 1, none⟩) (Kd.R_far (p := ⟨gb493, 0, none⟩) (Kd.R_types HO_4.out BK493.out (by decide)) (fun _ hk => hk.2) (.slice Ao30 t484.length co30)) (fun _ hk => hk.2) (.int .i64 t487)) (fun _ hk => hk.2) (.int .i64 t488)) (fun _ hk => hk.2) (.slice Ao34 t489.length co34)) (fun _ hk => hk.2) (.int .i64 t492)) (fun _ hk => ⟨hk.1.2.2.2, ⟨hk.1.2.1, hk.1.2.2.1⟩⟩))⟩, ⟨kr (Kd.R_mono (Kd.R_far (p := ⟨gb493, 4, none⟩) (Kd.R_far (p := ⟨gb493, 3, none⟩) (Kd.R_far (p := ⟨gb493, 2, none⟩) (Kd.R_far (p := ⟨gb493, 1, none⟩) (Kd.R_far (p := ⟨gb493, 0, none⟩) (Kd.R_types HO_451000.out BK493.out (by decide)) (fun _ hk => hk.2) (.slice Ao30 t484.length co30)) (fun _ hk => hk.2) (.int .i64 t487)) (fun _ hk => hk.2) (.int .i64 t488)) (fun _ hk => hk.2) (.slice Ao34 t489.length co34)) (fun _ hk => hk.2) (.int .i64 t492)) (fun _ hk => ⟨hk.1.2.2.2, ⟨hk.1.2.1, hk.1.2.2.1⟩⟩))⟩, ⟨kr (Kd.R_mono (Kd.R_far (p := ⟨gb493, 4, none⟩) (Kd.R_far (p := ⟨gb493, 3, none⟩) (Kd.R_far (p := ⟨gb493, 2, none⟩) (Kd.R_far (p := ⟨gb493, 1, none⟩) (Kd.R_far (p := ⟨gb493, 0, none⟩) (Kd.R_types HO486.out BK493.out (by decide)) (fun _ hk => hk.2) (.slice Ao30 t484.length co30)) (fun _ hk => hk.2) (.int .i64 t487)) (fun _ hk => hk.2) (.int .i64 t488)) (fun _ hk => hk.2) (.slice Ao34 t489.length co34)) (fun _ hk => hk.2) (.int .i64 t492)) (fun _ hk => ⟨hk.1.2.2.1, ⟨hk.1.2.2.2, hk.1.2.1⟩⟩))⟩, ⟨kr (Kd.R_mono (Kd.R_far (p := ⟨gb493, 4, none⟩) (Kd.R_far (p := ⟨gb493, 3, none⟩) (Kd.R_far (p := ⟨gb493, 2, none⟩) (Kd.R_far (p := ⟨gb493, 1, none⟩) (Kd.R_far (p := ⟨gb493, 0, none⟩) (Kd.R_types HO491.out BK493.out (by decide)) (fun _ hk => hk.2) (.slice Ao30 t484.length co30)) (fun _ hk => hk.2) (.int .i64 t487)) (fun _ hk => hk.2) (.int .i64 t488)) (fun _ hk => hk.2) (.slice Ao34 t489.length co34)) (fun _ hk => hk.2) (.int .i64 t492)) (fun _ hk => ⟨hk.1.2.2.1, ⟨hk.1.2.2.2, hk.1.2.1⟩⟩))⟩, ⟨by (with_reducible repeat (first | refine blk_drewN ?_ _ | refine blk_drew ?_ | refine blk_alloc ?_ _)); refine blk_far ?_ NB450_493.out _; (with_reducible repeat (first | refine blk_drewN ?_ _ | refine blk_drew ?_ | refine blk_alloc ?_ _)); refine blk_far ?_ NB450_493.out _; (with_reducible repeat (first | refine blk_drewN ?_ _ | refine blk_drew ?_ | refine blk_alloc ?_ _)); refine blk_far ?_ NB450_493.out _; (with_reducible repeat (first | refine blk_drewN ?_ _ | refine blk_drew ?_ | refine blk_alloc ?_ _)); refine blk_far ?_ NB450_493.out _; (with_reducible repeat (first | refine blk_drewN ?_ _ | refine blk_drew ?_ | refine blk_alloc ?_ _)); refine blk_far ?_ NB450_493.out _; (with_reducible repeat (first | refine blk_drewN ?_ _ | refine blk_drew ?_ | refine blk_alloc ?_ _)); exact BK450.out⟩, ⟨by (with_reducible repeat (first | refine blk_drewN ?_ _ | refine blk_drew ?_ | refine blk_alloc ?_ _)); refine blk_put (cs := #[.slice Ao30 t484.length co30, .int .i64 t487, .int .i64 t488, .slice Ao34 t489.length co34, .int .i64 0]) ?_ 4 _ rfl; (with_reducible repeat (first | refine blk_drewN ?_ _ | refine blk_drew ?_ | refine blk_alloc ?_ _)); refine blk_put (cs := #[.slice Ao30 t484.length co30, .int .i64 t487, .int .i64 t488, .slice none 0 0, .int .i64 0]) ?_ 3 _ rfl; (with_reducible repeat (first | refine blk_drewN ?_ _ | refine blk_drew ?_ | refine blk_alloc ?_ _)); refine blk_put (cs := #[.slice Ao30 t484.length co30, .int .i64 t487, .int .i64 0, .slice none 0 0, .int .i64 0]) ?_ 2 _ rfl; (with_reducible repeat (first | refine blk_drewN ?_ _ | refine blk_drew ?_ | refine blk_alloc ?_ _)); refine blk_put (cs := #[.slice Ao30 t484.length co30, .int .i64 0, .int .i64 0, .slice none 0 0, .int .i64 0]) ?_ 1 _ rfl; (with_reducible repeat (first | refine blk_drewN ?_ _ | refine blk_drew ?_ | refine blk_alloc ?_ _)); refine blk_put (cs := #[.slice none 0 0, .int .i64 0, .int .i64 0, .slice none 0 0, .int .i64 0]) ?_ 0 _ rfl; (with_reducible repeat (first | refine blk_drewN ?_ _ | refine blk_drew ?_ | refine blk_alloc ?_ _)); exact BK493.out⟩, ⟨by repeat (first | (with_reducible first | exact HB.out | apply below_alloc | apply pw_below_drewN | apply below_drew1 | refine below_set ?_ GE450.out | refine below_set ?_ GE493.out) | exact HB.out)⟩⟩
      ·rw [if_neg c38] at H
       have c38b0 : (t487 == (wrap64 (t445 + (t447.length : Int)))) = false := beq_eq_false_iff_ne.mpr c38
       have c38b1 : (t487 != (wrap64 (t445 + (t447.length : Int)))) = true := bne_iff_ne.mpr c38
       have H' := Aside0.mk H
       clear H
       have hnb42 := NB493_450.out
       have hnc42 := NB450_493.out
       have hcz43_0 : w29.cell? ⟨gb493, 0, none⟩ = some (.slice none 0 0) := bc BK493.out 0
       have hcz43_1 : w29.cell? ⟨gb493, 1, none⟩ = some (.int .i64 0) := bc BK493.out 1
       have hcz43_2 : w29.cell? ⟨gb493, 2, none⟩ = some (.int .i64 0) := bc BK493.out 2
       have hcz43_3 : w29.cell? ⟨gb493, 3, none⟩ = some (.slice none 0 0) := bc BK493.out 3
       have hcz43_4 : w29.cell? ⟨gb493, 4, none⟩ = some (.int .i64 0) := bc BK493.out 4
       have hfz43_0 := blk_frozen BK493.out 0
       have hfz43_1 := blk_frozen BK493.out 1
       have hfz43_2 := blk_frozen BK493.out 2
       have hfz43_3 := blk_frozen BK493.out 3
       have hfz43_4 := blk_frozen BK493.out 4
       have hcz44_0 : w29.cell? ⟨gb450, 0, none⟩ = some (.slice Ao8 t442.length co8) := bc BK450.out 0
       have hcz44_1 : w29.cell? ⟨gb450, 1, none⟩ = some (.int .i64 t445) := bc BK450.out 1
       have hcz44_2 : w29.cell? ⟨gb450, 2, none⟩ = some (.int .i64 t446) := bc BK450.out 2
       have hfz44_0 := blk_frozen BK450.out 0
       have hfz44_1 := blk_frozen BK450.out 1
       have hfz44_2 := blk_frozen BK450.out 2
       go_wp2
       go_meet
       case rel => exact ⟨_, (true), (by first | rfl | (simp; done) | (simp [*]; done)), H', ⟨by have := HJ4.out; first | omega | exact Nat.le_refl _⟩, ⟨kr (Kd.R_mono (Kd.R_far (p := ⟨gb493, 4, none⟩) (Kd.R_far (p := ⟨gb493, 3, none⟩) (Kd.R_far (p := ⟨gb493, 2, none⟩) (Kd.R_far (p := ⟨gb493, 1, none⟩) (Kd.R_far (p := ⟨gb493, 0, none⟩) (Kd.R_types HO_4.out BK493.out (by decide)) (fun _ hk => hk.2) (.slice Ao30 t484.length co30)) (fun _ hk => hk.2) (.int .i64 t487)) (fun _ hk => hk.2) (.int .i64 t488)) (fun _ hk => hk.2) (.slice Ao34 t489.length co34)) (fun _ hk => hk.2) (.int .i64 t492)) (fun _ hk => ⟨hk.1.2.2.2, ⟨hk.1.2.1, hk.1.2.2.1⟩⟩))⟩, ⟨kr (Kd.R_mono (Kd.R_far (p := ⟨gb493, 4, none⟩) (Kd.R_far (p := ⟨gb493, 3, none⟩) (Kd.R_far (p := ⟨gb493, 2, none⟩) (Kd.R_far (p := ⟨gb493, 1, none⟩) (Kd.R_far (p := ⟨gb493, 0, none⟩) (Kd.R_types HO_451000.out BK493.out (by decide)) (fun _ hk => hk.2) (.slice Ao30 t484.length co30)) (fun _ hk => hk.2) (.int .i64 t487)) (fun _ hk => hk.2) (.int .i64 t488)) (fun _ hk => hk.2) (.slice Ao34 t489.length co34)) (fun _ hk => hk.2) (.int .i64 t492)) (fun _ hk => ⟨hk.1.2.2.2, ⟨hk.1.2.1, hk.1.2.2.1⟩⟩))⟩, ⟨kr (Kd.R_mono (Kd.R_far (p := ⟨gb493, 4, none⟩) (Kd.R_far (p := ⟨gb493, 3, none⟩) (Kd.R_far (p := ⟨gb493, 2, none⟩) (Kd.R_far (p := ⟨gb493, 1, none⟩) (Kd.R_far (p := ⟨gb493, 0, none⟩) (Kd.R_types HO486.out BK493.out (by decide)) (fun _ hk => hk.2) (.slice Ao30 t484.length co30)) (fun _ hk => hk.2) (.int .i64 t487)) (fun _ hk => hk.2) (.int .i64 t488)) (fun _ hk => hk.2) (.slice Ao34 t489.length co34)) (fun _ hk => hk.2) (.int .i64 t492)) (fun _ hk => ⟨hk.1.2.2.1, ⟨hk.1.2.2.2, hk.1.2.1⟩⟩))⟩, ⟨kr (Kd.R_mono (Kd.R_far (p := ⟨gb493, 4, none⟩) (Kd.R_far (p := ⟨gb493, 3, none⟩) (Kd.R_far (p := ⟨gb493, 2, none⟩) (Kd.R_far (p := ⟨gb493, 1, none⟩) (Kd.R_far (p := ⟨gb493, 0, none⟩) (Kd.R_types HO491.out BK493.out (by decide)) (fun _ hk => hk.2) (.slice Ao30 t484.length co30)) (fun _ hk => hk.2) (.int .i64 t487)) (fun _ hk => hk.2) (.int .i64 t488)) (fun _ hk => hk.2) (.slice Ao34 t489.length co34)) (fun _ hk => hk.2) (.int .i64 t492)) (fun _ hk => ⟨hk.1.2.2.1, ⟨hk.1.2.2.2, hk.1.2.1⟩⟩))⟩, ⟨by (with_reducible repeat (first | refine blk_drewN ?_ _ | refine blk_drew ?_ | refine blk_alloc ?_ _)); refine blk_far ?_ NB450_493.out _; (with_reducible repeat (first | refine blk_drewN ?_ _ | refine blk_drew ?_ | refine blk_alloc ?_ _)); refine blk_far ?_ NB450_493.out _; (with_reducible repeat (first | refine blk_drewN ?_ _ | refine blk_drew ?_ | refine blk_alloc ?_ _)); refine blk_far ?_ NB450_493.out _; (with_reducible repeat (first | refine blk_drewN ?_ _ | refine blk_drew ?_ | refine blk_alloc ?_ _)); refine blk_far ?_ NB450_493.out _; (with_reducible repeat (first | refine blk_drewN ?_ _ | refine blk_drew ?_ | refine blk_alloc ?_ _)); refine blk_far ?_ NB450_493.out _; (with_reducible repeat (first | refine blk_drewN ?_ _ | refine blk_drew ?_ | refine blk_alloc ?_ _)); exact BK450.out⟩, ⟨by (with_reducible repeat (first | refine blk_drewN ?_ _ | refine blk_drew ?_ | refine blk_alloc ?_ _)); refine blk_put (cs := #[.slice Ao30 t484.length co30, .int .i64 t487, .int .i64 t488, .slice Ao34 t489.length co34, .int .i64 0]) ?_ 4 _ rfl; (with_reducible repeat (first | refine blk_drewN ?_ _ | refine blk_drew ?_ | refine blk_alloc ?_ _)); refine blk_put (cs := #[.slice Ao30 t484.length co30, .int .i64 t487, .int .i64 t488, .slice none 0 0, .int .i64 0]) ?_ 3 _ rfl; (with_reducible repeat (first | refine blk_drewN ?_ _ | refine blk_drew ?_ | refine blk_alloc ?_ _)); refine blk_put (cs := #[.slice Ao30 t484.length co30, .int .i64 t487, .int .i64 0, .slice none 0 0, .int .i64 0]) ?_ 2 _ rfl; (with_reducible repeat (first | refine blk_drewN ?_ _ | refine blk_drew ?_ | refine blk_alloc ?_ _)); refine blk_put (cs := #[.slice Ao30 t484.length co30, .int .i64 0, .int .i64 0, .slice none 0 0, .int .i64 0]) ?_ 1 _ rfl; (with_reducible repeat (first | refine blk_drewN ?_ _ | refine blk_drew ?_ | refine blk_alloc ?_ _)); refine blk_put (cs := #[.slice none 0 0, .int .i64 0, .int .i64 0, .slice none 0 0, .int .i64 0]) ?_ 0 _ rfl; (with_reducible repeat (first | refine blk_drewN ?_ _ | refine blk_drew ?_ | refine blk_alloc ?_ _)); exact BK493.out⟩, ⟨by repeat (first | (with_reducible first | exact HB.out | apply below_alloc | apply pw_below_drewN | apply below_drew1 | refine below_set ?_ GE450.out | refine below_set ?_ GE493.out) | exact HB.out)⟩⟩
     ·rw [if_neg c37] at H
      have c37b0 : (t492 == 0) = false := beq_eq_false_iff_ne.mpr c37
      have c37b1 : (t492 != 0) = true := bne_iff_ne.mpr c37
      (first | rw [c37b0] | (simp only [i64_w, i32_w]; rw [c37b0]) | (have e9_ := c37b0; unfold bne at e9_; rw [e9_]) | skip)
      have H' := Aside0.mk H
      clear H
      have hnb45 := NB493_450.out
      have hnc45 := NB450_493.out
      have hcz46_0 : w29.cell? ⟨gb493, 0, none⟩ = some (.slice none 0 0) := bc BK493.out 0
      have hcz46_1 : w29.cell? ⟨gb493, 1, none⟩ = some (.int .i64 0) := bc BK493.out 1
      have hcz46_2 : w29.cell? ⟨gb493, 2, none⟩ = some (.int .i64 0) := bc BK493.out 2
      have hcz46_3 : w29.cell? ⟨gb493, 3, none⟩ = some (.slice none 0 0) := bc BK493.out 3
      have hcz46_4 : w29.cell? ⟨gb493, 4, none⟩ = some (.int .i64 0) := bc BK493.out 4
      have hfz46_0 := blk_frozen BK493.out 0
      have hfz46_1 := blk_frozen BK493.out 1
      have hfz46_2 := blk_frozen BK493.out 2
      have hfz46_3 := blk_frozen BK493.out 3
      have hfz46_4 := blk_frozen BK493.out 4
      go_wp2
      go_meet
      case rel => exact ⟨_, (true), (by first | rfl | (simp; done) | (simp [*]; done)), H', ⟨by have := HJ4.out; first | omega | exact Nat.le_refl _⟩, ⟨kr (Kd.R_mono (Kd.R_far (p := ⟨gb493, 4, none⟩) (Kd.R_far (p := ⟨gb493, 3, none⟩) (Kd.R_far (p := ⟨gb493, 2, none⟩) (Kd.R_far (p := ⟨gb493, 1, none⟩) (Kd.R_far (p := ⟨gb493, 0, none⟩) (Kd.R_types HO_4.out BK493.out (by decide)) (fun _ hk => hk.2) (.slice Ao30 t484.length co30)) (fun _ hk => hk.2) (.int .i64 t487)) (fun _ hk => hk.2) (.int .i64 t488)) (fun _ hk => hk.2) (.slice Ao34 t489.length co34)) (fun _ hk => hk.2) (.int .i64 t492)) (fun _ hk => ⟨hk.1.2.2.2, ⟨hk.1.2.1, hk.1.2.2.1⟩⟩))⟩, ⟨kr (Kd.R_mono (Kd.R_far (p := ⟨gb493, 4, none⟩) (Kd.R_far (p := ⟨gb493, 3, none⟩) (Kd.R_far (p := ⟨gb493, 2, none⟩) (Kd.R_far (p := ⟨gb493, 1, none⟩) (Kd.R_far (p := ⟨gb493, 0, none⟩) (Kd.R_types HO_451000.out BK493.out (by decide)) (fun _ hk => hk.2) (.slice Ao30 t484.length co30)) (fun _ hk => hk.2) (.int .i64 t487)) (fun _ hk => hk.2) (.int .i64 t488)) (fun _ hk => hk.2) (.slice Ao34 t489.length co34)) (fun _ hk => hk.2) (.int .i64 t492)) (fun _ hk => ⟨hk.1.2.2.2, ⟨hk.1.2.1, hk.1.2.2.1⟩⟩))⟩, ⟨kr (Kd.R_mono (Kd.R_far (p := ⟨gb493, 4, none⟩) (Kd.R_far (p := ⟨gb493, 3, none⟩) (Kd.R_far (p := ⟨gb493, 2, none⟩) (Kd.R_far (p := ⟨gb493, 1, none⟩) (Kd.R_far (p := ⟨gb493, 0, none⟩) (Kd.R_types HO486.out BK493.out (by decide)) (fun _ hk => hk.2) (.slice Ao30 t484.length co30)) (fun _ hk => hk.2) (.int .i64 t487)) (fun _ hk => hk.2) (.int .i64 t488)) (fun _ hk => hk.2) (.slice Ao34 t489.length co34)) (fun _ hk => hk.2) (.int .i64 t492)) (fun _ hk => ⟨hk.1.2.2.1, ⟨hk.1.2.2.2, hk.1.2.1⟩⟩))⟩, ⟨kr (Kd.R_mono (Kd.R_far (p := ⟨gb493, 4, none⟩) (Kd.R_far (p := ⟨gb493, 3, none⟩) (Kd.R_far (p := ⟨gb493, 2, none⟩) (Kd.R_far (p := ⟨gb493, 1, none⟩) (Kd.R_far (p := ⟨gb493, 0, none⟩) (Kd.R_types HO491.out BK493.out (by decide)) (fun _ hk => hk.2) (.slice Ao30 t484.length co30)) (fun _ hk => hk.2) (.int .i64 t487)) (fun _ hk => hk.2) (.int .i64 t488)) (fun _ hk => hk.2) (.slice Ao34 t489.length co34)) (fun _ hk => hk.2) (.int .i64 t492)) (fun _ hk => ⟨hk.1.2.2.1, ⟨hk.1.2.2.2, hk.1.2.1⟩⟩))⟩, ⟨by (with_reducible repeat (first | refine blk_drewN ?_ _ | refine blk_drew ?_ | refine blk_alloc ?_ _)); refine blk_far ?_ NB450_493.out _; (with_reducible repeat (first | refine blk_drewN ?_ _ | refine blk_drew ?_ | refine blk_alloc ?_ _)); refine blk_far ?_ NB450_493.out _; (with_reducible repeat (first | refine blk_drewN ?_ _ | refine blk_drew ?_ | refine blk_alloc ?_ _)); refine blk_far ?_ NB450_493.out _; (with_reducible repeat (first | refine blk_drewN ?_ _ | refine blk_drew ?_ | refine blk_alloc ?_ _)); refine blk_far ?_ NB450_493.out _; (with_reducible repeat (first | refine blk_drewN ?_ _ | refine blk_drew ?_ | refine blk_alloc ?_ _)); refine blk_far ?_ NB450_493.out _; (with_reducible repeat (first | refine blk_drewN ?_ _ | refine blk_drew ?_ | refine blk_alloc ?_ _)); exact BK450.out⟩, ⟨by (with_reducible repeat (first | refine blk_drewN ?_ _ | refine blk_drew ?_ | refine blk_alloc ?_ _)); refine blk_put (cs := #[.slice Ao30 t484.length co30, .int .i64 t487, .int .i64 t488, .slice Ao34 t489.length co34, .int .i64 0]) ?_ 4 _ rfl; (with_reducible repeat (first | refine blk_drewN ?_ _ | refine blk_drew ?_ | refine blk_alloc ?_ _)); refine blk_put (cs := #[.slice Ao30 t484.length co30, .int .i64 t487, .int .i64 t488, .slice none 0 0, .int .i64 0]) ?_ 3 _ rfl; (with_reducible repeat (first | refine blk_drewN ?_ _ | refine blk_drew ?_ | refine blk_alloc ?_ _)); refine blk_put (cs := #[.slice Ao30 t484.length co30, .int .i64 t487, .int .i64 0, .slice none 0 0, .int .i64 0]) ?_ 2 _ rfl; (with_reducible repeat (first | refine blk_drewN ?_ _ | refine blk_drew ?_ | refine blk_alloc ?_ _)); refine blk_put (cs := #[.slice Ao30 t484.length co30, .int .i64 0, .int .i64 0, .slice none 0 0, .int .i64 0]) ?_ 1 _ rfl; (with_reducible repeat (first | refine blk_drewN ?_ _ | refine blk_drew ?_ | refine blk_alloc ?_ _)); refine blk_put (cs := #[.slice none 0 0, .int .i64 0, .int .i64 0, .slice none 0 0, .int .i64 0]) ?_ 0 _ rfl; (with_reducible repeat (first | refine blk_drewN ?_ _ | refine blk_drew ?_ | refine blk_alloc ?_ _)); exact BK493.out⟩, ⟨by repeat (first | (with_reducible first | exact HB.out | apply below_alloc | apply pw_below_drewN | apply below_drew1 | refine below_set ?_ GE450.out | refine below_set ?_ GE493.out) | exact HB.out)⟩⟩
    case rest =>
     clear HC23
     try clear c1
     try clear c2
     try clear c2b0
     try clear c2b1
     try clear p2
     try clear c3
     try clear c4
     try clear c5
     try clear c6
     try clear p6
     try clear c7
     try clear c8
     try clear c12
     try clear c12b0
     try clear c12b1
     try clear c37
     try clear c37b0
     try clear c37b1
     try clear c38
     try clear c38b0
     try clear c38b1
     try clear c39
     try clear c42
     try clear c45
     try clear hcz40_0
     try clear hcz40_1
     try clear hcz40_2
     try clear hcz40_3
     try clear hcz40_4
     try clear hcz41_0
     try clear hcz41_1
     try clear hcz41_2
     try clear hcz43_0
     try clear hcz43_1
     try clear hcz43_2
     try clear hcz43_3
     try clear hcz43_4
     try clear hcz44_0
     try clear hcz44_1
     try clear hcz44_2
     try clear hcz46_0
     try clear hcz46_1
     try clear hcz46_2
     try clear hcz46_3
     try clear hcz46_4
     try clear hcz9_0
     try clear hcz9_1
     try clear hcz9_2
     try clear hfz40_0
     try clear hfz40_1
     try clear hfz40_2
     try clear hfz40_3
     try clear hfz40_4
     try clear hfz41_0
     try clear hfz41_1
     try clear hfz41_2
     try clear hfz43_0
     try clear hfz43_1
     try clear hfz43_2
     try clear hfz43_3
     try clear hfz43_4
     try clear hfz44_0
     try clear hfz44_1
     try clear hfz44_2
     try clear hfz46_0
     try clear hfz46_1
     try clear hfz46_2
     try clear hfz46_3
     try clear hfz46_4
     try clear hfz9_0
     try clear hfz9_1
     try clear hfz9_2
     try clear p2
     obtain ⟨kq, x60_22, rfl, HA, HJ22, HO_4, HO_451000, HO_494000, HO_494003, BK450, BK493, HB⟩ := hcut
     cases kq with
     | zero => exact absurd HA.out (by simp [laws_FnInsert.j1])
     | succ kj22 =>
      have H := HA.out
      clear HA
      simp only [laws_FnInsert.j1] at H
      have HC47 := Aside0.mk H
      clear H
      go_upto_if 60 with (fail)
      go_cut [] (fun wc => ∃ (kq : Nat), Aside0 (laws_FnInsert.j2 kq t447 t442 t445 t446 t484 t487 t488 t489 t492 = some r) ∧ Aside0 (kq ≤ kj22) ∧ Aside0 (Kd.R (Kd.int .i64) 2 wc w.heap.size (fun k_ => some k_ ≠ ((.slice Ao8 t442.length co8) : Value).ownBlock ∧ some k_ ≠ ((.slice Ao30 t484.length co30) : Value).ownBlock ∧ some k_ ≠ ((.slice Ao34 t489.length co34) : Value).ownBlock) (.slice Ao10 t447.length co10) t447) ∧ Aside0 (Kd.R (Kd.int .i64) 2 wc w.heap.size (fun k_ => some k_ ≠ ((.slice Ao10 t447.length co10) : Value).ownBlock ∧ some k_ ≠ ((.slice Ao30 t484.length co30) : Value).ownBlock ∧ some k_ ≠ ((.slice Ao34 t489.length co34) : Value).ownBlock) (.slice Ao8 t442.length co8) t442) ∧ Aside0 (Kd.R (Kd.int .i64) 2 wc w.heap.size (fun k_ => some k_ ≠ ((.slice Ao10 t447.length co10) : Value).ownBlock ∧ some k_ ≠ ((.slice Ao8 t442.length co8) : Value).ownBlock ∧ some k_ ≠ ((.slice Ao34 t489.length co34) : Value).ownBlock) (.slice Ao30 t484.length co30) t484) ∧ Aside0 (Kd.R (Kd.int .i64) 2 wc w.heap.size (fun k_ => some k_ ≠ ((.slice Ao10 t447.length co10) : Value).ownBlock ∧ some k_ ≠ ((.slice Ao8 t442.length co8) : Value).ownBlock ∧ some k_ ≠ ((.slice Ao30 t484.length co30) : Value).ownBlock) (.slice Ao34 t489.length co34) t489) ∧ Aside0 (wc.heap[gb450]? = some (.cells #[(.slice Ao8 t442.length co8), .int .i64 t445, .int .i64 t446] 25 (0, 0))) ∧ Aside0 (wc.heap[gb493]? = some (.cells #[(.slice Ao30 t484.length co30), .int .i64 t487, .int .i64 t488, (.slice Ao34 t489.length co34), .int .i64 t492] 29 (0, 0))) ∧ Aside0 (Below w.heap.size w wc))
      case first =>
       have H := HC47.out
       clear HC47
       by_cases c48 : x60_22 = true
       ·subst c48
        have H1 : (some false) = some r := by rw [if_pos rfl] at H; exact H
        clear H
        have H := H1
        clear H1
        obtain rfl := Option.some.inj H
        go_wp2
        go_ret
        exact ⟨by first | rfl | (simp [errW_none, errW_some] <;> rfl) | (simp [*, errW_none, errW_some] <;> rfl), by repeat (first | (with_reducible first | exact HB.out | apply below_alloc | apply pw_below_drewN | apply below_drew1 | refine below_set ?_ GE450.out | refine below_set ?_ GE493.out) | exact HB.out)⟩
       ·replace c48 := Bool.eq_false_iff.mpr c48
        subst c48
        have H1 : (laws_FnInsert.j2 kj22 t447 t442 t445 t446 t484 t487 t488 t489 t492) = some r := by rw [if_neg (show ¬ (false = true) by decide)] at H; exact H
        clear H
        have H := H1
        clear H1
        have H' := Aside0.mk H
        clear H
        go_wp2
        go_meet
        case rel => exact ⟨_, H', ⟨by have := HJ4.out; have := HJ22.out; first | omega | exact Nat.le_refl _⟩, ⟨kr HO_4.out⟩, ⟨kr HO_451000.out⟩, ⟨kr HO_494000.out⟩, ⟨kr HO_494003.out⟩, ⟨pk BK450.out⟩, ⟨pk BK493.out⟩, ⟨by repeat (first | (with_reducible first | exact HB.out | apply below_alloc | apply pw_below_drewN | apply below_drew1 | refine below_set ?_ GE450.out | refine below_set ?_ GE493.out) | exact HB.out)⟩⟩
      case rest =>
       clear HC47
       try clear c1
       try clear c2
       try clear c2b0
       try clear c2b1
       try clear p2
       try clear c3
       try clear c4
       try clear c5
       try clear c6
       try clear p6
       try clear c7
       try clear c8
       try clear c12
       try clear c12b0
       try clear c12b1
       try clear c37
       try clear c37b0
       try clear c37b1
       try clear c38
       try clear c38b0
       try clear c38b1
       try clear c39
       try clear c42
       try clear c45
       try clear c48
       try clear hcz40_0
       try clear hcz40_1
       try clear hcz40_2
       try clear hcz40_3
       try clear hcz40_4
       try clear hcz41_0
       try clear hcz41_1
       try clear hcz41_2
       try clear hcz43_0
       try clear hcz43_1
       try clear hcz43_2
       try clear hcz43_3
       try clear hcz43_4
       try clear hcz44_0
       try clear hcz44_1
       try clear hcz44_2
       try clear hcz46_0
       try clear hcz46_1
       try clear hcz46_2
       try clear hcz46_3
       try clear hcz46_4
       try clear hcz9_0
       try clear hcz9_1
       try clear hcz9_2
       try clear hfz40_0
       try clear hfz40_1
       try clear hfz40_2
       try clear hfz40_3
       try clear hfz40_4
       try clear hfz41_0
       try clear hfz41_1
       try clear hfz41_2
       try clear hfz43_0
       try clear hfz43_1
       try clear hfz43_2
       try clear hfz43_3
       try clear hfz43_4
       try clear hfz44_0
       try clear hfz44_1
       try clear hfz44_2
       try clear hfz46_0
       try clear hfz46_1
       try clear hfz46_2
       try clear hfz46_3
       try clear hfz46_4
       try clear hfz9_0
       try clear hfz9_1
       try clear hfz9_2
       try clear p2
       try clear p6
       obtain ⟨kq, HA, HJ46, HO_4, HO_451000, HO_494000, HO_494003, BK450, BK493, HB⟩ := hcut
       cases kq with
       | zero => exact absurd HA.out (by simp [laws_FnInsert.j2])
       | succ kj46 =>
        have H := HA.out
        clear HA
        simp only [laws_FnInsert.j2] at H
        replace H := Option.bind_eq_some_iff.mp H
        obtain ⟨⟨t494, t497, t498, t499, t502⟩, A490, H⟩ := H
        replace H : (if t502 = 0 then ((laws_lwSame.f kj46 t499 t447).bind fun t504 => (if t504 = true then ((laws_lwSame.f kj46 t494 t442).bind fun t505 => (if t505 = true then (laws_FnInsert.j3 kj46 (t497 != t445) t442 t445 t446 t494 t497 t498 t499 t502) else (laws_FnInsert.j3 kj46 true t442 t445 t446 t494 t497 t498 t499 t502))) else (laws_FnInsert.j3 kj46 true t442 t445 t446 t494 t497 t498 t499 t502))) else (laws_FnInsert.j3 kj46 true t442 t445 t446 t494 t497 t498 t499 t502)) = some r := H
        have A49 := Aside0.mk A490
        clear A490
        have HC50 := Aside0.mk H
        clear H
        have hnb51 := NB493_450.out
        have hnc51 := NB450_493.out
        have hcz52_0 : wc.cell? ⟨gb493, 0, none⟩ = some (.slice Ao30 t484.length co30) := bc BK493.out 0
        have hcz52_1 : wc.cell? ⟨gb493, 1, none⟩ = some (.int .i64 t487) := bc BK493.out 1
        have hcz52_2 : wc.cell? ⟨gb493, 2, none⟩ = some (.int .i64 t488) := bc BK493.out 2
        have hcz52_3 : wc.cell? ⟨gb493, 3, none⟩ = some (.slice Ao34 t489.length co34) := bc BK493.out 3
        have hcz52_4 : wc.cell? ⟨gb493, 4, none⟩ = some (.int .i64 t492) := bc BK493.out 4
        have hfz52_0 := blk_frozen BK493.out 0
        have hfz52_1 := blk_frozen BK493.out 1
        have hfz52_2 := blk_frozen BK493.out 2
        have hfz52_3 := blk_frozen BK493.out 3
        have hfz52_4 := blk_frozen BK493.out 4
        have hcz53_0 : wc.cell? ⟨gb450, 0, none⟩ = some (.slice Ao8 t442.length co8) := bc BK450.out 0
        have hcz53_1 : wc.cell? ⟨gb450, 1, none⟩ = some (.int .i64 t445) := bc BK450.out 1
        have hcz53_2 : wc.cell? ⟨gb450, 2, none⟩ = some (.int .i64 t446) := bc BK450.out 2
        have hfz53_0 := blk_frozen BK450.out 0
        have hfz53_1 := blk_frozen BK450.out 1
        have hfz53_2 := blk_frozen BK450.out 2
        go_upto_region 10 with (first | ((with_reducible refine gate_callee (f := 9) rfl ?_); refine gl (some 68) Try.func9 #[.agg #[.slice Ao30 t484.length co30, .int .i64 t487, .int .i64 t488], .int .i64 t445, .int .i64 t487] ?_; (with_reducible refine (impl_BufDelete.calls kj46 _ _ t484 t487 t488 t445 t487 t494 t497 t498 t499 t502 _ ?side1 ?side2 A49.out).mono ?_); (case side1 => repeat (first | exact (Kd.R_reads' HO_494000.out).2.2 | (with_reducible refine Kd.C_alloc ?_ _) | (with_reducible refine Kd.C_drewN ?_ _) | (with_reducible refine Kd.C_drew ?_))); (case side2 => exact (Kd.R_reads' HO_494000.out).2.1); rintro e w54 ⟨v495, v500, rfl, ho0, ho1, hb⟩; refine ⟨_, rfl, ?_⟩; have HO496 := am (Kd.R_lower (Kd.R_new' (Kd.R_new' (Kd.R_new' (Kd.R_new' ho0 (Kd.R_lt (kr HO_4.out))) (Kd.R_lt (kr HO_451000.out))) (Kd.R_lt (kr HO_494000.out))) (Kd.R_lt (kr HO_494003.out))) (below_size (bl HB.out))); have HO501 := am (Kd.R_lower (Kd.R_new' (Kd.R_new' (Kd.R_new' (Kd.R_new' ho1 (Kd.R_lt (kr HO_4.out))) (Kd.R_lt (kr HO_451000.out))) (Kd.R_lt (kr HO_494000.out))) (Kd.R_lt (kr HO_494003.out))) (below_size (bl HB.out))); replace HO_4 := am (Kd.R_mono (Kd.R_told (Kd.R_told (Kd.R_old (kr HO_4.out) hb) (Kd.R_base ho0)) (Kd.R_base ho1)) (fun _ h_ => h_.1)); replace HO_451000 := am (Kd.R_mono (Kd.R_told (Kd.R_told (Kd.R_old (kr HO_451000.out) hb) (Kd.R_base ho0)) (Kd.R_base ho1)) (fun _ h_ => h_.1)); replace HO_494000 := am (Kd.R_mono (Kd.R_told (Kd.R_told (Kd.R_old (kr HO_494000.out) hb) (Kd.R_base ho0)) (Kd.R_base ho1)) (fun _ h_ => h_.1)); replace HO_494003 := am (Kd.R_mono (Kd.R_told (Kd.R_told (Kd.R_old (kr HO_494003.out) hb) (Kd.R_base ho0)) (Kd.R_base ho1)) (fun _ h_ => h_.1)); replace BK450 := am (blk_below (pk BK450.out) hb); replace BK493 := am (blk_below (pk BK493.out) hb); replace HB := am (below_step (bl HB.out) hb); (try clear hb); (try clear hb2); (try clear hk); (try clear hi); (try clear ho0); (try clear ho1)) | ((with_reducible refine gate_dst (N := 6) rfl ?_); (try (refine gate_guard (by rfl) ?_; dsimp only)); refine box_event ?hg (N := 6) ?hd (cs := #[.slice none 0 0, .int .i64 0, .int .i64 0, .slice none 0 0, .int .i64 0]) (t := 29) ?hr ?_; (case hd => rfl); (case hg => rfl); (case hr => first | (go_simp; done) | (go_simp; rfl)); intro gb503 hg w55 hbox hb; replace HO_4 := am (Kd.R_below (kr HO_4.out) hb); replace HO_451000 := am (Kd.R_below (kr HO_451000.out) hb); replace HO_494000 := am (Kd.R_below (kr HO_494000.out) hb); replace HO_494003 := am (Kd.R_below (kr HO_494003.out) hb); replace HO496 := am (Kd.R_below (kr HO496.out) hb); replace HO501 := am (Kd.R_below (kr HO501.out) hb); have BK503 := am (hbox); have GW503 := am ((by rw [hg]; exact (below_size (bl HB.out)) : w.heap.size ≤ gb503)); have GE503 := GW503; replace HB := am (below_step (bl HB.out) hb); have NB450_503 := am ((by rw [hg]; exact Nat.ne_of_lt (blk_lt (pk BK450.out)) : gb450 ≠ gb503)); have NB503_450 := am ((by rw [hg]; exact Nat.ne_of_gt (blk_lt (pk BK450.out)) : gb503 ≠ gb450)); replace BK450 := am (blk_below (pk BK450.out) hb); have NB493_503 := am ((by rw [hg]; exact Nat.ne_of_lt (blk_lt (pk BK493.out)) : gb493 ≠ gb503)); have NB503_493 := am ((by rw [hg]; exact Nat.ne_of_gt (blk_lt (pk BK493.out)) : gb503 ≠ gb493)); replace BK493 := am (blk_below (pk BK493.out) hb); clear hb hbox hg; obtain ⟨Ao56, co56, eo56⟩ := Kd.R_slice HO496.out; subst eo56; have hnb57 := NB503_450.out; have hnc57 := NB450_503.out; have hnb58 := NB503_493.out; have hnc58 := NB493_503.out; have hcz59_0 : w55.cell? ⟨gb503, 0, none⟩ = some (.slice none 0 0) := bc BK503.out 0; have hcz59_1 : w55.cell? ⟨gb503, 1, none⟩ = some (.int .i64 0) := bc BK503.out 1; have hcz59_2 : w55.cell? ⟨gb503, 2, none⟩ = some (.int .i64 0) := bc BK503.out 2; have hcz59_3 : w55.cell? ⟨gb503, 3, none⟩ = some (.slice none 0 0) := bc BK503.out 3; have hcz59_4 : w55.cell? ⟨gb503, 4, none⟩ = some (.int .i64 0) := bc BK503.out 4; have hfz59_0 := blk_frozen BK503.out 0; have hfz59_1 := blk_frozen BK503.out 1; have hfz59_2 := blk_frozen BK503.out 2; have hfz59_3 := blk_frozen BK503.out 3; have hfz59_4 := blk_frozen BK503.out 4; obtain ⟨Ao60, co60, eo60⟩ := Kd.R_slice HO501.out; subst eo60))
        (try simp only [Act.put, sa_, s0_, ss_])
        go_cut [95] (fun v95 wc => ∃ (kq : Nat) (x95_49 : Bool), v95 = .bool x95_49 ∧ Aside0 (laws_FnInsert.j3 kq x95_49 t442 t445 t446 t494 t497 t498 t499 t502 = some r) ∧ Aside0 (kq ≤ kj46) ∧ Aside0 (Kd.R (Kd.int .i64) 2 wc w.heap.size (fun k_ => some k_ ≠ ((.slice Ao30 t484.length co30) : Value).ownBlock ∧ some k_ ≠ ((.slice Ao34 t489.length co34) : Value).ownBlock ∧ some k_ ≠ ((.slice Ao56 t494.length co56) : Value).ownBlock ∧ some k_ ≠ ((.slice Ao60 t499.length co60) : Value).ownBlock) (.slice Ao8 t442.length co8) t442) ∧ Aside0 (Kd.R (Kd.int .i64) 2 wc w.heap.size (fun k_ => some k_ ≠ ((.slice Ao8 t442.length co8) : Value).ownBlock ∧ some k_ ≠ ((.slice Ao34 t489.length co34) : Value).ownBlock ∧ some k_ ≠ ((.slice Ao56 t494.length co56) : Value).ownBlock ∧ some k_ ≠ ((.slice Ao60 t499.length co60) : Value).ownBlock) (.slice Ao30 t484.length co30) t484) ∧ Aside0 (Kd.R (Kd.int .i64) 2 wc w.heap.size (fun k_ => some k_ ≠ ((.slice Ao8 t442.length co8) : Value).ownBlock ∧ some k_ ≠ ((.slice Ao30 t484.length co30) : Value).ownBlock ∧ some k_ ≠ ((.slice Ao56 t494.length co56) : Value).ownBlock ∧ some k_ ≠ ((.slice Ao60 t499.length co60) : Value).ownBlock) (.slice Ao34 t489.length co34) t489) ∧ Aside0 (Kd.R (Kd.int .i64) 2 wc w.heap.size (fun k_ => some k_ ≠ ((.slice Ao8 t442.length co8) : Value).ownBlock ∧ some k_ ≠ ((.slice Ao30 t484.length co30) : Value).ownBlock ∧ some k_ ≠ ((.slice Ao34 t489.length co34) : Value).ownBlock ∧ some k_ ≠ ((.slice Ao60 t499.length co60) : Value).ownBlock) (.slice Ao56 t494.length co56) t494) ∧ Aside0 (Kd.R (Kd.int .i64) 2 wc w.heap.size (fun k_ => some k_ ≠ ((.slice Ao8 t442.length co8) : Value).ownBlock ∧ some k_ ≠ ((.slice Ao30 t484.length co30) : Value).ownBlock ∧ some k_ ≠ ((.slice Ao34 t489.length co34) : Value).ownBlock ∧ some k_ ≠ ((.slice Ao56 t494.length co56) : Value).ownBlock) (.slice Ao60 t499.length co60) t499) ∧ Aside0 (wc.heap[gb450]? = some (.cells #[(.slice Ao8 t442.length co8), .int .i64 t445, .int .i64 t446] 25 (0, 0))) ∧ Aside0 (wc.heap[gb493]? = some (.cells #[(.slice Ao30 t484.length co30), .int .i64 t487, .int .i64 t488, (.slice Ao34 t489.length co34), .int .i64 t492] 29 (0, 0))) ∧ Aside0 (wc.heap[gb503]? = some (.cells #[(.slice Ao56 t494.length co56), .int .i64 t497, .int .i64 t498, (.slice Ao60 t499.length co60), .int .i64 t502] 29 (0, 0))) ∧ Aside0 (Below w.heap.size w wc))
        case first =>
         have H := HC50.out
         clear HC50
         by_cases c61 : t502 = 0
         ·rw [if_pos c61] at H
          have c61b0 : (t502 == 0) = true := beq_iff_eq.mpr c61
          have c61b1 : (t502 != 0) = false := bne_eq_false_iff_eq.mpr c61
          clear c61
          (first | rw [c61b0] | (simp only [i64_w, i32_w]; rw [c61b0]) | (have e9_ := c61b0; unfold bne at e9_; rw [e9_]) | skip)
          replace H := Option.bind_eq_some_iff.mp H
          obtain ⟨t504, A620, H⟩ := H
          replace H : (if t504 = true then ((laws_lwSame.f kj46 t494 t442).bind fun t505 => (if t505 = true then (laws_FnInsert.j3 kj46 (t497 != t445) t442 t445 t446 t494 t497 t498 t499 t502) else (laws_FnInsert.j3 kj46 true t442 t445 t446 t494 t497 t498 t499 t502))) else (laws_FnInsert.j3 kj46 true t442 t445 t446 t494 t497 t498 t499 t502)) = some r := H
          have A62 := Aside0.mk A620
          clear A620
          by_cases c63 : t504 = true
          ·subst c63
           have H1 : ((laws_lwSame.f kj46 t494 t442).bind fun t505 => (if t505 = true then (laws_FnInsert.j3 kj46 (t497 != t445) t442 t445 t446 t494 t497 t498 t499 t502) else (laws_FnInsert.j3 kj46 true t442 t445 t446 t494 t497 t498 t499 t502))) = some r := by rw [if_pos rfl] at H; exact H
           clear H
           have H := H1
           clear H1
           replace H := Option.bind_eq_some_iff.mp H
           obtain ⟨t505, A640, H⟩ := H
           replace H : (if t505 = true then (laws_FnInsert.j3 kj46 (t497 != t445) t442 t445 t446 t494 t497 t498 t499 t502) else (laws_FnInsert.j3 kj46 true t442 t445 t446 t494 t497 t498 t499 t502)) = some r := H
           have A64 := Aside0.mk A640
           clear A640
           by_cases c65 : t505 = true
           ·subst c65
            have H1 : (laws_FnInsert.j3 kj46 (t497 != t445) t442 t445 t446 t494 t497 t498 t499 t502) = some r := by rw [if_pos rfl] at H; exact H
            clear H
            have H := H1
            clear H1
            have H' := Aside0.mk H
            clear H
            have hnb66 := NB503_450.out
            have hnc66 := NB450_503.out
            have hnb67 := NB503_493.out
            have hnc67 := NB493_503.out
            have hcz68_0 : w55.cell? ⟨gb503, 0, none⟩ = some (.slice none 0 0) := bc BK503.out 0
            have hcz68_1 : w55.cell? ⟨gb503, 1, none⟩ = some (.int .i64 0) := bc BK503.out 1
            have hcz68_2 : w55.cell? ⟨gb503, 2, none⟩ = some (.int .i64 0) := bc BK503.out 2
            have hcz68_3 : w55.cell? ⟨gb503, 3, none⟩ = some (.slice none 0 0) := bc BK503.out 3
            have hcz68_4 : w55.cell? ⟨gb503, 4, none⟩ = some (.int .i64 0) := bc BK503.out 4
            have hfz68_0 := blk_frozen BK503.out 0
            have hfz68_1 := blk_frozen BK503.out 1
            have hfz68_2 := blk_frozen BK503.out 2
            have hfz68_3 := blk_frozen BK503.out 3
            have hfz68_4 := blk_frozen BK503.out 4
            go_wp2_with (first | (go_at_call 10; (with_reducible refine (laws_lwSame.calls kj46 _ _ t499 _ _ t447 true _ ?side1 ?side2 ?side3 ?side4 A62.out).mono ?_); (case side1 => refine (Kd.R_reads' (e := 2) (base := w.heap.size) (ok := fun k_ => ((((some k_ ≠ (.slice Ao56 t494.length co56 : Value).ownBlock ∧ some k_ ≠ (.slice Ao10 t447.length co10 : Value).ownBlock) ∧ some k_ ≠ (.slice Ao8 t442.length co8 : Value).ownBlock) ∧ some k_ ≠ (.slice Ao30 t484.length co30 : Value).ownBlock) ∧ some k_ ≠ (.slice Ao34 t489.length co34 : Value).ownBlock)) (n := t499.length) (c := co60) ?_).2.2; exact (kr ((Kd.R_mono (Kd.R_far (p := ⟨gb503, 4, none⟩) (Kd.R_far (p := ⟨gb503, 3, none⟩) (Kd.R_far (p := ⟨gb503, 2, none⟩) (Kd.R_far (p := ⟨gb503, 1, none⟩) (Kd.R_far (p := ⟨gb503, 0, none⟩) (Kd.R_types HO501.out BK503.out (by decide)) (fun _ hk => hk.2) (.slice Ao56 t494.length co56)) (fun _ hk => hk.2) (.int .i64 t497)) (fun _ hk => hk.2) (.int .i64 t498)) (fun _ hk => hk.2) (.slice Ao60 t499.length co60)) (fun _ hk => hk.2) (.int .i64 t502)) (fun _ h_ => h_.1))))); (case side2 => exact (Kd.R_reads' HO501.out).2.1); (case side3 => refine (Kd.R_reads' (e := 2) (base := w.heap.size) (ok := fun k_ => (((some k_ ≠ (.slice Ao8 t442.length co8 : Value).ownBlock ∧ (some k_ ≠ (.slice Ao30 t484.length co30 : Value).ownBlock ∧ some k_ ≠ (.slice Ao34 t489.length co34 : Value).ownBlock)) ∧ some k_ ≠ (.slice Ao56 t494.length co56 : Value).ownBlock) ∧ some k_ ≠ (.slice Ao60 t499.length co60 : Value).ownBlock)) (n := t447.length) (c := co10) ?_).2.2; exact (kr ((Kd.R_mono (Kd.R_far (p := ⟨gb503, 4, none⟩) (Kd.R_far (p := ⟨gb503, 3, none⟩) (Kd.R_far (p := ⟨gb503, 2, none⟩) (Kd.R_far (p := ⟨gb503, 1, none⟩) (Kd.R_far (p := ⟨gb503, 0, none⟩) (Kd.R_types HO_4.out BK503.out (by decide)) (fun _ hk => hk.2) (.slice Ao56 t494.length co56)) (fun _ hk => hk.2) (.int .i64 t497)) (fun _ hk => hk.2) (.int .i64 t498)) (fun _ hk => hk.2) (.slice Ao60 t499.length co60)) (fun _ hk => hk.2) (.int .i64 t502)) (fun _ h_ => h_.1))))); (case side4 => exact (Kd.R_reads' HO_4.out).2.1); rintro e w' ⟨rfl, ⟨nd, rfl⟩⟩; have hnb69 := NB450_493.out; have hnc69 := NB493_450.out; have hcz70_0 : w55.cell? ⟨gb450, 0, none⟩ = some (.slice Ao8 t442.length co8) := bc BK450.out 0; have hcz70_1 : w55.cell? ⟨gb450, 1, none⟩ = some (.int .i64 t445) := bc BK450.out 1; have hcz70_2 : w55.cell? ⟨gb450, 2, none⟩ = some (.int .i64 t446) := bc BK450.out 2; have hfz70_0 := blk_frozen BK450.out 0; have hfz70_1 := blk_frozen BK450.out 1; have hfz70_2 := blk_frozen BK450.out 2) | (go_at_call 10; (with_reducible refine (laws_lwSame.calls kj46 _ _ t494 _ _ t442 true _ ?side1 ?side2 ?side3 ?side4 A64.out).mono ?_); (case side1 => refine (Kd.R_reads' (e := 2) (base := w.heap.size) (ok := fun k_ => ((((some k_ ≠ (.slice Ao60 t499.length co60 : Value).ownBlock ∧ some k_ ≠ (.slice Ao10 t447.length co10 : Value).ownBlock) ∧ some k_ ≠ (.slice Ao8 t442.length co8 : Value).ownBlock) ∧ some k_ ≠ (.slice Ao30 t484.length co30 : Value).ownBlock) ∧ some k_ ≠ (.slice Ao34 t489.length co34 : Value).ownBlock)) (n := t494.length) (c := co56) ?_).2.2; exact (kr ((Kd.R_mono (Kd.R_far (p := ⟨gb503, 4, none⟩) (Kd.R_far (p := ⟨gb503, 3, none⟩) (Kd.R_far (p := ⟨gb503, 2, none⟩) (Kd.R_far (p := ⟨gb503, 1, none⟩) (Kd.R_far (p := ⟨gb503, 0, none⟩) (Kd.R_types HO496.out BK503.out (by decide)) (fun _ hk => hk.2) (.slice Ao56 t494.length co56)) (fun _ hk => hk.2) (.int .i64 t497)) (fun _ hk => hk.2) (.int .i64 t498)) (fun _ hk => hk.2) (.slice Ao60 t499.length co60)) (fun _ hk => hk.2) (.int .i64 t502)) (fun _ h_ => h_.1))))); (case side2 => exact (Kd.R_reads' HO496.out).2.1); (case side3 => refine (Kd.R_reads' (e := 2) (base := w.heap.size) (ok := fun k_ => (((some k_ ≠ (.slice Ao10 t447.length co10 : Value).ownBlock ∧ (some k_ ≠ (.slice Ao30 t484.length co30 : Value).ownBlock ∧ some k_ ≠ (.slice Ao34 t489.length co34 : Value).ownBlock)) ∧ some k_ ≠ (.slice Ao56 t494.length co56 : Value).ownBlock) ∧ some k_ ≠ (.slice Ao60 t499.length co60 : Value).ownBlock)) (n := t442.length) (c := co8) ?_).2.2; exact (kr ((Kd.R_mono (Kd.R_far (p := ⟨gb503, 4, none⟩) (Kd.R_far (p := ⟨gb503, 3, none⟩) (Kd.R_far (p := ⟨gb503, 2, none⟩) (Kd.R_far (p := ⟨gb503, 1, none⟩) (Kd.R_far (p := ⟨gb503, 0, none⟩) (Kd.R_types HO_451000.out BK503.out (by decide)) (fun _ hk => hk.2) (.slice Ao56 t494.length co56)) (fun _ hk => hk.2) (.int .i64 t497)) (fun _ hk => hk.2) (.int .i64 t498)) (fun _ hk => hk.2) (.slice Ao60 t499.length co60)) (fun _ hk => hk.2) (.int .i64 t502)) (fun _ h_ => h_.1))))); (case side4 => exact (Kd.R_reads' HO_451000.out).2.1); rintro e w' ⟨rfl, ⟨nd, rfl⟩⟩))
            go_meet
            case rel => exact ⟨_, ((t497 != t445)), (by first | rfl | (simp; done) | (simp [*]; done)), H', ⟨by have := HJ4.out; have := HJ22.out; have := HJ46.out; first | omega | exact Nat.le_refl _⟩, ⟨kr (Kd.R_mono (Kd.R_far (p := ⟨gb503, 4, none⟩) (Kd.R_far (p := ⟨gb503, 3, none⟩) (Kd.R_far (p := ⟨gb503, 2, none⟩) (Kd.R_far (p := ⟨gb503, 1, none⟩) (Kd.R_far (p := ⟨gb503, 0, none⟩) (Kd.R_types HO_451000.out BK503.out (by decide)) (fun _ hk => hk.2) (.slice Ao56 t494.length co56)) (fun _ hk => hk.2) (.int .i64 t497)) (fun _ hk => hk.2) (.int .i64 t498)) (fun _ hk => hk.2) (.slice Ao60 t499.length co60)) (fun _ hk => hk.2) (.int .i64 t502)) (fun _ hk => ⟨hk.1.1.1.2.1, ⟨hk.1.1.1.2.2, ⟨hk.1.1.2, hk.1.2⟩⟩⟩))⟩, ⟨kr (Kd.R_mono (Kd.R_far (p := ⟨gb503, 4, none⟩) (Kd.R_far (p := ⟨gb503, 3, none⟩) (Kd.R_far (p := ⟨gb503, 2, none⟩) (Kd.R_far (p := ⟨gb503, 1, none⟩) (Kd.R_far (p := ⟨gb503, 0, none⟩) (Kd.R_types HO_494000.out BK503.out (by decide)) (fun _ hk => hk.2) (.slice Ao56 t494.length co56)) (fun _ hk => hk.2) (.int .i64 t497)) (fun _ hk => hk.2) (.int .i64 t498)) (fun _ hk => hk.2) (.slice Ao60 t499.length co60)) (fun _ hk => hk.2) (.int .i64 t502)) (fun _ hk => ⟨hk.1.1.1.2.1, ⟨hk.1.1.1.2.2, ⟨hk.1.1.2, hk.1.2⟩⟩⟩))⟩, ⟨kr (Kd.R_mono (Kd.R_far (p := ⟨gb503, 4, none⟩) (Kd.R_far (p := ⟨gb503, 3, none⟩) (Kd.R_far (p := ⟨gb503, 2, none⟩) (Kd.R_far (p := ⟨gb503, 1, none⟩) (Kd.R_far (p := ⟨gb503, 0, none⟩) (Kd.R_types HO_494003.out BK503.out (by decide)) (fun _ hk => hk.2) (.slice Ao56 t494.length co56)) (fun _ hk => hk.2) (.int .i64 t497)) (fun _ hk => hk.2) (.int .i64 t498)) (fun _ hk => hk.2) (.slice Ao60 t499.length co60)) (fun _ hk => hk.2) (.int .i64 t502)) (fun _ hk => ⟨hk.1.1.1.2.1, ⟨hk.1.1.1.2.2, ⟨hk.1.1.2, hk.1.2⟩⟩⟩))⟩, ⟨kr (Kd.R_mono (Kd.R_far (p := ⟨gb503, 4, none⟩) (Kd.R_far (p := ⟨gb503, 3, none⟩) (Kd.R_far (p := ⟨gb503, 2, none⟩) (Kd.R_far (p := ⟨gb503, 1, none⟩) (Kd.R_far (p := ⟨gb503, 0, none⟩) (Kd.R_types HO496.out BK503.out (by decide)) (fun _ hk => hk.2) (.slice Ao56 t494.length co56)) (fun _ hk => hk.2) (.int .i64 t497)) (fun _ hk => hk.2) (.int .i64 t498)) (fun _ hk => hk.2) (.slice Ao60 t499.length co60)) (fun _ hk => hk.2) (.int .i64 t502)) (fun _ hk => ⟨hk.1.1.1.2, ⟨hk.1.1.2, ⟨hk.1.2, hk.1.1.1.1.1⟩⟩⟩))⟩, ⟨kr (Kd.R_mono (Kd.R_far (p := ⟨gb503, 4, none⟩) (Kd.R_far (p := ⟨gb503, 3, none⟩) (Kd.R_far (p := ⟨gb503, 2, none⟩) (Kd.R_far (p := ⟨gb503, 1, none⟩) (Kd.R_far (p := ⟨gb503, 0, none⟩) (Kd.R_types HO501.out BK503.out (by decide)) (fun _ hk => hk.2) (.slice Ao56 t494.length co56)) (fun _ hk => hk.2) (.int .i64 t497)) (fun _ hk => hk.2) (.int .i64 t498)) (fun _ hk => hk.2) (.slice Ao60 t499.length co60)) (fun _ hk => hk.2) (.int .i64 t502)) (fun _ hk => ⟨hk.1.1.1.2, ⟨hk.1.1.2, ⟨hk.1.2, hk.1.1.1.1.1⟩⟩⟩))⟩, ⟨by (with_reducible repeat (first | refine blk_drewN ?_ _ | refine blk_drew ?_ | refine blk_alloc ?_ _)); refine blk_far ?_ NB450_503.out _; (with_reducible repeat (first | refine blk_drewN ?_ _ | refine blk_drew ?_ | refine blk_alloc ?_ _)); refine blk_far ?_ NB450_503.out _; (with_reducible repeat (first | refine blk_drewN ?_ _ | refine blk_drew ?_ | refine blk_alloc ?_ _)); refine blk_far ?_ NB450_503.out _; (with_reducible repeat (first | refine blk_drewN ?_ _ | refine blk_drew ?_ | refine blk_alloc ?_ _)); refine blk_far ?_ NB450_503.out _; (with_reducible repeat (first | refine blk_drewN ?_ _ | refine blk_drew ?_ | refine blk_alloc ?_ _)); refine blk_far ?_ NB450_503.out _; (with_reducible repeat (first | refine blk_drewN ?_ _ | refine blk_drew ?_ | refine blk_alloc ?_ _)); exact BK450.out⟩, ⟨by (with_reducible repeat (first | refine blk_drewN ?_ _ | refine blk_drew ?_ | refine blk_alloc ?_ _)); refine blk_far ?_ NB493_503.out _; (with_reducible repeat (first | refine blk_drewN ?_ _ | refine blk_drew ?_ | refine blk_alloc ?_ _)); refine blk_far ?_ NB493_503.out _; (with_reducible repeat (first | refine blk_drewN ?_ _ | refine blk_drew ?_ | refine blk_alloc ?_ _)); refine blk_far ?_ NB493_503.out _; (with_reducible repeat (first | refine blk_drewN ?_ _ | refine blk_drew ?_ | refine blk_alloc ?_ _)); refine blk_far ?_ NB493_503.out _; (with_reducible repeat (first | refine blk_drewN ?_ _ | refine blk_drew ?_ | refine blk_alloc ?_ _)); refine blk_far ?_ NB493_503.out _; (with_reducible repeat (first | refine blk_drewN ?_ _ | refine blk_drew ?_ | refine blk_alloc ?_ _)); exact BK493.out⟩, ⟨by (with_reducible repeat (first | refine blk_drewN ?_ _ | refine blk_drew ?_ | refine blk_alloc ?_ _)); refine blk_put (cs := #[.slice Ao56 t494.length co56, .int .i64 t497, .int .i64 t498, .slice Ao60 t499.length co60, .int .i64 0]) ?_ 4 _ rfl; (with_reducible repeat (first | refine blk_drewN ?_ _ | refine blk_drew ?_ | refine blk_alloc ?_ _)); refine blk_put (cs := #[.slice Ao56 t494.length co56, .int .i64 t497, .int .i64 t498, .slice none 0 0, .int .i64 0]) ?_ 3 _ rfl; (with_reducible repeat (first | refine blk_drewN ?_ _ | refine blk_drew ?_ | refine blk_alloc ?_ _)); refine blk_put (cs := #[.slice Ao56 t494.length co56, .int .i64 t497, .int .i64 0, .slice none 0 0, .int .i64 0]) ?_ 2 _ rfl; (with_reducible repeat (first | refine blk_drewN ?_ _ | refine blk_drew ?_ | refine blk_alloc ?_ _)); refine blk_put (cs := #[.slice Ao56 t494.length co56, .int .i64 0, .int .i64 0, .slice none 0 0, .int .i64 0]) ?_ 1 _ rfl; (with_reducible repeat (first | refine blk_drewN ?_ _ | refine blk_drew ?_ | refine blk_alloc ?_ _)); refine blk_put (cs := #[.slice none 0 0, .int .i64 0, .int .i64 0, .slice none 0 0, .int .i64 0]) ?_ 0 _ rfl; (with_reducible repeat (first | refine blk_drewN ?_ _ | refine blk_drew ?_ | refine blk_alloc ?_ _)); exact BK503.out⟩, ⟨by repeat (first | (with_reducible first | exact HB.out | apply below_alloc | apply pw_below_drewN | apply below_drew1 | refine below_set ?_ GE450.out | refine below_set ?_ GE493.out | refine below_set ?_ GE503.out) | exact HB.out)⟩⟩
           ·replace c65 := Bool.eq_false_iff.mpr c65
            subst c65
            have H1 : (laws_FnInsert.j3 kj46 true t442 t445 t446 t494 t497 t498 t499 t502) = some r := by rw [if_neg (show ¬ (false = true) by decide)] at H; exact H
            clear H
            have H := H1
            clear H1
            have H' := Aside0.mk H
            clear H
            have hnb71 := NB503_450.out
            have hnc71 := NB450_503.out
            have hnb72 := NB503_493.out
            have hnc72 := NB493_503.out
            have hcz73_0 : w55.cell? ⟨gb503, 0, none⟩ = some (.slice none 0 0) := bc BK503.out 0
            have hcz73_1 : w55.cell? ⟨gb503, 1, none⟩ = some (.int .i64 0) := bc BK503.out 1
            have hcz73_2 : w55.cell? ⟨gb503, 2, none⟩ = some (.int .i64 0) := bc BK503.out 2
            have hcz73_3 : w55.cell? ⟨gb503, 3, none⟩ = some (.slice none 0 0) := bc BK503.out 3
            have hcz73_4 : w55.cell? ⟨gb503, 4, none⟩ = some (.int .i64 0) := bc BK503.out 4
            have hfz73_0 := blk_frozen BK503.out 0
            have hfz73_1 := blk_frozen BK503.out 1
            have hfz73_2 := blk_frozen BK503.out 2
            have hfz73_3 := blk_frozen BK503.out 3
            have hfz73_4 := blk_frozen BK503.out 4
            go_wp2_with (first | (go_at_call 10; (with_reducible refine (laws_lwSame.calls kj46 _ _ t499 _ _ t447 true _ ?side1 ?side2 ?side3 ?side4 A62.out).mono ?_); (case side1 => refine (Kd.R_reads' (e := 2) (base := w.heap.size) (ok := fun k_ => ((((some k_ ≠ (.slice Ao56 t494.length co56 : Value).ownBlock ∧ some k_ ≠ (.slice Ao10 t447.length co10 : Value).ownBlock) ∧ some k_ ≠ (.slice Ao8 t442.length co8 : Value).ownBlock) ∧ some k_ ≠ (.slice Ao30 t484.length co30 : Value).ownBlock) ∧ some k_ ≠ (.slice Ao34 t489.length co34 : Value).ownBlock)) (n := t499.length) (c := co60) ?_).2.2; exact (kr ((Kd.R_mono (Kd.R_far (p := ⟨gb503, 4, none⟩) (Kd.R_far (p := ⟨gb503, 3, none⟩) (Kd.R_far (p := ⟨gb503, 2, none⟩) (Kd.R_far (p := ⟨gb503, 1, none⟩) (Kd.R_far (p := ⟨gb503, 0, none⟩) (Kd.R_types HO501.out BK503.out (by decide)) (fun _ hk => hk.2) (.slice Ao56 t494.length co56)) (fun _ hk => hk.2) (.int .i64 t497)) (fun _ hk => hk.2) (.int .i64 t498)) (fun _ hk => hk.2) (.slice Ao60 t499.length co60)) (fun _ hk => hk.2) (.int .i64 t502)) (fun _ h_ => h_.1))))); (case side2 => exact (Kd.R_reads' HO501.out).2.1); (case side3 => refine (Kd.R_reads' (e := 2) (base := w.heap.size) (ok := fun k_ => (((some k_ ≠ (.slice Ao8 t442.length co8 : Value).ownBlock ∧ (some k_ ≠ (.slice Ao30 t484.length co30 : Value).ownBlock ∧ some k_ ≠ (.slice Ao34 t489.length co34 : Value).ownBlock)) ∧ some k_ ≠ (.slice Ao56 t494.length co56 : Value).ownBlock) ∧ some k_ ≠ (.slice Ao60 t499.length co60 : Value).ownBlock)) (n := t447.length) (c := co10) ?_).2.2; exact (kr ((Kd.R_mono (Kd.R_far (p := ⟨gb503, 4, none⟩) (Kd.R_far (p := ⟨gb503, 3, none⟩) (Kd.R_far (p := ⟨gb503, 2, none⟩) (Kd.R_far (p := ⟨gb503, 1, none⟩) (Kd.R_far (p := ⟨gb503, 0, none⟩) (Kd.R_types HO_4.out BK503.out (by decide)) (fun _ hk => hk.2) (.slice Ao56 t494.length co56)) (fun _ hk => hk.2) (.int .i64 t497)) (fun _ hk => hk.2) (.int .i64 t498)) (fun _ hk => hk.2) (.slice Ao60 t499.length co60)) (fun _ hk => hk.2) (.int .i64 t502)) (fun _ h_ => h_.1))))); (case side4 => exact (Kd.R_reads' HO_4.out).2.1); rintro e w' ⟨rfl, ⟨nd, rfl⟩⟩; have hnb74 := NB450_493.out; have hnc74 := NB493_450.out; have hcz75_0 : w55.cell? ⟨gb450, 0, none⟩ = some (.slice Ao8 t442.length co8) := bc BK450.out 0; have hcz75_1 : w55.cell? ⟨gb450, 1, none⟩ = some (.int .i64 t445) := bc BK450.out 1; have hcz75_2 : w55.cell? ⟨gb450, 2, none⟩ = some (.int .i64 t446) := bc BK450.out 2; have hfz75_0 := blk_frozen BK450.out 0; have hfz75_1 := blk_frozen BK450.out 1; have hfz75_2 := blk_frozen BK450.out 2) | (go_at_call 10; (with_reducible refine (laws_lwSame.calls kj46 _ _ t494 _ _ t442 false _ ?side1 ?side2 ?side3 ?side4 A64.out).mono ?_); (case side1 => refine (Kd.R_reads' (e := 2) (base := w.heap.size) (ok := fun k_ => ((((some k_ ≠ (.slice Ao60 t499.length co60 : Value).ownBlock ∧ some k_ ≠ (.slice Ao10 t447.length co10 : Value).ownBlock) ∧ some k_ ≠ (.slice Ao8 t442.length co8 : Value).ownBlock) ∧ some k_ ≠ (.slice Ao30 t484.length co30 : Value).ownBlock) ∧ some k_ ≠ (.slice Ao34 t489.length co34 : Value).ownBlock)) (n := t494.length) (c := co56) ?_).2.2; exact (kr ((Kd.R_mono (Kd.R_far (p := ⟨gb503, 4, none⟩) (Kd.R_far (p := ⟨gb503, 3, none⟩) (Kd.R_far (p := ⟨gb503, 2, none⟩) (Kd.R_far (p := ⟨gb503, 1, none⟩) (Kd.R_far (p := ⟨gb503, 0, none⟩) (Kd.R_types HO496.out BK503.out (by decide)) (fun _ hk => hk.2) (.slice Ao56 t494.length co56)) (fun _ hk => hk.2) (.int .i64 t497)) (fun _ hk => hk.2) (.int .i64 t498)) (fun _ hk => hk.2) (.slice Ao60 t499.length co60)) (fun _ hk => hk.2) (.int .i64 t502)) (fun _ h_ => h_.1))))); (case side2 => exact (Kd.R_reads' HO496.out).2.1); (case side3 => refine (Kd.R_reads' (e := 2) (base := w.heap.size) (ok := fun k_ => (((some k_ ≠ (.slice Ao10 t447.length co10 : Value).ownBlock ∧ (some k_ ≠ (.slice Ao30 t484.length co30 : Value).ownBlock ∧ some k_ ≠ (.slice Ao34 t489.length co34 : Value).ownBlock)) ∧ some k_ ≠ (.slice Ao56 t494.length co56 : Value).ownBlock) ∧ some k_ ≠ (.slice Ao60 t499.length co60 : Value).ownBlock)) (n := t442.length) (c := co8) ?_).2.2; exact (kr ((Kd.R_mono (Kd.R_far (p := ⟨gb503, 4, none⟩) (Kd.R_far (p := ⟨gb503, 3, none⟩) (Kd.R_far (p := ⟨gb503, 2, none⟩) (Kd.R_far (p := ⟨gb503, 1, none⟩) (Kd.R_far (p := ⟨gb503, 0, none⟩) (Kd.R_types HO_451000.out BK503.out (by decide)) (fun _ hk => hk.2) (.slice Ao56 t494.length co56)) (fun _ hk => hk.2) (.int .i64 t497)) (fun _ hk => hk.2) (.int .i64 t498)) (fun _ hk => hk.2) (.slice Ao60 t499.length co60)) (fun _ hk => hk.2) (.int .i64 t502)) (fun _ h_ => h_.1))))); (case side4 => exact (Kd.R_reads' HO_451000.out).2.1); rintro e w' ⟨rfl, ⟨nd, rfl⟩⟩))
            go_meet
            case rel => exact ⟨_, (true), (by first | rfl | (simp; done) | (simp [*]; done)), H', ⟨by have := HJ4.out; have := HJ22.out; have := HJ46.out; first | omega | exact Nat.le_refl _⟩, ⟨kr (Kd.R_mono (Kd.R_far (p := ⟨gb503, 4, none⟩) (Kd.R_far (p := ⟨gb503, 3, none⟩) (Kd.R_far (p := ⟨gb503, 2, none⟩) (Kd.R_far (p := ⟨gb503, 1, none⟩) (Kd.R_far (p := ⟨gb503, 0, none⟩) (Kd.R_types HO_451000.out BK503.out (by decide)) (fun _ hk => hk.2) (.slice Ao56 t494.length co56)) (fun _ hk => hk.2) (.int .i64 t497)) (fun _ hk => hk.2) (.int .i64 t498)) (fun _ hk => hk.2) (.slice Ao60 t499.length co60)) (fun _ hk => hk.2) (.int .i64 t502)) (fun _ hk => ⟨hk.1.1.1.2.1, ⟨hk.1.1.1.2.2, ⟨hk.1.1.2, hk.1.2⟩⟩⟩))⟩, ⟨kr (Kd.R_mono (Kd.R_far (p := ⟨gb503, 4, none⟩) (Kd.R_far (p := ⟨gb503, 3, none⟩) (Kd.R_far (p := ⟨gb503, 2, none⟩) (Kd.R_far (p := ⟨gb503, 1, none⟩) (Kd.R_far (p := ⟨gb503, 0, none⟩) (Kd.R_types HO_494000.out BK503.out (by decide)) (fun _ hk => hk.2) (.slice Ao56 t494.length co56)) (fun _ hk => hk.2) (.int .i64 t497)) (fun _ hk => hk.2) (.int .i64 t498)) (fun _ hk => hk.2) (.slice Ao60 t499.length co60)) (fun _ hk => hk.2) (.int .i64 t502)) (fun _ hk => ⟨hk.1.1.1.2.1, ⟨hk.1.1.1.2.2, ⟨hk.1.1.2, hk.1.2⟩⟩⟩))⟩, ⟨kr (Kd.R_mono (Kd.R_far (p := ⟨gb503, 4, none⟩) (Kd.R_far (p := ⟨gb503, 3, none⟩) (Kd.R_far (p := ⟨gb503, 2, none⟩) (Kd.R_far (p := ⟨gb503, 1, none⟩) (Kd.R_far (p := ⟨gb503, 0, none⟩) (Kd.R_types HO_494003.out BK503.out (by decide)) (fun _ hk => hk.2) (.slice Ao56 t494.length co56)) (fun _ hk => hk.2) (.int .i64 t497)) (fun _ hk => hk.2) (.int .i64 t498)) (fun _ hk => hk.2) (.slice Ao60 t499.length co60)) (fun _ hk => hk.2) (.int .i64 t502)) (fun _ hk => ⟨hk.1.1.1.2.1, ⟨hk.1.1.1.2.2, ⟨hk.1.1.2, hk.1.2⟩⟩⟩))⟩, ⟨kr (Kd.R_mono (Kd.R_far (p := ⟨gb503, 4, none⟩) (Kd.R_far (p := ⟨gb503, 3, none⟩) (Kd.R_far (p := ⟨gb503, 2, none⟩) (Kd.R_far (p := ⟨gb503, 1, none⟩) (Kd.R_far (p := ⟨gb503, 0, none⟩) (Kd.R_types HO496.out BK503.out (by decide)) (fun _ hk => hk.2) (.slice Ao56 t494.length co56)) (fun _ hk => hk.2) (.int .i64 t497)) (fun _ hk => hk.2) (.int .i64 t498)) (fun _ hk => hk.2) (.slice Ao60 t499.length co60)) (fun _ hk => hk.2) (.int .i64 t502)) (fun _ hk => ⟨hk.1.1.1.2, ⟨hk.1.1.2, ⟨hk.1.2, hk.1.1.1.1.1⟩⟩⟩))⟩, ⟨kr (Kd.R_mono (Kd.R_far (p := ⟨gb503, 4, none⟩) (Kd.R_far (p := ⟨gb503, 3, none⟩) (Kd.R_far (p := ⟨gb503, 2, none⟩) (Kd.R_far (p := ⟨gb503, 1, none⟩) (Kd.R_far (p := ⟨gb503, 0, none⟩) (Kd.R_types HO501.out BK503.out (by decide)) (fun _ hk => hk.2) (.slice Ao56 t494.length co56)) (fun _ hk => hk.2) (.int .i64 t497)) (fun _ hk => hk.2) (.int .i64 t498)) (fun _ hk => hk.2) (.slice Ao60 t499.length co60)) (fun _ hk => hk.2) (.int .i64 t502)) (fun _ hk => ⟨hk.1.1.1.2, ⟨hk.1.1.2, ⟨hk.1.2, hk.1.1.1.1.1⟩⟩⟩))⟩, ⟨by (with_reducible repeat (first | refine blk_drewN ?_ _ | refine blk_drew ?_ | refine blk_alloc ?_ _)); refine blk_far ?_ NB450_503.out _; (with_reducible repeat (first | refine blk_drewN ?_ _ | refine blk_drew ?_ | refine blk_alloc ?_ _)); refine blk_far ?_ NB450_503.out _; (with_reducible repeat (first | refine blk_drewN ?_ _ | refine blk_drew ?_ | refine blk_alloc ?_ _)); refine blk_far ?_ NB450_503.out _; (with_reducible repeat (first | refine blk_drewN ?_ _ | refine blk_drew ?_ | refine blk_alloc ?_ _)); refine blk_far ?_ NB450_503.out _; (with_reducible repeat (first | refine blk_drewN ?_ _ | refine blk_drew ?_ | refine blk_alloc ?_ _)); refine blk_far ?_ NB450_503.out _; (with_reducible repeat (first | refine blk_drewN ?_ _ | refine blk_drew ?_ | refine blk_alloc ?_ _)); exact BK450.out⟩, ⟨by (with_reducible repeat (first | refine blk_drewN ?_ _ | refine blk_drew ?_ | refine blk_alloc ?_ _)); refine blk_far ?_ NB493_503.out _; (with_reducible repeat (first | refine blk_drewN ?_ _ | refine blk_drew ?_ | refine blk_alloc ?_ _)); refine blk_far ?_ NB493_503.out _; (with_reducible repeat (first | refine blk_drewN ?_ _ | refine blk_drew ?_ | refine blk_alloc ?_ _)); refine blk_far ?_ NB493_503.out _; (with_reducible repeat (first | refine blk_drewN ?_ _ | refine blk_drew ?_ | refine blk_alloc ?_ _)); refine blk_far ?_ NB493_503.out _; (with_reducible repeat (first | refine blk_drewN ?_ _ | refine blk_drew ?_ | refine blk_alloc ?_ _)); refine blk_far ?_ NB493_503.out _; (with_reducible repeat (first | refine blk_drewN ?_ _ | refine blk_drew ?_ | refine blk_alloc ?_ _)); exact BK493.out⟩, ⟨by (with_reducible repeat (first | refine blk_drewN ?_ _ | refine blk_drew ?_ | refine blk_alloc ?_ _)); refine blk_put (cs := #[.slice Ao56 t494.length co56, .int .i64 t497, .int .i64 t498, .slice Ao60 t499.length co60, .int .i64 0]) ?_ 4 _ rfl; (with_reducible repeat (first | refine blk_drewN ?_ _ | refine blk_drew ?_ | refine blk_alloc ?_ _)); refine blk_put (cs := #[.slice Ao56 t494.length co56, .int .i64 t497, .int .i64 t498, .slice none 0 0, .int .i64 0]) ?_ 3 _ rfl; (with_reducible repeat (first | refine blk_drewN ?_ _ | refine blk_drew ?_ | refine blk_alloc ?_ _)); refine blk_put (cs := #[.slice Ao56 t494.length co56, .int .i64 t497, .int .i64 0, .slice none 0 0, .int .i64 0]) ?_ 2 _ rfl; (with_reducible repeat (first | refine blk_drewN ?_ _ | refine blk_drew ?_ | refine blk_alloc ?_ _)); refine blk_put (cs := #[.slice Ao56 t494.length co56, .int .i64 0, .int .i64 0, .slice none 0 0, .int .i64 0]) ?_ 1 _ rfl; (with_reducible repeat (first | refine blk_drewN ?_ _ | refine blk_drew ?_ | refine blk_alloc ?_ _)); refine blk_put (cs := #[.slice none 0 0, .int .i64 0, .int .i64 0, .slice none 0 0, .int .i64 0]) ?_ 0 _ rfl; (with_reducible repeat (first | refine blk_drewN ?_ _ | refine blk_drew ?_ | refine blk_alloc ?_ _)); exact BK503.out⟩, ⟨by repeat (first | (with_reducible first | exact HB.out | apply below_alloc | apply pw_below_drewN | apply below_drew1 | refine below_set ?_ GE450.out | refine below_set ?_ GE493.out | refine below_set ?_ GE503.out) | exact HB.out)⟩⟩
          ·replace c63 := Bool.eq_false_iff.mpr c63
           subst c63
           have H1 : (laws_FnInsert.j3 kj46 true t442 t445 t446 t494 t497 t498 t499 t502) = some r := by rw [if_neg (show ¬ (false = true) by decide)] at H; exact H
           clear H
           have H := H1
           clear H1
           have H' := Aside0.mk H
           clear H
           have hnb76 := NB503_450.out
           have hnc76 := NB450_503.out
           have hnb77 := NB503_493.out
           have hnc77 := NB493_503.out
           have hcz78_0 : w55.cell? ⟨gb503, 0, none⟩ = some (.slice none 0 0) := bc BK503.out 0
           have hcz78_1 : w55.cell? ⟨gb503, 1, none⟩ = some (.int .i64 0) := bc BK503.out 1
           have hcz78_2 : w55.cell? ⟨gb503, 2, none⟩ = some (.int .i64 0) := bc BK503.out 2
           have hcz78_3 : w55.cell? ⟨gb503, 3, none⟩ = some (.slice none 0 0) := bc BK503.out 3
           have hcz78_4 : w55.cell? ⟨gb503, 4, none⟩ = some (.int .i64 0) := bc BK503.out 4
           have hfz78_0 := blk_frozen BK503.out 0
           have hfz78_1 := blk_frozen BK503.out 1
           have hfz78_2 := blk_frozen BK503.out 2
           have hfz78_3 := blk_frozen BK503.out 3
           have hfz78_4 := blk_frozen BK503.out 4
           go_wp2_with (first | (go_at_call 10; (with_reducible refine (laws_lwSame.calls kj46 _ _ t499 _ _ t447 false _ ?side1 ?side2 ?side3 ?side4 A62.out).mono ?_); (case side1 => refine (Kd.R_reads' (e := 2) (base := w.heap.size) (ok := fun k_ => ((((some k_ ≠ (.slice Ao56 t494.length co56 : Value).ownBlock ∧ some k_ ≠ (.slice Ao10 t447.length co10 : Value).ownBlock) ∧ some k_ ≠ (.slice Ao8 t442.length co8 : Value).ownBlock) ∧ some k_ ≠ (.slice Ao30 t484.length co30 : Value).ownBlock) ∧ some k_ ≠ (.slice Ao34 t489.length co34 : Value).ownBlock)) (n := t499.length) (c := co60) ?_).2.2; exact (kr ((Kd.R_mono (Kd.R_far (p := ⟨gb503, 4, none⟩) (Kd.R_far (p := ⟨gb503, 3, none⟩) (Kd.R_far (p := ⟨gb503, 2, none⟩) (Kd.R_far (p := ⟨gb503, 1, none⟩) (Kd.R_far (p := ⟨gb503, 0, none⟩) (Kd.R_types HO501.out BK503.out (by decide)) (fun _ hk => hk.2) (.slice Ao56 t494.length co56)) (fun _ hk => hk.2) (.int .i64 t497)) (fun _ hk => hk.2) (.int .i64 t498)) (fun _ hk => hk.2) (.slice Ao60 t499.length co60)) (fun _ hk => hk.2) (.int .i64 t502)) (fun _ h_ => h_.1))))); (case side2 => exact (Kd.R_reads' HO501.out).2.1); (case side3 => refine (Kd.R_reads' (e := 2) (base := w.heap.size) (ok := fun k_ => (((some k_ ≠ (.slice Ao8 t442.length co8 : Value).ownBlock ∧ (some k_ ≠ (.slice Ao30 t484.length co30 : Value).ownBlock ∧ some k_ ≠ (.slice Ao34 t489.length co34 : Value).ownBlock)) ∧ some k_ ≠ (.slice Ao56 t494.length co56 : Value).ownBlock) ∧ some k_ ≠ (.slice Ao60 t499.length co60 : Value).ownBlock)) (n := t447.length) (c := co10) ?_).2.2; exact (kr ((Kd.R_mono (Kd.R_far (p := ⟨gb503, 4, none⟩) (Kd.R_far (p := ⟨gb503, 3, none⟩) (Kd.R_far (p := ⟨gb503, 2, none⟩) (Kd.R_far (p := ⟨gb503, 1, none⟩) (Kd.R_far (p := ⟨gb503, 0, none⟩) (Kd.R_types HO_4.out BK503.out (by decide)) (fun _ hk => hk.2) (.slice Ao56 t494.length co56)) (fun _ hk => hk.2) (.int .i64 t497)) (fun _ hk => hk.2) (.int .i64 t498)) (fun _ hk => hk.2) (.slice Ao60 t499.length co60)) (fun _ hk => hk.2) (.int .i64 t502)) (fun _ h_ => h_.1))))); (case side4 => exact (Kd.R_reads' HO_4.out).2.1); rintro e w' ⟨rfl, ⟨nd, rfl⟩⟩))
           go_meet
           case rel => exact ⟨_, (true), (by first | rfl | (simp; done) | (simp [*]; done)), H', ⟨by have := HJ4.out; have := HJ22.out; have := HJ46.out; first | omega | exact Nat.le_refl _⟩, ⟨kr (Kd.R_mono (Kd.R_far (p := ⟨gb503, 4, none⟩) (Kd.R_far (p := ⟨gb503, 3, none⟩) (Kd.R_far (p := ⟨gb503, 2, none⟩) (Kd.R_far (p := ⟨gb503, 1, none⟩) (Kd.R_far (p := ⟨gb503, 0, none⟩) (Kd.R_types HO_451000.out BK503.out (by decide)) (fun _ hk => hk.2) (.slice Ao56 t494.length co56)) (fun _ hk => hk.2) (.int .i64 t497)) (fun _ hk => hk.2) (.int .i64 t498)) (fun _ hk => hk.2) (.slice Ao60 t499.length co60)) (fun _ hk => hk.2) (.int .i64 t502)) (fun _ hk => ⟨hk.1.1.1.2.1, ⟨hk.1.1.1.2.2, ⟨hk.1.1.2, hk.1.2⟩⟩⟩))⟩, ⟨kr (Kd.R_mono (Kd.R_far (p := ⟨gb503, 4, none⟩) (Kd.R_far (p := ⟨gb503, 3, none⟩) (Kd.R_far (p := ⟨gb503, 2, none⟩) (Kd.R_far (p := ⟨gb503, 1, none⟩) (Kd.R_far (p := ⟨gb503, 0, none⟩) (Kd.R_types HO_494000.out BK503.out (by decide)) (fun _ hk => hk.2) (.slice Ao56 t494.length co56)) (fun _ hk => hk.2) (.int .i64 t497)) (fun _ hk => hk.2) (.int .i64 t498)) (fun _ hk => hk.2) (.slice Ao60 t499.length co60)) (fun _ hk => hk.2) (.int .i64 t502)) (fun _ hk => ⟨hk.1.1.1.2.1, ⟨hk.1.1.1.2.2, ⟨hk.1.1.2, hk.1.2⟩⟩⟩))⟩, ⟨kr (Kd.R_mono (Kd.R_far (p := ⟨gb503, 4, none⟩) (Kd.R_far (p := ⟨gb503, 3, none⟩) (Kd.R_far (p := ⟨gb503, 2, none⟩) (Kd.R_far (p := ⟨gb503, 1, none⟩) (Kd.R_far (p := ⟨gb503, 0, none⟩) (Kd.R_types HO_494003.out BK503.out (by decide)) (fun _ hk => hk.2) (.slice Ao56 t494.length co56)) (fun _ hk => hk.2) (.int .i64 t497)) (fun _ hk => hk.2) (.int .i64 t498)) (fun _ hk => hk.2) (.slice Ao60 t499.length co60)) (fun _ hk => hk.2) (.int .i64 t502)) (fun _ hk => ⟨hk.1.1.1.2.1, ⟨hk.1.1.1.2.2, ⟨hk.1.1.2, hk.1.2⟩⟩⟩))⟩, ⟨kr (Kd.R_mono (Kd.R_far (p := ⟨gb503, 4, none⟩) (Kd.R_far (p := ⟨gb503, 3, none⟩) (Kd.R_far (p := ⟨gb503, 2, none⟩) (Kd.R_far (p := ⟨gb503, 1, none⟩) (Kd.R_far (p := ⟨gb503, 0, none⟩) (Kd.R_types HO496.out BK503.out (by decide)) (fun _ hk => hk.2) (.slice Ao56 t494.length co56)) (fun _ hk => hk.2) (.int .i64 t497)) (fun _ hk => hk.2) (.int .i64 t498)) (fun _ hk => hk.2) (.slice Ao60 t499.length co60)) (fun _ hk => hk.2) (.int .i64 t502)) (fun _ hk => ⟨hk.1.1.1.2, ⟨hk.1.1.2, ⟨hk.1.2, hk.1.1.1.1.1⟩⟩⟩))⟩, ⟨kr (Kd.R_mono (Kd.R_far (p := ⟨gb503, 4, none⟩) (Kd.R_far (p := ⟨gb503, 3, none⟩) (Kd.R_far (p := ⟨gb503, 2, none⟩) (Kd.R_far (p := ⟨gb503, 1, none⟩) (Kd.R_far (p := ⟨gb503, 0, none⟩) (Kd.R_types HO501.out BK503.out (by decide)) (fun _ hk => hk.2) (.slice Ao56 t494.length co56)) (fun _ hk => hk.2) (.int .i64 t497)) (fun _ hk => hk.2) (.int .i64 t498)) (fun _ hk => hk.2) (.slice Ao60 t499.length co60)) (fun _ hk => hk.2) (.int .i64 t502)) (fun _ hk => ⟨hk.1.1.1.2, ⟨hk.1.1.2, ⟨hk.1.2, hk.1.1.1.1.1⟩⟩⟩))⟩, ⟨by (with_reducible repeat (first | refine blk_drewN ?_ _ | refine blk_drew ?_ | refine blk_alloc ?_ _)); refine blk_far ?_ NB450_503.out _; (with_reducible repeat (first | refine blk_drewN ?_ _ | refine blk_drew ?_ | refine blk_alloc ?_ _)); refine blk_far ?_ NB450_503.out _; (with_reducible repeat (first | refine blk_drewN ?_ _ | refine blk_drew ?_ | refine blk_alloc ?_ _)); refine blk_far ?_ NB450_503.out _; (with_reducible repeat (first | refine blk_drewN ?_ _ | refine blk_drew ?_ | refine blk_alloc ?_ _)); refine blk_far ?_ NB450_503.out _; (with_reducible repeat (first | refine blk_drewN ?_ _ | refine blk_drew ?_ | refine blk_alloc ?_ _)); refine blk_far ?_ NB450_503.out _; (with_reducible repeat (first | refine blk_drewN ?_ _ | refine blk_drew ?_ | refine blk_alloc ?_ _)); exact BK450.out⟩, ⟨by (with_reducible repeat (first | refine blk_drewN ?_ _ | refine blk_drew ?_ | refine blk_alloc ?_ _)); refine blk_far ?_ NB493_503.out _; (with_reducible repeat (first | refine blk_drewN ?_ _ | refine blk_drew ?_ | refine blk_alloc ?_ _)); refine blk_far ?_ NB493_503.out _; (with_reducible repeat (first | refine blk_drewN ?_ _ | refine blk_drew ?_ | refine blk_alloc ?_ _)); refine blk_far ?_ NB493_503.out _; (with_reducible repeat (first | refine blk_drewN ?_ _ | refine blk_drew ?_ | refine blk_alloc ?_ _)); refine blk_far ?_ NB493_503.out _; (with_reducible repeat (first | refine blk_drewN ?_ _ | refine blk_drew ?_ | refine blk_alloc ?_ _)); refine blk_far ?_ NB493_503.out _; (with_reducible repeat (first | refine blk_drewN ?_ _ | refine blk_drew ?_ | refine blk_alloc ?_ _)); exact BK493.out⟩, ⟨by (with_reducible repeat (first | refine blk_drewN ?_ _ | refine blk_drew ?_ | refine blk_alloc ?_ _)); refine blk_put (cs := #[.slice Ao56 t494.length co56, .int .i64 t497, .int .i64 t498, .slice Ao60 t499.length co60, .int .i64 0]) ?_ 4 _ rfl; (with_reducible repeat (first | refine blk_drewN ?_ _ | refine blk_drew ?_ | refine blk_alloc ?_ _)); refine blk_put (cs := #[.slice Ao56 t494.length co56, .int .i64 t497, .int .i64 t498, .slice none 0 0, .int .i64 0]) ?_ 3 _ rfl; (with_reducible repeat (first | refine blk_drewN ?_ _ | refine blk_drew ?_ | refine blk_alloc ?_ _)); refine blk_put (cs := #[.slice Ao56 t494.length co56, .int .i64 t497, .int .i64 0, .slice none 0 0, .int .i64 0]) ?_ 2 _ rfl; (with_reducible repeat (first | refine blk_drewN ?_ _ | refine blk_drew ?_ | refine blk_alloc ?_ _)); refine blk_put (cs := #[.slice Ao56 t494.length co56, .int .i64 0, .int .i64 0, .slice none 0 0, .int .i64 0]) ?_ 1 _ rfl; (with_reducible repeat (first | refine blk_drewN ?_ _ | refine blk_drew ?_ | refine blk_alloc ?_ _)); refine blk_put (cs := #[.slice none 0 0, .int .i64 0, .int .i64 0, .slice none 0 0, .int .i64 0]) ?_ 0 _ rfl; (with_reducible repeat (first | refine blk_drewN ?_ _ | refine blk_drew ?_ | refine blk_alloc ?_ _)); exact BK503.out⟩, ⟨by repeat (first | (with_reducible first | exact HB.out | apply below_alloc | apply pw_below_drewN | apply below_drew1 | refine below_set ?_ GE450.out | refine below_set ?_ GE493.out | refine below_set ?_ GE503.out) | exact HB.out)⟩⟩
         ·rw [if_neg c61] at H
          have c61b0 : (t502 == 0) = false := beq_eq_false_iff_ne.mpr c61
          have c61b1 : (t502 != 0) = true := bne_iff_ne.mpr c61
          (first | rw [c61b0] | (simp only [i64_w, i32_w]; rw [c61b0]) | (have e9_ := c61b0; unfold bne at e9_; rw [e9_]) | skip)
          have H' := Aside0.mk H
          clear H
          have hnb79 := NB503_450.out
          have hnc79 := NB450_503.out
          have hnb80 := NB503_493.out
          have hnc80 := NB493_503.out
          have hcz81_0 : w55.cell? ⟨gb503, 0, none⟩ = some (.slice none 0 0) := bc BK503.out 0
          have hcz81_1 : w55.cell? ⟨gb503, 1, none⟩ = some (.int .i64 0) := bc BK503.out 1
          have hcz81_2 : w55.cell? ⟨gb503, 2, none⟩ = some (.int .i64 0) := bc BK503.out 2
          have hcz81_3 : w55.cell? ⟨gb503, 3, none⟩ = some (.slice none 0 0) := bc BK503.out 3
          have hcz81_4 : w55.cell? ⟨gb503, 4, none⟩ = some (.int .i64 0) := bc BK503.out 4
          have hfz81_0 := blk_frozen BK503.out 0
          have hfz81_1 := blk_frozen BK503.out 1
          have hfz81_2 := blk_frozen BK503.out 2
          have hfz81_3 := blk_frozen BK503.out 3
          have hfz81_4 := blk_frozen BK503.out 4
          go_wp2
          go_meet
          case rel => exact ⟨_, (true), (by first | rfl | (simp; done) | (simp [*]; done)), H', ⟨by have := HJ4.out; have := HJ22.out; have := HJ46.out; first | omega | exact Nat.le_refl _⟩, ⟨kr (Kd.R_mono (Kd.R_far (p := ⟨gb503, 4, none⟩) (Kd.R_far (p := ⟨gb503, 3, none⟩) (Kd.R_far (p := ⟨gb503, 2, none⟩) (Kd.R_far (p := ⟨gb503, 1, none⟩) (Kd.R_far (p := ⟨gb503, 0, none⟩) (Kd.R_types HO_451000.out BK503.out (by decide)) (fun _ hk => hk.2) (.slice Ao56 t494.length co56)) (fun _ hk => hk.2) (.int .i64 t497)) (fun _ hk => hk.2) (.int .i64 t498)) (fun _ hk => hk.2) (.slice Ao60 t499.length co60)) (fun _ hk => hk.2) (.int .i64 t502)) (fun _ hk => ⟨hk.1.1.1.2.1, ⟨hk.1.1.1.2.2, ⟨hk.1.1.2, hk.1.2⟩⟩⟩))⟩, ⟨kr (Kd.R_mono (Kd.R_far (p := ⟨gb503, 4, none⟩) (Kd.R_far (p := ⟨gb503, 3, none⟩) (Kd.R_far (p := ⟨gb503, 2, none⟩) (Kd.R_far (p := ⟨gb503, 1, none⟩) (Kd.R_far (p := ⟨gb503, 0, none⟩) (Kd.R_types HO_494000.out BK503.out (by decide)) (fun _ hk => hk.2) (.slice Ao56 t494.length co56)) (fun _ hk => hk.2) (.int .i64 t497)) (fun _ hk => hk.2) (.int .i64 t498)) (fun _ hk => hk.2) (.slice Ao60 t499.length co60)) (fun _ hk => hk.2) (.int .i64 t502)) (fun _ hk => ⟨hk.1.1.1.2.1, ⟨hk.1.1.1.2.2, ⟨hk.1.1.2, hk.1.2⟩⟩⟩))⟩, ⟨kr (Kd.R_mono (Kd.R_far (p := ⟨gb503, 4, none⟩) (Kd.R_far (p := ⟨gb503, 3, none⟩) (Kd.R_far (p := ⟨gb503, 2, none⟩) (Kd.R_far (p := ⟨gb503, 1, none⟩) (Kd.R_far (p := ⟨gb503, 0, none⟩) (Kd.R_types HO_494003.out BK503.out (by decide)) (fun _ hk => hk.2) (.slice Ao56 t494.length co56)) (fun _ hk => hk.2) (.int .i64 t497)) (fun _ hk => hk.2) (.int .i64 t498)) (fun _ hk => hk.2) (.slice Ao60 t499.length co60)) (fun _ hk => hk.2) (.int .i64 t502)) (fun _ hk => ⟨hk.1.1.1.2.1, ⟨hk.1.1.1.2.2, ⟨hk.1.1.2, hk.1.2⟩⟩⟩))⟩, ⟨kr (Kd.R_mono (Kd.R_far (p := ⟨gb503, 4, none⟩) (Kd.R_far (p := ⟨gb503, 3, none⟩) (Kd.R_far (p := ⟨gb503, 2, none⟩) (Kd.R_far (p := ⟨gb503, 1, none⟩) (Kd.R_far (p := ⟨gb503, 0, none⟩) (Kd.R_types HO496.out BK503.out (by decide)) (fun _ hk => hk.2) (.slice Ao56 t494.length co56)) (fun _ hk => hk.2) (.int .i64 t497)) (fun _ hk => hk.2) (.int .i64 t498)) (fun _ hk => hk.2) (.slice Ao60 t499.length co60)) (fun _ hk => hk.2) (.int .i64 t502)) (fun _ hk => ⟨hk.1.1.1.2, ⟨hk.1.1.2, ⟨hk.1.2, hk.1.1.1.1.1⟩⟩⟩))⟩, ⟨kr (Kd.R_mono (Kd.R_far (p := ⟨gb503, 4, none⟩) (Kd.R_far (p := ⟨gb503, 3, none⟩) (Kd.R_far (p := ⟨gb503, 2, none⟩) (Kd.R_far (p := ⟨gb503, 1, none⟩) (Kd.R_far (p := ⟨gb503, 0, none⟩) (Kd.R_types HO501.out BK503.out (by decide)) (fun _ hk => hk.2) (.slice Ao56 t494.length co56)) (fun _ hk => hk.2) (.int .i64 t497)) (fun _ hk => hk.2) (.int .i64 t498)) (fun _ hk => hk.2) (.slice Ao60 t499.length co60)) (fun _ hk => hk.2) (.int .i64 t502)) (fun _ hk => ⟨hk.1.1.1.2, ⟨hk.1.1.2, ⟨hk.1.2, hk.1.1.1.1.1⟩⟩⟩))⟩, ⟨by (with_reducible repeat (first | refine blk_drewN ?_ _ | refine blk_drew ?_ | refine blk_alloc ?_ _)); refine blk_far ?_ NB450_503.out _; (with_reducible repeat (first | refine blk_drewN ?_ _ | refine blk_drew ?_ | refine blk_alloc ?_ _)); refine blk_far ?_ NB450_503.out _; (with_reducible repeat (first | refine blk_drewN ?_ _ | refine blk_drew ?_ | refine blk_alloc ?_ _)); refine blk_far ?_ NB450_503.out _; (with_reducible repeat (first | refine blk_drewN ?_ _ | refine blk_drew ?_ | refine blk_alloc ?_ _)); refine blk_far ?_ NB450_503.out _; (with_reducible repeat (first | refine blk_drewN ?_ _ | refine blk_drew ?_ | refine blk_alloc ?_ _)); refine blk_far ?_ NB450_503.out _; (with_reducible repeat (first | refine blk_drewN ?_ _ | refine blk_drew ?_ | refine blk_alloc ?_ _)); exact BK450.out⟩, ⟨by (with_reducible repeat (first | refine blk_drewN ?_ _ | refine blk_drew ?_ | refine blk_alloc ?_ _)); refine blk_far ?_ NB493_503.out _; (with_reducible repeat (first | refine blk_drewN ?_ _ | refine blk_drew ?_ | refine blk_alloc ?_ _)); refine blk_far ?_ NB493_503.out _; (with_reducible repeat (first | refine blk_drewN ?_ _ | refine blk_drew ?_ | refine blk_alloc ?_ _)); refine blk_far ?_ NB493_503.out _; (with_reducible repeat (first | refine blk_drewN ?_ _ | refine blk_drew ?_ | refine blk_alloc ?_ _)); refine blk_far ?_ NB493_503.out _; (with_reducible repeat (first | refine blk_drewN ?_ _ | refine blk_drew ?_ | refine blk_alloc ?_ _)); refine blk_far ?_ NB493_503.out _; (with_reducible repeat (first | refine blk_drewN ?_ _ | refine blk_drew ?_ | refine blk_alloc ?_ _)); exact BK493.out⟩, ⟨by (with_reducible repeat (first | refine blk_drewN ?_ _ | refine blk_drew ?_ | refine blk_alloc ?_ _)); refine blk_put (cs := #[.slice Ao56 t494.length co56, .int .i64 t497, .int .i64 t498, .slice Ao60 t499.length co60, .int .i64 0]) ?_ 4 _ rfl; (with_reducible repeat (first | refine blk_drewN ?_ _ | refine blk_drew ?_ | refine blk_alloc ?_ _)); refine blk_put (cs := #[.slice Ao56 t494.length co56, .int .i64 t497, .int .i64 t498, .slice none 0 0, .int .i64 0]) ?_ 3 _ rfl; (with_reducible repeat (first | refine blk_drewN ?_ _ | refine blk_drew ?_ | refine blk_alloc ?_ _)); refine blk_put (cs := #[.slice Ao56 t494.length co56, .int .i64 t497, .int .i64 0, .slice none 0 0, .int .i64 0]) ?_ 2 _ rfl; (with_reducible repeat (first | refine blk_drewN ?_ _ | refine blk_drew ?_ | refine blk_alloc ?_ _)); refine blk_put (cs := #[.slice Ao56 t494.length co56, .int .i64 0, .int .i64 0, .slice none 0 0, .int .i64 0]) ?_ 1 _ rfl; (with_reducible repeat (first | refine blk_drewN ?_ _ | refine blk_drew ?_ | refine blk_alloc ?_ _)); refine blk_put (cs := #[.slice none 0 0, .int .i64 0, .int .i64 0, .slice none 0 0, .int .i64 0]) ?_ 0 _ rfl; (with_reducible repeat (first | refine blk_drewN ?_ _ | refine blk_drew ?_ | refine blk_alloc ?_ _)); exact BK503.out⟩, ⟨by repeat (first | (with_reducible first | exact HB.out | apply below_alloc | apply pw_below_drewN | apply below_drew1 | refine below_set ?_ GE450.out | refine below_set ?_ GE493.out | refine below_set ?_ GE503.out) | exact HB.out)⟩⟩
        case rest =>
         clear HC50
         try clear c1
         try clear c2
         try clear c2b0
         try clear c2b1
         try clear p2
         try clear c3
         try clear c4
         try clear c5
         try clear c6
         try clear p6
         try clear c7
         try clear c8
         try clear c9
         try clear c12
         try clear c12b0
         try clear c12b1
         try clear c37
         try clear c37b0
         try clear c37b1
         try clear c38
         try clear c38b0
         try clear c38b1
         try clear c39
         try clear c42
         try clear c45
         try clear c48
         try clear c51
         try clear c57
         try clear c58
         try clear c61
         try clear c61b0
         try clear c61b1
         try clear c63
         try clear p64
         try clear c65
         try clear c66
         try clear c67
         try clear c69
         try clear c71
         try clear c72
         try clear c74
         try clear c76
         try clear c77
         try clear c79
         try clear c80
         try clear hcz40_0
         try clear hcz40_1
         try clear hcz40_2
         try clear hcz40_3
         try clear hcz40_4
         try clear hcz41_0
         try clear hcz41_1
         try clear hcz41_2
         try clear hcz43_0
         try clear hcz43_1
         try clear hcz43_2
         try clear hcz43_3
         try clear hcz43_4
         try clear hcz44_0
         try clear hcz44_1
         try clear hcz44_2
         try clear hcz46_0
         try clear hcz46_1
         try clear hcz46_2
         try clear hcz46_3
         try clear hcz46_4
         try clear hcz52_0
         try clear hcz52_1
         try clear hcz52_2
         try clear hcz52_3
         try clear hcz52_4
         try clear hcz53_0
         try clear hcz53_1
         try clear hcz53_2
         try clear hcz59_0
         try clear hcz59_1
         try clear hcz59_2
         try clear hcz59_3
         try clear hcz59_4
         try clear hcz68_0
         try clear hcz68_1
         try clear hcz68_2
         try clear hcz68_3
         try clear hcz68_4
         try clear hcz70_0
         try clear hcz70_1
         try clear hcz70_2
         try clear hcz73_0
         try clear hcz73_1
         try clear hcz73_2
         try clear hcz73_3
         try clear hcz73_4
         try clear hcz75_0
         try clear hcz75_1
         try clear hcz75_2
         try clear hcz78_0
         try clear hcz78_1
         try clear hcz78_2
         try clear hcz78_3
         try clear hcz78_4
         try clear hcz81_0
         try clear hcz81_1
         try clear hcz81_2
         try clear hcz81_3
         try clear hcz81_4
         try clear hcz9_0
         try clear hcz9_1
         try clear hcz9_2
         try clear hfz40_0
         try clear hfz40_1
         try clear hfz40_2
         try clear hfz40_3
         try clear hfz40_4
         try clear hfz41_0
         try clear hfz41_1
         try clear hfz41_2
         try clear hfz43_0
         try clear hfz43_1
         try clear hfz43_2
         try clear hfz43_3
         try clear hfz43_4
         try clear hfz44_0
         try clear hfz44_1
         try clear hfz44_2
         try clear hfz46_0
         try clear hfz46_1
         try clear hfz46_2
         try clear hfz46_3
         try clear hfz46_4
         try clear hfz52_0
         try clear hfz52_1
         try clear hfz52_2
         try clear hfz52_3
         try clear hfz52_4
         try clear hfz53_0
         try clear hfz53_1
         try clear hfz53_2
         try clear hfz59_0
         try clear hfz59_1
         try clear hfz59_2
         try clear hfz59_3
         try clear hfz59_4
         try clear hfz68_0
         try clear hfz68_1
         try clear hfz68_2
         try clear hfz68_3
         try clear hfz68_4
         try clear hfz70_0
         try clear hfz70_1
         try clear hfz70_2
         try clear hfz73_0
         try clear hfz73_1
         try clear hfz73_2
         try clear hfz73_3
         try clear hfz73_4
         try clear hfz75_0
         try clear hfz75_1
         try clear hfz75_2
         try clear hfz78_0
         try clear hfz78_1
         try clear hfz78_2
         try clear hfz78_3
         try clear hfz78_4
         try clear hfz81_0
         try clear hfz81_1
         try clear hfz81_2
         try clear hfz81_3
         try clear hfz81_4
         try clear hfz9_0
         try clear hfz9_1
         try clear hfz9_2
         try clear p2
         try clear p6
         obtain ⟨kq, x95_49, rfl, HA, HJ49, HO_451000, HO_494000, HO_494003, HO_504000, HO_504003, BK450, BK493, BK503, HB⟩ := hcut
         cases kq with
         | zero => exact absurd HA.out (by simp [laws_FnInsert.j3])
         | succ kj49 =>
          have H := HA.out
          clear HA
          simp only [laws_FnInsert.j3] at H
          by_cases c82 : x95_49 = true
          ·subst c82
           have H1 : (some false) = some r := by rw [if_pos rfl] at H; exact H
           clear H
           have H := H1
           clear H1
           obtain rfl := Option.some.inj H
           go_wp2
           go_ret
           exact ⟨by first | rfl | (simp [errW_none, errW_some] <;> rfl) | (simp [*, errW_none, errW_some] <;> rfl), by repeat (first | (with_reducible first | exact HB.out | apply below_alloc | apply pw_below_drewN | apply below_drew1 | refine below_set ?_ GE450.out | refine below_set ?_ GE493.out | refine below_set ?_ GE503.out) | exact HB.out)⟩
          ·replace c82 := Bool.eq_false_iff.mpr c82
           subst c82
           have H1 : (if t498 = t446 then ((impl_BufSame.f kj49 t494 t497 t498 t442 t445 t446).bind fun t506 => (some t506)) else (some false)) = some r := by rw [if_neg (show ¬ (false = true) by decide)] at H; exact H
           clear H
           have H := H1
           clear H1
           by_cases c83 : t498 = t446
           ·rw [if_pos c83] at H
            have c83b0 : (t498 == t446) = true := beq_iff_eq.mpr c83
            have c83b1 : (t498 != t446) = false := bne_eq_false_iff_eq.mpr c83
            clear c83
            replace H := Option.bind_eq_some_iff.mp H
            obtain ⟨t506, A840, H⟩ := H
            replace H : (some t506) = some r := H
            have A84 := Aside0.mk A840
            clear A840
            obtain rfl := Option.some.inj H
            have hnb85 := NB503_450.out
            have hnc85 := NB450_503.out
            have hnb86 := NB503_493.out
            have hnc86 := NB493_503.out
            have hcz87_0 : wc.cell? ⟨gb503, 0, none⟩ = some (.slice Ao56 t494.length co56) := bc BK503.out 0
            have hcz87_1 : wc.cell? ⟨gb503, 1, none⟩ = some (.int .i64 t497) := bc BK503.out 1
            have hcz87_2 : wc.cell? ⟨gb503, 2, none⟩ = some (.int .i64 t498) := bc BK503.out 2
            have hcz87_3 : wc.cell? ⟨gb503, 3, none⟩ = some (.slice Ao60 t499.length co60) := bc BK503.out 3
            have hcz87_4 : wc.cell? ⟨gb503, 4, none⟩ = some (.int .i64 t502) := bc BK503.out 4
            have hfz87_0 := blk_frozen BK503.out 0
            have hfz87_1 := blk_frozen BK503.out 1
            have hfz87_2 := blk_frozen BK503.out 2
            have hfz87_3 := blk_frozen BK503.out 3
            have hfz87_4 := blk_frozen BK503.out 4
            have hnb88 := NB450_493.out
            have hnc88 := NB493_450.out
            have hcz89_0 : wc.cell? ⟨gb450, 0, none⟩ = some (.slice Ao8 t442.length co8) := bc BK450.out 0
            have hcz89_1 : wc.cell? ⟨gb450, 1, none⟩ = some (.int .i64 t445) := bc BK450.out 1
            have hcz89_2 : wc.cell? ⟨gb450, 2, none⟩ = some (.int .i64 t446) := bc BK450.out 2
            have hfz89_0 := blk_frozen BK450.out 0
            have hfz89_1 := blk_frozen BK450.out 1
            have hfz89_2 := blk_frozen BK450.out 2
            go_wp2_with (first | (go_at_call 11; (with_reducible refine (impl_BufSame.calls kj49 _ _ t494 t497 t498 _ _ t442 t445 t446 t506 _ ?side1 ?side2 ?side3 ?side4 A84.out).mono ?_); (case side1 => repeat (first | exact (Kd.R_reads' HO_504000.out).2.2 | (with_reducible refine Kd.C_alloc ?_ _) | (with_reducible refine Kd.C_drewN ?_ _) | (with_reducible refine Kd.C_drew ?_))); (case side2 => exact (Kd.R_reads' HO_504000.out).2.1); (case side3 => repeat (first | exact (Kd.R_reads' HO_451000.out).2.2 | (with_reducible refine Kd.C_alloc ?_ _) | (with_reducible refine Kd.C_drewN ?_ _) | (with_reducible refine Kd.C_drew ?_))); (case side4 => exact (Kd.R_reads' HO_451000.out).2.1); rintro e w90 ⟨rfl, hb⟩; replace HO_451000 := am (Kd.R_below (kr HO_451000.out) hb); replace HO_494000 := am (Kd.R_below (kr HO_494000.out) hb); replace HO_494003 := am (Kd.R_below (kr HO_494003.out) hb); replace HO_504000 := am (Kd.R_below (kr HO_504000.out) hb); replace HO_504003 := am (Kd.R_below (kr HO_504003.out) hb); replace BK450 := am (blk_below (pk BK450.out) hb); replace BK493 := am (blk_below (pk BK493.out) hb); replace BK503 := am (blk_below (pk BK503.out) hb); replace HB := am (below_step (bl HB.out) hb); (try clear hb); (try clear hb2); (try clear hk); (try clear hi)))
            go_ret
            exact ⟨by first | rfl | (simp [errW_none, errW_some] <;> rfl) | (simp [*, errW_none, errW_some] <;> rfl), by repeat (first | (with_reducible first | exact HB.out | apply below_alloc | apply pw_below_drewN | apply below_drew1 | refine below_set ?_ GE450.out | refine below_set ?_ GE493.out | refine below_set ?_ GE503.out) | exact HB.out)⟩
           ·rw [if_neg c83] at H
            have c83b0 : (t498 == t446) = false := beq_eq_false_iff_ne.mpr c83
            have c83b1 : (t498 != t446) = true := bne_iff_ne.mpr c83
            obtain rfl := Option.some.inj H
            have hnb91 := NB503_450.out
            have hnc91 := NB450_503.out
            have hnb92 := NB503_493.out
            have hnc92 := NB493_503.out
            have hcz93_0 : wc.cell? ⟨gb503, 0, none⟩ = some (.slice Ao56 t494.length co56) := bc BK503.out 0
            have hcz93_1 : wc.cell? ⟨gb503, 1, none⟩ = some (.int .i64 t497) := bc BK503.out 1
            have hcz93_2 : wc.cell? ⟨gb503, 2, none⟩ = some (.int .i64 t498) := bc BK503.out 2
            have hcz93_3 : wc.cell? ⟨gb503, 3, none⟩ = some (.slice Ao60 t499.length co60) := bc BK503.out 3
            have hcz93_4 : wc.cell? ⟨gb503, 4, none⟩ = some (.int .i64 t502) := bc BK503.out 4
            have hfz93_0 := blk_frozen BK503.out 0
            have hfz93_1 := blk_frozen BK503.out 1
            have hfz93_2 := blk_frozen BK503.out 2
            have hfz93_3 := blk_frozen BK503.out 3
            have hfz93_4 := blk_frozen BK503.out 4
            have hnb94 := NB450_493.out
            have hnc94 := NB493_450.out
            have hcz95_0 : wc.cell? ⟨gb450, 0, none⟩ = some (.slice Ao8 t442.length co8) := bc BK450.out 0
            have hcz95_1 : wc.cell? ⟨gb450, 1, none⟩ = some (.int .i64 t445) := bc BK450.out 1
            have hcz95_2 : wc.cell? ⟨gb450, 2, none⟩ = some (.int .i64 t446) := bc BK450.out 2
            have hfz95_0 := blk_frozen BK450.out 0
            have hfz95_1 := blk_frozen BK450.out 1
            have hfz95_2 := blk_frozen BK450.out 2
            go_wp2
            go_ret
            exact ⟨by first | rfl | (simp [errW_none, errW_some] <;> rfl) | (simp [*, errW_none, errW_some] <;> rfl), by repeat (first | (with_reducible first | exact HB.out | apply below_alloc | apply pw_below_drewN | apply below_drew1 | refine below_set ?_ GE450.out | refine below_set ?_ GE493.out | refine below_set ?_ GE503.out) | exact HB.out)⟩

/-- THE ONE PURE STATEMENT of laws_FnInsert. -/
def laws_FnInsert.Pure : Prop := ∀ (l0 : List Int), (l0.length ≤ maxLen ∧ ∀ y0_ ∈ l0, (Lit.int .u8 y0_).wf = true) → ∃ k, laws_FnInsert.f k l0 = some true

end Go.Proofs.Ytibfdbiimblepaa.PFnInsert
