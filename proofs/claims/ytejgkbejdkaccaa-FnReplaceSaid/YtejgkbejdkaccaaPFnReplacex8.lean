-- Written by xprint.py (this claim's own program, over the kit's printer); Lean checks it.
import Derived.Test.YtejgkbejdkaccaaPFnReplacex0
import Derived.Test.YtejgkbejdkaccaaPFnReplacex5
import Derived.Test.YtejgkbejdkaccaaPFnReplacex6
import Derived.Test.YtejgkbejdkaccaaPFnReplacex7
namespace Go.Proofs.Ytejgkbejdkaccaa.PFnReplace
open Go.RowKit Go.Proofs.YtejgkbejdkaccaaW.PrintWords Go.Proofs.YtejgkbejdkaccaaW.PrintLast Go.Proofs.YtejgkbejdkaccaaW.PrintMore
attribute [local go_sem] max2_int min2_int max_two min_two max_three min_three max_four min_four   -- for this text's walks alone
set_option linter.unusedVariables false
set_option linter.unusedSimpArgs false   -- squeezed

/-! ### spec_DrawBufReplace: function 36 -/
@[reducible] def b36_0 : Array Bool := (br true [0, 9]).toArray
@[reducible] def b36_1 : Array Bool := (br true [0, 1, 1, 7]).toArray
@[reducible] def b36_2 : Array Bool := (br true [0, 1, 2, 6]).toArray
@[reducible] def b36_3 : Array Bool := (br true [0, 1, 3, 5]).toArray
@[reducible] def b36_4 : Array Bool := (br true [4, 5]).toArray
@[reducible] def b36_5 : Array Bool := (br true [5, 4]).toArray
@[reducible] def b36_6 : Array Bool := (br true [6, 3]).toArray
@[reducible] def b36_7 : Array Bool := (br true [7, 2]).toArray
@[reducible] def b36_8 : Array Bool := (br true [8, 1]).toArray
@[reducible] def b36_9 : Array Bool := (br true [9]).toArray
def spec_DrawBufReplace.f (k : Nat) (l0 : List Int) : Option (List Int × Int × Int × Int × Int × List Int) := (spec_l01Source.f k l0).bind fun bt376 => ((spec_l01Src_l02Buf.f k bt376.1 bt376.2.1 bt376.2.2.1 bt376.2.2.2).bind fun bt381 => ((spec_l01Src_n.f bt376.1 bt381.2.2.2.1 bt381.2.2.2.2.1 bt381.2.2.2.2.2 (wrap64 ((bt381.1.length : Int) + 1))).bind fun bt390 => ((spec_l01Src_n.f bt376.1 bt390.2.1 bt390.2.2.1 bt390.2.2.2 (wrap64 ((wrap64 ((bt381.1.length : Int) - bt390.1)) + 1))).bind fun bt394 => ((spec_l01Src_one.f bt376.1 bt394.2.1 bt394.2.2.1 bt394.2.2.2 12).bind fun bt398 => (if bt398.1 = true then ((spec_l01Src_n.f bt376.1 bt398.2.1 bt398.2.2.1 bt398.2.2.2 (wrap64 ((bt381.1.length : Int) + 3))).bind fun bt402 => ((spec_l01Src_some.f k bt376.1 bt402.2.1 bt402.2.2.1 bt402.2.2.2).bind fun bt406 => (some (bt381.1, bt381.2.1, bt381.2.2.1, bt390.1, wrap64 (bt402.1 - 1), bt406.1)))) else ((spec_l01Src_some.f k bt376.1 bt398.2.1 bt398.2.2.1 bt398.2.2.2).bind fun bt412 => (some (bt381.1, bt381.2.1, bt381.2.2.1, bt390.1, wrap64 (bt390.1 + bt394.1), bt412.1))))))))
theorem spec_DrawBufReplace.mono : ∀ a0 k, LeO (spec_DrawBufReplace.f k a0) (spec_DrawBufReplace.f (k + 1) a0) := by
 intro a0 k
 unfold spec_DrawBufReplace.f
 repeat' first
   | (with_reducible exact spec_l01Source.mono _ _)
   | (with_reducible exact spec_l01Src_l02Buf.mono _ _ _ _ _)
   | (with_reducible exact spec_l01Src_some.mono _ _ _ _ _)
   | (with_reducible exact LeO.refl _)
   | (with_reducible exact LeO.none _)
   | (with_reducible refine LeO.ite ?_ ?_)
   | (with_reducible refine LeO.bind ?_ (fun _ => ?_))
   | exact spec_l01Source.mono _ _
   | exact spec_l01Src_l02Buf.mono _ _ _ _ _
   | exact spec_l01Src_some.mono _ _ _ _ _
   | exact LeO.none _
   | refine LeO.ite ?_ ?_
   | refine LeO.bind ?_ (fun _ => ?_)
def spec_DrawBufReplace.T8 : Bool × List (List Nat × List Nat) := (true, [([], []), ([], []), ([], []), ([], []), ([3], [3]), ([0, 4, 0], [0]), ([1, 5, 0, 1, 5], [1]), ([2, 6, 0, 1, 2, 5, 6], [2]), ([4, 7, 0, 1, 2, 3, 4, 5, 6, 7], [4])])
def spec_DrawBufReplace.B8 : List Nat := [0, 0, 0, 0, 8, 25, 59, 127, 255]
theorem spec_DrawBufReplace.tab8 : rtab .any (opsOf Try.f36 8) = spec_DrawBufReplace.T8 := by kernel_rfl
theorem spec_DrawBufReplace.bits8 : waitsOk spec_DrawBufReplace.T8.2 spec_DrawBufReplace.B8 = true := by kernel_rfl
set_option maxHeartbeats 8000000 in
set_option maxRecDepth 100000 in
theorem spec_DrawBufReplace.calls (k : Nat) (A0 : Option Addr) (c0 : Nat) (l0 : List Int) (r1 : List Int) (r2 : Int) (r3 : Int) (r4 : Int) (r5 : Int) (r6 : List Int) (w : World) (hr0 : Kd.C (Kd.int .u8) w A0 l0.length l0) (hc0 : l0.length ≤ c0) (h : spec_DrawBufReplace.f k l0 = some (r1, r2, r3, r4, r5, r6)) :
  Calls Try.prog 36 #[.slice A0 l0.length c0] w fun e w' => ∃ v0_ v5_ : Value, e = .returned (.tuple #[.agg #[v0_, .int .i64 r2, .int .i64 r3], .int .i64 r4, .int .i64 r5, v5_]) ∧ Kd.R (Kd.int .i64) 2 w' w.heap.size (fun k_ => some k_ ≠ (v5_ : Value).ownBlock) v0_ r1 ∧ Kd.R (Kd.int .i64) 2 w' w.heap.size (fun k_ => some k_ ≠ (v0_ : Value).ownBlock) v5_ r6 ∧ Below w.heap.size w w' := by
 have hu26 := Try.underlying26
 have HR0 := am hr0
 have HC0 := am hc0
 clear hr0 hc0
 have HB := am (Below.refl w.heap.size w)
 have H : ((spec_l01Source.f k l0).bind fun bt376 => ((spec_l01Src_l02Buf.f k bt376.1 bt376.2.1 bt376.2.2.1 bt376.2.2.2).bind fun bt381 => ((spec_l01Src_n.f bt376.1 bt381.2.2.2.1 bt381.2.2.2.2.1 bt381.2.2.2.2.2 (wrap64 ((bt381.1.length : Int) + 1))).bind fun bt390 => ((spec_l01Src_n.f bt376.1 bt390.2.1 bt390.2.2.1 bt390.2.2.2 (wrap64 ((wrap64 ((bt381.1.length : Int) - bt390.1)) + 1))).bind fun bt394 => ((spec_l01Src_one.f bt376.1 bt394.2.1 bt394.2.2.1 bt394.2.2.2 12).bind fun bt398 => (if bt398.1 = true then ((spec_l01Src_n.f bt376.1 bt398.2.1 bt398.2.2.1 bt398.2.2.2 (wrap64 ((bt381.1.length : Int) + 3))).bind fun bt402 => ((spec_l01Src_some.f k bt376.1 bt402.2.1 bt402.2.2.1 bt402.2.2.2).bind fun bt406 => (some (bt381.1, bt381.2.1, bt381.2.2.1, bt390.1, wrap64 (bt402.1 - 1), bt406.1)))) else ((spec_l01Src_some.f k bt376.1 bt398.2.1 bt398.2.2.1 bt398.2.2.2).bind fun bt412 => (some (bt381.1, bt381.2.1, bt381.2.2.1, bt390.1, wrap64 (bt390.1 + bt394.1), bt412.1))))))))) = some (r1, r2, r3, r4, r5, r6) := h
 clear h
 replace H := Option.bind_eq_some_iff.mp H
 obtain ⟨⟨t376, t377, t378, t379⟩, A20, H⟩ := H
 replace H : ((spec_l01Src_l02Buf.f k t376 t377 t378 t379).bind fun bt381 => ((spec_l01Src_n.f t376 bt381.2.2.2.1 bt381.2.2.2.2.1 bt381.2.2.2.2.2 (wrap64 ((bt381.1.length : Int) + 1))).bind fun bt390 => ((spec_l01Src_n.f t376 bt390.2.1 bt390.2.2.1 bt390.2.2.2 (wrap64 ((wrap64 ((bt381.1.length : Int) - bt390.1)) + 1))).bind fun bt394 => ((spec_l01Src_one.f t376 bt394.2.1 bt394.2.2.1 bt394.2.2.2 12).bind fun bt398 => (if bt398.1 = true then ((spec_l01Src_n.f t376 bt398.2.1 bt398.2.2.1 bt398.2.2.2 (wrap64 ((bt381.1.length : Int) + 3))).bind fun bt402 => ((spec_l01Src_some.f k t376 bt402.2.1 bt402.2.2.1 bt402.2.2.2).bind fun bt406 => (some (bt381.1, bt381.2.1, bt381.2.2.1, bt390.1, wrap64 (bt402.1 - 1), bt406.1)))) else ((spec_l01Src_some.f k t376 bt398.2.1 bt398.2.2.1 bt398.2.2.2).bind fun bt412 => (some (bt381.1, bt381.2.1, bt381.2.2.1, bt390.1, wrap64 (bt390.1 + bt394.1), bt412.1)))))))) = some (r1, r2, r3, r4, r5, r6) := H
 have A2 := Aside0.mk A20
 clear A20
 replace H := Option.bind_eq_some_iff.mp H
 obtain ⟨⟨t381, t384, t385, t386, t387, t388⟩, A30, H⟩ := H
 replace H : ((spec_l01Src_n.f t376 t386 t387 t388 (wrap64 ((t381.length : Int) + 1))).bind fun bt390 => ((spec_l01Src_n.f t376 bt390.2.1 bt390.2.2.1 bt390.2.2.2 (wrap64 ((wrap64 ((t381.length : Int) - bt390.1)) + 1))).bind fun bt394 => ((spec_l01Src_one.f t376 bt394.2.1 bt394.2.2.1 bt394.2.2.2 12).bind fun bt398 => (if bt398.1 = true then ((spec_l01Src_n.f t376 bt398.2.1 bt398.2.2.1 bt398.2.2.2 (wrap64 ((t381.length : Int) + 3))).bind fun bt402 => ((spec_l01Src_some.f k t376 bt402.2.1 bt402.2.2.1 bt402.2.2.2).bind fun bt406 => (some (t381, t384, t385, bt390.1, wrap64 (bt402.1 - 1), bt406.1)))) else ((spec_l01Src_some.f k t376 bt398.2.1 bt398.2.2.1 bt398.2.2.2).bind fun bt412 => (some (t381, t384, t385, bt390.1, wrap64 (bt390.1 + bt394.1), bt412.1))))))) = some (r1, r2, r3, r4, r5, r6) := H
 have A3 := Aside0.mk A30
 clear A30
 replace H := Option.bind_eq_some_iff.mp H
 obtain ⟨⟨t390, t391, t392, t393⟩, A40, H⟩ := H
 replace H : ((spec_l01Src_n.f t376 t391 t392 t393 (wrap64 ((wrap64 ((t381.length : Int) - t390)) + 1))).bind fun bt394 => ((spec_l01Src_one.f t376 bt394.2.1 bt394.2.2.1 bt394.2.2.2 12).bind fun bt398 => (if bt398.1 = true then ((spec_l01Src_n.f t376 bt398.2.1 bt398.2.2.1 bt398.2.2.2 (wrap64 ((t381.length : Int) + 3))).bind fun bt402 => ((spec_l01Src_some.f k t376 bt402.2.1 bt402.2.2.1 bt402.2.2.2).bind fun bt406 => (some (t381, t384, t385, t390, wrap64 (bt402.1 - 1), bt406.1)))) else ((spec_l01Src_some.f k t376 bt398.2.1 bt398.2.2.1 bt398.2.2.2).bind fun bt412 => (some (t381, t384, t385, t390, wrap64 (t390 + bt394.1), bt412.1)))))) = some (r1, r2, r3, r4, r5, r6) := H
 have A4 := Aside0.mk A40
 clear A40
 replace H := Option.bind_eq_some_iff.mp H
 obtain ⟨⟨t394, t395, t396, t397⟩, A50, H⟩ := H
 replace H : ((spec_l01Src_one.f t376 t395 t396 t397 12).bind fun bt398 => (if bt398.1 = true then ((spec_l01Src_n.f t376 bt398.2.1 bt398.2.2.1 bt398.2.2.2 (wrap64 ((t381.length : Int) + 3))).bind fun bt402 => ((spec_l01Src_some.f k t376 bt402.2.1 bt402.2.2.1 bt402.2.2.2).bind fun bt406 => (some (t381, t384, t385, t390, wrap64 (bt402.1 - 1), bt406.1)))) else ((spec_l01Src_some.f k t376 bt398.2.1 bt398.2.2.1 bt398.2.2.2).bind fun bt412 => (some (t381, t384, t385, t390, wrap64 (t390 + t394), bt412.1))))) = some (r1, r2, r3, r4, r5, r6) := H
 have A5 := Aside0.mk A50
 clear A50
 replace H := Option.bind_eq_some_iff.mp H
 obtain ⟨⟨t398, t399, t400, t401⟩, A60, H⟩ := H
 replace H : (if t398 = true then ((spec_l01Src_n.f t376 t399 t400 t401 (wrap64 ((t381.length : Int) + 3))).bind fun bt402 => ((spec_l01Src_some.f k t376 bt402.2.1 bt402.2.2.1 bt402.2.2.2).bind fun bt406 => (some (t381, t384, t385, t390, wrap64 (bt402.1 - 1), bt406.1)))) else ((spec_l01Src_some.f k t376 t399 t400 t401).bind fun bt412 => (some (t381, t384, t385, t390, wrap64 (t390 + t394), bt412.1)))) = some (r1, r2, r3, r4, r5, r6) := H
 have A6 := Aside0.mk A60
 clear A60
 by_cases c7 : t398 = true
 ·subst c7
  have H1 : ((spec_l01Src_n.f t376 t399 t400 t401 (wrap64 ((t381.length : Int) + 3))).bind fun bt402 => ((spec_l01Src_some.f k t376 bt402.2.1 bt402.2.2.1 bt402.2.2.2).bind fun bt406 => (some (t381, t384, t385, t390, wrap64 (bt402.1 - 1), bt406.1)))) = some (r1, r2, r3, r4, r5, r6) := by rw [if_pos rfl] at H; exact H
  clear H
  have H := H1
  clear H1
  replace H := Option.bind_eq_some_iff.mp H
  obtain ⟨⟨t402, t403, t404, t405⟩, A80, H⟩ := H
  replace H : ((spec_l01Src_some.f k t376 t403 t404 t405).bind fun bt406 => (some (t381, t384, t385, t390, wrap64 (t402 - 1), bt406.1))) = some (r1, r2, r3, r4, r5, r6) := H
  have A8 := Aside0.mk A80
  clear A80
  replace H := Option.bind_eq_some_iff.mp H
  obtain ⟨⟨t406, t409, t410, t411⟩, A90, H⟩ := H
  replace H : (some (t381, t384, t385, t390, wrap64 (t402 - 1), t406)) = some (r1, r2, r3, r4, r5, r6) := H
  have A9 := Aside0.mk A90
  clear A90
  simp only [Option.some.injEq, Prod.mk.injEq] at H
  obtain ⟨rfl, rfl, rfl, rfl, rfl, rfl⟩ := H
  go_enter Try.func36, Try.ntmps36
  try go_wp2_with (first | ((with_reducible refine gate_dst (N := 2) rfl ?_); refine box_event ?hg (N := 2) ?hd (cs := #[.slice none 0 0, .int .i64 0, .int .i64 0]) (t := 26) ?hr ?_; (case hd => rfl); (case hg => rfl); (case hr => first | (go_simp; done) | (go_simp; rfl)); intro gb375 hg w10 hbox hb; have BK375 := am (hbox); have GW375 := am ((by rw [hg]; exact (below_size (bl HB.out)) : w.heap.size ≤ gb375)); have GE375 := GW375; replace HB := am (below_step (bl HB.out) hb); clear hb hbox hg) | ((with_reducible refine gate_callee (f := 60) rfl ?_); refine gl (some 12) Try.func60 #[.slice A0 l0.length c0] ?_; (with_reducible refine (spec_l01Source.calls k _ _ l0 t376 t377 t378 t379 w _ ?side1 ?side2 ?side3 A2.out).mono ?_); (case side1 => repeat (first | (with_reducible first | exact HB.out | apply below_alloc | apply pw_below_drewN | apply below_drew1 | refine below_set ?_ GE375.out) | exact HB.out)); (case side2 => exact HR0.out); (case side3 => exact HC0.out); rintro e w11 ⟨g380, rfl, hi, hb, hb2⟩; refine ⟨_, rfl, ?_⟩; replace HB := am (hb); have HI380 := am (hi); have NB380_375 := am (IsS87.ne_blk hi (blk_below (pk BK375.out) hb2) (by decide)); have NB375_380 := am (Ne.symm (IsS87.ne_blk hi (blk_below (pk BK375.out) hb2) (by decide))); replace BK375 := am (blk_below (pk BK375.out) hb2); (try clear hb); (try clear hb2); (try clear hk); (try clear hi)) | ((with_reducible refine gate_callee (f := 61) rfl ?_); refine gl (some 14) Try.func61 #[.pointer (some ⟨g380, 0, none⟩)] ?_; (with_reducible refine (spec_l01Src_l02Buf.calls k g380 t376 t377 t378 t379 t381 t384 t385 t386 t387 t388 w _ ?side1 ?side2 A3.out).mono ?_); (case side1 => repeat (first | (with_reducible first | exact HI380.out | apply IsS87.alloc | apply IsS87.drewN | apply IsS87.drew | apply IsS87.set_1 | apply IsS87.set_2 | apply IsS87.set_3 | refine IsS87.far ?_ NB380_375.out _) | exact HI380.out)); (case side2 => repeat (first | (with_reducible first | exact HB.out | apply below_alloc | apply pw_below_drewN | apply below_drew1 | refine below_set ?_ (IsS87.ge HI380.out) | refine below_set ?_ GE375.out) | exact HB.out)); rintro e w12 ⟨v382, rfl, ho0, hi, hb, hk⟩; refine ⟨_, rfl, ?_⟩; replace BK375 := am (KeepBut.blk hk (g' := gb375) (o := .cells #[.slice none 0 0, .int .i64 0, .int .i64 0] 26 (0, 0)) (pk BK375.out) NB375_380.out (by simp)); have HO383 := am (Kd.R_lower ho0 (below_size (by repeat (first | (with_reducible first | exact HB.out | apply below_alloc | apply pw_below_drewN | apply below_drew1 | refine below_set ?_ (IsS87.ge HI380.out) | refine below_set ?_ GE375.out) | exact HB.out)))); replace HB := am (hb); replace HI380 := am (hi); (try clear hb); (try clear hb2); (try clear hk); (try clear hi); (try clear ho0)) | ((with_reducible refine gate_dst (N := 7) rfl ?_); refine box_event ?hg (N := 7) ?hd (cs := #[.slice none 0 0, .int .i64 0, .int .i64 0]) (t := 26) ?hr ?_; (case hd => rfl); (case hg => rfl); (case hr => first | (go_simp; done) | (go_simp; rfl)); intro gb389 hg w13 hbox hb; replace HO383 := am (Kd.R_below (kr HO383.out) hb); have BK389 := am (hbox); have GW389 := am ((by rw [hg]; exact (below_size (by repeat (first | (with_reducible first | exact HB.out | apply below_alloc | apply pw_below_drewN | apply below_drew1 | refine below_set ?_ (IsS87.ge HI380.out) | refine below_set ?_ GE375.out) | exact HB.out))) : w.heap.size ≤ gb389)); have GE389 := GW389; replace HB := am (below_step (by repeat (first | (with_reducible first | exact HB.out | apply below_alloc | apply pw_below_drewN | apply below_drew1 | refine below_set ?_ (IsS87.ge HI380.out) | refine below_set ?_ GE375.out) | exact HB.out)) hb); have NB375_389 := am ((by rw [hg]; exact Nat.ne_of_lt (blk_lt (pk BK375.out)) : gb375 ≠ gb389)); have NB389_375 := am ((by rw [hg]; exact Nat.ne_of_gt (blk_lt (pk BK375.out)) : gb389 ≠ gb375)); replace BK375 := am (blk_below (pk BK375.out) hb); have NB380_389 := am ((by rw [hg]; exact Nat.ne_of_lt (IsS87.lt (show IsS87 w _ g380 t376 t386 t387 t388 from by repeat (first | (with_reducible first | exact HI380.out | apply IsS87.alloc | apply IsS87.drewN | apply IsS87.drew | apply IsS87.set_1 | apply IsS87.set_2 | apply IsS87.set_3 | refine IsS87.far ?_ NB380_375.out _) | exact HI380.out))) : g380 ≠ gb389)); have NB389_380 := am ((by rw [hg]; exact Nat.ne_of_gt (IsS87.lt (show IsS87 w _ g380 t376 t386 t387 t388 from by repeat (first | (with_reducible first | exact HI380.out | apply IsS87.alloc | apply IsS87.drewN | apply IsS87.drew | apply IsS87.set_1 | apply IsS87.set_2 | apply IsS87.set_3 | refine IsS87.far ?_ NB380_375.out _) | exact HI380.out))) : gb389 ≠ g380)); replace HI380 := am (IsS87.below (by repeat (first | (with_reducible first | exact HI380.out | apply IsS87.alloc | apply IsS87.drewN | apply IsS87.drew | apply IsS87.set_1 | apply IsS87.set_2 | apply IsS87.set_3 | refine IsS87.far ?_ NB380_375.out _) | exact HI380.out)) hb); clear hb hbox hg; obtain ⟨Ao14, co14, eo14⟩ := Kd.R_slice HO383.out; subst eo14; have hnb15 := NB389_375.out; have hnc15 := NB375_389.out; have hnb16 := NB389_380.out; have hnc16 := NB380_389.out; have hcz17_0 : w13.cell? ⟨gb389, 0, none⟩ = some (.slice none 0 0) := bc BK389.out 0; have hcz17_1 : w13.cell? ⟨gb389, 1, none⟩ = some (.int .i64 0) := bc BK389.out 1; have hcz17_2 : w13.cell? ⟨gb389, 2, none⟩ = some (.int .i64 0) := bc BK389.out 2; have hfz17_0 := blk_frozen BK389.out 0; have hfz17_1 := blk_frozen BK389.out 1; have hfz17_2 := blk_frozen BK389.out 2) | ((with_reducible refine gate_callee (f := 62) rfl ?_); refine gl (some 21) Try.func62 #[.pointer (some ⟨g380, 0, none⟩), .int .i64 (wrap64 ((t381.length : Int) + 1))] ?_; (with_reducible refine (spec_l01Src_n.calls g380 t376 t386 t387 t388 (wrap64 ((t381.length : Int) + 1)) t390 t391 t392 t393 w _ ?side1 ?side2 A4.out).mono ?_); (case side1 => repeat (first | (with_reducible first | exact HI380.out | apply IsS87.alloc | apply IsS87.drewN | apply IsS87.drew | apply IsS87.set_1 | apply IsS87.set_2 | apply IsS87.set_3 | refine IsS87.far ?_ NB380_375.out _ | refine IsS87.far ?_ NB380_389.out _) | exact HI380.out)); (case side2 => repeat (first | (with_reducible first | exact HB.out | apply below_alloc | apply pw_below_drewN | apply below_drew1 | refine below_set ?_ (IsS87.ge HI380.out) | refine below_set ?_ GE375.out | refine below_set ?_ GE389.out) | exact HB.out)); rintro e w18 ⟨rfl, hi, hb, hk⟩; refine ⟨_, rfl, ?_⟩; replace BK375 := am (KeepBut.blk hk (g' := gb375) (o := .cells #[.slice none 0 0, .int .i64 0, .int .i64 0] 26 (0, 0)) (by (with_reducible repeat (first | refine blk_drewN ?_ _ | refine blk_drew ?_ | refine blk_alloc ?_ _)); refine blk_far ?_ NB375_389.out _; (with_reducible repeat (first | refine blk_drewN ?_ _ | refine blk_drew ?_ | refine blk_alloc ?_ _)); refine blk_far ?_ NB375_389.out _; (with_reducible repeat (first | refine blk_drewN ?_ _ | refine blk_drew ?_ | refine blk_alloc ?_ _)); refine blk_far ?_ NB375_389.out _; (with_reducible repeat (first | refine blk_drewN ?_ _ | refine blk_drew ?_ | refine blk_alloc ?_ _)); exact BK375.out) NB375_380.out (by simp)); replace HO383 := am (Kd.R_mono (Kd.R_keep (IsS87.apart (show IsS87 w _ g380 t376 t386 t387 t388 from by repeat (first | (with_reducible first | exact HI380.out | apply IsS87.alloc | apply IsS87.drewN | apply IsS87.drew | apply IsS87.set_1 | apply IsS87.set_2 | apply IsS87.set_3 | refine IsS87.far ?_ NB380_375.out _ | refine IsS87.far ?_ NB380_389.out _) | exact HI380.out)) (kr ((Kd.R_mono (Kd.R_far (p := ⟨gb389, 2, none⟩) (Kd.R_far (p := ⟨gb389, 1, none⟩) (Kd.R_far (p := ⟨gb389, 0, none⟩) (Kd.R_types HO383.out BK389.out (by decide)) (fun _ hk => hk.2) (.slice Ao14 t381.length co14)) (fun _ hk => hk.2) (.int .i64 t384)) (fun _ hk => hk.2) (.int .i64 t385)) (fun _ h_ => h_.1)))) (by decide)) hk (fun _ h => h.2)) (fun _ h => h.1)); replace BK389 := am (KeepBut.blk hk (g' := gb389) (o := .cells #[.slice Ao14 t381.length co14, .int .i64 t384, .int .i64 t385] 26 (0, 0)) (by (with_reducible repeat (first | refine blk_drewN ?_ _ | refine blk_drew ?_ | refine blk_alloc ?_ _)); refine blk_put (cs := #[.slice Ao14 t381.length co14, .int .i64 t384, .int .i64 0]) ?_ 2 _ rfl; (with_reducible repeat (first | refine blk_drewN ?_ _ | refine blk_drew ?_ | refine blk_alloc ?_ _)); refine blk_put (cs := #[.slice Ao14 t381.length co14, .int .i64 0, .int .i64 0]) ?_ 1 _ rfl; (with_reducible repeat (first | refine blk_drewN ?_ _ | refine blk_drew ?_ | refine blk_alloc ?_ _)); refine blk_put (cs := #[.slice none 0 0, .int .i64 0, .int .i64 0]) ?_ 0 _ rfl; (with_reducible repeat (first | refine blk_drewN ?_ _ | refine blk_drew ?_ | refine blk_alloc ?_ _)); exact BK389.out) NB389_380.out (by simp)); replace HB := am (hb); replace HI380 := am (hi); (try clear hb); (try clear hb2); (try clear hk); (try clear hi)) | ((with_reducible refine gate_callee (f := 62) rfl ?_); refine gl (some 28) Try.func62 #[.pointer (some ⟨g380, 0, none⟩), .int .i64 (wrap64 ((wrap64 ((t381.length : Int) - t390)) + 1))] ?_; (with_reducible refine (spec_l01Src_n.calls g380 t376 t391 t392 t393 (wrap64 ((wrap64 ((t381.length : Int) - t390)) + 1)) t394 t395 t396 t397 w _ ?side1 ?side2 A5.out).mono ?_); (case side1 => repeat (first | (with_reducible first | exact HI380.out | apply IsS87.alloc | apply IsS87.drewN | apply IsS87.drew | apply IsS87.set_1 | apply IsS87.set_2 | apply IsS87.set_3 | refine IsS87.far ?_ NB380_375.out _ | refine IsS87.far ?_ NB380_389.out _) | exact HI380.out)); (case side2 => repeat (first | (with_reducible first | exact HB.out | apply below_alloc | apply pw_below_drewN | apply below_drew1 | refine below_set ?_ (IsS87.ge HI380.out) | refine below_set ?_ GE375.out | refine below_set ?_ GE389.out) | exact HB.out)); rintro e w19 ⟨rfl, hi, hb, hk⟩; refine ⟨_, rfl, ?_⟩; replace BK375 := am (KeepBut.blk hk (g' := gb375) (o := .cells #[.slice none 0 0, .int .i64 0, .int .i64 0] 26 (0, 0)) (pk BK375.out) NB375_380.out (by simp)); replace HO383 := am (Kd.R_mono (Kd.R_keep (IsS87.apart (show IsS87 w _ g380 t376 t391 t392 t393 from by repeat (first | (with_reducible first | exact HI380.out | apply IsS87.alloc | apply IsS87.drewN | apply IsS87.drew | apply IsS87.set_1 | apply IsS87.set_2 | apply IsS87.set_3 | refine IsS87.far ?_ NB380_375.out _ | refine IsS87.far ?_ NB380_389.out _) | exact HI380.out)) (kr HO383.out) (by decide)) hk (fun _ h => h.2)) (fun _ h => h.1)); replace BK389 := am (KeepBut.blk hk (g' := gb389) (o := .cells #[.slice Ao14 t381.length co14, .int .i64 t384, .int .i64 t385] 26 (0, 0)) (pk BK389.out) NB389_380.out (by simp)); replace HB := am (hb); replace HI380 := am (hi); (try clear hb); (try clear hb2); (try clear hk); (try clear hi)) | ((with_reducible refine gate_callee (f := 63) rfl ?_); refine gl (some 31) Try.func63 #[.pointer (some ⟨g380, 0, none⟩), .int .i64 12] ?_; (with_reducible refine (spec_l01Src_one.calls g380 t376 t395 t396 t397 12 true t399 t400 t401 w _ ?side1 ?side2 A6.out).mono ?_); (case side1 => repeat (first | (with_reducible first | exact HI380.out | apply IsS87.alloc | apply IsS87.drewN | apply IsS87.drew | apply IsS87.set_1 | apply IsS87.set_2 | apply IsS87.set_3 | refine IsS87.far ?_ NB380_375.out _ | refine IsS87.far ?_ NB380_389.out _) | exact HI380.out)); (case side2 => repeat (first | (with_reducible first | exact HB.out | apply below_alloc | apply pw_below_drewN | apply below_drew1 | refine below_set ?_ (IsS87.ge HI380.out) | refine below_set ?_ GE375.out | refine below_set ?_ GE389.out) | exact HB.out)); rintro e w20 ⟨rfl, hi, hb, hk⟩; refine ⟨_, rfl, ?_⟩; replace BK375 := am (KeepBut.blk hk (g' := gb375) (o := .cells #[.slice none 0 0, .int .i64 0, .int .i64 0] 26 (0, 0)) (pk BK375.out) NB375_380.out (by simp)); replace HO383 := am (Kd.R_mono (Kd.R_keep (IsS87.apart (show IsS87 w _ g380 t376 t395 t396 t397 from by repeat (first | (with_reducible first | exact HI380.out | apply IsS87.alloc | apply IsS87.drewN | apply IsS87.drew | apply IsS87.set_1 | apply IsS87.set_2 | apply IsS87.set_3 | refine IsS87.far ?_ NB380_375.out _ | refine IsS87.far ?_ NB380_389.out _) | exact HI380.out)) (kr HO383.out) (by decide)) hk (fun _ h => h.2)) (fun _ h => h.1)); replace BK389 := am (KeepBut.blk hk (g' := gb389) (o := .cells #[.slice Ao14 t381.length co14, .int .i64 t384, .int .i64 t385] 26 (0, 0)) (pk BK389.out) NB389_380.out (by simp)); replace HB := am (hb); replace HI380 := am (hi); (try clear hb); (try clear hb2); (try clear hk); (try clear hi)) | ((with_reducible refine gate_callee (f := 62) rfl ?_); refine gl (some 35) Try.func62 #[.pointer (some ⟨g380, 0, none⟩), .int .i64 (wrap64 ((t381.length : Int) + 3))] ?_; (with_reducible refine (spec_l01Src_n.calls g380 t376 t399 t400 t401 (wrap64 ((t381.length : Int) + 3)) t402 t403 t404 t405 w _ ?side1 ?side2 A8.out).mono ?_); (case side1 => repeat (first | (with_reducible first | exact HI380.out | apply IsS87.alloc | apply IsS87.drewN | apply IsS87.drew | apply IsS87.set_1 | apply IsS87.set_2 | apply IsS87.set_3 | refine IsS87.far ?_ NB380_375.out _ | refine IsS87.far ?_ NB380_389.out _) | exact HI380.out)); (case side2 => repeat (first | (with_reducible first | exact HB.out | apply below_alloc | apply pw_below_drewN | apply below_drew1 | refine below_set ?_ (IsS87.ge HI380.out) | refine below_set ?_ GE375.out | refine below_set ?_ GE389.out) | exact HB.out)); rintro e w21 ⟨rfl, hi, hb, hk⟩; refine ⟨_, rfl, ?_⟩; replace BK375 := am (KeepBut.blk hk (g' := gb375) (o := .cells #[.slice none 0 0, .int .i64 0, .int .i64 0] 26 (0, 0)) (pk BK375.out) NB375_380.out (by simp)); replace HO383 := am (Kd.R_mono (Kd.R_keep (IsS87.apart (show IsS87 w _ g380 t376 t399 t400 t401 from by repeat (first | (with_reducible first | exact HI380.out | apply IsS87.alloc | apply IsS87.drewN | apply IsS87.drew | apply IsS87.set_1 | apply IsS87.set_2 | apply IsS87.set_3 | refine IsS87.far ?_ NB380_375.out _ | refine IsS87.far ?_ NB380_389.out _) | exact HI380.out)) (kr HO383.out) (by decide)) hk (fun _ h => h.2)) (fun _ h => h.1)); replace BK389 := am (KeepBut.blk hk (g' := gb389) (o := .cells #[.slice Ao14 t381.length co14, .int .i64 t384, .int .i64 t385] 26 (0, 0)) (pk BK389.out) NB389_380.out (by simp)); replace HB := am (hb); replace HI380 := am (hi); (try clear hb); (try clear hb2); (try clear hk); (try clear hi)))
  replace HO383 := am (Kd.R_drew HO383.out)
  replace BK375 := am (blk_drew BK375.out)
  replace BK389 := am (blk_drew BK389.out)
  replace HI380 := am (IsS87.drew HI380.out)
  replace HB := am (below_drew1 HB.out)
  refine start_ (n := 9) (S := fun w' => w'.cell? ⟨gb389, 0, none⟩ = some (.slice Ao14 t381.length co14) ∧ w'.cell? ⟨gb389, 1, none⟩ = some (.int .i64 t384) ∧ w'.cell? ⟨gb389, 2, none⟩ = some (.int .i64 t385)) (ds := []) b36_0 (by kernel_rfl) rfl rfl ⟨bc BK389.out 0, bc BK389.out 1, bc BK389.out 2⟩ (fun hHeld => ?_); refine with_tabW spec_DrawBufReplace.tab8 spec_DrawBufReplace.bits8 (fun HT_ HW_ => ?_)
  generalize w21.drew = w22 at HO383 BK375 BK389 HI380 HB hHeld ⊢
  refine pu_ 1 (some 38) ?_ b36_1 rfl rfl HT_.out (by kernel_rfl) (fun _ _ _ h => h) (Or.inl ⟨by rfl, ?_⟩) ?_ ?_ ?_; rotate_left
  ·intro w'; go_simp; with_reducible rfl
  rotate_left
  ·simp only [Act.put, sa_, s0_, ss_, i64_w, i32_w]; rfl
  refine pu_ 2 (some 39) ?_ b36_2 rfl rfl HT_.out (by kernel_rfl) (fun _ _ _ h => h) (Or.inl ⟨by rfl, ?_⟩) ?_ ?_ ?_; rotate_left
  ·intro w'; go_simp; with_reducible rfl
  rotate_left
  ·simp only [Act.put, sa_, s0_, ss_, i64_w, i32_w]; rfl
  refine pu_ 3 (some 40) ?_ b36_3 rfl rfl HT_.out (by kernel_rfl) (fun _ _ _ h => h) (Or.inl ⟨by rfl, ?_⟩) ?_ ?_ ?_; rotate_left
  ·intro w'; go_simp; with_reducible rfl
  rotate_left
  ·simp only [Act.put, sa_, s0_, ss_, i64_w, i32_w]; rfl
  refine tk_ 0 (some 37) ?_ b36_4 rfl rfl HT_.out HW_.out (by kernel_rfl) (fun _ _ _ h => h) (Or.inl ⟨by rfl, ?_⟩) hHeld ?_ ?_ ?_; rotate_left
  ·rintro w' ⟨s0, s1, s2⟩; go_simp; with_reducible rfl
  rotate_left
  ·simp only [Act.put, sa_, s0_, ss_, i64_w, i32_w]; rfl
  refine one_ (i := 4) (N := some 41) b36_5 rfl rfl (one_of HT_.out (by kernel_rfl)) (by decide) (fun K hK => ?_)
  refine goes_ Try.func64 (by kernel_rfl) rfl #[.pointer (some ⟨g380, 0, none⟩)] (by rfl) rfl rfl (by (try simp only [List.map_toArray, List.map_cons, List.map_nil]); first | done | rfl | (simp only [List.length_drop, List.length_take]; rfl)) ?_
  with_reducible refine (spec_l01Src_some.calls k g380 t376 t403 t404 t405 t406 t409 t410 t411 w _ ?side1 ?side2 A9.out).mono ?_
  (case side1 => repeat (first | (with_reducible first | exact HI380.out | apply IsS87.alloc | apply IsS87.drewN | apply IsS87.drew | apply IsS87.set_1 | apply IsS87.set_2 | apply IsS87.set_3 | refine IsS87.far ?_ NB380_375.out _ | refine IsS87.far ?_ NB380_389.out _) | exact HI380.out))
  (case side2 => repeat (first | (with_reducible first | exact HB.out | apply below_alloc | apply pw_below_drewN | apply below_drew1 | refine below_set ?_ (IsS87.ge HI380.out) | refine below_set ?_ GE375.out | refine below_set ?_ GE389.out) | exact HB.out))
  rintro e w23 ⟨v407, rfl, ho0, hi, hb, hk⟩
  refine ⟨_, rfl, ?_⟩
  replace BK375 := am (KeepBut.blk hk (g' := gb375) (o := .cells #[.slice none 0 0, .int .i64 0, .int .i64 0] 26 (0, 0)) (pk BK375.out) NB375_380.out (by simp))
  replace BK389 := am (KeepBut.blk hk (g' := gb389) (o := .cells #[.slice Ao14 t381.length co14, .int .i64 t384, .int .i64 t385] 26 (0, 0)) (pk BK389.out) NB389_380.out (by simp))
  have HO408 := am (Kd.R_lower (Kd.R_new' ho0 (Kd.R_lt (kr HO383.out))) (below_size (by repeat (first | (with_reducible first | exact HB.out | apply below_alloc | apply pw_below_drewN | apply below_drew1 | refine below_set ?_ (IsS87.ge HI380.out) | refine below_set ?_ GE375.out | refine below_set ?_ GE389.out) | exact HB.out))))
  replace HO383 := am (Kd.R_mono (Kd.R_told (Kd.R_oldK (IsS87.apart (show IsS87 w _ g380 t376 t403 t404 t405 from by repeat (first | (with_reducible first | exact HI380.out | apply IsS87.alloc | apply IsS87.drewN | apply IsS87.drew | apply IsS87.set_1 | apply IsS87.set_2 | apply IsS87.set_3 | refine IsS87.far ?_ NB380_375.out _ | refine IsS87.far ?_ NB380_389.out _) | exact HI380.out)) (kr HO383.out) (by decide)) hk) (Kd.R_base ho0)) (fun _ h_ => h_.1))
  replace HB := am (hb)
  replace HI380 := am (hi)
  (try clear hb)
  (try clear hb2)
  (try clear hk)
  (try clear hi)
  (try clear ho0)
  refine hK.out _ _ ⟨bc BK389.out 0, bc BK389.out 1, bc BK389.out 2⟩ (fun hHeld => ?_)
  clear hK K
  refine norm_ (a' := ?_) ?_ ?_
  rotate_left
  ·show Act.put _ (some 41) _ = _
   simp only [Act.put, sa_, s0_, ss_, i64_w, i32_w]
   rfl
  refine one_ (i := 5) (N := none) b36_6 rfl rfl (one_of HT_.out (by kernel_rfl)) (by decide) (fun K hK => ?_)
  have hs24 : w23.cell? ⟨gb375, 0, none⟩ = some (.slice none 0 0) := bc BK375.out 0
  have hfs24 := blk_frozen BK375.out 0
  have hns24_1 := NB389_375.out
  have hms24_1 := NB375_389.out
  have hs25 : w23.cell? ⟨gb375, 1, none⟩ = some (.int .i64 0) := bc BK375.out 1
  have hfs25 := blk_frozen BK375.out 1
  have hns25_1 := NB389_375.out
  have hms25_1 := NB375_389.out
  have hs26 : w23.cell? ⟨gb375, 2, none⟩ = some (.int .i64 0) := bc BK375.out 2
  have hfs26 := blk_frozen BK375.out 2
  have hns26_1 := NB389_375.out
  have hms26_1 := NB375_389.out
  refine skip_ (w1 := ?_) (by rfl) rfl ?_ ?_
  rotate_left
  ·go_simp
   rfl
  refine hK.out _ _ ⟨((cell_far (p := ⟨gb375, _, none⟩) NB389_375.out _).trans (((cell_far (p := ⟨gb375, _, none⟩) NB389_375.out _).trans (((cell_far (p := ⟨gb375, _, none⟩) NB389_375.out _).trans (hHeld.1)))))), ((cell_far (p := ⟨gb375, _, none⟩) NB389_375.out _).trans (((cell_far (p := ⟨gb375, _, none⟩) NB389_375.out _).trans (((cell_far (p := ⟨gb375, _, none⟩) NB389_375.out _).trans (hHeld.2.1)))))), ((cell_far (p := ⟨gb375, _, none⟩) NB389_375.out _).trans (((cell_far (p := ⟨gb375, _, none⟩) NB389_375.out _).trans (((cell_far (p := ⟨gb375, _, none⟩) NB389_375.out _).trans (hHeld.2.2))))))⟩ (fun hHeld => ?_)
  clear hK K
  refine pu_ 6 (some 3) ?_ b36_7 rfl rfl HT_.out (by kernel_rfl) (fun _ _ _ h => h) (Or.inl ⟨by rfl, ?_⟩) ?_ ?_ ?_; rotate_left
  ·intro w'; go_simp; with_reducible rfl
  rotate_left
  ·simp only [Act.put, sa_, s0_, ss_, i64_w, i32_w]; rfl
  refine pu_ 7 (some 4) ?_ b36_8 rfl rfl HT_.out (by kernel_rfl) (fun _ _ _ h => h) (Or.inl ⟨by rfl, ?_⟩) ?_ ?_ ?_; rotate_left
  ·intro w'; go_simp; with_reducible rfl
  rotate_left
  ·simp only [Act.put, sa_, s0_, ss_, i64_w, i32_w]; rfl
  refine pu_ 8 (some 5) ?_ b36_9 rfl rfl HT_.out (by kernel_rfl) (fun _ _ _ h => h) (Or.inl ⟨by rfl, ?_⟩) ?_ ?_ ?_; rotate_left
  ·intro w'; go_simp; with_reducible rfl
  rotate_left
  ·simp only [Act.put, sa_, s0_, ss_, i64_w, i32_w]; rfl
  refine done_ (done_of HT_.out (by kernel_rfl)) ?_
  try go_wp2
  refine bodyPost_ret (results_list (rs := [.cell 2 26, .tmp 3, .tmp 4, .tmp 5]) rfl (by simp) (.cell gb375 26 #[.slice Ao14 t381.length co14, .int .i64 t384, .int .i64 t385] (0, 0) _ rfl (by (with_reducible repeat (first | refine blk_drewN ?_ _ | refine blk_drew ?_ | refine blk_alloc ?_ _)); refine blk_put (cs := #[.slice Ao14 t381.length co14, .int .i64 t384, .int .i64 0]) ?_ 2 _ rfl; (with_reducible repeat (first | refine blk_drewN ?_ _ | refine blk_drew ?_ | refine blk_alloc ?_ _)); refine blk_put (cs := #[.slice Ao14 t381.length co14, .int .i64 0, .int .i64 0]) ?_ 1 _ rfl; (with_reducible repeat (first | refine blk_drewN ?_ _ | refine blk_drew ?_ | refine blk_alloc ?_ _)); refine blk_put (cs := #[.slice none 0 0, .int .i64 0, .int .i64 0]) ?_ 0 _ rfl; (with_reducible repeat (first | refine blk_drewN ?_ _ | refine blk_drew ?_ | refine blk_alloc ?_ _)); exact BK375.out) Try.underlying26 rfl (by kernel_rfl) (.tmp (.tmp (.tmp .nil))))) rfl ?_
  exact ⟨_, _, by first | rfl | (simp [errW_none, errW_some] <;> rfl) | (simp [*, errW_none, errW_some] <;> rfl), kr (Kd.R_mono (Kd.R_far (p := ⟨gb375, 2, none⟩) (Kd.R_far (p := ⟨gb375, 1, none⟩) (Kd.R_far (p := ⟨gb375, 0, none⟩) (Kd.R_types HO383.out BK375.out (by decide)) (fun _ hk => hk.2) (.slice Ao14 t381.length co14)) (fun _ hk => hk.2) (.int .i64 t384)) (fun _ hk => hk.2) (.int .i64 t385)) (fun _ hk => hk.1.2)), kr (Kd.R_mono (Kd.R_far (p := ⟨gb375, 2, none⟩) (Kd.R_far (p := ⟨gb375, 1, none⟩) (Kd.R_far (p := ⟨gb375, 0, none⟩) (Kd.R_types HO408.out BK375.out (by decide)) (fun _ hk => hk.2) (.slice Ao14 t381.length co14)) (fun _ hk => hk.2) (.int .i64 t384)) (fun _ hk => hk.2) (.int .i64 t385)) (fun _ hk => hk.1.2)), by repeat (first | (with_reducible first | exact HB.out | apply below_alloc | apply pw_below_drewN | apply below_drew1 | refine below_set ?_ (IsS87.ge HI380.out) | refine below_set ?_ GE375.out | refine below_set ?_ GE389.out) | exact HB.out)⟩
 ·replace c7 := Bool.eq_false_iff.mpr c7
  subst c7
  have H1 : ((spec_l01Src_some.f k t376 t399 t400 t401).bind fun bt412 => (some (t381, t384, t385, t390, wrap64 (t390 + t394), bt412.1))) = some (r1, r2, r3, r4, r5, r6) := by rw [if_neg (show ¬ (false = true) by decide)] at H; exact H
  clear H
  have H := H1
  clear H1
  replace H := Option.bind_eq_some_iff.mp H
  obtain ⟨⟨t412, t415, t416, t417⟩, A270, H⟩ := H
  replace H : (some (t381, t384, t385, t390, wrap64 (t390 + t394), t412)) = some (r1, r2, r3, r4, r5, r6) := H
  have A27 := Aside0.mk A270
  clear A270
  simp only [Option.some.injEq, Prod.mk.injEq] at H
  obtain ⟨rfl, rfl, rfl, rfl, rfl, rfl⟩ := H
  go_enter Try.func36, Try.ntmps36
  try go_wp2_with (first | ((with_reducible refine gate_dst (N := 2) rfl ?_); refine box_event ?hg (N := 2) ?hd (cs := #[.slice none 0 0, .int .i64 0, .int .i64 0]) (t := 26) ?hr ?_; (case hd => rfl); (case hg => rfl); (case hr => first | (go_simp; done) | (go_simp; rfl)); intro gb375 hg w28 hbox hb; have BK375 := am (hbox); have GW375 := am ((by rw [hg]; exact (below_size (bl HB.out)) : w.heap.size ≤ gb375)); have GE375 := GW375; replace HB := am (below_step (bl HB.out) hb); clear hb hbox hg) | ((with_reducible refine gate_callee (f := 60) rfl ?_); refine gl (some 12) Try.func60 #[.slice A0 l0.length c0] ?_; (with_reducible refine (spec_l01Source.calls k _ _ l0 t376 t377 t378 t379 w _ ?side1 ?side2 ?side3 A2.out).mono ?_); (case side1 => repeat (first | (with_reducible first | exact HB.out | apply below_alloc | apply pw_below_drewN | apply below_drew1 | refine below_set ?_ GE375.out) | exact HB.out)); (case side2 => exact HR0.out); (case side3 => exact HC0.out); rintro e w29 ⟨g380, rfl, hi, hb, hb2⟩; refine ⟨_, rfl, ?_⟩; replace HB := am (hb); have HI380 := am (hi); have NB380_375 := am (IsS87.ne_blk hi (blk_below (pk BK375.out) hb2) (by decide)); have NB375_380 := am (Ne.symm (IsS87.ne_blk hi (blk_below (pk BK375.out) hb2) (by decide))); replace BK375 := am (blk_below (pk BK375.out) hb2); (try clear hb); (try clear hb2); (try clear hk); (try clear hi)) | ((with_reducible refine gate_callee (f := 61) rfl ?_); refine gl (some 14) Try.func61 #[.pointer (some ⟨g380, 0, none⟩)] ?_; (with_reducible refine (spec_l01Src_l02Buf.calls k g380 t376 t377 t378 t379 t381 t384 t385 t386 t387 t388 w _ ?side1 ?side2 A3.out).mono ?_); (case side1 => repeat (first | (with_reducible first | exact HI380.out | apply IsS87.alloc | apply IsS87.drewN | apply IsS87.drew | apply IsS87.set_1 | apply IsS87.set_2 | apply IsS87.set_3 | refine IsS87.far ?_ NB380_375.out _) | exact HI380.out)); (case side2 => repeat (first | (with_reducible first | exact HB.out | apply below_alloc | apply pw_below_drewN | apply below_drew1 | refine below_set ?_ (IsS87.ge HI380.out) | refine below_set ?_ GE375.out) | exact HB.out)); rintro e w30 ⟨v382, rfl, ho0, hi, hb, hk⟩; refine ⟨_, rfl, ?_⟩; replace BK375 := am (KeepBut.blk hk (g' := gb375) (o := .cells #[.slice none 0 0, .int .i64 0, .int .i64 0] 26 (0, 0)) (pk BK375.out) NB375_380.out (by simp)); have HO383 := am (Kd.R_lower ho0 (below_size (by repeat (first | (with_reducible first | exact HB.out | apply below_alloc | apply pw_below_drewN | apply below_drew1 | refine below_set ?_ (IsS87.ge HI380.out) | refine below_set ?_ GE375.out) | exact HB.out)))); replace HB := am (hb); replace HI380 := am (hi); (try clear hb); (try clear hb2); (try clear hk); (try clear hi); (try clear ho0)) | ((with_reducible refine gate_dst (N := 7) rfl ?_); refine box_event ?hg (N := 7) ?hd (cs := #[.slice none 0 0, .int .i64 0, .int .i64 0]) (t := 26) ?hr ?_; (case hd => rfl); (case hg => rfl); (case hr => first | (go_simp; done) | (go_simp; rfl)); intro gb389 hg w31 hbox hb; replace HO383 := am (Kd.R_below (kr HO383.out) hb); have BK389 := am (hbox); have GW389 := am ((by rw [hg]; exact (below_size (by repeat (first | (with_reducible first | exact HB.out | apply below_alloc | apply pw_below_drewN | apply below_drew1 | refine below_set ?_ (IsS87.ge HI380.out) | refine below_set ?_ GE375.out) | exact HB.out))) : w.heap.size ≤ gb389)); have GE389 := GW389; replace HB := am (below_step (by repeat (first | (with_reducible first | exact HB.out | apply below_alloc | apply pw_below_drewN | apply below_drew1 | refine below_set ?_ (IsS87.ge HI380.out) | refine below_set ?_ GE375.out) | exact HB.out)) hb); have NB375_389 := am ((by rw [hg]; exact Nat.ne_of_lt (blk_lt (pk BK375.out)) : gb375 ≠ gb389)); have NB389_375 := am ((by rw [hg]; exact Nat.ne_of_gt (blk_lt (pk BK375.out)) : gb389 ≠ gb375)); replace BK375 := am (blk_below (pk BK375.out) hb); have NB380_389 := am ((by rw [hg]; exact Nat.ne_of_lt (IsS87.lt (show IsS87 w _ g380 t376 t386 t387 t388 from by repeat (first | (with_reducible first | exact HI380.out | apply IsS87.alloc | apply IsS87.drewN | apply IsS87.drew | apply IsS87.set_1 | apply IsS87.set_2 | apply IsS87.set_3 | refine IsS87.far ?_ NB380_375.out _) | exact HI380.out))) : g380 ≠ gb389)); have NB389_380 := am ((by rw [hg]; exact Nat.ne_of_gt (IsS87.lt (show IsS87 w _ g380 t376 t386 t387 t388 from by repeat (first | (with_reducible first | exact HI380.out | apply IsS87.alloc | apply IsS87.drewN | apply IsS87.drew | apply IsS87.set_1 | apply IsS87.set_2 | apply IsS87.set_3 | refine IsS87.far ?_ NB380_375.out _) | exact HI380.out))) : gb389 ≠ g380)); replace HI380 := am (IsS87.below (by repeat (first | (with_reducible first | exact HI380.out | apply IsS87.alloc | apply IsS87.drewN | apply IsS87.drew | apply IsS87.set_1 | apply IsS87.set_2 | apply IsS87.set_3 | refine IsS87.far ?_ NB380_375.out _) | exact HI380.out)) hb); clear hb hbox hg; obtain ⟨Ao32, co32, eo32⟩ := Kd.R_slice HO383.out; subst eo32; have hnb33 := NB389_375.out; have hnc33 := NB375_389.out; have hnb34 := NB389_380.out; have hnc34 := NB380_389.out; have hcz35_0 : w31.cell? ⟨gb389, 0, none⟩ = some (.slice none 0 0) := bc BK389.out 0; have hcz35_1 : w31.cell? ⟨gb389, 1, none⟩ = some (.int .i64 0) := bc BK389.out 1; have hcz35_2 : w31.cell? ⟨gb389, 2, none⟩ = some (.int .i64 0) := bc BK389.out 2; have hfz35_0 := blk_frozen BK389.out 0; have hfz35_1 := blk_frozen BK389.out 1; have hfz35_2 := blk_frozen BK389.out 2) | ((with_reducible refine gate_callee (f := 62) rfl ?_); refine gl (some 21) Try.func62 #[.pointer (some ⟨g380, 0, none⟩), .int .i64 (wrap64 ((t381.length : Int) + 1))] ?_; (with_reducible refine (spec_l01Src_n.calls g380 t376 t386 t387 t388 (wrap64 ((t381.length : Int) + 1)) t390 t391 t392 t393 w _ ?side1 ?side2 A4.out).mono ?_); (case side1 => repeat (first | (with_reducible first | exact HI380.out | apply IsS87.alloc | apply IsS87.drewN | apply IsS87.drew | apply IsS87.set_1 | apply IsS87.set_2 | apply IsS87.set_3 | refine IsS87.far ?_ NB380_375.out _ | refine IsS87.far ?_ NB380_389.out _) | exact HI380.out)); (case side2 => repeat (first | (with_reducible first | exact HB.out | apply below_alloc | apply pw_below_drewN | apply below_drew1 | refine below_set ?_ (IsS87.ge HI380.out) | refine below_set ?_ GE375.out | refine below_set ?_ GE389.out) | exact HB.out)); rintro e w36 ⟨rfl, hi, hb, hk⟩; refine ⟨_, rfl, ?_⟩; replace BK375 := am (KeepBut.blk hk (g' := gb375) (o := .cells #[.slice none 0 0, .int .i64 0, .int .i64 0] 26 (0, 0)) (by (with_reducible repeat (first | refine blk_drewN ?_ _ | refine blk_drew ?_ | refine blk_alloc ?_ _)); refine blk_far ?_ NB375_389.out _; (with_reducible repeat (first | refine blk_drewN ?_ _ | refine blk_drew ?_ | refine blk_alloc ?_ _)); refine blk_far ?_ NB375_389.out _; (with_reducible repeat (first | refine blk_drewN ?_ _ | refine blk_drew ?_ | refine blk_alloc ?_ _)); refine blk_far ?_ NB375_389.out _; (with_reducible repeat (first | refine blk_drewN ?_ _ | refine blk_drew ?_ | refine blk_alloc ?_ _)); exact BK375.out) NB375_380.out (by simp)); replace HO383 := am (Kd.R_mono (Kd.R_keep (IsS87.apart (show IsS87 w _ g380 t376 t386 t387 t388 from by repeat (first | (with_reducible first | exact HI380.out | apply IsS87.alloc | apply IsS87.drewN | apply IsS87.drew | apply IsS87.set_1 | apply IsS87.set_2 | apply IsS87.set_3 | refine IsS87.far ?_ NB380_375.out _ | refine IsS87.far ?_ NB380_389.out _) | exact HI380.out)) (kr ((Kd.R_mono (Kd.R_far (p := ⟨gb389, 2, none⟩) (Kd.R_far (p := ⟨gb389, 1, none⟩) (Kd.R_far (p := ⟨gb389, 0, none⟩) (Kd.R_types HO383.out BK389.out (by decide)) (fun _ hk => hk.2) (.slice Ao32 t381.length co32)) (fun _ hk => hk.2) (.int .i64 t384)) (fun _ hk => hk.2) (.int .i64 t385)) (fun _ h_ => h_.1)))) (by decide)) hk (fun _ h => h.2)) (fun _ h => h.1)); replace BK389 := am (KeepBut.blk hk (g' := gb389) (o := .cells #[.slice Ao32 t381.length co32, .int .i64 t384, .int .i64 t385] 26 (0, 0)) (by (with_reducible repeat (first | refine blk_drewN ?_ _ | refine blk_drew ?_ | refine blk_alloc ?_ _)); refine blk_put (cs := #[.slice Ao32 t381.length co32, .int .i64 t384, .int .i64 0]) ?_ 2 _ rfl; (with_reducible repeat (first | refine blk_drewN ?_ _ | refine blk_drew ?_ | refine blk_alloc ?_ _)); refine blk_put (cs := #[.slice Ao32 t381.length co32, .int .i64 0, .int .i64 0]) ?_ 1 _ rfl; (with_reducible repeat (first | refine blk_drewN ?_ _ | refine blk_drew ?_ | refine blk_alloc ?_ _)); refine blk_put (cs := #[.slice none 0 0, .int .i64 0, .int .i64 0]) ?_ 0 _ rfl; (with_reducible repeat (first | refine blk_drewN ?_ _ | refine blk_drew ?_ | refine blk_alloc ?_ _)); exact BK389.out) NB389_380.out (by simp)); replace HB := am (hb); replace HI380 := am (hi); (try clear hb); (try clear hb2); (try clear hk); (try clear hi)) | ((with_reducible refine gate_callee (f := 62) rfl ?_); refine gl (some 28) Try.func62 #[.pointer (some ⟨g380, 0, none⟩), .int .i64 (wrap64 ((wrap64 ((t381.length : Int) - t390)) + 1))] ?_; (with_reducible refine (spec_l01Src_n.calls g380 t376 t391 t392 t393 (wrap64 ((wrap64 ((t381.length : Int) - t390)) + 1)) t394 t395 t396 t397 w _ ?side1 ?side2 A5.out).mono ?_); (case side1 => repeat (first | (with_reducible first | exact HI380.out | apply IsS87.alloc | apply IsS87.drewN | apply IsS87.drew | apply IsS87.set_1 | apply IsS87.set_2 | apply IsS87.set_3 | refine IsS87.far ?_ NB380_375.out _ | refine IsS87.far ?_ NB380_389.out _) | exact HI380.out)); (case side2 => repeat (first | (with_reducible first | exact HB.out | apply below_alloc | apply pw_below_drewN | apply below_drew1 | refine below_set ?_ (IsS87.ge HI380.out) | refine below_set ?_ GE375.out | refine below_set ?_ GE389.out) | exact HB.out)); rintro e w37 ⟨rfl, hi, hb, hk⟩; refine ⟨_, rfl, ?_⟩; replace BK375 := am (KeepBut.blk hk (g' := gb375) (o := .cells #[.slice none 0 0, .int .i64 0, .int .i64 0] 26 (0, 0)) (pk BK375.out) NB375_380.out (by simp)); replace HO383 := am (Kd.R_mono (Kd.R_keep (IsS87.apart (show IsS87 w _ g380 t376 t391 t392 t393 from by repeat (first | (with_reducible first | exact HI380.out | apply IsS87.alloc | apply IsS87.drewN | apply IsS87.drew | apply IsS87.set_1 | apply IsS87.set_2 | apply IsS87.set_3 | refine IsS87.far ?_ NB380_375.out _ | refine IsS87.far ?_ NB380_389.out _) | exact HI380.out)) (kr HO383.out) (by decide)) hk (fun _ h => h.2)) (fun _ h => h.1)); replace BK389 := am (KeepBut.blk hk (g' := gb389) (o := .cells #[.slice Ao32 t381.length co32, .int .i64 t384, .int .i64 t385] 26 (0, 0)) (pk BK389.out) NB389_380.out (by simp)); replace HB := am (hb); replace HI380 := am (hi); (try clear hb); (try clear hb2); (try clear hk); (try clear hi)) | ((with_reducible refine gate_callee (f := 63) rfl ?_); refine gl (some 31) Try.func63 #[.pointer (some ⟨g380, 0, none⟩), .int .i64 12] ?_; (with_reducible refine (spec_l01Src_one.calls g380 t376 t395 t396 t397 12 false t399 t400 t401 w _ ?side1 ?side2 A6.out).mono ?_); (case side1 => repeat (first | (with_reducible first | exact HI380.out | apply IsS87.alloc | apply IsS87.drewN | apply IsS87.drew | apply IsS87.set_1 | apply IsS87.set_2 | apply IsS87.set_3 | refine IsS87.far ?_ NB380_375.out _ | refine IsS87.far ?_ NB380_389.out _) | exact HI380.out)); (case side2 => repeat (first | (with_reducible first | exact HB.out | apply below_alloc | apply pw_below_drewN | apply below_drew1 | refine below_set ?_ (IsS87.ge HI380.out) | refine below_set ?_ GE375.out | refine below_set ?_ GE389.out) | exact HB.out)); rintro e w38 ⟨rfl, hi, hb, hk⟩; refine ⟨_, rfl, ?_⟩; replace BK375 := am (KeepBut.blk hk (g' := gb375) (o := .cells #[.slice none 0 0, .int .i64 0, .int .i64 0] 26 (0, 0)) (pk BK375.out) NB375_380.out (by simp)); replace HO383 := am (Kd.R_mono (Kd.R_keep (IsS87.apart (show IsS87 w _ g380 t376 t395 t396 t397 from by repeat (first | (with_reducible first | exact HI380.out | apply IsS87.alloc | apply IsS87.drewN | apply IsS87.drew | apply IsS87.set_1 | apply IsS87.set_2 | apply IsS87.set_3 | refine IsS87.far ?_ NB380_375.out _ | refine IsS87.far ?_ NB380_389.out _) | exact HI380.out)) (kr HO383.out) (by decide)) hk (fun _ h => h.2)) (fun _ h => h.1)); replace BK389 := am (KeepBut.blk hk (g' := gb389) (o := .cells #[.slice Ao32 t381.length co32, .int .i64 t384, .int .i64 t385] 26 (0, 0)) (pk BK389.out) NB389_380.out (by simp)); replace HB := am (hb); replace HI380 := am (hi); (try clear hb); (try clear hb2); (try clear hk); (try clear hi)))
  replace HO383 := am (Kd.R_drew HO383.out)
  replace BK375 := am (blk_drew BK375.out)
  replace BK389 := am (blk_drew BK389.out)
  replace HI380 := am (IsS87.drew HI380.out)
  replace HB := am (below_drew1 HB.out)
  refine start_ (n := 9) (S := fun w' => w'.cell? ⟨gb389, 0, none⟩ = some (.slice Ao32 t381.length co32) ∧ w'.cell? ⟨gb389, 1, none⟩ = some (.int .i64 t384) ∧ w'.cell? ⟨gb389, 2, none⟩ = some (.int .i64 t385)) (ds := []) b36_0 (by kernel_rfl) rfl rfl ⟨bc BK389.out 0, bc BK389.out 1, bc BK389.out 2⟩ (fun hHeld => ?_); refine with_tabW spec_DrawBufReplace.tab8 spec_DrawBufReplace.bits8 (fun HT_ HW_ => ?_)
  generalize w38.drew = w39 at HO383 BK375 BK389 HI380 HB hHeld ⊢
  refine pu_ 1 (some 38) ?_ b36_1 rfl rfl HT_.out (by kernel_rfl) (fun _ _ _ h => h) (Or.inl ⟨by rfl, ?_⟩) ?_ ?_ ?_; rotate_left
  ·intro w'; go_simp; with_reducible rfl
  rotate_left
  ·simp only [Act.put, sa_, s0_, ss_, i64_w, i32_w]; rfl
  refine pu_ 2 (some 39) ?_ b36_2 rfl rfl HT_.out (by kernel_rfl) (fun _ _ _ h => h) (Or.inl ⟨by rfl, ?_⟩) ?_ ?_ ?_; rotate_left
  ·intro w'; go_simp; with_reducible rfl
  rotate_left
  ·simp only [Act.put, sa_, s0_, ss_, i64_w, i32_w]; rfl
  refine pu_ 3 (some 40) ?_ b36_3 rfl rfl HT_.out (by kernel_rfl) (fun _ _ _ h => h) (Or.inl ⟨by rfl, ?_⟩) ?_ ?_ ?_; rotate_left
  ·intro w'; go_simp; with_reducible rfl
  rotate_left
  ·simp only [Act.put, sa_, s0_, ss_, i64_w, i32_w]; rfl
  refine tk_ 0 (some 37) ?_ b36_4 rfl rfl HT_.out HW_.out (by kernel_rfl) (fun _ _ _ h => h) (Or.inl ⟨by rfl, ?_⟩) hHeld ?_ ?_ ?_; rotate_left
  ·rintro w' ⟨s0, s1, s2⟩; go_simp; with_reducible rfl
  rotate_left
  ·simp only [Act.put, sa_, s0_, ss_, i64_w, i32_w]; rfl
  refine one_ (i := 4) (N := some 41) b36_5 rfl rfl (one_of HT_.out (by kernel_rfl)) (by decide) (fun K hK => ?_)
  refine goes_ Try.func64 (by kernel_rfl) rfl #[.pointer (some ⟨g380, 0, none⟩)] (by rfl) rfl rfl (by (try simp only [List.map_toArray, List.map_cons, List.map_nil]); first | done | rfl | (simp only [List.length_drop, List.length_take]; rfl)) ?_
  with_reducible refine (spec_l01Src_some.calls k g380 t376 t399 t400 t401 t412 t415 t416 t417 w _ ?side1 ?side2 A27.out).mono ?_
  (case side1 => repeat (first | (with_reducible first | exact HI380.out | apply IsS87.alloc | apply IsS87.drewN | apply IsS87.drew | apply IsS87.set_1 | apply IsS87.set_2 | apply IsS87.set_3 | refine IsS87.far ?_ NB380_375.out _ | refine IsS87.far ?_ NB380_389.out _) | exact HI380.out))
  (case side2 => repeat (first | (with_reducible first | exact HB.out | apply below_alloc | apply pw_below_drewN | apply below_drew1 | refine below_set ?_ (IsS87.ge HI380.out) | refine below_set ?_ GE375.out | refine below_set ?_ GE389.out) | exact HB.out))
  rintro e w40 ⟨v413, rfl, ho0, hi, hb, hk⟩
  refine ⟨_, rfl, ?_⟩
  replace BK375 := am (KeepBut.blk hk (g' := gb375) (o := .cells #[.slice none 0 0, .int .i64 0, .int .i64 0] 26 (0, 0)) (pk BK375.out) NB375_380.out (by simp))
  replace BK389 := am (KeepBut.blk hk (g' := gb389) (o := .cells #[.slice Ao32 t381.length co32, .int .i64 t384, .int .i64 t385] 26 (0, 0)) (pk BK389.out) NB389_380.out (by simp))
  have HO414 := am (Kd.R_lower (Kd.R_new' ho0 (Kd.R_lt (kr HO383.out))) (below_size (by repeat (first | (with_reducible first | exact HB.out | apply below_alloc | apply pw_below_drewN | apply below_drew1 | refine below_set ?_ (IsS87.ge HI380.out) | refine below_set ?_ GE375.out | refine below_set ?_ GE389.out) | exact HB.out))))
  replace HO383 := am (Kd.R_mono (Kd.R_told (Kd.R_oldK (IsS87.apart (show IsS87 w _ g380 t376 t399 t400 t401 from by repeat (first | (with_reducible first | exact HI380.out | apply IsS87.alloc | apply IsS87.drewN | apply IsS87.drew | apply IsS87.set_1 | apply IsS87.set_2 | apply IsS87.set_3 | refine IsS87.far ?_ NB380_375.out _ | refine IsS87.far ?_ NB380_389.out _) | exact HI380.out)) (kr HO383.out) (by decide)) hk) (Kd.R_base ho0)) (fun _ h_ => h_.1))
  replace HB := am (hb)
  replace HI380 := am (hi)
  (try clear hb)
  (try clear hb2)
  (try clear hk)
  (try clear hi)
  (try clear ho0)
  refine hK.out _ _ ⟨bc BK389.out 0, bc BK389.out 1, bc BK389.out 2⟩ (fun hHeld => ?_)
  clear hK K
  refine norm_ (a' := ?_) ?_ ?_
  rotate_left
  ·show Act.put _ (some 41) _ = _
   simp only [Act.put, sa_, s0_, ss_, i64_w, i32_w]
   rfl
  refine one_ (i := 5) (N := none) b36_6 rfl rfl (one_of HT_.out (by kernel_rfl)) (by decide) (fun K hK => ?_)
  have hs41 : w40.cell? ⟨gb375, 0, none⟩ = some (.slice none 0 0) := bc BK375.out 0
  have hfs41 := blk_frozen BK375.out 0
  have hns41_1 := NB389_375.out
  have hms41_1 := NB375_389.out
  have hs42 : w40.cell? ⟨gb375, 1, none⟩ = some (.int .i64 0) := bc BK375.out 1
  have hfs42 := blk_frozen BK375.out 1
  have hns42_1 := NB389_375.out
  have hms42_1 := NB375_389.out
  have hs43 : w40.cell? ⟨gb375, 2, none⟩ = some (.int .i64 0) := bc BK375.out 2
  have hfs43 := blk_frozen BK375.out 2
  have hns43_1 := NB389_375.out
  have hms43_1 := NB375_389.out
  refine skip_ (w1 := ?_) (by rfl) rfl ?_ ?_
  rotate_left
  ·go_simp
   rfl
  refine hK.out _ _ ⟨((cell_far (p := ⟨gb375, _, none⟩) NB389_375.out _).trans (((cell_far (p := ⟨gb375, _, none⟩) NB389_375.out _).trans (((cell_far (p := ⟨gb375, _, none⟩) NB389_375.out _).trans (hHeld.1)))))), ((cell_far (p := ⟨gb375, _, none⟩) NB389_375.out _).trans (((cell_far (p := ⟨gb375, _, none⟩) NB389_375.out _).trans (((cell_far (p := ⟨gb375, _, none⟩) NB389_375.out _).trans (hHeld.2.1)))))), ((cell_far (p := ⟨gb375, _, none⟩) NB389_375.out _).trans (((cell_far (p := ⟨gb375, _, none⟩) NB389_375.out _).trans (((cell_far (p := ⟨gb375, _, none⟩) NB389_375.out _).trans (hHeld.2.2))))))⟩ (fun hHeld => ?_)
  clear hK K
  refine pu_ 6 (some 3) ?_ b36_7 rfl rfl HT_.out (by kernel_rfl) (fun _ _ _ h => h) (Or.inl ⟨by rfl, ?_⟩) ?_ ?_ ?_; rotate_left
  ·intro w'; go_simp; with_reducible rfl
  rotate_left
  ·simp only [Act.put, sa_, s0_, ss_, i64_w, i32_w]; rfl
  refine pu_ 7 (some 4) ?_ b36_8 rfl rfl HT_.out (by kernel_rfl) (fun _ _ _ h => h) (Or.inl ⟨by rfl, ?_⟩) ?_ ?_ ?_; rotate_left
  ·intro w'; go_simp; with_reducible rfl
  rotate_left
  ·simp only [Act.put, sa_, s0_, ss_, i64_w, i32_w]; rfl
  refine pu_ 8 (some 5) ?_ b36_9 rfl rfl HT_.out (by kernel_rfl) (fun _ _ _ h => h) (Or.inl ⟨by rfl, ?_⟩) ?_ ?_ ?_; rotate_left
  ·intro w'; go_simp; with_reducible rfl
  rotate_left
  ·simp only [Act.put, sa_, s0_, ss_, i64_w, i32_w]; rfl
  refine done_ (done_of HT_.out (by kernel_rfl)) ?_
  try go_wp2
  refine bodyPost_ret (results_list (rs := [.cell 2 26, .tmp 3, .tmp 4, .tmp 5]) rfl (by simp) (.cell gb375 26 #[.slice Ao32 t381.length co32, .int .i64 t384, .int .i64 t385] (0, 0) _ rfl (by (with_reducible repeat (first | refine blk_drewN ?_ _ | refine blk_drew ?_ | refine blk_alloc ?_ _)); refine blk_put (cs := #[.slice Ao32 t381.length co32, .int .i64 t384, .int .i64 0]) ?_ 2 _ rfl; (with_reducible repeat (first | refine blk_drewN ?_ _ | refine blk_drew ?_ | refine blk_alloc ?_ _)); refine blk_put (cs := #[.slice Ao32 t381.length co32, .int .i64 0, .int .i64 0]) ?_ 1 _ rfl; (with_reducible repeat (first | refine blk_drewN ?_ _ | refine blk_drew ?_ | refine blk_alloc ?_ _)); refine blk_put (cs := #[.slice none 0 0, .int .i64 0, .int .i64 0]) ?_ 0 _ rfl; (with_reducible repeat (first | refine blk_drewN ?_ _ | refine blk_drew ?_ | refine blk_alloc ?_ _)); exact BK375.out) Try.underlying26 rfl (by kernel_rfl) (.tmp (.tmp (.tmp .nil))))) rfl ?_
  exact ⟨_, _, by first | rfl | (simp [errW_none, errW_some] <;> rfl) | (simp [*, errW_none, errW_some] <;> rfl), kr (Kd.R_mono (Kd.R_far (p := ⟨gb375, 2, none⟩) (Kd.R_far (p := ⟨gb375, 1, none⟩) (Kd.R_far (p := ⟨gb375, 0, none⟩) (Kd.R_types HO383.out BK375.out (by decide)) (fun _ hk => hk.2) (.slice Ao32 t381.length co32)) (fun _ hk => hk.2) (.int .i64 t384)) (fun _ hk => hk.2) (.int .i64 t385)) (fun _ hk => hk.1.2)), kr (Kd.R_mono (Kd.R_far (p := ⟨gb375, 2, none⟩) (Kd.R_far (p := ⟨gb375, 1, none⟩) (Kd.R_far (p := ⟨gb375, 0, none⟩) (Kd.R_types HO414.out BK375.out (by decide)) (fun _ hk => hk.2) (.slice Ao32 t381.length co32)) (fun _ hk => hk.2) (.int .i64 t384)) (fun _ hk => hk.2) (.int .i64 t385)) (fun _ hk => hk.1.2)), by repeat (first | (with_reducible first | exact HB.out | apply below_alloc | apply pw_below_drewN | apply below_drew1 | refine below_set ?_ (IsS87.ge HI380.out) | refine below_set ?_ GE375.out | refine below_set ?_ GE389.out) | exact HB.out)⟩

/-! ### laws_lwCopy: function 37 -/
def laws_lwCopy.f (l0 : List Int) : Option (List Int) := (some (([] : List Int) : List Int)).bind fun y418 => (if y418.length + l0.length < 17592186044416 then (some (y418 ++ l0)) else (none))
set_option maxHeartbeats 8000000 in
set_option maxRecDepth 100000 in
theorem laws_lwCopy.calls (A0 : Option Addr) (c0 : Nat) (l0 : List Int) (r : List Int) (w : World) (hr0 : Kd.C (Kd.int .i64) w A0 l0.length l0) (hc0 : l0.length ≤ c0) (h : laws_lwCopy.f l0 = some r) :
  Calls Try.prog 37 #[.slice A0 l0.length c0] w fun e w' => ∃ v0_ : Value, e = .returned (v0_) ∧ Kd.R (Kd.int .i64) 2 w' w.heap.size (fun _ => True) v0_ r ∧ Below w.heap.size w w' := by
 have HR0 := am hr0
 have HC0 := am hc0
 clear hr0 hc0
 have HB := am (Below.refl w.heap.size w)
 have H : ((some (([] : List Int) : List Int)).bind fun y418 => (if y418.length + l0.length < 17592186044416 then (some (y418 ++ l0)) else (none))) = some r := h
 clear h
 obtain ⟨y418, hy418⟩ : ∃ y_ : List Int, y_ = (([] : List Int)) := ⟨_, rfl⟩
 replace H : (if y418.length + l0.length < 17592186044416 then (some (y418 ++ l0)) else (none)) = some r := by first | (rw [hy418]; with_reducible exact H) | (have H2_ := (Option.bind_some _ _).symm.trans H; rw [hy418]; with_reducible exact H2_) | (have H2_ := (Option.bind_some _ _).symm.trans H; with_reducible exact H2_) | with_reducible exact H | (rw [hy418]; exact H) | exact H
 have Ny418 := am hy418
 clear hy418
 by_cases c2 : y418.length + l0.length < 17592186044416
 ·rw [if_pos c2] at H
  have LMc2 := Aside0.mk c2
  clear c2
  obtain ⟨y421, hy421⟩ : ∃ y_ : List Int, y_ = (y418 ++ l0) := ⟨_, rfl⟩
  replace H : (some y421) = some r := by first | (rw [hy421]; with_reducible exact H) | (have H2_ := (Option.bind_some _ _).symm.trans H; rw [hy421]; with_reducible exact H2_) | (have H2_ := (Option.bind_some _ _).symm.trans H; with_reducible exact H2_) | with_reducible exact H | (rw [hy421]; exact H) | exact H
  have Ny421 := am hy421
  clear hy421
  obtain rfl := Option.some.inj H
  go_enter Try.func37, Try.ntmps37
  go_wp2_with (first | ((with_reducible refine gate_dst (N := 3) rfl ?_); refine Kd.R_lit (Kd.int .i64) _ 2 ?hg (N := 3) ?hd (xs := ([] : List Int)) (inner := []) (ok := fun _ => True) (okp := fun _ => True) ?hr ?hp (fun _ hk => hk) trivial (Below.refl _ _) (Nat.le_refl _) (by simp) ?_; (case hd => rfl); (case hg => rfl); (case hr => first | (go_simp; done) | (go_simp; rfl)); (case hp => exact (Reps.none _ _)); intro v419 w3 ho4 hb hg_ hnew_; clear hg_ hnew_; (first | rw [← Ny418.out] at ho4 | (simp only [Int.reduceToNat] at ho4; rw [← Ny418.out] at ho4)); have HO420 := am (Kd.R_lower ho4 (below_size (bl HB.out))); replace HB := am (below_step (bl HB.out) hb); clear hb ho4) | ((with_reducible refine gate_builtin (b := .append) (xs := #[.tmp 3, .tmp 4]) rfl ?_); at_builtin; refine Kd.R_append_rows (Kd.int .i64) (w0 := w) w.heap.size rfl (.tmp 3) (.tmp 4) 22 2 (.int .i64 0) 8 rfl Try.underlying22 info2 rfl (by decide) (by omega) v419 y418 l0 _ _ _ (fun _ => True) (fun _ => False) rfl rfl ?aO ?aR (fun _ _ h => h) (fun _ h => h.elim) ?aF ?aB ?aS ?aL ?_; (case aR => repeat (first | exact (Kd.C_below HR0.out HB.out) | (with_reducible refine Kd.C_alloc ?_ _) | (with_reducible refine Kd.C_drewN ?_ _) | (with_reducible refine Kd.C_drew ?_))); (case aB => exact (bl HB.out)); (case aF => exact (fun _ _ => trivial)); (case aO => exact (kr HO420.out)); (case aS => exact (below_size (bl HB.out))); (case aL => have := LMc2.out; omega); intro v422 w5 ho hb hg hat; rw [← Ny421.out] at ho; replace HB := am (hb); have HO423 := am (ho); clear HO420; clear ho hb hg hat))
  go_ret
  exact ⟨_, by first | rfl | (simp [errW_none, errW_some] <;> rfl) | (simp [*, errW_none, errW_some] <;> rfl), kr HO423.out, by repeat (first | (with_reducible first | exact HB.out | apply below_alloc | apply pw_below_drewN | apply below_drew1) | exact HB.out)⟩
 ·rw [if_neg c2] at H
  exact absurd H (by simp)

/-! ### laws_lwSame: function 39 -/
def laws_lwSame.l0 : Nat → List Int → List Int → Int → Option (Bool)
 | 0, _, _, _ => none
 | k + 1, x0, x1, x5 => if x5 < (x0.length : Int) then (if 0 ≤ x5 then (if x5 < (x1.length : Int) then (if (rd x0 x5) = (rd x1 x5) then (laws_lwSame.l0 k x0 x1 (wrap64 (x5 + 1))) else (some false)) else (none)) else (none)) else (some true)
def laws_lwSame.f (k : Nat) (l0 : List Int) (l1 : List Int) : Option (Bool) := if (l0.length : Int) = (l1.length : Int) then (laws_lwSame.l0 k l0 l1 0) else (some false)
theorem laws_lwSame.mono_l : ∀ k, (∀ y0 y1 y2, LeO (laws_lwSame.l0 k y0 y1 y2) (laws_lwSame.l0 (k + 1) y0 y1 y2))
 | 0 => fun _ _ _ r h => by simp [laws_lwSame.l0] at h
 | k + 1 => by
  have ih0 := laws_lwSame.mono_l k
  ·intro y0 y1 y2
   unfold laws_lwSame.l0
   repeat' first
   | (with_reducible exact ih0 _ _ _)
   | (with_reducible exact LeO.refl _)
   | (with_reducible exact LeO.none _)
   | (with_reducible refine LeO.ite ?_ ?_)
   | (with_reducible refine LeO.bind ?_ (fun _ => ?_))
   | exact ih0 _ _ _
   | exact LeO.none _
   | refine LeO.ite ?_ ?_
   | refine LeO.bind ?_ (fun _ => ?_)
theorem laws_lwSame.mono : ∀ a0 a1 k, LeO (laws_lwSame.f k a0 a1) (laws_lwSame.f (k + 1) a0 a1) := by
 intro a0 a1 k
 have ih0 := laws_lwSame.mono_l k
 unfold laws_lwSame.f
 repeat' first
   | (with_reducible exact ih0 _ _ _)
   | (with_reducible exact LeO.refl _)
   | (with_reducible exact LeO.none _)
   | (with_reducible refine LeO.ite ?_ ?_)
   | (with_reducible refine LeO.bind ?_ (fun _ => ?_))
   | exact ih0 _ _ _
   | exact LeO.none _
   | refine LeO.ite ?_ ?_
   | refine LeO.bind ?_ (fun _ => ?_)
set_option maxHeartbeats 8000000 in
set_option maxRecDepth 100000 in
theorem laws_lwSame.calls (k : Nat) (A0 : Option Addr) (c0 : Nat) (l0 : List Int) (A1 : Option Addr) (c1 : Nat) (l1 : List Int) (r : Bool) (w : World) (hr0 : Kd.C (Kd.int .i64) w A0 l0.length l0) (hc0 : l0.length ≤ c0) (hr1 : Kd.C (Kd.int .i64) w A1 l1.length l1) (hc1 : l1.length ≤ c1) (h : laws_lwSame.f k l0 l1 = some r) :
  Calls Try.prog 39 #[.slice A0 l0.length c0, .slice A1 l1.length c1] w fun e w' => e = .returned (.bool r) ∧ Drawn0 w w' := by
 have HR0 := am hr0
 have HC0 := am hc0
 clear hr0 hc0
 have HR1 := am hr1
 have HC1 := am hc1
 clear hr1 hc1
 have H : (if (l0.length : Int) = (l1.length : Int) then (laws_lwSame.l0 k l0 l1 0) else (some false)) = some r := h
 clear h
 by_cases c3 : (l0.length : Int) = (l1.length : Int)
 ·rw [if_pos c3] at H
  have c3b0 : ((l0.length : Int) == (l1.length : Int)) = true := beq_iff_eq.mpr c3
  have c3b1 : ((l0.length : Int) != (l1.length : Int)) = false := bne_eq_false_iff_eq.mpr c3
  have c3b2 : (l0.length == l1.length) = true := by first | simpa using c3 | (simp at c3 ⊢; omega)
  clear c3
  have H' := Aside0.mk H
  clear H
  go_enter Try.func39, Try.ntmps39
  go_wp2
  repeat (go_quiet (fail); try go_wp2)
  go_loopg [5] k (fun kq v5 w' => ∃ (x5_1 : Int), v5 = .int .i64 x5_1 ∧ Aside0 (laws_lwSame.l0 kq l0 l1 x5_1 = some r) ∧ Aside0 (kq ≤ k) ∧ Drawn0 w w')
  case atStart => exact ⟨(0), (by first | rfl | (simp; done) | (simp [*]; done)), H', ⟨Nat.le_refl _⟩, by repeat (first | exact Drawn0.refl _ | apply Drawn0.step)⟩
  case round =>
   clear H'
   try clear c1
   try clear p2
   try clear c3
   try clear c3b0
   try clear c3b1
   try clear c3b2
   obtain ⟨x5_1, rfl, HA, HK1, ⟨m1, rfl⟩⟩ := hrel
   cases gk with
   | zero => exact absurd HA.out (by simp [laws_lwSame.l0])
   | succ k1 =>
    have H := HA.out
    clear HA
    simp only [laws_lwSame.l0] at H
    by_cases c4 : x5_1 < (l0.length : Int)
    ·rw [if_pos c4] at H
     have c4b0 : decide (x5_1 < (l0.length : Int)) = true := decide_eq_true c4
     clear c4
     by_cases c5 : 0 ≤ x5_1
     ·rw [if_pos c5] at H
      have c5b0 : decide (0 ≤ x5_1) = true := decide_eq_true c5
      clear c5
      by_cases c6 : x5_1 < (l1.length : Int)
      ·rw [if_pos c6] at H
       have c6b0 : decide (x5_1 < (l1.length : Int)) = true := decide_eq_true c6
       clear c6
       by_cases c7 : (rd l0 x5_1) = (rd l1 x5_1)
       ·rw [if_pos c7] at H
        have c7b0 : ((rd l0 x5_1) == (rd l1 x5_1)) = true := beq_iff_eq.mpr c7
        have c7b1 : ((rd l0 x5_1) != (rd l1 x5_1)) = false := bne_eq_false_iff_eq.mpr c7
        clear c7
        have H' := Aside0.mk H
        clear H
        have p424 : 0 ≤ (x5_1 : Int) := of_decide_eq_true (by first | (with_reducible assumption) | assumption)
        have q424 : x5_1 < (l0.length : Int) := of_decide_eq_true (by first | (with_reducible assumption) | assumption)
        obtain ⟨ad424, e424, hx424_0⟩ := Kd.at_int HR0.out x5_1 p424 q424
        cases e424
        replace p424 := eq_true p424
        replace q424 := eq_true q424
        have p425 : 0 ≤ (x5_1 : Int) := of_decide_eq_true (by first | (with_reducible assumption) | assumption)
        have q425 : x5_1 < (l1.length : Int) := of_decide_eq_true (by first | (with_reducible assumption) | assumption)
        obtain ⟨ad425, e425, hx425_0⟩ := Kd.at_int HR1.out x5_1 p425 q425
        cases e425
        replace p425 := eq_true p425
        replace q425 := eq_true q425
        go_wp2
        repeat (go_quiet (fail); try go_wp2)
        go_roundg k1
        case measure => have := HK1.out; omega
        case rel => exact ⟨(wrap64 (x5_1 + 1)), (by first | rfl | (simp; done) | (simp [*]; done)), H', ⟨by have := HK1.out; omega⟩, by repeat (first | exact Drawn0.refl _ | apply Drawn0.step)⟩
       ·rw [if_neg c7] at H
        have c7b0 : ((rd l0 x5_1) == (rd l1 x5_1)) = false := beq_eq_false_iff_ne.mpr c7
        have c7b1 : ((rd l0 x5_1) != (rd l1 x5_1)) = true := bne_iff_ne.mpr c7
        obtain rfl := Option.some.inj H
        have p424 : 0 ≤ (x5_1 : Int) := of_decide_eq_true (by first | (with_reducible assumption) | assumption)
        have q424 : x5_1 < (l0.length : Int) := of_decide_eq_true (by first | (with_reducible assumption) | assumption)
        obtain ⟨ad424, e424, hx424_0⟩ := Kd.at_int HR0.out x5_1 p424 q424
        cases e424
        replace p424 := eq_true p424
        replace q424 := eq_true q424
        have p425 : 0 ≤ (x5_1 : Int) := of_decide_eq_true (by first | (with_reducible assumption) | assumption)
        have q425 : x5_1 < (l1.length : Int) := of_decide_eq_true (by first | (with_reducible assumption) | assumption)
        obtain ⟨ad425, e425, hx425_0⟩ := Kd.at_int HR1.out x5_1 p425 q425
        cases e425
        replace p425 := eq_true p425
        replace q425 := eq_true q425
        go_wp2
        repeat (go_quiet (fail); try go_wp2)
        go_ret
        exact ⟨by first | rfl | (simp; done) | (simp [*]; done), by repeat (first | exact Drawn0.refl _ | apply Drawn0.step)⟩
      ·rw [if_neg c6] at H
       exact absurd H (by simp)
     ·rw [if_neg c5] at H
      exact absurd H (by simp)
    ·rw [if_neg c4] at H
     have c4b0 : decide (x5_1 < (l0.length : Int)) = false := decide_eq_false c4
     clear c4
     obtain rfl := Option.some.inj H
     go_wp2
     repeat (go_quiet (fail); try go_wp2)
     go_ret
     exact ⟨by first | rfl | (simp; done) | (simp [*]; done), by repeat (first | exact Drawn0.refl _ | apply Drawn0.step)⟩
 ·rw [if_neg c3] at H
  have c3b0 : ((l0.length : Int) == (l1.length : Int)) = false := beq_eq_false_iff_ne.mpr c3
  have c3b1 : ((l0.length : Int) != (l1.length : Int)) = true := bne_iff_ne.mpr c3
  have c3b2 : (l0.length == l1.length) = false := by first | simpa using c3 | (simp at c3 ⊢; omega)
  obtain rfl := Option.some.inj H
  go_enter Try.func39, Try.ntmps39
  go_wp2
  repeat (go_quiet (fail); try go_wp2)
  go_ret
  exact ⟨by first | rfl | (simp; done) | (simp [*]; done), by repeat (first | exact Drawn0.refl _ | apply Drawn0.step)⟩

end Go.Proofs.Ytejgkbejdkaccaa.PFnReplace
