-- Written by xprint.py (this claim's own program, over the kit's printer); Lean checks it.
import Derived.Test.YtbbhdggikcipaaaDoorPFnExactBufOfx0
import Derived.Test.YtbbhdggikcipaaaDoorPFnExactBufOfx3
import Derived.Test.YtbbhdggikcipaaaDoorPFnExactBufOfx4
namespace Go.Proofs.YtbbhdggikcipaaaDoor.PFnExactBufOf
open Go.RowKit Go.Proofs.YtbbhdggikcipaaaDoorW.PrintWords Go.Proofs.YtbbhdggikcipaaaDoorW.PrintLast Go.Proofs.YtbbhdggikcipaaaDoorW.PrintMore
attribute [local go_sem] max2_int min2_int max_two min_two max_three min_three max_four min_four   -- for this text's walks alone
set_option linter.unusedVariables false
set_option linter.unusedSimpArgs false   -- squeezed

/-! ### laws_FnExactBufOf: function 4 -/
mutual
def laws_FnExactBufOf.j0 : Nat → ByteArray → List Int → Int → Int → List Int → Int → Int → Option (Bool)
 | 0, _, _, _, _, _, _, _ => none
 | k + 1, x0, x196000, x196001, x196002, x202000, x202001, x202002 => (laws_markBuf.f k x202000 x202001 x202002 1).bind fun bt203 => ((laws_heldBuf.f k bt203.2 x202001 x202002 1).bind fun t205 => (if t205 < 0 then (some false) else (laws_FnExactBufOf.j1 k x0 bt203.1 t205 x196000 x196001 x196002 bt203.2 x202001 x202002)))
def laws_FnExactBufOf.j1 : Nat → ByteArray → Int → Int → List Int → Int → Int → List Int → Int → Int → Option (Bool)
 | 0, _, _, _, _, _, _, _, _, _ => none
 | k + 1, x0, x5, x6, x196000, x196001, x196002, x202000, x202001, x202002 => if x6 = x5 then ((impl_BufOf.f k x0).bind fun bt206 => ((laws_eqBuf.f k bt206.1 bt206.2.1 bt206.2.2 x196000 x196001 x196002).bind fun t212 => (if t212 = true then (laws_FnExactBufOf.j2 k x5 x202000 x202001 x202002) else (some false)))) else (some false)
def laws_FnExactBufOf.j2 : Nat → Int → List Int → Int → Int → Option (Bool)
 | 0, _, _, _, _ => none
 | k + 1, x5, x202000, x202001, x202002 => (laws_heldBuf.f k x202000 x202001 x202002 1).bind fun t213 => (if t213 < 0 then (some false) else (if t213 = x5 then (some true) else (some false)))
end
def laws_FnExactBufOf.f (k : Nat) (a0 : ByteArray) : Option (Bool) := if (a0.size : Int) > 1048576 then (some true) else ((spec_BufOf.f k a0).bind fun bt190 => ((impl_BufOf.f k a0).bind fun bt196 => ((laws_eqBuf.f k bt196.1 bt196.2.1 bt196.2.2 bt190.1 bt190.2.1 bt190.2.2).bind fun t202 => (if t202 = true then (laws_FnExactBufOf.j0 k a0 bt190.1 bt190.2.1 bt190.2.2 bt196.1 bt196.2.1 bt196.2.2) else (some false)))))
theorem laws_FnExactBufOf.mono_l : ∀ k, (∀ y0 y1 y2 y3 y4 y5 y6, LeO (laws_FnExactBufOf.j0 k y0 y1 y2 y3 y4 y5 y6) (laws_FnExactBufOf.j0 (k + 1) y0 y1 y2 y3 y4 y5 y6)) ∧ (∀ y0 y1 y2 y3 y4 y5 y6 y7 y8, LeO (laws_FnExactBufOf.j1 k y0 y1 y2 y3 y4 y5 y6 y7 y8) (laws_FnExactBufOf.j1 (k + 1) y0 y1 y2 y3 y4 y5 y6 y7 y8)) ∧ (∀ y0 y1 y2 y3, LeO (laws_FnExactBufOf.j2 k y0 y1 y2 y3) (laws_FnExactBufOf.j2 (k + 1) y0 y1 y2 y3))
 | 0 => ⟨fun _ _ _ _ _ _ _ r h => by simp [laws_FnExactBufOf.j0] at h, fun _ _ _ _ _ _ _ _ _ r h => by simp [laws_FnExactBufOf.j1] at h, fun _ _ _ _ r h => by simp [laws_FnExactBufOf.j2] at h⟩
 | k + 1 => by
  obtain ⟨ih0, ih1, ih2⟩ := laws_FnExactBufOf.mono_l k
  refine ⟨?_, ?_, ?_⟩
  ·intro y0 y1 y2 y3 y4 y5 y6
   unfold laws_FnExactBufOf.j0
   repeat' first
   | (with_reducible exact ih0 _ _ _ _ _ _ _)
   | (with_reducible exact ih1 _ _ _ _ _ _ _ _ _)
   | (with_reducible exact ih2 _ _ _ _)
   | (with_reducible exact impl_BufOf.mono _ _)
   | (with_reducible exact laws_eqBuf.mono _ _ _ _ _ _ _)
   | (with_reducible exact laws_heldBuf.mono _ _ _ _ _)
   | (with_reducible exact laws_markBuf.mono _ _ _ _ _)
   | (with_reducible exact spec_BufOf.mono _ _)
   | (with_reducible exact LeO.refl _)
   | (with_reducible exact LeO.none _)
   | (with_reducible refine LeO.ite ?_ ?_)
   | (with_reducible refine LeO.bind ?_ (fun _ => ?_))
   | exact ih0 _ _ _ _ _ _ _
   | exact ih1 _ _ _ _ _ _ _ _ _
   | exact ih2 _ _ _ _
   | exact impl_BufOf.mono _ _
   | exact laws_eqBuf.mono _ _ _ _ _ _ _
   | exact laws_heldBuf.mono _ _ _ _ _
   | exact laws_markBuf.mono _ _ _ _ _
   | exact spec_BufOf.mono _ _
   | refine LeO.bind ?_ (fun _ => ?_)
  ·intro y0 y1 y2 y3 y4 y5 y6 y7 y8
   unfold laws_FnExactBufOf.j1
   repeat' first
   | (with_reducible exact ih0 _ _ _ _ _ _ _)
   | (with_reducible exact ih1 _ _ _ _ _ _ _ _ _)
   | (with_reducible exact ih2 _ _ _ _)
   | (with_reducible exact impl_BufOf.mono _ _)
   | (with_reducible exact laws_eqBuf.mono _ _ _ _ _ _ _)
   | (with_reducible exact laws_heldBuf.mono _ _ _ _ _)
   | (with_reducible exact laws_markBuf.mono _ _ _ _ _)
   | (with_reducible exact spec_BufOf.mono _ _)
   | (with_reducible exact LeO.refl _)
   | (with_reducible exact LeO.none _)
   | (with_reducible refine LeO.ite ?_ ?_)
   | (with_reducible refine LeO.bind ?_ (fun _ => ?_))
   | exact ih0 _ _ _ _ _ _ _
   | exact ih1 _ _ _ _ _ _ _ _ _
   | exact ih2 _ _ _ _
   | exact impl_BufOf.mono _ _
   | exact laws_eqBuf.mono _ _ _ _ _ _ _
   | exact laws_heldBuf.mono _ _ _ _ _
   | exact laws_markBuf.mono _ _ _ _ _
   | exact spec_BufOf.mono _ _
   | refine LeO.bind ?_ (fun _ => ?_)
  ·intro y0 y1 y2 y3
   unfold laws_FnExactBufOf.j2
   repeat' first
   | (with_reducible exact ih0 _ _ _ _ _ _ _)
   | (with_reducible exact ih1 _ _ _ _ _ _ _ _ _)
   | (with_reducible exact ih2 _ _ _ _)
   | (with_reducible exact impl_BufOf.mono _ _)
   | (with_reducible exact laws_eqBuf.mono _ _ _ _ _ _ _)
   | (with_reducible exact laws_heldBuf.mono _ _ _ _ _)
   | (with_reducible exact laws_markBuf.mono _ _ _ _ _)
   | (with_reducible exact spec_BufOf.mono _ _)
   | (with_reducible exact LeO.refl _)
   | (with_reducible exact LeO.none _)
   | (with_reducible refine LeO.ite ?_ ?_)
   | (with_reducible refine LeO.bind ?_ (fun _ => ?_))
   | exact ih0 _ _ _ _ _ _ _
   | exact ih1 _ _ _ _ _ _ _ _ _
   | exact ih2 _ _ _ _
   | exact impl_BufOf.mono _ _
   | exact laws_eqBuf.mono _ _ _ _ _ _ _
   | exact laws_heldBuf.mono _ _ _ _ _
   | exact laws_markBuf.mono _ _ _ _ _
   | exact spec_BufOf.mono _ _
   | refine LeO.bind ?_ (fun _ => ?_)
theorem laws_FnExactBufOf.mono : ∀ a0 k, LeO (laws_FnExactBufOf.f k a0) (laws_FnExactBufOf.f (k + 1) a0) := by
 intro a0 k
 obtain ⟨ih0, ih1, ih2⟩ := laws_FnExactBufOf.mono_l k
 unfold laws_FnExactBufOf.f
 repeat' first
   | (with_reducible exact ih0 _ _ _ _ _ _ _)
   | (with_reducible exact ih1 _ _ _ _ _ _ _ _ _)
   | (with_reducible exact ih2 _ _ _ _)
   | (with_reducible exact impl_BufOf.mono _ _)
   | (with_reducible exact laws_eqBuf.mono _ _ _ _ _ _ _)
   | (with_reducible exact laws_heldBuf.mono _ _ _ _ _)
   | (with_reducible exact laws_markBuf.mono _ _ _ _ _)
   | (with_reducible exact spec_BufOf.mono _ _)
   | (with_reducible exact LeO.refl _)
   | (with_reducible exact LeO.none _)
   | (with_reducible refine LeO.ite ?_ ?_)
   | (with_reducible refine LeO.bind ?_ (fun _ => ?_))
   | exact ih0 _ _ _ _ _ _ _
   | exact ih1 _ _ _ _ _ _ _ _ _
   | exact ih2 _ _ _ _
   | exact impl_BufOf.mono _ _
   | exact laws_eqBuf.mono _ _ _ _ _ _ _
   | exact laws_heldBuf.mono _ _ _ _ _
   | exact laws_markBuf.mono _ _ _ _ _
   | exact spec_BufOf.mono _ _
   | refine LeO.bind ?_ (fun _ => ?_)
set_option maxHeartbeats 8000000 in
set_option maxRecDepth 100000 in
theorem laws_FnExactBufOf.calls (k : Nat) (a0 : ByteArray) (r : Bool) (w : World) (h : laws_FnExactBufOf.f k a0 = some r) (hT : Lib.Utf8Tabs 0 1 w) :
  Calls Tryd.prog 4 #[.string a0] w fun e w' => e = .returned (.bool r) ∧ Below w.heap.size w w' := by
 have HUT := am hT
 clear hT
 have hu28 := Tryd.underlying28
 have HB := am (Below.refl w.heap.size w)
 have H : (if (a0.size : Int) > 1048576 then (some true) else ((spec_BufOf.f k a0).bind fun bt190 => ((impl_BufOf.f k a0).bind fun bt196 => ((laws_eqBuf.f k bt196.1 bt196.2.1 bt196.2.2 bt190.1 bt190.2.1 bt190.2.2).bind fun t202 => (if t202 = true then (laws_FnExactBufOf.j0 k a0 bt190.1 bt190.2.1 bt190.2.2 bt196.1 bt196.2.1 bt196.2.2) else (some false)))))) = some r := h
 clear h
 by_cases c2 : (a0.size : Int) > 1048576
 ·rw [if_pos c2] at H
  have c2b0 : decide (1048576 < (a0.size : Int)) = true := decide_eq_true c2
  have c2b1 : decide (1048576 < a0.size) = true := decide_eq_true (by omega)
  clear c2
  obtain rfl := Option.some.inj H
  go_enter Tryd.func4, Tryd.ntmps4
  go_wp2
  go_ret
  exact ⟨by first | rfl | (simp [errW_none, errW_some] <;> rfl) | (simp [*, errW_none, errW_some] <;> rfl), by repeat (first | (with_reducible first | exact HB.out | apply below_alloc | apply pw_below_drewN | apply below_drew1) | exact HB.out)⟩
 ·rw [if_neg c2] at H
  have c2b0 : decide (1048576 < (a0.size : Int)) = false := decide_eq_false c2
  have c2b1 : decide (1048576 < a0.size) = false := decide_eq_false (by omega)
  clear c2
  replace H := Option.bind_eq_some_iff.mp H
  obtain ⟨⟨t190, t193, t194⟩, A30, H⟩ := H
  replace H : ((impl_BufOf.f k a0).bind fun bt196 => ((laws_eqBuf.f k bt196.1 bt196.2.1 bt196.2.2 t190 t193 t194).bind fun t202 => (if t202 = true then (laws_FnExactBufOf.j0 k a0 t190 t193 t194 bt196.1 bt196.2.1 bt196.2.2) else (some false)))) = some r := H
  have A3 := Aside0.mk A30
  clear A30
  replace H := Option.bind_eq_some_iff.mp H
  obtain ⟨⟨t196, t199, t200⟩, A40, H⟩ := H
  replace H : ((laws_eqBuf.f k t196 t199 t200 t190 t193 t194).bind fun t202 => (if t202 = true then (laws_FnExactBufOf.j0 k a0 t190 t193 t194 t196 t199 t200) else (some false))) = some r := H
  have A4 := Aside0.mk A40
  clear A40
  replace H := Option.bind_eq_some_iff.mp H
  obtain ⟨t202, A50, H⟩ := H
  replace H : (if t202 = true then (laws_FnExactBufOf.j0 k a0 t190 t193 t194 t196 t199 t200) else (some false)) = some r := H
  have A5 := Aside0.mk A50
  clear A50
  have HC6 := Aside0.mk H
  clear H
  go_enter Tryd.func4, Tryd.ntmps4
  go_upto_if 18 with (first | ((with_reducible refine gate_callee (f := 11) rfl ?_); refine gl (some 12) Tryd.func11 #[.string a0] ?_; (with_reducible refine (spec_BufOf.calls k a0 t190 t193 t194 _ A3.out).mono ?_); rintro e w7 ⟨v191, rfl, ho0, hb⟩; refine ⟨_, rfl, ?_⟩; have HO192 := am (Kd.R_lower ho0 (below_size (bl HB.out))); replace HB := am (below_step (bl HB.out) hb); (try clear hb); (try clear hb2); (try clear hk); (try clear hi); (try clear ho0)) | ((with_reducible refine gate_dst (N := 3) rfl ?_); refine box_event ?hg (N := 3) ?hd (cs := #[.slice none 0 0, .int .i64 0, .int .i64 0]) (t := 28) ?hr ?_; (case hd => rfl); (case hg => rfl); (case hr => first | (go_simp; done) | (go_simp; rfl)); intro gb195 hg w8 hbox hb; replace HO192 := am (Kd.R_below (kr HO192.out) hb); have BK195 := am (hbox); have GW195 := am ((by rw [hg]; exact (below_size (bl HB.out)) : w.heap.size ≤ gb195)); have GE195 := GW195; replace HB := am (below_step (bl HB.out) hb); clear hb hbox hg; obtain ⟨Ao9, co9, eo9⟩ := Kd.R_slice HO192.out; subst eo9; have hcz10_0 : w8.cell? ⟨gb195, 0, none⟩ = some (.slice none 0 0) := bc BK195.out 0; have hcz10_1 : w8.cell? ⟨gb195, 1, none⟩ = some (.int .i64 0) := bc BK195.out 1; have hcz10_2 : w8.cell? ⟨gb195, 2, none⟩ = some (.int .i64 0) := bc BK195.out 2; have hfz10_0 := blk_frozen BK195.out 0; have hfz10_1 := blk_frozen BK195.out 1; have hfz10_2 := blk_frozen BK195.out 2) | ((with_reducible refine gate_callee (f := 12) rfl ?_); refine gl (some 14) Tryd.func12 #[.string a0] ?_; (with_reducible refine (impl_BufOf.calls k a0 t196 t199 t200 _ A4.out (ut_below HUT.out ?sT)).mono ?_); (case sT => repeat (first | (with_reducible first | exact HB.out | apply below_alloc | apply pw_below_drewN | apply below_drew1 | refine below_set ?_ GE195.out) | exact HB.out)); rintro e w11 ⟨v197, rfl, ho0, hb⟩; refine ⟨_, rfl, ?_⟩; have HO198 := am (Kd.R_lower (Kd.R_new' ho0 (Kd.R_lt (kr ((Kd.R_mono (Kd.R_far (p := ⟨gb195, 2, none⟩) (Kd.R_far (p := ⟨gb195, 1, none⟩) (Kd.R_far (p := ⟨gb195, 0, none⟩) (Kd.R_types HO192.out BK195.out (by decide)) (fun _ hk => hk.2) (.slice Ao9 t190.length co9)) (fun _ hk => hk.2) (.int .i64 t193)) (fun _ hk => hk.2) (.int .i64 t194)) (fun _ h_ => h_.1)))))) (below_size (bl HB.out))); replace HO192 := am (Kd.R_elder' (kr ((Kd.R_mono (Kd.R_far (p := ⟨gb195, 2, none⟩) (Kd.R_far (p := ⟨gb195, 1, none⟩) (Kd.R_far (p := ⟨gb195, 0, none⟩) (Kd.R_types HO192.out BK195.out (by decide)) (fun _ hk => hk.2) (.slice Ao9 t190.length co9)) (fun _ hk => hk.2) (.int .i64 t193)) (fun _ hk => hk.2) (.int .i64 t194)) (fun _ h_ => h_.1)))) (Kd.R_base ho0) hb); replace BK195 := am (blk_below (g := gb195) (o := .cells #[.slice Ao9 t190.length co9, .int .i64 t193, .int .i64 t194] 28 (0, 0)) (by refine pk ?_; refine blk_put (cs := #[.slice Ao9 t190.length co9, .int .i64 t193, .int .i64 0]) ?_ 2 _ rfl; refine pk ?_; refine blk_put (cs := #[.slice Ao9 t190.length co9, .int .i64 0, .int .i64 0]) ?_ 1 _ rfl; refine pk ?_; refine blk_put (cs := #[.slice none 0 0, .int .i64 0, .int .i64 0]) ?_ 0 _ rfl; refine pk ?_; exact BK195.out) hb); replace HB := am (below_step (bl HB.out) hb); (try clear hb); (try clear hb2); (try clear hk); (try clear hi); (try clear ho0)) | ((with_reducible refine gate_dst (N := 4) rfl ?_); refine box_event ?hg (N := 4) ?hd (cs := #[.slice none 0 0, .int .i64 0, .int .i64 0]) (t := 28) ?hr ?_; (case hd => rfl); (case hg => rfl); (case hr => first | (go_simp; done) | (go_simp; rfl)); intro gb201 hg w12 hbox hb; replace HO192 := am (Kd.R_below (kr HO192.out) hb); replace HO198 := am (Kd.R_below (kr HO198.out) hb); have BK201 := am (hbox); have GW201 := am ((by rw [hg]; exact (below_size (bl HB.out)) : w.heap.size ≤ gb201)); have GE201 := GW201; replace HB := am (below_step (bl HB.out) hb); have NB195_201 := am ((by rw [hg]; exact Nat.ne_of_lt (blk_lt (pk BK195.out)) : gb195 ≠ gb201)); have NB201_195 := am ((by rw [hg]; exact Nat.ne_of_gt (blk_lt (pk BK195.out)) : gb201 ≠ gb195)); replace BK195 := am (blk_below (pk BK195.out) hb); clear hb hbox hg; obtain ⟨Ao13, co13, eo13⟩ := Kd.R_slice HO198.out; subst eo13; have hnb14 := NB201_195.out; have hnc14 := NB195_201.out; have hcz15_0 : w12.cell? ⟨gb201, 0, none⟩ = some (.slice none 0 0) := bc BK201.out 0; have hcz15_1 : w12.cell? ⟨gb201, 1, none⟩ = some (.int .i64 0) := bc BK201.out 1; have hcz15_2 : w12.cell? ⟨gb201, 2, none⟩ = some (.int .i64 0) := bc BK201.out 2; have hfz15_0 := blk_frozen BK201.out 0; have hfz15_1 := blk_frozen BK201.out 1; have hfz15_2 := blk_frozen BK201.out 2; have hcz16_0 : w12.cell? ⟨gb195, 0, none⟩ = some (.slice Ao9 t190.length co9) := bc BK195.out 0; have hcz16_1 : w12.cell? ⟨gb195, 1, none⟩ = some (.int .i64 t193) := bc BK195.out 1; have hcz16_2 : w12.cell? ⟨gb195, 2, none⟩ = some (.int .i64 t194) := bc BK195.out 2; have hfz16_0 := blk_frozen BK195.out 0; have hfz16_1 := blk_frozen BK195.out 1; have hfz16_2 := blk_frozen BK195.out 2) | ((with_reducible refine gate_callee (f := 13) rfl ?_); refine gl (some 17) Tryd.func13 #[.agg #[.slice Ao13 t196.length co13, .int .i64 t199, .int .i64 t200], .agg #[.slice Ao9 t190.length co9, .int .i64 t193, .int .i64 t194]] ?_; (with_reducible refine (laws_eqBuf.calls k _ _ t196 t199 t200 _ _ t190 t193 t194 t202 _ ?side1 ?side2 ?side3 ?side4 A5.out).mono ?_); (case side1 => refine (Kd.R_reads' (e := 2) (base := w.heap.size) (ok := fun k_ => (True ∧ some k_ ≠ (.slice Ao9 t190.length co9 : Value).ownBlock)) (n := t196.length) (c := co13) ?_).2.2; exact (kr ((Kd.R_mono (Kd.R_far (p := ⟨gb201, 2, none⟩) (Kd.R_far (p := ⟨gb201, 1, none⟩) (Kd.R_far (p := ⟨gb201, 0, none⟩) (Kd.R_types HO198.out BK201.out (by decide)) (fun _ hk => hk.2) (.slice Ao13 t196.length co13)) (fun _ hk => hk.2) (.int .i64 t199)) (fun _ hk => hk.2) (.int .i64 t200)) (fun _ h_ => h_.1))))); (case side2 => exact (Kd.R_reads' HO198.out).2.1); (case side3 => refine (Kd.R_reads' (e := 2) (base := w.heap.size) (ok := fun k_ => (True ∧ some k_ ≠ (.slice Ao13 t196.length co13 : Value).ownBlock)) (n := t190.length) (c := co9) ?_).2.2; exact (kr ((Kd.R_mono (Kd.R_far (p := ⟨gb201, 2, none⟩) (Kd.R_far (p := ⟨gb201, 1, none⟩) (Kd.R_far (p := ⟨gb201, 0, none⟩) (Kd.R_types HO192.out BK201.out (by decide)) (fun _ hk => hk.2) (.slice Ao13 t196.length co13)) (fun _ hk => hk.2) (.int .i64 t199)) (fun _ hk => hk.2) (.int .i64 t200)) (fun _ h_ => h_.1))))); (case side4 => exact (Kd.R_reads' HO192.out).2.1); rintro e w17 ⟨rfl, hb⟩; refine ⟨_, rfl, ?_⟩; replace HO192 := am (Kd.R_below (kr ((Kd.R_mono (Kd.R_far (p := ⟨gb201, 2, none⟩) (Kd.R_far (p := ⟨gb201, 1, none⟩) (Kd.R_far (p := ⟨gb201, 0, none⟩) (Kd.R_types HO192.out BK201.out (by decide)) (fun _ hk => hk.2) (.slice Ao13 t196.length co13)) (fun _ hk => hk.2) (.int .i64 t199)) (fun _ hk => hk.2) (.int .i64 t200)) (fun _ h_ => h_.1)))) hb); replace HO198 := am (Kd.R_below (kr ((Kd.R_mono (Kd.R_far (p := ⟨gb201, 2, none⟩) (Kd.R_far (p := ⟨gb201, 1, none⟩) (Kd.R_far (p := ⟨gb201, 0, none⟩) (Kd.R_types HO198.out BK201.out (by decide)) (fun _ hk => hk.2) (.slice Ao13 t196.length co13)) (fun _ hk => hk.2) (.int .i64 t199)) (fun _ hk => hk.2) (.int .i64 t200)) (fun _ h_ => h_.1)))) hb); replace BK195 := am (blk_below (g := gb195) (o := .cells #[.slice Ao9 t190.length co9, .int .i64 t193, .int .i64 t194] 28 (0, 0)) (by refine pk ?_; refine blk_far ?_ NB195_201.out _; refine pk ?_; refine blk_far ?_ NB195_201.out _; refine pk ?_; refine blk_far ?_ NB195_201.out _; refine pk ?_; exact BK195.out) hb); replace BK201 := am (blk_below (g := gb201) (o := .cells #[.slice Ao13 t196.length co13, .int .i64 t199, .int .i64 t200] 28 (0, 0)) (by refine pk ?_; refine blk_put (cs := #[.slice Ao13 t196.length co13, .int .i64 t199, .int .i64 0]) ?_ 2 _ rfl; refine pk ?_; refine blk_put (cs := #[.slice Ao13 t196.length co13, .int .i64 0, .int .i64 0]) ?_ 1 _ rfl; refine pk ?_; refine blk_put (cs := #[.slice none 0 0, .int .i64 0, .int .i64 0]) ?_ 0 _ rfl; refine pk ?_; exact BK201.out) hb); replace HB := am (below_step (bl HB.out) hb); (try clear hb); (try clear hb2); (try clear hk); (try clear hi)))
  (try simp only [Act.put, sa_, s0_, ss_])
  go_cut [] (fun wc => ∃ (kq : Nat), Aside0 (laws_FnExactBufOf.j0 kq a0 t190 t193 t194 t196 t199 t200 = some r) ∧ Aside0 (kq ≤ k) ∧ Aside0 (Kd.R (Kd.int .i64) 2 wc w.heap.size (fun k_ => some k_ ≠ ((.slice Ao13 t196.length co13) : Value).ownBlock) (.slice Ao9 t190.length co9) t190) ∧ Aside0 (Kd.R (Kd.int .i64) 2 wc w.heap.size (fun k_ => some k_ ≠ ((.slice Ao9 t190.length co9) : Value).ownBlock) (.slice Ao13 t196.length co13) t196) ∧ Aside0 (wc.heap[gb195]? = some (.cells #[(.slice Ao9 t190.length co9), .int .i64 t193, .int .i64 t194] 28 (0, 0))) ∧ Aside0 (wc.heap[gb201]? = some (.cells #[(.slice Ao13 t196.length co13), .int .i64 t199, .int .i64 t200] 28 (0, 0))) ∧ Aside0 (Below w.heap.size w wc))
  case first =>
   have H := HC6.out
   clear HC6
   by_cases c18 : t202 = true
   ·subst c18
    have H1 : (laws_FnExactBufOf.j0 k a0 t190 t193 t194 t196 t199 t200) = some r := by rw [if_pos rfl] at H; exact H
    clear H
    have H := H1
    clear H1
    have H' := Aside0.mk H
    clear H
    go_wp2
    go_meet
    case rel => exact ⟨_, H', ⟨by first | omega | exact Nat.le_refl _⟩, ⟨kr (Kd.R_mono HO192.out (fun _ hk => hk.2))⟩, ⟨kr (Kd.R_mono HO198.out (fun _ hk => hk.2))⟩, ⟨pk BK195.out⟩, ⟨pk BK201.out⟩, ⟨by repeat (first | (with_reducible first | exact HB.out | apply below_alloc | apply pw_below_drewN | apply below_drew1 | refine below_set ?_ GE195.out | refine below_set ?_ GE201.out) | exact HB.out)⟩⟩
   ·replace c18 := Bool.eq_false_iff.mpr c18
    subst c18
    have H1 : (some false) = some r := by rw [if_neg (show ¬ (false = true) by decide)] at H; exact H
    clear H
    have H := H1
    clear H1
    obtain rfl := Option.some.inj H
    go_wp2
    go_ret
    exact ⟨by first | rfl | (simp [errW_none, errW_some] <;> rfl) | (simp [*, errW_none, errW_some] <;> rfl), by repeat (first | (with_reducible first | exact HB.out | apply below_alloc | apply pw_below_drewN | apply below_drew1 | refine below_set ?_ GE195.out | refine below_set ?_ GE201.out) | exact HB.out)⟩
  case rest =>
   clear HC6
   try clear c1
   try clear c2
   try clear c2b0
   try clear c2b1
   try clear p2
   try clear c4
   try clear c11
   try clear c12
   try clear c13
   try clear c14
   try clear c18
   try clear hcz10_0
   try clear hcz10_1
   try clear hcz10_2
   try clear hcz15_0
   try clear hcz15_1
   try clear hcz15_2
   try clear hcz16_0
   try clear hcz16_1
   try clear hcz16_2
   try clear hfz10_0
   try clear hfz10_1
   try clear hfz10_2
   try clear hfz15_0
   try clear hfz15_1
   try clear hfz15_2
   try clear hfz16_0
   try clear hfz16_1
   try clear hfz16_2
   obtain ⟨kq, HA, HJ5, HO_196000, HO_202000, BK195, BK201, HB⟩ := hcut
   cases kq with
   | zero => exact absurd HA.out (by simp [laws_FnExactBufOf.j0])
   | succ kj5 =>
    have H := HA.out
    clear HA
    simp only [laws_FnExactBufOf.j0] at H
    replace H := Option.bind_eq_some_iff.mp H
    obtain ⟨⟨t203, t204⟩, A190, H⟩ := H
    replace H : ((laws_heldBuf.f kj5 t204 t199 t200 1).bind fun t205 => (if t205 < 0 then (some false) else (laws_FnExactBufOf.j1 kj5 a0 t203 t205 t190 t193 t194 t204 t199 t200))) = some r := H
    have A19 := Aside0.mk A190
    clear A190
    replace H := Option.bind_eq_some_iff.mp H
    obtain ⟨t205, A200, H⟩ := H
    replace H : (if t205 < 0 then (some false) else (laws_FnExactBufOf.j1 kj5 a0 t203 t205 t190 t193 t194 t204 t199 t200)) = some r := H
    have A20 := Aside0.mk A200
    clear A200
    have HC21 := Aside0.mk H
    clear H
    have hnb22 := NB201_195.out
    have hnc22 := NB195_201.out
    have hcz23_0 : wc.cell? ⟨gb201, 0, none⟩ = some (.slice Ao13 t196.length co13) := bc BK201.out 0
    have hcz23_1 : wc.cell? ⟨gb201, 1, none⟩ = some (.int .i64 t199) := bc BK201.out 1
    have hcz23_2 : wc.cell? ⟨gb201, 2, none⟩ = some (.int .i64 t200) := bc BK201.out 2
    have hfz23_0 := blk_frozen BK201.out 0
    have hfz23_1 := blk_frozen BK201.out 1
    have hfz23_2 := blk_frozen BK201.out 2
    go_upto_if 26 with (first | ((with_reducible refine gate_callee (f := 14) rfl ?_); refine gl (some 21) Tryd.func14 #[.agg #[.slice Ao13 t196.length co13, .int .i64 t199, .int .i64 t200], .int .i64 1] ?_; (with_reducible refine (laws_markBuf.calls kj5 (fun k_ => some k_ = (.slice Ao13 t196.length co13 : Value).ownBlock) (.slice Ao13 t196.length co13) t196 t199 t200 1 t203 t204 w _ ?side1 ?side2 A19.out).mono ?_); (case side1 => repeat (first | (with_reducible first | exact HB.out | apply below_alloc | apply pw_below_drewN | apply below_drew1 | refine below_set ?_ GE195.out | refine below_set ?_ GE201.out) | exact HB.out)); (case side2 => exact Kd.R_tight rfl HO_202000.out); rintro e w24 ⟨rfl, hy0, hb, hkp⟩; refine ⟨_, rfl, ?_⟩; replace HO_196000 := am (Kd.R_mono (ok' := fun k_ => some k_ ≠ (.slice Ao13 t196.length co13 : Value).ownBlock) (Kd.R_keptB (HO_196000.out) hkp (fun k_ hk_ hs_ => (hk_) hs_)) (fun k_ hk_ => hk_.1)); replace BK195 := am (blk_kept (pk BK195.out) hkp (fun hs_ => (fun e_ => (Kd.R_ne HO_202000.out BK195.out (by decide)) e_) hs_)); replace BK201 := am (blk_kept (pk BK201.out) hkp (fun hs_ => (fun e_ => (Kd.R_ne HO_202000.out BK201.out (by decide)) e_) hs_)); replace HO_202000 := am (Kd.R_reok rfl hy0 (fun k_ e_ => HO_202000.out.1 k_ e_)); replace HB := am (hb); (try clear hb); (try clear hkp); (try clear hy0); have hcz25_0 : w24.cell? ⟨gb201, 0, none⟩ = some (.slice Ao13 t196.length co13) := bc BK201.out 0; have hcz25_1 : w24.cell? ⟨gb201, 1, none⟩ = some (.int .i64 t199) := bc BK201.out 1; have hcz25_2 : w24.cell? ⟨gb201, 2, none⟩ = some (.int .i64 t200) := bc BK201.out 2; have hfz25_0 := blk_frozen BK201.out 0; have hfz25_1 := blk_frozen BK201.out 1; have hfz25_2 := blk_frozen BK201.out 2) | ((with_reducible refine gate_callee (f := 15) rfl ?_); refine goesL_ (some 24) rfl rfl Tryd.func15 (by kernel_rfl) rfl #[.agg #[.slice Ao13 t204.length co13, .int .i64 t199, .int .i64 t200], .int .i64 1] rfl (by (try simp only [List.map_toArray, List.map_cons, List.map_nil]); first | done | (rw [show t204.length = t196.length from (Kd.R_reads' HO_202000.out).1.symm] <;> rfl) | rfl | (simp only [List.length_drop, List.length_take]; rfl)) ?_; (with_reducible refine (laws_heldBuf.calls kj5 _ _ t204 t199 t200 1 t205 _ ?side1 ?side2 A20.out).mono ?_); (case side1 => repeat (first | exact (Kd.R_reads' HO_202000.out).2.2 | (with_reducible refine Kd.C_alloc ?_ _) | (with_reducible refine Kd.C_drewN ?_ _) | (with_reducible refine Kd.C_drew ?_))); (case side2 => rw [show t204.length = t196.length from (Kd.R_reads' HO_202000.out).1.symm]; exact (Kd.R_reads' HO_202000.out).2.1); rintro e w26 ⟨rfl, hb⟩; refine ⟨_, rfl, ?_⟩; replace HO_196000 := am (Kd.R_below (kr HO_196000.out) hb); replace HO_202000 := am (Kd.R_below (kr HO_202000.out) hb); replace BK195 := am (blk_below (pk BK195.out) hb); replace BK201 := am (blk_below (pk BK201.out) hb); replace HB := am (below_step (bl HB.out) hb); (try clear hb); (try clear hb2); (try clear hk); (try clear hi)))
    (try simp only [Act.put, sa_, s0_, ss_])
    go_cut [] (fun wc => ∃ (kq : Nat), Aside0 (laws_FnExactBufOf.j1 kq a0 t203 t205 t190 t193 t194 t204 t199 t200 = some r) ∧ Aside0 (kq ≤ kj5) ∧ Aside0 (Kd.R (Kd.int .i64) 2 wc w.heap.size (fun k_ => some k_ ≠ ((.slice Ao13 t196.length co13) : Value).ownBlock) (.slice Ao9 t190.length co9) t190) ∧ Aside0 (Kd.R (Kd.int .i64) 2 wc w.heap.size (fun k_ => some k_ ≠ ((.slice Ao9 t190.length co9) : Value).ownBlock) (.slice Ao13 t196.length co13) t204) ∧ Aside0 (wc.heap[gb195]? = some (.cells #[(.slice Ao9 t190.length co9), .int .i64 t193, .int .i64 t194] 28 (0, 0))) ∧ Aside0 (wc.heap[gb201]? = some (.cells #[(.slice Ao13 t196.length co13), .int .i64 t199, .int .i64 t200] 28 (0, 0))) ∧ Aside0 (Below w.heap.size w wc))
    case first =>
     have H := HC21.out
     clear HC21
     by_cases c27 : t205 < 0
     ·rw [if_pos c27] at H
      have c27b0 : decide (t205 < 0) = true := decide_eq_true c27
      clear c27
      (first | rw [c27b0] | (simp only [i64_w, i32_w]; rw [c27b0]) | (have e9_ := c27b0; unfold bne at e9_; rw [e9_]) | skip)
      obtain rfl := Option.some.inj H
      go_wp2
      go_ret
      exact ⟨by first | rfl | (simp [errW_none, errW_some] <;> rfl) | (simp [*, errW_none, errW_some] <;> rfl), by repeat (first | (with_reducible first | exact HB.out | apply below_alloc | apply pw_below_drewN | apply below_drew1 | refine below_set ?_ GE195.out | refine below_set ?_ GE201.out) | exact HB.out)⟩
     ·rw [if_neg c27] at H
      have c27b0 : decide (t205 < 0) = false := decide_eq_false c27
      clear c27
      (first | rw [c27b0] | (simp only [i64_w, i32_w]; rw [c27b0]) | (have e9_ := c27b0; unfold bne at e9_; rw [e9_]) | skip)
      have H' := Aside0.mk H
      clear H
      go_wp2
      go_meet
      case rel => exact ⟨_, H', ⟨by have := HJ5.out; first | omega | exact Nat.le_refl _⟩, ⟨kr HO_196000.out⟩, ⟨kr HO_202000.out⟩, ⟨pk BK195.out⟩, ⟨pk BK201.out⟩, ⟨by repeat (first | (with_reducible first | exact HB.out | apply below_alloc | apply pw_below_drewN | apply below_drew1 | refine below_set ?_ GE195.out | refine below_set ?_ GE201.out) | exact HB.out)⟩⟩
    case rest =>
     clear HC21
     try clear c1
     try clear c2
     try clear c2b0
     try clear c2b1
     try clear p2
     try clear c4
     try clear c11
     try clear c12
     try clear c13
     try clear c14
     try clear c15
     try clear c18
     try clear c22
     try clear c27
     try clear c27b0
     try clear hcz10_0
     try clear hcz10_1
     try clear hcz10_2
     try clear hcz15_0
     try clear hcz15_1
     try clear hcz15_2
     try clear hcz16_0
     try clear hcz16_1
     try clear hcz16_2
     try clear hcz23_0
     try clear hcz23_1
     try clear hcz23_2
     try clear hcz25_0
     try clear hcz25_1
     try clear hcz25_2
     try clear hfz10_0
     try clear hfz10_1
     try clear hfz10_2
     try clear hfz15_0
     try clear hfz15_1
     try clear hfz15_2
     try clear hfz16_0
     try clear hfz16_1
     try clear hfz16_2
     try clear hfz23_0
     try clear hfz23_1
     try clear hfz23_2
     try clear hfz25_0
     try clear hfz25_1
     try clear hfz25_2
     try clear p2
     obtain ⟨kq, HA, HJ20, HO_196000, HO_202000, BK195, BK201, HB⟩ := hcut
     have hl202000_20 := (Kd.R_reads' HO_202000.out).1
     rw [hl202000_20] at HO_202000
     (try simp only [hl202000_20])
     (try simp only [hl202000_20] at BK195)
     (try simp only [hl202000_20] at BK201)
     (try simp only [hl202000_20] at HO_196000)
     cases kq with
     | zero => exact absurd HA.out (by simp [laws_FnExactBufOf.j1])
     | succ kj20 =>
      have H := HA.out
      clear HA
      simp only [laws_FnExactBufOf.j1] at H
      by_cases c28 : t205 = t203
      ·rw [if_pos c28] at H
       have c28b0 : (t205 == t203) = true := beq_iff_eq.mpr c28
       have c28b1 : (t205 != t203) = false := bne_eq_false_iff_eq.mpr c28
       clear c28
       replace H := Option.bind_eq_some_iff.mp H
       obtain ⟨⟨t206, t209, t210⟩, A290, H⟩ := H
       replace H : ((laws_eqBuf.f kj20 t206 t209 t210 t190 t193 t194).bind fun t212 => (if t212 = true then (laws_FnExactBufOf.j2 kj20 t203 t204 t199 t200) else (some false))) = some r := H
       have A29 := Aside0.mk A290
       clear A290
       replace H := Option.bind_eq_some_iff.mp H
       obtain ⟨t212, A300, H⟩ := H
       replace H : (if t212 = true then (laws_FnExactBufOf.j2 kj20 t203 t204 t199 t200) else (some false)) = some r := H
       have A30 := Aside0.mk A300
       clear A300
       have HC31 := Aside0.mk H
       clear H
       go_upto_if 35 with (first | ((with_reducible refine gate_callee (f := 12) rfl ?_); refine gl (some 31) Tryd.func12 #[.string a0] ?_; (with_reducible refine (impl_BufOf.calls kj20 a0 t206 t209 t210 _ A29.out (ut_below HUT.out ?sT)).mono ?_); (case sT => repeat (first | (with_reducible first | exact HB.out | apply below_alloc | apply pw_below_drewN | apply below_drew1 | refine below_set ?_ GE195.out | refine below_set ?_ GE201.out) | exact HB.out)); rintro e w32 ⟨v207, rfl, ho0, hb⟩; refine ⟨_, rfl, ?_⟩; have HO208 := am (Kd.R_lower (Kd.R_new' (Kd.R_new' ho0 (Kd.R_lt (kr HO_196000.out))) (Kd.R_lt (kr HO_202000.out))) (below_size (bl HB.out))); replace HO_196000 := am (Kd.R_elder' (kr HO_196000.out) (Kd.R_base ho0) hb); replace HO_202000 := am (Kd.R_elder' (kr HO_202000.out) (Kd.R_base ho0) hb); replace BK195 := am (blk_below (pk BK195.out) hb); replace BK201 := am (blk_below (pk BK201.out) hb); replace HB := am (below_step (bl HB.out) hb); (try clear hb); (try clear hb2); (try clear hk); (try clear hi); (try clear ho0)) | ((with_reducible refine gate_dst (N := 7) rfl ?_); refine box_event ?hg (N := 7) ?hd (cs := #[.slice none 0 0, .int .i64 0, .int .i64 0]) (t := 28) ?hr ?_; (case hd => rfl); (case hg => rfl); (case hr => first | (go_simp; done) | (go_simp; rfl)); intro gb211 hg w33 hbox hb; replace HO_196000 := am (Kd.R_below (kr HO_196000.out) hb); replace HO_202000 := am (Kd.R_below (kr HO_202000.out) hb); replace HO208 := am (Kd.R_below (kr HO208.out) hb); have BK211 := am (hbox); have GW211 := am ((by rw [hg]; exact (below_size (bl HB.out)) : w.heap.size ≤ gb211)); have GE211 := GW211; replace HB := am (below_step (bl HB.out) hb); have NB195_211 := am ((by rw [hg]; exact Nat.ne_of_lt (blk_lt (pk BK195.out)) : gb195 ≠ gb211)); have NB211_195 := am ((by rw [hg]; exact Nat.ne_of_gt (blk_lt (pk BK195.out)) : gb211 ≠ gb195)); replace BK195 := am (blk_below (pk BK195.out) hb); have NB201_211 := am ((by rw [hg]; exact Nat.ne_of_lt (blk_lt (pk BK201.out)) : gb201 ≠ gb211)); have NB211_201 := am ((by rw [hg]; exact Nat.ne_of_gt (blk_lt (pk BK201.out)) : gb211 ≠ gb201)); replace BK201 := am (blk_below (pk BK201.out) hb); clear hb hbox hg; obtain ⟨Ao34, co34, eo34⟩ := Kd.R_slice HO208.out; subst eo34; have hnb35 := NB211_195.out; have hnc35 := NB195_211.out; have hnb36 := NB211_201.out; have hnc36 := NB201_211.out; have hcz37_0 : w33.cell? ⟨gb211, 0, none⟩ = some (.slice none 0 0) := bc BK211.out 0; have hcz37_1 : w33.cell? ⟨gb211, 1, none⟩ = some (.int .i64 0) := bc BK211.out 1; have hcz37_2 : w33.cell? ⟨gb211, 2, none⟩ = some (.int .i64 0) := bc BK211.out 2; have hfz37_0 := blk_frozen BK211.out 0; have hfz37_1 := blk_frozen BK211.out 1; have hfz37_2 := blk_frozen BK211.out 2; have hnb38 := NB195_201.out; have hnc38 := NB201_195.out; have hcz39_0 : w33.cell? ⟨gb195, 0, none⟩ = some (.slice Ao9 t190.length co9) := bc BK195.out 0; have hcz39_1 : w33.cell? ⟨gb195, 1, none⟩ = some (.int .i64 t193) := bc BK195.out 1; have hcz39_2 : w33.cell? ⟨gb195, 2, none⟩ = some (.int .i64 t194) := bc BK195.out 2; have hfz39_0 := blk_frozen BK195.out 0; have hfz39_1 := blk_frozen BK195.out 1; have hfz39_2 := blk_frozen BK195.out 2) | ((with_reducible refine gate_callee (f := 13) rfl ?_); refine gl (some 34) Tryd.func13 #[.agg #[.slice Ao34 t206.length co34, .int .i64 t209, .int .i64 t210], .agg #[.slice Ao9 t190.length co9, .int .i64 t193, .int .i64 t194]] ?_; (with_reducible refine (laws_eqBuf.calls kj20 _ _ t206 t209 t210 _ _ t190 t193 t194 t212 _ ?side1 ?side2 ?side3 ?side4 A30.out).mono ?_); (case side1 => refine (Kd.R_reads' (e := 2) (base := w.heap.size) (ok := fun k_ => ((True ∧ some k_ ≠ (.slice Ao9 t190.length co9 : Value).ownBlock) ∧ some k_ ≠ (.slice Ao13 t204.length co13 : Value).ownBlock)) (n := t206.length) (c := co34) ?_).2.2; exact (kr ((Kd.R_mono (Kd.R_far (p := ⟨gb211, 2, none⟩) (Kd.R_far (p := ⟨gb211, 1, none⟩) (Kd.R_far (p := ⟨gb211, 0, none⟩) (Kd.R_types HO208.out BK211.out (by decide)) (fun _ hk => hk.2) (.slice Ao34 t206.length co34)) (fun _ hk => hk.2) (.int .i64 t209)) (fun _ hk => hk.2) (.int .i64 t210)) (fun _ h_ => h_.1))))); (case side2 => exact (Kd.R_reads' HO208.out).2.1); (case side3 => refine (Kd.R_reads' (e := 2) (base := w.heap.size) (ok := fun k_ => (some k_ ≠ (.slice Ao13 t204.length co13 : Value).ownBlock ∧ some k_ ≠ (.slice Ao34 t206.length co34 : Value).ownBlock)) (n := t190.length) (c := co9) ?_).2.2; exact (kr ((Kd.R_mono (Kd.R_far (p := ⟨gb211, 2, none⟩) (Kd.R_far (p := ⟨gb211, 1, none⟩) (Kd.R_far (p := ⟨gb211, 0, none⟩) (Kd.R_types HO_196000.out BK211.out (by decide)) (fun _ hk => hk.2) (.slice Ao34 t206.length co34)) (fun _ hk => hk.2) (.int .i64 t209)) (fun _ hk => hk.2) (.int .i64 t210)) (fun _ h_ => h_.1))))); (case side4 => exact (Kd.R_reads' HO_196000.out).2.1); rintro e w40 ⟨rfl, hb⟩; refine ⟨_, rfl, ?_⟩; replace HO_196000 := am (Kd.R_below (kr ((Kd.R_mono (Kd.R_far (p := ⟨gb211, 2, none⟩) (Kd.R_far (p := ⟨gb211, 1, none⟩) (Kd.R_far (p := ⟨gb211, 0, none⟩) (Kd.R_types HO_196000.out BK211.out (by decide)) (fun _ hk => hk.2) (.slice Ao34 t206.length co34)) (fun _ hk => hk.2) (.int .i64 t209)) (fun _ hk => hk.2) (.int .i64 t210)) (fun _ h_ => h_.1)))) hb); replace HO_202000 := am (Kd.R_below (kr ((Kd.R_mono (Kd.R_far (p := ⟨gb211, 2, none⟩) (Kd.R_far (p := ⟨gb211, 1, none⟩) (Kd.R_far (p := ⟨gb211, 0, none⟩) (Kd.R_types HO_202000.out BK211.out (by decide)) (fun _ hk => hk.2) (.slice Ao34 t206.length co34)) (fun _ hk => hk.2) (.int .i64 t209)) (fun _ hk => hk.2) (.int .i64 t210)) (fun _ h_ => h_.1)))) hb); replace HO208 := am (Kd.R_below (kr ((Kd.R_mono (Kd.R_far (p := ⟨gb211, 2, none⟩) (Kd.R_far (p := ⟨gb211, 1, none⟩) (Kd.R_far (p := ⟨gb211, 0, none⟩) (Kd.R_types HO208.out BK211.out (by decide)) (fun _ hk => hk.2) (.slice Ao34 t206.length co34)) (fun _ hk => hk.2) (.int .i64 t209)) (fun _ hk => hk.2) (.int .i64 t210)) (fun _ h_ => h_.1)))) hb); replace BK195 := am (blk_below (g := gb195) (o := .cells #[.slice Ao9 t190.length co9, .int .i64 t193, .int .i64 t194] 28 (0, 0)) (by refine pk ?_; refine blk_far ?_ NB195_211.out _; refine pk ?_; refine blk_far ?_ NB195_211.out _; refine pk ?_; refine blk_far ?_ NB195_211.out _; refine pk ?_; exact BK195.out) hb); replace BK201 := am (blk_below (g := gb201) (o := .cells #[.slice Ao13 t204.length co13, .int .i64 t199, .int .i64 t200] 28 (0, 0)) (by refine pk ?_; refine blk_far ?_ NB201_211.out _; refine pk ?_; refine blk_far ?_ NB201_211.out _; refine pk ?_; refine blk_far ?_ NB201_211.out _; refine pk ?_; exact BK201.out) hb); replace BK211 := am (blk_below (g := gb211) (o := .cells #[.slice Ao34 t206.length co34, .int .i64 t209, .int .i64 t210] 28 (0, 0)) (by refine pk ?_; refine blk_put (cs := #[.slice Ao34 t206.length co34, .int .i64 t209, .int .i64 0]) ?_ 2 _ rfl; refine pk ?_; refine blk_put (cs := #[.slice Ao34 t206.length co34, .int .i64 0, .int .i64 0]) ?_ 1 _ rfl; refine pk ?_; refine blk_put (cs := #[.slice none 0 0, .int .i64 0, .int .i64 0]) ?_ 0 _ rfl; refine pk ?_; exact BK211.out) hb); replace HB := am (below_step (bl HB.out) hb); (try clear hb); (try clear hb2); (try clear hk); (try clear hi)))
       (try simp only [Act.put, sa_, s0_, ss_])
       go_cut [] (fun wc => ∃ (kq : Nat), Aside0 (laws_FnExactBufOf.j2 kq t203 t204 t199 t200 = some r) ∧ Aside0 (kq ≤ kj20) ∧ Aside0 (Kd.R (Kd.int .i64) 2 wc w.heap.size (fun k_ => some k_ ≠ ((.slice Ao13 t204.length co13) : Value).ownBlock ∧ some k_ ≠ ((.slice Ao34 t206.length co34) : Value).ownBlock) (.slice Ao9 t190.length co9) t190) ∧ Aside0 (Kd.R (Kd.int .i64) 2 wc w.heap.size (fun k_ => some k_ ≠ ((.slice Ao9 t190.length co9) : Value).ownBlock ∧ some k_ ≠ ((.slice Ao34 t206.length co34) : Value).ownBlock) (.slice Ao13 t204.length co13) t204) ∧ Aside0 (Kd.R (Kd.int .i64) 2 wc w.heap.size (fun k_ => some k_ ≠ ((.slice Ao9 t190.length co9) : Value).ownBlock ∧ some k_ ≠ ((.slice Ao13 t204.length co13) : Value).ownBlock) (.slice Ao34 t206.length co34) t206) ∧ Aside0 (wc.heap[gb195]? = some (.cells #[(.slice Ao9 t190.length co9), .int .i64 t193, .int .i64 t194] 28 (0, 0))) ∧ Aside0 (wc.heap[gb201]? = some (.cells #[(.slice Ao13 t204.length co13), .int .i64 t199, .int .i64 t200] 28 (0, 0))) ∧ Aside0 (wc.heap[gb211]? = some (.cells #[(.slice Ao34 t206.length co34), .int .i64 t209, .int .i64 t210] 28 (0, 0))) ∧ Aside0 (Below w.heap.size w wc))
       case first =>
        have H := HC31.out
        clear HC31
        by_cases c41 : t212 = true
        ·subst c41
         have H1 : (laws_FnExactBufOf.j2 kj20 t203 t204 t199 t200) = some r := by rw [if_pos rfl] at H; exact H
         clear H
         have H := H1
         clear H1
         have H' := Aside0.mk H
         clear H
         go_wp2
         go_meet
         case rel => exact ⟨_, H', ⟨by have := HJ5.out; have := HJ20.out; first | omega | exact Nat.le_refl _⟩, ⟨by (try simp only [hl202000_20]); (with_reducible repeat (first | apply Kd.R_alloc | apply Kd.R_drewN | apply Kd.R_drew)); exact HO_196000.out⟩, ⟨by (try simp only [hl202000_20]); (with_reducible repeat (first | apply Kd.R_alloc | apply Kd.R_drewN | apply Kd.R_drew)); exact HO_202000.out⟩, ⟨by (try simp only [hl202000_20]); (with_reducible repeat (first | apply Kd.R_alloc | apply Kd.R_drewN | apply Kd.R_drew)); exact Kd.R_mono HO208.out (fun _ hk => ⟨hk.1.2, hk.2⟩)⟩, ⟨by (try simp only [hl202000_20]); refine pk ?_; exact BK195.out⟩, ⟨by (try simp only [hl202000_20]); refine pk ?_; exact BK201.out⟩, ⟨by (try simp only [hl202000_20]); refine pk ?_; exact BK211.out⟩, ⟨by repeat (first | (with_reducible first | exact HB.out | apply below_alloc | apply pw_below_drewN | apply below_drew1 | refine below_set ?_ GE195.out | refine below_set ?_ GE201.out | refine below_set ?_ GE211.out) | exact HB.out)⟩⟩
        ·replace c41 := Bool.eq_false_iff.mpr c41
         subst c41
         have H1 : (some false) = some r := by rw [if_neg (show ¬ (false = true) by decide)] at H; exact H
         clear H
         have H := H1
         clear H1
         obtain rfl := Option.some.inj H
         go_wp2
         go_ret
         exact ⟨by first | rfl | (simp [errW_none, errW_some] <;> rfl) | (simp [*, errW_none, errW_some] <;> rfl), by repeat (first | (with_reducible first | exact HB.out | apply below_alloc | apply pw_below_drewN | apply below_drew1 | refine below_set ?_ GE195.out | refine below_set ?_ GE201.out | refine below_set ?_ GE211.out) | exact HB.out)⟩
       case rest =>
        clear HC31
        try clear c1
        try clear c2
        try clear c2b0
        try clear c2b1
        try clear p2
        try clear c3
        try clear c4
        try clear c11
        try clear c12
        try clear c13
        try clear c14
        try clear c15
        try clear c18
        try clear c22
        try clear c27
        try clear c27b0
        try clear c28
        try clear c28b0
        try clear c28b1
        try clear c35
        try clear c36
        try clear c38
        try clear c41
        try clear hcz10_0
        try clear hcz10_1
        try clear hcz10_2
        try clear hcz15_0
        try clear hcz15_1
        try clear hcz15_2
        try clear hcz16_0
        try clear hcz16_1
        try clear hcz16_2
        try clear hcz23_0
        try clear hcz23_1
        try clear hcz23_2
        try clear hcz25_0
        try clear hcz25_1
        try clear hcz25_2
        try clear hcz37_0
        try clear hcz37_1
        try clear hcz37_2
        try clear hcz39_0
        try clear hcz39_1
        try clear hcz39_2
        try clear hfz10_0
        try clear hfz10_1
        try clear hfz10_2
        try clear hfz15_0
        try clear hfz15_1
        try clear hfz15_2
        try clear hfz16_0
        try clear hfz16_1
        try clear hfz16_2
        try clear hfz23_0
        try clear hfz23_1
        try clear hfz23_2
        try clear hfz25_0
        try clear hfz25_1
        try clear hfz25_2
        try clear hfz37_0
        try clear hfz37_1
        try clear hfz37_2
        try clear hfz39_0
        try clear hfz39_1
        try clear hfz39_2
        try clear p2
        obtain ⟨kq, HA, HJ30, HO_196000, HO_202000, HO_212000, BK195, BK201, BK211, HB⟩ := hcut
        cases kq with
        | zero => exact absurd HA.out (by simp [laws_FnExactBufOf.j2])
        | succ kj30 =>
         have H := HA.out
         clear HA
         simp only [laws_FnExactBufOf.j2] at H
         replace H := Option.bind_eq_some_iff.mp H
         obtain ⟨t213, A420, H⟩ := H
         replace H : (if t213 < 0 then (some false) else (if t213 = t203 then (some true) else (some false))) = some r := H
         have A42 := Aside0.mk A420
         clear A420
         by_cases c43 : t213 < 0
         ·rw [if_pos c43] at H
          have c43b0 : decide (t213 < 0) = true := decide_eq_true c43
          clear c43
          obtain rfl := Option.some.inj H
          have hnb44 := NB201_195.out
          have hnc44 := NB195_201.out
          have hnb45 := NB201_211.out
          have hnc45 := NB211_201.out
          have hcz46_0 : wc.cell? ⟨gb201, 0, none⟩ = some (.slice Ao13 t204.length co13) := bc BK201.out 0
          have hcz46_1 : wc.cell? ⟨gb201, 1, none⟩ = some (.int .i64 t199) := bc BK201.out 1
          have hcz46_2 : wc.cell? ⟨gb201, 2, none⟩ = some (.int .i64 t200) := bc BK201.out 2
          have hfz46_0 := blk_frozen BK201.out 0
          have hfz46_1 := blk_frozen BK201.out 1
          have hfz46_2 := blk_frozen BK201.out 2
          go_wp2_with (first | ((with_reducible refine gate_callee (f := 15) rfl ?_); refine gl (some 38) Tryd.func15 #[.agg #[.slice Ao13 t204.length co13, .int .i64 t199, .int .i64 t200], .int .i64 1] ?_; (with_reducible refine (laws_heldBuf.calls kj30 _ _ t204 t199 t200 1 t213 _ ?side1 ?side2 A42.out).mono ?_); (case side1 => repeat (first | exact (Kd.R_reads' HO_202000.out).2.2 | (with_reducible refine Kd.C_alloc ?_ _) | (with_reducible refine Kd.C_drewN ?_ _) | (with_reducible refine Kd.C_drew ?_))); (case side2 => exact (Kd.R_reads' HO_202000.out).2.1); rintro e w47 ⟨rfl, hb⟩; refine ⟨_, rfl, ?_⟩; replace HO_196000 := am (Kd.R_below (kr HO_196000.out) hb); replace HO_202000 := am (Kd.R_below (kr HO_202000.out) hb); replace HO_212000 := am (Kd.R_below (kr HO_212000.out) hb); replace BK195 := am (blk_below (pk BK195.out) hb); replace BK201 := am (blk_below (pk BK201.out) hb); replace BK211 := am (blk_below (pk BK211.out) hb); replace HB := am (below_step (bl HB.out) hb); (try clear hb); (try clear hb2); (try clear hk); (try clear hi)))
          go_ret
          exact ⟨by first | rfl | (simp [errW_none, errW_some] <;> rfl) | (simp [*, errW_none, errW_some] <;> rfl), by repeat (first | (with_reducible first | exact HB.out | apply below_alloc | apply pw_below_drewN | apply below_drew1 | refine below_set ?_ GE195.out | refine below_set ?_ GE201.out | refine below_set ?_ GE211.out) | exact HB.out)⟩
         ·rw [if_neg c43] at H
          have c43b0 : decide (t213 < 0) = false := decide_eq_false c43
          clear c43
          by_cases c48 : t213 = t203
          ·rw [if_pos c48] at H
           have c48b0 : (t213 == t203) = true := beq_iff_eq.mpr c48
           have c48b1 : (t213 != t203) = false := bne_eq_false_iff_eq.mpr c48
           clear c48
           obtain rfl := Option.some.inj H
           have hnb49 := NB201_195.out
           have hnc49 := NB195_201.out
           have hnb50 := NB201_211.out
           have hnc50 := NB211_201.out
           have hcz51_0 : wc.cell? ⟨gb201, 0, none⟩ = some (.slice Ao13 t204.length co13) := bc BK201.out 0
           have hcz51_1 : wc.cell? ⟨gb201, 1, none⟩ = some (.int .i64 t199) := bc BK201.out 1
           have hcz51_2 : wc.cell? ⟨gb201, 2, none⟩ = some (.int .i64 t200) := bc BK201.out 2
           have hfz51_0 := blk_frozen BK201.out 0
           have hfz51_1 := blk_frozen BK201.out 1
           have hfz51_2 := blk_frozen BK201.out 2
           go_wp2_with (first | ((with_reducible refine gate_callee (f := 15) rfl ?_); refine gl (some 38) Tryd.func15 #[.agg #[.slice Ao13 t204.length co13, .int .i64 t199, .int .i64 t200], .int .i64 1] ?_; (with_reducible refine (laws_heldBuf.calls kj30 _ _ t204 t199 t200 1 t213 _ ?side1 ?side2 A42.out).mono ?_); (case side1 => repeat (first | exact (Kd.R_reads' HO_202000.out).2.2 | (with_reducible refine Kd.C_alloc ?_ _) | (with_reducible refine Kd.C_drewN ?_ _) | (with_reducible refine Kd.C_drew ?_))); (case side2 => exact (Kd.R_reads' HO_202000.out).2.1); rintro e w52 ⟨rfl, hb⟩; refine ⟨_, rfl, ?_⟩; replace HO_196000 := am (Kd.R_below (kr HO_196000.out) hb); replace HO_202000 := am (Kd.R_below (kr HO_202000.out) hb); replace HO_212000 := am (Kd.R_below (kr HO_212000.out) hb); replace BK195 := am (blk_below (pk BK195.out) hb); replace BK201 := am (blk_below (pk BK201.out) hb); replace BK211 := am (blk_below (pk BK211.out) hb); replace HB := am (below_step (bl HB.out) hb); (try clear hb); (try clear hb2); (try clear hk); (try clear hi)))
           go_ret
           exact ⟨by first | rfl | (simp [errW_none, errW_some] <;> rfl) | (simp [*, errW_none, errW_some] <;> rfl), by repeat (first | (with_reducible first | exact HB.out | apply below_alloc | apply pw_below_drewN | apply below_drew1 | refine below_set ?_ GE195.out | refine below_set ?_ GE201.out | refine below_set ?_ GE211.out) | exact HB.out)⟩
          ·rw [if_neg c48] at H
           have c48b0 : (t213 == t203) = false := beq_eq_false_iff_ne.mpr c48
           have c48b1 : (t213 != t203) = true := bne_iff_ne.mpr c48
           obtain rfl := Option.some.inj H
           have hnb53 := NB201_195.out
           have hnc53 := NB195_201.out
           have hnb54 := NB201_211.out
           have hnc54 := NB211_201.out
           have hcz55_0 : wc.cell? ⟨gb201, 0, none⟩ = some (.slice Ao13 t204.length co13) := bc BK201.out 0
           have hcz55_1 : wc.cell? ⟨gb201, 1, none⟩ = some (.int .i64 t199) := bc BK201.out 1
           have hcz55_2 : wc.cell? ⟨gb201, 2, none⟩ = some (.int .i64 t200) := bc BK201.out 2
           have hfz55_0 := blk_frozen BK201.out 0
           have hfz55_1 := blk_frozen BK201.out 1
           have hfz55_2 := blk_frozen BK201.out 2
           go_wp2_with (first | ((with_reducible refine gate_callee (f := 15) rfl ?_); refine gl (some 38) Tryd.func15 #[.agg #[.slice Ao13 t204.length co13, .int .i64 t199, .int .i64 t200], .int .i64 1] ?_; (with_reducible refine (laws_heldBuf.calls kj30 _ _ t204 t199 t200 1 t213 _ ?side1 ?side2 A42.out).mono ?_); (case side1 => repeat (first | exact (Kd.R_reads' HO_202000.out).2.2 | (with_reducible refine Kd.C_alloc ?_ _) | (with_reducible refine Kd.C_drewN ?_ _) | (with_reducible refine Kd.C_drew ?_))); (case side2 => exact (Kd.R_reads' HO_202000.out).2.1); rintro e w56 ⟨rfl, hb⟩; refine ⟨_, rfl, ?_⟩; replace HO_196000 := am (Kd.R_below (kr HO_196000.out) hb); replace HO_202000 := am (Kd.R_below (kr HO_202000.out) hb); replace HO_212000 := am (Kd.R_below (kr HO_212000.out) hb); replace BK195 := am (blk_below (pk BK195.out) hb); replace BK201 := am (blk_below (pk BK201.out) hb); replace BK211 := am (blk_below (pk BK211.out) hb); replace HB := am (below_step (bl HB.out) hb); (try clear hb); (try clear hb2); (try clear hk); (try clear hi)))
           go_ret
           exact ⟨by first | rfl | (simp [errW_none, errW_some] <;> rfl) | (simp [*, errW_none, errW_some] <;> rfl), by repeat (first | (with_reducible first | exact HB.out | apply below_alloc | apply pw_below_drewN | apply below_drew1 | refine below_set ?_ GE195.out | refine below_set ?_ GE201.out | refine below_set ?_ GE211.out) | exact HB.out)⟩
      ·rw [if_neg c28] at H
       have c28b0 : (t205 == t203) = false := beq_eq_false_iff_ne.mpr c28
       have c28b1 : (t205 != t203) = true := bne_iff_ne.mpr c28
       obtain rfl := Option.some.inj H
       go_wp2
       go_ret
       exact ⟨by first | rfl | (simp [errW_none, errW_some] <;> rfl) | (simp [*, errW_none, errW_some] <;> rfl), by repeat (first | (with_reducible first | exact HB.out | apply below_alloc | apply pw_below_drewN | apply below_drew1 | refine below_set ?_ GE195.out | refine below_set ?_ GE201.out) | exact HB.out)⟩

/-- THE ONE PURE STATEMENT of laws_FnExactBufOf: yours. -/
def laws_FnExactBufOf.Pure : Prop := ∀ (a0 : ByteArray), a0.size ≤ 140737488351232 → ∃ k, laws_FnExactBufOf.f k a0 = some true
theorem laws_FnExactBufOf.walk (P : laws_FnExactBufOf.Pure) (a0 : ByteArray) (w : World) (w0 : a0.size ≤ 140737488351232) (hT : Lib.Utf8Tabs 0 1 w) :
  Calls Tryd.prog 4 #[.string a0] w fun e w' => e = .returned (.bool true) ∧ Below w.heap.size w w' := by
 obtain ⟨k, h⟩ := P a0 w0
 refine (laws_FnExactBufOf.calls k a0 true w h hT).mono ?_
 rintro e w' ⟨rfl, hd⟩
 exact ⟨rfl, hd⟩

end Go.Proofs.YtbbhdggikcipaaaDoor.PFnExactBufOf
