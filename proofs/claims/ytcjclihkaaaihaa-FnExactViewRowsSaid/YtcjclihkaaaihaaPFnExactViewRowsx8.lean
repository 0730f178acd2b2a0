-- Written by xprint.py (this claim's own program, over the kit's printer); Lean checks it.
import Derived.Test.YtcjclihkaaaihaaPFnExactViewRowsx0
import Derived.Test.YtcjclihkaaaihaaPFnExactViewRowsx1
import Derived.Test.YtcjclihkaaaihaaPFnExactViewRowsx4
import Derived.Test.YtcjclihkaaaihaaPFnExactViewRowsx7
namespace Go.Proofs.Ytcjclihkaaaihaa.PFnExactViewRows
open Go.RowKit Go.Proofs.YtcjclihkaaaihaaW.PrintWords Go.Proofs.YtcjclihkaaaihaaW.PrintLast Go.Proofs.YtcjclihkaaaihaaW.PrintMore
attribute [local go_sem] max2_int min2_int max_two min_two max_three min_three max_four min_four   -- for this text's walks alone
set_option linter.unusedVariables false
set_option linter.unusedSimpArgs false   -- squeezed

/-! ### laws_FnExactViewRows: function 4 -/
mutual
def laws_FnExactViewRows.j0 : Nat → List Int → List Int → List Int → Int → Int → List Int → Int → Int → Option (Bool)
 | 0, _, _, _, _, _, _, _, _ => none
 | k + 1, x0, x9, x179000, x179001, x179002, x198000, x198001, x198002 => (laws_toInt64S.f k x0).bind fun t199 => ((laws_eqInt64S.f k x9 t199).bind fun t202 => (if t202 = true then (laws_FnExactViewRows.j1 k x179000 x179001 x179002 x198000 x198001 x198002) else (some false)))
def laws_FnExactViewRows.j1 : Nat → List Int → Int → Int → List Int → Int → Int → Option (Bool)
 | 0, _, _, _, _, _, _ => none
 | k + 1, x179000, x179001, x179002, x198000, x198001, x198002 => (laws_toBuf.f k x179000 x179001 x179002).bind fun bt203 => ((laws_eqBuf.f k x198000 x198001 x198002 bt203.1 bt203.2.1 bt203.2.2).bind fun t208 => (if t208 = true then (some true) else (some false)))
end
def laws_FnExactViewRows.f (k : Nat) (l0 : List Int) (l1_0 : List Int) (a1_1 : Int) (a1_2 : Int) (a2 : Int) : Option (Bool) := if (l0.length : Int) > 1048576 then (some true) else ((laws_szBuf.f l1_0 a1_1 a1_2 1048576).bind fun t179 => (if t179 < 0 then (some true) else ((laws_toInt64S.f k l0).bind fun t180 => ((laws_toBuf.f k l1_0 a1_1 a1_2).bind fun bt183 => ((spec_ViewRows.f k t180 bt183.1 bt183.2.1 bt183.2.2 a2).bind fun t188 => ((laws_toInt64S.f k l0).bind fun t189 => ((laws_toBuf.f k l1_0 a1_1 a1_2).bind fun bt192 => ((impl_ViewRows.f k t189 bt192.1 bt192.2.1 bt192.2.2 a2).bind fun t198 => (if t198 = t188 then (laws_FnExactViewRows.j0 k l0 t189 l1_0 a1_1 a1_2 bt192.1 bt192.2.1 bt192.2.2) else (some false))))))))))
theorem laws_FnExactViewRows.mono_l : ∀ k, (∀ y0 y1 y2 y3 y4 y5 y6 y7, LeO (laws_FnExactViewRows.j0 k y0 y1 y2 y3 y4 y5 y6 y7) (laws_FnExactViewRows.j0 (k + 1) y0 y1 y2 y3 y4 y5 y6 y7)) ∧ (∀ y0 y1 y2 y3 y4 y5, LeO (laws_FnExactViewRows.j1 k y0 y1 y2 y3 y4 y5) (laws_FnExactViewRows.j1 (k + 1) y0 y1 y2 y3 y4 y5))
 | 0 => ⟨fun _ _ _ _ _ _ _ _ r h => by simp [laws_FnExactViewRows.j0] at h, fun _ _ _ _ _ _ r h => by simp [laws_FnExactViewRows.j1] at h⟩
 | k + 1 => by
  obtain ⟨ih0, ih1⟩ := laws_FnExactViewRows.mono_l k
  refine ⟨?_, ?_⟩
  ·intro y0 y1 y2 y3 y4 y5 y6 y7
   unfold laws_FnExactViewRows.j0
   repeat' first
   | (with_reducible exact ih0 _ _ _ _ _ _ _ _)
   | (with_reducible exact ih1 _ _ _ _ _ _)
   | (with_reducible exact impl_ViewRows.mono _ _ _ _ _ _)
   | (with_reducible exact laws_eqBuf.mono _ _ _ _ _ _ _)
   | (with_reducible exact laws_eqInt64S.mono _ _ _)
   | (with_reducible exact laws_toBuf.mono _ _ _ _)
   | (with_reducible exact laws_toInt64S.mono _ _)
   | (with_reducible exact spec_ViewRows.mono _ _ _ _ _ _)
   | (with_reducible exact LeO.refl _)
   | (with_reducible exact LeO.none _)
   | (with_reducible refine LeO.ite ?_ ?_)
   | (with_reducible refine LeO.bind ?_ (fun _ => ?_))
   | exact ih0 _ _ _ _ _ _ _ _
   | exact ih1 _ _ _ _ _ _
   | exact impl_ViewRows.mono _ _ _ _ _ _
   | exact laws_eqBuf.mono _ _ _ _ _ _ _
   | exact laws_eqInt64S.mono _ _ _
   | exact laws_toBuf.mono _ _ _ _
   | exact laws_toInt64S.mono _ _
   | exact spec_ViewRows.mono _ _ _ _ _ _
   | refine LeO.bind ?_ (fun _ => ?_)
  ·intro y0 y1 y2 y3 y4 y5
   unfold laws_FnExactViewRows.j1
   repeat' first
   | (with_reducible exact ih0 _ _ _ _ _ _ _ _)
   | (with_reducible exact ih1 _ _ _ _ _ _)
   | (with_reducible exact impl_ViewRows.mono _ _ _ _ _ _)
   | (with_reducible exact laws_eqBuf.mono _ _ _ _ _ _ _)
   | (with_reducible exact laws_eqInt64S.mono _ _ _)
   | (with_reducible exact laws_toBuf.mono _ _ _ _)
   | (with_reducible exact laws_toInt64S.mono _ _)
   | (with_reducible exact spec_ViewRows.mono _ _ _ _ _ _)
   | (with_reducible exact LeO.refl _)
   | (with_reducible exact LeO.none _)
   | (with_reducible refine LeO.ite ?_ ?_)
   | (with_reducible refine LeO.bind ?_ (fun _ => ?_))
   | exact ih0 _ _ _ _ _ _ _ _
   | exact ih1 _ _ _ _ _ _
   | exact impl_ViewRows.mono _ _ _ _ _ _
   | exact laws_eqBuf.mono _ _ _ _ _ _ _
   | exact laws_eqInt64S.mono _ _ _
   | exact laws_toBuf.mono _ _ _ _
   | exact laws_toInt64S.mono _ _
   | exact spec_ViewRows.mono _ _ _ _ _ _
   | refine LeO.bind ?_ (fun _ => ?_)
theorem laws_FnExactViewRows.mono : ∀ a0 a1 a2 a3 a4 k, LeO (laws_FnExactViewRows.f k a0 a1 a2 a3 a4) (laws_FnExactViewRows.f (k + 1) a0 a1 a2 a3 a4) := by
 intro a0 a1 a2 a3 a4 k
 obtain ⟨ih0, ih1⟩ := laws_FnExactViewRows.mono_l k
 unfold laws_FnExactViewRows.f
 repeat' first
   | (with_reducible exact ih0 _ _ _ _ _ _ _ _)
   | (with_reducible exact ih1 _ _ _ _ _ _)
   | (with_reducible exact impl_ViewRows.mono _ _ _ _ _ _)
   | (with_reducible exact laws_eqBuf.mono _ _ _ _ _ _ _)
   | (with_reducible exact laws_eqInt64S.mono _ _ _)
   | (with_reducible exact laws_toBuf.mono _ _ _ _)
   | (with_reducible exact laws_toInt64S.mono _ _)
   | (with_reducible exact spec_ViewRows.mono _ _ _ _ _ _)
   | (with_reducible exact LeO.refl _)
   | (with_reducible exact LeO.none _)
   | (with_reducible refine LeO.ite ?_ ?_)
   | (with_reducible refine LeO.bind ?_ (fun _ => ?_))
   | exact ih0 _ _ _ _ _ _ _ _
   | exact ih1 _ _ _ _ _ _
   | exact impl_ViewRows.mono _ _ _ _ _ _
   | exact laws_eqBuf.mono _ _ _ _ _ _ _
   | exact laws_eqInt64S.mono _ _ _
   | exact laws_toBuf.mono _ _ _ _
   | exact laws_toInt64S.mono _ _
   | exact spec_ViewRows.mono _ _ _ _ _ _
   | refine LeO.bind ?_ (fun _ => ?_)
set_option maxHeartbeats 8000000 in
set_option maxRecDepth 100000 in
theorem laws_FnExactViewRows.calls (k : Nat) (A0 : Option Addr) (c0 : Nat) (l0 : List Int) (A1_0 : Option Addr) (c1_0 : Nat) (l1_0 : List Int) (a1_1 : Int) (a1_2 : Int) (a2 : Int) (r : Bool) (w : World) (hr0 : Kd.C (Kd.int .i64) w A0 l0.length l0) (hc0 : l0.length ≤ c0) (hr1_0 : Kd.C (Kd.int .i64) w A1_0 l1_0.length l1_0) (hc1_0 : l1_0.length ≤ c1_0) (h : laws_FnExactViewRows.f k l0 l1_0 a1_1 a1_2 a2 = some r) :
  Calls Try.prog 4 #[.slice A0 l0.length c0, .agg #[.slice A1_0 l1_0.length c1_0, .int .i64 a1_1, .int .i64 a1_2], .int .i64 a2] w fun e w' => e = .returned (.bool r) ∧ Below w.heap.size w w' := by
 have hu24 := Try.underlying24
 have hu33 := Try.underlying33
 have HR0 := am hr0
 have HC0 := am hc0
 clear hr0 hc0
 have HR1_0 := am hr1_0
 have HC1_0 := am hc1_0
 clear hr1_0 hc1_0
 have HB := am (Below.refl w.heap.size w)
 have H : (if (l0.length : Int) > 1048576 then (some true) else ((laws_szBuf.f l1_0 a1_1 a1_2 1048576).bind fun t179 => (if t179 < 0 then (some true) else ((laws_toInt64S.f k l0).bind fun t180 => ((laws_toBuf.f k l1_0 a1_1 a1_2).bind fun bt183 => ((spec_ViewRows.f k t180 bt183.1 bt183.2.1 bt183.2.2 a2).bind fun t188 => ((laws_toInt64S.f k l0).bind fun t189 => ((laws_toBuf.f k l1_0 a1_1 a1_2).bind fun bt192 => ((impl_ViewRows.f k t189 bt192.1 bt192.2.1 bt192.2.2 a2).bind fun t198 => (if t198 = t188 then (laws_FnExactViewRows.j0 k l0 t189 l1_0 a1_1 a1_2 bt192.1 bt192.2.1 bt192.2.2) else (some false))))))))))) = some r := h
 clear h
 by_cases c4 : (l0.length : Int) > 1048576
 ·rw [if_pos c4] at H
  have c4b0 : decide (1048576 < (l0.length : Int)) = true := decide_eq_true c4
  have c4b1 : decide (1048576 < l0.length) = true := decide_eq_true (by omega)
  clear c4
  obtain rfl := Option.some.inj H
  go_enter Try.func4, Try.ntmps4
  go_wp2_with (first | ((with_reducible refine gate_dst (N := 4) rfl ?_); refine box_event ?hg (N := 4) ?hd (cs := #[.slice A1_0 l1_0.length c1_0, .int .i64 a1_1, .int .i64 a1_2]) (t := 24) ?hr ?_; (case hd => rfl); (case hg => rfl); (case hr => first | (go_simp; done) | (go_simp; rfl)); intro gb178 hg w5 hbox hb; have BK178 := am (hbox); have GW178 := am ((by rw [hg]; exact (below_size (bl HB.out)) : w.heap.size ≤ gb178)); have GE178 := GW178; replace HB := am (below_step (bl HB.out) hb); clear hb hbox hg))
  go_ret
  exact ⟨by first | rfl | (simp [errW_none, errW_some] <;> rfl) | (simp [*, errW_none, errW_some] <;> rfl), by repeat (first | (with_reducible first | exact HB.out | apply below_alloc | apply pw_below_drewN | apply below_drew1 | refine below_set ?_ GE178.out) | exact HB.out)⟩
 ·rw [if_neg c4] at H
  have c4b0 : decide (1048576 < (l0.length : Int)) = false := decide_eq_false c4
  have c4b1 : decide (1048576 < l0.length) = false := decide_eq_false (by omega)
  clear c4
  replace H := Option.bind_eq_some_iff.mp H
  obtain ⟨t179, A60, H⟩ := H
  replace H : (if t179 < 0 then (some true) else ((laws_toInt64S.f k l0).bind fun t180 => ((laws_toBuf.f k l1_0 a1_1 a1_2).bind fun bt183 => ((spec_ViewRows.f k t180 bt183.1 bt183.2.1 bt183.2.2 a2).bind fun t188 => ((laws_toInt64S.f k l0).bind fun t189 => ((laws_toBuf.f k l1_0 a1_1 a1_2).bind fun bt192 => ((impl_ViewRows.f k t189 bt192.1 bt192.2.1 bt192.2.2 a2).bind fun t198 => (if t198 = t188 then (laws_FnExactViewRows.j0 k l0 t189 l1_0 a1_1 a1_2 bt192.1 bt192.2.1 bt192.2.2) else (some false))))))))) = some r := H
  have A6 := Aside0.mk A60
  clear A60
  by_cases c7 : t179 < 0
  ·rw [if_pos c7] at H
   have c7b0 : decide (t179 < 0) = true := decide_eq_true c7
   clear c7
   obtain rfl := Option.some.inj H
   go_enter Try.func4, Try.ntmps4
   go_wp2_with (first | ((with_reducible refine gate_dst (N := 4) rfl ?_); refine box_event ?hg (N := 4) ?hd (cs := #[.slice A1_0 l1_0.length c1_0, .int .i64 a1_1, .int .i64 a1_2]) (t := 24) ?hr ?_; (case hd => rfl); (case hg => rfl); (case hr => first | (go_simp; done) | (go_simp; rfl)); intro gb178 hg w8 hbox hb; have BK178 := am (hbox); have GW178 := am ((by rw [hg]; exact (below_size (bl HB.out)) : w.heap.size ≤ gb178)); have GE178 := GW178; replace HB := am (below_step (bl HB.out) hb); clear hb hbox hg; have hcz9_0 : w8.cell? ⟨gb178, 0, none⟩ = some (.slice A1_0 l1_0.length c1_0) := bc BK178.out 0; have hcz9_1 : w8.cell? ⟨gb178, 1, none⟩ = some (.int .i64 a1_1) := bc BK178.out 1; have hcz9_2 : w8.cell? ⟨gb178, 2, none⟩ = some (.int .i64 a1_2) := bc BK178.out 2; have hfz9_0 := blk_frozen BK178.out 0; have hfz9_1 := blk_frozen BK178.out 1; have hfz9_2 := blk_frozen BK178.out 2) | ((with_reducible refine gate_callee (f := 9) rfl ?_); refine gl (some 17) Try.func9 #[.agg #[.slice A1_0 l1_0.length c1_0, .int .i64 a1_1, .int .i64 a1_2], .int .i64 1048576] ?_; (with_reducible refine (laws_szBuf.calls _ _ l1_0 a1_1 a1_2 1048576 t179 _ ?side1 ?side2 A6.out).mono ?_); (case side1 => repeat (first | exact (Kd.C_below HR1_0.out HB.out) | (with_reducible refine Kd.C_alloc ?_ _) | (with_reducible refine Kd.C_drewN ?_ _) | (with_reducible refine Kd.C_drew ?_))); (case side2 => exact HC1_0.out); rintro e w10 ⟨rfl, hb⟩; refine ⟨_, rfl, ?_⟩; replace BK178 := am (blk_below (pk BK178.out) hb); replace HB := am (below_step (bl HB.out) hb); (try clear hb); (try clear hb2); (try clear hk); (try clear hi)))
   go_ret
   exact ⟨by first | rfl | (simp [errW_none, errW_some] <;> rfl) | (simp [*, errW_none, errW_some] <;> rfl), by repeat (first | (with_reducible first | exact HB.out | apply below_alloc | apply pw_below_drewN | apply below_drew1 | refine below_set ?_ GE178.out) | exact HB.out)⟩
  ·rw [if_neg c7] at H
   have c7b0 : decide (t179 < 0) = false := decide_eq_false c7
   clear c7
   replace H := Option.bind_eq_some_iff.mp H
   obtain ⟨t180, A110, H⟩ := H
   replace H : ((laws_toBuf.f k l1_0 a1_1 a1_2).bind fun bt183 => ((spec_ViewRows.f k t180 bt183.1 bt183.2.1 bt183.2.2 a2).bind fun t188 => ((laws_toInt64S.f k l0).bind fun t189 => ((laws_toBuf.f k l1_0 a1_1 a1_2).bind fun bt192 => ((impl_ViewRows.f k t189 bt192.1 bt192.2.1 bt192.2.2 a2).bind fun t198 => (if t198 = t188 then (laws_FnExactViewRows.j0 k l0 t189 l1_0 a1_1 a1_2 bt192.1 bt192.2.1 bt192.2.2) else (some false))))))) = some r := H
   have A11 := Aside0.mk A110
   clear A110
   replace H := Option.bind_eq_some_iff.mp H
   obtain ⟨⟨t183, t186, t187⟩, A120, H⟩ := H
   replace H : ((spec_ViewRows.f k t180 t183 t186 t187 a2).bind fun t188 => ((laws_toInt64S.f k l0).bind fun t189 => ((laws_toBuf.f k l1_0 a1_1 a1_2).bind fun bt192 => ((impl_ViewRows.f k t189 bt192.1 bt192.2.1 bt192.2.2 a2).bind fun t198 => (if t198 = t188 then (laws_FnExactViewRows.j0 k l0 t189 l1_0 a1_1 a1_2 bt192.1 bt192.2.1 bt192.2.2) else (some false)))))) = some r := H
   have A12 := Aside0.mk A120
   clear A120
   replace H := Option.bind_eq_some_iff.mp H
   obtain ⟨t188, A130, H⟩ := H
   replace H : ((laws_toInt64S.f k l0).bind fun t189 => ((laws_toBuf.f k l1_0 a1_1 a1_2).bind fun bt192 => ((impl_ViewRows.f k t189 bt192.1 bt192.2.1 bt192.2.2 a2).bind fun t198 => (if t198 = t188 then (laws_FnExactViewRows.j0 k l0 t189 l1_0 a1_1 a1_2 bt192.1 bt192.2.1 bt192.2.2) else (some false))))) = some r := H
   have A13 := Aside0.mk A130
   clear A130
   replace H := Option.bind_eq_some_iff.mp H
   obtain ⟨t189, A140, H⟩ := H
   replace H : ((laws_toBuf.f k l1_0 a1_1 a1_2).bind fun bt192 => ((impl_ViewRows.f k t189 bt192.1 bt192.2.1 bt192.2.2 a2).bind fun t198 => (if t198 = t188 then (laws_FnExactViewRows.j0 k l0 t189 l1_0 a1_1 a1_2 bt192.1 bt192.2.1 bt192.2.2) else (some false)))) = some r := H
   have A14 := Aside0.mk A140
   clear A140
   replace H := Option.bind_eq_some_iff.mp H
   obtain ⟨⟨t192, t195, t196⟩, A150, H⟩ := H
   replace H : ((impl_ViewRows.f k t189 t192 t195 t196 a2).bind fun t198 => (if t198 = t188 then (laws_FnExactViewRows.j0 k l0 t189 l1_0 a1_1 a1_2 t192 t195 t196) else (some false))) = some r := H
   have A15 := Aside0.mk A150
   clear A150
   replace H := Option.bind_eq_some_iff.mp H
   obtain ⟨t198, A160, H⟩ := H
   replace H : (if t198 = t188 then (laws_FnExactViewRows.j0 k l0 t189 l1_0 a1_1 a1_2 t192 t195 t196) else (some false)) = some r := H
   have A16 := Aside0.mk A160
   clear A160
   have HC17 := Aside0.mk H
   clear H
   go_enter Try.func4, Try.ntmps4
   try go_wp2_with (first | ((with_reducible refine gate_dst (N := 4) rfl ?_); refine box_event ?hg (N := 4) ?hd (cs := #[.slice A1_0 l1_0.length c1_0, .int .i64 a1_1, .int .i64 a1_2]) (t := 24) ?hr ?_; (case hd => rfl); (case hg => rfl); (case hr => first | (go_simp; done) | (go_simp; rfl)); intro gb178 hg w18 hbox hb; have BK178 := am (hbox); have GW178 := am ((by rw [hg]; exact (below_size (bl HB.out)) : w.heap.size ≤ gb178)); have GE178 := GW178; replace HB := am (below_step (bl HB.out) hb); clear hb hbox hg; have hcz19_0 : w18.cell? ⟨gb178, 0, none⟩ = some (.slice A1_0 l1_0.length c1_0) := bc BK178.out 0; have hcz19_1 : w18.cell? ⟨gb178, 1, none⟩ = some (.int .i64 a1_1) := bc BK178.out 1; have hcz19_2 : w18.cell? ⟨gb178, 2, none⟩ = some (.int .i64 a1_2) := bc BK178.out 2; have hfz19_0 := blk_frozen BK178.out 0; have hfz19_1 := blk_frozen BK178.out 1; have hfz19_2 := blk_frozen BK178.out 2) | ((with_reducible refine gate_callee (f := 9) rfl ?_); refine gl (some 17) Try.func9 #[.agg #[.slice A1_0 l1_0.length c1_0, .int .i64 a1_1, .int .i64 a1_2], .int .i64 1048576] ?_; (with_reducible refine (laws_szBuf.calls _ _ l1_0 a1_1 a1_2 1048576 t179 _ ?side1 ?side2 A6.out).mono ?_); (case side1 => repeat (first | exact (Kd.C_below HR1_0.out HB.out) | (with_reducible refine Kd.C_alloc ?_ _) | (with_reducible refine Kd.C_drewN ?_ _) | (with_reducible refine Kd.C_drew ?_))); (case side2 => exact HC1_0.out); rintro e w20 ⟨rfl, hb⟩; refine ⟨_, rfl, ?_⟩; replace BK178 := am (blk_below (pk BK178.out) hb); replace HB := am (below_step (bl HB.out) hb); (try clear hb); (try clear hb2); (try clear hk); (try clear hi)))
   replace BK178 := am (blk_drew BK178.out)
   replace HB := am (below_drew1 HB.out)
   refine start_ (n := 7) (S := fun w' => w'.cell? ⟨gb178, 0, none⟩ = some (.slice A1_0 l1_0.length c1_0) ∧ w'.cell? ⟨gb178, 1, none⟩ = some (.int .i64 a1_1) ∧ w'.cell? ⟨gb178, 2, none⟩ = some (.int .i64 a1_2)) (ds := []) #[false, false, false, false, false, false, false] (by kernel_rfl) rfl rfl ⟨bc BK178.out 0, bc BK178.out 1, bc BK178.out 2⟩ (fun hHeld => ?_)
   generalize w20.drew = w21 at BK178 HB hHeld ⊢
   refine pure_ (i := 0) (N := some 20) (v := ?_) (a' := ?_) #[true, false, false, false, false, false, false] rfl rfl (by kernel_rfl) (fun _ _ _ h => h) (Or.inl ⟨by rfl, ?_⟩) ?_ ?_; rotate_left
   ·intro w'; go_simp; with_reducible rfl
   rotate_left
   ·simp only [Act.put, sa_, s0_, ss_, i64_w, i32_w]; rfl
   refine pure_ (i := 4) (N := some 24) (v := ?_) (a' := ?_) #[true, false, false, false, true, false, false] rfl rfl (by kernel_rfl) (fun _ _ _ h => h) (Or.inl ⟨by rfl, ?_⟩) ?_ ?_; rotate_left
   ·intro w'; go_simp; with_reducible rfl
   rotate_left
   ·simp only [Act.put, sa_, s0_, ss_, i64_w, i32_w]; rfl
   refine take_ (i := 2) (N := some 22) (v := ?_) (a' := ?_) #[true, false, true, false, true, false, false] rfl rfl (by kernel_rfl) (fun _ _ _ h => h) (Or.inl ⟨by rfl, ?_⟩) hHeld ?_ ?_; rotate_left
   ·rintro w' ⟨s0, s1, s2⟩; go_simp; with_reducible rfl
   rotate_left
   ·simp only [Act.put, sa_, s0_, ss_, i64_w, i32_w]; rfl
   refine one_ (i := 1) (N := some 21) #[true, true, true, false, true, false, false] rfl rfl (by kernel_rfl) (by decide) (fun K hK => ?_)
   refine gs_ Try.func11 #[.slice A0 l0.length c0] ?_
   with_reducible refine (laws_toInt64S.calls k _ _ l0 t180 _ ?side1 ?side2 A11.out).mono ?_
   (case side1 => repeat (first | exact (Kd.C_below HR0.out HB.out) | (with_reducible refine Kd.C_alloc ?_ _) | (with_reducible refine Kd.C_drewN ?_ _) | (with_reducible refine Kd.C_drew ?_)))
   (case side2 => exact HC0.out)
   rintro e w22 ⟨v181, rfl, ho0, hb⟩
   refine ⟨_, rfl, ?_⟩
   have HO182 := am (Kd.R_lower ho0 (below_size (bl HB.out)))
   replace BK178 := am (blk_below (pk BK178.out) hb)
   replace HB := am (below_step (bl HB.out) hb)
   (try clear hb)
   (try clear hb2)
   (try clear hk)
   (try clear hi)
   (try clear ho0)
   refine hK.out _ _ ⟨bc BK178.out 0, bc BK178.out 1, bc BK178.out 2⟩ (fun hHeld => ?_)
   clear hK K
   refine norm_ (a' := ?_) ?_ ?_
   rotate_left
   ·show Act.put _ (some 21) _ = _
    simp only [Act.put, sa_, s0_, ss_, i64_w, i32_w]
    rfl
   refine one_ (i := 3) (N := some 23) #[true, true, true, true, true, false, false] rfl rfl (by kernel_rfl) (by decide) (fun K hK => ?_)
   refine gs_ Try.func12 #[.agg #[.slice A1_0 l1_0.length c1_0, .int .i64 a1_1, .int .i64 a1_2]] ?_
   with_reducible refine (laws_toBuf.calls k _ _ l1_0 a1_1 a1_2 t183 t186 t187 _ ?side1 ?side2 A12.out).mono ?_
   (case side1 => repeat (first | exact (Kd.C_below HR1_0.out HB.out) | (with_reducible refine Kd.C_alloc ?_ _) | (with_reducible refine Kd.C_drewN ?_ _) | (with_reducible refine Kd.C_drew ?_)))
   (case side2 => exact HC1_0.out)
   rintro e w23 ⟨v184, rfl, ho0, hb⟩
   refine ⟨_, rfl, ?_⟩
   have HO185 := am (Kd.R_lower (Kd.R_new' ho0 (Kd.R_lt (kr HO182.out))) (below_size (bl HB.out)))
   replace HO182 := am (Kd.R_elder' (kr HO182.out) (Kd.R_base ho0) hb)
   replace BK178 := am (blk_below (pk BK178.out) hb)
   replace HB := am (below_step (bl HB.out) hb)
   (try clear hb)
   (try clear hb2)
   (try clear hk)
   (try clear hi)
   (try clear ho0)
   obtain ⟨Ao24, co24, eo24⟩ := Kd.R_slice HO182.out
   (first | subst eo24 | (injection eo24 with f1_ f2_ f3_; have f4_ := f1_.symm; have f5_ := f3_.symm; clear f1_ f2_ f3_; subst f4_; subst f5_))
   obtain ⟨Ao25, co25, eo25⟩ := Kd.R_slice HO185.out
   (first | subst eo25 | (injection eo25 with f1_ f2_ f3_; have f4_ := f1_.symm; have f5_ := f3_.symm; clear f1_ f2_ f3_; subst f4_; subst f5_))
   refine hK.out _ _ ⟨bc BK178.out 0, bc BK178.out 1, bc BK178.out 2⟩ (fun hHeld => ?_)
   clear hK K
   refine norm_ (a' := ?_) ?_ ?_
   rotate_left
   ·show Act.put _ (some 23) _ = _
    simp only [Act.put, sa_, s0_, ss_, i64_w, i32_w]
    rfl
   refine one_ (i := 5) (N := some 25) #[true, true, true, true, true, true, false] rfl rfl (by kernel_rfl) (by decide) (fun K hK => ?_)
   refine gs_ Try.func21 #[.slice Ao24 t180.length co24, .agg #[.slice Ao25 t183.length co25, .int .i64 t186, .int .i64 t187], .int .i64 a2] ?_
   with_reducible refine (spec_ViewRows.calls k _ _ t180 _ _ t183 t186 t187 a2 t188 _ ?side1 ?side2 ?side3 ?side4 A13.out).mono ?_
   (case side1 => repeat (first | exact (Kd.R_reads' HO182.out).2.2 | (with_reducible refine Kd.C_alloc ?_ _) | (with_reducible refine Kd.C_drewN ?_ _) | (with_reducible refine Kd.C_drew ?_)))
   (case side2 => exact (Kd.R_reads' HO182.out).2.1)
   (case side3 => repeat (first | exact (Kd.R_reads' HO185.out).2.2 | (with_reducible refine Kd.C_alloc ?_ _) | (with_reducible refine Kd.C_drewN ?_ _) | (with_reducible refine Kd.C_drew ?_)))
   (case side4 => exact (Kd.R_reads' HO185.out).2.1)
   rintro e w26 ⟨rfl, hb⟩
   refine ⟨_, rfl, ?_⟩
   replace HO182 := am (Kd.R_below (kr HO182.out) hb)
   replace HO185 := am (Kd.R_below (kr HO185.out) hb)
   replace BK178 := am (blk_below (pk BK178.out) hb)
   replace HB := am (below_step (bl HB.out) hb)
   (try clear hb)
   (try clear hb2)
   (try clear hk)
   (try clear hi)
   refine hK.out _ _ ⟨bc BK178.out 0, bc BK178.out 1, bc BK178.out 2⟩ (fun hHeld => ?_)
   clear hK K
   refine norm_ (a' := ?_) ?_ ?_
   rotate_left
   ·show Act.put _ (some 25) _ = _
    simp only [Act.put, sa_, s0_, ss_, i64_w, i32_w]
    rfl
   refine pure_ (i := 6) (N := some 8) (v := ?_) (a' := ?_) #[true, true, true, true, true, true, true] rfl rfl (by kernel_rfl) (fun _ _ _ h => h) (Or.inl ⟨by rfl, ?_⟩) ?_ ?_; rotate_left
   ·intro w'; go_simp; with_reducible rfl
   rotate_left
   ·simp only [Act.put, sa_, s0_, ss_, i64_w, i32_w]; rfl
   refine done_ (by kernel_rfl) ?_
   go_upto_if 36 with (first | ((with_reducible refine gate_callee (f := 11) rfl ?_); refine gl (some 27) Try.func11 #[.slice A0 l0.length c0] ?_; (with_reducible refine (laws_toInt64S.calls k _ _ l0 t189 _ ?side1 ?side2 A14.out).mono ?_); (case side1 => repeat (first | exact (Kd.C_below HR0.out HB.out) | (with_reducible refine Kd.C_alloc ?_ _) | (with_reducible refine Kd.C_drewN ?_ _) | (with_reducible refine Kd.C_drew ?_))); (case side2 => exact HC0.out); rintro e w27 ⟨v190, rfl, ho0, hb⟩; refine ⟨_, rfl, ?_⟩; have HO191 := am (Kd.R_lower (Kd.R_new' (Kd.R_new' ho0 (Kd.R_lt (kr HO182.out))) (Kd.R_lt (kr HO185.out))) (below_size (bl HB.out))); replace HO182 := am (Kd.R_elder' (kr HO182.out) (Kd.R_base ho0) hb); replace HO185 := am (Kd.R_elder' (kr HO185.out) (Kd.R_base ho0) hb); replace BK178 := am (blk_below (pk BK178.out) hb); replace HB := am (below_step (bl HB.out) hb); (try clear hb); (try clear hb2); (try clear hk); (try clear hi); (try clear ho0); have hcz28_0 : w27.cell? ⟨gb178, 0, none⟩ = some (.slice A1_0 l1_0.length c1_0) := bc BK178.out 0; have hcz28_1 : w27.cell? ⟨gb178, 1, none⟩ = some (.int .i64 a1_1) := bc BK178.out 1; have hcz28_2 : w27.cell? ⟨gb178, 2, none⟩ = some (.int .i64 a1_2) := bc BK178.out 2; have hfz28_0 := blk_frozen BK178.out 0; have hfz28_1 := blk_frozen BK178.out 1; have hfz28_2 := blk_frozen BK178.out 2) | ((with_reducible refine gate_callee (f := 12) rfl ?_); refine gl (some 29) Try.func12 #[.agg #[.slice A1_0 l1_0.length c1_0, .int .i64 a1_1, .int .i64 a1_2]] ?_; (with_reducible refine (laws_toBuf.calls k _ _ l1_0 a1_1 a1_2 t192 t195 t196 _ ?side1 ?side2 A15.out).mono ?_); (case side1 => repeat (first | exact (Kd.C_below HR1_0.out HB.out) | (with_reducible refine Kd.C_alloc ?_ _) | (with_reducible refine Kd.C_drewN ?_ _) | (with_reducible refine Kd.C_drew ?_))); (case side2 => exact HC1_0.out); rintro e w29 ⟨v193, rfl, ho0, hb⟩; refine ⟨_, rfl, ?_⟩; have HO194 := am (Kd.R_lower (Kd.R_new' (Kd.R_new' (Kd.R_new' ho0 (Kd.R_lt (kr HO182.out))) (Kd.R_lt (kr HO185.out))) (Kd.R_lt (kr HO191.out))) (below_size (bl HB.out))); replace HO182 := am (Kd.R_elder' (kr HO182.out) (Kd.R_base ho0) hb); replace HO185 := am (Kd.R_elder' (kr HO185.out) (Kd.R_base ho0) hb); replace HO191 := am (Kd.R_elder' (kr HO191.out) (Kd.R_base ho0) hb); replace BK178 := am (blk_below (pk BK178.out) hb); replace HB := am (below_step (bl HB.out) hb); (try clear hb); (try clear hb2); (try clear hk); (try clear hi); (try clear ho0)) | ((with_reducible refine gate_dst (N := 10) rfl ?_); refine box_event ?hg (N := 10) ?hd (cs := #[.slice none 0 0, .int .i64 0, .int .i64 0]) (t := 33) ?hr ?_; (case hd => rfl); (case hg => rfl); (case hr => first | (go_simp; done) | (go_simp; rfl)); intro gb197 hg w30 hbox hb; replace HO182 := am (Kd.R_below (kr HO182.out) hb); replace HO185 := am (Kd.R_below (kr HO185.out) hb); replace HO191 := am (Kd.R_below (kr HO191.out) hb); replace HO194 := am (Kd.R_below (kr HO194.out) hb); have BK197 := am (hbox); have GW197 := am ((by rw [hg]; exact (below_size (bl HB.out)) : w.heap.size ≤ gb197)); have GE197 := GW197; replace HB := am (below_step (bl HB.out) hb); have NB178_197 := am ((by rw [hg]; exact Nat.ne_of_lt (blk_lt (pk BK178.out)) : gb178 ≠ gb197)); have NB197_178 := am ((by rw [hg]; exact Nat.ne_of_gt (blk_lt (pk BK178.out)) : gb197 ≠ gb178)); replace BK178 := am (blk_below (pk BK178.out) hb); clear hb hbox hg; obtain ⟨Ao31, co31, eo31⟩ := Kd.R_slice HO194.out; subst eo31; have hnb32 := NB197_178.out; have hnc32 := NB178_197.out; have hcz33_0 : w30.cell? ⟨gb197, 0, none⟩ = some (.slice none 0 0) := bc BK197.out 0; have hcz33_1 : w30.cell? ⟨gb197, 1, none⟩ = some (.int .i64 0) := bc BK197.out 1; have hcz33_2 : w30.cell? ⟨gb197, 2, none⟩ = some (.int .i64 0) := bc BK197.out 2; have hfz33_0 := blk_frozen BK197.out 0; have hfz33_1 := blk_frozen BK197.out 1; have hfz33_2 := blk_frozen BK197.out 2; obtain ⟨Ao34, co34, eo34⟩ := Kd.R_slice HO191.out; subst eo34) | ((with_reducible refine gate_callee (f := 22) rfl ?_); refine gl (some 33) Try.func22 #[.slice Ao34 t189.length co34, .agg #[.slice Ao31 t192.length co31, .int .i64 t195, .int .i64 t196], .int .i64 a2] ?_; (with_reducible refine (impl_ViewRows.calls k _ _ t189 _ _ t192 t195 t196 a2 t198 _ ?side1 ?side2 ?side3 ?side4 A16.out).mono ?_); (case side1 => refine (Kd.R_reads' (e := 2) (base := w.heap.size) (ok := fun k_ => (((True ∧ some k_ ≠ (.slice Ao24 t180.length co24 : Value).ownBlock) ∧ some k_ ≠ (.slice Ao25 t183.length co25 : Value).ownBlock) ∧ some k_ ≠ (.slice Ao31 t192.length co31 : Value).ownBlock)) (n := t189.length) (c := co34) ?_).2.2; exact (kr ((Kd.R_mono (Kd.R_far (p := ⟨gb197, 2, none⟩) (Kd.R_far (p := ⟨gb197, 1, none⟩) (Kd.R_far (p := ⟨gb197, 0, none⟩) (Kd.R_types HO191.out BK197.out (by decide)) (fun _ hk => hk.2) (.slice Ao31 t192.length co31)) (fun _ hk => hk.2) (.int .i64 t195)) (fun _ hk => hk.2) (.int .i64 t196)) (fun _ h_ => h_.1))))); (case side2 => exact (Kd.R_reads' HO191.out).2.1); (case side3 => refine (Kd.R_reads' (e := 2) (base := w.heap.size) (ok := fun k_ => (((True ∧ some k_ ≠ (.slice Ao24 t180.length co24 : Value).ownBlock) ∧ some k_ ≠ (.slice Ao25 t183.length co25 : Value).ownBlock) ∧ some k_ ≠ (.slice Ao34 t189.length co34 : Value).ownBlock)) (n := t192.length) (c := co31) ?_).2.2; exact (kr ((Kd.R_mono (Kd.R_far (p := ⟨gb197, 2, none⟩) (Kd.R_far (p := ⟨gb197, 1, none⟩) (Kd.R_far (p := ⟨gb197, 0, none⟩) (Kd.R_types HO194.out BK197.out (by decide)) (fun _ hk => hk.2) (.slice Ao31 t192.length co31)) (fun _ hk => hk.2) (.int .i64 t195)) (fun _ hk => hk.2) (.int .i64 t196)) (fun _ h_ => h_.1))))); (case side4 => exact (Kd.R_reads' HO194.out).2.1); rintro e w35 ⟨rfl, hb⟩; refine ⟨_, rfl, ?_⟩; replace HO182 := am (Kd.R_below (kr ((Kd.R_mono (Kd.R_far (p := ⟨gb197, 2, none⟩) (Kd.R_far (p := ⟨gb197, 1, none⟩) (Kd.R_far (p := ⟨gb197, 0, none⟩) (Kd.R_types HO182.out BK197.out (by decide)) (fun _ hk => hk.2) (.slice Ao31 t192.length co31)) (fun _ hk => hk.2) (.int .i64 t195)) (fun _ hk => hk.2) (.int .i64 t196)) (fun _ h_ => h_.1)))) hb); replace HO185 := am (Kd.R_below (kr ((Kd.R_mono (Kd.R_far (p := ⟨gb197, 2, none⟩) (Kd.R_far (p := ⟨gb197, 1, none⟩) (Kd.R_far (p := ⟨gb197, 0, none⟩) (Kd.R_types HO185.out BK197.out (by decide)) (fun _ hk => hk.2) (.slice Ao31 t192.length co31)) (fun _ hk => hk.2) (.int .i64 t195)) (fun _ hk => hk.2) (.int .i64 t196)) (fun _ h_ => h_.1)))) hb); replace HO191 := am (Kd.R_below (kr ((Kd.R_mono (Kd.R_far (p := ⟨gb197, 2, none⟩) (Kd.R_far (p := ⟨gb197, 1, none⟩) (Kd.R_far (p := ⟨gb197, 0, none⟩) (Kd.R_types HO191.out BK197.out (by decide)) (fun _ hk => hk.2) (.slice Ao31 t192.length co31)) (fun _ hk => hk.2) (.int .i64 t195)) (fun _ hk => hk.2) (.int .i64 t196)) (fun _ h_ => h_.1)))) hb); replace HO194 := am (Kd.R_below (kr ((Kd.R_mono (Kd.R_far (p := ⟨gb197, 2, none⟩) (Kd.R_far (p := ⟨gb197, 1, none⟩) (Kd.R_far (p := ⟨gb197, 0, none⟩) (Kd.R_types HO194.out BK197.out (by decide)) (fun _ hk => hk.2) (.slice Ao31 t192.length co31)) (fun _ hk => hk.2) (.int .i64 t195)) (fun _ hk => hk.2) (.int .i64 t196)) (fun _ h_ => h_.1)))) hb); replace BK178 := am (blk_below (g := gb178) (o := .cells #[.slice A1_0 l1_0.length c1_0, .int .i64 a1_1, .int .i64 a1_2] 24 (0, 0)) (by refine pk ?_; refine blk_far ?_ NB178_197.out _; refine pk ?_; refine blk_far ?_ NB178_197.out _; refine pk ?_; refine blk_far ?_ NB178_197.out _; refine pk ?_; exact BK178.out) hb); replace BK197 := am (blk_below (g := gb197) (o := .cells #[.slice Ao31 t192.length co31, .int .i64 t195, .int .i64 t196] 33 (0, 0)) (by refine pk ?_; refine blk_put (cs := #[.slice Ao31 t192.length co31, .int .i64 t195, .int .i64 0]) ?_ 2 _ rfl; refine pk ?_; refine blk_put (cs := #[.slice Ao31 t192.length co31, .int .i64 0, .int .i64 0]) ?_ 1 _ rfl; refine pk ?_; refine blk_put (cs := #[.slice none 0 0, .int .i64 0, .int .i64 0]) ?_ 0 _ rfl; refine pk ?_; exact BK197.out) hb); replace HB := am (below_step (bl HB.out) hb); (try clear hb); (try clear hb2); (try clear hk); (try clear hi)))
   (try simp only [Act.put, sa_, s0_, ss_])
   go_cut [] (fun wc => ∃ (kq : Nat), Aside0 (laws_FnExactViewRows.j0 kq l0 t189 l1_0 a1_1 a1_2 t192 t195 t196 = some r) ∧ Aside0 (kq ≤ k) ∧ Aside0 (Kd.R (Kd.int .i64) 2 wc w.heap.size (fun k_ => some k_ ≠ ((.slice Ao31 t192.length co31) : Value).ownBlock) (.slice Ao34 t189.length co34) t189) ∧ Aside0 (Kd.R (Kd.int .i64) 2 wc w.heap.size (fun k_ => some k_ ≠ ((.slice Ao34 t189.length co34) : Value).ownBlock) (.slice Ao31 t192.length co31) t192) ∧ Aside0 (wc.heap[gb178]? = some (.cells #[(.slice A1_0 l1_0.length c1_0), .int .i64 a1_1, .int .i64 a1_2] 24 (0, 0))) ∧ Aside0 (wc.heap[gb197]? = some (.cells #[(.slice Ao31 t192.length co31), .int .i64 t195, .int .i64 t196] 33 (0, 0))) ∧ Aside0 (Below w.heap.size w wc))
   case first =>
    have H := HC17.out
    clear HC17
    by_cases c36 : t198 = t188
    ·rw [if_pos c36] at H
     have c36b0 : (t198 == t188) = true := beq_iff_eq.mpr c36
     have c36b1 : (t198 != t188) = false := bne_eq_false_iff_eq.mpr c36
     clear c36
     (first | rw [c36b0] | (simp only [i64_w, i32_w]; rw [c36b0]) | (have e9_ := c36b0; unfold bne at e9_; rw [e9_]) | skip)
     have H' := Aside0.mk H
     clear H
     go_wp2
     go_meet
     case rel => exact ⟨_, H', ⟨by first | omega | exact Nat.le_refl _⟩, ⟨kr (Kd.R_mono HO191.out (fun _ hk => hk.2))⟩, ⟨kr (Kd.R_mono HO194.out (fun _ hk => hk.2))⟩, ⟨pk BK178.out⟩, ⟨pk BK197.out⟩, ⟨by repeat (first | (with_reducible first | exact HB.out | apply below_alloc | apply pw_below_drewN | apply below_drew1 | refine below_set ?_ GE178.out | refine below_set ?_ GE197.out) | exact HB.out)⟩⟩
    ·rw [if_neg c36] at H
     have c36b0 : (t198 == t188) = false := beq_eq_false_iff_ne.mpr c36
     have c36b1 : (t198 != t188) = true := bne_iff_ne.mpr c36
     (first | rw [c36b0] | (simp only [i64_w, i32_w]; rw [c36b0]) | (have e9_ := c36b0; unfold bne at e9_; rw [e9_]) | skip)
     obtain rfl := Option.some.inj H
     go_wp2
     go_ret
     exact ⟨by first | rfl | (simp [errW_none, errW_some] <;> rfl) | (simp [*, errW_none, errW_some] <;> rfl), by repeat (first | (with_reducible first | exact HB.out | apply below_alloc | apply pw_below_drewN | apply below_drew1 | refine below_set ?_ GE178.out | refine below_set ?_ GE197.out) | exact HB.out)⟩
   case rest =>
    clear HC17
    try clear c1
    try clear c2
    try clear p2
    try clear c3
    try clear c4
    try clear c4b0
    try clear c4b1
    try clear c7
    try clear c7b0
    try clear c9
    try clear c11
    try clear c12
    try clear c21
    try clear c22
    try clear c32
    try clear c36
    try clear c36b0
    try clear c36b1
    try clear hcz19_0
    try clear hcz19_1
    try clear hcz19_2
    try clear hcz28_0
    try clear hcz28_1
    try clear hcz28_2
    try clear hcz33_0
    try clear hcz33_1
    try clear hcz33_2
    try clear hcz9_0
    try clear hcz9_1
    try clear hcz9_2
    try clear hfz19_0
    try clear hfz19_1
    try clear hfz19_2
    try clear hfz28_0
    try clear hfz28_1
    try clear hfz28_2
    try clear hfz33_0
    try clear hfz33_1
    try clear hfz33_2
    try clear hfz9_0
    try clear hfz9_1
    try clear hfz9_2
    obtain ⟨kq, HA, HJ16, HO_9, HO_198000, BK178, BK197, HB⟩ := hcut
    cases kq with
    | zero => exact absurd HA.out (by simp [laws_FnExactViewRows.j0])
    | succ kj16 =>
     have H := HA.out
     clear HA
     simp only [laws_FnExactViewRows.j0] at H
     replace H := Option.bind_eq_some_iff.mp H
     obtain ⟨t199, A370, H⟩ := H
     replace H : ((laws_eqInt64S.f kj16 t189 t199).bind fun t202 => (if t202 = true then (laws_FnExactViewRows.j1 kj16 l1_0 a1_1 a1_2 t192 t195 t196) else (some false))) = some r := H
     have A37 := Aside0.mk A370
     clear A370
     replace H := Option.bind_eq_some_iff.mp H
     obtain ⟨t202, A380, H⟩ := H
     replace H : (if t202 = true then (laws_FnExactViewRows.j1 kj16 l1_0 a1_1 a1_2 t192 t195 t196) else (some false)) = some r := H
     have A38 := Aside0.mk A380
     clear A380
     have HC39 := Aside0.mk H
     clear H
     go_upto_if 41 with (first | ((with_reducible refine gate_callee (f := 11) rfl ?_); refine gl (some 39) Try.func11 #[.slice A0 l0.length c0] ?_; (with_reducible refine (laws_toInt64S.calls kj16 _ _ l0 t199 _ ?side1 ?side2 A37.out).mono ?_); (case side1 => repeat (first | exact (Kd.C_below HR0.out HB.out) | (with_reducible refine Kd.C_alloc ?_ _) | (with_reducible refine Kd.C_drewN ?_ _) | (with_reducible refine Kd.C_drew ?_))); (case side2 => exact HC0.out); rintro e w40 ⟨v200, rfl, ho0, hb⟩; refine ⟨_, rfl, ?_⟩; have HO201 := am (Kd.R_lower (Kd.R_new' (Kd.R_new' ho0 (Kd.R_lt (kr HO_9.out))) (Kd.R_lt (kr HO_198000.out))) (below_size (bl HB.out))); replace HO_9 := am (Kd.R_elder' (kr HO_9.out) (Kd.R_base ho0) hb); replace HO_198000 := am (Kd.R_elder' (kr HO_198000.out) (Kd.R_base ho0) hb); replace BK178 := am (blk_below (pk BK178.out) hb); replace BK197 := am (blk_below (pk BK197.out) hb); replace HB := am (below_step (bl HB.out) hb); (try clear hb); (try clear hb2); (try clear hk); (try clear hi); (try clear ho0); obtain ⟨Ao41, co41, eo41⟩ := Kd.R_slice HO201.out; subst eo41) | ((with_reducible refine gate_callee (f := 15) rfl ?_); refine gl (some 40) Try.func15 #[.slice Ao34 t189.length co34, .slice Ao41 t199.length co41] ?_; (with_reducible refine (laws_eqInt64S.calls kj16 _ _ t189 _ _ t199 t202 _ ?side1 ?side2 ?side3 ?side4 A38.out).mono ?_); (case side1 => repeat (first | exact (Kd.R_reads' HO_9.out).2.2 | (with_reducible refine Kd.C_alloc ?_ _) | (with_reducible refine Kd.C_drewN ?_ _) | (with_reducible refine Kd.C_drew ?_))); (case side2 => exact (Kd.R_reads' HO_9.out).2.1); (case side3 => repeat (first | exact (Kd.R_reads' HO201.out).2.2 | (with_reducible refine Kd.C_alloc ?_ _) | (with_reducible refine Kd.C_drewN ?_ _) | (with_reducible refine Kd.C_drew ?_))); (case side4 => exact (Kd.R_reads' HO201.out).2.1); rintro e w' ⟨rfl, ⟨nd, rfl⟩⟩; refine ⟨_, rfl, ?_⟩))
     (try simp only [Act.put, sa_, s0_, ss_])
     go_cut [] (fun wc => ∃ (kq : Nat), Aside0 (laws_FnExactViewRows.j1 kq l1_0 a1_1 a1_2 t192 t195 t196 = some r) ∧ Aside0 (kq ≤ kj16) ∧ Aside0 (Kd.R (Kd.int .i64) 2 wc w.heap.size (fun _ => True) (.slice Ao31 t192.length co31) t192) ∧ Aside0 (wc.heap[gb178]? = some (.cells #[(.slice A1_0 l1_0.length c1_0), .int .i64 a1_1, .int .i64 a1_2] 24 (0, 0))) ∧ Aside0 (wc.heap[gb197]? = some (.cells #[(.slice Ao31 t192.length co31), .int .i64 t195, .int .i64 t196] 33 (0, 0))) ∧ Aside0 (Below w.heap.size w wc))
     case first =>
      have H := HC39.out
      clear HC39
      by_cases c42 : t202 = true
      ·subst c42
       have H1 : (laws_FnExactViewRows.j1 kj16 l1_0 a1_1 a1_2 t192 t195 t196) = some r := by rw [if_pos rfl] at H; exact H
       clear H
       have H := H1
       clear H1
       have H' := Aside0.mk H
       clear H
       go_wp2
       go_meet
       case rel => exact ⟨_, H', ⟨by have := HJ16.out; first | omega | exact Nat.le_refl _⟩, ⟨kr (Kd.R_mono HO_198000.out (fun _ hk => trivial))⟩, ⟨pk BK178.out⟩, ⟨pk BK197.out⟩, ⟨by repeat (first | (with_reducible first | exact HB.out | apply below_alloc | apply pw_below_drewN | apply below_drew1 | refine below_set ?_ GE178.out | refine below_set ?_ GE197.out) | exact HB.out)⟩⟩
      ·replace c42 := Bool.eq_false_iff.mpr c42
       subst c42
       have H1 : (some false) = some r := by rw [if_neg (show ¬ (false = true) by decide)] at H; exact H
       clear H
       have H := H1
       clear H1
       obtain rfl := Option.some.inj H
       go_wp2
       go_ret
       exact ⟨by first | rfl | (simp [errW_none, errW_some] <;> rfl) | (simp [*, errW_none, errW_some] <;> rfl), by repeat (first | (with_reducible first | exact HB.out | apply below_alloc | apply pw_below_drewN | apply below_drew1 | refine below_set ?_ GE178.out | refine below_set ?_ GE197.out) | exact HB.out)⟩
     case rest =>
      clear HC39
      try clear c1
      try clear c2
      try clear p2
      try clear c3
      try clear c4
      try clear c4b0
      try clear c4b1
      try clear c7
      try clear c7b0
      try clear c9
      try clear c11
      try clear c12
      try clear c15
      try clear c21
      try clear c22
      try clear c32
      try clear c36
      try clear c36b0
      try clear c36b1
      try clear c42
      try clear hcz19_0
      try clear hcz19_1
      try clear hcz19_2
      try clear hcz28_0
      try clear hcz28_1
      try clear hcz28_2
      try clear hcz33_0
      try clear hcz33_1
      try clear hcz33_2
      try clear hcz9_0
      try clear hcz9_1
      try clear hcz9_2
      try clear hfz19_0
      try clear hfz19_1
      try clear hfz19_2
      try clear hfz28_0
      try clear hfz28_1
      try clear hfz28_2
      try clear hfz33_0
      try clear hfz33_1
      try clear hfz33_2
      try clear hfz9_0
      try clear hfz9_1
      try clear hfz9_2
      try clear p2
      obtain ⟨kq, HA, HJ38, HO_198000, BK178, BK197, HB⟩ := hcut
      cases kq with
      | zero => exact absurd HA.out (by simp [laws_FnExactViewRows.j1])
      | succ kj38 =>
       have H := HA.out
       clear HA
       simp only [laws_FnExactViewRows.j1] at H
       replace H := Option.bind_eq_some_iff.mp H
       obtain ⟨⟨t203, t206, t207⟩, A430, H⟩ := H
       replace H : ((laws_eqBuf.f kj38 t192 t195 t196 t203 t206 t207).bind fun t208 => (if t208 = true then (some true) else (some false))) = some r := H
       have A43 := Aside0.mk A430
       clear A430
       replace H := Option.bind_eq_some_iff.mp H
       obtain ⟨t208, A440, H⟩ := H
       replace H : (if t208 = true then (some true) else (some false)) = some r := H
       have A44 := Aside0.mk A440
       clear A440
       by_cases c45 : t208 = true
       ·subst c45
        have H1 : (some true) = some r := by rw [if_pos rfl] at H; exact H
        clear H
        have H := H1
        clear H1
        obtain rfl := Option.some.inj H
        try go_wp2
        replace HO_198000 := am (Kd.R_drew HO_198000.out)
        replace BK178 := am (blk_drew BK178.out)
        replace BK197 := am (blk_drew BK197.out)
        replace HB := am (below_drew1 HB.out)
        refine start_ (n := 5) (S := fun w' => w'.cell? ⟨gb197, 0, none⟩ = some (.slice Ao31 t192.length co31) ∧ w'.cell? ⟨gb197, 1, none⟩ = some (.int .i64 t195) ∧ w'.cell? ⟨gb197, 2, none⟩ = some (.int .i64 t196) ∧ w'.cell? ⟨gb178, 0, none⟩ = some (.slice A1_0 l1_0.length c1_0) ∧ w'.cell? ⟨gb178, 1, none⟩ = some (.int .i64 a1_1) ∧ w'.cell? ⟨gb178, 2, none⟩ = some (.int .i64 a1_2)) (ds := []) #[false, false, false, false, false] (by kernel_rfl) rfl rfl ⟨bc BK197.out 0, bc BK197.out 1, bc BK197.out 2, bc BK178.out 0, bc BK178.out 1, bc BK178.out 2⟩ (fun hHeld => ?_)
        generalize wc.drew = w46 at HO_198000 BK178 BK197 HB hHeld ⊢
        refine take_ (i := 0) (N := some 42) (v := ?_) (a' := ?_) #[true, false, false, false, false] rfl rfl (by kernel_rfl) (fun _ _ _ h => h) (Or.inl ⟨by rfl, ?_⟩) hHeld ?_ ?_; rotate_left
        ·rintro w' ⟨s0, s1, s2, s3, s4, s5⟩; go_simp; with_reducible rfl
        rotate_left
        ·simp only [Act.put, sa_, s0_, ss_, i64_w, i32_w]; rfl
        refine take_ (i := 1) (N := some 43) (v := ?_) (a' := ?_) #[true, true, false, false, false] rfl rfl (by kernel_rfl) (fun _ _ _ h => h) (Or.inl ⟨by rfl, ?_⟩) hHeld ?_ ?_; rotate_left
        ·rintro w' ⟨s0, s1, s2, s3, s4, s5⟩; go_simp; with_reducible rfl
        rotate_left
        ·simp only [Act.put, sa_, s0_, ss_, i64_w, i32_w]; rfl
        refine one_ (i := 2) (N := some 44) #[true, true, true, false, false] rfl rfl (by kernel_rfl) (by decide) (fun K hK => ?_)
        refine gs_ Try.func12 #[.agg #[.slice A1_0 l1_0.length c1_0, .int .i64 a1_1, .int .i64 a1_2]] ?_
        with_reducible refine (laws_toBuf.calls kj38 _ _ l1_0 a1_1 a1_2 t203 t206 t207 _ ?side1 ?side2 A43.out).mono ?_
        (case side1 => repeat (first | exact (Kd.C_below HR1_0.out HB.out) | (with_reducible refine Kd.C_alloc ?_ _) | (with_reducible refine Kd.C_drewN ?_ _) | (with_reducible refine Kd.C_drew ?_)))
        (case side2 => exact HC1_0.out)
        rintro e w47 ⟨v204, rfl, ho0, hb⟩
        refine ⟨_, rfl, ?_⟩
        have HO205 := am (Kd.R_lower (Kd.R_new' ho0 (Kd.R_lt (kr HO_198000.out))) (below_size (bl HB.out)))
        replace HO_198000 := am (Kd.R_elder' (kr HO_198000.out) (Kd.R_base ho0) hb)
        replace BK178 := am (blk_below (pk BK178.out) hb)
        replace BK197 := am (blk_below (pk BK197.out) hb)
        replace HB := am (below_step (bl HB.out) hb)
        (try clear hb)
        (try clear hb2)
        (try clear hk)
        (try clear hi)
        (try clear ho0)
        obtain ⟨Ao48, co48, eo48⟩ := Kd.R_slice HO205.out
        (first | subst eo48 | (injection eo48 with f1_ f2_ f3_; have f4_ := f1_.symm; have f5_ := f3_.symm; clear f1_ f2_ f3_; subst f4_; subst f5_))
        refine hK.out _ _ ⟨bc BK197.out 0, bc BK197.out 1, bc BK197.out 2, bc BK178.out 0, bc BK178.out 1, bc BK178.out 2⟩ (fun hHeld => ?_)
        clear hK K
        refine norm_ (a' := ?_) ?_ ?_
        rotate_left
        ·show Act.put _ (some 44) _ = _
         simp only [Act.put, sa_, s0_, ss_, i64_w, i32_w]
         rfl
        refine one_ (i := 3) (N := some 45) #[true, true, true, true, false] rfl rfl (by kernel_rfl) (by decide) (fun K hK => ?_)
        refine gs_ Try.func16 #[.agg #[.slice Ao31 t192.length co31, .int .i64 t195, .int .i64 t196], .agg #[.slice Ao48 t203.length co48, .int .i64 t206, .int .i64 t207]] ?_
        with_reducible refine (laws_eqBuf.calls kj38 _ _ t192 t195 t196 _ _ t203 t206 t207 true _ ?side1 ?side2 ?side3 ?side4 A44.out).mono ?_
        (case side1 => repeat (first | exact (Kd.R_reads' HO_198000.out).2.2 | (with_reducible refine Kd.C_alloc ?_ _) | (with_reducible refine Kd.C_drewN ?_ _) | (with_reducible refine Kd.C_drew ?_)))
        (case side2 => exact (Kd.R_reads' HO_198000.out).2.1)
        (case side3 => repeat (first | exact (Kd.R_reads' HO205.out).2.2 | (with_reducible refine Kd.C_alloc ?_ _) | (with_reducible refine Kd.C_drewN ?_ _) | (with_reducible refine Kd.C_drew ?_)))
        (case side4 => exact (Kd.R_reads' HO205.out).2.1)
        rintro e w49 ⟨rfl, hb⟩
        refine ⟨_, rfl, ?_⟩
        replace HO_198000 := am (Kd.R_below (kr HO_198000.out) hb)
        replace HO205 := am (Kd.R_below (kr HO205.out) hb)
        replace BK178 := am (blk_below (pk BK178.out) hb)
        replace BK197 := am (blk_below (pk BK197.out) hb)
        replace HB := am (below_step (bl HB.out) hb)
        (try clear hb)
        (try clear hb2)
        (try clear hk)
        (try clear hi)
        refine hK.out _ _ ⟨bc BK197.out 0, bc BK197.out 1, bc BK197.out 2, bc BK178.out 0, bc BK178.out 1, bc BK178.out 2⟩ (fun hHeld => ?_)
        clear hK K
        refine norm_ (a' := ?_) ?_ ?_
        rotate_left
        ·show Act.put _ (some 45) _ = _
         simp only [Act.put, sa_, s0_, ss_, i64_w, i32_w]
         rfl
        refine pure_ (i := 4) (N := some 46) (v := ?_) (a' := ?_) #[true, true, true, true, true] rfl rfl (by kernel_rfl) (fun _ _ _ h => h) (Or.inl ⟨by rfl, ?_⟩) ?_ ?_; rotate_left
        ·intro w'; go_simp; with_reducible rfl
        rotate_left
        ·simp only [Act.put, sa_, s0_, ss_, i64_w, i32_w]; rfl
        refine done_ (by kernel_rfl) ?_
        try go_wp2
        go_ret
        exact ⟨by first | rfl | (simp [errW_none, errW_some] <;> rfl) | (simp [*, errW_none, errW_some] <;> rfl), by repeat (first | (with_reducible first | exact HB.out | apply below_alloc | apply pw_below_drewN | apply below_drew1 | refine below_set ?_ GE178.out | refine below_set ?_ GE197.out) | exact HB.out)⟩
       ·replace c45 := Bool.eq_false_iff.mpr c45
        subst c45
        have H1 : (some false) = some r := by rw [if_neg (show ¬ (false = true) by decide)] at H; exact H
        clear H
        have H := H1
        clear H1
        obtain rfl := Option.some.inj H
        try go_wp2
        replace HO_198000 := am (Kd.R_drew HO_198000.out)
        replace BK178 := am (blk_drew BK178.out)
        replace BK197 := am (blk_drew BK197.out)
        replace HB := am (below_drew1 HB.out)
        refine start_ (n := 5) (S := fun w' => w'.cell? ⟨gb197, 0, none⟩ = some (.slice Ao31 t192.length co31) ∧ w'.cell? ⟨gb197, 1, none⟩ = some (.int .i64 t195) ∧ w'.cell? ⟨gb197, 2, none⟩ = some (.int .i64 t196) ∧ w'.cell? ⟨gb178, 0, none⟩ = some (.slice A1_0 l1_0.length c1_0) ∧ w'.cell? ⟨gb178, 1, none⟩ = some (.int .i64 a1_1) ∧ w'.cell? ⟨gb178, 2, none⟩ = some (.int .i64 a1_2)) (ds := []) #[false, false, false, false, false] (by kernel_rfl) rfl rfl ⟨bc BK197.out 0, bc BK197.out 1, bc BK197.out 2, bc BK178.out 0, bc BK178.out 1, bc BK178.out 2⟩ (fun hHeld => ?_)
        generalize wc.drew = w50 at HO_198000 BK178 BK197 HB hHeld ⊢
        refine take_ (i := 0) (N := some 42) (v := ?_) (a' := ?_) #[true, false, false, false, false] rfl rfl (by kernel_rfl) (fun _ _ _ h => h) (Or.inl ⟨by rfl, ?_⟩) hHeld ?_ ?_; rotate_left
        ·rintro w' ⟨s0, s1, s2, s3, s4, s5⟩; go_simp; with_reducible rfl
        rotate_left
        ·simp only [Act.put, sa_, s0_, ss_, i64_w, i32_w]; rfl
        refine take_ (i := 1) (N := some 43) (v := ?_) (a' := ?_) #[true, true, false, false, false] rfl rfl (by kernel_rfl) (fun _ _ _ h => h) (Or.inl ⟨by rfl, ?_⟩) hHeld ?_ ?_; rotate_left
        ·rintro w' ⟨s0, s1, s2, s3, s4, s5⟩; go_simp; with_reducible rfl
        rotate_left
        ·simp only [Act.put, sa_, s0_, ss_, i64_w, i32_w]; rfl
        refine one_ (i := 2) (N := some 44) #[true, true, true, false, false] rfl rfl (by kernel_rfl) (by decide) (fun K hK => ?_)
        refine gs_ Try.func12 #[.agg #[.slice A1_0 l1_0.length c1_0, .int .i64 a1_1, .int .i64 a1_2]] ?_
        with_reducible refine (laws_toBuf.calls kj38 _ _ l1_0 a1_1 a1_2 t203 t206 t207 _ ?side1 ?side2 A43.out).mono ?_
        (case side1 => repeat (first | exact (Kd.C_below HR1_0.out HB.out) | (with_reducible refine Kd.C_alloc ?_ _) | (with_reducible refine Kd.C_drewN ?_ _) | (with_reducible refine Kd.C_drew ?_)))
        (case side2 => exact HC1_0.out)
        rintro e w51 ⟨v204, rfl, ho0, hb⟩
        refine ⟨_, rfl, ?_⟩
        have HO205 := am (Kd.R_lower (Kd.R_new' ho0 (Kd.R_lt (kr HO_198000.out))) (below_size (bl HB.out)))
        replace HO_198000 := am (Kd.R_elder' (kr HO_198000.out) (Kd.R_base ho0) hb)
        replace BK178 := am (blk_below (pk BK178.out) hb)
        replace BK197 := am (blk_below (pk BK197.out) hb)
        replace HB := am (below_step (bl HB.out) hb)
        (try clear hb)
        (try clear hb2)
        (try clear hk)
        (try clear hi)
        (try clear ho0)
        obtain ⟨Ao52, co52, eo52⟩ := Kd.R_slice HO205.out
        (first | subst eo52 | (injection eo52 with f1_ f2_ f3_; have f4_ := f1_.symm; have f5_ := f3_.symm; clear f1_ f2_ f3_; subst f4_; subst f5_))
        refine hK.out _ _ ⟨bc BK197.out 0, bc BK197.out 1, bc BK197.out 2, bc BK178.out 0, bc BK178.out 1, bc BK178.out 2⟩ (fun hHeld => ?_)
        clear hK K
        refine norm_ (a' := ?_) ?_ ?_
        rotate_left
        ·show Act.put _ (some 44) _ = _
         simp only [Act.put, sa_, s0_, ss_, i64_w, i32_w]
         rfl
        refine one_ (i := 3) (N := some 45) #[true, true, true, true, false] rfl rfl (by kernel_rfl) (by decide) (fun K hK => ?_)
        refine gs_ Try.func16 #[.agg #[.slice Ao31 t192.length co31, .int .i64 t195, .int .i64 t196], .agg #[.slice Ao52 t203.length co52, .int .i64 t206, .int .i64 t207]] ?_
        with_reducible refine (laws_eqBuf.calls kj38 _ _ t192 t195 t196 _ _ t203 t206 t207 false _ ?side1 ?side2 ?side3 ?side4 A44.out).mono ?_
        (case side1 => repeat (first | exact (Kd.R_reads' HO_198000.out).2.2 | (with_reducible refine Kd.C_alloc ?_ _) | (with_reducible refine Kd.C_drewN ?_ _) | (with_reducible refine Kd.C_drew ?_)))
        (case side2 => exact (Kd.R_reads' HO_198000.out).2.1)
        (case side3 => repeat (first | exact (Kd.R_reads' HO205.out).2.2 | (with_reducible refine Kd.C_alloc ?_ _) | (with_reducible refine Kd.C_drewN ?_ _) | (with_reducible refine Kd.C_drew ?_)))
        (case side4 => exact (Kd.R_reads' HO205.out).2.1)
        rintro e w53 ⟨rfl, hb⟩
        refine ⟨_, rfl, ?_⟩
        replace HO_198000 := am (Kd.R_below (kr HO_198000.out) hb)
        replace HO205 := am (Kd.R_below (kr HO205.out) hb)
        replace BK178 := am (blk_below (pk BK178.out) hb)
        replace BK197 := am (blk_below (pk BK197.out) hb)
        replace HB := am (below_step (bl HB.out) hb)
        (try clear hb)
        (try clear hb2)
        (try clear hk)
        (try clear hi)
        refine hK.out _ _ ⟨bc BK197.out 0, bc BK197.out 1, bc BK197.out 2, bc BK178.out 0, bc BK178.out 1, bc BK178.out 2⟩ (fun hHeld => ?_)
        clear hK K
        refine norm_ (a' := ?_) ?_ ?_
        rotate_left
        ·show Act.put _ (some 45) _ = _
         simp only [Act.put, sa_, s0_, ss_, i64_w, i32_w]
         rfl
        refine pure_ (i := 4) (N := some 46) (v := ?_) (a' := ?_) #[true, true, true, true, true] rfl rfl (by kernel_rfl) (fun _ _ _ h => h) (Or.inl ⟨by rfl, ?_⟩) ?_ ?_; rotate_left
        ·intro w'; go_simp; with_reducible rfl
        rotate_left
        ·simp only [Act.put, sa_, s0_, ss_, i64_w, i32_w]; rfl
        refine done_ (by kernel_rfl) ?_
        try go_wp2
        go_ret
        exact ⟨by first | rfl | (simp [errW_none, errW_some] <;> rfl) | (simp [*, errW_none, errW_some] <;> rfl), by repeat (first | (with_reducible first | exact HB.out | apply below_alloc | apply pw_below_drewN | apply below_drew1 | refine below_set ?_ GE178.out | refine below_set ?_ GE197.out) | exact HB.out)⟩

/-- THE ONE PURE STATEMENT of laws_FnExactViewRows. -/
def laws_FnExactViewRows.Pure : Prop := ∀ (l0 : List Int) (l1_0 : List Int) (a1_1 : Int) (a1_2 : Int) (a2 : Int), (l0.length ≤ maxLen ∧ ∀ y0_ ∈ l0, (Lit.int .i64 y0_).wf = true) → ((l1_0.length ≤ maxLen ∧ ∀ y1_ ∈ l1_0, (Lit.int .i64 y1_).wf = true) ∧ (Lit.int .i64 a1_1).wf = true ∧ (Lit.int .i64 a1_2).wf = true) → (Lit.int .i64 a2).wf = true → ∃ k, laws_FnExactViewRows.f k l0 l1_0 a1_1 a1_2 a2 = some true

end Go.Proofs.Ytcjclihkaaaihaa.PFnExactViewRows
