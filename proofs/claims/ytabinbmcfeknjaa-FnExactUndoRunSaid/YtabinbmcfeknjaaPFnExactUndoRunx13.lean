-- Written by xprint.py (this claim's own program, over the kit's printer); Lean checks it.
import Derived.Test.YtabinbmcfeknjaaPFnExactUndoRunx0
import Derived.Test.YtabinbmcfeknjaaPFnExactUndoRunx1
import Derived.Test.YtabinbmcfeknjaaPFnExactUndoRunx4
import Derived.Test.YtabinbmcfeknjaaPFnExactUndoRunx5
import Derived.Test.YtabinbmcfeknjaaPFnExactUndoRunx10
import Derived.Test.YtabinbmcfeknjaaPFnExactUndoRunx11
import Derived.Test.YtabinbmcfeknjaaPFnExactUndoRunx12
namespace Go.Proofs.Ytabinbmcfeknjaa.PFnExactUndoRun
open Go.RowKit Go.Proofs.YtabinbmcfeknjaaW.PrintWords Go.Proofs.YtabinbmcfeknjaaW.PrintLast Go.Proofs.YtabinbmcfeknjaaW.PrintMore
attribute [local go_sem] max2_int min2_int max_two min_two max_three min_three max_four min_four   -- for this text's walks alone
set_option linter.unusedVariables false
set_option linter.unusedSimpArgs false   -- squeezed
set_option maxHeartbeats 8000000
set_option maxRecDepth 100000

/-! ### laws_heldUndo: function 38 -/
def laws_heldUndo.f (k : Nat) (l0_0 : List (S31)) (l0_1 : List (S31)) (a1 : Int) : Option (Int) := (laws_heldBufS.f k l0_0 a1).bind fun t376 => (if t376 < 0 then (some (-1)) else ((laws_heldBufS.f k l0_1 t376).bind fun t377 => (if t377 < 0 then (some (-1)) else (some t377))))
theorem laws_heldUndo.calls (k : Nat) (A0_0 : Option Addr) (c0_0 : Nat) (l0_0 : List (S31)) (A0_1 : Option Addr) (c0_1 : Nat) (l0_1 : List (S31)) (a1 : Int) (r : Int) (w : World) (hr0_0 : Kd.C k31 w A0_0 l0_0.length l0_0) (hc0_0 : l0_0.length ≤ c0_0) (hr0_1 : Kd.C k31 w A0_1 l0_1.length l0_1) (hc0_1 : l0_1.length ≤ c0_1) (h : laws_heldUndo.f k l0_0 l0_1 a1 = some r) :
  Calls Try.prog 38 #[.agg #[.slice A0_0 l0_0.length c0_0, .slice A0_1 l0_1.length c0_1], .int .i64 a1] w fun e w' => e = .returned (.int .i64 r) ∧ Below w.heap.size w w' := by
 have hu30 := Try.underlying30
 have HR0_0 := am hr0_0
 have HC0_0 := am hc0_0
 clear hr0_0 hc0_0
 have HR0_1 := am hr0_1
 have HC0_1 := am hc0_1
 clear hr0_1 hc0_1
 have HB := am (Below.refl w.heap.size w)
 have H : ((laws_heldBufS.f k l0_0 a1).bind fun t376 => (if t376 < 0 then (some (-1)) else ((laws_heldBufS.f k l0_1 t376).bind fun t377 => (if t377 < 0 then (some (-1)) else (some t377))))) = some r := h
 clear h
 replace H := Option.bind_eq_some_iff.mp H
 obtain ⟨t376, A30, H⟩ := H
 replace H : (if t376 < 0 then (some (-1)) else ((laws_heldBufS.f k l0_1 t376).bind fun t377 => (if t377 < 0 then (some (-1)) else (some t377)))) = some r := H
 have A3 := Aside0.mk A30
 clear A30
 by_cases c4 : t376 < 0
 ·rw [if_pos c4] at H
  have c4b0 : decide (t376 < 0) = true := decide_eq_true c4
  clear c4
  obtain rfl := Option.some.inj H
  go_enter Try.func38, Try.ntmps38
  go_wp2_with (first | ((with_reducible refine gate_dst (N := 2) rfl ?_); refine box_event ?hg (N := 2) ?hd (cs := #[.slice A0_0 l0_0.length c0_0, .slice A0_1 l0_1.length c0_1]) (t := 30) ?hr ?_; (case hd => rfl); (case hg => rfl); (case hr => first | (go_simp; done) | (go_simp; rfl)); intro gb375 hg w5 hbox hb; have BK375 := am (hbox); have GW375 := am ((by rw [hg]; exact (below_size (bl HB.out)) : w.heap.size ≤ gb375)); have GE375 := GW375; replace HB := am (below_step (bl HB.out) hb); clear hb hbox hg; have hcz6_0 : w5.cell? ⟨gb375, 0, none⟩ = some (.slice A0_0 l0_0.length c0_0) := bc BK375.out 0; have hcz6_1 : w5.cell? ⟨gb375, 1, none⟩ = some (.slice A0_1 l0_1.length c0_1) := bc BK375.out 1) | ((with_reducible refine gate_callee (f := 62) rfl ?_); refine gl (some 8) Try.func62 #[.slice A0_0 l0_0.length c0_0, .int .i64 a1] ?_; (with_reducible refine (laws_heldBufS.calls k _ _ l0_0 a1 t376 _ ?side1 ?side2 A3.out).mono ?_); (case side1 => repeat (first | exact (Kd.C_below HR0_0.out HB.out) | (with_reducible refine Kd.C_alloc ?_ _) | (with_reducible refine Kd.C_drewN ?_ _) | (with_reducible refine Kd.C_drew ?_))); (case side2 => exact HC0_0.out); rintro e w' ⟨rfl, ⟨nd, rfl⟩⟩; refine ⟨_, rfl, ?_⟩))
  go_ret
  exact ⟨by first | rfl | (simp [errW_none, errW_some] <;> rfl) | (simp [*, errW_none, errW_some] <;> rfl), by repeat (first | (with_reducible first | exact HB.out | apply below_alloc | apply pw_below_drewN | apply below_drew1 | refine below_set ?_ GE375.out) | exact HB.out)⟩
 ·rw [if_neg c4] at H
  have c4b0 : decide (t376 < 0) = false := decide_eq_false c4
  clear c4
  replace H := Option.bind_eq_some_iff.mp H
  obtain ⟨t377, A70, H⟩ := H
  replace H : (if t377 < 0 then (some (-1)) else (some t377)) = some r := H
  have A7 := Aside0.mk A70
  clear A70
  by_cases c8 : t377 < 0
  ·rw [if_pos c8] at H
   have c8b0 : decide (t377 < 0) = true := decide_eq_true c8
   clear c8
   obtain rfl := Option.some.inj H
   go_enter Try.func38, Try.ntmps38
   go_wp2_with (first | ((with_reducible refine gate_dst (N := 2) rfl ?_); refine box_event ?hg (N := 2) ?hd (cs := #[.slice A0_0 l0_0.length c0_0, .slice A0_1 l0_1.length c0_1]) (t := 30) ?hr ?_; (case hd => rfl); (case hg => rfl); (case hr => first | (go_simp; done) | (go_simp; rfl)); intro gb375 hg w9 hbox hb; have BK375 := am (hbox); have GW375 := am ((by rw [hg]; exact (below_size (bl HB.out)) : w.heap.size ≤ gb375)); have GE375 := GW375; replace HB := am (below_step (bl HB.out) hb); clear hb hbox hg; have hcz10_0 : w9.cell? ⟨gb375, 0, none⟩ = some (.slice A0_0 l0_0.length c0_0) := bc BK375.out 0; have hcz10_1 : w9.cell? ⟨gb375, 1, none⟩ = some (.slice A0_1 l0_1.length c0_1) := bc BK375.out 1) | ((with_reducible refine gate_callee (f := 62) rfl ?_); refine gl (some 8) Try.func62 #[.slice A0_0 l0_0.length c0_0, .int .i64 a1] ?_; (with_reducible refine (laws_heldBufS.calls k _ _ l0_0 a1 t376 _ ?side1 ?side2 A3.out).mono ?_); (case side1 => repeat (first | exact (Kd.C_below HR0_0.out HB.out) | (with_reducible refine Kd.C_alloc ?_ _) | (with_reducible refine Kd.C_drewN ?_ _) | (with_reducible refine Kd.C_drew ?_))); (case side2 => exact HC0_0.out); rintro e w' ⟨rfl, ⟨nd, rfl⟩⟩; refine ⟨_, rfl, ?_⟩) | ((with_reducible refine gate_callee (f := 62) rfl ?_); refine gl (some 14) Try.func62 #[.slice A0_1 l0_1.length c0_1, .int .i64 t376] ?_; (with_reducible refine (laws_heldBufS.calls k _ _ l0_1 t376 t377 _ ?side1 ?side2 A7.out).mono ?_); (case side1 => repeat (first | exact (Kd.C_below HR0_1.out (bl HB.out)) | (with_reducible refine Kd.C_alloc ?_ _) | (with_reducible refine Kd.C_drewN ?_ _) | (with_reducible refine Kd.C_drew ?_))); (case side2 => exact HC0_1.out); rintro e w' ⟨rfl, ⟨nd, rfl⟩⟩; refine ⟨_, rfl, ?_⟩))
   go_ret
   exact ⟨by first | rfl | (simp [errW_none, errW_some] <;> rfl) | (simp [*, errW_none, errW_some] <;> rfl), by repeat (first | (with_reducible first | exact HB.out | apply below_alloc | apply pw_below_drewN | apply below_drew1 | refine below_set ?_ GE375.out) | exact HB.out)⟩
  ·rw [if_neg c8] at H
   have c8b0 : decide (t377 < 0) = false := decide_eq_false c8
   clear c8
   obtain rfl := Option.some.inj H
   go_enter Try.func38, Try.ntmps38
   go_wp2_with (first | ((with_reducible refine gate_dst (N := 2) rfl ?_); refine box_event ?hg (N := 2) ?hd (cs := #[.slice A0_0 l0_0.length c0_0, .slice A0_1 l0_1.length c0_1]) (t := 30) ?hr ?_; (case hd => rfl); (case hg => rfl); (case hr => first | (go_simp; done) | (go_simp; rfl)); intro gb375 hg w11 hbox hb; have BK375 := am (hbox); have GW375 := am ((by rw [hg]; exact (below_size (bl HB.out)) : w.heap.size ≤ gb375)); have GE375 := GW375; replace HB := am (below_step (bl HB.out) hb); clear hb hbox hg; have hcz12_0 : w11.cell? ⟨gb375, 0, none⟩ = some (.slice A0_0 l0_0.length c0_0) := bc BK375.out 0; have hcz12_1 : w11.cell? ⟨gb375, 1, none⟩ = some (.slice A0_1 l0_1.length c0_1) := bc BK375.out 1) | ((with_reducible refine gate_callee (f := 62) rfl ?_); refine gl (some 8) Try.func62 #[.slice A0_0 l0_0.length c0_0, .int .i64 a1] ?_; (with_reducible refine (laws_heldBufS.calls k _ _ l0_0 a1 t376 _ ?side1 ?side2 A3.out).mono ?_); (case side1 => repeat (first | exact (Kd.C_below HR0_0.out HB.out) | (with_reducible refine Kd.C_alloc ?_ _) | (with_reducible refine Kd.C_drewN ?_ _) | (with_reducible refine Kd.C_drew ?_))); (case side2 => exact HC0_0.out); rintro e w' ⟨rfl, ⟨nd, rfl⟩⟩; refine ⟨_, rfl, ?_⟩) | ((with_reducible refine gate_callee (f := 62) rfl ?_); refine gl (some 14) Try.func62 #[.slice A0_1 l0_1.length c0_1, .int .i64 t376] ?_; (with_reducible refine (laws_heldBufS.calls k _ _ l0_1 t376 t377 _ ?side1 ?side2 A7.out).mono ?_); (case side1 => repeat (first | exact (Kd.C_below HR0_1.out (bl HB.out)) | (with_reducible refine Kd.C_alloc ?_ _) | (with_reducible refine Kd.C_drewN ?_ _) | (with_reducible refine Kd.C_drew ?_))); (case side2 => exact HC0_1.out); rintro e w' ⟨rfl, ⟨nd, rfl⟩⟩; refine ⟨_, rfl, ?_⟩))
   go_ret
   exact ⟨by first | rfl | (simp [errW_none, errW_some] <;> rfl) | (simp [*, errW_none, errW_some] <;> rfl), by repeat (first | (with_reducible first | exact HB.out | apply below_alloc | apply pw_below_drewN | apply below_drew1 | refine below_set ?_ GE375.out) | exact HB.out)⟩

/-! ### laws_heldBuf: function 39 -/
def laws_heldBuf.f (k : Nat) (l0_0 : List Int) (a0_1 : Int) (a0_2 : Int) (a1 : Int) : Option (Int) := (laws_heldInt64S.f k l0_0 a1).bind fun t379 => (if t379 < 0 then (some (-1)) else (some t379))
theorem laws_heldBuf.calls (k : Nat) (A0_0 : Option Addr) (c0_0 : Nat) (l0_0 : List Int) (a0_1 : Int) (a0_2 : Int) (a1 : Int) (r : Int) (w : World) (hr0_0 : Kd.C (Kd.int .i64) w A0_0 l0_0.length l0_0) (hc0_0 : l0_0.length ≤ c0_0) (h : laws_heldBuf.f k l0_0 a0_1 a0_2 a1 = some r) :
  Calls Try.prog 39 #[.agg #[.slice A0_0 l0_0.length c0_0, .int .i64 a0_1, .int .i64 a0_2], .int .i64 a1] w fun e w' => e = .returned (.int .i64 r) ∧ Below w.heap.size w w' := by
 have hu31 := Try.underlying31
 have HR0_0 := am hr0_0
 have HC0_0 := am hc0_0
 clear hr0_0 hc0_0
 have HB := am (Below.refl w.heap.size w)
 have H : ((laws_heldInt64S.f k l0_0 a1).bind fun t379 => (if t379 < 0 then (some (-1)) else (some t379))) = some r := h
 clear h
 replace H := Option.bind_eq_some_iff.mp H
 obtain ⟨t379, A30, H⟩ := H
 replace H : (if t379 < 0 then (some (-1)) else (some t379)) = some r := H
 have A3 := Aside0.mk A30
 clear A30
 by_cases c4 : t379 < 0
 ·rw [if_pos c4] at H
  have c4b0 : decide (t379 < 0) = true := decide_eq_true c4
  clear c4
  obtain rfl := Option.some.inj H
  go_enter Try.func39, Try.ntmps39
  go_wp2_with (first | ((with_reducible refine gate_dst (N := 2) rfl ?_); refine box_event ?hg (N := 2) ?hd (cs := #[.slice A0_0 l0_0.length c0_0, .int .i64 a0_1, .int .i64 a0_2]) (t := 31) ?hr ?_; (case hd => rfl); (case hg => rfl); (case hr => first | (go_simp; done) | (go_simp; rfl)); intro gb378 hg w5 hbox hb; have BK378 := am (hbox); have GW378 := am ((by rw [hg]; exact (below_size (bl HB.out)) : w.heap.size ≤ gb378)); have GE378 := GW378; replace HB := am (below_step (bl HB.out) hb); clear hb hbox hg; have hcz6_0 : w5.cell? ⟨gb378, 0, none⟩ = some (.slice A0_0 l0_0.length c0_0) := bc BK378.out 0; have hcz6_1 : w5.cell? ⟨gb378, 1, none⟩ = some (.int .i64 a0_1) := bc BK378.out 1; have hcz6_2 : w5.cell? ⟨gb378, 2, none⟩ = some (.int .i64 a0_2) := bc BK378.out 2) | ((with_reducible refine gate_callee (f := 63) rfl ?_); refine gl (some 8) Try.func63 #[.slice A0_0 l0_0.length c0_0, .int .i64 a1] ?_; (with_reducible refine (laws_heldInt64S.calls k _ _ l0_0 a1 t379 _ ?side1 ?side2 A3.out).mono ?_); (case side1 => repeat (first | exact (Kd.C_below HR0_0.out HB.out) | (with_reducible refine Kd.C_alloc ?_ _) | (with_reducible refine Kd.C_drewN ?_ _) | (with_reducible refine Kd.C_drew ?_))); (case side2 => exact HC0_0.out); rintro e w' ⟨rfl, ⟨nd, rfl⟩⟩; refine ⟨_, rfl, ?_⟩))
  go_ret
  exact ⟨by first | rfl | (simp [errW_none, errW_some] <;> rfl) | (simp [*, errW_none, errW_some] <;> rfl), by repeat (first | (with_reducible first | exact HB.out | apply below_alloc | apply pw_below_drewN | apply below_drew1 | refine below_set ?_ GE378.out) | exact HB.out)⟩
 ·rw [if_neg c4] at H
  have c4b0 : decide (t379 < 0) = false := decide_eq_false c4
  clear c4
  obtain rfl := Option.some.inj H
  go_enter Try.func39, Try.ntmps39
  go_wp2_with (first | ((with_reducible refine gate_dst (N := 2) rfl ?_); refine box_event ?hg (N := 2) ?hd (cs := #[.slice A0_0 l0_0.length c0_0, .int .i64 a0_1, .int .i64 a0_2]) (t := 31) ?hr ?_; (case hd => rfl); (case hg => rfl); (case hr => first | (go_simp; done) | (go_simp; rfl)); intro gb378 hg w7 hbox hb; have BK378 := am (hbox); have GW378 := am ((by rw [hg]; exact (below_size (bl HB.out)) : w.heap.size ≤ gb378)); have GE378 := GW378; replace HB := am (below_step (bl HB.out) hb); clear hb hbox hg; have hcz8_0 : w7.cell? ⟨gb378, 0, none⟩ = some (.slice A0_0 l0_0.length c0_0) := bc BK378.out 0; have hcz8_1 : w7.cell? ⟨gb378, 1, none⟩ = some (.int .i64 a0_1) := bc BK378.out 1; have hcz8_2 : w7.cell? ⟨gb378, 2, none⟩ = some (.int .i64 a0_2) := bc BK378.out 2) | ((with_reducible refine gate_callee (f := 63) rfl ?_); refine gl (some 8) Try.func63 #[.slice A0_0 l0_0.length c0_0, .int .i64 a1] ?_; (with_reducible refine (laws_heldInt64S.calls k _ _ l0_0 a1 t379 _ ?side1 ?side2 A3.out).mono ?_); (case side1 => repeat (first | exact (Kd.C_below HR0_0.out HB.out) | (with_reducible refine Kd.C_alloc ?_ _) | (with_reducible refine Kd.C_drewN ?_ _) | (with_reducible refine Kd.C_drew ?_))); (case side2 => exact HC0_0.out); rintro e w' ⟨rfl, ⟨nd, rfl⟩⟩; refine ⟨_, rfl, ?_⟩))
  go_ret
  exact ⟨by first | rfl | (simp [errW_none, errW_some] <;> rfl) | (simp [*, errW_none, errW_some] <;> rfl), by repeat (first | (with_reducible first | exact HB.out | apply below_alloc | apply pw_below_drewN | apply below_drew1 | refine below_set ?_ GE378.out) | exact HB.out)⟩

/-! ### laws_heldUndoOut: function 16 -/
def laws_heldUndoOut.f (k : Nat) (l0_0 : List (S31)) (l0_1 : List (S31)) (l0_2 : List Int) (a0_3 : Int) (a0_4 : Int) (a0_5 : Int) (a1 : Int) : Option (Int) := (laws_heldUndo.f k l0_0 l0_1 a1).bind fun t381 => (if t381 < 0 then (some (-1)) else ((laws_heldBuf.f k l0_2 a0_3 a0_4 t381).bind fun t382 => (if t382 < 0 then (some (-1)) else (some t382))))
theorem laws_heldUndoOut.calls (k : Nat) (A0_0 : Option Addr) (c0_0 : Nat) (l0_0 : List (S31)) (A0_1 : Option Addr) (c0_1 : Nat) (l0_1 : List (S31)) (A0_2 : Option Addr) (c0_2 : Nat) (l0_2 : List Int) (a0_3 : Int) (a0_4 : Int) (a0_5 : Int) (a1 : Int) (r : Int) (w : World) (hr0_0 : Kd.C k31 w A0_0 l0_0.length l0_0) (hc0_0 : l0_0.length ≤ c0_0) (hr0_1 : Kd.C k31 w A0_1 l0_1.length l0_1) (hc0_1 : l0_1.length ≤ c0_1) (hr0_2 : Kd.C (Kd.int .i64) w A0_2 l0_2.length l0_2) (hc0_2 : l0_2.length ≤ c0_2) (h : laws_heldUndoOut.f k l0_0 l0_1 l0_2 a0_3 a0_4 a0_5 a1 = some r) :
  Calls Try.prog 16 #[.agg #[.slice A0_0 l0_0.length c0_0, .slice A0_1 l0_1.length c0_1, .slice A0_2 l0_2.length c0_2, .int .i64 a0_3, .int .i64 a0_4, .int .i64 a0_5], .int .i64 a1] w fun e w' => e = .returned (.int .i64 r) ∧ Below w.heap.size w w' := by
 have hu33 := Try.underlying33
 have hu30 := Try.underlying30
 have hu31 := Try.underlying31
 have HR0_0 := am hr0_0
 have HC0_0 := am hc0_0
 clear hr0_0 hc0_0
 have HR0_1 := am hr0_1
 have HC0_1 := am hc0_1
 clear hr0_1 hc0_1
 have HR0_2 := am hr0_2
 have HC0_2 := am hc0_2
 clear hr0_2 hc0_2
 have HB := am (Below.refl w.heap.size w)
 have H : ((laws_heldUndo.f k l0_0 l0_1 a1).bind fun t381 => (if t381 < 0 then (some (-1)) else ((laws_heldBuf.f k l0_2 a0_3 a0_4 t381).bind fun t382 => (if t382 < 0 then (some (-1)) else (some t382))))) = some r := h
 clear h
 replace H := Option.bind_eq_some_iff.mp H
 obtain ⟨t381, A30, H⟩ := H
 replace H : (if t381 < 0 then (some (-1)) else ((laws_heldBuf.f k l0_2 a0_3 a0_4 t381).bind fun t382 => (if t382 < 0 then (some (-1)) else (some t382)))) = some r := H
 have A3 := Aside0.mk A30
 clear A30
 by_cases c4 : t381 < 0
 ·rw [if_pos c4] at H
  have c4b0 : decide (t381 < 0) = true := decide_eq_true c4
  clear c4
  obtain rfl := Option.some.inj H
  go_enter Try.func16, Try.ntmps16
  go_wp2_with (first | ((with_reducible refine gate_dst (N := 2) rfl ?_); refine box_event ?hg (N := 2) ?hd (cs := #[.slice A0_0 l0_0.length c0_0, .slice A0_1 l0_1.length c0_1, .slice A0_2 l0_2.length c0_2, .int .i64 a0_3, .int .i64 a0_4, .int .i64 a0_5]) (t := 33) ?hr ?_; (case hd => rfl); (case hg => rfl); (case hr => first | (go_simp; done) | (go_simp; rfl)); intro gb380 hg w5 hbox hb; have BK380 := am (hbox); have GW380 := am ((by rw [hg]; exact (below_size (bl HB.out)) : w.heap.size ≤ gb380)); have GE380 := GW380; replace HB := am (below_step (bl HB.out) hb); clear hb hbox hg; have hcz6_0 : w5.cell? ⟨gb380, 0, none⟩ = some (.slice A0_0 l0_0.length c0_0) := bc BK380.out 0; have hcz6_1 : w5.cell? ⟨gb380, 1, none⟩ = some (.slice A0_1 l0_1.length c0_1) := bc BK380.out 1; have hcz6_2 : w5.cell? ⟨gb380, 2, none⟩ = some (.slice A0_2 l0_2.length c0_2) := bc BK380.out 2; have hcz6_3 : w5.cell? ⟨gb380, 3, none⟩ = some (.int .i64 a0_3) := bc BK380.out 3; have hcz6_4 : w5.cell? ⟨gb380, 4, none⟩ = some (.int .i64 a0_4) := bc BK380.out 4; have hcz6_5 : w5.cell? ⟨gb380, 5, none⟩ = some (.int .i64 a0_5) := bc BK380.out 5) | ((with_reducible refine gate_callee (f := 38) rfl ?_); refine gl (some 8) Try.func38 #[.agg #[.slice A0_0 l0_0.length c0_0, .slice A0_1 l0_1.length c0_1], .int .i64 a1] ?_; (with_reducible refine (laws_heldUndo.calls k _ _ l0_0 _ _ l0_1 a1 t381 _ ?side1 ?side2 ?side3 ?side4 A3.out).mono ?_); (case side1 => repeat (first | exact (Kd.C_below HR0_0.out HB.out) | (with_reducible refine Kd.C_alloc ?_ _) | (with_reducible refine Kd.C_drewN ?_ _) | (with_reducible refine Kd.C_drew ?_))); (case side2 => exact HC0_0.out); (case side3 => repeat (first | exact (Kd.C_below HR0_1.out HB.out) | (with_reducible refine Kd.C_alloc ?_ _) | (with_reducible refine Kd.C_drewN ?_ _) | (with_reducible refine Kd.C_drew ?_))); (case side4 => exact HC0_1.out); rintro e w7 ⟨rfl, hb⟩; refine ⟨_, rfl, ?_⟩; replace BK380 := am (blk_below (pk BK380.out) hb); replace HB := am (below_step (bl HB.out) hb); (try clear hb); (try clear hb2); (try clear hk); (try clear hi)))
  go_ret
  exact ⟨by first | rfl | (simp [errW_none, errW_some] <;> rfl) | (simp [*, errW_none, errW_some] <;> rfl), by repeat (first | (with_reducible first | exact HB.out | apply below_alloc | apply pw_below_drewN | apply below_drew1 | refine below_set ?_ GE380.out) | exact HB.out)⟩
 ·rw [if_neg c4] at H
  have c4b0 : decide (t381 < 0) = false := decide_eq_false c4
  clear c4
  replace H := Option.bind_eq_some_iff.mp H
  obtain ⟨t382, A80, H⟩ := H
  replace H : (if t382 < 0 then (some (-1)) else (some t382)) = some r := H
  have A8 := Aside0.mk A80
  clear A80
  by_cases c9 : t382 < 0
  ·rw [if_pos c9] at H
   have c9b0 : decide (t382 < 0) = true := decide_eq_true c9
   clear c9
   obtain rfl := Option.some.inj H
   go_enter Try.func16, Try.ntmps16
   go_wp2_with (first | ((with_reducible refine gate_dst (N := 2) rfl ?_); refine box_event ?hg (N := 2) ?hd (cs := #[.slice A0_0 l0_0.length c0_0, .slice A0_1 l0_1.length c0_1, .slice A0_2 l0_2.length c0_2, .int .i64 a0_3, .int .i64 a0_4, .int .i64 a0_5]) (t := 33) ?hr ?_; (case hd => rfl); (case hg => rfl); (case hr => first | (go_simp; done) | (go_simp; rfl)); intro gb380 hg w10 hbox hb; have BK380 := am (hbox); have GW380 := am ((by rw [hg]; exact (below_size (bl HB.out)) : w.heap.size ≤ gb380)); have GE380 := GW380; replace HB := am (below_step (bl HB.out) hb); clear hb hbox hg; have hcz11_0 : w10.cell? ⟨gb380, 0, none⟩ = some (.slice A0_0 l0_0.length c0_0) := bc BK380.out 0; have hcz11_1 : w10.cell? ⟨gb380, 1, none⟩ = some (.slice A0_1 l0_1.length c0_1) := bc BK380.out 1; have hcz11_2 : w10.cell? ⟨gb380, 2, none⟩ = some (.slice A0_2 l0_2.length c0_2) := bc BK380.out 2; have hcz11_3 : w10.cell? ⟨gb380, 3, none⟩ = some (.int .i64 a0_3) := bc BK380.out 3; have hcz11_4 : w10.cell? ⟨gb380, 4, none⟩ = some (.int .i64 a0_4) := bc BK380.out 4; have hcz11_5 : w10.cell? ⟨gb380, 5, none⟩ = some (.int .i64 a0_5) := bc BK380.out 5) | ((with_reducible refine gate_callee (f := 38) rfl ?_); refine gl (some 8) Try.func38 #[.agg #[.slice A0_0 l0_0.length c0_0, .slice A0_1 l0_1.length c0_1], .int .i64 a1] ?_; (with_reducible refine (laws_heldUndo.calls k _ _ l0_0 _ _ l0_1 a1 t381 _ ?side1 ?side2 ?side3 ?side4 A3.out).mono ?_); (case side1 => repeat (first | exact (Kd.C_below HR0_0.out HB.out) | (with_reducible refine Kd.C_alloc ?_ _) | (with_reducible refine Kd.C_drewN ?_ _) | (with_reducible refine Kd.C_drew ?_))); (case side2 => exact HC0_0.out); (case side3 => repeat (first | exact (Kd.C_below HR0_1.out HB.out) | (with_reducible refine Kd.C_alloc ?_ _) | (with_reducible refine Kd.C_drewN ?_ _) | (with_reducible refine Kd.C_drew ?_))); (case side4 => exact HC0_1.out); rintro e w12 ⟨rfl, hb⟩; refine ⟨_, rfl, ?_⟩; replace BK380 := am (blk_below (pk BK380.out) hb); replace HB := am (below_step (bl HB.out) hb); (try clear hb); (try clear hb2); (try clear hk); (try clear hi); have hcz13_0 : w12.cell? ⟨gb380, 0, none⟩ = some (.slice A0_0 l0_0.length c0_0) := bc BK380.out 0; have hcz13_1 : w12.cell? ⟨gb380, 1, none⟩ = some (.slice A0_1 l0_1.length c0_1) := bc BK380.out 1; have hcz13_2 : w12.cell? ⟨gb380, 2, none⟩ = some (.slice A0_2 l0_2.length c0_2) := bc BK380.out 2; have hcz13_3 : w12.cell? ⟨gb380, 3, none⟩ = some (.int .i64 a0_3) := bc BK380.out 3; have hcz13_4 : w12.cell? ⟨gb380, 4, none⟩ = some (.int .i64 a0_4) := bc BK380.out 4; have hcz13_5 : w12.cell? ⟨gb380, 5, none⟩ = some (.int .i64 a0_5) := bc BK380.out 5) | ((with_reducible refine gate_callee (f := 39) rfl ?_); refine gl (some 14) Try.func39 #[.agg #[.slice A0_2 l0_2.length c0_2, .int .i64 a0_3, .int .i64 a0_4], .int .i64 t381] ?_; (with_reducible refine (laws_heldBuf.calls k _ _ l0_2 a0_3 a0_4 t381 t382 _ ?side1 ?side2 A8.out).mono ?_); (case side1 => repeat (first | exact (Kd.C_below HR0_2.out HB.out) | (with_reducible refine Kd.C_alloc ?_ _) | (with_reducible refine Kd.C_drewN ?_ _) | (with_reducible refine Kd.C_drew ?_))); (case side2 => exact HC0_2.out); rintro e w14 ⟨rfl, hb⟩; refine ⟨_, rfl, ?_⟩; replace BK380 := am (blk_below (pk BK380.out) hb); replace HB := am (below_step (bl HB.out) hb); (try clear hb); (try clear hb2); (try clear hk); (try clear hi)))
   go_ret
   exact ⟨by first | rfl | (simp [errW_none, errW_some] <;> rfl) | (simp [*, errW_none, errW_some] <;> rfl), by repeat (first | (with_reducible first | exact HB.out | apply below_alloc | apply pw_below_drewN | apply below_drew1 | refine below_set ?_ GE380.out) | exact HB.out)⟩
  ·rw [if_neg c9] at H
   have c9b0 : decide (t382 < 0) = false := decide_eq_false c9
   clear c9
   obtain rfl := Option.some.inj H
   go_enter Try.func16, Try.ntmps16
   go_wp2_with (first | ((with_reducible refine gate_dst (N := 2) rfl ?_); refine box_event ?hg (N := 2) ?hd (cs := #[.slice A0_0 l0_0.length c0_0, .slice A0_1 l0_1.length c0_1, .slice A0_2 l0_2.length c0_2, .int .i64 a0_3, .int .i64 a0_4, .int .i64 a0_5]) (t := 33) ?hr ?_; (case hd => rfl); (case hg => rfl); (case hr => first | (go_simp; done) | (go_simp; rfl)); intro gb380 hg w15 hbox hb; have BK380 := am (hbox); have GW380 := am ((by rw [hg]; exact (below_size (bl HB.out)) : w.heap.size ≤ gb380)); have GE380 := GW380; replace HB := am (below_step (bl HB.out) hb); clear hb hbox hg; have hcz16_0 : w15.cell? ⟨gb380, 0, none⟩ = some (.slice A0_0 l0_0.length c0_0) := bc BK380.out 0; have hcz16_1 : w15.cell? ⟨gb380, 1, none⟩ = some (.slice A0_1 l0_1.length c0_1) := bc BK380.out 1; have hcz16_2 : w15.cell? ⟨gb380, 2, none⟩ = some (.slice A0_2 l0_2.length c0_2) := bc BK380.out 2; have hcz16_3 : w15.cell? ⟨gb380, 3, none⟩ = some (.int .i64 a0_3) := bc BK380.out 3; have hcz16_4 : w15.cell? ⟨gb380, 4, none⟩ = some (.int .i64 a0_4) := bc BK380.out 4; have hcz16_5 : w15.cell? ⟨gb380, 5, none⟩ = some (.int .i64 a0_5) := bc BK380.out 5) | ((with_reducible refine gate_callee (f := 38) rfl ?_); refine gl (some 8) Try.func38 #[.agg #[.slice A0_0 l0_0.length c0_0, .slice A0_1 l0_1.length c0_1], .int .i64 a1] ?_; (with_reducible refine (laws_heldUndo.calls k _ _ l0_0 _ _ l0_1 a1 t381 _ ?side1 ?side2 ?side3 ?side4 A3.out).mono ?_); (case side1 => repeat (first | exact (Kd.C_below HR0_0.out HB.out) | (with_reducible refine Kd.C_alloc ?_ _) | (with_reducible refine Kd.C_drewN ?_ _) | (with_reducible refine Kd.C_drew ?_))); (case side2 => exact HC0_0.out); (case side3 => repeat (first | exact (Kd.C_below HR0_1.out HB.out) | (with_reducible refine Kd.C_alloc ?_ _) | (with_reducible refine Kd.C_drewN ?_ _) | (with_reducible refine Kd.C_drew ?_))); (case side4 => exact HC0_1.out); rintro e w17 ⟨rfl, hb⟩; refine ⟨_, rfl, ?_⟩; replace BK380 := am (blk_below (pk BK380.out) hb); replace HB := am (below_step (bl HB.out) hb); (try clear hb); (try clear hb2); (try clear hk); (try clear hi); have hcz18_0 : w17.cell? ⟨gb380, 0, none⟩ = some (.slice A0_0 l0_0.length c0_0) := bc BK380.out 0; have hcz18_1 : w17.cell? ⟨gb380, 1, none⟩ = some (.slice A0_1 l0_1.length c0_1) := bc BK380.out 1; have hcz18_2 : w17.cell? ⟨gb380, 2, none⟩ = some (.slice A0_2 l0_2.length c0_2) := bc BK380.out 2; have hcz18_3 : w17.cell? ⟨gb380, 3, none⟩ = some (.int .i64 a0_3) := bc BK380.out 3; have hcz18_4 : w17.cell? ⟨gb380, 4, none⟩ = some (.int .i64 a0_4) := bc BK380.out 4; have hcz18_5 : w17.cell? ⟨gb380, 5, none⟩ = some (.int .i64 a0_5) := bc BK380.out 5) | ((with_reducible refine gate_callee (f := 39) rfl ?_); refine gl (some 14) Try.func39 #[.agg #[.slice A0_2 l0_2.length c0_2, .int .i64 a0_3, .int .i64 a0_4], .int .i64 t381] ?_; (with_reducible refine (laws_heldBuf.calls k _ _ l0_2 a0_3 a0_4 t381 t382 _ ?side1 ?side2 A8.out).mono ?_); (case side1 => repeat (first | exact (Kd.C_below HR0_2.out HB.out) | (with_reducible refine Kd.C_alloc ?_ _) | (with_reducible refine Kd.C_drewN ?_ _) | (with_reducible refine Kd.C_drew ?_))); (case side2 => exact HC0_2.out); rintro e w19 ⟨rfl, hb⟩; refine ⟨_, rfl, ?_⟩; replace BK380 := am (blk_below (pk BK380.out) hb); replace HB := am (below_step (bl HB.out) hb); (try clear hb); (try clear hb2); (try clear hk); (try clear hi)))
   go_ret
   exact ⟨by first | rfl | (simp [errW_none, errW_some] <;> rfl) | (simp [*, errW_none, errW_some] <;> rfl), by repeat (first | (with_reducible first | exact HB.out | apply below_alloc | apply pw_below_drewN | apply below_drew1 | refine below_set ?_ GE380.out) | exact HB.out)⟩

/-! ### laws_FnExactUndoRun: function 3 -/
def ul14.T : Bool × List (List Nat × List Nat) := (true, [([], []), ([], []), ([1], [1]), ([0, 2, 2], [0, 2]), ([3], [3])])
def ul14.B : List Nat := [0, 0, 2, 7, 15]
theorem ul14.tab : rtab .any (opsOf Try.f3 14) = ul14.T := by kernel_rfl
theorem ul14.bits : waitsOk ul14.T.2 ul14.B = true := by kernel_rfl
@[reducible] def ul14.a0 : Array Bool := (br true [0, 5]).toArray
@[reducible] def ul14.a1 : Array Bool := (br true [1, 4]).toArray
@[reducible] def ul14.a2 : Array Bool := (br true [2, 3]).toArray
@[reducible] def ul14.a3 : Array Bool := (br true [3, 2]).toArray
@[reducible] def ul14.a4 : Array Bool := (br true [4, 1]).toArray
@[reducible] def ul14.a5 : Array Bool := (br true [5]).toArray
def laws_FnExactUndoRun.f (k : Nat) (l0_0 : List Int) (a0_1 : Int) (a0_2 : Int) (l1 : List (List Int)) : Option (Bool) :=
 (laws_szBuf.f l0_0 a0_1 a0_2 1048576).bind fun t5 => if t5 < 0 then some true else (laws_szInt64SS.f k l1 t5).bind fun t8 => if t8 < 0 then some true else (laws_toBuf.f k l0_0 a0_1 a0_2).bind fun b => (laws_toInt64SS.f k l1).bind fun m => (spec_UndoRun.f k b.1 b.2.1 b.2.2 m).bind fun s => (impl_UndoRun.f k b.1 b.2.1 b.2.2 m).bind fun g => (laws_eqUndoOut.f k g.1 g.2.1 g.2.2.1 g.2.2.2.1 g.2.2.2.2.1 g.2.2.2.2.2 s.1 s.2.1 s.2.2.1 s.2.2.2.1 s.2.2.2.2.1 s.2.2.2.2.2).bind fun e => (laws_eqBuf.f k b.1 b.2.1 b.2.2 b.1 b.2.1 b.2.2).bind fun f => (laws_eqInt64SS.f k m m).bind fun h => (laws_markBuf.f k b.1 b.2.1 b.2.2 1).bind fun p => (laws_markInt64SS.f k m p.1).bind fun q => (laws_markUndoOut.f k g.1 g.2.1 g.2.2.1 g.2.2.2.1 g.2.2.2.2.1 g.2.2.2.2.2 1).bind fun z => (laws_heldUndoOut.f k z.2.1 z.2.2.1 z.2.2.2 g.2.2.2.1 g.2.2.2.2.1 g.2.2.2.2.2 1).bind fun d => if e = true ∧ f = true ∧ h = true ∧ 0 ≤ q.1 ∧ 0 ≤ d ∧ d = z.1 then some true else none
theorem laws_FnExactUndoRun.calls (k : Nat) (A0_0 : Option Addr) (c0_0 : Nat) (l0_0 : List Int) (a0_1 : Int) (a0_2 : Int) (A1 : Option Addr) (c1 : Nat) (l1 : List (List Int)) (r : Bool) (w : World) (hr0_0 : Kd.C (Kd.int .i64) w A0_0 l0_0.length l0_0) (hc0_0 : l0_0.length ≤ c0_0) (hr1 : Kd.C (Kd.slice 2 (Kd.int .i64)) w A1 l1.length l1) (hc1 : l1.length ≤ c1) (h : laws_FnExactUndoRun.f k l0_0 a0_1 a0_2 l1 = some true) :
 Calls Try.prog 3 #[.agg #[.slice A0_0 l0_0.length c0_0, .int .i64 a0_1, .int .i64 a0_2], .slice A1 l1.length c1] w fun e w' => e = .returned (.bool true) ∧ Below w.heap.size w w' := by
 have hu24 := Try.underlying24
 have hu30 := Try.underlying30
 have hu31 := Try.underlying31
 have hu33 := Try.underlying33
 have HR0 := am hr0_0
 have HC0 := am hc0_0
 have HR1 := am hr1
 have HC1 := am hc1
 clear hr0_0 hc0_0 hr1 hc1
 have HL := am (Lw.nil w)
 have H := h
 unfold laws_FnExactUndoRun.f at H
 clear h
 replace H := Option.bind_eq_some_iff.mp H
 obtain ⟨t5, E5, H⟩ := H
 have A5 := am E5
 clear E5
 by_cases c7 : t5 < 0
 · have c7b0 : decide (t5 < 0) = true := decide_eq_true c7
   clear c7 H
   go_enter Try.func3, Try.ntmps3
   go_wp2_with (first | ((with_reducible refine gate_dst (N := 2) rfl ?_); refine box_event ?hg (N := 2) ?hd (cs := #[.slice A0_0 l0_0.length c0_0, .int .i64 a0_1, .int .i64 a0_2]) (t := 24) ?hr ?_; (case hd => rfl); (case hg => rfl); (case hr => first | (go_simp; done) | (go_simp; rfl)); intro B2 hg w1 hbox hb; replace HL := am (HL.out.addBox hg hbox hb); clear hb hbox hg; obtain ⟨hB2_0, fB2_0, hB2_1, fB2_1, hB2_2, fB2_2⟩ := cells3 (HL.out.bx 0)) | ((with_reducible refine gate_callee (f := 4) rfl ?_); refine gl (some 16) Try.func4 #[.agg #[.slice A0_0 l0_0.length c0_0, .int .i64 a0_1, .int .i64 a0_2], .int .i64 1048576] ?_; (with_reducible refine (laws_szBuf.calls _ _ l0_0 a0_1 a0_2 1048576 t5 _ ?s0 ?s1 A5.out).mono ?_); (case s0 => exact (Kd.C_below HR0.out HL.out.bel)); (case s1 => exact HC0.out); rintro e w2 ⟨rfl, hb⟩; refine ⟨_, rfl, ?_⟩; replace HL := am (HL.out.step hb); clear hb; clear hB2_0 fB2_0 hB2_1 fB2_1 hB2_2 fB2_2))
   go_ret
   exact ⟨by first | rfl | (simp [*]; done), HL.out.bel⟩
 rw [if_neg c7] at H
 have c7b0 : decide (t5 < 0) = false := decide_eq_false c7
 clear c7
 replace H := Option.bind_eq_some_iff.mp H
 obtain ⟨t8, E8, H⟩ := H
 have A8 := am E8
 clear E8
 by_cases c10 : t8 < 0
 · have c10b0 : decide (t8 < 0) = true := decide_eq_true c10
   clear c10 H
   go_enter Try.func3, Try.ntmps3
   go_wp2_with (first | ((with_reducible refine gate_dst (N := 2) rfl ?_); refine box_event ?hg (N := 2) ?hd (cs := #[.slice A0_0 l0_0.length c0_0, .int .i64 a0_1, .int .i64 a0_2]) (t := 24) ?hr ?_; (case hd => rfl); (case hg => rfl); (case hr => first | (go_simp; done) | (go_simp; rfl)); intro B2 hg w1 hbox hb; replace HL := am (HL.out.addBox hg hbox hb); clear hb hbox hg; obtain ⟨hB2_0, fB2_0, hB2_1, fB2_1, hB2_2, fB2_2⟩ := cells3 (HL.out.bx 0)) | ((with_reducible refine gate_callee (f := 4) rfl ?_); refine gl (some 16) Try.func4 #[.agg #[.slice A0_0 l0_0.length c0_0, .int .i64 a0_1, .int .i64 a0_2], .int .i64 1048576] ?_; (with_reducible refine (laws_szBuf.calls _ _ l0_0 a0_1 a0_2 1048576 t5 _ ?s0 ?s1 A5.out).mono ?_); (case s0 => exact (Kd.C_below HR0.out HL.out.bel)); (case s1 => exact HC0.out); rintro e w2 ⟨rfl, hb⟩; refine ⟨_, rfl, ?_⟩; replace HL := am (HL.out.step hb); clear hb; clear hB2_0 fB2_0 hB2_1 fB2_1 hB2_2 fB2_2) | ((with_reducible refine gate_callee (f := 5) rfl ?_); refine gl (some 21) Try.func5 #[.slice A1 l1.length c1, .int .i64 t5] ?_; (with_reducible refine (laws_szInt64SS.calls k _ _ l1 t5 t8 _ ?s0 ?s1 A8.out).mono ?_); (case s0 => exact (Kd.C_below HR1.out HL.out.bel)); (case s1 => exact HC1.out); rintro e w3 ⟨rfl, hd⟩; refine ⟨_, rfl, ?_⟩; replace HL := am (HL.out.drawn hd); clear hd; obtain ⟨hB2_0, fB2_0, hB2_1, fB2_1, hB2_2, fB2_2⟩ := cells3 (HL.out.bx 0)))
   go_ret
   exact ⟨by first | rfl | (simp [*]; done), HL.out.bel⟩
 rw [if_neg c10] at H
 have c10b0 : decide (t8 < 0) = false := decide_eq_false c10
 clear c10
 replace H := Option.bind_eq_some_iff.mp H
 obtain ⟨⟨b1, b2, b3⟩, E, H⟩ := H
 have Ab := am E
 clear E
 replace H := Option.bind_eq_some_iff.mp H
 obtain ⟨m, E, H⟩ := H
 have Am := am E
 clear E
 replace H := Option.bind_eq_some_iff.mp H
 obtain ⟨⟨s1, s2, s3, s4, s5, s6⟩, E, H⟩ := H
 have As := am E
 clear E
 replace H := Option.bind_eq_some_iff.mp H
 obtain ⟨⟨g1, g2, g3, g4, g5, g6⟩, E, H⟩ := H
 have Ag := am E
 clear E
 replace H := Option.bind_eq_some_iff.mp H
 obtain ⟨e1, E, H⟩ := H
 have Ae := am E
 clear E
 replace H := Option.bind_eq_some_iff.mp H
 obtain ⟨e2, E, H⟩ := H
 have Af := am E
 clear E
 replace H := Option.bind_eq_some_iff.mp H
 obtain ⟨e3, E, H⟩ := H
 have Ah := am E
 clear E
 replace H := Option.bind_eq_some_iff.mp H
 obtain ⟨⟨p0, p1⟩, E, H⟩ := H
 have An := am E
 clear E
 replace H := Option.bind_eq_some_iff.mp H
 obtain ⟨⟨q0, q1⟩, E, H⟩ := H
 have Ao := am E
 clear E
 replace H := Option.bind_eq_some_iff.mp H
 obtain ⟨⟨z0, z1, z2, z3⟩, E, H⟩ := H
 have Az := am E
 clear E
 replace H := Option.bind_eq_some_iff.mp H
 obtain ⟨d, E, H⟩ := H
 have Ad := am E
 clear E
 dsimp only at As Ag Ae Af An Ao Az Ad H
 by_cases cc : e1 = true ∧ e2 = true ∧ e3 = true ∧ 0 ≤ q0 ∧ 0 ≤ d ∧ d = z0
 rotate_left
 · rw [if_neg cc] at H; cases H
 clear H
 obtain ⟨rfl, rfl, rfl, cq, cd, rfl⟩ := cc
 have cqb : decide (q0 < 0) = false := decide_eq_false (by omega)
 have cdb : decide (d < 0) = false := decide_eq_false (by omega)
 clear cq cd
 go_enter Try.func3, Try.ntmps3
 go_wp2_with (first | ((with_reducible refine gate_dst (N := 2) rfl ?_); refine box_event ?hg (N := 2) ?hd (cs := #[.slice A0_0 l0_0.length c0_0, .int .i64 a0_1, .int .i64 a0_2]) (t := 24) ?hr ?_; (case hd => rfl); (case hg => rfl); (case hr => first | (go_simp; done) | (go_simp; rfl)); intro B2 hg w1 hbox hb; replace HL := am (HL.out.addBox hg hbox hb); clear hb hbox hg; obtain ⟨hB2_0, fB2_0, hB2_1, fB2_1, hB2_2, fB2_2⟩ := cells3 (HL.out.bx 0)) | ((with_reducible refine gate_callee (f := 4) rfl ?_); refine gl (some 16) Try.func4 #[.agg #[.slice A0_0 l0_0.length c0_0, .int .i64 a0_1, .int .i64 a0_2], .int .i64 1048576] ?_; (with_reducible refine (laws_szBuf.calls _ _ l0_0 a0_1 a0_2 1048576 t5 _ ?s0 ?s1 A5.out).mono ?_); (case s0 => exact (Kd.C_below HR0.out HL.out.bel)); (case s1 => exact HC0.out); rintro e w2 ⟨rfl, hb⟩; refine ⟨_, rfl, ?_⟩; replace HL := am (HL.out.step hb); clear hb; clear hB2_0 fB2_0 hB2_1 fB2_1 hB2_2 fB2_2) | ((with_reducible refine gate_callee (f := 5) rfl ?_); refine gl (some 21) Try.func5 #[.slice A1 l1.length c1, .int .i64 t5] ?_; (with_reducible refine (laws_szInt64SS.calls k _ _ l1 t5 t8 _ ?s0 ?s1 A8.out).mono ?_); (case s0 => exact (Kd.C_below HR1.out HL.out.bel)); (case s1 => exact HC1.out); rintro e w3 ⟨rfl, hd⟩; refine ⟨_, rfl, ?_⟩; replace HL := am (HL.out.drawn hd); clear hd; obtain ⟨hB2_0, fB2_0, hB2_1, fB2_1, hB2_2, fB2_2⟩ := cells3 (HL.out.bx 0)) | ((with_reducible refine gate_callee (f := 7) rfl ?_); refine gl (some 25) Try.func7 #[.agg #[.slice A0_0 l0_0.length c0_0, .int .i64 a0_1, .int .i64 a0_2]] ?_; (with_reducible refine (laws_toBuf.calls k _ _ l0_0 a0_1 a0_2 b1 b2 b3 _ ?s0 ?s1 Ab.out).mono ?_); (case s0 => exact (Kd.C_below HR0.out HL.out.bel)); (case s1 => exact HC0.out); rintro e w4 ⟨vp, rfl, ho, hb⟩; refine ⟨_, rfl, ?_⟩; replace HL := am (HL.out.addR hb ho); clear hb ho; obtain ⟨Ap, cp, ee_⟩ := Kd.R_slice (HL.out.gR 0); subst ee_; clear hB2_0 fB2_0 hB2_1 fB2_1 hB2_2 fB2_2) | ((with_reducible refine gate_callee (f := 8) rfl ?_); refine gl (some 27) Try.func8 #[.slice A1 l1.length c1] ?_; (with_reducible refine (laws_toInt64SS.calls k _ _ l1 m _ ?s0 ?s1 Am.out).mono ?_); (case s0 => exact (Kd.C_below HR1.out HL.out.bel)); (case s1 => exact HC1.out); rintro e w5 ⟨vq, rfl, ho, hb⟩; refine ⟨_, rfl, ?_⟩; replace HL := am (HL.out.addS hb ho); clear hb ho; obtain ⟨Aq, cq, ee_⟩ := Kd.S_slice (HL.out.gS 0); subst ee_) | ((with_reducible refine gate_callee (f := 6) rfl ?_); refine gl (some 28) Try.func6 #[.agg #[.slice Ap b1.length cp, .int .i64 b2, .int .i64 b3], .slice Aq m.length cq] ?_; (with_reducible refine (spec_UndoRun.callsL k _ _ b1 b2 b3 _ _ m s1 s2 s3 s4 s5 s6 _ ?s0 ?s1 ?s2 ?s3 As.out).mono ?_); (case s0 => exact (HL.out.rR 1)); (case s1 => exact (HL.out.cR 1)); (case s2 => exact (HL.out.rS 0)); (case s3 => exact (HL.out.cS 0)); rintro e w6 ⟨v0, v1, v2, rfl, ho⟩; refine ⟨_, rfl, ?_⟩; replace HL := am (HL.out.app ho); clear ho; obtain ⟨As0, cs0, ee_, -⟩ := Kd.T_slice (HL.out.gT 0); subst ee_; obtain ⟨As1, cs1, ee_, -⟩ := Kd.T_slice (HL.out.gT 1); subst ee_; obtain ⟨As2, cs2, ee_⟩ := Kd.R_slice (HL.out.gR 2); subst ee_) | ((with_reducible refine gate_dst (N := 6) rfl ?_); refine box_event ?hg (N := 6) ?hd (cs := #[.slice none 0 0, .slice none 0 0, .slice none 0 0, .int .i64 0, .int .i64 0, .int .i64 0]) (t := 33) ?hr ?_; (case hd => rfl); (case hg => rfl); (case hr => first | (go_simp; done) | (go_simp; rfl)); intro B6 hg w7 hbox hb; replace HL := am (HL.out.addBox hg hbox hb); clear hb hbox hg; obtain ⟨hB6_0, fB6_0, hB6_1, fB6_1, hB6_2, fB6_2, hB6_3, fB6_3, hB6_4, fB6_4, hB6_5, fB6_5⟩ := cells6 (HL.out.bx 0)) | ((with_reducible refine gate_store (t := 33) (p := 6) rfl ?_); refine store_event (t := 33) (p := 6) (v := .tmp 28) (w1 := putc w7 B6 0 [.slice As0 s1.length cs0, .slice As1 s2.length cs1, .slice As2 s3.length cs2, .int .i64 s4, .int .i64 s5, .int .i64 s6]) ?hg ?ho ?hn ?hr ?_; (case ho => rfl); (case hg => rfl); (case hn => rfl); (case hr => first | (go_simp; done) | (go_simp; rfl)); intro w8 hw; replace HL := am (HL.out.fil0 [.slice As0 s1.length cs0, .slice As1 s2.length cs1, .slice As2 s3.length cs2, .int .i64 s4, .int .i64 s5, .int .i64 s6] hw); clear hw; clear hB6_0 fB6_0 hB6_1 fB6_1 hB6_2 fB6_2 hB6_3 fB6_3 hB6_4 fB6_4 hB6_5 fB6_5; obtain ⟨hB2_0, fB2_0, hB2_1, fB2_1, hB2_2, fB2_2⟩ := cells3 (HL.out.bx 6)) | ((with_reducible refine gate_callee (f := 7) rfl ?_); refine gl (some 30) Try.func7 #[.agg #[.slice A0_0 l0_0.length c0_0, .int .i64 a0_1, .int .i64 a0_2]] ?_; (with_reducible refine (laws_toBuf.calls k _ _ l0_0 a0_1 a0_2 b1 b2 b3 _ ?s0 ?s1 Ab.out).mono ?_); (case s0 => exact (Kd.C_below HR0.out HL.out.bel)); (case s1 => exact HC0.out); rintro e w9 ⟨vx, rfl, ho, hb⟩; refine ⟨_, rfl, ?_⟩; replace HL := am (HL.out.addR hb ho); clear hb ho; obtain ⟨Ax, cx, ee_⟩ := Kd.R_slice (HL.out.gR 0); subst ee_; clear hB2_0 fB2_0 hB2_1 fB2_1 hB2_2 fB2_2) | ((with_reducible refine gate_dst (N := 7) rfl ?_); refine box_event ?hg (N := 7) ?hd (cs := #[.slice none 0 0, .int .i64 0, .int .i64 0]) (t := 31) ?hr ?_; (case hd => rfl); (case hg => rfl); (case hr => first | (go_simp; done) | (go_simp; rfl)); intro B7 hg w10 hbox hb; replace HL := am (HL.out.addBox hg hbox hb); clear hb hbox hg; obtain ⟨hB7_0, fB7_0, hB7_1, fB7_1, hB7_2, fB7_2⟩ := cells3 (HL.out.bx 0)) | ((with_reducible refine gate_store (t := 31) (p := 7) rfl ?_); refine store_event (t := 31) (p := 7) (v := .tmp 30) (w1 := putc w10 B7 0 [.slice Ax b1.length cx, .int .i64 b2, .int .i64 b3]) ?hg ?ho ?hn ?hr ?_; (case ho => rfl); (case hg => rfl); (case hn => rfl); (case hr => first | (go_simp; done) | (go_simp; rfl)); intro w11 hw; replace HL := am (HL.out.fil0 [.slice Ax b1.length cx, .int .i64 b2, .int .i64 b3] hw); clear hw; clear hB7_0 fB7_0 hB7_1 fB7_1 hB7_2 fB7_2) | ((with_reducible refine gate_callee (f := 8) rfl ?_); refine gl (some 32) Try.func8 #[.slice A1 l1.length c1] ?_; (with_reducible refine (laws_toInt64SS.calls k _ _ l1 m _ ?s0 ?s1 Am.out).mono ?_); (case s0 => exact (Kd.C_below HR1.out HL.out.bel)); (case s1 => exact HC1.out); rintro e w12 ⟨vy, rfl, ho, hb⟩; refine ⟨_, rfl, ?_⟩; replace HL := am (HL.out.addS hb ho); clear hb ho; obtain ⟨Ay, cy, ee_⟩ := Kd.S_slice (HL.out.gS 0); subst ee_; obtain ⟨hB7_0, fB7_0, hB7_1, fB7_1, hB7_2, fB7_2⟩ := cells3 (HL.out.bx 1)) | ((with_reducible refine gate_callee (f := 9) rfl ?_); refine gl (some 35) Try.func9 #[.agg #[.slice Ax b1.length cx, .int .i64 b2, .int .i64 b3], .slice Ay m.length cy] ?_; (with_reducible refine (impl_UndoRun.callsL k _ _ b1 b2 b3 _ _ m g1 g2 g3 g4 g5 g6 _ ?s0 ?s1 ?s2 ?s3 Ag.out).mono ?_); (case s0 => exact (HL.out.rR 2)); (case s1 => exact (HL.out.cR 2)); (case s2 => exact (HL.out.rS 0)); (case s3 => exact (HL.out.cS 0)); rintro e w13 ⟨v0, v1, v2, rfl, ho⟩; refine ⟨_, rfl, ?_⟩; replace HL := am (HL.out.app ho); clear ho; obtain ⟨Ag0, cg0, ee_, -⟩ := Kd.T_slice (HL.out.gT 0); subst ee_; obtain ⟨Ag1, cg1, ee_, -⟩ := Kd.T_slice (HL.out.gT 1); subst ee_; obtain ⟨Ag2, cg2, ee_⟩ := Kd.R_slice (HL.out.gR 2); subst ee_; clear hB7_0 fB7_0 hB7_1 fB7_1 hB7_2 fB7_2) | ((with_reducible refine gate_dst (N := 9) rfl ?_); refine box_event ?hg (N := 9) ?hd (cs := #[.slice none 0 0, .slice none 0 0, .slice none 0 0, .int .i64 0, .int .i64 0, .int .i64 0]) (t := 33) ?hr ?_; (case hd => rfl); (case hg => rfl); (case hr => first | (go_simp; done) | (go_simp; rfl)); intro B9 hg w14 hbox hb; replace HL := am (HL.out.addBox hg hbox hb); clear hb hbox hg; obtain ⟨hB9_0, fB9_0, hB9_1, fB9_1, hB9_2, fB9_2, hB9_3, fB9_3, hB9_4, fB9_4, hB9_5, fB9_5⟩ := cells6 (HL.out.bx 0)) | ((with_reducible refine gate_store (t := 33) (p := 9) rfl ?_); refine store_event (t := 33) (p := 9) (v := .tmp 35) (w1 := putc w14 B9 0 [.slice Ag0 g1.length cg0, .slice Ag1 g2.length cg1, .slice Ag2 g3.length cg2, .int .i64 g4, .int .i64 g5, .int .i64 g6]) ?hg ?ho ?hn ?hr ?_; (case ho => rfl); (case hg => rfl); (case hn => rfl); (case hr => first | (go_simp; done) | (go_simp; rfl)); intro w15 hw; replace HL := am (HL.out.fil0 [.slice Ag0 g1.length cg0, .slice Ag1 g2.length cg1, .slice Ag2 g3.length cg2, .int .i64 g4, .int .i64 g5, .int .i64 g6] hw); clear hw; clear hB9_0 fB9_0 hB9_1 fB9_1 hB9_2 fB9_2 hB9_3 fB9_3 hB9_4 fB9_4 hB9_5 fB9_5; obtain ⟨hB9_0, fB9_0, hB9_1, fB9_1, hB9_2, fB9_2, hB9_3, fB9_3, hB9_4, fB9_4, hB9_5, fB9_5⟩ := cells6 (HL.out.bx 0); obtain ⟨hB6_0, fB6_0, hB6_1, fB6_1, hB6_2, fB6_2, hB6_3, fB6_3, hB6_4, fB6_4, hB6_5, fB6_5⟩ := cells6 (HL.out.bx 7)) | ((with_reducible refine gate_callee (f := 10) rfl ?_); refine gl (some 38) Try.func10 #[.agg #[.slice Ag0 g1.length cg0, .slice Ag1 g2.length cg1, .slice Ag2 g3.length cg2, .int .i64 g4, .int .i64 g5, .int .i64 g6], .agg #[.slice As0 s1.length cs0, .slice As1 s2.length cs1, .slice As2 s3.length cs2, .int .i64 s4, .int .i64 s5, .int .i64 s6]] ?_; (with_reducible refine (laws_eqUndoOut.calls k _ _ g1 _ _ g2 _ _ g3 g4 g5 g6 _ _ s1 _ _ s2 _ _ s3 s4 s5 s6 true _ ?s0 ?s1 ?s2 ?s3 ?s4 ?s5 ?s6 ?s7 ?s8 ?s9 ?s10 ?s11 Ae.out).mono ?_); (case s0 => exact (HL.out.rT 1)); (case s1 => exact (HL.out.cT 1)); (case s2 => exact (HL.out.rT 2)); (case s3 => exact (HL.out.cT 2)); (case s4 => exact (HL.out.rR 3)); (case s5 => exact (HL.out.cR 3)); (case s6 => exact (HL.out.rT 8)); (case s7 => exact (HL.out.cT 8)); (case s8 => exact (HL.out.rT 9)); (case s9 => exact (HL.out.cT 9)); (case s10 => exact (HL.out.rR 10)); (case s11 => exact (HL.out.cR 10)); rintro e w16 ⟨rfl, hb⟩; refine ⟨_, rfl, ?_⟩; replace HL := am (HL.out.step hb); clear hb; clear hB9_0 fB9_0 hB9_1 fB9_1 hB9_2 fB9_2 hB9_3 fB9_3 hB9_4 fB9_4 hB9_5 fB9_5 hB6_0 fB6_0 hB6_1 fB6_1 hB6_2 fB6_2 hB6_3 fB6_3 hB6_4 fB6_4 hB6_5 fB6_5))
 try go_wp2
 replace HL := am HL.out.drew
 refine start_ (n := 5) (S := fun w' => w'.cell? ⟨B7, 0, none⟩ = some (.slice Ax b1.length cx) ∧ w'.cell? ⟨B7, 1, none⟩ = some (.int .i64 b2) ∧ w'.cell? ⟨B7, 2, none⟩ = some (.int .i64 b3) ∧ w'.cell? ⟨B2, 0, none⟩ = some (.slice A0_0 l0_0.length c0_0) ∧ w'.cell? ⟨B2, 1, none⟩ = some (.int .i64 a0_1) ∧ w'.cell? ⟨B2, 2, none⟩ = some (.int .i64 a0_2)) (ds := []) ul14.a0 (by kernel_rfl) rfl rfl ⟨bc (HL.out.bx 5) 0, bc (HL.out.bx 5) 1, bc (HL.out.bx 5) 2, bc (HL.out.bx 13) 0, bc (HL.out.bx 13) 1, bc (HL.out.bx 13) 2⟩ (fun hHeld => ?_); refine with_tabW ul14.tab ul14.bits (fun HT_ HW_ => ?_)
 generalize w16.drew.drew = w17 at HL hHeld hHeld ⊢
 refine tk_ 0 (some 40) ?_ ul14.a1 rfl rfl HT_.out HW_.out (by kernel_rfl) (fun _ _ _ h => h) (Or.inl ⟨by rfl, ?_⟩) hHeld ?_ ?_ ?_; rotate_left
 ·rintro w' ⟨s0, s1, s2, s3, s4, s5⟩; go_simp; with_reducible rfl
 rotate_left
 ·simp only [Act.put, sa_, s0_, ss_, i64_w, i32_w]; rfl
 refine tk_ 1 (some 41) ?_ ul14.a2 rfl rfl HT_.out HW_.out (by kernel_rfl) (fun _ _ _ h => h) (Or.inl ⟨by rfl, ?_⟩) hHeld ?_ ?_ ?_; rotate_left
 ·rintro w' ⟨s0, s1, s2, s3, s4, s5⟩; go_simp; with_reducible rfl
 rotate_left
 ·simp only [Act.put, sa_, s0_, ss_, i64_w, i32_w]; rfl
 refine one_ (i := 2) (N := some 42) ul14.a3 rfl rfl (one_of HT_.out (by kernel_rfl)) (by decide) (fun K hK => ?_)
 refine gs_ Try.func7 #[.agg #[.slice A0_0 l0_0.length c0_0, .int .i64 a0_1, .int .i64 a0_2]] ?_
 (with_reducible refine (laws_toBuf.calls k _ _ l0_0 a0_1 a0_2 b1 b2 b3 _ ?s0 ?s1 Ab.out).mono ?_)
 (case s0 => exact (Kd.C_below HR0.out HL.out.bel))
 (case s1 => exact HC0.out)
 rintro e w18 ⟨vu, rfl, ho, hb⟩
 refine ⟨_, rfl, ?_⟩
 replace HL := am (HL.out.addR hb ho)
 clear hb ho
 obtain ⟨Au, cu, ee_⟩ := Kd.R_slice (HL.out.gR 0)
 subst ee_
 refine hK.out _ _ ⟨bc (HL.out.bx 6) 0, bc (HL.out.bx 6) 1, bc (HL.out.bx 6) 2, bc (HL.out.bx 14) 0, bc (HL.out.bx 14) 1, bc (HL.out.bx 14) 2⟩ (fun hHeld => ?_)
 clear hK K
 refine norm_ (a' := ?_) ?_ ?_; rotate_left
 ·show Act.put _ (some 42) _ = _
  simp only [Act.put, sa_, s0_, ss_, i64_w, i32_w]
  rfl
 refine one_ (i := 3) (N := some 43) ul14.a4 rfl rfl (one_of HT_.out (by kernel_rfl)) (by decide) (fun K hK => ?_)
 refine gs_ Try.func11 #[.agg #[.slice Ax b1.length cx, .int .i64 b2, .int .i64 b3], .agg #[.slice Au b1.length cu, .int .i64 b2, .int .i64 b3]] ?_
 (with_reducible refine (laws_eqBuf.calls k _ _ b1 b2 b3 _ _ b1 b2 b3 true _ ?s0 ?s1 ?s2 ?s3 Af.out).mono ?_)
 (case s0 => exact (HL.out.rR 7))
 (case s1 => exact (HL.out.cR 7))
 (case s2 => exact (HL.out.rR 0))
 (case s3 => exact (HL.out.cR 0))
 rintro e w19 ⟨rfl, hb⟩
 refine ⟨_, rfl, ?_⟩
 replace HL := am (HL.out.step hb)
 clear hb
 refine hK.out _ _ ⟨bc (HL.out.bx 6) 0, bc (HL.out.bx 6) 1, bc (HL.out.bx 6) 2, bc (HL.out.bx 14) 0, bc (HL.out.bx 14) 1, bc (HL.out.bx 14) 2⟩ (fun hHeld => ?_)
 clear hK K
 refine norm_ (a' := ?_) ?_ ?_; rotate_left
 ·show Act.put _ (some 43) _ = _
  simp only [Act.put, sa_, s0_, ss_, i64_w, i32_w]
  rfl
 refine pu_ 4 (some 44) ?_ ul14.a5 rfl rfl HT_.out (by kernel_rfl) (fun _ _ _ h => h) (Or.inl ⟨by rfl, ?_⟩) ?_ ?_ ?_; rotate_left
 ·intro w'; go_simp; with_reducible rfl
 rotate_left
 ·simp only [Act.put, sa_, s0_, ss_, i64_w, i32_w]; rfl
 refine done_ (done_of HT_.out (by kernel_rfl)) ?_
 go_wp2_with (first | ((with_reducible refine gate_callee (f := 8) rfl ?_); refine gl (some 47) Try.func8 #[.slice A1 l1.length c1] ?_; (with_reducible refine (laws_toInt64SS.calls k _ _ l1 m _ ?s0 ?s1 Am.out).mono ?_); (case s0 => exact (Kd.C_below HR1.out HL.out.bel)); (case s1 => exact HC1.out); rintro e w20 ⟨vv, rfl, ho, hb⟩; refine ⟨_, rfl, ?_⟩; replace HL := am (HL.out.addS hb ho); clear hb ho; obtain ⟨Av, cv, ee_⟩ := Kd.S_slice (HL.out.gS 0); subst ee_) | ((with_reducible refine gate_callee (f := 12) rfl ?_); refine gl (some 48) Try.func12 #[.slice Ay m.length cy, .slice Av m.length cv] ?_; (with_reducible refine (laws_eqInt64SS.calls k _ _ m _ _ m true _ ?s0 ?s1 ?s2 ?s3 Ah.out).mono ?_); (case s0 => exact (HL.out.rS 6)); (case s1 => exact (HL.out.cS 6)); (case s2 => exact (HL.out.rS 0)); (case s3 => exact (HL.out.cS 0)); rintro e w21 ⟨rfl, hd⟩; refine ⟨_, rfl, ?_⟩; replace HL := am (HL.out.drawn hd); clear hd; obtain ⟨hB7_0, fB7_0, hB7_1, fB7_1, hB7_2, fB7_2⟩ := cells3 (HL.out.bx 7)) | ((with_reducible refine gate_callee (f := 13) rfl ?_); refine gl (some 52) Try.func13 #[.agg #[.slice Ax b1.length cx, .int .i64 b2, .int .i64 b3], .int .i64 1] ?_; obtain ⟨a_, b_, hp_, ho_, hq_⟩ := HL.out.open1 8 (e := .R (Kd.int .i64) 2 (.slice Ax b1.length cx) b1); refine (laws_markBuf.marks k _ _ b1 b2 b3 1 p0 p1 w _ HL.out.bel ho_ An.out).mono ?_; rintro e w22 ⟨rfl, hy, hb, hk⟩; refine ⟨_, rfl, ?_⟩; replace HL := am (hq_ (.R (Kd.int .i64) 2 (.slice Ax b1.length cx) p1) _ hy hb hk); clear hp_ ho_ hq_ hy hb hk; clear hB7_0 fB7_0 hB7_1 fB7_1 hB7_2 fB7_2) | ((with_reducible refine gate_callee (f := 14) rfl ?_); refine gl (some 55) Try.func14 #[.slice Ay m.length cy, .int .i64 p0] ?_; obtain ⟨a_, b_, hp_, ho_, hq_⟩ := HL.out.open1 6 (e := .S (Kd.slice 2 (Kd.int .i64)) 22 (.slice Ay m.length cy) m); refine (laws_markInt64SS.marks k _ _ m p0 q0 q1 w _ HL.out.bel ho_ Ao.out).mono ?_; rintro e w23 ⟨rfl, hy, hb, hk⟩; refine ⟨_, rfl, ?_⟩; replace HL := am (hq_ (.S (Kd.slice 2 (Kd.int .i64)) 22 (.slice Ay m.length cy) q1) _ hy hb hk); clear hp_ ho_ hq_ hy hb hk; obtain ⟨hB9_0, fB9_0, hB9_1, fB9_1, hB9_2, fB9_2, hB9_3, fB9_3, hB9_4, fB9_4, hB9_5, fB9_5⟩ := cells6 (HL.out.bx 2); obtain ⟨hB6_0, fB6_0, hB6_1, fB6_1, hB6_2, fB6_2, hB6_3, fB6_3, hB6_4, fB6_4, hB6_5, fB6_5⟩ := cells6 (HL.out.bx 9)) | ((with_reducible refine gate_callee (f := 15) rfl ?_); refine gl (some 66) Try.func15 #[.agg #[.slice Ag0 g1.length cg0, .slice Ag1 g2.length cg1, .slice Ag2 g3.length cg2, .int .i64 g4, .int .i64 g5, .int .i64 g6], .int .i64 1] ?_; obtain ⟨a0_, b0_, a1_, b1_, a2_, b2_, ho0, ho1, ho2, hp01, hp02, hp12, hq_⟩ := HL.out.open3 3 4 5; refine (laws_markUndoOut.marksT k _ _ _ _ _ _ g1 g2 g3 g4 g5 g6 1 d z1 z2 z3 w _ HL.out.bel ho0 ho1 ho2 hp01 hp02 hp12 Az.out).mono ?_; rintro e w25 ⟨rfl, hy0, hy1, hy2, hb, hk⟩; refine ⟨_, rfl, ?_⟩; replace HL := am (hq_ (.T k31 31 (.slice Ag0 g1.length cg0) z1) (.T k31 31 (.slice Ag1 g2.length cg1) z2) (.R (Kd.int .i64) 2 (.slice Ag2 g3.length cg2) z3) _ hy0 hy1 hy2 hb hk); clear ho0 ho1 ho2 hp01 hp02 hp12 hq_ hy0 hy1 hy2 hb hk; have n1 := am (Kd.T_reads' (HL.out.gT 3)).1; have n2 := am (Kd.T_reads' (HL.out.gT 4)).1; have n3 := am (Kd.R_reads' (HL.out.gR 5)).1; clear hB9_0 fB9_0 hB9_1 fB9_1 hB9_2 fB9_2 hB9_3 fB9_3 hB9_4 fB9_4 hB9_5 fB9_5; obtain ⟨hB9_0, fB9_0, hB9_1, fB9_1, hB9_2, fB9_2, hB9_3, fB9_3, hB9_4, fB9_4, hB9_5, fB9_5⟩ := cells6 (HL.out.bx 2)) | ((with_reducible refine gate_callee (f := 16) rfl ?_); refine gl (some 69) Try.func16 #[.agg #[.slice Ag0 g1.length cg0, .slice Ag1 g2.length cg1, .slice Ag2 g3.length cg2, .int .i64 g4, .int .i64 g5, .int .i64 g6], .int .i64 1] ?_; refine calls_of_args (args' := #[.agg #[.slice Ag0 z1.length cg0, .slice Ag1 z2.length cg1, .slice Ag2 z3.length cg2, .int .i64 g4, .int .i64 g5, .int .i64 g6], .int .i64 1]) (by simp only [n1.out, n2.out, n3.out]) ?_; (with_reducible refine (laws_heldUndoOut.calls k _ _ z1 _ _ z2 _ _ z3 g4 g5 g6 1 d _ ?s0 ?s1 ?s2 ?s3 ?s4 ?s5 Ad.out).mono ?_); (case s0 => exact (HL.out.rT 3)); (case s1 => exact (HL.out.cT 3)); (case s2 => exact (HL.out.rT 4)); (case s3 => exact (HL.out.cT 4)); (case s4 => exact (HL.out.rR 5)); (case s5 => exact (HL.out.cR 5)); rintro e w26 ⟨rfl, hb⟩; refine ⟨_, rfl, ?_⟩; replace HL := am (HL.out.step hb); clear hb; clear hB9_0 fB9_0 hB9_1 fB9_1 hB9_2 fB9_2 hB9_3 fB9_3 hB9_4 fB9_4 hB9_5 fB9_5; obtain ⟨hB2_0, fB2_0, hB2_1, fB2_1, hB2_2, fB2_2⟩ := cells3 (HL.out.bx 15)) | ((with_reducible refine gate_callee (f := 7) rfl ?_); refine gl (some 76) Try.func7 #[.agg #[.slice A0_0 l0_0.length c0_0, .int .i64 a0_1, .int .i64 a0_2]] ?_; (with_reducible refine (laws_toBuf.calls k _ _ l0_0 a0_1 a0_2 b1 b2 b3 _ ?s0 ?s1 Ab.out).mono ?_); (case s0 => exact (Kd.C_below HR0.out HL.out.bel)); (case s1 => exact HC0.out); rintro e w27 ⟨vr, rfl, ho, hb⟩; refine ⟨_, rfl, ?_⟩; replace HL := am (HL.out.addR hb ho); clear hb ho; obtain ⟨Ar, cr, ee_⟩ := Kd.R_slice (HL.out.gR 0); subst ee_; clear hB2_0 fB2_0 hB2_1 fB2_1 hB2_2 fB2_2) | ((with_reducible refine gate_callee (f := 8) rfl ?_); refine gl (some 78) Try.func8 #[.slice A1 l1.length c1] ?_; (with_reducible refine (laws_toInt64SS.calls k _ _ l1 m _ ?s0 ?s1 Am.out).mono ?_); (case s0 => exact (Kd.C_below HR1.out HL.out.bel)); (case s1 => exact HC1.out); rintro e w28 ⟨vt, rfl, ho, hb⟩; refine ⟨_, rfl, ?_⟩; replace HL := am (HL.out.addS hb ho); clear hb ho; obtain ⟨At, ct, ee_⟩ := Kd.S_slice (HL.out.gS 0); subst ee_) | ((with_reducible refine gate_callee (f := 9) rfl ?_); refine gl (some 79) Try.func9 #[.agg #[.slice Ar b1.length cr, .int .i64 b2, .int .i64 b3], .slice At m.length ct] ?_; (with_reducible refine (impl_UndoRun.callsL k _ _ b1 b2 b3 _ _ m g1 g2 g3 g4 g5 g6 _ ?s0 ?s1 ?s2 ?s3 Ag.out).mono ?_); (case s0 => exact (HL.out.rR 1)); (case s1 => exact (HL.out.cR 1)); (case s2 => exact (HL.out.rS 0)); (case s3 => exact (HL.out.cS 0)); rintro e w29 ⟨v0, v1, v2, rfl, ho⟩; refine ⟨_, rfl, ?_⟩; replace HL := am (HL.out.app ho); clear ho; obtain ⟨Ah0, ch0, ee_, -⟩ := Kd.T_slice (HL.out.gT 0); subst ee_; obtain ⟨Ah1, ch1, ee_, -⟩ := Kd.T_slice (HL.out.gT 1); subst ee_; obtain ⟨Ah2, ch2, ee_⟩ := Kd.R_slice (HL.out.gR 2); subst ee_) | ((with_reducible refine gate_dst (N := 13) rfl ?_); refine box_event ?hg (N := 13) ?hd (cs := #[.slice none 0 0, .slice none 0 0, .slice none 0 0, .int .i64 0, .int .i64 0, .int .i64 0]) (t := 33) ?hr ?_; (case hd => rfl); (case hg => rfl); (case hr => first | (go_simp; done) | (go_simp; rfl)); intro B13 hg w30 hbox hb; replace HL := am (HL.out.addBox hg hbox hb); clear hb hbox hg; obtain ⟨hB13_0, fB13_0, hB13_1, fB13_1, hB13_2, fB13_2, hB13_3, fB13_3, hB13_4, fB13_4, hB13_5, fB13_5⟩ := cells6 (HL.out.bx 0)) | ((with_reducible refine gate_store (t := 33) (p := 13) rfl ?_); refine store_event (t := 33) (p := 13) (v := .tmp 79) (w1 := putc w30 B13 0 [.slice Ah0 g1.length ch0, .slice Ah1 g2.length ch1, .slice Ah2 g3.length ch2, .int .i64 g4, .int .i64 g5, .int .i64 g6]) ?hg ?ho ?hn ?hr ?_; (case ho => rfl); (case hg => rfl); (case hn => rfl); (case hr => first | (go_simp; done) | (go_simp; rfl)); intro w31 hw; replace HL := am (HL.out.fil0 [.slice Ah0 g1.length ch0, .slice Ah1 g2.length ch1, .slice Ah2 g3.length ch2, .int .i64 g4, .int .i64 g5, .int .i64 g6] hw); clear hw; clear hB13_0 fB13_0 hB13_1 fB13_1 hB13_2 fB13_2 hB13_3 fB13_3 hB13_4 fB13_4 hB13_5 fB13_5; obtain ⟨hB13_0, fB13_0, hB13_1, fB13_1, hB13_2, fB13_2, hB13_3, fB13_3, hB13_4, fB13_4, hB13_5, fB13_5⟩ := cells6 (HL.out.bx 0); obtain ⟨hB6_0, fB6_0, hB6_1, fB6_1, hB6_2, fB6_2, hB6_3, fB6_3, hB6_4, fB6_4, hB6_5, fB6_5⟩ := cells6 (HL.out.bx 15)) | ((with_reducible refine gate_callee (f := 10) rfl ?_); refine gl (some 82) Try.func10 #[.agg #[.slice Ah0 g1.length ch0, .slice Ah1 g2.length ch1, .slice Ah2 g3.length ch2, .int .i64 g4, .int .i64 g5, .int .i64 g6], .agg #[.slice As0 s1.length cs0, .slice As1 s2.length cs1, .slice As2 s3.length cs2, .int .i64 s4, .int .i64 s5, .int .i64 s6]] ?_; (with_reducible refine (laws_eqUndoOut.calls k _ _ g1 _ _ g2 _ _ g3 g4 g5 g6 _ _ s1 _ _ s2 _ _ s3 s4 s5 s6 true _ ?s0 ?s1 ?s2 ?s3 ?s4 ?s5 ?s6 ?s7 ?s8 ?s9 ?s10 ?s11 Ae.out).mono ?_); (case s0 => exact (HL.out.rT 1)); (case s1 => exact (HL.out.cT 1)); (case s2 => exact (HL.out.rT 2)); (case s3 => exact (HL.out.cT 2)); (case s4 => exact (HL.out.rR 3)); (case s5 => exact (HL.out.cR 3)); (case s6 => exact (HL.out.rT 16)); (case s7 => exact (HL.out.cT 16)); (case s8 => exact (HL.out.rT 17)); (case s9 => exact (HL.out.cT 17)); (case s10 => exact (HL.out.rR 18)); (case s11 => exact (HL.out.cR 18)); rintro e w32 ⟨rfl, hb⟩; refine ⟨_, rfl, ?_⟩; replace HL := am (HL.out.step hb); clear hb; clear hB13_0 fB13_0 hB13_1 fB13_1 hB13_2 fB13_2 hB13_3 fB13_3 hB13_4 fB13_4 hB13_5 fB13_5 hB6_0 fB6_0 hB6_1 fB6_1 hB6_2 fB6_2 hB6_3 fB6_3 hB6_4 fB6_4 hB6_5 fB6_5; obtain ⟨hB9_0, fB9_0, hB9_1, fB9_1, hB9_2, fB9_2, hB9_3, fB9_3, hB9_4, fB9_4, hB9_5, fB9_5⟩ := cells6 (HL.out.bx 8)) | ((with_reducible refine gate_callee (f := 16) rfl ?_); refine gl (some 86) Try.func16 #[.agg #[.slice Ag0 g1.length cg0, .slice Ag1 g2.length cg1, .slice Ag2 g3.length cg2, .int .i64 g4, .int .i64 g5, .int .i64 g6], .int .i64 1] ?_; refine calls_of_args (args' := #[.agg #[.slice Ag0 z1.length cg0, .slice Ag1 z2.length cg1, .slice Ag2 z3.length cg2, .int .i64 g4, .int .i64 g5, .int .i64 g6], .int .i64 1]) (by simp only [n1.out, n2.out, n3.out]) ?_; (with_reducible refine (laws_heldUndoOut.calls k _ _ z1 _ _ z2 _ _ z3 g4 g5 g6 1 d _ ?s0 ?s1 ?s2 ?s3 ?s4 ?s5 Ad.out).mono ?_); (case s0 => exact (HL.out.rT 9)); (case s1 => exact (HL.out.cT 9)); (case s2 => exact (HL.out.rT 10)); (case s3 => exact (HL.out.cT 10)); (case s4 => exact (HL.out.rR 11)); (case s5 => exact (HL.out.cR 11)); rintro e w33 ⟨rfl, hb⟩; refine ⟨_, rfl, ?_⟩; replace HL := am (HL.out.step hb); clear hb; clear hB9_0 fB9_0 hB9_1 fB9_1 hB9_2 fB9_2 hB9_3 fB9_3 hB9_4 fB9_4 hB9_5 fB9_5) | (go_at_call 10; (with_reducible refine (laws_eqUndoOut.calls k _ _ g1 _ _ g2 _ _ g3 g4 g5 g6 _ _ s1 _ _ s2 _ _ s3 s4 s5 s6 true _ ?s0 ?s1 ?s2 ?s3 ?s4 ?s5 ?s6 ?s7 ?s8 ?s9 ?s10 ?s11 Ae.out).mono ?_); (case s0 => exact (HL.out.rT 3)); (case s1 => exact (HL.out.cT 3)); (case s2 => exact (HL.out.rT 4)); (case s3 => exact (HL.out.cT 4)); (case s4 => exact (HL.out.rR 5)); (case s5 => exact (HL.out.cR 5)); (case s6 => exact (HL.out.rT 10)); (case s7 => exact (HL.out.cT 10)); (case s8 => exact (HL.out.rT 11)); (case s9 => exact (HL.out.cT 11)); (case s10 => exact (HL.out.rR 12)); (case s11 => exact (HL.out.cR 12)); rintro e w24 ⟨rfl, hb⟩; replace HL := am (HL.out.step hb); clear hb; clear hB9_0 fB9_0 hB9_1 fB9_1 hB9_2 fB9_2 hB9_3 fB9_3 hB9_4 fB9_4 hB9_5 fB9_5 hB6_0 fB6_0 hB6_1 fB6_1 hB6_2 fB6_2 hB6_3 fB6_3 hB6_4 fB6_4 hB6_5 fB6_5; obtain ⟨hB9_0, fB9_0, hB9_1, fB9_1, hB9_2, fB9_2, hB9_3, fB9_3, hB9_4, fB9_4, hB9_5, fB9_5⟩ := cells6 (HL.out.bx 2)))
 go_ret
 exact ⟨by first | rfl | (simp [*]; done), HL.out.bel⟩

/-- THE ONE PURE STATEMENT of laws_FnExactUndoRun. -/
def laws_FnExactUndoRun.Pure : Prop := ∀ (l0_0 : List Int) (a0_1 : Int) (a0_2 : Int) (l1 : List (List Int)), ((l0_0.length ≤ maxLen ∧ ∀ y0_ ∈ l0_0, (Lit.int .i64 y0_).wf = true) ∧ (Lit.int .i64 a0_1).wf = true ∧ (Lit.int .i64 a0_2).wf = true) → (l1.length ≤ maxLen ∧ ∀ y1_ ∈ l1, (y1_.length ≤ maxLen ∧ ∀ y2_ ∈ y1_, (Lit.int .i64 y2_).wf = true)) → ∃ k, laws_FnExactUndoRun.f k l0_0 a0_1 a0_2 l1 = some true

end Go.Proofs.Ytabinbmcfeknjaa.PFnExactUndoRun
