-- Written by xprint.py (this claim's own program, over the kit's printer); Lean checks it.
import Derived.Test.YtkplopkhdejleaaPFnExactUndoNotex0
import Derived.Test.YtkplopkhdejleaaPFnExactUndoNotex6
namespace Go.Proofs.Ytkplopkhdejleaa.PFnExactUndoNote
open Go.RowKit Go.Proofs.YtkplopkhdejleaaW.PrintWords Go.Proofs.YtkplopkhdejleaaW.PrintLast Go.Proofs.YtkplopkhdejleaaW.PrintMore
attribute [local go_sem] max2_int min2_int max_two min_two max_three min_three max_four min_four   -- for this text's walks alone
set_option linter.unusedVariables false
set_option linter.unusedSimpArgs false   -- squeezed
set_option maxHeartbeats 8000000
set_option maxRecDepth 100000

/-! ### laws_heldBufS: function 56 -/
def laws_heldBufS.l0 : Nat → List (S31) → Int → Int → Option (Int)
 | 0, _, _, _ => none
 | k + 1, x0, x1, x5 => if x5 < (x0.length : Int) then (if 0 ≤ x5 then ((laws_heldInt64S.f k ((rd_T31 x0 x5).f0) x1).bind fun t309 => (if t309 < 0 then (some (-1)) else (if ((rd_T31 x0 x5).f1) = t309 then (if ((rd_T31 x0 x5).f2) = (wrap64 (t309 + 1)) then (laws_heldBufS.l0 k x0 (wrap64 ((wrap64 (t309 + 1)) + 1)) (wrap64 (x5 + 1))) else (some (-1))) else (some (-1))))) else (none)) else (some x1)
def laws_heldBufS.f (k : Nat) (l0 : List (S31)) (a1 : Int) : Option (Int) := laws_heldBufS.l0 k l0 a1 0
theorem laws_heldBufS.mono_l : ∀ k, (∀ y0 y1 y2, LeO (laws_heldBufS.l0 k y0 y1 y2) (laws_heldBufS.l0 (k + 1) y0 y1 y2))
 | 0 => fun _ _ _ r h => by simp [laws_heldBufS.l0] at h
 | k + 1 => by
  have ih0 := laws_heldBufS.mono_l k
  ·intro y0 y1 y2
   unfold laws_heldBufS.l0
   repeat' first
   | (with_reducible exact ih0 _ _ _)
   | (with_reducible exact laws_heldInt64S.mono _ _ _)
   | (with_reducible exact LeO.refl _)
   | (with_reducible exact LeO.none _)
   | (with_reducible refine LeO.ite ?_ ?_)
   | (with_reducible refine LeO.bind ?_ (fun _ => ?_))
   | exact ih0 _ _ _
   | exact laws_heldInt64S.mono _ _ _
   | refine LeO.bind ?_ (fun _ => ?_)
theorem laws_heldBufS.mono : ∀ a0 a1 k, LeO (laws_heldBufS.f k a0 a1) (laws_heldBufS.f (k + 1) a0 a1) := by
 intro a0 a1 k
 have ih0 := laws_heldBufS.mono_l k
 unfold laws_heldBufS.f
 repeat' first
   | (with_reducible exact ih0 _ _ _)
   | (with_reducible exact laws_heldInt64S.mono _ _ _)
   | (with_reducible exact LeO.refl _)
   | (with_reducible exact LeO.none _)
   | (with_reducible refine LeO.ite ?_ ?_)
   | (with_reducible refine LeO.bind ?_ (fun _ => ?_))
   | exact ih0 _ _ _
   | exact laws_heldInt64S.mono _ _ _
   | refine LeO.bind ?_ (fun _ => ?_)
theorem laws_heldBufS.calls (k : Nat) (A0 : Option Addr) (c0 : Nat) (l0 : List (S31)) (a1 : Int) (r : Int) (w : World) (hr0 : Kd.C k31 w A0 l0.length l0) (hc0 : l0.length ≤ c0) (h : laws_heldBufS.f k l0 a1 = some r) :
  Calls Try.prog 56 #[.slice A0 l0.length c0, .int .i64 a1] w fun e w' => e = .returned (.int .i64 r) ∧ Drawn0 w w' := by
 have HR0 := am hr0
 have HC0 := am hc0
 clear hr0 hc0
 have H : (laws_heldBufS.l0 k l0 a1 0) = some r := h
 clear h
 have H' := Aside0.mk H
 clear H
 go_enter Try.func56, Try.ntmps56
 go_wp2
 go_loopg [1, 5] k (fun kq v1 v5 w' => ∃ (x1_1 : Int) (x5_1 : Int), v1 = .int .i64 x1_1 ∧ v5 = .int .i64 x5_1 ∧ Aside0 (laws_heldBufS.l0 kq l0 x1_1 x5_1 = some r) ∧ Aside0 (kq ≤ k) ∧ Drawn0 w w')
 case atStart => exact ⟨(a1), (0), (by first | rfl | (simp; done) | (simp [*]; done)), (by first | rfl | (simp; done) | (simp [*]; done)), H', ⟨Nat.le_refl _⟩, by repeat (first | exact Drawn0.refl _ | apply Drawn0.step)⟩
 case round =>
  clear H'
  try clear p2
  obtain ⟨x1_1, x5_1, rfl, rfl, HA, HK1, ⟨m1, rfl⟩⟩ := hrel
  cases gk with
  | zero => exact absurd HA.out (by simp [laws_heldBufS.l0])
  | succ k1 =>
   have H := HA.out
   clear HA
   simp only [laws_heldBufS.l0] at H
   by_cases c3 : x5_1 < (l0.length : Int)
   ·rw [if_pos c3] at H
    have c3b0 : decide (x5_1 < (l0.length : Int)) = true := decide_eq_true c3
    clear c3
    by_cases c4 : 0 ≤ x5_1
    ·rw [if_pos c4] at H
     have c4b0 : decide (0 ≤ x5_1) = true := decide_eq_true c4
     clear c4
     replace H := Option.bind_eq_some_iff.mp H
     obtain ⟨t309, A50, H⟩ := H
     replace H : (if t309 < 0 then (some (-1)) else (if ((rd_T31 l0 x5_1).f1) = t309 then (if ((rd_T31 l0 x5_1).f2) = (wrap64 (t309 + 1)) then (laws_heldBufS.l0 k1 l0 (wrap64 ((wrap64 (t309 + 1)) + 1)) (wrap64 (x5_1 + 1))) else (some (-1))) else (some (-1)))) = some r := H
     have A5 := Aside0.mk A50
     clear A50
     by_cases c6 : t309 < 0
     ·rw [if_pos c6] at H
      have c6b0 : decide (t309 < 0) = true := decide_eq_true c6
      clear c6
      obtain rfl := Option.some.inj H
      have p308 : 0 ≤ (x5_1 : Int) := of_decide_eq_true (by first | (with_reducible assumption) | assumption)
      have q308 : x5_1 < (l0.length : Int) := of_decide_eq_true (by first | (with_reducible assumption) | assumption)
      obtain ⟨ad308, A308_0, c308_0, e308, hx308_0, hx308_1, hx308_2, hl308_0, hi308_0⟩ := at_T31 HR0.out x5_1 p308 q308
      cases e308
      have HR308_0 := am hi308_0
      have HC308_0 := am hl308_0
      clear hi308_0 hl308_0
      replace p308 := eq_true p308
      replace q308 := eq_true q308
      go_wp2_with (first | ((with_reducible refine gate_callee (f := 71) rfl ?_); refine gl (some 18) Try.func71 #[.slice A308_0 ((rd_T31 l0 x5_1).f0).length c308_0, .int .i64 x1_1] ?_; (with_reducible refine (laws_heldInt64S.calls k1 _ _ ((rd_T31 l0 x5_1).f0) x1_1 t309 _ ?side1 ?side2 A5.out).mono ?_); (case side1 => repeat (first | exact HR308_0.out | (with_reducible refine Kd.C_alloc ?_ _) | (with_reducible refine Kd.C_drewN ?_ _) | (with_reducible refine Kd.C_drew ?_))); (case side2 => exact HC308_0.out); rintro e w' ⟨rfl, ⟨nd, rfl⟩⟩; refine ⟨_, rfl, ?_⟩))
      go_ret
      exact ⟨by first | rfl | (simp; done) | (simp [*]; done), by repeat (first | exact Drawn0.refl _ | apply Drawn0.step)⟩
     ·rw [if_neg c6] at H
      have c6b0 : decide (t309 < 0) = false := decide_eq_false c6
      clear c6
      by_cases c7 : ((rd_T31 l0 x5_1).f1) = t309
      ·rw [if_pos c7] at H
       have c7b0 : (((rd_T31 l0 x5_1).f1) == t309) = true := beq_iff_eq.mpr c7
       have c7b1 : (((rd_T31 l0 x5_1).f1) != t309) = false := bne_eq_false_iff_eq.mpr c7
       clear c7
       by_cases c8 : ((rd_T31 l0 x5_1).f2) = (wrap64 (t309 + 1))
       ·rw [if_pos c8] at H
        have c8b0 : (((rd_T31 l0 x5_1).f2) == (wrap64 (t309 + 1))) = true := beq_iff_eq.mpr c8
        have c8b1 : (((rd_T31 l0 x5_1).f2) != (wrap64 (t309 + 1))) = false := bne_eq_false_iff_eq.mpr c8
        clear c8
        have H' := Aside0.mk H
        clear H
        have p308 : 0 ≤ (x5_1 : Int) := of_decide_eq_true (by first | (with_reducible assumption) | assumption)
        have q308 : x5_1 < (l0.length : Int) := of_decide_eq_true (by first | (with_reducible assumption) | assumption)
        obtain ⟨ad308, A308_0, c308_0, e308, hx308_0, hx308_1, hx308_2, hl308_0, hi308_0⟩ := at_T31 HR0.out x5_1 p308 q308
        cases e308
        have HR308_0 := am hi308_0
        have HC308_0 := am hl308_0
        clear hi308_0 hl308_0
        replace p308 := eq_true p308
        replace q308 := eq_true q308
        go_wp2_with (first | ((with_reducible refine gate_callee (f := 71) rfl ?_); refine gl (some 18) Try.func71 #[.slice A308_0 ((rd_T31 l0 x5_1).f0).length c308_0, .int .i64 x1_1] ?_; (with_reducible refine (laws_heldInt64S.calls k1 _ _ ((rd_T31 l0 x5_1).f0) x1_1 t309 _ ?side1 ?side2 A5.out).mono ?_); (case side1 => repeat (first | exact HR308_0.out | (with_reducible refine Kd.C_alloc ?_ _) | (with_reducible refine Kd.C_drewN ?_ _) | (with_reducible refine Kd.C_drew ?_))); (case side2 => exact HC308_0.out); rintro e w' ⟨rfl, ⟨nd, rfl⟩⟩; refine ⟨_, rfl, ?_⟩; have p310 : 0 ≤ (x5_1 : Int) := of_decide_eq_true (by first | (with_reducible assumption) | assumption); have q310 : x5_1 < (l0.length : Int) := of_decide_eq_true (by first | (with_reducible assumption) | assumption); obtain ⟨ad310, A310_0, c310_0, e310, hx310_0, hx310_1, hx310_2, hl310_0, hi310_0⟩ := at_T31 HR0.out x5_1 p310 q310; obtain rfl : ad308 = ad310 := (by injection e310); have HR310_0 := am hi310_0; have HC310_0 := am hl310_0; clear hi310_0 hl310_0; replace p310 := eq_true p310; replace q310 := eq_true q310; (first | have ea_ := Option.some.inj (hx308_0.symm.trans hx310_0) | have ea_ := Option.some.inj (hxw308_0.symm.trans hxw310_0)); injection ea_ with ea_ en_ ec_; subst ea_; subst ec_; clear en_; have p311 : 0 ≤ (x5_1 : Int) := of_decide_eq_true (by first | (with_reducible assumption) | assumption); have q311 : x5_1 < (l0.length : Int) := of_decide_eq_true (by first | (with_reducible assumption) | assumption); obtain ⟨ad311, A311_0, c311_0, e311, hx311_0, hx311_1, hx311_2, hl311_0, hi311_0⟩ := at_T31 HR0.out x5_1 p311 q311; obtain rfl : ad308 = ad311 := (by injection e311); have HR311_0 := am hi311_0; have HC311_0 := am hl311_0; clear hi311_0 hl311_0; replace p311 := eq_true p311; replace q311 := eq_true q311; (first | have ea_ := Option.some.inj (hx308_0.symm.trans hx311_0) | have ea_ := Option.some.inj (hxw308_0.symm.trans hxw311_0)); injection ea_ with ea_ en_ ec_; subst ea_; subst ec_; clear en_))
        go_roundg k1
        case measure => have := HK1.out; omega
        case rel => exact ⟨(wrap64 ((wrap64 (t309 + 1)) + 1)), (wrap64 (x5_1 + 1)), (by first | rfl | (simp; done) | (simp [*]; done)), (by first | rfl | (simp; done) | (simp [*]; done)), H', ⟨by have := HK1.out; omega⟩, by repeat (first | exact Drawn0.refl _ | apply Drawn0.step)⟩
       ·rw [if_neg c8] at H
        have c8b0 : (((rd_T31 l0 x5_1).f2) == (wrap64 (t309 + 1))) = false := beq_eq_false_iff_ne.mpr c8
        have c8b1 : (((rd_T31 l0 x5_1).f2) != (wrap64 (t309 + 1))) = true := bne_iff_ne.mpr c8
        obtain rfl := Option.some.inj H
        have p308 : 0 ≤ (x5_1 : Int) := of_decide_eq_true (by first | (with_reducible assumption) | assumption)
        have q308 : x5_1 < (l0.length : Int) := of_decide_eq_true (by first | (with_reducible assumption) | assumption)
        obtain ⟨ad308, A308_0, c308_0, e308, hx308_0, hx308_1, hx308_2, hl308_0, hi308_0⟩ := at_T31 HR0.out x5_1 p308 q308
        cases e308
        have HR308_0 := am hi308_0
        have HC308_0 := am hl308_0
        clear hi308_0 hl308_0
        replace p308 := eq_true p308
        replace q308 := eq_true q308
        go_wp2_with (first | ((with_reducible refine gate_callee (f := 71) rfl ?_); refine gl (some 18) Try.func71 #[.slice A308_0 ((rd_T31 l0 x5_1).f0).length c308_0, .int .i64 x1_1] ?_; (with_reducible refine (laws_heldInt64S.calls k1 _ _ ((rd_T31 l0 x5_1).f0) x1_1 t309 _ ?side1 ?side2 A5.out).mono ?_); (case side1 => repeat (first | exact HR308_0.out | (with_reducible refine Kd.C_alloc ?_ _) | (with_reducible refine Kd.C_drewN ?_ _) | (with_reducible refine Kd.C_drew ?_))); (case side2 => exact HC308_0.out); rintro e w' ⟨rfl, ⟨nd, rfl⟩⟩; refine ⟨_, rfl, ?_⟩; have p310 : 0 ≤ (x5_1 : Int) := of_decide_eq_true (by first | (with_reducible assumption) | assumption); have q310 : x5_1 < (l0.length : Int) := of_decide_eq_true (by first | (with_reducible assumption) | assumption); obtain ⟨ad310, A310_0, c310_0, e310, hx310_0, hx310_1, hx310_2, hl310_0, hi310_0⟩ := at_T31 HR0.out x5_1 p310 q310; obtain rfl : ad308 = ad310 := (by injection e310); have HR310_0 := am hi310_0; have HC310_0 := am hl310_0; clear hi310_0 hl310_0; replace p310 := eq_true p310; replace q310 := eq_true q310; (first | have ea_ := Option.some.inj (hx308_0.symm.trans hx310_0) | have ea_ := Option.some.inj (hxw308_0.symm.trans hxw310_0)); injection ea_ with ea_ en_ ec_; subst ea_; subst ec_; clear en_; have p311 : 0 ≤ (x5_1 : Int) := of_decide_eq_true (by first | (with_reducible assumption) | assumption); have q311 : x5_1 < (l0.length : Int) := of_decide_eq_true (by first | (with_reducible assumption) | assumption); obtain ⟨ad311, A311_0, c311_0, e311, hx311_0, hx311_1, hx311_2, hl311_0, hi311_0⟩ := at_T31 HR0.out x5_1 p311 q311; obtain rfl : ad308 = ad311 := (by injection e311); have HR311_0 := am hi311_0; have HC311_0 := am hl311_0; clear hi311_0 hl311_0; replace p311 := eq_true p311; replace q311 := eq_true q311; (first | have ea_ := Option.some.inj (hx308_0.symm.trans hx311_0) | have ea_ := Option.some.inj (hxw308_0.symm.trans hxw311_0)); injection ea_ with ea_ en_ ec_; subst ea_; subst ec_; clear en_))
        go_ret
        exact ⟨by first | rfl | (simp; done) | (simp [*]; done), by repeat (first | exact Drawn0.refl _ | apply Drawn0.step)⟩
      ·rw [if_neg c7] at H
       have c7b0 : (((rd_T31 l0 x5_1).f1) == t309) = false := beq_eq_false_iff_ne.mpr c7
       have c7b1 : (((rd_T31 l0 x5_1).f1) != t309) = true := bne_iff_ne.mpr c7
       obtain rfl := Option.some.inj H
       have p308 : 0 ≤ (x5_1 : Int) := of_decide_eq_true (by first | (with_reducible assumption) | assumption)
       have q308 : x5_1 < (l0.length : Int) := of_decide_eq_true (by first | (with_reducible assumption) | assumption)
       obtain ⟨ad308, A308_0, c308_0, e308, hx308_0, hx308_1, hx308_2, hl308_0, hi308_0⟩ := at_T31 HR0.out x5_1 p308 q308
       cases e308
       have HR308_0 := am hi308_0
       have HC308_0 := am hl308_0
       clear hi308_0 hl308_0
       replace p308 := eq_true p308
       replace q308 := eq_true q308
       go_wp2_with (first | ((with_reducible refine gate_callee (f := 71) rfl ?_); refine gl (some 18) Try.func71 #[.slice A308_0 ((rd_T31 l0 x5_1).f0).length c308_0, .int .i64 x1_1] ?_; (with_reducible refine (laws_heldInt64S.calls k1 _ _ ((rd_T31 l0 x5_1).f0) x1_1 t309 _ ?side1 ?side2 A5.out).mono ?_); (case side1 => repeat (first | exact HR308_0.out | (with_reducible refine Kd.C_alloc ?_ _) | (with_reducible refine Kd.C_drewN ?_ _) | (with_reducible refine Kd.C_drew ?_))); (case side2 => exact HC308_0.out); rintro e w' ⟨rfl, ⟨nd, rfl⟩⟩; refine ⟨_, rfl, ?_⟩; have p310 : 0 ≤ (x5_1 : Int) := of_decide_eq_true (by first | (with_reducible assumption) | assumption); have q310 : x5_1 < (l0.length : Int) := of_decide_eq_true (by first | (with_reducible assumption) | assumption); obtain ⟨ad310, A310_0, c310_0, e310, hx310_0, hx310_1, hx310_2, hl310_0, hi310_0⟩ := at_T31 HR0.out x5_1 p310 q310; obtain rfl : ad308 = ad310 := (by injection e310); have HR310_0 := am hi310_0; have HC310_0 := am hl310_0; clear hi310_0 hl310_0; replace p310 := eq_true p310; replace q310 := eq_true q310; (first | have ea_ := Option.some.inj (hx308_0.symm.trans hx310_0) | have ea_ := Option.some.inj (hxw308_0.symm.trans hxw310_0)); injection ea_ with ea_ en_ ec_; subst ea_; subst ec_; clear en_))
       go_ret
       exact ⟨by first | rfl | (simp; done) | (simp [*]; done), by repeat (first | exact Drawn0.refl _ | apply Drawn0.step)⟩
    ·rw [if_neg c4] at H
     exact absurd H (by simp)
   ·rw [if_neg c3] at H
    have c3b0 : decide (x5_1 < (l0.length : Int)) = false := decide_eq_false c3
    clear c3
    obtain rfl := Option.some.inj H
    go_wp2
    go_ret
    exact ⟨by first | rfl | (simp; done) | (simp [*]; done), by repeat (first | exact Drawn0.refl _ | apply Drawn0.step)⟩

/-! ### laws_heldUndo: function 25 -/
def laws_heldUndo.f (k : Nat) (l0_0 : List (S31)) (l0_1 : List (S31)) (a1 : Int) : Option (Int) := (laws_heldBufS.f k l0_0 a1).bind fun t313 => (if t313 < 0 then (some (-1)) else ((laws_heldBufS.f k l0_1 t313).bind fun t314 => (if t314 < 0 then (some (-1)) else (some t314))))
theorem laws_heldUndo.mono : ∀ a0 a1 a2 k, LeO (laws_heldUndo.f k a0 a1 a2) (laws_heldUndo.f (k + 1) a0 a1 a2) := by
 intro a0 a1 a2 k
 unfold laws_heldUndo.f
 repeat' first
   | (with_reducible exact laws_heldBufS.mono _ _ _)
   | (with_reducible exact LeO.refl _)
   | (with_reducible exact LeO.none _)
   | (with_reducible refine LeO.ite ?_ ?_)
   | (with_reducible refine LeO.bind ?_ (fun _ => ?_))
   | exact laws_heldBufS.mono _ _ _
   | refine LeO.bind ?_ (fun _ => ?_)
theorem laws_heldUndo.calls (k : Nat) (A0_0 : Option Addr) (c0_0 : Nat) (l0_0 : List (S31)) (A0_1 : Option Addr) (c0_1 : Nat) (l0_1 : List (S31)) (a1 : Int) (r : Int) (w : World) (hr0_0 : Kd.C k31 w A0_0 l0_0.length l0_0) (hc0_0 : l0_0.length ≤ c0_0) (hr0_1 : Kd.C k31 w A0_1 l0_1.length l0_1) (hc0_1 : l0_1.length ≤ c0_1) (h : laws_heldUndo.f k l0_0 l0_1 a1 = some r) :
  Calls Try.prog 25 #[.agg #[.slice A0_0 l0_0.length c0_0, .slice A0_1 l0_1.length c0_1], .int .i64 a1] w fun e w' => e = .returned (.int .i64 r) ∧ Below w.heap.size w w' := by
 have hu30 := Try.underlying30
 have HR0_0 := am hr0_0
 have HC0_0 := am hc0_0
 clear hr0_0 hc0_0
 have HR0_1 := am hr0_1
 have HC0_1 := am hc0_1
 clear hr0_1 hc0_1
 have HB := am (Below.refl w.heap.size w)
 have H : ((laws_heldBufS.f k l0_0 a1).bind fun t313 => (if t313 < 0 then (some (-1)) else ((laws_heldBufS.f k l0_1 t313).bind fun t314 => (if t314 < 0 then (some (-1)) else (some t314))))) = some r := h
 clear h
 replace H := Option.bind_eq_some_iff.mp H
 obtain ⟨t313, A30, H⟩ := H
 replace H : (if t313 < 0 then (some (-1)) else ((laws_heldBufS.f k l0_1 t313).bind fun t314 => (if t314 < 0 then (some (-1)) else (some t314)))) = some r := H
 have A3 := Aside0.mk A30
 clear A30
 by_cases c4 : t313 < 0
 ·rw [if_pos c4] at H
  have c4b0 : decide (t313 < 0) = true := decide_eq_true c4
  clear c4
  obtain rfl := Option.some.inj H
  go_enter Try.func25, Try.ntmps25
  go_wp2_with (first | ((with_reducible refine gate_dst (N := 2) rfl ?_); refine box_event ?hg (N := 2) ?hd (cs := #[.slice A0_0 l0_0.length c0_0, .slice A0_1 l0_1.length c0_1]) (t := 30) ?hr ?_; (case hd => rfl); (case hg => rfl); (case hr => first | (go_simp; done) | (go_simp; rfl)); intro gb312 hg w5 hbox hb; have BK312 := am (hbox); have GW312 := am ((by rw [hg]; exact (below_size (bl HB.out)) : w.heap.size ≤ gb312)); have GE312 := GW312; replace HB := am (below_step (bl HB.out) hb); clear hb hbox hg; have hcz6_0 : w5.cell? ⟨gb312, 0, none⟩ = some (.slice A0_0 l0_0.length c0_0) := bc BK312.out 0; have hcz6_1 : w5.cell? ⟨gb312, 1, none⟩ = some (.slice A0_1 l0_1.length c0_1) := bc BK312.out 1) | ((with_reducible refine gate_callee (f := 56) rfl ?_); refine gl (some 8) Try.func56 #[.slice A0_0 l0_0.length c0_0, .int .i64 a1] ?_; (with_reducible refine (laws_heldBufS.calls k _ _ l0_0 a1 t313 _ ?side1 ?side2 A3.out).mono ?_); (case side1 => repeat (first | exact (Kd.C_below HR0_0.out HB.out) | (with_reducible refine Kd.C_alloc ?_ _) | (with_reducible refine Kd.C_drewN ?_ _) | (with_reducible refine Kd.C_drew ?_))); (case side2 => exact HC0_0.out); rintro e w' ⟨rfl, ⟨nd, rfl⟩⟩; refine ⟨_, rfl, ?_⟩))
  go_ret
  exact ⟨by first | rfl | (simp [errW_none, errW_some] <;> rfl) | (simp [*, errW_none, errW_some] <;> rfl), by repeat (first | (with_reducible first | exact HB.out | apply below_alloc | apply pw_below_drewN | apply below_drew1 | refine below_set ?_ GE312.out) | exact HB.out)⟩
 ·rw [if_neg c4] at H
  have c4b0 : decide (t313 < 0) = false := decide_eq_false c4
  clear c4
  replace H := Option.bind_eq_some_iff.mp H
  obtain ⟨t314, A70, H⟩ := H
  replace H : (if t314 < 0 then (some (-1)) else (some t314)) = some r := H
  have A7 := Aside0.mk A70
  clear A70
  by_cases c8 : t314 < 0
  ·rw [if_pos c8] at H
   have c8b0 : decide (t314 < 0) = true := decide_eq_true c8
   clear c8
   obtain rfl := Option.some.inj H
   go_enter Try.func25, Try.ntmps25
   go_wp2_with (first | ((with_reducible refine gate_dst (N := 2) rfl ?_); refine box_event ?hg (N := 2) ?hd (cs := #[.slice A0_0 l0_0.length c0_0, .slice A0_1 l0_1.length c0_1]) (t := 30) ?hr ?_; (case hd => rfl); (case hg => rfl); (case hr => first | (go_simp; done) | (go_simp; rfl)); intro gb312 hg w9 hbox hb; have BK312 := am (hbox); have GW312 := am ((by rw [hg]; exact (below_size (bl HB.out)) : w.heap.size ≤ gb312)); have GE312 := GW312; replace HB := am (below_step (bl HB.out) hb); clear hb hbox hg; have hcz10_0 : w9.cell? ⟨gb312, 0, none⟩ = some (.slice A0_0 l0_0.length c0_0) := bc BK312.out 0; have hcz10_1 : w9.cell? ⟨gb312, 1, none⟩ = some (.slice A0_1 l0_1.length c0_1) := bc BK312.out 1) | ((with_reducible refine gate_callee (f := 56) rfl ?_); refine gl (some 8) Try.func56 #[.slice A0_0 l0_0.length c0_0, .int .i64 a1] ?_; (with_reducible refine (laws_heldBufS.calls k _ _ l0_0 a1 t313 _ ?side1 ?side2 A3.out).mono ?_); (case side1 => repeat (first | exact (Kd.C_below HR0_0.out HB.out) | (with_reducible refine Kd.C_alloc ?_ _) | (with_reducible refine Kd.C_drewN ?_ _) | (with_reducible refine Kd.C_drew ?_))); (case side2 => exact HC0_0.out); rintro e w' ⟨rfl, ⟨nd, rfl⟩⟩; refine ⟨_, rfl, ?_⟩) | ((with_reducible refine gate_callee (f := 56) rfl ?_); refine gl (some 14) Try.func56 #[.slice A0_1 l0_1.length c0_1, .int .i64 t313] ?_; (with_reducible refine (laws_heldBufS.calls k _ _ l0_1 t313 t314 _ ?side1 ?side2 A7.out).mono ?_); (case side1 => repeat (first | exact (Kd.C_below HR0_1.out (bl HB.out)) | (with_reducible refine Kd.C_alloc ?_ _) | (with_reducible refine Kd.C_drewN ?_ _) | (with_reducible refine Kd.C_drew ?_))); (case side2 => exact HC0_1.out); rintro e w' ⟨rfl, ⟨nd, rfl⟩⟩; refine ⟨_, rfl, ?_⟩))
   go_ret
   exact ⟨by first | rfl | (simp [errW_none, errW_some] <;> rfl) | (simp [*, errW_none, errW_some] <;> rfl), by repeat (first | (with_reducible first | exact HB.out | apply below_alloc | apply pw_below_drewN | apply below_drew1 | refine below_set ?_ GE312.out) | exact HB.out)⟩
  ·rw [if_neg c8] at H
   have c8b0 : decide (t314 < 0) = false := decide_eq_false c8
   clear c8
   obtain rfl := Option.some.inj H
   go_enter Try.func25, Try.ntmps25
   go_wp2_with (first | ((with_reducible refine gate_dst (N := 2) rfl ?_); refine box_event ?hg (N := 2) ?hd (cs := #[.slice A0_0 l0_0.length c0_0, .slice A0_1 l0_1.length c0_1]) (t := 30) ?hr ?_; (case hd => rfl); (case hg => rfl); (case hr => first | (go_simp; done) | (go_simp; rfl)); intro gb312 hg w11 hbox hb; have BK312 := am (hbox); have GW312 := am ((by rw [hg]; exact (below_size (bl HB.out)) : w.heap.size ≤ gb312)); have GE312 := GW312; replace HB := am (below_step (bl HB.out) hb); clear hb hbox hg; have hcz12_0 : w11.cell? ⟨gb312, 0, none⟩ = some (.slice A0_0 l0_0.length c0_0) := bc BK312.out 0; have hcz12_1 : w11.cell? ⟨gb312, 1, none⟩ = some (.slice A0_1 l0_1.length c0_1) := bc BK312.out 1) | ((with_reducible refine gate_callee (f := 56) rfl ?_); refine gl (some 8) Try.func56 #[.slice A0_0 l0_0.length c0_0, .int .i64 a1] ?_; (with_reducible refine (laws_heldBufS.calls k _ _ l0_0 a1 t313 _ ?side1 ?side2 A3.out).mono ?_); (case side1 => repeat (first | exact (Kd.C_below HR0_0.out HB.out) | (with_reducible refine Kd.C_alloc ?_ _) | (with_reducible refine Kd.C_drewN ?_ _) | (with_reducible refine Kd.C_drew ?_))); (case side2 => exact HC0_0.out); rintro e w' ⟨rfl, ⟨nd, rfl⟩⟩; refine ⟨_, rfl, ?_⟩) | ((with_reducible refine gate_callee (f := 56) rfl ?_); refine gl (some 14) Try.func56 #[.slice A0_1 l0_1.length c0_1, .int .i64 t313] ?_; (with_reducible refine (laws_heldBufS.calls k _ _ l0_1 t313 t314 _ ?side1 ?side2 A7.out).mono ?_); (case side1 => repeat (first | exact (Kd.C_below HR0_1.out (bl HB.out)) | (with_reducible refine Kd.C_alloc ?_ _) | (with_reducible refine Kd.C_drewN ?_ _) | (with_reducible refine Kd.C_drew ?_))); (case side2 => exact HC0_1.out); rintro e w' ⟨rfl, ⟨nd, rfl⟩⟩; refine ⟨_, rfl, ?_⟩))
   go_ret
   exact ⟨by first | rfl | (simp [errW_none, errW_some] <;> rfl) | (simp [*, errW_none, errW_some] <;> rfl), by repeat (first | (with_reducible first | exact HB.out | apply below_alloc | apply pw_below_drewN | apply below_drew1 | refine below_set ?_ GE312.out) | exact HB.out)⟩

end Go.Proofs.Ytkplopkhdejleaa.PFnExactUndoNote
