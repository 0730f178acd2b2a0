-- Written by xprint.py (this claim's own program, over the kit's printer); Lean checks it.
import Derived.Test.YtegadjijonlmcaaPFnExactMotionx0
import Derived.Test.YtegadjijonlmcaaPFnExactMotionx1
namespace Go.Proofs.Ytegadjijonlmcaa.PFnExactMotion
open Go.RowKit Go.Proofs.YtegadjijonlmcaaW.PrintWords Go.Proofs.YtegadjijonlmcaaW.PrintLast Go.Proofs.YtegadjijonlmcaaW.PrintMore
attribute [local go_sem] max2_int min2_int max_two min_two max_three min_three max_four min_four   -- for this text's walks alone
set_option linter.unusedVariables false
set_option linter.unusedSimpArgs false   -- squeezed

/-! ### spec_ClassOf: function 90 -/
def spec_ClassOf.j0 : Nat → Int → Bool → Option (Int)
 | 0, _, _ => none
 | k + 1, x0, x15 => if x15 = true then (some 1) else (if x0 ≥ 97 then (if x0 ≤ 122 then (some 2) else (if x0 ≥ 65 then (if x0 ≤ 90 then (some 2) else (if x0 ≥ 48 then (if x0 ≤ 57 then (some 2) else (if x0 = 95 then (some 2) else (if x0 ≥ 128 then (some 2) else (some 3)))) else (if x0 = 95 then (some 2) else (if x0 ≥ 128 then (some 2) else (some 3))))) else (if x0 ≥ 48 then (if x0 ≤ 57 then (some 2) else (if x0 = 95 then (some 2) else (if x0 ≥ 128 then (some 2) else (some 3)))) else (if x0 = 95 then (some 2) else (if x0 ≥ 128 then (some 2) else (some 3)))))) else (if x0 ≥ 65 then (if x0 ≤ 90 then (some 2) else (if x0 ≥ 48 then (if x0 ≤ 57 then (some 2) else (if x0 = 95 then (some 2) else (if x0 ≥ 128 then (some 2) else (some 3)))) else (if x0 = 95 then (some 2) else (if x0 ≥ 128 then (some 2) else (some 3))))) else (if x0 ≥ 48 then (if x0 ≤ 57 then (some 2) else (if x0 = 95 then (some 2) else (if x0 ≥ 128 then (some 2) else (some 3)))) else (if x0 = 95 then (some 2) else (if x0 ≥ 128 then (some 2) else (some 3))))))
def spec_ClassOf.f (k : Nat) (a0 : Int) : Option (Int) := (spec_l01Point.f a0).bind fun t143 => (if t143 = true then (if a0 = 32 then (spec_ClassOf.j0 k a0 true) else (if a0 = 9 then (spec_ClassOf.j0 k a0 true) else (spec_ClassOf.j0 k a0 (a0 == 10)))) else (some 0))
theorem spec_ClassOf.mono_l : ∀ k, (∀ y0 y1, LeO (spec_ClassOf.j0 k y0 y1) (spec_ClassOf.j0 (k + 1) y0 y1))
 | 0 => fun _ _ r h => by simp [spec_ClassOf.j0] at h
 | k + 1 => by
  have ih0 := spec_ClassOf.mono_l k
  ·intro y0 y1
   unfold spec_ClassOf.j0
   repeat' first
   | (with_reducible exact ih0 _ _)
   | (with_reducible exact LeO.refl _)
   | (with_reducible exact LeO.none _)
   | (with_reducible refine LeO.ite ?_ ?_)
   | (with_reducible refine LeO.bind ?_ (fun _ => ?_))
   | exact ih0 _ _
   | exact LeO.none _
   | refine LeO.ite ?_ ?_
   | refine LeO.bind ?_ (fun _ => ?_)
theorem spec_ClassOf.mono : ∀ a0 k, LeO (spec_ClassOf.f k a0) (spec_ClassOf.f (k + 1) a0) := by
 intro a0 k
 have ih0 := spec_ClassOf.mono_l k
 unfold spec_ClassOf.f
 repeat' first
   | (with_reducible exact ih0 _ _)
   | (with_reducible exact LeO.refl _)
   | (with_reducible exact LeO.none _)
   | (with_reducible refine LeO.ite ?_ ?_)
   | (with_reducible refine LeO.bind ?_ (fun _ => ?_))
   | exact ih0 _ _
   | exact LeO.none _
   | refine LeO.ite ?_ ?_
   | refine LeO.bind ?_ (fun _ => ?_)
set_option maxHeartbeats 8000000 in
set_option maxRecDepth 100000 in
theorem spec_ClassOf.calls (k : Nat) (a0 : Int) (r : Int) (w : World) (h : spec_ClassOf.f k a0 = some r) :
  Calls Try.prog 90 #[.int .i64 a0] w fun e w' => e = .returned (.int .i64 r) ∧ Drawn0 w w' := by
 have H : ((spec_l01Point.f a0).bind fun t143 => (if t143 = true then (if a0 = 32 then (spec_ClassOf.j0 k a0 true) else (if a0 = 9 then (spec_ClassOf.j0 k a0 true) else (spec_ClassOf.j0 k a0 (a0 == 10)))) else (some 0))) = some r := h
 clear h
 replace H := Option.bind_eq_some_iff.mp H
 obtain ⟨t143, A20, H⟩ := H
 replace H : (if t143 = true then (if a0 = 32 then (spec_ClassOf.j0 k a0 true) else (if a0 = 9 then (spec_ClassOf.j0 k a0 true) else (spec_ClassOf.j0 k a0 (a0 == 10)))) else (some 0)) = some r := H
 have A2 := Aside0.mk A20
 clear A20
 by_cases c3 : t143 = true
 ·subst c3
  have H1 : (if a0 = 32 then (spec_ClassOf.j0 k a0 true) else (if a0 = 9 then (spec_ClassOf.j0 k a0 true) else (spec_ClassOf.j0 k a0 (a0 == 10)))) = some r := by rw [if_pos rfl] at H; exact H
  clear H
  have H := H1
  clear H1
  have HC4 := Aside0.mk H
  clear H
  go_enter Try.func90, Try.ntmps90
  go_upto_region 3 with (first | ((with_reducible refine gate_callee (f := 98) rfl ?_); refine gl (some 4) Try.func98 #[.int .i64 a0] ?_; (with_reducible refine (spec_l01Point.calls a0 true _ A2.out).mono ?_); rintro e w' ⟨rfl, ⟨nd, rfl⟩⟩; refine ⟨_, rfl, ?_⟩))
  (try simp only [Act.put, List.setIfInBounds_toArray, List.set_cons_zero, List.set_cons_succ])
  go_cut [15] (fun v15 wc => ∃ (kq : Nat) (x15_3 : Bool), v15 = .bool x15_3 ∧ Aside0 (spec_ClassOf.j0 kq a0 x15_3 = some r) ∧ Aside0 (kq ≤ k) ∧ Drawn0 w wc)
  case first =>
   have H := HC4.out
   clear HC4
   by_cases c5 : a0 = 32
   ·rw [if_pos c5] at H
    have c5b0 : (a0 == 32) = true := beq_iff_eq.mpr c5
    have c5b1 : (a0 != 32) = false := bne_eq_false_iff_eq.mpr c5
    clear c5
    (first | rw [c5b0] | (simp only [i64_w, i32_w]; rw [c5b0]) | (have e9_ := c5b0; unfold bne at e9_; rw [e9_]) | skip)
    have H' := Aside0.mk H
    clear H
    go_wp2
    go_meet
    case rel => exact ⟨_, (true), (by first | rfl | (simp; done) | (simp [*]; done)), H', ⟨by first | omega | exact Nat.le_refl _⟩, by repeat (first | exact Drawn0.refl _ | apply Drawn0.step)⟩
   ·rw [if_neg c5] at H
    have c5b0 : (a0 == 32) = false := beq_eq_false_iff_ne.mpr c5
    have c5b1 : (a0 != 32) = true := bne_iff_ne.mpr c5
    (first | rw [c5b0] | (simp only [i64_w, i32_w]; rw [c5b0]) | (have e9_ := c5b0; unfold bne at e9_; rw [e9_]) | skip)
    by_cases c6 : a0 = 9
    ·rw [if_pos c6] at H
     have c6b0 : (a0 == 9) = true := beq_iff_eq.mpr c6
     have c6b1 : (a0 != 9) = false := bne_eq_false_iff_eq.mpr c6
     clear c6
     have H' := Aside0.mk H
     clear H
     go_wp2
     go_meet
     case rel => exact ⟨_, (true), (by first | rfl | (simp; done) | (simp [*]; done)), H', ⟨by first | omega | exact Nat.le_refl _⟩, by repeat (first | exact Drawn0.refl _ | apply Drawn0.step)⟩
    ·rw [if_neg c6] at H
     have c6b0 : (a0 == 9) = false := beq_eq_false_iff_ne.mpr c6
     have c6b1 : (a0 != 9) = true := bne_iff_ne.mpr c6
     have H' := Aside0.mk H
     clear H
     go_wp2
     go_meet
     case rel => exact ⟨_, ((a0 == 10)), (by first | rfl | (simp; done) | (simp [*]; done)), H', ⟨by first | omega | exact Nat.le_refl _⟩, by repeat (first | exact Drawn0.refl _ | apply Drawn0.step)⟩
  case rest =>
   clear HC4
   try clear p2
   try clear c3
   try clear c5
   try clear c5b0
   try clear c5b1
   try clear c6
   try clear c6b0
   try clear c6b1
   obtain ⟨kq, x15_3, rfl, HA, HJ3, ⟨mc3, rfl⟩⟩ := hcut
   cases kq with
   | zero => exact absurd HA.out (by simp [spec_ClassOf.j0])
   | succ kj3 =>
    have H := HA.out
    clear HA
    simp only [spec_ClassOf.j0] at H
    by_cases c7 : x15_3 = true
    ·subst c7
     have H1 : (some 1) = some r := by rw [if_pos rfl] at H; exact H
     clear H
     have H := H1
     clear H1
     obtain rfl := Option.some.inj H
     go_wp2
     go_ret
     exact ⟨by first | rfl | (simp; done) | (simp [*]; done), by repeat (first | exact Drawn0.refl _ | apply Drawn0.step)⟩
    ·replace c7 := Bool.eq_false_iff.mpr c7
     subst c7
     have H1 : (if a0 ≥ 97 then (if a0 ≤ 122 then (some 2) else (if a0 ≥ 65 then (if a0 ≤ 90 then (some 2) else (if a0 ≥ 48 then (if a0 ≤ 57 then (some 2) else (if a0 = 95 then (some 2) else (if a0 ≥ 128 then (some 2) else (some 3)))) else (if a0 = 95 then (some 2) else (if a0 ≥ 128 then (some 2) else (some 3))))) else (if a0 ≥ 48 then (if a0 ≤ 57 then (some 2) else (if a0 = 95 then (some 2) else (if a0 ≥ 128 then (some 2) else (some 3)))) else (if a0 = 95 then (some 2) else (if a0 ≥ 128 then (some 2) else (some 3)))))) else (if a0 ≥ 65 then (if a0 ≤ 90 then (some 2) else (if a0 ≥ 48 then (if a0 ≤ 57 then (some 2) else (if a0 = 95 then (some 2) else (if a0 ≥ 128 then (some 2) else (some 3)))) else (if a0 = 95 then (some 2) else (if a0 ≥ 128 then (some 2) else (some 3))))) else (if a0 ≥ 48 then (if a0 ≤ 57 then (some 2) else (if a0 = 95 then (some 2) else (if a0 ≥ 128 then (some 2) else (some 3)))) else (if a0 = 95 then (some 2) else (if a0 ≥ 128 then (some 2) else (some 3)))))) = some r := by rw [if_neg (show ¬ (false = true) by decide)] at H; exact H
     clear H
     have H := H1
     clear H1
     by_cases c8 : a0 ≥ 97
     ·rw [if_pos c8] at H
      have c8b0 : decide (97 ≤ a0) = true := decide_eq_true c8
      clear c8
      by_cases c9 : a0 ≤ 122
      ·rw [if_pos c9] at H
       have c9b0 : decide (a0 ≤ 122) = true := decide_eq_true c9
       clear c9
       obtain rfl := Option.some.inj H
       go_wp2
       go_ret
       exact ⟨by first | rfl | (simp; done) | (simp [*]; done), by repeat (first | exact Drawn0.refl _ | apply Drawn0.step)⟩
      ·rw [if_neg c9] at H
       have c9b0 : decide (a0 ≤ 122) = false := decide_eq_false c9
       clear c9
       by_cases c10 : a0 ≥ 65
       ·rw [if_pos c10] at H
        have c10b0 : decide (65 ≤ a0) = true := decide_eq_true c10
        clear c10
        by_cases c11 : a0 ≤ 90
        ·rw [if_pos c11] at H
         have c11b0 : decide (a0 ≤ 90) = true := decide_eq_true c11
         clear c11
         obtain rfl := Option.some.inj H
         go_wp2
         go_ret
         exact ⟨by first | rfl | (simp; done) | (simp [*]; done), by repeat (first | exact Drawn0.refl _ | apply Drawn0.step)⟩
        ·rw [if_neg c11] at H
         have c11b0 : decide (a0 ≤ 90) = false := decide_eq_false c11
         clear c11
         by_cases c12 : a0 ≥ 48
         ·rw [if_pos c12] at H
          have c12b0 : decide (48 ≤ a0) = true := decide_eq_true c12
          clear c12
          by_cases c13 : a0 ≤ 57
          ·rw [if_pos c13] at H
           have c13b0 : decide (a0 ≤ 57) = true := decide_eq_true c13
           clear c13
           obtain rfl := Option.some.inj H
           go_wp2
           go_ret
           exact ⟨by first | rfl | (simp; done) | (simp [*]; done), by repeat (first | exact Drawn0.refl _ | apply Drawn0.step)⟩
          ·rw [if_neg c13] at H
           have c13b0 : decide (a0 ≤ 57) = false := decide_eq_false c13
           clear c13
           by_cases c14 : a0 = 95
           ·rw [if_pos c14] at H
            have c14b0 : (a0 == 95) = true := beq_iff_eq.mpr c14
            have c14b1 : (a0 != 95) = false := bne_eq_false_iff_eq.mpr c14
            clear c14
            obtain rfl := Option.some.inj H
            go_wp2
            go_ret
            exact ⟨by first | rfl | (simp; done) | (simp [*]; done), by repeat (first | exact Drawn0.refl _ | apply Drawn0.step)⟩
           ·rw [if_neg c14] at H
            have c14b0 : (a0 == 95) = false := beq_eq_false_iff_ne.mpr c14
            have c14b1 : (a0 != 95) = true := bne_iff_ne.mpr c14
            by_cases c15 : a0 ≥ 128
            ·rw [if_pos c15] at H
             have c15b0 : decide (128 ≤ a0) = true := decide_eq_true c15
             clear c15
             obtain rfl := Option.some.inj H
             go_wp2
             go_ret
             exact ⟨by first | rfl | (simp; done) | (simp [*]; done), by repeat (first | exact Drawn0.refl _ | apply Drawn0.step)⟩
            ·rw [if_neg c15] at H
             have c15b0 : decide (128 ≤ a0) = false := decide_eq_false c15
             clear c15
             obtain rfl := Option.some.inj H
             go_wp2
             go_ret
             exact ⟨by first | rfl | (simp; done) | (simp [*]; done), by repeat (first | exact Drawn0.refl _ | apply Drawn0.step)⟩
         ·rw [if_neg c12] at H
          have c12b0 : decide (48 ≤ a0) = false := decide_eq_false c12
          clear c12
          by_cases c16 : a0 = 95
          ·rw [if_pos c16] at H
           have c16b0 : (a0 == 95) = true := beq_iff_eq.mpr c16
           have c16b1 : (a0 != 95) = false := bne_eq_false_iff_eq.mpr c16
           clear c16
           obtain rfl := Option.some.inj H
           go_wp2
           go_ret
           exact ⟨by first | rfl | (simp; done) | (simp [*]; done), by repeat (first | exact Drawn0.refl _ | apply Drawn0.step)⟩
          ·rw [if_neg c16] at H
           have c16b0 : (a0 == 95) = false := beq_eq_false_iff_ne.mpr c16
           have c16b1 : (a0 != 95) = true := bne_iff_ne.mpr c16
           by_cases c17 : a0 ≥ 128
           ·rw [if_pos c17] at H
            have c17b0 : decide (128 ≤ a0) = true := decide_eq_true c17
            clear c17
            obtain rfl := Option.some.inj H
            go_wp2
            go_ret
            exact ⟨by first | rfl | (simp; done) | (simp [*]; done), by repeat (first | exact Drawn0.refl _ | apply Drawn0.step)⟩
           ·rw [if_neg c17] at H
            have c17b0 : decide (128 ≤ a0) = false := decide_eq_false c17
            clear c17
            obtain rfl := Option.some.inj H
            go_wp2
            go_ret
            exact ⟨by first | rfl | (simp; done) | (simp [*]; done), by repeat (first | exact Drawn0.refl _ | apply Drawn0.step)⟩
       ·rw [if_neg c10] at H
        have c10b0 : decide (65 ≤ a0) = false := decide_eq_false c10
        clear c10
        by_cases c18 : a0 ≥ 48
        ·rw [if_pos c18] at H
         have c18b0 : decide (48 ≤ a0) = true := decide_eq_true c18
         clear c18
         by_cases c19 : a0 ≤ 57
         ·rw [if_pos c19] at H
          have c19b0 : decide (a0 ≤ 57) = true := decide_eq_true c19
          clear c19
          obtain rfl := Option.some.inj H
          go_wp2
          go_ret
          exact ⟨by first | rfl | (simp; done) | (simp [*]; done), by repeat (first | exact Drawn0.refl _ | apply Drawn0.step)⟩
         ·rw [if_neg c19] at H
          have c19b0 : decide (a0 ≤ 57) = false := decide_eq_false c19
          clear c19
          by_cases c20 : a0 = 95
          ·rw [if_pos c20] at H
           have c20b0 : (a0 == 95) = true := beq_iff_eq.mpr c20
           have c20b1 : (a0 != 95) = false := bne_eq_false_iff_eq.mpr c20
           clear c20
           obtain rfl := Option.some.inj H
           go_wp2
           go_ret
           exact ⟨by first | rfl | (simp; done) | (simp [*]; done), by repeat (first | exact Drawn0.refl _ | apply Drawn0.step)⟩
          ·rw [if_neg c20] at H
           have c20b0 : (a0 == 95) = false := beq_eq_false_iff_ne.mpr c20
           have c20b1 : (a0 != 95) = true := bne_iff_ne.mpr c20
           by_cases c21 : a0 ≥ 128
           ·rw [if_pos c21] at H
            have c21b0 : decide (128 ≤ a0) = true := decide_eq_true c21
            clear c21
            obtain rfl := Option.some.inj H
            go_wp2
            go_ret
            exact ⟨by first | rfl | (simp; done) | (simp [*]; done), by repeat (first | exact Drawn0.refl _ | apply Drawn0.step)⟩
           ·rw [if_neg c21] at H
            have c21b0 : decide (128 ≤ a0) = false := decide_eq_false c21
            clear c21
            obtain rfl := Option.some.inj H
            go_wp2
            go_ret
            exact ⟨by first | rfl | (simp; done) | (simp [*]; done), by repeat (first | exact Drawn0.refl _ | apply Drawn0.step)⟩
        ·rw [if_neg c18] at H
         have c18b0 : decide (48 ≤ a0) = false := decide_eq_false c18
         clear c18
         by_cases c22 : a0 = 95
         ·rw [if_pos c22] at H
          have c22b0 : (a0 == 95) = true := beq_iff_eq.mpr c22
          have c22b1 : (a0 != 95) = false := bne_eq_false_iff_eq.mpr c22
          clear c22
          obtain rfl := Option.some.inj H
          go_wp2
          go_ret
          exact ⟨by first | rfl | (simp; done) | (simp [*]; done), by repeat (first | exact Drawn0.refl _ | apply Drawn0.step)⟩
         ·rw [if_neg c22] at H
          have c22b0 : (a0 == 95) = false := beq_eq_false_iff_ne.mpr c22
          have c22b1 : (a0 != 95) = true := bne_iff_ne.mpr c22
          by_cases c23 : a0 ≥ 128
          ·rw [if_pos c23] at H
           have c23b0 : decide (128 ≤ a0) = true := decide_eq_true c23
           clear c23
           obtain rfl := Option.some.inj H
           go_wp2
           go_ret
           exact ⟨by first | rfl | (simp; done) | (simp [*]; done), by repeat (first | exact Drawn0.refl _ | apply Drawn0.step)⟩
          ·rw [if_neg c23] at H
           have c23b0 : decide (128 ≤ a0) = false := decide_eq_false c23
           clear c23
           obtain rfl := Option.some.inj H
           go_wp2
           go_ret
           exact ⟨by first | rfl | (simp; done) | (simp [*]; done), by repeat (first | exact Drawn0.refl _ | apply Drawn0.step)⟩
     ·rw [if_neg c8] at H
      have c8b0 : decide (97 ≤ a0) = false := decide_eq_false c8
      clear c8
      by_cases c24 : a0 ≥ 65
      ·rw [if_pos c24] at H
       have c24b0 : decide (65 ≤ a0) = true := decide_eq_true c24
       clear c24
       by_cases c25 : a0 ≤ 90
       ·rw [if_pos c25] at H
        have c25b0 : decide (a0 ≤ 90) = true := decide_eq_true c25
        clear c25
        obtain rfl := Option.some.inj H
        go_wp2
        go_ret
        exact ⟨by first | rfl | (simp; done) | (simp [*]; done), by repeat (first | exact Drawn0.refl _ | apply Drawn0.step)⟩
       ·rw [if_neg c25] at H
        have c25b0 : decide (a0 ≤ 90) = false := decide_eq_false c25
        clear c25
        by_cases c26 : a0 ≥ 48
        ·rw [if_pos c26] at H
         have c26b0 : decide (48 ≤ a0) = true := decide_eq_true c26
         clear c26
         by_cases c27 : a0 ≤ 57
         ·rw [if_pos c27] at H
          have c27b0 : decide (a0 ≤ 57) = true := decide_eq_true c27
          clear c27
          obtain rfl := Option.some.inj H
          go_wp2
          go_ret
          exact ⟨by first | rfl | (simp; done) | (simp [*]; done), by repeat (first | exact Drawn0.refl _ | apply Drawn0.step)⟩
         ·rw [if_neg c27] at H
          have c27b0 : decide (a0 ≤ 57) = false := decide_eq_false c27
          clear c27
          by_cases c28 : a0 = 95
          ·rw [if_pos c28] at H
           have c28b0 : (a0 == 95) = true := beq_iff_eq.mpr c28
           have c28b1 : (a0 != 95) = false := bne_eq_false_iff_eq.mpr c28
           clear c28
           obtain rfl := Option.some.inj H
           go_wp2
           go_ret
           exact ⟨by first | rfl | (simp; done) | (simp [*]; done), by repeat (first | exact Drawn0.refl _ | apply Drawn0.step)⟩
          ·rw [if_neg c28] at H
           have c28b0 : (a0 == 95) = false := beq_eq_false_iff_ne.mpr c28
           have c28b1 : (a0 != 95) = true := bne_iff_ne.mpr c28
           by_cases c29 : a0 ≥ 128
           ·rw [if_pos c29] at H
            have c29b0 : decide (128 ≤ a0) = true := decide_eq_true c29
            clear c29
            obtain rfl := Option.some.inj H
            go_wp2
            go_ret
            exact ⟨by first | rfl | (simp; done) | (simp [*]; done), by repeat (first | exact Drawn0.refl _ | apply Drawn0.step)⟩
           ·rw [if_neg c29] at H
            have c29b0 : decide (128 ≤ a0) = false := decide_eq_false c29
            clear c29
            obtain rfl := Option.some.inj H
            go_wp2
            go_ret
            exact ⟨by first | rfl | (simp; done) | (simp [*]; done), by repeat (first | exact Drawn0.refl _ | apply Drawn0.step)⟩
        ·rw [if_neg c26] at H
         have c26b0 : decide (48 ≤ a0) = false := decide_eq_false c26
         clear c26
         by_cases c30 : a0 = 95
         ·rw [if_pos c30] at H
          have c30b0 : (a0 == 95) = true := beq_iff_eq.mpr c30
          have c30b1 : (a0 != 95) = false := bne_eq_false_iff_eq.mpr c30
          clear c30
          obtain rfl := Option.some.inj H
          go_wp2
          go_ret
          exact ⟨by first | rfl | (simp; done) | (simp [*]; done), by repeat (first | exact Drawn0.refl _ | apply Drawn0.step)⟩
         ·rw [if_neg c30] at H
          have c30b0 : (a0 == 95) = false := beq_eq_false_iff_ne.mpr c30
          have c30b1 : (a0 != 95) = true := bne_iff_ne.mpr c30
          by_cases c31 : a0 ≥ 128
          ·rw [if_pos c31] at H
           have c31b0 : decide (128 ≤ a0) = true := decide_eq_true c31
           clear c31
           obtain rfl := Option.some.inj H
           go_wp2
           go_ret
           exact ⟨by first | rfl | (simp; done) | (simp [*]; done), by repeat (first | exact Drawn0.refl _ | apply Drawn0.step)⟩
          ·rw [if_neg c31] at H
           have c31b0 : decide (128 ≤ a0) = false := decide_eq_false c31
           clear c31
           obtain rfl := Option.some.inj H
           go_wp2
           go_ret
           exact ⟨by first | rfl | (simp; done) | (simp [*]; done), by repeat (first | exact Drawn0.refl _ | apply Drawn0.step)⟩
      ·rw [if_neg c24] at H
       have c24b0 : decide (65 ≤ a0) = false := decide_eq_false c24
       clear c24
       by_cases c32 : a0 ≥ 48
       ·rw [if_pos c32] at H
        have c32b0 : decide (48 ≤ a0) = true := decide_eq_true c32
        clear c32
        by_cases c33 : a0 ≤ 57
        ·rw [if_pos c33] at H
         have c33b0 : decide (a0 ≤ 57) = true := decide_eq_true c33
         clear c33
         obtain rfl := Option.some.inj H
         go_wp2
         go_ret
         exact ⟨by first | rfl | (simp; done) | (simp [*]; done), by repeat (first | exact Drawn0.refl _ | apply Drawn0.step)⟩
        ·rw [if_neg c33] at H
         have c33b0 : decide (a0 ≤ 57) = false := decide_eq_false c33
         clear c33
         by_cases c34 : a0 = 95
         ·rw [if_pos c34] at H
          have c34b0 : (a0 == 95) = true := beq_iff_eq.mpr c34
          have c34b1 : (a0 != 95) = false := bne_eq_false_iff_eq.mpr c34
          clear c34
          obtain rfl := Option.some.inj H
          go_wp2
          go_ret
          exact ⟨by first | rfl | (simp; done) | (simp [*]; done), by repeat (first | exact Drawn0.refl _ | apply Drawn0.step)⟩
         ·rw [if_neg c34] at H
          have c34b0 : (a0 == 95) = false := beq_eq_false_iff_ne.mpr c34
          have c34b1 : (a0 != 95) = true := bne_iff_ne.mpr c34
          by_cases c35 : a0 ≥ 128
          ·rw [if_pos c35] at H
           have c35b0 : decide (128 ≤ a0) = true := decide_eq_true c35
           clear c35
           obtain rfl := Option.some.inj H
           go_wp2
           go_ret
           exact ⟨by first | rfl | (simp; done) | (simp [*]; done), by repeat (first | exact Drawn0.refl _ | apply Drawn0.step)⟩
          ·rw [if_neg c35] at H
           have c35b0 : decide (128 ≤ a0) = false := decide_eq_false c35
           clear c35
           obtain rfl := Option.some.inj H
           go_wp2
           go_ret
           exact ⟨by first | rfl | (simp; done) | (simp [*]; done), by repeat (first | exact Drawn0.refl _ | apply Drawn0.step)⟩
       ·rw [if_neg c32] at H
        have c32b0 : decide (48 ≤ a0) = false := decide_eq_false c32
        clear c32
        by_cases c36 : a0 = 95
        ·rw [if_pos c36] at H
         have c36b0 : (a0 == 95) = true := beq_iff_eq.mpr c36
         have c36b1 : (a0 != 95) = false := bne_eq_false_iff_eq.mpr c36
         clear c36
         obtain rfl := Option.some.inj H
         go_wp2
         go_ret
         exact ⟨by first | rfl | (simp; done) | (simp [*]; done), by repeat (first | exact Drawn0.refl _ | apply Drawn0.step)⟩
        ·rw [if_neg c36] at H
         have c36b0 : (a0 == 95) = false := beq_eq_false_iff_ne.mpr c36
         have c36b1 : (a0 != 95) = true := bne_iff_ne.mpr c36
         by_cases c37 : a0 ≥ 128
         ·rw [if_pos c37] at H
          have c37b0 : decide (128 ≤ a0) = true := decide_eq_true c37
          clear c37
          obtain rfl := Option.some.inj H
          go_wp2
          go_ret
          exact ⟨by first | rfl | (simp; done) | (simp [*]; done), by repeat (first | exact Drawn0.refl _ | apply Drawn0.step)⟩
         ·rw [if_neg c37] at H
          have c37b0 : decide (128 ≤ a0) = false := decide_eq_false c37
          clear c37
          obtain rfl := Option.some.inj H
          go_wp2
          go_ret
          exact ⟨by first | rfl | (simp; done) | (simp [*]; done), by repeat (first | exact Drawn0.refl _ | apply Drawn0.step)⟩
 ·replace c3 := Bool.eq_false_iff.mpr c3
  subst c3
  have H1 : (some 0) = some r := by rw [if_neg (show ¬ (false = true) by decide)] at H; exact H
  clear H
  have H := H1
  clear H1
  obtain rfl := Option.some.inj H
  go_enter Try.func90, Try.ntmps90
  go_wp2_with (first | ((with_reducible refine gate_callee (f := 98) rfl ?_); refine gl (some 4) Try.func98 #[.int .i64 a0] ?_; (with_reducible refine (spec_l01Point.calls a0 false _ A2.out).mono ?_); rintro e w' ⟨rfl, ⟨nd, rfl⟩⟩; refine ⟨_, rfl, ?_⟩))
  go_ret
  exact ⟨by first | rfl | (simp; done) | (simp [*]; done), by repeat (first | exact Drawn0.refl _ | apply Drawn0.step)⟩

end Go.Proofs.Ytegadjijonlmcaa.PFnExactMotion
