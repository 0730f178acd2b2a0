-- Written by xprint.py (this claim's own program, over the kit's printer); Lean checks it.
import Derived.Test.YtcjclihkaaaihaaPFnExactNodesVarsx0
import Derived.Test.YtcjclihkaaaihaaPFnExactNodesVarsx5
namespace Go.Proofs.Ytcjclihkaaaihaa.PFnExactNodesVars
open Go.RowKit Go.Proofs.YtcjclihkaaaihaaW.PrintWords Go.Proofs.YtcjclihkaaaihaaW.PrintLast Go.Proofs.YtcjclihkaaaihaaW.PrintMore
attribute [local go_sem] max2_int min2_int max_two min_two max_three min_three max_four min_four   -- for this text's walks alone
set_option linter.unusedVariables false
set_option linter.unusedSimpArgs false   -- squeezed
set_option maxHeartbeats 8000000
set_option maxRecDepth 100000

/-! ### slices_Index_sstring_string: function 103 -/
def slices_Index_sstring_string.l0 : Nat → List ByteArray → ByteArray → Int → Int → Option (Int)
 | 0, _, _, _, _ => none
 | k + 1, x0, x1, x7, x8 => if x8 < x7 then (if 0 ≤ x8 then (if x8 < (x0.length : Int) then (if x1.toList = (rdOf ByteArray.empty x0 x8).toList then (some x8) else (slices_Index_sstring_string.l0 k x0 x1 x7 (wrap64 (x8 + 1)))) else (none)) else (none)) else (some (-1))
def slices_Index_sstring_string.f (k : Nat) (l0 : List ByteArray) (a1 : ByteArray) : Option (Int) := slices_Index_sstring_string.l0 k l0 a1 (l0.length : Int) 0
theorem slices_Index_sstring_string.mono_l : ∀ k, (∀ y0 y1 y2 y3, LeO (slices_Index_sstring_string.l0 k y0 y1 y2 y3) (slices_Index_sstring_string.l0 (k + 1) y0 y1 y2 y3))
 | 0 => fun _ _ _ _ r h => by simp [slices_Index_sstring_string.l0] at h
 | k + 1 => by
  have ih0 := slices_Index_sstring_string.mono_l k
  ·intro y0 y1 y2 y3
   unfold slices_Index_sstring_string.l0
   repeat' first
   | (with_reducible exact ih0 _ _ _ _)
   | (with_reducible exact LeO.refl _)
   | (with_reducible exact LeO.none _)
   | (with_reducible refine LeO.ite ?_ ?_)
   | (with_reducible refine LeO.bind ?_ (fun _ => ?_))
   | exact ih0 _ _ _ _
   | refine LeO.bind ?_ (fun _ => ?_)
theorem slices_Index_sstring_string.mono : ∀ a0 a1 k, LeO (slices_Index_sstring_string.f k a0 a1) (slices_Index_sstring_string.f (k + 1) a0 a1) := by
 intro a0 a1 k
 have ih0 := slices_Index_sstring_string.mono_l k
 unfold slices_Index_sstring_string.f
 repeat' first
   | (with_reducible exact ih0 _ _ _ _)
   | (with_reducible exact LeO.refl _)
   | (with_reducible exact LeO.none _)
   | (with_reducible refine LeO.ite ?_ ?_)
   | (with_reducible refine LeO.bind ?_ (fun _ => ?_))
   | exact ih0 _ _ _ _
   | refine LeO.bind ?_ (fun _ => ?_)
theorem slices_Index_sstring_string.calls (k : Nat) (A0 : Option Addr) (c0 : Nat) (l0 : List ByteArray) (a1 : ByteArray) (r : Int) (w : World) (hr0 : Kd.C Kd.string w A0 l0.length l0) (hc0 : l0.length ≤ c0) (h : slices_Index_sstring_string.f k l0 a1 = some r) :
  Calls Try.prog 103 #[.slice A0 l0.length c0, .string a1] w fun e w' => e = .returned (.int .i64 r) ∧ Drawn0 w w' := by
 have HR0 := am hr0
 have HC0 := am hc0
 clear hr0 hc0
 have H : (slices_Index_sstring_string.l0 k l0 a1 (l0.length : Int) 0) = some r := h
 clear h
 have H' := Aside0.mk H
 clear H
 go_enter Try.func103, Try.ntmps103
 go_wp2
 go_loopg [8] k (fun kq v8 w' => ∃ (x8_1 : Int), v8 = .int .i64 x8_1 ∧ Aside0 (slices_Index_sstring_string.l0 kq l0 a1 (l0.length : Int) x8_1 = some r) ∧ Aside0 (kq ≤ k) ∧ Drawn0 w w')
 case atStart => exact ⟨(0), (by first | rfl | (simp; done) | (simp [*]; done)), H', ⟨Nat.le_refl _⟩, by repeat (first | exact Drawn0.refl _ | apply Drawn0.step)⟩
 case round =>
  clear H'
  try clear c1
  try clear p2
  obtain ⟨x8_1, rfl, HA, HK1, ⟨m1, rfl⟩⟩ := hrel
  cases gk with
  | zero => exact absurd HA.out (by simp [slices_Index_sstring_string.l0])
  | succ k1 =>
   have H := HA.out
   clear HA
   simp only [slices_Index_sstring_string.l0] at H
   by_cases c3 : x8_1 < (l0.length : Int)
   ·rw [if_pos c3] at H
    have c3b0 : decide (x8_1 < (l0.length : Int)) = true := decide_eq_true c3
    clear c3
    by_cases c4 : 0 ≤ x8_1
    ·rw [if_pos c4] at H
     have c4b0 : decide (0 ≤ x8_1) = true := decide_eq_true c4
     clear c4
     by_cases c5 : x8_1 < (l0.length : Int)
     ·rw [if_pos c5] at H
      have c5b0 : decide (x8_1 < (l0.length : Int)) = true := decide_eq_true c5
      clear c5
      by_cases c6 : a1.toList = (rdOf ByteArray.empty l0 x8_1).toList
      ·rw [if_pos c6] at H
       have c6b0 : (a1.toList == (rdOf ByteArray.empty l0 x8_1).toList) = true := beq_iff_eq.mpr c6
       have c6b1 : (a1.toList != (rdOf ByteArray.empty l0 x8_1).toList) = false := bne_eq_false_iff_eq.mpr c6
       clear c6
       obtain rfl := Option.some.inj H
       have p177 : 0 ≤ (x8_1 : Int) := of_decide_eq_true (by first | (with_reducible assumption) | assumption)
       have q177 : x8_1 < (l0.length : Int) := of_decide_eq_true (by first | (with_reducible assumption) | assumption)
       obtain ⟨ad177, e177, hx177_0⟩ := Kd.at_string HR0.out x8_1 p177 q177
       cases e177
       replace p177 := eq_true p177
       replace q177 := eq_true q177
       go_wp2
       go_ret
       exact ⟨by first | rfl | (simp; done) | (simp [*]; done), by repeat (first | exact Drawn0.refl _ | apply Drawn0.step)⟩
      ·rw [if_neg c6] at H
       have c6b0 : (a1.toList == (rdOf ByteArray.empty l0 x8_1).toList) = false := beq_eq_false_iff_ne.mpr c6
       have c6b1 : (a1.toList != (rdOf ByteArray.empty l0 x8_1).toList) = true := bne_iff_ne.mpr c6
       have H' := Aside0.mk H
       clear H
       have p177 : 0 ≤ (x8_1 : Int) := of_decide_eq_true (by first | (with_reducible assumption) | assumption)
       have q177 : x8_1 < (l0.length : Int) := of_decide_eq_true (by first | (with_reducible assumption) | assumption)
       obtain ⟨ad177, e177, hx177_0⟩ := Kd.at_string HR0.out x8_1 p177 q177
       cases e177
       replace p177 := eq_true p177
       replace q177 := eq_true q177
       go_wp2
       go_roundg k1
       case measure => have := HK1.out; omega
       case rel => exact ⟨(wrap64 (x8_1 + 1)), (by first | rfl | (simp; done) | (simp [*]; done)), H', ⟨by have := HK1.out; omega⟩, by repeat (first | exact Drawn0.refl _ | apply Drawn0.step)⟩
     ·rw [if_neg c5] at H
      exact absurd H (by simp)
    ·rw [if_neg c4] at H
     exact absurd H (by simp)
   ·rw [if_neg c3] at H
    have c3b0 : decide (x8_1 < (l0.length : Int)) = false := decide_eq_false c3
    clear c3
    obtain rfl := Option.some.inj H
    go_wp2
    go_ret
    exact ⟨by first | rfl | (simp; done) | (simp [*]; done), by repeat (first | exact Drawn0.refl _ | apply Drawn0.step)⟩

/-! ### slices_Contains_sstring_string: function 87 -/
def slices_Contains_sstring_string.f (k : Nat) (l0 : List ByteArray) (a1 : ByteArray) : Option (Bool) := (slices_Index_sstring_string.f k l0 a1).bind fun t178 => (some (decide (t178 ≥ 0)))
theorem slices_Contains_sstring_string.mono : ∀ a0 a1 k, LeO (slices_Contains_sstring_string.f k a0 a1) (slices_Contains_sstring_string.f (k + 1) a0 a1) := by
 intro a0 a1 k
 unfold slices_Contains_sstring_string.f
 repeat' first
   | (with_reducible exact slices_Index_sstring_string.mono _ _ _)
   | (with_reducible exact LeO.refl _)
   | (with_reducible exact LeO.none _)
   | (with_reducible refine LeO.ite ?_ ?_)
   | (with_reducible refine LeO.bind ?_ (fun _ => ?_))
   | exact slices_Index_sstring_string.mono _ _ _
   | refine LeO.bind ?_ (fun _ => ?_)
theorem slices_Contains_sstring_string.calls (k : Nat) (A0 : Option Addr) (c0 : Nat) (l0 : List ByteArray) (a1 : ByteArray) (r : Bool) (w : World) (hr0 : Kd.C Kd.string w A0 l0.length l0) (hc0 : l0.length ≤ c0) (h : slices_Contains_sstring_string.f k l0 a1 = some r) :
  Calls Try.prog 87 #[.slice A0 l0.length c0, .string a1] w fun e w' => e = .returned (.bool r) ∧ Drawn0 w w' := by
 have HR0 := am hr0
 have HC0 := am hc0
 clear hr0 hc0
 have H : ((slices_Index_sstring_string.f k l0 a1).bind fun t178 => (some (decide (t178 ≥ 0)))) = some r := h
 clear h
 replace H := Option.bind_eq_some_iff.mp H
 obtain ⟨t178, A30, H⟩ := H
 replace H : (some (decide (t178 ≥ 0))) = some r := H
 have A3 := Aside0.mk A30
 clear A30
 obtain rfl := Option.some.inj H
 go_enter Try.func87, Try.ntmps87
 go_wp2_with (first | ((with_reducible refine gate_callee (f := 103) rfl ?_); refine gl (some 7) Try.func103 #[.slice A0 l0.length c0, .string a1] ?_; (with_reducible refine (slices_Index_sstring_string.calls k _ _ l0 a1 t178 _ ?side1 ?side2 A3.out).mono ?_); (case side1 => repeat (first | exact HR0.out | (with_reducible refine Kd.C_alloc ?_ _) | (with_reducible refine Kd.C_drewN ?_ _) | (with_reducible refine Kd.C_drew ?_))); (case side2 => exact HC0.out); rintro e w' ⟨rfl, ⟨nd, rfl⟩⟩; refine ⟨_, rfl, ?_⟩))
 go_ret
 exact ⟨by first | rfl | (simp; done) | (simp [*]; done), by repeat (first | exact Drawn0.refl _ | apply Drawn0.step)⟩

/-! ### impl_isKeyName: function 114 -/
def impl_isKeyName.l0 : Nat → ByteArray → Int → Int → Option (Bool)
 | 0, _, _, _ => none
 | k + 1, x0, x5, x6 => if x6 < x5 then (if 0 ≤ x6 then (if x6 < (x0.size : Int) then (if (bt x0 x6) ≥ 97 then (if (bt x0 x6) ≤ 122 then (impl_isKeyName.l0 k x0 x5 (wrap64 (x6 + 1))) else (if ((bt x0 x6) = 45) then (impl_isKeyName.l0 k x0 x5 (wrap64 (x6 + 1))) else (some false))) else (if ((bt x0 x6) = 45) then (impl_isKeyName.l0 k x0 x5 (wrap64 (x6 + 1))) else (some false))) else (none)) else (none)) else ((impl_within.f (x0.size : Int) 1 20).bind fun t179 => (some t179))
def impl_isKeyName.f (k : Nat) (a0 : ByteArray) : Option (Bool) := impl_isKeyName.l0 k a0 (a0.size : Int) 0
theorem impl_isKeyName.mono_l : ∀ k, (∀ y0 y1 y2, LeO (impl_isKeyName.l0 k y0 y1 y2) (impl_isKeyName.l0 (k + 1) y0 y1 y2))
 | 0 => fun _ _ _ r h => by simp [impl_isKeyName.l0] at h
 | k + 1 => by
  have ih0 := impl_isKeyName.mono_l k
  ·intro y0 y1 y2
   unfold impl_isKeyName.l0
   repeat' first
   | (with_reducible exact ih0 _ _ _)
   | (with_reducible exact LeO.refl _)
   | (with_reducible exact LeO.none _)
   | (with_reducible refine LeO.ite ?_ ?_)
   | (with_reducible refine LeO.bind ?_ (fun _ => ?_))
   | exact ih0 _ _ _
   | refine LeO.bind ?_ (fun _ => ?_)
theorem impl_isKeyName.mono : ∀ a0 k, LeO (impl_isKeyName.f k a0) (impl_isKeyName.f (k + 1) a0) := by
 intro a0 k
 have ih0 := impl_isKeyName.mono_l k
 unfold impl_isKeyName.f
 repeat' first
   | (with_reducible exact ih0 _ _ _)
   | (with_reducible exact LeO.refl _)
   | (with_reducible exact LeO.none _)
   | (with_reducible refine LeO.ite ?_ ?_)
   | (with_reducible refine LeO.bind ?_ (fun _ => ?_))
   | exact ih0 _ _ _
   | refine LeO.bind ?_ (fun _ => ?_)
theorem impl_isKeyName.calls (k : Nat) (a0 : ByteArray) (r : Bool) (w : World) (h : impl_isKeyName.f k a0 = some r) :
  Calls Try.prog 114 #[.string a0] w fun e w' => e = .returned (.bool r) ∧ Drawn0 w w' := by
 have H : (impl_isKeyName.l0 k a0 (a0.size : Int) 0) = some r := h
 clear h
 have H' := Aside0.mk H
 clear H
 go_enter Try.func114, Try.ntmps114
 go_wp2
 go_loopg [6] k (fun kq v6 w' => ∃ (x6_1 : Int), v6 = .int .i64 x6_1 ∧ Aside0 (impl_isKeyName.l0 kq a0 (a0.size : Int) x6_1 = some r) ∧ Aside0 (kq ≤ k) ∧ Drawn0 w w')
 case atStart => exact ⟨(0), (by first | rfl | (simp; done) | (simp [*]; done)), H', ⟨Nat.le_refl _⟩, by repeat (first | exact Drawn0.refl _ | apply Drawn0.step)⟩
 case round =>
  clear H'
  try clear c1
  obtain ⟨x6_1, rfl, HA, HK1, ⟨m1, rfl⟩⟩ := hrel
  cases gk with
  | zero => exact absurd HA.out (by simp [impl_isKeyName.l0])
  | succ k1 =>
   have H := HA.out
   clear HA
   simp only [impl_isKeyName.l0] at H
   by_cases c2 : x6_1 < (a0.size : Int)
   ·rw [if_pos c2] at H
    have c2b0 : decide (x6_1 < (a0.size : Int)) = true := decide_eq_true c2
    clear c2
    by_cases c3 : 0 ≤ x6_1
    ·rw [if_pos c3] at H
     have c3b0 : decide (0 ≤ x6_1) = true := decide_eq_true c3
     clear c3
     by_cases c4 : x6_1 < (a0.size : Int)
     ·rw [if_pos c4] at H
      have c4b0 : decide (x6_1 < (a0.size : Int)) = true := decide_eq_true c4
      clear c4
      by_cases c6 : (bt a0 x6_1) ≥ 97
      ·rw [if_pos c6] at H
       have c6b0 : decide (97 ≤ (bt a0 x6_1)) = true := decide_eq_true c6
       clear c6
       by_cases c8 : (bt a0 x6_1) ≤ 122
       ·rw [if_pos c8] at H
        have c8b0 : decide ((bt a0 x6_1) ≤ 122) = true := decide_eq_true c8
        clear c8
        have H' := Aside0.mk H
        clear H
        have p5 : 0 ≤ (x6_1 : Int) := of_decide_eq_true (by first | (with_reducible assumption) | assumption)
        have q5 : x6_1 < (a0.size : Int) := of_decide_eq_true (by first | (with_reducible assumption) | assumption)
        have hx5 := bt_at a0 x6_1
        replace p5 := eq_true p5
        replace q5 := eq_true q5
        have p7 : 0 ≤ (x6_1 : Int) := of_decide_eq_true (by first | (with_reducible assumption) | assumption)
        have q7 : x6_1 < (a0.size : Int) := of_decide_eq_true (by first | (with_reducible assumption) | assumption)
        have hx7 := bt_at a0 x6_1
        replace p7 := eq_true p7
        replace q7 := eq_true q7
        go_wp2
        go_roundg k1
        case measure => have := HK1.out; omega
        case rel => exact ⟨(wrap64 (x6_1 + 1)), (by first | rfl | (simp; done) | (simp [*]; done)), H', ⟨by have := HK1.out; omega⟩, by repeat (first | exact Drawn0.refl _ | apply Drawn0.step)⟩
       ·rw [if_neg c8] at H
        have c8b0 : decide ((bt a0 x6_1) ≤ 122) = false := decide_eq_false c8
        clear c8
        by_cases c10 : ((bt a0 x6_1) = 45)
        ·rw [if_pos c10] at H
         have c10b0 : ((bt a0 x6_1) == 45) = true := beq_iff_eq.mpr c10
         have c10b1 : ((bt a0 x6_1) != 45) = false := bne_eq_false_iff_eq.mpr c10
         clear c10
         have H' := Aside0.mk H
         clear H
         have p5 : 0 ≤ (x6_1 : Int) := of_decide_eq_true (by first | (with_reducible assumption) | assumption)
         have q5 : x6_1 < (a0.size : Int) := of_decide_eq_true (by first | (with_reducible assumption) | assumption)
         have hx5 := bt_at a0 x6_1
         replace p5 := eq_true p5
         replace q5 := eq_true q5
         have p7 : 0 ≤ (x6_1 : Int) := of_decide_eq_true (by first | (with_reducible assumption) | assumption)
         have q7 : x6_1 < (a0.size : Int) := of_decide_eq_true (by first | (with_reducible assumption) | assumption)
         have hx7 := bt_at a0 x6_1
         replace p7 := eq_true p7
         replace q7 := eq_true q7
         have p9 : 0 ≤ (x6_1 : Int) := of_decide_eq_true (by first | (with_reducible assumption) | assumption)
         have q9 : x6_1 < (a0.size : Int) := of_decide_eq_true (by first | (with_reducible assumption) | assumption)
         have hx9 := bt_at a0 x6_1
         replace p9 := eq_true p9
         replace q9 := eq_true q9
         go_wp2
         go_roundg k1
         case measure => have := HK1.out; omega
         case rel => exact ⟨(wrap64 (x6_1 + 1)), (by first | rfl | (simp; done) | (simp [*]; done)), H', ⟨by have := HK1.out; omega⟩, by repeat (first | exact Drawn0.refl _ | apply Drawn0.step)⟩
        ·rw [if_neg c10] at H
         have c10b0 : ((bt a0 x6_1) == 45) = false := beq_eq_false_iff_ne.mpr c10
         have c10b1 : ((bt a0 x6_1) != 45) = true := bne_iff_ne.mpr c10
         obtain rfl := Option.some.inj H
         have p5 : 0 ≤ (x6_1 : Int) := of_decide_eq_true (by first | (with_reducible assumption) | assumption)
         have q5 : x6_1 < (a0.size : Int) := of_decide_eq_true (by first | (with_reducible assumption) | assumption)
         have hx5 := bt_at a0 x6_1
         replace p5 := eq_true p5
         replace q5 := eq_true q5
         have p7 : 0 ≤ (x6_1 : Int) := of_decide_eq_true (by first | (with_reducible assumption) | assumption)
         have q7 : x6_1 < (a0.size : Int) := of_decide_eq_true (by first | (with_reducible assumption) | assumption)
         have hx7 := bt_at a0 x6_1
         replace p7 := eq_true p7
         replace q7 := eq_true q7
         have p9 : 0 ≤ (x6_1 : Int) := of_decide_eq_true (by first | (with_reducible assumption) | assumption)
         have q9 : x6_1 < (a0.size : Int) := of_decide_eq_true (by first | (with_reducible assumption) | assumption)
         have hx9 := bt_at a0 x6_1
         replace p9 := eq_true p9
         replace q9 := eq_true q9
         go_wp2
         go_ret
         exact ⟨by first | rfl | (simp; done) | (simp [*]; done), by repeat (first | exact Drawn0.refl _ | apply Drawn0.step)⟩
      ·rw [if_neg c6] at H
       have c6b0 : decide (97 ≤ (bt a0 x6_1)) = false := decide_eq_false c6
       clear c6
       by_cases c12 : ((bt a0 x6_1) = 45)
       ·rw [if_pos c12] at H
        have c12b0 : ((bt a0 x6_1) == 45) = true := beq_iff_eq.mpr c12
        have c12b1 : ((bt a0 x6_1) != 45) = false := bne_eq_false_iff_eq.mpr c12
        clear c12
        have H' := Aside0.mk H
        clear H
        have p5 : 0 ≤ (x6_1 : Int) := of_decide_eq_true (by first | (with_reducible assumption) | assumption)
        have q5 : x6_1 < (a0.size : Int) := of_decide_eq_true (by first | (with_reducible assumption) | assumption)
        have hx5 := bt_at a0 x6_1
        replace p5 := eq_true p5
        replace q5 := eq_true q5
        have p11 : 0 ≤ (x6_1 : Int) := of_decide_eq_true (by first | (with_reducible assumption) | assumption)
        have q11 : x6_1 < (a0.size : Int) := of_decide_eq_true (by first | (with_reducible assumption) | assumption)
        have hx11 := bt_at a0 x6_1
        replace p11 := eq_true p11
        replace q11 := eq_true q11
        go_wp2
        go_roundg k1
        case measure => have := HK1.out; omega
        case rel => exact ⟨(wrap64 (x6_1 + 1)), (by first | rfl | (simp; done) | (simp [*]; done)), H', ⟨by have := HK1.out; omega⟩, by repeat (first | exact Drawn0.refl _ | apply Drawn0.step)⟩
       ·rw [if_neg c12] at H
        have c12b0 : ((bt a0 x6_1) == 45) = false := beq_eq_false_iff_ne.mpr c12
        have c12b1 : ((bt a0 x6_1) != 45) = true := bne_iff_ne.mpr c12
        obtain rfl := Option.some.inj H
        have p5 : 0 ≤ (x6_1 : Int) := of_decide_eq_true (by first | (with_reducible assumption) | assumption)
        have q5 : x6_1 < (a0.size : Int) := of_decide_eq_true (by first | (with_reducible assumption) | assumption)
        have hx5 := bt_at a0 x6_1
        replace p5 := eq_true p5
        replace q5 := eq_true q5
        have p11 : 0 ≤ (x6_1 : Int) := of_decide_eq_true (by first | (with_reducible assumption) | assumption)
        have q11 : x6_1 < (a0.size : Int) := of_decide_eq_true (by first | (with_reducible assumption) | assumption)
        have hx11 := bt_at a0 x6_1
        replace p11 := eq_true p11
        replace q11 := eq_true q11
        go_wp2
        go_ret
        exact ⟨by first | rfl | (simp; done) | (simp [*]; done), by repeat (first | exact Drawn0.refl _ | apply Drawn0.step)⟩
     ·rw [if_neg c4] at H
      exact absurd H (by simp)
    ·rw [if_neg c3] at H
     exact absurd H (by simp)
   ·rw [if_neg c2] at H
    have c2b0 : decide (x6_1 < (a0.size : Int)) = false := decide_eq_false c2
    clear c2
    replace H := Option.bind_eq_some_iff.mp H
    obtain ⟨t179, A130, H⟩ := H
    replace H : (some t179) = some r := H
    have A13 := Aside0.mk A130
    clear A130
    obtain rfl := Option.some.inj H
    go_wp2_with (first | ((with_reducible refine gate_callee (f := 51) rfl ?_); refine gl (some 29) Try.func51 #[.int .i64 (a0.size : Int), .int .i64 1, .int .i64 20] ?_; (with_reducible refine (impl_within.calls (a0.size : Int) 1 20 t179 _ A13.out).mono ?_); rintro e w' ⟨rfl, ⟨nd, rfl⟩⟩; refine ⟨_, rfl, ?_⟩))
    go_ret
    exact ⟨by first | rfl | (simp; done) | (simp [*]; done), by repeat (first | exact Drawn0.refl _ | apply Drawn0.step)⟩

/-! ### impl_statementWords: function 115 -/
def impl_statementWords.f  : Option (List ByteArray) := some (([(⟨#[108, 101, 116]⟩ : ByteArray), (⟨#[105, 102]⟩ : ByteArray), (⟨#[119, 104, 105, 108, 101]⟩ : ByteArray), (⟨#[105, 110, 115, 101, 114, 116]⟩ : ByteArray), (⟨#[100, 101, 108, 101, 116, 101]⟩ : ByteArray), (⟨#[103, 111]⟩ : ByteArray), (⟨#[109, 97, 114, 107]⟩ : ByteArray), (⟨#[98, 101, 108, 108]⟩ : ByteArray), (⟨#[100, 111]⟩ : ByteArray)] : List ByteArray))
theorem impl_statementWords.calls  (r : List ByteArray) (w : World) (h : impl_statementWords.f  = some r) :
  Calls Try.prog 115 #[] w fun e w' => ∃ v0_ : Value, e = .returned (v0_) ∧ Kd.R Kd.string 9 w' w.heap.size (fun _ => True) v0_ r ∧ Below w.heap.size w w' := by
 have HB := am (Below.refl w.heap.size w)
 have H : (some (([(⟨#[108, 101, 116]⟩ : ByteArray), (⟨#[105, 102]⟩ : ByteArray), (⟨#[119, 104, 105, 108, 101]⟩ : ByteArray), (⟨#[105, 110, 115, 101, 114, 116]⟩ : ByteArray), (⟨#[100, 101, 108, 101, 116, 101]⟩ : ByteArray), (⟨#[103, 111]⟩ : ByteArray), (⟨#[109, 97, 114, 107]⟩ : ByteArray), (⟨#[98, 101, 108, 108]⟩ : ByteArray), (⟨#[100, 111]⟩ : ByteArray)] : List ByteArray))) = some r := h
 clear h
 obtain ⟨y180, hy180⟩ : ∃ y_ : List ByteArray, y_ = (([(⟨#[108, 101, 116]⟩ : ByteArray), (⟨#[105, 102]⟩ : ByteArray), (⟨#[119, 104, 105, 108, 101]⟩ : ByteArray), (⟨#[105, 110, 115, 101, 114, 116]⟩ : ByteArray), (⟨#[100, 101, 108, 101, 116, 101]⟩ : ByteArray), (⟨#[103, 111]⟩ : ByteArray), (⟨#[109, 97, 114, 107]⟩ : ByteArray), (⟨#[98, 101, 108, 108]⟩ : ByteArray), (⟨#[100, 111]⟩ : ByteArray)] : List ByteArray)) := ⟨_, rfl⟩
 replace H : (some y180) = some r := by first | (rw [hy180]; with_reducible exact H) | (have H2_ := (Option.bind_some _ _).symm.trans H; rw [hy180]; with_reducible exact H2_) | (have H2_ := (Option.bind_some _ _).symm.trans H; with_reducible exact H2_) | with_reducible exact H | (rw [hy180]; exact H) | exact H
 have Ny180 := am hy180
 clear hy180
 obtain rfl := Option.some.inj H
 go_enter Try.func115, Try.ntmps115
 go_wp2_with (first | ((with_reducible refine gate_dst (N := 1) rfl ?_); refine Kd.R_lit Kd.string _ 9 ?hg (N := 1) ?hd (xs := ([(⟨#[108, 101, 116]⟩ : ByteArray), (⟨#[105, 102]⟩ : ByteArray), (⟨#[119, 104, 105, 108, 101]⟩ : ByteArray), (⟨#[105, 110, 115, 101, 114, 116]⟩ : ByteArray), (⟨#[100, 101, 108, 101, 116, 101]⟩ : ByteArray), (⟨#[103, 111]⟩ : ByteArray), (⟨#[109, 97, 114, 107]⟩ : ByteArray), (⟨#[98, 101, 108, 108]⟩ : ByteArray), (⟨#[100, 111]⟩ : ByteArray)] : List ByteArray)) (inner := [.string (⟨#[108, 101, 116]⟩ : ByteArray), .string (⟨#[105, 102]⟩ : ByteArray), .string (⟨#[119, 104, 105, 108, 101]⟩ : ByteArray), .string (⟨#[105, 110, 115, 101, 114, 116]⟩ : ByteArray), .string (⟨#[100, 101, 108, 101, 116, 101]⟩ : ByteArray), .string (⟨#[103, 111]⟩ : ByteArray), .string (⟨#[109, 97, 114, 107]⟩ : ByteArray), .string (⟨#[98, 101, 108, 108]⟩ : ByteArray), .string (⟨#[100, 111]⟩ : ByteArray)]) (ok := fun _ => True) (okp := fun _ => True) ?hr ?hp (fun _ hk => hk) trivial (Below.refl _ _) (Nat.le_refl _) (by simp) ?_; (case hd => rfl); (case hg => rfl); (case hr => first | (go_simp; done) | (go_simp; rfl)); (case hp => exact (Reps.one (show Kd.M Kd.string _ _ _ (⟨#[108, 101, 116]⟩ : ByteArray) [.string (⟨#[108, 101, 116]⟩ : ByteArray)] from rfl) (Reps.one (show Kd.M Kd.string _ _ _ (⟨#[105, 102]⟩ : ByteArray) [.string (⟨#[105, 102]⟩ : ByteArray)] from rfl) (Reps.one (show Kd.M Kd.string _ _ _ (⟨#[119, 104, 105, 108, 101]⟩ : ByteArray) [.string (⟨#[119, 104, 105, 108, 101]⟩ : ByteArray)] from rfl) (Reps.one (show Kd.M Kd.string _ _ _ (⟨#[105, 110, 115, 101, 114, 116]⟩ : ByteArray) [.string (⟨#[105, 110, 115, 101, 114, 116]⟩ : ByteArray)] from rfl) (Reps.one (show Kd.M Kd.string _ _ _ (⟨#[100, 101, 108, 101, 116, 101]⟩ : ByteArray) [.string (⟨#[100, 101, 108, 101, 116, 101]⟩ : ByteArray)] from rfl) (Reps.one (show Kd.M Kd.string _ _ _ (⟨#[103, 111]⟩ : ByteArray) [.string (⟨#[103, 111]⟩ : ByteArray)] from rfl) (Reps.one (show Kd.M Kd.string _ _ _ (⟨#[109, 97, 114, 107]⟩ : ByteArray) [.string (⟨#[109, 97, 114, 107]⟩ : ByteArray)] from rfl) (Reps.one (show Kd.M Kd.string _ _ _ (⟨#[98, 101, 108, 108]⟩ : ByteArray) [.string (⟨#[98, 101, 108, 108]⟩ : ByteArray)] from rfl) (Reps.one (show Kd.M Kd.string _ _ _ (⟨#[100, 111]⟩ : ByteArray) [.string (⟨#[100, 111]⟩ : ByteArray)] from rfl) (Reps.none _ _))))))))))); intro v181 w1 ho2 hb hg_ hnew_; clear hg_ hnew_; (first | rw [← Ny180.out] at ho2 | (simp only [Int.reduceToNat] at ho2; rw [← Ny180.out] at ho2)); have HO182 := am (Kd.R_lower ho2 (below_size (bl HB.out))); replace HB := am (below_step (bl HB.out) hb); clear hb ho2))
 go_ret
 exact ⟨_, by first | rfl | (simp [errW_none, errW_some] <;> rfl) | (simp [*, errW_none, errW_some] <;> rfl), kr HO182.out, by repeat (first | (with_reducible first | exact HB.out | apply below_alloc | apply pw_below_drewN | apply below_drew1) | exact HB.out)⟩

-- NOT PRINTED: function 116 (impl_leaves)

/-! ### impl_isVarName: function 111 -/
/-! ### impl.leaves, impl.isVarName: a map of names -/
theorem wpList_ins_ {P : Program} (w : World) {ops : Array Oper} {rest : List Oper} {o : Oper} {a : Act} {Q : Exit → Act → World → Prop} (hg : o.guard = none) (m x v : Operand) (t : TypeId) (hop : o.op = Op.insert t m x v) (mv kv vv : Value) (hm : a.eval m = mv) (hx : a.eval x = kv) (hv : a.eval v = vv) {w' : World} (hrun : (Instr.mapUpdate t mv kv vv).run P w = .ok () w') (h : wpList P ops Q rest (a.put o.dst undef) w') : wpList P ops Q (o :: rest) a w := by
 refine wpList_plain hg fun K' hK' => ?_
 unfold Oper.wp
 simp [execOp, hop, hm, hx, hv, hrun, Result.andThen]
 exact hK' _ _ h
def setObj_ (w : World) (r : Nat) (o : Obj) : World := { w with heap := w.heap.setIfInBounds r o }
theorem setObj_at {w : World} {r : Nat} {o o2 : Obj} (h : w.heap[r]? = some o) : (setObj_ w r o2).heap[r]? = some o2 := by
 have hlt : r < w.heap.size := (Array.getElem?_eq_some_iff.1 h).1
 simp [setObj_, hlt]
theorem setObj_below {w0 w : World} {r : Nat} {o : Obj} (h : Below w0.heap.size w0 w) (hr : w0.heap.size ≤ r) : Below w0.heap.size w0 (setObj_ w r o) :=
 ⟨h.os, h.tape, h.output, by simp only [setObj_, Array.size_setIfInBounds]; exact h.size, fun k hk => by rw [← h.block k hk]; simp only [setObj_]; rw [Array.getElem?_setIfInBounds_ne (by omega)]⟩
theorem run_mapPut_ {P : Program} (w : World) (mty kt et : TypeId) (r clock : Nat) (s : ByteArray) (val : Value) (es : Array MapEntry) (hm : P.underlying mty = some (.map kt et)) (hk : P.underlying kt = some .string) (hb : w.heap[r]? = some (.map es clock)) (hf : Instr.findNow .string (.string s) es.toList 0 = some none) : (Instr.mapUpdate mty (.map (some r)) (.string s) val).run P w = .ok () (setObj_ w r (.map (es.push { key := .string s, val := val, born := clock }) (clock + 1))) := by
 have hc : (Instr.checkKey false 10000 kt (.string s)).run P w = .ok () w := MapKept.run_checkKey (k := .string s) hk (by simp [MapKept.IsKey]) false 9999
 simp [Instr.mapUpdate, run_underlying hm, MapKept.run_getObj_map hb, hc, MapKept.run_findKey hk hf, MapKept.run_setObj_map _ hb, Result.andThen, setObj_]
def leafR (s : ByteArray) : List (List UInt8 × Int) → Int
 | [] => 0
 | x :: l => if s.toList = x.1 then x.2 else leafR s l
def leafL : List (List UInt8 × Int) := [([99, 117, 114, 115, 111, 114], 13), ([108, 101, 110, 103, 116, 104], 14), ([109, 97, 114, 107, 97, 116], 15), ([97, 116], 16), ([110, 111, 116], 17)]
def leafE (n : Nat) (x : List UInt8 × Int) : MapEntry := { key := .string ⟨x.1.toArray⟩, val := .int .i64 x.2, born := n }
def leafES : Array MapEntry := #[leafE 0 ([99, 117, 114, 115, 111, 114], 13), leafE 1 ([108, 101, 110, 103, 116, 104], 14), leafE 2 ([109, 97, 114, 107, 97, 116], 15), leafE 3 ([97, 116], 16), leafE 4 ([110, 111, 116], 17)]
theorem leaf_find (s : ByteArray) (l : List (List UInt8 × Int)) : ∀ n m, (Instr.findNow .string (.string s) (l.zipIdx m |>.map (fun p => leafE p.2 p.1)) n = some none ∧ leafR s l = 0) ∨ ∃ q, Instr.findNow .string (.string s) (l.zipIdx m |>.map (fun p => leafE p.2 p.1)) n = some (some (q, .int .i64 (leafR s l))) := by
 induction l with
 | nil => intro n m; exact Or.inl ⟨rfl, rfl⟩
 | cons x l ih =>
  intro n m
  have e : (s == (⟨x.1.toArray⟩ : ByteArray)) = decide (s.toList = x.1) := by
   rw [show (s == (⟨x.1.toArray⟩ : ByteArray)) = (s.data == x.1.toArray) from rfl, Bool.eq_iff_iff, beq_iff_eq, decide_eq_true_eq, ByteArray.toList_eq]
   constructor
   · intro h; rw [h]
   · intro h; rw [← h]
  by_cases h : s.toList = x.1
  · refine Or.inr ⟨n, ?_⟩
    rw [List.zipIdx_cons, List.map_cons, Instr.findNow]
    show (match Instr.sameNow .string (.string s) (.string ⟨x.1.toArray⟩) with | some true => _ | some false => _ | none => _) = _
    simp only [Instr.sameNow, e, h, decide_true, leafR, if_true]
    rfl
  · have e2 : Instr.findNow .string (.string s) (((x :: l).zipIdx m).map (fun p => leafE p.2 p.1)) n = Instr.findNow .string (.string s) ((l.zipIdx (m + 1)).map (fun p => leafE p.2 p.1)) (n + 1) := by
     rw [List.zipIdx_cons, List.map_cons, Instr.findNow]
     show (match Instr.sameNow .string (.string s) (.string ⟨x.1.toArray⟩) with | some true => _ | some false => _ | none => _) = _
     simp only [Instr.sameNow, e, h, decide_false]
    rw [e2]
    have e3 : leafR s (x :: l) = leafR s l := by rw [leafR, if_neg h]
    rw [e3]
    exact ih (n + 1) (m + 1)
theorem run_leaf_ {P : Program} (w : World) (mty kt et : TypeId) (r clock : Nat) (s : ByteArray) (hm : P.underlying mty = some (.map kt et)) (hk : P.underlying kt = some .string) (hz : (zeroValue et).run P w = .ok (.int .i64 0) w) (hb : w.heap[r]? = some (.map leafES clock)) : (Instr.lookup mty (.map (some r)) (.string s) false).run P w = .ok (.int .i64 (leafR s leafL)) w := by
 have hc : (Instr.checkKey leafES.isEmpty 10000 kt (.string s)).run P w = .ok () w := MapKept.run_checkKey (k := .string s) hk (by simp [MapKept.IsKey]) _ 9999
 rcases leaf_find s leafL 0 0 with ⟨h1, h2⟩ | ⟨q, h1⟩
 · have hf : Instr.findNow .string (.string s) leafES.toList 0 = some none := h1
   simp [Instr.lookup, run_underlying hm, MapKept.run_getObj_map hb, hc, MapKept.run_findKey hk hf, Result.andThen, hz, h2]
 · have hf : Instr.findNow .string (.string s) leafES.toList 0 = some (some (q, .int .i64 (leafR s leafL))) := h1
   simp [Instr.lookup, run_underlying hm, MapKept.run_getObj_map hb, hc, MapKept.run_findKey hk hf, Result.andThen]
theorem impl_leaves.calls (w : World) :
  Calls Try.prog 116 #[] w fun e w' => ∃ g, e = .returned (.map (some g)) ∧ w.heap.size ≤ g ∧ w'.heap[g]? = some (.map leafES 5) ∧ Below w.heap.size w w' := by
 have hmm := @run_makeMap Try.prog
 obtain ⟨W0, hW0⟩ : ∃ W0, W0 = w.alloc (.map #[] 0) := ⟨_, rfl⟩
 have b0 : W0.heap[w.heap.size]? = some (.map #[] 0) := by rw [hW0]; exact blk_new w _
 have B0 : Below w.heap.size w W0 := by rw [hW0]; exact below_alloc (Below.refl _ _) _
 obtain ⟨W1, r1, b1, B1⟩ : ∃ W, (Instr.mapUpdate 131 (.map (some w.heap.size)) (.string ⟨#[99, 117, 114, 115, 111, 114]⟩) (.int .i64 13)).run Try.prog W0 = .ok () W ∧ W.heap[w.heap.size]? = some (.map (#[].push (leafE 0 ([99, 117, 114, 115, 111, 114], 13))) 1) ∧ Below w.heap.size w W :=
  ⟨_, run_mapPut_ (P := Try.prog) W0 131 9 2 w.heap.size 0 ⟨#[99, 117, 114, 115, 111, 114]⟩ (.int .i64 13) #[] Try.underlying131 Try.underlying9 b0 (by kernel_rfl), setObj_at b0, setObj_below B0 (Nat.le_refl _)⟩
 obtain ⟨W2, r2, b2, B2⟩ : ∃ W, (Instr.mapUpdate 131 (.map (some w.heap.size)) (.string ⟨#[108, 101, 110, 103, 116, 104]⟩) (.int .i64 14)).run Try.prog W1 = .ok () W ∧ W.heap[w.heap.size]? = some (.map ((#[].push (leafE 0 ([99, 117, 114, 115, 111, 114], 13))).push (leafE 1 ([108, 101, 110, 103, 116, 104], 14))) 2) ∧ Below w.heap.size w W :=
  ⟨_, run_mapPut_ (P := Try.prog) W1 131 9 2 w.heap.size 1 ⟨#[108, 101, 110, 103, 116, 104]⟩ (.int .i64 14) (#[].push (leafE 0 ([99, 117, 114, 115, 111, 114], 13))) Try.underlying131 Try.underlying9 b1 (by kernel_rfl), setObj_at b1, setObj_below B1 (Nat.le_refl _)⟩
 obtain ⟨W3, r3, b3, B3⟩ : ∃ W, (Instr.mapUpdate 131 (.map (some w.heap.size)) (.string ⟨#[109, 97, 114, 107, 97, 116]⟩) (.int .i64 15)).run Try.prog W2 = .ok () W ∧ W.heap[w.heap.size]? = some (.map (((#[].push (leafE 0 ([99, 117, 114, 115, 111, 114], 13))).push (leafE 1 ([108, 101, 110, 103, 116, 104], 14))).push (leafE 2 ([109, 97, 114, 107, 97, 116], 15))) 3) ∧ Below w.heap.size w W :=
  ⟨_, run_mapPut_ (P := Try.prog) W2 131 9 2 w.heap.size 2 ⟨#[109, 97, 114, 107, 97, 116]⟩ (.int .i64 15) ((#[].push (leafE 0 ([99, 117, 114, 115, 111, 114], 13))).push (leafE 1 ([108, 101, 110, 103, 116, 104], 14))) Try.underlying131 Try.underlying9 b2 (by kernel_rfl), setObj_at b2, setObj_below B2 (Nat.le_refl _)⟩
 obtain ⟨W4, r4, b4, B4⟩ : ∃ W, (Instr.mapUpdate 131 (.map (some w.heap.size)) (.string ⟨#[97, 116]⟩) (.int .i64 16)).run Try.prog W3 = .ok () W ∧ W.heap[w.heap.size]? = some (.map ((((#[].push (leafE 0 ([99, 117, 114, 115, 111, 114], 13))).push (leafE 1 ([108, 101, 110, 103, 116, 104], 14))).push (leafE 2 ([109, 97, 114, 107, 97, 116], 15))).push (leafE 3 ([97, 116], 16))) 4) ∧ Below w.heap.size w W :=
  ⟨_, run_mapPut_ (P := Try.prog) W3 131 9 2 w.heap.size 3 ⟨#[97, 116]⟩ (.int .i64 16) (((#[].push (leafE 0 ([99, 117, 114, 115, 111, 114], 13))).push (leafE 1 ([108, 101, 110, 103, 116, 104], 14))).push (leafE 2 ([109, 97, 114, 107, 97, 116], 15))) Try.underlying131 Try.underlying9 b3 (by kernel_rfl), setObj_at b3, setObj_below B3 (Nat.le_refl _)⟩
 obtain ⟨W5, r5, b5, B5⟩ : ∃ W, (Instr.mapUpdate 131 (.map (some w.heap.size)) (.string ⟨#[110, 111, 116]⟩) (.int .i64 17)).run Try.prog W4 = .ok () W ∧ W.heap[w.heap.size]? = some (.map (((((#[].push (leafE 0 ([99, 117, 114, 115, 111, 114], 13))).push (leafE 1 ([108, 101, 110, 103, 116, 104], 14))).push (leafE 2 ([109, 97, 114, 107, 97, 116], 15))).push (leafE 3 ([97, 116], 16))).push (leafE 4 ([110, 111, 116], 17))) 5) ∧ Below w.heap.size w W :=
  ⟨_, run_mapPut_ (P := Try.prog) W4 131 9 2 w.heap.size 4 ⟨#[110, 111, 116]⟩ (.int .i64 17) ((((#[].push (leafE 0 ([99, 117, 114, 115, 111, 114], 13))).push (leafE 1 ([108, 101, 110, 103, 116, 104], 14))).push (leafE 2 ([109, 97, 114, 107, 97, 116], 15))).push (leafE 3 ([97, 116], 16))) Try.underlying131 Try.underlying9 b4 (by kernel_rfl), setObj_at b4, setObj_below B4 (Nat.le_refl _)⟩
 subst hW0
 have HB5 := am b5
 have HBB := am B5
 clear b0 B0 b1 B1 b2 B2 b3 B3 b4 B4 b5 B5
 go_enter Try.func116, Try.ntmps116
 go_wp2
 go_ret
 exact ⟨_, rfl, Nat.le_refl _, HB5.out, HBB.out⟩
def impl_isVarName.f (k : Nat) (a0 : ByteArray) : Option Bool := (impl_isKeyName.f k a0).bind fun t1 => (if t1 = true then (if a0.toList = [101, 108, 115, 101] then (some false) else (if a0.toList = [111, 114] then (some false) else (if a0.toList = [97, 110, 100] then (some false) else (impl_statementWords.f.bind fun y => ((slices_Contains_sstring_string.f k y a0).bind fun t2 => (if t2 = true then (some false) else (if leafR a0 leafL = 0 then (if 0 < a0.size then (some (bt a0 0 != 45)) else none) else (some false)))))))) else (some false))
theorem impl_isVarName.mono : ∀ a0 k, LeO (impl_isVarName.f k a0) (impl_isVarName.f (k + 1) a0) := by
 intro a0 k
 unfold impl_isVarName.f
 repeat' first
   | (with_reducible exact impl_isKeyName.mono _ _)
   | (with_reducible exact slices_Contains_sstring_string.mono _ _ _)
   | (with_reducible exact LeO.refl _)
   | (with_reducible exact LeO.none _)
   | (with_reducible refine LeO.ite ?_ ?_)
   | (with_reducible refine LeO.bind ?_ (fun _ => ?_))
theorem impl_isVarName.calls (k : Nat) (a0 : ByteArray) (r : Bool) (w : World) (h : impl_isVarName.f k a0 = some r) :
  Calls Try.prog 111 #[.string a0] w fun e w' => e = .returned (.bool r) ∧ Below w.heap.size w w' := by
 have HB := am (Below.refl w.heap.size w)
 unfold impl_isVarName.f at h
 obtain ⟨t1, A10, h⟩ := Option.bind_eq_some_iff.mp h
 have A1 := am A10
 clear A10
 by_cases c1 : t1 = true
 · subst c1
   rw [if_pos rfl] at h
   by_cases d0 : a0.toList = [101, 108, 115, 101]
   · rw [if_pos d0] at h
     obtain rfl := Option.some.inj h
     have d0b : (a0.toList == [101, 108, 115, 101]) = true := by rw [beq_iff_eq]; exact d0
     have d0c : (a0.toList != [101, 108, 115, 101]) = false := by unfold bne; rw [d0b]; rfl
     clear h d0
     go_enter Try.func111, Try.ntmps111
     go_wp2_with (first | ((with_reducible refine gate_callee (f := 114) rfl ?_); refine gl (some 4) Try.func114 #[.string a0] ?_; (with_reducible refine (impl_isKeyName.calls k a0 true _ A1.out).mono ?_); rintro e w' ⟨rfl, ⟨nd, rfl⟩⟩; refine ⟨_, rfl, ?_⟩))
     go_ret
     exact ⟨by first | rfl | (simp; done) | (simp [*]; done), by repeat (first | (with_reducible first | exact HB.out | apply below_alloc | apply pw_below_drewN | apply below_drew1) | exact HB.out)⟩
   · rw [if_neg d0] at h
     have d0b : (a0.toList == [101, 108, 115, 101]) = false := by rw [beq_eq_false_iff_ne]; exact d0
     have d0c : (a0.toList != [101, 108, 115, 101]) = true := by unfold bne; rw [d0b]; rfl
     clear d0
     by_cases d1 : a0.toList = [111, 114]
     · rw [if_pos d1] at h
       obtain rfl := Option.some.inj h
       have d1b : (a0.toList == [111, 114]) = true := by rw [beq_iff_eq]; exact d1
       have d1c : (a0.toList != [111, 114]) = false := by unfold bne; rw [d1b]; rfl
       clear h d1
       go_enter Try.func111, Try.ntmps111
       go_wp2_with (first | ((with_reducible refine gate_callee (f := 114) rfl ?_); refine gl (some 4) Try.func114 #[.string a0] ?_; (with_reducible refine (impl_isKeyName.calls k a0 true _ A1.out).mono ?_); rintro e w' ⟨rfl, ⟨nd, rfl⟩⟩; refine ⟨_, rfl, ?_⟩))
       go_ret
       exact ⟨by first | rfl | (simp; done) | (simp [*]; done), by repeat (first | (with_reducible first | exact HB.out | apply below_alloc | apply pw_below_drewN | apply below_drew1) | exact HB.out)⟩
     · rw [if_neg d1] at h
       have d1b : (a0.toList == [111, 114]) = false := by rw [beq_eq_false_iff_ne]; exact d1
       have d1c : (a0.toList != [111, 114]) = true := by unfold bne; rw [d1b]; rfl
       clear d1
       by_cases d2 : a0.toList = [97, 110, 100]
       · rw [if_pos d2] at h
         obtain rfl := Option.some.inj h
         have d2b : (a0.toList == [97, 110, 100]) = true := by rw [beq_iff_eq]; exact d2
         have d2c : (a0.toList != [97, 110, 100]) = false := by unfold bne; rw [d2b]; rfl
         clear h d2
         go_enter Try.func111, Try.ntmps111
         go_wp2_with (first | ((with_reducible refine gate_callee (f := 114) rfl ?_); refine gl (some 4) Try.func114 #[.string a0] ?_; (with_reducible refine (impl_isKeyName.calls k a0 true _ A1.out).mono ?_); rintro e w' ⟨rfl, ⟨nd, rfl⟩⟩; refine ⟨_, rfl, ?_⟩))
         go_ret
         exact ⟨by first | rfl | (simp; done) | (simp [*]; done), by repeat (first | (with_reducible first | exact HB.out | apply below_alloc | apply pw_below_drewN | apply below_drew1) | exact HB.out)⟩
       · rw [if_neg d2] at h
         have d2b : (a0.toList == [97, 110, 100]) = false := by rw [beq_eq_false_iff_ne]; exact d2
         have d2c : (a0.toList != [97, 110, 100]) = true := by unfold bne; rw [d2b]; rfl
         clear d2
         obtain ⟨y, A20, h⟩ := Option.bind_eq_some_iff.mp h
         have A2 := am A20
         clear A20
         obtain ⟨t2, A30, h⟩ := Option.bind_eq_some_iff.mp h
         have A3 := am A30
         clear A30
         by_cases c2 : t2 = true
         · subst c2
           rw [if_pos rfl] at h
           obtain rfl := Option.some.inj h
           clear h
           go_enter Try.func111, Try.ntmps111
           go_wp2_with (first | ((with_reducible refine gate_callee (f := 114) rfl ?_); refine gl (some 4) Try.func114 #[.string a0] ?_; (with_reducible refine (impl_isKeyName.calls k a0 true _ A1.out).mono ?_); rintro e w' ⟨rfl, ⟨nd, rfl⟩⟩; refine ⟨_, rfl, ?_⟩) | (go_at_call 115; (with_reducible refine (impl_statementWords.calls y _ A2.out).mono ?_); rintro e w1 ⟨vy, rfl, ho, hb⟩; have HOy := am (Kd.R_lower ho (below_size (bl HB.out))); replace HB := am (below_step (bl HB.out) hb); clear ho hb; obtain ⟨Ay, cy, ey⟩ := Kd.R_slice HOy.out; subst ey) | (go_at_call 87; (refine (slices_Contains_sstring_string.calls k Ay cy y a0 true _ (Kd.R_reads' HOy.out).2.2 (Kd.R_reads' HOy.out).2.1 A3.out).mono ?_); rintro e w' ⟨rfl, ⟨nd, rfl⟩⟩))
           go_ret
           exact ⟨by first | rfl | (simp; done) | (simp [*]; done), by repeat (first | (with_reducible first | exact HB.out | apply below_alloc | apply pw_below_drewN | apply below_drew1) | exact HB.out)⟩
         · rw [if_neg c2] at h
           obtain rfl : t2 = false := Bool.eq_false_iff.mpr c2
           clear c2
           obtain ⟨lv, hlv⟩ : ∃ lv, lv = leafR a0 leafL := ⟨_, rfl⟩
           rw [← hlv] at h
           have HLV := am hlv
           clear hlv
           by_cases c3 : lv = 0
           · rw [if_pos c3] at h
             by_cases c4 : 0 < a0.size
             · rw [if_pos c4] at h
               have c3b : (lv == 0) = true := by rw [beq_iff_eq]; exact c3
               have p0 : ((0 : Int) < (a0.size : Int)) = True := eq_true (by omega)
               obtain rfl := Option.some.inj h
               clear h c3
               go_enter Try.func111, Try.ntmps111
               go_wp2_with (first | ((with_reducible refine gate_callee (f := 114) rfl ?_); refine gl (some 4) Try.func114 #[.string a0] ?_; (with_reducible refine (impl_isKeyName.calls k a0 true _ A1.out).mono ?_); rintro e w' ⟨rfl, ⟨nd, rfl⟩⟩; refine ⟨_, rfl, ?_⟩) | (go_at_call 115; (with_reducible refine (impl_statementWords.calls y _ A2.out).mono ?_); rintro e w1 ⟨vy, rfl, ho, hb⟩; have HOy := am (Kd.R_lower ho (below_size (bl HB.out))); replace HB := am (below_step (bl HB.out) hb); clear ho hb; obtain ⟨Ay, cy, ey⟩ := Kd.R_slice HOy.out; subst ey) | (go_at_call 87; (refine (slices_Contains_sstring_string.calls k Ay cy y a0 false _ (Kd.R_reads' HOy.out).2.2 (Kd.R_reads' HOy.out).2.1 A3.out).mono ?_); rintro e w' ⟨rfl, ⟨nd, rfl⟩⟩) | (go_at_call 116; (refine (impl_leaves.calls _).mono ?_); rintro e w2 ⟨gm, rfl, hge, hbk, hb⟩; have hlk := run_leaf_ (P := Try.prog) w2 131 9 2 gm 5 a0 Try.underlying131 Try.underlying9 rfl hbk; rw [← HLV.out] at hlk; replace HB := am (below_step (bl HB.out) hb); clear hge hbk hb))
               go_ret
               exact ⟨by first | (rw [← bt_at a0 0 c4]; rfl) | rfl | (simp; done) | (simp [*]; done), by repeat (first | (with_reducible first | exact HB.out | apply below_alloc | apply pw_below_drewN | apply below_drew1) | exact HB.out)⟩
             · rw [if_neg c4] at h
               cases h
           · rw [if_neg c3] at h
             have c3b : (lv == 0) = false := by rw [beq_eq_false_iff_ne]; exact c3
             obtain rfl := Option.some.inj h
             clear h c3
             go_enter Try.func111, Try.ntmps111
             go_wp2_with (first | ((with_reducible refine gate_callee (f := 114) rfl ?_); refine gl (some 4) Try.func114 #[.string a0] ?_; (with_reducible refine (impl_isKeyName.calls k a0 true _ A1.out).mono ?_); rintro e w' ⟨rfl, ⟨nd, rfl⟩⟩; refine ⟨_, rfl, ?_⟩) | (go_at_call 115; (with_reducible refine (impl_statementWords.calls y _ A2.out).mono ?_); rintro e w1 ⟨vy, rfl, ho, hb⟩; have HOy := am (Kd.R_lower ho (below_size (bl HB.out))); replace HB := am (below_step (bl HB.out) hb); clear ho hb; obtain ⟨Ay, cy, ey⟩ := Kd.R_slice HOy.out; subst ey) | (go_at_call 87; (refine (slices_Contains_sstring_string.calls k Ay cy y a0 false _ (Kd.R_reads' HOy.out).2.2 (Kd.R_reads' HOy.out).2.1 A3.out).mono ?_); rintro e w' ⟨rfl, ⟨nd, rfl⟩⟩) | (go_at_call 116; (refine (impl_leaves.calls _).mono ?_); rintro e w2 ⟨gm, rfl, hge, hbk, hb⟩; have hlk := run_leaf_ (P := Try.prog) w2 131 9 2 gm 5 a0 Try.underlying131 Try.underlying9 rfl hbk; rw [← HLV.out] at hlk; replace HB := am (below_step (bl HB.out) hb); clear hge hbk hb))
             go_ret
             exact ⟨by first | rfl | (simp; done) | (simp [*]; done), by repeat (first | (with_reducible first | exact HB.out | apply below_alloc | apply pw_below_drewN | apply below_drew1) | exact HB.out)⟩
 · rw [if_neg c1] at h
   obtain rfl : t1 = false := Bool.eq_false_iff.mpr c1
   clear c1
   obtain rfl := Option.some.inj h
   clear h
   go_enter Try.func111, Try.ntmps111
   go_wp2_with (first | ((with_reducible refine gate_callee (f := 114) rfl ?_); refine gl (some 4) Try.func114 #[.string a0] ?_; (with_reducible refine (impl_isKeyName.calls k a0 false _ A1.out).mono ?_); rintro e w' ⟨rfl, ⟨nd, rfl⟩⟩; refine ⟨_, rfl, ?_⟩))
   go_ret
   exact ⟨by first | rfl | (simp; done) | (simp [*]; done), by repeat (first | (with_reducible first | exact HB.out | apply below_alloc | apply pw_below_drewN | apply below_drew1) | exact HB.out)⟩

/-! ### impl_moves: function 112 -/
def impl_moves.f  : Option (List ByteArray) := some (([(⟨#[108, 101, 102, 116]⟩ : ByteArray), (⟨#[114, 105, 103, 104, 116]⟩ : ByteArray), (⟨#[119, 111, 114, 100, 45, 98, 97, 99, 107]⟩ : ByteArray), (⟨#[119, 111, 114, 100, 45, 110, 101, 120, 116]⟩ : ByteArray), (⟨#[108, 105, 110, 101, 45, 115, 116, 97, 114, 116]⟩ : ByteArray), (⟨#[108, 105, 110, 101, 45, 101, 110, 100]⟩ : ByteArray), (⟨#[117, 112]⟩ : ByteArray), (⟨#[100, 111, 119, 110]⟩ : ByteArray), (⟨#[102, 105, 114, 115, 116]⟩ : ByteArray), (⟨#[108, 97, 115, 116]⟩ : ByteArray)] : List ByteArray))
theorem impl_moves.calls  (r : List ByteArray) (w : World) (h : impl_moves.f  = some r) :
  Calls Try.prog 112 #[] w fun e w' => ∃ v0_ : Value, e = .returned (v0_) ∧ Kd.R Kd.string 9 w' w.heap.size (fun _ => True) v0_ r ∧ Below w.heap.size w w' := by
 have HB := am (Below.refl w.heap.size w)
 have H : (some (([(⟨#[108, 101, 102, 116]⟩ : ByteArray), (⟨#[114, 105, 103, 104, 116]⟩ : ByteArray), (⟨#[119, 111, 114, 100, 45, 98, 97, 99, 107]⟩ : ByteArray), (⟨#[119, 111, 114, 100, 45, 110, 101, 120, 116]⟩ : ByteArray), (⟨#[108, 105, 110, 101, 45, 115, 116, 97, 114, 116]⟩ : ByteArray), (⟨#[108, 105, 110, 101, 45, 101, 110, 100]⟩ : ByteArray), (⟨#[117, 112]⟩ : ByteArray), (⟨#[100, 111, 119, 110]⟩ : ByteArray), (⟨#[102, 105, 114, 115, 116]⟩ : ByteArray), (⟨#[108, 97, 115, 116]⟩ : ByteArray)] : List ByteArray))) = some r := h
 clear h
 obtain ⟨y183, hy183⟩ : ∃ y_ : List ByteArray, y_ = (([(⟨#[108, 101, 102, 116]⟩ : ByteArray), (⟨#[114, 105, 103, 104, 116]⟩ : ByteArray), (⟨#[119, 111, 114, 100, 45, 98, 97, 99, 107]⟩ : ByteArray), (⟨#[119, 111, 114, 100, 45, 110, 101, 120, 116]⟩ : ByteArray), (⟨#[108, 105, 110, 101, 45, 115, 116, 97, 114, 116]⟩ : ByteArray), (⟨#[108, 105, 110, 101, 45, 101, 110, 100]⟩ : ByteArray), (⟨#[117, 112]⟩ : ByteArray), (⟨#[100, 111, 119, 110]⟩ : ByteArray), (⟨#[102, 105, 114, 115, 116]⟩ : ByteArray), (⟨#[108, 97, 115, 116]⟩ : ByteArray)] : List ByteArray)) := ⟨_, rfl⟩
 replace H : (some y183) = some r := by first | (rw [hy183]; with_reducible exact H) | (have H2_ := (Option.bind_some _ _).symm.trans H; rw [hy183]; with_reducible exact H2_) | (have H2_ := (Option.bind_some _ _).symm.trans H; with_reducible exact H2_) | with_reducible exact H | (rw [hy183]; exact H) | exact H
 have Ny183 := am hy183
 clear hy183
 obtain rfl := Option.some.inj H
 go_enter Try.func112, Try.ntmps112
 go_wp2_with (first | ((with_reducible refine gate_dst (N := 1) rfl ?_); refine Kd.R_lit Kd.string _ 9 ?hg (N := 1) ?hd (xs := ([(⟨#[108, 101, 102, 116]⟩ : ByteArray), (⟨#[114, 105, 103, 104, 116]⟩ : ByteArray), (⟨#[119, 111, 114, 100, 45, 98, 97, 99, 107]⟩ : ByteArray), (⟨#[119, 111, 114, 100, 45, 110, 101, 120, 116]⟩ : ByteArray), (⟨#[108, 105, 110, 101, 45, 115, 116, 97, 114, 116]⟩ : ByteArray), (⟨#[108, 105, 110, 101, 45, 101, 110, 100]⟩ : ByteArray), (⟨#[117, 112]⟩ : ByteArray), (⟨#[100, 111, 119, 110]⟩ : ByteArray), (⟨#[102, 105, 114, 115, 116]⟩ : ByteArray), (⟨#[108, 97, 115, 116]⟩ : ByteArray)] : List ByteArray)) (inner := [.string (⟨#[108, 101, 102, 116]⟩ : ByteArray), .string (⟨#[114, 105, 103, 104, 116]⟩ : ByteArray), .string (⟨#[119, 111, 114, 100, 45, 98, 97, 99, 107]⟩ : ByteArray), .string (⟨#[119, 111, 114, 100, 45, 110, 101, 120, 116]⟩ : ByteArray), .string (⟨#[108, 105, 110, 101, 45, 115, 116, 97, 114, 116]⟩ : ByteArray), .string (⟨#[108, 105, 110, 101, 45, 101, 110, 100]⟩ : ByteArray), .string (⟨#[117, 112]⟩ : ByteArray), .string (⟨#[100, 111, 119, 110]⟩ : ByteArray), .string (⟨#[102, 105, 114, 115, 116]⟩ : ByteArray), .string (⟨#[108, 97, 115, 116]⟩ : ByteArray)]) (ok := fun _ => True) (okp := fun _ => True) ?hr ?hp (fun _ hk => hk) trivial (Below.refl _ _) (Nat.le_refl _) (by simp) ?_; (case hd => rfl); (case hg => rfl); (case hr => first | (go_simp; done) | (go_simp; rfl)); (case hp => exact (Reps.one (show Kd.M Kd.string _ _ _ (⟨#[108, 101, 102, 116]⟩ : ByteArray) [.string (⟨#[108, 101, 102, 116]⟩ : ByteArray)] from rfl) (Reps.one (show Kd.M Kd.string _ _ _ (⟨#[114, 105, 103, 104, 116]⟩ : ByteArray) [.string (⟨#[114, 105, 103, 104, 116]⟩ : ByteArray)] from rfl) (Reps.one (show Kd.M Kd.string _ _ _ (⟨#[119, 111, 114, 100, 45, 98, 97, 99, 107]⟩ : ByteArray) [.string (⟨#[119, 111, 114, 100, 45, 98, 97, 99, 107]⟩ : ByteArray)] from rfl) (Reps.one (show Kd.M Kd.string _ _ _ (⟨#[119, 111, 114, 100, 45, 110, 101, 120, 116]⟩ : ByteArray) [.string (⟨#[119, 111, 114, 100, 45, 110, 101, 120, 116]⟩ : ByteArray)] from rfl) (Reps.one (show Kd.M Kd.string _ _ _ (⟨#[108, 105, 110, 101, 45, 115, 116, 97, 114, 116]⟩ : ByteArray) [.string (⟨#[108, 105, 110, 101, 45, 115, 116, 97, 114, 116]⟩ : ByteArray)] from rfl) (Reps.one (show Kd.M Kd.string _ _ _ (⟨#[108, 105, 110, 101, 45, 101, 110, 100]⟩ : ByteArray) [.string (⟨#[108, 105, 110, 101, 45, 101, 110, 100]⟩ : ByteArray)] from rfl) (Reps.one (show Kd.M Kd.string _ _ _ (⟨#[117, 112]⟩ : ByteArray) [.string (⟨#[117, 112]⟩ : ByteArray)] from rfl) (Reps.one (show Kd.M Kd.string _ _ _ (⟨#[100, 111, 119, 110]⟩ : ByteArray) [.string (⟨#[100, 111, 119, 110]⟩ : ByteArray)] from rfl) (Reps.one (show Kd.M Kd.string _ _ _ (⟨#[102, 105, 114, 115, 116]⟩ : ByteArray) [.string (⟨#[102, 105, 114, 115, 116]⟩ : ByteArray)] from rfl) (Reps.one (show Kd.M Kd.string _ _ _ (⟨#[108, 97, 115, 116]⟩ : ByteArray) [.string (⟨#[108, 97, 115, 116]⟩ : ByteArray)] from rfl) (Reps.none _ _)))))))))))); intro v184 w1 ho2 hb hg_ hnew_; clear hg_ hnew_; (first | rw [← Ny183.out] at ho2 | (simp only [Int.reduceToNat] at ho2; rw [← Ny183.out] at ho2)); have HO185 := am (Kd.R_lower ho2 (below_size (bl HB.out))); replace HB := am (below_step (bl HB.out) hb); clear hb ho2))
 go_ret
 exact ⟨_, by first | rfl | (simp [errW_none, errW_some] <;> rfl) | (simp [*, errW_none, errW_some] <;> rfl), kr HO185.out, by repeat (first | (with_reducible first | exact HB.out | apply below_alloc | apply pw_below_drewN | apply below_drew1) | exact HB.out)⟩

end Go.Proofs.Ytcjclihkaaaihaa.PFnExactNodesVars
