-- Written by xprint.py (this claim's own program, over the kit's printer); Lean checks it.
import Derived.Test.YtejgkbejdkaccaaPFnExactRingPopx0
import Derived.Test.YtejgkbejdkaccaaPFnExactRingPopx3
namespace Go.Proofs.Ytejgkbejdkaccaa.PFnExactRingPop
open Go.RowKit Go.Proofs.YtejgkbejdkaccaaW.PrintWords Go.Proofs.YtejgkbejdkaccaaW.PrintLast Go.Proofs.YtejgkbejdkaccaaW.PrintMore
attribute [local go_sem] max2_int min2_int max_two min_two max_three min_three max_four min_four   -- for this text's walks alone
set_option linter.unusedVariables false
set_option linter.unusedSimpArgs false   -- squeezed
set_option maxHeartbeats 8000000
set_option maxRecDepth 100000

/-! ### spec_l04Items: function 73 -/
def spec_l04Items.l0 : Nat → List (List Int) → Int → Option (Bool)
 | 0, _, _ => none
 | k + 1, x0, x5 => if x5 < (x0.length : Int) then (if 0 ≤ x5 then (if ((rd_L1 x0 x5).length : Int) = 0 then (some false) else ((spec_PointsRight.f k (rd_L1 x0 x5)).bind fun t198 => (if t198 = true then (spec_l04Items.l0 k x0 (wrap64 (x5 + 1))) else (some false)))) else (none)) else (some true)
def spec_l04Items.f (k : Nat) (l0 : List (List Int)) (a1 : Int) : Option (Bool) := if (l0.length : Int) > a1 then (some false) else (spec_l04Items.l0 k l0 0)
theorem spec_l04Items.mono_l : ∀ k, (∀ y0 y1, LeO (spec_l04Items.l0 k y0 y1) (spec_l04Items.l0 (k + 1) y0 y1))
 | 0 => fun _ _ r h => by simp [spec_l04Items.l0] at h
 | k + 1 => by
  have ih0 := spec_l04Items.mono_l k
  ·intro y0 y1
   unfold spec_l04Items.l0
   repeat' first
   | (with_reducible exact ih0 _ _)
   | (with_reducible exact spec_PointsRight.mono _ _)
   | (with_reducible exact LeO.refl _)
   | (with_reducible exact LeO.none _)
   | (with_reducible refine LeO.ite ?_ ?_)
   | (with_reducible refine LeO.bind ?_ (fun _ => ?_))
   | exact ih0 _ _
   | exact spec_PointsRight.mono _ _
   | refine LeO.bind ?_ (fun _ => ?_)
theorem spec_l04Items.mono : ∀ a0 a1 k, LeO (spec_l04Items.f k a0 a1) (spec_l04Items.f (k + 1) a0 a1) := by
 intro a0 a1 k
 have ih0 := spec_l04Items.mono_l k
 unfold spec_l04Items.f
 repeat' first
   | (with_reducible exact ih0 _ _)
   | (with_reducible exact spec_PointsRight.mono _ _)
   | (with_reducible exact LeO.refl _)
   | (with_reducible exact LeO.none _)
   | (with_reducible refine LeO.ite ?_ ?_)
   | (with_reducible refine LeO.bind ?_ (fun _ => ?_))
   | exact ih0 _ _
   | exact spec_PointsRight.mono _ _
   | refine LeO.bind ?_ (fun _ => ?_)
theorem spec_l04Items.calls (k : Nat) (A0 : Option Addr) (c0 : Nat) (l0 : List (List Int)) (a1 : Int) (r : Bool) (w : World) (hr0 : Kd.C (Kd.slice 2 (Kd.int .i64)) w A0 l0.length l0) (hc0 : l0.length ≤ c0) (h : spec_l04Items.f k l0 a1 = some r) :
  Calls Try.prog 73 #[.slice A0 l0.length c0, .int .i64 a1] w fun e w' => e = .returned (.bool r) ∧ Drawn0 w w' := by
 have HR0 := am hr0
 have HC0 := am hc0
 clear hr0 hc0
 have H : (if (l0.length : Int) > a1 then (some false) else (spec_l04Items.l0 k l0 0)) = some r := h
 clear h
 by_cases c3 : (l0.length : Int) > a1
 ·rw [if_pos c3] at H
  have c3b0 : decide (a1 < (l0.length : Int)) = true := decide_eq_true c3
  clear c3
  obtain rfl := Option.some.inj H
  go_enter Try.func73, Try.ntmps73
  go_wp2
  go_ret
  exact ⟨by first | rfl | (simp; done) | (simp [*]; done), by repeat (first | exact Drawn0.refl _ | apply Drawn0.step)⟩
 ·rw [if_neg c3] at H
  have c3b0 : decide (a1 < (l0.length : Int)) = false := decide_eq_false c3
  clear c3
  have H' := Aside0.mk H
  clear H
  go_enter Try.func73, Try.ntmps73
  go_wp2
  go_loopg [5] k (fun kq v5 w' => ∃ (x5_1 : Int), v5 = .int .i64 x5_1 ∧ Aside0 (spec_l04Items.l0 kq l0 x5_1 = some r) ∧ Aside0 (kq ≤ k) ∧ Drawn0 w w')
  case atStart => exact ⟨(0), (by first | rfl | (simp; done) | (simp [*]; done)), H', ⟨Nat.le_refl _⟩, by repeat (first | exact Drawn0.refl _ | apply Drawn0.step)⟩
  case round =>
   clear H'
   try clear p2
   try clear c3
   try clear c3b0
   obtain ⟨x5_1, rfl, HA, HK1, ⟨m1, rfl⟩⟩ := hrel
   cases gk with
   | zero => exact absurd HA.out (by simp [spec_l04Items.l0])
   | succ k1 =>
    have H := HA.out
    clear HA
    simp only [spec_l04Items.l0] at H
    by_cases c4 : x5_1 < (l0.length : Int)
    ·rw [if_pos c4] at H
     have c4b0 : decide (x5_1 < (l0.length : Int)) = true := decide_eq_true c4
     clear c4
     by_cases c5 : 0 ≤ x5_1
     ·rw [if_pos c5] at H
      have c5b0 : decide (0 ≤ x5_1) = true := decide_eq_true c5
      clear c5
      by_cases c6 : ((rd_L1 l0 x5_1).length : Int) = 0
      ·rw [if_pos c6] at H
       have c6b0 : (((rd_L1 l0 x5_1).length : Int) == 0) = true := beq_iff_eq.mpr c6
       have c6b1 : (((rd_L1 l0 x5_1).length : Int) != 0) = false := bne_eq_false_iff_eq.mpr c6
       clear c6
       obtain rfl := Option.some.inj H
       have p196 : 0 ≤ (x5_1 : Int) := of_decide_eq_true (by first | (with_reducible assumption) | assumption)
       have q196 : x5_1 < (l0.length : Int) := of_decide_eq_true (by first | (with_reducible assumption) | assumption)
       obtain ⟨ad196, A196_0, c196_0, e196, hx196_0, hl196_0, hi196_0⟩ := at_L1 HR0.out x5_1 p196 q196
       cases e196
       have HR196_0 := am hi196_0
       have HC196_0 := am hl196_0
       clear hi196_0 hl196_0
       replace p196 := eq_true p196
       replace q196 := eq_true q196
       go_wp2
       go_ret
       exact ⟨by first | rfl | (simp; done) | (simp [*]; done), by repeat (first | exact Drawn0.refl _ | apply Drawn0.step)⟩
      ·rw [if_neg c6] at H
       have c6b0 : (((rd_L1 l0 x5_1).length : Int) == 0) = false := beq_eq_false_iff_ne.mpr c6
       have c6b1 : (((rd_L1 l0 x5_1).length : Int) != 0) = true := bne_iff_ne.mpr c6
       have c6b2 : ¬ ((rd_L1 l0 x5_1) = []) := fun h_ => c6 (by rw [h_]; rfl)
       replace H := Option.bind_eq_some_iff.mp H
       obtain ⟨t198, A70, H⟩ := H
       replace H : (if t198 = true then (spec_l04Items.l0 k1 l0 (wrap64 (x5_1 + 1))) else (some false)) = some r := H
       have A7 := Aside0.mk A70
       clear A70
       by_cases c8 : t198 = true
       ·subst c8
        have H1 : (spec_l04Items.l0 k1 l0 (wrap64 (x5_1 + 1))) = some r := by rw [if_pos rfl] at H; exact H
        clear H
        have H := H1
        clear H1
        have H' := Aside0.mk H
        clear H
        have p196 : 0 ≤ (x5_1 : Int) := of_decide_eq_true (by first | (with_reducible assumption) | assumption)
        have q196 : x5_1 < (l0.length : Int) := of_decide_eq_true (by first | (with_reducible assumption) | assumption)
        obtain ⟨ad196, A196_0, c196_0, e196, hx196_0, hl196_0, hi196_0⟩ := at_L1 HR0.out x5_1 p196 q196
        cases e196
        have HR196_0 := am hi196_0
        have HC196_0 := am hl196_0
        clear hi196_0 hl196_0
        replace p196 := eq_true p196
        replace q196 := eq_true q196
        have p197 : 0 ≤ (x5_1 : Int) := of_decide_eq_true (by first | (with_reducible assumption) | assumption)
        have q197 : x5_1 < (l0.length : Int) := of_decide_eq_true (by first | (with_reducible assumption) | assumption)
        obtain ⟨ad197, A197_0, c197_0, e197, hx197_0, hl197_0, hi197_0⟩ := at_L1 HR0.out x5_1 p197 q197
        obtain rfl : ad196 = ad197 := (by injection e197)
        have HR197_0 := am hi197_0
        have HC197_0 := am hl197_0
        clear hi197_0 hl197_0
        replace p197 := eq_true p197
        replace q197 := eq_true q197
        (first | have ea_ := Option.some.inj (hx196_0.symm.trans hx197_0) | have ea_ := Option.some.inj (hxw196_0.symm.trans hxw197_0))
        injection ea_ with ea_ en_ ec_
        subst ea_
        subst ec_
        clear en_
        go_wp2_with (first | (go_at_call 42; (with_reducible refine (spec_PointsRight.calls k1 _ _ (rd_L1 l0 x5_1) true _ ?side1 ?side2 A7.out).mono ?_); (case side1 => repeat (first | exact HR197_0.out | (with_reducible refine Kd.C_alloc ?_ _) | (with_reducible refine Kd.C_drewN ?_ _) | (with_reducible refine Kd.C_drew ?_))); (case side2 => exact HC197_0.out); rintro e w' ⟨rfl, ⟨nd, rfl⟩⟩))
        go_roundg k1
        case measure => have := HK1.out; omega
        case rel => exact ⟨(wrap64 (x5_1 + 1)), (by first | rfl | (simp; done) | (simp [*]; done)), H', ⟨by have := HK1.out; omega⟩, by repeat (first | exact Drawn0.refl _ | apply Drawn0.step)⟩
       ·replace c8 := Bool.eq_false_iff.mpr c8
        subst c8
        have H1 : (some false) = some r := by rw [if_neg (show ¬ (false = true) by decide)] at H; exact H
        clear H
        have H := H1
        clear H1
        obtain rfl := Option.some.inj H
        have p196 : 0 ≤ (x5_1 : Int) := of_decide_eq_true (by first | (with_reducible assumption) | assumption)
        have q196 : x5_1 < (l0.length : Int) := of_decide_eq_true (by first | (with_reducible assumption) | assumption)
        obtain ⟨ad196, A196_0, c196_0, e196, hx196_0, hl196_0, hi196_0⟩ := at_L1 HR0.out x5_1 p196 q196
        cases e196
        have HR196_0 := am hi196_0
        have HC196_0 := am hl196_0
        clear hi196_0 hl196_0
        replace p196 := eq_true p196
        replace q196 := eq_true q196
        have p197 : 0 ≤ (x5_1 : Int) := of_decide_eq_true (by first | (with_reducible assumption) | assumption)
        have q197 : x5_1 < (l0.length : Int) := of_decide_eq_true (by first | (with_reducible assumption) | assumption)
        obtain ⟨ad197, A197_0, c197_0, e197, hx197_0, hl197_0, hi197_0⟩ := at_L1 HR0.out x5_1 p197 q197
        obtain rfl : ad196 = ad197 := (by injection e197)
        have HR197_0 := am hi197_0
        have HC197_0 := am hl197_0
        clear hi197_0 hl197_0
        replace p197 := eq_true p197
        replace q197 := eq_true q197
        (first | have ea_ := Option.some.inj (hx196_0.symm.trans hx197_0) | have ea_ := Option.some.inj (hxw196_0.symm.trans hxw197_0))
        injection ea_ with ea_ en_ ec_
        subst ea_
        subst ec_
        clear en_
        go_wp2_with (first | (go_at_call 42; (with_reducible refine (spec_PointsRight.calls k1 _ _ (rd_L1 l0 x5_1) false _ ?side1 ?side2 A7.out).mono ?_); (case side1 => repeat (first | exact HR197_0.out | (with_reducible refine Kd.C_alloc ?_ _) | (with_reducible refine Kd.C_drewN ?_ _) | (with_reducible refine Kd.C_drew ?_))); (case side2 => exact HC197_0.out); rintro e w' ⟨rfl, ⟨nd, rfl⟩⟩))
        go_ret
        exact ⟨by first | rfl | (simp; done) | (simp [*]; done), by repeat (first | exact Drawn0.refl _ | apply Drawn0.step)⟩
     ·rw [if_neg c5] at H
      exact absurd H (by simp)
    ·rw [if_neg c4] at H
     have c4b0 : decide (x5_1 < (l0.length : Int)) = false := decide_eq_false c4
     clear c4
     obtain rfl := Option.some.inj H
     go_wp2
     go_ret
     exact ⟨by first | rfl | (simp; done) | (simp [*]; done), by repeat (first | exact Drawn0.refl _ | apply Drawn0.step)⟩

/-! ### spec_RingRight: function 51 -/
def spec_RingRight.f (k : Nat) (l0_0 : List (List Int)) (a0_1 : Int) : Option (Bool) := (spec_l04Items.f k l0_0 10).bind fun t200 => (if t200 = true then (if a0_1 ≥ 0 then (if a0_1 < (l0_0.length : Int) then (some true) else (if a0_1 = 0 then (some ((l0_0.length : Int) == 0)) else (some false))) else (some false)) else (some false))
theorem spec_RingRight.mono : ∀ a0 a1 k, LeO (spec_RingRight.f k a0 a1) (spec_RingRight.f (k + 1) a0 a1) := by
 intro a0 a1 k
 unfold spec_RingRight.f
 repeat' first
   | (with_reducible exact spec_l04Items.mono _ _ _)
   | (with_reducible exact LeO.refl _)
   | (with_reducible exact LeO.none _)
   | (with_reducible refine LeO.ite ?_ ?_)
   | (with_reducible refine LeO.bind ?_ (fun _ => ?_))
   | exact spec_l04Items.mono _ _ _
   | refine LeO.bind ?_ (fun _ => ?_)
theorem spec_RingRight.calls (k : Nat) (A0_0 : Option Addr) (c0_0 : Nat) (l0_0 : List (List Int)) (a0_1 : Int) (r : Bool) (w : World) (hr0_0 : Kd.C (Kd.slice 2 (Kd.int .i64)) w A0_0 l0_0.length l0_0) (hc0_0 : l0_0.length ≤ c0_0) (h : spec_RingRight.f k l0_0 a0_1 = some r) :
  Calls Try.prog 51 #[.agg #[.slice A0_0 l0_0.length c0_0, .int .i64 a0_1]] w fun e w' => e = .returned (.bool r) ∧ Below w.heap.size w w' := by
 have hu50 := Try.underlying50
 have HR0_0 := am hr0_0
 have HC0_0 := am hc0_0
 clear hr0_0 hc0_0
 have HB := am (Below.refl w.heap.size w)
 have H : ((spec_l04Items.f k l0_0 10).bind fun t200 => (if t200 = true then (if a0_1 ≥ 0 then (if a0_1 < (l0_0.length : Int) then (some true) else (if a0_1 = 0 then (some ((l0_0.length : Int) == 0)) else (some false))) else (some false)) else (some false))) = some r := h
 clear h
 replace H := Option.bind_eq_some_iff.mp H
 obtain ⟨t200, A20, H⟩ := H
 replace H : (if t200 = true then (if a0_1 ≥ 0 then (if a0_1 < (l0_0.length : Int) then (some true) else (if a0_1 = 0 then (some ((l0_0.length : Int) == 0)) else (some false))) else (some false)) else (some false)) = some r := H
 have A2 := Aside0.mk A20
 clear A20
 by_cases c3 : t200 = true
 ·subst c3
  have H1 : (if a0_1 ≥ 0 then (if a0_1 < (l0_0.length : Int) then (some true) else (if a0_1 = 0 then (some ((l0_0.length : Int) == 0)) else (some false))) else (some false)) = some r := by rw [if_pos rfl] at H; exact H
  clear H
  have H := H1
  clear H1
  by_cases c4 : a0_1 ≥ 0
  ·rw [if_pos c4] at H
   have c4b0 : decide (0 ≤ a0_1) = true := decide_eq_true c4
   clear c4
   by_cases c5 : a0_1 < (l0_0.length : Int)
   ·rw [if_pos c5] at H
    have c5b0 : decide (a0_1 < (l0_0.length : Int)) = true := decide_eq_true c5
    clear c5
    obtain rfl := Option.some.inj H
    go_enter Try.func51, Try.ntmps51
    go_wp2_with (first | ((with_reducible refine gate_dst (N := 1) rfl ?_); (try (refine gate_guard (by rfl) ?_; dsimp only)); refine box_event ?hg (N := 1) ?hd (cs := #[.slice A0_0 l0_0.length c0_0, .int .i64 a0_1]) (t := 50) ?hr ?_; (case hd => rfl); (case hg => rfl); (case hr => first | (go_simp; done) | (go_simp; rfl)); intro gb199 hg w6 hbox hb; have BK199 := am (hbox); have GW199 := am ((by rw [hg]; exact (below_size (bl HB.out)) : w.heap.size ≤ gb199)); have GE199 := GW199; replace HB := am (below_step (bl HB.out) hb); clear hb hbox hg; have hcz7_0 : w6.cell? ⟨gb199, 0, none⟩ = some (.slice A0_0 l0_0.length c0_0) := bc BK199.out 0; have hcz7_1 : w6.cell? ⟨gb199, 1, none⟩ = some (.int .i64 a0_1) := bc BK199.out 1) | ((with_reducible refine gate_callee (f := 73) rfl ?_); refine gl (some 5) Try.func73 #[.slice A0_0 l0_0.length c0_0, .int .i64 10] ?_; (with_reducible refine (spec_l04Items.calls k _ _ l0_0 10 true _ ?side1 ?side2 A2.out).mono ?_); (case side1 => repeat (first | exact (Kd.C_below HR0_0.out HB.out) | (with_reducible refine Kd.C_alloc ?_ _) | (with_reducible refine Kd.C_drewN ?_ _) | (with_reducible refine Kd.C_drew ?_))); (case side2 => exact HC0_0.out); rintro e w' ⟨rfl, ⟨nd, rfl⟩⟩; refine ⟨_, rfl, ?_⟩))
    go_ret
    exact ⟨by first | rfl | (simp [errW_none, errW_some] <;> rfl) | (simp [*, errW_none, errW_some] <;> rfl), by repeat (first | (with_reducible first | exact HB.out | apply below_alloc | apply pw_below_drewN | apply below_drew1 | refine below_set ?_ GE199.out) | exact HB.out)⟩
   ·rw [if_neg c5] at H
    have c5b0 : decide (a0_1 < (l0_0.length : Int)) = false := decide_eq_false c5
    clear c5
    by_cases c8 : a0_1 = 0
    ·rw [if_pos c8] at H
     have c8b0 : (a0_1 == 0) = true := beq_iff_eq.mpr c8
     have c8b1 : (a0_1 != 0) = false := bne_eq_false_iff_eq.mpr c8
     clear c8
     obtain rfl := Option.some.inj H
     go_enter Try.func51, Try.ntmps51
     go_wp2_with (first | ((with_reducible refine gate_dst (N := 1) rfl ?_); (try (refine gate_guard (by rfl) ?_; dsimp only)); refine box_event ?hg (N := 1) ?hd (cs := #[.slice A0_0 l0_0.length c0_0, .int .i64 a0_1]) (t := 50) ?hr ?_; (case hd => rfl); (case hg => rfl); (case hr => first | (go_simp; done) | (go_simp; rfl)); intro gb199 hg w9 hbox hb; have BK199 := am (hbox); have GW199 := am ((by rw [hg]; exact (below_size (bl HB.out)) : w.heap.size ≤ gb199)); have GE199 := GW199; replace HB := am (below_step (bl HB.out) hb); clear hb hbox hg; have hcz10_0 : w9.cell? ⟨gb199, 0, none⟩ = some (.slice A0_0 l0_0.length c0_0) := bc BK199.out 0; have hcz10_1 : w9.cell? ⟨gb199, 1, none⟩ = some (.int .i64 a0_1) := bc BK199.out 1) | ((with_reducible refine gate_callee (f := 73) rfl ?_); refine gl (some 5) Try.func73 #[.slice A0_0 l0_0.length c0_0, .int .i64 10] ?_; (with_reducible refine (spec_l04Items.calls k _ _ l0_0 10 true _ ?side1 ?side2 A2.out).mono ?_); (case side1 => repeat (first | exact (Kd.C_below HR0_0.out HB.out) | (with_reducible refine Kd.C_alloc ?_ _) | (with_reducible refine Kd.C_drewN ?_ _) | (with_reducible refine Kd.C_drew ?_))); (case side2 => exact HC0_0.out); rintro e w' ⟨rfl, ⟨nd, rfl⟩⟩; refine ⟨_, rfl, ?_⟩))
     go_ret
     exact ⟨by first | rfl | (simp [errW_none, errW_some] <;> rfl) | (simp [*, errW_none, errW_some] <;> rfl), by repeat (first | (with_reducible first | exact HB.out | apply below_alloc | apply pw_below_drewN | apply below_drew1 | refine below_set ?_ GE199.out) | exact HB.out)⟩
    ·rw [if_neg c8] at H
     have c8b0 : (a0_1 == 0) = false := beq_eq_false_iff_ne.mpr c8
     have c8b1 : (a0_1 != 0) = true := bne_iff_ne.mpr c8
     obtain rfl := Option.some.inj H
     go_enter Try.func51, Try.ntmps51
     go_wp2_with (first | ((with_reducible refine gate_dst (N := 1) rfl ?_); (try (refine gate_guard (by rfl) ?_; dsimp only)); refine box_event ?hg (N := 1) ?hd (cs := #[.slice A0_0 l0_0.length c0_0, .int .i64 a0_1]) (t := 50) ?hr ?_; (case hd => rfl); (case hg => rfl); (case hr => first | (go_simp; done) | (go_simp; rfl)); intro gb199 hg w11 hbox hb; have BK199 := am (hbox); have GW199 := am ((by rw [hg]; exact (below_size (bl HB.out)) : w.heap.size ≤ gb199)); have GE199 := GW199; replace HB := am (below_step (bl HB.out) hb); clear hb hbox hg; have hcz12_0 : w11.cell? ⟨gb199, 0, none⟩ = some (.slice A0_0 l0_0.length c0_0) := bc BK199.out 0; have hcz12_1 : w11.cell? ⟨gb199, 1, none⟩ = some (.int .i64 a0_1) := bc BK199.out 1) | ((with_reducible refine gate_callee (f := 73) rfl ?_); refine gl (some 5) Try.func73 #[.slice A0_0 l0_0.length c0_0, .int .i64 10] ?_; (with_reducible refine (spec_l04Items.calls k _ _ l0_0 10 true _ ?side1 ?side2 A2.out).mono ?_); (case side1 => repeat (first | exact (Kd.C_below HR0_0.out HB.out) | (with_reducible refine Kd.C_alloc ?_ _) | (with_reducible refine Kd.C_drewN ?_ _) | (with_reducible refine Kd.C_drew ?_))); (case side2 => exact HC0_0.out); rintro e w' ⟨rfl, ⟨nd, rfl⟩⟩; refine ⟨_, rfl, ?_⟩))
     go_ret
     exact ⟨by first | rfl | (simp [errW_none, errW_some] <;> rfl) | (simp [*, errW_none, errW_some] <;> rfl), by repeat (first | (with_reducible first | exact HB.out | apply below_alloc | apply pw_below_drewN | apply below_drew1 | refine below_set ?_ GE199.out) | exact HB.out)⟩
  ·rw [if_neg c4] at H
   have c4b0 : decide (0 ≤ a0_1) = false := decide_eq_false c4
   clear c4
   obtain rfl := Option.some.inj H
   go_enter Try.func51, Try.ntmps51
   go_wp2_with (first | ((with_reducible refine gate_dst (N := 1) rfl ?_); (try (refine gate_guard (by rfl) ?_; dsimp only)); refine box_event ?hg (N := 1) ?hd (cs := #[.slice A0_0 l0_0.length c0_0, .int .i64 a0_1]) (t := 50) ?hr ?_; (case hd => rfl); (case hg => rfl); (case hr => first | (go_simp; done) | (go_simp; rfl)); intro gb199 hg w13 hbox hb; have BK199 := am (hbox); have GW199 := am ((by rw [hg]; exact (below_size (bl HB.out)) : w.heap.size ≤ gb199)); have GE199 := GW199; replace HB := am (below_step (bl HB.out) hb); clear hb hbox hg; have hcz14_0 : w13.cell? ⟨gb199, 0, none⟩ = some (.slice A0_0 l0_0.length c0_0) := bc BK199.out 0; have hcz14_1 : w13.cell? ⟨gb199, 1, none⟩ = some (.int .i64 a0_1) := bc BK199.out 1) | ((with_reducible refine gate_callee (f := 73) rfl ?_); refine gl (some 5) Try.func73 #[.slice A0_0 l0_0.length c0_0, .int .i64 10] ?_; (with_reducible refine (spec_l04Items.calls k _ _ l0_0 10 true _ ?side1 ?side2 A2.out).mono ?_); (case side1 => repeat (first | exact (Kd.C_below HR0_0.out HB.out) | (with_reducible refine Kd.C_alloc ?_ _) | (with_reducible refine Kd.C_drewN ?_ _) | (with_reducible refine Kd.C_drew ?_))); (case side2 => exact HC0_0.out); rintro e w' ⟨rfl, ⟨nd, rfl⟩⟩; refine ⟨_, rfl, ?_⟩))
   go_ret
   exact ⟨by first | rfl | (simp [errW_none, errW_some] <;> rfl) | (simp [*, errW_none, errW_some] <;> rfl), by repeat (first | (with_reducible first | exact HB.out | apply below_alloc | apply pw_below_drewN | apply below_drew1 | refine below_set ?_ GE199.out) | exact HB.out)⟩
 ·replace c3 := Bool.eq_false_iff.mpr c3
  subst c3
  have H1 : (some false) = some r := by rw [if_neg (show ¬ (false = true) by decide)] at H; exact H
  clear H
  have H := H1
  clear H1
  obtain rfl := Option.some.inj H
  go_enter Try.func51, Try.ntmps51
  go_wp2_with (first | ((with_reducible refine gate_dst (N := 1) rfl ?_); (try (refine gate_guard (by rfl) ?_; dsimp only)); refine box_event ?hg (N := 1) ?hd (cs := #[.slice A0_0 l0_0.length c0_0, .int .i64 a0_1]) (t := 50) ?hr ?_; (case hd => rfl); (case hg => rfl); (case hr => first | (go_simp; done) | (go_simp; rfl)); intro gb199 hg w15 hbox hb; have BK199 := am (hbox); have GW199 := am ((by rw [hg]; exact (below_size (bl HB.out)) : w.heap.size ≤ gb199)); have GE199 := GW199; replace HB := am (below_step (bl HB.out) hb); clear hb hbox hg; have hcz16_0 : w15.cell? ⟨gb199, 0, none⟩ = some (.slice A0_0 l0_0.length c0_0) := bc BK199.out 0; have hcz16_1 : w15.cell? ⟨gb199, 1, none⟩ = some (.int .i64 a0_1) := bc BK199.out 1) | ((with_reducible refine gate_callee (f := 73) rfl ?_); refine gl (some 5) Try.func73 #[.slice A0_0 l0_0.length c0_0, .int .i64 10] ?_; (with_reducible refine (spec_l04Items.calls k _ _ l0_0 10 false _ ?side1 ?side2 A2.out).mono ?_); (case side1 => repeat (first | exact (Kd.C_below HR0_0.out HB.out) | (with_reducible refine Kd.C_alloc ?_ _) | (with_reducible refine Kd.C_drewN ?_ _) | (with_reducible refine Kd.C_drew ?_))); (case side2 => exact HC0_0.out); rintro e w' ⟨rfl, ⟨nd, rfl⟩⟩; refine ⟨_, rfl, ?_⟩))
  go_ret
  exact ⟨by first | rfl | (simp [errW_none, errW_some] <;> rfl) | (simp [*, errW_none, errW_some] <;> rfl), by repeat (first | (with_reducible first | exact HB.out | apply below_alloc | apply pw_below_drewN | apply below_drew1 | refine below_set ?_ GE199.out) | exact HB.out)⟩

/-! ### spec_RingTop: function 52 -/
def spec_RingTop.f (k : Nat) (l0_0 : List (List Int)) (a0_1 : Int) : Option (List Int) := (spec_RingRight.f k l0_0 a0_1).bind fun t202 => (if t202 = true then (if (l0_0.length : Int) = 0 then (some (([] : List Int))) else (if 0 ≤ a0_1 then (if a0_1 < (l0_0.length : Int) then ((spec_l01Copy.f (rd_L1 l0_0 a0_1)).bind fun t207 => (some t207)) else (none)) else (none))) else (some (([] : List Int))))
theorem spec_RingTop.mono : ∀ a0 a1 k, LeO (spec_RingTop.f k a0 a1) (spec_RingTop.f (k + 1) a0 a1) := by
 intro a0 a1 k
 unfold spec_RingTop.f
 repeat' first
   | (with_reducible exact spec_RingRight.mono _ _ _)
   | (with_reducible exact LeO.refl _)
   | (with_reducible exact LeO.none _)
   | (with_reducible refine LeO.ite ?_ ?_)
   | (with_reducible refine LeO.bind ?_ (fun _ => ?_))
   | exact spec_RingRight.mono _ _ _
   | refine LeO.bind ?_ (fun _ => ?_)
theorem spec_RingTop.calls (k : Nat) (A0_0 : Option Addr) (c0_0 : Nat) (l0_0 : List (List Int)) (a0_1 : Int) (r : List Int) (w : World) (hr0_0 : Kd.C (Kd.slice 2 (Kd.int .i64)) w A0_0 l0_0.length l0_0) (hc0_0 : l0_0.length ≤ c0_0) (h : spec_RingTop.f k l0_0 a0_1 = some r) :
  Calls Try.prog 52 #[.agg #[.slice A0_0 l0_0.length c0_0, .int .i64 a0_1]] w fun e w' => ∃ v0_ : Value, e = .returned (v0_) ∧ Kd.R (Kd.int .i64) 2 w' w.heap.size (fun _ => True) v0_ r ∧ Below w.heap.size w w' := by
 have hu50 := Try.underlying50
 have HR0_0 := am hr0_0
 have HC0_0 := am hc0_0
 clear hr0_0 hc0_0
 have HB := am (Below.refl w.heap.size w)
 have H : ((spec_RingRight.f k l0_0 a0_1).bind fun t202 => (if t202 = true then (if (l0_0.length : Int) = 0 then (some (([] : List Int))) else (if 0 ≤ a0_1 then (if a0_1 < (l0_0.length : Int) then ((spec_l01Copy.f (rd_L1 l0_0 a0_1)).bind fun t207 => (some t207)) else (none)) else (none))) else (some (([] : List Int))))) = some r := h
 clear h
 replace H := Option.bind_eq_some_iff.mp H
 obtain ⟨t202, A20, H⟩ := H
 replace H : (if t202 = true then (if (l0_0.length : Int) = 0 then (some (([] : List Int))) else (if 0 ≤ a0_1 then (if a0_1 < (l0_0.length : Int) then ((spec_l01Copy.f (rd_L1 l0_0 a0_1)).bind fun t207 => (some t207)) else (none)) else (none))) else (some (([] : List Int)))) = some r := H
 have A2 := Aside0.mk A20
 clear A20
 by_cases c3 : t202 = true
 ·subst c3
  have H1 : (if (l0_0.length : Int) = 0 then (some (([] : List Int))) else (if 0 ≤ a0_1 then (if a0_1 < (l0_0.length : Int) then ((spec_l01Copy.f (rd_L1 l0_0 a0_1)).bind fun t207 => (some t207)) else (none)) else (none))) = some r := by rw [if_pos rfl] at H; exact H
  clear H
  have H := H1
  clear H1
  by_cases c4 : (l0_0.length : Int) = 0
  ·rw [if_pos c4] at H
   have c4b0 : ((l0_0.length : Int) == 0) = true := beq_iff_eq.mpr c4
   have c4b1 : ((l0_0.length : Int) != 0) = false := bne_eq_false_iff_eq.mpr c4
   clear c4
   obtain ⟨y203, hy203⟩ : ∃ y_ : List Int, y_ = (([] : List Int)) := ⟨_, rfl⟩
   replace H : (some y203) = some r := by first | (rw [hy203]; with_reducible exact H) | (have H2_ := (Option.bind_some _ _).symm.trans H; rw [hy203]; with_reducible exact H2_) | (have H2_ := (Option.bind_some _ _).symm.trans H; with_reducible exact H2_) | with_reducible exact H | (rw [hy203]; exact H) | exact H
   have Ny203 := am hy203
   clear hy203
   obtain rfl := Option.some.inj H
   go_enter Try.func52, Try.ntmps52
   go_wp2_with (first | ((with_reducible refine gate_dst (N := 1) rfl ?_); (try (refine gate_guard (by rfl) ?_; dsimp only)); refine box_event ?hg (N := 1) ?hd (cs := #[.slice A0_0 l0_0.length c0_0, .int .i64 a0_1]) (t := 50) ?hr ?_; (case hd => rfl); (case hg => rfl); (case hr => first | (go_simp; done) | (go_simp; rfl)); intro gb201 hg w5 hbox hb; have BK201 := am (hbox); have GW201 := am ((by rw [hg]; exact (below_size (bl HB.out)) : w.heap.size ≤ gb201)); have GE201 := GW201; replace HB := am (below_step (bl HB.out) hb); clear hb hbox hg; have hcz6_0 : w5.cell? ⟨gb201, 0, none⟩ = some (.slice A0_0 l0_0.length c0_0) := bc BK201.out 0; have hcz6_1 : w5.cell? ⟨gb201, 1, none⟩ = some (.int .i64 a0_1) := bc BK201.out 1) | ((with_reducible refine gate_callee (f := 51) rfl ?_); refine gl (some 4) Try.func51 #[.agg #[.slice A0_0 l0_0.length c0_0, .int .i64 a0_1]] ?_; (with_reducible refine (spec_RingRight.calls k _ _ l0_0 a0_1 true _ ?side1 ?side2 A2.out).mono ?_); (case side1 => repeat (first | exact (Kd.C_below HR0_0.out HB.out) | (with_reducible refine Kd.C_alloc ?_ _) | (with_reducible refine Kd.C_drewN ?_ _) | (with_reducible refine Kd.C_drew ?_))); (case side2 => exact HC0_0.out); rintro e w7 ⟨rfl, hb⟩; refine ⟨_, rfl, ?_⟩; replace BK201 := am (blk_below (pk BK201.out) hb); replace HB := am (below_step (bl HB.out) hb); (try clear hb); (try clear hb2); (try clear hk); (try clear hi); have hcz8_0 : w7.cell? ⟨gb201, 0, none⟩ = some (.slice A0_0 l0_0.length c0_0) := bc BK201.out 0; have hcz8_1 : w7.cell? ⟨gb201, 1, none⟩ = some (.int .i64 a0_1) := bc BK201.out 1) | ((with_reducible refine gate_dst (N := 12) rfl ?_); (try (refine gate_guard (by rfl) ?_; dsimp only)); refine Kd.R_lit (Kd.int .i64) _ 2 ?hg (N := 12) ?hd (xs := ([] : List Int)) (inner := []) (ok := fun _ => True) (okp := fun _ => True) ?hr ?hp (fun _ hk => hk) trivial (Below.refl _ _) (Nat.le_refl _) (by simp) ?_; (case hd => rfl); (case hg => rfl); (case hr => first | (go_simp; done) | (go_simp; rfl)); (case hp => exact (Reps.none _ _)); intro v204 w9 ho10 hb hg_ hnew_; clear hg_ hnew_; (first | rw [← Ny203.out] at ho10 | (simp only [Int.reduceToNat] at ho10; rw [← Ny203.out] at ho10)); have HO205 := am (Kd.R_lower ho10 (below_size (bl HB.out))); replace BK201 := am (blk_below (pk BK201.out) hb); replace HB := am (below_step (bl HB.out) hb); clear hb ho10))
   go_ret
   exact ⟨_, by first | rfl | (simp [errW_none, errW_some] <;> rfl) | (simp [*, errW_none, errW_some] <;> rfl), kr HO205.out, by repeat (first | (with_reducible first | exact HB.out | apply below_alloc | apply pw_below_drewN | apply below_drew1 | refine below_set ?_ GE201.out) | exact HB.out)⟩
  ·rw [if_neg c4] at H
   have c4b0 : ((l0_0.length : Int) == 0) = false := beq_eq_false_iff_ne.mpr c4
   have c4b1 : ((l0_0.length : Int) != 0) = true := bne_iff_ne.mpr c4
   have c4b2 : ¬ (l0_0 = []) := fun h_ => c4 (by rw [h_]; rfl)
   by_cases c11 : 0 ≤ a0_1
   ·rw [if_pos c11] at H
    have c11b0 : decide (0 ≤ a0_1) = true := decide_eq_true c11
    clear c11
    by_cases c12 : a0_1 < (l0_0.length : Int)
    ·rw [if_pos c12] at H
     have c12b0 : decide (a0_1 < (l0_0.length : Int)) = true := decide_eq_true c12
     clear c12
     replace H := Option.bind_eq_some_iff.mp H
     obtain ⟨t207, A130, H⟩ := H
     replace H : (some t207) = some r := H
     have A13 := Aside0.mk A130
     clear A130
     obtain rfl := Option.some.inj H
     go_enter Try.func52, Try.ntmps52
     go_wp2_with (first | ((with_reducible refine gate_dst (N := 1) rfl ?_); (try (refine gate_guard (by rfl) ?_; dsimp only)); refine box_event ?hg (N := 1) ?hd (cs := #[.slice A0_0 l0_0.length c0_0, .int .i64 a0_1]) (t := 50) ?hr ?_; (case hd => rfl); (case hg => rfl); (case hr => first | (go_simp; done) | (go_simp; rfl)); intro gb201 hg w14 hbox hb; have BK201 := am (hbox); have GW201 := am ((by rw [hg]; exact (below_size (bl HB.out)) : w.heap.size ≤ gb201)); have GE201 := GW201; replace HB := am (below_step (bl HB.out) hb); clear hb hbox hg; have hcz15_0 : w14.cell? ⟨gb201, 0, none⟩ = some (.slice A0_0 l0_0.length c0_0) := bc BK201.out 0; have hcz15_1 : w14.cell? ⟨gb201, 1, none⟩ = some (.int .i64 a0_1) := bc BK201.out 1) | ((with_reducible refine gate_callee (f := 51) rfl ?_); refine gl (some 4) Try.func51 #[.agg #[.slice A0_0 l0_0.length c0_0, .int .i64 a0_1]] ?_; (with_reducible refine (spec_RingRight.calls k _ _ l0_0 a0_1 true _ ?side1 ?side2 A2.out).mono ?_); (case side1 => repeat (first | exact (Kd.C_below HR0_0.out HB.out) | (with_reducible refine Kd.C_alloc ?_ _) | (with_reducible refine Kd.C_drewN ?_ _) | (with_reducible refine Kd.C_drew ?_))); (case side2 => exact HC0_0.out); rintro e w16 ⟨rfl, hb⟩; refine ⟨_, rfl, ?_⟩; replace BK201 := am (blk_below (pk BK201.out) hb); replace HB := am (below_step (bl HB.out) hb); (try clear hb); (try clear hb2); (try clear hk); (try clear hi); have hcz17_0 : w16.cell? ⟨gb201, 0, none⟩ = some (.slice A0_0 l0_0.length c0_0) := bc BK201.out 0; have hcz17_1 : w16.cell? ⟨gb201, 1, none⟩ = some (.int .i64 a0_1) := bc BK201.out 1; have p206 : 0 ≤ (a0_1 : Int) := of_decide_eq_true (by first | (with_reducible assumption) | assumption); have q206 : a0_1 < (l0_0.length : Int) := of_decide_eq_true (by first | (with_reducible assumption) | assumption); obtain ⟨ad206, A206_0, c206_0, e206, hx206_0, hl206_0, hi206_0⟩ := at_L1 HR0_0.out a0_1 p206 q206; cases e206; have hxw206_0 := hx206_0; replace hx206_0 := (HB.out.cell (World.block_lt_of_cell? w _ hx206_0)).trans hx206_0; have HR206_0 := am hi206_0; have HC206_0 := am hl206_0; clear hi206_0 hl206_0; replace p206 := eq_true p206; replace q206 := eq_true q206) | ((with_reducible refine gate_callee (f := 44) rfl ?_); refine gl (some 19) Try.func44 #[.slice A206_0 (rd_L1 l0_0 a0_1).length c206_0] ?_; (with_reducible refine (spec_l01Copy.calls _ _ (rd_L1 l0_0 a0_1) t207 _ ?side1 ?side2 A13.out).mono ?_); (case side1 => repeat (first | exact (Kd.C_below HR206_0.out HB.out) | (with_reducible refine Kd.C_alloc ?_ _) | (with_reducible refine Kd.C_drewN ?_ _) | (with_reducible refine Kd.C_drew ?_))); (case side2 => exact HC206_0.out); rintro e w18 ⟨v208, rfl, ho0, hb⟩; refine ⟨_, rfl, ?_⟩; have HO209 := am (Kd.R_lower ho0 (below_size (bl HB.out))); replace BK201 := am (blk_below (pk BK201.out) hb); replace HB := am (below_step (bl HB.out) hb); (try clear hb); (try clear hb2); (try clear hk); (try clear hi); (try clear ho0)))
     go_ret
     exact ⟨_, by first | rfl | (simp [errW_none, errW_some] <;> rfl) | (simp [*, errW_none, errW_some] <;> rfl), kr HO209.out, by repeat (first | (with_reducible first | exact HB.out | apply below_alloc | apply pw_below_drewN | apply below_drew1 | refine below_set ?_ GE201.out) | exact HB.out)⟩
    ·rw [if_neg c12] at H
     exact absurd H (by simp)
   ·rw [if_neg c11] at H
    exact absurd H (by simp)
 ·replace c3 := Bool.eq_false_iff.mpr c3
  subst c3
  have H1 : (some (([] : List Int))) = some r := by rw [if_neg (show ¬ (false = true) by decide)] at H; exact H
  clear H
  have H := H1
  clear H1
  obtain ⟨y210, hy210⟩ : ∃ y_ : List Int, y_ = (([] : List Int)) := ⟨_, rfl⟩
  replace H : (some y210) = some r := by first | (rw [hy210]; with_reducible exact H) | (have H2_ := (Option.bind_some _ _).symm.trans H; rw [hy210]; with_reducible exact H2_) | (have H2_ := (Option.bind_some _ _).symm.trans H; with_reducible exact H2_) | with_reducible exact H | (rw [hy210]; exact H) | exact H
  have Ny210 := am hy210
  clear hy210
  obtain rfl := Option.some.inj H
  go_enter Try.func52, Try.ntmps52
  go_wp2_with (first | ((with_reducible refine gate_dst (N := 1) rfl ?_); (try (refine gate_guard (by rfl) ?_; dsimp only)); refine box_event ?hg (N := 1) ?hd (cs := #[.slice A0_0 l0_0.length c0_0, .int .i64 a0_1]) (t := 50) ?hr ?_; (case hd => rfl); (case hg => rfl); (case hr => first | (go_simp; done) | (go_simp; rfl)); intro gb201 hg w19 hbox hb; have BK201 := am (hbox); have GW201 := am ((by rw [hg]; exact (below_size (bl HB.out)) : w.heap.size ≤ gb201)); have GE201 := GW201; replace HB := am (below_step (bl HB.out) hb); clear hb hbox hg; have hcz20_0 : w19.cell? ⟨gb201, 0, none⟩ = some (.slice A0_0 l0_0.length c0_0) := bc BK201.out 0; have hcz20_1 : w19.cell? ⟨gb201, 1, none⟩ = some (.int .i64 a0_1) := bc BK201.out 1) | ((with_reducible refine gate_callee (f := 51) rfl ?_); refine gl (some 4) Try.func51 #[.agg #[.slice A0_0 l0_0.length c0_0, .int .i64 a0_1]] ?_; (with_reducible refine (spec_RingRight.calls k _ _ l0_0 a0_1 false _ ?side1 ?side2 A2.out).mono ?_); (case side1 => repeat (first | exact (Kd.C_below HR0_0.out HB.out) | (with_reducible refine Kd.C_alloc ?_ _) | (with_reducible refine Kd.C_drewN ?_ _) | (with_reducible refine Kd.C_drew ?_))); (case side2 => exact HC0_0.out); rintro e w21 ⟨rfl, hb⟩; refine ⟨_, rfl, ?_⟩; replace BK201 := am (blk_below (pk BK201.out) hb); replace HB := am (below_step (bl HB.out) hb); (try clear hb); (try clear hb2); (try clear hk); (try clear hi)) | ((with_reducible refine gate_dst (N := 12) rfl ?_); (try (refine gate_guard (by rfl) ?_; dsimp only)); refine Kd.R_lit (Kd.int .i64) _ 2 ?hg (N := 12) ?hd (xs := ([] : List Int)) (inner := []) (ok := fun _ => True) (okp := fun _ => True) ?hr ?hp (fun _ hk => hk) trivial (Below.refl _ _) (Nat.le_refl _) (by simp) ?_; (case hd => rfl); (case hg => rfl); (case hr => first | (go_simp; done) | (go_simp; rfl)); (case hp => exact (Reps.none _ _)); intro v211 w22 ho23 hb hg_ hnew_; clear hg_ hnew_; (first | rw [← Ny210.out] at ho23 | (simp only [Int.reduceToNat] at ho23; rw [← Ny210.out] at ho23)); have HO212 := am (Kd.R_lower ho23 (below_size (bl HB.out))); replace BK201 := am (blk_below (pk BK201.out) hb); replace HB := am (below_step (bl HB.out) hb); clear hb ho23))
  go_ret
  exact ⟨_, by first | rfl | (simp [errW_none, errW_some] <;> rfl) | (simp [*, errW_none, errW_some] <;> rfl), kr HO212.out, by repeat (first | (with_reducible first | exact HB.out | apply below_alloc | apply pw_below_drewN | apply below_drew1 | refine below_set ?_ GE201.out) | exact HB.out)⟩

/-! ### spec_l04CopyAll: function 81 -/
def spec_l04CopyAll.l0 : Nat → List (List Int) → List (List Int) → Int → Option ((List (List Int)))
 | 0, _, _, _ => none
 | k + 1, x0, x3, x4 => if x4 < (x0.length : Int) then (if 0 ≤ x4 then ((spec_l01Copy.f (rd_L1 x0 x4)).bind fun t217 => (if x3.length < 5864062014805 then (spec_l04CopyAll.l0 k x0 (x3 ++ [t217]) (wrap64 (x4 + 1))) else (none))) else (none)) else (some x3)
def spec_l04CopyAll.f (k : Nat) (l0 : List (List Int)) : Option ((List (List Int))) := spec_l04CopyAll.l0 k l0 (([] : List (List Int))) 0
theorem spec_l04CopyAll.mono_l : ∀ k, (∀ y0 y1 y2, LeO (spec_l04CopyAll.l0 k y0 y1 y2) (spec_l04CopyAll.l0 (k + 1) y0 y1 y2))
 | 0 => fun _ _ _ r h => by simp [spec_l04CopyAll.l0] at h
 | k + 1 => by
  have ih0 := spec_l04CopyAll.mono_l k
  ·intro y0 y1 y2
   unfold spec_l04CopyAll.l0
   repeat' first
   | (with_reducible exact ih0 _ _ _)
   | (with_reducible exact LeO.refl _)
   | (with_reducible exact LeO.none _)
   | (with_reducible refine LeO.ite ?_ ?_)
   | (with_reducible refine LeO.bind ?_ (fun _ => ?_))
   | exact ih0 _ _ _
   | refine LeO.bind ?_ (fun _ => ?_)
theorem spec_l04CopyAll.mono : ∀ a0 k, LeO (spec_l04CopyAll.f k a0) (spec_l04CopyAll.f (k + 1) a0) := by
 intro a0 k
 have ih0 := spec_l04CopyAll.mono_l k
 unfold spec_l04CopyAll.f
 repeat' first
   | (with_reducible exact ih0 _ _ _)
   | (with_reducible exact LeO.refl _)
   | (with_reducible exact LeO.none _)
   | (with_reducible refine LeO.ite ?_ ?_)
   | (with_reducible refine LeO.bind ?_ (fun _ => ?_))
   | exact ih0 _ _ _
   | refine LeO.bind ?_ (fun _ => ?_)
theorem spec_l04CopyAll.calls (k : Nat) (A0 : Option Addr) (c0 : Nat) (l0 : List (List Int)) (r : List (List Int)) (w : World) (hr0 : Kd.C (Kd.slice 2 (Kd.int .i64)) w A0 l0.length l0) (hc0 : l0.length ≤ c0) (h : spec_l04CopyAll.f k l0 = some r) :
  Calls Try.prog 81 #[.slice A0 l0.length c0] w fun e w' => ∃ v0_ : Value, e = .returned (v0_) ∧ Kd.S (Kd.slice 2 (Kd.int .i64)) 22 w' w.heap.size (fun _ => True) v0_ r ∧ Below w.heap.size w w' := by
 have HR0 := am hr0
 have HC0 := am hc0
 clear hr0 hc0
 have HB := am (Below.refl w.heap.size w)
 have H : (spec_l04CopyAll.l0 k l0 (([] : List (List Int))) 0) = some r := h
 clear h
 obtain ⟨y213, hy213⟩ : ∃ y_ : List (List Int), y_ = (([] : List (List Int))) := ⟨_, rfl⟩
 replace H : (spec_l04CopyAll.l0 k l0 y213 0) = some r := by first | (rw [hy213]; with_reducible exact H) | (have H2_ := (Option.bind_some _ _).symm.trans H; rw [hy213]; with_reducible exact H2_) | (have H2_ := (Option.bind_some _ _).symm.trans H; with_reducible exact H2_) | with_reducible exact H | (rw [hy213]; exact H) | exact H
 have Ny213 := am hy213
 clear hy213
 have H' := Aside0.mk H
 clear H
 go_enter Try.func81, Try.ntmps81
 go_wp2_with (first | ((with_reducible refine gate_dst (N := 5) rfl ?_); refine Kd.S_lit (Kd.slice 2 (Kd.int .i64)) _ 22 ?hg (N := 5) ?hd (xs := ([] : List (List Int))) (inner := []) (ok := fun _ => True) (okp := fun _ => True) ?hr ?hp (fun _ hk => hk) trivial (Below.refl _ _) (Nat.le_refl _) (by simp) ?_; (case hd => rfl); (case hg => rfl); (case hr => first | (go_simp; done) | (go_simp; rfl)); (case hp => exact (Reps.none _ _)); intro v214 w2 ho3 hb hg_ hnew_; clear hg_ hnew_; (first | rw [← Ny213.out] at ho3 | (simp only [Int.reduceToNat] at ho3; rw [← Ny213.out] at ho3)); have HO215 := am (Kd.S_lower ho3 (below_size (bl HB.out))); replace HB := am (below_step (bl HB.out) hb); clear hb ho3))
 go_loopg [3, 4] k (fun kq v3 v4 w' => ∃ (x3_1 : List (List Int)) (x4_1 : Int), v4 = .int .i64 x4_1 ∧ Aside0 (spec_l04CopyAll.l0 kq l0 x3_1 x4_1 = some r) ∧ Aside0 (kq ≤ k) ∧ Aside0 (Kd.S (Kd.slice 2 (Kd.int .i64)) 22 w' w.heap.size (fun _ => True) v3 x3_1) ∧ Aside0 (Below w.heap.size w w'))
 case atStart => exact ⟨(y213), (0), (by first | rfl | (simp; done) | (simp [*]; done)), H', ⟨Nat.le_refl _⟩, ⟨ks HO215.out⟩, ⟨by repeat (first | (with_reducible first | exact HB.out | apply below_alloc | apply pw_below_drewN | apply below_drew1) | exact HB.out)⟩⟩
 case round =>
  clear H'
  try clear p2
  obtain ⟨x3_1, x4_1, rfl, HA, HK1, HO_3, HB⟩ := hrel
  cases gk with
  | zero => exact absurd HA.out (by simp [spec_l04CopyAll.l0])
  | succ k1 =>
   have H := HA.out
   clear HA
   simp only [spec_l04CopyAll.l0] at H
   by_cases c4 : x4_1 < (l0.length : Int)
   ·rw [if_pos c4] at H
    have c4b0 : decide (x4_1 < (l0.length : Int)) = true := decide_eq_true c4
    clear c4
    by_cases c5 : 0 ≤ x4_1
    ·rw [if_pos c5] at H
     have c5b0 : decide (0 ≤ x4_1) = true := decide_eq_true c5
     clear c5
     replace H := Option.bind_eq_some_iff.mp H
     obtain ⟨t217, A60, H⟩ := H
     replace H : (if x3_1.length < 5864062014805 then (spec_l04CopyAll.l0 k1 l0 (x3_1 ++ [t217]) (wrap64 (x4_1 + 1))) else (none)) = some r := H
     have A6 := Aside0.mk A60
     clear A60
     by_cases c7 : x3_1.length < 5864062014805
     ·rw [if_pos c7] at H
      have LMc7 := Aside0.mk c7
      clear c7
      obtain ⟨y220, hy220⟩ : ∃ y_ : List (List Int), y_ = (x3_1 ++ [t217]) := ⟨_, rfl⟩
      replace H : (spec_l04CopyAll.l0 k1 l0 y220 (wrap64 (x4_1 + 1))) = some r := by first | (rw [hy220]; with_reducible exact H) | (have H2_ := (Option.bind_some _ _).symm.trans H; rw [hy220]; with_reducible exact H2_) | (have H2_ := (Option.bind_some _ _).symm.trans H; with_reducible exact H2_) | with_reducible exact H | (rw [hy220]; exact H) | exact H
      have Ny220 := am hy220
      clear hy220
      have H' := Aside0.mk H
      clear H
      have p216 : 0 ≤ (x4_1 : Int) := of_decide_eq_true (by first | (with_reducible assumption) | assumption)
      have q216 : x4_1 < (l0.length : Int) := of_decide_eq_true (by first | (with_reducible assumption) | assumption)
      obtain ⟨ad216, A216_0, c216_0, e216, hx216_0, hl216_0, hi216_0⟩ := at_L1 HR0.out x4_1 p216 q216
      cases e216
      have hxw216_0 := hx216_0
      replace hx216_0 := (HB.out.cell (World.block_lt_of_cell? w _ hx216_0)).trans hx216_0
      have HR216_0 := am hi216_0
      have HC216_0 := am hl216_0
      clear hi216_0 hl216_0
      replace p216 := eq_true p216
      replace q216 := eq_true q216
      go_wp2_with (first | ((with_reducible refine gate_callee (f := 44) rfl ?_); refine gl (some 17) Try.func44 #[.slice A216_0 (rd_L1 l0 x4_1).length c216_0] ?_; (with_reducible refine (spec_l01Copy.calls _ _ (rd_L1 l0 x4_1) t217 _ ?side1 ?side2 A6.out).mono ?_); (case side1 => repeat (first | exact (Kd.C_below HR216_0.out HB.out) | (with_reducible refine Kd.C_alloc ?_ _) | (with_reducible refine Kd.C_drewN ?_ _) | (with_reducible refine Kd.C_drew ?_))); (case side2 => exact HC216_0.out); rintro e w8 ⟨v218, rfl, ho0, hb⟩; refine ⟨_, rfl, ?_⟩; replace HO_3 := am (Kd.S_elder' (ks HO_3.out) (Kd.R_base ho0) hb); have HO219 := am (Kd.R_lower ho0 (below_size (bl HB.out))); replace HB := am (below_step (bl HB.out) hb); (try clear hb); (try clear hb2); (try clear hk); (try clear hi); (try clear ho0); obtain ⟨Ao10, co10, eo10⟩ := Kd.R_slice HO219.out; subst eo10) | ((with_reducible refine gate_builtin (b := .append) (xs := #[.tmp 12, .tmp 18]) rfl ?_); at_builtin; refine Kd.S_append (Kd.slice 2 (Kd.int .i64)) (w0 := w) w.heap.size rfl (.tmp 12) (.tmp 18) 43 22 (.slice none 0 0) 24 rfl Try.underlying43 info22 rfl (by decide) (by omega) u3 x3_1 t217 [.slice Ao10 t217.length co10] (fun _ => True) (fun k_ => some k_ = (.slice Ao10 t217.length co10 : Value).ownBlock) rfl rfl ?aP (fun k_ hk_ => ((Kd.R_mono (ok' := fun k_ => ((fun _ => True)) k_ ∧ some k_ ≠ (u3 : Value).ownBlock) (Kd.R_apart' (HO219.out) (Kd.S_typed HO_3.out) (by decide)) (fun k_ hk => ⟨trivial, hk.2⟩))).1 k_ hk_.symm) ?aF ?aO ?aB ?aS ?aL ?_; (case aP => exact Kd.M_row (Kd.R_mono (Kd.R_tight rfl (Kd.R_mono (ok' := fun k_ => ((fun _ => True)) k_ ∧ some k_ ≠ (u3 : Value).ownBlock) (Kd.R_apart' (HO219.out) (Kd.S_typed HO_3.out) (by decide)) (fun k_ hk => ⟨trivial, hk.2⟩))) (fun _ h_ => h_))); (case aB => exact (bl HB.out)); (case aF => exact (fun _ _ => trivial)); (case aO => exact (ks (Kd.S_mono HO_3.out (fun k_ hk => ⟨trivial, fun e_ => hk.2 e_⟩)))); (case aS => exact (below_size (bl HB.out))); (case aL => have := LMc7.out; omega); intro v221 w9 ho hb hg hat; rw [← Ny220.out] at ho; replace HB := am (hb); have HO222 := am (ho); clear HO_3 HO219; clear ho hb hg hat))
      go_roundg k1
      case measure => have := HK1.out; omega
      case rel => exact ⟨(y220), (wrap64 (x4_1 + 1)), (by first | rfl | (simp; done) | (simp [*]; done)), H', ⟨by have := HK1.out; omega⟩, ⟨ks HO222.out⟩, ⟨by repeat (first | (with_reducible first | exact HB.out | apply below_alloc | apply pw_below_drewN | apply below_drew1) | exact HB.out)⟩⟩
     ·rw [if_neg c7] at H
      exact absurd H (by simp)
    ·rw [if_neg c5] at H
     exact absurd H (by simp)
   ·rw [if_neg c4] at H
    have c4b0 : decide (x4_1 < (l0.length : Int)) = false := decide_eq_false c4
    clear c4
    obtain rfl := Option.some.inj H
    go_wp2
    go_ret
    exact ⟨_, by first | rfl | (simp [errW_none, errW_some] <;> rfl) | (simp [*, errW_none, errW_some] <;> rfl), ks HO_3.out, by repeat (first | (with_reducible first | exact HB.out | apply below_alloc | apply pw_below_drewN | apply below_drew1) | exact HB.out)⟩

/-! ### spec_l04Copy: function 75 -/
def spec_l04Copy.f (k : Nat) (l0_0 : List (List Int)) (a0_1 : Int) : Option ((List (List Int)) × Int) := (spec_l04CopyAll.f k l0_0).bind fun t225 => (some (t225, a0_1))
theorem spec_l04Copy.mono : ∀ a0 a1 k, LeO (spec_l04Copy.f k a0 a1) (spec_l04Copy.f (k + 1) a0 a1) := by
 intro a0 a1 k
 unfold spec_l04Copy.f
 repeat' first
   | (with_reducible exact spec_l04CopyAll.mono _ _)
   | (with_reducible exact LeO.refl _)
   | (with_reducible exact LeO.none _)
   | (with_reducible refine LeO.ite ?_ ?_)
   | (with_reducible refine LeO.bind ?_ (fun _ => ?_))
   | exact spec_l04CopyAll.mono _ _
   | refine LeO.bind ?_ (fun _ => ?_)
theorem spec_l04Copy.calls (k : Nat) (A0_0 : Option Addr) (c0_0 : Nat) (l0_0 : List (List Int)) (a0_1 : Int) (r1 : List (List Int)) (r2 : Int) (w : World) (hr0_0 : Kd.C (Kd.slice 2 (Kd.int .i64)) w A0_0 l0_0.length l0_0) (hc0_0 : l0_0.length ≤ c0_0) (h : spec_l04Copy.f k l0_0 a0_1 = some (r1, r2)) :
  Calls Try.prog 75 #[.agg #[.slice A0_0 l0_0.length c0_0, .int .i64 a0_1]] w fun e w' => ∃ v0_ : Value, e = .returned (.agg #[v0_, .int .i64 r2]) ∧ Kd.S (Kd.slice 2 (Kd.int .i64)) 22 w' w.heap.size (fun _ => True) v0_ r1 ∧ Below w.heap.size w w' := by
 have hu50 := Try.underlying50
 have HR0_0 := am hr0_0
 have HC0_0 := am hc0_0
 clear hr0_0 hc0_0
 have HB := am (Below.refl w.heap.size w)
 have H : ((spec_l04CopyAll.f k l0_0).bind fun t225 => (some (t225, a0_1))) = some (r1, r2) := h
 clear h
 replace H := Option.bind_eq_some_iff.mp H
 obtain ⟨t225, A20, H⟩ := H
 replace H : (some (t225, a0_1)) = some (r1, r2) := H
 have A2 := Aside0.mk A20
 clear A20
 simp only [Option.some.injEq, Prod.mk.injEq] at H
 obtain ⟨rfl, rfl⟩ := H
 go_enter Try.func75, Try.ntmps75
 try go_wp2_with (first | ((with_reducible refine gate_dst (N := 1) rfl ?_); refine box_event ?hg (N := 1) ?hd (cs := #[.slice A0_0 l0_0.length c0_0, .int .i64 a0_1]) (t := 50) ?hr ?_; (case hd => rfl); (case hg => rfl); (case hr => first | (go_simp; done) | (go_simp; rfl)); intro gb223 hg w3 hbox hb; have BK223 := am (hbox); have GW223 := am ((by rw [hg]; exact (below_size (bl HB.out)) : w.heap.size ≤ gb223)); have GE223 := GW223; replace HB := am (below_step (bl HB.out) hb); clear hb hbox hg) | ((with_reducible refine gate_dst (N := 2) rfl ?_); refine box_event ?hg (N := 2) ?hd (cs := #[.slice none 0 0, .int .i64 0]) (t := 50) ?hr ?_; (case hd => rfl); (case hg => rfl); (case hr => first | (go_simp; done) | (go_simp; rfl)); intro gb224 hg w4 hbox hb; have BK224 := am (hbox); have GW224 := am ((by rw [hg]; exact (below_size (bl HB.out)) : w.heap.size ≤ gb224)); have GE224 := GW224; replace HB := am (below_step (bl HB.out) hb); have NB223_224 := am ((by rw [hg]; exact Nat.ne_of_lt (blk_lt (pk BK223.out)) : gb223 ≠ gb224)); have NB224_223 := am ((by rw [hg]; exact Nat.ne_of_gt (blk_lt (pk BK223.out)) : gb224 ≠ gb223)); replace BK223 := am (blk_below (pk BK223.out) hb); clear hb hbox hg))
 replace BK223 := am (blk_drew BK223.out)
 replace BK224 := am (blk_drew BK224.out)
 replace HB := am (below_drew1 HB.out)
 refine start_ (n := 7) (S := fun w' => w'.cell? ⟨gb223, 0, none⟩ = some (.slice A0_0 l0_0.length c0_0) ∧ w'.cell? ⟨gb223, 1, none⟩ = some (.int .i64 a0_1)) (ds := []) #[false, false, false, false, false, false, false] (by kernel_rfl) rfl rfl ⟨bc BK223.out 0, bc BK223.out 1⟩ (fun hHeld => ?_)
 generalize w4.drew = w5 at BK223 BK224 HB hHeld ⊢
 refine pure_ (i := 0) (N := some 3) (v := ?_) (a' := ?_) #[true, false, false, false, false, false, false] rfl rfl (by kernel_rfl) (fun _ _ _ h => h) (Or.inl ⟨by rfl, ?_⟩) ?_ ?_; rotate_left
 ·intro w'; go_simp; with_reducible rfl
 rotate_left
 ·simp only [Act.put, sa_, s0_, ss_, i64_w, i32_w]; rfl
 refine pure_ (i := 3) (N := some 6) (v := ?_) (a' := ?_) #[true, false, false, true, false, false, false] rfl rfl (by kernel_rfl) (fun _ _ _ h => h) (Or.inl ⟨by rfl, ?_⟩) ?_ ?_; rotate_left
 ·intro w'; go_simp; with_reducible rfl
 rotate_left
 ·simp only [Act.put, sa_, s0_, ss_, i64_w, i32_w]; rfl
 refine take_ (i := 1) (N := some 4) (v := ?_) (a' := ?_) #[true, true, false, true, false, false, false] rfl rfl (by kernel_rfl) (fun _ _ _ h => h) (Or.inl ⟨by rfl, ?_⟩) hHeld ?_ ?_; rotate_left
 ·rintro w' ⟨s0, s1⟩; go_simp; with_reducible rfl
 rotate_left
 ·simp only [Act.put, sa_, s0_, ss_, i64_w, i32_w]; rfl
 refine take_ (i := 4) (N := some 7) (v := ?_) (a' := ?_) #[true, true, false, true, true, false, false] rfl rfl (by kernel_rfl) (fun _ _ _ h => h) (Or.inl ⟨by rfl, ?_⟩) hHeld ?_ ?_; rotate_left
 ·rintro w' ⟨s0, s1⟩; go_simp; with_reducible rfl
 rotate_left
 ·simp only [Act.put, sa_, s0_, ss_, i64_w, i32_w]; rfl
 refine one_ (i := 2) (N := some 5) #[true, true, true, true, true, false, false] rfl rfl (by kernel_rfl) (by decide) (fun K hK => ?_)
 refine gs_ Try.func81 #[.slice A0_0 l0_0.length c0_0] ?_
 with_reducible refine (spec_l04CopyAll.calls k _ _ l0_0 t225 _ ?side1 ?side2 A2.out).mono ?_
 (case side1 => repeat (first | exact (Kd.C_below HR0_0.out HB.out) | (with_reducible refine Kd.C_alloc ?_ _) | (with_reducible refine Kd.C_drewN ?_ _) | (with_reducible refine Kd.C_drew ?_)))
 (case side2 => exact HC0_0.out)
 rintro e w6 ⟨v226, rfl, ho0, hb⟩
 refine ⟨_, rfl, ?_⟩
 have HO227 := am (Kd.S_lower ho0 (below_size (bl HB.out)))
 replace BK223 := am (blk_below (pk BK223.out) hb)
 replace BK224 := am (blk_below (pk BK224.out) hb)
 replace HB := am (below_step (bl HB.out) hb)
 (try clear hb)
 (try clear hb2)
 (try clear hk)
 (try clear hi)
 (try clear ho0)
 obtain ⟨Ao7, co7, eo7⟩ := Kd.S_slice HO227.out
 (first | subst eo7 | (injection eo7 with f1_ f2_ f3_; have f4_ := f1_.symm; have f5_ := f3_.symm; clear f1_ f2_ f3_; subst f4_; subst f5_))
 refine hK.out _ _ ⟨bc BK223.out 0, bc BK223.out 1⟩ (fun hHeld => ?_)
 clear hK K
 refine norm_ (a' := ?_) ?_ ?_
 rotate_left
 ·show Act.put _ (some 5) _ = _
  simp only [Act.put, sa_, s0_, ss_, i64_w, i32_w]
  rfl
 refine pure_ (i := 5) (N := some 8) (v := ?_) (a' := ?_) #[true, true, true, true, true, true, false] rfl rfl (by kernel_rfl) (fun _ _ _ h => h) (Or.inl ⟨by rfl, ?_⟩) ?_ ?_; rotate_left
 ·intro w'; go_simp; with_reducible rfl
 rotate_left
 ·simp only [Act.put, sa_, s0_, ss_, i64_w, i32_w]; rfl
 refine one_ (i := 6) (N := none) #[true, true, true, true, true, true, true] rfl rfl (by kernel_rfl) (by decide) (fun K hK => ?_)
 have hs8 : w6.cell? ⟨gb224, 0, none⟩ = some (.slice none 0 0) := bc BK224.out 0
 have hfs8 := blk_frozen BK224.out 0
 have hns8_0 := NB223_224.out
 have hms8_0 := NB224_223.out
 have hs9 : w6.cell? ⟨gb224, 1, none⟩ = some (.int .i64 0) := bc BK224.out 1
 have hfs9 := blk_frozen BK224.out 1
 refine skip_ (w1 := ?_) (by rfl) rfl ?_ ?_
 rotate_left
 ·go_simp
  rfl
 refine hK.out _ _ ⟨((cell_far (p := ⟨gb224, _, none⟩) NB223_224.out _).trans (((cell_far (p := ⟨gb224, _, none⟩) NB223_224.out _).trans (hHeld.1)))), ((cell_far (p := ⟨gb224, _, none⟩) NB223_224.out _).trans (((cell_far (p := ⟨gb224, _, none⟩) NB223_224.out _).trans (hHeld.2))))⟩ (fun hHeld => ?_)
 clear hK K
 refine done_ (by kernel_rfl) ?_
 try go_wp2
 refine bodyPost_ret (results_cell_row rfl _ _ gb224 50 #[.slice Ao7 t225.length co7, .int .i64 a0_1] (0, 0) _ rfl (by refine pk ?_; refine blk_put (cs := #[.slice Ao7 t225.length co7, .int .i64 0]) ?_ 1 _ rfl; refine pk ?_; refine blk_put (cs := #[.slice none 0 0, .int .i64 0]) ?_ 0 _ rfl; refine pk ?_; exact BK224.out) Try.underlying50 rfl (by kernel_rfl)) rfl ?_
 exact ⟨_, by first | rfl | (simp [errW_none, errW_some] <;> rfl) | (simp [*, errW_none, errW_some] <;> rfl), ks (Kd.S_mono (Kd.S_far (p := ⟨gb224, 1, none⟩) (Kd.S_far (p := ⟨gb224, 0, none⟩) (Kd.S_types HO227.out BK224.out (by decide)) (fun _ hk => hk.2) (.slice Ao7 t225.length co7)) (fun _ hk => hk.2) (.int .i64 a0_1)) (fun _ hk => trivial)), by repeat (first | (with_reducible first | exact HB.out | apply below_alloc | apply pw_below_drewN | apply below_drew1 | refine below_set ?_ GE223.out | refine below_set ?_ GE224.out) | exact HB.out)⟩

/-! ### spec_RingTurn: function 58 -/
def spec_RingTurn.f (k : Nat) (l0_0 : List (List Int)) (a0_1 : Int) : Option ((List (List Int)) × Int) := (spec_l04Copy.f k l0_0 a0_1).bind fun bt230 => ((spec_RingRight.f k l0_0 a0_1).bind fun t235 => (if t235 = true then (if (l0_0.length : Int) > 0 then (if (l0_0.length : Int) = 0 then (none) else (some (bt230.1, Int.tmod (wrap64 (a0_1 + 1)) (l0_0.length : Int)))) else (some (bt230.1, bt230.2))) else (some (bt230.1, bt230.2))))
theorem spec_RingTurn.mono : ∀ a0 a1 k, LeO (spec_RingTurn.f k a0 a1) (spec_RingTurn.f (k + 1) a0 a1) := by
 intro a0 a1 k
 unfold spec_RingTurn.f
 repeat' first
   | (with_reducible exact spec_RingRight.mono _ _ _)
   | (with_reducible exact spec_l04Copy.mono _ _ _)
   | (with_reducible exact LeO.refl _)
   | (with_reducible exact LeO.none _)
   | (with_reducible refine LeO.ite ?_ ?_)
   | (with_reducible refine LeO.bind ?_ (fun _ => ?_))
   | exact spec_RingRight.mono _ _ _
   | exact spec_l04Copy.mono _ _ _
   | refine LeO.bind ?_ (fun _ => ?_)
theorem spec_RingTurn.calls (k : Nat) (A0_0 : Option Addr) (c0_0 : Nat) (l0_0 : List (List Int)) (a0_1 : Int) (r1 : List (List Int)) (r2 : Int) (w : World) (hr0_0 : Kd.C (Kd.slice 2 (Kd.int .i64)) w A0_0 l0_0.length l0_0) (hc0_0 : l0_0.length ≤ c0_0) (h : spec_RingTurn.f k l0_0 a0_1 = some (r1, r2)) :
  Calls Try.prog 58 #[.agg #[.slice A0_0 l0_0.length c0_0, .int .i64 a0_1]] w fun e w' => ∃ v0_ : Value, e = .returned (.agg #[v0_, .int .i64 r2]) ∧ Kd.S (Kd.slice 2 (Kd.int .i64)) 22 w' w.heap.size (fun _ => True) v0_ r1 ∧ Below w.heap.size w w' := by
 have hu50 := Try.underlying50
 have HR0_0 := am hr0_0
 have HC0_0 := am hc0_0
 clear hr0_0 hc0_0
 have HB := am (Below.refl w.heap.size w)
 have H : ((spec_l04Copy.f k l0_0 a0_1).bind fun bt230 => ((spec_RingRight.f k l0_0 a0_1).bind fun t235 => (if t235 = true then (if (l0_0.length : Int) > 0 then (if (l0_0.length : Int) = 0 then (none) else (some (bt230.1, Int.tmod (wrap64 (a0_1 + 1)) (l0_0.length : Int)))) else (some (bt230.1, bt230.2))) else (some (bt230.1, bt230.2))))) = some (r1, r2) := h
 clear h
 replace H := Option.bind_eq_some_iff.mp H
 obtain ⟨⟨t230, t233⟩, A20, H⟩ := H
 replace H : ((spec_RingRight.f k l0_0 a0_1).bind fun t235 => (if t235 = true then (if (l0_0.length : Int) > 0 then (if (l0_0.length : Int) = 0 then (none) else (some (t230, Int.tmod (wrap64 (a0_1 + 1)) (l0_0.length : Int)))) else (some (t230, t233))) else (some (t230, t233)))) = some (r1, r2) := H
 have A2 := Aside0.mk A20
 clear A20
 replace H := Option.bind_eq_some_iff.mp H
 obtain ⟨t235, A30, H⟩ := H
 replace H : (if t235 = true then (if (l0_0.length : Int) > 0 then (if (l0_0.length : Int) = 0 then (none) else (some (t230, Int.tmod (wrap64 (a0_1 + 1)) (l0_0.length : Int)))) else (some (t230, t233))) else (some (t230, t233))) = some (r1, r2) := H
 have A3 := Aside0.mk A30
 clear A30
 by_cases c4 : t235 = true
 ·subst c4
  have H1 : (if (l0_0.length : Int) > 0 then (if (l0_0.length : Int) = 0 then (none) else (some (t230, Int.tmod (wrap64 (a0_1 + 1)) (l0_0.length : Int)))) else (some (t230, t233))) = some (r1, r2) := by rw [if_pos rfl] at H; exact H
  clear H
  have H := H1
  clear H1
  by_cases c5 : (l0_0.length : Int) > 0
  ·rw [if_pos c5] at H
   have c5b0 : decide (0 < (l0_0.length : Int)) = true := decide_eq_true c5
   have c5b1 : decide (0 < l0_0.length) = true := decide_eq_true (by omega)
   clear c5
   by_cases c6 : (l0_0.length : Int) = 0
   ·rw [if_pos c6] at H
    exact absurd H (by simp)
   ·rw [if_neg c6] at H
    have c6b0 : ((l0_0.length : Int) == 0) = false := beq_eq_false_iff_ne.mpr c6
    have c6b1 : ((l0_0.length : Int) != 0) = true := bne_iff_ne.mpr c6
    have c6b2 : ¬ (l0_0 = []) := fun h_ => c6 (by rw [h_]; rfl)
    simp only [Option.some.injEq, Prod.mk.injEq] at H
    obtain ⟨rfl, rfl⟩ := H
    go_enter Try.func58, Try.ntmps58
    go_wp2_with (first | ((with_reducible refine gate_dst (N := 1) rfl ?_); (try (refine gate_guard (by rfl) ?_; dsimp only)); refine box_event ?hg (N := 1) ?hd (cs := #[.slice A0_0 l0_0.length c0_0, .int .i64 a0_1]) (t := 50) ?hr ?_; (case hd => rfl); (case hg => rfl); (case hr => first | (go_simp; done) | (go_simp; rfl)); intro gb228 hg w7 hbox hb; have BK228 := am (hbox); have GW228 := am ((by rw [hg]; exact (below_size (bl HB.out)) : w.heap.size ≤ gb228)); have GE228 := GW228; replace HB := am (below_step (bl HB.out) hb); clear hb hbox hg) | ((with_reducible refine gate_dst (N := 2) rfl ?_); (try (refine gate_guard (by rfl) ?_; dsimp only)); refine box_event ?hg (N := 2) ?hd (cs := #[.slice none 0 0, .int .i64 0]) (t := 50) ?hr ?_; (case hd => rfl); (case hg => rfl); (case hr => first | (go_simp; done) | (go_simp; rfl)); intro gb229 hg w8 hbox hb; have BK229 := am (hbox); have GW229 := am ((by rw [hg]; exact (below_size (bl HB.out)) : w.heap.size ≤ gb229)); have GE229 := GW229; replace HB := am (below_step (bl HB.out) hb); have NB228_229 := am ((by rw [hg]; exact Nat.ne_of_lt (blk_lt (pk BK228.out)) : gb228 ≠ gb229)); have NB229_228 := am ((by rw [hg]; exact Nat.ne_of_gt (blk_lt (pk BK228.out)) : gb229 ≠ gb228)); replace BK228 := am (blk_below (pk BK228.out) hb); clear hb hbox hg; have hnb9 := NB228_229.out; have hnc9 := NB229_228.out; have hcz10_0 : w8.cell? ⟨gb228, 0, none⟩ = some (.slice A0_0 l0_0.length c0_0) := bc BK228.out 0; have hcz10_1 : w8.cell? ⟨gb228, 1, none⟩ = some (.int .i64 a0_1) := bc BK228.out 1; have hfz10_0 := blk_frozen BK228.out 0; have hfz10_1 := blk_frozen BK228.out 1) | ((with_reducible refine gate_callee (f := 75) rfl ?_); refine gl (some 5) Try.func75 #[.agg #[.slice A0_0 l0_0.length c0_0, .int .i64 a0_1]] ?_; (with_reducible refine (spec_l04Copy.calls k _ _ l0_0 a0_1 t230 t233 _ ?side1 ?side2 A2.out).mono ?_); (case side1 => repeat (first | exact (Kd.C_below HR0_0.out HB.out) | (with_reducible refine Kd.C_alloc ?_ _) | (with_reducible refine Kd.C_drewN ?_ _) | (with_reducible refine Kd.C_drew ?_))); (case side2 => exact HC0_0.out); rintro e w11 ⟨v231, rfl, ho0, hb⟩; refine ⟨_, rfl, ?_⟩; have HO232 := am (Kd.S_lower ho0 (below_size (bl HB.out))); replace BK228 := am (blk_below (pk BK228.out) hb); replace BK229 := am (blk_below (pk BK229.out) hb); replace HB := am (below_step (bl HB.out) hb); (try clear hb); (try clear hb2); (try clear hk); (try clear hi); (try clear ho0)) | ((with_reducible refine gate_dst (N := 3) rfl ?_); (try (refine gate_guard (by rfl) ?_; dsimp only)); refine box_event ?hg (N := 3) ?hd (cs := #[.slice none 0 0, .int .i64 0]) (t := 50) ?hr ?_; (case hd => rfl); (case hg => rfl); (case hr => first | (go_simp; done) | (go_simp; rfl)); intro gb234 hg w12 hbox hb; replace HO232 := am (Kd.S_below (ks HO232.out) hb); have BK234 := am (hbox); have GW234 := am ((by rw [hg]; exact (below_size (bl HB.out)) : w.heap.size ≤ gb234)); have GE234 := GW234; replace HB := am (below_step (bl HB.out) hb); have NB228_234 := am ((by rw [hg]; exact Nat.ne_of_lt (blk_lt (pk BK228.out)) : gb228 ≠ gb234)); have NB234_228 := am ((by rw [hg]; exact Nat.ne_of_gt (blk_lt (pk BK228.out)) : gb234 ≠ gb228)); replace BK228 := am (blk_below (pk BK228.out) hb); have NB229_234 := am ((by rw [hg]; exact Nat.ne_of_lt (blk_lt (pk BK229.out)) : gb229 ≠ gb234)); have NB234_229 := am ((by rw [hg]; exact Nat.ne_of_gt (blk_lt (pk BK229.out)) : gb234 ≠ gb229)); replace BK229 := am (blk_below (pk BK229.out) hb); clear hb hbox hg; obtain ⟨Ao13, co13, eo13⟩ := Kd.S_slice HO232.out; subst eo13; have hnb14 := NB234_228.out; have hnc14 := NB228_234.out; have hnb15 := NB234_229.out; have hnc15 := NB229_234.out; have hcz16_0 : w12.cell? ⟨gb234, 0, none⟩ = some (.slice none 0 0) := bc BK234.out 0; have hcz16_1 : w12.cell? ⟨gb234, 1, none⟩ = some (.int .i64 0) := bc BK234.out 1; have hfz16_0 := blk_frozen BK234.out 0; have hfz16_1 := blk_frozen BK234.out 1; have hcz17_0 : w12.cell? ⟨gb228, 0, none⟩ = some (.slice A0_0 l0_0.length c0_0) := bc BK228.out 0; have hcz17_1 : w12.cell? ⟨gb228, 1, none⟩ = some (.int .i64 a0_1) := bc BK228.out 1; have hfz17_0 := blk_frozen BK228.out 0; have hfz17_1 := blk_frozen BK228.out 1) | ((with_reducible refine gate_callee (f := 51) rfl ?_); refine gl (some 7) Try.func51 #[.agg #[.slice A0_0 l0_0.length c0_0, .int .i64 a0_1]] ?_; (with_reducible refine (spec_RingRight.calls k _ _ l0_0 a0_1 true _ ?side1 ?side2 A3.out).mono ?_); (case side1 => exact Kd.C_below HR0_0.out (bl HB.out)); (case side2 => exact HC0_0.out); rintro e w18 ⟨rfl, hb⟩; refine ⟨_, rfl, ?_⟩; replace HO232 := am (Kd.S_below (ks ((Kd.S_mono (Kd.S_far (p := ⟨gb234, 1, none⟩) (Kd.S_far (p := ⟨gb234, 0, none⟩) (Kd.S_types HO232.out BK234.out (by decide)) (fun _ hk => hk.2) (.slice Ao13 t230.length co13)) (fun _ hk => hk.2) (.int .i64 t233)) (fun _ h_ => h_.1)))) hb); replace BK228 := am (blk_below (g := gb228) (o := .cells #[.slice A0_0 l0_0.length c0_0, .int .i64 a0_1] 50 (0, 0)) (by refine pk ?_; refine blk_far ?_ NB228_234.out _; refine pk ?_; refine blk_far ?_ NB228_234.out _; refine pk ?_; exact BK228.out) hb); replace BK229 := am (blk_below (g := gb229) (o := .cells #[.slice none 0 0, .int .i64 0] 50 (0, 0)) (by refine pk ?_; refine blk_far ?_ NB229_234.out _; refine pk ?_; refine blk_far ?_ NB229_234.out _; refine pk ?_; exact BK229.out) hb); replace BK234 := am (blk_below (g := gb234) (o := .cells #[.slice Ao13 t230.length co13, .int .i64 t233] 50 (0, 0)) (by refine pk ?_; refine blk_put (cs := #[.slice Ao13 t230.length co13, .int .i64 0]) ?_ 1 _ rfl; refine pk ?_; refine blk_put (cs := #[.slice none 0 0, .int .i64 0]) ?_ 0 _ rfl; refine pk ?_; exact BK234.out) hb); replace HB := am (below_step (bl HB.out) hb); (try clear hb); (try clear hb2); (try clear hk); (try clear hi); have hcz19_0 : w18.cell? ⟨gb228, 0, none⟩ = some (.slice A0_0 l0_0.length c0_0) := bc BK228.out 0; have hcz19_1 : w18.cell? ⟨gb228, 1, none⟩ = some (.int .i64 a0_1) := bc BK228.out 1; have hfz19_0 := blk_frozen BK228.out 0; have hfz19_1 := blk_frozen BK228.out 1; have hcz20_0 : w18.cell? ⟨gb234, 0, none⟩ = some (.slice Ao13 t230.length co13) := bc BK234.out 0; have hcz20_1 : w18.cell? ⟨gb234, 1, none⟩ = some (.int .i64 t233) := bc BK234.out 1; have hfz20_0 := blk_frozen BK234.out 0; have hfz20_1 := blk_frozen BK234.out 1; have hcz21_0 : w18.cell? ⟨gb229, 0, none⟩ = some (.slice none 0 0) := bc BK229.out 0; have hcz21_1 : w18.cell? ⟨gb229, 1, none⟩ = some (.int .i64 0) := bc BK229.out 1; have hfz21_0 := blk_frozen BK229.out 0; have hfz21_1 := blk_frozen BK229.out 1))
    refine bodyPost_ret (results_cell_row rfl _ _ gb229 50 #[.slice Ao13 t230.length co13, .int .i64 (Int.tmod (wrap64 (a0_1 + 1)) (l0_0.length : Int))] (0, 0) _ rfl (by refine pk ?_; refine blk_put (cs := #[.slice Ao13 t230.length co13, .int .i64 0]) ?_ 1 _ rfl; refine pk ?_; refine blk_put (cs := #[.slice none 0 0, .int .i64 0]) ?_ 0 _ rfl; refine pk ?_; refine blk_far ?_ NB229_234.out _; refine pk ?_; exact BK229.out) Try.underlying50 rfl (by kernel_rfl)) rfl ?_
    exact ⟨_, by first | rfl | (simp [errW_none, errW_some] <;> rfl) | (simp [*, errW_none, errW_some] <;> rfl), ks (Kd.S_mono (Kd.S_far (p := ⟨gb229, 1, none⟩) (Kd.S_far (p := ⟨gb229, 0, none⟩) (Kd.S_far (p := ⟨gb234, 1, none⟩) (Kd.S_types (Kd.S_types HO232.out BK234.out (by decide)) BK229.out (by decide)) (fun _ hk => hk.1.2) (.int .i64 (Int.tmod (wrap64 (a0_1 + 1)) (l0_0.length : Int)))) (fun _ hk => hk.2) (.slice Ao13 t230.length co13)) (fun _ hk => hk.2) (.int .i64 (Int.tmod (wrap64 (a0_1 + 1)) (l0_0.length : Int)))) (fun _ hk => trivial)), by repeat (first | (with_reducible first | exact HB.out | apply below_alloc | apply pw_below_drewN | apply below_drew1 | refine below_set ?_ GE228.out | refine below_set ?_ GE229.out | refine below_set ?_ GE234.out) | exact HB.out)⟩
  ·rw [if_neg c5] at H
   have c5b0 : decide (0 < (l0_0.length : Int)) = false := decide_eq_false c5
   have c5b1 : decide (0 < l0_0.length) = false := decide_eq_false (by omega)
   clear c5
   simp only [Option.some.injEq, Prod.mk.injEq] at H
   obtain ⟨rfl, rfl⟩ := H
   go_enter Try.func58, Try.ntmps58
   go_wp2_with (first | ((with_reducible refine gate_dst (N := 1) rfl ?_); (try (refine gate_guard (by rfl) ?_; dsimp only)); refine box_event ?hg (N := 1) ?hd (cs := #[.slice A0_0 l0_0.length c0_0, .int .i64 a0_1]) (t := 50) ?hr ?_; (case hd => rfl); (case hg => rfl); (case hr => first | (go_simp; done) | (go_simp; rfl)); intro gb228 hg w22 hbox hb; have BK228 := am (hbox); have GW228 := am ((by rw [hg]; exact (below_size (bl HB.out)) : w.heap.size ≤ gb228)); have GE228 := GW228; replace HB := am (below_step (bl HB.out) hb); clear hb hbox hg) | ((with_reducible refine gate_dst (N := 2) rfl ?_); (try (refine gate_guard (by rfl) ?_; dsimp only)); refine box_event ?hg (N := 2) ?hd (cs := #[.slice none 0 0, .int .i64 0]) (t := 50) ?hr ?_; (case hd => rfl); (case hg => rfl); (case hr => first | (go_simp; done) | (go_simp; rfl)); intro gb229 hg w23 hbox hb; have BK229 := am (hbox); have GW229 := am ((by rw [hg]; exact (below_size (bl HB.out)) : w.heap.size ≤ gb229)); have GE229 := GW229; replace HB := am (below_step (bl HB.out) hb); have NB228_229 := am ((by rw [hg]; exact Nat.ne_of_lt (blk_lt (pk BK228.out)) : gb228 ≠ gb229)); have NB229_228 := am ((by rw [hg]; exact Nat.ne_of_gt (blk_lt (pk BK228.out)) : gb229 ≠ gb228)); replace BK228 := am (blk_below (pk BK228.out) hb); clear hb hbox hg; have hnb24 := NB228_229.out; have hnc24 := NB229_228.out; have hcz25_0 : w23.cell? ⟨gb228, 0, none⟩ = some (.slice A0_0 l0_0.length c0_0) := bc BK228.out 0; have hcz25_1 : w23.cell? ⟨gb228, 1, none⟩ = some (.int .i64 a0_1) := bc BK228.out 1; have hfz25_0 := blk_frozen BK228.out 0; have hfz25_1 := blk_frozen BK228.out 1) | ((with_reducible refine gate_callee (f := 75) rfl ?_); refine gl (some 5) Try.func75 #[.agg #[.slice A0_0 l0_0.length c0_0, .int .i64 a0_1]] ?_; (with_reducible refine (spec_l04Copy.calls k _ _ l0_0 a0_1 t230 t233 _ ?side1 ?side2 A2.out).mono ?_); (case side1 => repeat (first | exact (Kd.C_below HR0_0.out HB.out) | (with_reducible refine Kd.C_alloc ?_ _) | (with_reducible refine Kd.C_drewN ?_ _) | (with_reducible refine Kd.C_drew ?_))); (case side2 => exact HC0_0.out); rintro e w26 ⟨v231, rfl, ho0, hb⟩; refine ⟨_, rfl, ?_⟩; have HO232 := am (Kd.S_lower ho0 (below_size (bl HB.out))); replace BK228 := am (blk_below (pk BK228.out) hb); replace BK229 := am (blk_below (pk BK229.out) hb); replace HB := am (below_step (bl HB.out) hb); (try clear hb); (try clear hb2); (try clear hk); (try clear hi); (try clear ho0)) | ((with_reducible refine gate_dst (N := 3) rfl ?_); (try (refine gate_guard (by rfl) ?_; dsimp only)); refine box_event ?hg (N := 3) ?hd (cs := #[.slice none 0 0, .int .i64 0]) (t := 50) ?hr ?_; (case hd => rfl); (case hg => rfl); (case hr => first | (go_simp; done) | (go_simp; rfl)); intro gb234 hg w27 hbox hb; replace HO232 := am (Kd.S_below (ks HO232.out) hb); have BK234 := am (hbox); have GW234 := am ((by rw [hg]; exact (below_size (bl HB.out)) : w.heap.size ≤ gb234)); have GE234 := GW234; replace HB := am (below_step (bl HB.out) hb); have NB228_234 := am ((by rw [hg]; exact Nat.ne_of_lt (blk_lt (pk BK228.out)) : gb228 ≠ gb234)); have NB234_228 := am ((by rw [hg]; exact Nat.ne_of_gt (blk_lt (pk BK228.out)) : gb234 ≠ gb228)); replace BK228 := am (blk_below (pk BK228.out) hb); have NB229_234 := am ((by rw [hg]; exact Nat.ne_of_lt (blk_lt (pk BK229.out)) : gb229 ≠ gb234)); have NB234_229 := am ((by rw [hg]; exact Nat.ne_of_gt (blk_lt (pk BK229.out)) : gb234 ≠ gb229)); replace BK229 := am (blk_below (pk BK229.out) hb); clear hb hbox hg; obtain ⟨Ao28, co28, eo28⟩ := Kd.S_slice HO232.out; subst eo28; have hnb29 := NB234_228.out; have hnc29 := NB228_234.out; have hnb30 := NB234_229.out; have hnc30 := NB229_234.out; have hcz31_0 : w27.cell? ⟨gb234, 0, none⟩ = some (.slice none 0 0) := bc BK234.out 0; have hcz31_1 : w27.cell? ⟨gb234, 1, none⟩ = some (.int .i64 0) := bc BK234.out 1; have hfz31_0 := blk_frozen BK234.out 0; have hfz31_1 := blk_frozen BK234.out 1; have hcz32_0 : w27.cell? ⟨gb228, 0, none⟩ = some (.slice A0_0 l0_0.length c0_0) := bc BK228.out 0; have hcz32_1 : w27.cell? ⟨gb228, 1, none⟩ = some (.int .i64 a0_1) := bc BK228.out 1; have hfz32_0 := blk_frozen BK228.out 0; have hfz32_1 := blk_frozen BK228.out 1) | ((with_reducible refine gate_callee (f := 51) rfl ?_); refine gl (some 7) Try.func51 #[.agg #[.slice A0_0 l0_0.length c0_0, .int .i64 a0_1]] ?_; (with_reducible refine (spec_RingRight.calls k _ _ l0_0 a0_1 true _ ?side1 ?side2 A3.out).mono ?_); (case side1 => exact Kd.C_below HR0_0.out (bl HB.out)); (case side2 => exact HC0_0.out); rintro e w33 ⟨rfl, hb⟩; refine ⟨_, rfl, ?_⟩; replace HO232 := am (Kd.S_below (ks ((Kd.S_mono (Kd.S_far (p := ⟨gb234, 1, none⟩) (Kd.S_far (p := ⟨gb234, 0, none⟩) (Kd.S_types HO232.out BK234.out (by decide)) (fun _ hk => hk.2) (.slice Ao28 t230.length co28)) (fun _ hk => hk.2) (.int .i64 t233)) (fun _ h_ => h_.1)))) hb); replace BK228 := am (blk_below (g := gb228) (o := .cells #[.slice A0_0 l0_0.length c0_0, .int .i64 a0_1] 50 (0, 0)) (by refine pk ?_; refine blk_far ?_ NB228_234.out _; refine pk ?_; refine blk_far ?_ NB228_234.out _; refine pk ?_; exact BK228.out) hb); replace BK229 := am (blk_below (g := gb229) (o := .cells #[.slice none 0 0, .int .i64 0] 50 (0, 0)) (by refine pk ?_; refine blk_far ?_ NB229_234.out _; refine pk ?_; refine blk_far ?_ NB229_234.out _; refine pk ?_; exact BK229.out) hb); replace BK234 := am (blk_below (g := gb234) (o := .cells #[.slice Ao28 t230.length co28, .int .i64 t233] 50 (0, 0)) (by refine pk ?_; refine blk_put (cs := #[.slice Ao28 t230.length co28, .int .i64 0]) ?_ 1 _ rfl; refine pk ?_; refine blk_put (cs := #[.slice none 0 0, .int .i64 0]) ?_ 0 _ rfl; refine pk ?_; exact BK234.out) hb); replace HB := am (below_step (bl HB.out) hb); (try clear hb); (try clear hb2); (try clear hk); (try clear hi); have hcz34_0 : w33.cell? ⟨gb228, 0, none⟩ = some (.slice A0_0 l0_0.length c0_0) := bc BK228.out 0; have hcz34_1 : w33.cell? ⟨gb228, 1, none⟩ = some (.int .i64 a0_1) := bc BK228.out 1; have hfz34_0 := blk_frozen BK228.out 0; have hfz34_1 := blk_frozen BK228.out 1; have hcz35_0 : w33.cell? ⟨gb234, 0, none⟩ = some (.slice Ao28 t230.length co28) := bc BK234.out 0; have hcz35_1 : w33.cell? ⟨gb234, 1, none⟩ = some (.int .i64 t233) := bc BK234.out 1; have hfz35_0 := blk_frozen BK234.out 0; have hfz35_1 := blk_frozen BK234.out 1; have hcz36_0 : w33.cell? ⟨gb229, 0, none⟩ = some (.slice none 0 0) := bc BK229.out 0; have hcz36_1 : w33.cell? ⟨gb229, 1, none⟩ = some (.int .i64 0) := bc BK229.out 1; have hfz36_0 := blk_frozen BK229.out 0; have hfz36_1 := blk_frozen BK229.out 1))
   refine bodyPost_ret (results_cell_row rfl _ _ gb229 50 #[.slice Ao28 t230.length co28, .int .i64 t233] (0, 0) _ rfl (by refine pk ?_; refine blk_put (cs := #[.slice Ao28 t230.length co28, .int .i64 0]) ?_ 1 _ rfl; refine pk ?_; refine blk_put (cs := #[.slice none 0 0, .int .i64 0]) ?_ 0 _ rfl; refine pk ?_; exact BK229.out) Try.underlying50 rfl (by kernel_rfl)) rfl ?_
   exact ⟨_, by first | rfl | (simp [errW_none, errW_some] <;> rfl) | (simp [*, errW_none, errW_some] <;> rfl), ks (Kd.S_mono (Kd.S_far (p := ⟨gb229, 1, none⟩) (Kd.S_far (p := ⟨gb229, 0, none⟩) (Kd.S_types HO232.out BK229.out (by decide)) (fun _ hk => hk.2) (.slice Ao28 t230.length co28)) (fun _ hk => hk.2) (.int .i64 t233)) (fun _ hk => trivial)), by repeat (first | (with_reducible first | exact HB.out | apply below_alloc | apply pw_below_drewN | apply below_drew1 | refine below_set ?_ GE228.out | refine below_set ?_ GE229.out | refine below_set ?_ GE234.out) | exact HB.out)⟩
 ·replace c4 := Bool.eq_false_iff.mpr c4
  subst c4
  have H1 : (some (t230, t233)) = some (r1, r2) := by rw [if_neg (show ¬ (false = true) by decide)] at H; exact H
  clear H
  have H := H1
  clear H1
  simp only [Option.some.injEq, Prod.mk.injEq] at H
  obtain ⟨rfl, rfl⟩ := H
  go_enter Try.func58, Try.ntmps58
  go_wp2_with (first | ((with_reducible refine gate_dst (N := 1) rfl ?_); (try (refine gate_guard (by rfl) ?_; dsimp only)); refine box_event ?hg (N := 1) ?hd (cs := #[.slice A0_0 l0_0.length c0_0, .int .i64 a0_1]) (t := 50) ?hr ?_; (case hd => rfl); (case hg => rfl); (case hr => first | (go_simp; done) | (go_simp; rfl)); intro gb228 hg w37 hbox hb; have BK228 := am (hbox); have GW228 := am ((by rw [hg]; exact (below_size (bl HB.out)) : w.heap.size ≤ gb228)); have GE228 := GW228; replace HB := am (below_step (bl HB.out) hb); clear hb hbox hg) | ((with_reducible refine gate_dst (N := 2) rfl ?_); (try (refine gate_guard (by rfl) ?_; dsimp only)); refine box_event ?hg (N := 2) ?hd (cs := #[.slice none 0 0, .int .i64 0]) (t := 50) ?hr ?_; (case hd => rfl); (case hg => rfl); (case hr => first | (go_simp; done) | (go_simp; rfl)); intro gb229 hg w38 hbox hb; have BK229 := am (hbox); have GW229 := am ((by rw [hg]; exact (below_size (bl HB.out)) : w.heap.size ≤ gb229)); have GE229 := GW229; replace HB := am (below_step (bl HB.out) hb); have NB228_229 := am ((by rw [hg]; exact Nat.ne_of_lt (blk_lt (pk BK228.out)) : gb228 ≠ gb229)); have NB229_228 := am ((by rw [hg]; exact Nat.ne_of_gt (blk_lt (pk BK228.out)) : gb229 ≠ gb228)); replace BK228 := am (blk_below (pk BK228.out) hb); clear hb hbox hg; have hnb39 := NB228_229.out; have hnc39 := NB229_228.out; have hcz40_0 : w38.cell? ⟨gb228, 0, none⟩ = some (.slice A0_0 l0_0.length c0_0) := bc BK228.out 0; have hcz40_1 : w38.cell? ⟨gb228, 1, none⟩ = some (.int .i64 a0_1) := bc BK228.out 1; have hfz40_0 := blk_frozen BK228.out 0; have hfz40_1 := blk_frozen BK228.out 1) | ((with_reducible refine gate_callee (f := 75) rfl ?_); refine gl (some 5) Try.func75 #[.agg #[.slice A0_0 l0_0.length c0_0, .int .i64 a0_1]] ?_; (with_reducible refine (spec_l04Copy.calls k _ _ l0_0 a0_1 t230 t233 _ ?side1 ?side2 A2.out).mono ?_); (case side1 => repeat (first | exact (Kd.C_below HR0_0.out HB.out) | (with_reducible refine Kd.C_alloc ?_ _) | (with_reducible refine Kd.C_drewN ?_ _) | (with_reducible refine Kd.C_drew ?_))); (case side2 => exact HC0_0.out); rintro e w41 ⟨v231, rfl, ho0, hb⟩; refine ⟨_, rfl, ?_⟩; have HO232 := am (Kd.S_lower ho0 (below_size (bl HB.out))); replace BK228 := am (blk_below (pk BK228.out) hb); replace BK229 := am (blk_below (pk BK229.out) hb); replace HB := am (below_step (bl HB.out) hb); (try clear hb); (try clear hb2); (try clear hk); (try clear hi); (try clear ho0)) | ((with_reducible refine gate_dst (N := 3) rfl ?_); (try (refine gate_guard (by rfl) ?_; dsimp only)); refine box_event ?hg (N := 3) ?hd (cs := #[.slice none 0 0, .int .i64 0]) (t := 50) ?hr ?_; (case hd => rfl); (case hg => rfl); (case hr => first | (go_simp; done) | (go_simp; rfl)); intro gb234 hg w42 hbox hb; replace HO232 := am (Kd.S_below (ks HO232.out) hb); have BK234 := am (hbox); have GW234 := am ((by rw [hg]; exact (below_size (bl HB.out)) : w.heap.size ≤ gb234)); have GE234 := GW234; replace HB := am (below_step (bl HB.out) hb); have NB228_234 := am ((by rw [hg]; exact Nat.ne_of_lt (blk_lt (pk BK228.out)) : gb228 ≠ gb234)); have NB234_228 := am ((by rw [hg]; exact Nat.ne_of_gt (blk_lt (pk BK228.out)) : gb234 ≠ gb228)); replace BK228 := am (blk_below (pk BK228.out) hb); have NB229_234 := am ((by rw [hg]; exact Nat.ne_of_lt (blk_lt (pk BK229.out)) : gb229 ≠ gb234)); have NB234_229 := am ((by rw [hg]; exact Nat.ne_of_gt (blk_lt (pk BK229.out)) : gb234 ≠ gb229)); replace BK229 := am (blk_below (pk BK229.out) hb); clear hb hbox hg; obtain ⟨Ao43, co43, eo43⟩ := Kd.S_slice HO232.out; subst eo43; have hnb44 := NB234_228.out; have hnc44 := NB228_234.out; have hnb45 := NB234_229.out; have hnc45 := NB229_234.out; have hcz46_0 : w42.cell? ⟨gb234, 0, none⟩ = some (.slice none 0 0) := bc BK234.out 0; have hcz46_1 : w42.cell? ⟨gb234, 1, none⟩ = some (.int .i64 0) := bc BK234.out 1; have hfz46_0 := blk_frozen BK234.out 0; have hfz46_1 := blk_frozen BK234.out 1; have hcz47_0 : w42.cell? ⟨gb228, 0, none⟩ = some (.slice A0_0 l0_0.length c0_0) := bc BK228.out 0; have hcz47_1 : w42.cell? ⟨gb228, 1, none⟩ = some (.int .i64 a0_1) := bc BK228.out 1; have hfz47_0 := blk_frozen BK228.out 0; have hfz47_1 := blk_frozen BK228.out 1) | ((with_reducible refine gate_callee (f := 51) rfl ?_); refine gl (some 7) Try.func51 #[.agg #[.slice A0_0 l0_0.length c0_0, .int .i64 a0_1]] ?_; (with_reducible refine (spec_RingRight.calls k _ _ l0_0 a0_1 false _ ?side1 ?side2 A3.out).mono ?_); (case side1 => exact Kd.C_below HR0_0.out (bl HB.out)); (case side2 => exact HC0_0.out); rintro e w48 ⟨rfl, hb⟩; refine ⟨_, rfl, ?_⟩; replace HO232 := am (Kd.S_below (ks ((Kd.S_mono (Kd.S_far (p := ⟨gb234, 1, none⟩) (Kd.S_far (p := ⟨gb234, 0, none⟩) (Kd.S_types HO232.out BK234.out (by decide)) (fun _ hk => hk.2) (.slice Ao43 t230.length co43)) (fun _ hk => hk.2) (.int .i64 t233)) (fun _ h_ => h_.1)))) hb); replace BK228 := am (blk_below (g := gb228) (o := .cells #[.slice A0_0 l0_0.length c0_0, .int .i64 a0_1] 50 (0, 0)) (by refine pk ?_; refine blk_far ?_ NB228_234.out _; refine pk ?_; refine blk_far ?_ NB228_234.out _; refine pk ?_; exact BK228.out) hb); replace BK229 := am (blk_below (g := gb229) (o := .cells #[.slice none 0 0, .int .i64 0] 50 (0, 0)) (by refine pk ?_; refine blk_far ?_ NB229_234.out _; refine pk ?_; refine blk_far ?_ NB229_234.out _; refine pk ?_; exact BK229.out) hb); replace BK234 := am (blk_below (g := gb234) (o := .cells #[.slice Ao43 t230.length co43, .int .i64 t233] 50 (0, 0)) (by refine pk ?_; refine blk_put (cs := #[.slice Ao43 t230.length co43, .int .i64 0]) ?_ 1 _ rfl; refine pk ?_; refine blk_put (cs := #[.slice none 0 0, .int .i64 0]) ?_ 0 _ rfl; refine pk ?_; exact BK234.out) hb); replace HB := am (below_step (bl HB.out) hb); (try clear hb); (try clear hb2); (try clear hk); (try clear hi); have hcz49_0 : w48.cell? ⟨gb234, 0, none⟩ = some (.slice Ao43 t230.length co43) := bc BK234.out 0; have hcz49_1 : w48.cell? ⟨gb234, 1, none⟩ = some (.int .i64 t233) := bc BK234.out 1; have hfz49_0 := blk_frozen BK234.out 0; have hfz49_1 := blk_frozen BK234.out 1; have hcz50_0 : w48.cell? ⟨gb229, 0, none⟩ = some (.slice none 0 0) := bc BK229.out 0; have hcz50_1 : w48.cell? ⟨gb229, 1, none⟩ = some (.int .i64 0) := bc BK229.out 1; have hfz50_0 := blk_frozen BK229.out 0; have hfz50_1 := blk_frozen BK229.out 1))
  refine bodyPost_ret (results_cell_row rfl _ _ gb229 50 #[.slice Ao43 t230.length co43, .int .i64 t233] (0, 0) _ rfl (by refine pk ?_; refine blk_put (cs := #[.slice Ao43 t230.length co43, .int .i64 0]) ?_ 1 _ rfl; refine pk ?_; refine blk_put (cs := #[.slice none 0 0, .int .i64 0]) ?_ 0 _ rfl; refine pk ?_; exact BK229.out) Try.underlying50 rfl (by kernel_rfl)) rfl ?_
  exact ⟨_, by first | rfl | (simp [errW_none, errW_some] <;> rfl) | (simp [*, errW_none, errW_some] <;> rfl), ks (Kd.S_mono (Kd.S_far (p := ⟨gb229, 1, none⟩) (Kd.S_far (p := ⟨gb229, 0, none⟩) (Kd.S_types HO232.out BK229.out (by decide)) (fun _ hk => hk.2) (.slice Ao43 t230.length co43)) (fun _ hk => hk.2) (.int .i64 t233)) (fun _ hk => trivial)), by repeat (first | (with_reducible first | exact HB.out | apply below_alloc | apply pw_below_drewN | apply below_drew1 | refine below_set ?_ GE228.out | refine below_set ?_ GE229.out | refine below_set ?_ GE234.out) | exact HB.out)⟩

end Go.Proofs.Ytejgkbejdkaccaa.PFnExactRingPop
