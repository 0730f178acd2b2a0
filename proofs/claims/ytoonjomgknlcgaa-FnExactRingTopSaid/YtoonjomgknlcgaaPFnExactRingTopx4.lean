-- Written by xprint.py (this claim's own program, over the kit's printer); Lean checks it.
import Derived.Test.YtoonjomgknlcgaaPFnExactRingTopx0
import Derived.Test.YtoonjomgknlcgaaPFnExactRingTopx1
import Derived.Test.YtoonjomgknlcgaaPFnExactRingTopx2
import Derived.Test.YtoonjomgknlcgaaPFnExactRingTopx3
namespace Go.Proofs.Ytoonjomgknlcgaa.PFnExactRingTop
open Go.RowKit Go.Proofs.YtoonjomgknlcgaaW.PrintWords Go.Proofs.YtoonjomgknlcgaaW.PrintLast Go.Proofs.YtoonjomgknlcgaaW.PrintMore
attribute [local go_sem] max2_int min2_int max_two min_two max_three min_three max_four min_four   -- for this text's walks alone
set_option linter.unusedVariables false
set_option linter.unusedSimpArgs false   -- squeezed

/-! ### laws_heldInt64S: function 27 -/
def laws_heldInt64S.l0 : Nat → List Int → Int → Int → Option (Int)
 | 0, _, _, _ => none
 | k + 1, x0, x1, x5 => if x5 < (x0.length : Int) then (if 0 ≤ x5 then (if (rd x0 x5) = x1 then (laws_heldInt64S.l0 k x0 (wrap64 (x1 + 1)) (wrap64 (x5 + 1))) else (some (-1))) else (none)) else (some x1)
def laws_heldInt64S.f (k : Nat) (l0 : List Int) (a1 : Int) : Option (Int) := laws_heldInt64S.l0 k l0 a1 0
theorem laws_heldInt64S.mono_l : ∀ k, (∀ y0 y1 y2, LeO (laws_heldInt64S.l0 k y0 y1 y2) (laws_heldInt64S.l0 (k + 1) y0 y1 y2))
 | 0 => fun _ _ _ r h => by simp [laws_heldInt64S.l0] at h
 | k + 1 => by
  have ih0 := laws_heldInt64S.mono_l k
  ·intro y0 y1 y2
   unfold laws_heldInt64S.l0
   repeat' first
   | (with_reducible exact ih0 _ _ _)
   | (with_reducible exact LeO.refl _)
   | (with_reducible exact LeO.none _)
   | (with_reducible refine LeO.ite ?_ ?_)
   | (with_reducible refine LeO.bind ?_ (fun _ => ?_))
   | exact ih0 _ _ _
   | exact LeO.none _
   | refine LeO.ite ?_ ?_
   | refine LeO.bind ?_ (fun _ => ?_)
theorem laws_heldInt64S.mono : ∀ a0 a1 k, LeO (laws_heldInt64S.f k a0 a1) (laws_heldInt64S.f (k + 1) a0 a1) := by
 intro a0 a1 k
 have ih0 := laws_heldInt64S.mono_l k
 unfold laws_heldInt64S.f
 repeat' first
   | (with_reducible exact ih0 _ _ _)
   | (with_reducible exact LeO.refl _)
   | (with_reducible exact LeO.none _)
   | (with_reducible refine LeO.ite ?_ ?_)
   | (with_reducible refine LeO.bind ?_ (fun _ => ?_))
   | exact ih0 _ _ _
   | exact LeO.none _
   | refine LeO.ite ?_ ?_
   | refine LeO.bind ?_ (fun _ => ?_)
set_option maxHeartbeats 8000000 in
set_option maxRecDepth 100000 in
theorem laws_heldInt64S.calls (k : Nat) (A0 : Option Addr) (c0 : Nat) (l0 : List Int) (a1 : Int) (r : Int) (w : World) (hr0 : Kd.C (Kd.int .i64) w A0 l0.length l0) (hc0 : l0.length ≤ c0) (h : laws_heldInt64S.f k l0 a1 = some r) :
  Calls Try.prog 27 #[.slice A0 l0.length c0, .int .i64 a1] w fun e w' => e = .returned (.int .i64 r) ∧ Drawn0 w w' := by
 have HR0 := am hr0
 have HC0 := am hc0
 clear hr0 hc0
 have H : (laws_heldInt64S.l0 k l0 a1 0) = some r := h
 clear h
 have H' := Aside0.mk H
 clear H
 go_enter Try.func27, Try.ntmps27
 go_wp2
 go_loopg [1, 5] k (fun kq v1 v5 w' => ∃ (x1_1 : Int) (x5_1 : Int), v1 = .int .i64 x1_1 ∧ v5 = .int .i64 x5_1 ∧ Aside0 (laws_heldInt64S.l0 kq l0 x1_1 x5_1 = some r) ∧ Aside0 (kq ≤ k) ∧ Drawn0 w w')
 case atStart => exact ⟨(a1), (0), (by first | rfl | (simp; done) | (simp [*]; done)), (by first | rfl | (simp; done) | (simp [*]; done)), H', ⟨Nat.le_refl _⟩, by repeat (first | exact Drawn0.refl _ | apply Drawn0.step)⟩
 case round =>
  clear H'
  try clear c2
  try clear p2
  obtain ⟨x1_1, x5_1, rfl, rfl, HA, HK1, ⟨m1, rfl⟩⟩ := hrel
  cases gk with
  | zero => exact absurd HA.out (by simp [laws_heldInt64S.l0])
  | succ k1 =>
   have H := HA.out
   clear HA
   simp only [laws_heldInt64S.l0] at H
   by_cases c3 : x5_1 < (l0.length : Int)
   ·rw [if_pos c3] at H
    have c3b0 : decide (x5_1 < (l0.length : Int)) = true := decide_eq_true c3
    clear c3
    by_cases c4 : 0 ≤ x5_1
    ·rw [if_pos c4] at H
     have c4b0 : decide (0 ≤ x5_1) = true := decide_eq_true c4
     clear c4
     by_cases c5 : (rd l0 x5_1) = x1_1
     ·rw [if_pos c5] at H
      have c5b0 : ((rd l0 x5_1) == x1_1) = true := beq_iff_eq.mpr c5
      have c5b1 : ((rd l0 x5_1) != x1_1) = false := bne_eq_false_iff_eq.mpr c5
      clear c5
      have H' := Aside0.mk H
      clear H
      have p187 : 0 ≤ (x5_1 : Int) := of_decide_eq_true (by first | (with_reducible assumption) | assumption)
      have q187 : x5_1 < (l0.length : Int) := of_decide_eq_true (by first | (with_reducible assumption) | assumption)
      obtain ⟨ad187, e187, hx187_0⟩ := Kd.at_int HR0.out x5_1 p187 q187
      cases e187
      replace p187 := eq_true p187
      replace q187 := eq_true q187
      go_wp2
      go_roundg k1
      case measure => have := HK1.out; omega
      case rel => exact ⟨(wrap64 (x1_1 + 1)), (wrap64 (x5_1 + 1)), (by first | rfl | (simp; done) | (simp [*]; done)), (by first | rfl | (simp; done) | (simp [*]; done)), H', ⟨by have := HK1.out; omega⟩, by repeat (first | exact Drawn0.refl _ | apply Drawn0.step)⟩
     ·rw [if_neg c5] at H
      have c5b0 : ((rd l0 x5_1) == x1_1) = false := beq_eq_false_iff_ne.mpr c5
      have c5b1 : ((rd l0 x5_1) != x1_1) = true := bne_iff_ne.mpr c5
      obtain rfl := Option.some.inj H
      have p187 : 0 ≤ (x5_1 : Int) := of_decide_eq_true (by first | (with_reducible assumption) | assumption)
      have q187 : x5_1 < (l0.length : Int) := of_decide_eq_true (by first | (with_reducible assumption) | assumption)
      obtain ⟨ad187, e187, hx187_0⟩ := Kd.at_int HR0.out x5_1 p187 q187
      cases e187
      replace p187 := eq_true p187
      replace q187 := eq_true q187
      go_wp2
      go_ret
      exact ⟨by first | rfl | (simp; done) | (simp [*]; done), by repeat (first | exact Drawn0.refl _ | apply Drawn0.step)⟩
    ·rw [if_neg c4] at H
     exact absurd H (by simp)
   ·rw [if_neg c3] at H
    have c3b0 : decide (x5_1 < (l0.length : Int)) = false := decide_eq_false c3
    clear c3
    obtain rfl := Option.some.inj H
    go_wp2
    go_ret
    exact ⟨by first | rfl | (simp; done) | (simp [*]; done), by repeat (first | exact Drawn0.refl _ | apply Drawn0.step)⟩

/-! ### laws_FnExactRingTop: function 5 -/
def laws_FnExactRingTop.f (k : Nat) (l0_0 : List (List Int)) (a0_1 : Int) : Option (Bool) := ((laws_szRing.f k l0_0 a0_1 1048576).bind fun t3 => (if t3 < 0 then (some true) else ((laws_toRing.f k l0_0 a0_1).bind fun bt6 => ((spec_RingTop.f k bt6.1 bt6.2).bind fun t8 => ((laws_toRing.f k l0_0 a0_1).bind fun bt10 => ((impl_RingTop.f k bt10.1 bt10.2).bind fun t14 => ((laws_eqInt64S.f k t14 t8).bind fun t16 => (if t16 = true then ((laws_toRing.f k l0_0 a0_1).bind fun bt21 => ((laws_eqRing.f k bt10.1 bt10.2 bt21.1 bt21.2).bind fun t23 => (if t23 = true then ((laws_markRing.f k bt10.1 bt10.2 1).bind fun bt26 => ((laws_eqInt64S.f k t14 t8).bind fun t28 => (if bt26.1 < 0 then (some false) else (if t28 = true then ((laws_markInt64S.f k t14 1).bind fun bt32 => ((laws_heldInt64S.f k bt32.2 1).bind fun t34 => (if t34 < 0 then (some false) else (if t34 = bt32.1 then ((laws_toRing.f k l0_0 a0_1).bind fun bt38 => ((impl_RingTop.f k bt38.1 bt38.2).bind fun t40 => ((laws_eqInt64S.f k t40 t8).bind fun t42 => (if t42 = true then ((laws_heldInt64S.f k bt32.2 1).bind fun t45 => (if t45 < 0 then (some false) else (if t45 = bt32.1 then (some true) else (some false)))) else (some false))))) else (some false))))) else (some false))))) else (some false)))) else (some false)))))))))
set_option maxHeartbeats 8000000 in
set_option maxRecDepth 100000 in
theorem laws_FnExactRingTop.calls (k : Nat) (A0_0 : Option Addr) (c0_0 : Nat) (l0_0 : List (List Int)) (a0_1 : Int) (r : Bool) (w : World) (hr0_0 : Kd.C (Kd.slice 2 (Kd.int .i64)) w A0_0 l0_0.length l0_0) (hc0_0 : l0_0.length ≤ c0_0) (h : laws_FnExactRingTop.f k l0_0 a0_1 = some true) :
 Calls Try.prog 5 #[.agg #[.slice A0_0 l0_0.length c0_0, .int .i64 a0_1]] w fun e w' => e = .returned (.bool true) ∧ Below w.heap.size w w' := by
 have hu43 := Try.underlying43
 have hu46 := Try.underlying46
 have HR0_0 := am hr0_0
 have HC0_0 := am hc0_0
 clear hr0_0 hc0_0
 have HB := am (Below.refl w.heap.size w)
 have H : ((laws_szRing.f k l0_0 a0_1 1048576).bind fun t3 => (if t3 < 0 then (some true) else ((laws_toRing.f k l0_0 a0_1).bind fun bt6 => ((spec_RingTop.f k bt6.1 bt6.2).bind fun t8 => ((laws_toRing.f k l0_0 a0_1).bind fun bt10 => ((impl_RingTop.f k bt10.1 bt10.2).bind fun t14 => ((laws_eqInt64S.f k t14 t8).bind fun t16 => (if t16 = true then ((laws_toRing.f k l0_0 a0_1).bind fun bt21 => ((laws_eqRing.f k bt10.1 bt10.2 bt21.1 bt21.2).bind fun t23 => (if t23 = true then ((laws_markRing.f k bt10.1 bt10.2 1).bind fun bt26 => ((laws_eqInt64S.f k t14 t8).bind fun t28 => (if bt26.1 < 0 then (some false) else (if t28 = true then ((laws_markInt64S.f k t14 1).bind fun bt32 => ((laws_heldInt64S.f k bt32.2 1).bind fun t34 => (if t34 < 0 then (some false) else (if t34 = bt32.1 then ((laws_toRing.f k l0_0 a0_1).bind fun bt38 => ((impl_RingTop.f k bt38.1 bt38.2).bind fun t40 => ((laws_eqInt64S.f k t40 t8).bind fun t42 => (if t42 = true then ((laws_heldInt64S.f k bt32.2 1).bind fun t45 => (if t45 < 0 then (some false) else (if t45 = bt32.1 then (some true) else (some false)))) else (some false))))) else (some false))))) else (some false))))) else (some false)))) else (some false))))))))) = some true := h
 clear h
 obtain ⟨t3, E3, H⟩ := Option.bind_eq_some_iff.mp H
 (try dsimp only at H)
 have A3 := Aside0.mk E3
 clear E3
 by_cases c5 : t3 < 0
 ·have c5b0 : decide (t3 < 0) = true := decide_eq_true c5
  clear c5
  go_enter Try.func5, Try.ntmps5
  go_wp2_with (first | ((with_reducible refine gate_dst (N := 1) rfl ?_); refine box_event ?hg (N := 1) ?hd (cs := #[.slice A0_0 l0_0.length c0_0, .int .i64 a0_1]) (t := 43) ?hr ?_; (case hd => rfl); (case hg => rfl); (case hr => first | (go_simp; done) | (go_simp; rfl)); intro gb1 hg w2 hbox hb; have GEgb1 : w.heap.size ≤ gb1 := (by rw [hg]; exact below_size (bl HB.out)); have ngb1 : gb1 + 1 ≤ w2.heap.size := blk_lt hbox; have n0_ := am (hbox); have n1_ := am (below_step (bl HB.out) hb); have n2_ := am (ngb1); clear HB; have BKgb1 := n0_; have HB := n1_; have HZ := n2_; clear n0_ n1_ n2_; clear hb hbox hg ngb1; have hcgb1_0 : w2.cell? ⟨gb1, 0, none⟩ = some (.slice A0_0 l0_0.length c0_0) := (blk_cell BKgb1.out 0).trans rfl; have hfgb1_0 := blk_frozen BKgb1.out 0; have hcgb1_1 : w2.cell? ⟨gb1, 1, none⟩ = some (.int .i64 a0_1) := (blk_cell BKgb1.out 1).trans rfl; have hfgb1_1 := blk_frozen BKgb1.out 1) | ((with_reducible refine gate_callee (f := 19) rfl ?_); refine gl (some 13) Try.func19 #[.agg #[.slice A0_0 l0_0.length c0_0, .int .i64 a0_1], .int .i64 1048576] ?_; (with_reducible refine (laws_szRing.calls k _ _ l0_0 a0_1 1048576 t3 _ ?s0 ?s1 A3.out).mono ?_); (case s0 => repeat (first | exact (Kd.C_below HR0_0.out (by repeat (first | (with_reducible first | exact HB.out | apply below_alloc | apply pw_below_drewN | apply below_drew1 | refine below_set ?_ GEgb1) | exact HB.out))) | (with_reducible refine Kd.C_alloc ?_ _) | (with_reducible refine Kd.C_drewN ?_ _) | (with_reducible refine Kd.C_drew ?_))); (case s1 => exact HC0_0.out); rintro e w4 ⟨rfl, hb⟩; refine ⟨_, rfl, ?_⟩; obtain ⟨na3, nb3, ha_, hz_, hab3⟩ := nxt_ hb; have hn3 : (gb1 + 1) ≤ na3 := (by rw [ha_]; exact (by repeat (first | exact HZ.out | refine sz_set ?_))); have n0_ := am (blk_below (g := gb1) (o := .cells #[.slice A0_0 l0_0.length c0_0, .int .i64 a0_1] 43 (0, 0)) (pk BKgb1.out) hb); have n1_ := am (below_step (by repeat (first | (with_reducible first | exact HB.out | apply below_alloc | apply pw_below_drewN | apply below_drew1 | refine below_set ?_ GEgb1) | exact HB.out)) hb); have n2_ := am (Nat.le_of_eq hz_); clear BKgb1 HB HZ; have BKgb1 := n0_; have HB := n1_; have HZ := n2_; clear n0_ n1_ n2_; clear hb ha_ hz_ ; (try clear hcgb1_0); (try clear hfgb1_0); (try clear hcgb1_1); (try clear hfgb1_1); have hcgb1_0 : w4.cell? ⟨gb1, 0, none⟩ = some (.slice A0_0 l0_0.length c0_0) := (blk_cell BKgb1.out 0).trans rfl; have hfgb1_0 := blk_frozen BKgb1.out 0; have hcgb1_1 : w4.cell? ⟨gb1, 1, none⟩ = some (.int .i64 a0_1) := (blk_cell BKgb1.out 1).trans rfl; have hfgb1_1 := blk_frozen BKgb1.out 1))
  go_ret
  exact ⟨by first | rfl | (simp [*]; done), (by repeat (first | (with_reducible first | exact HB.out | apply below_alloc | apply pw_below_drewN | apply below_drew1 | refine below_set ?_ GEgb1) | exact HB.out))⟩
 ·skip
  rw [if_neg c5] at H
  have c5b0 : decide (t3 < 0) = false := decide_eq_false c5
  clear c5
  obtain ⟨⟨t6_0, t6_1⟩, E6, H⟩ := Option.bind_eq_some_iff.mp H
  (try dsimp only at H)
  have A6 := Aside0.mk E6
  clear E6
  obtain ⟨t8, E8, H⟩ := Option.bind_eq_some_iff.mp H
  (try dsimp only at H)
  have A8 := Aside0.mk E8
  clear E8
  obtain ⟨⟨t10_0, t10_1⟩, E10, H⟩ := Option.bind_eq_some_iff.mp H
  (try dsimp only at H)
  have A10 := Aside0.mk E10
  clear E10
  obtain ⟨t14, E14, H⟩ := Option.bind_eq_some_iff.mp H
  (try dsimp only at H)
  have A14 := Aside0.mk E14
  clear E14
  obtain ⟨t16, E16, H⟩ := Option.bind_eq_some_iff.mp H
  (try dsimp only at H)
  have A16 := Aside0.mk E16
  clear E16
  have c18 : t16 = true := Decidable.byContradiction (fun c_ => by rw [if_neg c_] at H; exact absurd H (by decide))
  rw [if_pos c18] at H
  subst c18
  obtain ⟨⟨t21_0, t21_1⟩, E21, H⟩ := Option.bind_eq_some_iff.mp H
  (try dsimp only at H)
  have A21 := Aside0.mk E21
  clear E21
  obtain ⟨t23, E23, H⟩ := Option.bind_eq_some_iff.mp H
  (try dsimp only at H)
  have A23 := Aside0.mk E23
  clear E23
  have c25 : t23 = true := Decidable.byContradiction (fun c_ => by rw [if_neg c_] at H; exact absurd H (by decide))
  rw [if_pos c25] at H
  subst c25
  obtain ⟨⟨t26, t26_0⟩, E26, H⟩ := Option.bind_eq_some_iff.mp H
  (try dsimp only at H)
  have A26 := Aside0.mk E26
  clear E26
  obtain ⟨t28, E28, H⟩ := Option.bind_eq_some_iff.mp H
  (try dsimp only at H)
  have A28 := Aside0.mk E28
  clear E28
  have c30 : ¬ (t26 < 0) := fun c_ => by rw [if_pos c_] at H; exact absurd H (by decide)
  rw [if_neg c30] at H
  have c30b0 : decide (t26 < 0) = false := decide_eq_false c30
  clear c30
  have c31 : t28 = true := Decidable.byContradiction (fun c_ => by rw [if_neg c_] at H; exact absurd H (by decide))
  rw [if_pos c31] at H
  subst c31
  obtain ⟨⟨t32, t32_0⟩, E32, H⟩ := Option.bind_eq_some_iff.mp H
  (try dsimp only at H)
  have A32 := Aside0.mk E32
  clear E32
  obtain ⟨t34, E34, H⟩ := Option.bind_eq_some_iff.mp H
  (try dsimp only at H)
  have A34 := Aside0.mk E34
  clear E34
  have c36 : ¬ (t34 < 0) := fun c_ => by rw [if_pos c_] at H; exact absurd H (by decide)
  rw [if_neg c36] at H
  have c36b0 : decide (t34 < 0) = false := decide_eq_false c36
  clear c36
  have c37 : t34 = t32 := Decidable.byContradiction (fun c_ => by rw [if_neg c_] at H; exact absurd H (by decide))
  rw [if_pos c37] at H
  have c37b0 : (t34 == t32) = true := beq_iff_eq.mpr c37
  have c37b1 : (t34 != t32) = false := bne_eq_false_iff_eq.mpr c37
  have c37n : (t34 != t32) = false := by simp [c37]
  clear c37
  obtain ⟨⟨t38_0, t38_1⟩, E38, H⟩ := Option.bind_eq_some_iff.mp H
  (try dsimp only at H)
  have A38 := Aside0.mk E38
  clear E38
  obtain ⟨t40, E40, H⟩ := Option.bind_eq_some_iff.mp H
  (try dsimp only at H)
  have A40 := Aside0.mk E40
  clear E40
  obtain ⟨t42, E42, H⟩ := Option.bind_eq_some_iff.mp H
  (try dsimp only at H)
  have A42 := Aside0.mk E42
  clear E42
  have c44 : t42 = true := Decidable.byContradiction (fun c_ => by rw [if_neg c_] at H; exact absurd H (by decide))
  rw [if_pos c44] at H
  subst c44
  obtain ⟨t45, E45, H⟩ := Option.bind_eq_some_iff.mp H
  (try dsimp only at H)
  have A45 := Aside0.mk E45
  clear E45
  have c47 : ¬ (t45 < 0) := fun c_ => by rw [if_pos c_] at H; exact absurd H (by decide)
  rw [if_neg c47] at H
  have c47b0 : decide (t45 < 0) = false := decide_eq_false c47
  clear c47
  have c48 : t45 = t32 := Decidable.byContradiction (fun c_ => by rw [if_neg c_] at H; exact absurd H (by decide))
  rw [if_pos c48] at H
  have c48b0 : (t45 == t32) = true := beq_iff_eq.mpr c48
  have c48b1 : (t45 != t32) = false := bne_eq_false_iff_eq.mpr c48
  have c48n : (t45 != t32) = false := by simp [c48]
  clear c48
  go_enter Try.func5, Try.ntmps5
  go_wp2_with (first | ((with_reducible refine gate_dst (N := 1) rfl ?_); refine box_event ?hg (N := 1) ?hd (cs := #[.slice A0_0 l0_0.length c0_0, .int .i64 a0_1]) (t := 43) ?hr ?_; (case hd => rfl); (case hg => rfl); (case hr => first | (go_simp; done) | (go_simp; rfl)); intro gb1 hg w2 hbox hb; have GEgb1 : w.heap.size ≤ gb1 := (by rw [hg]; exact below_size (bl HB.out)); have ngb1 : gb1 + 1 ≤ w2.heap.size := blk_lt hbox; have n0_ := am (hbox); have n1_ := am (below_step (bl HB.out) hb); have n2_ := am (ngb1); clear HB; have BKgb1 := n0_; have HB := n1_; have HZ := n2_; clear n0_ n1_ n2_; clear hb hbox hg ngb1; have hcgb1_0 : w2.cell? ⟨gb1, 0, none⟩ = some (.slice A0_0 l0_0.length c0_0) := (blk_cell BKgb1.out 0).trans rfl; have hfgb1_0 := blk_frozen BKgb1.out 0; have hcgb1_1 : w2.cell? ⟨gb1, 1, none⟩ = some (.int .i64 a0_1) := (blk_cell BKgb1.out 1).trans rfl; have hfgb1_1 := blk_frozen BKgb1.out 1) | ((with_reducible refine gate_callee (f := 19) rfl ?_); refine gl (some 13) Try.func19 #[.agg #[.slice A0_0 l0_0.length c0_0, .int .i64 a0_1], .int .i64 1048576] ?_; (with_reducible refine (laws_szRing.calls k _ _ l0_0 a0_1 1048576 t3 _ ?s0 ?s1 A3.out).mono ?_); (case s0 => repeat (first | exact (Kd.C_below HR0_0.out (by repeat (first | (with_reducible first | exact HB.out | apply below_alloc | apply pw_below_drewN | apply below_drew1 | refine below_set ?_ GEgb1) | exact HB.out))) | (with_reducible refine Kd.C_alloc ?_ _) | (with_reducible refine Kd.C_drewN ?_ _) | (with_reducible refine Kd.C_drew ?_))); (case s1 => exact HC0_0.out); rintro e w4 ⟨rfl, hb⟩; refine ⟨_, rfl, ?_⟩; obtain ⟨na3, nb3, ha_, hz_, hab3⟩ := nxt_ hb; have hn3 : (gb1 + 1) ≤ na3 := (by rw [ha_]; exact (by repeat (first | exact HZ.out | refine sz_set ?_))); have n0_ := am (blk_below (g := gb1) (o := .cells #[.slice A0_0 l0_0.length c0_0, .int .i64 a0_1] 43 (0, 0)) (pk BKgb1.out) hb); have n1_ := am (below_step (by repeat (first | (with_reducible first | exact HB.out | apply below_alloc | apply pw_below_drewN | apply below_drew1 | refine below_set ?_ GEgb1) | exact HB.out)) hb); have n2_ := am (Nat.le_of_eq hz_); clear BKgb1 HB HZ; have BKgb1 := n0_; have HB := n1_; have HZ := n2_; clear n0_ n1_ n2_; clear hb ha_ hz_ ; (try clear hcgb1_0); (try clear hfgb1_0); (try clear hcgb1_1); (try clear hfgb1_1); have hcgb1_0 : w4.cell? ⟨gb1, 0, none⟩ = some (.slice A0_0 l0_0.length c0_0) := (blk_cell BKgb1.out 0).trans rfl; have hfgb1_0 := blk_frozen BKgb1.out 0; have hcgb1_1 : w4.cell? ⟨gb1, 1, none⟩ = some (.int .i64 a0_1) := (blk_cell BKgb1.out 1).trans rfl; have hfgb1_1 := blk_frozen BKgb1.out 1) | ((with_reducible refine gate_callee (f := 21) rfl ?_); refine gl (some 17) Try.func21 #[.agg #[.slice A0_0 l0_0.length c0_0, .int .i64 a0_1]] ?_; (with_reducible refine (laws_toRing.calls k _ _ l0_0 a0_1 t6_0 t6_1 _ ?s0 ?s1 A6.out).mono ?_); (case s0 => repeat (first | exact (Kd.C_below HR0_0.out (by repeat (first | (with_reducible first | exact HB.out | apply below_alloc | apply pw_below_drewN | apply below_drew1 | refine below_set ?_ GEgb1) | exact HB.out))) | (with_reducible refine Kd.C_alloc ?_ _) | (with_reducible refine Kd.C_drewN ?_ _) | (with_reducible refine Kd.C_drew ?_))); (case s1 => exact HC0_0.out); rintro e w7 ⟨v6_0, rfl, ho0, hb⟩; refine ⟨_, rfl, ?_⟩; obtain ⟨na6, nb6, ha_, hz_, hab6⟩ := nxt_ hb; have hn6 : nb3 ≤ na6 := (by rw [ha_]; exact (by repeat (first | exact HZ.out | refine sz_set ?_))); have n0_ := am (blk_below (g := gb1) (o := .cells #[.slice A0_0 l0_0.length c0_0, .int .i64 a0_1] 43 (0, 0)) (pk BKgb1.out) hb); have n1_ := am (S_rg ha_ hz_ (below_size (by repeat (first | (with_reducible first | exact HB.out | apply below_alloc | apply pw_below_drewN | apply below_drew1 | refine below_set ?_ GEgb1) | exact HB.out))) ho0); have n2_ := am (below_step (by repeat (first | (with_reducible first | exact HB.out | apply below_alloc | apply pw_below_drewN | apply below_drew1 | refine below_set ?_ GEgb1) | exact HB.out)) hb); have n3_ := am (Nat.le_of_eq hz_); clear BKgb1 HB HZ; have BKgb1 := n0_; have HO6_0 := n1_; have HB := n2_; have HZ := n3_; clear n0_ n1_ n2_ n3_; clear hb ha_ hz_ ho0; obtain ⟨Ao6_0, co6_0, eo6_0⟩ := Kd.S_slice HO6_0.out; subst eo6_0; (try clear hcgb1_0); (try clear hfgb1_0); (try clear hcgb1_1); (try clear hfgb1_1); have hcgb1_0 : w7.cell? ⟨gb1, 0, none⟩ = some (.slice A0_0 l0_0.length c0_0) := (blk_cell BKgb1.out 0).trans rfl; have hfgb1_0 := blk_frozen BKgb1.out 0; have hcgb1_1 : w7.cell? ⟨gb1, 1, none⟩ = some (.int .i64 a0_1) := (blk_cell BKgb1.out 1).trans rfl; have hfgb1_1 := blk_frozen BKgb1.out 1) | ((with_reducible refine gate_callee (f := 20) rfl ?_); refine gl (some 18) Try.func20 #[.agg #[.slice Ao6_0 t6_0.length co6_0, .int .i64 t6_1]] ?_; (with_reducible refine (spec_RingTop.calls k _ _ t6_0 t6_1 t8 _ ?s0 ?s1 A8.out).mono ?_); (case s0 => exact (Kd.S_reads' (by (with_reducible repeat (first | apply Kd.S_alloc | apply Kd.S_drewN | apply Kd.S_drew)); exact HO6_0.out)).2.2); (case s1 => exact (Kd.S_reads' HO6_0.out).2.1); rintro e w9 ⟨v8_0, rfl, ho0, hb⟩; refine ⟨_, rfl, ?_⟩; obtain ⟨na8, nb8, ha_, hz_, hab8⟩ := nxt_ hb; have hn8 : nb6 ≤ na8 := (by rw [ha_]; exact (by repeat (first | exact HZ.out | refine sz_set ?_))); have n0_ := am (Kd.S_below (by (with_reducible repeat (first | apply Kd.S_alloc | apply Kd.S_drewN | apply Kd.S_drew)); exact HO6_0.out) hb); have n1_ := am (blk_below (g := gb1) (o := .cells #[.slice A0_0 l0_0.length c0_0, .int .i64 a0_1] 43 (0, 0)) (pk BKgb1.out) hb); have n2_ := am (R_rg ha_ hz_ (below_size (by repeat (first | (with_reducible first | exact HB.out | apply below_alloc | apply pw_below_drewN | apply below_drew1 | refine below_set ?_ GEgb1) | exact HB.out))) ho0); have n3_ := am (below_step (by repeat (first | (with_reducible first | exact HB.out | apply below_alloc | apply pw_below_drewN | apply below_drew1 | refine below_set ?_ GEgb1) | exact HB.out)) hb); have n4_ := am (Nat.le_of_eq hz_); clear HO6_0 BKgb1 HB HZ; have HO6_0 := n0_; have BKgb1 := n1_; have HO8_0 := n2_; have HB := n3_; have HZ := n4_; clear n0_ n1_ n2_ n3_ n4_; clear hb ha_ hz_ ho0; obtain ⟨Ao8_0, co8_0, eo8_0⟩ := Kd.R_slice HO8_0.out; subst eo8_0; (try clear hcgb1_0); (try clear hfgb1_0); (try clear hcgb1_1); (try clear hfgb1_1); have hcgb1_0 : w9.cell? ⟨gb1, 0, none⟩ = some (.slice A0_0 l0_0.length c0_0) := (blk_cell BKgb1.out 0).trans rfl; have hfgb1_0 := blk_frozen BKgb1.out 0; have hcgb1_1 : w9.cell? ⟨gb1, 1, none⟩ = some (.int .i64 a0_1) := (blk_cell BKgb1.out 1).trans rfl; have hfgb1_1 := blk_frozen BKgb1.out 1) | ((with_reducible refine gate_callee (f := 21) rfl ?_); refine gl (some 20) Try.func21 #[.agg #[.slice A0_0 l0_0.length c0_0, .int .i64 a0_1]] ?_; (with_reducible refine (laws_toRing.calls k _ _ l0_0 a0_1 t10_0 t10_1 _ ?s0 ?s1 A10.out).mono ?_); (case s0 => repeat (first | exact (Kd.C_below HR0_0.out (by repeat (first | (with_reducible first | exact HB.out | apply below_alloc | apply pw_below_drewN | apply below_drew1 | refine below_set ?_ GEgb1) | exact HB.out))) | (with_reducible refine Kd.C_alloc ?_ _) | (with_reducible refine Kd.C_drewN ?_ _) | (with_reducible refine Kd.C_drew ?_))); (case s1 => exact HC0_0.out); rintro e w11 ⟨v10_0, rfl, ho0, hb⟩; refine ⟨_, rfl, ?_⟩; obtain ⟨na10, nb10, ha_, hz_, hab10⟩ := nxt_ hb; have hn10 : nb8 ≤ na10 := (by rw [ha_]; exact (by repeat (first | exact HZ.out | refine sz_set ?_))); have n0_ := am (Kd.S_below (by (with_reducible repeat (first | apply Kd.S_alloc | apply Kd.S_drewN | apply Kd.S_drew)); exact HO6_0.out) hb); have n1_ := am (Kd.R_below (by (with_reducible repeat (first | apply Kd.R_alloc | apply Kd.R_drewN | apply Kd.R_drew)); exact HO8_0.out) hb); have n2_ := am (blk_below (g := gb1) (o := .cells #[.slice A0_0 l0_0.length c0_0, .int .i64 a0_1] 43 (0, 0)) (pk BKgb1.out) hb); have n3_ := am (S_rg ha_ hz_ (below_size (by repeat (first | (with_reducible first | exact HB.out | apply below_alloc | apply pw_below_drewN | apply below_drew1 | refine below_set ?_ GEgb1) | exact HB.out))) ho0); have n4_ := am (below_step (by repeat (first | (with_reducible first | exact HB.out | apply below_alloc | apply pw_below_drewN | apply below_drew1 | refine below_set ?_ GEgb1) | exact HB.out)) hb); have n5_ := am (Nat.le_of_eq hz_); clear HO6_0 HO8_0 BKgb1 HB HZ; have HO6_0 := n0_; have HO8_0 := n1_; have BKgb1 := n2_; have HO10_0 := n3_; have HB := n4_; have HZ := n5_; clear n0_ n1_ n2_ n3_ n4_ n5_; clear hb ha_ hz_ ho0; obtain ⟨Ao10_0, co10_0, eo10_0⟩ := Kd.S_slice HO10_0.out; subst eo10_0; (try clear hcgb1_0); (try clear hfgb1_0); (try clear hcgb1_1); (try clear hfgb1_1); have hcgb1_0 : w11.cell? ⟨gb1, 0, none⟩ = some (.slice A0_0 l0_0.length c0_0) := (blk_cell BKgb1.out 0).trans rfl; have hfgb1_0 := blk_frozen BKgb1.out 0; have hcgb1_1 : w11.cell? ⟨gb1, 1, none⟩ = some (.int .i64 a0_1) := (blk_cell BKgb1.out 1).trans rfl; have hfgb1_1 := blk_frozen BKgb1.out 1) | ((with_reducible refine gate_dst (N := 5) rfl ?_); refine box_event ?hg (N := 5) ?hd (cs := #[.slice none 0 0, .int .i64 0]) (t := 46) ?hr ?_; (case hd => rfl); (case hg => rfl); (case hr => first | (go_simp; done) | (go_simp; rfl)); intro gb12 hg w13 hbox hb; have GEgb12 : w.heap.size ≤ gb12 := (by rw [hg]; exact below_size (by repeat (first | (with_reducible first | exact HB.out | apply below_alloc | apply pw_below_drewN | apply below_drew1 | refine below_set ?_ GEgb1) | exact HB.out))); have hn12 : nb10 ≤ gb12 := (by rw [hg]; exact (by repeat (first | exact HZ.out | refine sz_set ?_))); have ngb12 : gb12 + 1 ≤ w13.heap.size := blk_lt hbox; have n0_ := am (Kd.S_below (by (with_reducible repeat (first | apply Kd.S_alloc | apply Kd.S_drewN | apply Kd.S_drew)); exact HO6_0.out) hb); have n1_ := am (Kd.R_below (by (with_reducible repeat (first | apply Kd.R_alloc | apply Kd.R_drewN | apply Kd.R_drew)); exact HO8_0.out) hb); have n2_ := am (Kd.S_below (by (with_reducible repeat (first | apply Kd.S_alloc | apply Kd.S_drewN | apply Kd.S_drew)); exact HO10_0.out) hb); have n3_ := am (blk_below (g := gb1) (o := .cells #[.slice A0_0 l0_0.length c0_0, .int .i64 a0_1] 43 (0, 0)) (pk BKgb1.out) hb); have n4_ := am (hbox); have n5_ := am (below_step (by repeat (first | (with_reducible first | exact HB.out | apply below_alloc | apply pw_below_drewN | apply below_drew1 | refine below_set ?_ GEgb1) | exact HB.out)) hb); have n6_ := am (ngb12); clear HO6_0 HO8_0 HO10_0 BKgb1 HB HZ; have HO6_0 := n0_; have HO8_0 := n1_; have HO10_0 := n2_; have BKgb1 := n3_; have BKgb12 := n4_; have HB := n5_; have HZ := n6_; clear n0_ n1_ n2_ n3_ n4_ n5_ n6_; clear hb hbox hg ngb12; (try clear hcgb1_0); (try clear hfgb1_0); (try clear hcgb1_1); (try clear hfgb1_1); have hcgb1_0 : w13.cell? ⟨gb1, 0, none⟩ = some (.slice A0_0 l0_0.length c0_0) := (blk_cell BKgb1.out 0).trans rfl; have hfgb1_0 := blk_frozen BKgb1.out 0; have hcgb1_1 : w13.cell? ⟨gb1, 1, none⟩ = some (.int .i64 a0_1) := (blk_cell BKgb1.out 1).trans rfl; have hfgb1_1 := blk_frozen BKgb1.out 1; have hcgb12_0 : w13.cell? ⟨gb12, 0, none⟩ = some (.slice none 0 0) := (blk_cell BKgb12.out 0).trans rfl; have hfgb12_0 := blk_frozen BKgb12.out 0; have hcgb12_1 : w13.cell? ⟨gb12, 1, none⟩ = some (.int .i64 0) := (blk_cell BKgb12.out 1).trans rfl; have hfgb12_1 := blk_frozen BKgb12.out 1; have hxgb12_gb1 : gb12 ≠ gb1 := (by omega); have hygb12_gb1 : gb1 ≠ gb12 := (by omega)) | ((with_reducible refine gate_callee (f := 22) rfl ?_); refine gl (some 22) Try.func22 #[.agg #[.slice Ao10_0 t10_0.length co10_0, .int .i64 t10_1]] ?_; (with_reducible refine (impl_RingTop.calls k _ _ t10_0 t10_1 t14 _ ?s0 ?s1 A14.out).mono ?_); (case s0 => exact (Kd.S_reads' (S_farR (g := gb12) (S_farR (g := gb12) HO10_0.out (by omega) _) (by omega) _)).2.2); (case s1 => exact (Kd.S_reads' HO10_0.out).2.1); rintro e w15 ⟨v14_0, rfl, ho0, hb⟩; refine ⟨_, rfl, ?_⟩; obtain ⟨na14, nb14, ha_, hz_, hab14⟩ := nxt_ hb; have hn14 : (gb12 + 1) ≤ na14 := (by rw [ha_]; exact (by repeat (first | exact HZ.out | refine sz_set ?_))); have n0_ := am (Kd.S_below (S_farR (g := gb12) (S_farR (g := gb12) HO6_0.out (by omega) _) (by omega) _) hb); have n1_ := am (Kd.R_below (R_farR (g := gb12) (R_farR (g := gb12) HO8_0.out (by omega) _) (by omega) _) hb); have n2_ := am (Kd.S_below (S_farR (g := gb12) (S_farR (g := gb12) HO10_0.out (by omega) _) (by omega) _) hb); have n3_ := am (blk_below (g := gb1) (o := .cells #[.slice A0_0 l0_0.length c0_0, .int .i64 a0_1] 43 (0, 0)) (by (with_reducible repeat (first | refine blk_drewN ?_ _ | refine blk_drew ?_ | refine blk_alloc ?_ _)); refine blk_far ?_ (show gb1 ≠ gb12 by omega) _; (with_reducible repeat (first | refine blk_drewN ?_ _ | refine blk_drew ?_ | refine blk_alloc ?_ _)); refine blk_far ?_ (show gb1 ≠ gb12 by omega) _; (with_reducible repeat (first | refine blk_drewN ?_ _ | refine blk_drew ?_ | refine blk_alloc ?_ _)); exact BKgb1.out) hb); have n4_ := am (blk_below (g := gb12) (o := .cells #[.slice Ao10_0 t10_0.length co10_0, .int .i64 t10_1] 46 (0, 0)) (by (with_reducible repeat (first | refine blk_drewN ?_ _ | refine blk_drew ?_ | refine blk_alloc ?_ _)); refine blk_put (cs := #[.slice Ao10_0 t10_0.length co10_0, .int .i64 0]) ?_ 1 _ rfl; (with_reducible repeat (first | refine blk_drewN ?_ _ | refine blk_drew ?_ | refine blk_alloc ?_ _)); refine blk_put (cs := #[.slice none 0 0, .int .i64 0]) ?_ 0 _ rfl; (with_reducible repeat (first | refine blk_drewN ?_ _ | refine blk_drew ?_ | refine blk_alloc ?_ _)); exact BKgb12.out) hb); have n5_ := am (R_rg ha_ hz_ (below_size (by repeat (first | (with_reducible first | exact HB.out | apply below_alloc | apply pw_below_drewN | apply below_drew1 | refine below_set ?_ GEgb1 | refine below_set ?_ GEgb12) | exact HB.out))) ho0); have n6_ := am (below_step (by repeat (first | (with_reducible first | exact HB.out | apply below_alloc | apply pw_below_drewN | apply below_drew1 | refine below_set ?_ GEgb1 | refine below_set ?_ GEgb12) | exact HB.out)) hb); have n7_ := am (Nat.le_of_eq hz_); clear HO6_0 HO8_0 HO10_0 BKgb1 BKgb12 HB HZ; have HO6_0 := n0_; have HO8_0 := n1_; have HO10_0 := n2_; have BKgb1 := n3_; have BKgb12 := n4_; have HO14_0 := n5_; have HB := n6_; have HZ := n7_; clear n0_ n1_ n2_ n3_ n4_ n5_ n6_ n7_; clear hb ha_ hz_ ho0; obtain ⟨Ao14_0, co14_0, eo14_0⟩ := Kd.R_slice HO14_0.out; subst eo14_0; (try clear hcgb1_0); (try clear hfgb1_0); (try clear hcgb1_1); (try clear hfgb1_1); (try clear hcgb12_0); (try clear hfgb12_0); (try clear hcgb12_1); (try clear hfgb12_1); have hcgb1_0 : w15.cell? ⟨gb1, 0, none⟩ = some (.slice A0_0 l0_0.length c0_0) := (blk_cell BKgb1.out 0).trans rfl; have hfgb1_0 := blk_frozen BKgb1.out 0; have hcgb1_1 : w15.cell? ⟨gb1, 1, none⟩ = some (.int .i64 a0_1) := (blk_cell BKgb1.out 1).trans rfl; have hfgb1_1 := blk_frozen BKgb1.out 1; have hcgb12_0 : w15.cell? ⟨gb12, 0, none⟩ = some (.slice Ao10_0 t10_0.length co10_0) := (blk_cell BKgb12.out 0).trans rfl; have hfgb12_0 := blk_frozen BKgb12.out 0; have hcgb12_1 : w15.cell? ⟨gb12, 1, none⟩ = some (.int .i64 t10_1) := (blk_cell BKgb12.out 1).trans rfl; have hfgb12_1 := blk_frozen BKgb12.out 1) | ((with_reducible refine gate_callee (f := 23) rfl ?_); refine gl (some 25) Try.func23 #[.slice Ao14_0 t14.length co14_0, .slice Ao8_0 t8.length co8_0] ?_; (with_reducible refine (laws_eqInt64S.calls k _ _ t14 _ _ t8 true _ ?s0 ?s1 ?s2 ?s3 A16.out).mono ?_); (case s0 => exact (Kd.R_reads' (by (with_reducible repeat (first | apply Kd.R_alloc | apply Kd.R_drewN | apply Kd.R_drew)); exact HO14_0.out)).2.2); (case s1 => exact (Kd.R_reads' HO14_0.out).2.1); (case s2 => exact (Kd.R_reads' (by (with_reducible repeat (first | apply Kd.R_alloc | apply Kd.R_drewN | apply Kd.R_drew)); exact HO8_0.out)).2.2); (case s3 => exact (Kd.R_reads' HO8_0.out).2.1); rintro e w17 ⟨rfl, hb0⟩; have hb := Drawn0.below hb0; clear hb0; refine ⟨_, rfl, ?_⟩; obtain ⟨na16, nb16, ha_, hz_, hab16⟩ := nxt_ hb; have hn16 : nb14 ≤ na16 := (by rw [ha_]; exact (by repeat (first | exact HZ.out | refine sz_set ?_))); have n0_ := am (Kd.S_below (by (with_reducible repeat (first | apply Kd.S_alloc | apply Kd.S_drewN | apply Kd.S_drew)); exact HO6_0.out) hb); have n1_ := am (Kd.R_below (by (with_reducible repeat (first | apply Kd.R_alloc | apply Kd.R_drewN | apply Kd.R_drew)); exact HO8_0.out) hb); have n2_ := am (Kd.S_below (by (with_reducible repeat (first | apply Kd.S_alloc | apply Kd.S_drewN | apply Kd.S_drew)); exact HO10_0.out) hb); have n3_ := am (Kd.R_below (by (with_reducible repeat (first | apply Kd.R_alloc | apply Kd.R_drewN | apply Kd.R_drew)); exact HO14_0.out) hb); have n4_ := am (blk_below (g := gb1) (o := .cells #[.slice A0_0 l0_0.length c0_0, .int .i64 a0_1] 43 (0, 0)) (pk BKgb1.out) hb); have n5_ := am (blk_below (g := gb12) (o := .cells #[.slice Ao10_0 t10_0.length co10_0, .int .i64 t10_1] 46 (0, 0)) (pk BKgb12.out) hb); have n6_ := am (below_step (by repeat (first | (with_reducible first | exact HB.out | apply below_alloc | apply pw_below_drewN | apply below_drew1 | refine below_set ?_ GEgb1 | refine below_set ?_ GEgb12) | exact HB.out)) hb); have n7_ := am (Nat.le_of_eq hz_); clear HO6_0 HO8_0 HO10_0 HO14_0 BKgb1 BKgb12 HB HZ; have HO6_0 := n0_; have HO8_0 := n1_; have HO10_0 := n2_; have HO14_0 := n3_; have BKgb1 := n4_; have BKgb12 := n5_; have HB := n6_; have HZ := n7_; clear n0_ n1_ n2_ n3_ n4_ n5_ n6_ n7_; clear hb ha_ hz_ ; (try clear hcgb1_0); (try clear hfgb1_0); (try clear hcgb1_1); (try clear hfgb1_1); (try clear hcgb12_0); (try clear hfgb12_0); (try clear hcgb12_1); (try clear hfgb12_1); have hcgb1_0 : w17.cell? ⟨gb1, 0, none⟩ = some (.slice A0_0 l0_0.length c0_0) := (blk_cell BKgb1.out 0).trans rfl; have hfgb1_0 := blk_frozen BKgb1.out 0; have hcgb1_1 : w17.cell? ⟨gb1, 1, none⟩ = some (.int .i64 a0_1) := (blk_cell BKgb1.out 1).trans rfl; have hfgb1_1 := blk_frozen BKgb1.out 1; have hcgb12_0 : w17.cell? ⟨gb12, 0, none⟩ = some (.slice Ao10_0 t10_0.length co10_0) := (blk_cell BKgb12.out 0).trans rfl; have hfgb12_0 := blk_frozen BKgb12.out 0; have hcgb12_1 : w17.cell? ⟨gb12, 1, none⟩ = some (.int .i64 t10_1) := (blk_cell BKgb12.out 1).trans rfl; have hfgb12_1 := blk_frozen BKgb12.out 1))
  try go_wp2
  have n0_ := am (Kd.S_drew HO6_0.out)
  have n1_ := am (Kd.R_drew HO8_0.out)
  have n2_ := am (Kd.S_drew HO10_0.out)
  have n3_ := am (Kd.R_drew HO14_0.out)
  have n4_ := am (blk_drew BKgb1.out)
  have n5_ := am (blk_drew BKgb12.out)
  have n6_ := am (below_drew1 HB.out)
  clear HO6_0 HO8_0 HO10_0 HO14_0 BKgb1 BKgb12 HB
  have HO6_0 := n0_
  have HO8_0 := n1_
  have HO10_0 := n2_
  have HO14_0 := n3_
  have BKgb1 := n4_
  have BKgb12 := n5_
  have HB := n6_
  clear n0_ n1_ n2_ n3_ n4_ n5_ n6_
  refine start_ (n := 5) (S := fun w' => w'.cell? ⟨gb1, 0, none⟩ = some (.slice A0_0 l0_0.length c0_0) ∧ w'.cell? ⟨gb1, 1, none⟩ = some (.int .i64 a0_1) ∧ w'.cell? ⟨gb12, 0, none⟩ = some (.slice Ao10_0 t10_0.length co10_0) ∧ w'.cell? ⟨gb12, 1, none⟩ = some (.int .i64 t10_1)) (ds := []) #[false, false, false, false, false] (by kernel_rfl) rfl rfl ⟨(blk_cell BKgb1.out 0).trans rfl, (blk_cell BKgb1.out 1).trans rfl, (blk_cell BKgb12.out 0).trans rfl, (blk_cell BKgb12.out 1).trans rfl⟩ (fun hHeld => ?_)
  have HZ2 := am (show nb16 ≤ (w17.drew).heap.size from HZ.out)
  clear HZ
  have HZ := HZ2
  clear HZ2
  generalize w17.drew = w20 at HO6_0 HO8_0 HO10_0 HO14_0 BKgb1 BKgb12 HB HZ hHeld ⊢
  refine take_ (i := 0) (N := some 27) (v := ?_) (a' := ?_) #[true, false, false, false, false] rfl rfl (by kernel_rfl) (fun _ _ _ h => h) (Or.inl ⟨by rfl, ?_⟩) hHeld ?_ ?_
  rotate_left
  ·rintro w' ⟨s0, s1, s2, s3⟩; go_simp; with_reducible rfl
  rotate_left
  ·simp only [Act.put, List.setIfInBounds_toArray, List.set_cons_zero, List.set_cons_succ, i64_w, i32_w]; rfl
  refine take_ (i := 1) (N := some 28) (v := ?_) (a' := ?_) #[true, true, false, false, false] rfl rfl (by kernel_rfl) (fun _ _ _ h => h) (Or.inl ⟨by rfl, ?_⟩) hHeld ?_ ?_
  rotate_left
  ·rintro w' ⟨s0, s1, s2, s3⟩; go_simp; with_reducible rfl
  rotate_left
  ·simp only [Act.put, List.setIfInBounds_toArray, List.set_cons_zero, List.set_cons_succ, i64_w, i32_w]; rfl
  refine one_ (i := 2) (N := some 29) #[true, true, true, false, false] rfl rfl (by kernel_rfl) (by decide) (fun K hK => ?_)
  refine goes_ Try.func21 (by kernel_rfl) rfl #[.agg #[.slice A0_0 l0_0.length c0_0, .int .i64 a0_1]] (by rfl) rfl rfl (by (try simp only [List.map_toArray, List.map_cons, List.map_nil]); first | done | rfl | (simp only [List.length_drop, List.length_take]; rfl)) ?_
  (with_reducible refine (laws_toRing.calls k _ _ l0_0 a0_1 t21_0 t21_1 _ ?s0 ?s1 A21.out).mono ?_)
  (case s0 => repeat (first | exact (Kd.C_below HR0_0.out (by repeat (first | (with_reducible first | exact HB.out | apply below_alloc | apply pw_below_drewN | apply below_drew1 | refine below_set ?_ GEgb1 | refine below_set ?_ GEgb12) | exact HB.out))) | (with_reducible refine Kd.C_alloc ?_ _) | (with_reducible refine Kd.C_drewN ?_ _) | (with_reducible refine Kd.C_drew ?_)))
  (case s1 => exact HC0_0.out)
  rintro e w22 ⟨v21_0, rfl, ho0, hb⟩
  refine ⟨_, rfl, ?_⟩
  obtain ⟨na21, nb21, ha_, hz_, hab21⟩ := nxt_ hb
  have hn21 : nb16 ≤ na21 := (by rw [ha_]; exact (by repeat (first | exact HZ.out | refine sz_set ?_)))
  have n0_ := am (Kd.S_below (by (with_reducible repeat (first | apply Kd.S_alloc | apply Kd.S_drewN | apply Kd.S_drew)); exact HO6_0.out) hb)
  have n1_ := am (Kd.R_below (by (with_reducible repeat (first | apply Kd.R_alloc | apply Kd.R_drewN | apply Kd.R_drew)); exact HO8_0.out) hb)
  have n2_ := am (Kd.S_below (by (with_reducible repeat (first | apply Kd.S_alloc | apply Kd.S_drewN | apply Kd.S_drew)); exact HO10_0.out) hb)
  have n3_ := am (Kd.R_below (by (with_reducible repeat (first | apply Kd.R_alloc | apply Kd.R_drewN | apply Kd.R_drew)); exact HO14_0.out) hb)
  have n4_ := am (blk_below (g := gb1) (o := .cells #[.slice A0_0 l0_0.length c0_0, .int .i64 a0_1] 43 (0, 0)) (pk BKgb1.out) hb)
  have n5_ := am (blk_below (g := gb12) (o := .cells #[.slice Ao10_0 t10_0.length co10_0, .int .i64 t10_1] 46 (0, 0)) (pk BKgb12.out) hb)
  have n6_ := am (S_rg ha_ hz_ (below_size (by repeat (first | (with_reducible first | exact HB.out | apply below_alloc | apply pw_below_drewN | apply below_drew1 | refine below_set ?_ GEgb1 | refine below_set ?_ GEgb12) | exact HB.out))) ho0)
  have n7_ := am (below_step (by repeat (first | (with_reducible first | exact HB.out | apply below_alloc | apply pw_below_drewN | apply below_drew1 | refine below_set ?_ GEgb1 | refine below_set ?_ GEgb12) | exact HB.out)) hb)
  have n8_ := am (Nat.le_of_eq hz_)
  clear HO6_0 HO8_0 HO10_0 HO14_0 BKgb1 BKgb12 HB HZ
  have HO6_0 := n0_
  have HO8_0 := n1_
  have HO10_0 := n2_
  have HO14_0 := n3_
  have BKgb1 := n4_
  have BKgb12 := n5_
  have HO21_0 := n6_
  have HB := n7_
  have HZ := n8_
  clear n0_ n1_ n2_ n3_ n4_ n5_ n6_ n7_ n8_
  clear hb ha_ hz_ ho0
  obtain ⟨Ao21_0, co21_0, eo21_0⟩ := Kd.S_slice HO21_0.out
  subst eo21_0
  (try clear hcgb1_0)
  (try clear hfgb1_0)
  (try clear hcgb1_1)
  (try clear hfgb1_1)
  (try clear hcgb12_0)
  (try clear hfgb12_0)
  (try clear hcgb12_1)
  (try clear hfgb12_1)
  have hcgb1_0 : w22.cell? ⟨gb1, 0, none⟩ = some (.slice A0_0 l0_0.length c0_0) := (blk_cell BKgb1.out 0).trans rfl
  have hfgb1_0 := blk_frozen BKgb1.out 0
  have hcgb1_1 : w22.cell? ⟨gb1, 1, none⟩ = some (.int .i64 a0_1) := (blk_cell BKgb1.out 1).trans rfl
  have hfgb1_1 := blk_frozen BKgb1.out 1
  have hcgb12_0 : w22.cell? ⟨gb12, 0, none⟩ = some (.slice Ao10_0 t10_0.length co10_0) := (blk_cell BKgb12.out 0).trans rfl
  have hfgb12_0 := blk_frozen BKgb12.out 0
  have hcgb12_1 : w22.cell? ⟨gb12, 1, none⟩ = some (.int .i64 t10_1) := (blk_cell BKgb12.out 1).trans rfl
  have hfgb12_1 := blk_frozen BKgb12.out 1
  refine hK.out _ _ ⟨(blk_cell BKgb1.out 0).trans rfl, (blk_cell BKgb1.out 1).trans rfl, (blk_cell BKgb12.out 0).trans rfl, (blk_cell BKgb12.out 1).trans rfl⟩ (fun hHeld => ?_)
  clear hK K
  refine norm_ (a' := ?_) ?_ ?_
  rotate_left
  ·show Act.put _ (some 29) _ = _; simp only [Act.put, List.setIfInBounds_toArray, List.set_cons_zero, List.set_cons_succ, i64_w, i32_w]; rfl
  refine one_ (i := 3) (N := some 30) #[true, true, true, true, false] rfl rfl (by kernel_rfl) (by decide) (fun K hK => ?_)
  refine goes_ Try.func24 (by kernel_rfl) rfl #[.agg #[.slice Ao10_0 t10_0.length co10_0, .int .i64 t10_1], .agg #[.slice Ao21_0 t21_0.length co21_0, .int .i64 t21_1]] (by rfl) rfl rfl (by (try simp only [List.map_toArray, List.map_cons, List.map_nil]); first | done | rfl | (simp only [List.length_drop, List.length_take]; rfl)) ?_
  (with_reducible refine (laws_eqRing.calls k _ _ t10_0 t10_1 _ _ t21_0 t21_1 true _ ?s0 ?s1 ?s2 ?s3 A23.out).mono ?_)
  (case s0 => exact (Kd.S_reads' (by (with_reducible repeat (first | apply Kd.S_alloc | apply Kd.S_drewN | apply Kd.S_drew)); exact HO10_0.out)).2.2)
  (case s1 => exact (Kd.S_reads' HO10_0.out).2.1)
  (case s2 => exact (Kd.S_reads' (by (with_reducible repeat (first | apply Kd.S_alloc | apply Kd.S_drewN | apply Kd.S_drew)); exact HO21_0.out)).2.2)
  (case s3 => exact (Kd.S_reads' HO21_0.out).2.1)
  rintro e w24 ⟨rfl, hb⟩
  refine ⟨_, rfl, ?_⟩
  obtain ⟨na23, nb23, ha_, hz_, hab23⟩ := nxt_ hb
  have hn23 : nb21 ≤ na23 := (by rw [ha_]; exact (by repeat (first | exact HZ.out | refine sz_set ?_)))
  have n0_ := am (Kd.S_below (by (with_reducible repeat (first | apply Kd.S_alloc | apply Kd.S_drewN | apply Kd.S_drew)); exact HO6_0.out) hb)
  have n1_ := am (Kd.R_below (by (with_reducible repeat (first | apply Kd.R_alloc | apply Kd.R_drewN | apply Kd.R_drew)); exact HO8_0.out) hb)
  have n2_ := am (Kd.S_below (by (with_reducible repeat (first | apply Kd.S_alloc | apply Kd.S_drewN | apply Kd.S_drew)); exact HO10_0.out) hb)
  have n3_ := am (Kd.R_below (by (with_reducible repeat (first | apply Kd.R_alloc | apply Kd.R_drewN | apply Kd.R_drew)); exact HO14_0.out) hb)
  have n4_ := am (Kd.S_below (by (with_reducible repeat (first | apply Kd.S_alloc | apply Kd.S_drewN | apply Kd.S_drew)); exact HO21_0.out) hb)
  have n5_ := am (blk_below (g := gb1) (o := .cells #[.slice A0_0 l0_0.length c0_0, .int .i64 a0_1] 43 (0, 0)) (pk BKgb1.out) hb)
  have n6_ := am (blk_below (g := gb12) (o := .cells #[.slice Ao10_0 t10_0.length co10_0, .int .i64 t10_1] 46 (0, 0)) (pk BKgb12.out) hb)
  have n7_ := am (below_step (by repeat (first | (with_reducible first | exact HB.out | apply below_alloc | apply pw_below_drewN | apply below_drew1 | refine below_set ?_ GEgb1 | refine below_set ?_ GEgb12) | exact HB.out)) hb)
  have n8_ := am (Nat.le_of_eq hz_)
  clear HO6_0 HO8_0 HO10_0 HO14_0 HO21_0 BKgb1 BKgb12 HB HZ
  have HO6_0 := n0_
  have HO8_0 := n1_
  have HO10_0 := n2_
  have HO14_0 := n3_
  have HO21_0 := n4_
  have BKgb1 := n5_
  have BKgb12 := n6_
  have HB := n7_
  have HZ := n8_
  clear n0_ n1_ n2_ n3_ n4_ n5_ n6_ n7_ n8_
  clear hb ha_ hz_ 
  (try clear hcgb1_0)
  (try clear hfgb1_0)
  (try clear hcgb1_1)
  (try clear hfgb1_1)
  (try clear hcgb12_0)
  (try clear hfgb12_0)
  (try clear hcgb12_1)
  (try clear hfgb12_1)
  have hcgb1_0 : w24.cell? ⟨gb1, 0, none⟩ = some (.slice A0_0 l0_0.length c0_0) := (blk_cell BKgb1.out 0).trans rfl
  have hfgb1_0 := blk_frozen BKgb1.out 0
  have hcgb1_1 : w24.cell? ⟨gb1, 1, none⟩ = some (.int .i64 a0_1) := (blk_cell BKgb1.out 1).trans rfl
  have hfgb1_1 := blk_frozen BKgb1.out 1
  have hcgb12_0 : w24.cell? ⟨gb12, 0, none⟩ = some (.slice Ao10_0 t10_0.length co10_0) := (blk_cell BKgb12.out 0).trans rfl
  have hfgb12_0 := blk_frozen BKgb12.out 0
  have hcgb12_1 : w24.cell? ⟨gb12, 1, none⟩ = some (.int .i64 t10_1) := (blk_cell BKgb12.out 1).trans rfl
  have hfgb12_1 := blk_frozen BKgb12.out 1
  refine hK.out _ _ ⟨(blk_cell BKgb1.out 0).trans rfl, (blk_cell BKgb1.out 1).trans rfl, (blk_cell BKgb12.out 0).trans rfl, (blk_cell BKgb12.out 1).trans rfl⟩ (fun hHeld => ?_)
  clear hK K
  refine norm_ (a' := ?_) ?_ ?_
  rotate_left
  ·show Act.put _ (some 30) _ = _; simp only [Act.put, List.setIfInBounds_toArray, List.set_cons_zero, List.set_cons_succ, i64_w, i32_w]; rfl
  refine pure_ (i := 4) (N := some 31) (v := ?_) (a' := ?_) #[true, true, true, true, true] rfl rfl (by kernel_rfl) (fun _ _ _ h => h) (Or.inl ⟨by rfl, ?_⟩) ?_ ?_
  rotate_left
  ·intro w'; go_simp; with_reducible rfl
  rotate_left
  ·simp only [Act.put, List.setIfInBounds_toArray, List.set_cons_zero, List.set_cons_succ, i64_w, i32_w]; rfl
  refine done_ (by kernel_rfl) ?_
  go_wp2_with (first | ((with_reducible refine gate_callee (f := 25) rfl ?_); refine gl (some 34) Try.func25 #[.agg #[.slice Ao10_0 t10_0.length co10_0, .int .i64 t10_1], .int .i64 1] ?_; refine (laws_markRing.marks k _ _ t10_0 t10_1 1 t26 t26_0 w _ (by repeat (first | (with_reducible first | exact HB.out | apply below_alloc | apply pw_below_drewN | apply below_drew1 | refine below_set ?_ GEgb1 | refine below_set ?_ GEgb12) | exact HB.out)) HO10_0.out A26.out).mono ?_; rintro e w27 ⟨rfl, hy0, hb, hkp⟩; refine ⟨_, rfl, ?_⟩; have n0_ := am (Kd.S_kept HO6_0.out hkp (fun k_ hk_ hs_ => Rg_no hk_.1 hs_.1 (by omega))); have n1_ := am (Kd.R_kept HO8_0.out hkp (fun k_ hk_ hs_ => Rg_no hk_.1 hs_.1 (by omega))); have n2_ := am (hy0); have n3_ := am (Kd.R_kept HO14_0.out hkp (fun k_ hk_ hs_ => Rg_no hk_.1 hs_.1 (by omega))); have n4_ := am (Kd.S_kept HO21_0.out hkp (fun k_ hk_ hs_ => Rg_no hk_.1 hs_.1 (by omega))); have n5_ := am (blk_kept (g := gb1) (o := .cells #[.slice A0_0 l0_0.length c0_0, .int .i64 a0_1] 43 (0, 0)) (pk BKgb1.out) hkp (fun hs_ => Rg_ne hs_.1 (by omega) rfl)); have n6_ := am (blk_kept (g := gb12) (o := .cells #[.slice Ao10_0 t10_0.length co10_0, .int .i64 t10_1] 46 (0, 0)) (pk BKgb12.out) hkp (fun hs_ => Rg_ne hs_.1 (by omega) rfl)); have n7_ := am (hb); have n8_ := am (Nat.le_trans (by repeat (first | exact HZ.out | refine sz_set ?_)) hkp.1); clear HO6_0 HO8_0 HO10_0 HO14_0 HO21_0 BKgb1 BKgb12 HB HZ; have HO6_0 := n0_; have HO8_0 := n1_; have HO10_0 := n2_; have HO14_0 := n3_; have HO21_0 := n4_; have BKgb1 := n5_; have BKgb12 := n6_; have HB := n7_; have HZ := n8_; clear n0_ n1_ n2_ n3_ n4_ n5_ n6_ n7_ n8_; clear hb hkp hy0; (try clear hcgb1_0); (try clear hfgb1_0); (try clear hcgb1_1); (try clear hfgb1_1); (try clear hcgb12_0); (try clear hfgb12_0); (try clear hcgb12_1); (try clear hfgb12_1); have hcgb1_0 : w27.cell? ⟨gb1, 0, none⟩ = some (.slice A0_0 l0_0.length c0_0) := (blk_cell BKgb1.out 0).trans rfl; have hfgb1_0 := blk_frozen BKgb1.out 0; have hcgb1_1 : w27.cell? ⟨gb1, 1, none⟩ = some (.int .i64 a0_1) := (blk_cell BKgb1.out 1).trans rfl; have hfgb1_1 := blk_frozen BKgb1.out 1; have hcgb12_0 : w27.cell? ⟨gb12, 0, none⟩ = some (.slice Ao10_0 t10_0.length co10_0) := (blk_cell BKgb12.out 0).trans rfl; have hfgb12_0 := blk_frozen BKgb12.out 0; have hcgb12_1 : w27.cell? ⟨gb12, 1, none⟩ = some (.int .i64 t10_1) := (blk_cell BKgb12.out 1).trans rfl; have hfgb12_1 := blk_frozen BKgb12.out 1; have HL26_0 := am (Kd.S_reads' HO10_0.out).1) | (go_at_call 23; (with_reducible refine (laws_eqInt64S.calls k _ _ t14 _ _ t8 true _ ?s0 ?s1 ?s2 ?s3 A28.out).mono ?_); (case s0 => exact (Kd.R_reads' (by (with_reducible repeat (first | apply Kd.R_alloc | apply Kd.R_drewN | apply Kd.R_drew)); exact HO14_0.out)).2.2); (case s1 => exact (Kd.R_reads' HO14_0.out).2.1); (case s2 => exact (Kd.R_reads' (by (with_reducible repeat (first | apply Kd.R_alloc | apply Kd.R_drewN | apply Kd.R_drew)); exact HO8_0.out)).2.2); (case s3 => exact (Kd.R_reads' HO8_0.out).2.1); rintro e w29 ⟨rfl, hb0⟩; have hb := Drawn0.below hb0; clear hb0; obtain ⟨na28, nb28, ha_, hz_, hab28⟩ := nxt_ hb; have hn28 : nb23 ≤ na28 := (by rw [ha_]; exact (by repeat (first | exact HZ.out | refine sz_set ?_))); have n0_ := am (Kd.S_below (by (with_reducible repeat (first | apply Kd.S_alloc | apply Kd.S_drewN | apply Kd.S_drew)); exact HO6_0.out) hb); have n1_ := am (Kd.R_below (by (with_reducible repeat (first | apply Kd.R_alloc | apply Kd.R_drewN | apply Kd.R_drew)); exact HO8_0.out) hb); have n2_ := am (Kd.S_below (by (with_reducible repeat (first | apply Kd.S_alloc | apply Kd.S_drewN | apply Kd.S_drew)); exact HO10_0.out) hb); have n3_ := am (Kd.R_below (by (with_reducible repeat (first | apply Kd.R_alloc | apply Kd.R_drewN | apply Kd.R_drew)); exact HO14_0.out) hb); have n4_ := am (Kd.S_below (by (with_reducible repeat (first | apply Kd.S_alloc | apply Kd.S_drewN | apply Kd.S_drew)); exact HO21_0.out) hb); have n5_ := am (blk_below (g := gb1) (o := .cells #[.slice A0_0 l0_0.length c0_0, .int .i64 a0_1] 43 (0, 0)) (pk BKgb1.out) hb); have n6_ := am (blk_below (g := gb12) (o := .cells #[.slice Ao10_0 t10_0.length co10_0, .int .i64 t10_1] 46 (0, 0)) (pk BKgb12.out) hb); have n7_ := am (below_step (by repeat (first | (with_reducible first | exact HB.out | apply below_alloc | apply pw_below_drewN | apply below_drew1 | refine below_set ?_ GEgb1 | refine below_set ?_ GEgb12) | exact HB.out)) hb); have n8_ := am (Nat.le_of_eq hz_); clear HO6_0 HO8_0 HO10_0 HO14_0 HO21_0 BKgb1 BKgb12 HB HZ; have HO6_0 := n0_; have HO8_0 := n1_; have HO10_0 := n2_; have HO14_0 := n3_; have HO21_0 := n4_; have BKgb1 := n5_; have BKgb12 := n6_; have HB := n7_; have HZ := n8_; clear n0_ n1_ n2_ n3_ n4_ n5_ n6_ n7_ n8_; clear hb ha_ hz_ ; (try clear hcgb1_0); (try clear hfgb1_0); (try clear hcgb1_1); (try clear hfgb1_1); (try clear hcgb12_0); (try clear hfgb12_0); (try clear hcgb12_1); (try clear hfgb12_1); have hcgb1_0 : w29.cell? ⟨gb1, 0, none⟩ = some (.slice A0_0 l0_0.length c0_0) := (blk_cell BKgb1.out 0).trans rfl; have hfgb1_0 := blk_frozen BKgb1.out 0; have hcgb1_1 : w29.cell? ⟨gb1, 1, none⟩ = some (.int .i64 a0_1) := (blk_cell BKgb1.out 1).trans rfl; have hfgb1_1 := blk_frozen BKgb1.out 1; have hcgb12_0 : w29.cell? ⟨gb12, 0, none⟩ = some (.slice Ao10_0 t10_0.length co10_0) := (blk_cell BKgb12.out 0).trans rfl; have hfgb12_0 := blk_frozen BKgb12.out 0; have hcgb12_1 : w29.cell? ⟨gb12, 1, none⟩ = some (.int .i64 t10_1) := (blk_cell BKgb12.out 1).trans rfl; have hfgb12_1 := blk_frozen BKgb12.out 1) | ((with_reducible refine gate_callee (f := 26) rfl ?_); refine gl (some 45) Try.func26 #[.slice Ao14_0 t14.length co14_0, .int .i64 1] ?_; refine (laws_markInt64S.marks k _ _ t14 1 t32 t32_0 w _ (by repeat (first | (with_reducible first | exact HB.out | apply below_alloc | apply pw_below_drewN | apply below_drew1 | refine below_set ?_ GEgb1 | refine below_set ?_ GEgb12) | exact HB.out)) HO14_0.out A32.out).mono ?_; rintro e w33 ⟨rfl, hy0, hb, hkp⟩; refine ⟨_, rfl, ?_⟩; have n0_ := am (Kd.S_kept HO6_0.out hkp (fun k_ hk_ hs_ => Rg_no hk_.1 hs_.1 (by omega))); have n1_ := am (Kd.R_kept HO8_0.out hkp (fun k_ hk_ hs_ => Rg_no hk_.1 hs_.1 (by omega))); have n2_ := am (Kd.S_kept HO10_0.out hkp (fun k_ hk_ hs_ => Rg_no hk_.1 hs_.1 (by omega))); have n3_ := am (hy0); have n4_ := am (Kd.S_kept HO21_0.out hkp (fun k_ hk_ hs_ => Rg_no hk_.1 hs_.1 (by omega))); have n5_ := am (blk_kept (g := gb1) (o := .cells #[.slice A0_0 l0_0.length c0_0, .int .i64 a0_1] 43 (0, 0)) (pk BKgb1.out) hkp (fun hs_ => Rg_ne hs_.1 (by omega) rfl)); have n6_ := am (blk_kept (g := gb12) (o := .cells #[.slice Ao10_0 t10_0.length co10_0, .int .i64 t10_1] 46 (0, 0)) (pk BKgb12.out) hkp (fun hs_ => Rg_ne hs_.1 (by omega) rfl)); have n7_ := am (hb); have n8_ := am (Nat.le_trans (by repeat (first | exact HZ.out | refine sz_set ?_)) hkp.1); clear HO6_0 HO8_0 HO10_0 HO14_0 HO21_0 BKgb1 BKgb12 HB HZ; have HO6_0 := n0_; have HO8_0 := n1_; have HO10_0 := n2_; have HO14_0 := n3_; have HO21_0 := n4_; have BKgb1 := n5_; have BKgb12 := n6_; have HB := n7_; have HZ := n8_; clear n0_ n1_ n2_ n3_ n4_ n5_ n6_ n7_ n8_; clear hb hkp hy0; (try clear hcgb1_0); (try clear hfgb1_0); (try clear hcgb1_1); (try clear hfgb1_1); (try clear hcgb12_0); (try clear hfgb12_0); (try clear hcgb12_1); (try clear hfgb12_1); have hcgb1_0 : w33.cell? ⟨gb1, 0, none⟩ = some (.slice A0_0 l0_0.length c0_0) := (blk_cell BKgb1.out 0).trans rfl; have hfgb1_0 := blk_frozen BKgb1.out 0; have hcgb1_1 : w33.cell? ⟨gb1, 1, none⟩ = some (.int .i64 a0_1) := (blk_cell BKgb1.out 1).trans rfl; have hfgb1_1 := blk_frozen BKgb1.out 1; have hcgb12_0 : w33.cell? ⟨gb12, 0, none⟩ = some (.slice Ao10_0 t10_0.length co10_0) := (blk_cell BKgb12.out 0).trans rfl; have hfgb12_0 := blk_frozen BKgb12.out 0; have hcgb12_1 : w33.cell? ⟨gb12, 1, none⟩ = some (.int .i64 t10_1) := (blk_cell BKgb12.out 1).trans rfl; have hfgb12_1 := blk_frozen BKgb12.out 1; have HL32_0 := am (Kd.R_reads' HO14_0.out).1) | ((with_reducible refine gate_callee (f := 27) rfl ?_); refine gl (some 48) Try.func27 #[.slice Ao14_0 t14.length co14_0, .int .i64 1] ?_; refine calls_of_args (args' := #[.slice Ao14_0 t32_0.length co14_0, .int .i64 1]) (by simp only [HL32_0.out]) ?_; (with_reducible refine (laws_heldInt64S.calls k _ _ t32_0 1 t34 _ ?s0 ?s1 A34.out).mono ?_); (case s0 => exact (Kd.R_reads' (by (with_reducible repeat (first | apply Kd.R_alloc | apply Kd.R_drewN | apply Kd.R_drew)); exact HO14_0.out)).2.2); (case s1 => exact (fun h_ => h_.1 ▸ h_.2.1) (Kd.R_reads' HO14_0.out)); rintro e w35 ⟨rfl, hb0⟩; have hb := Drawn0.below hb0; clear hb0; refine ⟨_, rfl, ?_⟩; obtain ⟨na34, nb34, ha_, hz_, hab34⟩ := nxt_ hb; have hn34 : nb28 ≤ na34 := (by rw [ha_]; exact (by repeat (first | exact HZ.out | refine sz_set ?_))); have n0_ := am (Kd.S_below (by (with_reducible repeat (first | apply Kd.S_alloc | apply Kd.S_drewN | apply Kd.S_drew)); exact HO6_0.out) hb); have n1_ := am (Kd.R_below (by (with_reducible repeat (first | apply Kd.R_alloc | apply Kd.R_drewN | apply Kd.R_drew)); exact HO8_0.out) hb); have n2_ := am (Kd.S_below (by (with_reducible repeat (first | apply Kd.S_alloc | apply Kd.S_drewN | apply Kd.S_drew)); exact HO10_0.out) hb); have n3_ := am (Kd.R_below (by (with_reducible repeat (first | apply Kd.R_alloc | apply Kd.R_drewN | apply Kd.R_drew)); exact HO14_0.out) hb); have n4_ := am (Kd.S_below (by (with_reducible repeat (first | apply Kd.S_alloc | apply Kd.S_drewN | apply Kd.S_drew)); exact HO21_0.out) hb); have n5_ := am (blk_below (g := gb1) (o := .cells #[.slice A0_0 l0_0.length c0_0, .int .i64 a0_1] 43 (0, 0)) (pk BKgb1.out) hb); have n6_ := am (blk_below (g := gb12) (o := .cells #[.slice Ao10_0 t10_0.length co10_0, .int .i64 t10_1] 46 (0, 0)) (pk BKgb12.out) hb); have n7_ := am (below_step (by repeat (first | (with_reducible first | exact HB.out | apply below_alloc | apply pw_below_drewN | apply below_drew1 | refine below_set ?_ GEgb1 | refine below_set ?_ GEgb12) | exact HB.out)) hb); have n8_ := am (Nat.le_of_eq hz_); clear HO6_0 HO8_0 HO10_0 HO14_0 HO21_0 BKgb1 BKgb12 HB HZ; have HO6_0 := n0_; have HO8_0 := n1_; have HO10_0 := n2_; have HO14_0 := n3_; have HO21_0 := n4_; have BKgb1 := n5_; have BKgb12 := n6_; have HB := n7_; have HZ := n8_; clear n0_ n1_ n2_ n3_ n4_ n5_ n6_ n7_ n8_; clear hb ha_ hz_ ; (try clear hcgb1_0); (try clear hfgb1_0); (try clear hcgb1_1); (try clear hfgb1_1); (try clear hcgb12_0); (try clear hfgb12_0); (try clear hcgb12_1); (try clear hfgb12_1); have hcgb1_0 : w35.cell? ⟨gb1, 0, none⟩ = some (.slice A0_0 l0_0.length c0_0) := (blk_cell BKgb1.out 0).trans rfl; have hfgb1_0 := blk_frozen BKgb1.out 0; have hcgb1_1 : w35.cell? ⟨gb1, 1, none⟩ = some (.int .i64 a0_1) := (blk_cell BKgb1.out 1).trans rfl; have hfgb1_1 := blk_frozen BKgb1.out 1; have hcgb12_0 : w35.cell? ⟨gb12, 0, none⟩ = some (.slice Ao10_0 t10_0.length co10_0) := (blk_cell BKgb12.out 0).trans rfl; have hfgb12_0 := blk_frozen BKgb12.out 0; have hcgb12_1 : w35.cell? ⟨gb12, 1, none⟩ = some (.int .i64 t10_1) := (blk_cell BKgb12.out 1).trans rfl; have hfgb12_1 := blk_frozen BKgb12.out 1) | ((with_reducible refine gate_callee (f := 21) rfl ?_); refine gl (some 55) Try.func21 #[.agg #[.slice A0_0 l0_0.length c0_0, .int .i64 a0_1]] ?_; (with_reducible refine (laws_toRing.calls k _ _ l0_0 a0_1 t38_0 t38_1 _ ?s0 ?s1 A38.out).mono ?_); (case s0 => repeat (first | exact (Kd.C_below HR0_0.out (by repeat (first | (with_reducible first | exact HB.out | apply below_alloc | apply pw_below_drewN | apply below_drew1 | refine below_set ?_ GEgb1 | refine below_set ?_ GEgb12) | exact HB.out))) | (with_reducible refine Kd.C_alloc ?_ _) | (with_reducible refine Kd.C_drewN ?_ _) | (with_reducible refine Kd.C_drew ?_))); (case s1 => exact HC0_0.out); rintro e w39 ⟨v38_0, rfl, ho0, hb⟩; refine ⟨_, rfl, ?_⟩; obtain ⟨na38, nb38, ha_, hz_, hab38⟩ := nxt_ hb; have hn38 : nb34 ≤ na38 := (by rw [ha_]; exact (by repeat (first | exact HZ.out | refine sz_set ?_))); have n0_ := am (Kd.S_below (by (with_reducible repeat (first | apply Kd.S_alloc | apply Kd.S_drewN | apply Kd.S_drew)); exact HO6_0.out) hb); have n1_ := am (Kd.R_below (by (with_reducible repeat (first | apply Kd.R_alloc | apply Kd.R_drewN | apply Kd.R_drew)); exact HO8_0.out) hb); have n2_ := am (Kd.S_below (by (with_reducible repeat (first | apply Kd.S_alloc | apply Kd.S_drewN | apply Kd.S_drew)); exact HO10_0.out) hb); have n3_ := am (Kd.R_below (by (with_reducible repeat (first | apply Kd.R_alloc | apply Kd.R_drewN | apply Kd.R_drew)); exact HO14_0.out) hb); have n4_ := am (Kd.S_below (by (with_reducible repeat (first | apply Kd.S_alloc | apply Kd.S_drewN | apply Kd.S_drew)); exact HO21_0.out) hb); have n5_ := am (blk_below (g := gb1) (o := .cells #[.slice A0_0 l0_0.length c0_0, .int .i64 a0_1] 43 (0, 0)) (pk BKgb1.out) hb); have n6_ := am (blk_below (g := gb12) (o := .cells #[.slice Ao10_0 t10_0.length co10_0, .int .i64 t10_1] 46 (0, 0)) (pk BKgb12.out) hb); have n7_ := am (S_rg ha_ hz_ (below_size (by repeat (first | (with_reducible first | exact HB.out | apply below_alloc | apply pw_below_drewN | apply below_drew1 | refine below_set ?_ GEgb1 | refine below_set ?_ GEgb12) | exact HB.out))) ho0); have n8_ := am (below_step (by repeat (first | (with_reducible first | exact HB.out | apply below_alloc | apply pw_below_drewN | apply below_drew1 | refine below_set ?_ GEgb1 | refine below_set ?_ GEgb12) | exact HB.out)) hb); have n9_ := am (Nat.le_of_eq hz_); clear HO6_0 HO8_0 HO10_0 HO14_0 HO21_0 BKgb1 BKgb12 HB HZ; have HO6_0 := n0_; have HO8_0 := n1_; have HO10_0 := n2_; have HO14_0 := n3_; have HO21_0 := n4_; have BKgb1 := n5_; have BKgb12 := n6_; have HO38_0 := n7_; have HB := n8_; have HZ := n9_; clear n0_ n1_ n2_ n3_ n4_ n5_ n6_ n7_ n8_ n9_; clear hb ha_ hz_ ho0; obtain ⟨Ao38_0, co38_0, eo38_0⟩ := Kd.S_slice HO38_0.out; subst eo38_0; (try clear hcgb1_0); (try clear hfgb1_0); (try clear hcgb1_1); (try clear hfgb1_1); (try clear hcgb12_0); (try clear hfgb12_0); (try clear hcgb12_1); (try clear hfgb12_1); have hcgb1_0 : w39.cell? ⟨gb1, 0, none⟩ = some (.slice A0_0 l0_0.length c0_0) := (blk_cell BKgb1.out 0).trans rfl; have hfgb1_0 := blk_frozen BKgb1.out 0; have hcgb1_1 : w39.cell? ⟨gb1, 1, none⟩ = some (.int .i64 a0_1) := (blk_cell BKgb1.out 1).trans rfl; have hfgb1_1 := blk_frozen BKgb1.out 1; have hcgb12_0 : w39.cell? ⟨gb12, 0, none⟩ = some (.slice Ao10_0 t10_0.length co10_0) := (blk_cell BKgb12.out 0).trans rfl; have hfgb12_0 := blk_frozen BKgb12.out 0; have hcgb12_1 : w39.cell? ⟨gb12, 1, none⟩ = some (.int .i64 t10_1) := (blk_cell BKgb12.out 1).trans rfl; have hfgb12_1 := blk_frozen BKgb12.out 1) | ((with_reducible refine gate_callee (f := 22) rfl ?_); refine gl (some 56) Try.func22 #[.agg #[.slice Ao38_0 t38_0.length co38_0, .int .i64 t38_1]] ?_; (with_reducible refine (impl_RingTop.calls k _ _ t38_0 t38_1 t40 _ ?s0 ?s1 A40.out).mono ?_); (case s0 => exact (Kd.S_reads' (by (with_reducible repeat (first | apply Kd.S_alloc | apply Kd.S_drewN | apply Kd.S_drew)); exact HO38_0.out)).2.2); (case s1 => exact (Kd.S_reads' HO38_0.out).2.1); rintro e w41 ⟨v40_0, rfl, ho0, hb⟩; refine ⟨_, rfl, ?_⟩; obtain ⟨na40, nb40, ha_, hz_, hab40⟩ := nxt_ hb; have hn40 : nb38 ≤ na40 := (by rw [ha_]; exact (by repeat (first | exact HZ.out | refine sz_set ?_))); have n0_ := am (Kd.S_below (by (with_reducible repeat (first | apply Kd.S_alloc | apply Kd.S_drewN | apply Kd.S_drew)); exact HO6_0.out) hb); have n1_ := am (Kd.R_below (by (with_reducible repeat (first | apply Kd.R_alloc | apply Kd.R_drewN | apply Kd.R_drew)); exact HO8_0.out) hb); have n2_ := am (Kd.S_below (by (with_reducible repeat (first | apply Kd.S_alloc | apply Kd.S_drewN | apply Kd.S_drew)); exact HO10_0.out) hb); have n3_ := am (Kd.R_below (by (with_reducible repeat (first | apply Kd.R_alloc | apply Kd.R_drewN | apply Kd.R_drew)); exact HO14_0.out) hb); have n4_ := am (Kd.S_below (by (with_reducible repeat (first | apply Kd.S_alloc | apply Kd.S_drewN | apply Kd.S_drew)); exact HO21_0.out) hb); have n5_ := am (Kd.S_below (by (with_reducible repeat (first | apply Kd.S_alloc | apply Kd.S_drewN | apply Kd.S_drew)); exact HO38_0.out) hb); have n6_ := am (blk_below (g := gb1) (o := .cells #[.slice A0_0 l0_0.length c0_0, .int .i64 a0_1] 43 (0, 0)) (pk BKgb1.out) hb); have n7_ := am (blk_below (g := gb12) (o := .cells #[.slice Ao10_0 t10_0.length co10_0, .int .i64 t10_1] 46 (0, 0)) (pk BKgb12.out) hb); have n8_ := am (R_rg ha_ hz_ (below_size (by repeat (first | (with_reducible first | exact HB.out | apply below_alloc | apply pw_below_drewN | apply below_drew1 | refine below_set ?_ GEgb1 | refine below_set ?_ GEgb12) | exact HB.out))) ho0); have n9_ := am (below_step (by repeat (first | (with_reducible first | exact HB.out | apply below_alloc | apply pw_below_drewN | apply below_drew1 | refine below_set ?_ GEgb1 | refine below_set ?_ GEgb12) | exact HB.out)) hb); have n10_ := am (Nat.le_of_eq hz_); clear HO6_0 HO8_0 HO10_0 HO14_0 HO21_0 HO38_0 BKgb1 BKgb12 HB HZ; have HO6_0 := n0_; have HO8_0 := n1_; have HO10_0 := n2_; have HO14_0 := n3_; have HO21_0 := n4_; have HO38_0 := n5_; have BKgb1 := n6_; have BKgb12 := n7_; have HO40_0 := n8_; have HB := n9_; have HZ := n10_; clear n0_ n1_ n2_ n3_ n4_ n5_ n6_ n7_ n8_ n9_ n10_; clear hb ha_ hz_ ho0; obtain ⟨Ao40_0, co40_0, eo40_0⟩ := Kd.R_slice HO40_0.out; subst eo40_0; (try clear hcgb1_0); (try clear hfgb1_0); (try clear hcgb1_1); (try clear hfgb1_1); (try clear hcgb12_0); (try clear hfgb12_0); (try clear hcgb12_1); (try clear hfgb12_1); have hcgb1_0 : w41.cell? ⟨gb1, 0, none⟩ = some (.slice A0_0 l0_0.length c0_0) := (blk_cell BKgb1.out 0).trans rfl; have hfgb1_0 := blk_frozen BKgb1.out 0; have hcgb1_1 : w41.cell? ⟨gb1, 1, none⟩ = some (.int .i64 a0_1) := (blk_cell BKgb1.out 1).trans rfl; have hfgb1_1 := blk_frozen BKgb1.out 1; have hcgb12_0 : w41.cell? ⟨gb12, 0, none⟩ = some (.slice Ao10_0 t10_0.length co10_0) := (blk_cell BKgb12.out 0).trans rfl; have hfgb12_0 := blk_frozen BKgb12.out 0; have hcgb12_1 : w41.cell? ⟨gb12, 1, none⟩ = some (.int .i64 t10_1) := (blk_cell BKgb12.out 1).trans rfl; have hfgb12_1 := blk_frozen BKgb12.out 1) | ((with_reducible refine gate_callee (f := 23) rfl ?_); refine gl (some 59) Try.func23 #[.slice Ao40_0 t40.length co40_0, .slice Ao8_0 t8.length co8_0] ?_; (with_reducible refine (laws_eqInt64S.calls k _ _ t40 _ _ t8 true _ ?s0 ?s1 ?s2 ?s3 A42.out).mono ?_); (case s0 => exact (Kd.R_reads' (by (with_reducible repeat (first | apply Kd.R_alloc | apply Kd.R_drewN | apply Kd.R_drew)); exact HO40_0.out)).2.2); (case s1 => exact (Kd.R_reads' HO40_0.out).2.1); (case s2 => exact (Kd.R_reads' (by (with_reducible repeat (first | apply Kd.R_alloc | apply Kd.R_drewN | apply Kd.R_drew)); exact HO8_0.out)).2.2); (case s3 => exact (Kd.R_reads' HO8_0.out).2.1); rintro e w43 ⟨rfl, hb0⟩; have hb := Drawn0.below hb0; clear hb0; refine ⟨_, rfl, ?_⟩; obtain ⟨na42, nb42, ha_, hz_, hab42⟩ := nxt_ hb; have hn42 : nb40 ≤ na42 := (by rw [ha_]; exact (by repeat (first | exact HZ.out | refine sz_set ?_))); have n0_ := am (Kd.S_below (by (with_reducible repeat (first | apply Kd.S_alloc | apply Kd.S_drewN | apply Kd.S_drew)); exact HO6_0.out) hb); have n1_ := am (Kd.R_below (by (with_reducible repeat (first | apply Kd.R_alloc | apply Kd.R_drewN | apply Kd.R_drew)); exact HO8_0.out) hb); have n2_ := am (Kd.S_below (by (with_reducible repeat (first | apply Kd.S_alloc | apply Kd.S_drewN | apply Kd.S_drew)); exact HO10_0.out) hb); have n3_ := am (Kd.R_below (by (with_reducible repeat (first | apply Kd.R_alloc | apply Kd.R_drewN | apply Kd.R_drew)); exact HO14_0.out) hb); have n4_ := am (Kd.S_below (by (with_reducible repeat (first | apply Kd.S_alloc | apply Kd.S_drewN | apply Kd.S_drew)); exact HO21_0.out) hb); have n5_ := am (Kd.S_below (by (with_reducible repeat (first | apply Kd.S_alloc | apply Kd.S_drewN | apply Kd.S_drew)); exact HO38_0.out) hb); have n6_ := am (Kd.R_below (by (with_reducible repeat (first | apply Kd.R_alloc | apply Kd.R_drewN | apply Kd.R_drew)); exact HO40_0.out) hb); have n7_ := am (blk_below (g := gb1) (o := .cells #[.slice A0_0 l0_0.length c0_0, .int .i64 a0_1] 43 (0, 0)) (pk BKgb1.out) hb); have n8_ := am (blk_below (g := gb12) (o := .cells #[.slice Ao10_0 t10_0.length co10_0, .int .i64 t10_1] 46 (0, 0)) (pk BKgb12.out) hb); have n9_ := am (below_step (by repeat (first | (with_reducible first | exact HB.out | apply below_alloc | apply pw_below_drewN | apply below_drew1 | refine below_set ?_ GEgb1 | refine below_set ?_ GEgb12) | exact HB.out)) hb); have n10_ := am (Nat.le_of_eq hz_); clear HO6_0 HO8_0 HO10_0 HO14_0 HO21_0 HO38_0 HO40_0 BKgb1 BKgb12 HB HZ; have HO6_0 := n0_; have HO8_0 := n1_; have HO10_0 := n2_; have HO14_0 := n3_; have HO21_0 := n4_; have HO38_0 := n5_; have HO40_0 := n6_; have BKgb1 := n7_; have BKgb12 := n8_; have HB := n9_; have HZ := n10_; clear n0_ n1_ n2_ n3_ n4_ n5_ n6_ n7_ n8_ n9_ n10_; clear hb ha_ hz_ ; (try clear hcgb1_0); (try clear hfgb1_0); (try clear hcgb1_1); (try clear hfgb1_1); (try clear hcgb12_0); (try clear hfgb12_0); (try clear hcgb12_1); (try clear hfgb12_1); have hcgb1_0 : w43.cell? ⟨gb1, 0, none⟩ = some (.slice A0_0 l0_0.length c0_0) := (blk_cell BKgb1.out 0).trans rfl; have hfgb1_0 := blk_frozen BKgb1.out 0; have hcgb1_1 : w43.cell? ⟨gb1, 1, none⟩ = some (.int .i64 a0_1) := (blk_cell BKgb1.out 1).trans rfl; have hfgb1_1 := blk_frozen BKgb1.out 1; have hcgb12_0 : w43.cell? ⟨gb12, 0, none⟩ = some (.slice Ao10_0 t10_0.length co10_0) := (blk_cell BKgb12.out 0).trans rfl; have hfgb12_0 := blk_frozen BKgb12.out 0; have hcgb12_1 : w43.cell? ⟨gb12, 1, none⟩ = some (.int .i64 t10_1) := (blk_cell BKgb12.out 1).trans rfl; have hfgb12_1 := blk_frozen BKgb12.out 1) | ((with_reducible refine gate_callee (f := 27) rfl ?_); refine gl (some 63) Try.func27 #[.slice Ao14_0 t14.length co14_0, .int .i64 1] ?_; refine calls_of_args (args' := #[.slice Ao14_0 t32_0.length co14_0, .int .i64 1]) (by simp only [HL32_0.out]) ?_; (with_reducible refine (laws_heldInt64S.calls k _ _ t32_0 1 t45 _ ?s0 ?s1 A45.out).mono ?_); (case s0 => exact (Kd.R_reads' (by (with_reducible repeat (first | apply Kd.R_alloc | apply Kd.R_drewN | apply Kd.R_drew)); exact HO14_0.out)).2.2); (case s1 => exact (fun h_ => h_.1 ▸ h_.2.1) (Kd.R_reads' HO14_0.out)); rintro e w46 ⟨rfl, hb0⟩; have hb := Drawn0.below hb0; clear hb0; refine ⟨_, rfl, ?_⟩; obtain ⟨na45, nb45, ha_, hz_, hab45⟩ := nxt_ hb; have hn45 : nb42 ≤ na45 := (by rw [ha_]; exact (by repeat (first | exact HZ.out | refine sz_set ?_))); have n0_ := am (Kd.S_below (by (with_reducible repeat (first | apply Kd.S_alloc | apply Kd.S_drewN | apply Kd.S_drew)); exact HO6_0.out) hb); have n1_ := am (Kd.R_below (by (with_reducible repeat (first | apply Kd.R_alloc | apply Kd.R_drewN | apply Kd.R_drew)); exact HO8_0.out) hb); have n2_ := am (Kd.S_below (by (with_reducible repeat (first | apply Kd.S_alloc | apply Kd.S_drewN | apply Kd.S_drew)); exact HO10_0.out) hb); have n3_ := am (Kd.R_below (by (with_reducible repeat (first | apply Kd.R_alloc | apply Kd.R_drewN | apply Kd.R_drew)); exact HO14_0.out) hb); have n4_ := am (Kd.S_below (by (with_reducible repeat (first | apply Kd.S_alloc | apply Kd.S_drewN | apply Kd.S_drew)); exact HO21_0.out) hb); have n5_ := am (Kd.S_below (by (with_reducible repeat (first | apply Kd.S_alloc | apply Kd.S_drewN | apply Kd.S_drew)); exact HO38_0.out) hb); have n6_ := am (Kd.R_below (by (with_reducible repeat (first | apply Kd.R_alloc | apply Kd.R_drewN | apply Kd.R_drew)); exact HO40_0.out) hb); have n7_ := am (blk_below (g := gb1) (o := .cells #[.slice A0_0 l0_0.length c0_0, .int .i64 a0_1] 43 (0, 0)) (pk BKgb1.out) hb); have n8_ := am (blk_below (g := gb12) (o := .cells #[.slice Ao10_0 t10_0.length co10_0, .int .i64 t10_1] 46 (0, 0)) (pk BKgb12.out) hb); have n9_ := am (below_step (by repeat (first | (with_reducible first | exact HB.out | apply below_alloc | apply pw_below_drewN | apply below_drew1 | refine below_set ?_ GEgb1 | refine below_set ?_ GEgb12) | exact HB.out)) hb); have n10_ := am (Nat.le_of_eq hz_); clear HO6_0 HO8_0 HO10_0 HO14_0 HO21_0 HO38_0 HO40_0 BKgb1 BKgb12 HB HZ; have HO6_0 := n0_; have HO8_0 := n1_; have HO10_0 := n2_; have HO14_0 := n3_; have HO21_0 := n4_; have HO38_0 := n5_; have HO40_0 := n6_; have BKgb1 := n7_; have BKgb12 := n8_; have HB := n9_; have HZ := n10_; clear n0_ n1_ n2_ n3_ n4_ n5_ n6_ n7_ n8_ n9_ n10_; clear hb ha_ hz_ ; (try clear hcgb1_0); (try clear hfgb1_0); (try clear hcgb1_1); (try clear hfgb1_1); (try clear hcgb12_0); (try clear hfgb12_0); (try clear hcgb12_1); (try clear hfgb12_1); have hcgb1_0 : w46.cell? ⟨gb1, 0, none⟩ = some (.slice A0_0 l0_0.length c0_0) := (blk_cell BKgb1.out 0).trans rfl; have hfgb1_0 := blk_frozen BKgb1.out 0; have hcgb1_1 : w46.cell? ⟨gb1, 1, none⟩ = some (.int .i64 a0_1) := (blk_cell BKgb1.out 1).trans rfl; have hfgb1_1 := blk_frozen BKgb1.out 1; have hcgb12_0 : w46.cell? ⟨gb12, 0, none⟩ = some (.slice Ao10_0 t10_0.length co10_0) := (blk_cell BKgb12.out 0).trans rfl; have hfgb12_0 := blk_frozen BKgb12.out 0; have hcgb12_1 : w46.cell? ⟨gb12, 1, none⟩ = some (.int .i64 t10_1) := (blk_cell BKgb12.out 1).trans rfl; have hfgb12_1 := blk_frozen BKgb12.out 1))
  go_ret
  exact ⟨by first | rfl | (simp [*]; done), (by repeat (first | (with_reducible first | exact HB.out | apply below_alloc | apply pw_below_drewN | apply below_drew1 | refine below_set ?_ GEgb1 | refine below_set ?_ GEgb12) | exact HB.out))⟩

/-- THE ONE PURE STATEMENT of laws_FnExactRingTop. -/
def laws_FnExactRingTop.Pure : Prop := ∀ (l0_0 : List (List Int)) (a0_1 : Int), ((l0_0.length ≤ maxLen ∧ ∀ y0_ ∈ l0_0, (y0_.length ≤ maxLen ∧ ∀ y1_ ∈ y0_, (Lit.int .i64 y1_).wf = true)) ∧ (Lit.int .i64 a0_1).wf = true) → ∃ k, laws_FnExactRingTop.f k l0_0 a0_1 = some true

end Go.Proofs.Ytoonjomgknlcgaa.PFnExactRingTop
