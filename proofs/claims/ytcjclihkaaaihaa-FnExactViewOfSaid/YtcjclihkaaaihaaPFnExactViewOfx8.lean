-- Written by xprint.py (this claim's own program, over the kit's printer); Lean checks it.
import Derived.Test.YtcjclihkaaaihaaPFnExactViewOfx0
namespace Go.Proofs.Ytcjclihkaaaihaa.PFnExactViewOf
open Go.RowKit Go.Proofs.YtcjclihkaaaihaaW.PrintWords Go.Proofs.YtcjclihkaaaihaaW.PrintLast Go.Proofs.YtcjclihkaaaihaaW.PrintMore
attribute [local go_sem] max2_int min2_int max_two min_two max_three min_three max_four min_four   -- for this text's walks alone
set_option linter.unusedVariables false
set_option linter.unusedSimpArgs false   -- squeezed
set_option maxHeartbeats 8000000
set_option maxRecDepth 100000

/-! ### laws_eqInt64S: function 15 -/
def laws_eqInt64S.l0 : Nat → List Int → List Int → Int → Option (Bool)
 | 0, _, _, _ => none
 | k + 1, x0, x1, x5 => if x5 < (x0.length : Int) then (if 0 ≤ x5 then (if x5 < (x1.length : Int) then (if (rd x0 x5) = (rd x1 x5) then (laws_eqInt64S.l0 k x0 x1 (wrap64 (x5 + 1))) else (some false)) else (none)) else (none)) else (some true)
def laws_eqInt64S.f (k : Nat) (l0 : List Int) (l1 : List Int) : Option (Bool) := if (l0.length : Int) = (l1.length : Int) then (laws_eqInt64S.l0 k l0 l1 0) else (some false)
theorem laws_eqInt64S.mono_l : ∀ k, (∀ y0 y1 y2, LeO (laws_eqInt64S.l0 k y0 y1 y2) (laws_eqInt64S.l0 (k + 1) y0 y1 y2))
 | 0 => fun _ _ _ r h => by simp [laws_eqInt64S.l0] at h
 | k + 1 => by
  have ih0 := laws_eqInt64S.mono_l k
  ·intro y0 y1 y2
   unfold laws_eqInt64S.l0
   repeat' first
   | (with_reducible exact ih0 _ _ _)
   | (with_reducible exact LeO.refl _)
   | (with_reducible exact LeO.none _)
   | (with_reducible refine LeO.ite ?_ ?_)
   | (with_reducible refine LeO.bind ?_ (fun _ => ?_))
   | exact ih0 _ _ _
   | refine LeO.bind ?_ (fun _ => ?_)
theorem laws_eqInt64S.mono : ∀ a0 a1 k, LeO (laws_eqInt64S.f k a0 a1) (laws_eqInt64S.f (k + 1) a0 a1) := by
 intro a0 a1 k
 have ih0 := laws_eqInt64S.mono_l k
 unfold laws_eqInt64S.f
 repeat' first
   | (with_reducible exact ih0 _ _ _)
   | (with_reducible exact LeO.refl _)
   | (with_reducible exact LeO.none _)
   | (with_reducible refine LeO.ite ?_ ?_)
   | (with_reducible refine LeO.bind ?_ (fun _ => ?_))
   | exact ih0 _ _ _
   | refine LeO.bind ?_ (fun _ => ?_)
theorem laws_eqInt64S.calls (k : Nat) (A0 : Option Addr) (c0 : Nat) (l0 : List Int) (A1 : Option Addr) (c1 : Nat) (l1 : List Int) (r : Bool) (w : World) (hr0 : Kd.C (Kd.int .i64) w A0 l0.length l0) (hc0 : l0.length ≤ c0) (hr1 : Kd.C (Kd.int .i64) w A1 l1.length l1) (hc1 : l1.length ≤ c1) (h : laws_eqInt64S.f k l0 l1 = some r) :
  Calls Try.prog 15 #[.slice A0 l0.length c0, .slice A1 l1.length c1] w fun e w' => e = .returned (.bool r) ∧ Drawn0 w w' := by
 have HR0 := am hr0
 have HC0 := am hc0
 clear hr0 hc0
 have HR1 := am hr1
 have HC1 := am hc1
 clear hr1 hc1
 have H : (if (l0.length : Int) = (l1.length : Int) then (laws_eqInt64S.l0 k l0 l1 0) else (some false)) = some r := h
 clear h
 by_cases c3 : (l0.length : Int) = (l1.length : Int)
 ·rw [if_pos c3] at H
  have c3b0 : ((l0.length : Int) == (l1.length : Int)) = true := beq_iff_eq.mpr c3
  have c3b1 : ((l0.length : Int) != (l1.length : Int)) = false := bne_eq_false_iff_eq.mpr c3
  have c3b2 : (l0.length == l1.length) = true := by first | simpa using c3 | (simp at c3 ⊢; omega)
  clear c3
  have H' := Aside0.mk H
  clear H
  go_enter Try.func15, Try.ntmps15
  go_wp2
  repeat (go_quiet (fail); try go_wp2)
  go_loopg [5] k (fun kq v5 w' => ∃ (x5_1 : Int), v5 = .int .i64 x5_1 ∧ Aside0 (laws_eqInt64S.l0 kq l0 l1 x5_1 = some r) ∧ Aside0 (kq ≤ k) ∧ Drawn0 w w')
  case atStart => exact ⟨(0), (by first | rfl | (simp; done) | (simp [*]; done)), H', ⟨Nat.le_refl _⟩, by repeat (first | exact Drawn0.refl _ | apply Drawn0.step)⟩
  case round =>
   clear H'
   try clear c1
   try clear p2
   try clear c3
   try clear c3b0
   try clear c3b1
   try clear c3b2
   obtain ⟨x5_1, rfl, HA, HK1, ⟨m1, rfl⟩⟩ := hrel
   cases gk with
   | zero => exact absurd HA.out (by simp [laws_eqInt64S.l0])
   | succ k1 =>
    have H := HA.out
    clear HA
    simp only [laws_eqInt64S.l0] at H
    by_cases c4 : x5_1 < (l0.length : Int)
    ·rw [if_pos c4] at H
     have c4b0 : decide (x5_1 < (l0.length : Int)) = true := decide_eq_true c4
     clear c4
     by_cases c5 : 0 ≤ x5_1
     ·rw [if_pos c5] at H
      have c5b0 : decide (0 ≤ x5_1) = true := decide_eq_true c5
      clear c5
      by_cases c6 : x5_1 < (l1.length : Int)
      ·rw [if_pos c6] at H
       have c6b0 : decide (x5_1 < (l1.length : Int)) = true := decide_eq_true c6
       clear c6
       by_cases c7 : (rd l0 x5_1) = (rd l1 x5_1)
       ·rw [if_pos c7] at H
        have c7b0 : ((rd l0 x5_1) == (rd l1 x5_1)) = true := beq_iff_eq.mpr c7
        have c7b1 : ((rd l0 x5_1) != (rd l1 x5_1)) = false := bne_eq_false_iff_eq.mpr c7
        clear c7
        have H' := Aside0.mk H
        clear H
        have p187 : 0 ≤ (x5_1 : Int) := of_decide_eq_true (by first | (with_reducible assumption) | assumption)
        have q187 : x5_1 < (l0.length : Int) := of_decide_eq_true (by first | (with_reducible assumption) | assumption)
        obtain ⟨ad187, e187, hx187_0⟩ := Kd.at_int HR0.out x5_1 p187 q187
        cases e187
        replace p187 := eq_true p187
        replace q187 := eq_true q187
        have p188 : 0 ≤ (x5_1 : Int) := of_decide_eq_true (by first | (with_reducible assumption) | assumption)
        have q188 : x5_1 < (l1.length : Int) := of_decide_eq_true (by first | (with_reducible assumption) | assumption)
        obtain ⟨ad188, e188, hx188_0⟩ := Kd.at_int HR1.out x5_1 p188 q188
        cases e188
        replace p188 := eq_true p188
        replace q188 := eq_true q188
        go_wp2
        repeat (go_quiet (fail); try go_wp2)
        go_roundg k1
        case measure => have := HK1.out; omega
        case rel => exact ⟨(wrap64 (x5_1 + 1)), (by first | rfl | (simp; done) | (simp [*]; done)), H', ⟨by have := HK1.out; omega⟩, by repeat (first | exact Drawn0.refl _ | apply Drawn0.step)⟩
       ·rw [if_neg c7] at H
        have c7b0 : ((rd l0 x5_1) == (rd l1 x5_1)) = false := beq_eq_false_iff_ne.mpr c7
        have c7b1 : ((rd l0 x5_1) != (rd l1 x5_1)) = true := bne_iff_ne.mpr c7
        obtain rfl := Option.some.inj H
        have p187 : 0 ≤ (x5_1 : Int) := of_decide_eq_true (by first | (with_reducible assumption) | assumption)
        have q187 : x5_1 < (l0.length : Int) := of_decide_eq_true (by first | (with_reducible assumption) | assumption)
        obtain ⟨ad187, e187, hx187_0⟩ := Kd.at_int HR0.out x5_1 p187 q187
        cases e187
        replace p187 := eq_true p187
        replace q187 := eq_true q187
        have p188 : 0 ≤ (x5_1 : Int) := of_decide_eq_true (by first | (with_reducible assumption) | assumption)
        have q188 : x5_1 < (l1.length : Int) := of_decide_eq_true (by first | (with_reducible assumption) | assumption)
        obtain ⟨ad188, e188, hx188_0⟩ := Kd.at_int HR1.out x5_1 p188 q188
        cases e188
        replace p188 := eq_true p188
        replace q188 := eq_true q188
        go_wp2
        repeat (go_quiet (fail); try go_wp2)
        go_ret
        exact ⟨by first | rfl | (simp; done) | (simp [*]; done), by repeat (first | exact Drawn0.refl _ | apply Drawn0.step)⟩
      ·rw [if_neg c6] at H
       exact absurd H (by simp)
     ·rw [if_neg c5] at H
      exact absurd H (by simp)
    ·rw [if_neg c4] at H
     have c4b0 : decide (x5_1 < (l0.length : Int)) = false := decide_eq_false c4
     clear c4
     obtain rfl := Option.some.inj H
     go_wp2
     repeat (go_quiet (fail); try go_wp2)
     go_ret
     exact ⟨by first | rfl | (simp; done) | (simp [*]; done), by repeat (first | exact Drawn0.refl _ | apply Drawn0.step)⟩
 ·rw [if_neg c3] at H
  have c3b0 : ((l0.length : Int) == (l1.length : Int)) = false := beq_eq_false_iff_ne.mpr c3
  have c3b1 : ((l0.length : Int) != (l1.length : Int)) = true := bne_iff_ne.mpr c3
  have c3b2 : (l0.length == l1.length) = false := by first | simpa using c3 | (simp at c3 ⊢; omega)
  obtain rfl := Option.some.inj H
  go_enter Try.func15, Try.ntmps15
  go_wp2
  repeat (go_quiet (fail); try go_wp2)
  go_ret
  exact ⟨by first | rfl | (simp; done) | (simp [*]; done), by repeat (first | exact Drawn0.refl _ | apply Drawn0.step)⟩

/-! ### laws_eqCell: function 96 -/
def laws_eqCell.f (k : Nat) (l0_0 : List Int) (a0_1 : Int) (l1_0 : List Int) (a1_1 : Int) : Option (Bool) := (laws_eqInt64S.f k l0_0 l1_0).bind fun t191 => (if t191 = true then (if a0_1 = a1_1 then (some true) else (some false)) else (some false))
theorem laws_eqCell.mono : ∀ a0 a1 a2 a3 k, LeO (laws_eqCell.f k a0 a1 a2 a3) (laws_eqCell.f (k + 1) a0 a1 a2 a3) := by
 intro a0 a1 a2 a3 k
 unfold laws_eqCell.f
 repeat' first
   | (with_reducible exact laws_eqInt64S.mono _ _ _)
   | (with_reducible exact LeO.refl _)
   | (with_reducible exact LeO.none _)
   | (with_reducible refine LeO.ite ?_ ?_)
   | (with_reducible refine LeO.bind ?_ (fun _ => ?_))
   | exact laws_eqInt64S.mono _ _ _
   | refine LeO.bind ?_ (fun _ => ?_)
theorem laws_eqCell.calls (k : Nat) (A0_0 : Option Addr) (c0_0 : Nat) (l0_0 : List Int) (a0_1 : Int) (A1_0 : Option Addr) (c1_0 : Nat) (l1_0 : List Int) (a1_1 : Int) (r : Bool) (w : World) (hr0_0 : Kd.C (Kd.int .i64) w A0_0 l0_0.length l0_0) (hc0_0 : l0_0.length ≤ c0_0) (hr1_0 : Kd.C (Kd.int .i64) w A1_0 l1_0.length l1_0) (hc1_0 : l1_0.length ≤ c1_0) (h : laws_eqCell.f k l0_0 a0_1 l1_0 a1_1 = some r) :
  Calls Try.prog 96 #[.agg #[.slice A0_0 l0_0.length c0_0, .int .i64 a0_1], .agg #[.slice A1_0 l1_0.length c1_0, .int .i64 a1_1]] w fun e w' => e = .returned (.bool r) ∧ Below w.heap.size w w' := by
 have hu75 := Try.underlying75
 have HR0_0 := am hr0_0
 have HC0_0 := am hc0_0
 clear hr0_0 hc0_0
 have HR1_0 := am hr1_0
 have HC1_0 := am hc1_0
 clear hr1_0 hc1_0
 have HB := am (Below.refl w.heap.size w)
 have H : ((laws_eqInt64S.f k l0_0 l1_0).bind fun t191 => (if t191 = true then (if a0_1 = a1_1 then (some true) else (some false)) else (some false))) = some r := h
 clear h
 replace H := Option.bind_eq_some_iff.mp H
 obtain ⟨t191, A30, H⟩ := H
 replace H : (if t191 = true then (if a0_1 = a1_1 then (some true) else (some false)) else (some false)) = some r := H
 have A3 := Aside0.mk A30
 clear A30
 by_cases c4 : t191 = true
 ·subst c4
  have H1 : (if a0_1 = a1_1 then (some true) else (some false)) = some r := by rw [if_pos rfl] at H; exact H
  clear H
  have H := H1
  clear H1
  by_cases c5 : a0_1 = a1_1
  ·rw [if_pos c5] at H
   have c5b0 : (a0_1 == a1_1) = true := beq_iff_eq.mpr c5
   have c5b1 : (a0_1 != a1_1) = false := bne_eq_false_iff_eq.mpr c5
   clear c5
   obtain rfl := Option.some.inj H
   go_enter Try.func96, Try.ntmps96
   go_wp2_with (first | ((with_reducible refine gate_dst (N := 2) rfl ?_); refine box_event ?hg (N := 2) ?hd (cs := #[.slice A0_0 l0_0.length c0_0, .int .i64 a0_1]) (t := 75) ?hr ?_; (case hd => rfl); (case hg => rfl); (case hr => first | (go_simp; done) | (go_simp; rfl)); intro gb189 hg w6 hbox hb; have BK189 := am (hbox); have GW189 := am ((by rw [hg]; exact (below_size (bl HB.out)) : w.heap.size ≤ gb189)); have GE189 := GW189; replace HB := am (below_step (bl HB.out) hb); clear hb hbox hg) | ((with_reducible refine gate_dst (N := 3) rfl ?_); refine box_event ?hg (N := 3) ?hd (cs := #[.slice A1_0 l1_0.length c1_0, .int .i64 a1_1]) (t := 75) ?hr ?_; (case hd => rfl); (case hg => rfl); (case hr => first | (go_simp; done) | (go_simp; rfl)); intro gb190 hg w7 hbox hb; have BK190 := am (hbox); have GW190 := am ((by rw [hg]; exact (below_size (bl HB.out)) : w.heap.size ≤ gb190)); have GE190 := GW190; replace HB := am (below_step (bl HB.out) hb); have NB189_190 := am ((by rw [hg]; exact Nat.ne_of_lt (blk_lt (pk BK189.out)) : gb189 ≠ gb190)); have NB190_189 := am ((by rw [hg]; exact Nat.ne_of_gt (blk_lt (pk BK189.out)) : gb190 ≠ gb189)); replace BK189 := am (blk_below (pk BK189.out) hb); clear hb hbox hg; have hnb8 := NB189_190.out; have hnc8 := NB190_189.out; have hcz9_0 : w7.cell? ⟨gb189, 0, none⟩ = some (.slice A0_0 l0_0.length c0_0) := bc BK189.out 0; have hcz9_1 : w7.cell? ⟨gb189, 1, none⟩ = some (.int .i64 a0_1) := bc BK189.out 1; have hcz10_0 : w7.cell? ⟨gb190, 0, none⟩ = some (.slice A1_0 l1_0.length c1_0) := bc BK190.out 0; have hcz10_1 : w7.cell? ⟨gb190, 1, none⟩ = some (.int .i64 a1_1) := bc BK190.out 1) | ((with_reducible refine gate_callee (f := 15) rfl ?_); refine gl (some 9) Try.func15 #[.slice A0_0 l0_0.length c0_0, .slice A1_0 l1_0.length c1_0] ?_; (with_reducible refine (laws_eqInt64S.calls k _ _ l0_0 _ _ l1_0 true _ ?side1 ?side2 ?side3 ?side4 A3.out).mono ?_); (case side1 => repeat (first | exact (Kd.C_below HR0_0.out HB.out) | (with_reducible refine Kd.C_alloc ?_ _) | (with_reducible refine Kd.C_drewN ?_ _) | (with_reducible refine Kd.C_drew ?_))); (case side2 => exact HC0_0.out); (case side3 => repeat (first | exact (Kd.C_below HR1_0.out HB.out) | (with_reducible refine Kd.C_alloc ?_ _) | (with_reducible refine Kd.C_drewN ?_ _) | (with_reducible refine Kd.C_drew ?_))); (case side4 => exact HC1_0.out); rintro e w' ⟨rfl, ⟨nd, rfl⟩⟩; refine ⟨_, rfl, ?_⟩))
   go_ret
   exact ⟨by first | rfl | (simp [errW_none, errW_some] <;> rfl) | (simp [*, errW_none, errW_some] <;> rfl), by repeat (first | (with_reducible first | exact HB.out | apply below_alloc | apply pw_below_drewN | apply below_drew1 | refine below_set ?_ GE189.out | refine below_set ?_ GE190.out) | exact HB.out)⟩
  ·rw [if_neg c5] at H
   have c5b0 : (a0_1 == a1_1) = false := beq_eq_false_iff_ne.mpr c5
   have c5b1 : (a0_1 != a1_1) = true := bne_iff_ne.mpr c5
   obtain rfl := Option.some.inj H
   go_enter Try.func96, Try.ntmps96
   go_wp2_with (first | ((with_reducible refine gate_dst (N := 2) rfl ?_); refine box_event ?hg (N := 2) ?hd (cs := #[.slice A0_0 l0_0.length c0_0, .int .i64 a0_1]) (t := 75) ?hr ?_; (case hd => rfl); (case hg => rfl); (case hr => first | (go_simp; done) | (go_simp; rfl)); intro gb189 hg w11 hbox hb; have BK189 := am (hbox); have GW189 := am ((by rw [hg]; exact (below_size (bl HB.out)) : w.heap.size ≤ gb189)); have GE189 := GW189; replace HB := am (below_step (bl HB.out) hb); clear hb hbox hg) | ((with_reducible refine gate_dst (N := 3) rfl ?_); refine box_event ?hg (N := 3) ?hd (cs := #[.slice A1_0 l1_0.length c1_0, .int .i64 a1_1]) (t := 75) ?hr ?_; (case hd => rfl); (case hg => rfl); (case hr => first | (go_simp; done) | (go_simp; rfl)); intro gb190 hg w12 hbox hb; have BK190 := am (hbox); have GW190 := am ((by rw [hg]; exact (below_size (bl HB.out)) : w.heap.size ≤ gb190)); have GE190 := GW190; replace HB := am (below_step (bl HB.out) hb); have NB189_190 := am ((by rw [hg]; exact Nat.ne_of_lt (blk_lt (pk BK189.out)) : gb189 ≠ gb190)); have NB190_189 := am ((by rw [hg]; exact Nat.ne_of_gt (blk_lt (pk BK189.out)) : gb190 ≠ gb189)); replace BK189 := am (blk_below (pk BK189.out) hb); clear hb hbox hg; have hnb13 := NB189_190.out; have hnc13 := NB190_189.out; have hcz14_0 : w12.cell? ⟨gb189, 0, none⟩ = some (.slice A0_0 l0_0.length c0_0) := bc BK189.out 0; have hcz14_1 : w12.cell? ⟨gb189, 1, none⟩ = some (.int .i64 a0_1) := bc BK189.out 1; have hcz15_0 : w12.cell? ⟨gb190, 0, none⟩ = some (.slice A1_0 l1_0.length c1_0) := bc BK190.out 0; have hcz15_1 : w12.cell? ⟨gb190, 1, none⟩ = some (.int .i64 a1_1) := bc BK190.out 1) | ((with_reducible refine gate_callee (f := 15) rfl ?_); refine gl (some 9) Try.func15 #[.slice A0_0 l0_0.length c0_0, .slice A1_0 l1_0.length c1_0] ?_; (with_reducible refine (laws_eqInt64S.calls k _ _ l0_0 _ _ l1_0 true _ ?side1 ?side2 ?side3 ?side4 A3.out).mono ?_); (case side1 => repeat (first | exact (Kd.C_below HR0_0.out HB.out) | (with_reducible refine Kd.C_alloc ?_ _) | (with_reducible refine Kd.C_drewN ?_ _) | (with_reducible refine Kd.C_drew ?_))); (case side2 => exact HC0_0.out); (case side3 => repeat (first | exact (Kd.C_below HR1_0.out HB.out) | (with_reducible refine Kd.C_alloc ?_ _) | (with_reducible refine Kd.C_drewN ?_ _) | (with_reducible refine Kd.C_drew ?_))); (case side4 => exact HC1_0.out); rintro e w' ⟨rfl, ⟨nd, rfl⟩⟩; refine ⟨_, rfl, ?_⟩))
   go_ret
   exact ⟨by first | rfl | (simp [errW_none, errW_some] <;> rfl) | (simp [*, errW_none, errW_some] <;> rfl), by repeat (first | (with_reducible first | exact HB.out | apply below_alloc | apply pw_below_drewN | apply below_drew1 | refine below_set ?_ GE189.out | refine below_set ?_ GE190.out) | exact HB.out)⟩
 ·replace c4 := Bool.eq_false_iff.mpr c4
  subst c4
  have H1 : (some false) = some r := by rw [if_neg (show ¬ (false = true) by decide)] at H; exact H
  clear H
  have H := H1
  clear H1
  obtain rfl := Option.some.inj H
  go_enter Try.func96, Try.ntmps96
  go_wp2_with (first | ((with_reducible refine gate_dst (N := 2) rfl ?_); refine box_event ?hg (N := 2) ?hd (cs := #[.slice A0_0 l0_0.length c0_0, .int .i64 a0_1]) (t := 75) ?hr ?_; (case hd => rfl); (case hg => rfl); (case hr => first | (go_simp; done) | (go_simp; rfl)); intro gb189 hg w16 hbox hb; have BK189 := am (hbox); have GW189 := am ((by rw [hg]; exact (below_size (bl HB.out)) : w.heap.size ≤ gb189)); have GE189 := GW189; replace HB := am (below_step (bl HB.out) hb); clear hb hbox hg) | ((with_reducible refine gate_dst (N := 3) rfl ?_); refine box_event ?hg (N := 3) ?hd (cs := #[.slice A1_0 l1_0.length c1_0, .int .i64 a1_1]) (t := 75) ?hr ?_; (case hd => rfl); (case hg => rfl); (case hr => first | (go_simp; done) | (go_simp; rfl)); intro gb190 hg w17 hbox hb; have BK190 := am (hbox); have GW190 := am ((by rw [hg]; exact (below_size (bl HB.out)) : w.heap.size ≤ gb190)); have GE190 := GW190; replace HB := am (below_step (bl HB.out) hb); have NB189_190 := am ((by rw [hg]; exact Nat.ne_of_lt (blk_lt (pk BK189.out)) : gb189 ≠ gb190)); have NB190_189 := am ((by rw [hg]; exact Nat.ne_of_gt (blk_lt (pk BK189.out)) : gb190 ≠ gb189)); replace BK189 := am (blk_below (pk BK189.out) hb); clear hb hbox hg; have hnb18 := NB189_190.out; have hnc18 := NB190_189.out; have hcz19_0 : w17.cell? ⟨gb189, 0, none⟩ = some (.slice A0_0 l0_0.length c0_0) := bc BK189.out 0; have hcz19_1 : w17.cell? ⟨gb189, 1, none⟩ = some (.int .i64 a0_1) := bc BK189.out 1; have hcz20_0 : w17.cell? ⟨gb190, 0, none⟩ = some (.slice A1_0 l1_0.length c1_0) := bc BK190.out 0; have hcz20_1 : w17.cell? ⟨gb190, 1, none⟩ = some (.int .i64 a1_1) := bc BK190.out 1) | ((with_reducible refine gate_callee (f := 15) rfl ?_); refine gl (some 9) Try.func15 #[.slice A0_0 l0_0.length c0_0, .slice A1_0 l1_0.length c1_0] ?_; (with_reducible refine (laws_eqInt64S.calls k _ _ l0_0 _ _ l1_0 false _ ?side1 ?side2 ?side3 ?side4 A3.out).mono ?_); (case side1 => repeat (first | exact (Kd.C_below HR0_0.out HB.out) | (with_reducible refine Kd.C_alloc ?_ _) | (with_reducible refine Kd.C_drewN ?_ _) | (with_reducible refine Kd.C_drew ?_))); (case side2 => exact HC0_0.out); (case side3 => repeat (first | exact (Kd.C_below HR1_0.out HB.out) | (with_reducible refine Kd.C_alloc ?_ _) | (with_reducible refine Kd.C_drewN ?_ _) | (with_reducible refine Kd.C_drew ?_))); (case side4 => exact HC1_0.out); rintro e w' ⟨rfl, ⟨nd, rfl⟩⟩; refine ⟨_, rfl, ?_⟩))
  go_ret
  exact ⟨by first | rfl | (simp [errW_none, errW_some] <;> rfl) | (simp [*, errW_none, errW_some] <;> rfl), by repeat (first | (with_reducible first | exact HB.out | apply below_alloc | apply pw_below_drewN | apply below_drew1 | refine below_set ?_ GE189.out | refine below_set ?_ GE190.out) | exact HB.out)⟩

/-! ### laws_eqCellS: function 77 -/
@[reducible] def b77_0 : Array Bool := (br true [0, 10]).toArray
@[reducible] def b77_1 : Array Bool := (br true [1, 9]).toArray
@[reducible] def b77_2 : Array Bool := (br true [2, 8]).toArray
@[reducible] def b77_3 : Array Bool := (br true [3, 7]).toArray
@[reducible] def b77_4 : Array Bool := (br true [3, 1, 1, 5]).toArray
@[reducible] def b77_5 : Array Bool := (br true [3, 1, 2, 4]).toArray
@[reducible] def b77_6 : Array Bool := (br true [3, 1, 3, 3]).toArray
@[reducible] def b77_7 : Array Bool := (br true [7, 3]).toArray
@[reducible] def b77_8 : Array Bool := (br true [8, 2]).toArray
@[reducible] def b77_9 : Array Bool := (br true [9, 1]).toArray
@[reducible] def b77_10 : Array Bool := (br true [10]).toArray
def laws_eqCellS.l0 : Nat → List (S75) → List (S75) → Int → Option (Bool)
 | 0, _, _, _ => none
 | k + 1, x0, x1, x5 => if x5 < (x0.length : Int) then (if 0 ≤ x5 then (if x5 < (x1.length : Int) then ((laws_eqCell.f k ((rd_T75 x0 x5).f0) ((rd_T75 x0 x5).f1) ((rd_T75 x1 x5).f0) ((rd_T75 x1 x5).f1)).bind fun t194 => (if t194 = true then (laws_eqCellS.l0 k x0 x1 (wrap64 (x5 + 1))) else (some false))) else (none)) else (none)) else (some true)
def laws_eqCellS.f (k : Nat) (l0 : List (S75)) (l1 : List (S75)) : Option (Bool) := if (l0.length : Int) = (l1.length : Int) then (laws_eqCellS.l0 k l0 l1 0) else (some false)
theorem laws_eqCellS.mono_l : ∀ k, (∀ y0 y1 y2, LeO (laws_eqCellS.l0 k y0 y1 y2) (laws_eqCellS.l0 (k + 1) y0 y1 y2))
 | 0 => fun _ _ _ r h => by simp [laws_eqCellS.l0] at h
 | k + 1 => by
  have ih0 := laws_eqCellS.mono_l k
  ·intro y0 y1 y2
   unfold laws_eqCellS.l0
   repeat' first
   | (with_reducible exact ih0 _ _ _)
   | (with_reducible exact laws_eqCell.mono _ _ _ _ _)
   | (with_reducible exact LeO.refl _)
   | (with_reducible exact LeO.none _)
   | (with_reducible refine LeO.ite ?_ ?_)
   | (with_reducible refine LeO.bind ?_ (fun _ => ?_))
   | exact ih0 _ _ _
   | exact laws_eqCell.mono _ _ _ _ _
   | refine LeO.bind ?_ (fun _ => ?_)
theorem laws_eqCellS.mono : ∀ a0 a1 k, LeO (laws_eqCellS.f k a0 a1) (laws_eqCellS.f (k + 1) a0 a1) := by
 intro a0 a1 k
 have ih0 := laws_eqCellS.mono_l k
 unfold laws_eqCellS.f
 repeat' first
   | (with_reducible exact ih0 _ _ _)
   | (with_reducible exact laws_eqCell.mono _ _ _ _ _)
   | (with_reducible exact LeO.refl _)
   | (with_reducible exact LeO.none _)
   | (with_reducible refine LeO.ite ?_ ?_)
   | (with_reducible refine LeO.bind ?_ (fun _ => ?_))
   | exact ih0 _ _ _
   | exact laws_eqCell.mono _ _ _ _ _
   | refine LeO.bind ?_ (fun _ => ?_)
def laws_eqCellS.T6 : Bool × List (List Nat × List Nat) := (true, [([], []), ([], []), ([0, 1], [0, 1]), ([2], [2]), ([], []), ([], []), ([4, 5], [4, 5]), ([6], [6]), ([3, 7], [3, 7]), ([8], [8])])
def laws_eqCellS.B6 : List Nat := [0, 0, 3, 7, 0, 0, 48, 112, 255, 511]
theorem laws_eqCellS.tab6 : rtab .any (opsOf Try.f77 6) = laws_eqCellS.T6 := by kernel_rfl
theorem laws_eqCellS.bits6 : waitsOk laws_eqCellS.T6.2 laws_eqCellS.B6 = true := by kernel_rfl
theorem laws_eqCellS.calls (k : Nat) (A0 : Option Addr) (c0 : Nat) (l0 : List (S75)) (A1 : Option Addr) (c1 : Nat) (l1 : List (S75)) (r : Bool) (w : World) (hr0 : Kd.C k75 w A0 l0.length l0) (hc0 : l0.length ≤ c0) (hr1 : Kd.C k75 w A1 l1.length l1) (hc1 : l1.length ≤ c1) (h : laws_eqCellS.f k l0 l1 = some r) :
  Calls Try.prog 77 #[.slice A0 l0.length c0, .slice A1 l1.length c1] w fun e w' => e = .returned (.bool r) ∧ Below w.heap.size w w' := by
 have hu75 := Try.underlying75
 have HR0 := am hr0
 have HC0 := am hc0
 clear hr0 hc0
 have HR1 := am hr1
 have HC1 := am hc1
 clear hr1 hc1
 have HB := am (Below.refl w.heap.size w)
 have H : (if (l0.length : Int) = (l1.length : Int) then (laws_eqCellS.l0 k l0 l1 0) else (some false)) = some r := h
 clear h
 by_cases c3 : (l0.length : Int) = (l1.length : Int)
 ·rw [if_pos c3] at H
  have c3b0 : ((l0.length : Int) == (l1.length : Int)) = true := beq_iff_eq.mpr c3
  have c3b1 : ((l0.length : Int) != (l1.length : Int)) = false := bne_eq_false_iff_eq.mpr c3
  have c3b2 : (l0.length == l1.length) = true := by first | simpa using c3 | (simp at c3 ⊢; omega)
  clear c3
  have H' := Aside0.mk H
  clear H
  go_enter Try.func77, Try.ntmps77
  go_wp2
  go_loopg [5] k (fun kq v5 w' => ∃ (x5_1 : Int), v5 = .int .i64 x5_1 ∧ Aside0 (laws_eqCellS.l0 kq l0 l1 x5_1 = some r) ∧ Aside0 (kq ≤ k) ∧ Aside0 (Below w.heap.size w w'))
  case atStart => exact ⟨(0), (by first | rfl | (simp; done) | (simp [*]; done)), H', ⟨Nat.le_refl _⟩, ⟨by repeat (first | (with_reducible first | exact HB.out | apply below_alloc | apply pw_below_drewN | apply below_drew1) | exact HB.out)⟩⟩
  case round =>
   clear H'
   try clear c1
   try clear p2
   try clear c3
   try clear c3b0
   try clear c3b1
   try clear c3b2
   obtain ⟨x5_1, rfl, HA, HK1, HB⟩ := hrel
   cases gk with
   | zero => exact absurd HA.out (by simp [laws_eqCellS.l0])
   | succ k1 =>
    have H := HA.out
    clear HA
    simp only [laws_eqCellS.l0] at H
    by_cases c4 : x5_1 < (l0.length : Int)
    ·rw [if_pos c4] at H
     have c4b0 : decide (x5_1 < (l0.length : Int)) = true := decide_eq_true c4
     clear c4
     by_cases c5 : 0 ≤ x5_1
     ·rw [if_pos c5] at H
      have c5b0 : decide (0 ≤ x5_1) = true := decide_eq_true c5
      clear c5
      by_cases c6 : x5_1 < (l1.length : Int)
      ·rw [if_pos c6] at H
       have c6b0 : decide (x5_1 < (l1.length : Int)) = true := decide_eq_true c6
       clear c6
       replace H := Option.bind_eq_some_iff.mp H
       obtain ⟨t194, A70, H⟩ := H
       replace H : (if t194 = true then (laws_eqCellS.l0 k1 l0 l1 (wrap64 (x5_1 + 1))) else (some false)) = some r := H
       have A7 := Aside0.mk A70
       clear A70
       by_cases c8 : t194 = true
       ·subst c8
        have H1 : (laws_eqCellS.l0 k1 l0 l1 (wrap64 (x5_1 + 1))) = some r := by rw [if_pos rfl] at H; exact H
        clear H
        have H := H1
        clear H1
        have H' := Aside0.mk H
        clear H
        try go_wp2
        replace HB := am (below_drew1 HB.out)
        have p192 : 0 ≤ (x5_1 : Int) := of_decide_eq_true (by first | (with_reducible assumption) | assumption)
        have q192 : x5_1 < (l0.length : Int) := of_decide_eq_true (by first | (with_reducible assumption) | assumption)
        obtain ⟨ad192, A192_0, c192_0, e192, hx192_0, hx192_1, hl192_0, hi192_0⟩ := at_T75 HR0.out x5_1 p192 q192
        have hw192_1 := hx192_1
        have hw192_0 := hx192_0
        cases e192
        have hxw192_0 := hx192_0
        replace hx192_0 := (HB.out.cell (World.block_lt_of_cell? w _ hx192_0)).trans hx192_0
        have hxw192_1 := hx192_1
        replace hx192_1 := (HB.out.cell (World.block_lt_of_cell? w _ hx192_1)).trans hx192_1
        have HR192_0 := am hi192_0
        have HC192_0 := am hl192_0
        clear hi192_0 hl192_0
        replace p192 := eq_true p192
        replace q192 := eq_true q192
        have p193 : 0 ≤ (x5_1 : Int) := of_decide_eq_true (by first | (with_reducible assumption) | assumption)
        have q193 : x5_1 < (l1.length : Int) := of_decide_eq_true (by first | (with_reducible assumption) | assumption)
        obtain ⟨ad193, A193_0, c193_0, e193, hx193_0, hx193_1, hl193_0, hi193_0⟩ := at_T75 HR1.out x5_1 p193 q193
        have hw193_1 := hx193_1
        have hw193_0 := hx193_0
        cases e193
        have hxw193_0 := hx193_0
        replace hx193_0 := (HB.out.cell (World.block_lt_of_cell? w _ hx193_0)).trans hx193_0
        have hxw193_1 := hx193_1
        replace hx193_1 := (HB.out.cell (World.block_lt_of_cell? w _ hx193_1)).trans hx193_1
        have HR193_0 := am hi193_0
        have HC193_0 := am hl193_0
        clear hi193_0 hl193_0
        replace p193 := eq_true p193
        replace q193 := eq_true q193
        refine start_ (n := 10) (S := fun w' => w'.cell? (ad192.add ((x5_1).toNat * 2)) = some (.slice A192_0 ((rd_T75 l0 x5_1).f0).length c192_0) ∧ w'.cell? ⟨(ad192.add ((x5_1).toNat * 2)).block, (ad192.add ((x5_1).toNat * 2)).off + 1, none⟩ = some (.int .i64 ((rd_T75 l0 x5_1).f1)) ∧ w'.cell? (ad193.add ((x5_1).toNat * 2)) = some (.slice A193_0 ((rd_T75 l1 x5_1).f0).length c193_0) ∧ w'.cell? ⟨(ad193.add ((x5_1).toNat * 2)).block, (ad193.add ((x5_1).toNat * 2)).off + 1, none⟩ = some (.int .i64 ((rd_T75 l1 x5_1).f1))) (ds := []) b77_0 (by kernel_rfl) rfl rfl ⟨((HB.out.cell (World.block_lt_of_cell? _ _ hw192_0)).trans hw192_0), ((HB.out.cell (World.block_lt_of_cell? _ _ hw192_1)).trans hw192_1), ((HB.out.cell (World.block_lt_of_cell? _ _ hw193_0)).trans hw193_0), ((HB.out.cell (World.block_lt_of_cell? _ _ hw193_1)).trans hw193_1)⟩ (fun hHeld => ?_); refine with_tabW laws_eqCellS.tab6 laws_eqCellS.bits6 (fun HT_ HW_ => ?_)
        generalize wr.drew = w9 at HB HR192_0 HR193_0 hx192_0 hx192_1 hx193_0 hx193_1 hHeld ⊢
        refine pu_ 0 (some 17) ?_ b77_1 rfl rfl HT_.out (by kernel_rfl) (fun _ _ _ h => h) (Or.inl ⟨by rfl, ?_⟩) ?_ ?_ ?_; rotate_left
        ·intro w'; go_simp; with_reducible rfl
        rotate_left
        ·simp only [Act.put, sa_, s0_, ss_, i64_w, i32_w]; rfl
        refine pu_ 1 (some 18) ?_ b77_2 rfl rfl HT_.out (by kernel_rfl) (fun _ _ _ h => h) (Or.inl ⟨by rfl, ?_⟩) ?_ ?_ ?_; rotate_left
        ·intro w'; go_simp; with_reducible rfl
        rotate_left
        ·simp only [Act.put, sa_, s0_, ss_, i64_w, i32_w]; rfl
        refine pu_ 2 (some 19) ?_ b77_3 rfl rfl HT_.out (by kernel_rfl) (fun _ _ _ h => h) (Or.inl ⟨by rfl, ?_⟩) ?_ ?_ ?_; rotate_left
        ·intro w'; go_simp; with_reducible rfl
        rotate_left
        ·simp only [Act.put, sa_, s0_, ss_, i64_w, i32_w]; rfl
        refine pu_ 4 (some 21) ?_ b77_4 rfl rfl HT_.out (by kernel_rfl) (fun _ _ _ h => h) (Or.inl ⟨by rfl, ?_⟩) ?_ ?_ ?_; rotate_left
        ·intro w'; go_simp; with_reducible rfl
        rotate_left
        ·simp only [Act.put, sa_, s0_, ss_, i64_w, i32_w]; rfl
        refine pu_ 5 (some 22) ?_ b77_5 rfl rfl HT_.out (by kernel_rfl) (fun _ _ _ h => h) (Or.inl ⟨by rfl, ?_⟩) ?_ ?_ ?_; rotate_left
        ·intro w'; go_simp; with_reducible rfl
        rotate_left
        ·simp only [Act.put, sa_, s0_, ss_, i64_w, i32_w]; rfl
        refine pu_ 6 (some 23) ?_ b77_6 rfl rfl HT_.out (by kernel_rfl) (fun _ _ _ h => h) (Or.inl ⟨by rfl, ?_⟩) ?_ ?_ ?_; rotate_left
        ·intro w'; go_simp; with_reducible rfl
        rotate_left
        ·simp only [Act.put, sa_, s0_, ss_, i64_w, i32_w]; rfl
        refine tk_ 3 (some 20) ?_ b77_7 rfl rfl HT_.out HW_.out (by kernel_rfl) (fun _ _ _ h => h) (Or.inl ⟨by rfl, ?_⟩) hHeld ?_ ?_ ?_; rotate_left
        ·rintro w' ⟨s0, s1, s2, s3⟩; go_simp; with_reducible rfl
        rotate_left
        ·simp only [Act.put, sa_, s0_, ss_, i64_w, i32_w]; rfl
        refine tk_ 7 (some 24) ?_ b77_8 rfl rfl HT_.out HW_.out (by kernel_rfl) (fun _ _ _ h => h) (Or.inl ⟨by rfl, ?_⟩) hHeld ?_ ?_ ?_; rotate_left
        ·rintro w' ⟨s0, s1, s2, s3⟩; go_simp; with_reducible rfl
        rotate_left
        ·simp only [Act.put, sa_, s0_, ss_, i64_w, i32_w]; rfl
        refine one_ (i := 8) (N := some 25) b77_9 rfl rfl (one_of HT_.out (by kernel_rfl)) (by decide) (fun K hK => ?_)
        refine gs_ Try.func96 #[.agg #[.slice A192_0 ((rd_T75 l0 x5_1).f0).length c192_0, .int .i64 ((rd_T75 l0 x5_1).f1)], .agg #[.slice A193_0 ((rd_T75 l1 x5_1).f0).length c193_0, .int .i64 ((rd_T75 l1 x5_1).f1)]] ?_
        with_reducible refine (laws_eqCell.calls k1 _ _ ((rd_T75 l0 x5_1).f0) ((rd_T75 l0 x5_1).f1) _ _ ((rd_T75 l1 x5_1).f0) ((rd_T75 l1 x5_1).f1) true _ ?side1 ?side2 ?side3 ?side4 A7.out).mono ?_
        (case side1 => repeat (first | exact (Kd.C_below HR192_0.out HB.out) | (with_reducible refine Kd.C_alloc ?_ _) | (with_reducible refine Kd.C_drewN ?_ _) | (with_reducible refine Kd.C_drew ?_)))
        (case side2 => exact HC192_0.out)
        (case side3 => repeat (first | exact (Kd.C_below HR193_0.out HB.out) | (with_reducible refine Kd.C_alloc ?_ _) | (with_reducible refine Kd.C_drewN ?_ _) | (with_reducible refine Kd.C_drew ?_)))
        (case side4 => exact HC193_0.out)
        rintro e w10 ⟨rfl, hb⟩
        refine ⟨_, rfl, ?_⟩
        replace HB := am (below_step (bl HB.out) hb)
        (try clear hb)
        (try clear hb2)
        (try clear hk)
        (try clear hi)
        refine hK.out _ _ ⟨((HB.out.cell (World.block_lt_of_cell? _ _ hw192_0)).trans hw192_0), ((HB.out.cell (World.block_lt_of_cell? _ _ hw192_1)).trans hw192_1), ((HB.out.cell (World.block_lt_of_cell? _ _ hw193_0)).trans hw193_0), ((HB.out.cell (World.block_lt_of_cell? _ _ hw193_1)).trans hw193_1)⟩ (fun hHeld => ?_)
        clear hK K
        refine norm_ (a' := ?_) ?_ ?_
        rotate_left
        ·show Act.put _ (some 25) _ = _
         simp only [Act.put, sa_, s0_, ss_, i64_w, i32_w]
         rfl
        refine pu_ 9 (some 26) ?_ b77_10 rfl rfl HT_.out (by kernel_rfl) (fun _ _ _ h => h) (Or.inl ⟨by rfl, ?_⟩) ?_ ?_ ?_; rotate_left
        ·intro w'; go_simp; with_reducible rfl
        rotate_left
        ·simp only [Act.put, sa_, s0_, ss_, i64_w, i32_w]; rfl
        refine done_ (done_of HT_.out (by kernel_rfl)) ?_
        try go_wp2
        go_roundg k1
        case measure => have := HK1.out; omega
        case rel => exact ⟨(wrap64 (x5_1 + 1)), (by first | rfl | (simp; done) | (simp [*]; done)), H', ⟨by have := HK1.out; omega⟩, ⟨by repeat (first | (with_reducible first | exact HB.out | apply below_alloc | apply pw_below_drewN | apply below_drew1) | exact HB.out)⟩⟩
       ·replace c8 := Bool.eq_false_iff.mpr c8
        subst c8
        have H1 : (some false) = some r := by rw [if_neg (show ¬ (false = true) by decide)] at H; exact H
        clear H
        have H := H1
        clear H1
        obtain rfl := Option.some.inj H
        try go_wp2
        replace HB := am (below_drew1 HB.out)
        have p192 : 0 ≤ (x5_1 : Int) := of_decide_eq_true (by first | (with_reducible assumption) | assumption)
        have q192 : x5_1 < (l0.length : Int) := of_decide_eq_true (by first | (with_reducible assumption) | assumption)
        obtain ⟨ad192, A192_0, c192_0, e192, hx192_0, hx192_1, hl192_0, hi192_0⟩ := at_T75 HR0.out x5_1 p192 q192
        have hw192_1 := hx192_1
        have hw192_0 := hx192_0
        cases e192
        have hxw192_0 := hx192_0
        replace hx192_0 := (HB.out.cell (World.block_lt_of_cell? w _ hx192_0)).trans hx192_0
        have hxw192_1 := hx192_1
        replace hx192_1 := (HB.out.cell (World.block_lt_of_cell? w _ hx192_1)).trans hx192_1
        have HR192_0 := am hi192_0
        have HC192_0 := am hl192_0
        clear hi192_0 hl192_0
        replace p192 := eq_true p192
        replace q192 := eq_true q192
        have p193 : 0 ≤ (x5_1 : Int) := of_decide_eq_true (by first | (with_reducible assumption) | assumption)
        have q193 : x5_1 < (l1.length : Int) := of_decide_eq_true (by first | (with_reducible assumption) | assumption)
        obtain ⟨ad193, A193_0, c193_0, e193, hx193_0, hx193_1, hl193_0, hi193_0⟩ := at_T75 HR1.out x5_1 p193 q193
        have hw193_1 := hx193_1
        have hw193_0 := hx193_0
        cases e193
        have hxw193_0 := hx193_0
        replace hx193_0 := (HB.out.cell (World.block_lt_of_cell? w _ hx193_0)).trans hx193_0
        have hxw193_1 := hx193_1
        replace hx193_1 := (HB.out.cell (World.block_lt_of_cell? w _ hx193_1)).trans hx193_1
        have HR193_0 := am hi193_0
        have HC193_0 := am hl193_0
        clear hi193_0 hl193_0
        replace p193 := eq_true p193
        replace q193 := eq_true q193
        refine start_ (n := 10) (S := fun w' => w'.cell? (ad192.add ((x5_1).toNat * 2)) = some (.slice A192_0 ((rd_T75 l0 x5_1).f0).length c192_0) ∧ w'.cell? ⟨(ad192.add ((x5_1).toNat * 2)).block, (ad192.add ((x5_1).toNat * 2)).off + 1, none⟩ = some (.int .i64 ((rd_T75 l0 x5_1).f1)) ∧ w'.cell? (ad193.add ((x5_1).toNat * 2)) = some (.slice A193_0 ((rd_T75 l1 x5_1).f0).length c193_0) ∧ w'.cell? ⟨(ad193.add ((x5_1).toNat * 2)).block, (ad193.add ((x5_1).toNat * 2)).off + 1, none⟩ = some (.int .i64 ((rd_T75 l1 x5_1).f1))) (ds := []) b77_0 (by kernel_rfl) rfl rfl ⟨((HB.out.cell (World.block_lt_of_cell? _ _ hw192_0)).trans hw192_0), ((HB.out.cell (World.block_lt_of_cell? _ _ hw192_1)).trans hw192_1), ((HB.out.cell (World.block_lt_of_cell? _ _ hw193_0)).trans hw193_0), ((HB.out.cell (World.block_lt_of_cell? _ _ hw193_1)).trans hw193_1)⟩ (fun hHeld => ?_); refine with_tabW laws_eqCellS.tab6 laws_eqCellS.bits6 (fun HT_ HW_ => ?_)
        generalize wr.drew = w11 at HB HR192_0 HR193_0 hx192_0 hx192_1 hx193_0 hx193_1 hHeld ⊢
        refine pu_ 0 (some 17) ?_ b77_1 rfl rfl HT_.out (by kernel_rfl) (fun _ _ _ h => h) (Or.inl ⟨by rfl, ?_⟩) ?_ ?_ ?_; rotate_left
        ·intro w'; go_simp; with_reducible rfl
        rotate_left
        ·simp only [Act.put, sa_, s0_, ss_, i64_w, i32_w]; rfl
        refine pu_ 1 (some 18) ?_ b77_2 rfl rfl HT_.out (by kernel_rfl) (fun _ _ _ h => h) (Or.inl ⟨by rfl, ?_⟩) ?_ ?_ ?_; rotate_left
        ·intro w'; go_simp; with_reducible rfl
        rotate_left
        ·simp only [Act.put, sa_, s0_, ss_, i64_w, i32_w]; rfl
        refine pu_ 2 (some 19) ?_ b77_3 rfl rfl HT_.out (by kernel_rfl) (fun _ _ _ h => h) (Or.inl ⟨by rfl, ?_⟩) ?_ ?_ ?_; rotate_left
        ·intro w'; go_simp; with_reducible rfl
        rotate_left
        ·simp only [Act.put, sa_, s0_, ss_, i64_w, i32_w]; rfl
        refine pu_ 4 (some 21) ?_ b77_4 rfl rfl HT_.out (by kernel_rfl) (fun _ _ _ h => h) (Or.inl ⟨by rfl, ?_⟩) ?_ ?_ ?_; rotate_left
        ·intro w'; go_simp; with_reducible rfl
        rotate_left
        ·simp only [Act.put, sa_, s0_, ss_, i64_w, i32_w]; rfl
        refine pu_ 5 (some 22) ?_ b77_5 rfl rfl HT_.out (by kernel_rfl) (fun _ _ _ h => h) (Or.inl ⟨by rfl, ?_⟩) ?_ ?_ ?_; rotate_left
        ·intro w'; go_simp; with_reducible rfl
        rotate_left
        ·simp only [Act.put, sa_, s0_, ss_, i64_w, i32_w]; rfl
        refine pu_ 6 (some 23) ?_ b77_6 rfl rfl HT_.out (by kernel_rfl) (fun _ _ _ h => h) (Or.inl ⟨by rfl, ?_⟩) ?_ ?_ ?_; rotate_left
        ·intro w'; go_simp; with_reducible rfl
        rotate_left
        ·simp only [Act.put, sa_, s0_, ss_, i64_w, i32_w]; rfl
        refine tk_ 3 (some 20) ?_ b77_7 rfl rfl HT_.out HW_.out (by kernel_rfl) (fun _ _ _ h => h) (Or.inl ⟨by rfl, ?_⟩) hHeld ?_ ?_ ?_; rotate_left
        ·rintro w' ⟨s0, s1, s2, s3⟩; go_simp; with_reducible rfl
        rotate_left
        ·simp only [Act.put, sa_, s0_, ss_, i64_w, i32_w]; rfl
        refine tk_ 7 (some 24) ?_ b77_8 rfl rfl HT_.out HW_.out (by kernel_rfl) (fun _ _ _ h => h) (Or.inl ⟨by rfl, ?_⟩) hHeld ?_ ?_ ?_; rotate_left
        ·rintro w' ⟨s0, s1, s2, s3⟩; go_simp; with_reducible rfl
        rotate_left
        ·simp only [Act.put, sa_, s0_, ss_, i64_w, i32_w]; rfl
        refine one_ (i := 8) (N := some 25) b77_9 rfl rfl (one_of HT_.out (by kernel_rfl)) (by decide) (fun K hK => ?_)
        refine gs_ Try.func96 #[.agg #[.slice A192_0 ((rd_T75 l0 x5_1).f0).length c192_0, .int .i64 ((rd_T75 l0 x5_1).f1)], .agg #[.slice A193_0 ((rd_T75 l1 x5_1).f0).length c193_0, .int .i64 ((rd_T75 l1 x5_1).f1)]] ?_
        with_reducible refine (laws_eqCell.calls k1 _ _ ((rd_T75 l0 x5_1).f0) ((rd_T75 l0 x5_1).f1) _ _ ((rd_T75 l1 x5_1).f0) ((rd_T75 l1 x5_1).f1) false _ ?side1 ?side2 ?side3 ?side4 A7.out).mono ?_
        (case side1 => repeat (first | exact (Kd.C_below HR192_0.out HB.out) | (with_reducible refine Kd.C_alloc ?_ _) | (with_reducible refine Kd.C_drewN ?_ _) | (with_reducible refine Kd.C_drew ?_)))
        (case side2 => exact HC192_0.out)
        (case side3 => repeat (first | exact (Kd.C_below HR193_0.out HB.out) | (with_reducible refine Kd.C_alloc ?_ _) | (with_reducible refine Kd.C_drewN ?_ _) | (with_reducible refine Kd.C_drew ?_)))
        (case side4 => exact HC193_0.out)
        rintro e w12 ⟨rfl, hb⟩
        refine ⟨_, rfl, ?_⟩
        replace HB := am (below_step (bl HB.out) hb)
        (try clear hb)
        (try clear hb2)
        (try clear hk)
        (try clear hi)
        refine hK.out _ _ ⟨((HB.out.cell (World.block_lt_of_cell? _ _ hw192_0)).trans hw192_0), ((HB.out.cell (World.block_lt_of_cell? _ _ hw192_1)).trans hw192_1), ((HB.out.cell (World.block_lt_of_cell? _ _ hw193_0)).trans hw193_0), ((HB.out.cell (World.block_lt_of_cell? _ _ hw193_1)).trans hw193_1)⟩ (fun hHeld => ?_)
        clear hK K
        refine norm_ (a' := ?_) ?_ ?_
        rotate_left
        ·show Act.put _ (some 25) _ = _
         simp only [Act.put, sa_, s0_, ss_, i64_w, i32_w]
         rfl
        refine pu_ 9 (some 26) ?_ b77_10 rfl rfl HT_.out (by kernel_rfl) (fun _ _ _ h => h) (Or.inl ⟨by rfl, ?_⟩) ?_ ?_ ?_; rotate_left
        ·intro w'; go_simp; with_reducible rfl
        rotate_left
        ·simp only [Act.put, sa_, s0_, ss_, i64_w, i32_w]; rfl
        refine done_ (done_of HT_.out (by kernel_rfl)) ?_
        try go_wp2
        go_ret
        exact ⟨by first | rfl | (simp [errW_none, errW_some] <;> rfl) | (simp [*, errW_none, errW_some] <;> rfl), by repeat (first | (with_reducible first | exact HB.out | apply below_alloc | apply pw_below_drewN | apply below_drew1) | exact HB.out)⟩
      ·rw [if_neg c6] at H
       exact absurd H (by simp)
     ·rw [if_neg c5] at H
      exact absurd H (by simp)
    ·rw [if_neg c4] at H
     have c4b0 : decide (x5_1 < (l0.length : Int)) = false := decide_eq_false c4
     clear c4
     obtain rfl := Option.some.inj H
     go_wp2
     go_ret
     exact ⟨by first | rfl | (simp [errW_none, errW_some] <;> rfl) | (simp [*, errW_none, errW_some] <;> rfl), by repeat (first | (with_reducible first | exact HB.out | apply below_alloc | apply pw_below_drewN | apply below_drew1) | exact HB.out)⟩
 ·rw [if_neg c3] at H
  have c3b0 : ((l0.length : Int) == (l1.length : Int)) = false := beq_eq_false_iff_ne.mpr c3
  have c3b1 : ((l0.length : Int) != (l1.length : Int)) = true := bne_iff_ne.mpr c3
  have c3b2 : (l0.length == l1.length) = false := by first | simpa using c3 | (simp at c3 ⊢; omega)
  obtain rfl := Option.some.inj H
  go_enter Try.func77, Try.ntmps77
  go_wp2
  go_ret
  exact ⟨by first | rfl | (simp [errW_none, errW_some] <;> rfl) | (simp [*, errW_none, errW_some] <;> rfl), by repeat (first | (with_reducible first | exact HB.out | apply below_alloc | apply pw_below_drewN | apply below_drew1) | exact HB.out)⟩

/-! ### laws_eqGrid: function 53 -/
def laws_eqGrid.f (k : Nat) (a0_0 : Int) (a0_1 : Int) (l0_2 : List (S75)) (a0_3 : Int) (a0_4 : Int) (a0_5 : Bool) (a0_6 : Int) (a1_0 : Int) (a1_1 : Int) (l1_2 : List (S75)) (a1_3 : Int) (a1_4 : Int) (a1_5 : Bool) (a1_6 : Int) : Option (Bool) := if a0_0 = a1_0 then (if a0_1 = a1_1 then ((laws_eqCellS.f k l0_2 l1_2).bind fun t197 => (if t197 = true then (if a0_3 = a1_3 then (if a0_4 = a1_4 then (if (a0_5 != a1_5) = true then (some false) else (if a0_6 = a1_6 then (some true) else (some false))) else (some false)) else (some false)) else (some false))) else (some false)) else (some false)
theorem laws_eqGrid.mono : ∀ a0 a1 a2 a3 a4 a5 a6 a7 a8 a9 a10 a11 a12 a13 k, LeO (laws_eqGrid.f k a0 a1 a2 a3 a4 a5 a6 a7 a8 a9 a10 a11 a12 a13) (laws_eqGrid.f (k + 1) a0 a1 a2 a3 a4 a5 a6 a7 a8 a9 a10 a11 a12 a13) := by
 intro a0 a1 a2 a3 a4 a5 a6 a7 a8 a9 a10 a11 a12 a13 k
 unfold laws_eqGrid.f
 repeat' first
   | (with_reducible exact laws_eqCellS.mono _ _ _)
   | (with_reducible exact LeO.refl _)
   | (with_reducible exact LeO.none _)
   | (with_reducible refine LeO.ite ?_ ?_)
   | (with_reducible refine LeO.bind ?_ (fun _ => ?_))
   | exact laws_eqCellS.mono _ _ _
   | refine LeO.bind ?_ (fun _ => ?_)
theorem laws_eqGrid.calls (k : Nat) (a0_0 : Int) (a0_1 : Int) (A0_2 : Option Addr) (c0_2 : Nat) (l0_2 : List (S75)) (a0_3 : Int) (a0_4 : Int) (a0_5 : Bool) (a0_6 : Int) (a1_0 : Int) (a1_1 : Int) (A1_2 : Option Addr) (c1_2 : Nat) (l1_2 : List (S75)) (a1_3 : Int) (a1_4 : Int) (a1_5 : Bool) (a1_6 : Int) (r : Bool) (w : World) (hr0_2 : Kd.C k75 w A0_2 l0_2.length l0_2) (hc0_2 : l0_2.length ≤ c0_2) (hr1_2 : Kd.C k75 w A1_2 l1_2.length l1_2) (hc1_2 : l1_2.length ≤ c1_2) (h : laws_eqGrid.f k a0_0 a0_1 l0_2 a0_3 a0_4 a0_5 a0_6 a1_0 a1_1 l1_2 a1_3 a1_4 a1_5 a1_6 = some r) :
  Calls Try.prog 53 #[.agg #[.int .i64 a0_0, .int .i64 a0_1, .slice A0_2 l0_2.length c0_2, .int .i64 a0_3, .int .i64 a0_4, .bool a0_5, .int .i64 a0_6], .agg #[.int .i64 a1_0, .int .i64 a1_1, .slice A1_2 l1_2.length c1_2, .int .i64 a1_3, .int .i64 a1_4, .bool a1_5, .int .i64 a1_6]] w fun e w' => e = .returned (.bool r) ∧ Below w.heap.size w w' := by
 have hu28 := Try.underlying28
 have HR0_2 := am hr0_2
 have HC0_2 := am hc0_2
 clear hr0_2 hc0_2
 have HR1_2 := am hr1_2
 have HC1_2 := am hc1_2
 clear hr1_2 hc1_2
 have HB := am (Below.refl w.heap.size w)
 have H : (if a0_0 = a1_0 then (if a0_1 = a1_1 then ((laws_eqCellS.f k l0_2 l1_2).bind fun t197 => (if t197 = true then (if a0_3 = a1_3 then (if a0_4 = a1_4 then (if (a0_5 != a1_5) = true then (some false) else (if a0_6 = a1_6 then (some true) else (some false))) else (some false)) else (some false)) else (some false))) else (some false)) else (some false)) = some r := h
 clear h
 by_cases c3 : a0_0 = a1_0
 ·rw [if_pos c3] at H
  have c3b0 : (a0_0 == a1_0) = true := beq_iff_eq.mpr c3
  have c3b1 : (a0_0 != a1_0) = false := bne_eq_false_iff_eq.mpr c3
  clear c3
  by_cases c4 : a0_1 = a1_1
  ·rw [if_pos c4] at H
   have c4b0 : (a0_1 == a1_1) = true := beq_iff_eq.mpr c4
   have c4b1 : (a0_1 != a1_1) = false := bne_eq_false_iff_eq.mpr c4
   clear c4
   replace H := Option.bind_eq_some_iff.mp H
   obtain ⟨t197, A50, H⟩ := H
   replace H : (if t197 = true then (if a0_3 = a1_3 then (if a0_4 = a1_4 then (if (a0_5 != a1_5) = true then (some false) else (if a0_6 = a1_6 then (some true) else (some false))) else (some false)) else (some false)) else (some false)) = some r := H
   have A5 := Aside0.mk A50
   clear A50
   by_cases c6 : t197 = true
   ·subst c6
    have H1 : (if a0_3 = a1_3 then (if a0_4 = a1_4 then (if (a0_5 != a1_5) = true then (some false) else (if a0_6 = a1_6 then (some true) else (some false))) else (some false)) else (some false)) = some r := by rw [if_pos rfl] at H; exact H
    clear H
    have H := H1
    clear H1
    by_cases c7 : a0_3 = a1_3
    ·rw [if_pos c7] at H
     have c7b0 : (a0_3 == a1_3) = true := beq_iff_eq.mpr c7
     have c7b1 : (a0_3 != a1_3) = false := bne_eq_false_iff_eq.mpr c7
     clear c7
     by_cases c8 : a0_4 = a1_4
     ·rw [if_pos c8] at H
      have c8b0 : (a0_4 == a1_4) = true := beq_iff_eq.mpr c8
      have c8b1 : (a0_4 != a1_4) = false := bne_eq_false_iff_eq.mpr c8
      clear c8
      by_cases c9 : (a0_5 != a1_5) = true
      ·rw [if_pos c9] at H
       have c9b0 : (a0_5 != a1_5) = true := c9
       (try (have c9b1 : decide (a0_5 = a1_5) = false := by simpa using c9))
       (try (have c9b2 : (a0_5 == a1_5) = false := by simpa using c9))
       (try (have c9b3 : ¬ (a0_5 = a1_5) := by simpa using c9))
       clear c9
       obtain rfl := Option.some.inj H
       go_enter Try.func53, Try.ntmps53
       go_wp2_with (first | ((with_reducible refine gate_dst (N := 2) rfl ?_); refine box_event ?hg (N := 2) ?hd (cs := #[.int .i64 a0_0, .int .i64 a0_1, .slice A0_2 l0_2.length c0_2, .int .i64 a0_3, .int .i64 a0_4, .bool a0_5, .int .i64 a0_6]) (t := 28) ?hr ?_; (case hd => rfl); (case hg => rfl); (case hr => first | (go_simp; done) | (go_simp; rfl)); intro gb195 hg w10 hbox hb; have BK195 := am (hbox); have GW195 := am ((by rw [hg]; exact (below_size (bl HB.out)) : w.heap.size ≤ gb195)); have GE195 := GW195; replace HB := am (below_step (bl HB.out) hb); clear hb hbox hg) | ((with_reducible refine gate_dst (N := 3) rfl ?_); refine box_event ?hg (N := 3) ?hd (cs := #[.int .i64 a1_0, .int .i64 a1_1, .slice A1_2 l1_2.length c1_2, .int .i64 a1_3, .int .i64 a1_4, .bool a1_5, .int .i64 a1_6]) (t := 28) ?hr ?_; (case hd => rfl); (case hg => rfl); (case hr => first | (go_simp; done) | (go_simp; rfl)); intro gb196 hg w11 hbox hb; have BK196 := am (hbox); have GW196 := am ((by rw [hg]; exact (below_size (bl HB.out)) : w.heap.size ≤ gb196)); have GE196 := GW196; replace HB := am (below_step (bl HB.out) hb); have NB195_196 := am ((by rw [hg]; exact Nat.ne_of_lt (blk_lt (pk BK195.out)) : gb195 ≠ gb196)); have NB196_195 := am ((by rw [hg]; exact Nat.ne_of_gt (blk_lt (pk BK195.out)) : gb196 ≠ gb195)); replace BK195 := am (blk_below (pk BK195.out) hb); clear hb hbox hg; have hnb12 := NB195_196.out; have hnc12 := NB196_195.out; have hcz13_0 : w11.cell? ⟨gb195, 0, none⟩ = some (.int .i64 a0_0) := bc BK195.out 0; have hcz13_1 : w11.cell? ⟨gb195, 1, none⟩ = some (.int .i64 a0_1) := bc BK195.out 1; have hcz13_2 : w11.cell? ⟨gb195, 2, none⟩ = some (.slice A0_2 l0_2.length c0_2) := bc BK195.out 2; have hcz13_3 : w11.cell? ⟨gb195, 3, none⟩ = some (.int .i64 a0_3) := bc BK195.out 3; have hcz13_4 : w11.cell? ⟨gb195, 4, none⟩ = some (.int .i64 a0_4) := bc BK195.out 4; have hcz13_5 : w11.cell? ⟨gb195, 5, none⟩ = some (.bool a0_5) := bc BK195.out 5; have hcz13_6 : w11.cell? ⟨gb195, 6, none⟩ = some (.int .i64 a0_6) := bc BK195.out 6; have hcz14_0 : w11.cell? ⟨gb196, 0, none⟩ = some (.int .i64 a1_0) := bc BK196.out 0; have hcz14_1 : w11.cell? ⟨gb196, 1, none⟩ = some (.int .i64 a1_1) := bc BK196.out 1; have hcz14_2 : w11.cell? ⟨gb196, 2, none⟩ = some (.slice A1_2 l1_2.length c1_2) := bc BK196.out 2; have hcz14_3 : w11.cell? ⟨gb196, 3, none⟩ = some (.int .i64 a1_3) := bc BK196.out 3; have hcz14_4 : w11.cell? ⟨gb196, 4, none⟩ = some (.int .i64 a1_4) := bc BK196.out 4; have hcz14_5 : w11.cell? ⟨gb196, 5, none⟩ = some (.bool a1_5) := bc BK196.out 5; have hcz14_6 : w11.cell? ⟨gb196, 6, none⟩ = some (.int .i64 a1_6) := bc BK196.out 6) | ((with_reducible refine gate_callee (f := 77) rfl ?_); refine gl (some 19) Try.func77 #[.slice A0_2 l0_2.length c0_2, .slice A1_2 l1_2.length c1_2] ?_; (with_reducible refine (laws_eqCellS.calls k _ _ l0_2 _ _ l1_2 true _ ?side1 ?side2 ?side3 ?side4 A5.out).mono ?_); (case side1 => repeat (first | exact (Kd.C_below HR0_2.out HB.out) | (with_reducible refine Kd.C_alloc ?_ _) | (with_reducible refine Kd.C_drewN ?_ _) | (with_reducible refine Kd.C_drew ?_))); (case side2 => exact HC0_2.out); (case side3 => repeat (first | exact (Kd.C_below HR1_2.out HB.out) | (with_reducible refine Kd.C_alloc ?_ _) | (with_reducible refine Kd.C_drewN ?_ _) | (with_reducible refine Kd.C_drew ?_))); (case side4 => exact HC1_2.out); rintro e w15 ⟨rfl, hb⟩; refine ⟨_, rfl, ?_⟩; replace BK195 := am (blk_below (pk BK195.out) hb); replace BK196 := am (blk_below (pk BK196.out) hb); replace HB := am (below_step (bl HB.out) hb); (try clear hb); (try clear hb2); (try clear hk); (try clear hi); have hcz16_0 : w15.cell? ⟨gb195, 0, none⟩ = some (.int .i64 a0_0) := bc BK195.out 0; have hcz16_1 : w15.cell? ⟨gb195, 1, none⟩ = some (.int .i64 a0_1) := bc BK195.out 1; have hcz16_2 : w15.cell? ⟨gb195, 2, none⟩ = some (.slice A0_2 l0_2.length c0_2) := bc BK195.out 2; have hcz16_3 : w15.cell? ⟨gb195, 3, none⟩ = some (.int .i64 a0_3) := bc BK195.out 3; have hcz16_4 : w15.cell? ⟨gb195, 4, none⟩ = some (.int .i64 a0_4) := bc BK195.out 4; have hcz16_5 : w15.cell? ⟨gb195, 5, none⟩ = some (.bool a0_5) := bc BK195.out 5; have hcz16_6 : w15.cell? ⟨gb195, 6, none⟩ = some (.int .i64 a0_6) := bc BK195.out 6; have hcz17_0 : w15.cell? ⟨gb196, 0, none⟩ = some (.int .i64 a1_0) := bc BK196.out 0; have hcz17_1 : w15.cell? ⟨gb196, 1, none⟩ = some (.int .i64 a1_1) := bc BK196.out 1; have hcz17_2 : w15.cell? ⟨gb196, 2, none⟩ = some (.slice A1_2 l1_2.length c1_2) := bc BK196.out 2; have hcz17_3 : w15.cell? ⟨gb196, 3, none⟩ = some (.int .i64 a1_3) := bc BK196.out 3; have hcz17_4 : w15.cell? ⟨gb196, 4, none⟩ = some (.int .i64 a1_4) := bc BK196.out 4; have hcz17_5 : w15.cell? ⟨gb196, 5, none⟩ = some (.bool a1_5) := bc BK196.out 5; have hcz17_6 : w15.cell? ⟨gb196, 6, none⟩ = some (.int .i64 a1_6) := bc BK196.out 6))
       go_ret
       exact ⟨by first | rfl | (simp [errW_none, errW_some] <;> rfl) | (simp [*, errW_none, errW_some] <;> rfl), by repeat (first | (with_reducible first | exact HB.out | apply below_alloc | apply pw_below_drewN | apply below_drew1 | refine below_set ?_ GE195.out | refine below_set ?_ GE196.out) | exact HB.out)⟩
      ·rw [if_neg c9] at H
       have c9b0 : (a0_5 != a1_5) = false := by simpa using c9
       (try (have c9b1 : decide (a0_5 = a1_5) = true := by simpa using c9))
       (try (have c9b2 : (a0_5 == a1_5) = true := by simpa using c9))
       clear c9
       by_cases c18 : a0_6 = a1_6
       ·rw [if_pos c18] at H
        have c18b0 : (a0_6 == a1_6) = true := beq_iff_eq.mpr c18
        have c18b1 : (a0_6 != a1_6) = false := bne_eq_false_iff_eq.mpr c18
        clear c18
        obtain rfl := Option.some.inj H
        go_enter Try.func53, Try.ntmps53
        go_wp2_with (first | ((with_reducible refine gate_dst (N := 2) rfl ?_); refine box_event ?hg (N := 2) ?hd (cs := #[.int .i64 a0_0, .int .i64 a0_1, .slice A0_2 l0_2.length c0_2, .int .i64 a0_3, .int .i64 a0_4, .bool a0_5, .int .i64 a0_6]) (t := 28) ?hr ?_; (case hd => rfl); (case hg => rfl); (case hr => first | (go_simp; done) | (go_simp; rfl)); intro gb195 hg w19 hbox hb; have BK195 := am (hbox); have GW195 := am ((by rw [hg]; exact (below_size (bl HB.out)) : w.heap.size ≤ gb195)); have GE195 := GW195; replace HB := am (below_step (bl HB.out) hb); clear hb hbox hg) | ((with_reducible refine gate_dst (N := 3) rfl ?_); refine box_event ?hg (N := 3) ?hd (cs := #[.int .i64 a1_0, .int .i64 a1_1, .slice A1_2 l1_2.length c1_2, .int .i64 a1_3, .int .i64 a1_4, .bool a1_5, .int .i64 a1_6]) (t := 28) ?hr ?_; (case hd => rfl); (case hg => rfl); (case hr => first | (go_simp; done) | (go_simp; rfl)); intro gb196 hg w20 hbox hb; have BK196 := am (hbox); have GW196 := am ((by rw [hg]; exact (below_size (bl HB.out)) : w.heap.size ≤ gb196)); have GE196 := GW196; replace HB := am (below_step (bl HB.out) hb); have NB195_196 := am ((by rw [hg]; exact Nat.ne_of_lt (blk_lt (pk BK195.out)) : gb195 ≠ gb196)); have NB196_195 := am ((by rw [hg]; exact Nat.ne_of_gt (blk_lt (pk BK195.out)) : gb196 ≠ gb195)); replace BK195 := am (blk_below (pk BK195.out) hb); clear hb hbox hg; have hnb21 := NB195_196.out; have hnc21 := NB196_195.out; have hcz22_0 : w20.cell? ⟨gb195, 0, none⟩ = some (.int .i64 a0_0) := bc BK195.out 0; have hcz22_1 : w20.cell? ⟨gb195, 1, none⟩ = some (.int .i64 a0_1) := bc BK195.out 1; have hcz22_2 : w20.cell? ⟨gb195, 2, none⟩ = some (.slice A0_2 l0_2.length c0_2) := bc BK195.out 2; have hcz22_3 : w20.cell? ⟨gb195, 3, none⟩ = some (.int .i64 a0_3) := bc BK195.out 3; have hcz22_4 : w20.cell? ⟨gb195, 4, none⟩ = some (.int .i64 a0_4) := bc BK195.out 4; have hcz22_5 : w20.cell? ⟨gb195, 5, none⟩ = some (.bool a0_5) := bc BK195.out 5; have hcz22_6 : w20.cell? ⟨gb195, 6, none⟩ = some (.int .i64 a0_6) := bc BK195.out 6; have hcz23_0 : w20.cell? ⟨gb196, 0, none⟩ = some (.int .i64 a1_0) := bc BK196.out 0; have hcz23_1 : w20.cell? ⟨gb196, 1, none⟩ = some (.int .i64 a1_1) := bc BK196.out 1; have hcz23_2 : w20.cell? ⟨gb196, 2, none⟩ = some (.slice A1_2 l1_2.length c1_2) := bc BK196.out 2; have hcz23_3 : w20.cell? ⟨gb196, 3, none⟩ = some (.int .i64 a1_3) := bc BK196.out 3; have hcz23_4 : w20.cell? ⟨gb196, 4, none⟩ = some (.int .i64 a1_4) := bc BK196.out 4; have hcz23_5 : w20.cell? ⟨gb196, 5, none⟩ = some (.bool a1_5) := bc BK196.out 5; have hcz23_6 : w20.cell? ⟨gb196, 6, none⟩ = some (.int .i64 a1_6) := bc BK196.out 6) | ((with_reducible refine gate_callee (f := 77) rfl ?_); refine gl (some 19) Try.func77 #[.slice A0_2 l0_2.length c0_2, .slice A1_2 l1_2.length c1_2] ?_; (with_reducible refine (laws_eqCellS.calls k _ _ l0_2 _ _ l1_2 true _ ?side1 ?side2 ?side3 ?side4 A5.out).mono ?_); (case side1 => repeat (first | exact (Kd.C_below HR0_2.out HB.out) | (with_reducible refine Kd.C_alloc ?_ _) | (with_reducible refine Kd.C_drewN ?_ _) | (with_reducible refine Kd.C_drew ?_))); (case side2 => exact HC0_2.out); (case side3 => repeat (first | exact (Kd.C_below HR1_2.out HB.out) | (with_reducible refine Kd.C_alloc ?_ _) | (with_reducible refine Kd.C_drewN ?_ _) | (with_reducible refine Kd.C_drew ?_))); (case side4 => exact HC1_2.out); rintro e w24 ⟨rfl, hb⟩; refine ⟨_, rfl, ?_⟩; replace BK195 := am (blk_below (pk BK195.out) hb); replace BK196 := am (blk_below (pk BK196.out) hb); replace HB := am (below_step (bl HB.out) hb); (try clear hb); (try clear hb2); (try clear hk); (try clear hi); have hcz25_0 : w24.cell? ⟨gb195, 0, none⟩ = some (.int .i64 a0_0) := bc BK195.out 0; have hcz25_1 : w24.cell? ⟨gb195, 1, none⟩ = some (.int .i64 a0_1) := bc BK195.out 1; have hcz25_2 : w24.cell? ⟨gb195, 2, none⟩ = some (.slice A0_2 l0_2.length c0_2) := bc BK195.out 2; have hcz25_3 : w24.cell? ⟨gb195, 3, none⟩ = some (.int .i64 a0_3) := bc BK195.out 3; have hcz25_4 : w24.cell? ⟨gb195, 4, none⟩ = some (.int .i64 a0_4) := bc BK195.out 4; have hcz25_5 : w24.cell? ⟨gb195, 5, none⟩ = some (.bool a0_5) := bc BK195.out 5; have hcz25_6 : w24.cell? ⟨gb195, 6, none⟩ = some (.int .i64 a0_6) := bc BK195.out 6; have hcz26_0 : w24.cell? ⟨gb196, 0, none⟩ = some (.int .i64 a1_0) := bc BK196.out 0; have hcz26_1 : w24.cell? ⟨gb196, 1, none⟩ = some (.int .i64 a1_1) := bc BK196.out 1; have hcz26_2 : w24.cell? ⟨gb196, 2, none⟩ = some (.slice A1_2 l1_2.length c1_2) := bc BK196.out 2; have hcz26_3 : w24.cell? ⟨gb196, 3, none⟩ = some (.int .i64 a1_3) := bc BK196.out 3; have hcz26_4 : w24.cell? ⟨gb196, 4, none⟩ = some (.int .i64 a1_4) := bc BK196.out 4; have hcz26_5 : w24.cell? ⟨gb196, 5, none⟩ = some (.bool a1_5) := bc BK196.out 5; have hcz26_6 : w24.cell? ⟨gb196, 6, none⟩ = some (.int .i64 a1_6) := bc BK196.out 6))
        go_ret
        exact ⟨by first | rfl | (simp [errW_none, errW_some] <;> rfl) | (simp [*, errW_none, errW_some] <;> rfl), by repeat (first | (with_reducible first | exact HB.out | apply below_alloc | apply pw_below_drewN | apply below_drew1 | refine below_set ?_ GE195.out | refine below_set ?_ GE196.out) | exact HB.out)⟩
       ·rw [if_neg c18] at H
        have c18b0 : (a0_6 == a1_6) = false := beq_eq_false_iff_ne.mpr c18
        have c18b1 : (a0_6 != a1_6) = true := bne_iff_ne.mpr c18
        obtain rfl := Option.some.inj H
        go_enter Try.func53, Try.ntmps53
        go_wp2_with (first | ((with_reducible refine gate_dst (N := 2) rfl ?_); refine box_event ?hg (N := 2) ?hd (cs := #[.int .i64 a0_0, .int .i64 a0_1, .slice A0_2 l0_2.length c0_2, .int .i64 a0_3, .int .i64 a0_4, .bool a0_5, .int .i64 a0_6]) (t := 28) ?hr ?_; (case hd => rfl); (case hg => rfl); (case hr => first | (go_simp; done) | (go_simp; rfl)); intro gb195 hg w27 hbox hb; have BK195 := am (hbox); have GW195 := am ((by rw [hg]; exact (below_size (bl HB.out)) : w.heap.size ≤ gb195)); have GE195 := GW195; replace HB := am (below_step (bl HB.out) hb); clear hb hbox hg) | ((with_reducible refine gate_dst (N := 3) rfl ?_); refine box_event ?hg (N := 3) ?hd (cs := #[.int .i64 a1_0, .int .i64 a1_1, .slice A1_2 l1_2.length c1_2, .int .i64 a1_3, .int .i64 a1_4, .bool a1_5, .int .i64 a1_6]) (t := 28) ?hr ?_; (case hd => rfl); (case hg => rfl); (case hr => first | (go_simp; done) | (go_simp; rfl)); intro gb196 hg w28 hbox hb; have BK196 := am (hbox); have GW196 := am ((by rw [hg]; exact (below_size (bl HB.out)) : w.heap.size ≤ gb196)); have GE196 := GW196; replace HB := am (below_step (bl HB.out) hb); have NB195_196 := am ((by rw [hg]; exact Nat.ne_of_lt (blk_lt (pk BK195.out)) : gb195 ≠ gb196)); have NB196_195 := am ((by rw [hg]; exact Nat.ne_of_gt (blk_lt (pk BK195.out)) : gb196 ≠ gb195)); replace BK195 := am (blk_below (pk BK195.out) hb); clear hb hbox hg; have hnb29 := NB195_196.out; have hnc29 := NB196_195.out; have hcz30_0 : w28.cell? ⟨gb195, 0, none⟩ = some (.int .i64 a0_0) := bc BK195.out 0; have hcz30_1 : w28.cell? ⟨gb195, 1, none⟩ = some (.int .i64 a0_1) := bc BK195.out 1; have hcz30_2 : w28.cell? ⟨gb195, 2, none⟩ = some (.slice A0_2 l0_2.length c0_2) := bc BK195.out 2; have hcz30_3 : w28.cell? ⟨gb195, 3, none⟩ = some (.int .i64 a0_3) := bc BK195.out 3; have hcz30_4 : w28.cell? ⟨gb195, 4, none⟩ = some (.int .i64 a0_4) := bc BK195.out 4; have hcz30_5 : w28.cell? ⟨gb195, 5, none⟩ = some (.bool a0_5) := bc BK195.out 5; have hcz30_6 : w28.cell? ⟨gb195, 6, none⟩ = some (.int .i64 a0_6) := bc BK195.out 6; have hcz31_0 : w28.cell? ⟨gb196, 0, none⟩ = some (.int .i64 a1_0) := bc BK196.out 0; have hcz31_1 : w28.cell? ⟨gb196, 1, none⟩ = some (.int .i64 a1_1) := bc BK196.out 1; have hcz31_2 : w28.cell? ⟨gb196, 2, none⟩ = some (.slice A1_2 l1_2.length c1_2) := bc BK196.out 2; have hcz31_3 : w28.cell? ⟨gb196, 3, none⟩ = some (.int .i64 a1_3) := bc BK196.out 3; have hcz31_4 : w28.cell? ⟨gb196, 4, none⟩ = some (.int .i64 a1_4) := bc BK196.out 4; have hcz31_5 : w28.cell? ⟨gb196, 5, none⟩ = some (.bool a1_5) := bc BK196.out 5; have hcz31_6 : w28.cell? ⟨gb196, 6, none⟩ = some (.int .i64 a1_6) := bc BK196.out 6) | ((with_reducible refine gate_callee (f := 77) rfl ?_); refine gl (some 19) Try.func77 #[.slice A0_2 l0_2.length c0_2, .slice A1_2 l1_2.length c1_2] ?_; (with_reducible refine (laws_eqCellS.calls k _ _ l0_2 _ _ l1_2 true _ ?side1 ?side2 ?side3 ?side4 A5.out).mono ?_); (case side1 => repeat (first | exact (Kd.C_below HR0_2.out HB.out) | (with_reducible refine Kd.C_alloc ?_ _) | (with_reducible refine Kd.C_drewN ?_ _) | (with_reducible refine Kd.C_drew ?_))); (case side2 => exact HC0_2.out); (case side3 => repeat (first | exact (Kd.C_below HR1_2.out HB.out) | (with_reducible refine Kd.C_alloc ?_ _) | (with_reducible refine Kd.C_drewN ?_ _) | (with_reducible refine Kd.C_drew ?_))); (case side4 => exact HC1_2.out); rintro e w32 ⟨rfl, hb⟩; refine ⟨_, rfl, ?_⟩; replace BK195 := am (blk_below (pk BK195.out) hb); replace BK196 := am (blk_below (pk BK196.out) hb); replace HB := am (below_step (bl HB.out) hb); (try clear hb); (try clear hb2); (try clear hk); (try clear hi); have hcz33_0 : w32.cell? ⟨gb195, 0, none⟩ = some (.int .i64 a0_0) := bc BK195.out 0; have hcz33_1 : w32.cell? ⟨gb195, 1, none⟩ = some (.int .i64 a0_1) := bc BK195.out 1; have hcz33_2 : w32.cell? ⟨gb195, 2, none⟩ = some (.slice A0_2 l0_2.length c0_2) := bc BK195.out 2; have hcz33_3 : w32.cell? ⟨gb195, 3, none⟩ = some (.int .i64 a0_3) := bc BK195.out 3; have hcz33_4 : w32.cell? ⟨gb195, 4, none⟩ = some (.int .i64 a0_4) := bc BK195.out 4; have hcz33_5 : w32.cell? ⟨gb195, 5, none⟩ = some (.bool a0_5) := bc BK195.out 5; have hcz33_6 : w32.cell? ⟨gb195, 6, none⟩ = some (.int .i64 a0_6) := bc BK195.out 6; have hcz34_0 : w32.cell? ⟨gb196, 0, none⟩ = some (.int .i64 a1_0) := bc BK196.out 0; have hcz34_1 : w32.cell? ⟨gb196, 1, none⟩ = some (.int .i64 a1_1) := bc BK196.out 1; have hcz34_2 : w32.cell? ⟨gb196, 2, none⟩ = some (.slice A1_2 l1_2.length c1_2) := bc BK196.out 2; have hcz34_3 : w32.cell? ⟨gb196, 3, none⟩ = some (.int .i64 a1_3) := bc BK196.out 3; have hcz34_4 : w32.cell? ⟨gb196, 4, none⟩ = some (.int .i64 a1_4) := bc BK196.out 4; have hcz34_5 : w32.cell? ⟨gb196, 5, none⟩ = some (.bool a1_5) := bc BK196.out 5; have hcz34_6 : w32.cell? ⟨gb196, 6, none⟩ = some (.int .i64 a1_6) := bc BK196.out 6))
        go_ret
        exact ⟨by first | rfl | (simp [errW_none, errW_some] <;> rfl) | (simp [*, errW_none, errW_some] <;> rfl), by repeat (first | (with_reducible first | exact HB.out | apply below_alloc | apply pw_below_drewN | apply below_drew1 | refine below_set ?_ GE195.out | refine below_set ?_ GE196.out) | exact HB.out)⟩
     ·rw [if_neg c8] at H
      have c8b0 : (a0_4 == a1_4) = false := beq_eq_false_iff_ne.mpr c8
      have c8b1 : (a0_4 != a1_4) = true := bne_iff_ne.mpr c8
      obtain rfl := Option.some.inj H
      go_enter Try.func53, Try.ntmps53
      go_wp2_with (first | ((with_reducible refine gate_dst (N := 2) rfl ?_); refine box_event ?hg (N := 2) ?hd (cs := #[.int .i64 a0_0, .int .i64 a0_1, .slice A0_2 l0_2.length c0_2, .int .i64 a0_3, .int .i64 a0_4, .bool a0_5, .int .i64 a0_6]) (t := 28) ?hr ?_; (case hd => rfl); (case hg => rfl); (case hr => first | (go_simp; done) | (go_simp; rfl)); intro gb195 hg w35 hbox hb; have BK195 := am (hbox); have GW195 := am ((by rw [hg]; exact (below_size (bl HB.out)) : w.heap.size ≤ gb195)); have GE195 := GW195; replace HB := am (below_step (bl HB.out) hb); clear hb hbox hg) | ((with_reducible refine gate_dst (N := 3) rfl ?_); refine box_event ?hg (N := 3) ?hd (cs := #[.int .i64 a1_0, .int .i64 a1_1, .slice A1_2 l1_2.length c1_2, .int .i64 a1_3, .int .i64 a1_4, .bool a1_5, .int .i64 a1_6]) (t := 28) ?hr ?_; (case hd => rfl); (case hg => rfl); (case hr => first | (go_simp; done) | (go_simp; rfl)); intro gb196 hg w36 hbox hb; have BK196 := am (hbox); have GW196 := am ((by rw [hg]; exact (below_size (bl HB.out)) : w.heap.size ≤ gb196)); have GE196 := GW196; replace HB := am (below_step (bl HB.out) hb); have NB195_196 := am ((by rw [hg]; exact Nat.ne_of_lt (blk_lt (pk BK195.out)) : gb195 ≠ gb196)); have NB196_195 := am ((by rw [hg]; exact Nat.ne_of_gt (blk_lt (pk BK195.out)) : gb196 ≠ gb195)); replace BK195 := am (blk_below (pk BK195.out) hb); clear hb hbox hg; have hnb37 := NB195_196.out; have hnc37 := NB196_195.out; have hcz38_0 : w36.cell? ⟨gb195, 0, none⟩ = some (.int .i64 a0_0) := bc BK195.out 0; have hcz38_1 : w36.cell? ⟨gb195, 1, none⟩ = some (.int .i64 a0_1) := bc BK195.out 1; have hcz38_2 : w36.cell? ⟨gb195, 2, none⟩ = some (.slice A0_2 l0_2.length c0_2) := bc BK195.out 2; have hcz38_3 : w36.cell? ⟨gb195, 3, none⟩ = some (.int .i64 a0_3) := bc BK195.out 3; have hcz38_4 : w36.cell? ⟨gb195, 4, none⟩ = some (.int .i64 a0_4) := bc BK195.out 4; have hcz38_5 : w36.cell? ⟨gb195, 5, none⟩ = some (.bool a0_5) := bc BK195.out 5; have hcz38_6 : w36.cell? ⟨gb195, 6, none⟩ = some (.int .i64 a0_6) := bc BK195.out 6; have hcz39_0 : w36.cell? ⟨gb196, 0, none⟩ = some (.int .i64 a1_0) := bc BK196.out 0; have hcz39_1 : w36.cell? ⟨gb196, 1, none⟩ = some (.int .i64 a1_1) := bc BK196.out 1; have hcz39_2 : w36.cell? ⟨gb196, 2, none⟩ = some (.slice A1_2 l1_2.length c1_2) := bc BK196.out 2; have hcz39_3 : w36.cell? ⟨gb196, 3, none⟩ = some (.int .i64 a1_3) := bc BK196.out 3; have hcz39_4 : w36.cell? ⟨gb196, 4, none⟩ = some (.int .i64 a1_4) := bc BK196.out 4; have hcz39_5 : w36.cell? ⟨gb196, 5, none⟩ = some (.bool a1_5) := bc BK196.out 5; have hcz39_6 : w36.cell? ⟨gb196, 6, none⟩ = some (.int .i64 a1_6) := bc BK196.out 6) | ((with_reducible refine gate_callee (f := 77) rfl ?_); refine gl (some 19) Try.func77 #[.slice A0_2 l0_2.length c0_2, .slice A1_2 l1_2.length c1_2] ?_; (with_reducible refine (laws_eqCellS.calls k _ _ l0_2 _ _ l1_2 true _ ?side1 ?side2 ?side3 ?side4 A5.out).mono ?_); (case side1 => repeat (first | exact (Kd.C_below HR0_2.out HB.out) | (with_reducible refine Kd.C_alloc ?_ _) | (with_reducible refine Kd.C_drewN ?_ _) | (with_reducible refine Kd.C_drew ?_))); (case side2 => exact HC0_2.out); (case side3 => repeat (first | exact (Kd.C_below HR1_2.out HB.out) | (with_reducible refine Kd.C_alloc ?_ _) | (with_reducible refine Kd.C_drewN ?_ _) | (with_reducible refine Kd.C_drew ?_))); (case side4 => exact HC1_2.out); rintro e w40 ⟨rfl, hb⟩; refine ⟨_, rfl, ?_⟩; replace BK195 := am (blk_below (pk BK195.out) hb); replace BK196 := am (blk_below (pk BK196.out) hb); replace HB := am (below_step (bl HB.out) hb); (try clear hb); (try clear hb2); (try clear hk); (try clear hi); have hcz41_0 : w40.cell? ⟨gb195, 0, none⟩ = some (.int .i64 a0_0) := bc BK195.out 0; have hcz41_1 : w40.cell? ⟨gb195, 1, none⟩ = some (.int .i64 a0_1) := bc BK195.out 1; have hcz41_2 : w40.cell? ⟨gb195, 2, none⟩ = some (.slice A0_2 l0_2.length c0_2) := bc BK195.out 2; have hcz41_3 : w40.cell? ⟨gb195, 3, none⟩ = some (.int .i64 a0_3) := bc BK195.out 3; have hcz41_4 : w40.cell? ⟨gb195, 4, none⟩ = some (.int .i64 a0_4) := bc BK195.out 4; have hcz41_5 : w40.cell? ⟨gb195, 5, none⟩ = some (.bool a0_5) := bc BK195.out 5; have hcz41_6 : w40.cell? ⟨gb195, 6, none⟩ = some (.int .i64 a0_6) := bc BK195.out 6; have hcz42_0 : w40.cell? ⟨gb196, 0, none⟩ = some (.int .i64 a1_0) := bc BK196.out 0; have hcz42_1 : w40.cell? ⟨gb196, 1, none⟩ = some (.int .i64 a1_1) := bc BK196.out 1; have hcz42_2 : w40.cell? ⟨gb196, 2, none⟩ = some (.slice A1_2 l1_2.length c1_2) := bc BK196.out 2; have hcz42_3 : w40.cell? ⟨gb196, 3, none⟩ = some (.int .i64 a1_3) := bc BK196.out 3; have hcz42_4 : w40.cell? ⟨gb196, 4, none⟩ = some (.int .i64 a1_4) := bc BK196.out 4; have hcz42_5 : w40.cell? ⟨gb196, 5, none⟩ = some (.bool a1_5) := bc BK196.out 5; have hcz42_6 : w40.cell? ⟨gb196, 6, none⟩ = some (.int .i64 a1_6) := bc BK196.out 6))
      go_ret
      exact ⟨by first | rfl | (simp [errW_none, errW_some] <;> rfl) | (simp [*, errW_none, errW_some] <;> rfl), by repeat (first | (with_reducible first | exact HB.out | apply below_alloc | apply pw_below_drewN | apply below_drew1 | refine below_set ?_ GE195.out | refine below_set ?_ GE196.out) | exact HB.out)⟩
    ·rw [if_neg c7] at H
     have c7b0 : (a0_3 == a1_3) = false := beq_eq_false_iff_ne.mpr c7
     have c7b1 : (a0_3 != a1_3) = true := bne_iff_ne.mpr c7
     obtain rfl := Option.some.inj H
     go_enter Try.func53, Try.ntmps53
     go_wp2_with (first | ((with_reducible refine gate_dst (N := 2) rfl ?_); refine box_event ?hg (N := 2) ?hd (cs := #[.int .i64 a0_0, .int .i64 a0_1, .slice A0_2 l0_2.length c0_2, .int .i64 a0_3, .int .i64 a0_4, .bool a0_5, .int .i64 a0_6]) (t := 28) ?hr ?_; (case hd => rfl); (case hg => rfl); (case hr => first | (go_simp; done) | (go_simp; rfl)); intro gb195 hg w43 hbox hb; have BK195 := am (hbox); have GW195 := am ((by rw [hg]; exact (below_size (bl HB.out)) : w.heap.size ≤ gb195)); have GE195 := GW195; replace HB := am (below_step (bl HB.out) hb); clear hb hbox hg) | ((with_reducible refine gate_dst (N := 3) rfl ?_); refine box_event ?hg (N := 3) ?hd (cs := #[.int .i64 a1_0, .int .i64 a1_1, .slice A1_2 l1_2.length c1_2, .int .i64 a1_3, .int .i64 a1_4, .bool a1_5, .int .i64 a1_6]) (t := 28) ?hr ?_; (case hd => rfl); (case hg => rfl); (case hr => first | (go_simp; done) | (go_simp; rfl)); intro gb196 hg w44 hbox hb; have BK196 := am (hbox); have GW196 := am ((by rw [hg]; exact (below_size (bl HB.out)) : w.heap.size ≤ gb196)); have GE196 := GW196; replace HB := am (below_step (bl HB.out) hb); have NB195_196 := am ((by rw [hg]; exact Nat.ne_of_lt (blk_lt (pk BK195.out)) : gb195 ≠ gb196)); have NB196_195 := am ((by rw [hg]; exact Nat.ne_of_gt (blk_lt (pk BK195.out)) : gb196 ≠ gb195)); replace BK195 := am (blk_below (pk BK195.out) hb); clear hb hbox hg; have hnb45 := NB195_196.out; have hnc45 := NB196_195.out; have hcz46_0 : w44.cell? ⟨gb195, 0, none⟩ = some (.int .i64 a0_0) := bc BK195.out 0; have hcz46_1 : w44.cell? ⟨gb195, 1, none⟩ = some (.int .i64 a0_1) := bc BK195.out 1; have hcz46_2 : w44.cell? ⟨gb195, 2, none⟩ = some (.slice A0_2 l0_2.length c0_2) := bc BK195.out 2; have hcz46_3 : w44.cell? ⟨gb195, 3, none⟩ = some (.int .i64 a0_3) := bc BK195.out 3; have hcz46_4 : w44.cell? ⟨gb195, 4, none⟩ = some (.int .i64 a0_4) := bc BK195.out 4; have hcz46_5 : w44.cell? ⟨gb195, 5, none⟩ = some (.bool a0_5) := bc BK195.out 5; have hcz46_6 : w44.cell? ⟨gb195, 6, none⟩ = some (.int .i64 a0_6) := bc BK195.out 6; have hcz47_0 : w44.cell? ⟨gb196, 0, none⟩ = some (.int .i64 a1_0) := bc BK196.out 0; have hcz47_1 : w44.cell? ⟨gb196, 1, none⟩ = some (.int .i64 a1_1) := bc BK196.out 1; have hcz47_2 : w44.cell? ⟨gb196, 2, none⟩ = some (.slice A1_2 l1_2.length c1_2) := bc BK196.out 2; have hcz47_3 : w44.cell? ⟨gb196, 3, none⟩ = some (.int .i64 a1_3) := bc BK196.out 3; have hcz47_4 : w44.cell? ⟨gb196, 4, none⟩ = some (.int .i64 a1_4) := bc BK196.out 4; have hcz47_5 : w44.cell? ⟨gb196, 5, none⟩ = some (.bool a1_5) := bc BK196.out 5; have hcz47_6 : w44.cell? ⟨gb196, 6, none⟩ = some (.int .i64 a1_6) := bc BK196.out 6) | ((with_reducible refine gate_callee (f := 77) rfl ?_); refine gl (some 19) Try.func77 #[.slice A0_2 l0_2.length c0_2, .slice A1_2 l1_2.length c1_2] ?_; (with_reducible refine (laws_eqCellS.calls k _ _ l0_2 _ _ l1_2 true _ ?side1 ?side2 ?side3 ?side4 A5.out).mono ?_); (case side1 => repeat (first | exact (Kd.C_below HR0_2.out HB.out) | (with_reducible refine Kd.C_alloc ?_ _) | (with_reducible refine Kd.C_drewN ?_ _) | (with_reducible refine Kd.C_drew ?_))); (case side2 => exact HC0_2.out); (case side3 => repeat (first | exact (Kd.C_below HR1_2.out HB.out) | (with_reducible refine Kd.C_alloc ?_ _) | (with_reducible refine Kd.C_drewN ?_ _) | (with_reducible refine Kd.C_drew ?_))); (case side4 => exact HC1_2.out); rintro e w48 ⟨rfl, hb⟩; refine ⟨_, rfl, ?_⟩; replace BK195 := am (blk_below (pk BK195.out) hb); replace BK196 := am (blk_below (pk BK196.out) hb); replace HB := am (below_step (bl HB.out) hb); (try clear hb); (try clear hb2); (try clear hk); (try clear hi); have hcz49_0 : w48.cell? ⟨gb195, 0, none⟩ = some (.int .i64 a0_0) := bc BK195.out 0; have hcz49_1 : w48.cell? ⟨gb195, 1, none⟩ = some (.int .i64 a0_1) := bc BK195.out 1; have hcz49_2 : w48.cell? ⟨gb195, 2, none⟩ = some (.slice A0_2 l0_2.length c0_2) := bc BK195.out 2; have hcz49_3 : w48.cell? ⟨gb195, 3, none⟩ = some (.int .i64 a0_3) := bc BK195.out 3; have hcz49_4 : w48.cell? ⟨gb195, 4, none⟩ = some (.int .i64 a0_4) := bc BK195.out 4; have hcz49_5 : w48.cell? ⟨gb195, 5, none⟩ = some (.bool a0_5) := bc BK195.out 5; have hcz49_6 : w48.cell? ⟨gb195, 6, none⟩ = some (.int .i64 a0_6) := bc BK195.out 6; have hcz50_0 : w48.cell? ⟨gb196, 0, none⟩ = some (.int .i64 a1_0) := bc BK196.out 0; have hcz50_1 : w48.cell? ⟨gb196, 1, none⟩ = some (.int .i64 a1_1) := bc BK196.out 1; have hcz50_2 : w48.cell? ⟨gb196, 2, none⟩ = some (.slice A1_2 l1_2.length c1_2) := bc BK196.out 2; have hcz50_3 : w48.cell? ⟨gb196, 3, none⟩ = some (.int .i64 a1_3) := bc BK196.out 3; have hcz50_4 : w48.cell? ⟨gb196, 4, none⟩ = some (.int .i64 a1_4) := bc BK196.out 4; have hcz50_5 : w48.cell? ⟨gb196, 5, none⟩ = some (.bool a1_5) := bc BK196.out 5; have hcz50_6 : w48.cell? ⟨gb196, 6, none⟩ = some (.int .i64 a1_6) := bc BK196.out 6))
     go_ret
     exact ⟨by first | rfl | (simp [errW_none, errW_some] <;> rfl) | (simp [*, errW_none, errW_some] <;> rfl), by repeat (first | (with_reducible first | exact HB.out | apply below_alloc | apply pw_below_drewN | apply below_drew1 | refine below_set ?_ GE195.out | refine below_set ?_ GE196.out) | exact HB.out)⟩
   ·replace c6 := Bool.eq_false_iff.mpr c6
    subst c6
    have H1 : (some false) = some r := by rw [if_neg (show ¬ (false = true) by decide)] at H; exact H
    clear H
    have H := H1
    clear H1
    obtain rfl := Option.some.inj H
    go_enter Try.func53, Try.ntmps53
    go_wp2_with (first | ((with_reducible refine gate_dst (N := 2) rfl ?_); refine box_event ?hg (N := 2) ?hd (cs := #[.int .i64 a0_0, .int .i64 a0_1, .slice A0_2 l0_2.length c0_2, .int .i64 a0_3, .int .i64 a0_4, .bool a0_5, .int .i64 a0_6]) (t := 28) ?hr ?_; (case hd => rfl); (case hg => rfl); (case hr => first | (go_simp; done) | (go_simp; rfl)); intro gb195 hg w51 hbox hb; have BK195 := am (hbox); have GW195 := am ((by rw [hg]; exact (below_size (bl HB.out)) : w.heap.size ≤ gb195)); have GE195 := GW195; replace HB := am (below_step (bl HB.out) hb); clear hb hbox hg) | ((with_reducible refine gate_dst (N := 3) rfl ?_); refine box_event ?hg (N := 3) ?hd (cs := #[.int .i64 a1_0, .int .i64 a1_1, .slice A1_2 l1_2.length c1_2, .int .i64 a1_3, .int .i64 a1_4, .bool a1_5, .int .i64 a1_6]) (t := 28) ?hr ?_; (case hd => rfl); (case hg => rfl); (case hr => first | (go_simp; done) | (go_simp; rfl)); intro gb196 hg w52 hbox hb; have BK196 := am (hbox); have GW196 := am ((by rw [hg]; exact (below_size (bl HB.out)) : w.heap.size ≤ gb196)); have GE196 := GW196; replace HB := am (below_step (bl HB.out) hb); have NB195_196 := am ((by rw [hg]; exact Nat.ne_of_lt (blk_lt (pk BK195.out)) : gb195 ≠ gb196)); have NB196_195 := am ((by rw [hg]; exact Nat.ne_of_gt (blk_lt (pk BK195.out)) : gb196 ≠ gb195)); replace BK195 := am (blk_below (pk BK195.out) hb); clear hb hbox hg; have hnb53 := NB195_196.out; have hnc53 := NB196_195.out; have hcz54_0 : w52.cell? ⟨gb195, 0, none⟩ = some (.int .i64 a0_0) := bc BK195.out 0; have hcz54_1 : w52.cell? ⟨gb195, 1, none⟩ = some (.int .i64 a0_1) := bc BK195.out 1; have hcz54_2 : w52.cell? ⟨gb195, 2, none⟩ = some (.slice A0_2 l0_2.length c0_2) := bc BK195.out 2; have hcz54_3 : w52.cell? ⟨gb195, 3, none⟩ = some (.int .i64 a0_3) := bc BK195.out 3; have hcz54_4 : w52.cell? ⟨gb195, 4, none⟩ = some (.int .i64 a0_4) := bc BK195.out 4; have hcz54_5 : w52.cell? ⟨gb195, 5, none⟩ = some (.bool a0_5) := bc BK195.out 5; have hcz54_6 : w52.cell? ⟨gb195, 6, none⟩ = some (.int .i64 a0_6) := bc BK195.out 6; have hcz55_0 : w52.cell? ⟨gb196, 0, none⟩ = some (.int .i64 a1_0) := bc BK196.out 0; have hcz55_1 : w52.cell? ⟨gb196, 1, none⟩ = some (.int .i64 a1_1) := bc BK196.out 1; have hcz55_2 : w52.cell? ⟨gb196, 2, none⟩ = some (.slice A1_2 l1_2.length c1_2) := bc BK196.out 2; have hcz55_3 : w52.cell? ⟨gb196, 3, none⟩ = some (.int .i64 a1_3) := bc BK196.out 3; have hcz55_4 : w52.cell? ⟨gb196, 4, none⟩ = some (.int .i64 a1_4) := bc BK196.out 4; have hcz55_5 : w52.cell? ⟨gb196, 5, none⟩ = some (.bool a1_5) := bc BK196.out 5; have hcz55_6 : w52.cell? ⟨gb196, 6, none⟩ = some (.int .i64 a1_6) := bc BK196.out 6) | ((with_reducible refine gate_callee (f := 77) rfl ?_); refine gl (some 19) Try.func77 #[.slice A0_2 l0_2.length c0_2, .slice A1_2 l1_2.length c1_2] ?_; (with_reducible refine (laws_eqCellS.calls k _ _ l0_2 _ _ l1_2 false _ ?side1 ?side2 ?side3 ?side4 A5.out).mono ?_); (case side1 => repeat (first | exact (Kd.C_below HR0_2.out HB.out) | (with_reducible refine Kd.C_alloc ?_ _) | (with_reducible refine Kd.C_drewN ?_ _) | (with_reducible refine Kd.C_drew ?_))); (case side2 => exact HC0_2.out); (case side3 => repeat (first | exact (Kd.C_below HR1_2.out HB.out) | (with_reducible refine Kd.C_alloc ?_ _) | (with_reducible refine Kd.C_drewN ?_ _) | (with_reducible refine Kd.C_drew ?_))); (case side4 => exact HC1_2.out); rintro e w56 ⟨rfl, hb⟩; refine ⟨_, rfl, ?_⟩; replace BK195 := am (blk_below (pk BK195.out) hb); replace BK196 := am (blk_below (pk BK196.out) hb); replace HB := am (below_step (bl HB.out) hb); (try clear hb); (try clear hb2); (try clear hk); (try clear hi)))
    go_ret
    exact ⟨by first | rfl | (simp [errW_none, errW_some] <;> rfl) | (simp [*, errW_none, errW_some] <;> rfl), by repeat (first | (with_reducible first | exact HB.out | apply below_alloc | apply pw_below_drewN | apply below_drew1 | refine below_set ?_ GE195.out | refine below_set ?_ GE196.out) | exact HB.out)⟩
  ·rw [if_neg c4] at H
   have c4b0 : (a0_1 == a1_1) = false := beq_eq_false_iff_ne.mpr c4
   have c4b1 : (a0_1 != a1_1) = true := bne_iff_ne.mpr c4
   obtain rfl := Option.some.inj H
   go_enter Try.func53, Try.ntmps53
   go_wp2_with (first | ((with_reducible refine gate_dst (N := 2) rfl ?_); refine box_event ?hg (N := 2) ?hd (cs := #[.int .i64 a0_0, .int .i64 a0_1, .slice A0_2 l0_2.length c0_2, .int .i64 a0_3, .int .i64 a0_4, .bool a0_5, .int .i64 a0_6]) (t := 28) ?hr ?_; (case hd => rfl); (case hg => rfl); (case hr => first | (go_simp; done) | (go_simp; rfl)); intro gb195 hg w57 hbox hb; have BK195 := am (hbox); have GW195 := am ((by rw [hg]; exact (below_size (bl HB.out)) : w.heap.size ≤ gb195)); have GE195 := GW195; replace HB := am (below_step (bl HB.out) hb); clear hb hbox hg) | ((with_reducible refine gate_dst (N := 3) rfl ?_); refine box_event ?hg (N := 3) ?hd (cs := #[.int .i64 a1_0, .int .i64 a1_1, .slice A1_2 l1_2.length c1_2, .int .i64 a1_3, .int .i64 a1_4, .bool a1_5, .int .i64 a1_6]) (t := 28) ?hr ?_; (case hd => rfl); (case hg => rfl); (case hr => first | (go_simp; done) | (go_simp; rfl)); intro gb196 hg w58 hbox hb; have BK196 := am (hbox); have GW196 := am ((by rw [hg]; exact (below_size (bl HB.out)) : w.heap.size ≤ gb196)); have GE196 := GW196; replace HB := am (below_step (bl HB.out) hb); have NB195_196 := am ((by rw [hg]; exact Nat.ne_of_lt (blk_lt (pk BK195.out)) : gb195 ≠ gb196)); have NB196_195 := am ((by rw [hg]; exact Nat.ne_of_gt (blk_lt (pk BK195.out)) : gb196 ≠ gb195)); replace BK195 := am (blk_below (pk BK195.out) hb); clear hb hbox hg; have hnb59 := NB195_196.out; have hnc59 := NB196_195.out; have hcz60_0 : w58.cell? ⟨gb195, 0, none⟩ = some (.int .i64 a0_0) := bc BK195.out 0; have hcz60_1 : w58.cell? ⟨gb195, 1, none⟩ = some (.int .i64 a0_1) := bc BK195.out 1; have hcz60_2 : w58.cell? ⟨gb195, 2, none⟩ = some (.slice A0_2 l0_2.length c0_2) := bc BK195.out 2; have hcz60_3 : w58.cell? ⟨gb195, 3, none⟩ = some (.int .i64 a0_3) := bc BK195.out 3; have hcz60_4 : w58.cell? ⟨gb195, 4, none⟩ = some (.int .i64 a0_4) := bc BK195.out 4; have hcz60_5 : w58.cell? ⟨gb195, 5, none⟩ = some (.bool a0_5) := bc BK195.out 5; have hcz60_6 : w58.cell? ⟨gb195, 6, none⟩ = some (.int .i64 a0_6) := bc BK195.out 6; have hcz61_0 : w58.cell? ⟨gb196, 0, none⟩ = some (.int .i64 a1_0) := bc BK196.out 0; have hcz61_1 : w58.cell? ⟨gb196, 1, none⟩ = some (.int .i64 a1_1) := bc BK196.out 1; have hcz61_2 : w58.cell? ⟨gb196, 2, none⟩ = some (.slice A1_2 l1_2.length c1_2) := bc BK196.out 2; have hcz61_3 : w58.cell? ⟨gb196, 3, none⟩ = some (.int .i64 a1_3) := bc BK196.out 3; have hcz61_4 : w58.cell? ⟨gb196, 4, none⟩ = some (.int .i64 a1_4) := bc BK196.out 4; have hcz61_5 : w58.cell? ⟨gb196, 5, none⟩ = some (.bool a1_5) := bc BK196.out 5; have hcz61_6 : w58.cell? ⟨gb196, 6, none⟩ = some (.int .i64 a1_6) := bc BK196.out 6))
   go_ret
   exact ⟨by first | rfl | (simp [errW_none, errW_some] <;> rfl) | (simp [*, errW_none, errW_some] <;> rfl), by repeat (first | (with_reducible first | exact HB.out | apply below_alloc | apply pw_below_drewN | apply below_drew1 | refine below_set ?_ GE195.out | refine below_set ?_ GE196.out) | exact HB.out)⟩
 ·rw [if_neg c3] at H
  have c3b0 : (a0_0 == a1_0) = false := beq_eq_false_iff_ne.mpr c3
  have c3b1 : (a0_0 != a1_0) = true := bne_iff_ne.mpr c3
  obtain rfl := Option.some.inj H
  go_enter Try.func53, Try.ntmps53
  go_wp2_with (first | ((with_reducible refine gate_dst (N := 2) rfl ?_); refine box_event ?hg (N := 2) ?hd (cs := #[.int .i64 a0_0, .int .i64 a0_1, .slice A0_2 l0_2.length c0_2, .int .i64 a0_3, .int .i64 a0_4, .bool a0_5, .int .i64 a0_6]) (t := 28) ?hr ?_; (case hd => rfl); (case hg => rfl); (case hr => first | (go_simp; done) | (go_simp; rfl)); intro gb195 hg w62 hbox hb; have BK195 := am (hbox); have GW195 := am ((by rw [hg]; exact (below_size (bl HB.out)) : w.heap.size ≤ gb195)); have GE195 := GW195; replace HB := am (below_step (bl HB.out) hb); clear hb hbox hg) | ((with_reducible refine gate_dst (N := 3) rfl ?_); refine box_event ?hg (N := 3) ?hd (cs := #[.int .i64 a1_0, .int .i64 a1_1, .slice A1_2 l1_2.length c1_2, .int .i64 a1_3, .int .i64 a1_4, .bool a1_5, .int .i64 a1_6]) (t := 28) ?hr ?_; (case hd => rfl); (case hg => rfl); (case hr => first | (go_simp; done) | (go_simp; rfl)); intro gb196 hg w63 hbox hb; have BK196 := am (hbox); have GW196 := am ((by rw [hg]; exact (below_size (bl HB.out)) : w.heap.size ≤ gb196)); have GE196 := GW196; replace HB := am (below_step (bl HB.out) hb); have NB195_196 := am ((by rw [hg]; exact Nat.ne_of_lt (blk_lt (pk BK195.out)) : gb195 ≠ gb196)); have NB196_195 := am ((by rw [hg]; exact Nat.ne_of_gt (blk_lt (pk BK195.out)) : gb196 ≠ gb195)); replace BK195 := am (blk_below (pk BK195.out) hb); clear hb hbox hg; have hnb64 := NB195_196.out; have hnc64 := NB196_195.out; have hcz65_0 : w63.cell? ⟨gb195, 0, none⟩ = some (.int .i64 a0_0) := bc BK195.out 0; have hcz65_1 : w63.cell? ⟨gb195, 1, none⟩ = some (.int .i64 a0_1) := bc BK195.out 1; have hcz65_2 : w63.cell? ⟨gb195, 2, none⟩ = some (.slice A0_2 l0_2.length c0_2) := bc BK195.out 2; have hcz65_3 : w63.cell? ⟨gb195, 3, none⟩ = some (.int .i64 a0_3) := bc BK195.out 3; have hcz65_4 : w63.cell? ⟨gb195, 4, none⟩ = some (.int .i64 a0_4) := bc BK195.out 4; have hcz65_5 : w63.cell? ⟨gb195, 5, none⟩ = some (.bool a0_5) := bc BK195.out 5; have hcz65_6 : w63.cell? ⟨gb195, 6, none⟩ = some (.int .i64 a0_6) := bc BK195.out 6; have hcz66_0 : w63.cell? ⟨gb196, 0, none⟩ = some (.int .i64 a1_0) := bc BK196.out 0; have hcz66_1 : w63.cell? ⟨gb196, 1, none⟩ = some (.int .i64 a1_1) := bc BK196.out 1; have hcz66_2 : w63.cell? ⟨gb196, 2, none⟩ = some (.slice A1_2 l1_2.length c1_2) := bc BK196.out 2; have hcz66_3 : w63.cell? ⟨gb196, 3, none⟩ = some (.int .i64 a1_3) := bc BK196.out 3; have hcz66_4 : w63.cell? ⟨gb196, 4, none⟩ = some (.int .i64 a1_4) := bc BK196.out 4; have hcz66_5 : w63.cell? ⟨gb196, 5, none⟩ = some (.bool a1_5) := bc BK196.out 5; have hcz66_6 : w63.cell? ⟨gb196, 6, none⟩ = some (.int .i64 a1_6) := bc BK196.out 6))
  go_ret
  exact ⟨by first | rfl | (simp [errW_none, errW_some] <;> rfl) | (simp [*, errW_none, errW_some] <;> rfl), by repeat (first | (with_reducible first | exact HB.out | apply below_alloc | apply pw_below_drewN | apply below_drew1 | refine below_set ?_ GE195.out | refine below_set ?_ GE196.out) | exact HB.out)⟩

/-! ### laws_eqView: function 14 -/
def laws_eqView.f (k : Nat) (a0_0 : Int) (a0_1 : Int) (l0_2 : List (S75)) (a0_3 : Int) (a0_4 : Int) (a0_5 : Bool) (a0_6 : Int) (a0_7 : Int) (a0_8 : Int) (a1_0 : Int) (a1_1 : Int) (l1_2 : List (S75)) (a1_3 : Int) (a1_4 : Int) (a1_5 : Bool) (a1_6 : Int) (a1_7 : Int) (a1_8 : Int) : Option (Bool) := (laws_eqGrid.f k a0_0 a0_1 l0_2 a0_3 a0_4 a0_5 a0_6 a1_0 a1_1 l1_2 a1_3 a1_4 a1_5 a1_6).bind fun t200 => (if t200 = true then (if a0_7 = a1_7 then (if a0_8 = a1_8 then (some true) else (some false)) else (some false)) else (some false))
theorem laws_eqView.mono : ∀ a0 a1 a2 a3 a4 a5 a6 a7 a8 a9 a10 a11 a12 a13 a14 a15 a16 a17 k, LeO (laws_eqView.f k a0 a1 a2 a3 a4 a5 a6 a7 a8 a9 a10 a11 a12 a13 a14 a15 a16 a17) (laws_eqView.f (k + 1) a0 a1 a2 a3 a4 a5 a6 a7 a8 a9 a10 a11 a12 a13 a14 a15 a16 a17) := by
 intro a0 a1 a2 a3 a4 a5 a6 a7 a8 a9 a10 a11 a12 a13 a14 a15 a16 a17 k
 unfold laws_eqView.f
 repeat' first
   | (with_reducible exact laws_eqGrid.mono _ _ _ _ _ _ _ _ _ _ _ _ _ _ _)
   | (with_reducible exact LeO.refl _)
   | (with_reducible exact LeO.none _)
   | (with_reducible refine LeO.ite ?_ ?_)
   | (with_reducible refine LeO.bind ?_ (fun _ => ?_))
   | exact laws_eqGrid.mono _ _ _ _ _ _ _ _ _ _ _ _ _ _ _
   | refine LeO.bind ?_ (fun _ => ?_)
theorem laws_eqView.calls (k : Nat) (a0_0 : Int) (a0_1 : Int) (A0_2 : Option Addr) (c0_2 : Nat) (l0_2 : List (S75)) (a0_3 : Int) (a0_4 : Int) (a0_5 : Bool) (a0_6 : Int) (a0_7 : Int) (a0_8 : Int) (a1_0 : Int) (a1_1 : Int) (A1_2 : Option Addr) (c1_2 : Nat) (l1_2 : List (S75)) (a1_3 : Int) (a1_4 : Int) (a1_5 : Bool) (a1_6 : Int) (a1_7 : Int) (a1_8 : Int) (r : Bool) (w : World) (hr0_2 : Kd.C k75 w A0_2 l0_2.length l0_2) (hc0_2 : l0_2.length ≤ c0_2) (hr1_2 : Kd.C k75 w A1_2 l1_2.length l1_2) (hc1_2 : l1_2.length ≤ c1_2) (h : laws_eqView.f k a0_0 a0_1 l0_2 a0_3 a0_4 a0_5 a0_6 a0_7 a0_8 a1_0 a1_1 l1_2 a1_3 a1_4 a1_5 a1_6 a1_7 a1_8 = some r) :
  Calls Try.prog 14 #[.agg #[.int .i64 a0_0, .int .i64 a0_1, .slice A0_2 l0_2.length c0_2, .int .i64 a0_3, .int .i64 a0_4, .bool a0_5, .int .i64 a0_6, .int .i64 a0_7, .int .i64 a0_8], .agg #[.int .i64 a1_0, .int .i64 a1_1, .slice A1_2 l1_2.length c1_2, .int .i64 a1_3, .int .i64 a1_4, .bool a1_5, .int .i64 a1_6, .int .i64 a1_7, .int .i64 a1_8]] w fun e w' => e = .returned (.bool r) ∧ Below w.heap.size w w' := by
 have hu30 := Try.underlying30
 have hu28 := Try.underlying28
 have HR0_2 := am hr0_2
 have HC0_2 := am hc0_2
 clear hr0_2 hc0_2
 have HR1_2 := am hr1_2
 have HC1_2 := am hc1_2
 clear hr1_2 hc1_2
 have HB := am (Below.refl w.heap.size w)
 have H : ((laws_eqGrid.f k a0_0 a0_1 l0_2 a0_3 a0_4 a0_5 a0_6 a1_0 a1_1 l1_2 a1_3 a1_4 a1_5 a1_6).bind fun t200 => (if t200 = true then (if a0_7 = a1_7 then (if a0_8 = a1_8 then (some true) else (some false)) else (some false)) else (some false))) = some r := h
 clear h
 replace H := Option.bind_eq_some_iff.mp H
 obtain ⟨t200, A30, H⟩ := H
 replace H : (if t200 = true then (if a0_7 = a1_7 then (if a0_8 = a1_8 then (some true) else (some false)) else (some false)) else (some false)) = some r := H
 have A3 := Aside0.mk A30
 clear A30
 by_cases c4 : t200 = true
 ·subst c4
  have H1 : (if a0_7 = a1_7 then (if a0_8 = a1_8 then (some true) else (some false)) else (some false)) = some r := by rw [if_pos rfl] at H; exact H
  clear H
  have H := H1
  clear H1
  by_cases c5 : a0_7 = a1_7
  ·rw [if_pos c5] at H
   have c5b0 : (a0_7 == a1_7) = true := beq_iff_eq.mpr c5
   have c5b1 : (a0_7 != a1_7) = false := bne_eq_false_iff_eq.mpr c5
   clear c5
   by_cases c6 : a0_8 = a1_8
   ·rw [if_pos c6] at H
    have c6b0 : (a0_8 == a1_8) = true := beq_iff_eq.mpr c6
    have c6b1 : (a0_8 != a1_8) = false := bne_eq_false_iff_eq.mpr c6
    clear c6
    obtain rfl := Option.some.inj H
    go_enter Try.func14, Try.ntmps14
    go_wp2_with (first | ((with_reducible refine gate_dst (N := 2) rfl ?_); refine box_event ?hg (N := 2) ?hd (cs := #[.int .i64 a0_0, .int .i64 a0_1, .slice A0_2 l0_2.length c0_2, .int .i64 a0_3, .int .i64 a0_4, .bool a0_5, .int .i64 a0_6, .int .i64 a0_7, .int .i64 a0_8]) (t := 30) ?hr ?_; (case hd => rfl); (case hg => rfl); (case hr => first | (go_simp; done) | (go_simp; rfl)); intro gb198 hg w7 hbox hb; have BK198 := am (hbox); have GW198 := am ((by rw [hg]; exact (below_size (bl HB.out)) : w.heap.size ≤ gb198)); have GE198 := GW198; replace HB := am (below_step (bl HB.out) hb); clear hb hbox hg) | ((with_reducible refine gate_dst (N := 3) rfl ?_); refine box_event ?hg (N := 3) ?hd (cs := #[.int .i64 a1_0, .int .i64 a1_1, .slice A1_2 l1_2.length c1_2, .int .i64 a1_3, .int .i64 a1_4, .bool a1_5, .int .i64 a1_6, .int .i64 a1_7, .int .i64 a1_8]) (t := 30) ?hr ?_; (case hd => rfl); (case hg => rfl); (case hr => first | (go_simp; done) | (go_simp; rfl)); intro gb199 hg w8 hbox hb; have BK199 := am (hbox); have GW199 := am ((by rw [hg]; exact (below_size (bl HB.out)) : w.heap.size ≤ gb199)); have GE199 := GW199; replace HB := am (below_step (bl HB.out) hb); have NB198_199 := am ((by rw [hg]; exact Nat.ne_of_lt (blk_lt (pk BK198.out)) : gb198 ≠ gb199)); have NB199_198 := am ((by rw [hg]; exact Nat.ne_of_gt (blk_lt (pk BK198.out)) : gb199 ≠ gb198)); replace BK198 := am (blk_below (pk BK198.out) hb); clear hb hbox hg; have hnb9 := NB198_199.out; have hnc9 := NB199_198.out; have hcz10_0 : w8.cell? ⟨gb198, 0, none⟩ = some (.int .i64 a0_0) := bc BK198.out 0; have hcz10_1 : w8.cell? ⟨gb198, 1, none⟩ = some (.int .i64 a0_1) := bc BK198.out 1; have hcz10_2 : w8.cell? ⟨gb198, 2, none⟩ = some (.slice A0_2 l0_2.length c0_2) := bc BK198.out 2; have hcz10_3 : w8.cell? ⟨gb198, 3, none⟩ = some (.int .i64 a0_3) := bc BK198.out 3; have hcz10_4 : w8.cell? ⟨gb198, 4, none⟩ = some (.int .i64 a0_4) := bc BK198.out 4; have hcz10_5 : w8.cell? ⟨gb198, 5, none⟩ = some (.bool a0_5) := bc BK198.out 5; have hcz10_6 : w8.cell? ⟨gb198, 6, none⟩ = some (.int .i64 a0_6) := bc BK198.out 6; have hcz10_7 : w8.cell? ⟨gb198, 7, none⟩ = some (.int .i64 a0_7) := bc BK198.out 7; have hcz10_8 : w8.cell? ⟨gb198, 8, none⟩ = some (.int .i64 a0_8) := bc BK198.out 8; have hcz11_0 : w8.cell? ⟨gb199, 0, none⟩ = some (.int .i64 a1_0) := bc BK199.out 0; have hcz11_1 : w8.cell? ⟨gb199, 1, none⟩ = some (.int .i64 a1_1) := bc BK199.out 1; have hcz11_2 : w8.cell? ⟨gb199, 2, none⟩ = some (.slice A1_2 l1_2.length c1_2) := bc BK199.out 2; have hcz11_3 : w8.cell? ⟨gb199, 3, none⟩ = some (.int .i64 a1_3) := bc BK199.out 3; have hcz11_4 : w8.cell? ⟨gb199, 4, none⟩ = some (.int .i64 a1_4) := bc BK199.out 4; have hcz11_5 : w8.cell? ⟨gb199, 5, none⟩ = some (.bool a1_5) := bc BK199.out 5; have hcz11_6 : w8.cell? ⟨gb199, 6, none⟩ = some (.int .i64 a1_6) := bc BK199.out 6; have hcz11_7 : w8.cell? ⟨gb199, 7, none⟩ = some (.int .i64 a1_7) := bc BK199.out 7; have hcz11_8 : w8.cell? ⟨gb199, 8, none⟩ = some (.int .i64 a1_8) := bc BK199.out 8) | ((with_reducible refine gate_callee (f := 53) rfl ?_); refine gl (some 9) Try.func53 #[.agg #[.int .i64 a0_0, .int .i64 a0_1, .slice A0_2 l0_2.length c0_2, .int .i64 a0_3, .int .i64 a0_4, .bool a0_5, .int .i64 a0_6], .agg #[.int .i64 a1_0, .int .i64 a1_1, .slice A1_2 l1_2.length c1_2, .int .i64 a1_3, .int .i64 a1_4, .bool a1_5, .int .i64 a1_6]] ?_; (with_reducible refine (laws_eqGrid.calls k a0_0 a0_1 _ _ l0_2 a0_3 a0_4 a0_5 a0_6 a1_0 a1_1 _ _ l1_2 a1_3 a1_4 a1_5 a1_6 true _ ?side1 ?side2 ?side3 ?side4 A3.out).mono ?_); (case side1 => repeat (first | exact (Kd.C_below HR0_2.out HB.out) | (with_reducible refine Kd.C_alloc ?_ _) | (with_reducible refine Kd.C_drewN ?_ _) | (with_reducible refine Kd.C_drew ?_))); (case side2 => exact HC0_2.out); (case side3 => repeat (first | exact (Kd.C_below HR1_2.out HB.out) | (with_reducible refine Kd.C_alloc ?_ _) | (with_reducible refine Kd.C_drewN ?_ _) | (with_reducible refine Kd.C_drew ?_))); (case side4 => exact HC1_2.out); rintro e w12 ⟨rfl, hb⟩; refine ⟨_, rfl, ?_⟩; replace BK198 := am (blk_below (pk BK198.out) hb); replace BK199 := am (blk_below (pk BK199.out) hb); replace HB := am (below_step (bl HB.out) hb); (try clear hb); (try clear hb2); (try clear hk); (try clear hi); have hcz13_0 : w12.cell? ⟨gb198, 0, none⟩ = some (.int .i64 a0_0) := bc BK198.out 0; have hcz13_1 : w12.cell? ⟨gb198, 1, none⟩ = some (.int .i64 a0_1) := bc BK198.out 1; have hcz13_2 : w12.cell? ⟨gb198, 2, none⟩ = some (.slice A0_2 l0_2.length c0_2) := bc BK198.out 2; have hcz13_3 : w12.cell? ⟨gb198, 3, none⟩ = some (.int .i64 a0_3) := bc BK198.out 3; have hcz13_4 : w12.cell? ⟨gb198, 4, none⟩ = some (.int .i64 a0_4) := bc BK198.out 4; have hcz13_5 : w12.cell? ⟨gb198, 5, none⟩ = some (.bool a0_5) := bc BK198.out 5; have hcz13_6 : w12.cell? ⟨gb198, 6, none⟩ = some (.int .i64 a0_6) := bc BK198.out 6; have hcz13_7 : w12.cell? ⟨gb198, 7, none⟩ = some (.int .i64 a0_7) := bc BK198.out 7; have hcz13_8 : w12.cell? ⟨gb198, 8, none⟩ = some (.int .i64 a0_8) := bc BK198.out 8; have hcz14_0 : w12.cell? ⟨gb199, 0, none⟩ = some (.int .i64 a1_0) := bc BK199.out 0; have hcz14_1 : w12.cell? ⟨gb199, 1, none⟩ = some (.int .i64 a1_1) := bc BK199.out 1; have hcz14_2 : w12.cell? ⟨gb199, 2, none⟩ = some (.slice A1_2 l1_2.length c1_2) := bc BK199.out 2; have hcz14_3 : w12.cell? ⟨gb199, 3, none⟩ = some (.int .i64 a1_3) := bc BK199.out 3; have hcz14_4 : w12.cell? ⟨gb199, 4, none⟩ = some (.int .i64 a1_4) := bc BK199.out 4; have hcz14_5 : w12.cell? ⟨gb199, 5, none⟩ = some (.bool a1_5) := bc BK199.out 5; have hcz14_6 : w12.cell? ⟨gb199, 6, none⟩ = some (.int .i64 a1_6) := bc BK199.out 6; have hcz14_7 : w12.cell? ⟨gb199, 7, none⟩ = some (.int .i64 a1_7) := bc BK199.out 7; have hcz14_8 : w12.cell? ⟨gb199, 8, none⟩ = some (.int .i64 a1_8) := bc BK199.out 8))
    go_ret
    exact ⟨by first | rfl | (simp [errW_none, errW_some] <;> rfl) | (simp [*, errW_none, errW_some] <;> rfl), by repeat (first | (with_reducible first | exact HB.out | apply below_alloc | apply pw_below_drewN | apply below_drew1 | refine below_set ?_ GE198.out | refine below_set ?_ GE199.out) | exact HB.out)⟩
   ·rw [if_neg c6] at H
    have c6b0 : (a0_8 == a1_8) = false := beq_eq_false_iff_ne.mpr c6
    have c6b1 : (a0_8 != a1_8) = true := bne_iff_ne.mpr c6
    obtain rfl := Option.some.inj H
    go_enter Try.func14, Try.ntmps14
    go_wp2_with (first | ((with_reducible refine gate_dst (N := 2) rfl ?_); refine box_event ?hg (N := 2) ?hd (cs := #[.int .i64 a0_0, .int .i64 a0_1, .slice A0_2 l0_2.length c0_2, .int .i64 a0_3, .int .i64 a0_4, .bool a0_5, .int .i64 a0_6, .int .i64 a0_7, .int .i64 a0_8]) (t := 30) ?hr ?_; (case hd => rfl); (case hg => rfl); (case hr => first | (go_simp; done) | (go_simp; rfl)); intro gb198 hg w15 hbox hb; have BK198 := am (hbox); have GW198 := am ((by rw [hg]; exact (below_size (bl HB.out)) : w.heap.size ≤ gb198)); have GE198 := GW198; replace HB := am (below_step (bl HB.out) hb); clear hb hbox hg) | ((with_reducible refine gate_dst (N := 3) rfl ?_); refine box_event ?hg (N := 3) ?hd (cs := #[.int .i64 a1_0, .int .i64 a1_1, .slice A1_2 l1_2.length c1_2, .int .i64 a1_3, .int .i64 a1_4, .bool a1_5, .int .i64 a1_6, .int .i64 a1_7, .int .i64 a1_8]) (t := 30) ?hr ?_; (case hd => rfl); (case hg => rfl); (case hr => first | (go_simp; done) | (go_simp; rfl)); intro gb199 hg w16 hbox hb; have BK199 := am (hbox); have GW199 := am ((by rw [hg]; exact (below_size (bl HB.out)) : w.heap.size ≤ gb199)); have GE199 := GW199; replace HB := am (below_step (bl HB.out) hb); have NB198_199 := am ((by rw [hg]; exact Nat.ne_of_lt (blk_lt (pk BK198.out)) : gb198 ≠ gb199)); have NB199_198 := am ((by rw [hg]; exact Nat.ne_of_gt (blk_lt (pk BK198.out)) : gb199 ≠ gb198)); replace BK198 := am (blk_below (pk BK198.out) hb); clear hb hbox hg; have hnb17 := NB198_199.out; have hnc17 := NB199_198.out; have hcz18_0 : w16.cell? ⟨gb198, 0, none⟩ = some (.int .i64 a0_0) := bc BK198.out 0; have hcz18_1 : w16.cell? ⟨gb198, 1, none⟩ = some (.int .i64 a0_1) := bc BK198.out 1; have hcz18_2 : w16.cell? ⟨gb198, 2, none⟩ = some (.slice A0_2 l0_2.length c0_2) := bc BK198.out 2; have hcz18_3 : w16.cell? ⟨gb198, 3, none⟩ = some (.int .i64 a0_3) := bc BK198.out 3; have hcz18_4 : w16.cell? ⟨gb198, 4, none⟩ = some (.int .i64 a0_4) := bc BK198.out 4; have hcz18_5 : w16.cell? ⟨gb198, 5, none⟩ = some (.bool a0_5) := bc BK198.out 5; have hcz18_6 : w16.cell? ⟨gb198, 6, none⟩ = some (.int .i64 a0_6) := bc BK198.out 6; have hcz18_7 : w16.cell? ⟨gb198, 7, none⟩ = some (.int .i64 a0_7) := bc BK198.out 7; have hcz18_8 : w16.cell? ⟨gb198, 8, none⟩ = some (.int .i64 a0_8) := bc BK198.out 8; have hcz19_0 : w16.cell? ⟨gb199, 0, none⟩ = some (.int .i64 a1_0) := bc BK199.out 0; have hcz19_1 : w16.cell? ⟨gb199, 1, none⟩ = some (.int .i64 a1_1) := bc BK199.out 1; have hcz19_2 : w16.cell? ⟨gb199, 2, none⟩ = some (.slice A1_2 l1_2.length c1_2) := bc BK199.out 2; have hcz19_3 : w16.cell? ⟨gb199, 3, none⟩ = some (.int .i64 a1_3) := bc BK199.out 3; have hcz19_4 : w16.cell? ⟨gb199, 4, none⟩ = some (.int .i64 a1_4) := bc BK199.out 4; have hcz19_5 : w16.cell? ⟨gb199, 5, none⟩ = some (.bool a1_5) := bc BK199.out 5; have hcz19_6 : w16.cell? ⟨gb199, 6, none⟩ = some (.int .i64 a1_6) := bc BK199.out 6; have hcz19_7 : w16.cell? ⟨gb199, 7, none⟩ = some (.int .i64 a1_7) := bc BK199.out 7; have hcz19_8 : w16.cell? ⟨gb199, 8, none⟩ = some (.int .i64 a1_8) := bc BK199.out 8) | ((with_reducible refine gate_callee (f := 53) rfl ?_); refine gl (some 9) Try.func53 #[.agg #[.int .i64 a0_0, .int .i64 a0_1, .slice A0_2 l0_2.length c0_2, .int .i64 a0_3, .int .i64 a0_4, .bool a0_5, .int .i64 a0_6], .agg #[.int .i64 a1_0, .int .i64 a1_1, .slice A1_2 l1_2.length c1_2, .int .i64 a1_3, .int .i64 a1_4, .bool a1_5, .int .i64 a1_6]] ?_; (with_reducible refine (laws_eqGrid.calls k a0_0 a0_1 _ _ l0_2 a0_3 a0_4 a0_5 a0_6 a1_0 a1_1 _ _ l1_2 a1_3 a1_4 a1_5 a1_6 true _ ?side1 ?side2 ?side3 ?side4 A3.out).mono ?_); (case side1 => repeat (first | exact (Kd.C_below HR0_2.out HB.out) | (with_reducible refine Kd.C_alloc ?_ _) | (with_reducible refine Kd.C_drewN ?_ _) | (with_reducible refine Kd.C_drew ?_))); (case side2 => exact HC0_2.out); (case side3 => repeat (first | exact (Kd.C_below HR1_2.out HB.out) | (with_reducible refine Kd.C_alloc ?_ _) | (with_reducible refine Kd.C_drewN ?_ _) | (with_reducible refine Kd.C_drew ?_))); (case side4 => exact HC1_2.out); rintro e w20 ⟨rfl, hb⟩; refine ⟨_, rfl, ?_⟩; replace BK198 := am (blk_below (pk BK198.out) hb); replace BK199 := am (blk_below (pk BK199.out) hb); replace HB := am (below_step (bl HB.out) hb); (try clear hb); (try clear hb2); (try clear hk); (try clear hi); have hcz21_0 : w20.cell? ⟨gb198, 0, none⟩ = some (.int .i64 a0_0) := bc BK198.out 0; have hcz21_1 : w20.cell? ⟨gb198, 1, none⟩ = some (.int .i64 a0_1) := bc BK198.out 1; have hcz21_2 : w20.cell? ⟨gb198, 2, none⟩ = some (.slice A0_2 l0_2.length c0_2) := bc BK198.out 2; have hcz21_3 : w20.cell? ⟨gb198, 3, none⟩ = some (.int .i64 a0_3) := bc BK198.out 3; have hcz21_4 : w20.cell? ⟨gb198, 4, none⟩ = some (.int .i64 a0_4) := bc BK198.out 4; have hcz21_5 : w20.cell? ⟨gb198, 5, none⟩ = some (.bool a0_5) := bc BK198.out 5; have hcz21_6 : w20.cell? ⟨gb198, 6, none⟩ = some (.int .i64 a0_6) := bc BK198.out 6; have hcz21_7 : w20.cell? ⟨gb198, 7, none⟩ = some (.int .i64 a0_7) := bc BK198.out 7; have hcz21_8 : w20.cell? ⟨gb198, 8, none⟩ = some (.int .i64 a0_8) := bc BK198.out 8; have hcz22_0 : w20.cell? ⟨gb199, 0, none⟩ = some (.int .i64 a1_0) := bc BK199.out 0; have hcz22_1 : w20.cell? ⟨gb199, 1, none⟩ = some (.int .i64 a1_1) := bc BK199.out 1; have hcz22_2 : w20.cell? ⟨gb199, 2, none⟩ = some (.slice A1_2 l1_2.length c1_2) := bc BK199.out 2; have hcz22_3 : w20.cell? ⟨gb199, 3, none⟩ = some (.int .i64 a1_3) := bc BK199.out 3; have hcz22_4 : w20.cell? ⟨gb199, 4, none⟩ = some (.int .i64 a1_4) := bc BK199.out 4; have hcz22_5 : w20.cell? ⟨gb199, 5, none⟩ = some (.bool a1_5) := bc BK199.out 5; have hcz22_6 : w20.cell? ⟨gb199, 6, none⟩ = some (.int .i64 a1_6) := bc BK199.out 6; have hcz22_7 : w20.cell? ⟨gb199, 7, none⟩ = some (.int .i64 a1_7) := bc BK199.out 7; have hcz22_8 : w20.cell? ⟨gb199, 8, none⟩ = some (.int .i64 a1_8) := bc BK199.out 8))
    go_ret
    exact ⟨by first | rfl | (simp [errW_none, errW_some] <;> rfl) | (simp [*, errW_none, errW_some] <;> rfl), by repeat (first | (with_reducible first | exact HB.out | apply below_alloc | apply pw_below_drewN | apply below_drew1 | refine below_set ?_ GE198.out | refine below_set ?_ GE199.out) | exact HB.out)⟩
  ·rw [if_neg c5] at H
   have c5b0 : (a0_7 == a1_7) = false := beq_eq_false_iff_ne.mpr c5
   have c5b1 : (a0_7 != a1_7) = true := bne_iff_ne.mpr c5
   obtain rfl := Option.some.inj H
   go_enter Try.func14, Try.ntmps14
   go_wp2_with (first | ((with_reducible refine gate_dst (N := 2) rfl ?_); refine box_event ?hg (N := 2) ?hd (cs := #[.int .i64 a0_0, .int .i64 a0_1, .slice A0_2 l0_2.length c0_2, .int .i64 a0_3, .int .i64 a0_4, .bool a0_5, .int .i64 a0_6, .int .i64 a0_7, .int .i64 a0_8]) (t := 30) ?hr ?_; (case hd => rfl); (case hg => rfl); (case hr => first | (go_simp; done) | (go_simp; rfl)); intro gb198 hg w23 hbox hb; have BK198 := am (hbox); have GW198 := am ((by rw [hg]; exact (below_size (bl HB.out)) : w.heap.size ≤ gb198)); have GE198 := GW198; replace HB := am (below_step (bl HB.out) hb); clear hb hbox hg) | ((with_reducible refine gate_dst (N := 3) rfl ?_); refine box_event ?hg (N := 3) ?hd (cs := #[.int .i64 a1_0, .int .i64 a1_1, .slice A1_2 l1_2.length c1_2, .int .i64 a1_3, .int .i64 a1_4, .bool a1_5, .int .i64 a1_6, .int .i64 a1_7, .int .i64 a1_8]) (t := 30) ?hr ?_; (case hd => rfl); (case hg => rfl); (case hr => first | (go_simp; done) | (go_simp; rfl)); intro gb199 hg w24 hbox hb; have BK199 := am (hbox); have GW199 := am ((by rw [hg]; exact (below_size (bl HB.out)) : w.heap.size ≤ gb199)); have GE199 := GW199; replace HB := am (below_step (bl HB.out) hb); have NB198_199 := am ((by rw [hg]; exact Nat.ne_of_lt (blk_lt (pk BK198.out)) : gb198 ≠ gb199)); have NB199_198 := am ((by rw [hg]; exact Nat.ne_of_gt (blk_lt (pk BK198.out)) : gb199 ≠ gb198)); replace BK198 := am (blk_below (pk BK198.out) hb); clear hb hbox hg; have hnb25 := NB198_199.out; have hnc25 := NB199_198.out; have hcz26_0 : w24.cell? ⟨gb198, 0, none⟩ = some (.int .i64 a0_0) := bc BK198.out 0; have hcz26_1 : w24.cell? ⟨gb198, 1, none⟩ = some (.int .i64 a0_1) := bc BK198.out 1; have hcz26_2 : w24.cell? ⟨gb198, 2, none⟩ = some (.slice A0_2 l0_2.length c0_2) := bc BK198.out 2; have hcz26_3 : w24.cell? ⟨gb198, 3, none⟩ = some (.int .i64 a0_3) := bc BK198.out 3; have hcz26_4 : w24.cell? ⟨gb198, 4, none⟩ = some (.int .i64 a0_4) := bc BK198.out 4; have hcz26_5 : w24.cell? ⟨gb198, 5, none⟩ = some (.bool a0_5) := bc BK198.out 5; have hcz26_6 : w24.cell? ⟨gb198, 6, none⟩ = some (.int .i64 a0_6) := bc BK198.out 6; have hcz26_7 : w24.cell? ⟨gb198, 7, none⟩ = some (.int .i64 a0_7) := bc BK198.out 7; have hcz26_8 : w24.cell? ⟨gb198, 8, none⟩ = some (.int .i64 a0_8) := bc BK198.out 8; have hcz27_0 : w24.cell? ⟨gb199, 0, none⟩ = some (.int .i64 a1_0) := bc BK199.out 0; have hcz27_1 : w24.cell? ⟨gb199, 1, none⟩ = some (.int .i64 a1_1) := bc BK199.out 1; have hcz27_2 : w24.cell? ⟨gb199, 2, none⟩ = some (.slice A1_2 l1_2.length c1_2) := bc BK199.out 2; have hcz27_3 : w24.cell? ⟨gb199, 3, none⟩ = some (.int .i64 a1_3) := bc BK199.out 3; have hcz27_4 : w24.cell? ⟨gb199, 4, none⟩ = some (.int .i64 a1_4) := bc BK199.out 4; have hcz27_5 : w24.cell? ⟨gb199, 5, none⟩ = some (.bool a1_5) := bc BK199.out 5; have hcz27_6 : w24.cell? ⟨gb199, 6, none⟩ = some (.int .i64 a1_6) := bc BK199.out 6; have hcz27_7 : w24.cell? ⟨gb199, 7, none⟩ = some (.int .i64 a1_7) := bc BK199.out 7; have hcz27_8 : w24.cell? ⟨gb199, 8, none⟩ = some (.int .i64 a1_8) := bc BK199.out 8) | ((with_reducible refine gate_callee (f := 53) rfl ?_); refine gl (some 9) Try.func53 #[.agg #[.int .i64 a0_0, .int .i64 a0_1, .slice A0_2 l0_2.length c0_2, .int .i64 a0_3, .int .i64 a0_4, .bool a0_5, .int .i64 a0_6], .agg #[.int .i64 a1_0, .int .i64 a1_1, .slice A1_2 l1_2.length c1_2, .int .i64 a1_3, .int .i64 a1_4, .bool a1_5, .int .i64 a1_6]] ?_; (with_reducible refine (laws_eqGrid.calls k a0_0 a0_1 _ _ l0_2 a0_3 a0_4 a0_5 a0_6 a1_0 a1_1 _ _ l1_2 a1_3 a1_4 a1_5 a1_6 true _ ?side1 ?side2 ?side3 ?side4 A3.out).mono ?_); (case side1 => repeat (first | exact (Kd.C_below HR0_2.out HB.out) | (with_reducible refine Kd.C_alloc ?_ _) | (with_reducible refine Kd.C_drewN ?_ _) | (with_reducible refine Kd.C_drew ?_))); (case side2 => exact HC0_2.out); (case side3 => repeat (first | exact (Kd.C_below HR1_2.out HB.out) | (with_reducible refine Kd.C_alloc ?_ _) | (with_reducible refine Kd.C_drewN ?_ _) | (with_reducible refine Kd.C_drew ?_))); (case side4 => exact HC1_2.out); rintro e w28 ⟨rfl, hb⟩; refine ⟨_, rfl, ?_⟩; replace BK198 := am (blk_below (pk BK198.out) hb); replace BK199 := am (blk_below (pk BK199.out) hb); replace HB := am (below_step (bl HB.out) hb); (try clear hb); (try clear hb2); (try clear hk); (try clear hi); have hcz29_0 : w28.cell? ⟨gb198, 0, none⟩ = some (.int .i64 a0_0) := bc BK198.out 0; have hcz29_1 : w28.cell? ⟨gb198, 1, none⟩ = some (.int .i64 a0_1) := bc BK198.out 1; have hcz29_2 : w28.cell? ⟨gb198, 2, none⟩ = some (.slice A0_2 l0_2.length c0_2) := bc BK198.out 2; have hcz29_3 : w28.cell? ⟨gb198, 3, none⟩ = some (.int .i64 a0_3) := bc BK198.out 3; have hcz29_4 : w28.cell? ⟨gb198, 4, none⟩ = some (.int .i64 a0_4) := bc BK198.out 4; have hcz29_5 : w28.cell? ⟨gb198, 5, none⟩ = some (.bool a0_5) := bc BK198.out 5; have hcz29_6 : w28.cell? ⟨gb198, 6, none⟩ = some (.int .i64 a0_6) := bc BK198.out 6; have hcz29_7 : w28.cell? ⟨gb198, 7, none⟩ = some (.int .i64 a0_7) := bc BK198.out 7; have hcz29_8 : w28.cell? ⟨gb198, 8, none⟩ = some (.int .i64 a0_8) := bc BK198.out 8; have hcz30_0 : w28.cell? ⟨gb199, 0, none⟩ = some (.int .i64 a1_0) := bc BK199.out 0; have hcz30_1 : w28.cell? ⟨gb199, 1, none⟩ = some (.int .i64 a1_1) := bc BK199.out 1; have hcz30_2 : w28.cell? ⟨gb199, 2, none⟩ = some (.slice A1_2 l1_2.length c1_2) := bc BK199.out 2; have hcz30_3 : w28.cell? ⟨gb199, 3, none⟩ = some (.int .i64 a1_3) := bc BK199.out 3; have hcz30_4 : w28.cell? ⟨gb199, 4, none⟩ = some (.int .i64 a1_4) := bc BK199.out 4; have hcz30_5 : w28.cell? ⟨gb199, 5, none⟩ = some (.bool a1_5) := bc BK199.out 5; have hcz30_6 : w28.cell? ⟨gb199, 6, none⟩ = some (.int .i64 a1_6) := bc BK199.out 6; have hcz30_7 : w28.cell? ⟨gb199, 7, none⟩ = some (.int .i64 a1_7) := bc BK199.out 7; have hcz30_8 : w28.cell? ⟨gb199, 8, none⟩ = some (.int .i64 a1_8) := bc BK199.out 8))
   go_ret
   exact ⟨by first | rfl | (simp [errW_none, errW_some] <;> rfl) | (simp [*, errW_none, errW_some] <;> rfl), by repeat (first | (with_reducible first | exact HB.out | apply below_alloc | apply pw_below_drewN | apply below_drew1 | refine below_set ?_ GE198.out | refine below_set ?_ GE199.out) | exact HB.out)⟩
 ·replace c4 := Bool.eq_false_iff.mpr c4
  subst c4
  have H1 : (some false) = some r := by rw [if_neg (show ¬ (false = true) by decide)] at H; exact H
  clear H
  have H := H1
  clear H1
  obtain rfl := Option.some.inj H
  go_enter Try.func14, Try.ntmps14
  go_wp2_with (first | ((with_reducible refine gate_dst (N := 2) rfl ?_); refine box_event ?hg (N := 2) ?hd (cs := #[.int .i64 a0_0, .int .i64 a0_1, .slice A0_2 l0_2.length c0_2, .int .i64 a0_3, .int .i64 a0_4, .bool a0_5, .int .i64 a0_6, .int .i64 a0_7, .int .i64 a0_8]) (t := 30) ?hr ?_; (case hd => rfl); (case hg => rfl); (case hr => first | (go_simp; done) | (go_simp; rfl)); intro gb198 hg w31 hbox hb; have BK198 := am (hbox); have GW198 := am ((by rw [hg]; exact (below_size (bl HB.out)) : w.heap.size ≤ gb198)); have GE198 := GW198; replace HB := am (below_step (bl HB.out) hb); clear hb hbox hg) | ((with_reducible refine gate_dst (N := 3) rfl ?_); refine box_event ?hg (N := 3) ?hd (cs := #[.int .i64 a1_0, .int .i64 a1_1, .slice A1_2 l1_2.length c1_2, .int .i64 a1_3, .int .i64 a1_4, .bool a1_5, .int .i64 a1_6, .int .i64 a1_7, .int .i64 a1_8]) (t := 30) ?hr ?_; (case hd => rfl); (case hg => rfl); (case hr => first | (go_simp; done) | (go_simp; rfl)); intro gb199 hg w32 hbox hb; have BK199 := am (hbox); have GW199 := am ((by rw [hg]; exact (below_size (bl HB.out)) : w.heap.size ≤ gb199)); have GE199 := GW199; replace HB := am (below_step (bl HB.out) hb); have NB198_199 := am ((by rw [hg]; exact Nat.ne_of_lt (blk_lt (pk BK198.out)) : gb198 ≠ gb199)); have NB199_198 := am ((by rw [hg]; exact Nat.ne_of_gt (blk_lt (pk BK198.out)) : gb199 ≠ gb198)); replace BK198 := am (blk_below (pk BK198.out) hb); clear hb hbox hg; have hnb33 := NB198_199.out; have hnc33 := NB199_198.out; have hcz34_0 : w32.cell? ⟨gb198, 0, none⟩ = some (.int .i64 a0_0) := bc BK198.out 0; have hcz34_1 : w32.cell? ⟨gb198, 1, none⟩ = some (.int .i64 a0_1) := bc BK198.out 1; have hcz34_2 : w32.cell? ⟨gb198, 2, none⟩ = some (.slice A0_2 l0_2.length c0_2) := bc BK198.out 2; have hcz34_3 : w32.cell? ⟨gb198, 3, none⟩ = some (.int .i64 a0_3) := bc BK198.out 3; have hcz34_4 : w32.cell? ⟨gb198, 4, none⟩ = some (.int .i64 a0_4) := bc BK198.out 4; have hcz34_5 : w32.cell? ⟨gb198, 5, none⟩ = some (.bool a0_5) := bc BK198.out 5; have hcz34_6 : w32.cell? ⟨gb198, 6, none⟩ = some (.int .i64 a0_6) := bc BK198.out 6; have hcz34_7 : w32.cell? ⟨gb198, 7, none⟩ = some (.int .i64 a0_7) := bc BK198.out 7; have hcz34_8 : w32.cell? ⟨gb198, 8, none⟩ = some (.int .i64 a0_8) := bc BK198.out 8; have hcz35_0 : w32.cell? ⟨gb199, 0, none⟩ = some (.int .i64 a1_0) := bc BK199.out 0; have hcz35_1 : w32.cell? ⟨gb199, 1, none⟩ = some (.int .i64 a1_1) := bc BK199.out 1; have hcz35_2 : w32.cell? ⟨gb199, 2, none⟩ = some (.slice A1_2 l1_2.length c1_2) := bc BK199.out 2; have hcz35_3 : w32.cell? ⟨gb199, 3, none⟩ = some (.int .i64 a1_3) := bc BK199.out 3; have hcz35_4 : w32.cell? ⟨gb199, 4, none⟩ = some (.int .i64 a1_4) := bc BK199.out 4; have hcz35_5 : w32.cell? ⟨gb199, 5, none⟩ = some (.bool a1_5) := bc BK199.out 5; have hcz35_6 : w32.cell? ⟨gb199, 6, none⟩ = some (.int .i64 a1_6) := bc BK199.out 6; have hcz35_7 : w32.cell? ⟨gb199, 7, none⟩ = some (.int .i64 a1_7) := bc BK199.out 7; have hcz35_8 : w32.cell? ⟨gb199, 8, none⟩ = some (.int .i64 a1_8) := bc BK199.out 8) | ((with_reducible refine gate_callee (f := 53) rfl ?_); refine gl (some 9) Try.func53 #[.agg #[.int .i64 a0_0, .int .i64 a0_1, .slice A0_2 l0_2.length c0_2, .int .i64 a0_3, .int .i64 a0_4, .bool a0_5, .int .i64 a0_6], .agg #[.int .i64 a1_0, .int .i64 a1_1, .slice A1_2 l1_2.length c1_2, .int .i64 a1_3, .int .i64 a1_4, .bool a1_5, .int .i64 a1_6]] ?_; (with_reducible refine (laws_eqGrid.calls k a0_0 a0_1 _ _ l0_2 a0_3 a0_4 a0_5 a0_6 a1_0 a1_1 _ _ l1_2 a1_3 a1_4 a1_5 a1_6 false _ ?side1 ?side2 ?side3 ?side4 A3.out).mono ?_); (case side1 => repeat (first | exact (Kd.C_below HR0_2.out HB.out) | (with_reducible refine Kd.C_alloc ?_ _) | (with_reducible refine Kd.C_drewN ?_ _) | (with_reducible refine Kd.C_drew ?_))); (case side2 => exact HC0_2.out); (case side3 => repeat (first | exact (Kd.C_below HR1_2.out HB.out) | (with_reducible refine Kd.C_alloc ?_ _) | (with_reducible refine Kd.C_drewN ?_ _) | (with_reducible refine Kd.C_drew ?_))); (case side4 => exact HC1_2.out); rintro e w36 ⟨rfl, hb⟩; refine ⟨_, rfl, ?_⟩; replace BK198 := am (blk_below (pk BK198.out) hb); replace BK199 := am (blk_below (pk BK199.out) hb); replace HB := am (below_step (bl HB.out) hb); (try clear hb); (try clear hb2); (try clear hk); (try clear hi)))
  go_ret
  exact ⟨by first | rfl | (simp [errW_none, errW_some] <;> rfl) | (simp [*, errW_none, errW_some] <;> rfl), by repeat (first | (with_reducible first | exact HB.out | apply below_alloc | apply pw_below_drewN | apply below_drew1 | refine below_set ?_ GE198.out | refine below_set ?_ GE199.out) | exact HB.out)⟩

end Go.Proofs.Ytcjclihkaaaihaa.PFnExactViewOf
