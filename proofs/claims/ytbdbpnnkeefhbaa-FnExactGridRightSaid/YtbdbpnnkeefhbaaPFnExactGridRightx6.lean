-- Written by xprint.py (this claim's own program, over the kit's printer); Lean checks it.
import Derived.Test.YtbdbpnnkeefhbaaPFnExactGridRightx0
import Derived.Test.YtbdbpnnkeefhbaaPFnExactGridRightx5
namespace Go.Proofs.Ytbdbpnnkeefhbaa.PFnExactGridRight
open Go.RowKit Go.Proofs.YtbdbpnnkeefhbaaW.PrintWords Go.Proofs.YtbdbpnnkeefhbaaW.PrintLast Go.Proofs.YtbdbpnnkeefhbaaW.PrintMore
attribute [local go_sem] max2_int min2_int max_two min_two max_three min_three max_four min_four   -- for this text's walks alone
set_option linter.unusedVariables false
set_option linter.unusedSimpArgs false   -- squeezed

/-! ### impl_cellRight: function 85 -/
def impl_cellRight.l0 : Nat → List Int → Int → Int → List Int → Int → Option (Bool)
 | 0, _, _, _, _, _ => none
 | k + 1, x6, x7, x8, x163000, x163001 => if x8 < x7 then (if 0 ≤ x8 then (if x8 < (x6.length : Int) then ((impl_isPoint.f (rd x6 x8)).bind fun t165 => (if t165 = true then ((impl_isControl.f (rd x6 x8)).bind fun t166 => (if t166 = true then (some false) else ((impl_WidthOf.f k (rd x6 x8)).bind fun t167 => (if ((x8 == 0) != (decide (t167 > 0))) = true then (some false) else (impl_cellRight.l0 k x6 x7 (wrap64 (x8 + 1)) x163000 x163001))))) else (some false))) else (none)) else (none)) else (if (x163000.length : Int) ≤ 4 then ((impl_within.f x163001 0 3).bind fun t163 => (some t163)) else (some false))
def impl_cellRight.f (k : Nat) (l0_0 : List Int) (a0_1 : Int) : Option (Bool) := impl_cellRight.l0 k l0_0 (l0_0.length : Int) 0 l0_0 a0_1
theorem impl_cellRight.mono_l : ∀ k, (∀ y0 y1 y2 y3 y4, LeO (impl_cellRight.l0 k y0 y1 y2 y3 y4) (impl_cellRight.l0 (k + 1) y0 y1 y2 y3 y4))
 | 0 => fun _ _ _ _ _ r h => by simp [impl_cellRight.l0] at h
 | k + 1 => by
  have ih0 := impl_cellRight.mono_l k
  ·intro y0 y1 y2 y3 y4
   unfold impl_cellRight.l0
   repeat' first
   | (with_reducible exact ih0 _ _ _ _ _)
   | (with_reducible exact impl_WidthOf.mono _ _)
   | (with_reducible exact LeO.refl _)
   | (with_reducible exact LeO.none _)
   | (with_reducible refine LeO.ite ?_ ?_)
   | (with_reducible refine LeO.bind ?_ (fun _ => ?_))
   | exact ih0 _ _ _ _ _
   | exact impl_WidthOf.mono _ _
   | exact LeO.none _
   | refine LeO.ite ?_ ?_
   | refine LeO.bind ?_ (fun _ => ?_)
theorem impl_cellRight.mono : ∀ a0 a1 k, LeO (impl_cellRight.f k a0 a1) (impl_cellRight.f (k + 1) a0 a1) := by
 intro a0 a1 k
 have ih0 := impl_cellRight.mono_l k
 unfold impl_cellRight.f
 repeat' first
   | (with_reducible exact ih0 _ _ _ _ _)
   | (with_reducible exact impl_WidthOf.mono _ _)
   | (with_reducible exact LeO.refl _)
   | (with_reducible exact LeO.none _)
   | (with_reducible refine LeO.ite ?_ ?_)
   | (with_reducible refine LeO.bind ?_ (fun _ => ?_))
   | exact ih0 _ _ _ _ _
   | exact impl_WidthOf.mono _ _
   | exact LeO.none _
   | refine LeO.ite ?_ ?_
   | refine LeO.bind ?_ (fun _ => ?_)
set_option maxHeartbeats 8000000 in
set_option maxRecDepth 100000 in
theorem impl_cellRight.calls (k : Nat) (A0_0 : Option Addr) (c0_0 : Nat) (l0_0 : List Int) (a0_1 : Int) (r : Bool) (w : World) (hr0_0 : Kd.C (Kd.int .i64) w A0_0 l0_0.length l0_0) (hc0_0 : l0_0.length ≤ c0_0) (h : impl_cellRight.f k l0_0 a0_1 = some r) :
  Calls Try.prog 85 #[.agg #[.slice A0_0 l0_0.length c0_0, .int .i64 a0_1]] w fun e w' => e = .returned (.bool r) ∧ Below w.heap.size w w' := by
 have hu98 := Try.underlying98
 have HR0_0 := am hr0_0
 have HC0_0 := am hc0_0
 clear hr0_0 hc0_0
 have HB := am (Below.refl w.heap.size w)
 have H : (impl_cellRight.l0 k l0_0 (l0_0.length : Int) 0 l0_0 a0_1) = some r := h
 clear h
 have H' := Aside0.mk H
 clear H
 go_enter Try.func85, Try.ntmps85
 go_wp2_with (first | ((with_reducible refine gate_dst (N := 1) rfl ?_); refine box_event ?hg (N := 1) ?hd (cs := #[.slice A0_0 l0_0.length c0_0, .int .i64 a0_1]) (t := 98) ?hr ?_; (case hd => rfl); (case hg => rfl); (case hr => first | (go_simp; done) | (go_simp; rfl)); intro gb162 hg w2 hbox hb; have n0_ := am (below_step (bl HB.out) hb); have n1_ := am (hbox); have n2_ := am ((by rw [hg]; exact (below_size (bl HB.out)) : w.heap.size ≤ gb162)); have n3_ := am ((by rw [hg]; exact (below_size (bl HB.out)) : w.heap.size ≤ gb162)); clear HB; have HB := n0_; have BK162 := n1_; have GW162 := n2_; have GE162 := n3_; clear n0_ n1_ n2_ n3_; clear hb hbox hg; have hcz3_0 : w2.cell? ⟨gb162, 0, none⟩ = some (.slice A0_0 l0_0.length c0_0) := (blk_cell BK162.out 0).trans rfl; have hcz3_1 : w2.cell? ⟨gb162, 1, none⟩ = some (.int .i64 a0_1) := (blk_cell BK162.out 1).trans rfl))
 go_loopg [8] k (fun kq v8 w' => ∃ (x8_1 : Int), v8 = .int .i64 x8_1 ∧ Aside0 (impl_cellRight.l0 kq l0_0 (l0_0.length : Int) x8_1 l0_0 a0_1 = some r) ∧ Aside0 (kq ≤ k) ∧ Aside0 (w'.heap[gb162]? = some (.cells #[(.slice A0_0 l0_0.length c0_0), .int .i64 a0_1] 98 (0, 0))) ∧ Aside0 (Below w.heap.size w w'))
 case atStart => exact ⟨(0), (by first | rfl | (simp; done) | (simp [*]; done)), H', ⟨Nat.le_refl _⟩, ⟨by (with_reducible repeat (first | refine blk_drewN ?_ _ | refine blk_drew ?_ | refine blk_alloc ?_ _)); exact BK162.out⟩, ⟨by repeat (first | (with_reducible first | exact HB.out | apply below_alloc | apply pw_below_drewN | apply below_drew1 | refine below_set ?_ GE162.out) | exact HB.out)⟩⟩
 case round =>
  clear H'
  try clear p2
  try clear hcz3_0
  try clear hcz3_1
  obtain ⟨x8_1, rfl, HA, HK1, BK162, HB⟩ := hrel
  cases gk with
  | zero => exact absurd HA.out (by simp [impl_cellRight.l0])
  | succ k1 =>
   have H := HA.out
   clear HA
   simp only [impl_cellRight.l0] at H
   by_cases c4 : x8_1 < (l0_0.length : Int)
   ·rw [if_pos c4] at H
    have c4b0 : decide (x8_1 < (l0_0.length : Int)) = true := decide_eq_true c4
    clear c4
    by_cases c5 : 0 ≤ x8_1
    ·rw [if_pos c5] at H
     have c5b0 : decide (0 ≤ x8_1) = true := decide_eq_true c5
     clear c5
     by_cases c6 : x8_1 < (l0_0.length : Int)
     ·rw [if_pos c6] at H
      have c6b0 : decide (x8_1 < (l0_0.length : Int)) = true := decide_eq_true c6
      clear c6
      replace H := Option.bind_eq_some_iff.mp H
      obtain ⟨t165, A70, H⟩ := H
      replace H : (if t165 = true then ((impl_isControl.f (rd l0_0 x8_1)).bind fun t166 => (if t166 = true then (some false) else ((impl_WidthOf.f k1 (rd l0_0 x8_1)).bind fun t167 => (if ((x8_1 == 0) != (decide (t167 > 0))) = true then (some false) else (impl_cellRight.l0 k1 l0_0 (l0_0.length : Int) (wrap64 (x8_1 + 1)) l0_0 a0_1))))) else (some false)) = some r := H
      have A7 := Aside0.mk A70
      clear A70
      by_cases c8 : t165 = true
      ·subst c8
       have H1 : ((impl_isControl.f (rd l0_0 x8_1)).bind fun t166 => (if t166 = true then (some false) else ((impl_WidthOf.f k1 (rd l0_0 x8_1)).bind fun t167 => (if ((x8_1 == 0) != (decide (t167 > 0))) = true then (some false) else (impl_cellRight.l0 k1 l0_0 (l0_0.length : Int) (wrap64 (x8_1 + 1)) l0_0 a0_1))))) = some r := by rw [if_pos rfl] at H; exact H
       clear H
       have H := H1
       clear H1
       replace H := Option.bind_eq_some_iff.mp H
       obtain ⟨t166, A90, H⟩ := H
       replace H : (if t166 = true then (some false) else ((impl_WidthOf.f k1 (rd l0_0 x8_1)).bind fun t167 => (if ((x8_1 == 0) != (decide (t167 > 0))) = true then (some false) else (impl_cellRight.l0 k1 l0_0 (l0_0.length : Int) (wrap64 (x8_1 + 1)) l0_0 a0_1)))) = some r := H
       have A9 := Aside0.mk A90
       clear A90
       by_cases c10 : t166 = true
       ·subst c10
        have H1 : (some false) = some r := by rw [if_pos rfl] at H; exact H
        clear H
        have H := H1
        clear H1
        obtain rfl := Option.some.inj H
        have p164 : 0 ≤ (x8_1 : Int) := of_decide_eq_true (by first | (with_reducible assumption) | assumption)
        have q164 : x8_1 < (l0_0.length : Int) := of_decide_eq_true (by first | (with_reducible assumption) | assumption)
        obtain ⟨ad164, e164, hx164_0⟩ := Kd.at_int HR0_0.out x8_1 p164 q164
        cases e164
        replace hx164_0 := (HB.out.cell (World.block_lt_of_cell? w _ hx164_0)).trans hx164_0
        replace p164 := eq_true p164
        replace q164 := eq_true q164
        go_wp2_with (first | ((with_reducible refine gate_callee (f := 93) rfl ?_); refine gl (some 14) Try.func93 #[.int .i64 (rd l0_0 x8_1)] ?_; (with_reducible refine (impl_isPoint.calls (rd l0_0 x8_1) true _ A7.out).mono ?_); rintro e w' ⟨rfl, ⟨nd, rfl⟩⟩; refine ⟨_, rfl, ?_⟩) | (go_at_call 107; (with_reducible refine (impl_isControl.calls (rd l0_0 x8_1) true _ A9.out).mono ?_); rintro e w' ⟨rfl, ⟨nd, rfl⟩⟩))
        go_ret
        exact ⟨by first | rfl | (simp [errW_none, errW_some] <;> rfl) | (simp [*, errW_none, errW_some] <;> rfl), by repeat (first | (with_reducible first | exact HB.out | apply below_alloc | apply pw_below_drewN | apply below_drew1 | refine below_set ?_ GE162.out) | exact HB.out)⟩
       ·replace c10 := Bool.eq_false_iff.mpr c10
        subst c10
        have H1 : ((impl_WidthOf.f k1 (rd l0_0 x8_1)).bind fun t167 => (if ((x8_1 == 0) != (decide (t167 > 0))) = true then (some false) else (impl_cellRight.l0 k1 l0_0 (l0_0.length : Int) (wrap64 (x8_1 + 1)) l0_0 a0_1))) = some r := by rw [if_neg (show ¬ (false = true) by decide)] at H; exact H
        clear H
        have H := H1
        clear H1
        replace H := Option.bind_eq_some_iff.mp H
        obtain ⟨t167, A110, H⟩ := H
        replace H : (if ((x8_1 == 0) != (decide (t167 > 0))) = true then (some false) else (impl_cellRight.l0 k1 l0_0 (l0_0.length : Int) (wrap64 (x8_1 + 1)) l0_0 a0_1)) = some r := H
        have A11 := Aside0.mk A110
        clear A110
        by_cases c12 : ((x8_1 == 0) != (decide (t167 > 0))) = true
        ·rw [if_pos c12] at H
         have c12b0 : ((x8_1 == 0) != (decide (t167 > 0))) = true := c12
         (try (have c12b1 : decide ((x8_1 == 0) = (decide (t167 > 0))) = false := by simpa using c12))
         (try (have c12b2 : ((x8_1 == 0) == (decide (t167 > 0))) = false := by simpa using c12))
         (try (have c12b3 : ¬ ((x8_1 == 0) = (decide (t167 > 0))) := by simpa using c12))
         clear c12
         obtain rfl := Option.some.inj H
         have p164 : 0 ≤ (x8_1 : Int) := of_decide_eq_true (by first | (with_reducible assumption) | assumption)
         have q164 : x8_1 < (l0_0.length : Int) := of_decide_eq_true (by first | (with_reducible assumption) | assumption)
         obtain ⟨ad164, e164, hx164_0⟩ := Kd.at_int HR0_0.out x8_1 p164 q164
         cases e164
         replace hx164_0 := (HB.out.cell (World.block_lt_of_cell? w _ hx164_0)).trans hx164_0
         replace p164 := eq_true p164
         replace q164 := eq_true q164
         go_wp2_with (first | ((with_reducible refine gate_callee (f := 93) rfl ?_); refine gl (some 14) Try.func93 #[.int .i64 (rd l0_0 x8_1)] ?_; (with_reducible refine (impl_isPoint.calls (rd l0_0 x8_1) true _ A7.out).mono ?_); rintro e w' ⟨rfl, ⟨nd, rfl⟩⟩; refine ⟨_, rfl, ?_⟩) | (go_at_call 107; (with_reducible refine (impl_isControl.calls (rd l0_0 x8_1) false _ A9.out).mono ?_); rintro e w' ⟨rfl, ⟨nd, rfl⟩⟩) | (go_at_call 108; (with_reducible refine (impl_WidthOf.calls k1 (rd l0_0 x8_1) t167 _ A11.out).mono ?_); rintro e w13 ⟨rfl, hb⟩; have n0_ := am (blk_below (g := gb162) (o := .cells #[.slice (some ad164) l0_0.length c0_0, .int .i64 a0_1] 98 (0, 0)) (pk BK162.out) hb); have n1_ := am (below_step (by repeat (first | (with_reducible first | exact HB.out | apply below_alloc | apply pw_below_drewN | apply below_drew1 | refine below_set ?_ GE162.out) | exact HB.out)) hb); clear BK162; clear HB; have BK162 := n0_; have HB := n1_; clear n0_ n1_; (try clear hb); (try clear hb2); (try clear hk); (try clear hi)))
         go_ret
         exact ⟨by first | rfl | (simp [errW_none, errW_some] <;> rfl) | (simp [*, errW_none, errW_some] <;> rfl), by repeat (first | (with_reducible first | exact HB.out | apply below_alloc | apply pw_below_drewN | apply below_drew1 | refine below_set ?_ GE162.out) | exact HB.out)⟩
        ·rw [if_neg c12] at H
         have c12b0 : ((x8_1 == 0) != (decide (t167 > 0))) = false := by simpa using c12
         (try (have c12b1 : decide ((x8_1 == 0) = (decide (t167 > 0))) = true := by simpa using c12))
         (try (have c12b2 : ((x8_1 == 0) == (decide (t167 > 0))) = true := by simpa using c12))
         clear c12
         have H' := Aside0.mk H
         clear H
         have p164 : 0 ≤ (x8_1 : Int) := of_decide_eq_true (by first | (with_reducible assumption) | assumption)
         have q164 : x8_1 < (l0_0.length : Int) := of_decide_eq_true (by first | (with_reducible assumption) | assumption)
         obtain ⟨ad164, e164, hx164_0⟩ := Kd.at_int HR0_0.out x8_1 p164 q164
         cases e164
         replace hx164_0 := (HB.out.cell (World.block_lt_of_cell? w _ hx164_0)).trans hx164_0
         replace p164 := eq_true p164
         replace q164 := eq_true q164
         go_wp2_with (first | ((with_reducible refine gate_callee (f := 93) rfl ?_); refine gl (some 14) Try.func93 #[.int .i64 (rd l0_0 x8_1)] ?_; (with_reducible refine (impl_isPoint.calls (rd l0_0 x8_1) true _ A7.out).mono ?_); rintro e w' ⟨rfl, ⟨nd, rfl⟩⟩; refine ⟨_, rfl, ?_⟩) | (go_at_call 107; (with_reducible refine (impl_isControl.calls (rd l0_0 x8_1) false _ A9.out).mono ?_); rintro e w' ⟨rfl, ⟨nd, rfl⟩⟩) | (go_at_call 108; (with_reducible refine (impl_WidthOf.calls k1 (rd l0_0 x8_1) t167 _ A11.out).mono ?_); rintro e w14 ⟨rfl, hb⟩; have n0_ := am (blk_below (g := gb162) (o := .cells #[.slice (some ad164) l0_0.length c0_0, .int .i64 a0_1] 98 (0, 0)) (pk BK162.out) hb); have n1_ := am (below_step (by repeat (first | (with_reducible first | exact HB.out | apply below_alloc | apply pw_below_drewN | apply below_drew1 | refine below_set ?_ GE162.out) | exact HB.out)) hb); clear BK162; clear HB; have BK162 := n0_; have HB := n1_; clear n0_ n1_; (try clear hb); (try clear hb2); (try clear hk); (try clear hi)))
         go_roundg k1
         case measure => have := HK1.out; omega
         case rel => exact ⟨(wrap64 (x8_1 + 1)), (by first | rfl | (simp; done) | (simp [*]; done)), H', ⟨by have := HK1.out; omega⟩, ⟨by (with_reducible repeat (first | refine blk_drewN ?_ _ | refine blk_drew ?_ | refine blk_alloc ?_ _)); exact BK162.out⟩, ⟨by repeat (first | (with_reducible first | exact HB.out | apply below_alloc | apply pw_below_drewN | apply below_drew1 | refine below_set ?_ GE162.out) | exact HB.out)⟩⟩
      ·replace c8 := Bool.eq_false_iff.mpr c8
       subst c8
       have H1 : (some false) = some r := by rw [if_neg (show ¬ (false = true) by decide)] at H; exact H
       clear H
       have H := H1
       clear H1
       obtain rfl := Option.some.inj H
       have p164 : 0 ≤ (x8_1 : Int) := of_decide_eq_true (by first | (with_reducible assumption) | assumption)
       have q164 : x8_1 < (l0_0.length : Int) := of_decide_eq_true (by first | (with_reducible assumption) | assumption)
       obtain ⟨ad164, e164, hx164_0⟩ := Kd.at_int HR0_0.out x8_1 p164 q164
       cases e164
       replace hx164_0 := (HB.out.cell (World.block_lt_of_cell? w _ hx164_0)).trans hx164_0
       replace p164 := eq_true p164
       replace q164 := eq_true q164
       go_wp2_with (first | ((with_reducible refine gate_callee (f := 93) rfl ?_); refine gl (some 14) Try.func93 #[.int .i64 (rd l0_0 x8_1)] ?_; (with_reducible refine (impl_isPoint.calls (rd l0_0 x8_1) false _ A7.out).mono ?_); rintro e w' ⟨rfl, ⟨nd, rfl⟩⟩; refine ⟨_, rfl, ?_⟩))
       go_ret
       exact ⟨by first | rfl | (simp [errW_none, errW_some] <;> rfl) | (simp [*, errW_none, errW_some] <;> rfl), by repeat (first | (with_reducible first | exact HB.out | apply below_alloc | apply pw_below_drewN | apply below_drew1 | refine below_set ?_ GE162.out) | exact HB.out)⟩
     ·rw [if_neg c6] at H
      exact absurd H (by simp)
    ·rw [if_neg c5] at H
     exact absurd H (by simp)
   ·rw [if_neg c4] at H
    have c4b0 : decide (x8_1 < (l0_0.length : Int)) = false := decide_eq_false c4
    clear c4
    by_cases c15 : (l0_0.length : Int) ≤ 4
    ·rw [if_pos c15] at H
     have c15b0 : decide ((l0_0.length : Int) ≤ 4) = true := decide_eq_true c15
     have c15b1 : decide (l0_0.length ≤ 4) = true := decide_eq_true (by omega)
     clear c15
     replace H := Option.bind_eq_some_iff.mp H
     obtain ⟨t163, A160, H⟩ := H
     replace H : (some t163) = some r := H
     have A16 := Aside0.mk A160
     clear A160
     obtain rfl := Option.some.inj H
     have hcz17_0 : wr.cell? ⟨gb162, 0, none⟩ = some (.slice A0_0 l0_0.length c0_0) := (blk_cell BK162.out 0).trans rfl
     have hcz17_1 : wr.cell? ⟨gb162, 1, none⟩ = some (.int .i64 a0_1) := (blk_cell BK162.out 1).trans rfl
     go_wp2_with (first | (go_at_call 84; (with_reducible refine (impl_within.calls a0_1 0 3 t163 _ A16.out).mono ?_); rintro e w' ⟨rfl, ⟨nd, rfl⟩⟩))
     go_ret
     exact ⟨by first | rfl | (simp [errW_none, errW_some] <;> rfl) | (simp [*, errW_none, errW_some] <;> rfl), by repeat (first | (with_reducible first | exact HB.out | apply below_alloc | apply pw_below_drewN | apply below_drew1 | refine below_set ?_ GE162.out) | exact HB.out)⟩
    ·rw [if_neg c15] at H
     have c15b0 : decide ((l0_0.length : Int) ≤ 4) = false := decide_eq_false c15
     have c15b1 : decide (l0_0.length ≤ 4) = false := decide_eq_false (by omega)
     clear c15
     obtain rfl := Option.some.inj H
     have hcz18_0 : wr.cell? ⟨gb162, 0, none⟩ = some (.slice A0_0 l0_0.length c0_0) := (blk_cell BK162.out 0).trans rfl
     have hcz18_1 : wr.cell? ⟨gb162, 1, none⟩ = some (.int .i64 a0_1) := (blk_cell BK162.out 1).trans rfl
     go_wp2
     go_ret
     exact ⟨by first | rfl | (simp [errW_none, errW_some] <;> rfl) | (simp [*, errW_none, errW_some] <;> rfl), by repeat (first | (with_reducible first | exact HB.out | apply below_alloc | apply pw_below_drewN | apply below_drew1 | refine below_set ?_ GE162.out) | exact HB.out)⟩

/-! ### impl_Cell_isWide: function 86 -/
def impl_Cell_isWide.f (k : Nat) (l0_0 : List Int) (a0_1 : Int) : Option (Bool) := if (l0_0.length : Int) > 0 then (if 0 < (l0_0.length : Int) then ((impl_WidthOf.f k (rd l0_0 0)).bind fun t169 => (some (t169 == 2))) else (none)) else (some false)
theorem impl_Cell_isWide.mono : ∀ a0 a1 k, LeO (impl_Cell_isWide.f k a0 a1) (impl_Cell_isWide.f (k + 1) a0 a1) := by
 intro a0 a1 k
 unfold impl_Cell_isWide.f
 repeat' first
   | (with_reducible exact impl_WidthOf.mono _ _)
   | (with_reducible exact LeO.refl _)
   | (with_reducible exact LeO.none _)
   | (with_reducible refine LeO.ite ?_ ?_)
   | (with_reducible refine LeO.bind ?_ (fun _ => ?_))
   | exact impl_WidthOf.mono _ _
   | exact LeO.none _
   | refine LeO.ite ?_ ?_
   | refine LeO.bind ?_ (fun _ => ?_)
set_option maxHeartbeats 8000000 in
set_option maxRecDepth 100000 in
theorem impl_Cell_isWide.calls (k : Nat) (p0 : Addr) (A0_0 : Option Addr) (c0_0 : Nat) (l0_0 : List Int) (a0_1 : Int) (r : Bool) (w : World) (hr0_0 : Kd.C (Kd.int .i64) w A0_0 l0_0.length l0_0) (hc0_0 : l0_0.length ≤ c0_0) (hp0 : AtP w p0 0 [.slice A0_0 l0_0.length c0_0, .int .i64 a0_1]) (h : impl_Cell_isWide.f k l0_0 a0_1 = some r) :
  Calls Try.prog 86 #[.pointer (some p0)] w fun e w' => e = .returned (.bool r) ∧ Below w.heap.size w w' := by
 have HR0_0 := am hr0_0
 have HC0_0 := am hc0_0
 clear hr0_0 hc0_0
 have BP0 := am hp0
 clear hp0
 have HB := am (Below.refl w.heap.size w)
 have H : (if (l0_0.length : Int) > 0 then (if 0 < (l0_0.length : Int) then ((impl_WidthOf.f k (rd l0_0 0)).bind fun t169 => (some (t169 == 2))) else (none)) else (some false)) = some r := h
 clear h
 by_cases c2 : (l0_0.length : Int) > 0
 ·rw [if_pos c2] at H
  have c2b0 : decide (0 < (l0_0.length : Int)) = true := decide_eq_true c2
  have c2b1 : decide (0 < l0_0.length) = true := decide_eq_true (by omega)
  clear c2
  by_cases c3 : 0 < (l0_0.length : Int)
  ·rw [if_pos c3] at H
   have c3b0 : decide (0 < (l0_0.length : Int)) = true := decide_eq_true c3
   have c3b1 : decide (0 < l0_0.length) = true := decide_eq_true (by omega)
   clear c3
   replace H := Option.bind_eq_some_iff.mp H
   obtain ⟨t169, A40, H⟩ := H
   replace H : (some (t169 == 2)) = some r := H
   have A4 := Aside0.mk A40
   clear A40
   obtain rfl := Option.some.inj H
   obtain ⟨hcz5_0, hcz5_1, _⟩ := (show w.cell? p0 = some (.slice A0_0 l0_0.length c0_0) ∧ w.cell? ⟨p0.block, p0.off + 1, none⟩ = some (.int .i64 a0_1) ∧ True from BP0.out)
   have p168 : 0 ≤ (0 : Int) := (by omega)
   have q168 : 0 < (l0_0.length : Int) := of_decide_eq_true (by first | (with_reducible assumption) | assumption)
   obtain ⟨ad168, e168, hx168_0⟩ := Kd.at_int HR0_0.out 0 p168 q168
   cases e168
   have qi168 : (0 < l0_0.length) = True := eq_true (by omega)
   (try rw [show ((0 : Int)).toNat = 0 from rfl] at hx168_0)
   (try rw [Addr.add_zero'] at hx168_0)
   replace p168 := eq_true p168
   replace q168 := eq_true q168
   go_enter Try.func86, Try.ntmps86
   go_wp2_with (first | (go_at_call 108; (with_reducible refine (impl_WidthOf.calls k (rd l0_0 0) t169 _ A4.out).mono ?_); rintro e w6 ⟨rfl, hb⟩; have n0_ := am (below_step (bl HB.out) hb); clear HB; have HB := n0_; clear n0_; (try clear hb); (try clear hb2); (try clear hk); (try clear hi)))
   go_ret
   exact ⟨by first | rfl | (simp [errW_none, errW_some] <;> rfl) | (simp [*, errW_none, errW_some] <;> rfl), by repeat (first | (with_reducible first | exact HB.out | apply below_alloc | apply pw_below_drewN | apply below_drew1) | exact HB.out)⟩
  ·rw [if_neg c3] at H
   exact absurd H (by simp)
 ·rw [if_neg c2] at H
  have c2b0 : decide (0 < (l0_0.length : Int)) = false := decide_eq_false c2
  have c2b1 : decide (0 < l0_0.length) = false := decide_eq_false (by omega)
  clear c2
  obtain rfl := Option.some.inj H
  obtain ⟨hcz7_0, hcz7_1, _⟩ := (show w.cell? p0 = some (.slice A0_0 l0_0.length c0_0) ∧ w.cell? ⟨p0.block, p0.off + 1, none⟩ = some (.int .i64 a0_1) ∧ True from BP0.out)
  go_enter Try.func86, Try.ntmps86
  go_wp2
  go_ret
  exact ⟨by first | rfl | (simp [errW_none, errW_some] <;> rfl) | (simp [*, errW_none, errW_some] <;> rfl), by repeat (first | (with_reducible first | exact HB.out | apply below_alloc | apply pw_below_drewN | apply below_drew1) | exact HB.out)⟩

/-! ### impl_Cell_isEmpty: function 87 -/
def impl_Cell_isEmpty.f (l0_0 : List Int) (a0_1 : Int) : Option (Bool) := some ((l0_0.length : Int) == 0)
set_option maxHeartbeats 8000000 in
set_option maxRecDepth 100000 in
theorem impl_Cell_isEmpty.calls (p0 : Addr) (A0_0 : Option Addr) (c0_0 : Nat) (l0_0 : List Int) (a0_1 : Int) (r : Bool) (w : World) (hr0_0 : Kd.C (Kd.int .i64) w A0_0 l0_0.length l0_0) (hc0_0 : l0_0.length ≤ c0_0) (hp0 : AtP w p0 0 [.slice A0_0 l0_0.length c0_0, .int .i64 a0_1]) (h : impl_Cell_isEmpty.f l0_0 a0_1 = some r) :
  Calls Try.prog 87 #[.pointer (some p0)] w fun e w' => e = .returned (.bool r) ∧ Drawn0 w w' := by
 have HR0_0 := am hr0_0
 have HC0_0 := am hc0_0
 clear hr0_0 hc0_0
 have BP0 := am hp0
 clear hp0
 have H : (some ((l0_0.length : Int) == 0)) = some r := h
 clear h
 obtain rfl := Option.some.inj H
 obtain ⟨hcz2_0, hcz2_1, _⟩ := (show w.cell? p0 = some (.slice A0_0 l0_0.length c0_0) ∧ w.cell? ⟨p0.block, p0.off + 1, none⟩ = some (.int .i64 a0_1) ∧ True from BP0.out)
 go_enter Try.func87, Try.ntmps87
 go_wp2
 go_ret
 exact ⟨by first | rfl | (simp; done) | (simp [*]; done), by repeat (first | exact Drawn0.refl _ | apply Drawn0.step)⟩

end Go.Proofs.Ytbdbpnnkeefhbaa.PFnExactGridRight
