-- Written by xprint.py (this claim's own program, over the kit's printer); Lean checks it.
import Derived.Test.YtcjclihkaaaihaaPFnExactNodesVarsx0
import Derived.Test.YtcjclihkaaaihaaPFnExactNodesVarsx2
namespace Go.Proofs.Ytcjclihkaaaihaa.PFnExactNodesVars
open Go.RowKit Go.Proofs.YtcjclihkaaaihaaW.PrintWords Go.Proofs.YtcjclihkaaaihaaW.PrintLast Go.Proofs.YtcjclihkaaaihaaW.PrintMore
attribute [local go_sem] max2_int min2_int max_two min_two max_three min_three max_four min_four   -- for this text's walks alone
set_option linter.unusedVariables false
set_option linter.unusedSimpArgs false   -- squeezed
set_option maxHeartbeats 8000000
set_option maxRecDepth 100000

/-! ### spec_l11Own: function 81 -/
mutual
def spec_l11Own.j0 : Nat → Bool → Int → Int → ByteArray → Int → Option (Bool)
 | 0, _, _, _, _, _ => none
 | k + 1, x10, x138000, x138001, x138002, x138003 => if x10 = true then (some false) else (if x138000 = 11 then (if x138001 ≥ 0 then (if x138001 ≤ 999999999 then (some (x138002.toList == ([] : List UInt8))) else (some false)) else (some false)) else (if x138000 = 2 then (spec_l11Own.j1 k x138000 (x138000 == 2) x138000 x138001 x138002 x138003) else (spec_l11Own.j1 k x138000 (x138000 == 12) x138000 x138001 x138002 x138003)))
def spec_l11Own.j1 : Nat → Int → Bool → Int → Int → ByteArray → Int → Option (Bool)
 | 0, _, _, _, _, _, _ => none
 | k + 1, x12, x28, x138000, x138001, x138002, x138003 => if x28 = true then (if x138001 = 0 then ((spec_l11Name.f k x138002).bind fun t138 => (some t138)) else (some false)) else (if x12 = 10 then (if x138001 = 0 then ((spec_l11Motion.f k x138002).bind fun t139 => (some (decide (t139 > 0)))) else (some false)) else (if x138001 = 0 then (some (x138002.toList == ([] : List UInt8))) else (some false)))
end
def spec_l11Own.f (k : Nat) (a0_0 : Int) (a0_1 : Int) (a0_2 : ByteArray) (a0_3 : Int) : Option (Bool) := if a0_0 < 1 then (spec_l11Own.j0 k true a0_0 a0_1 a0_2 a0_3) else (spec_l11Own.j0 k (decide (a0_0 > 26)) a0_0 a0_1 a0_2 a0_3)
theorem spec_l11Own.mono_l : ∀ k, (∀ y0 y1 y2 y3 y4, LeO (spec_l11Own.j0 k y0 y1 y2 y3 y4) (spec_l11Own.j0 (k + 1) y0 y1 y2 y3 y4)) ∧ (∀ y0 y1 y2 y3 y4 y5, LeO (spec_l11Own.j1 k y0 y1 y2 y3 y4 y5) (spec_l11Own.j1 (k + 1) y0 y1 y2 y3 y4 y5))
 | 0 => ⟨fun _ _ _ _ _ r h => by simp [spec_l11Own.j0] at h, fun _ _ _ _ _ _ r h => by simp [spec_l11Own.j1] at h⟩
 | k + 1 => by
  obtain ⟨ih0, ih1⟩ := spec_l11Own.mono_l k
  refine ⟨?_, ?_⟩
  ·intro y0 y1 y2 y3 y4
   unfold spec_l11Own.j0
   repeat' first
   | (with_reducible exact ih0 _ _ _ _ _)
   | (with_reducible exact ih1 _ _ _ _ _ _)
   | (with_reducible exact spec_l11Motion.mono _ _)
   | (with_reducible exact spec_l11Name.mono _ _)
   | (with_reducible exact LeO.refl _)
   | (with_reducible exact LeO.none _)
   | (with_reducible refine LeO.ite ?_ ?_)
   | (with_reducible refine LeO.bind ?_ (fun _ => ?_))
   | exact ih0 _ _ _ _ _
   | exact ih1 _ _ _ _ _ _
   | exact spec_l11Motion.mono _ _
   | exact spec_l11Name.mono _ _
   | refine LeO.bind ?_ (fun _ => ?_)
  ·intro y0 y1 y2 y3 y4 y5
   unfold spec_l11Own.j1
   repeat' first
   | (with_reducible exact ih0 _ _ _ _ _)
   | (with_reducible exact ih1 _ _ _ _ _ _)
   | (with_reducible exact spec_l11Motion.mono _ _)
   | (with_reducible exact spec_l11Name.mono _ _)
   | (with_reducible exact LeO.refl _)
   | (with_reducible exact LeO.none _)
   | (with_reducible refine LeO.ite ?_ ?_)
   | (with_reducible refine LeO.bind ?_ (fun _ => ?_))
   | exact ih0 _ _ _ _ _
   | exact ih1 _ _ _ _ _ _
   | exact spec_l11Motion.mono _ _
   | exact spec_l11Name.mono _ _
   | refine LeO.bind ?_ (fun _ => ?_)
theorem spec_l11Own.mono : ∀ a0 a1 a2 a3 k, LeO (spec_l11Own.f k a0 a1 a2 a3) (spec_l11Own.f (k + 1) a0 a1 a2 a3) := by
 intro a0 a1 a2 a3 k
 obtain ⟨ih0, ih1⟩ := spec_l11Own.mono_l k
 unfold spec_l11Own.f
 repeat' first
   | (with_reducible exact ih0 _ _ _ _ _)
   | (with_reducible exact ih1 _ _ _ _ _ _)
   | (with_reducible exact spec_l11Motion.mono _ _)
   | (with_reducible exact spec_l11Name.mono _ _)
   | (with_reducible exact LeO.refl _)
   | (with_reducible exact LeO.none _)
   | (with_reducible refine LeO.ite ?_ ?_)
   | (with_reducible refine LeO.bind ?_ (fun _ => ?_))
   | exact ih0 _ _ _ _ _
   | exact ih1 _ _ _ _ _ _
   | exact spec_l11Motion.mono _ _
   | exact spec_l11Name.mono _ _
   | refine LeO.bind ?_ (fun _ => ?_)
theorem spec_l11Own.calls (k : Nat) (a0_0 : Int) (a0_1 : Int) (a0_2 : ByteArray) (a0_3 : Int) (r : Bool) (w : World) (h : spec_l11Own.f k a0_0 a0_1 a0_2 a0_3 = some r) :
  Calls Try.prog 81 #[.agg #[.int .i64 a0_0, .int .i64 a0_1, .string a0_2, .int .i64 a0_3]] w fun e w' => e = .returned (.bool r) ∧ Below w.heap.size w w' := by
 have hu95 := Try.underlying95
 have HB := am (Below.refl w.heap.size w)
 have H : (if a0_0 < 1 then (spec_l11Own.j0 k true a0_0 a0_1 a0_2 a0_3) else (spec_l11Own.j0 k (decide (a0_0 > 26)) a0_0 a0_1 a0_2 a0_3)) = some r := h
 clear h
 have HC2 := Aside0.mk H
 clear H
 go_enter Try.func81, Try.ntmps81
 go_upto_region 1 with (first | ((with_reducible refine gate_dst (N := 1) rfl ?_); refine box_event ?hg (N := 1) ?hd (cs := #[.int .i64 a0_0, .int .i64 a0_1, .string a0_2, .int .i64 a0_3]) (t := 95) ?hr ?_; (case hd => rfl); (case hg => rfl); (case hr => first | (go_simp; done) | (go_simp; rfl)); intro gb137 hg w3 hbox hb; have BK137 := am (hbox); have GW137 := am ((by rw [hg]; exact (below_size (bl HB.out)) : w.heap.size ≤ gb137)); have GE137 := GW137; replace HB := am (below_step (bl HB.out) hb); clear hb hbox hg))
 (try simp only [Act.put, sa_, s0_, ss_])
 go_cut [10] (fun v10 wc => ∃ (kq : Nat) (x10_1 : Bool), v10 = .bool x10_1 ∧ Aside0 (spec_l11Own.j0 kq x10_1 a0_0 a0_1 a0_2 a0_3 = some r) ∧ Aside0 (kq ≤ k) ∧ Aside0 (wc.heap[gb137]? = some (.cells #[.int .i64 a0_0, .int .i64 a0_1, .string a0_2, .int .i64 a0_3] 95 (0, 0))) ∧ Aside0 (Below w.heap.size w wc))
 case first =>
  have H := HC2.out
  clear HC2
  by_cases c4 : a0_0 < 1
  ·rw [if_pos c4] at H
   have c4b0 : decide (a0_0 < 1) = true := decide_eq_true c4
   clear c4
   (first | rw [c4b0] | (simp only [i64_w, i32_w]; rw [c4b0]) | (have e9_ := c4b0; unfold bne at e9_; rw [e9_]) | skip)
   have H' := Aside0.mk H
   clear H
   have hcz5_0 : w3.cell? ⟨gb137, 0, none⟩ = some (.int .i64 a0_0) := bc BK137.out 0
   have hcz5_1 : w3.cell? ⟨gb137, 1, none⟩ = some (.int .i64 a0_1) := bc BK137.out 1
   have hcz5_2 : w3.cell? ⟨gb137, 2, none⟩ = some (.string a0_2) := bc BK137.out 2
   have hcz5_3 : w3.cell? ⟨gb137, 3, none⟩ = some (.int .i64 a0_3) := bc BK137.out 3
   go_wp2
   go_meet
   case rel => exact ⟨_, (true), (by first | rfl | (simp; done) | (simp [*]; done)), H', ⟨by first | omega | exact Nat.le_refl _⟩, ⟨pk BK137.out⟩, ⟨by repeat (first | (with_reducible first | exact HB.out | apply below_alloc | apply pw_below_drewN | apply below_drew1 | refine below_set ?_ GE137.out) | exact HB.out)⟩⟩
  ·rw [if_neg c4] at H
   have c4b0 : decide (a0_0 < 1) = false := decide_eq_false c4
   clear c4
   (first | rw [c4b0] | (simp only [i64_w, i32_w]; rw [c4b0]) | (have e9_ := c4b0; unfold bne at e9_; rw [e9_]) | skip)
   have H' := Aside0.mk H
   clear H
   have hcz6_0 : w3.cell? ⟨gb137, 0, none⟩ = some (.int .i64 a0_0) := bc BK137.out 0
   have hcz6_1 : w3.cell? ⟨gb137, 1, none⟩ = some (.int .i64 a0_1) := bc BK137.out 1
   have hcz6_2 : w3.cell? ⟨gb137, 2, none⟩ = some (.string a0_2) := bc BK137.out 2
   have hcz6_3 : w3.cell? ⟨gb137, 3, none⟩ = some (.int .i64 a0_3) := bc BK137.out 3
   go_wp2
   go_meet
   case rel => exact ⟨_, (decide (a0_0 > 26)), (by first | rfl | (simp; done) | (simp [*]; done)), H', ⟨by first | omega | exact Nat.le_refl _⟩, ⟨pk BK137.out⟩, ⟨by repeat (first | (with_reducible first | exact HB.out | apply below_alloc | apply pw_below_drewN | apply below_drew1 | refine below_set ?_ GE137.out) | exact HB.out)⟩⟩
 case rest =>
  clear HC2
  try clear p2
  try clear c4
  try clear c4b0
  try clear hcz5_0
  try clear hcz5_1
  try clear hcz5_2
  try clear hcz5_3
  try clear hcz6_0
  try clear hcz6_1
  try clear hcz6_2
  try clear hcz6_3
  obtain ⟨kq, x10_1, rfl, HA, HJ1, BK137, HB⟩ := hcut
  cases kq with
  | zero => exact absurd HA.out (by simp [spec_l11Own.j0])
  | succ kj1 =>
   have H := HA.out
   clear HA
   simp only [spec_l11Own.j0] at H
   by_cases c7 : x10_1 = true
   ·subst c7
    have H1 : (some false) = some r := by rw [if_pos rfl] at H; exact H
    clear H
    have H := H1
    clear H1
    obtain rfl := Option.some.inj H
    go_wp2
    go_ret
    exact ⟨by first | rfl | (simp [errW_none, errW_some] <;> rfl) | (simp [*, errW_none, errW_some] <;> rfl), by repeat (first | (with_reducible first | exact HB.out | apply below_alloc | apply pw_below_drewN | apply below_drew1 | refine below_set ?_ GE137.out) | exact HB.out)⟩
   ·replace c7 := Bool.eq_false_iff.mpr c7
    subst c7
    have H1 : (if a0_0 = 11 then (if a0_1 ≥ 0 then (if a0_1 ≤ 999999999 then (some (a0_2.toList == ([] : List UInt8))) else (some false)) else (some false)) else (if a0_0 = 2 then (spec_l11Own.j1 kj1 a0_0 (a0_0 == 2) a0_0 a0_1 a0_2 a0_3) else (spec_l11Own.j1 kj1 a0_0 (a0_0 == 12) a0_0 a0_1 a0_2 a0_3))) = some r := by rw [if_neg (show ¬ (false = true) by decide)] at H; exact H
    clear H
    have H := H1
    clear H1
    by_cases c8 : a0_0 = 11
    ·rw [if_pos c8] at H
     have c8b0 : (a0_0 == 11) = true := beq_iff_eq.mpr c8
     have c8b1 : (a0_0 != 11) = false := bne_eq_false_iff_eq.mpr c8
     clear c8
     by_cases c9 : a0_1 ≥ 0
     ·rw [if_pos c9] at H
      have c9b0 : decide (0 ≤ a0_1) = true := decide_eq_true c9
      clear c9
      by_cases c10 : a0_1 ≤ 999999999
      ·rw [if_pos c10] at H
       have c10b0 : decide (a0_1 ≤ 999999999) = true := decide_eq_true c10
       clear c10
       obtain rfl := Option.some.inj H
       have hcz11_0 : wc.cell? ⟨gb137, 0, none⟩ = some (.int .i64 a0_0) := bc BK137.out 0
       have hcz11_1 : wc.cell? ⟨gb137, 1, none⟩ = some (.int .i64 a0_1) := bc BK137.out 1
       have hcz11_2 : wc.cell? ⟨gb137, 2, none⟩ = some (.string a0_2) := bc BK137.out 2
       have hcz11_3 : wc.cell? ⟨gb137, 3, none⟩ = some (.int .i64 a0_3) := bc BK137.out 3
       go_wp2
       go_ret
       exact ⟨by first | rfl | (simp [errW_none, errW_some] <;> rfl) | (simp [*, errW_none, errW_some] <;> rfl), by repeat (first | (with_reducible first | exact HB.out | apply below_alloc | apply pw_below_drewN | apply below_drew1 | refine below_set ?_ GE137.out) | exact HB.out)⟩
      ·rw [if_neg c10] at H
       have c10b0 : decide (a0_1 ≤ 999999999) = false := decide_eq_false c10
       clear c10
       obtain rfl := Option.some.inj H
       have hcz12_0 : wc.cell? ⟨gb137, 0, none⟩ = some (.int .i64 a0_0) := bc BK137.out 0
       have hcz12_1 : wc.cell? ⟨gb137, 1, none⟩ = some (.int .i64 a0_1) := bc BK137.out 1
       have hcz12_2 : wc.cell? ⟨gb137, 2, none⟩ = some (.string a0_2) := bc BK137.out 2
       have hcz12_3 : wc.cell? ⟨gb137, 3, none⟩ = some (.int .i64 a0_3) := bc BK137.out 3
       go_wp2
       go_ret
       exact ⟨by first | rfl | (simp [errW_none, errW_some] <;> rfl) | (simp [*, errW_none, errW_some] <;> rfl), by repeat (first | (with_reducible first | exact HB.out | apply below_alloc | apply pw_below_drewN | apply below_drew1 | refine below_set ?_ GE137.out) | exact HB.out)⟩
     ·rw [if_neg c9] at H
      have c9b0 : decide (0 ≤ a0_1) = false := decide_eq_false c9
      clear c9
      obtain rfl := Option.some.inj H
      have hcz13_0 : wc.cell? ⟨gb137, 0, none⟩ = some (.int .i64 a0_0) := bc BK137.out 0
      have hcz13_1 : wc.cell? ⟨gb137, 1, none⟩ = some (.int .i64 a0_1) := bc BK137.out 1
      have hcz13_2 : wc.cell? ⟨gb137, 2, none⟩ = some (.string a0_2) := bc BK137.out 2
      have hcz13_3 : wc.cell? ⟨gb137, 3, none⟩ = some (.int .i64 a0_3) := bc BK137.out 3
      go_wp2
      go_ret
      exact ⟨by first | rfl | (simp [errW_none, errW_some] <;> rfl) | (simp [*, errW_none, errW_some] <;> rfl), by repeat (first | (with_reducible first | exact HB.out | apply below_alloc | apply pw_below_drewN | apply below_drew1 | refine below_set ?_ GE137.out) | exact HB.out)⟩
    ·rw [if_neg c8] at H
     have c8b0 : (a0_0 == 11) = false := beq_eq_false_iff_ne.mpr c8
     have c8b1 : (a0_0 != 11) = true := bne_iff_ne.mpr c8
     have HC14 := Aside0.mk H
     clear H
     have hcz15_0 : wc.cell? ⟨gb137, 0, none⟩ = some (.int .i64 a0_0) := bc BK137.out 0
     have hcz15_1 : wc.cell? ⟨gb137, 1, none⟩ = some (.int .i64 a0_1) := bc BK137.out 1
     have hcz15_2 : wc.cell? ⟨gb137, 2, none⟩ = some (.string a0_2) := bc BK137.out 2
     have hcz15_3 : wc.cell? ⟨gb137, 3, none⟩ = some (.int .i64 a0_3) := bc BK137.out 3
     go_upto_if 28 with (fail)
     go_cut [28] (fun v28 wc => ∃ (kq : Nat) (x28_13 : Bool), v28 = .bool x28_13 ∧ Aside0 (spec_l11Own.j1 kq a0_0 x28_13 a0_0 a0_1 a0_2 a0_3 = some r) ∧ Aside0 (kq ≤ kj1) ∧ Aside0 (wc.heap[gb137]? = some (.cells #[.int .i64 a0_0, .int .i64 a0_1, .string a0_2, .int .i64 a0_3] 95 (0, 0))) ∧ Aside0 (Below w.heap.size w wc))
     case first =>
      have H := HC14.out
      clear HC14
      by_cases c16 : a0_0 = 2
      ·rw [if_pos c16] at H
       have c16b0 : (a0_0 == 2) = true := beq_iff_eq.mpr c16
       have c16b1 : (a0_0 != 2) = false := bne_eq_false_iff_eq.mpr c16
       clear c16
       (first | rw [c16b0] | (simp only [i64_w, i32_w]; rw [c16b0]) | (have e9_ := c16b0; unfold bne at e9_; rw [e9_]) | skip)
       have H' := Aside0.mk H
       clear H
       go_wp2
       go_meet
       case rel => exact ⟨_, ((a0_0 == 2)), (by first | rfl | (simp; done) | (simp [*]; done)), H', ⟨by have := HJ1.out; first | omega | exact Nat.le_refl _⟩, ⟨pk BK137.out⟩, ⟨by repeat (first | (with_reducible first | exact HB.out | apply below_alloc | apply pw_below_drewN | apply below_drew1 | refine below_set ?_ GE137.out) | exact HB.out)⟩⟩
      ·rw [if_neg c16] at H
       have c16b0 : (a0_0 == 2) = false := beq_eq_false_iff_ne.mpr c16
       have c16b1 : (a0_0 != 2) = true := bne_iff_ne.mpr c16
       (first | rw [c16b0] | (simp only [i64_w, i32_w]; rw [c16b0]) | (have e9_ := c16b0; unfold bne at e9_; rw [e9_]) | skip)
       have H' := Aside0.mk H
       clear H
       go_wp2
       go_meet
       case rel => exact ⟨_, ((a0_0 == 12)), (by first | rfl | (simp; done) | (simp [*]; done)), H', ⟨by have := HJ1.out; first | omega | exact Nat.le_refl _⟩, ⟨pk BK137.out⟩, ⟨by repeat (first | (with_reducible first | exact HB.out | apply below_alloc | apply pw_below_drewN | apply below_drew1 | refine below_set ?_ GE137.out) | exact HB.out)⟩⟩
     case rest =>
      clear HC14
      try clear c1
      try clear p2
      try clear c4
      try clear c4b0
      try clear c7
      try clear c8
      try clear c8b0
      try clear c8b1
      try clear c9
      try clear c9b0
      try clear c10
      try clear c10b0
      try clear c16
      try clear c16b0
      try clear c16b1
      try clear hcz11_0
      try clear hcz11_1
      try clear hcz11_2
      try clear hcz11_3
      try clear hcz12_0
      try clear hcz12_1
      try clear hcz12_2
      try clear hcz12_3
      try clear hcz13_0
      try clear hcz13_1
      try clear hcz13_2
      try clear hcz13_3
      try clear hcz15_0
      try clear hcz15_1
      try clear hcz15_2
      try clear hcz15_3
      try clear hcz5_0
      try clear hcz5_1
      try clear hcz5_2
      try clear hcz5_3
      try clear hcz6_0
      try clear hcz6_1
      try clear hcz6_2
      try clear hcz6_3
      try clear p2
      obtain ⟨kq, x28_13, rfl, HA, HJ13, BK137, HB⟩ := hcut
      cases kq with
      | zero => exact absurd HA.out (by simp [spec_l11Own.j1])
      | succ kj13 =>
       have H := HA.out
       clear HA
       simp only [spec_l11Own.j1] at H
       by_cases c17 : x28_13 = true
       ·subst c17
        have H1 : (if a0_1 = 0 then ((spec_l11Name.f kj13 a0_2).bind fun t138 => (some t138)) else (some false)) = some r := by rw [if_pos rfl] at H; exact H
        clear H
        have H := H1
        clear H1
        by_cases c18 : a0_1 = 0
        ·rw [if_pos c18] at H
         have c18b0 : (a0_1 == 0) = true := beq_iff_eq.mpr c18
         have c18b1 : (a0_1 != 0) = false := bne_eq_false_iff_eq.mpr c18
         clear c18
         replace H := Option.bind_eq_some_iff.mp H
         obtain ⟨t138, A190, H⟩ := H
         replace H : (some t138) = some r := H
         have A19 := Aside0.mk A190
         clear A190
         obtain rfl := Option.some.inj H
         have hcz20_0 : wc.cell? ⟨gb137, 0, none⟩ = some (.int .i64 a0_0) := bc BK137.out 0
         have hcz20_1 : wc.cell? ⟨gb137, 1, none⟩ = some (.int .i64 a0_1) := bc BK137.out 1
         have hcz20_2 : wc.cell? ⟨gb137, 2, none⟩ = some (.string a0_2) := bc BK137.out 2
         have hcz20_3 : wc.cell? ⟨gb137, 3, none⟩ = some (.int .i64 a0_3) := bc BK137.out 3
         go_wp2_with (first | (go_at_call 98; (with_reducible refine (spec_l11Name.calls kj13 a0_2 t138 _ A19.out).mono ?_); rintro e w21 ⟨rfl, hb⟩; replace BK137 := am (blk_below (pk BK137.out) hb); replace HB := am (below_step (bl HB.out) hb); (try clear hb); (try clear hb2); (try clear hk); (try clear hi)))
         go_ret
         exact ⟨by first | rfl | (simp [errW_none, errW_some] <;> rfl) | (simp [*, errW_none, errW_some] <;> rfl), by repeat (first | (with_reducible first | exact HB.out | apply below_alloc | apply pw_below_drewN | apply below_drew1 | refine below_set ?_ GE137.out) | exact HB.out)⟩
        ·rw [if_neg c18] at H
         have c18b0 : (a0_1 == 0) = false := beq_eq_false_iff_ne.mpr c18
         have c18b1 : (a0_1 != 0) = true := bne_iff_ne.mpr c18
         obtain rfl := Option.some.inj H
         have hcz22_0 : wc.cell? ⟨gb137, 0, none⟩ = some (.int .i64 a0_0) := bc BK137.out 0
         have hcz22_1 : wc.cell? ⟨gb137, 1, none⟩ = some (.int .i64 a0_1) := bc BK137.out 1
         have hcz22_2 : wc.cell? ⟨gb137, 2, none⟩ = some (.string a0_2) := bc BK137.out 2
         have hcz22_3 : wc.cell? ⟨gb137, 3, none⟩ = some (.int .i64 a0_3) := bc BK137.out 3
         go_wp2
         go_ret
         exact ⟨by first | rfl | (simp [errW_none, errW_some] <;> rfl) | (simp [*, errW_none, errW_some] <;> rfl), by repeat (first | (with_reducible first | exact HB.out | apply below_alloc | apply pw_below_drewN | apply below_drew1 | refine below_set ?_ GE137.out) | exact HB.out)⟩
       ·replace c17 := Bool.eq_false_iff.mpr c17
        subst c17
        have H1 : (if a0_0 = 10 then (if a0_1 = 0 then ((spec_l11Motion.f kj13 a0_2).bind fun t139 => (some (decide (t139 > 0)))) else (some false)) else (if a0_1 = 0 then (some (a0_2.toList == ([] : List UInt8))) else (some false))) = some r := by rw [if_neg (show ¬ (false = true) by decide)] at H; exact H
        clear H
        have H := H1
        clear H1
        by_cases c23 : a0_0 = 10
        ·rw [if_pos c23] at H
         have c23b0 : (a0_0 == 10) = true := beq_iff_eq.mpr c23
         have c23b1 : (a0_0 != 10) = false := bne_eq_false_iff_eq.mpr c23
         clear c23
         by_cases c24 : a0_1 = 0
         ·rw [if_pos c24] at H
          have c24b0 : (a0_1 == 0) = true := beq_iff_eq.mpr c24
          have c24b1 : (a0_1 != 0) = false := bne_eq_false_iff_eq.mpr c24
          clear c24
          replace H := Option.bind_eq_some_iff.mp H
          obtain ⟨t139, A250, H⟩ := H
          replace H : (some (decide (t139 > 0))) = some r := H
          have A25 := Aside0.mk A250
          clear A250
          obtain rfl := Option.some.inj H
          have hcz26_0 : wc.cell? ⟨gb137, 0, none⟩ = some (.int .i64 a0_0) := bc BK137.out 0
          have hcz26_1 : wc.cell? ⟨gb137, 1, none⟩ = some (.int .i64 a0_1) := bc BK137.out 1
          have hcz26_2 : wc.cell? ⟨gb137, 2, none⟩ = some (.string a0_2) := bc BK137.out 2
          have hcz26_3 : wc.cell? ⟨gb137, 3, none⟩ = some (.int .i64 a0_3) := bc BK137.out 3
          go_wp2_with (first | (go_at_call 99; (with_reducible refine (spec_l11Motion.calls kj13 a0_2 t139 _ A25.out).mono ?_); rintro e w27 ⟨rfl, hb⟩; replace BK137 := am (blk_below (pk BK137.out) hb); replace HB := am (below_step (bl HB.out) hb); (try clear hb); (try clear hb2); (try clear hk); (try clear hi)))
          go_ret
          exact ⟨by first | rfl | (simp [errW_none, errW_some] <;> rfl) | (simp [*, errW_none, errW_some] <;> rfl), by repeat (first | (with_reducible first | exact HB.out | apply below_alloc | apply pw_below_drewN | apply below_drew1 | refine below_set ?_ GE137.out) | exact HB.out)⟩
         ·rw [if_neg c24] at H
          have c24b0 : (a0_1 == 0) = false := beq_eq_false_iff_ne.mpr c24
          have c24b1 : (a0_1 != 0) = true := bne_iff_ne.mpr c24
          obtain rfl := Option.some.inj H
          have hcz28_0 : wc.cell? ⟨gb137, 0, none⟩ = some (.int .i64 a0_0) := bc BK137.out 0
          have hcz28_1 : wc.cell? ⟨gb137, 1, none⟩ = some (.int .i64 a0_1) := bc BK137.out 1
          have hcz28_2 : wc.cell? ⟨gb137, 2, none⟩ = some (.string a0_2) := bc BK137.out 2
          have hcz28_3 : wc.cell? ⟨gb137, 3, none⟩ = some (.int .i64 a0_3) := bc BK137.out 3
          go_wp2
          go_ret
          exact ⟨by first | rfl | (simp [errW_none, errW_some] <;> rfl) | (simp [*, errW_none, errW_some] <;> rfl), by repeat (first | (with_reducible first | exact HB.out | apply below_alloc | apply pw_below_drewN | apply below_drew1 | refine below_set ?_ GE137.out) | exact HB.out)⟩
        ·rw [if_neg c23] at H
         have c23b0 : (a0_0 == 10) = false := beq_eq_false_iff_ne.mpr c23
         have c23b1 : (a0_0 != 10) = true := bne_iff_ne.mpr c23
         by_cases c29 : a0_1 = 0
         ·rw [if_pos c29] at H
          have c29b0 : (a0_1 == 0) = true := beq_iff_eq.mpr c29
          have c29b1 : (a0_1 != 0) = false := bne_eq_false_iff_eq.mpr c29
          clear c29
          obtain rfl := Option.some.inj H
          have hcz30_0 : wc.cell? ⟨gb137, 0, none⟩ = some (.int .i64 a0_0) := bc BK137.out 0
          have hcz30_1 : wc.cell? ⟨gb137, 1, none⟩ = some (.int .i64 a0_1) := bc BK137.out 1
          have hcz30_2 : wc.cell? ⟨gb137, 2, none⟩ = some (.string a0_2) := bc BK137.out 2
          have hcz30_3 : wc.cell? ⟨gb137, 3, none⟩ = some (.int .i64 a0_3) := bc BK137.out 3
          go_wp2
          go_ret
          exact ⟨by first | rfl | (simp [errW_none, errW_some] <;> rfl) | (simp [*, errW_none, errW_some] <;> rfl), by repeat (first | (with_reducible first | exact HB.out | apply below_alloc | apply pw_below_drewN | apply below_drew1 | refine below_set ?_ GE137.out) | exact HB.out)⟩
         ·rw [if_neg c29] at H
          have c29b0 : (a0_1 == 0) = false := beq_eq_false_iff_ne.mpr c29
          have c29b1 : (a0_1 != 0) = true := bne_iff_ne.mpr c29
          obtain rfl := Option.some.inj H
          have hcz31_0 : wc.cell? ⟨gb137, 0, none⟩ = some (.int .i64 a0_0) := bc BK137.out 0
          have hcz31_1 : wc.cell? ⟨gb137, 1, none⟩ = some (.int .i64 a0_1) := bc BK137.out 1
          have hcz31_2 : wc.cell? ⟨gb137, 2, none⟩ = some (.string a0_2) := bc BK137.out 2
          have hcz31_3 : wc.cell? ⟨gb137, 3, none⟩ = some (.int .i64 a0_3) := bc BK137.out 3
          go_wp2
          go_ret
          exact ⟨by first | rfl | (simp [errW_none, errW_some] <;> rfl) | (simp [*, errW_none, errW_some] <;> rfl), by repeat (first | (with_reducible first | exact HB.out | apply below_alloc | apply pw_below_drewN | apply below_drew1 | refine below_set ?_ GE137.out) | exact HB.out)⟩

/-! ### spec_l11Stmt: function 82 -/
def spec_l11Stmt.f (a0 : Int) : Option (Bool) := if a0 ≥ 2 then (some (decide (a0 ≤ 10))) else (some false)
theorem spec_l11Stmt.calls (a0 : Int) (r : Bool) (w : World) (h : spec_l11Stmt.f a0 = some r) :
  Calls Try.prog 82 #[.int .i64 a0] w fun e w' => e = .returned (.bool r) ∧ Drawn0 w w' := by
 have H : (if a0 ≥ 2 then (some (decide (a0 ≤ 10))) else (some false)) = some r := h
 clear h
 by_cases c2 : a0 ≥ 2
 ·rw [if_pos c2] at H
  have c2b0 : decide (2 ≤ a0) = true := decide_eq_true c2
  clear c2
  obtain rfl := Option.some.inj H
  go_enter Try.func82, Try.ntmps82
  go_wp2
  go_ret
  exact ⟨by first | rfl | (simp; done) | (simp [*]; done), by repeat (first | exact Drawn0.refl _ | apply Drawn0.step)⟩
 ·rw [if_neg c2] at H
  have c2b0 : decide (2 ≤ a0) = false := decide_eq_false c2
  clear c2
  obtain rfl := Option.some.inj H
  go_enter Try.func82, Try.ntmps82
  go_wp2
  go_ret
  exact ⟨by first | rfl | (simp; done) | (simp [*]; done), by repeat (first | exact Drawn0.refl _ | apply Drawn0.step)⟩

/-! ### spec_l11Expr: function 83 -/
def spec_l11Expr.f (a0 : Int) : Option (Bool) := if a0 ≥ 11 then (some (decide (a0 ≤ 26))) else (some false)
theorem spec_l11Expr.calls (a0 : Int) (r : Bool) (w : World) (h : spec_l11Expr.f a0 = some r) :
  Calls Try.prog 83 #[.int .i64 a0] w fun e w' => e = .returned (.bool r) ∧ Drawn0 w w' := by
 have H : (if a0 ≥ 11 then (some (decide (a0 ≤ 26))) else (some false)) = some r := h
 clear h
 by_cases c2 : a0 ≥ 11
 ·rw [if_pos c2] at H
  have c2b0 : decide (11 ≤ a0) = true := decide_eq_true c2
  clear c2
  obtain rfl := Option.some.inj H
  go_enter Try.func83, Try.ntmps83
  go_wp2
  go_ret
  exact ⟨by first | rfl | (simp; done) | (simp [*]; done), by repeat (first | exact Drawn0.refl _ | apply Drawn0.step)⟩
 ·rw [if_neg c2] at H
  have c2b0 : decide (11 ≤ a0) = false := decide_eq_false c2
  clear c2
  obtain rfl := Option.some.inj H
  go_enter Try.func83, Try.ntmps83
  go_wp2
  go_ret
  exact ⟨by first | rfl | (simp; done) | (simp [*]; done), by repeat (first | exact Drawn0.refl _ | apply Drawn0.step)⟩

/-! ### spec_l11Kids: function 84 -/
def spec_l11Kids.j0 : Nat → Int → Bool → Int → Int → ByteArray → Int → Option (ByteArray)
 | 0, _, _, _, _, _, _ => none
 | k + 1, x4, x7, x141000, x141001, x141002, x141003 => if x7 = true then (some (⟨#[101]⟩ : ByteArray)) else (if x4 = 3 then (if x141003 = 3 then (some (⟨#[101, 98, 98]⟩ : ByteArray)) else (some (⟨#[101, 98]⟩ : ByteArray))) else (if x4 = 4 then (some (⟨#[101, 98]⟩ : ByteArray)) else (if x4 = 6 then (some (⟨#[101, 101]⟩ : ByteArray)) else (if x4 = 9 then (some (⟨#[]⟩ : ByteArray)) else (if x4 = 10 then (some (⟨#[]⟩ : ByteArray)) else (if x4 = 11 then (some (⟨#[]⟩ : ByteArray)) else (if x4 = 12 then (some (⟨#[]⟩ : ByteArray)) else (if x4 = 13 then (some (⟨#[]⟩ : ByteArray)) else (if x4 = 14 then (some (⟨#[]⟩ : ByteArray)) else (if x4 = 15 then (some (⟨#[]⟩ : ByteArray)) else (some (⟨#[101, 101]⟩ : ByteArray))))))))))))
def spec_l11Kids.f (k : Nat) (a0_0 : Int) (a0_1 : Int) (a0_2 : ByteArray) (a0_3 : Int) : Option (ByteArray) := if a0_0 = 1 then (some (⟨#[42]⟩ : ByteArray)) else (if a0_0 = 2 then (spec_l11Kids.j0 k a0_0 (a0_0 == 2) a0_0 a0_1 a0_2 a0_3) else (if a0_0 = 5 then (spec_l11Kids.j0 k a0_0 (a0_0 == 5) a0_0 a0_1 a0_2 a0_3) else (if a0_0 = 7 then (spec_l11Kids.j0 k a0_0 (a0_0 == 7) a0_0 a0_1 a0_2 a0_3) else (if a0_0 = 8 then (spec_l11Kids.j0 k a0_0 (a0_0 == 8) a0_0 a0_1 a0_2 a0_3) else (if a0_0 = 16 then (spec_l11Kids.j0 k a0_0 (a0_0 == 16) a0_0 a0_1 a0_2 a0_3) else (spec_l11Kids.j0 k a0_0 (a0_0 == 17) a0_0 a0_1 a0_2 a0_3))))))
theorem spec_l11Kids.mono_l : ∀ k, (∀ y0 y1 y2 y3 y4 y5, LeO (spec_l11Kids.j0 k y0 y1 y2 y3 y4 y5) (spec_l11Kids.j0 (k + 1) y0 y1 y2 y3 y4 y5))
 | 0 => fun _ _ _ _ _ _ r h => by simp [spec_l11Kids.j0] at h
 | k + 1 => by
  have ih0 := spec_l11Kids.mono_l k
  ·intro y0 y1 y2 y3 y4 y5
   unfold spec_l11Kids.j0
   repeat' first
   | (with_reducible exact ih0 _ _ _ _ _ _)
   | (with_reducible exact LeO.refl _)
   | (with_reducible exact LeO.none _)
   | (with_reducible refine LeO.ite ?_ ?_)
   | (with_reducible refine LeO.bind ?_ (fun _ => ?_))
   | exact ih0 _ _ _ _ _ _
   | refine LeO.bind ?_ (fun _ => ?_)
theorem spec_l11Kids.mono : ∀ a0 a1 a2 a3 k, LeO (spec_l11Kids.f k a0 a1 a2 a3) (spec_l11Kids.f (k + 1) a0 a1 a2 a3) := by
 intro a0 a1 a2 a3 k
 have ih0 := spec_l11Kids.mono_l k
 unfold spec_l11Kids.f
 repeat' first
   | (with_reducible exact ih0 _ _ _ _ _ _)
   | (with_reducible exact LeO.refl _)
   | (with_reducible exact LeO.none _)
   | (with_reducible refine LeO.ite ?_ ?_)
   | (with_reducible refine LeO.bind ?_ (fun _ => ?_))
   | exact ih0 _ _ _ _ _ _
   | refine LeO.bind ?_ (fun _ => ?_)
theorem spec_l11Kids.calls (k : Nat) (a0_0 : Int) (a0_1 : Int) (a0_2 : ByteArray) (a0_3 : Int) (r : ByteArray) (w : World) (h : spec_l11Kids.f k a0_0 a0_1 a0_2 a0_3 = some r) :
  Calls Try.prog 84 #[.agg #[.int .i64 a0_0, .int .i64 a0_1, .string a0_2, .int .i64 a0_3]] w fun e w' => e = .returned (.string r) ∧ Below w.heap.size w w' := by
 have hu95 := Try.underlying95
 have HB := am (Below.refl w.heap.size w)
 have H : (if a0_0 = 1 then (some (⟨#[42]⟩ : ByteArray)) else (if a0_0 = 2 then (spec_l11Kids.j0 k a0_0 (a0_0 == 2) a0_0 a0_1 a0_2 a0_3) else (if a0_0 = 5 then (spec_l11Kids.j0 k a0_0 (a0_0 == 5) a0_0 a0_1 a0_2 a0_3) else (if a0_0 = 7 then (spec_l11Kids.j0 k a0_0 (a0_0 == 7) a0_0 a0_1 a0_2 a0_3) else (if a0_0 = 8 then (spec_l11Kids.j0 k a0_0 (a0_0 == 8) a0_0 a0_1 a0_2 a0_3) else (if a0_0 = 16 then (spec_l11Kids.j0 k a0_0 (a0_0 == 16) a0_0 a0_1 a0_2 a0_3) else (spec_l11Kids.j0 k a0_0 (a0_0 == 17) a0_0 a0_1 a0_2 a0_3))))))) = some r := h
 clear h
 by_cases c2 : a0_0 = 1
 ·rw [if_pos c2] at H
  have c2b0 : (a0_0 == 1) = true := beq_iff_eq.mpr c2
  have c2b1 : (a0_0 != 1) = false := bne_eq_false_iff_eq.mpr c2
  clear c2
  obtain rfl := Option.some.inj H
  go_enter Try.func84, Try.ntmps84
  go_wp2_with (first | ((with_reducible refine gate_dst (N := 1) rfl ?_); refine box_event ?hg (N := 1) ?hd (cs := #[.int .i64 a0_0, .int .i64 a0_1, .string a0_2, .int .i64 a0_3]) (t := 95) ?hr ?_; (case hd => rfl); (case hg => rfl); (case hr => first | (go_simp; done) | (go_simp; rfl)); intro gb140 hg w3 hbox hb; have BK140 := am (hbox); have GW140 := am ((by rw [hg]; exact (below_size (bl HB.out)) : w.heap.size ≤ gb140)); have GE140 := GW140; replace HB := am (below_step (bl HB.out) hb); clear hb hbox hg; have hcz4_0 : w3.cell? ⟨gb140, 0, none⟩ = some (.int .i64 a0_0) := bc BK140.out 0; have hcz4_1 : w3.cell? ⟨gb140, 1, none⟩ = some (.int .i64 a0_1) := bc BK140.out 1; have hcz4_2 : w3.cell? ⟨gb140, 2, none⟩ = some (.string a0_2) := bc BK140.out 2; have hcz4_3 : w3.cell? ⟨gb140, 3, none⟩ = some (.int .i64 a0_3) := bc BK140.out 3))
  go_ret
  exact ⟨by first | rfl | (simp [errW_none, errW_some] <;> rfl) | (simp [*, errW_none, errW_some] <;> rfl), by repeat (first | (with_reducible first | exact HB.out | apply below_alloc | apply pw_below_drewN | apply below_drew1 | refine below_set ?_ GE140.out) | exact HB.out)⟩
 ·rw [if_neg c2] at H
  have c2b0 : (a0_0 == 1) = false := beq_eq_false_iff_ne.mpr c2
  have c2b1 : (a0_0 != 1) = true := bne_iff_ne.mpr c2
  have HC5 := Aside0.mk H
  clear H
  go_enter Try.func84, Try.ntmps84
  go_upto_if 7 with (first | ((with_reducible refine gate_dst (N := 1) rfl ?_); refine box_event ?hg (N := 1) ?hd (cs := #[.int .i64 a0_0, .int .i64 a0_1, .string a0_2, .int .i64 a0_3]) (t := 95) ?hr ?_; (case hd => rfl); (case hg => rfl); (case hr => first | (go_simp; done) | (go_simp; rfl)); intro gb140 hg w6 hbox hb; have BK140 := am (hbox); have GW140 := am ((by rw [hg]; exact (below_size (bl HB.out)) : w.heap.size ≤ gb140)); have GE140 := GW140; replace HB := am (below_step (bl HB.out) hb); clear hb hbox hg; have hcz7_0 : w6.cell? ⟨gb140, 0, none⟩ = some (.int .i64 a0_0) := bc BK140.out 0; have hcz7_1 : w6.cell? ⟨gb140, 1, none⟩ = some (.int .i64 a0_1) := bc BK140.out 1; have hcz7_2 : w6.cell? ⟨gb140, 2, none⟩ = some (.string a0_2) := bc BK140.out 2; have hcz7_3 : w6.cell? ⟨gb140, 3, none⟩ = some (.int .i64 a0_3) := bc BK140.out 3))
  (try simp only [Act.put, sa_, s0_, ss_])
  go_cut [7] (fun v7 wc => ∃ (kq : Nat) (x7_4 : Bool), v7 = .bool x7_4 ∧ Aside0 (spec_l11Kids.j0 kq a0_0 x7_4 a0_0 a0_1 a0_2 a0_3 = some r) ∧ Aside0 (kq ≤ k) ∧ Aside0 (wc.heap[gb140]? = some (.cells #[.int .i64 a0_0, .int .i64 a0_1, .string a0_2, .int .i64 a0_3] 95 (0, 0))) ∧ Aside0 (Below w.heap.size w wc))
  case first =>
   have H := HC5.out
   clear HC5
   by_cases c8 : a0_0 = 2
   ·rw [if_pos c8] at H
    have c8b0 : (a0_0 == 2) = true := beq_iff_eq.mpr c8
    have c8b1 : (a0_0 != 2) = false := bne_eq_false_iff_eq.mpr c8
    clear c8
    (first | rw [c8b0] | (simp only [i64_w, i32_w]; rw [c8b0]) | (have e9_ := c8b0; unfold bne at e9_; rw [e9_]) | skip)
    have H' := Aside0.mk H
    clear H
    go_wp2
    go_meet
    case rel => exact ⟨_, ((a0_0 == 2)), (by first | rfl | (simp; done) | (simp [*]; done)), H', ⟨by first | omega | exact Nat.le_refl _⟩, ⟨pk BK140.out⟩, ⟨by repeat (first | (with_reducible first | exact HB.out | apply below_alloc | apply pw_below_drewN | apply below_drew1 | refine below_set ?_ GE140.out) | exact HB.out)⟩⟩
   ·rw [if_neg c8] at H
    have c8b0 : (a0_0 == 2) = false := beq_eq_false_iff_ne.mpr c8
    have c8b1 : (a0_0 != 2) = true := bne_iff_ne.mpr c8
    (first | rw [c8b0] | (simp only [i64_w, i32_w]; rw [c8b0]) | (have e9_ := c8b0; unfold bne at e9_; rw [e9_]) | skip)
    by_cases c9 : a0_0 = 5
    ·rw [if_pos c9] at H
     have c9b0 : (a0_0 == 5) = true := beq_iff_eq.mpr c9
     have c9b1 : (a0_0 != 5) = false := bne_eq_false_iff_eq.mpr c9
     clear c9
     have H' := Aside0.mk H
     clear H
     go_wp2
     go_meet
     case rel => exact ⟨_, ((a0_0 == 5)), (by first | rfl | (simp; done) | (simp [*]; done)), H', ⟨by first | omega | exact Nat.le_refl _⟩, ⟨pk BK140.out⟩, ⟨by repeat (first | (with_reducible first | exact HB.out | apply below_alloc | apply pw_below_drewN | apply below_drew1 | refine below_set ?_ GE140.out) | exact HB.out)⟩⟩
    ·rw [if_neg c9] at H
     have c9b0 : (a0_0 == 5) = false := beq_eq_false_iff_ne.mpr c9
     have c9b1 : (a0_0 != 5) = true := bne_iff_ne.mpr c9
     by_cases c10 : a0_0 = 7
     ·rw [if_pos c10] at H
      have c10b0 : (a0_0 == 7) = true := beq_iff_eq.mpr c10
      have c10b1 : (a0_0 != 7) = false := bne_eq_false_iff_eq.mpr c10
      clear c10
      have H' := Aside0.mk H
      clear H
      go_wp2
      go_meet
      case rel => exact ⟨_, ((a0_0 == 7)), (by first | rfl | (simp; done) | (simp [*]; done)), H', ⟨by first | omega | exact Nat.le_refl _⟩, ⟨pk BK140.out⟩, ⟨by repeat (first | (with_reducible first | exact HB.out | apply below_alloc | apply pw_below_drewN | apply below_drew1 | refine below_set ?_ GE140.out) | exact HB.out)⟩⟩
     ·rw [if_neg c10] at H
      have c10b0 : (a0_0 == 7) = false := beq_eq_false_iff_ne.mpr c10
      have c10b1 : (a0_0 != 7) = true := bne_iff_ne.mpr c10
      by_cases c11 : a0_0 = 8
      ·rw [if_pos c11] at H
       have c11b0 : (a0_0 == 8) = true := beq_iff_eq.mpr c11
       have c11b1 : (a0_0 != 8) = false := bne_eq_false_iff_eq.mpr c11
       clear c11
       have H' := Aside0.mk H
       clear H
       go_wp2
       go_meet
       case rel => exact ⟨_, ((a0_0 == 8)), (by first | rfl | (simp; done) | (simp [*]; done)), H', ⟨by first | omega | exact Nat.le_refl _⟩, ⟨pk BK140.out⟩, ⟨by repeat (first | (with_reducible first | exact HB.out | apply below_alloc | apply pw_below_drewN | apply below_drew1 | refine below_set ?_ GE140.out) | exact HB.out)⟩⟩
      ·rw [if_neg c11] at H
       have c11b0 : (a0_0 == 8) = false := beq_eq_false_iff_ne.mpr c11
       have c11b1 : (a0_0 != 8) = true := bne_iff_ne.mpr c11
       by_cases c12 : a0_0 = 16
       ·rw [if_pos c12] at H
        have c12b0 : (a0_0 == 16) = true := beq_iff_eq.mpr c12
        have c12b1 : (a0_0 != 16) = false := bne_eq_false_iff_eq.mpr c12
        clear c12
        have H' := Aside0.mk H
        clear H
        go_wp2
        go_meet
        case rel => exact ⟨_, ((a0_0 == 16)), (by first | rfl | (simp; done) | (simp [*]; done)), H', ⟨by first | omega | exact Nat.le_refl _⟩, ⟨pk BK140.out⟩, ⟨by repeat (first | (with_reducible first | exact HB.out | apply below_alloc | apply pw_below_drewN | apply below_drew1 | refine below_set ?_ GE140.out) | exact HB.out)⟩⟩
       ·rw [if_neg c12] at H
        have c12b0 : (a0_0 == 16) = false := beq_eq_false_iff_ne.mpr c12
        have c12b1 : (a0_0 != 16) = true := bne_iff_ne.mpr c12
        have H' := Aside0.mk H
        clear H
        go_wp2
        go_meet
        case rel => exact ⟨_, ((a0_0 == 17)), (by first | rfl | (simp; done) | (simp [*]; done)), H', ⟨by first | omega | exact Nat.le_refl _⟩, ⟨pk BK140.out⟩, ⟨by repeat (first | (with_reducible first | exact HB.out | apply below_alloc | apply pw_below_drewN | apply below_drew1 | refine below_set ?_ GE140.out) | exact HB.out)⟩⟩
  case rest =>
   clear HC5
   try clear c1
   try clear c2
   try clear c2b0
   try clear c2b1
   try clear p2
   try clear c8
   try clear c8b0
   try clear c8b1
   try clear c9
   try clear c9b0
   try clear c9b1
   try clear c10
   try clear c10b0
   try clear c10b1
   try clear c11
   try clear c11b0
   try clear c11b1
   try clear c12
   try clear c12b0
   try clear c12b1
   try clear hcz4_0
   try clear hcz4_1
   try clear hcz4_2
   try clear hcz4_3
   try clear hcz7_0
   try clear hcz7_1
   try clear hcz7_2
   try clear hcz7_3
   obtain ⟨kq, x7_4, rfl, HA, HJ4, BK140, HB⟩ := hcut
   cases kq with
   | zero => exact absurd HA.out (by simp [spec_l11Kids.j0])
   | succ kj4 =>
    have H := HA.out
    clear HA
    simp only [spec_l11Kids.j0] at H
    by_cases c13 : x7_4 = true
    ·subst c13
     have H1 : (some (⟨#[101]⟩ : ByteArray)) = some r := by rw [if_pos rfl] at H; exact H
     clear H
     have H := H1
     clear H1
     obtain rfl := Option.some.inj H
     go_wp2
     go_ret
     exact ⟨by first | rfl | (simp [errW_none, errW_some] <;> rfl) | (simp [*, errW_none, errW_some] <;> rfl), by repeat (first | (with_reducible first | exact HB.out | apply below_alloc | apply pw_below_drewN | apply below_drew1 | refine below_set ?_ GE140.out) | exact HB.out)⟩
    ·replace c13 := Bool.eq_false_iff.mpr c13
     subst c13
     have H1 : (if a0_0 = 3 then (if a0_3 = 3 then (some (⟨#[101, 98, 98]⟩ : ByteArray)) else (some (⟨#[101, 98]⟩ : ByteArray))) else (if a0_0 = 4 then (some (⟨#[101, 98]⟩ : ByteArray)) else (if a0_0 = 6 then (some (⟨#[101, 101]⟩ : ByteArray)) else (if a0_0 = 9 then (some (⟨#[]⟩ : ByteArray)) else (if a0_0 = 10 then (some (⟨#[]⟩ : ByteArray)) else (if a0_0 = 11 then (some (⟨#[]⟩ : ByteArray)) else (if a0_0 = 12 then (some (⟨#[]⟩ : ByteArray)) else (if a0_0 = 13 then (some (⟨#[]⟩ : ByteArray)) else (if a0_0 = 14 then (some (⟨#[]⟩ : ByteArray)) else (if a0_0 = 15 then (some (⟨#[]⟩ : ByteArray)) else (some (⟨#[101, 101]⟩ : ByteArray)))))))))))) = some r := by rw [if_neg (show ¬ (false = true) by decide)] at H; exact H
     clear H
     have H := H1
     clear H1
     by_cases c14 : a0_0 = 3
     ·rw [if_pos c14] at H
      have c14b0 : (a0_0 == 3) = true := beq_iff_eq.mpr c14
      have c14b1 : (a0_0 != 3) = false := bne_eq_false_iff_eq.mpr c14
      clear c14
      by_cases c15 : a0_3 = 3
      ·rw [if_pos c15] at H
       have c15b0 : (a0_3 == 3) = true := beq_iff_eq.mpr c15
       have c15b1 : (a0_3 != 3) = false := bne_eq_false_iff_eq.mpr c15
       clear c15
       obtain rfl := Option.some.inj H
       have hcz16_0 : wc.cell? ⟨gb140, 0, none⟩ = some (.int .i64 a0_0) := bc BK140.out 0
       have hcz16_1 : wc.cell? ⟨gb140, 1, none⟩ = some (.int .i64 a0_1) := bc BK140.out 1
       have hcz16_2 : wc.cell? ⟨gb140, 2, none⟩ = some (.string a0_2) := bc BK140.out 2
       have hcz16_3 : wc.cell? ⟨gb140, 3, none⟩ = some (.int .i64 a0_3) := bc BK140.out 3
       go_wp2
       go_ret
       exact ⟨by first | rfl | (simp [errW_none, errW_some] <;> rfl) | (simp [*, errW_none, errW_some] <;> rfl), by repeat (first | (with_reducible first | exact HB.out | apply below_alloc | apply pw_below_drewN | apply below_drew1 | refine below_set ?_ GE140.out) | exact HB.out)⟩
      ·rw [if_neg c15] at H
       have c15b0 : (a0_3 == 3) = false := beq_eq_false_iff_ne.mpr c15
       have c15b1 : (a0_3 != 3) = true := bne_iff_ne.mpr c15
       obtain rfl := Option.some.inj H
       have hcz17_0 : wc.cell? ⟨gb140, 0, none⟩ = some (.int .i64 a0_0) := bc BK140.out 0
       have hcz17_1 : wc.cell? ⟨gb140, 1, none⟩ = some (.int .i64 a0_1) := bc BK140.out 1
       have hcz17_2 : wc.cell? ⟨gb140, 2, none⟩ = some (.string a0_2) := bc BK140.out 2
       have hcz17_3 : wc.cell? ⟨gb140, 3, none⟩ = some (.int .i64 a0_3) := bc BK140.out 3
       go_wp2
       go_ret
       exact ⟨by first | rfl | (simp [errW_none, errW_some] <;> rfl) | (simp [*, errW_none, errW_some] <;> rfl), by repeat (first | (with_reducible first | exact HB.out | apply below_alloc | apply pw_below_drewN | apply below_drew1 | refine below_set ?_ GE140.out) | exact HB.out)⟩
     ·rw [if_neg c14] at H
      have c14b0 : (a0_0 == 3) = false := beq_eq_false_iff_ne.mpr c14
      have c14b1 : (a0_0 != 3) = true := bne_iff_ne.mpr c14
      by_cases c18 : a0_0 = 4
      ·rw [if_pos c18] at H
       have c18b0 : (a0_0 == 4) = true := beq_iff_eq.mpr c18
       have c18b1 : (a0_0 != 4) = false := bne_eq_false_iff_eq.mpr c18
       clear c18
       obtain rfl := Option.some.inj H
       go_wp2
       go_ret
       exact ⟨by first | rfl | (simp [errW_none, errW_some] <;> rfl) | (simp [*, errW_none, errW_some] <;> rfl), by repeat (first | (with_reducible first | exact HB.out | apply below_alloc | apply pw_below_drewN | apply below_drew1 | refine below_set ?_ GE140.out) | exact HB.out)⟩
      ·rw [if_neg c18] at H
       have c18b0 : (a0_0 == 4) = false := beq_eq_false_iff_ne.mpr c18
       have c18b1 : (a0_0 != 4) = true := bne_iff_ne.mpr c18
       by_cases c19 : a0_0 = 6
       ·rw [if_pos c19] at H
        have c19b0 : (a0_0 == 6) = true := beq_iff_eq.mpr c19
        have c19b1 : (a0_0 != 6) = false := bne_eq_false_iff_eq.mpr c19
        clear c19
        obtain rfl := Option.some.inj H
        go_wp2
        go_ret
        exact ⟨by first | rfl | (simp [errW_none, errW_some] <;> rfl) | (simp [*, errW_none, errW_some] <;> rfl), by repeat (first | (with_reducible first | exact HB.out | apply below_alloc | apply pw_below_drewN | apply below_drew1 | refine below_set ?_ GE140.out) | exact HB.out)⟩
       ·rw [if_neg c19] at H
        have c19b0 : (a0_0 == 6) = false := beq_eq_false_iff_ne.mpr c19
        have c19b1 : (a0_0 != 6) = true := bne_iff_ne.mpr c19
        by_cases c20 : a0_0 = 9
        ·rw [if_pos c20] at H
         have c20b0 : (a0_0 == 9) = true := beq_iff_eq.mpr c20
         have c20b1 : (a0_0 != 9) = false := bne_eq_false_iff_eq.mpr c20
         clear c20
         obtain rfl := Option.some.inj H
         go_wp2
         go_ret
         exact ⟨by first | rfl | (simp [errW_none, errW_some] <;> rfl) | (simp [*, errW_none, errW_some] <;> rfl), by repeat (first | (with_reducible first | exact HB.out | apply below_alloc | apply pw_below_drewN | apply below_drew1 | refine below_set ?_ GE140.out) | exact HB.out)⟩
        ·rw [if_neg c20] at H
         have c20b0 : (a0_0 == 9) = false := beq_eq_false_iff_ne.mpr c20
         have c20b1 : (a0_0 != 9) = true := bne_iff_ne.mpr c20
         by_cases c21 : a0_0 = 10
         ·rw [if_pos c21] at H
          have c21b0 : (a0_0 == 10) = true := beq_iff_eq.mpr c21
          have c21b1 : (a0_0 != 10) = false := bne_eq_false_iff_eq.mpr c21
          clear c21
          obtain rfl := Option.some.inj H
          go_wp2
          go_ret
          exact ⟨by first | rfl | (simp [errW_none, errW_some] <;> rfl) | (simp [*, errW_none, errW_some] <;> rfl), by repeat (first | (with_reducible first | exact HB.out | apply below_alloc | apply pw_below_drewN | apply below_drew1 | refine below_set ?_ GE140.out) | exact HB.out)⟩
         ·rw [if_neg c21] at H
          have c21b0 : (a0_0 == 10) = false := beq_eq_false_iff_ne.mpr c21
          have c21b1 : (a0_0 != 10) = true := bne_iff_ne.mpr c21
          by_cases c22 : a0_0 = 11
          ·rw [if_pos c22] at H
           have c22b0 : (a0_0 == 11) = true := beq_iff_eq.mpr c22
           have c22b1 : (a0_0 != 11) = false := bne_eq_false_iff_eq.mpr c22
           clear c22
           obtain rfl := Option.some.inj H
           go_wp2
           go_ret
           exact ⟨by first | rfl | (simp [errW_none, errW_some] <;> rfl) | (simp [*, errW_none, errW_some] <;> rfl), by repeat (first | (with_reducible first | exact HB.out | apply below_alloc | apply pw_below_drewN | apply below_drew1 | refine below_set ?_ GE140.out) | exact HB.out)⟩
          ·rw [if_neg c22] at H
           have c22b0 : (a0_0 == 11) = false := beq_eq_false_iff_ne.mpr c22
           have c22b1 : (a0_0 != 11) = true := bne_iff_ne.mpr c22
           by_cases c23 : a0_0 = 12
           ·rw [if_pos c23] at H
            have c23b0 : (a0_0 == 12) = true := beq_iff_eq.mpr c23
            have c23b1 : (a0_0 != 12) = false := bne_eq_false_iff_eq.mpr c23
            clear c23
            obtain rfl := Option.some.inj H
            go_wp2
            go_ret
            exact ⟨by first | rfl | (simp [errW_none, errW_some] <;> rfl) | (simp [*, errW_none, errW_some] <;> rfl), by repeat (first | (with_reducible first | exact HB.out | apply below_alloc | apply pw_below_drewN | apply below_drew1 | refine below_set ?_ GE140.out) | exact HB.out)⟩
           ·rw [if_neg c23] at H
            have c23b0 : (a0_0 == 12) = false := beq_eq_false_iff_ne.mpr c23
            have c23b1 : (a0_0 != 12) = true := bne_iff_ne.mpr c23
            by_cases c24 : a0_0 = 13
            ·rw [if_pos c24] at H
             have c24b0 : (a0_0 == 13) = true := beq_iff_eq.mpr c24
             have c24b1 : (a0_0 != 13) = false := bne_eq_false_iff_eq.mpr c24
             clear c24
             obtain rfl := Option.some.inj H
             go_wp2
             go_ret
             exact ⟨by first | rfl | (simp [errW_none, errW_some] <;> rfl) | (simp [*, errW_none, errW_some] <;> rfl), by repeat (first | (with_reducible first | exact HB.out | apply below_alloc | apply pw_below_drewN | apply below_drew1 | refine below_set ?_ GE140.out) | exact HB.out)⟩
            ·rw [if_neg c24] at H
             have c24b0 : (a0_0 == 13) = false := beq_eq_false_iff_ne.mpr c24
             have c24b1 : (a0_0 != 13) = true := bne_iff_ne.mpr c24
             by_cases c25 : a0_0 = 14
             ·rw [if_pos c25] at H
              have c25b0 : (a0_0 == 14) = true := beq_iff_eq.mpr c25
              have c25b1 : (a0_0 != 14) = false := bne_eq_false_iff_eq.mpr c25
              clear c25
              obtain rfl := Option.some.inj H
              go_wp2
              go_ret
              exact ⟨by first | rfl | (simp [errW_none, errW_some] <;> rfl) | (simp [*, errW_none, errW_some] <;> rfl), by repeat (first | (with_reducible first | exact HB.out | apply below_alloc | apply pw_below_drewN | apply below_drew1 | refine below_set ?_ GE140.out) | exact HB.out)⟩
             ·rw [if_neg c25] at H
              have c25b0 : (a0_0 == 14) = false := beq_eq_false_iff_ne.mpr c25
              have c25b1 : (a0_0 != 14) = true := bne_iff_ne.mpr c25
              by_cases c26 : a0_0 = 15
              ·rw [if_pos c26] at H
               have c26b0 : (a0_0 == 15) = true := beq_iff_eq.mpr c26
               have c26b1 : (a0_0 != 15) = false := bne_eq_false_iff_eq.mpr c26
               clear c26
               obtain rfl := Option.some.inj H
               go_wp2
               go_ret
               exact ⟨by first | rfl | (simp [errW_none, errW_some] <;> rfl) | (simp [*, errW_none, errW_some] <;> rfl), by repeat (first | (with_reducible first | exact HB.out | apply below_alloc | apply pw_below_drewN | apply below_drew1 | refine below_set ?_ GE140.out) | exact HB.out)⟩
              ·rw [if_neg c26] at H
               have c26b0 : (a0_0 == 15) = false := beq_eq_false_iff_ne.mpr c26
               have c26b1 : (a0_0 != 15) = true := bne_iff_ne.mpr c26
               obtain rfl := Option.some.inj H
               go_wp2
               go_ret
               exact ⟨by first | rfl | (simp [errW_none, errW_some] <;> rfl) | (simp [*, errW_none, errW_some] <;> rfl), by repeat (first | (with_reducible first | exact HB.out | apply below_alloc | apply pw_below_drewN | apply below_drew1 | refine below_set ?_ GE140.out) | exact HB.out)⟩

end Go.Proofs.Ytcjclihkaaaihaa.PFnExactNodesVars
