-- Written by xprint.py (this claim's own program, over the kit's printer); Lean checks it.
import Derived.Test.YtcjclihkaaaihaaPFnExactNodesVarsx0
import Derived.Test.YtcjclihkaaaihaaPFnExactNodesVarsx3
namespace Go.Proofs.Ytcjclihkaaaihaa.PFnExactNodesVars
open Go.RowKit Go.Proofs.YtcjclihkaaaihaaW.PrintWords Go.Proofs.YtcjclihkaaaihaaW.PrintLast Go.Proofs.YtcjclihkaaaihaaW.PrintMore
attribute [local go_sem] max2_int min2_int max_two min_two max_three min_three max_four min_four   -- for this text's walks alone
set_option linter.unusedVariables false
set_option linter.unusedSimpArgs false   -- squeezed

/-! ### spec_l11End: function 59 -/
mutual
def spec_l11End.j0 : Nat → List (S95) → Int → Int → Int → Bool → Option (Int)
 | 0, _, _, _, _, _ => none
 | k + 1, x0, x1, x2, x3, x29 => if x29 = true then (some (-1)) else (if 0 ≤ x1 then (if x1 < (x0.length : Int) then (if x2 = 98 then (if ((rd_T95 x0 x1).f0) = 1 then (if x2 = 115 then ((spec_l11Stmt.f ((rd_T95 x0 x1).f0)).bind fun t145 => (if t145 = true then (if x2 = 101 then ((spec_l11Expr.f ((rd_T95 x0 x1).f0)).bind fun t146 => (spec_l11End.j1 k x0 x1 x3 (!t146) ((rd_T95 x0 x1).f0) ((rd_T95 x0 x1).f1) ((rd_T95 x0 x1).f2) ((rd_T95 x0 x1).f3))) else (spec_l11End.j1 k x0 x1 x3 false ((rd_T95 x0 x1).f0) ((rd_T95 x0 x1).f1) ((rd_T95 x0 x1).f2) ((rd_T95 x0 x1).f3))) else (spec_l11End.j1 k x0 x1 x3 true ((rd_T95 x0 x1).f0) ((rd_T95 x0 x1).f1) ((rd_T95 x0 x1).f2) ((rd_T95 x0 x1).f3)))) else (if x2 = 101 then ((spec_l11Expr.f ((rd_T95 x0 x1).f0)).bind fun t147 => (spec_l11End.j1 k x0 x1 x3 (!t147) ((rd_T95 x0 x1).f0) ((rd_T95 x0 x1).f1) ((rd_T95 x0 x1).f2) ((rd_T95 x0 x1).f3))) else (spec_l11End.j1 k x0 x1 x3 false ((rd_T95 x0 x1).f0) ((rd_T95 x0 x1).f1) ((rd_T95 x0 x1).f2) ((rd_T95 x0 x1).f3)))) else (spec_l11End.j1 k x0 x1 x3 true ((rd_T95 x0 x1).f0) ((rd_T95 x0 x1).f1) ((rd_T95 x0 x1).f2) ((rd_T95 x0 x1).f3))) else (if x2 = 115 then ((spec_l11Stmt.f ((rd_T95 x0 x1).f0)).bind fun t148 => (if t148 = true then (if x2 = 101 then ((spec_l11Expr.f ((rd_T95 x0 x1).f0)).bind fun t149 => (spec_l11End.j1 k x0 x1 x3 (!t149) ((rd_T95 x0 x1).f0) ((rd_T95 x0 x1).f1) ((rd_T95 x0 x1).f2) ((rd_T95 x0 x1).f3))) else (spec_l11End.j1 k x0 x1 x3 false ((rd_T95 x0 x1).f0) ((rd_T95 x0 x1).f1) ((rd_T95 x0 x1).f2) ((rd_T95 x0 x1).f3))) else (spec_l11End.j1 k x0 x1 x3 true ((rd_T95 x0 x1).f0) ((rd_T95 x0 x1).f1) ((rd_T95 x0 x1).f2) ((rd_T95 x0 x1).f3)))) else (if x2 = 101 then ((spec_l11Expr.f ((rd_T95 x0 x1).f0)).bind fun t150 => (spec_l11End.j1 k x0 x1 x3 (!t150) ((rd_T95 x0 x1).f0) ((rd_T95 x0 x1).f1) ((rd_T95 x0 x1).f2) ((rd_T95 x0 x1).f3))) else (spec_l11End.j1 k x0 x1 x3 false ((rd_T95 x0 x1).f0) ((rd_T95 x0 x1).f1) ((rd_T95 x0 x1).f2) ((rd_T95 x0 x1).f3))))) else (none)) else (none))
def spec_l11End.j1 : Nat → List (S95) → Int → Int → Bool → Int → Int → ByteArray → Int → Option (Int)
 | 0, _, _, _, _, _, _, _, _ => none
 | k + 1, x0, x1, x3, x60, x145000, x145001, x145002, x145003 => if x60 = true then (some (-1)) else ((spec_l11Kids.f k x145000 x145001 x145002 x145003).bind fun t151 => (if t151.toList = ([42] : List UInt8) then (if x145003 < 0 then (spec_l11End.j2 k x0 x1 x3 t151 true x145000 x145001 x145002 x145003) else (spec_l11End.j2 k x0 x1 x3 t151 (decide (x145003 > 200)) x145000 x145001 x145002 x145003)) else (if x145003 = (t151.size : Int) then (if x145003 < 0 then (spec_l11End.j2 k x0 x1 x3 t151 true x145000 x145001 x145002 x145003) else (spec_l11End.j2 k x0 x1 x3 t151 (decide (x145003 > 200)) x145000 x145001 x145002 x145003)) else (spec_l11End.j2 k x0 x1 x3 t151 true x145000 x145001 x145002 x145003))))
def spec_l11End.j2 : Nat → List (S95) → Int → Int → ByteArray → Bool → Int → Int → ByteArray → Int → Option (Int)
 | 0, _, _, _, _, _, _, _, _, _ => none
 | k + 1, x0, x1, x3, x10, x81, x145000, x145001, x145002, x145003 => if x81 = true then (some (-1)) else (spec_l11End.l0 k x0 x3 x10 (wrap64 (x1 + 1)) 0 x145000 x145001 x145002 x145003)
def spec_l11End.l0 : Nat → List (S95) → Int → ByteArray → Int → Int → Int → Int → ByteArray → Int → Option (Int)
 | 0, _, _, _, _, _, _, _, _, _ => none
 | k + 1, x0, x3, x10, x11, x12, x145000, x145001, x145002, x145003 => if x12 < x145003 then (if x10.toList = ([42] : List UInt8) then ((spec_l11End.f k x0 x11 115 (wrap64 (x3 + 1))).bind fun t152 => (if t152 < 0 then (some (-1)) else (spec_l11End.l0 k x0 x3 x10 t152 (wrap64 (x12 + 1)) x145000 x145001 x145002 x145003))) else (if 0 ≤ x12 then (if x12 < (x10.size : Int) then ((spec_l11End.f k x0 x11 (bt x10 x12) (wrap64 (x3 + 1))).bind fun t153 => (if t153 < 0 then (some (-1)) else (spec_l11End.l0 k x0 x3 x10 t153 (wrap64 (x12 + 1)) x145000 x145001 x145002 x145003))) else (none)) else (none))) else (some x11)
def spec_l11End.f : Nat → List (S95) → Int → Int → Int → Option (Int)
 | 0, _, _, _, _ => none
 | k + 1, l0, a1, a2, a3 => if a1 ≥ (l0.length : Int) then (spec_l11End.j0 k l0 a1 a2 a3 true) else (if a3 > 20 then (spec_l11End.j0 k l0 a1 a2 a3 true) else (if 0 ≤ a1 then (if a1 < (l0.length : Int) then ((spec_l11Own.f k ((rd_T95 l0 a1).f0) ((rd_T95 l0 a1).f1) ((rd_T95 l0 a1).f2) ((rd_T95 l0 a1).f3)).bind fun t142 => (spec_l11End.j0 k l0 a1 a2 a3 (!t142))) else (none)) else (none)))
end
theorem spec_l11End.mono_l : ∀ k, (∀ y0 y1 y2 y3, LeO (spec_l11End.f k y0 y1 y2 y3) (spec_l11End.f (k + 1) y0 y1 y2 y3)) ∧ (∀ y0 y1 y2 y3 y4, LeO (spec_l11End.j0 k y0 y1 y2 y3 y4) (spec_l11End.j0 (k + 1) y0 y1 y2 y3 y4)) ∧ (∀ y0 y1 y2 y3 y4 y5 y6 y7, LeO (spec_l11End.j1 k y0 y1 y2 y3 y4 y5 y6 y7) (spec_l11End.j1 (k + 1) y0 y1 y2 y3 y4 y5 y6 y7)) ∧ (∀ y0 y1 y2 y3 y4 y5 y6 y7 y8, LeO (spec_l11End.j2 k y0 y1 y2 y3 y4 y5 y6 y7 y8) (spec_l11End.j2 (k + 1) y0 y1 y2 y3 y4 y5 y6 y7 y8)) ∧ (∀ y0 y1 y2 y3 y4 y5 y6 y7 y8, LeO (spec_l11End.l0 k y0 y1 y2 y3 y4 y5 y6 y7 y8) (spec_l11End.l0 (k + 1) y0 y1 y2 y3 y4 y5 y6 y7 y8))
 | 0 => ⟨fun _ _ _ _ r h => by simp [spec_l11End.f] at h, fun _ _ _ _ _ r h => by simp [spec_l11End.j0] at h, fun _ _ _ _ _ _ _ _ r h => by simp [spec_l11End.j1] at h, fun _ _ _ _ _ _ _ _ _ r h => by simp [spec_l11End.j2] at h, fun _ _ _ _ _ _ _ _ _ r h => by simp [spec_l11End.l0] at h⟩
 | k + 1 => by
  obtain ⟨ih0, ih1, ih2, ih3, ih4⟩ := spec_l11End.mono_l k
  refine ⟨?_, ?_, ?_, ?_, ?_⟩
  ·intro y0 y1 y2 y3
   unfold spec_l11End.f
   repeat' first
   | (with_reducible exact ih0 _ _ _ _)
   | (with_reducible exact ih1 _ _ _ _ _)
   | (with_reducible exact ih2 _ _ _ _ _ _ _ _)
   | (with_reducible exact ih3 _ _ _ _ _ _ _ _ _)
   | (with_reducible exact ih4 _ _ _ _ _ _ _ _ _)
   | (with_reducible exact spec_l11Kids.mono _ _ _ _ _)
   | (with_reducible exact spec_l11Own.mono _ _ _ _ _)
   | (with_reducible exact LeO.refl _)
   | (with_reducible exact LeO.none _)
   | (with_reducible refine LeO.ite ?_ ?_)
   | (with_reducible refine LeO.bind ?_ (fun _ => ?_))
   | exact ih0 _ _ _ _
   | exact ih1 _ _ _ _ _
   | exact ih2 _ _ _ _ _ _ _ _
   | exact ih3 _ _ _ _ _ _ _ _ _
   | exact ih4 _ _ _ _ _ _ _ _ _
   | exact spec_l11Kids.mono _ _ _ _ _
   | exact spec_l11Own.mono _ _ _ _ _
   | refine LeO.bind ?_ (fun _ => ?_)
  ·intro y0 y1 y2 y3 y4
   unfold spec_l11End.j0
   repeat' first
   | (with_reducible exact ih0 _ _ _ _)
   | (with_reducible exact ih1 _ _ _ _ _)
   | (with_reducible exact ih2 _ _ _ _ _ _ _ _)
   | (with_reducible exact ih3 _ _ _ _ _ _ _ _ _)
   | (with_reducible exact ih4 _ _ _ _ _ _ _ _ _)
   | (with_reducible exact spec_l11Kids.mono _ _ _ _ _)
   | (with_reducible exact spec_l11Own.mono _ _ _ _ _)
   | (with_reducible exact LeO.refl _)
   | (with_reducible exact LeO.none _)
   | (with_reducible refine LeO.ite ?_ ?_)
   | (with_reducible refine LeO.bind ?_ (fun _ => ?_))
   | exact ih0 _ _ _ _
   | exact ih1 _ _ _ _ _
   | exact ih2 _ _ _ _ _ _ _ _
   | exact ih3 _ _ _ _ _ _ _ _ _
   | exact ih4 _ _ _ _ _ _ _ _ _
   | exact spec_l11Kids.mono _ _ _ _ _
   | exact spec_l11Own.mono _ _ _ _ _
   | refine LeO.bind ?_ (fun _ => ?_)
  ·intro y0 y1 y2 y3 y4 y5 y6 y7
   unfold spec_l11End.j1
   repeat' first
   | (with_reducible exact ih0 _ _ _ _)
   | (with_reducible exact ih1 _ _ _ _ _)
   | (with_reducible exact ih2 _ _ _ _ _ _ _ _)
   | (with_reducible exact ih3 _ _ _ _ _ _ _ _ _)
   | (with_reducible exact ih4 _ _ _ _ _ _ _ _ _)
   | (with_reducible exact spec_l11Kids.mono _ _ _ _ _)
   | (with_reducible exact spec_l11Own.mono _ _ _ _ _)
   | (with_reducible exact LeO.refl _)
   | (with_reducible exact LeO.none _)
   | (with_reducible refine LeO.ite ?_ ?_)
   | (with_reducible refine LeO.bind ?_ (fun _ => ?_))
   | exact ih0 _ _ _ _
   | exact ih1 _ _ _ _ _
   | exact ih2 _ _ _ _ _ _ _ _
   | exact ih3 _ _ _ _ _ _ _ _ _
   | exact ih4 _ _ _ _ _ _ _ _ _
   | exact spec_l11Kids.mono _ _ _ _ _
   | exact spec_l11Own.mono _ _ _ _ _
   | refine LeO.bind ?_ (fun _ => ?_)
  ·intro y0 y1 y2 y3 y4 y5 y6 y7 y8
   unfold spec_l11End.j2
   repeat' first
   | (with_reducible exact ih0 _ _ _ _)
   | (with_reducible exact ih1 _ _ _ _ _)
   | (with_reducible exact ih2 _ _ _ _ _ _ _ _)
   | (with_reducible exact ih3 _ _ _ _ _ _ _ _ _)
   | (with_reducible exact ih4 _ _ _ _ _ _ _ _ _)
   | (with_reducible exact spec_l11Kids.mono _ _ _ _ _)
   | (with_reducible exact spec_l11Own.mono _ _ _ _ _)
   | (with_reducible exact LeO.refl _)
   | (with_reducible exact LeO.none _)
   | (with_reducible refine LeO.ite ?_ ?_)
   | (with_reducible refine LeO.bind ?_ (fun _ => ?_))
   | exact ih0 _ _ _ _
   | exact ih1 _ _ _ _ _
   | exact ih2 _ _ _ _ _ _ _ _
   | exact ih3 _ _ _ _ _ _ _ _ _
   | exact ih4 _ _ _ _ _ _ _ _ _
   | exact spec_l11Kids.mono _ _ _ _ _
   | exact spec_l11Own.mono _ _ _ _ _
   | refine LeO.bind ?_ (fun _ => ?_)
  ·intro y0 y1 y2 y3 y4 y5 y6 y7 y8
   unfold spec_l11End.l0
   repeat' first
   | (with_reducible exact ih0 _ _ _ _)
   | (with_reducible exact ih1 _ _ _ _ _)
   | (with_reducible exact ih2 _ _ _ _ _ _ _ _)
   | (with_reducible exact ih3 _ _ _ _ _ _ _ _ _)
   | (with_reducible exact ih4 _ _ _ _ _ _ _ _ _)
   | (with_reducible exact spec_l11Kids.mono _ _ _ _ _)
   | (with_reducible exact spec_l11Own.mono _ _ _ _ _)
   | (with_reducible exact LeO.refl _)
   | (with_reducible exact LeO.none _)
   | (with_reducible refine LeO.ite ?_ ?_)
   | (with_reducible refine LeO.bind ?_ (fun _ => ?_))
   | exact ih0 _ _ _ _
   | exact ih1 _ _ _ _ _
   | exact ih2 _ _ _ _ _ _ _ _
   | exact ih3 _ _ _ _ _ _ _ _ _
   | exact ih4 _ _ _ _ _ _ _ _ _
   | exact spec_l11Kids.mono _ _ _ _ _
   | exact spec_l11Own.mono _ _ _ _ _
   | refine LeO.bind ?_ (fun _ => ?_)
theorem spec_l11End.mono : ∀ a0 a1 a2 a3 k, LeO (spec_l11End.f k a0 a1 a2 a3) (spec_l11End.f (k + 1) a0 a1 a2 a3) := by
 intro a0 a1 a2 a3 k
 obtain ⟨ih0, ih1, ih2, ih3, ih4⟩ := spec_l11End.mono_l k
 exact ih0 a0 a1 a2 a3
set_option maxHeartbeats 8000000 in
set_option maxRecDepth 100000 in
theorem spec_l11End.calls (k : Nat) : ∀ (A0 : Option Addr) (c0 : Nat) (l0 : List (S95)) (a1 : Int) (a2 : Int) (a3 : Int) (r : Int) (w : World) (hr0 : Kd.C k95 w A0 l0.length l0) (hc0 : l0.length ≤ c0) (h : spec_l11End.f k l0 a1 a2 a3 = some r),
  Calls Try.prog 59 #[.slice A0 l0.length c0, .int .i64 a1, .int .u8 a2, .int .i64 a3] w fun e w' => e = .returned (.int .i64 r) ∧ Below w.heap.size w w' := by
 induction k using Nat.strongRecOn with
 | _ k ih =>
 intro A0 c0 l0 a1 a2 a3 r w hr0 hc0 h
 cases k with
 | zero => exact absurd h (by simp [spec_l11End.f])
 | succ k =>
 simp only [spec_l11End.f] at h
 have hu95 := Try.underlying95
 have HR0 := am hr0
 have HC0 := am hc0
 clear hr0 hc0
 have HB := am (Below.refl w.heap.size w)
 have H : (if a1 ≥ (l0.length : Int) then (spec_l11End.j0 k l0 a1 a2 a3 true) else (if a3 > 20 then (spec_l11End.j0 k l0 a1 a2 a3 true) else (if 0 ≤ a1 then (if a1 < (l0.length : Int) then ((spec_l11Own.f k ((rd_T95 l0 a1).f0) ((rd_T95 l0 a1).f1) ((rd_T95 l0 a1).f2) ((rd_T95 l0 a1).f3)).bind fun t142 => (spec_l11End.j0 k l0 a1 a2 a3 (!t142))) else (none)) else (none)))) = some r := h
 clear h
 have HC5 := Aside0.mk H
 clear H
 go_enter Try.func59, Try.ntmps59
 go_upto_region 1 with (fail)
 go_cut [29] (fun v29 wc => ∃ (kq : Nat) (x29_4 : Bool), v29 = .bool x29_4 ∧ Aside0 (spec_l11End.j0 kq l0 a1 a2 a3 x29_4 = some r) ∧ Aside0 (kq ≤ k) ∧ Aside0 (Below w.heap.size w wc))
 case first =>
  have H := HC5.out
  clear HC5
  by_cases c6 : a1 ≥ (l0.length : Int)
  ·rw [if_pos c6] at H
   have c6b0 : decide ((l0.length : Int) ≤ a1) = true := decide_eq_true c6
   clear c6
   (first | rw [c6b0] | (simp only [i64_w, i32_w]; rw [c6b0]) | (have e9_ := c6b0; unfold bne at e9_; rw [e9_]) | skip)
   have H' := Aside0.mk H
   clear H
   go_wp2
   go_meet
   case rel => exact ⟨_, (true), (by first | rfl | (simp; done) | (simp [*]; done)), H', ⟨by first | omega | exact Nat.le_refl _⟩, ⟨by repeat (first | (with_reducible first | exact HB.out | apply below_alloc | apply pw_below_drewN | apply below_drew1) | exact HB.out)⟩⟩
  ·rw [if_neg c6] at H
   have c6b0 : decide ((l0.length : Int) ≤ a1) = false := decide_eq_false c6
   clear c6
   (first | rw [c6b0] | (simp only [i64_w, i32_w]; rw [c6b0]) | (have e9_ := c6b0; unfold bne at e9_; rw [e9_]) | skip)
   by_cases c7 : a3 > 20
   ·rw [if_pos c7] at H
    have c7b0 : decide (20 < a3) = true := decide_eq_true c7
    clear c7
    have H' := Aside0.mk H
    clear H
    go_wp2
    go_meet
    case rel => exact ⟨_, (true), (by first | rfl | (simp; done) | (simp [*]; done)), H', ⟨by first | omega | exact Nat.le_refl _⟩, ⟨by repeat (first | (with_reducible first | exact HB.out | apply below_alloc | apply pw_below_drewN | apply below_drew1) | exact HB.out)⟩⟩
   ·rw [if_neg c7] at H
    have c7b0 : decide (20 < a3) = false := decide_eq_false c7
    clear c7
    by_cases c8 : 0 ≤ a1
    ·rw [if_pos c8] at H
     have c8b0 : decide (0 ≤ a1) = true := decide_eq_true c8
     clear c8
     by_cases c9 : a1 < (l0.length : Int)
     ·rw [if_pos c9] at H
      have c9b0 : decide (a1 < (l0.length : Int)) = true := decide_eq_true c9
      clear c9
      replace H := Option.bind_eq_some_iff.mp H
      obtain ⟨t142, A100, H⟩ := H
      replace H : (spec_l11End.j0 k l0 a1 a2 a3 (!t142)) = some r := H
      have A10 := Aside0.mk A100
      clear A100
      have H' := Aside0.mk H
      clear H
      have p141 : 0 ≤ (a1 : Int) := of_decide_eq_true (by first | (with_reducible assumption) | assumption)
      have q141 : a1 < (l0.length : Int) := of_decide_eq_true (by first | (with_reducible assumption) | assumption)
      obtain ⟨ad141, e141, hx141_0, hx141_1, hx141_2, hx141_3⟩ := at_T95 HR0.out a1 p141 q141
      cases e141
      replace hx141_0 := (HB.out.cell (World.block_lt_of_cell? w _ hx141_0)).trans hx141_0
      replace hx141_1 := (HB.out.cell (World.block_lt_of_cell? w _ hx141_1)).trans hx141_1
      replace hx141_2 := (HB.out.cell (World.block_lt_of_cell? w _ hx141_2)).trans hx141_2
      replace hx141_3 := (HB.out.cell (World.block_lt_of_cell? w _ hx141_3)).trans hx141_3
      replace p141 := eq_true p141
      replace q141 := eq_true q141
      go_wp2_with (first | (go_at_call 81; (with_reducible refine (spec_l11Own.calls k ((rd_T95 l0 a1).f0) ((rd_T95 l0 a1).f1) ((rd_T95 l0 a1).f2) ((rd_T95 l0 a1).f3) t142 _ A10.out).mono ?_); rintro e w11 ⟨rfl, hb⟩; replace HB := am (below_step (bl HB.out) hb); (try clear hb); (try clear hb2); (try clear hk); (try clear hi)))
      go_meet
      case rel => exact ⟨_, (!t142), (by first | rfl | (simp; done) | (simp [*]; done)), H', ⟨by first | omega | exact Nat.le_refl _⟩, ⟨by repeat (first | (with_reducible first | exact HB.out | apply below_alloc | apply pw_below_drewN | apply below_drew1) | exact HB.out)⟩⟩
     ·rw [if_neg c9] at H
      exact absurd H (by simp)
    ·rw [if_neg c8] at H
     exact absurd H (by simp)
 case rest =>
  clear HC5
  try clear p1
  try clear q1
  try clear hx1
  try clear p2
  try clear c5
  try clear c6
  try clear c6b0
  try clear c7
  try clear c7b0
  try clear c8
  try clear c8b0
  try clear c9
  try clear c9b0
  try clear hx141_0
  try clear hx141_1
  try clear hx141_2
  try clear hx141_3
  try clear p141
  try clear q141
  obtain ⟨kq, x29_4, rfl, HA, HJ4, HB⟩ := hcut
  cases kq with
  | zero => exact absurd HA.out (by simp [spec_l11End.j0])
  | succ kj4 =>
   have H := HA.out
   clear HA
   simp only [spec_l11End.j0] at H
   by_cases c12 : x29_4 = true
   ·subst c12
    have H1 : (some (-1)) = some r := by rw [if_pos rfl] at H; exact H
    clear H
    have H := H1
    clear H1
    obtain rfl := Option.some.inj H
    go_wp2
    go_ret
    exact ⟨by first | rfl | (simp [errW_none, errW_some] <;> rfl) | (simp [*, errW_none, errW_some] <;> rfl), by repeat (first | (with_reducible first | exact HB.out | apply below_alloc | apply pw_below_drewN | apply below_drew1) | exact HB.out)⟩
   ·replace c12 := Bool.eq_false_iff.mpr c12
    subst c12
    have H1 : (if 0 ≤ a1 then (if a1 < (l0.length : Int) then (if a2 = 98 then (if ((rd_T95 l0 a1).f0) = 1 then (if a2 = 115 then ((spec_l11Stmt.f ((rd_T95 l0 a1).f0)).bind fun t145 => (if t145 = true then (if a2 = 101 then ((spec_l11Expr.f ((rd_T95 l0 a1).f0)).bind fun t146 => (spec_l11End.j1 kj4 l0 a1 a3 (!t146) ((rd_T95 l0 a1).f0) ((rd_T95 l0 a1).f1) ((rd_T95 l0 a1).f2) ((rd_T95 l0 a1).f3))) else (spec_l11End.j1 kj4 l0 a1 a3 false ((rd_T95 l0 a1).f0) ((rd_T95 l0 a1).f1) ((rd_T95 l0 a1).f2) ((rd_T95 l0 a1).f3))) else (spec_l11End.j1 kj4 l0 a1 a3 true ((rd_T95 l0 a1).f0) ((rd_T95 l0 a1).f1) ((rd_T95 l0 a1).f2) ((rd_T95 l0 a1).f3)))) else (if a2 = 101 then ((spec_l11Expr.f ((rd_T95 l0 a1).f0)).bind fun t147 => (spec_l11End.j1 kj4 l0 a1 a3 (!t147) ((rd_T95 l0 a1).f0) ((rd_T95 l0 a1).f1) ((rd_T95 l0 a1).f2) ((rd_T95 l0 a1).f3))) else (spec_l11End.j1 kj4 l0 a1 a3 false ((rd_T95 l0 a1).f0) ((rd_T95 l0 a1).f1) ((rd_T95 l0 a1).f2) ((rd_T95 l0 a1).f3)))) else (spec_l11End.j1 kj4 l0 a1 a3 true ((rd_T95 l0 a1).f0) ((rd_T95 l0 a1).f1) ((rd_T95 l0 a1).f2) ((rd_T95 l0 a1).f3))) else (if a2 = 115 then ((spec_l11Stmt.f ((rd_T95 l0 a1).f0)).bind fun t148 => (if t148 = true then (if a2 = 101 then ((spec_l11Expr.f ((rd_T95 l0 a1).f0)).bind fun t149 => (spec_l11End.j1 kj4 l0 a1 a3 (!t149) ((rd_T95 l0 a1).f0) ((rd_T95 l0 a1).f1) ((rd_T95 l0 a1).f2) ((rd_T95 l0 a1).f3))) else (spec_l11End.j1 kj4 l0 a1 a3 false ((rd_T95 l0 a1).f0) ((rd_T95 l0 a1).f1) ((rd_T95 l0 a1).f2) ((rd_T95 l0 a1).f3))) else (spec_l11End.j1 kj4 l0 a1 a3 true ((rd_T95 l0 a1).f0) ((rd_T95 l0 a1).f1) ((rd_T95 l0 a1).f2) ((rd_T95 l0 a1).f3)))) else (if a2 = 101 then ((spec_l11Expr.f ((rd_T95 l0 a1).f0)).bind fun t150 => (spec_l11End.j1 kj4 l0 a1 a3 (!t150) ((rd_T95 l0 a1).f0) ((rd_T95 l0 a1).f1) ((rd_T95 l0 a1).f2) ((rd_T95 l0 a1).f3))) else (spec_l11End.j1 kj4 l0 a1 a3 false ((rd_T95 l0 a1).f0) ((rd_T95 l0 a1).f1) ((rd_T95 l0 a1).f2) ((rd_T95 l0 a1).f3))))) else (none)) else (none)) = some r := by rw [if_neg (show ¬ (false = true) by decide)] at H; exact H
    clear H
    have H := H1
    clear H1
    by_cases c13 : 0 ≤ a1
    ·rw [if_pos c13] at H
     have c13b0 : decide (0 ≤ a1) = true := decide_eq_true c13
     clear c13
     by_cases c14 : a1 < (l0.length : Int)
     ·rw [if_pos c14] at H
      have c14b0 : decide (a1 < (l0.length : Int)) = true := decide_eq_true c14
      clear c14
      have HC15 := Aside0.mk H
      clear H
      have p143 : 0 ≤ (a1 : Int) := of_decide_eq_true (by first | (with_reducible assumption) | assumption)
      have q143 : a1 < (l0.length : Int) := of_decide_eq_true (by first | (with_reducible assumption) | assumption)
      obtain ⟨ad143, e143, hx143_0, hx143_1, hx143_2, hx143_3⟩ := at_T95 HR0.out a1 p143 q143
      cases e143
      replace hx143_0 := (HB.out.cell (World.block_lt_of_cell? w _ hx143_0)).trans hx143_0
      replace hx143_1 := (HB.out.cell (World.block_lt_of_cell? w _ hx143_1)).trans hx143_1
      replace hx143_2 := (HB.out.cell (World.block_lt_of_cell? w _ hx143_2)).trans hx143_2
      replace hx143_3 := (HB.out.cell (World.block_lt_of_cell? w _ hx143_3)).trans hx143_3
      replace p143 := eq_true p143
      replace q143 := eq_true q143
      go_upto_region 4 with (first | ((with_reducible refine gate_dst (N := 9) rfl ?_); (try (refine gate_guard (by rfl) ?_; dsimp only)); refine box_event ?hg (N := 9) ?hd (cs := #[.int .i64 0, .int .i64 0, .string (⟨#[]⟩ : ByteArray), .int .i64 0]) (t := 95) ?hr ?_; (case hd => rfl); (case hg => rfl); (case hr => first | (go_simp; done) | (go_simp; rfl)); intro gb144 hg w16 hbox hb; have BK144 := am (hbox); have GW144 := am ((by rw [hg]; exact (below_size (bl HB.out)) : w.heap.size ≤ gb144)); have GE144 := GW144; replace HB := am (below_step (bl HB.out) hb); clear hb hbox hg; have hcz17_0 : w16.cell? ⟨gb144, 0, none⟩ = some (.int .i64 0) := bc BK144.out 0; have hcz17_1 : w16.cell? ⟨gb144, 1, none⟩ = some (.int .i64 0) := bc BK144.out 1; have hcz17_2 : w16.cell? ⟨gb144, 2, none⟩ = some (.string (⟨#[]⟩ : ByteArray)) := bc BK144.out 2; have hcz17_3 : w16.cell? ⟨gb144, 3, none⟩ = some (.int .i64 0) := bc BK144.out 3; have hfz17_0 := blk_frozen BK144.out 0; have hfz17_1 := blk_frozen BK144.out 1; have hfz17_2 := blk_frozen BK144.out 2; have hfz17_3 := blk_frozen BK144.out 3))
      (try simp only [Act.put, sa_, s0_, ss_])
      go_cut [60] (fun v60 wc => ∃ (kq : Nat) (x60_14 : Bool), v60 = .bool x60_14 ∧ Aside0 (spec_l11End.j1 kq l0 a1 a3 x60_14 ((rd_T95 l0 a1).f0) ((rd_T95 l0 a1).f1) ((rd_T95 l0 a1).f2) ((rd_T95 l0 a1).f3) = some r) ∧ Aside0 (kq ≤ kj4) ∧ Aside0 (wc.heap[gb144]? = some (.cells #[.int .i64 ((rd_T95 l0 a1).f0), .int .i64 ((rd_T95 l0 a1).f1), .string ((rd_T95 l0 a1).f2), .int .i64 ((rd_T95 l0 a1).f3)] 95 (0, 0))) ∧ Aside0 (Below w.heap.size w wc))
      case first =>
       have H := HC15.out
       clear HC15
       by_cases c18 : a2 = 98
       ·rw [if_pos c18] at H
        have c18b0 : (a2 == 98) = true := beq_iff_eq.mpr c18
        have c18b1 : (a2 != 98) = false := bne_eq_false_iff_eq.mpr c18
        clear c18
        (first | rw [c18b0] | (simp only [i64_w, i32_w]; rw [c18b0]) | (have e9_ := c18b0; unfold bne at e9_; rw [e9_]) | skip)
        by_cases c19 : ((rd_T95 l0 a1).f0) = 1
        ·rw [if_pos c19] at H
         have c19b0 : (((rd_T95 l0 a1).f0) == 1) = true := beq_iff_eq.mpr c19
         have c19b1 : (((rd_T95 l0 a1).f0) != 1) = false := bne_eq_false_iff_eq.mpr c19
         clear c19
         by_cases c20 : a2 = 115
         ·rw [if_pos c20] at H
          have c20b0 : (a2 == 115) = true := beq_iff_eq.mpr c20
          have c20b1 : (a2 != 115) = false := bne_eq_false_iff_eq.mpr c20
          clear c20
          replace H := Option.bind_eq_some_iff.mp H
          obtain ⟨t145, A210, H⟩ := H
          replace H : (if t145 = true then (if a2 = 101 then ((spec_l11Expr.f ((rd_T95 l0 a1).f0)).bind fun t146 => (spec_l11End.j1 kj4 l0 a1 a3 (!t146) ((rd_T95 l0 a1).f0) ((rd_T95 l0 a1).f1) ((rd_T95 l0 a1).f2) ((rd_T95 l0 a1).f3))) else (spec_l11End.j1 kj4 l0 a1 a3 false ((rd_T95 l0 a1).f0) ((rd_T95 l0 a1).f1) ((rd_T95 l0 a1).f2) ((rd_T95 l0 a1).f3))) else (spec_l11End.j1 kj4 l0 a1 a3 true ((rd_T95 l0 a1).f0) ((rd_T95 l0 a1).f1) ((rd_T95 l0 a1).f2) ((rd_T95 l0 a1).f3))) = some r := H
          have A21 := Aside0.mk A210
          clear A210
          by_cases c22 : t145 = true
          ·subst c22
           have H1 : (if a2 = 101 then ((spec_l11Expr.f ((rd_T95 l0 a1).f0)).bind fun t146 => (spec_l11End.j1 kj4 l0 a1 a3 (!t146) ((rd_T95 l0 a1).f0) ((rd_T95 l0 a1).f1) ((rd_T95 l0 a1).f2) ((rd_T95 l0 a1).f3))) else (spec_l11End.j1 kj4 l0 a1 a3 false ((rd_T95 l0 a1).f0) ((rd_T95 l0 a1).f1) ((rd_T95 l0 a1).f2) ((rd_T95 l0 a1).f3))) = some r := by rw [if_pos rfl] at H; exact H
           clear H
           have H := H1
           clear H1
           by_cases c23 : a2 = 101
           ·rw [if_pos c23] at H
            have c23b0 : (a2 == 101) = true := beq_iff_eq.mpr c23
            have c23b1 : (a2 != 101) = false := bne_eq_false_iff_eq.mpr c23
            clear c23
            replace H := Option.bind_eq_some_iff.mp H
            obtain ⟨t146, A240, H⟩ := H
            replace H : (spec_l11End.j1 kj4 l0 a1 a3 (!t146) ((rd_T95 l0 a1).f0) ((rd_T95 l0 a1).f1) ((rd_T95 l0 a1).f2) ((rd_T95 l0 a1).f3)) = some r := H
            have A24 := Aside0.mk A240
            clear A240
            have H' := Aside0.mk H
            clear H
            have hcz25_0 : w16.cell? ⟨gb144, 0, none⟩ = some (.int .i64 0) := bc BK144.out 0
            have hcz25_1 : w16.cell? ⟨gb144, 1, none⟩ = some (.int .i64 0) := bc BK144.out 1
            have hcz25_2 : w16.cell? ⟨gb144, 2, none⟩ = some (.string (⟨#[]⟩ : ByteArray)) := bc BK144.out 2
            have hcz25_3 : w16.cell? ⟨gb144, 3, none⟩ = some (.int .i64 0) := bc BK144.out 3
            have hfz25_0 := blk_frozen BK144.out 0
            have hfz25_1 := blk_frozen BK144.out 1
            have hfz25_2 := blk_frozen BK144.out 2
            have hfz25_3 := blk_frozen BK144.out 3
            go_wp2_with (first | (go_at_call 82; (with_reducible refine (spec_l11Stmt.calls ((rd_T95 l0 a1).f0) true _ A21.out).mono ?_); rintro e w' ⟨rfl, ⟨nd, rfl⟩⟩) | (go_at_call 83; (with_reducible refine (spec_l11Expr.calls ((rd_T95 l0 a1).f0) t146 _ A24.out).mono ?_); rintro e w' ⟨rfl, ⟨nd, rfl⟩⟩))
            go_meet
            case rel => exact ⟨_, (!t146), (by first | rfl | (simp; done) | (simp [*]; done)), H', ⟨by have := HJ4.out; first | omega | exact Nat.le_refl _⟩, ⟨by refine pk ?_; refine blk_put (cs := #[.int .i64 ((rd_T95 l0 a1).f0), .int .i64 ((rd_T95 l0 a1).f1), .string ((rd_T95 l0 a1).f2), .int .i64 0]) ?_ 3 _ rfl; refine pk ?_; refine blk_put (cs := #[.int .i64 ((rd_T95 l0 a1).f0), .int .i64 ((rd_T95 l0 a1).f1), .string (⟨#[]⟩ : ByteArray), .int .i64 0]) ?_ 2 _ rfl; refine pk ?_; refine blk_put (cs := #[.int .i64 ((rd_T95 l0 a1).f0), .int .i64 0, .string (⟨#[]⟩ : ByteArray), .int .i64 0]) ?_ 1 _ rfl; refine pk ?_; refine blk_put (cs := #[.int .i64 0, .int .i64 0, .string (⟨#[]⟩ : ByteArray), .int .i64 0]) ?_ 0 _ rfl; refine pk ?_; exact BK144.out⟩, ⟨by repeat (first | (with_reducible first | exact HB.out | apply below_alloc | apply pw_below_drewN | apply below_drew1 | refine below_set ?_ GE144.out) | exact HB.out)⟩⟩
           ·rw [if_neg c23] at H
            have c23b0 : (a2 == 101) = false := beq_eq_false_iff_ne.mpr c23
            have c23b1 : (a2 != 101) = true := bne_iff_ne.mpr c23
            have H' := Aside0.mk H
            clear H
            have hcz26_0 : w16.cell? ⟨gb144, 0, none⟩ = some (.int .i64 0) := bc BK144.out 0
            have hcz26_1 : w16.cell? ⟨gb144, 1, none⟩ = some (.int .i64 0) := bc BK144.out 1
            have hcz26_2 : w16.cell? ⟨gb144, 2, none⟩ = some (.string (⟨#[]⟩ : ByteArray)) := bc BK144.out 2
            have hcz26_3 : w16.cell? ⟨gb144, 3, none⟩ = some (.int .i64 0) := bc BK144.out 3
            have hfz26_0 := blk_frozen BK144.out 0
            have hfz26_1 := blk_frozen BK144.out 1
            have hfz26_2 := blk_frozen BK144.out 2
            have hfz26_3 := blk_frozen BK144.out 3
            go_wp2_with (first | (go_at_call 82; (with_reducible refine (spec_l11Stmt.calls ((rd_T95 l0 a1).f0) true _ A21.out).mono ?_); rintro e w' ⟨rfl, ⟨nd, rfl⟩⟩))
            go_meet
            case rel => exact ⟨_, (false), (by first | rfl | (simp; done) | (simp [*]; done)), H', ⟨by have := HJ4.out; first | omega | exact Nat.le_refl _⟩, ⟨by refine pk ?_; refine blk_put (cs := #[.int .i64 ((rd_T95 l0 a1).f0), .int .i64 ((rd_T95 l0 a1).f1), .string ((rd_T95 l0 a1).f2), .int .i64 0]) ?_ 3 _ rfl; refine pk ?_; refine blk_put (cs := #[.int .i64 ((rd_T95 l0 a1).f0), .int .i64 ((rd_T95 l0 a1).f1), .string (⟨#[]⟩ : ByteArray), .int .i64 0]) ?_ 2 _ rfl; refine pk ?_; refine blk_put (cs := #[.int .i64 ((rd_T95 l0 a1).f0), .int .i64 0, .string (⟨#[]⟩ : ByteArray), .int .i64 0]) ?_ 1 _ rfl; refine pk ?_; refine blk_put (cs := #[.int .i64 0, .int .i64 0, .string (⟨#[]⟩ : ByteArray), .int .i64 0]) ?_ 0 _ rfl; refine pk ?_; exact BK144.out⟩, ⟨by repeat (first | (with_reducible first | exact HB.out | apply below_alloc | apply pw_below_drewN | apply below_drew1 | refine below_set ?_ GE144.out) | exact HB.out)⟩⟩
          ·replace c22 := Bool.eq_false_iff.mpr c22
           subst c22
           have H1 : (spec_l11End.j1 kj4 l0 a1 a3 true ((rd_T95 l0 a1).f0) ((rd_T95 l0 a1).f1) ((rd_T95 l0 a1).f2) ((rd_T95 l0 a1).f3)) = some r := by rw [if_neg (show ¬ (false = true) by decide)] at H; exact H
           clear H
           have H := H1
           clear H1
           have H' := Aside0.mk H
           clear H
           have hcz27_0 : w16.cell? ⟨gb144, 0, none⟩ = some (.int .i64 0) := bc BK144.out 0
           have hcz27_1 : w16.cell? ⟨gb144, 1, none⟩ = some (.int .i64 0) := bc BK144.out 1
           have hcz27_2 : w16.cell? ⟨gb144, 2, none⟩ = some (.string (⟨#[]⟩ : ByteArray)) := bc BK144.out 2
           have hcz27_3 : w16.cell? ⟨gb144, 3, none⟩ = some (.int .i64 0) := bc BK144.out 3
           have hfz27_0 := blk_frozen BK144.out 0
           have hfz27_1 := blk_frozen BK144.out 1
           have hfz27_2 := blk_frozen BK144.out 2
           have hfz27_3 := blk_frozen BK144.out 3
           go_wp2_with (first | (go_at_call 82; (with_reducible refine (spec_l11Stmt.calls ((rd_T95 l0 a1).f0) false _ A21.out).mono ?_); rintro e w' ⟨rfl, ⟨nd, rfl⟩⟩))
           go_meet
           case rel => exact ⟨_, (true), (by first | rfl | (simp; done) | (simp [*]; done)), H', ⟨by have := HJ4.out; first | omega | exact Nat.le_refl _⟩, ⟨by refine pk ?_; refine blk_put (cs := #[.int .i64 ((rd_T95 l0 a1).f0), .int .i64 ((rd_T95 l0 a1).f1), .string ((rd_T95 l0 a1).f2), .int .i64 0]) ?_ 3 _ rfl; refine pk ?_; refine blk_put (cs := #[.int .i64 ((rd_T95 l0 a1).f0), .int .i64 ((rd_T95 l0 a1).f1), .string (⟨#[]⟩ : ByteArray), .int .i64 0]) ?_ 2 _ rfl; refine pk ?_; refine blk_put (cs := #[.int .i64 ((rd_T95 l0 a1).f0), .int .i64 0, .string (⟨#[]⟩ : ByteArray), .int .i64 0]) ?_ 1 _ rfl; refine pk ?_; refine blk_put (cs := #[.int .i64 0, .int .i64 0, .string (⟨#[]⟩ : ByteArray), .int .i64 0]) ?_ 0 _ rfl; refine pk ?_; exact BK144.out⟩, ⟨by repeat (first | (with_reducible first | exact HB.out | apply below_alloc | apply pw_below_drewN | apply below_drew1 | refine below_set ?_ GE144.out) | exact HB.out)⟩⟩
         ·rw [if_neg c20] at H
          have c20b0 : (a2 == 115) = false := beq_eq_false_iff_ne.mpr c20
          have c20b1 : (a2 != 115) = true := bne_iff_ne.mpr c20
          by_cases c28 : a2 = 101
          ·rw [if_pos c28] at H
           have c28b0 : (a2 == 101) = true := beq_iff_eq.mpr c28
           have c28b1 : (a2 != 101) = false := bne_eq_false_iff_eq.mpr c28
           clear c28
           replace H := Option.bind_eq_some_iff.mp H
           obtain ⟨t147, A290, H⟩ := H
           replace H : (spec_l11End.j1 kj4 l0 a1 a3 (!t147) ((rd_T95 l0 a1).f0) ((rd_T95 l0 a1).f1) ((rd_T95 l0 a1).f2) ((rd_T95 l0 a1).f3)) = some r := H
           have A29 := Aside0.mk A290
           clear A290
           have H' := Aside0.mk H
           clear H
           have hcz30_0 : w16.cell? ⟨gb144, 0, none⟩ = some (.int .i64 0) := bc BK144.out 0
           have hcz30_1 : w16.cell? ⟨gb144, 1, none⟩ = some (.int .i64 0) := bc BK144.out 1
           have hcz30_2 : w16.cell? ⟨gb144, 2, none⟩ = some (.string (⟨#[]⟩ : ByteArray)) := bc BK144.out 2
           have hcz30_3 : w16.cell? ⟨gb144, 3, none⟩ = some (.int .i64 0) := bc BK144.out 3
           have hfz30_0 := blk_frozen BK144.out 0
           have hfz30_1 := blk_frozen BK144.out 1
           have hfz30_2 := blk_frozen BK144.out 2
           have hfz30_3 := blk_frozen BK144.out 3
           go_wp2_with (first | (go_at_call 83; (with_reducible refine (spec_l11Expr.calls ((rd_T95 l0 a1).f0) t147 _ A29.out).mono ?_); rintro e w' ⟨rfl, ⟨nd, rfl⟩⟩))
           go_meet
           case rel => exact ⟨_, (!t147), (by first | rfl | (simp; done) | (simp [*]; done)), H', ⟨by have := HJ4.out; first | omega | exact Nat.le_refl _⟩, ⟨by refine pk ?_; refine blk_put (cs := #[.int .i64 ((rd_T95 l0 a1).f0), .int .i64 ((rd_T95 l0 a1).f1), .string ((rd_T95 l0 a1).f2), .int .i64 0]) ?_ 3 _ rfl; refine pk ?_; refine blk_put (cs := #[.int .i64 ((rd_T95 l0 a1).f0), .int .i64 ((rd_T95 l0 a1).f1), .string (⟨#[]⟩ : ByteArray), .int .i64 0]) ?_ 2 _ rfl; refine pk ?_; refine blk_put (cs := #[.int .i64 ((rd_T95 l0 a1).f0), .int .i64 0, .string (⟨#[]⟩ : ByteArray), .int .i64 0]) ?_ 1 _ rfl; refine pk ?_; refine blk_put (cs := #[.int .i64 0, .int .i64 0, .string (⟨#[]⟩ : ByteArray), .int .i64 0]) ?_ 0 _ rfl; refine pk ?_; exact BK144.out⟩, ⟨by repeat (first | (with_reducible first | exact HB.out | apply below_alloc | apply pw_below_drewN | apply below_drew1 | refine below_set ?_ GE144.out) | exact HB.out)⟩⟩
          ·rw [if_neg c28] at H
           have c28b0 : (a2 == 101) = false := beq_eq_false_iff_ne.mpr c28
           have c28b1 : (a2 != 101) = true := bne_iff_ne.mpr c28
           have H' := Aside0.mk H
           clear H
           have hcz31_0 : w16.cell? ⟨gb144, 0, none⟩ = some (.int .i64 0) := bc BK144.out 0
           have hcz31_1 : w16.cell? ⟨gb144, 1, none⟩ = some (.int .i64 0) := bc BK144.out 1
           have hcz31_2 : w16.cell? ⟨gb144, 2, none⟩ = some (.string (⟨#[]⟩ : ByteArray)) := bc BK144.out 2
           have hcz31_3 : w16.cell? ⟨gb144, 3, none⟩ = some (.int .i64 0) := bc BK144.out 3
           have hfz31_0 := blk_frozen BK144.out 0
           have hfz31_1 := blk_frozen BK144.out 1
           have hfz31_2 := blk_frozen BK144.out 2
           have hfz31_3 := blk_frozen BK144.out 3
           go_wp2
           go_meet
           case rel => exact ⟨_, (false), (by first | rfl | (simp; done) | (simp [*]; done)), H', ⟨by have := HJ4.out; first | omega | exact Nat.le_refl _⟩, ⟨by refine pk ?_; refine blk_put (cs := #[.int .i64 ((rd_T95 l0 a1).f0), .int .i64 ((rd_T95 l0 a1).f1), .string ((rd_T95 l0 a1).f2), .int .i64 0]) ?_ 3 _ rfl; refine pk ?_; refine blk_put (cs := #[.int .i64 ((rd_T95 l0 a1).f0), .int .i64 ((rd_T95 l0 a1).f1), .string (⟨#[]⟩ : ByteArray), .int .i64 0]) ?_ 2 _ rfl; refine pk ?_; refine blk_put (cs := #[.int .i64 ((rd_T95 l0 a1).f0), .int .i64 0, .string (⟨#[]⟩ : ByteArray), .int .i64 0]) ?_ 1 _ rfl; refine pk ?_; refine blk_put (cs := #[.int .i64 0, .int .i64 0, .string (⟨#[]⟩ : ByteArray), .int .i64 0]) ?_ 0 _ rfl; refine pk ?_; exact BK144.out⟩, ⟨by repeat (first | (with_reducible first | exact HB.out | apply below_alloc | apply pw_below_drewN | apply below_drew1 | refine below_set ?_ GE144.out) | exact HB.out)⟩⟩
        ·rw [if_neg c19] at H
         have c19b0 : (((rd_T95 l0 a1).f0) == 1) = false := beq_eq_false_iff_ne.mpr c19
         have c19b1 : (((rd_T95 l0 a1).f0) != 1) = true := bne_iff_ne.mpr c19
         have H' := Aside0.mk H
         clear H
         have hcz32_0 : w16.cell? ⟨gb144, 0, none⟩ = some (.int .i64 0) := bc BK144.out 0
         have hcz32_1 : w16.cell? ⟨gb144, 1, none⟩ = some (.int .i64 0) := bc BK144.out 1
         have hcz32_2 : w16.cell? ⟨gb144, 2, none⟩ = some (.string (⟨#[]⟩ : ByteArray)) := bc BK144.out 2
         have hcz32_3 : w16.cell? ⟨gb144, 3, none⟩ = some (.int .i64 0) := bc BK144.out 3
         have hfz32_0 := blk_frozen BK144.out 0
         have hfz32_1 := blk_frozen BK144.out 1
         have hfz32_2 := blk_frozen BK144.out 2
         have hfz32_3 := blk_frozen BK144.out 3
         go_wp2
         go_meet
         case rel => exact ⟨_, (true), (by first | rfl | (simp; done) | (simp [*]; done)), H', ⟨by have := HJ4.out; first | omega | exact Nat.le_refl _⟩, ⟨by refine pk ?_; refine blk_put (cs := #[.int .i64 ((rd_T95 l0 a1).f0), .int .i64 ((rd_T95 l0 a1).f1), .string ((rd_T95 l0 a1).f2), .int .i64 0]) ?_ 3 _ rfl; refine pk ?_; refine blk_put (cs := #[.int .i64 ((rd_T95 l0 a1).f0), .int .i64 ((rd_T95 l0 a1).f1), .string (⟨#[]⟩ : ByteArray), .int .i64 0]) ?_ 2 _ rfl; refine pk ?_; refine blk_put (cs := #[.int .i64 ((rd_T95 l0 a1).f0), .int .i64 0, .string (⟨#[]⟩ : ByteArray), .int .i64 0]) ?_ 1 _ rfl; refine pk ?_; refine blk_put (cs := #[.int .i64 0, .int .i64 0, .string (⟨#[]⟩ : ByteArray), .int .i64 0]) ?_ 0 _ rfl; refine pk ?_; exact BK144.out⟩, ⟨by repeat (first | (with_reducible first | exact HB.out | apply below_alloc | apply pw_below_drewN | apply below_drew1 | refine below_set ?_ GE144.out) | exact HB.out)⟩⟩
       ·rw [if_neg c18] at H
        have c18b0 : (a2 == 98) = false := beq_eq_false_iff_ne.mpr c18
        have c18b1 : (a2 != 98) = true := bne_iff_ne.mpr c18
        (first | rw [c18b0] | (simp only [i64_w, i32_w]; rw [c18b0]) | (have e9_ := c18b0; unfold bne at e9_; rw [e9_]) | skip)
        by_cases c33 : a2 = 115
        ·rw [if_pos c33] at H
         have c33b0 : (a2 == 115) = true := beq_iff_eq.mpr c33
         have c33b1 : (a2 != 115) = false := bne_eq_false_iff_eq.mpr c33
         clear c33
         replace H := Option.bind_eq_some_iff.mp H
         obtain ⟨t148, A340, H⟩ := H
         replace H : (if t148 = true then (if a2 = 101 then ((spec_l11Expr.f ((rd_T95 l0 a1).f0)).bind fun t149 => (spec_l11End.j1 kj4 l0 a1 a3 (!t149) ((rd_T95 l0 a1).f0) ((rd_T95 l0 a1).f1) ((rd_T95 l0 a1).f2) ((rd_T95 l0 a1).f3))) else (spec_l11End.j1 kj4 l0 a1 a3 false ((rd_T95 l0 a1).f0) ((rd_T95 l0 a1).f1) ((rd_T95 l0 a1).f2) ((rd_T95 l0 a1).f3))) else (spec_l11End.j1 kj4 l0 a1 a3 true ((rd_T95 l0 a1).f0) ((rd_T95 l0 a1).f1) ((rd_T95 l0 a1).f2) ((rd_T95 l0 a1).f3))) = some r := H
         have A34 := Aside0.mk A340
         clear A340
         by_cases c35 : t148 = true
         ·subst c35
          have H1 : (if a2 = 101 then ((spec_l11Expr.f ((rd_T95 l0 a1).f0)).bind fun t149 => (spec_l11End.j1 kj4 l0 a1 a3 (!t149) ((rd_T95 l0 a1).f0) ((rd_T95 l0 a1).f1) ((rd_T95 l0 a1).f2) ((rd_T95 l0 a1).f3))) else (spec_l11End.j1 kj4 l0 a1 a3 false ((rd_T95 l0 a1).f0) ((rd_T95 l0 a1).f1) ((rd_T95 l0 a1).f2) ((rd_T95 l0 a1).f3))) = some r := by rw [if_pos rfl] at H; exact H
          clear H
          have H := H1
          clear H1
          by_cases c36 : a2 = 101
          ·rw [if_pos c36] at H
           have c36b0 : (a2 == 101) = true := beq_iff_eq.mpr c36
           have c36b1 : (a2 != 101) = false := bne_eq_false_iff_eq.mpr c36
           clear c36
           replace H := Option.bind_eq_some_iff.mp H
           obtain ⟨t149, A370, H⟩ := H
           replace H : (spec_l11End.j1 kj4 l0 a1 a3 (!t149) ((rd_T95 l0 a1).f0) ((rd_T95 l0 a1).f1) ((rd_T95 l0 a1).f2) ((rd_T95 l0 a1).f3)) = some r := H
           have A37 := Aside0.mk A370
           clear A370
           have H' := Aside0.mk H
           clear H
           have hcz38_0 : w16.cell? ⟨gb144, 0, none⟩ = some (.int .i64 0) := bc BK144.out 0
           have hcz38_1 : w16.cell? ⟨gb144, 1, none⟩ = some (.int .i64 0) := bc BK144.out 1
           have hcz38_2 : w16.cell? ⟨gb144, 2, none⟩ = some (.string (⟨#[]⟩ : ByteArray)) := bc BK144.out 2
           have hcz38_3 : w16.cell? ⟨gb144, 3, none⟩ = some (.int .i64 0) := bc BK144.out 3
           have hfz38_0 := blk_frozen BK144.out 0
           have hfz38_1 := blk_frozen BK144.out 1
           have hfz38_2 := blk_frozen BK144.out 2
           have hfz38_3 := blk_frozen BK144.out 3
           go_wp2_with (first | (go_at_call 82; (with_reducible refine (spec_l11Stmt.calls ((rd_T95 l0 a1).f0) true _ A34.out).mono ?_); rintro e w' ⟨rfl, ⟨nd, rfl⟩⟩) | (go_at_call 83; (with_reducible refine (spec_l11Expr.calls ((rd_T95 l0 a1).f0) t149 _ A37.out).mono ?_); rintro e w' ⟨rfl, ⟨nd, rfl⟩⟩))
           go_meet
           case rel => exact ⟨_, (!t149), (by first | rfl | (simp; done) | (simp [*]; done)), H', ⟨by have := HJ4.out; first | omega | exact Nat.le_refl _⟩, ⟨by refine pk ?_; refine blk_put (cs := #[.int .i64 ((rd_T95 l0 a1).f0), .int .i64 ((rd_T95 l0 a1).f1), .string ((rd_T95 l0 a1).f2), .int .i64 0]) ?_ 3 _ rfl; refine pk ?_; refine blk_put (cs := #[.int .i64 ((rd_T95 l0 a1).f0), .int .i64 ((rd_T95 l0 a1).f1), .string (⟨#[]⟩ : ByteArray), .int .i64 0]) ?_ 2 _ rfl; refine pk ?_; refine blk_put (cs := #[.int .i64 ((rd_T95 l0 a1).f0), .int .i64 0, .string (⟨#[]⟩ : ByteArray), .int .i64 0]) ?_ 1 _ rfl; refine pk ?_; refine blk_put (cs := #[.int .i64 0, .int .i64 0, .string (⟨#[]⟩ : ByteArray), .int .i64 0]) ?_ 0 _ rfl; refine pk ?_; exact BK144.out⟩, ⟨by repeat (first | (with_reducible first | exact HB.out | apply below_alloc | apply pw_below_drewN | apply below_drew1 | refine below_set ?_ GE144.out) | exact HB.out)⟩⟩
          ·rw [if_neg c36] at H
           have c36b0 : (a2 == 101) = false := beq_eq_false_iff_ne.mpr c36
           have c36b1 : (a2 != 101) = true := bne_iff_ne.mpr c36
           have H' := Aside0.mk H
           clear H
           have hcz39_0 : w16.cell? ⟨gb144, 0, none⟩ = some (.int .i64 0) := bc BK144.out 0
           have hcz39_1 : w16.cell? ⟨gb144, 1, none⟩ = some (.int .i64 0) := bc BK144.out 1
           have hcz39_2 : w16.cell? ⟨gb144, 2, none⟩ = some (.string (⟨#[]⟩ : ByteArray)) := bc BK144.out 2
           have hcz39_3 : w16.cell? ⟨gb144, 3, none⟩ = some (.int .i64 0) := bc BK144.out 3
           have hfz39_0 := blk_frozen BK144.out 0
           have hfz39_1 := blk_frozen BK144.out 1
           have hfz39_2 := blk_frozen BK144.out 2
           have hfz39_3 := blk_frozen BK144.out 3
           go_wp2_with (first | (go_at_call 82; (with_reducible refine (spec_l11Stmt.calls ((rd_T95 l0 a1).f0) true _ A34.out).mono ?_); rintro e w' ⟨rfl, ⟨nd, rfl⟩⟩))
           go_meet
           case rel => exact ⟨_, (false), (by first | rfl | (simp; done) | (simp [*]; done)), H', ⟨by have := HJ4.out; first | omega | exact Nat.le_refl _⟩, ⟨by refine pk ?_; refine blk_put (cs := #[.int .i64 ((rd_T95 l0 a1).f0), .int .i64 ((rd_T95 l0 a1).f1), .string ((rd_T95 l0 a1).f2), .int .i64 0]) ?_ 3 _ rfl; refine pk ?_; refine blk_put (cs := #[.int .i64 ((rd_T95 l0 a1).f0), .int .i64 ((rd_T95 l0 a1).f1), .string (⟨#[]⟩ : ByteArray), .int .i64 0]) ?_ 2 _ rfl; refine pk ?_; refine blk_put (cs := #[.int .i64 ((rd_T95 l0 a1).f0), .int .i64 0, .string (⟨#[]⟩ : ByteArray), .int .i64 0]) ?_ 1 _ rfl; refine pk ?_; refine blk_put (cs := #[.int .i64 0, .int .i64 0, .string (⟨#[]⟩ : ByteArray), .int .i64 0]) ?_ 0 _ rfl; refine pk ?_; exact BK144.out⟩, ⟨by repeat (first | (with_reducible first | exact HB.out | apply below_alloc | apply pw_below_drewN | apply below_drew1 | refine below_set ?_ GE144.out) | exact HB.out)⟩⟩
         ·replace c35 := Bool.eq_false_iff.mpr c35
          subst c35
          have H1 : (spec_l11End.j1 kj4 l0 a1 a3 true ((rd_T95 l0 a1).f0) ((rd_T95 l0 a1).f1) ((rd_T95 l0 a1).f2) ((rd_T95 l0 a1).f3)) = some r := by rw [if_neg (show ¬ (false = true) by decide)] at H; exact H
          clear H
          have H := H1
          clear H1
          have H' := Aside0.mk H
          clear H
          have hcz40_0 : w16.cell? ⟨gb144, 0, none⟩ = some (.int .i64 0) := bc BK144.out 0
          have hcz40_1 : w16.cell? ⟨gb144, 1, none⟩ = some (.int .i64 0) := bc BK144.out 1
          have hcz40_2 : w16.cell? ⟨gb144, 2, none⟩ = some (.string (⟨#[]⟩ : ByteArray)) := bc BK144.out 2
          have hcz40_3 : w16.cell? ⟨gb144, 3, none⟩ = some (.int .i64 0) := bc BK144.out 3
          have hfz40_0 := blk_frozen BK144.out 0
          have hfz40_1 := blk_frozen BK144.out 1
          have hfz40_2 := blk_frozen BK144.out 2
          have hfz40_3 := blk_frozen BK144.out 3
          go_wp2_with (first | (go_at_call 82; (with_reducible refine (spec_l11Stmt.calls ((rd_T95 l0 a1).f0) false _ A34.out).mono ?_); rintro e w' ⟨rfl, ⟨nd, rfl⟩⟩))
          go_meet
          case rel => exact ⟨_, (true), (by first | rfl | (simp; done) | (simp [*]; done)), H', ⟨by have := HJ4.out; first | omega | exact Nat.le_refl _⟩, ⟨by refine pk ?_; refine blk_put (cs := #[.int .i64 ((rd_T95 l0 a1).f0), .int .i64 ((rd_T95 l0 a1).f1), .string ((rd_T95 l0 a1).f2), .int .i64 0]) ?_ 3 _ rfl; refine pk ?_; refine blk_put (cs := #[.int .i64 ((rd_T95 l0 a1).f0), .int .i64 ((rd_T95 l0 a1).f1), .string (⟨#[]⟩ : ByteArray), .int .i64 0]) ?_ 2 _ rfl; refine pk ?_; refine blk_put (cs := #[.int .i64 ((rd_T95 l0 a1).f0), .int .i64 0, .string (⟨#[]⟩ : ByteArray), .int .i64 0]) ?_ 1 _ rfl; refine pk ?_; refine blk_put (cs := #[.int .i64 0, .int .i64 0, .string (⟨#[]⟩ : ByteArray), .int .i64 0]) ?_ 0 _ rfl; refine pk ?_; exact BK144.out⟩, ⟨by repeat (first | (with_reducible first | exact HB.out | apply below_alloc | apply pw_below_drewN | apply below_drew1 | refine below_set ?_ GE144.out) | exact HB.out)⟩⟩
        ·rw [if_neg c33] at H
         have c33b0 : (a2 == 115) = false := beq_eq_false_iff_ne.mpr c33
         have c33b1 : (a2 != 115) = true := bne_iff_ne.mpr c33
         by_cases c41 : a2 = 101
         ·rw [if_pos c41] at H
          have c41b0 : (a2 == 101) = true := beq_iff_eq.mpr c41
          have c41b1 : (a2 != 101) = false := bne_eq_false_iff_eq.mpr c41
          clear c41
          replace H := Option.bind_eq_some_iff.mp H
          obtain ⟨t150, A420, H⟩ := H
          replace H : (spec_l11End.j1 kj4 l0 a1 a3 (!t150) ((rd_T95 l0 a1).f0) ((rd_T95 l0 a1).f1) ((rd_T95 l0 a1).f2) ((rd_T95 l0 a1).f3)) = some r := H
          have A42 := Aside0.mk A420
          clear A420
          have H' := Aside0.mk H
          clear H
          have hcz43_0 : w16.cell? ⟨gb144, 0, none⟩ = some (.int .i64 0) := bc BK144.out 0
          have hcz43_1 : w16.cell? ⟨gb144, 1, none⟩ = some (.int .i64 0) := bc BK144.out 1
          have hcz43_2 : w16.cell? ⟨gb144, 2, none⟩ = some (.string (⟨#[]⟩ : ByteArray)) := bc BK144.out 2
          have hcz43_3 : w16.cell? ⟨gb144, 3, none⟩ = some (.int .i64 0) := bc BK144.out 3
          have hfz43_0 := blk_frozen BK144.out 0
          have hfz43_1 := blk_frozen BK144.out 1
          have hfz43_2 := blk_frozen BK144.out 2
          have hfz43_3 := blk_frozen BK144.out 3
          go_wp2_with (first | (go_at_call 83; (with_reducible refine (spec_l11Expr.calls ((rd_T95 l0 a1).f0) t150 _ A42.out).mono ?_); rintro e w' ⟨rfl, ⟨nd, rfl⟩⟩))
          go_meet
          case rel => exact ⟨_, (!t150), (by first | rfl | (simp; done) | (simp [*]; done)), H', ⟨by have := HJ4.out; first | omega | exact Nat.le_refl _⟩, ⟨by refine pk ?_; refine blk_put (cs := #[.int .i64 ((rd_T95 l0 a1).f0), .int .i64 ((rd_T95 l0 a1).f1), .string ((rd_T95 l0 a1).f2), .int .i64 0]) ?_ 3 _ rfl; refine pk ?_; refine blk_put (cs := #[.int .i64 ((rd_T95 l0 a1).f0), .int .i64 ((rd_T95 l0 a1).f1), .string (⟨#[]⟩ : ByteArray), .int .i64 0]) ?_ 2 _ rfl; refine pk ?_; refine blk_put (cs := #[.int .i64 ((rd_T95 l0 a1).f0), .int .i64 0, .string (⟨#[]⟩ : ByteArray), .int .i64 0]) ?_ 1 _ rfl; refine pk ?_; refine blk_put (cs := #[.int .i64 0, .int .i64 0, .string (⟨#[]⟩ : ByteArray), .int .i64 0]) ?_ 0 _ rfl; refine pk ?_; exact BK144.out⟩, ⟨by repeat (first | (with_reducible first | exact HB.out | apply below_alloc | apply pw_below_drewN | apply below_drew1 | refine below_set ?_ GE144.out) | exact HB.out)⟩⟩
         ·rw [if_neg c41] at H
          have c41b0 : (a2 == 101) = false := beq_eq_false_iff_ne.mpr c41
          have c41b1 : (a2 != 101) = true := bne_iff_ne.mpr c41
          have H' := Aside0.mk H
          clear H
          go_wp2
          go_meet
          case rel => exact ⟨_, (false), (by first | rfl | (simp; done) | (simp [*]; done)), H', ⟨by have := HJ4.out; first | omega | exact Nat.le_refl _⟩, ⟨by refine pk ?_; refine blk_put (cs := #[.int .i64 ((rd_T95 l0 a1).f0), .int .i64 ((rd_T95 l0 a1).f1), .string ((rd_T95 l0 a1).f2), .int .i64 0]) ?_ 3 _ rfl; refine pk ?_; refine blk_put (cs := #[.int .i64 ((rd_T95 l0 a1).f0), .int .i64 ((rd_T95 l0 a1).f1), .string (⟨#[]⟩ : ByteArray), .int .i64 0]) ?_ 2 _ rfl; refine pk ?_; refine blk_put (cs := #[.int .i64 ((rd_T95 l0 a1).f0), .int .i64 0, .string (⟨#[]⟩ : ByteArray), .int .i64 0]) ?_ 1 _ rfl; refine pk ?_; refine blk_put (cs := #[.int .i64 0, .int .i64 0, .string (⟨#[]⟩ : ByteArray), .int .i64 0]) ?_ 0 _ rfl; refine pk ?_; exact BK144.out⟩, ⟨by repeat (first | (with_reducible first | exact HB.out | apply below_alloc | apply pw_below_drewN | apply below_drew1 | refine below_set ?_ GE144.out) | exact HB.out)⟩⟩
      case rest =>
       clear HC15
       try clear c1
       try clear p1
       try clear q1
       try clear hx1
       try clear c2
       try clear p2
       try clear c3
       try clear c4
       try clear c5
       try clear c6
       try clear c6b0
       try clear c7
       try clear c7b0
       try clear c8
       try clear c8b0
       try clear c9
       try clear c9b0
       try clear c12
       try clear c13
       try clear c13b0
       try clear c14
       try clear c14b0
       try clear p14
       try clear q14
       try clear hx14
       try clear c18
       try clear c18b0
       try clear c18b1
       try clear c19
       try clear c19b0
       try clear c19b1
       try clear c20
       try clear c20b0
       try clear c20b1
       try clear c22
       try clear c23
       try clear c23b0
       try clear c23b1
       try clear c28
       try clear c28b0
       try clear c28b1
       try clear c33
       try clear c33b0
       try clear c33b1
       try clear c35
       try clear c36
       try clear c36b0
       try clear c36b1
       try clear c41
       try clear c41b0
       try clear c41b1
       try clear hcz17_0
       try clear hcz17_1
       try clear hcz17_2
       try clear hcz17_3
       try clear hcz25_0
       try clear hcz25_1
       try clear hcz25_2
       try clear hcz25_3
       try clear hcz26_0
       try clear hcz26_1
       try clear hcz26_2
       try clear hcz26_3
       try clear hcz27_0
       try clear hcz27_1
       try clear hcz27_2
       try clear hcz27_3
       try clear hcz30_0
       try clear hcz30_1
       try clear hcz30_2
       try clear hcz30_3
       try clear hcz31_0
       try clear hcz31_1
       try clear hcz31_2
       try clear hcz31_3
       try clear hcz32_0
       try clear hcz32_1
       try clear hcz32_2
       try clear hcz32_3
       try clear hcz38_0
       try clear hcz38_1
       try clear hcz38_2
       try clear hcz38_3
       try clear hcz39_0
       try clear hcz39_1
       try clear hcz39_2
       try clear hcz39_3
       try clear hcz40_0
       try clear hcz40_1
       try clear hcz40_2
       try clear hcz40_3
       try clear hcz43_0
       try clear hcz43_1
       try clear hcz43_2
       try clear hcz43_3
       try clear hfz17_0
       try clear hfz17_1
       try clear hfz17_2
       try clear hfz17_3
       try clear hfz25_0
       try clear hfz25_1
       try clear hfz25_2
       try clear hfz25_3
       try clear hfz26_0
       try clear hfz26_1
       try clear hfz26_2
       try clear hfz26_3
       try clear hfz27_0
       try clear hfz27_1
       try clear hfz27_2
       try clear hfz27_3
       try clear hfz30_0
       try clear hfz30_1
       try clear hfz30_2
       try clear hfz30_3
       try clear hfz31_0
       try clear hfz31_1
       try clear hfz31_2
       try clear hfz31_3
       try clear hfz32_0
       try clear hfz32_1
       try clear hfz32_2
       try clear hfz32_3
       try clear hfz38_0
       try clear hfz38_1
       try clear hfz38_2
       try clear hfz38_3
       try clear hfz39_0
       try clear hfz39_1
       try clear hfz39_2
       try clear hfz39_3
       try clear hfz40_0
       try clear hfz40_1
       try clear hfz40_2
       try clear hfz40_3
       try clear hfz43_0
       try clear hfz43_1
       try clear hfz43_2
       try clear hfz43_3
       try clear hx141_0
       try clear hx141_1
       try clear hx141_2
       try clear hx141_3
       try clear hx143_0
       try clear hx143_1
       try clear hx143_2
       try clear hx143_3
       try clear p1
       try clear p141
       try clear p143
       try clear p2
       try clear q1
       try clear q141
       try clear q143
       obtain ⟨kq, x60_14, rfl, HA, HJ14, BK144, HB⟩ := hcut
       cases kq with
       | zero => exact absurd HA.out (by simp [spec_l11End.j1])
       | succ kj14 =>
        have H := HA.out
        clear HA
        simp only [spec_l11End.j1] at H
        by_cases c44 : x60_14 = true
        ·subst c44
         have H1 : (some (-1)) = some r := by rw [if_pos rfl] at H; exact H
         clear H
         have H := H1
         clear H1
         obtain rfl := Option.some.inj H
         go_wp2
         go_ret
         exact ⟨by first | rfl | (simp [errW_none, errW_some] <;> rfl) | (simp [*, errW_none, errW_some] <;> rfl), by repeat (first | (with_reducible first | exact HB.out | apply below_alloc | apply pw_below_drewN | apply below_drew1 | refine below_set ?_ GE144.out) | exact HB.out)⟩
        ·replace c44 := Bool.eq_false_iff.mpr c44
         subst c44
         have H1 : ((spec_l11Kids.f kj14 ((rd_T95 l0 a1).f0) ((rd_T95 l0 a1).f1) ((rd_T95 l0 a1).f2) ((rd_T95 l0 a1).f3)).bind fun t151 => (if t151.toList = ([42] : List UInt8) then (if ((rd_T95 l0 a1).f3) < 0 then (spec_l11End.j2 kj14 l0 a1 a3 t151 true ((rd_T95 l0 a1).f0) ((rd_T95 l0 a1).f1) ((rd_T95 l0 a1).f2) ((rd_T95 l0 a1).f3)) else (spec_l11End.j2 kj14 l0 a1 a3 t151 (decide (((rd_T95 l0 a1).f3) > 200)) ((rd_T95 l0 a1).f0) ((rd_T95 l0 a1).f1) ((rd_T95 l0 a1).f2) ((rd_T95 l0 a1).f3))) else (if ((rd_T95 l0 a1).f3) = (t151.size : Int) then (if ((rd_T95 l0 a1).f3) < 0 then (spec_l11End.j2 kj14 l0 a1 a3 t151 true ((rd_T95 l0 a1).f0) ((rd_T95 l0 a1).f1) ((rd_T95 l0 a1).f2) ((rd_T95 l0 a1).f3)) else (spec_l11End.j2 kj14 l0 a1 a3 t151 (decide (((rd_T95 l0 a1).f3) > 200)) ((rd_T95 l0 a1).f0) ((rd_T95 l0 a1).f1) ((rd_T95 l0 a1).f2) ((rd_T95 l0 a1).f3))) else (spec_l11End.j2 kj14 l0 a1 a3 t151 true ((rd_T95 l0 a1).f0) ((rd_T95 l0 a1).f1) ((rd_T95 l0 a1).f2) ((rd_T95 l0 a1).f3))))) = some r := by rw [if_neg (show ¬ (false = true) by decide)] at H; exact H
         clear H
         have H := H1
         clear H1
         replace H := Option.bind_eq_some_iff.mp H
         obtain ⟨t151, A450, H⟩ := H
         replace H : (if t151.toList = ([42] : List UInt8) then (if ((rd_T95 l0 a1).f3) < 0 then (spec_l11End.j2 kj14 l0 a1 a3 t151 true ((rd_T95 l0 a1).f0) ((rd_T95 l0 a1).f1) ((rd_T95 l0 a1).f2) ((rd_T95 l0 a1).f3)) else (spec_l11End.j2 kj14 l0 a1 a3 t151 (decide (((rd_T95 l0 a1).f3) > 200)) ((rd_T95 l0 a1).f0) ((rd_T95 l0 a1).f1) ((rd_T95 l0 a1).f2) ((rd_T95 l0 a1).f3))) else (if ((rd_T95 l0 a1).f3) = (t151.size : Int) then (if ((rd_T95 l0 a1).f3) < 0 then (spec_l11End.j2 kj14 l0 a1 a3 t151 true ((rd_T95 l0 a1).f0) ((rd_T95 l0 a1).f1) ((rd_T95 l0 a1).f2) ((rd_T95 l0 a1).f3)) else (spec_l11End.j2 kj14 l0 a1 a3 t151 (decide (((rd_T95 l0 a1).f3) > 200)) ((rd_T95 l0 a1).f0) ((rd_T95 l0 a1).f1) ((rd_T95 l0 a1).f2) ((rd_T95 l0 a1).f3))) else (spec_l11End.j2 kj14 l0 a1 a3 t151 true ((rd_T95 l0 a1).f0) ((rd_T95 l0 a1).f1) ((rd_T95 l0 a1).f2) ((rd_T95 l0 a1).f3)))) = some r := H
         have A45 := Aside0.mk A450
         clear A450
         have HC46 := Aside0.mk H
         clear H
         have hcz47_0 : wc.cell? ⟨gb144, 0, none⟩ = some (.int .i64 ((rd_T95 l0 a1).f0)) := bc BK144.out 0
         have hcz47_1 : wc.cell? ⟨gb144, 1, none⟩ = some (.int .i64 ((rd_T95 l0 a1).f1)) := bc BK144.out 1
         have hcz47_2 : wc.cell? ⟨gb144, 2, none⟩ = some (.string ((rd_T95 l0 a1).f2)) := bc BK144.out 2
         have hcz47_3 : wc.cell? ⟨gb144, 3, none⟩ = some (.int .i64 ((rd_T95 l0 a1).f3)) := bc BK144.out 3
         have hfz47_0 := blk_frozen BK144.out 0
         have hfz47_1 := blk_frozen BK144.out 1
         have hfz47_2 := blk_frozen BK144.out 2
         have hfz47_3 := blk_frozen BK144.out 3
         go_upto_region 7 with (first | ((with_reducible refine gate_callee (f := 84) rfl ?_); refine gl (some 62) Try.func84 #[.agg #[.int .i64 ((rd_T95 l0 a1).f0), .int .i64 ((rd_T95 l0 a1).f1), .string ((rd_T95 l0 a1).f2), .int .i64 ((rd_T95 l0 a1).f3)]] ?_; (with_reducible refine (spec_l11Kids.calls kj14 ((rd_T95 l0 a1).f0) ((rd_T95 l0 a1).f1) ((rd_T95 l0 a1).f2) ((rd_T95 l0 a1).f3) t151 _ A45.out).mono ?_); rintro e w48 ⟨rfl, hb⟩; refine ⟨_, rfl, ?_⟩; replace BK144 := am (blk_below (pk BK144.out) hb); replace HB := am (below_step (bl HB.out) hb); (try clear hb); (try clear hb2); (try clear hk); (try clear hi)))
         (try simp only [Act.put, sa_, s0_, ss_])
         go_cut [81] (fun v81 wc => ∃ (kq : Nat) (x81_45 : Bool), v81 = .bool x81_45 ∧ Aside0 (spec_l11End.j2 kq l0 a1 a3 t151 x81_45 ((rd_T95 l0 a1).f0) ((rd_T95 l0 a1).f1) ((rd_T95 l0 a1).f2) ((rd_T95 l0 a1).f3) = some r) ∧ Aside0 (kq ≤ kj14) ∧ Aside0 (wc.heap[gb144]? = some (.cells #[.int .i64 ((rd_T95 l0 a1).f0), .int .i64 ((rd_T95 l0 a1).f1), .string ((rd_T95 l0 a1).f2), .int .i64 ((rd_T95 l0 a1).f3)] 95 (0, 0))) ∧ Aside0 (Below w.heap.size w wc))
         case first =>
          have H := HC46.out
          clear HC46
          by_cases c49 : t151.toList = ([42] : List UInt8)
          ·rw [if_pos c49] at H
           have c49b0 : (t151.toList == ([42] : List UInt8)) = true := beq_iff_eq.mpr c49
           have c49b1 : (t151.toList != ([42] : List UInt8)) = false := bne_eq_false_iff_eq.mpr c49
           clear c49
           (first | rw [c49b0] | (simp only [i64_w, i32_w]; rw [c49b0]) | (have e9_ := c49b0; unfold bne at e9_; rw [e9_]) | skip)
           by_cases c50 : ((rd_T95 l0 a1).f3) < 0
           ·rw [if_pos c50] at H
            have c50b0 : decide (((rd_T95 l0 a1).f3) < 0) = true := decide_eq_true c50
            clear c50
            have H' := Aside0.mk H
            clear H
            have hcz51_0 : w48.cell? ⟨gb144, 0, none⟩ = some (.int .i64 ((rd_T95 l0 a1).f0)) := bc BK144.out 0
            have hcz51_1 : w48.cell? ⟨gb144, 1, none⟩ = some (.int .i64 ((rd_T95 l0 a1).f1)) := bc BK144.out 1
            have hcz51_2 : w48.cell? ⟨gb144, 2, none⟩ = some (.string ((rd_T95 l0 a1).f2)) := bc BK144.out 2
            have hcz51_3 : w48.cell? ⟨gb144, 3, none⟩ = some (.int .i64 ((rd_T95 l0 a1).f3)) := bc BK144.out 3
            have hfz51_0 := blk_frozen BK144.out 0
            have hfz51_1 := blk_frozen BK144.out 1
            have hfz51_2 := blk_frozen BK144.out 2
            have hfz51_3 := blk_frozen BK144.out 3
            go_wp2
            go_meet
            case rel => exact ⟨_, (true), (by first | rfl | (simp; done) | (simp [*]; done)), H', ⟨by have := HJ4.out; have := HJ14.out; first | omega | exact Nat.le_refl _⟩, ⟨pk BK144.out⟩, ⟨by repeat (first | (with_reducible first | exact HB.out | apply below_alloc | apply pw_below_drewN | apply below_drew1 | refine below_set ?_ GE144.out) | exact HB.out)⟩⟩
           ·rw [if_neg c50] at H
            have c50b0 : decide (((rd_T95 l0 a1).f3) < 0) = false := decide_eq_false c50
            clear c50
            have H' := Aside0.mk H
            clear H
            have hcz52_0 : w48.cell? ⟨gb144, 0, none⟩ = some (.int .i64 ((rd_T95 l0 a1).f0)) := bc BK144.out 0
            have hcz52_1 : w48.cell? ⟨gb144, 1, none⟩ = some (.int .i64 ((rd_T95 l0 a1).f1)) := bc BK144.out 1
            have hcz52_2 : w48.cell? ⟨gb144, 2, none⟩ = some (.string ((rd_T95 l0 a1).f2)) := bc BK144.out 2
            have hcz52_3 : w48.cell? ⟨gb144, 3, none⟩ = some (.int .i64 ((rd_T95 l0 a1).f3)) := bc BK144.out 3
            have hfz52_0 := blk_frozen BK144.out 0
            have hfz52_1 := blk_frozen BK144.out 1
            have hfz52_2 := blk_frozen BK144.out 2
            have hfz52_3 := blk_frozen BK144.out 3
            go_wp2
            go_meet
            case rel => exact ⟨_, (decide (((rd_T95 l0 a1).f3) > 200)), (by first | rfl | (simp; done) | (simp [*]; done)), H', ⟨by have := HJ4.out; have := HJ14.out; first | omega | exact Nat.le_refl _⟩, ⟨pk BK144.out⟩, ⟨by repeat (first | (with_reducible first | exact HB.out | apply below_alloc | apply pw_below_drewN | apply below_drew1 | refine below_set ?_ GE144.out) | exact HB.out)⟩⟩
          ·rw [if_neg c49] at H
           have c49b0 : (t151.toList == ([42] : List UInt8)) = false := beq_eq_false_iff_ne.mpr c49
           have c49b1 : (t151.toList != ([42] : List UInt8)) = true := bne_iff_ne.mpr c49
           (first | rw [c49b0] | (simp only [i64_w, i32_w]; rw [c49b0]) | (have e9_ := c49b0; unfold bne at e9_; rw [e9_]) | skip)
           by_cases c53 : ((rd_T95 l0 a1).f3) = (t151.size : Int)
           ·rw [if_pos c53] at H
            have c53b0 : (((rd_T95 l0 a1).f3) == (t151.size : Int)) = true := beq_iff_eq.mpr c53
            have c53b1 : (((rd_T95 l0 a1).f3) != (t151.size : Int)) = false := bne_eq_false_iff_eq.mpr c53
            clear c53
            by_cases c54 : ((rd_T95 l0 a1).f3) < 0
            ·rw [if_pos c54] at H
             have c54b0 : decide (((rd_T95 l0 a1).f3) < 0) = true := decide_eq_true c54
             clear c54
             have H' := Aside0.mk H
             clear H
             have hcz55_0 : w48.cell? ⟨gb144, 0, none⟩ = some (.int .i64 ((rd_T95 l0 a1).f0)) := bc BK144.out 0
             have hcz55_1 : w48.cell? ⟨gb144, 1, none⟩ = some (.int .i64 ((rd_T95 l0 a1).f1)) := bc BK144.out 1
             have hcz55_2 : w48.cell? ⟨gb144, 2, none⟩ = some (.string ((rd_T95 l0 a1).f2)) := bc BK144.out 2
             have hcz55_3 : w48.cell? ⟨gb144, 3, none⟩ = some (.int .i64 ((rd_T95 l0 a1).f3)) := bc BK144.out 3
             have hfz55_0 := blk_frozen BK144.out 0
             have hfz55_1 := blk_frozen BK144.out 1
             have hfz55_2 := blk_frozen BK144.out 2
             have hfz55_3 := blk_frozen BK144.out 3
             go_wp2
             go_meet
             case rel => exact ⟨_, (true), (by first | rfl | (simp; done) | (simp [*]; done)), H', ⟨by have := HJ4.out; have := HJ14.out; first | omega | exact Nat.le_refl _⟩, ⟨pk BK144.out⟩, ⟨by repeat (first | (with_reducible first | exact HB.out | apply below_alloc | apply pw_below_drewN | apply below_drew1 | refine below_set ?_ GE144.out) | exact HB.out)⟩⟩
            ·rw [if_neg c54] at H
             have c54b0 : decide (((rd_T95 l0 a1).f3) < 0) = false := decide_eq_false c54
             clear c54
             have H' := Aside0.mk H
             clear H
             have hcz56_0 : w48.cell? ⟨gb144, 0, none⟩ = some (.int .i64 ((rd_T95 l0 a1).f0)) := bc BK144.out 0
             have hcz56_1 : w48.cell? ⟨gb144, 1, none⟩ = some (.int .i64 ((rd_T95 l0 a1).f1)) := bc BK144.out 1
             have hcz56_2 : w48.cell? ⟨gb144, 2, none⟩ = some (.string ((rd_T95 l0 a1).f2)) := bc BK144.out 2
             have hcz56_3 : w48.cell? ⟨gb144, 3, none⟩ = some (.int .i64 ((rd_T95 l0 a1).f3)) := bc BK144.out 3
             have hfz56_0 := blk_frozen BK144.out 0
             have hfz56_1 := blk_frozen BK144.out 1
             have hfz56_2 := blk_frozen BK144.out 2
             have hfz56_3 := blk_frozen BK144.out 3
             go_wp2
             go_meet
             case rel => exact ⟨_, (decide (((rd_T95 l0 a1).f3) > 200)), (by first | rfl | (simp; done) | (simp [*]; done)), H', ⟨by have := HJ4.out; have := HJ14.out; first | omega | exact Nat.le_refl _⟩, ⟨pk BK144.out⟩, ⟨by repeat (first | (with_reducible first | exact HB.out | apply below_alloc | apply pw_below_drewN | apply below_drew1 | refine below_set ?_ GE144.out) | exact HB.out)⟩⟩
           ·rw [if_neg c53] at H
            have c53b0 : (((rd_T95 l0 a1).f3) == (t151.size : Int)) = false := beq_eq_false_iff_ne.mpr c53
            have c53b1 : (((rd_T95 l0 a1).f3) != (t151.size : Int)) = true := bne_iff_ne.mpr c53
            have H' := Aside0.mk H
            clear H
            have hcz57_0 : w48.cell? ⟨gb144, 0, none⟩ = some (.int .i64 ((rd_T95 l0 a1).f0)) := bc BK144.out 0
            have hcz57_1 : w48.cell? ⟨gb144, 1, none⟩ = some (.int .i64 ((rd_T95 l0 a1).f1)) := bc BK144.out 1
            have hcz57_2 : w48.cell? ⟨gb144, 2, none⟩ = some (.string ((rd_T95 l0 a1).f2)) := bc BK144.out 2
            have hcz57_3 : w48.cell? ⟨gb144, 3, none⟩ = some (.int .i64 ((rd_T95 l0 a1).f3)) := bc BK144.out 3
            have hfz57_0 := blk_frozen BK144.out 0
            have hfz57_1 := blk_frozen BK144.out 1
            have hfz57_2 := blk_frozen BK144.out 2
            have hfz57_3 := blk_frozen BK144.out 3
            go_wp2
            go_meet
            case rel => exact ⟨_, (true), (by first | rfl | (simp; done) | (simp [*]; done)), H', ⟨by have := HJ4.out; have := HJ14.out; first | omega | exact Nat.le_refl _⟩, ⟨pk BK144.out⟩, ⟨by repeat (first | (with_reducible first | exact HB.out | apply below_alloc | apply pw_below_drewN | apply below_drew1 | refine below_set ?_ GE144.out) | exact HB.out)⟩⟩
         case rest =>
          clear HC46
          try clear c1
          try clear p1
          try clear q1
          try clear hx1
          try clear c2
          try clear p2
          try clear c3
          try clear c4
          try clear c5
          try clear c6
          try clear c6b0
          try clear c7
          try clear c7b0
          try clear c8
          try clear c8b0
          try clear c9
          try clear c9b0
          try clear c12
          try clear c13
          try clear c13b0
          try clear c14
          try clear c14b0
          try clear p14
          try clear q14
          try clear hx14
          try clear c18
          try clear c18b0
          try clear c18b1
          try clear c19
          try clear c19b0
          try clear c19b1
          try clear c20
          try clear c20b0
          try clear c20b1
          try clear c22
          try clear c23
          try clear c23b0
          try clear c23b1
          try clear c28
          try clear c28b0
          try clear c28b1
          try clear c33
          try clear c33b0
          try clear c33b1
          try clear c35
          try clear c36
          try clear c36b0
          try clear c36b1
          try clear c41
          try clear c41b0
          try clear c41b1
          try clear c44
          try clear c49
          try clear c49b0
          try clear c49b1
          try clear c50
          try clear c50b0
          try clear c53
          try clear c53b0
          try clear c53b1
          try clear c54
          try clear c54b0
          try clear hcz17_0
          try clear hcz17_1
          try clear hcz17_2
          try clear hcz17_3
          try clear hcz25_0
          try clear hcz25_1
          try clear hcz25_2
          try clear hcz25_3
          try clear hcz26_0
          try clear hcz26_1
          try clear hcz26_2
          try clear hcz26_3
          try clear hcz27_0
          try clear hcz27_1
          try clear hcz27_2
          try clear hcz27_3
          try clear hcz30_0
          try clear hcz30_1
          try clear hcz30_2
          try clear hcz30_3
          try clear hcz31_0
          try clear hcz31_1
          try clear hcz31_2
          try clear hcz31_3
          try clear hcz32_0
          try clear hcz32_1
          try clear hcz32_2
          try clear hcz32_3
          try clear hcz38_0
          try clear hcz38_1
          try clear hcz38_2
          try clear hcz38_3
          try clear hcz39_0
          try clear hcz39_1
          try clear hcz39_2
          try clear hcz39_3
          try clear hcz40_0
          try clear hcz40_1
          try clear hcz40_2
          try clear hcz40_3
          try clear hcz43_0
          try clear hcz43_1
          try clear hcz43_2
          try clear hcz43_3
          try clear hcz47_0
          try clear hcz47_1
          try clear hcz47_2
          try clear hcz47_3
          try clear hcz51_0
          try clear hcz51_1
          try clear hcz51_2
          try clear hcz51_3
          try clear hcz52_0
          try clear hcz52_1
          try clear hcz52_2
          try clear hcz52_3
          try clear hcz55_0
          try clear hcz55_1
          try clear hcz55_2
          try clear hcz55_3
          try clear hcz56_0
          try clear hcz56_1
          try clear hcz56_2
          try clear hcz56_3
          try clear hcz57_0
          try clear hcz57_1
          try clear hcz57_2
          try clear hcz57_3
          try clear hfz17_0
          try clear hfz17_1
          try clear hfz17_2
          try clear hfz17_3
          try clear hfz25_0
          try clear hfz25_1
          try clear hfz25_2
          try clear hfz25_3
          try clear hfz26_0
          try clear hfz26_1
          try clear hfz26_2
          try clear hfz26_3
          try clear hfz27_0
          try clear hfz27_1
          try clear hfz27_2
          try clear hfz27_3
          try clear hfz30_0
          try clear hfz30_1
          try clear hfz30_2
          try clear hfz30_3
          try clear hfz31_0
          try clear hfz31_1
          try clear hfz31_2
          try clear hfz31_3
          try clear hfz32_0
          try clear hfz32_1
          try clear hfz32_2
          try clear hfz32_3
          try clear hfz38_0
          try clear hfz38_1
          try clear hfz38_2
          try clear hfz38_3
          try clear hfz39_0
          try clear hfz39_1
          try clear hfz39_2
          try clear hfz39_3
          try clear hfz40_0
          try clear hfz40_1
          try clear hfz40_2
          try clear hfz40_3
          try clear hfz43_0
          try clear hfz43_1
          try clear hfz43_2
          try clear hfz43_3
          try clear hfz47_0
          try clear hfz47_1
          try clear hfz47_2
          try clear hfz47_3
          try clear hfz51_0
          try clear hfz51_1
          try clear hfz51_2
          try clear hfz51_3
          try clear hfz52_0
          try clear hfz52_1
          try clear hfz52_2
          try clear hfz52_3
          try clear hfz55_0
          try clear hfz55_1
          try clear hfz55_2
          try clear hfz55_3
          try clear hfz56_0
          try clear hfz56_1
          try clear hfz56_2
          try clear hfz56_3
          try clear hfz57_0
          try clear hfz57_1
          try clear hfz57_2
          try clear hfz57_3
          try clear hx141_0
          try clear hx141_1
          try clear hx141_2
          try clear hx141_3
          try clear hx143_0
          try clear hx143_1
          try clear hx143_2
          try clear hx143_3
          try clear p1
          try clear p14
          try clear p141
          try clear p143
          try clear p2
          try clear q1
          try clear q14
          try clear q141
          try clear q143
          obtain ⟨kq, x81_45, rfl, HA, HJ45, BK144, HB⟩ := hcut
          cases kq with
          | zero => exact absurd HA.out (by simp [spec_l11End.j2])
          | succ kj45 =>
           have H := HA.out
           clear HA
           simp only [spec_l11End.j2] at H
           by_cases c58 : x81_45 = true
           ·subst c58
            have H1 : (some (-1)) = some r := by rw [if_pos rfl] at H; exact H
            clear H
            have H := H1
            clear H1
            obtain rfl := Option.some.inj H
            go_wp2
            go_ret
            exact ⟨by first | rfl | (simp [errW_none, errW_some] <;> rfl) | (simp [*, errW_none, errW_some] <;> rfl), by repeat (first | (with_reducible first | exact HB.out | apply below_alloc | apply pw_below_drewN | apply below_drew1 | refine below_set ?_ GE144.out) | exact HB.out)⟩
           ·replace c58 := Bool.eq_false_iff.mpr c58
            subst c58
            have H1 : (spec_l11End.l0 kj45 l0 a3 t151 (wrap64 (a1 + 1)) 0 ((rd_T95 l0 a1).f0) ((rd_T95 l0 a1).f1) ((rd_T95 l0 a1).f2) ((rd_T95 l0 a1).f3)) = some r := by rw [if_neg (show ¬ (false = true) by decide)] at H; exact H
            clear H
            have H := H1
            clear H1
            have H' := Aside0.mk H
            clear H
            go_wp2
            go_loopg [11, 12] kj45 (fun kq v11 v12 w' => ∃ (x11_4 : Int) (x12_4 : Int), v11 = .int .i64 x11_4 ∧ v12 = .int .i64 x12_4 ∧ Aside0 (spec_l11End.l0 kq l0 a3 t151 x11_4 x12_4 ((rd_T95 l0 a1).f0) ((rd_T95 l0 a1).f1) ((rd_T95 l0 a1).f2) ((rd_T95 l0 a1).f3) = some r) ∧ Aside0 (kq ≤ kj45) ∧ Aside0 (w'.heap[gb144]? = some (.cells #[.int .i64 ((rd_T95 l0 a1).f0), .int .i64 ((rd_T95 l0 a1).f1), .string ((rd_T95 l0 a1).f2), .int .i64 ((rd_T95 l0 a1).f3)] 95 (0, 0))) ∧ Aside0 (Below w.heap.size w w'))
            case atStart => exact ⟨(wrap64 (a1 + 1)), (0), (by first | rfl | (simp; done) | (simp [*]; done)), (by first | rfl | (simp; done) | (simp [*]; done)), H', ⟨Nat.le_refl _⟩, ⟨pk BK144.out⟩, ⟨by repeat (first | (with_reducible first | exact HB.out | apply below_alloc | apply pw_below_drewN | apply below_drew1 | refine below_set ?_ GE144.out) | exact HB.out)⟩⟩
            case round =>
             clear H'
             try clear c1
             try clear p1
             try clear q1
             try clear hx1
             try clear c2
             try clear p2
             try clear c3
             try clear c4
             try clear c5
             try clear c6
             try clear c6b0
             try clear p6
             try clear c7
             try clear c7b0
             try clear c8
             try clear c8b0
             try clear c9
             try clear c9b0
             try clear c12
             try clear c13
             try clear c13b0
             try clear c14
             try clear c14b0
             try clear p14
             try clear q14
             try clear hx14
             try clear c18
             try clear c18b0
             try clear c18b1
             try clear c19
             try clear c19b0
             try clear c19b1
             try clear c20
             try clear c20b0
             try clear c20b1
             try clear c22
             try clear c23
             try clear c23b0
             try clear c23b1
             try clear c28
             try clear c28b0
             try clear c28b1
             try clear c33
             try clear c33b0
             try clear c33b1
             try clear c35
             try clear c36
             try clear c36b0
             try clear c36b1
             try clear c41
             try clear c41b0
             try clear c41b1
             try clear c44
             try clear c49
             try clear c49b0
             try clear c49b1
             try clear c50
             try clear c50b0
             try clear c53
             try clear c53b0
             try clear c53b1
             try clear c54
             try clear c54b0
             try clear c58
             try clear hcz17_0
             try clear hcz17_1
             try clear hcz17_2
             try clear hcz17_3
             try clear hcz25_0
             try clear hcz25_1
             try clear hcz25_2
             try clear hcz25_3
             try clear hcz26_0
             try clear hcz26_1
             try clear hcz26_2
             try clear hcz26_3
             try clear hcz27_0
             try clear hcz27_1
             try clear hcz27_2
             try clear hcz27_3
             try clear hcz30_0
             try clear hcz30_1
             try clear hcz30_2
             try clear hcz30_3
             try clear hcz31_0
             try clear hcz31_1
             try clear hcz31_2
             try clear hcz31_3
             try clear hcz32_0
             try clear hcz32_1
             try clear hcz32_2
             try clear hcz32_3
             try clear hcz38_0
             try clear hcz38_1
             try clear hcz38_2
             try clear hcz38_3
             try clear hcz39_0
             try clear hcz39_1
             try clear hcz39_2
             try clear hcz39_3
             try clear hcz40_0
             try clear hcz40_1
             try clear hcz40_2
             try clear hcz40_3
             try clear hcz43_0
             try clear hcz43_1
             try clear hcz43_2
             try clear hcz43_3
             try clear hcz47_0
             try clear hcz47_1
             try clear hcz47_2
             try clear hcz47_3
             try clear hcz51_0
             try clear hcz51_1
             try clear hcz51_2
             try clear hcz51_3
             try clear hcz52_0
             try clear hcz52_1
             try clear hcz52_2
             try clear hcz52_3
             try clear hcz55_0
             try clear hcz55_1
             try clear hcz55_2
             try clear hcz55_3
             try clear hcz56_0
             try clear hcz56_1
             try clear hcz56_2
             try clear hcz56_3
             try clear hcz57_0
             try clear hcz57_1
             try clear hcz57_2
             try clear hcz57_3
             try clear hfz17_0
             try clear hfz17_1
             try clear hfz17_2
             try clear hfz17_3
             try clear hfz25_0
             try clear hfz25_1
             try clear hfz25_2
             try clear hfz25_3
             try clear hfz26_0
             try clear hfz26_1
             try clear hfz26_2
             try clear hfz26_3
             try clear hfz27_0
             try clear hfz27_1
             try clear hfz27_2
             try clear hfz27_3
             try clear hfz30_0
             try clear hfz30_1
             try clear hfz30_2
             try clear hfz30_3
             try clear hfz31_0
             try clear hfz31_1
             try clear hfz31_2
             try clear hfz31_3
             try clear hfz32_0
             try clear hfz32_1
             try clear hfz32_2
             try clear hfz32_3
             try clear hfz38_0
             try clear hfz38_1
             try clear hfz38_2
             try clear hfz38_3
             try clear hfz39_0
             try clear hfz39_1
             try clear hfz39_2
             try clear hfz39_3
             try clear hfz40_0
             try clear hfz40_1
             try clear hfz40_2
             try clear hfz40_3
             try clear hfz43_0
             try clear hfz43_1
             try clear hfz43_2
             try clear hfz43_3
             try clear hfz47_0
             try clear hfz47_1
             try clear hfz47_2
             try clear hfz47_3
             try clear hfz51_0
             try clear hfz51_1
             try clear hfz51_2
             try clear hfz51_3
             try clear hfz52_0
             try clear hfz52_1
             try clear hfz52_2
             try clear hfz52_3
             try clear hfz55_0
             try clear hfz55_1
             try clear hfz55_2
             try clear hfz55_3
             try clear hfz56_0
             try clear hfz56_1
             try clear hfz56_2
             try clear hfz56_3
             try clear hfz57_0
             try clear hfz57_1
             try clear hfz57_2
             try clear hfz57_3
             try clear hx141_0
             try clear hx141_1
             try clear hx141_2
             try clear hx141_3
             try clear hx143_0
             try clear hx143_1
             try clear hx143_2
             try clear hx143_3
             try clear p1
             try clear p14
             try clear p141
             try clear p143
             try clear p2
             try clear q1
             try clear q14
             try clear q141
             try clear q143
             obtain ⟨x11_4, x12_4, rfl, rfl, HA, HK4, BK144, HB⟩ := hrel
             cases gk with
             | zero => exact absurd HA.out (by simp [spec_l11End.l0])
             | succ k4 =>
              have H := HA.out
              clear HA
              simp only [spec_l11End.l0] at H
              by_cases c59 : x12_4 < ((rd_T95 l0 a1).f3)
              ·rw [if_pos c59] at H
               have c59b0 : decide (x12_4 < ((rd_T95 l0 a1).f3)) = true := decide_eq_true c59
               clear c59
               by_cases c60 : t151.toList = ([42] : List UInt8)
               ·rw [if_pos c60] at H
                have c60b0 : (t151.toList == ([42] : List UInt8)) = true := beq_iff_eq.mpr c60
                have c60b1 : (t151.toList != ([42] : List UInt8)) = false := bne_eq_false_iff_eq.mpr c60
                clear c60
                replace H := Option.bind_eq_some_iff.mp H
                obtain ⟨t152, A610, H⟩ := H
                replace H : (if t152 < 0 then (some (-1)) else (spec_l11End.l0 k4 l0 a3 t151 t152 (wrap64 (x12_4 + 1)) ((rd_T95 l0 a1).f0) ((rd_T95 l0 a1).f1) ((rd_T95 l0 a1).f2) ((rd_T95 l0 a1).f3))) = some r := H
                have A61 := Aside0.mk A610
                clear A610
                by_cases c62 : t152 < 0
                ·rw [if_pos c62] at H
                 have c62b0 : decide (t152 < 0) = true := decide_eq_true c62
                 clear c62
                 obtain rfl := Option.some.inj H
                 have hcz63_0 : wr.cell? ⟨gb144, 0, none⟩ = some (.int .i64 ((rd_T95 l0 a1).f0)) := bc BK144.out 0
                 have hcz63_1 : wr.cell? ⟨gb144, 1, none⟩ = some (.int .i64 ((rd_T95 l0 a1).f1)) := bc BK144.out 1
                 have hcz63_2 : wr.cell? ⟨gb144, 2, none⟩ = some (.string ((rd_T95 l0 a1).f2)) := bc BK144.out 2
                 have hcz63_3 : wr.cell? ⟨gb144, 3, none⟩ = some (.int .i64 ((rd_T95 l0 a1).f3)) := bc BK144.out 3
                 have hfz63_0 := blk_frozen BK144.out 0
                 have hfz63_1 := blk_frozen BK144.out 1
                 have hfz63_2 := blk_frozen BK144.out 2
                 have hfz63_3 := blk_frozen BK144.out 3
                 go_wp2_with (first | ((with_reducible refine gate_callee (f := 59) rfl ?_); refine gl (some 100) Try.func59 #[.slice (some ad143) l0.length c0, .int .i64 x11_4, .int .u8 115, .int .i64 (wrap64 (a3 + 1))] ?_; (with_reducible refine (ih k4 (by have := HJ4.out; have := HJ14.out; have := HJ45.out; have := HK4.out; omega) _ _ l0 x11_4 115 (wrap64 (a3 + 1)) t152 _ ?side1 ?side2 A61.out).mono ?_); (case side1 => repeat (first | exact (Kd.C_below HR0.out HB.out) | (with_reducible refine Kd.C_alloc ?_ _) | (with_reducible refine Kd.C_drewN ?_ _) | (with_reducible refine Kd.C_drew ?_))); (case side2 => exact HC0.out); rintro e w64 ⟨rfl, hb⟩; refine ⟨_, rfl, ?_⟩; replace BK144 := am (blk_below (pk BK144.out) hb); replace HB := am (below_step (bl HB.out) hb); (try clear hb); (try clear hb2); (try clear hk); (try clear hi)))
                 go_ret
                 exact ⟨by first | rfl | (simp [errW_none, errW_some] <;> rfl) | (simp [*, errW_none, errW_some] <;> rfl), by repeat (first | (with_reducible first | exact HB.out | apply below_alloc | apply pw_below_drewN | apply below_drew1 | refine below_set ?_ GE144.out) | exact HB.out)⟩
                ·rw [if_neg c62] at H
                 have c62b0 : decide (t152 < 0) = false := decide_eq_false c62
                 clear c62
                 have H' := Aside0.mk H
                 clear H
                 have hcz65_0 : wr.cell? ⟨gb144, 0, none⟩ = some (.int .i64 ((rd_T95 l0 a1).f0)) := bc BK144.out 0
                 have hcz65_1 : wr.cell? ⟨gb144, 1, none⟩ = some (.int .i64 ((rd_T95 l0 a1).f1)) := bc BK144.out 1
                 have hcz65_2 : wr.cell? ⟨gb144, 2, none⟩ = some (.string ((rd_T95 l0 a1).f2)) := bc BK144.out 2
                 have hcz65_3 : wr.cell? ⟨gb144, 3, none⟩ = some (.int .i64 ((rd_T95 l0 a1).f3)) := bc BK144.out 3
                 have hfz65_0 := blk_frozen BK144.out 0
                 have hfz65_1 := blk_frozen BK144.out 1
                 have hfz65_2 := blk_frozen BK144.out 2
                 have hfz65_3 := blk_frozen BK144.out 3
                 go_wp2_with (first | ((with_reducible refine gate_callee (f := 59) rfl ?_); refine gl (some 100) Try.func59 #[.slice (some ad143) l0.length c0, .int .i64 x11_4, .int .u8 115, .int .i64 (wrap64 (a3 + 1))] ?_; (with_reducible refine (ih k4 (by have := HJ4.out; have := HJ14.out; have := HJ45.out; have := HK4.out; omega) _ _ l0 x11_4 115 (wrap64 (a3 + 1)) t152 _ ?side1 ?side2 A61.out).mono ?_); (case side1 => repeat (first | exact (Kd.C_below HR0.out HB.out) | (with_reducible refine Kd.C_alloc ?_ _) | (with_reducible refine Kd.C_drewN ?_ _) | (with_reducible refine Kd.C_drew ?_))); (case side2 => exact HC0.out); rintro e w66 ⟨rfl, hb⟩; refine ⟨_, rfl, ?_⟩; replace BK144 := am (blk_below (pk BK144.out) hb); replace HB := am (below_step (bl HB.out) hb); (try clear hb); (try clear hb2); (try clear hk); (try clear hi)))
                 go_roundg k4
                 case measure => have := HJ4.out; have := HJ14.out; have := HJ45.out; have := HK4.out; omega
                 case rel => exact ⟨(t152), (wrap64 (x12_4 + 1)), (by first | rfl | (simp; done) | (simp [*]; done)), (by first | rfl | (simp; done) | (simp [*]; done)), H', ⟨by have := HJ4.out; have := HJ14.out; have := HJ45.out; have := HK4.out; omega⟩, ⟨pk BK144.out⟩, ⟨by repeat (first | (with_reducible first | exact HB.out | apply below_alloc | apply pw_below_drewN | apply below_drew1 | refine below_set ?_ GE144.out) | exact HB.out)⟩⟩
               ·rw [if_neg c60] at H
                have c60b0 : (t151.toList == ([42] : List UInt8)) = false := beq_eq_false_iff_ne.mpr c60
                have c60b1 : (t151.toList != ([42] : List UInt8)) = true := bne_iff_ne.mpr c60
                by_cases c67 : 0 ≤ x12_4
                ·rw [if_pos c67] at H
                 have c67b0 : decide (0 ≤ x12_4) = true := decide_eq_true c67
                 clear c67
                 by_cases c68 : x12_4 < (t151.size : Int)
                 ·rw [if_pos c68] at H
                  have c68b0 : decide (x12_4 < (t151.size : Int)) = true := decide_eq_true c68
                  clear c68
                  replace H := Option.bind_eq_some_iff.mp H
                  obtain ⟨t153, A700, H⟩ := H
                  replace H : (if t153 < 0 then (some (-1)) else (spec_l11End.l0 k4 l0 a3 t151 t153 (wrap64 (x12_4 + 1)) ((rd_T95 l0 a1).f0) ((rd_T95 l0 a1).f1) ((rd_T95 l0 a1).f2) ((rd_T95 l0 a1).f3))) = some r := H
                  have A70 := Aside0.mk A700
                  clear A700
                  by_cases c71 : t153 < 0
                  ·rw [if_pos c71] at H
                   have c71b0 : decide (t153 < 0) = true := decide_eq_true c71
                   clear c71
                   obtain rfl := Option.some.inj H
                   have hcz72_0 : wr.cell? ⟨gb144, 0, none⟩ = some (.int .i64 ((rd_T95 l0 a1).f0)) := bc BK144.out 0
                   have hcz72_1 : wr.cell? ⟨gb144, 1, none⟩ = some (.int .i64 ((rd_T95 l0 a1).f1)) := bc BK144.out 1
                   have hcz72_2 : wr.cell? ⟨gb144, 2, none⟩ = some (.string ((rd_T95 l0 a1).f2)) := bc BK144.out 2
                   have hcz72_3 : wr.cell? ⟨gb144, 3, none⟩ = some (.int .i64 ((rd_T95 l0 a1).f3)) := bc BK144.out 3
                   have hfz72_0 := blk_frozen BK144.out 0
                   have hfz72_1 := blk_frozen BK144.out 1
                   have hfz72_2 := blk_frozen BK144.out 2
                   have hfz72_3 := blk_frozen BK144.out 3
                   have p69 : 0 ≤ (x12_4 : Int) := of_decide_eq_true (by first | (with_reducible assumption) | assumption)
                   have q69 : x12_4 < (t151.size : Int) := of_decide_eq_true (by first | (with_reducible assumption) | assumption)
                   have hx69 := bt_at t151 x12_4
                   replace p69 := eq_true p69
                   replace q69 := eq_true q69
                   go_wp2_with (first | ((with_reducible refine gate_callee (f := 59) rfl ?_); refine gl (some 100) Try.func59 #[.slice (some ad143) l0.length c0, .int .i64 x11_4, .int .u8 (bt t151 x12_4), .int .i64 (wrap64 (a3 + 1))] ?_; (with_reducible refine (ih k4 (by have := HJ4.out; have := HJ14.out; have := HJ45.out; have := HK4.out; omega) _ _ l0 x11_4 (bt t151 x12_4) (wrap64 (a3 + 1)) t153 _ ?side1 ?side2 A70.out).mono ?_); (case side1 => repeat (first | exact (Kd.C_below HR0.out HB.out) | (with_reducible refine Kd.C_alloc ?_ _) | (with_reducible refine Kd.C_drewN ?_ _) | (with_reducible refine Kd.C_drew ?_))); (case side2 => exact HC0.out); rintro e w73 ⟨rfl, hb⟩; refine ⟨_, rfl, ?_⟩; replace BK144 := am (blk_below (pk BK144.out) hb); replace HB := am (below_step (bl HB.out) hb); (try clear hb); (try clear hb2); (try clear hk); (try clear hi)))
                   go_ret
                   exact ⟨by first | rfl | (simp [errW_none, errW_some] <;> rfl) | (simp [*, errW_none, errW_some] <;> rfl), by repeat (first | (with_reducible first | exact HB.out | apply below_alloc | apply pw_below_drewN | apply below_drew1 | refine below_set ?_ GE144.out) | exact HB.out)⟩
                  ·rw [if_neg c71] at H
                   have c71b0 : decide (t153 < 0) = false := decide_eq_false c71
                   clear c71
                   have H' := Aside0.mk H
                   clear H
                   have hcz74_0 : wr.cell? ⟨gb144, 0, none⟩ = some (.int .i64 ((rd_T95 l0 a1).f0)) := bc BK144.out 0
                   have hcz74_1 : wr.cell? ⟨gb144, 1, none⟩ = some (.int .i64 ((rd_T95 l0 a1).f1)) := bc BK144.out 1
                   have hcz74_2 : wr.cell? ⟨gb144, 2, none⟩ = some (.string ((rd_T95 l0 a1).f2)) := bc BK144.out 2
                   have hcz74_3 : wr.cell? ⟨gb144, 3, none⟩ = some (.int .i64 ((rd_T95 l0 a1).f3)) := bc BK144.out 3
                   have hfz74_0 := blk_frozen BK144.out 0
                   have hfz74_1 := blk_frozen BK144.out 1
                   have hfz74_2 := blk_frozen BK144.out 2
                   have hfz74_3 := blk_frozen BK144.out 3
                   have p69 : 0 ≤ (x12_4 : Int) := of_decide_eq_true (by first | (with_reducible assumption) | assumption)
                   have q69 : x12_4 < (t151.size : Int) := of_decide_eq_true (by first | (with_reducible assumption) | assumption)
                   have hx69 := bt_at t151 x12_4
                   replace p69 := eq_true p69
                   replace q69 := eq_true q69
                   go_wp2_with (first | ((with_reducible refine gate_callee (f := 59) rfl ?_); refine gl (some 100) Try.func59 #[.slice (some ad143) l0.length c0, .int .i64 x11_4, .int .u8 (bt t151 x12_4), .int .i64 (wrap64 (a3 + 1))] ?_; (with_reducible refine (ih k4 (by have := HJ4.out; have := HJ14.out; have := HJ45.out; have := HK4.out; omega) _ _ l0 x11_4 (bt t151 x12_4) (wrap64 (a3 + 1)) t153 _ ?side1 ?side2 A70.out).mono ?_); (case side1 => repeat (first | exact (Kd.C_below HR0.out HB.out) | (with_reducible refine Kd.C_alloc ?_ _) | (with_reducible refine Kd.C_drewN ?_ _) | (with_reducible refine Kd.C_drew ?_))); (case side2 => exact HC0.out); rintro e w75 ⟨rfl, hb⟩; refine ⟨_, rfl, ?_⟩; replace BK144 := am (blk_below (pk BK144.out) hb); replace HB := am (below_step (bl HB.out) hb); (try clear hb); (try clear hb2); (try clear hk); (try clear hi)))
                   go_roundg k4
                   case measure => have := HJ4.out; have := HJ14.out; have := HJ45.out; have := HK4.out; omega
                   case rel => exact ⟨(t153), (wrap64 (x12_4 + 1)), (by first | rfl | (simp; done) | (simp [*]; done)), (by first | rfl | (simp; done) | (simp [*]; done)), H', ⟨by have := HJ4.out; have := HJ14.out; have := HJ45.out; have := HK4.out; omega⟩, ⟨pk BK144.out⟩, ⟨by repeat (first | (with_reducible first | exact HB.out | apply below_alloc | apply pw_below_drewN | apply below_drew1 | refine below_set ?_ GE144.out) | exact HB.out)⟩⟩
                 ·rw [if_neg c68] at H
                  exact absurd H (by simp)
                ·rw [if_neg c67] at H
                 exact absurd H (by simp)
              ·rw [if_neg c59] at H
               have c59b0 : decide (x12_4 < ((rd_T95 l0 a1).f3)) = false := decide_eq_false c59
               clear c59
               obtain rfl := Option.some.inj H
               have hcz76_0 : wr.cell? ⟨gb144, 0, none⟩ = some (.int .i64 ((rd_T95 l0 a1).f0)) := bc BK144.out 0
               have hcz76_1 : wr.cell? ⟨gb144, 1, none⟩ = some (.int .i64 ((rd_T95 l0 a1).f1)) := bc BK144.out 1
               have hcz76_2 : wr.cell? ⟨gb144, 2, none⟩ = some (.string ((rd_T95 l0 a1).f2)) := bc BK144.out 2
               have hcz76_3 : wr.cell? ⟨gb144, 3, none⟩ = some (.int .i64 ((rd_T95 l0 a1).f3)) := bc BK144.out 3
               have hfz76_0 := blk_frozen BK144.out 0
               have hfz76_1 := blk_frozen BK144.out 1
               have hfz76_2 := blk_frozen BK144.out 2
               have hfz76_3 := blk_frozen BK144.out 3
               go_wp2
               go_ret
               exact ⟨by first | rfl | (simp [errW_none, errW_some] <;> rfl) | (simp [*, errW_none, errW_some] <;> rfl), by repeat (first | (with_reducible first | exact HB.out | apply below_alloc | apply pw_below_drewN | apply below_drew1 | refine below_set ?_ GE144.out) | exact HB.out)⟩
     ·rw [if_neg c14] at H
      exact absurd H (by simp)
    ·rw [if_neg c13] at H
     exact absurd H (by simp)

end Go.Proofs.Ytcjclihkaaaihaa.PFnExactNodesVars
