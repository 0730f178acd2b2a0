-- Written by xprint.py (this claim's own program, over the kit's printer); Lean checks it.
import Derived.Test.YtegadjijonlmcaaPFnExactBufMovex0
import Derived.Test.YtegadjijonlmcaaPFnExactBufMovex5
import Derived.Test.YtegadjijonlmcaaPFnExactBufMovex6
namespace Go.Proofs.Ytegadjijonlmcaa.PFnExactBufMove
open Go.RowKit Go.Proofs.YtegadjijonlmcaaW.PrintWords Go.Proofs.YtegadjijonlmcaaW.PrintLast Go.Proofs.YtegadjijonlmcaaW.PrintMore
attribute [local go_sem] max2_int min2_int max_two min_two max_three min_three max_four min_four   -- for this text's walks alone
set_option linter.unusedVariables false
set_option linter.unusedSimpArgs false   -- squeezed

/-! ### impl_Buf_lines: function 115 -/
def impl_Buf_lines.l0 : Nat → List Int → List Int → Int → Int → Option (List Int)
 | 0, _, _, _, _ => none
 | k + 1, x3, x10, x11, x12 => if x12 < x11 then (if 0 ≤ x12 then (if x12 < (x10.length : Int) then (if (rd x10 x12) = 10 then (if x3.length < 17592186044416 then (impl_Buf_lines.l0 k (x3 ++ [wrap64 (x12 + 1)]) x10 x11 (wrap64 (x12 + 1))) else (none)) else (impl_Buf_lines.l0 k x3 x10 x11 (wrap64 (x12 + 1)))) else (none)) else (none)) else (some x3)
def impl_Buf_lines.f (k : Nat) (l0_0 : List Int) (a0_1 : Int) (a0_2 : Int) : Option (List Int) := impl_Buf_lines.l0 k (([0] : List Int)) l0_0 (l0_0.length : Int) 0
theorem impl_Buf_lines.mono_l : ∀ k, (∀ y0 y1 y2 y3, LeO (impl_Buf_lines.l0 k y0 y1 y2 y3) (impl_Buf_lines.l0 (k + 1) y0 y1 y2 y3))
 | 0 => fun _ _ _ _ r h => by simp [impl_Buf_lines.l0] at h
 | k + 1 => by
  have ih0 := impl_Buf_lines.mono_l k
  ·intro y0 y1 y2 y3
   unfold impl_Buf_lines.l0
   repeat' first
   | (with_reducible exact ih0 _ _ _ _)
   | (with_reducible exact LeO.refl _)
   | (with_reducible exact LeO.none _)
   | (with_reducible refine LeO.ite ?_ ?_)
   | (with_reducible refine LeO.bind ?_ (fun _ => ?_))
   | exact ih0 _ _ _ _
   | exact LeO.none _
   | refine LeO.ite ?_ ?_
   | refine LeO.bind ?_ (fun _ => ?_)
theorem impl_Buf_lines.mono : ∀ a0 a1 a2 k, LeO (impl_Buf_lines.f k a0 a1 a2) (impl_Buf_lines.f (k + 1) a0 a1 a2) := by
 intro a0 a1 a2 k
 have ih0 := impl_Buf_lines.mono_l k
 unfold impl_Buf_lines.f
 repeat' first
   | (with_reducible exact ih0 _ _ _ _)
   | (with_reducible exact LeO.refl _)
   | (with_reducible exact LeO.none _)
   | (with_reducible refine LeO.ite ?_ ?_)
   | (with_reducible refine LeO.bind ?_ (fun _ => ?_))
   | exact ih0 _ _ _ _
   | exact LeO.none _
   | refine LeO.ite ?_ ?_
   | refine LeO.bind ?_ (fun _ => ?_)
set_option maxHeartbeats 8000000 in
set_option maxRecDepth 100000 in
theorem impl_Buf_lines.calls (k : Nat) (p0 : Addr) (A0_0 : Option Addr) (c0_0 : Nat) (l0_0 : List Int) (a0_1 : Int) (a0_2 : Int) (r : List Int) (w : World) (hr0_0 : Kd.C (Kd.int .i64) w A0_0 l0_0.length l0_0) (hc0_0 : l0_0.length ≤ c0_0) (hp0 : AtP w p0 0 [.slice A0_0 l0_0.length c0_0, .int .i64 a0_1, .int .i64 a0_2]) (h : impl_Buf_lines.f k l0_0 a0_1 a0_2 = some r) :
  Calls Try.prog 115 #[.pointer (some p0)] w fun e w' => ∃ v0_ : Value, e = .returned (v0_) ∧ Kd.R (Kd.int .i64) 2 w' w.heap.size (fun _ => True) v0_ r ∧ Below w.heap.size w w' := by
 have HR0_0 := am hr0_0
 have HC0_0 := am hc0_0
 clear hr0_0 hc0_0
 have BP0 := am hp0
 clear hp0
 have HB := am (Below.refl w.heap.size w)
 have H : (impl_Buf_lines.l0 k (([0] : List Int)) l0_0 (l0_0.length : Int) 0) = some r := h
 clear h
 obtain ⟨y209, hy209⟩ : ∃ y_ : List Int, y_ = (([0] : List Int)) := ⟨_, rfl⟩
 replace H : (impl_Buf_lines.l0 k y209 l0_0 (l0_0.length : Int) 0) = some r := by first | (rw [hy209]; with_reducible exact H) | (have H2_ := (Option.bind_some _ _).symm.trans H; rw [hy209]; with_reducible exact H2_) | (have H2_ := (Option.bind_some _ _).symm.trans H; with_reducible exact H2_) | with_reducible exact H | (rw [hy209]; exact H) | exact H
 have Ny209 := am hy209
 clear hy209
 have H' := Aside0.mk H
 clear H
 go_enter Try.func115, Try.ntmps115
 go_wp2_with (first | ((with_reducible refine gate_dst (N := 6) rfl ?_); refine Kd.R_lit (Kd.int .i64) _ 2 ?hg (N := 6) ?hd (xs := ([0] : List Int)) (inner := [.int .i64 0]) (ok := fun _ => True) (okp := fun _ => True) ?hr ?hp (fun _ hk => hk) trivial (Below.refl _ _) (Nat.le_refl _) (by simp) ?_; (case hd => rfl); (case hg => rfl); (case hr => first | (go_simp; done) | (go_simp; rfl)); (case hp => exact (Reps.one (show Kd.M (Kd.int .i64) _ _ _ 0 [.int .i64 0] from rfl) (Reps.none _ _))); intro v210 w2 ho3 hb hg_ hnew_; clear hg_ hnew_; (first | rw [← Ny209.out] at ho3 | (simp only [Int.reduceToNat] at ho3; rw [← Ny209.out] at ho3)); have n0_ := am (Kd.R_lower ho3 (below_size (bl HB.out))); have n1_ := am (below_step (bl HB.out) hb); clear HB; have HO211 := n0_; have HB := n1_; clear n0_ n1_; clear hb ho3; obtain ⟨hcz4_0, hcz4_1, hcz4_2, _⟩ := (show w2.cell? p0 = some (.slice A0_0 l0_0.length c0_0) ∧ w2.cell? ⟨p0.block, p0.off + 1, none⟩ = some (.int .i64 a0_1) ∧ w2.cell? ⟨p0.block, p0.off + 2, none⟩ = some (.int .i64 a0_2) ∧ True from AtP.below HB.out BP0.out)))
 go_loopg [3, 12] k (fun kq v3 v12 w' => ∃ (x3_1 : List Int) (x12_1 : Int), v12 = .int .i64 x12_1 ∧ Aside0 (impl_Buf_lines.l0 kq x3_1 l0_0 (l0_0.length : Int) x12_1 = some r) ∧ Aside0 (kq ≤ k) ∧ Aside0 (Kd.R (Kd.int .i64) 2 w' w.heap.size (fun _ => True) v3 x3_1) ∧ Aside0 (Below w.heap.size w w'))
 case atStart => exact ⟨(y209), (0), (by first | rfl | (simp; done) | (simp [*]; done)), H', ⟨Nat.le_refl _⟩, ⟨by (with_reducible repeat (first | apply Kd.R_alloc | apply Kd.R_drewN | apply Kd.R_drew)); exact HO211.out⟩, ⟨by repeat (first | (with_reducible first | exact HB.out | apply below_alloc | apply pw_below_drewN | apply below_drew1) | exact HB.out)⟩⟩
 case round =>
  clear H'
  try clear c1
  try clear p2
  try clear hcz4_0
  try clear hcz4_1
  try clear hcz4_2
  try clear p0
  obtain ⟨x3_1, x12_1, rfl, HA, HK1, HO_3, HB⟩ := hrel
  cases gk with
  | zero => exact absurd HA.out (by simp [impl_Buf_lines.l0])
  | succ k1 =>
   have H := HA.out
   clear HA
   simp only [impl_Buf_lines.l0] at H
   by_cases c5 : x12_1 < (l0_0.length : Int)
   ·rw [if_pos c5] at H
    have c5b0 : decide (x12_1 < (l0_0.length : Int)) = true := decide_eq_true c5
    clear c5
    by_cases c6 : 0 ≤ x12_1
    ·rw [if_pos c6] at H
     have c6b0 : decide (0 ≤ x12_1) = true := decide_eq_true c6
     clear c6
     by_cases c7 : x12_1 < (l0_0.length : Int)
     ·rw [if_pos c7] at H
      have c7b0 : decide (x12_1 < (l0_0.length : Int)) = true := decide_eq_true c7
      clear c7
      by_cases c8 : (rd l0_0 x12_1) = 10
      ·rw [if_pos c8] at H
       have c8b0 : ((rd l0_0 x12_1) == 10) = true := beq_iff_eq.mpr c8
       have c8b1 : ((rd l0_0 x12_1) != 10) = false := bne_eq_false_iff_eq.mpr c8
       clear c8
       by_cases c9 : x3_1.length < 17592186044416
       ·rw [if_pos c9] at H
        have LMc9 := Aside0.mk c9
        clear c9
        obtain ⟨y213, hy213⟩ : ∃ y_ : List Int, y_ = (x3_1 ++ [wrap64 (x12_1 + 1)]) := ⟨_, rfl⟩
        replace H : (impl_Buf_lines.l0 k1 y213 l0_0 (l0_0.length : Int) (wrap64 (x12_1 + 1))) = some r := by first | (rw [hy213]; with_reducible exact H) | (have H2_ := (Option.bind_some _ _).symm.trans H; rw [hy213]; with_reducible exact H2_) | (have H2_ := (Option.bind_some _ _).symm.trans H; with_reducible exact H2_) | with_reducible exact H | (rw [hy213]; exact H) | exact H
        have Ny213 := am hy213
        clear hy213
        have H' := Aside0.mk H
        clear H
        have p212 : 0 ≤ (x12_1 : Int) := of_decide_eq_true (by first | (with_reducible assumption) | assumption)
        have q212 : x12_1 < (l0_0.length : Int) := of_decide_eq_true (by first | (with_reducible assumption) | assumption)
        obtain ⟨ad212, e212, hx212_0⟩ := Kd.at_int HR0_0.out x12_1 p212 q212
        cases e212
        replace hx212_0 := (HB.out.cell (World.block_lt_of_cell? w _ hx212_0)).trans hx212_0
        replace p212 := eq_true p212
        replace q212 := eq_true q212
        go_wp2_with (first | ((with_reducible refine gate_builtin (b := .append) (xs := #[.tmp 19, .tmp 22]) rfl ?_); at_builtin; refine Kd.R_append (Kd.int .i64) (w0 := w) w.heap.size rfl (.tmp 19) (.tmp 22) 22 2 (.int .i64 0) 8 rfl Try.underlying22 info2 rfl (by decide) (by omega) u3 x3_1 (wrap64 (x12_1 + 1)) [.int .i64 (wrap64 (x12_1 + 1))] (fun _ => True) (fun _ => False) rfl rfl ?aP (fun _ hk => hk.elim) ?aF ?aO ?aB ?aS ?aL ?_; (case aP => exact rfl); (case aB => exact (bl HB.out)); (case aF => exact (fun _ _ => trivial)); (case aO => exact (by (with_reducible repeat (first | apply Kd.R_alloc | apply Kd.R_drewN | apply Kd.R_drew)); exact HO_3.out)); (case aS => exact (below_size (bl HB.out))); (case aL => have := LMc9.out; omega); intro v214 w10 ho hb hg hat; rw [← Ny213.out] at ho; have n0_ := am (hb); have n1_ := am (ho); clear HB; clear HO_3; have HB := n0_; have HO215 := n1_; clear n0_ n1_; clear ho hb hg hat))
        go_roundg k1
        case measure => have := HK1.out; omega
        case rel => exact ⟨(y213), (wrap64 (x12_1 + 1)), (by first | rfl | (simp; done) | (simp [*]; done)), H', ⟨by have := HK1.out; omega⟩, ⟨by (with_reducible repeat (first | apply Kd.R_alloc | apply Kd.R_drewN | apply Kd.R_drew)); exact HO215.out⟩, ⟨by repeat (first | (with_reducible first | exact HB.out | apply below_alloc | apply pw_below_drewN | apply below_drew1) | exact HB.out)⟩⟩
       ·rw [if_neg c9] at H
        exact absurd H (by simp)
      ·rw [if_neg c8] at H
       have c8b0 : ((rd l0_0 x12_1) == 10) = false := beq_eq_false_iff_ne.mpr c8
       have c8b1 : ((rd l0_0 x12_1) != 10) = true := bne_iff_ne.mpr c8
       have H' := Aside0.mk H
       clear H
       have p212 : 0 ≤ (x12_1 : Int) := of_decide_eq_true (by first | (with_reducible assumption) | assumption)
       have q212 : x12_1 < (l0_0.length : Int) := of_decide_eq_true (by first | (with_reducible assumption) | assumption)
       obtain ⟨ad212, e212, hx212_0⟩ := Kd.at_int HR0_0.out x12_1 p212 q212
       cases e212
       replace hx212_0 := (HB.out.cell (World.block_lt_of_cell? w _ hx212_0)).trans hx212_0
       replace p212 := eq_true p212
       replace q212 := eq_true q212
       go_wp2
       go_roundg k1
       case measure => have := HK1.out; omega
       case rel => exact ⟨(x3_1), (wrap64 (x12_1 + 1)), (by first | rfl | (simp; done) | (simp [*]; done)), H', ⟨by have := HK1.out; omega⟩, ⟨by (with_reducible repeat (first | apply Kd.R_alloc | apply Kd.R_drewN | apply Kd.R_drew)); exact HO_3.out⟩, ⟨by repeat (first | (with_reducible first | exact HB.out | apply below_alloc | apply pw_below_drewN | apply below_drew1) | exact HB.out)⟩⟩
     ·rw [if_neg c7] at H
      exact absurd H (by simp)
    ·rw [if_neg c6] at H
     exact absurd H (by simp)
   ·rw [if_neg c5] at H
    have c5b0 : decide (x12_1 < (l0_0.length : Int)) = false := decide_eq_false c5
    clear c5
    obtain rfl := Option.some.inj H
    go_wp2
    go_ret
    exact ⟨_, by first | rfl | (simp [errW_none, errW_some] <;> rfl) | (simp [*, errW_none, errW_some] <;> rfl), by (with_reducible repeat (first | apply Kd.R_alloc | apply Kd.R_drewN | apply Kd.R_drew)); exact HO_3.out, by repeat (first | (with_reducible first | exact HB.out | apply below_alloc | apply pw_below_drewN | apply below_drew1) | exact HB.out)⟩

/-! ### impl_Buf_spot: function 107 -/
def impl_Buf_spot.f (k : Nat) (l0_0 : List Int) (a0_1 : Int) (a0_2 : Int) (a1 : Int) : Option (Int × Int) := (impl_Buf_start.f k l0_0 a0_1 a0_2 a1).bind fun t217 => ((impl_Buf_lines.f k l0_0 a0_1 a0_2).bind fun t218 => ((slices_Index_sint64_int64.f k t218 t217).bind fun t221 => (some (t221, wrap64 (a1 - t217)))))
theorem impl_Buf_spot.mono : ∀ a0 a1 a2 a3 k, LeO (impl_Buf_spot.f k a0 a1 a2 a3) (impl_Buf_spot.f (k + 1) a0 a1 a2 a3) := by
 intro a0 a1 a2 a3 k
 unfold impl_Buf_spot.f
 repeat' first
   | (with_reducible exact impl_Buf_lines.mono _ _ _ _)
   | (with_reducible exact impl_Buf_start.mono _ _ _ _ _)
   | (with_reducible exact slices_Index_sint64_int64.mono _ _ _)
   | (with_reducible exact LeO.refl _)
   | (with_reducible exact LeO.none _)
   | (with_reducible refine LeO.ite ?_ ?_)
   | (with_reducible refine LeO.bind ?_ (fun _ => ?_))
   | exact impl_Buf_lines.mono _ _ _ _
   | exact impl_Buf_start.mono _ _ _ _ _
   | exact slices_Index_sint64_int64.mono _ _ _
   | exact LeO.none _
   | refine LeO.ite ?_ ?_
   | refine LeO.bind ?_ (fun _ => ?_)
set_option maxHeartbeats 8000000 in
set_option maxRecDepth 100000 in
theorem impl_Buf_spot.calls (k : Nat) (p0 : Addr) (A0_0 : Option Addr) (c0_0 : Nat) (l0_0 : List Int) (a0_1 : Int) (a0_2 : Int) (a1 : Int) (r1 : Int) (r2 : Int) (w : World) (hr0_0 : Kd.C (Kd.int .i64) w A0_0 l0_0.length l0_0) (hc0_0 : l0_0.length ≤ c0_0) (hp0 : AtP w p0 0 [.slice A0_0 l0_0.length c0_0, .int .i64 a0_1, .int .i64 a0_2]) (h : impl_Buf_spot.f k l0_0 a0_1 a0_2 a1 = some (r1, r2)) :
  Calls Try.prog 107 #[.pointer (some p0), .int .i64 a1] w fun e w' => e = .returned (.agg #[.int .i64 r1, .int .i64 r2]) ∧ Below w.heap.size w w' := by
 have hu71 := Try.underlying71
 have HR0_0 := am hr0_0
 have HC0_0 := am hc0_0
 clear hr0_0 hc0_0
 have BP0 := am hp0
 clear hp0
 have HB := am (Below.refl w.heap.size w)
 have H : ((impl_Buf_start.f k l0_0 a0_1 a0_2 a1).bind fun t217 => ((impl_Buf_lines.f k l0_0 a0_1 a0_2).bind fun t218 => ((slices_Index_sint64_int64.f k t218 t217).bind fun t221 => (some (t221, wrap64 (a1 - t217)))))) = some (r1, r2) := h
 clear h
 replace H := Option.bind_eq_some_iff.mp H
 obtain ⟨t217, A30, H⟩ := H
 replace H : ((impl_Buf_lines.f k l0_0 a0_1 a0_2).bind fun t218 => ((slices_Index_sint64_int64.f k t218 t217).bind fun t221 => (some (t221, wrap64 (a1 - t217))))) = some (r1, r2) := H
 have A3 := Aside0.mk A30
 clear A30
 replace H := Option.bind_eq_some_iff.mp H
 obtain ⟨t218, A40, H⟩ := H
 replace H : ((slices_Index_sint64_int64.f k t218 t217).bind fun t221 => (some (t221, wrap64 (a1 - t217)))) = some (r1, r2) := H
 have A4 := Aside0.mk A40
 clear A40
 replace H := Option.bind_eq_some_iff.mp H
 obtain ⟨t221, A50, H⟩ := H
 replace H : (some (t221, wrap64 (a1 - t217))) = some (r1, r2) := H
 have A5 := Aside0.mk A50
 clear A50
 simp only [Option.some.injEq, Prod.mk.injEq] at H
 obtain ⟨rfl, rfl⟩ := H
 go_enter Try.func107, Try.ntmps107
 go_wp2_with (first | ((with_reducible refine gate_dst (N := 4) rfl ?_); refine box_event ?hg (N := 4) ?hd (cs := #[.int .i64 0, .int .i64 0]) (t := 71) ?hr ?_; (case hd => rfl); (case hg => rfl); (case hr => first | (go_simp; done) | (go_simp; rfl)); intro gb216 hg w6 hbox hb; have n0_ := am (below_step (bl HB.out) hb); have n1_ := am (hbox); have n2_ := am ((by rw [hg]; exact (below_size (bl HB.out)) : w.heap.size ≤ gb216)); have n3_ := am ((by rw [hg]; exact (below_size (bl HB.out)) : w.heap.size ≤ gb216)); clear HB; have HB := n0_; have BK216 := n1_; have GW216 := n2_; have GE216 := n3_; clear n0_ n1_ n2_ n3_; clear hb hbox hg) | ((with_reducible refine gate_callee (f := 105) rfl ?_); refine gl (some 8) Try.func105 #[.pointer (some p0), .int .i64 a1] ?_; (with_reducible refine (impl_Buf_start.calls k _ A0_0 c0_0 l0_0 a0_1 a0_2 a1 t217 _ ?side1 ?side2 ?side3 A3.out).mono ?_); (case side1 => repeat (first | exact (Kd.C_below HR0_0.out HB.out) | (with_reducible refine Kd.C_alloc ?_ _) | (with_reducible refine Kd.C_drewN ?_ _) | (with_reducible refine Kd.C_drew ?_))); (case side2 => exact HC0_0.out); (case side3 => exact (AtP.below (by repeat (first | (with_reducible first | exact HB.out | apply below_alloc | apply pw_below_drewN | apply below_drew1 | refine below_set ?_ GE216.out) | exact HB.out)) BP0.out)); rintro e w' ⟨rfl, ⟨nd, rfl⟩⟩; refine ⟨_, rfl, ?_⟩; (try (rw [drewN_self w6]; generalize hq_ : World.drewN w6 _ = w6; have n0_ : Aside0 (w6.heap[gb216]? = some (.cells #[.int .i64 0, .int .i64 0] 71 (0, 0))) := ⟨by rw [← hq_]; exact (pk BK216.out)⟩; have n1_ : Aside0 (Below w.heap.size w w6) := ⟨by rw [← hq_]; exact (by repeat (first | (with_reducible first | exact HB.out | apply below_alloc | apply pw_below_drewN | apply below_drew1 | refine below_set ?_ GE216.out) | exact HB.out))⟩; clear BK216 HB hq_; have BK216 := n0_; have HB := n1_; clear n0_ n1_))) | ((with_reducible refine gate_callee (f := 115) rfl ?_); refine gl (some 10) Try.func115 #[.pointer (some p0)] ?_; (with_reducible refine (impl_Buf_lines.calls k _ A0_0 c0_0 l0_0 a0_1 a0_2 t218 _ ?side1 ?side2 ?side3 A4.out).mono ?_); (case side1 => repeat (first | exact (Kd.C_below HR0_0.out HB.out) | (with_reducible refine Kd.C_alloc ?_ _) | (with_reducible refine Kd.C_drewN ?_ _) | (with_reducible refine Kd.C_drew ?_))); (case side2 => exact HC0_0.out); (case side3 => exact (AtP.below (by repeat (first | (with_reducible first | exact HB.out | apply below_alloc | apply pw_below_drewN | apply below_drew1 | refine below_set ?_ GE216.out) | exact HB.out)) BP0.out)); rintro e w7 ⟨v219, rfl, ho0, hb⟩; refine ⟨_, rfl, ?_⟩; have n0_ := am (Kd.R_lower ho0 (below_size (by repeat (first | (with_reducible first | exact HB.out | apply below_alloc | apply pw_below_drewN | apply below_drew1 | refine below_set ?_ GE216.out) | exact HB.out)))); have n1_ := am (blk_below (g := gb216) (o := .cells #[.int .i64 0, .int .i64 0] 71 (0, 0)) (pk BK216.out) hb); have n2_ := am (below_step (by repeat (first | (with_reducible first | exact HB.out | apply below_alloc | apply pw_below_drewN | apply below_drew1 | refine below_set ?_ GE216.out) | exact HB.out)) hb); clear BK216; clear HB; have HO220 := n0_; have BK216 := n1_; have HB := n2_; clear n0_ n1_ n2_; (try clear hb); (try clear hb2); (try clear hk); (try clear hi); (try clear ho0); obtain ⟨Ao8, co8, eo8⟩ := Kd.R_slice HO220.out; subst eo8) | ((with_reducible refine gate_callee (f := 114) rfl ?_); refine gl (some 12) Try.func114 #[.slice Ao8 t218.length co8, .int .i64 t217] ?_; (with_reducible refine (slices_Index_sint64_int64.calls k _ _ t218 t217 t221 _ ?side1 ?side2 A5.out).mono ?_); (case side1 => repeat (first | exact (Kd.R_reads' HO220.out).2.2 | (with_reducible refine Kd.C_alloc ?_ _) | (with_reducible refine Kd.C_drewN ?_ _) | (with_reducible refine Kd.C_drew ?_))); (case side2 => exact (Kd.R_reads' HO220.out).2.1); rintro e w' ⟨rfl, ⟨nd, rfl⟩⟩; refine ⟨_, rfl, ?_⟩; (try (rw [drewN_self w7]; generalize hq_ : World.drewN w7 _ = w7; have n0_ : Aside0 (Kd.R (Kd.int .i64) 2 w7 w.heap.size (fun _ => True) (.slice Ao8 t218.length co8) t218) := ⟨by rw [← hq_]; exact (by (with_reducible repeat (first | apply Kd.R_alloc | apply Kd.R_drewN | apply Kd.R_drew)); exact HO220.out)⟩; have n1_ : Aside0 (w7.heap[gb216]? = some (.cells #[.int .i64 0, .int .i64 0] 71 (0, 0))) := ⟨by rw [← hq_]; exact (pk BK216.out)⟩; have n2_ : Aside0 (Below w.heap.size w w7) := ⟨by rw [← hq_]; exact (by repeat (first | (with_reducible first | exact HB.out | apply below_alloc | apply pw_below_drewN | apply below_drew1 | refine below_set ?_ GE216.out) | exact HB.out))⟩; clear HO220 BK216 HB hq_; have HO220 := n0_; have BK216 := n1_; have HB := n2_; clear n0_ n1_ n2_)); have hcz9_0 : w7.cell? ⟨gb216, 0, none⟩ = some (.int .i64 0) := (blk_cell BK216.out 0).trans rfl; have hcz9_1 : w7.cell? ⟨gb216, 1, none⟩ = some (.int .i64 0) := (blk_cell BK216.out 1).trans rfl; have hfz9_0 := blk_frozen BK216.out 0; have hfz9_1 := blk_frozen BK216.out 1))
 refine bodyPost_ret (results_cell_row rfl _ _ gb216 71 #[.int .i64 t221, .int .i64 (wrap64 (a1 - t217))] (0, 0) _ rfl (by (with_reducible repeat (first | refine blk_drewN ?_ _ | refine blk_drew ?_ | refine blk_alloc ?_ _)); refine blk_put (cs := #[.int .i64 t221, .int .i64 0]) ?_ 1 _ rfl; (with_reducible repeat (first | refine blk_drewN ?_ _ | refine blk_drew ?_ | refine blk_alloc ?_ _)); refine blk_put (cs := #[.int .i64 0, .int .i64 0]) ?_ 0 _ rfl; (with_reducible repeat (first | refine blk_drewN ?_ _ | refine blk_drew ?_ | refine blk_alloc ?_ _)); exact BK216.out) Try.underlying71 rfl (by kernel_rfl)) rfl ?_
 exact ⟨by first | rfl | (simp [errW_none, errW_some] <;> rfl) | (simp [*, errW_none, errW_some] <;> rfl), by repeat (first | (with_reducible first | exact HB.out | apply below_alloc | apply pw_below_drewN | apply below_drew1 | refine below_set ?_ GE216.out) | exact HB.out)⟩

/-! ### impl_Buf_place: function 108 -/
def impl_Buf_place.f (k : Nat) (l0_0 : List Int) (a0_1 : Int) (a0_2 : Int) (a1_0 : Int) (a1_1 : Int) : Option (Int) := (impl_Buf_lines.f k l0_0 a0_1 a0_2).bind fun t223 => ((impl_size_int64.f t223).bind fun t226 => (if 0 ≤ (mn (mx a1_0 0) (wrap64 (t226 - 1))) then (if (mn (mx a1_0 0) (wrap64 (t226 - 1))) < (t223.length : Int) then ((impl_Buf_end.f k l0_0 a0_1 a0_2 (rd t223 (mn (mx a1_0 0) (wrap64 (t226 - 1))))).bind fun t228 => (some (wrap64 ((rd t223 (mn (mx a1_0 0) (wrap64 (t226 - 1)))) + (mn (mx a1_1 0) (wrap64 (t228 - (rd t223 (mn (mx a1_0 0) (wrap64 (t226 - 1))))))))))) else (none)) else (none)))
theorem impl_Buf_place.mono : ∀ a0 a1 a2 a3 a4 k, LeO (impl_Buf_place.f k a0 a1 a2 a3 a4) (impl_Buf_place.f (k + 1) a0 a1 a2 a3 a4) := by
 intro a0 a1 a2 a3 a4 k
 unfold impl_Buf_place.f
 repeat' first
   | (with_reducible exact impl_Buf_end.mono _ _ _ _ _)
   | (with_reducible exact impl_Buf_lines.mono _ _ _ _)
   | (with_reducible exact LeO.refl _)
   | (with_reducible exact LeO.none _)
   | (with_reducible refine LeO.ite ?_ ?_)
   | (with_reducible refine LeO.bind ?_ (fun _ => ?_))
   | exact impl_Buf_end.mono _ _ _ _ _
   | exact impl_Buf_lines.mono _ _ _ _
   | exact LeO.none _
   | refine LeO.ite ?_ ?_
   | refine LeO.bind ?_ (fun _ => ?_)
set_option maxHeartbeats 8000000 in
set_option maxRecDepth 100000 in
theorem impl_Buf_place.calls (k : Nat) (p0 : Addr) (A0_0 : Option Addr) (c0_0 : Nat) (l0_0 : List Int) (a0_1 : Int) (a0_2 : Int) (a1_0 : Int) (a1_1 : Int) (r : Int) (w : World) (hr0_0 : Kd.C (Kd.int .i64) w A0_0 l0_0.length l0_0) (hc0_0 : l0_0.length ≤ c0_0) (hp0 : AtP w p0 0 [.slice A0_0 l0_0.length c0_0, .int .i64 a0_1, .int .i64 a0_2]) (h : impl_Buf_place.f k l0_0 a0_1 a0_2 a1_0 a1_1 = some r) :
  Calls Try.prog 108 #[.pointer (some p0), .agg #[.int .i64 a1_0, .int .i64 a1_1]] w fun e w' => e = .returned (.int .i64 r) ∧ Below w.heap.size w w' := by
 have hu71 := Try.underlying71
 have HR0_0 := am hr0_0
 have HC0_0 := am hc0_0
 clear hr0_0 hc0_0
 have BP0 := am hp0
 clear hp0
 have HB := am (Below.refl w.heap.size w)
 have H : ((impl_Buf_lines.f k l0_0 a0_1 a0_2).bind fun t223 => ((impl_size_int64.f t223).bind fun t226 => (if 0 ≤ (mn (mx a1_0 0) (wrap64 (t226 - 1))) then (if (mn (mx a1_0 0) (wrap64 (t226 - 1))) < (t223.length : Int) then ((impl_Buf_end.f k l0_0 a0_1 a0_2 (rd t223 (mn (mx a1_0 0) (wrap64 (t226 - 1))))).bind fun t228 => (some (wrap64 ((rd t223 (mn (mx a1_0 0) (wrap64 (t226 - 1)))) + (mn (mx a1_1 0) (wrap64 (t228 - (rd t223 (mn (mx a1_0 0) (wrap64 (t226 - 1))))))))))) else (none)) else (none)))) = some r := h
 clear h
 replace H := Option.bind_eq_some_iff.mp H
 obtain ⟨t223, A30, H⟩ := H
 replace H : ((impl_size_int64.f t223).bind fun t226 => (if 0 ≤ (mn (mx a1_0 0) (wrap64 (t226 - 1))) then (if (mn (mx a1_0 0) (wrap64 (t226 - 1))) < (t223.length : Int) then ((impl_Buf_end.f k l0_0 a0_1 a0_2 (rd t223 (mn (mx a1_0 0) (wrap64 (t226 - 1))))).bind fun t228 => (some (wrap64 ((rd t223 (mn (mx a1_0 0) (wrap64 (t226 - 1)))) + (mn (mx a1_1 0) (wrap64 (t228 - (rd t223 (mn (mx a1_0 0) (wrap64 (t226 - 1))))))))))) else (none)) else (none))) = some r := H
 have A3 := Aside0.mk A30
 clear A30
 obtain ⟨ji4, hji4⟩ : ∃ j_ : Int, (mx a1_0 0) = j_ := ⟨_, rfl⟩
 replace H : ((impl_size_int64.f t223).bind fun t226 => (if 0 ≤ (mn (ji4) (wrap64 (t226 - 1))) then (if (mn (ji4) (wrap64 (t226 - 1))) < (t223.length : Int) then ((impl_Buf_end.f k l0_0 a0_1 a0_2 (rd t223 (mn (ji4) (wrap64 (t226 - 1))))).bind fun t228 => (some (wrap64 ((rd t223 (mn (ji4) (wrap64 (t226 - 1)))) + (mn (mx a1_1 0) (wrap64 (t228 - (rd t223 (mn (ji4) (wrap64 (t226 - 1))))))))))) else (none)) else (none))) = some r := by first | (rw [hji4] at H; exact H) | (simp only [hji4] at H ⊢; exact H)
 (try rw [hji4] at A3)
 (try (have hji4l : 0 ≤ ji4 := by (rw [← hji4]; unfold mx; (repeat' split) <;> omega)))
 (try (have hji4m : 0 ≤ ji4 := by omega))
 have hji4_ : (if a1_0 < 0 then 0 else a1_0) = ji4 := hji4
 replace H := Option.bind_eq_some_iff.mp H
 obtain ⟨t226, A50, H⟩ := H
 replace H : (if 0 ≤ (mn (ji4) (wrap64 (t226 - 1))) then (if (mn (ji4) (wrap64 (t226 - 1))) < (t223.length : Int) then ((impl_Buf_end.f k l0_0 a0_1 a0_2 (rd t223 (mn (ji4) (wrap64 (t226 - 1))))).bind fun t228 => (some (wrap64 ((rd t223 (mn (ji4) (wrap64 (t226 - 1)))) + (mn (mx a1_1 0) (wrap64 (t228 - (rd t223 (mn (ji4) (wrap64 (t226 - 1))))))))))) else (none)) else (none)) = some r := H
 have A5 := Aside0.mk A50
 clear A50
 obtain ⟨ji6, hji6⟩ : ∃ j_ : Int, (mn (ji4) (wrap64 (t226 - 1))) = j_ := ⟨_, rfl⟩
 replace H : (if 0 ≤ (ji6) then (if (ji6) < (t223.length : Int) then ((impl_Buf_end.f k l0_0 a0_1 a0_2 (rd t223 (ji6))).bind fun t228 => (some (wrap64 ((rd t223 (ji6)) + (mn (mx a1_1 0) (wrap64 (t228 - (rd t223 (ji6))))))))) else (none)) else (none)) = some r := by first | (rw [hji6] at H; exact H) | (simp only [hji6] at H ⊢; exact H)
 (try rw [hji6] at A3)
 (try rw [hji6] at A5)
 have hji6_ : (if (wrap64 (t226 - 1)) < (ji4) then (wrap64 (t226 - 1)) else (ji4)) = ji6 := hji6
 by_cases c7 : 0 ≤ (ji6)
 ·rw [if_pos c7] at H
  have c7b0 : decide (0 ≤ (ji6)) = true := decide_eq_true c7
  clear c7
  by_cases c8 : (ji6) < (t223.length : Int)
  ·rw [if_pos c8] at H
   have c8b0 : decide ((ji6) < (t223.length : Int)) = true := decide_eq_true c8
   clear c8
   obtain ⟨ji9, hji9⟩ : ∃ j_ : Int, (mx a1_1 0) = j_ := ⟨_, rfl⟩
   replace H : ((impl_Buf_end.f k l0_0 a0_1 a0_2 (rd t223 (ji6))).bind fun t228 => (some (wrap64 ((rd t223 (ji6)) + (mn (ji9) (wrap64 (t228 - (rd t223 (ji6))))))))) = some r := by first | (rw [hji9] at H; exact H) | (simp only [hji9] at H ⊢; exact H)
   (try rw [hji9] at A3)
   (try rw [hji9] at A5)
   (try (have hji9l : 0 ≤ ji9 := by (rw [← hji9]; unfold mx; (repeat' split) <;> omega)))
   (try (have hji9m : 0 ≤ ji9 := by omega))
   have hji9_ : (if a1_1 < 0 then 0 else a1_1) = ji9 := hji9
   replace H := Option.bind_eq_some_iff.mp H
   obtain ⟨t228, A100, H⟩ := H
   replace H : (some (wrap64 ((rd t223 (ji6)) + (mn (ji9) (wrap64 (t228 - (rd t223 (ji6)))))))) = some r := H
   have A10 := Aside0.mk A100
   clear A100
   obtain ⟨ji11, hji11⟩ : ∃ j_ : Int, (mn (ji9) (wrap64 (t228 - (rd t223 (ji6))))) = j_ := ⟨_, rfl⟩
   replace H : (some (wrap64 ((rd t223 (ji6)) + (ji11)))) = some r := by first | (rw [hji11] at H; exact H) | (simp only [hji11] at H ⊢; exact H)
   (try rw [hji11] at A3)
   (try rw [hji11] at A5)
   (try rw [hji11] at A10)
   have hji11_ : (if (wrap64 (t228 - (rd t223 (ji6)))) < (ji9) then (wrap64 (t228 - (rd t223 (ji6)))) else (ji9)) = ji11 := hji11
   obtain rfl := Option.some.inj H
   go_enter Try.func108, Try.ntmps108
   go_wp2_with (first | ((with_reducible refine gate_dst (N := 3) rfl ?_); refine box_event ?hg (N := 3) ?hd (cs := #[.int .i64 a1_0, .int .i64 a1_1]) (t := 71) ?hr ?_; (case hd => rfl); (case hg => rfl); (case hr => first | (go_simp; done) | (go_simp; rfl)); intro gb222 hg w12 hbox hb; have n0_ := am (below_step (bl HB.out) hb); have n1_ := am (hbox); have n2_ := am ((by rw [hg]; exact (below_size (bl HB.out)) : w.heap.size ≤ gb222)); have n3_ := am ((by rw [hg]; exact (below_size (bl HB.out)) : w.heap.size ≤ gb222)); clear HB; have HB := n0_; have BK222 := n1_; have GW222 := n2_; have GE222 := n3_; clear n0_ n1_ n2_ n3_; clear hb hbox hg) | (go_at_call 115; (with_reducible refine (impl_Buf_lines.calls k _ A0_0 c0_0 l0_0 a0_1 a0_2 t223 _ ?side1 ?side2 ?side3 A3.out).mono ?_); (case side1 => repeat (first | exact (Kd.C_below HR0_0.out HB.out) | (with_reducible refine Kd.C_alloc ?_ _) | (with_reducible refine Kd.C_drewN ?_ _) | (with_reducible refine Kd.C_drew ?_))); (case side2 => exact HC0_0.out); (case side3 => exact (AtP.below (by repeat (first | (with_reducible first | exact HB.out | apply below_alloc | apply pw_below_drewN | apply below_drew1 | refine below_set ?_ GE222.out) | exact HB.out)) BP0.out)); rintro e w13 ⟨v224, rfl, ho0, hb⟩; have n0_ := am (Kd.R_lower ho0 (below_size (by repeat (first | (with_reducible first | exact HB.out | apply below_alloc | apply pw_below_drewN | apply below_drew1 | refine below_set ?_ GE222.out) | exact HB.out)))); have n1_ := am (blk_below (g := gb222) (o := .cells #[.int .i64 a1_0, .int .i64 a1_1] 71 (0, 0)) (pk BK222.out) hb); have n2_ := am (below_step (by repeat (first | (with_reducible first | exact HB.out | apply below_alloc | apply pw_below_drewN | apply below_drew1 | refine below_set ?_ GE222.out) | exact HB.out)) hb); clear BK222; clear HB; have HO225 := n0_; have BK222 := n1_; have HB := n2_; clear n0_ n1_ n2_; (try clear hb); (try clear hb2); (try clear hk); (try clear hi); (try clear ho0); have hcz14_0 : w13.cell? ⟨gb222, 0, none⟩ = some (.int .i64 a1_0) := (blk_cell BK222.out 0).trans rfl; have hcz14_1 : w13.cell? ⟨gb222, 1, none⟩ = some (.int .i64 a1_1) := (blk_cell BK222.out 1).trans rfl; obtain ⟨Ao15, co15, eo15⟩ := Kd.R_slice HO225.out; subst eo15; have p227 : 0 ≤ ((ji6) : Int) := of_decide_eq_true (by first | (with_reducible assumption) | assumption); have q227 : (ji6) < (t223.length : Int) := of_decide_eq_true (by first | (with_reducible assumption) | assumption); obtain ⟨ad227, e227, hx227_0⟩ := Kd.at_int (Kd.R_reads' HO225.out).2.2 (ji6) p227 q227; cases e227; replace p227 := eq_true p227; replace q227 := eq_true q227) | (go_at_call 102; (with_reducible refine (impl_size_int64.calls _ _ t223 t226 _ A5.out).mono ?_); rintro e w' ⟨rfl, ⟨nd, rfl⟩⟩; (try first | exact ⟨rfl, _, World.drewN_drewN _ _ _⟩ | exact ⟨rfl, _, Eq.trans (World.drewN_drewN _ _ _) (congrArg (World.drewN _) (Nat.add_assoc _ _ _))⟩)) | (go_at_call 106; (with_reducible refine (impl_Buf_end.calls k _ A0_0 c0_0 l0_0 a0_1 a0_2 (rd t223 (ji6)) t228 _ ?side1 ?side2 ?side3 A10.out).mono ?_); (case side1 => repeat (first | exact (Kd.C_below HR0_0.out (by repeat (first | (with_reducible first | exact HB.out | apply below_alloc | apply pw_below_drewN | apply below_drew1 | refine below_set ?_ GE222.out) | exact HB.out))) | (with_reducible refine Kd.C_alloc ?_ _) | (with_reducible refine Kd.C_drewN ?_ _) | (with_reducible refine Kd.C_drew ?_))); (case side2 => exact HC0_0.out); (case side3 => exact (AtP.below (by repeat (first | (with_reducible first | exact HB.out | apply below_alloc | apply pw_below_drewN | apply below_drew1 | refine below_set ?_ GE222.out) | exact HB.out)) BP0.out)); rintro e w' ⟨rfl, ⟨nd, rfl⟩⟩; (try first | exact ⟨rfl, _, World.drewN_drewN _ _ _⟩ | exact ⟨rfl, _, Eq.trans (World.drewN_drewN _ _ _) (congrArg (World.drewN _) (Nat.add_assoc _ _ _))⟩)))
   repeat (go_quiet (first | ((with_reducible refine gate_dst (N := 3) rfl ?_); refine box_event ?hg (N := 3) ?hd (cs := #[.int .i64 a1_0, .int .i64 a1_1]) (t := 71) ?hr ?_; (case hd => rfl); (case hg => rfl); (case hr => first | (go_simp; done) | (go_simp; rfl)); intro gb222 hg w12 hbox hb; have n0_ := am (below_step (bl HB.out) hb); have n1_ := am (hbox); have n2_ := am ((by rw [hg]; exact (below_size (bl HB.out)) : w.heap.size ≤ gb222)); have n3_ := am ((by rw [hg]; exact (below_size (bl HB.out)) : w.heap.size ≤ gb222)); clear HB; have HB := n0_; have BK222 := n1_; have GW222 := n2_; have GE222 := n3_; clear n0_ n1_ n2_ n3_; clear hb hbox hg) | (go_at_call 115; (with_reducible refine (impl_Buf_lines.calls k _ A0_0 c0_0 l0_0 a0_1 a0_2 t223 _ ?side1 ?side2 ?side3 A3.out).mono ?_); (case side1 => repeat (first | exact (Kd.C_below HR0_0.out HB.out) | (with_reducible refine Kd.C_alloc ?_ _) | (with_reducible refine Kd.C_drewN ?_ _) | (with_reducible refine Kd.C_drew ?_))); (case side2 => exact HC0_0.out); (case side3 => exact (AtP.below (by repeat (first | (with_reducible first | exact HB.out | apply below_alloc | apply pw_below_drewN | apply below_drew1 | refine below_set ?_ GE222.out) | exact HB.out)) BP0.out)); rintro e w13 ⟨v224, rfl, ho0, hb⟩; have n0_ := am (Kd.R_lower ho0 (below_size (by repeat (first | (with_reducible first | exact HB.out | apply below_alloc | apply pw_below_drewN | apply below_drew1 | refine below_set ?_ GE222.out) | exact HB.out)))); have n1_ := am (blk_below (g := gb222) (o := .cells #[.int .i64 a1_0, .int .i64 a1_1] 71 (0, 0)) (pk BK222.out) hb); have n2_ := am (below_step (by repeat (first | (with_reducible first | exact HB.out | apply below_alloc | apply pw_below_drewN | apply below_drew1 | refine below_set ?_ GE222.out) | exact HB.out)) hb); clear BK222; clear HB; have HO225 := n0_; have BK222 := n1_; have HB := n2_; clear n0_ n1_ n2_; (try clear hb); (try clear hb2); (try clear hk); (try clear hi); (try clear ho0); have hcz14_0 : w13.cell? ⟨gb222, 0, none⟩ = some (.int .i64 a1_0) := (blk_cell BK222.out 0).trans rfl; have hcz14_1 : w13.cell? ⟨gb222, 1, none⟩ = some (.int .i64 a1_1) := (blk_cell BK222.out 1).trans rfl; obtain ⟨Ao15, co15, eo15⟩ := Kd.R_slice HO225.out; subst eo15; have p227 : 0 ≤ ((ji6) : Int) := of_decide_eq_true (by first | (with_reducible assumption) | assumption); have q227 : (ji6) < (t223.length : Int) := of_decide_eq_true (by first | (with_reducible assumption) | assumption); obtain ⟨ad227, e227, hx227_0⟩ := Kd.at_int (Kd.R_reads' HO225.out).2.2 (ji6) p227 q227; cases e227; replace p227 := eq_true p227; replace q227 := eq_true q227) | (go_at_call 102; (with_reducible refine (impl_size_int64.calls _ _ t223 t226 _ A5.out).mono ?_); rintro e w' ⟨rfl, ⟨nd, rfl⟩⟩; (try first | exact ⟨rfl, _, World.drewN_drewN _ _ _⟩ | exact ⟨rfl, _, Eq.trans (World.drewN_drewN _ _ _) (congrArg (World.drewN _) (Nat.add_assoc _ _ _))⟩)) | (go_at_call 106; (with_reducible refine (impl_Buf_end.calls k _ A0_0 c0_0 l0_0 a0_1 a0_2 (rd t223 (ji6)) t228 _ ?side1 ?side2 ?side3 A10.out).mono ?_); (case side1 => repeat (first | exact (Kd.C_below HR0_0.out (by repeat (first | (with_reducible first | exact HB.out | apply below_alloc | apply pw_below_drewN | apply below_drew1 | refine below_set ?_ GE222.out) | exact HB.out))) | (with_reducible refine Kd.C_alloc ?_ _) | (with_reducible refine Kd.C_drewN ?_ _) | (with_reducible refine Kd.C_drew ?_))); (case side2 => exact HC0_0.out); (case side3 => exact (AtP.below (by repeat (first | (with_reducible first | exact HB.out | apply below_alloc | apply pw_below_drewN | apply below_drew1 | refine below_set ?_ GE222.out) | exact HB.out)) BP0.out)); rintro e w' ⟨rfl, ⟨nd, rfl⟩⟩; (try first | exact ⟨rfl, _, World.drewN_drewN _ _ _⟩ | exact ⟨rfl, _, Eq.trans (World.drewN_drewN _ _ _) (congrArg (World.drewN _) (Nat.add_assoc _ _ _))⟩))); try go_wp2_with (first | ((with_reducible refine gate_dst (N := 3) rfl ?_); refine box_event ?hg (N := 3) ?hd (cs := #[.int .i64 a1_0, .int .i64 a1_1]) (t := 71) ?hr ?_; (case hd => rfl); (case hg => rfl); (case hr => first | (go_simp; done) | (go_simp; rfl)); intro gb222 hg w12 hbox hb; have n0_ := am (below_step (bl HB.out) hb); have n1_ := am (hbox); have n2_ := am ((by rw [hg]; exact (below_size (bl HB.out)) : w.heap.size ≤ gb222)); have n3_ := am ((by rw [hg]; exact (below_size (bl HB.out)) : w.heap.size ≤ gb222)); clear HB; have HB := n0_; have BK222 := n1_; have GW222 := n2_; have GE222 := n3_; clear n0_ n1_ n2_ n3_; clear hb hbox hg) | (go_at_call 115; (with_reducible refine (impl_Buf_lines.calls k _ A0_0 c0_0 l0_0 a0_1 a0_2 t223 _ ?side1 ?side2 ?side3 A3.out).mono ?_); (case side1 => repeat (first | exact (Kd.C_below HR0_0.out HB.out) | (with_reducible refine Kd.C_alloc ?_ _) | (with_reducible refine Kd.C_drewN ?_ _) | (with_reducible refine Kd.C_drew ?_))); (case side2 => exact HC0_0.out); (case side3 => exact (AtP.below (by repeat (first | (with_reducible first | exact HB.out | apply below_alloc | apply pw_below_drewN | apply below_drew1 | refine below_set ?_ GE222.out) | exact HB.out)) BP0.out)); rintro e w13 ⟨v224, rfl, ho0, hb⟩; have n0_ := am (Kd.R_lower ho0 (below_size (by repeat (first | (with_reducible first | exact HB.out | apply below_alloc | apply pw_below_drewN | apply below_drew1 | refine below_set ?_ GE222.out) | exact HB.out)))); have n1_ := am (blk_below (g := gb222) (o := .cells #[.int .i64 a1_0, .int .i64 a1_1] 71 (0, 0)) (pk BK222.out) hb); have n2_ := am (below_step (by repeat (first | (with_reducible first | exact HB.out | apply below_alloc | apply pw_below_drewN | apply below_drew1 | refine below_set ?_ GE222.out) | exact HB.out)) hb); clear BK222; clear HB; have HO225 := n0_; have BK222 := n1_; have HB := n2_; clear n0_ n1_ n2_; (try clear hb); (try clear hb2); (try clear hk); (try clear hi); (try clear ho0); have hcz14_0 : w13.cell? ⟨gb222, 0, none⟩ = some (.int .i64 a1_0) := (blk_cell BK222.out 0).trans rfl; have hcz14_1 : w13.cell? ⟨gb222, 1, none⟩ = some (.int .i64 a1_1) := (blk_cell BK222.out 1).trans rfl; obtain ⟨Ao15, co15, eo15⟩ := Kd.R_slice HO225.out; subst eo15; have p227 : 0 ≤ ((ji6) : Int) := of_decide_eq_true (by first | (with_reducible assumption) | assumption); have q227 : (ji6) < (t223.length : Int) := of_decide_eq_true (by first | (with_reducible assumption) | assumption); obtain ⟨ad227, e227, hx227_0⟩ := Kd.at_int (Kd.R_reads' HO225.out).2.2 (ji6) p227 q227; cases e227; replace p227 := eq_true p227; replace q227 := eq_true q227) | (go_at_call 102; (with_reducible refine (impl_size_int64.calls _ _ t223 t226 _ A5.out).mono ?_); rintro e w' ⟨rfl, ⟨nd, rfl⟩⟩; (try first | exact ⟨rfl, _, World.drewN_drewN _ _ _⟩ | exact ⟨rfl, _, Eq.trans (World.drewN_drewN _ _ _) (congrArg (World.drewN _) (Nat.add_assoc _ _ _))⟩)) | (go_at_call 106; (with_reducible refine (impl_Buf_end.calls k _ A0_0 c0_0 l0_0 a0_1 a0_2 (rd t223 (ji6)) t228 _ ?side1 ?side2 ?side3 A10.out).mono ?_); (case side1 => repeat (first | exact (Kd.C_below HR0_0.out (by repeat (first | (with_reducible first | exact HB.out | apply below_alloc | apply pw_below_drewN | apply below_drew1 | refine below_set ?_ GE222.out) | exact HB.out))) | (with_reducible refine Kd.C_alloc ?_ _) | (with_reducible refine Kd.C_drewN ?_ _) | (with_reducible refine Kd.C_drew ?_))); (case side2 => exact HC0_0.out); (case side3 => exact (AtP.below (by repeat (first | (with_reducible first | exact HB.out | apply below_alloc | apply pw_below_drewN | apply below_drew1 | refine below_set ?_ GE222.out) | exact HB.out)) BP0.out)); rintro e w' ⟨rfl, ⟨nd, rfl⟩⟩; (try first | exact ⟨rfl, _, World.drewN_drewN _ _ _⟩ | exact ⟨rfl, _, Eq.trans (World.drewN_drewN _ _ _) (congrArg (World.drewN _) (Nat.add_assoc _ _ _))⟩))))
   go_ret
   exact ⟨by first | rfl | (simp [errW_none, errW_some] <;> rfl) | (simp only [← hji4, ← hji6, ← hji9, ← hji11]; first | rfl | (simp [errW_none, errW_some] <;> rfl)) | (simp [*, errW_none, errW_some] <;> rfl), by repeat (first | (with_reducible first | exact HB.out | apply below_alloc | apply pw_below_drewN | apply below_drew1 | refine below_set ?_ GE222.out) | exact HB.out)⟩
  ·rw [if_neg c8] at H
   exact absurd H (by simp)
 ·rw [if_neg c7] at H
  exact absurd H (by simp)

end Go.Proofs.Ytegadjijonlmcaa.PFnExactBufMove
