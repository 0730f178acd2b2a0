-- Written by xprint.py (this claim's own program, over the kit's printer); Lean checks it.
import Derived.Test.YtejgkbejdkaccaaPFnExactRingYankx0
import Derived.Test.YtejgkbejdkaccaaPFnExactRingYankx1
import Derived.Test.YtejgkbejdkaccaaPFnExactRingYankx8
namespace Go.Proofs.Ytejgkbejdkaccaa.PFnExactRingYank
open Go.RowKit Go.Proofs.YtejgkbejdkaccaaW.PrintWords Go.Proofs.YtejgkbejdkaccaaW.PrintLast Go.Proofs.YtejgkbejdkaccaaW.PrintMore
attribute [local go_sem] max2_int min2_int max_two min_two max_three min_three max_four min_four   -- for this text's walks alone
set_option linter.unusedVariables false
set_option linter.unusedSimpArgs false   -- squeezed

/-! ### laws_markRing: function 31 -/
def laws_markRing.f (k : Nat) (l0_0 : List (List Int)) (a0_1 : Int) (a1 : Int) : Option (Int × List (List Int)) := (laws_markInt64SS.f k l0_0 a1).bind fun b0 => some (b0.1, b0.2)
set_option maxHeartbeats 8000000 in
set_option maxRecDepth 100000 in
theorem laws_markRing.marks (k : Nat) (P0_0_ : Nat → Prop) (u0_0_ : Value) (l0_0 : List (List Int)) (a0_1 : Int) (a1 r1 : Int) (r0_0_ : List (List Int)) (w0 w : World) (hB : Below w0.heap.size w0 w) (ho0_0 : Kd.S (Kd.slice 2 (Kd.int .i64)) 22 w w0.heap.size P0_0_ u0_0_ l0_0) (h : laws_markRing.f k l0_0 a0_1 a1 = some (r1, r0_0_)) :
 Calls Try.prog 31 #[.agg #[u0_0_, .int .i64 a0_1], .int .i64 a1] w fun e w' => e = .returned (.int .i64 r1) ∧ Kd.S (Kd.slice 2 (Kd.int .i64)) 22 w' w0.heap.size P0_0_ u0_0_ r0_0_ ∧ Below w0.heap.size w0 w' ∧ Kept w w' (fun k_ => P0_0_ k_) := by
 have HO0_0 := am (Kd.S_mono (ok' := fun k_ => P0_0_ k_ ∧ k_ < w.heap.size) (Kd.S_bound ho0_0) (fun k_ hk_ => ⟨hk_.1, hk_.2.2.1⟩))
 obtain ⟨A0_0_, c0_0_, eu0_0⟩ := Kd.S_slice HO0_0.out
 subst eu0_0
 have HK := am (Kept.refl w (fun k_ => P0_0_ k_))
 have HB := am hB
 clear hB ho0_0
 have H : ((laws_markInt64SS.f k l0_0 a1).bind fun b0 => some (b0.1, b0.2)) = some (r1, r0_0_) := h
 clear h
 obtain ⟨⟨t0, t0_0_0⟩, E0, H⟩ := Option.bind_eq_some_iff.mp H
 (try dsimp only at H)
 have A0 := Aside0.mk E0
 clear E0
 simp only [Option.some.injEq, Prod.mk.injEq] at H
 obtain ⟨rfl, rfl⟩ := H
 go_enter Try.func31, Try.ntmps31
 go_wp2_with (first | ((with_reducible refine gate_dst (N := 2) rfl ?_); refine box_event ?hg (N := 2) ?hd (cs := #[.slice A0_0_ l0_0.length c0_0_, .int .i64 a0_1]) (t := 50) ?hr ?_; (case hd => rfl); (case hg => rfl); (case hr => first | (go_simp; done) | (go_simp; rfl)); intro gb hg wb hbox hb; have BK := am hbox; have GB : w.heap.size ≤ gb := (by rw [hg]; exact Nat.le_refl _); replace HO0_0 := am (Kd.S_below (ks HO0_0.out) hb); replace HB := am (below_then HB.out HB.out.size hb); replace HK := am (Kept.below (by repeat (first | (with_reducible first | exact HK.out | apply Kept.alloc | apply Kept.drewN | apply Kept.drew) | exact HK.out)) hb); clear hb hbox hg; have hc_0 : wb.cell? ⟨gb, 0, none⟩ = some (.slice A0_0_ l0_0.length c0_0_) := (blk_cell BK.out 0).trans rfl; have hc_1 : wb.cell? ⟨gb, 1, none⟩ = some (.int .i64 a0_1) := (blk_cell BK.out 1).trans rfl) | ((go_at_call 57); (refine (laws_markInt64SS.marks k (fun k_ => P0_0_ k_ ∧ k_ < w.heap.size) (.slice A0_0_ l0_0.length c0_0_) l0_0 a1 t0 t0_0_0 w0 _ ?s0 ?s1 A0.out).mono ?_); (case s0 => repeat (first | (with_reducible first | exact HB.out | apply below_alloc | apply pw_below_drewN | apply below_drew1) | exact HB.out)); (case s1 => ((with_reducible repeat (first | apply Kd.S_alloc | apply Kd.S_drewN | apply Kd.S_drew)); exact HO0_0.out)); rintro e wm0 ⟨rfl, hy0_0, hb, hkp⟩; replace HO0_0 := am (hy0_0); replace BK := am (blk_kept (g := gb) (o := .cells #[.slice A0_0_ l0_0.length c0_0_, .int .i64 a0_1] 50 (0, 0)) (pk BK.out) hkp (fun hs_ => absurd hs_.2 (Nat.not_lt.2 GB))); replace HB := am (hb); replace HK := am (Kept.then_ (S := (fun k_ => P0_0_ k_)) (by repeat (first | (with_reducible first | exact HK.out | apply Kept.alloc | apply Kept.drewN | apply Kept.drew) | exact HK.out)) hkp (fun k_ hs_ => (.inl hs_.1))); clear hb hkp; have hc_0 : wm0.cell? ⟨gb, 0, none⟩ = some (.slice A0_0_ l0_0.length c0_0_) := (blk_cell BK.out 0).trans rfl; have hc_1 : wm0.cell? ⟨gb, 1, none⟩ = some (.int .i64 a0_1) := (blk_cell BK.out 1).trans rfl))
 go_ret
 exact ⟨by first | rfl | (simp [*]; done), Kd.S_mono (ok := fun k_ => P0_0_ k_ ∧ k_ < w.heap.size) (ks HO0_0.out) (fun k_ hk_ => hk_.1), by repeat (first | (with_reducible first | exact HB.out | apply below_alloc | apply pw_below_drewN | apply below_drew1) | exact HB.out), by repeat (first | (with_reducible first | exact HK.out | apply Kept.alloc | apply Kept.drewN | apply Kept.drew) | exact HK.out)⟩

/-! ### laws_markYankOut: function 32 -/
def laws_markYankOut.f (k : Nat) (l0_0 : List Int) (a0_1 : Int) (a0_2 : Int) (a0_3 : Int) (a0_4 : Int) (a0_5 : Int) (a1 : Int) : Option (Int × List Int) := (laws_markBuf.f k l0_0 a0_1 a0_2 a1).bind fun bt328 => (some (bt328.1, bt328.2))
theorem laws_markYankOut.mono : ∀ a0 a1 a2 a3 a4 a5 a6 k, LeO (laws_markYankOut.f k a0 a1 a2 a3 a4 a5 a6) (laws_markYankOut.f (k + 1) a0 a1 a2 a3 a4 a5 a6) := by
 intro a0 a1 a2 a3 a4 a5 a6 k
 unfold laws_markYankOut.f
 repeat' first
   | (with_reducible exact laws_markBuf.mono _ _ _ _ _)
   | (with_reducible exact LeO.refl _)
   | (with_reducible exact LeO.none _)
   | (with_reducible refine LeO.ite ?_ ?_)
   | (with_reducible refine LeO.bind ?_ (fun _ => ?_))
   | exact laws_markBuf.mono _ _ _ _ _
   | exact LeO.none _
   | refine LeO.ite ?_ ?_
   | refine LeO.bind ?_ (fun _ => ?_)
set_option maxHeartbeats 8000000 in
set_option maxRecDepth 100000 in
theorem laws_markYankOut.calls (k : Nat) (P0_0_ : Nat → Prop) (u9000_ : Value) (l0_0 : List Int) (a0_1 : Int) (a0_2 : Int) (a0_3 : Int) (a0_4 : Int) (a0_5 : Int) (a1 : Int) (r1 : Int) (r2 : List Int) (w0 w : World) (hB : Below w0.heap.size w0 w) (ho0_0 : Kd.R (Kd.int .i64) 2 w w0.heap.size P0_0_ u9000_ l0_0) (h : laws_markYankOut.f k l0_0 a0_1 a0_2 a0_3 a0_4 a0_5 a1 = some (r1, r2)) :
  Calls Try.prog 32 #[.agg #[u9000_, .int .i64 a0_1, .int .i64 a0_2, .int .i64 a0_3, .int .i64 a0_4, .int .i64 a0_5], .int .i64 a1] w fun e w' => e = .returned (.int .i64 r1) ∧ Kd.R (Kd.int .i64) 2 w' w0.heap.size (fun k_ => (P0_0_ k_ ∨ w.heap.size ≤ k_)) u9000_ r2 ∧ Below w0.heap.size w0 w' ∧ Kept w w' (fun k_ => P0_0_ k_) := by
 have hu48 := Try.underlying48
 have hu26 := Try.underlying26
 have HO0_0 := am (show Kd.R (Kd.int .i64) 2 w w0.heap.size (fun k_ => (P0_0_ k_ ∨ w.heap.size ≤ k_)) u9000_ l0_0 from Kd.R_mono ho0_0 (fun k_ hk => (.inl hk)))
 have HK := am (Kept.refl w (fun k_ => P0_0_ k_))
 have HW0 := am hB.size
 have HB := am hB
 clear hB
 have H : ((laws_markBuf.f k l0_0 a0_1 a0_2 a1).bind fun bt328 => (some (bt328.1, bt328.2))) = some (r1, r2) := h
 clear h
 replace H := Option.bind_eq_some_iff.mp H
 obtain ⟨⟨t328, t329⟩, A30, H⟩ := H
 replace H : (some (t328, t329)) = some (r1, r2) := H
 have A3 := Aside0.mk A30
 clear A30
 simp only [Option.some.injEq, Prod.mk.injEq] at H
 obtain ⟨rfl, rfl⟩ := H
 obtain ⟨Ao4, co4, eo4⟩ := Kd.R_slice HO0_0.out
 subst eo4
 go_enter Try.func32, Try.ntmps32
 go_wp2_with (first | ((with_reducible refine gate_dst (N := 2) rfl ?_); refine box_event ?hg (N := 2) ?hd (cs := #[.slice Ao4 l0_0.length co4, .int .i64 a0_1, .int .i64 a0_2, .int .i64 a0_3, .int .i64 a0_4, .int .i64 a0_5]) (t := 48) ?hr ?_; (case hd => rfl); (case hg => rfl); (case hr => first | (go_simp; done) | (go_simp; rfl)); intro gb327 hg w5 hbox hb; replace HO0_0 := am (Kd.R_below (kr HO0_0.out) hb); have BK327 := am (hbox); have GW327 := am ((by rw [hg]; exact (by first | exact HK.out.1 | exact (show Kept w _ (fun k_ => P0_0_ k_) from by repeat (first | (with_reducible first | exact HK.out | apply Kept.alloc | apply Kept.drewN | apply Kept.drew) | exact HK.out)).1) : w.heap.size ≤ gb327)); replace HK := am (Kept.below (S := (fun k_ => P0_0_ k_)) (by repeat (first | (with_reducible first | exact HK.out | apply Kept.alloc | apply Kept.drewN | apply Kept.drew) | exact HK.out)) hb); have GE327 := am ((by rw [hg]; exact (below_size (bl HB.out)) : w0.heap.size ≤ gb327)); replace HB := am (below_step (bl HB.out) hb); clear hb hbox hg; have hcz6_0 : w5.cell? ⟨gb327, 0, none⟩ = some (.slice Ao4 l0_0.length co4) := bc BK327.out 0; have hcz6_1 : w5.cell? ⟨gb327, 1, none⟩ = some (.int .i64 a0_1) := bc BK327.out 1; have hcz6_2 : w5.cell? ⟨gb327, 2, none⟩ = some (.int .i64 a0_2) := bc BK327.out 2; have hcz6_3 : w5.cell? ⟨gb327, 3, none⟩ = some (.int .i64 a0_3) := bc BK327.out 3; have hcz6_4 : w5.cell? ⟨gb327, 4, none⟩ = some (.int .i64 a0_4) := bc BK327.out 4; have hcz6_5 : w5.cell? ⟨gb327, 5, none⟩ = some (.int .i64 a0_5) := bc BK327.out 5) | ((with_reducible refine gate_callee (f := 17) rfl ?_); refine gl (some 8) Try.func17 #[.agg #[.slice Ao4 l0_0.length co4, .int .i64 a0_1, .int .i64 a0_2], .int .i64 a1] ?_; (with_reducible refine (laws_markBuf.calls k (fun k_ => some k_ = (.slice Ao4 l0_0.length co4 : Value).ownBlock) (.slice Ao4 l0_0.length co4) l0_0 a0_1 a0_2 a1 t328 t329 w0 _ ?side1 ?side2 A3.out).mono ?_); (case side1 => repeat (first | (with_reducible first | exact HB.out | apply below_alloc | apply pw_below_drewN | apply below_drew1 | refine below_set ?_ GE327.out) | exact HB.out)); (case side2 => exact Kd.R_tight rfl HO0_0.out); rintro e w7 ⟨rfl, hy0, hb, hkp⟩; refine ⟨_, rfl, ?_⟩; replace BK327 := am (blk_kept (pk BK327.out) hkp (fun hs_ => (fun e_ => (Kd.R_ne HO0_0.out BK327.out (by decide)) e_) hs_)); replace HK := am (Kept.then_ (S := (fun k_ => P0_0_ k_)) (by repeat (first | (with_reducible first | exact HK.out | apply Kept.alloc | apply Kept.drewN | apply Kept.drew | refine Kept.setCell ?_ (.inr GW327.out) _) | exact HK.out)) hkp (fun k_ hs_ => (fun e_ => (HO0_0.out.1 k_ e_.symm)) hs_)); replace HO0_0 := am (Kd.R_reok rfl hy0 (fun k_ e_ => HO0_0.out.1 k_ e_)); replace HB := am (hb); (try clear hb); (try clear hkp); (try clear hy0)))
 go_ret
 exact ⟨by first | rfl | (simp [errW_none, errW_some] <;> rfl) | (simp [*, errW_none, errW_some] <;> rfl), kr HO0_0.out, by repeat (first | (with_reducible first | exact HB.out | apply below_alloc | apply pw_below_drewN | apply below_drew1 | refine below_set ?_ GE327.out) | exact HB.out), by repeat (first | (with_reducible first | exact HK.out | apply Kept.alloc | apply Kept.drewN | apply Kept.drew | refine Kept.setCell ?_ (.inr GW327.out) _) | exact HK.out)⟩

theorem laws_markYankOut.marks (k : Nat) (P0_0_ : Nat → Prop) (u0_0_ : Value) (l0_0 : List Int) (a0_1 : Int) (a0_2 : Int) (a0_3 : Int) (a0_4 : Int) (a0_5 : Int) (a1 r1 : Int) (r0_0_ : List Int) (w0 w : World) (hB : Below w0.heap.size w0 w) (ho0_0 : Kd.R (Kd.int .i64) 2 w w0.heap.size P0_0_ u0_0_ l0_0) (h : laws_markYankOut.f k l0_0 a0_1 a0_2 a0_3 a0_4 a0_5 a1 = some (r1, r0_0_)) :
 Calls Try.prog 32 #[.agg #[u0_0_, .int .i64 a0_1, .int .i64 a0_2, .int .i64 a0_3, .int .i64 a0_4, .int .i64 a0_5], .int .i64 a1] w fun e w' => e = .returned (.int .i64 r1) ∧ Kd.R (Kd.int .i64) 2 w' w0.heap.size P0_0_ u0_0_ r0_0_ ∧ Below w0.heap.size w0 w' ∧ Kept w w' (fun k_ => P0_0_ k_) := by
 refine (laws_markYankOut.calls k P0_0_ u0_0_ l0_0 a0_1 a0_2 a0_3 a0_4 a0_5 a1 r1 r0_0_ w0 w hB ho0_0 h).mono ?_
 rintro e w' ⟨h1, h20_0, h3, h4⟩
 exact ⟨h1, Kd.R_reok rfl h20_0 (fun k_ e_ => ho0_0.1 k_ e_), h3, h4⟩

/-! ### laws_heldInt64S: function 49 -/
def laws_heldInt64S.l0 : Nat → List Int → Int → Int → Option (Int)
 | 0, _, _, _ => none
 | k + 1, x0, x1, x5 => if x5 < (x0.length : Int) then (if 0 ≤ x5 then (if (rd x0 x5) = x1 then (laws_heldInt64S.l0 k x0 (wrap64 (x1 + 1)) (wrap64 (x5 + 1))) else (some (-1))) else (none)) else (some x1)
def laws_heldInt64S.f (k : Nat) (l0 : List Int) (a1 : Int) : Option (Int) := laws_heldInt64S.l0 k l0 a1 0
theorem laws_heldInt64S.mono_l : ∀ k, (∀ y0 y1 y2, LeO (laws_heldInt64S.l0 k y0 y1 y2) (laws_heldInt64S.l0 (k + 1) y0 y1 y2))
 | 0 => fun _ _ _ r h => by simp [laws_heldInt64S.l0] at h
 | k + 1 => by
  have ih0 := laws_heldInt64S.mono_l k
  ·intro y0 y1 y2
   unfold laws_heldInt64S.l0
   repeat' first
   | (with_reducible exact ih0 _ _ _)
   | (with_reducible exact LeO.refl _)
   | (with_reducible exact LeO.none _)
   | (with_reducible refine LeO.ite ?_ ?_)
   | (with_reducible refine LeO.bind ?_ (fun _ => ?_))
   | exact ih0 _ _ _
   | exact LeO.none _
   | refine LeO.ite ?_ ?_
   | refine LeO.bind ?_ (fun _ => ?_)
theorem laws_heldInt64S.mono : ∀ a0 a1 k, LeO (laws_heldInt64S.f k a0 a1) (laws_heldInt64S.f (k + 1) a0 a1) := by
 intro a0 a1 k
 have ih0 := laws_heldInt64S.mono_l k
 unfold laws_heldInt64S.f
 repeat' first
   | (with_reducible exact ih0 _ _ _)
   | (with_reducible exact LeO.refl _)
   | (with_reducible exact LeO.none _)
   | (with_reducible refine LeO.ite ?_ ?_)
   | (with_reducible refine LeO.bind ?_ (fun _ => ?_))
   | exact ih0 _ _ _
   | exact LeO.none _
   | refine LeO.ite ?_ ?_
   | refine LeO.bind ?_ (fun _ => ?_)
set_option maxHeartbeats 8000000 in
set_option maxRecDepth 100000 in
theorem laws_heldInt64S.calls (k : Nat) (A0 : Option Addr) (c0 : Nat) (l0 : List Int) (a1 : Int) (r : Int) (w : World) (hr0 : Kd.C (Kd.int .i64) w A0 l0.length l0) (hc0 : l0.length ≤ c0) (h : laws_heldInt64S.f k l0 a1 = some r) :
  Calls Try.prog 49 #[.slice A0 l0.length c0, .int .i64 a1] w fun e w' => e = .returned (.int .i64 r) ∧ Drawn0 w w' := by
 have HR0 := am hr0
 have HC0 := am hc0
 clear hr0 hc0
 have H : (laws_heldInt64S.l0 k l0 a1 0) = some r := h
 clear h
 have H' := Aside0.mk H
 clear H
 go_enter Try.func49, Try.ntmps49
 go_wp2
 go_loopg [1, 5] k (fun kq v1 v5 w' => ∃ (x1_1 : Int) (x5_1 : Int), v1 = .int .i64 x1_1 ∧ v5 = .int .i64 x5_1 ∧ Aside0 (laws_heldInt64S.l0 kq l0 x1_1 x5_1 = some r) ∧ Aside0 (kq ≤ k) ∧ Drawn0 w w')
 case atStart => exact ⟨(a1), (0), (by first | rfl | (simp; done) | (simp [*]; done)), (by first | rfl | (simp; done) | (simp [*]; done)), H', ⟨Nat.le_refl _⟩, by repeat (first | exact Drawn0.refl _ | apply Drawn0.step)⟩
 case round =>
  clear H'
  try clear p2
  obtain ⟨x1_1, x5_1, rfl, rfl, HA, HK1, ⟨m1, rfl⟩⟩ := hrel
  cases gk with
  | zero => exact absurd HA.out (by simp [laws_heldInt64S.l0])
  | succ k1 =>
   have H := HA.out
   clear HA
   simp only [laws_heldInt64S.l0] at H
   by_cases c3 : x5_1 < (l0.length : Int)
   ·rw [if_pos c3] at H
    have c3b0 : decide (x5_1 < (l0.length : Int)) = true := decide_eq_true c3
    clear c3
    by_cases c4 : 0 ≤ x5_1
    ·rw [if_pos c4] at H
     have c4b0 : decide (0 ≤ x5_1) = true := decide_eq_true c4
     clear c4
     by_cases c5 : (rd l0 x5_1) = x1_1
     ·rw [if_pos c5] at H
      have c5b0 : ((rd l0 x5_1) == x1_1) = true := beq_iff_eq.mpr c5
      have c5b1 : ((rd l0 x5_1) != x1_1) = false := bne_eq_false_iff_eq.mpr c5
      clear c5
      have H' := Aside0.mk H
      clear H
      have p330 : 0 ≤ (x5_1 : Int) := of_decide_eq_true (by first | (with_reducible assumption) | assumption)
      have q330 : x5_1 < (l0.length : Int) := of_decide_eq_true (by first | (with_reducible assumption) | assumption)
      obtain ⟨ad330, e330, hx330_0⟩ := Kd.at_int HR0.out x5_1 p330 q330
      cases e330
      replace p330 := eq_true p330
      replace q330 := eq_true q330
      go_wp2
      go_roundg k1
      case measure => have := HK1.out; omega
      case rel => exact ⟨(wrap64 (x1_1 + 1)), (wrap64 (x5_1 + 1)), (by first | rfl | (simp; done) | (simp [*]; done)), (by first | rfl | (simp; done) | (simp [*]; done)), H', ⟨by have := HK1.out; omega⟩, by repeat (first | exact Drawn0.refl _ | apply Drawn0.step)⟩
     ·rw [if_neg c5] at H
      have c5b0 : ((rd l0 x5_1) == x1_1) = false := beq_eq_false_iff_ne.mpr c5
      have c5b1 : ((rd l0 x5_1) != x1_1) = true := bne_iff_ne.mpr c5
      obtain rfl := Option.some.inj H
      have p330 : 0 ≤ (x5_1 : Int) := of_decide_eq_true (by first | (with_reducible assumption) | assumption)
      have q330 : x5_1 < (l0.length : Int) := of_decide_eq_true (by first | (with_reducible assumption) | assumption)
      obtain ⟨ad330, e330, hx330_0⟩ := Kd.at_int HR0.out x5_1 p330 q330
      cases e330
      replace p330 := eq_true p330
      replace q330 := eq_true q330
      go_wp2
      go_ret
      exact ⟨by first | rfl | (simp; done) | (simp [*]; done), by repeat (first | exact Drawn0.refl _ | apply Drawn0.step)⟩
    ·rw [if_neg c4] at H
     exact absurd H (by simp)
   ·rw [if_neg c3] at H
    have c3b0 : decide (x5_1 < (l0.length : Int)) = false := decide_eq_false c3
    clear c3
    obtain rfl := Option.some.inj H
    go_wp2
    go_ret
    exact ⟨by first | rfl | (simp; done) | (simp [*]; done), by repeat (first | exact Drawn0.refl _ | apply Drawn0.step)⟩

/-! ### laws_heldBuf: function 48 -/
def laws_heldBuf.f (k : Nat) (l0_0 : List Int) (a0_1 : Int) (a0_2 : Int) (a1 : Int) : Option (Int) := (laws_heldInt64S.f k l0_0 a1).bind fun t332 => (if t332 < 0 then (some (-1)) else (some t332))
theorem laws_heldBuf.mono : ∀ a0 a1 a2 a3 k, LeO (laws_heldBuf.f k a0 a1 a2 a3) (laws_heldBuf.f (k + 1) a0 a1 a2 a3) := by
 intro a0 a1 a2 a3 k
 unfold laws_heldBuf.f
 repeat' first
   | (with_reducible exact laws_heldInt64S.mono _ _ _)
   | (with_reducible exact LeO.refl _)
   | (with_reducible exact LeO.none _)
   | (with_reducible refine LeO.ite ?_ ?_)
   | (with_reducible refine LeO.bind ?_ (fun _ => ?_))
   | exact laws_heldInt64S.mono _ _ _
   | exact LeO.none _
   | refine LeO.ite ?_ ?_
   | refine LeO.bind ?_ (fun _ => ?_)
set_option maxHeartbeats 8000000 in
set_option maxRecDepth 100000 in
theorem laws_heldBuf.calls (k : Nat) (A0_0 : Option Addr) (c0_0 : Nat) (l0_0 : List Int) (a0_1 : Int) (a0_2 : Int) (a1 : Int) (r : Int) (w : World) (hr0_0 : Kd.C (Kd.int .i64) w A0_0 l0_0.length l0_0) (hc0_0 : l0_0.length ≤ c0_0) (h : laws_heldBuf.f k l0_0 a0_1 a0_2 a1 = some r) :
  Calls Try.prog 48 #[.agg #[.slice A0_0 l0_0.length c0_0, .int .i64 a0_1, .int .i64 a0_2], .int .i64 a1] w fun e w' => e = .returned (.int .i64 r) ∧ Below w.heap.size w w' := by
 have hu26 := Try.underlying26
 have HR0_0 := am hr0_0
 have HC0_0 := am hc0_0
 clear hr0_0 hc0_0
 have HB := am (Below.refl w.heap.size w)
 have H : ((laws_heldInt64S.f k l0_0 a1).bind fun t332 => (if t332 < 0 then (some (-1)) else (some t332))) = some r := h
 clear h
 replace H := Option.bind_eq_some_iff.mp H
 obtain ⟨t332, A30, H⟩ := H
 replace H : (if t332 < 0 then (some (-1)) else (some t332)) = some r := H
 have A3 := Aside0.mk A30
 clear A30
 by_cases c4 : t332 < 0
 ·rw [if_pos c4] at H
  have c4b0 : decide (t332 < 0) = true := decide_eq_true c4
  clear c4
  obtain rfl := Option.some.inj H
  go_enter Try.func48, Try.ntmps48
  go_wp2_with (first | ((with_reducible refine gate_dst (N := 2) rfl ?_); refine box_event ?hg (N := 2) ?hd (cs := #[.slice A0_0 l0_0.length c0_0, .int .i64 a0_1, .int .i64 a0_2]) (t := 26) ?hr ?_; (case hd => rfl); (case hg => rfl); (case hr => first | (go_simp; done) | (go_simp; rfl)); intro gb331 hg w5 hbox hb; have BK331 := am (hbox); have GW331 := am ((by rw [hg]; exact (below_size (bl HB.out)) : w.heap.size ≤ gb331)); have GE331 := GW331; replace HB := am (below_step (bl HB.out) hb); clear hb hbox hg; have hcz6_0 : w5.cell? ⟨gb331, 0, none⟩ = some (.slice A0_0 l0_0.length c0_0) := bc BK331.out 0; have hcz6_1 : w5.cell? ⟨gb331, 1, none⟩ = some (.int .i64 a0_1) := bc BK331.out 1; have hcz6_2 : w5.cell? ⟨gb331, 2, none⟩ = some (.int .i64 a0_2) := bc BK331.out 2) | ((with_reducible refine gate_callee (f := 49) rfl ?_); refine gl (some 8) Try.func49 #[.slice A0_0 l0_0.length c0_0, .int .i64 a1] ?_; (with_reducible refine (laws_heldInt64S.calls k _ _ l0_0 a1 t332 _ ?side1 ?side2 A3.out).mono ?_); (case side1 => repeat (first | exact (Kd.C_below HR0_0.out HB.out) | (with_reducible refine Kd.C_alloc ?_ _) | (with_reducible refine Kd.C_drewN ?_ _) | (with_reducible refine Kd.C_drew ?_))); (case side2 => exact HC0_0.out); rintro e w' ⟨rfl, ⟨nd, rfl⟩⟩; refine ⟨_, rfl, ?_⟩))
  go_ret
  exact ⟨by first | rfl | (simp [errW_none, errW_some] <;> rfl) | (simp [*, errW_none, errW_some] <;> rfl), by repeat (first | (with_reducible first | exact HB.out | apply below_alloc | apply pw_below_drewN | apply below_drew1 | refine below_set ?_ GE331.out) | exact HB.out)⟩
 ·rw [if_neg c4] at H
  have c4b0 : decide (t332 < 0) = false := decide_eq_false c4
  clear c4
  obtain rfl := Option.some.inj H
  go_enter Try.func48, Try.ntmps48
  go_wp2_with (first | ((with_reducible refine gate_dst (N := 2) rfl ?_); refine box_event ?hg (N := 2) ?hd (cs := #[.slice A0_0 l0_0.length c0_0, .int .i64 a0_1, .int .i64 a0_2]) (t := 26) ?hr ?_; (case hd => rfl); (case hg => rfl); (case hr => first | (go_simp; done) | (go_simp; rfl)); intro gb331 hg w7 hbox hb; have BK331 := am (hbox); have GW331 := am ((by rw [hg]; exact (below_size (bl HB.out)) : w.heap.size ≤ gb331)); have GE331 := GW331; replace HB := am (below_step (bl HB.out) hb); clear hb hbox hg; have hcz8_0 : w7.cell? ⟨gb331, 0, none⟩ = some (.slice A0_0 l0_0.length c0_0) := bc BK331.out 0; have hcz8_1 : w7.cell? ⟨gb331, 1, none⟩ = some (.int .i64 a0_1) := bc BK331.out 1; have hcz8_2 : w7.cell? ⟨gb331, 2, none⟩ = some (.int .i64 a0_2) := bc BK331.out 2) | ((with_reducible refine gate_callee (f := 49) rfl ?_); refine gl (some 8) Try.func49 #[.slice A0_0 l0_0.length c0_0, .int .i64 a1] ?_; (with_reducible refine (laws_heldInt64S.calls k _ _ l0_0 a1 t332 _ ?side1 ?side2 A3.out).mono ?_); (case side1 => repeat (first | exact (Kd.C_below HR0_0.out HB.out) | (with_reducible refine Kd.C_alloc ?_ _) | (with_reducible refine Kd.C_drewN ?_ _) | (with_reducible refine Kd.C_drew ?_))); (case side2 => exact HC0_0.out); rintro e w' ⟨rfl, ⟨nd, rfl⟩⟩; refine ⟨_, rfl, ?_⟩))
  go_ret
  exact ⟨by first | rfl | (simp [errW_none, errW_some] <;> rfl) | (simp [*, errW_none, errW_some] <;> rfl), by repeat (first | (with_reducible first | exact HB.out | apply below_alloc | apply pw_below_drewN | apply below_drew1 | refine below_set ?_ GE331.out) | exact HB.out)⟩

/-! ### laws_heldYankOut: function 33 -/
def laws_heldYankOut.f (k : Nat) (l0_0 : List Int) (a0_1 : Int) (a0_2 : Int) (a0_3 : Int) (a0_4 : Int) (a0_5 : Int) (a1 : Int) : Option (Int) := (laws_heldBuf.f k l0_0 a0_1 a0_2 a1).bind fun t334 => (if t334 < 0 then (some (-1)) else (some t334))
theorem laws_heldYankOut.mono : ∀ a0 a1 a2 a3 a4 a5 a6 k, LeO (laws_heldYankOut.f k a0 a1 a2 a3 a4 a5 a6) (laws_heldYankOut.f (k + 1) a0 a1 a2 a3 a4 a5 a6) := by
 intro a0 a1 a2 a3 a4 a5 a6 k
 unfold laws_heldYankOut.f
 repeat' first
   | (with_reducible exact laws_heldBuf.mono _ _ _ _ _)
   | (with_reducible exact LeO.refl _)
   | (with_reducible exact LeO.none _)
   | (with_reducible refine LeO.ite ?_ ?_)
   | (with_reducible refine LeO.bind ?_ (fun _ => ?_))
   | exact laws_heldBuf.mono _ _ _ _ _
   | exact LeO.none _
   | refine LeO.ite ?_ ?_
   | refine LeO.bind ?_ (fun _ => ?_)
set_option maxHeartbeats 8000000 in
set_option maxRecDepth 100000 in
theorem laws_heldYankOut.calls (k : Nat) (A0_0 : Option Addr) (c0_0 : Nat) (l0_0 : List Int) (a0_1 : Int) (a0_2 : Int) (a0_3 : Int) (a0_4 : Int) (a0_5 : Int) (a1 : Int) (r : Int) (w : World) (hr0_0 : Kd.C (Kd.int .i64) w A0_0 l0_0.length l0_0) (hc0_0 : l0_0.length ≤ c0_0) (h : laws_heldYankOut.f k l0_0 a0_1 a0_2 a0_3 a0_4 a0_5 a1 = some r) :
  Calls Try.prog 33 #[.agg #[.slice A0_0 l0_0.length c0_0, .int .i64 a0_1, .int .i64 a0_2, .int .i64 a0_3, .int .i64 a0_4, .int .i64 a0_5], .int .i64 a1] w fun e w' => e = .returned (.int .i64 r) ∧ Below w.heap.size w w' := by
 have hu48 := Try.underlying48
 have hu26 := Try.underlying26
 have HR0_0 := am hr0_0
 have HC0_0 := am hc0_0
 clear hr0_0 hc0_0
 have HB := am (Below.refl w.heap.size w)
 have H : ((laws_heldBuf.f k l0_0 a0_1 a0_2 a1).bind fun t334 => (if t334 < 0 then (some (-1)) else (some t334))) = some r := h
 clear h
 replace H := Option.bind_eq_some_iff.mp H
 obtain ⟨t334, A30, H⟩ := H
 replace H : (if t334 < 0 then (some (-1)) else (some t334)) = some r := H
 have A3 := Aside0.mk A30
 clear A30
 by_cases c4 : t334 < 0
 ·rw [if_pos c4] at H
  have c4b0 : decide (t334 < 0) = true := decide_eq_true c4
  clear c4
  obtain rfl := Option.some.inj H
  go_enter Try.func33, Try.ntmps33
  go_wp2_with (first | ((with_reducible refine gate_dst (N := 2) rfl ?_); refine box_event ?hg (N := 2) ?hd (cs := #[.slice A0_0 l0_0.length c0_0, .int .i64 a0_1, .int .i64 a0_2, .int .i64 a0_3, .int .i64 a0_4, .int .i64 a0_5]) (t := 48) ?hr ?_; (case hd => rfl); (case hg => rfl); (case hr => first | (go_simp; done) | (go_simp; rfl)); intro gb333 hg w5 hbox hb; have BK333 := am (hbox); have GW333 := am ((by rw [hg]; exact (below_size (bl HB.out)) : w.heap.size ≤ gb333)); have GE333 := GW333; replace HB := am (below_step (bl HB.out) hb); clear hb hbox hg; have hcz6_0 : w5.cell? ⟨gb333, 0, none⟩ = some (.slice A0_0 l0_0.length c0_0) := bc BK333.out 0; have hcz6_1 : w5.cell? ⟨gb333, 1, none⟩ = some (.int .i64 a0_1) := bc BK333.out 1; have hcz6_2 : w5.cell? ⟨gb333, 2, none⟩ = some (.int .i64 a0_2) := bc BK333.out 2; have hcz6_3 : w5.cell? ⟨gb333, 3, none⟩ = some (.int .i64 a0_3) := bc BK333.out 3; have hcz6_4 : w5.cell? ⟨gb333, 4, none⟩ = some (.int .i64 a0_4) := bc BK333.out 4; have hcz6_5 : w5.cell? ⟨gb333, 5, none⟩ = some (.int .i64 a0_5) := bc BK333.out 5) | ((with_reducible refine gate_callee (f := 48) rfl ?_); refine gl (some 8) Try.func48 #[.agg #[.slice A0_0 l0_0.length c0_0, .int .i64 a0_1, .int .i64 a0_2], .int .i64 a1] ?_; (with_reducible refine (laws_heldBuf.calls k _ _ l0_0 a0_1 a0_2 a1 t334 _ ?side1 ?side2 A3.out).mono ?_); (case side1 => repeat (first | exact (Kd.C_below HR0_0.out HB.out) | (with_reducible refine Kd.C_alloc ?_ _) | (with_reducible refine Kd.C_drewN ?_ _) | (with_reducible refine Kd.C_drew ?_))); (case side2 => exact HC0_0.out); rintro e w7 ⟨rfl, hb⟩; refine ⟨_, rfl, ?_⟩; replace BK333 := am (blk_below (pk BK333.out) hb); replace HB := am (below_step (bl HB.out) hb); (try clear hb); (try clear hb2); (try clear hk); (try clear hi)))
  go_ret
  exact ⟨by first | rfl | (simp [errW_none, errW_some] <;> rfl) | (simp [*, errW_none, errW_some] <;> rfl), by repeat (first | (with_reducible first | exact HB.out | apply below_alloc | apply pw_below_drewN | apply below_drew1 | refine below_set ?_ GE333.out) | exact HB.out)⟩
 ·rw [if_neg c4] at H
  have c4b0 : decide (t334 < 0) = false := decide_eq_false c4
  clear c4
  obtain rfl := Option.some.inj H
  go_enter Try.func33, Try.ntmps33
  go_wp2_with (first | ((with_reducible refine gate_dst (N := 2) rfl ?_); refine box_event ?hg (N := 2) ?hd (cs := #[.slice A0_0 l0_0.length c0_0, .int .i64 a0_1, .int .i64 a0_2, .int .i64 a0_3, .int .i64 a0_4, .int .i64 a0_5]) (t := 48) ?hr ?_; (case hd => rfl); (case hg => rfl); (case hr => first | (go_simp; done) | (go_simp; rfl)); intro gb333 hg w8 hbox hb; have BK333 := am (hbox); have GW333 := am ((by rw [hg]; exact (below_size (bl HB.out)) : w.heap.size ≤ gb333)); have GE333 := GW333; replace HB := am (below_step (bl HB.out) hb); clear hb hbox hg; have hcz9_0 : w8.cell? ⟨gb333, 0, none⟩ = some (.slice A0_0 l0_0.length c0_0) := bc BK333.out 0; have hcz9_1 : w8.cell? ⟨gb333, 1, none⟩ = some (.int .i64 a0_1) := bc BK333.out 1; have hcz9_2 : w8.cell? ⟨gb333, 2, none⟩ = some (.int .i64 a0_2) := bc BK333.out 2; have hcz9_3 : w8.cell? ⟨gb333, 3, none⟩ = some (.int .i64 a0_3) := bc BK333.out 3; have hcz9_4 : w8.cell? ⟨gb333, 4, none⟩ = some (.int .i64 a0_4) := bc BK333.out 4; have hcz9_5 : w8.cell? ⟨gb333, 5, none⟩ = some (.int .i64 a0_5) := bc BK333.out 5) | ((with_reducible refine gate_callee (f := 48) rfl ?_); refine gl (some 8) Try.func48 #[.agg #[.slice A0_0 l0_0.length c0_0, .int .i64 a0_1, .int .i64 a0_2], .int .i64 a1] ?_; (with_reducible refine (laws_heldBuf.calls k _ _ l0_0 a0_1 a0_2 a1 t334 _ ?side1 ?side2 A3.out).mono ?_); (case side1 => repeat (first | exact (Kd.C_below HR0_0.out HB.out) | (with_reducible refine Kd.C_alloc ?_ _) | (with_reducible refine Kd.C_drewN ?_ _) | (with_reducible refine Kd.C_drew ?_))); (case side2 => exact HC0_0.out); rintro e w10 ⟨rfl, hb⟩; refine ⟨_, rfl, ?_⟩; replace BK333 := am (blk_below (pk BK333.out) hb); replace HB := am (below_step (bl HB.out) hb); (try clear hb); (try clear hb2); (try clear hk); (try clear hi)))
  go_ret
  exact ⟨by first | rfl | (simp [errW_none, errW_some] <;> rfl) | (simp [*, errW_none, errW_some] <;> rfl), by repeat (first | (with_reducible first | exact HB.out | apply below_alloc | apply pw_below_drewN | apply below_drew1 | refine below_set ?_ GE333.out) | exact HB.out)⟩

end Go.Proofs.Ytejgkbejdkaccaa.PFnExactRingYank
