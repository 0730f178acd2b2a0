-- Written by xprint.py (this claim's own program, over the kit's printer); Lean checks it.
import Derived.Test.YtejgkbejdkaccaaPFnExactRingYankx0
import Derived.Test.YtejgkbejdkaccaaPFnExactRingYankx1
import Derived.Test.YtejgkbejdkaccaaPFnExactRingYankx2
import Derived.Test.YtejgkbejdkaccaaPFnExactRingYankx3
namespace Go.Proofs.Ytejgkbejdkaccaa.PFnExactRingYank
open Go.RowKit Go.Proofs.YtejgkbejdkaccaaW.PrintWords Go.Proofs.YtejgkbejdkaccaaW.PrintLast Go.Proofs.YtejgkbejdkaccaaW.PrintMore
attribute [local go_sem] max2_int min2_int max_two min_two max_three min_three max_four min_four   -- for this text's walks alone
set_option linter.unusedVariables false
set_option linter.unusedSimpArgs false   -- squeezed

/-! ### spec_BufInsert: function 21 -/
def spec_BufInsert.f (k : Nat) (l0_0 : List Int) (a0_1 : Int) (a0_2 : Int) (l1 : List Int) : Option (List Int × Int × Int × List Int × Int) := (spec_BufReplace.f k l0_0 a0_1 a0_2 a0_1 a0_1 l1).bind fun bt166 => (some (bt166.1, bt166.2.1, bt166.2.2.1, bt166.2.2.2.1, bt166.2.2.2.2))
theorem spec_BufInsert.mono : ∀ a0 a1 a2 a3 k, LeO (spec_BufInsert.f k a0 a1 a2 a3) (spec_BufInsert.f (k + 1) a0 a1 a2 a3) := by
 intro a0 a1 a2 a3 k
 unfold spec_BufInsert.f
 repeat' first
   | (with_reducible exact spec_BufReplace.mono _ _ _ _ _ _ _)
   | (with_reducible exact LeO.refl _)
   | (with_reducible exact LeO.none _)
   | (with_reducible refine LeO.ite ?_ ?_)
   | (with_reducible refine LeO.bind ?_ (fun _ => ?_))
   | exact spec_BufReplace.mono _ _ _ _ _ _ _
   | exact LeO.none _
   | refine LeO.ite ?_ ?_
   | refine LeO.bind ?_ (fun _ => ?_)
set_option maxHeartbeats 8000000 in
set_option maxRecDepth 100000 in
theorem spec_BufInsert.calls (k : Nat) (A0_0 : Option Addr) (c0_0 : Nat) (l0_0 : List Int) (a0_1 : Int) (a0_2 : Int) (A1 : Option Addr) (c1 : Nat) (l1 : List Int) (r1 : List Int) (r2 : Int) (r3 : Int) (r4 : List Int) (r5 : Int) (w : World) (hr0_0 : Kd.C (Kd.int .i64) w A0_0 l0_0.length l0_0) (hc0_0 : l0_0.length ≤ c0_0) (hr1 : Kd.C (Kd.int .i64) w A1 l1.length l1) (hc1 : l1.length ≤ c1) (h : spec_BufInsert.f k l0_0 a0_1 a0_2 l1 = some (r1, r2, r3, r4, r5)) :
  Calls Try.prog 21 #[.agg #[.slice A0_0 l0_0.length c0_0, .int .i64 a0_1, .int .i64 a0_2], .slice A1 l1.length c1] w fun e w' => ∃ v0_ v3_ : Value, e = .returned (.agg #[v0_, .int .i64 r2, .int .i64 r3, v3_, .int .i64 r5]) ∧ Kd.R (Kd.int .i64) 2 w' w.heap.size (fun k_ => some k_ ≠ (v3_ : Value).ownBlock) v0_ r1 ∧ Kd.R (Kd.int .i64) 2 w' w.heap.size (fun k_ => some k_ ≠ (v0_ : Value).ownBlock) v3_ r4 ∧ Below w.heap.size w w' := by
 have hu26 := Try.underlying26
 have hu28 := Try.underlying28
 have HR0_0 := am hr0_0
 have HC0_0 := am hc0_0
 clear hr0_0 hc0_0
 have HR1 := am hr1
 have HC1 := am hc1
 clear hr1 hc1
 have HB := am (Below.refl w.heap.size w)
 have H : ((spec_BufReplace.f k l0_0 a0_1 a0_2 a0_1 a0_1 l1).bind fun bt166 => (some (bt166.1, bt166.2.1, bt166.2.2.1, bt166.2.2.2.1, bt166.2.2.2.2))) = some (r1, r2, r3, r4, r5) := h
 clear h
 replace H := Option.bind_eq_some_iff.mp H
 obtain ⟨⟨t166, t169, t170, t171, t174⟩, A30, H⟩ := H
 replace H : (some (t166, t169, t170, t171, t174)) = some (r1, r2, r3, r4, r5) := H
 have A3 := Aside0.mk A30
 clear A30
 simp only [Option.some.injEq, Prod.mk.injEq] at H
 obtain ⟨rfl, rfl, rfl, rfl, rfl⟩ := H
 go_enter Try.func21, Try.ntmps21
 go_wp2_with (first | ((with_reducible refine gate_dst (N := 2) rfl ?_); refine box_event ?hg (N := 2) ?hd (cs := #[.slice A0_0 l0_0.length c0_0, .int .i64 a0_1, .int .i64 a0_2]) (t := 26) ?hr ?_; (case hd => rfl); (case hg => rfl); (case hr => first | (go_simp; done) | (go_simp; rfl)); intro gb164 hg w4 hbox hb; have BK164 := am (hbox); have GW164 := am ((by rw [hg]; exact (below_size (bl HB.out)) : w.heap.size ≤ gb164)); have GE164 := GW164; replace HB := am (below_step (bl HB.out) hb); clear hb hbox hg) | ((with_reducible refine gate_dst (N := 4) rfl ?_); refine box_event ?hg (N := 4) ?hd (cs := #[.slice none 0 0, .int .i64 0, .int .i64 0, .slice none 0 0, .int .i64 0]) (t := 28) ?hr ?_; (case hd => rfl); (case hg => rfl); (case hr => first | (go_simp; done) | (go_simp; rfl)); intro gb165 hg w5 hbox hb; have BK165 := am (hbox); have GW165 := am ((by rw [hg]; exact (below_size (bl HB.out)) : w.heap.size ≤ gb165)); have GE165 := GW165; replace HB := am (below_step (bl HB.out) hb); have NB164_165 := am ((by rw [hg]; exact Nat.ne_of_lt (blk_lt (pk BK164.out)) : gb164 ≠ gb165)); have NB165_164 := am ((by rw [hg]; exact Nat.ne_of_gt (blk_lt (pk BK164.out)) : gb165 ≠ gb164)); replace BK164 := am (blk_below (pk BK164.out) hb); clear hb hbox hg; have hnb6 := NB164_165.out; have hnc6 := NB165_164.out; have hcz7_0 : w5.cell? ⟨gb164, 0, none⟩ = some (.slice A0_0 l0_0.length c0_0) := bc BK164.out 0; have hcz7_1 : w5.cell? ⟨gb164, 1, none⟩ = some (.int .i64 a0_1) := bc BK164.out 1; have hcz7_2 : w5.cell? ⟨gb164, 2, none⟩ = some (.int .i64 a0_2) := bc BK164.out 2; have hfz7_0 := blk_frozen BK164.out 0; have hfz7_1 := blk_frozen BK164.out 1; have hfz7_2 := blk_frozen BK164.out 2) | ((with_reducible refine gate_callee (f := 10) rfl ?_); refine gl (some 11) Try.func10 #[.agg #[.slice A0_0 l0_0.length c0_0, .int .i64 a0_1, .int .i64 a0_2], .int .i64 a0_1, .int .i64 a0_1, .slice A1 l1.length c1] ?_; (with_reducible refine (spec_BufReplace.calls k _ _ l0_0 a0_1 a0_2 a0_1 a0_1 _ _ l1 t166 t169 t170 t171 t174 _ ?side1 ?side2 ?side3 ?side4 A3.out).mono ?_); (case side1 => repeat (first | exact (Kd.C_below HR0_0.out HB.out) | (with_reducible refine Kd.C_alloc ?_ _) | (with_reducible refine Kd.C_drewN ?_ _) | (with_reducible refine Kd.C_drew ?_))); (case side2 => exact HC0_0.out); (case side3 => repeat (first | exact (Kd.C_below HR1.out HB.out) | (with_reducible refine Kd.C_alloc ?_ _) | (with_reducible refine Kd.C_drewN ?_ _) | (with_reducible refine Kd.C_drew ?_))); (case side4 => exact HC1.out); rintro e w8 ⟨v167, v172, rfl, ho0, ho1, hb⟩; refine ⟨_, rfl, ?_⟩; have HO168 := am (Kd.R_lower ho0 (below_size (bl HB.out))); have HO173 := am (Kd.R_lower ho1 (below_size (bl HB.out))); replace BK164 := am (blk_below (pk BK164.out) hb); replace BK165 := am (blk_below (pk BK165.out) hb); replace HB := am (below_step (bl HB.out) hb); (try clear hb); (try clear hb2); (try clear hk); (try clear hi); (try clear ho0); (try clear ho1); obtain ⟨Ao9, co9, eo9⟩ := Kd.R_slice HO168.out; subst eo9; have hcz10_0 : w8.cell? ⟨gb165, 0, none⟩ = some (.slice none 0 0) := bc BK165.out 0; have hcz10_1 : w8.cell? ⟨gb165, 1, none⟩ = some (.int .i64 0) := bc BK165.out 1; have hcz10_2 : w8.cell? ⟨gb165, 2, none⟩ = some (.int .i64 0) := bc BK165.out 2; have hcz10_3 : w8.cell? ⟨gb165, 3, none⟩ = some (.slice none 0 0) := bc BK165.out 3; have hcz10_4 : w8.cell? ⟨gb165, 4, none⟩ = some (.int .i64 0) := bc BK165.out 4; have hfz10_0 := blk_frozen BK165.out 0; have hfz10_1 := blk_frozen BK165.out 1; have hfz10_2 := blk_frozen BK165.out 2; have hfz10_3 := blk_frozen BK165.out 3; have hfz10_4 := blk_frozen BK165.out 4; obtain ⟨Ao11, co11, eo11⟩ := Kd.R_slice HO173.out; subst eo11))
 refine bodyPost_ret (results_cell_row rfl _ _ gb165 28 #[.slice Ao9 t166.length co9, .int .i64 t169, .int .i64 t170, .slice Ao11 t171.length co11, .int .i64 t174] (0, 0) _ rfl (by (with_reducible repeat (first | refine blk_drewN ?_ _ | refine blk_drew ?_ | refine blk_alloc ?_ _)); refine blk_put (cs := #[.slice Ao9 t166.length co9, .int .i64 t169, .int .i64 t170, .slice Ao11 t171.length co11, .int .i64 0]) ?_ 4 _ rfl; (with_reducible repeat (first | refine blk_drewN ?_ _ | refine blk_drew ?_ | refine blk_alloc ?_ _)); refine blk_put (cs := #[.slice Ao9 t166.length co9, .int .i64 t169, .int .i64 t170, .slice none 0 0, .int .i64 0]) ?_ 3 _ rfl; (with_reducible repeat (first | refine blk_drewN ?_ _ | refine blk_drew ?_ | refine blk_alloc ?_ _)); refine blk_put (cs := #[.slice Ao9 t166.length co9, .int .i64 t169, .int .i64 0, .slice none 0 0, .int .i64 0]) ?_ 2 _ rfl; (with_reducible repeat (first | refine blk_drewN ?_ _ | refine blk_drew ?_ | refine blk_alloc ?_ _)); refine blk_put (cs := #[.slice Ao9 t166.length co9, .int .i64 0, .int .i64 0, .slice none 0 0, .int .i64 0]) ?_ 1 _ rfl; (with_reducible repeat (first | refine blk_drewN ?_ _ | refine blk_drew ?_ | refine blk_alloc ?_ _)); refine blk_put (cs := #[.slice none 0 0, .int .i64 0, .int .i64 0, .slice none 0 0, .int .i64 0]) ?_ 0 _ rfl; (with_reducible repeat (first | refine blk_drewN ?_ _ | refine blk_drew ?_ | refine blk_alloc ?_ _)); exact BK165.out) Try.underlying28 rfl (by kernel_rfl)) rfl ?_
 exact ⟨_, _, by first | rfl | (simp [errW_none, errW_some] <;> rfl) | (simp [*, errW_none, errW_some] <;> rfl), kr (Kd.R_mono (Kd.R_far (p := ⟨gb165, 4, none⟩) (Kd.R_far (p := ⟨gb165, 3, none⟩) (Kd.R_far (p := ⟨gb165, 2, none⟩) (Kd.R_far (p := ⟨gb165, 1, none⟩) (Kd.R_far (p := ⟨gb165, 0, none⟩) (Kd.R_types HO168.out BK165.out (by decide)) (fun _ hk => hk.2) (.slice Ao9 t166.length co9)) (fun _ hk => hk.2) (.int .i64 t169)) (fun _ hk => hk.2) (.int .i64 t170)) (fun _ hk => hk.2) (.slice Ao11 t171.length co11)) (fun _ hk => hk.2) (.int .i64 t174)) (fun _ hk => hk.1)), kr (Kd.R_mono (Kd.R_far (p := ⟨gb165, 4, none⟩) (Kd.R_far (p := ⟨gb165, 3, none⟩) (Kd.R_far (p := ⟨gb165, 2, none⟩) (Kd.R_far (p := ⟨gb165, 1, none⟩) (Kd.R_far (p := ⟨gb165, 0, none⟩) (Kd.R_types HO173.out BK165.out (by decide)) (fun _ hk => hk.2) (.slice Ao9 t166.length co9)) (fun _ hk => hk.2) (.int .i64 t169)) (fun _ hk => hk.2) (.int .i64 t170)) (fun _ hk => hk.2) (.slice Ao11 t171.length co11)) (fun _ hk => hk.2) (.int .i64 t174)) (fun _ hk => hk.1)), by repeat (first | (with_reducible first | exact HB.out | apply below_alloc | apply pw_below_drewN | apply below_drew1 | refine below_set ?_ GE164.out | refine below_set ?_ GE165.out) | exact HB.out)⟩

/-! ### spec_l04Items: function 73 -/
def spec_l04Items.l0 : Nat → List (List Int) → Int → Option (Bool)
 | 0, _, _ => none
 | k + 1, x0, x5 => if x5 < (x0.length : Int) then (if 0 ≤ x5 then (if ((rd_L1 x0 x5).length : Int) = 0 then (some false) else ((spec_PointsRight.f k (rd_L1 x0 x5)).bind fun t177 => (if t177 = true then (spec_l04Items.l0 k x0 (wrap64 (x5 + 1))) else (some false)))) else (none)) else (some true)
def spec_l04Items.f (k : Nat) (l0 : List (List Int)) (a1 : Int) : Option (Bool) := if (l0.length : Int) > a1 then (some false) else (spec_l04Items.l0 k l0 0)
theorem spec_l04Items.mono_l : ∀ k, (∀ y0 y1, LeO (spec_l04Items.l0 k y0 y1) (spec_l04Items.l0 (k + 1) y0 y1))
 | 0 => fun _ _ r h => by simp [spec_l04Items.l0] at h
 | k + 1 => by
  have ih0 := spec_l04Items.mono_l k
  ·intro y0 y1
   unfold spec_l04Items.l0
   repeat' first
   | (with_reducible exact ih0 _ _)
   | (with_reducible exact spec_PointsRight.mono _ _)
   | (with_reducible exact LeO.refl _)
   | (with_reducible exact LeO.none _)
   | (with_reducible refine LeO.ite ?_ ?_)
   | (with_reducible refine LeO.bind ?_ (fun _ => ?_))
   | exact ih0 _ _
   | exact spec_PointsRight.mono _ _
   | exact LeO.none _
   | refine LeO.ite ?_ ?_
   | refine LeO.bind ?_ (fun _ => ?_)
theorem spec_l04Items.mono : ∀ a0 a1 k, LeO (spec_l04Items.f k a0 a1) (spec_l04Items.f (k + 1) a0 a1) := by
 intro a0 a1 k
 have ih0 := spec_l04Items.mono_l k
 unfold spec_l04Items.f
 repeat' first
   | (with_reducible exact ih0 _ _)
   | (with_reducible exact spec_PointsRight.mono _ _)
   | (with_reducible exact LeO.refl _)
   | (with_reducible exact LeO.none _)
   | (with_reducible refine LeO.ite ?_ ?_)
   | (with_reducible refine LeO.bind ?_ (fun _ => ?_))
   | exact ih0 _ _
   | exact spec_PointsRight.mono _ _
   | exact LeO.none _
   | refine LeO.ite ?_ ?_
   | refine LeO.bind ?_ (fun _ => ?_)
set_option maxHeartbeats 8000000 in
set_option maxRecDepth 100000 in
theorem spec_l04Items.calls (k : Nat) (A0 : Option Addr) (c0 : Nat) (l0 : List (List Int)) (a1 : Int) (r : Bool) (w : World) (hr0 : Kd.C (Kd.slice 2 (Kd.int .i64)) w A0 l0.length l0) (hc0 : l0.length ≤ c0) (h : spec_l04Items.f k l0 a1 = some r) :
  Calls Try.prog 73 #[.slice A0 l0.length c0, .int .i64 a1] w fun e w' => e = .returned (.bool r) ∧ Drawn0 w w' := by
 have HR0 := am hr0
 have HC0 := am hc0
 clear hr0 hc0
 have H : (if (l0.length : Int) > a1 then (some false) else (spec_l04Items.l0 k l0 0)) = some r := h
 clear h
 by_cases c3 : (l0.length : Int) > a1
 ·rw [if_pos c3] at H
  have c3b0 : decide (a1 < (l0.length : Int)) = true := decide_eq_true c3
  clear c3
  obtain rfl := Option.some.inj H
  go_enter Try.func73, Try.ntmps73
  go_wp2
  go_ret
  exact ⟨by first | rfl | (simp; done) | (simp [*]; done), by repeat (first | exact Drawn0.refl _ | apply Drawn0.step)⟩
 ·rw [if_neg c3] at H
  have c3b0 : decide (a1 < (l0.length : Int)) = false := decide_eq_false c3
  clear c3
  have H' := Aside0.mk H
  clear H
  go_enter Try.func73, Try.ntmps73
  go_wp2
  go_loopg [5] k (fun kq v5 w' => ∃ (x5_1 : Int), v5 = .int .i64 x5_1 ∧ Aside0 (spec_l04Items.l0 kq l0 x5_1 = some r) ∧ Aside0 (kq ≤ k) ∧ Drawn0 w w')
  case atStart => exact ⟨(0), (by first | rfl | (simp; done) | (simp [*]; done)), H', ⟨Nat.le_refl _⟩, by repeat (first | exact Drawn0.refl _ | apply Drawn0.step)⟩
  case round =>
   clear H'
   try clear p2
   try clear c3
   try clear c3b0
   obtain ⟨x5_1, rfl, HA, HK1, ⟨m1, rfl⟩⟩ := hrel
   cases gk with
   | zero => exact absurd HA.out (by simp [spec_l04Items.l0])
   | succ k1 =>
    have H := HA.out
    clear HA
    simp only [spec_l04Items.l0] at H
    by_cases c4 : x5_1 < (l0.length : Int)
    ·rw [if_pos c4] at H
     have c4b0 : decide (x5_1 < (l0.length : Int)) = true := decide_eq_true c4
     clear c4
     by_cases c5 : 0 ≤ x5_1
     ·rw [if_pos c5] at H
      have c5b0 : decide (0 ≤ x5_1) = true := decide_eq_true c5
      clear c5
      by_cases c6 : ((rd_L1 l0 x5_1).length : Int) = 0
      ·rw [if_pos c6] at H
       have c6b0 : (((rd_L1 l0 x5_1).length : Int) == 0) = true := beq_iff_eq.mpr c6
       have c6b1 : (((rd_L1 l0 x5_1).length : Int) != 0) = false := bne_eq_false_iff_eq.mpr c6
       clear c6
       obtain rfl := Option.some.inj H
       have p175 : 0 ≤ (x5_1 : Int) := of_decide_eq_true (by first | (with_reducible assumption) | assumption)
       have q175 : x5_1 < (l0.length : Int) := of_decide_eq_true (by first | (with_reducible assumption) | assumption)
       obtain ⟨ad175, A175_0, c175_0, e175, hx175_0, hl175_0, hi175_0⟩ := at_L1 HR0.out x5_1 p175 q175
       cases e175
       have HR175_0 := am hi175_0
       have HC175_0 := am hl175_0
       clear hi175_0 hl175_0
       replace p175 := eq_true p175
       replace q175 := eq_true q175
       go_wp2
       go_ret
       exact ⟨by first | rfl | (simp; done) | (simp [*]; done), by repeat (first | exact Drawn0.refl _ | apply Drawn0.step)⟩
      ·rw [if_neg c6] at H
       have c6b0 : (((rd_L1 l0 x5_1).length : Int) == 0) = false := beq_eq_false_iff_ne.mpr c6
       have c6b1 : (((rd_L1 l0 x5_1).length : Int) != 0) = true := bne_iff_ne.mpr c6
       have c6b2 : ¬ ((rd_L1 l0 x5_1) = []) := fun h_ => c6 (by rw [h_]; rfl)
       replace H := Option.bind_eq_some_iff.mp H
       obtain ⟨t177, A70, H⟩ := H
       replace H : (if t177 = true then (spec_l04Items.l0 k1 l0 (wrap64 (x5_1 + 1))) else (some false)) = some r := H
       have A7 := Aside0.mk A70
       clear A70
       by_cases c8 : t177 = true
       ·subst c8
        have H1 : (spec_l04Items.l0 k1 l0 (wrap64 (x5_1 + 1))) = some r := by rw [if_pos rfl] at H; exact H
        clear H
        have H := H1
        clear H1
        have H' := Aside0.mk H
        clear H
        have p175 : 0 ≤ (x5_1 : Int) := of_decide_eq_true (by first | (with_reducible assumption) | assumption)
        have q175 : x5_1 < (l0.length : Int) := of_decide_eq_true (by first | (with_reducible assumption) | assumption)
        obtain ⟨ad175, A175_0, c175_0, e175, hx175_0, hl175_0, hi175_0⟩ := at_L1 HR0.out x5_1 p175 q175
        cases e175
        have HR175_0 := am hi175_0
        have HC175_0 := am hl175_0
        clear hi175_0 hl175_0
        replace p175 := eq_true p175
        replace q175 := eq_true q175
        have p176 : 0 ≤ (x5_1 : Int) := of_decide_eq_true (by first | (with_reducible assumption) | assumption)
        have q176 : x5_1 < (l0.length : Int) := of_decide_eq_true (by first | (with_reducible assumption) | assumption)
        obtain ⟨ad176, A176_0, c176_0, e176, hx176_0, hl176_0, hi176_0⟩ := at_L1 HR0.out x5_1 p176 q176
        obtain rfl : ad175 = ad176 := (by injection e176)
        have HR176_0 := am hi176_0
        have HC176_0 := am hl176_0
        clear hi176_0 hl176_0
        replace p176 := eq_true p176
        replace q176 := eq_true q176
        (first | have ea_ := Option.some.inj (hx175_0.symm.trans hx176_0) | have ea_ := Option.some.inj (hxw175_0.symm.trans hxw176_0))
        injection ea_ with ea_ en_ ec_
        subst ea_
        subst ec_
        clear en_
        go_wp2_with (first | (go_at_call 42; (with_reducible refine (spec_PointsRight.calls k1 _ _ (rd_L1 l0 x5_1) true _ ?side1 ?side2 A7.out).mono ?_); (case side1 => repeat (first | exact HR176_0.out | (with_reducible refine Kd.C_alloc ?_ _) | (with_reducible refine Kd.C_drewN ?_ _) | (with_reducible refine Kd.C_drew ?_))); (case side2 => exact HC176_0.out); rintro e w' ⟨rfl, ⟨nd, rfl⟩⟩))
        go_roundg k1
        case measure => have := HK1.out; omega
        case rel => exact ⟨(wrap64 (x5_1 + 1)), (by first | rfl | (simp; done) | (simp [*]; done)), H', ⟨by have := HK1.out; omega⟩, by repeat (first | exact Drawn0.refl _ | apply Drawn0.step)⟩
       ·replace c8 := Bool.eq_false_iff.mpr c8
        subst c8
        have H1 : (some false) = some r := by rw [if_neg (show ¬ (false = true) by decide)] at H; exact H
        clear H
        have H := H1
        clear H1
        obtain rfl := Option.some.inj H
        have p175 : 0 ≤ (x5_1 : Int) := of_decide_eq_true (by first | (with_reducible assumption) | assumption)
        have q175 : x5_1 < (l0.length : Int) := of_decide_eq_true (by first | (with_reducible assumption) | assumption)
        obtain ⟨ad175, A175_0, c175_0, e175, hx175_0, hl175_0, hi175_0⟩ := at_L1 HR0.out x5_1 p175 q175
        cases e175
        have HR175_0 := am hi175_0
        have HC175_0 := am hl175_0
        clear hi175_0 hl175_0
        replace p175 := eq_true p175
        replace q175 := eq_true q175
        have p176 : 0 ≤ (x5_1 : Int) := of_decide_eq_true (by first | (with_reducible assumption) | assumption)
        have q176 : x5_1 < (l0.length : Int) := of_decide_eq_true (by first | (with_reducible assumption) | assumption)
        obtain ⟨ad176, A176_0, c176_0, e176, hx176_0, hl176_0, hi176_0⟩ := at_L1 HR0.out x5_1 p176 q176
        obtain rfl : ad175 = ad176 := (by injection e176)
        have HR176_0 := am hi176_0
        have HC176_0 := am hl176_0
        clear hi176_0 hl176_0
        replace p176 := eq_true p176
        replace q176 := eq_true q176
        (first | have ea_ := Option.some.inj (hx175_0.symm.trans hx176_0) | have ea_ := Option.some.inj (hxw175_0.symm.trans hxw176_0))
        injection ea_ with ea_ en_ ec_
        subst ea_
        subst ec_
        clear en_
        go_wp2_with (first | (go_at_call 42; (with_reducible refine (spec_PointsRight.calls k1 _ _ (rd_L1 l0 x5_1) false _ ?side1 ?side2 A7.out).mono ?_); (case side1 => repeat (first | exact HR176_0.out | (with_reducible refine Kd.C_alloc ?_ _) | (with_reducible refine Kd.C_drewN ?_ _) | (with_reducible refine Kd.C_drew ?_))); (case side2 => exact HC176_0.out); rintro e w' ⟨rfl, ⟨nd, rfl⟩⟩))
        go_ret
        exact ⟨by first | rfl | (simp; done) | (simp [*]; done), by repeat (first | exact Drawn0.refl _ | apply Drawn0.step)⟩
     ·rw [if_neg c5] at H
      exact absurd H (by simp)
    ·rw [if_neg c4] at H
     have c4b0 : decide (x5_1 < (l0.length : Int)) = false := decide_eq_false c4
     clear c4
     obtain rfl := Option.some.inj H
     go_wp2
     go_ret
     exact ⟨by first | rfl | (simp; done) | (simp [*]; done), by repeat (first | exact Drawn0.refl _ | apply Drawn0.step)⟩

/-! ### spec_RingRight: function 51 -/
def spec_RingRight.f (k : Nat) (l0_0 : List (List Int)) (a0_1 : Int) : Option (Bool) := (spec_l04Items.f k l0_0 10).bind fun t179 => (if t179 = true then (if a0_1 ≥ 0 then (if a0_1 < (l0_0.length : Int) then (some true) else (if a0_1 = 0 then (some ((l0_0.length : Int) == 0)) else (some false))) else (some false)) else (some false))
theorem spec_RingRight.mono : ∀ a0 a1 k, LeO (spec_RingRight.f k a0 a1) (spec_RingRight.f (k + 1) a0 a1) := by
 intro a0 a1 k
 unfold spec_RingRight.f
 repeat' first
   | (with_reducible exact spec_l04Items.mono _ _ _)
   | (with_reducible exact LeO.refl _)
   | (with_reducible exact LeO.none _)
   | (with_reducible refine LeO.ite ?_ ?_)
   | (with_reducible refine LeO.bind ?_ (fun _ => ?_))
   | exact spec_l04Items.mono _ _ _
   | exact LeO.none _
   | refine LeO.ite ?_ ?_
   | refine LeO.bind ?_ (fun _ => ?_)
set_option maxHeartbeats 8000000 in
set_option maxRecDepth 100000 in
theorem spec_RingRight.calls (k : Nat) (A0_0 : Option Addr) (c0_0 : Nat) (l0_0 : List (List Int)) (a0_1 : Int) (r : Bool) (w : World) (hr0_0 : Kd.C (Kd.slice 2 (Kd.int .i64)) w A0_0 l0_0.length l0_0) (hc0_0 : l0_0.length ≤ c0_0) (h : spec_RingRight.f k l0_0 a0_1 = some r) :
  Calls Try.prog 51 #[.agg #[.slice A0_0 l0_0.length c0_0, .int .i64 a0_1]] w fun e w' => e = .returned (.bool r) ∧ Below w.heap.size w w' := by
 have hu50 := Try.underlying50
 have HR0_0 := am hr0_0
 have HC0_0 := am hc0_0
 clear hr0_0 hc0_0
 have HB := am (Below.refl w.heap.size w)
 have H : ((spec_l04Items.f k l0_0 10).bind fun t179 => (if t179 = true then (if a0_1 ≥ 0 then (if a0_1 < (l0_0.length : Int) then (some true) else (if a0_1 = 0 then (some ((l0_0.length : Int) == 0)) else (some false))) else (some false)) else (some false))) = some r := h
 clear h
 replace H := Option.bind_eq_some_iff.mp H
 obtain ⟨t179, A20, H⟩ := H
 replace H : (if t179 = true then (if a0_1 ≥ 0 then (if a0_1 < (l0_0.length : Int) then (some true) else (if a0_1 = 0 then (some ((l0_0.length : Int) == 0)) else (some false))) else (some false)) else (some false)) = some r := H
 have A2 := Aside0.mk A20
 clear A20
 by_cases c3 : t179 = true
 ·subst c3
  have H1 : (if a0_1 ≥ 0 then (if a0_1 < (l0_0.length : Int) then (some true) else (if a0_1 = 0 then (some ((l0_0.length : Int) == 0)) else (some false))) else (some false)) = some r := by rw [if_pos rfl] at H; exact H
  clear H
  have H := H1
  clear H1
  by_cases c4 : a0_1 ≥ 0
  ·rw [if_pos c4] at H
   have c4b0 : decide (0 ≤ a0_1) = true := decide_eq_true c4
   clear c4
   by_cases c5 : a0_1 < (l0_0.length : Int)
   ·rw [if_pos c5] at H
    have c5b0 : decide (a0_1 < (l0_0.length : Int)) = true := decide_eq_true c5
    clear c5
    obtain rfl := Option.some.inj H
    go_enter Try.func51, Try.ntmps51
    go_wp2_with (first | ((with_reducible refine gate_dst (N := 1) rfl ?_); (try (refine gate_guard (by rfl) ?_; dsimp only)); refine box_event ?hg (N := 1) ?hd (cs := #[.slice A0_0 l0_0.length c0_0, .int .i64 a0_1]) (t := 50) ?hr ?_; (case hd => rfl); (case hg => rfl); (case hr => first | (go_simp; done) | (go_simp; rfl)); intro gb178 hg w6 hbox hb; have BK178 := am (hbox); have GW178 := am ((by rw [hg]; exact (below_size (bl HB.out)) : w.heap.size ≤ gb178)); have GE178 := GW178; replace HB := am (below_step (bl HB.out) hb); clear hb hbox hg; have hcz7_0 : w6.cell? ⟨gb178, 0, none⟩ = some (.slice A0_0 l0_0.length c0_0) := bc BK178.out 0; have hcz7_1 : w6.cell? ⟨gb178, 1, none⟩ = some (.int .i64 a0_1) := bc BK178.out 1) | ((with_reducible refine gate_callee (f := 73) rfl ?_); refine gl (some 5) Try.func73 #[.slice A0_0 l0_0.length c0_0, .int .i64 10] ?_; (with_reducible refine (spec_l04Items.calls k _ _ l0_0 10 true _ ?side1 ?side2 A2.out).mono ?_); (case side1 => repeat (first | exact (Kd.C_below HR0_0.out HB.out) | (with_reducible refine Kd.C_alloc ?_ _) | (with_reducible refine Kd.C_drewN ?_ _) | (with_reducible refine Kd.C_drew ?_))); (case side2 => exact HC0_0.out); rintro e w' ⟨rfl, ⟨nd, rfl⟩⟩; refine ⟨_, rfl, ?_⟩))
    go_ret
    exact ⟨by first | rfl | (simp [errW_none, errW_some] <;> rfl) | (simp [*, errW_none, errW_some] <;> rfl), by repeat (first | (with_reducible first | exact HB.out | apply below_alloc | apply pw_below_drewN | apply below_drew1 | refine below_set ?_ GE178.out) | exact HB.out)⟩
   ·rw [if_neg c5] at H
    have c5b0 : decide (a0_1 < (l0_0.length : Int)) = false := decide_eq_false c5
    clear c5
    by_cases c8 : a0_1 = 0
    ·rw [if_pos c8] at H
     have c8b0 : (a0_1 == 0) = true := beq_iff_eq.mpr c8
     have c8b1 : (a0_1 != 0) = false := bne_eq_false_iff_eq.mpr c8
     clear c8
     obtain rfl := Option.some.inj H
     go_enter Try.func51, Try.ntmps51
     go_wp2_with (first | ((with_reducible refine gate_dst (N := 1) rfl ?_); (try (refine gate_guard (by rfl) ?_; dsimp only)); refine box_event ?hg (N := 1) ?hd (cs := #[.slice A0_0 l0_0.length c0_0, .int .i64 a0_1]) (t := 50) ?hr ?_; (case hd => rfl); (case hg => rfl); (case hr => first | (go_simp; done) | (go_simp; rfl)); intro gb178 hg w9 hbox hb; have BK178 := am (hbox); have GW178 := am ((by rw [hg]; exact (below_size (bl HB.out)) : w.heap.size ≤ gb178)); have GE178 := GW178; replace HB := am (below_step (bl HB.out) hb); clear hb hbox hg; have hcz10_0 : w9.cell? ⟨gb178, 0, none⟩ = some (.slice A0_0 l0_0.length c0_0) := bc BK178.out 0; have hcz10_1 : w9.cell? ⟨gb178, 1, none⟩ = some (.int .i64 a0_1) := bc BK178.out 1) | ((with_reducible refine gate_callee (f := 73) rfl ?_); refine gl (some 5) Try.func73 #[.slice A0_0 l0_0.length c0_0, .int .i64 10] ?_; (with_reducible refine (spec_l04Items.calls k _ _ l0_0 10 true _ ?side1 ?side2 A2.out).mono ?_); (case side1 => repeat (first | exact (Kd.C_below HR0_0.out HB.out) | (with_reducible refine Kd.C_alloc ?_ _) | (with_reducible refine Kd.C_drewN ?_ _) | (with_reducible refine Kd.C_drew ?_))); (case side2 => exact HC0_0.out); rintro e w' ⟨rfl, ⟨nd, rfl⟩⟩; refine ⟨_, rfl, ?_⟩))
     go_ret
     exact ⟨by first | rfl | (simp [errW_none, errW_some] <;> rfl) | (simp [*, errW_none, errW_some] <;> rfl), by repeat (first | (with_reducible first | exact HB.out | apply below_alloc | apply pw_below_drewN | apply below_drew1 | refine below_set ?_ GE178.out) | exact HB.out)⟩
    ·rw [if_neg c8] at H
     have c8b0 : (a0_1 == 0) = false := beq_eq_false_iff_ne.mpr c8
     have c8b1 : (a0_1 != 0) = true := bne_iff_ne.mpr c8
     obtain rfl := Option.some.inj H
     go_enter Try.func51, Try.ntmps51
     go_wp2_with (first | ((with_reducible refine gate_dst (N := 1) rfl ?_); (try (refine gate_guard (by rfl) ?_; dsimp only)); refine box_event ?hg (N := 1) ?hd (cs := #[.slice A0_0 l0_0.length c0_0, .int .i64 a0_1]) (t := 50) ?hr ?_; (case hd => rfl); (case hg => rfl); (case hr => first | (go_simp; done) | (go_simp; rfl)); intro gb178 hg w11 hbox hb; have BK178 := am (hbox); have GW178 := am ((by rw [hg]; exact (below_size (bl HB.out)) : w.heap.size ≤ gb178)); have GE178 := GW178; replace HB := am (below_step (bl HB.out) hb); clear hb hbox hg; have hcz12_0 : w11.cell? ⟨gb178, 0, none⟩ = some (.slice A0_0 l0_0.length c0_0) := bc BK178.out 0; have hcz12_1 : w11.cell? ⟨gb178, 1, none⟩ = some (.int .i64 a0_1) := bc BK178.out 1) | ((with_reducible refine gate_callee (f := 73) rfl ?_); refine gl (some 5) Try.func73 #[.slice A0_0 l0_0.length c0_0, .int .i64 10] ?_; (with_reducible refine (spec_l04Items.calls k _ _ l0_0 10 true _ ?side1 ?side2 A2.out).mono ?_); (case side1 => repeat (first | exact (Kd.C_below HR0_0.out HB.out) | (with_reducible refine Kd.C_alloc ?_ _) | (with_reducible refine Kd.C_drewN ?_ _) | (with_reducible refine Kd.C_drew ?_))); (case side2 => exact HC0_0.out); rintro e w' ⟨rfl, ⟨nd, rfl⟩⟩; refine ⟨_, rfl, ?_⟩))
     go_ret
     exact ⟨by first | rfl | (simp [errW_none, errW_some] <;> rfl) | (simp [*, errW_none, errW_some] <;> rfl), by repeat (first | (with_reducible first | exact HB.out | apply below_alloc | apply pw_below_drewN | apply below_drew1 | refine below_set ?_ GE178.out) | exact HB.out)⟩
  ·rw [if_neg c4] at H
   have c4b0 : decide (0 ≤ a0_1) = false := decide_eq_false c4
   clear c4
   obtain rfl := Option.some.inj H
   go_enter Try.func51, Try.ntmps51
   go_wp2_with (first | ((with_reducible refine gate_dst (N := 1) rfl ?_); (try (refine gate_guard (by rfl) ?_; dsimp only)); refine box_event ?hg (N := 1) ?hd (cs := #[.slice A0_0 l0_0.length c0_0, .int .i64 a0_1]) (t := 50) ?hr ?_; (case hd => rfl); (case hg => rfl); (case hr => first | (go_simp; done) | (go_simp; rfl)); intro gb178 hg w13 hbox hb; have BK178 := am (hbox); have GW178 := am ((by rw [hg]; exact (below_size (bl HB.out)) : w.heap.size ≤ gb178)); have GE178 := GW178; replace HB := am (below_step (bl HB.out) hb); clear hb hbox hg; have hcz14_0 : w13.cell? ⟨gb178, 0, none⟩ = some (.slice A0_0 l0_0.length c0_0) := bc BK178.out 0; have hcz14_1 : w13.cell? ⟨gb178, 1, none⟩ = some (.int .i64 a0_1) := bc BK178.out 1) | ((with_reducible refine gate_callee (f := 73) rfl ?_); refine gl (some 5) Try.func73 #[.slice A0_0 l0_0.length c0_0, .int .i64 10] ?_; (with_reducible refine (spec_l04Items.calls k _ _ l0_0 10 true _ ?side1 ?side2 A2.out).mono ?_); (case side1 => repeat (first | exact (Kd.C_below HR0_0.out HB.out) | (with_reducible refine Kd.C_alloc ?_ _) | (with_reducible refine Kd.C_drewN ?_ _) | (with_reducible refine Kd.C_drew ?_))); (case side2 => exact HC0_0.out); rintro e w' ⟨rfl, ⟨nd, rfl⟩⟩; refine ⟨_, rfl, ?_⟩))
   go_ret
   exact ⟨by first | rfl | (simp [errW_none, errW_some] <;> rfl) | (simp [*, errW_none, errW_some] <;> rfl), by repeat (first | (with_reducible first | exact HB.out | apply below_alloc | apply pw_below_drewN | apply below_drew1 | refine below_set ?_ GE178.out) | exact HB.out)⟩
 ·replace c3 := Bool.eq_false_iff.mpr c3
  subst c3
  have H1 : (some false) = some r := by rw [if_neg (show ¬ (false = true) by decide)] at H; exact H
  clear H
  have H := H1
  clear H1
  obtain rfl := Option.some.inj H
  go_enter Try.func51, Try.ntmps51
  go_wp2_with (first | ((with_reducible refine gate_dst (N := 1) rfl ?_); (try (refine gate_guard (by rfl) ?_; dsimp only)); refine box_event ?hg (N := 1) ?hd (cs := #[.slice A0_0 l0_0.length c0_0, .int .i64 a0_1]) (t := 50) ?hr ?_; (case hd => rfl); (case hg => rfl); (case hr => first | (go_simp; done) | (go_simp; rfl)); intro gb178 hg w15 hbox hb; have BK178 := am (hbox); have GW178 := am ((by rw [hg]; exact (below_size (bl HB.out)) : w.heap.size ≤ gb178)); have GE178 := GW178; replace HB := am (below_step (bl HB.out) hb); clear hb hbox hg; have hcz16_0 : w15.cell? ⟨gb178, 0, none⟩ = some (.slice A0_0 l0_0.length c0_0) := bc BK178.out 0; have hcz16_1 : w15.cell? ⟨gb178, 1, none⟩ = some (.int .i64 a0_1) := bc BK178.out 1) | ((with_reducible refine gate_callee (f := 73) rfl ?_); refine gl (some 5) Try.func73 #[.slice A0_0 l0_0.length c0_0, .int .i64 10] ?_; (with_reducible refine (spec_l04Items.calls k _ _ l0_0 10 false _ ?side1 ?side2 A2.out).mono ?_); (case side1 => repeat (first | exact (Kd.C_below HR0_0.out HB.out) | (with_reducible refine Kd.C_alloc ?_ _) | (with_reducible refine Kd.C_drewN ?_ _) | (with_reducible refine Kd.C_drew ?_))); (case side2 => exact HC0_0.out); rintro e w' ⟨rfl, ⟨nd, rfl⟩⟩; refine ⟨_, rfl, ?_⟩))
  go_ret
  exact ⟨by first | rfl | (simp [errW_none, errW_some] <;> rfl) | (simp [*, errW_none, errW_some] <;> rfl), by repeat (first | (with_reducible first | exact HB.out | apply below_alloc | apply pw_below_drewN | apply below_drew1 | refine below_set ?_ GE178.out) | exact HB.out)⟩

/-! ### spec_RingTop: function 52 -/
def spec_RingTop.f (k : Nat) (l0_0 : List (List Int)) (a0_1 : Int) : Option (List Int) := (spec_RingRight.f k l0_0 a0_1).bind fun t181 => (if t181 = true then (if (l0_0.length : Int) = 0 then (some (([] : List Int))) else (if 0 ≤ a0_1 then (if a0_1 < (l0_0.length : Int) then ((spec_l01Copy.f (rd_L1 l0_0 a0_1)).bind fun t186 => (some t186)) else (none)) else (none))) else (some (([] : List Int))))
theorem spec_RingTop.mono : ∀ a0 a1 k, LeO (spec_RingTop.f k a0 a1) (spec_RingTop.f (k + 1) a0 a1) := by
 intro a0 a1 k
 unfold spec_RingTop.f
 repeat' first
   | (with_reducible exact spec_RingRight.mono _ _ _)
   | (with_reducible exact LeO.refl _)
   | (with_reducible exact LeO.none _)
   | (with_reducible refine LeO.ite ?_ ?_)
   | (with_reducible refine LeO.bind ?_ (fun _ => ?_))
   | exact spec_RingRight.mono _ _ _
   | exact LeO.none _
   | refine LeO.ite ?_ ?_
   | refine LeO.bind ?_ (fun _ => ?_)
set_option maxHeartbeats 8000000 in
set_option maxRecDepth 100000 in
theorem spec_RingTop.calls (k : Nat) (A0_0 : Option Addr) (c0_0 : Nat) (l0_0 : List (List Int)) (a0_1 : Int) (r : List Int) (w : World) (hr0_0 : Kd.C (Kd.slice 2 (Kd.int .i64)) w A0_0 l0_0.length l0_0) (hc0_0 : l0_0.length ≤ c0_0) (h : spec_RingTop.f k l0_0 a0_1 = some r) :
  Calls Try.prog 52 #[.agg #[.slice A0_0 l0_0.length c0_0, .int .i64 a0_1]] w fun e w' => ∃ v0_ : Value, e = .returned (v0_) ∧ Kd.R (Kd.int .i64) 2 w' w.heap.size (fun _ => True) v0_ r ∧ Below w.heap.size w w' := by
 have hu50 := Try.underlying50
 have HR0_0 := am hr0_0
 have HC0_0 := am hc0_0
 clear hr0_0 hc0_0
 have HB := am (Below.refl w.heap.size w)
 have H : ((spec_RingRight.f k l0_0 a0_1).bind fun t181 => (if t181 = true then (if (l0_0.length : Int) = 0 then (some (([] : List Int))) else (if 0 ≤ a0_1 then (if a0_1 < (l0_0.length : Int) then ((spec_l01Copy.f (rd_L1 l0_0 a0_1)).bind fun t186 => (some t186)) else (none)) else (none))) else (some (([] : List Int))))) = some r := h
 clear h
 replace H := Option.bind_eq_some_iff.mp H
 obtain ⟨t181, A20, H⟩ := H
 replace H : (if t181 = true then (if (l0_0.length : Int) = 0 then (some (([] : List Int))) else (if 0 ≤ a0_1 then (if a0_1 < (l0_0.length : Int) then ((spec_l01Copy.f (rd_L1 l0_0 a0_1)).bind fun t186 => (some t186)) else (none)) else (none))) else (some (([] : List Int)))) = some r := H
 have A2 := Aside0.mk A20
 clear A20
 by_cases c3 : t181 = true
 ·subst c3
  have H1 : (if (l0_0.length : Int) = 0 then (some (([] : List Int))) else (if 0 ≤ a0_1 then (if a0_1 < (l0_0.length : Int) then ((spec_l01Copy.f (rd_L1 l0_0 a0_1)).bind fun t186 => (some t186)) else (none)) else (none))) = some r := by rw [if_pos rfl] at H; exact H
  clear H
  have H := H1
  clear H1
  by_cases c4 : (l0_0.length : Int) = 0
  ·rw [if_pos c4] at H
   have c4b0 : ((l0_0.length : Int) == 0) = true := beq_iff_eq.mpr c4
   have c4b1 : ((l0_0.length : Int) != 0) = false := bne_eq_false_iff_eq.mpr c4
   clear c4
   obtain ⟨y182, hy182⟩ : ∃ y_ : List Int, y_ = (([] : List Int)) := ⟨_, rfl⟩
   replace H : (some y182) = some r := by first | (rw [hy182]; with_reducible exact H) | (have H2_ := (Option.bind_some _ _).symm.trans H; rw [hy182]; with_reducible exact H2_) | (have H2_ := (Option.bind_some _ _).symm.trans H; with_reducible exact H2_) | with_reducible exact H | (rw [hy182]; exact H) | exact H
   have Ny182 := am hy182
   clear hy182
   obtain rfl := Option.some.inj H
   go_enter Try.func52, Try.ntmps52
   go_wp2_with (first | ((with_reducible refine gate_dst (N := 1) rfl ?_); (try (refine gate_guard (by rfl) ?_; dsimp only)); refine box_event ?hg (N := 1) ?hd (cs := #[.slice A0_0 l0_0.length c0_0, .int .i64 a0_1]) (t := 50) ?hr ?_; (case hd => rfl); (case hg => rfl); (case hr => first | (go_simp; done) | (go_simp; rfl)); intro gb180 hg w5 hbox hb; have BK180 := am (hbox); have GW180 := am ((by rw [hg]; exact (below_size (bl HB.out)) : w.heap.size ≤ gb180)); have GE180 := GW180; replace HB := am (below_step (bl HB.out) hb); clear hb hbox hg; have hcz6_0 : w5.cell? ⟨gb180, 0, none⟩ = some (.slice A0_0 l0_0.length c0_0) := bc BK180.out 0; have hcz6_1 : w5.cell? ⟨gb180, 1, none⟩ = some (.int .i64 a0_1) := bc BK180.out 1) | ((with_reducible refine gate_callee (f := 51) rfl ?_); refine gl (some 4) Try.func51 #[.agg #[.slice A0_0 l0_0.length c0_0, .int .i64 a0_1]] ?_; (with_reducible refine (spec_RingRight.calls k _ _ l0_0 a0_1 true _ ?side1 ?side2 A2.out).mono ?_); (case side1 => repeat (first | exact (Kd.C_below HR0_0.out HB.out) | (with_reducible refine Kd.C_alloc ?_ _) | (with_reducible refine Kd.C_drewN ?_ _) | (with_reducible refine Kd.C_drew ?_))); (case side2 => exact HC0_0.out); rintro e w7 ⟨rfl, hb⟩; refine ⟨_, rfl, ?_⟩; replace BK180 := am (blk_below (pk BK180.out) hb); replace HB := am (below_step (bl HB.out) hb); (try clear hb); (try clear hb2); (try clear hk); (try clear hi); have hcz8_0 : w7.cell? ⟨gb180, 0, none⟩ = some (.slice A0_0 l0_0.length c0_0) := bc BK180.out 0; have hcz8_1 : w7.cell? ⟨gb180, 1, none⟩ = some (.int .i64 a0_1) := bc BK180.out 1) | ((with_reducible refine gate_dst (N := 12) rfl ?_); (try (refine gate_guard (by rfl) ?_; dsimp only)); refine Kd.R_lit (Kd.int .i64) _ 2 ?hg (N := 12) ?hd (xs := ([] : List Int)) (inner := []) (ok := fun _ => True) (okp := fun _ => True) ?hr ?hp (fun _ hk => hk) trivial (Below.refl _ _) (Nat.le_refl _) (by simp) ?_; (case hd => rfl); (case hg => rfl); (case hr => first | (go_simp; done) | (go_simp; rfl)); (case hp => exact (Reps.none _ _)); intro v183 w9 ho10 hb hg_ hnew_; clear hg_ hnew_; (first | rw [← Ny182.out] at ho10 | (simp only [Int.reduceToNat] at ho10; rw [← Ny182.out] at ho10)); have HO184 := am (Kd.R_lower ho10 (below_size (bl HB.out))); replace BK180 := am (blk_below (pk BK180.out) hb); replace HB := am (below_step (bl HB.out) hb); clear hb ho10))
   go_ret
   exact ⟨_, by first | rfl | (simp [errW_none, errW_some] <;> rfl) | (simp [*, errW_none, errW_some] <;> rfl), kr HO184.out, by repeat (first | (with_reducible first | exact HB.out | apply below_alloc | apply pw_below_drewN | apply below_drew1 | refine below_set ?_ GE180.out) | exact HB.out)⟩
  ·rw [if_neg c4] at H
   have c4b0 : ((l0_0.length : Int) == 0) = false := beq_eq_false_iff_ne.mpr c4
   have c4b1 : ((l0_0.length : Int) != 0) = true := bne_iff_ne.mpr c4
   have c4b2 : ¬ (l0_0 = []) := fun h_ => c4 (by rw [h_]; rfl)
   by_cases c11 : 0 ≤ a0_1
   ·rw [if_pos c11] at H
    have c11b0 : decide (0 ≤ a0_1) = true := decide_eq_true c11
    clear c11
    by_cases c12 : a0_1 < (l0_0.length : Int)
    ·rw [if_pos c12] at H
     have c12b0 : decide (a0_1 < (l0_0.length : Int)) = true := decide_eq_true c12
     clear c12
     replace H := Option.bind_eq_some_iff.mp H
     obtain ⟨t186, A130, H⟩ := H
     replace H : (some t186) = some r := H
     have A13 := Aside0.mk A130
     clear A130
     obtain rfl := Option.some.inj H
     go_enter Try.func52, Try.ntmps52
     go_wp2_with (first | ((with_reducible refine gate_dst (N := 1) rfl ?_); (try (refine gate_guard (by rfl) ?_; dsimp only)); refine box_event ?hg (N := 1) ?hd (cs := #[.slice A0_0 l0_0.length c0_0, .int .i64 a0_1]) (t := 50) ?hr ?_; (case hd => rfl); (case hg => rfl); (case hr => first | (go_simp; done) | (go_simp; rfl)); intro gb180 hg w14 hbox hb; have BK180 := am (hbox); have GW180 := am ((by rw [hg]; exact (below_size (bl HB.out)) : w.heap.size ≤ gb180)); have GE180 := GW180; replace HB := am (below_step (bl HB.out) hb); clear hb hbox hg; have hcz15_0 : w14.cell? ⟨gb180, 0, none⟩ = some (.slice A0_0 l0_0.length c0_0) := bc BK180.out 0; have hcz15_1 : w14.cell? ⟨gb180, 1, none⟩ = some (.int .i64 a0_1) := bc BK180.out 1) | ((with_reducible refine gate_callee (f := 51) rfl ?_); refine gl (some 4) Try.func51 #[.agg #[.slice A0_0 l0_0.length c0_0, .int .i64 a0_1]] ?_; (with_reducible refine (spec_RingRight.calls k _ _ l0_0 a0_1 true _ ?side1 ?side2 A2.out).mono ?_); (case side1 => repeat (first | exact (Kd.C_below HR0_0.out HB.out) | (with_reducible refine Kd.C_alloc ?_ _) | (with_reducible refine Kd.C_drewN ?_ _) | (with_reducible refine Kd.C_drew ?_))); (case side2 => exact HC0_0.out); rintro e w16 ⟨rfl, hb⟩; refine ⟨_, rfl, ?_⟩; replace BK180 := am (blk_below (pk BK180.out) hb); replace HB := am (below_step (bl HB.out) hb); (try clear hb); (try clear hb2); (try clear hk); (try clear hi); have hcz17_0 : w16.cell? ⟨gb180, 0, none⟩ = some (.slice A0_0 l0_0.length c0_0) := bc BK180.out 0; have hcz17_1 : w16.cell? ⟨gb180, 1, none⟩ = some (.int .i64 a0_1) := bc BK180.out 1; have p185 : 0 ≤ (a0_1 : Int) := of_decide_eq_true (by first | (with_reducible assumption) | assumption); have q185 : a0_1 < (l0_0.length : Int) := of_decide_eq_true (by first | (with_reducible assumption) | assumption); obtain ⟨ad185, A185_0, c185_0, e185, hx185_0, hl185_0, hi185_0⟩ := at_L1 HR0_0.out a0_1 p185 q185; cases e185; have hxw185_0 := hx185_0; replace hx185_0 := (HB.out.cell (World.block_lt_of_cell? w _ hx185_0)).trans hx185_0; have HR185_0 := am hi185_0; have HC185_0 := am hl185_0; clear hi185_0 hl185_0; replace p185 := eq_true p185; replace q185 := eq_true q185) | ((with_reducible refine gate_callee (f := 44) rfl ?_); refine gl (some 19) Try.func44 #[.slice A185_0 (rd_L1 l0_0 a0_1).length c185_0] ?_; (with_reducible refine (spec_l01Copy.calls _ _ (rd_L1 l0_0 a0_1) t186 _ ?side1 ?side2 A13.out).mono ?_); (case side1 => repeat (first | exact (Kd.C_below HR185_0.out HB.out) | (with_reducible refine Kd.C_alloc ?_ _) | (with_reducible refine Kd.C_drewN ?_ _) | (with_reducible refine Kd.C_drew ?_))); (case side2 => exact HC185_0.out); rintro e w18 ⟨v187, rfl, ho0, hb⟩; refine ⟨_, rfl, ?_⟩; have HO188 := am (Kd.R_lower ho0 (below_size (bl HB.out))); replace BK180 := am (blk_below (pk BK180.out) hb); replace HB := am (below_step (bl HB.out) hb); (try clear hb); (try clear hb2); (try clear hk); (try clear hi); (try clear ho0)))
     go_ret
     exact ⟨_, by first | rfl | (simp [errW_none, errW_some] <;> rfl) | (simp [*, errW_none, errW_some] <;> rfl), kr HO188.out, by repeat (first | (with_reducible first | exact HB.out | apply below_alloc | apply pw_below_drewN | apply below_drew1 | refine below_set ?_ GE180.out) | exact HB.out)⟩
    ·rw [if_neg c12] at H
     exact absurd H (by simp)
   ·rw [if_neg c11] at H
    exact absurd H (by simp)
 ·replace c3 := Bool.eq_false_iff.mpr c3
  subst c3
  have H1 : (some (([] : List Int))) = some r := by rw [if_neg (show ¬ (false = true) by decide)] at H; exact H
  clear H
  have H := H1
  clear H1
  obtain ⟨y189, hy189⟩ : ∃ y_ : List Int, y_ = (([] : List Int)) := ⟨_, rfl⟩
  replace H : (some y189) = some r := by first | (rw [hy189]; with_reducible exact H) | (have H2_ := (Option.bind_some _ _).symm.trans H; rw [hy189]; with_reducible exact H2_) | (have H2_ := (Option.bind_some _ _).symm.trans H; with_reducible exact H2_) | with_reducible exact H | (rw [hy189]; exact H) | exact H
  have Ny189 := am hy189
  clear hy189
  obtain rfl := Option.some.inj H
  go_enter Try.func52, Try.ntmps52
  go_wp2_with (first | ((with_reducible refine gate_dst (N := 1) rfl ?_); (try (refine gate_guard (by rfl) ?_; dsimp only)); refine box_event ?hg (N := 1) ?hd (cs := #[.slice A0_0 l0_0.length c0_0, .int .i64 a0_1]) (t := 50) ?hr ?_; (case hd => rfl); (case hg => rfl); (case hr => first | (go_simp; done) | (go_simp; rfl)); intro gb180 hg w19 hbox hb; have BK180 := am (hbox); have GW180 := am ((by rw [hg]; exact (below_size (bl HB.out)) : w.heap.size ≤ gb180)); have GE180 := GW180; replace HB := am (below_step (bl HB.out) hb); clear hb hbox hg; have hcz20_0 : w19.cell? ⟨gb180, 0, none⟩ = some (.slice A0_0 l0_0.length c0_0) := bc BK180.out 0; have hcz20_1 : w19.cell? ⟨gb180, 1, none⟩ = some (.int .i64 a0_1) := bc BK180.out 1) | ((with_reducible refine gate_callee (f := 51) rfl ?_); refine gl (some 4) Try.func51 #[.agg #[.slice A0_0 l0_0.length c0_0, .int .i64 a0_1]] ?_; (with_reducible refine (spec_RingRight.calls k _ _ l0_0 a0_1 false _ ?side1 ?side2 A2.out).mono ?_); (case side1 => repeat (first | exact (Kd.C_below HR0_0.out HB.out) | (with_reducible refine Kd.C_alloc ?_ _) | (with_reducible refine Kd.C_drewN ?_ _) | (with_reducible refine Kd.C_drew ?_))); (case side2 => exact HC0_0.out); rintro e w21 ⟨rfl, hb⟩; refine ⟨_, rfl, ?_⟩; replace BK180 := am (blk_below (pk BK180.out) hb); replace HB := am (below_step (bl HB.out) hb); (try clear hb); (try clear hb2); (try clear hk); (try clear hi)) | ((with_reducible refine gate_dst (N := 12) rfl ?_); (try (refine gate_guard (by rfl) ?_; dsimp only)); refine Kd.R_lit (Kd.int .i64) _ 2 ?hg (N := 12) ?hd (xs := ([] : List Int)) (inner := []) (ok := fun _ => True) (okp := fun _ => True) ?hr ?hp (fun _ hk => hk) trivial (Below.refl _ _) (Nat.le_refl _) (by simp) ?_; (case hd => rfl); (case hg => rfl); (case hr => first | (go_simp; done) | (go_simp; rfl)); (case hp => exact (Reps.none _ _)); intro v190 w22 ho23 hb hg_ hnew_; clear hg_ hnew_; (first | rw [← Ny189.out] at ho23 | (simp only [Int.reduceToNat] at ho23; rw [← Ny189.out] at ho23)); have HO191 := am (Kd.R_lower ho23 (below_size (bl HB.out))); replace BK180 := am (blk_below (pk BK180.out) hb); replace HB := am (below_step (bl HB.out) hb); clear hb ho23))
  go_ret
  exact ⟨_, by first | rfl | (simp [errW_none, errW_some] <;> rfl) | (simp [*, errW_none, errW_some] <;> rfl), kr HO191.out, by repeat (first | (with_reducible first | exact HB.out | apply below_alloc | apply pw_below_drewN | apply below_drew1 | refine below_set ?_ GE180.out) | exact HB.out)⟩

/-! ### spec_RingYank: function 26 -/
def spec_RingYank.j0 : Nat → Bool → List (List Int) → Int → List Int → Int → Int → Option (List Int × Int × Int × Int × Int × Int)
 | 0, _, _, _, _, _, _ => none
 | k + 1, x14, x193000, x193001, x194000, x194001, x194002 => if x14 = true then (some (([] : List Int), 0, 0, 0, 0, 1)) else (if (x193000.length : Int) = 0 then (some (([] : List Int), 0, 0, 0, 0, 4)) else ((spec_RingTop.f k x193000 x193001).bind fun t197 => ((spec_BufInsert.f k x194000 x194001 x194002 t197).bind fun bt200 => (if bt200.2.2.2.2 = 0 then (some (bt200.1, bt200.2.1, bt200.2.2.1, x194001, wrap64 (x194001 + (t197.length : Int)), 0)) else (some (([] : List Int), 0, 0, 0, 0, bt200.2.2.2.2))))))
def spec_RingYank.f (k : Nat) (l0_0 : List (List Int)) (a0_1 : Int) (l1_0 : List Int) (a1_1 : Int) (a1_2 : Int) : Option (List Int × Int × Int × Int × Int × Int) := (spec_RingRight.f k l0_0 a0_1).bind fun t195 => (if t195 = true then ((spec_BufRight.f k l1_0 a1_1 a1_2).bind fun t196 => (spec_RingYank.j0 k (!t196) l0_0 a0_1 l1_0 a1_1 a1_2)) else (spec_RingYank.j0 k true l0_0 a0_1 l1_0 a1_1 a1_2))
theorem spec_RingYank.mono_l : ∀ k, (∀ y0 y1 y2 y3 y4 y5, LeO (spec_RingYank.j0 k y0 y1 y2 y3 y4 y5) (spec_RingYank.j0 (k + 1) y0 y1 y2 y3 y4 y5))
 | 0 => fun _ _ _ _ _ _ r h => by simp [spec_RingYank.j0] at h
 | k + 1 => by
  have ih0 := spec_RingYank.mono_l k
  ·intro y0 y1 y2 y3 y4 y5
   unfold spec_RingYank.j0
   repeat' first
   | (with_reducible exact ih0 _ _ _ _ _ _)
   | (with_reducible exact spec_BufInsert.mono _ _ _ _ _)
   | (with_reducible exact spec_BufRight.mono _ _ _ _)
   | (with_reducible exact spec_RingRight.mono _ _ _)
   | (with_reducible exact spec_RingTop.mono _ _ _)
   | (with_reducible exact LeO.refl _)
   | (with_reducible exact LeO.none _)
   | (with_reducible refine LeO.ite ?_ ?_)
   | (with_reducible refine LeO.bind ?_ (fun _ => ?_))
   | exact ih0 _ _ _ _ _ _
   | exact spec_BufInsert.mono _ _ _ _ _
   | exact spec_BufRight.mono _ _ _ _
   | exact spec_RingRight.mono _ _ _
   | exact spec_RingTop.mono _ _ _
   | exact LeO.none _
   | refine LeO.ite ?_ ?_
   | refine LeO.bind ?_ (fun _ => ?_)
theorem spec_RingYank.mono : ∀ a0 a1 a2 a3 a4 k, LeO (spec_RingYank.f k a0 a1 a2 a3 a4) (spec_RingYank.f (k + 1) a0 a1 a2 a3 a4) := by
 intro a0 a1 a2 a3 a4 k
 have ih0 := spec_RingYank.mono_l k
 unfold spec_RingYank.f
 repeat' first
   | (with_reducible exact ih0 _ _ _ _ _ _)
   | (with_reducible exact spec_BufInsert.mono _ _ _ _ _)
   | (with_reducible exact spec_BufRight.mono _ _ _ _)
   | (with_reducible exact spec_RingRight.mono _ _ _)
   | (with_reducible exact spec_RingTop.mono _ _ _)
   | (with_reducible exact LeO.refl _)
   | (with_reducible exact LeO.none _)
   | (with_reducible refine LeO.ite ?_ ?_)
   | (with_reducible refine LeO.bind ?_ (fun _ => ?_))
   | exact ih0 _ _ _ _ _ _
   | exact spec_BufInsert.mono _ _ _ _ _
   | exact spec_BufRight.mono _ _ _ _
   | exact spec_RingRight.mono _ _ _
   | exact spec_RingTop.mono _ _ _
   | exact LeO.none _
   | refine LeO.ite ?_ ?_
   | refine LeO.bind ?_ (fun _ => ?_)
set_option maxHeartbeats 8000000 in
set_option maxRecDepth 100000 in
theorem spec_RingYank.calls (k : Nat) (A0_0 : Option Addr) (c0_0 : Nat) (l0_0 : List (List Int)) (a0_1 : Int) (A1_0 : Option Addr) (c1_0 : Nat) (l1_0 : List Int) (a1_1 : Int) (a1_2 : Int) (r1 : List Int) (r2 : Int) (r3 : Int) (r4 : Int) (r5 : Int) (r6 : Int) (w : World) (hr0_0 : Kd.C (Kd.slice 2 (Kd.int .i64)) w A0_0 l0_0.length l0_0) (hc0_0 : l0_0.length ≤ c0_0) (hr1_0 : Kd.C (Kd.int .i64) w A1_0 l1_0.length l1_0) (hc1_0 : l1_0.length ≤ c1_0) (h : spec_RingYank.f k l0_0 a0_1 l1_0 a1_1 a1_2 = some (r1, r2, r3, r4, r5, r6)) :
  Calls Try.prog 26 #[.agg #[.slice A0_0 l0_0.length c0_0, .int .i64 a0_1], .agg #[.slice A1_0 l1_0.length c1_0, .int .i64 a1_1, .int .i64 a1_2]] w fun e w' => ∃ v0_ : Value, e = .returned (.agg #[v0_, .int .i64 r2, .int .i64 r3, .int .i64 r4, .int .i64 r5, .int .i64 r6]) ∧ Kd.R (Kd.int .i64) 2 w' w.heap.size (fun _ => True) v0_ r1 ∧ Below w.heap.size w w' := by
 have hu50 := Try.underlying50
 have hu26 := Try.underlying26
 have hu48 := Try.underlying48
 have hu28 := Try.underlying28
 have HR0_0 := am hr0_0
 have HC0_0 := am hc0_0
 clear hr0_0 hc0_0
 have HR1_0 := am hr1_0
 have HC1_0 := am hc1_0
 clear hr1_0 hc1_0
 have HB := am (Below.refl w.heap.size w)
 have H : ((spec_RingRight.f k l0_0 a0_1).bind fun t195 => (if t195 = true then ((spec_BufRight.f k l1_0 a1_1 a1_2).bind fun t196 => (spec_RingYank.j0 k (!t196) l0_0 a0_1 l1_0 a1_1 a1_2)) else (spec_RingYank.j0 k true l0_0 a0_1 l1_0 a1_1 a1_2))) = some (r1, r2, r3, r4, r5, r6) := h
 clear h
 have HC3 := Aside0.mk H
 clear H
 go_enter Try.func26, Try.ntmps26
 go_upto_region 1 with (first | ((with_reducible refine gate_dst (N := 2) rfl ?_); refine box_event ?hg (N := 2) ?hd (cs := #[.slice A0_0 l0_0.length c0_0, .int .i64 a0_1]) (t := 50) ?hr ?_; (case hd => rfl); (case hg => rfl); (case hr => first | (go_simp; done) | (go_simp; rfl)); intro gb192 hg w4 hbox hb; have BK192 := am (hbox); have GW192 := am ((by rw [hg]; exact (below_size (bl HB.out)) : w.heap.size ≤ gb192)); have GE192 := GW192; replace HB := am (below_step (bl HB.out) hb); clear hb hbox hg) | ((with_reducible refine gate_dst (N := 3) rfl ?_); refine box_event ?hg (N := 3) ?hd (cs := #[.slice A1_0 l1_0.length c1_0, .int .i64 a1_1, .int .i64 a1_2]) (t := 26) ?hr ?_; (case hd => rfl); (case hg => rfl); (case hr => first | (go_simp; done) | (go_simp; rfl)); intro gb193 hg w5 hbox hb; have BK193 := am (hbox); have GW193 := am ((by rw [hg]; exact (below_size (bl HB.out)) : w.heap.size ≤ gb193)); have GE193 := GW193; replace HB := am (below_step (bl HB.out) hb); have NB192_193 := am ((by rw [hg]; exact Nat.ne_of_lt (blk_lt (pk BK192.out)) : gb192 ≠ gb193)); have NB193_192 := am ((by rw [hg]; exact Nat.ne_of_gt (blk_lt (pk BK192.out)) : gb193 ≠ gb192)); replace BK192 := am (blk_below (pk BK192.out) hb); clear hb hbox hg) | ((with_reducible refine gate_dst (N := 4) rfl ?_); refine box_event ?hg (N := 4) ?hd (cs := #[.slice none 0 0, .int .i64 0, .int .i64 0, .int .i64 0, .int .i64 0, .int .i64 0]) (t := 48) ?hr ?_; (case hd => rfl); (case hg => rfl); (case hr => first | (go_simp; done) | (go_simp; rfl)); intro gb194 hg w6 hbox hb; have BK194 := am (hbox); have GW194 := am ((by rw [hg]; exact (below_size (bl HB.out)) : w.heap.size ≤ gb194)); have GE194 := GW194; replace HB := am (below_step (bl HB.out) hb); have NB192_194 := am ((by rw [hg]; exact Nat.ne_of_lt (blk_lt (pk BK192.out)) : gb192 ≠ gb194)); have NB194_192 := am ((by rw [hg]; exact Nat.ne_of_gt (blk_lt (pk BK192.out)) : gb194 ≠ gb192)); replace BK192 := am (blk_below (pk BK192.out) hb); have NB193_194 := am ((by rw [hg]; exact Nat.ne_of_lt (blk_lt (pk BK193.out)) : gb193 ≠ gb194)); have NB194_193 := am ((by rw [hg]; exact Nat.ne_of_gt (blk_lt (pk BK193.out)) : gb194 ≠ gb193)); replace BK193 := am (blk_below (pk BK193.out) hb); clear hb hbox hg))
 (try simp only [Act.put, sa_, s0_, ss_])
 go_cut [14] (fun v14 wc => ∃ (kq : Nat) (x14_2 : Bool), v14 = .bool x14_2 ∧ Aside0 (spec_RingYank.j0 kq x14_2 l0_0 a0_1 l1_0 a1_1 a1_2 = some (r1, r2, r3, r4, r5, r6)) ∧ Aside0 (kq ≤ k) ∧ Aside0 (wc.heap[gb192]? = some (.cells #[(.slice A0_0 l0_0.length c0_0), .int .i64 a0_1] 50 (0, 0))) ∧ Aside0 (wc.heap[gb193]? = some (.cells #[(.slice A1_0 l1_0.length c1_0), .int .i64 a1_1, .int .i64 a1_2] 26 (0, 0))) ∧ Aside0 (wc.heap[gb194]? = some (.cells #[(.slice none 0 0), .int .i64 0, .int .i64 0, .int .i64 0, .int .i64 0, .int .i64 0] 48 (0, 0))) ∧ Aside0 (Below w.heap.size w wc))
 case first =>
  have H := HC3.out
  clear HC3
  replace H := Option.bind_eq_some_iff.mp H
  obtain ⟨t195, A70, H⟩ := H
  replace H : (if t195 = true then ((spec_BufRight.f k l1_0 a1_1 a1_2).bind fun t196 => (spec_RingYank.j0 k (!t196) l0_0 a0_1 l1_0 a1_1 a1_2)) else (spec_RingYank.j0 k true l0_0 a0_1 l1_0 a1_1 a1_2)) = some (r1, r2, r3, r4, r5, r6) := H
  have A7 := Aside0.mk A70
  clear A70
  by_cases c8 : t195 = true
  ·subst c8
   have H1 : ((spec_BufRight.f k l1_0 a1_1 a1_2).bind fun t196 => (spec_RingYank.j0 k (!t196) l0_0 a0_1 l1_0 a1_1 a1_2)) = some (r1, r2, r3, r4, r5, r6) := by rw [if_pos rfl] at H; exact H
   clear H
   have H := H1
   clear H1
   replace H := Option.bind_eq_some_iff.mp H
   obtain ⟨t196, A90, H⟩ := H
   replace H : (spec_RingYank.j0 k (!t196) l0_0 a0_1 l1_0 a1_1 a1_2) = some (r1, r2, r3, r4, r5, r6) := H
   have A9 := Aside0.mk A90
   clear A90
   have H' := Aside0.mk H
   clear H
   have hnb10 := NB192_193.out
   have hnc10 := NB193_192.out
   have hnb11 := NB192_194.out
   have hnc11 := NB194_192.out
   have hcz12_0 : w6.cell? ⟨gb192, 0, none⟩ = some (.slice A0_0 l0_0.length c0_0) := bc BK192.out 0
   have hcz12_1 : w6.cell? ⟨gb192, 1, none⟩ = some (.int .i64 a0_1) := bc BK192.out 1
   have hfz12_0 := blk_frozen BK192.out 0
   have hfz12_1 := blk_frozen BK192.out 1
   go_wp2_with (first | ((with_reducible refine gate_callee (f := 51) rfl ?_); refine gl (some 8) Try.func51 #[.agg #[.slice A0_0 l0_0.length c0_0, .int .i64 a0_1]] ?_; (with_reducible refine (spec_RingRight.calls k _ _ l0_0 a0_1 true _ ?side1 ?side2 A7.out).mono ?_); (case side1 => repeat (first | exact (Kd.C_below HR0_0.out HB.out) | (with_reducible refine Kd.C_alloc ?_ _) | (with_reducible refine Kd.C_drewN ?_ _) | (with_reducible refine Kd.C_drew ?_))); (case side2 => exact HC0_0.out); rintro e w13 ⟨rfl, hb⟩; refine ⟨_, rfl, ?_⟩; replace BK192 := am (blk_below (pk BK192.out) hb); replace BK193 := am (blk_below (pk BK193.out) hb); replace BK194 := am (blk_below (pk BK194.out) hb); replace HB := am (below_step (bl HB.out) hb); (try clear hb); (try clear hb2); (try clear hk); (try clear hi); have hnb14 := NB193_194.out; have hnc14 := NB194_193.out; have hcz15_0 : w13.cell? ⟨gb193, 0, none⟩ = some (.slice A1_0 l1_0.length c1_0) := bc BK193.out 0; have hcz15_1 : w13.cell? ⟨gb193, 1, none⟩ = some (.int .i64 a1_1) := bc BK193.out 1; have hcz15_2 : w13.cell? ⟨gb193, 2, none⟩ = some (.int .i64 a1_2) := bc BK193.out 2; have hfz15_0 := blk_frozen BK193.out 0; have hfz15_1 := blk_frozen BK193.out 1; have hfz15_2 := blk_frozen BK193.out 2) | (go_at_call 41; (with_reducible refine (spec_BufRight.calls k _ _ l1_0 a1_1 a1_2 t196 _ ?side1 ?side2 A9.out).mono ?_); (case side1 => repeat (first | exact (Kd.C_below HR1_0.out HB.out) | (with_reducible refine Kd.C_alloc ?_ _) | (with_reducible refine Kd.C_drewN ?_ _) | (with_reducible refine Kd.C_drew ?_))); (case side2 => exact HC1_0.out); rintro e w16 ⟨rfl, hb⟩; replace BK192 := am (blk_below (pk BK192.out) hb); replace BK193 := am (blk_below (pk BK193.out) hb); replace BK194 := am (blk_below (pk BK194.out) hb); replace HB := am (below_step (bl HB.out) hb); (try clear hb); (try clear hb2); (try clear hk); (try clear hi)))
   go_meet
   case rel => exact ⟨_, (!t196), (by first | rfl | (simp; done) | (simp [*]; done)), H', ⟨by first | omega | exact Nat.le_refl _⟩, ⟨pk BK192.out⟩, ⟨pk BK193.out⟩, ⟨pk BK194.out⟩, ⟨by repeat (first | (with_reducible first | exact HB.out | apply below_alloc | apply pw_below_drewN | apply below_drew1 | refine below_set ?_ GE192.out | refine below_set ?_ GE193.out | refine below_set ?_ GE194.out) | exact HB.out)⟩⟩
  ·replace c8 := Bool.eq_false_iff.mpr c8
   subst c8
   have H1 : (spec_RingYank.j0 k true l0_0 a0_1 l1_0 a1_1 a1_2) = some (r1, r2, r3, r4, r5, r6) := by rw [if_neg (show ¬ (false = true) by decide)] at H; exact H
   clear H
   have H := H1
   clear H1
   have H' := Aside0.mk H
   clear H
   have hnb17 := NB192_193.out
   have hnc17 := NB193_192.out
   have hnb18 := NB192_194.out
   have hnc18 := NB194_192.out
   have hcz19_0 : w6.cell? ⟨gb192, 0, none⟩ = some (.slice A0_0 l0_0.length c0_0) := bc BK192.out 0
   have hcz19_1 : w6.cell? ⟨gb192, 1, none⟩ = some (.int .i64 a0_1) := bc BK192.out 1
   have hfz19_0 := blk_frozen BK192.out 0
   have hfz19_1 := blk_frozen BK192.out 1
   go_wp2_with (first | ((with_reducible refine gate_callee (f := 51) rfl ?_); refine gl (some 8) Try.func51 #[.agg #[.slice A0_0 l0_0.length c0_0, .int .i64 a0_1]] ?_; (with_reducible refine (spec_RingRight.calls k _ _ l0_0 a0_1 false _ ?side1 ?side2 A7.out).mono ?_); (case side1 => repeat (first | exact (Kd.C_below HR0_0.out HB.out) | (with_reducible refine Kd.C_alloc ?_ _) | (with_reducible refine Kd.C_drewN ?_ _) | (with_reducible refine Kd.C_drew ?_))); (case side2 => exact HC0_0.out); rintro e w20 ⟨rfl, hb⟩; refine ⟨_, rfl, ?_⟩; replace BK192 := am (blk_below (pk BK192.out) hb); replace BK193 := am (blk_below (pk BK193.out) hb); replace BK194 := am (blk_below (pk BK194.out) hb); replace HB := am (below_step (bl HB.out) hb); (try clear hb); (try clear hb2); (try clear hk); (try clear hi)))
   go_meet
   case rel => exact ⟨_, (true), (by first | rfl | (simp; done) | (simp [*]; done)), H', ⟨by first | omega | exact Nat.le_refl _⟩, ⟨pk BK192.out⟩, ⟨pk BK193.out⟩, ⟨pk BK194.out⟩, ⟨by repeat (first | (with_reducible first | exact HB.out | apply below_alloc | apply pw_below_drewN | apply below_drew1 | refine below_set ?_ GE192.out | refine below_set ?_ GE193.out | refine below_set ?_ GE194.out) | exact HB.out)⟩⟩
 case rest =>
  clear HC3
  try clear c1
  try clear c2
  try clear p2
  try clear c5
  try clear c8
  try clear c10
  try clear c11
  try clear c14
  try clear c17
  try clear c18
  try clear hcz12_0
  try clear hcz12_1
  try clear hcz15_0
  try clear hcz15_1
  try clear hcz15_2
  try clear hcz19_0
  try clear hcz19_1
  try clear hfz12_0
  try clear hfz12_1
  try clear hfz15_0
  try clear hfz15_1
  try clear hfz15_2
  try clear hfz19_0
  try clear hfz19_1
  obtain ⟨kq, x14_2, rfl, HA, HJ2, BK192, BK193, BK194, HB⟩ := hcut
  cases kq with
  | zero => exact absurd HA.out (by simp [spec_RingYank.j0])
  | succ kj2 =>
   have H := HA.out
   clear HA
   simp only [spec_RingYank.j0] at H
   by_cases c21 : x14_2 = true
   ·subst c21
    have H1 : (some (([] : List Int), 0, 0, 0, 0, 1)) = some (r1, r2, r3, r4, r5, r6) := by rw [if_pos rfl] at H; exact H
    clear H
    have H := H1
    clear H1
    simp only [Option.some.injEq, Prod.mk.injEq] at H
    obtain ⟨rfl, rfl, rfl, rfl, rfl, rfl⟩ := H
    have hnb22 := NB194_192.out
    have hnc22 := NB192_194.out
    have hnb23 := NB194_193.out
    have hnc23 := NB193_194.out
    have hcz24_0 : wc.cell? ⟨gb194, 0, none⟩ = some (.slice none 0 0) := bc BK194.out 0
    have hcz24_1 : wc.cell? ⟨gb194, 1, none⟩ = some (.int .i64 0) := bc BK194.out 1
    have hcz24_2 : wc.cell? ⟨gb194, 2, none⟩ = some (.int .i64 0) := bc BK194.out 2
    have hcz24_3 : wc.cell? ⟨gb194, 3, none⟩ = some (.int .i64 0) := bc BK194.out 3
    have hcz24_4 : wc.cell? ⟨gb194, 4, none⟩ = some (.int .i64 0) := bc BK194.out 4
    have hcz24_5 : wc.cell? ⟨gb194, 5, none⟩ = some (.int .i64 0) := bc BK194.out 5
    have hfz24_0 := blk_frozen BK194.out 0
    have hfz24_1 := blk_frozen BK194.out 1
    have hfz24_2 := blk_frozen BK194.out 2
    have hfz24_3 := blk_frozen BK194.out 3
    have hfz24_4 := blk_frozen BK194.out 4
    have hfz24_5 := blk_frozen BK194.out 5
    go_wp2
    refine bodyPost_ret (results_cell_row rfl _ _ gb194 48 #[.slice none 0 0, .int .i64 0, .int .i64 0, .int .i64 0, .int .i64 0, .int .i64 1] (0, 0) _ rfl (by (with_reducible repeat (first | refine blk_drewN ?_ _ | refine blk_drew ?_ | refine blk_alloc ?_ _)); refine blk_put (cs := #[.slice none 0 0, .int .i64 0, .int .i64 0, .int .i64 0, .int .i64 0, .int .i64 0]) ?_ 5 _ rfl; (with_reducible repeat (first | refine blk_drewN ?_ _ | refine blk_drew ?_ | refine blk_alloc ?_ _)); refine blk_put (cs := #[.slice none 0 0, .int .i64 0, .int .i64 0, .int .i64 0, .int .i64 0, .int .i64 0]) ?_ 4 _ rfl; (with_reducible repeat (first | refine blk_drewN ?_ _ | refine blk_drew ?_ | refine blk_alloc ?_ _)); refine blk_put (cs := #[.slice none 0 0, .int .i64 0, .int .i64 0, .int .i64 0, .int .i64 0, .int .i64 0]) ?_ 3 _ rfl; (with_reducible repeat (first | refine blk_drewN ?_ _ | refine blk_drew ?_ | refine blk_alloc ?_ _)); refine blk_put (cs := #[.slice none 0 0, .int .i64 0, .int .i64 0, .int .i64 0, .int .i64 0, .int .i64 0]) ?_ 2 _ rfl; (with_reducible repeat (first | refine blk_drewN ?_ _ | refine blk_drew ?_ | refine blk_alloc ?_ _)); refine blk_put (cs := #[.slice none 0 0, .int .i64 0, .int .i64 0, .int .i64 0, .int .i64 0, .int .i64 0]) ?_ 1 _ rfl; (with_reducible repeat (first | refine blk_drewN ?_ _ | refine blk_drew ?_ | refine blk_alloc ?_ _)); refine blk_put (cs := #[.slice none 0 0, .int .i64 0, .int .i64 0, .int .i64 0, .int .i64 0, .int .i64 0]) ?_ 0 _ rfl; (with_reducible repeat (first | refine blk_drewN ?_ _ | refine blk_drew ?_ | refine blk_alloc ?_ _)); exact BK194.out) Try.underlying48 rfl (by kernel_rfl)) rfl ?_
    exact ⟨_, by first | rfl | (simp [errW_none, errW_some] <;> rfl) | (simp [*, errW_none, errW_some] <;> rfl), by first | exact Kd.R_nil _ _ _ _ _ | exact Kd.N_nil _ _ _ _ _ | exact Kd.V_nil _ _ _ _ _ | exact Kd.Q_nil _ _ _ _ _ | exact Kd.S_nil _ _ _ _ _, by repeat (first | (with_reducible first | exact HB.out | apply below_alloc | apply pw_below_drewN | apply below_drew1 | refine below_set ?_ GE192.out | refine below_set ?_ GE193.out | refine below_set ?_ GE194.out) | exact HB.out)⟩
   ·replace c21 := Bool.eq_false_iff.mpr c21
    subst c21
    have H1 : (if (l0_0.length : Int) = 0 then (some (([] : List Int), 0, 0, 0, 0, 4)) else ((spec_RingTop.f kj2 l0_0 a0_1).bind fun t197 => ((spec_BufInsert.f kj2 l1_0 a1_1 a1_2 t197).bind fun bt200 => (if bt200.2.2.2.2 = 0 then (some (bt200.1, bt200.2.1, bt200.2.2.1, a1_1, wrap64 (a1_1 + (t197.length : Int)), 0)) else (some (([] : List Int), 0, 0, 0, 0, bt200.2.2.2.2)))))) = some (r1, r2, r3, r4, r5, r6) := by rw [if_neg (show ¬ (false = true) by decide)] at H; exact H
    clear H
    have H := H1
    clear H1
    by_cases c25 : (l0_0.length : Int) = 0
    ·rw [if_pos c25] at H
     have c25b0 : ((l0_0.length : Int) == 0) = true := beq_iff_eq.mpr c25
     have c25b1 : ((l0_0.length : Int) != 0) = false := bne_eq_false_iff_eq.mpr c25
     clear c25
     simp only [Option.some.injEq, Prod.mk.injEq] at H
     obtain ⟨rfl, rfl, rfl, rfl, rfl, rfl⟩ := H
     have hnb26 := NB192_193.out
     have hnc26 := NB193_192.out
     have hnb27 := NB192_194.out
     have hnc27 := NB194_192.out
     have hcz28_0 : wc.cell? ⟨gb192, 0, none⟩ = some (.slice A0_0 l0_0.length c0_0) := bc BK192.out 0
     have hcz28_1 : wc.cell? ⟨gb192, 1, none⟩ = some (.int .i64 a0_1) := bc BK192.out 1
     have hfz28_0 := blk_frozen BK192.out 0
     have hfz28_1 := blk_frozen BK192.out 1
     have hnb29 := NB194_193.out
     have hnc29 := NB193_194.out
     have hcz30_0 : wc.cell? ⟨gb194, 0, none⟩ = some (.slice none 0 0) := bc BK194.out 0
     have hcz30_1 : wc.cell? ⟨gb194, 1, none⟩ = some (.int .i64 0) := bc BK194.out 1
     have hcz30_2 : wc.cell? ⟨gb194, 2, none⟩ = some (.int .i64 0) := bc BK194.out 2
     have hcz30_3 : wc.cell? ⟨gb194, 3, none⟩ = some (.int .i64 0) := bc BK194.out 3
     have hcz30_4 : wc.cell? ⟨gb194, 4, none⟩ = some (.int .i64 0) := bc BK194.out 4
     have hcz30_5 : wc.cell? ⟨gb194, 5, none⟩ = some (.int .i64 0) := bc BK194.out 5
     have hfz30_0 := blk_frozen BK194.out 0
     have hfz30_1 := blk_frozen BK194.out 1
     have hfz30_2 := blk_frozen BK194.out 2
     have hfz30_3 := blk_frozen BK194.out 3
     have hfz30_4 := blk_frozen BK194.out 4
     have hfz30_5 := blk_frozen BK194.out 5
     go_wp2
     refine bodyPost_ret (results_cell_row rfl _ _ gb194 48 #[.slice none 0 0, .int .i64 0, .int .i64 0, .int .i64 0, .int .i64 0, .int .i64 4] (0, 0) _ rfl (by (with_reducible repeat (first | refine blk_drewN ?_ _ | refine blk_drew ?_ | refine blk_alloc ?_ _)); refine blk_put (cs := #[.slice none 0 0, .int .i64 0, .int .i64 0, .int .i64 0, .int .i64 0, .int .i64 0]) ?_ 5 _ rfl; (with_reducible repeat (first | refine blk_drewN ?_ _ | refine blk_drew ?_ | refine blk_alloc ?_ _)); refine blk_put (cs := #[.slice none 0 0, .int .i64 0, .int .i64 0, .int .i64 0, .int .i64 0, .int .i64 0]) ?_ 4 _ rfl; (with_reducible repeat (first | refine blk_drewN ?_ _ | refine blk_drew ?_ | refine blk_alloc ?_ _)); refine blk_put (cs := #[.slice none 0 0, .int .i64 0, .int .i64 0, .int .i64 0, .int .i64 0, .int .i64 0]) ?_ 3 _ rfl; (with_reducible repeat (first | refine blk_drewN ?_ _ | refine blk_drew ?_ | refine blk_alloc ?_ _)); refine blk_put (cs := #[.slice none 0 0, .int .i64 0, .int .i64 0, .int .i64 0, .int .i64 0, .int .i64 0]) ?_ 2 _ rfl; (with_reducible repeat (first | refine blk_drewN ?_ _ | refine blk_drew ?_ | refine blk_alloc ?_ _)); refine blk_put (cs := #[.slice none 0 0, .int .i64 0, .int .i64 0, .int .i64 0, .int .i64 0, .int .i64 0]) ?_ 1 _ rfl; (with_reducible repeat (first | refine blk_drewN ?_ _ | refine blk_drew ?_ | refine blk_alloc ?_ _)); refine blk_put (cs := #[.slice none 0 0, .int .i64 0, .int .i64 0, .int .i64 0, .int .i64 0, .int .i64 0]) ?_ 0 _ rfl; (with_reducible repeat (first | refine blk_drewN ?_ _ | refine blk_drew ?_ | refine blk_alloc ?_ _)); exact BK194.out) Try.underlying48 rfl (by kernel_rfl)) rfl ?_
     exact ⟨_, by first | rfl | (simp [errW_none, errW_some] <;> rfl) | (simp [*, errW_none, errW_some] <;> rfl), by first | exact Kd.R_nil _ _ _ _ _ | exact Kd.N_nil _ _ _ _ _ | exact Kd.V_nil _ _ _ _ _ | exact Kd.Q_nil _ _ _ _ _ | exact Kd.S_nil _ _ _ _ _, by repeat (first | (with_reducible first | exact HB.out | apply below_alloc | apply pw_below_drewN | apply below_drew1 | refine below_set ?_ GE192.out | refine below_set ?_ GE193.out | refine below_set ?_ GE194.out) | exact HB.out)⟩
    ·rw [if_neg c25] at H
     have c25b0 : ((l0_0.length : Int) == 0) = false := beq_eq_false_iff_ne.mpr c25
     have c25b1 : ((l0_0.length : Int) != 0) = true := bne_iff_ne.mpr c25
     have c25b2 : ¬ (l0_0 = []) := fun h_ => c25 (by rw [h_]; rfl)
     replace H := Option.bind_eq_some_iff.mp H
     obtain ⟨t197, A310, H⟩ := H
     replace H : ((spec_BufInsert.f kj2 l1_0 a1_1 a1_2 t197).bind fun bt200 => (if bt200.2.2.2.2 = 0 then (some (bt200.1, bt200.2.1, bt200.2.2.1, a1_1, wrap64 (a1_1 + (t197.length : Int)), 0)) else (some (([] : List Int), 0, 0, 0, 0, bt200.2.2.2.2)))) = some (r1, r2, r3, r4, r5, r6) := H
     have A31 := Aside0.mk A310
     clear A310
     replace H := Option.bind_eq_some_iff.mp H
     obtain ⟨⟨t200, t203, t204, t205, t208⟩, A320, H⟩ := H
     replace H : (if t208 = 0 then (some (t200, t203, t204, a1_1, wrap64 (a1_1 + (t197.length : Int)), 0)) else (some (([] : List Int), 0, 0, 0, 0, t208))) = some (r1, r2, r3, r4, r5, r6) := H
     have A32 := Aside0.mk A320
     clear A320
     by_cases c33 : t208 = 0
     ·rw [if_pos c33] at H
      have c33b0 : (t208 == 0) = true := beq_iff_eq.mpr c33
      have c33b1 : (t208 != 0) = false := bne_eq_false_iff_eq.mpr c33
      clear c33
      simp only [Option.some.injEq, Prod.mk.injEq] at H
      obtain ⟨rfl, rfl, rfl, rfl, rfl, rfl⟩ := H
      have hnb34 := NB192_193.out
      have hnc34 := NB193_192.out
      have hnb35 := NB192_194.out
      have hnc35 := NB194_192.out
      have hcz36_0 : wc.cell? ⟨gb192, 0, none⟩ = some (.slice A0_0 l0_0.length c0_0) := bc BK192.out 0
      have hcz36_1 : wc.cell? ⟨gb192, 1, none⟩ = some (.int .i64 a0_1) := bc BK192.out 1
      have hfz36_0 := blk_frozen BK192.out 0
      have hfz36_1 := blk_frozen BK192.out 1
      go_wp2_with (first | ((with_reducible refine gate_callee (f := 52) rfl ?_); refine gl (some 22) Try.func52 #[.agg #[.slice A0_0 l0_0.length c0_0, .int .i64 a0_1]] ?_; (with_reducible refine (spec_RingTop.calls kj2 _ _ l0_0 a0_1 t197 _ ?side1 ?side2 A31.out).mono ?_); (case side1 => repeat (first | exact (Kd.C_below HR0_0.out HB.out) | (with_reducible refine Kd.C_alloc ?_ _) | (with_reducible refine Kd.C_drewN ?_ _) | (with_reducible refine Kd.C_drew ?_))); (case side2 => exact HC0_0.out); rintro e w37 ⟨v198, rfl, ho0, hb⟩; refine ⟨_, rfl, ?_⟩; have HO199 := am (Kd.R_lower ho0 (below_size (bl HB.out))); replace BK192 := am (blk_below (pk BK192.out) hb); replace BK193 := am (blk_below (pk BK193.out) hb); replace BK194 := am (blk_below (pk BK194.out) hb); replace HB := am (below_step (bl HB.out) hb); (try clear hb); (try clear hb2); (try clear hk); (try clear hi); (try clear ho0); have hnb38 := NB193_194.out; have hnc38 := NB194_193.out; have hcz39_0 : w37.cell? ⟨gb193, 0, none⟩ = some (.slice A1_0 l1_0.length c1_0) := bc BK193.out 0; have hcz39_1 : w37.cell? ⟨gb193, 1, none⟩ = some (.int .i64 a1_1) := bc BK193.out 1; have hcz39_2 : w37.cell? ⟨gb193, 2, none⟩ = some (.int .i64 a1_2) := bc BK193.out 2; have hfz39_0 := blk_frozen BK193.out 0; have hfz39_1 := blk_frozen BK193.out 1; have hfz39_2 := blk_frozen BK193.out 2; obtain ⟨Ao40, co40, eo40⟩ := Kd.R_slice HO199.out; subst eo40) | ((with_reducible refine gate_callee (f := 21) rfl ?_); refine gl (some 25) Try.func21 #[.agg #[.slice A1_0 l1_0.length c1_0, .int .i64 a1_1, .int .i64 a1_2], .slice Ao40 t197.length co40] ?_; (with_reducible refine (spec_BufInsert.calls kj2 _ _ l1_0 a1_1 a1_2 _ _ t197 t200 t203 t204 t205 t208 _ ?side1 ?side2 ?side3 ?side4 A32.out).mono ?_); (case side1 => repeat (first | exact (Kd.C_below HR1_0.out HB.out) | (with_reducible refine Kd.C_alloc ?_ _) | (with_reducible refine Kd.C_drewN ?_ _) | (with_reducible refine Kd.C_drew ?_))); (case side2 => exact HC1_0.out); (case side3 => repeat (first | exact (Kd.R_reads' HO199.out).2.2 | (with_reducible refine Kd.C_alloc ?_ _) | (with_reducible refine Kd.C_drewN ?_ _) | (with_reducible refine Kd.C_drew ?_))); (case side4 => exact (Kd.R_reads' HO199.out).2.1); rintro e w41 ⟨v201, v206, rfl, ho0, ho1, hb⟩; refine ⟨_, rfl, ?_⟩; have HO202 := am (Kd.R_lower (Kd.R_new' ho0 (Kd.R_lt (kr HO199.out))) (below_size (bl HB.out))); have HO207 := am (Kd.R_lower (Kd.R_new' ho1 (Kd.R_lt (kr HO199.out))) (below_size (bl HB.out))); replace HO199 := am (Kd.R_mono (Kd.R_told (Kd.R_told (Kd.R_old (kr HO199.out) hb) (Kd.R_base ho0)) (Kd.R_base ho1)) (fun _ h_ => h_.1)); replace BK192 := am (blk_below (pk BK192.out) hb); replace BK193 := am (blk_below (pk BK193.out) hb); replace BK194 := am (blk_below (pk BK194.out) hb); replace HB := am (below_step (bl HB.out) hb); (try clear hb); (try clear hb2); (try clear hk); (try clear hi); (try clear ho0); (try clear ho1)) | ((with_reducible refine gate_dst (N := 6) rfl ?_); refine box_event ?hg (N := 6) ?hd (cs := #[.slice none 0 0, .int .i64 0, .int .i64 0, .slice none 0 0, .int .i64 0]) (t := 28) ?hr ?_; (case hd => rfl); (case hg => rfl); (case hr => first | (go_simp; done) | (go_simp; rfl)); intro gb209 hg w42 hbox hb; replace HO199 := am (Kd.R_below (kr HO199.out) hb); replace HO202 := am (Kd.R_below (kr HO202.out) hb); replace HO207 := am (Kd.R_below (kr HO207.out) hb); have BK209 := am (hbox); have GW209 := am ((by rw [hg]; exact (below_size (bl HB.out)) : w.heap.size ≤ gb209)); have GE209 := GW209; replace HB := am (below_step (bl HB.out) hb); have NB192_209 := am ((by rw [hg]; exact Nat.ne_of_lt (blk_lt (pk BK192.out)) : gb192 ≠ gb209)); have NB209_192 := am ((by rw [hg]; exact Nat.ne_of_gt (blk_lt (pk BK192.out)) : gb209 ≠ gb192)); replace BK192 := am (blk_below (pk BK192.out) hb); have NB193_209 := am ((by rw [hg]; exact Nat.ne_of_lt (blk_lt (pk BK193.out)) : gb193 ≠ gb209)); have NB209_193 := am ((by rw [hg]; exact Nat.ne_of_gt (blk_lt (pk BK193.out)) : gb209 ≠ gb193)); replace BK193 := am (blk_below (pk BK193.out) hb); have NB194_209 := am ((by rw [hg]; exact Nat.ne_of_lt (blk_lt (pk BK194.out)) : gb194 ≠ gb209)); have NB209_194 := am ((by rw [hg]; exact Nat.ne_of_gt (blk_lt (pk BK194.out)) : gb209 ≠ gb194)); replace BK194 := am (blk_below (pk BK194.out) hb); clear hb hbox hg; obtain ⟨Ao43, co43, eo43⟩ := Kd.R_slice HO202.out; subst eo43; have hnb44 := NB209_192.out; have hnc44 := NB192_209.out; have hnb45 := NB209_193.out; have hnc45 := NB193_209.out; have hnb46 := NB209_194.out; have hnc46 := NB194_209.out; have hcz47_0 : w42.cell? ⟨gb209, 0, none⟩ = some (.slice none 0 0) := bc BK209.out 0; have hcz47_1 : w42.cell? ⟨gb209, 1, none⟩ = some (.int .i64 0) := bc BK209.out 1; have hcz47_2 : w42.cell? ⟨gb209, 2, none⟩ = some (.int .i64 0) := bc BK209.out 2; have hcz47_3 : w42.cell? ⟨gb209, 3, none⟩ = some (.slice none 0 0) := bc BK209.out 3; have hcz47_4 : w42.cell? ⟨gb209, 4, none⟩ = some (.int .i64 0) := bc BK209.out 4; have hfz47_0 := blk_frozen BK209.out 0; have hfz47_1 := blk_frozen BK209.out 1; have hfz47_2 := blk_frozen BK209.out 2; have hfz47_3 := blk_frozen BK209.out 3; have hfz47_4 := blk_frozen BK209.out 4; obtain ⟨Ao48, co48, eo48⟩ := Kd.R_slice HO207.out; subst eo48; have hcz49_0 : w42.cell? ⟨gb193, 0, none⟩ = some (.slice A1_0 l1_0.length c1_0) := bc BK193.out 0; have hcz49_1 : w42.cell? ⟨gb193, 1, none⟩ = some (.int .i64 a1_1) := bc BK193.out 1; have hcz49_2 : w42.cell? ⟨gb193, 2, none⟩ = some (.int .i64 a1_2) := bc BK193.out 2; have hfz49_0 := blk_frozen BK193.out 0; have hfz49_1 := blk_frozen BK193.out 1; have hfz49_2 := blk_frozen BK193.out 2; have hcz50_0 : w42.cell? ⟨gb194, 0, none⟩ = some (.slice none 0 0) := bc BK194.out 0; have hcz50_1 : w42.cell? ⟨gb194, 1, none⟩ = some (.int .i64 0) := bc BK194.out 1; have hcz50_2 : w42.cell? ⟨gb194, 2, none⟩ = some (.int .i64 0) := bc BK194.out 2; have hcz50_3 : w42.cell? ⟨gb194, 3, none⟩ = some (.int .i64 0) := bc BK194.out 3; have hcz50_4 : w42.cell? ⟨gb194, 4, none⟩ = some (.int .i64 0) := bc BK194.out 4; have hcz50_5 : w42.cell? ⟨gb194, 5, none⟩ = some (.int .i64 0) := bc BK194.out 5; have hfz50_0 := blk_frozen BK194.out 0; have hfz50_1 := blk_frozen BK194.out 1; have hfz50_2 := blk_frozen BK194.out 2; have hfz50_3 := blk_frozen BK194.out 3; have hfz50_4 := blk_frozen BK194.out 4; have hfz50_5 := blk_frozen BK194.out 5))
      refine bodyPost_ret (results_cell_row rfl _ _ gb194 48 #[.slice Ao43 t200.length co43, .int .i64 t203, .int .i64 t204, .int .i64 a1_1, .int .i64 (wrap64 (a1_1 + (t197.length : Int))), .int .i64 0] (0, 0) _ rfl (by (with_reducible repeat (first | refine blk_drewN ?_ _ | refine blk_drew ?_ | refine blk_alloc ?_ _)); refine blk_put (cs := #[.slice Ao43 t200.length co43, .int .i64 t203, .int .i64 t204, .int .i64 a1_1, .int .i64 (wrap64 (a1_1 + (t197.length : Int))), .int .i64 0]) ?_ 5 _ rfl; (with_reducible repeat (first | refine blk_drewN ?_ _ | refine blk_drew ?_ | refine blk_alloc ?_ _)); refine blk_put (cs := #[.slice Ao43 t200.length co43, .int .i64 t203, .int .i64 t204, .int .i64 a1_1, .int .i64 0, .int .i64 0]) ?_ 4 _ rfl; (with_reducible repeat (first | refine blk_drewN ?_ _ | refine blk_drew ?_ | refine blk_alloc ?_ _)); refine blk_put (cs := #[.slice Ao43 t200.length co43, .int .i64 t203, .int .i64 t204, .int .i64 0, .int .i64 0, .int .i64 0]) ?_ 3 _ rfl; (with_reducible repeat (first | refine blk_drewN ?_ _ | refine blk_drew ?_ | refine blk_alloc ?_ _)); refine blk_put (cs := #[.slice Ao43 t200.length co43, .int .i64 t203, .int .i64 0, .int .i64 0, .int .i64 0, .int .i64 0]) ?_ 2 _ rfl; (with_reducible repeat (first | refine blk_drewN ?_ _ | refine blk_drew ?_ | refine blk_alloc ?_ _)); refine blk_put (cs := #[.slice Ao43 t200.length co43, .int .i64 0, .int .i64 0, .int .i64 0, .int .i64 0, .int .i64 0]) ?_ 1 _ rfl; (with_reducible repeat (first | refine blk_drewN ?_ _ | refine blk_drew ?_ | refine blk_alloc ?_ _)); refine blk_put (cs := #[.slice none 0 0, .int .i64 0, .int .i64 0, .int .i64 0, .int .i64 0, .int .i64 0]) ?_ 0 _ rfl; (with_reducible repeat (first | refine blk_drewN ?_ _ | refine blk_drew ?_ | refine blk_alloc ?_ _)); refine blk_far ?_ NB194_209.out _; (with_reducible repeat (first | refine blk_drewN ?_ _ | refine blk_drew ?_ | refine blk_alloc ?_ _)); refine blk_far ?_ NB194_209.out _; (with_reducible repeat (first | refine blk_drewN ?_ _ | refine blk_drew ?_ | refine blk_alloc ?_ _)); refine blk_far ?_ NB194_209.out _; (with_reducible repeat (first | refine blk_drewN ?_ _ | refine blk_drew ?_ | refine blk_alloc ?_ _)); refine blk_far ?_ NB194_209.out _; (with_reducible repeat (first | refine blk_drewN ?_ _ | refine blk_drew ?_ | refine blk_alloc ?_ _)); refine blk_far ?_ NB194_209.out _; (with_reducible repeat (first | refine blk_drewN ?_ _ | refine blk_drew ?_ | refine blk_alloc ?_ _)); exact BK194.out) Try.underlying48 rfl (by kernel_rfl)) rfl ?_
      exact ⟨_, by first | rfl | (simp [errW_none, errW_some] <;> rfl) | (simp [*, errW_none, errW_some] <;> rfl), kr (Kd.R_mono (Kd.R_far (p := ⟨gb194, 5, none⟩) (Kd.R_far (p := ⟨gb194, 4, none⟩) (Kd.R_far (p := ⟨gb194, 3, none⟩) (Kd.R_far (p := ⟨gb194, 2, none⟩) (Kd.R_far (p := ⟨gb194, 1, none⟩) (Kd.R_far (p := ⟨gb194, 0, none⟩) (Kd.R_far (p := ⟨gb209, 4, none⟩) (Kd.R_far (p := ⟨gb209, 3, none⟩) (Kd.R_far (p := ⟨gb209, 2, none⟩) (Kd.R_far (p := ⟨gb209, 1, none⟩) (Kd.R_far (p := ⟨gb209, 0, none⟩) (Kd.R_types (Kd.R_types HO202.out BK209.out (by decide)) BK194.out (by decide)) (fun _ hk => hk.1.2) (.slice Ao43 t200.length co43)) (fun _ hk => hk.1.2) (.int .i64 t203)) (fun _ hk => hk.1.2) (.int .i64 t204)) (fun _ hk => hk.1.2) (.slice Ao48 t205.length co48)) (fun _ hk => hk.1.2) (.int .i64 t208)) (fun _ hk => hk.2) (.slice Ao43 t200.length co43)) (fun _ hk => hk.2) (.int .i64 t203)) (fun _ hk => hk.2) (.int .i64 t204)) (fun _ hk => hk.2) (.int .i64 a1_1)) (fun _ hk => hk.2) (.int .i64 (wrap64 (a1_1 + (t197.length : Int))))) (fun _ hk => hk.2) (.int .i64 0)) (fun _ hk => trivial)), by repeat (first | (with_reducible first | exact HB.out | apply below_alloc | apply pw_below_drewN | apply below_drew1 | refine below_set ?_ GE192.out | refine below_set ?_ GE193.out | refine below_set ?_ GE194.out | refine below_set ?_ GE209.out) | exact HB.out)⟩
     ·rw [if_neg c33] at H
      have c33b0 : (t208 == 0) = false := beq_eq_false_iff_ne.mpr c33
      have c33b1 : (t208 != 0) = true := bne_iff_ne.mpr c33
      simp only [Option.some.injEq, Prod.mk.injEq] at H
      obtain ⟨rfl, rfl, rfl, rfl, rfl, rfl⟩ := H
      have hnb51 := NB192_193.out
      have hnc51 := NB193_192.out
      have hnb52 := NB192_194.out
      have hnc52 := NB194_192.out
      have hcz53_0 : wc.cell? ⟨gb192, 0, none⟩ = some (.slice A0_0 l0_0.length c0_0) := bc BK192.out 0
      have hcz53_1 : wc.cell? ⟨gb192, 1, none⟩ = some (.int .i64 a0_1) := bc BK192.out 1
      have hfz53_0 := blk_frozen BK192.out 0
      have hfz53_1 := blk_frozen BK192.out 1
      go_wp2_with (first | ((with_reducible refine gate_callee (f := 52) rfl ?_); refine gl (some 22) Try.func52 #[.agg #[.slice A0_0 l0_0.length c0_0, .int .i64 a0_1]] ?_; (with_reducible refine (spec_RingTop.calls kj2 _ _ l0_0 a0_1 t197 _ ?side1 ?side2 A31.out).mono ?_); (case side1 => repeat (first | exact (Kd.C_below HR0_0.out HB.out) | (with_reducible refine Kd.C_alloc ?_ _) | (with_reducible refine Kd.C_drewN ?_ _) | (with_reducible refine Kd.C_drew ?_))); (case side2 => exact HC0_0.out); rintro e w54 ⟨v198, rfl, ho0, hb⟩; refine ⟨_, rfl, ?_⟩; have HO199 := am (Kd.R_lower ho0 (below_size (bl HB.out))); replace BK192 := am (blk_below (pk BK192.out) hb); replace BK193 := am (blk_below (pk BK193.out) hb); replace BK194 := am (blk_below (pk BK194.out) hb); replace HB := am (below_step (bl HB.out) hb); (try clear hb); (try clear hb2); (try clear hk); (try clear hi); (try clear ho0); have hnb55 := NB193_194.out; have hnc55 := NB194_193.out; have hcz56_0 : w54.cell? ⟨gb193, 0, none⟩ = some (.slice A1_0 l1_0.length c1_0) := bc BK193.out 0; have hcz56_1 : w54.cell? ⟨gb193, 1, none⟩ = some (.int .i64 a1_1) := bc BK193.out 1; have hcz56_2 : w54.cell? ⟨gb193, 2, none⟩ = some (.int .i64 a1_2) := bc BK193.out 2; have hfz56_0 := blk_frozen BK193.out 0; have hfz56_1 := blk_frozen BK193.out 1; have hfz56_2 := blk_frozen BK193.out 2; obtain ⟨Ao57, co57, eo57⟩ := Kd.R_slice HO199.out; subst eo57) | ((with_reducible refine gate_callee (f := 21) rfl ?_); refine gl (some 25) Try.func21 #[.agg #[.slice A1_0 l1_0.length c1_0, .int .i64 a1_1, .int .i64 a1_2], .slice Ao57 t197.length co57] ?_; (with_reducible refine (spec_BufInsert.calls kj2 _ _ l1_0 a1_1 a1_2 _ _ t197 t200 t203 t204 t205 t208 _ ?side1 ?side2 ?side3 ?side4 A32.out).mono ?_); (case side1 => repeat (first | exact (Kd.C_below HR1_0.out HB.out) | (with_reducible refine Kd.C_alloc ?_ _) | (with_reducible refine Kd.C_drewN ?_ _) | (with_reducible refine Kd.C_drew ?_))); (case side2 => exact HC1_0.out); (case side3 => repeat (first | exact (Kd.R_reads' HO199.out).2.2 | (with_reducible refine Kd.C_alloc ?_ _) | (with_reducible refine Kd.C_drewN ?_ _) | (with_reducible refine Kd.C_drew ?_))); (case side4 => exact (Kd.R_reads' HO199.out).2.1); rintro e w58 ⟨v201, v206, rfl, ho0, ho1, hb⟩; refine ⟨_, rfl, ?_⟩; have HO202 := am (Kd.R_lower (Kd.R_new' ho0 (Kd.R_lt (kr HO199.out))) (below_size (bl HB.out))); have HO207 := am (Kd.R_lower (Kd.R_new' ho1 (Kd.R_lt (kr HO199.out))) (below_size (bl HB.out))); replace HO199 := am (Kd.R_mono (Kd.R_told (Kd.R_told (Kd.R_old (kr HO199.out) hb) (Kd.R_base ho0)) (Kd.R_base ho1)) (fun _ h_ => h_.1)); replace BK192 := am (blk_below (pk BK192.out) hb); replace BK193 := am (blk_below (pk BK193.out) hb); replace BK194 := am (blk_below (pk BK194.out) hb); replace HB := am (below_step (bl HB.out) hb); (try clear hb); (try clear hb2); (try clear hk); (try clear hi); (try clear ho0); (try clear ho1)) | ((with_reducible refine gate_dst (N := 6) rfl ?_); refine box_event ?hg (N := 6) ?hd (cs := #[.slice none 0 0, .int .i64 0, .int .i64 0, .slice none 0 0, .int .i64 0]) (t := 28) ?hr ?_; (case hd => rfl); (case hg => rfl); (case hr => first | (go_simp; done) | (go_simp; rfl)); intro gb209 hg w59 hbox hb; replace HO199 := am (Kd.R_below (kr HO199.out) hb); replace HO202 := am (Kd.R_below (kr HO202.out) hb); replace HO207 := am (Kd.R_below (kr HO207.out) hb); have BK209 := am (hbox); have GW209 := am ((by rw [hg]; exact (below_size (bl HB.out)) : w.heap.size ≤ gb209)); have GE209 := GW209; replace HB := am (below_step (bl HB.out) hb); have NB192_209 := am ((by rw [hg]; exact Nat.ne_of_lt (blk_lt (pk BK192.out)) : gb192 ≠ gb209)); have NB209_192 := am ((by rw [hg]; exact Nat.ne_of_gt (blk_lt (pk BK192.out)) : gb209 ≠ gb192)); replace BK192 := am (blk_below (pk BK192.out) hb); have NB193_209 := am ((by rw [hg]; exact Nat.ne_of_lt (blk_lt (pk BK193.out)) : gb193 ≠ gb209)); have NB209_193 := am ((by rw [hg]; exact Nat.ne_of_gt (blk_lt (pk BK193.out)) : gb209 ≠ gb193)); replace BK193 := am (blk_below (pk BK193.out) hb); have NB194_209 := am ((by rw [hg]; exact Nat.ne_of_lt (blk_lt (pk BK194.out)) : gb194 ≠ gb209)); have NB209_194 := am ((by rw [hg]; exact Nat.ne_of_gt (blk_lt (pk BK194.out)) : gb209 ≠ gb194)); replace BK194 := am (blk_below (pk BK194.out) hb); clear hb hbox hg; obtain ⟨Ao60, co60, eo60⟩ := Kd.R_slice HO202.out; subst eo60; have hnb61 := NB209_192.out; have hnc61 := NB192_209.out; have hnb62 := NB209_193.out; have hnc62 := NB193_209.out; have hnb63 := NB209_194.out; have hnc63 := NB194_209.out; have hcz64_0 : w59.cell? ⟨gb209, 0, none⟩ = some (.slice none 0 0) := bc BK209.out 0; have hcz64_1 : w59.cell? ⟨gb209, 1, none⟩ = some (.int .i64 0) := bc BK209.out 1; have hcz64_2 : w59.cell? ⟨gb209, 2, none⟩ = some (.int .i64 0) := bc BK209.out 2; have hcz64_3 : w59.cell? ⟨gb209, 3, none⟩ = some (.slice none 0 0) := bc BK209.out 3; have hcz64_4 : w59.cell? ⟨gb209, 4, none⟩ = some (.int .i64 0) := bc BK209.out 4; have hfz64_0 := blk_frozen BK209.out 0; have hfz64_1 := blk_frozen BK209.out 1; have hfz64_2 := blk_frozen BK209.out 2; have hfz64_3 := blk_frozen BK209.out 3; have hfz64_4 := blk_frozen BK209.out 4; obtain ⟨Ao65, co65, eo65⟩ := Kd.R_slice HO207.out; subst eo65; have hcz66_0 : w59.cell? ⟨gb194, 0, none⟩ = some (.slice none 0 0) := bc BK194.out 0; have hcz66_1 : w59.cell? ⟨gb194, 1, none⟩ = some (.int .i64 0) := bc BK194.out 1; have hcz66_2 : w59.cell? ⟨gb194, 2, none⟩ = some (.int .i64 0) := bc BK194.out 2; have hcz66_3 : w59.cell? ⟨gb194, 3, none⟩ = some (.int .i64 0) := bc BK194.out 3; have hcz66_4 : w59.cell? ⟨gb194, 4, none⟩ = some (.int .i64 0) := bc BK194.out 4; have hcz66_5 : w59.cell? ⟨gb194, 5, none⟩ = some (.int .i64 0) := bc BK194.out 5; have hfz66_0 := blk_frozen BK194.out 0; have hfz66_1 := blk_frozen BK194.out 1; have hfz66_2 := blk_frozen BK194.out 2; have hfz66_3 := blk_frozen BK194.out 3; have hfz66_4 := blk_frozen BK194.out 4; have hfz66_5 := blk_frozen BK194.out 5))
      refine bodyPost_ret (results_cell_row rfl _ _ gb194 48 #[.slice none 0 0, .int .i64 0, .int .i64 0, .int .i64 0, .int .i64 0, .int .i64 t208] (0, 0) _ rfl (by (with_reducible repeat (first | refine blk_drewN ?_ _ | refine blk_drew ?_ | refine blk_alloc ?_ _)); refine blk_put (cs := #[.slice none 0 0, .int .i64 0, .int .i64 0, .int .i64 0, .int .i64 0, .int .i64 0]) ?_ 5 _ rfl; (with_reducible repeat (first | refine blk_drewN ?_ _ | refine blk_drew ?_ | refine blk_alloc ?_ _)); refine blk_put (cs := #[.slice none 0 0, .int .i64 0, .int .i64 0, .int .i64 0, .int .i64 0, .int .i64 0]) ?_ 4 _ rfl; (with_reducible repeat (first | refine blk_drewN ?_ _ | refine blk_drew ?_ | refine blk_alloc ?_ _)); refine blk_put (cs := #[.slice none 0 0, .int .i64 0, .int .i64 0, .int .i64 0, .int .i64 0, .int .i64 0]) ?_ 3 _ rfl; (with_reducible repeat (first | refine blk_drewN ?_ _ | refine blk_drew ?_ | refine blk_alloc ?_ _)); refine blk_put (cs := #[.slice none 0 0, .int .i64 0, .int .i64 0, .int .i64 0, .int .i64 0, .int .i64 0]) ?_ 2 _ rfl; (with_reducible repeat (first | refine blk_drewN ?_ _ | refine blk_drew ?_ | refine blk_alloc ?_ _)); refine blk_put (cs := #[.slice none 0 0, .int .i64 0, .int .i64 0, .int .i64 0, .int .i64 0, .int .i64 0]) ?_ 1 _ rfl; (with_reducible repeat (first | refine blk_drewN ?_ _ | refine blk_drew ?_ | refine blk_alloc ?_ _)); refine blk_put (cs := #[.slice none 0 0, .int .i64 0, .int .i64 0, .int .i64 0, .int .i64 0, .int .i64 0]) ?_ 0 _ rfl; (with_reducible repeat (first | refine blk_drewN ?_ _ | refine blk_drew ?_ | refine blk_alloc ?_ _)); refine blk_far ?_ NB194_209.out _; (with_reducible repeat (first | refine blk_drewN ?_ _ | refine blk_drew ?_ | refine blk_alloc ?_ _)); refine blk_far ?_ NB194_209.out _; (with_reducible repeat (first | refine blk_drewN ?_ _ | refine blk_drew ?_ | refine blk_alloc ?_ _)); refine blk_far ?_ NB194_209.out _; (with_reducible repeat (first | refine blk_drewN ?_ _ | refine blk_drew ?_ | refine blk_alloc ?_ _)); refine blk_far ?_ NB194_209.out _; (with_reducible repeat (first | refine blk_drewN ?_ _ | refine blk_drew ?_ | refine blk_alloc ?_ _)); refine blk_far ?_ NB194_209.out _; (with_reducible repeat (first | refine blk_drewN ?_ _ | refine blk_drew ?_ | refine blk_alloc ?_ _)); exact BK194.out) Try.underlying48 rfl (by kernel_rfl)) rfl ?_
      exact ⟨_, by first | rfl | (simp [errW_none, errW_some] <;> rfl) | (simp [*, errW_none, errW_some] <;> rfl), by first | exact Kd.R_nil _ _ _ _ _ | exact Kd.N_nil _ _ _ _ _ | exact Kd.V_nil _ _ _ _ _ | exact Kd.Q_nil _ _ _ _ _ | exact Kd.S_nil _ _ _ _ _, by repeat (first | (with_reducible first | exact HB.out | apply below_alloc | apply pw_below_drewN | apply below_drew1 | refine below_set ?_ GE192.out | refine below_set ?_ GE193.out | refine below_set ?_ GE194.out | refine below_set ?_ GE209.out) | exact HB.out)⟩

/-! ### laws_toInt64SS: function 53 -/
def laws_toInt64SS.l0 : Nat → List (List Int) → List (List Int) → Int → Option ((List (List Int)))
 | 0, _, _, _ => none
 | k + 1, x0, x3, x4 => if x4 < (x0.length : Int) then (if 0 ≤ x4 then ((laws_toInt64S.f k (rd_L1 x0 x4)).bind fun t214 => (if x4 < (x3.length : Int) then (laws_toInt64SS.l0 k x0 (x3.set (x4 : Int).toNat t214) (wrap64 (x4 + 1))) else (none))) else (none)) else (some x3)
def laws_toInt64SS.f (k : Nat) (l0 : List (List Int)) : Option ((List (List Int))) := if 0 ≤ (l0.length : Int) then (if ((l0.length : Int) : Int).toNat ≤ 11728124029610 then (laws_toInt64SS.l0 k l0 (List.replicate ((l0.length : Int) : Int).toNat []) 0) else (none)) else (none)
theorem laws_toInt64SS.mono_l : ∀ k, (∀ y0 y1 y2, LeO (laws_toInt64SS.l0 k y0 y1 y2) (laws_toInt64SS.l0 (k + 1) y0 y1 y2))
 | 0 => fun _ _ _ r h => by simp [laws_toInt64SS.l0] at h
 | k + 1 => by
  have ih0 := laws_toInt64SS.mono_l k
  ·intro y0 y1 y2
   unfold laws_toInt64SS.l0
   repeat' first
   | (with_reducible exact ih0 _ _ _)
   | (with_reducible exact laws_toInt64S.mono _ _)
   | (with_reducible exact LeO.refl _)
   | (with_reducible exact LeO.none _)
   | (with_reducible refine LeO.ite ?_ ?_)
   | (with_reducible refine LeO.bind ?_ (fun _ => ?_))
   | exact ih0 _ _ _
   | exact laws_toInt64S.mono _ _
   | exact LeO.none _
   | refine LeO.ite ?_ ?_
   | refine LeO.bind ?_ (fun _ => ?_)
theorem laws_toInt64SS.mono : ∀ a0 k, LeO (laws_toInt64SS.f k a0) (laws_toInt64SS.f (k + 1) a0) := by
 intro a0 k
 have ih0 := laws_toInt64SS.mono_l k
 unfold laws_toInt64SS.f
 repeat' first
   | (with_reducible exact ih0 _ _ _)
   | (with_reducible exact laws_toInt64S.mono _ _)
   | (with_reducible exact LeO.refl _)
   | (with_reducible exact LeO.none _)
   | (with_reducible refine LeO.ite ?_ ?_)
   | (with_reducible refine LeO.bind ?_ (fun _ => ?_))
   | exact ih0 _ _ _
   | exact laws_toInt64S.mono _ _
   | exact LeO.none _
   | refine LeO.ite ?_ ?_
   | refine LeO.bind ?_ (fun _ => ?_)
set_option maxHeartbeats 8000000 in
set_option maxRecDepth 100000 in
theorem laws_toInt64SS.calls (k : Nat) (A0 : Option Addr) (c0 : Nat) (l0 : List (List Int)) (r : List (List Int)) (w : World) (hr0 : Kd.C (Kd.slice 2 (Kd.int .i64)) w A0 l0.length l0) (hc0 : l0.length ≤ c0) (h : laws_toInt64SS.f k l0 = some r) :
  Calls Try.prog 53 #[.slice A0 l0.length c0] w fun e w' => ∃ v0_ : Value, e = .returned (v0_) ∧ Kd.S (Kd.slice 2 (Kd.int .i64)) 22 w' w.heap.size (fun _ => True) v0_ r ∧ Below w.heap.size w w' := by
 have HR0 := am hr0
 have HC0 := am hc0
 clear hr0 hc0
 have HB := am (Below.refl w.heap.size w)
 have H : (if 0 ≤ (l0.length : Int) then (if ((l0.length : Int) : Int).toNat ≤ 11728124029610 then (laws_toInt64SS.l0 k l0 (List.replicate ((l0.length : Int) : Int).toNat []) 0) else (none)) else (none)) = some r := h
 clear h
 by_cases c2 : 0 ≤ (l0.length : Int)
 ·rw [if_pos c2] at H
  have c2b0 := eq_true c2
  have c2b1 : decide (0 ≤ (l0.length : Int)) = true := decide_eq_true c2
  clear c2
  by_cases c3 : ((l0.length : Int) : Int).toNat ≤ 11728124029610
  ·rw [if_pos c3] at H
   have c3b0 := eq_true c3
   have c3b1 : decide (((l0.length : Int) : Int).toNat ≤ 11728124029610) = true := decide_eq_true c3
   clear c3
   obtain ⟨y210, hy210⟩ : ∃ y_ : List (List Int), y_ = (List.replicate ((l0.length : Int) : Int).toNat []) := ⟨_, rfl⟩
   replace H : (laws_toInt64SS.l0 k l0 y210 0) = some r := by first | (rw [hy210]; with_reducible exact H) | (have H2_ := (Option.bind_some _ _).symm.trans H; rw [hy210]; with_reducible exact H2_) | (have H2_ := (Option.bind_some _ _).symm.trans H; with_reducible exact H2_) | with_reducible exact H | (rw [hy210]; exact H) | exact H
   have Ny210 := am hy210
   clear hy210
   have H' := Aside0.mk H
   clear H
   go_enter Try.func53, Try.ntmps53
   go_wp2_with (first | ((with_reducible refine gate_dst (N := 7) rfl ?_); refine Kd.S_make (Kd.slice 2 (Kd.int .i64)) _ 22 rfl (N := 7) rfl 43 _ _ rfl (l0.length : Int) rfl rfl Try.underlying43 (.slice none 0 0) 24 info22 rfl (by decide) (by omega) [] (ok := fun _ => True) (okp := fun _ => True) ⟨_, rfl, Kd.R_nil _ _ _ _ _⟩ (fun _ hk => hk) trivial (of_decide_eq_true (by first | (with_reducible assumption) | assumption)) (Nat.le_trans (Nat.mul_le_mul_right _ (of_decide_eq_true (by first | (with_reducible assumption) | assumption) : (l0.length : Int).toNat ≤ 11728124029610)) (by omega)) (Below.refl _ _) (Nat.le_refl _) ?_; intro v211 w4 ho5 hb hg_ hnew_; clear hg_ hnew_; (first | rw [← Ny210.out] at ho5 | (simp only [Int.reduceToNat] at ho5; rw [← Ny210.out] at ho5)); have HO212 := am (Kd.S_lower ho5 (below_size (bl HB.out))); replace HB := am (below_step (bl HB.out) hb); clear hb ho5))
   go_loopg [4] k (fun kq v4 w' => ∃ (x3_1 : List (List Int)) (x4_1 : Int), v4 = .int .i64 x4_1 ∧ Aside0 (laws_toInt64SS.l0 kq l0 x3_1 x4_1 = some r) ∧ Aside0 (kq ≤ k) ∧ Aside0 (Kd.S (Kd.slice 2 (Kd.int .i64)) 22 w' w.heap.size (fun _ => True) v211 x3_1) ∧ Aside0 (Below w.heap.size w w'))
   case atStart => exact ⟨(y210), (0), (by first | rfl | (simp; done) | (simp [*]; done)), H', ⟨Nat.le_refl _⟩, ⟨ks HO212.out⟩, ⟨by repeat (first | (with_reducible first | exact HB.out | apply below_alloc | apply pw_below_drewN | apply below_drew1) | exact HB.out)⟩⟩
   case round =>
    clear H'
    try clear c2
    try clear c2b0
    try clear c2b1
    try clear p2
    try clear c3
    try clear c3b0
    try clear c3b1
    try clear c5
    obtain ⟨x3_1, x4_1, rfl, HA, HK1, HO_3, HB⟩ := hrel
    cases gk with
    | zero => exact absurd HA.out (by simp [laws_toInt64SS.l0])
    | succ k1 =>
     have H := HA.out
     clear HA
     simp only [laws_toInt64SS.l0] at H
     by_cases c6 : x4_1 < (l0.length : Int)
     ·rw [if_pos c6] at H
      have c6b0 : decide (x4_1 < (l0.length : Int)) = true := decide_eq_true c6
      clear c6
      by_cases c7 : 0 ≤ x4_1
      ·rw [if_pos c7] at H
       have c7b0 : decide (0 ≤ x4_1) = true := decide_eq_true c7
       clear c7
       replace H := Option.bind_eq_some_iff.mp H
       obtain ⟨t214, A80, H⟩ := H
       replace H : (if x4_1 < (x3_1.length : Int) then (laws_toInt64SS.l0 k1 l0 (x3_1.set (x4_1 : Int).toNat t214) (wrap64 (x4_1 + 1))) else (none)) = some r := H
       have A8 := Aside0.mk A80
       clear A80
       by_cases c9 : x4_1 < (x3_1.length : Int)
       ·rw [if_pos c9] at H
        have c9b0 : decide (x4_1 < (x3_1.length : Int)) = true := decide_eq_true c9
        clear c9
        obtain ⟨y217, hy217⟩ : ∃ y_ : List (List Int), y_ = (x3_1.set (x4_1 : Int).toNat t214) := ⟨_, rfl⟩
        replace H : (laws_toInt64SS.l0 k1 l0 y217 (wrap64 (x4_1 + 1))) = some r := by first | (rw [hy217]; with_reducible exact H) | (have H2_ := (Option.bind_some _ _).symm.trans H; rw [hy217]; with_reducible exact H2_) | (have H2_ := (Option.bind_some _ _).symm.trans H; with_reducible exact H2_) | with_reducible exact H | (rw [hy217]; exact H) | exact H
        have Ny217 := am hy217
        clear hy217
        have H' := Aside0.mk H
        clear H
        have p213 : 0 ≤ (x4_1 : Int) := of_decide_eq_true (by first | (with_reducible assumption) | assumption)
        have q213 : x4_1 < (l0.length : Int) := of_decide_eq_true (by first | (with_reducible assumption) | assumption)
        obtain ⟨ad213, A213_0, c213_0, e213, hx213_0, hl213_0, hi213_0⟩ := at_L1 HR0.out x4_1 p213 q213
        cases e213
        have hxw213_0 := hx213_0
        replace hx213_0 := (HB.out.cell (World.block_lt_of_cell? w _ hx213_0)).trans hx213_0
        have HR213_0 := am hi213_0
        have HC213_0 := am hl213_0
        clear hi213_0 hl213_0
        replace p213 := eq_true p213
        replace q213 := eq_true q213
        go_wp2_with (first | ((with_reducible refine gate_callee (f := 12) rfl ?_); refine gl (some 20) Try.func12 #[.slice A213_0 (rd_L1 l0 x4_1).length c213_0] ?_; (with_reducible refine (laws_toInt64S.calls k1 _ _ (rd_L1 l0 x4_1) t214 _ ?side1 ?side2 A8.out).mono ?_); (case side1 => repeat (first | exact (Kd.C_below HR213_0.out HB.out) | (with_reducible refine Kd.C_alloc ?_ _) | (with_reducible refine Kd.C_drewN ?_ _) | (with_reducible refine Kd.C_drew ?_))); (case side2 => exact HC213_0.out); rintro e w11 ⟨v215, rfl, ho0, hb⟩; refine ⟨_, rfl, ?_⟩; replace HO_3 := am (Kd.S_elder' (ks HO_3.out) (Kd.R_base ho0) hb); have HO216 := am (Kd.R_lower ho0 (below_size (bl HB.out))); replace HB := am (below_step (bl HB.out) hb); (try clear hb); (try clear hb2); (try clear hk); (try clear hi); (try clear ho0); have p10 : 0 ≤ (x4_1 : Int) := of_decide_eq_true (by first | (with_reducible assumption) | assumption); have q10 : (x4_1 : Int) < ((x3_1.length : Int) : Int) := of_decide_eq_true (by first | (with_reducible assumption) | assumption); obtain ⟨go10, co10, eo10, gb10, gl10, cl10, HG10⟩ := Kd.S_form HO_3.out (by omega); (first | cases eo10 | (injection eo10 with ea_ en_ ec_; (first | subst ea_ | (injection ea_ with ea_; subst ea_)); subst ec_; clear en_)); have GB10 := Aside0.mk gb10; have GG10 := Aside0.mk HG10; clear gb10 gl10 HG10; obtain ⟨_, ce10, hcl10, hM10, hcc10, hfr10, _, _⟩ := Kd.S_elem HO_3.out [] (x4_1 : Int) p10 q10; obtain ⟨ve10_0, rfl, ge10_0⟩ := hM10; have hx10_0 := hcc10 0 _ rfl; have hf10_0 := hfr10 0; (try simp only [show ((Kd.slice 2 (Kd.int .i64))).sz = 1 from rfl, Nat.mul_one, Nat.add_zero] at hx10_0); (try simp only [show ((Kd.slice 2 (Kd.int .i64))).sz = 1 from rfl, Nat.mul_one, Nat.add_zero] at hf10_0); clear hcl10 hcc10 hfr10; (try clear hM10); replace p10 := eq_true p10; replace q10 := eq_true q10; obtain ⟨Ao14, co14, eo14⟩ := Kd.R_slice HO216.out; subst eo14; have n_ := am (Kd.S_mono (ok' := (fun k_ => some k_ ≠ (.slice Ao14 t214.length co14 : Value).ownBlock)) HO_3.out (fun k_ hk => hk.2)); clear HO_3; have HO_3 := n_; clear n_; have HX12 := am (show Kd.S (Kd.slice 2 (Kd.int .i64)) 22 w11 w.heap.size (fun k_ => ((fun _ => True)) k_ ∧ ¬ ((fun k_ => some k_ = (.slice Ao14 t214.length co14 : Value).ownBlock)) k_) (.slice (some ⟨go10, 0, none⟩) x3_1.length co10) x3_1 from (ks (Kd.S_mono HO_3.out (fun k_ hk => ⟨trivial, fun e_ => hk e_⟩)))); obtain ⟨oki12, ce12, hcl12, hM12, hcc12, hfr12, hoki12, hH12⟩ := Kd.S_elem HX12.out [] (x4_1 : Int) (of_decide_eq_true (by first | (with_reducible assumption) | assumption)) (by have h_ : (x4_1 : Int) < ((x3_1.length : Int) : Int) := of_decide_eq_true (by first | (with_reducible assumption) | assumption); first | exact h_ | (have e_ := (Kd.S_reads' HO_3.out).1; omega) | simpa using h_); obtain ⟨ve12_0, rfl, ge12_0⟩ := hM12; have HP12 := Kd.S_seg hH12 (of_decide_eq_true (by first | (with_reducible assumption) | assumption)) (by have h_ : (x4_1 : Int) < ((x3_1.length : Int) : Int) := of_decide_eq_true (by first | (with_reducible assumption) | assumption); first | exact h_ | (have e_ := (Kd.S_reads' HO_3.out).1; omega) | simpa using h_) (seg := [.slice Ao14 t214.length co14]) (j := 0) (show 1 ≤ 1 from by decide) (x' := t214) (Kd.M_row (Kd.R_mono (Kd.R_tight rfl (Kd.R_mono (ok' := fun k_ => ((fun _ => True)) k_ ∧ k_ ≠ go10) (Kd.R_apart' (HO216.out) (Kd.S_typed HO_3.out) (by decide)) (fun k_ hk => ⟨trivial, fun e_ => (hk.2) (by rw [e_]; rfl)⟩))) (fun _ h_ => Or.inr (h_)))) (fun _ hk => hk) (fun k_ hk_ => ((Kd.R_mono (ok' := fun k_ => ((fun _ => True)) k_ ∧ k_ ≠ go10) (Kd.R_apart' (HO216.out) (Kd.S_typed HO_3.out) (by decide)) (fun k_ hk => ⟨trivial, fun e_ => (hk.2) (by rw [e_]; rfl)⟩))).1 k_ hk_.symm); have hx12_0 := hcc12 0 _ rfl; (try simp only [show ((Kd.slice 2 (Kd.int .i64))).sz = 1 from rfl, Nat.mul_one, Nat.add_zero] at hx12_0); have hf12_0 := hfr12 0; (try simp only [show ((Kd.slice 2 (Kd.int .i64))).sz = 1 from rfl, Nat.mul_one, Nat.add_zero] at hf12_0); clear hcl12 hcc12 hfr12; (try clear hM12); clear hoki12 hH12; (try simp only [show ((Kd.slice 2 (Kd.int .i64))).sz = 1 from rfl, Nat.mul_one, Nat.add_zero] at HP12)) | ((with_reducible refine gate_store (t := 22) (p := 21) rfl ?_); refine store_event (t := 22) (p := 21) (v := ?vo_w13) (w1 := (w11.setCell ⟨go10, (x4_1 : Int).toNat, none⟩ (.slice Ao14 t214.length co14))) ?hg ?ho ?hn ?hr ?_; (case ho => rfl); (case hg => rfl); (case hn => rfl); (case hr => first | (go_simp; done) | (go_simp; rfl)); intro w13 hw; have hg : w11.grownBy w13 (some go10) := (by rw [hw]; exact HP12.2); have hp_ : Kd.S (Kd.slice 2 (Kd.int .i64)) 22 w13 w.heap.size (fun _ => True) (.slice (some ⟨go10, 0, none⟩) x3_1.length co10) y217 := (by rw [hw, Ny217.out]; exact HP12.1); clear HP12; replace HO_3 := am (hp_); replace HB := am ((by rw [hw]; exact below_set (HB.out) GB10.out : Below w.heap.size w w13)); clear HO216; clear hg hw hp_))
        go_roundg k1
        case measure => have := HK1.out; omega
        case rel => exact ⟨(y217), (wrap64 (x4_1 + 1)), (by first | rfl | (simp; done) | (simp [*]; done)), H', ⟨by have := HK1.out; omega⟩, ⟨ks HO_3.out⟩, ⟨by repeat (first | (with_reducible first | exact HB.out | apply below_alloc | apply pw_below_drewN | apply below_drew1) | exact HB.out)⟩⟩
       ·rw [if_neg c9] at H
        exact absurd H (by simp)
      ·rw [if_neg c7] at H
       exact absurd H (by simp)
     ·rw [if_neg c6] at H
      have c6b0 : decide (x4_1 < (l0.length : Int)) = false := decide_eq_false c6
      clear c6
      obtain rfl := Option.some.inj H
      go_wp2
      go_ret
      exact ⟨_, by first | rfl | (simp [errW_none, errW_some] <;> rfl) | (simp [*, errW_none, errW_some] <;> rfl), ks HO_3.out, by repeat (first | (with_reducible first | exact HB.out | apply below_alloc | apply pw_below_drewN | apply below_drew1) | exact HB.out)⟩
  ·rw [if_neg c3] at H
   exact absurd H (by simp)
 ·rw [if_neg c2] at H
  exact absurd H (by simp)

/-! ### laws_toRing: function 27 -/
def laws_toRing.f (k : Nat) (l0_0 : List (List Int)) (a0_1 : Int) : Option ((List (List Int)) × Int) := (laws_toInt64SS.f k l0_0).bind fun t221 => (some (t221, a0_1))
theorem laws_toRing.mono : ∀ a0 a1 k, LeO (laws_toRing.f k a0 a1) (laws_toRing.f (k + 1) a0 a1) := by
 intro a0 a1 k
 unfold laws_toRing.f
 repeat' first
   | (with_reducible exact laws_toInt64SS.mono _ _)
   | (with_reducible exact LeO.refl _)
   | (with_reducible exact LeO.none _)
   | (with_reducible refine LeO.ite ?_ ?_)
   | (with_reducible refine LeO.bind ?_ (fun _ => ?_))
   | exact laws_toInt64SS.mono _ _
   | exact LeO.none _
   | refine LeO.ite ?_ ?_
   | refine LeO.bind ?_ (fun _ => ?_)
set_option maxHeartbeats 8000000 in
set_option maxRecDepth 100000 in
theorem laws_toRing.calls (k : Nat) (A0_0 : Option Addr) (c0_0 : Nat) (l0_0 : List (List Int)) (a0_1 : Int) (r1 : List (List Int)) (r2 : Int) (w : World) (hr0_0 : Kd.C (Kd.slice 2 (Kd.int .i64)) w A0_0 l0_0.length l0_0) (hc0_0 : l0_0.length ≤ c0_0) (h : laws_toRing.f k l0_0 a0_1 = some (r1, r2)) :
  Calls Try.prog 27 #[.agg #[.slice A0_0 l0_0.length c0_0, .int .i64 a0_1]] w fun e w' => ∃ v0_ : Value, e = .returned (.agg #[v0_, .int .i64 r2]) ∧ Kd.S (Kd.slice 2 (Kd.int .i64)) 22 w' w.heap.size (fun _ => True) v0_ r1 ∧ Below w.heap.size w w' := by
 have hu45 := Try.underlying45
 have hu50 := Try.underlying50
 have HR0_0 := am hr0_0
 have HC0_0 := am hc0_0
 clear hr0_0 hc0_0
 have HB := am (Below.refl w.heap.size w)
 have H : ((laws_toInt64SS.f k l0_0).bind fun t221 => (some (t221, a0_1))) = some (r1, r2) := h
 clear h
 replace H := Option.bind_eq_some_iff.mp H
 obtain ⟨t221, A20, H⟩ := H
 replace H : (some (t221, a0_1)) = some (r1, r2) := H
 have A2 := Aside0.mk A20
 clear A20
 simp only [Option.some.injEq, Prod.mk.injEq] at H
 obtain ⟨rfl, rfl⟩ := H
 go_enter Try.func27, Try.ntmps27
 go_wp2_with (first | ((with_reducible refine gate_dst (N := 1) rfl ?_); refine box_event ?hg (N := 1) ?hd (cs := #[.slice A0_0 l0_0.length c0_0, .int .i64 a0_1]) (t := 45) ?hr ?_; (case hd => rfl); (case hg => rfl); (case hr => first | (go_simp; done) | (go_simp; rfl)); intro gb218 hg w3 hbox hb; have BK218 := am (hbox); have GW218 := am ((by rw [hg]; exact (below_size (bl HB.out)) : w.heap.size ≤ gb218)); have GE218 := GW218; replace HB := am (below_step (bl HB.out) hb); clear hb hbox hg) | ((with_reducible refine gate_dst (N := 2) rfl ?_); refine box_event ?hg (N := 2) ?hd (cs := #[.slice none 0 0, .int .i64 0]) (t := 50) ?hr ?_; (case hd => rfl); (case hg => rfl); (case hr => first | (go_simp; done) | (go_simp; rfl)); intro gb219 hg w4 hbox hb; have BK219 := am (hbox); have GW219 := am ((by rw [hg]; exact (below_size (bl HB.out)) : w.heap.size ≤ gb219)); have GE219 := GW219; replace HB := am (below_step (bl HB.out) hb); have NB218_219 := am ((by rw [hg]; exact Nat.ne_of_lt (blk_lt (pk BK218.out)) : gb218 ≠ gb219)); have NB219_218 := am ((by rw [hg]; exact Nat.ne_of_gt (blk_lt (pk BK218.out)) : gb219 ≠ gb218)); replace BK218 := am (blk_below (pk BK218.out) hb); clear hb hbox hg) | ((with_reducible refine gate_dst (N := 3) rfl ?_); refine box_event ?hg (N := 3) ?hd (cs := #[.slice none 0 0, .int .i64 0]) (t := 50) ?hr ?_; (case hd => rfl); (case hg => rfl); (case hr => first | (go_simp; done) | (go_simp; rfl)); intro gb220 hg w5 hbox hb; have BK220 := am (hbox); have GW220 := am ((by rw [hg]; exact (below_size (bl HB.out)) : w.heap.size ≤ gb220)); have GE220 := GW220; replace HB := am (below_step (bl HB.out) hb); have NB218_220 := am ((by rw [hg]; exact Nat.ne_of_lt (blk_lt (pk BK218.out)) : gb218 ≠ gb220)); have NB220_218 := am ((by rw [hg]; exact Nat.ne_of_gt (blk_lt (pk BK218.out)) : gb220 ≠ gb218)); replace BK218 := am (blk_below (pk BK218.out) hb); have NB219_220 := am ((by rw [hg]; exact Nat.ne_of_lt (blk_lt (pk BK219.out)) : gb219 ≠ gb220)); have NB220_219 := am ((by rw [hg]; exact Nat.ne_of_gt (blk_lt (pk BK219.out)) : gb220 ≠ gb219)); replace BK219 := am (blk_below (pk BK219.out) hb); clear hb hbox hg; have hnb6 := NB218_219.out; have hnc6 := NB219_218.out; have hnb7 := NB218_220.out; have hnc7 := NB220_218.out; have hcz8_0 : w5.cell? ⟨gb218, 0, none⟩ = some (.slice A0_0 l0_0.length c0_0) := bc BK218.out 0; have hcz8_1 : w5.cell? ⟨gb218, 1, none⟩ = some (.int .i64 a0_1) := bc BK218.out 1; have hfz8_0 := blk_frozen BK218.out 0; have hfz8_1 := blk_frozen BK218.out 1) | ((with_reducible refine gate_callee (f := 53) rfl ?_); refine gl (some 6) Try.func53 #[.slice A0_0 l0_0.length c0_0] ?_; (with_reducible refine (laws_toInt64SS.calls k _ _ l0_0 t221 _ ?side1 ?side2 A2.out).mono ?_); (case side1 => repeat (first | exact (Kd.C_below HR0_0.out HB.out) | (with_reducible refine Kd.C_alloc ?_ _) | (with_reducible refine Kd.C_drewN ?_ _) | (with_reducible refine Kd.C_drew ?_))); (case side2 => exact HC0_0.out); rintro e w9 ⟨v222, rfl, ho0, hb⟩; refine ⟨_, rfl, ?_⟩; have HO223 := am (Kd.S_lower ho0 (below_size (bl HB.out))); replace BK218 := am (blk_below (pk BK218.out) hb); replace BK219 := am (blk_below (pk BK219.out) hb); replace BK220 := am (blk_below (pk BK220.out) hb); replace HB := am (below_step (bl HB.out) hb); (try clear hb); (try clear hb2); (try clear hk); (try clear hi); (try clear ho0); obtain ⟨Ao10, co10, eo10⟩ := Kd.S_slice HO223.out; subst eo10; have hnb11 := NB220_219.out; have hnc11 := NB219_220.out; have hcz12_0 : w9.cell? ⟨gb220, 0, none⟩ = some (.slice none 0 0) := bc BK220.out 0; have hcz12_1 : w9.cell? ⟨gb220, 1, none⟩ = some (.int .i64 0) := bc BK220.out 1; have hfz12_0 := blk_frozen BK220.out 0; have hfz12_1 := blk_frozen BK220.out 1; have hcz13_0 : w9.cell? ⟨gb218, 0, none⟩ = some (.slice A0_0 l0_0.length c0_0) := bc BK218.out 0; have hcz13_1 : w9.cell? ⟨gb218, 1, none⟩ = some (.int .i64 a0_1) := bc BK218.out 1; have hfz13_0 := blk_frozen BK218.out 0; have hfz13_1 := blk_frozen BK218.out 1; have hcz14_0 : w9.cell? ⟨gb219, 0, none⟩ = some (.slice none 0 0) := bc BK219.out 0; have hcz14_1 : w9.cell? ⟨gb219, 1, none⟩ = some (.int .i64 0) := bc BK219.out 1; have hfz14_0 := blk_frozen BK219.out 0; have hfz14_1 := blk_frozen BK219.out 1))
 refine bodyPost_ret (results_cell_row rfl _ _ gb219 50 #[.slice Ao10 t221.length co10, .int .i64 a0_1] (0, 0) _ rfl (by (with_reducible repeat (first | refine blk_drewN ?_ _ | refine blk_drew ?_ | refine blk_alloc ?_ _)); refine blk_put (cs := #[.slice Ao10 t221.length co10, .int .i64 0]) ?_ 1 _ rfl; (with_reducible repeat (first | refine blk_drewN ?_ _ | refine blk_drew ?_ | refine blk_alloc ?_ _)); refine blk_put (cs := #[.slice none 0 0, .int .i64 0]) ?_ 0 _ rfl; (with_reducible repeat (first | refine blk_drewN ?_ _ | refine blk_drew ?_ | refine blk_alloc ?_ _)); refine blk_far ?_ NB219_220.out _; (with_reducible repeat (first | refine blk_drewN ?_ _ | refine blk_drew ?_ | refine blk_alloc ?_ _)); refine blk_far ?_ NB219_220.out _; (with_reducible repeat (first | refine blk_drewN ?_ _ | refine blk_drew ?_ | refine blk_alloc ?_ _)); exact BK219.out) Try.underlying50 rfl (by kernel_rfl)) rfl ?_
 exact ⟨_, by first | rfl | (simp [errW_none, errW_some] <;> rfl) | (simp [*, errW_none, errW_some] <;> rfl), ks (Kd.S_mono (Kd.S_far (p := ⟨gb219, 1, none⟩) (Kd.S_far (p := ⟨gb219, 0, none⟩) (Kd.S_far (p := ⟨gb220, 1, none⟩) (Kd.S_far (p := ⟨gb220, 0, none⟩) (Kd.S_types (Kd.S_types HO223.out BK220.out (by decide)) BK219.out (by decide)) (fun _ hk => hk.1.2) (.slice Ao10 t221.length co10)) (fun _ hk => hk.1.2) (.int .i64 a0_1)) (fun _ hk => hk.2) (.slice Ao10 t221.length co10)) (fun _ hk => hk.2) (.int .i64 a0_1)) (fun _ hk => trivial)), by repeat (first | (with_reducible first | exact HB.out | apply below_alloc | apply pw_below_drewN | apply below_drew1 | refine below_set ?_ GE218.out | refine below_set ?_ GE219.out | refine below_set ?_ GE220.out) | exact HB.out)⟩

/-! ### impl_size_int64: function 55 -/
def impl_size_int64.f (l0 : List Int) : Option (Int) := some (l0.length : Int)
theorem impl_size_int64.calls (A0 : Option Addr) (c0 : Nat) (l0 : List Int) (r : Int) (w : World) (h : impl_size_int64.f l0 = some r) :
  Calls Try.prog 55 #[.slice A0 l0.length c0] w fun e w' => e = .returned (.int .i64 r) ∧ Drawn0 w w' := by
 obtain rfl := Option.some.inj h
 go_enter Try.func55, Try.ntmps55
 go_wp2
 go_ret
 exact ⟨by first | rfl | (simp; done), Drawn0.refl _⟩

end Go.Proofs.Ytejgkbejdkaccaa.PFnExactRingYank
