-- Written by xprint.py (this claim's own program, over the kit's printer); Lean checks it.
import Derived.Test.YtfkghjdhimhjjaaPFnExactUndoBackx0
import Derived.Test.YtfkghjdhimhjjaaPFnExactUndoBackx7
import Derived.Test.YtfkghjdhimhjjaaPFnExactUndoBackx8
namespace Go.Proofs.Ytfkghjdhimhjjaa.PFnExactUndoBack
open Go.RowKit Go.Proofs.YtfkghjdhimhjjaaW.PrintWords Go.Proofs.YtfkghjdhimhjjaaW.PrintLast Go.Proofs.YtfkghjdhimhjjaaW.PrintMore
attribute [local go_sem] max2_int min2_int max_two min_two max_three min_three max_four min_four   -- for this text's walks alone
set_option linter.unusedVariables false
set_option linter.unusedSimpArgs false   -- squeezed
set_option maxHeartbeats 8000000
set_option maxRecDepth 100000

/-! ### laws_eqUndoOut: function 42 -/
def laws_eqUndoOut.f (k : Nat) (l0_0 : List (S39)) (l0_1 : List (S39)) (l0_2 : List Int) (a0_3 : Int) (a0_4 : Int) (a0_5 : Int) (l1_0 : List (S39)) (l1_1 : List (S39)) (l1_2 : List Int) (a1_3 : Int) (a1_4 : Int) (a1_5 : Int) : Option (Bool) := (laws_eqUndo.f k l0_0 l0_1 l1_0 l1_1).bind fun t308 => (if t308 = true then ((laws_eqBuf.f k l0_2 a0_3 a0_4 l1_2 a1_3 a1_4).bind fun t309 => (if t309 = true then (if a0_5 = a1_5 then (some true) else (some false)) else (some false))) else (some false))
theorem laws_eqUndoOut.mono : ∀ a0 a1 a2 a3 a4 a5 a6 a7 a8 a9 a10 a11 k, LeO (laws_eqUndoOut.f k a0 a1 a2 a3 a4 a5 a6 a7 a8 a9 a10 a11) (laws_eqUndoOut.f (k + 1) a0 a1 a2 a3 a4 a5 a6 a7 a8 a9 a10 a11) := by
 intro a0 a1 a2 a3 a4 a5 a6 a7 a8 a9 a10 a11 k
 unfold laws_eqUndoOut.f
 repeat' first
   | (with_reducible exact laws_eqBuf.mono _ _ _ _ _ _ _)
   | (with_reducible exact laws_eqUndo.mono _ _ _ _ _)
   | (with_reducible exact LeO.refl _)
   | (with_reducible exact LeO.none _)
   | (with_reducible refine LeO.ite ?_ ?_)
   | (with_reducible refine LeO.bind ?_ (fun _ => ?_))
   | exact laws_eqBuf.mono _ _ _ _ _ _ _
   | exact laws_eqUndo.mono _ _ _ _ _
   | refine LeO.bind ?_ (fun _ => ?_)
theorem laws_eqUndoOut.calls (k : Nat) (A0_0 : Option Addr) (c0_0 : Nat) (l0_0 : List (S39)) (A0_1 : Option Addr) (c0_1 : Nat) (l0_1 : List (S39)) (A0_2 : Option Addr) (c0_2 : Nat) (l0_2 : List Int) (a0_3 : Int) (a0_4 : Int) (a0_5 : Int) (A1_0 : Option Addr) (c1_0 : Nat) (l1_0 : List (S39)) (A1_1 : Option Addr) (c1_1 : Nat) (l1_1 : List (S39)) (A1_2 : Option Addr) (c1_2 : Nat) (l1_2 : List Int) (a1_3 : Int) (a1_4 : Int) (a1_5 : Int) (r : Bool) (w : World) (hr0_0 : Kd.C k39 w A0_0 l0_0.length l0_0) (hc0_0 : l0_0.length ≤ c0_0) (hr0_1 : Kd.C k39 w A0_1 l0_1.length l0_1) (hc0_1 : l0_1.length ≤ c0_1) (hr0_2 : Kd.C (Kd.int .i64) w A0_2 l0_2.length l0_2) (hc0_2 : l0_2.length ≤ c0_2) (hr1_0 : Kd.C k39 w A1_0 l1_0.length l1_0) (hc1_0 : l1_0.length ≤ c1_0) (hr1_1 : Kd.C k39 w A1_1 l1_1.length l1_1) (hc1_1 : l1_1.length ≤ c1_1) (hr1_2 : Kd.C (Kd.int .i64) w A1_2 l1_2.length l1_2) (hc1_2 : l1_2.length ≤ c1_2) (h : laws_eqUndoOut.f k l0_0 l0_1 l0_2 a0_3 a0_4 a0_5 l1_0 l1_1 l1_2 a1_3 a1_4 a1_5 = some r) :
  Calls Try.prog 42 #[.agg #[.slice A0_0 l0_0.length c0_0, .slice A0_1 l0_1.length c0_1, .slice A0_2 l0_2.length c0_2, .int .i64 a0_3, .int .i64 a0_4, .int .i64 a0_5], .agg #[.slice A1_0 l1_0.length c1_0, .slice A1_1 l1_1.length c1_1, .slice A1_2 l1_2.length c1_2, .int .i64 a1_3, .int .i64 a1_4, .int .i64 a1_5]] w fun e w' => e = .returned (.bool r) ∧ Below w.heap.size w w' := by
 have hu43 := Try.underlying43
 have hu36 := Try.underlying36
 have hu39 := Try.underlying39
 have HR0_0 := am hr0_0
 have HC0_0 := am hc0_0
 clear hr0_0 hc0_0
 have HR0_1 := am hr0_1
 have HC0_1 := am hc0_1
 clear hr0_1 hc0_1
 have HR0_2 := am hr0_2
 have HC0_2 := am hc0_2
 clear hr0_2 hc0_2
 have HR1_0 := am hr1_0
 have HC1_0 := am hc1_0
 clear hr1_0 hc1_0
 have HR1_1 := am hr1_1
 have HC1_1 := am hc1_1
 clear hr1_1 hc1_1
 have HR1_2 := am hr1_2
 have HC1_2 := am hc1_2
 clear hr1_2 hc1_2
 have HB := am (Below.refl w.heap.size w)
 have H : ((laws_eqUndo.f k l0_0 l0_1 l1_0 l1_1).bind fun t308 => (if t308 = true then ((laws_eqBuf.f k l0_2 a0_3 a0_4 l1_2 a1_3 a1_4).bind fun t309 => (if t309 = true then (if a0_5 = a1_5 then (some true) else (some false)) else (some false))) else (some false))) = some r := h
 clear h
 replace H := Option.bind_eq_some_iff.mp H
 obtain ⟨t308, A30, H⟩ := H
 replace H : (if t308 = true then ((laws_eqBuf.f k l0_2 a0_3 a0_4 l1_2 a1_3 a1_4).bind fun t309 => (if t309 = true then (if a0_5 = a1_5 then (some true) else (some false)) else (some false))) else (some false)) = some r := H
 have A3 := Aside0.mk A30
 clear A30
 by_cases c4 : t308 = true
 ·subst c4
  have H1 : ((laws_eqBuf.f k l0_2 a0_3 a0_4 l1_2 a1_3 a1_4).bind fun t309 => (if t309 = true then (if a0_5 = a1_5 then (some true) else (some false)) else (some false))) = some r := by rw [if_pos rfl] at H; exact H
  clear H
  have H := H1
  clear H1
  replace H := Option.bind_eq_some_iff.mp H
  obtain ⟨t309, A50, H⟩ := H
  replace H : (if t309 = true then (if a0_5 = a1_5 then (some true) else (some false)) else (some false)) = some r := H
  have A5 := Aside0.mk A50
  clear A50
  by_cases c6 : t309 = true
  ·subst c6
   have H1 : (if a0_5 = a1_5 then (some true) else (some false)) = some r := by rw [if_pos rfl] at H; exact H
   clear H
   have H := H1
   clear H1
   by_cases c7 : a0_5 = a1_5
   ·rw [if_pos c7] at H
    have c7b0 : (a0_5 == a1_5) = true := beq_iff_eq.mpr c7
    have c7b1 : (a0_5 != a1_5) = false := bne_eq_false_iff_eq.mpr c7
    clear c7
    obtain rfl := Option.some.inj H
    go_enter Try.func42, Try.ntmps42
    go_wp2_with (first | ((with_reducible refine gate_dst (N := 2) rfl ?_); refine box_event ?hg (N := 2) ?hd (cs := #[.slice A0_0 l0_0.length c0_0, .slice A0_1 l0_1.length c0_1, .slice A0_2 l0_2.length c0_2, .int .i64 a0_3, .int .i64 a0_4, .int .i64 a0_5]) (t := 43) ?hr ?_; (case hd => rfl); (case hg => rfl); (case hr => first | (go_simp; done) | (go_simp; rfl)); intro gb306 hg w8 hbox hb; have BK306 := am (hbox); have GW306 := am ((by rw [hg]; exact (below_size (bl HB.out)) : w.heap.size ≤ gb306)); have GE306 := GW306; replace HB := am (below_step (bl HB.out) hb); clear hb hbox hg) | ((with_reducible refine gate_dst (N := 3) rfl ?_); refine box_event ?hg (N := 3) ?hd (cs := #[.slice A1_0 l1_0.length c1_0, .slice A1_1 l1_1.length c1_1, .slice A1_2 l1_2.length c1_2, .int .i64 a1_3, .int .i64 a1_4, .int .i64 a1_5]) (t := 43) ?hr ?_; (case hd => rfl); (case hg => rfl); (case hr => first | (go_simp; done) | (go_simp; rfl)); intro gb307 hg w9 hbox hb; have BK307 := am (hbox); have GW307 := am ((by rw [hg]; exact (below_size (bl HB.out)) : w.heap.size ≤ gb307)); have GE307 := GW307; replace HB := am (below_step (bl HB.out) hb); have NB306_307 := am ((by rw [hg]; exact Nat.ne_of_lt (blk_lt (pk BK306.out)) : gb306 ≠ gb307)); have NB307_306 := am ((by rw [hg]; exact Nat.ne_of_gt (blk_lt (pk BK306.out)) : gb307 ≠ gb306)); replace BK306 := am (blk_below (pk BK306.out) hb); clear hb hbox hg; have hnb10 := NB306_307.out; have hnc10 := NB307_306.out; have hcz11_0 : w9.cell? ⟨gb306, 0, none⟩ = some (.slice A0_0 l0_0.length c0_0) := bc BK306.out 0; have hcz11_1 : w9.cell? ⟨gb306, 1, none⟩ = some (.slice A0_1 l0_1.length c0_1) := bc BK306.out 1; have hcz11_2 : w9.cell? ⟨gb306, 2, none⟩ = some (.slice A0_2 l0_2.length c0_2) := bc BK306.out 2; have hcz11_3 : w9.cell? ⟨gb306, 3, none⟩ = some (.int .i64 a0_3) := bc BK306.out 3; have hcz11_4 : w9.cell? ⟨gb306, 4, none⟩ = some (.int .i64 a0_4) := bc BK306.out 4; have hcz11_5 : w9.cell? ⟨gb306, 5, none⟩ = some (.int .i64 a0_5) := bc BK306.out 5; have hcz12_0 : w9.cell? ⟨gb307, 0, none⟩ = some (.slice A1_0 l1_0.length c1_0) := bc BK307.out 0; have hcz12_1 : w9.cell? ⟨gb307, 1, none⟩ = some (.slice A1_1 l1_1.length c1_1) := bc BK307.out 1; have hcz12_2 : w9.cell? ⟨gb307, 2, none⟩ = some (.slice A1_2 l1_2.length c1_2) := bc BK307.out 2; have hcz12_3 : w9.cell? ⟨gb307, 3, none⟩ = some (.int .i64 a1_3) := bc BK307.out 3; have hcz12_4 : w9.cell? ⟨gb307, 4, none⟩ = some (.int .i64 a1_4) := bc BK307.out 4; have hcz12_5 : w9.cell? ⟨gb307, 5, none⟩ = some (.int .i64 a1_5) := bc BK307.out 5) | ((with_reducible refine gate_callee (f := 37) rfl ?_); refine gl (some 9) Try.func37 #[.agg #[.slice A0_0 l0_0.length c0_0, .slice A0_1 l0_1.length c0_1], .agg #[.slice A1_0 l1_0.length c1_0, .slice A1_1 l1_1.length c1_1]] ?_; (with_reducible refine (laws_eqUndo.calls k _ _ l0_0 _ _ l0_1 _ _ l1_0 _ _ l1_1 true _ ?side1 ?side2 ?side3 ?side4 ?side5 ?side6 ?side7 ?side8 A3.out).mono ?_); (case side1 => repeat (first | exact (Kd.C_below HR0_0.out HB.out) | (with_reducible refine Kd.C_alloc ?_ _) | (with_reducible refine Kd.C_drewN ?_ _) | (with_reducible refine Kd.C_drew ?_))); (case side2 => exact HC0_0.out); (case side3 => repeat (first | exact (Kd.C_below HR0_1.out HB.out) | (with_reducible refine Kd.C_alloc ?_ _) | (with_reducible refine Kd.C_drewN ?_ _) | (with_reducible refine Kd.C_drew ?_))); (case side4 => exact HC0_1.out); (case side5 => repeat (first | exact (Kd.C_below HR1_0.out HB.out) | (with_reducible refine Kd.C_alloc ?_ _) | (with_reducible refine Kd.C_drewN ?_ _) | (with_reducible refine Kd.C_drew ?_))); (case side6 => exact HC1_0.out); (case side7 => repeat (first | exact (Kd.C_below HR1_1.out HB.out) | (with_reducible refine Kd.C_alloc ?_ _) | (with_reducible refine Kd.C_drewN ?_ _) | (with_reducible refine Kd.C_drew ?_))); (case side8 => exact HC1_1.out); rintro e w13 ⟨rfl, hb⟩; refine ⟨_, rfl, ?_⟩; replace BK306 := am (blk_below (pk BK306.out) hb); replace BK307 := am (blk_below (pk BK307.out) hb); replace HB := am (below_step (bl HB.out) hb); (try clear hb); (try clear hb2); (try clear hk); (try clear hi); have hcz14_0 : w13.cell? ⟨gb306, 0, none⟩ = some (.slice A0_0 l0_0.length c0_0) := bc BK306.out 0; have hcz14_1 : w13.cell? ⟨gb306, 1, none⟩ = some (.slice A0_1 l0_1.length c0_1) := bc BK306.out 1; have hcz14_2 : w13.cell? ⟨gb306, 2, none⟩ = some (.slice A0_2 l0_2.length c0_2) := bc BK306.out 2; have hcz14_3 : w13.cell? ⟨gb306, 3, none⟩ = some (.int .i64 a0_3) := bc BK306.out 3; have hcz14_4 : w13.cell? ⟨gb306, 4, none⟩ = some (.int .i64 a0_4) := bc BK306.out 4; have hcz14_5 : w13.cell? ⟨gb306, 5, none⟩ = some (.int .i64 a0_5) := bc BK306.out 5; have hcz15_0 : w13.cell? ⟨gb307, 0, none⟩ = some (.slice A1_0 l1_0.length c1_0) := bc BK307.out 0; have hcz15_1 : w13.cell? ⟨gb307, 1, none⟩ = some (.slice A1_1 l1_1.length c1_1) := bc BK307.out 1; have hcz15_2 : w13.cell? ⟨gb307, 2, none⟩ = some (.slice A1_2 l1_2.length c1_2) := bc BK307.out 2; have hcz15_3 : w13.cell? ⟨gb307, 3, none⟩ = some (.int .i64 a1_3) := bc BK307.out 3; have hcz15_4 : w13.cell? ⟨gb307, 4, none⟩ = some (.int .i64 a1_4) := bc BK307.out 4; have hcz15_5 : w13.cell? ⟨gb307, 5, none⟩ = some (.int .i64 a1_5) := bc BK307.out 5) | ((with_reducible refine gate_callee (f := 38) rfl ?_); refine gl (some 15) Try.func38 #[.agg #[.slice A0_2 l0_2.length c0_2, .int .i64 a0_3, .int .i64 a0_4], .agg #[.slice A1_2 l1_2.length c1_2, .int .i64 a1_3, .int .i64 a1_4]] ?_; (with_reducible refine (laws_eqBuf.calls k _ _ l0_2 a0_3 a0_4 _ _ l1_2 a1_3 a1_4 true _ ?side1 ?side2 ?side3 ?side4 A5.out).mono ?_); (case side1 => repeat (first | exact (Kd.C_below HR0_2.out HB.out) | (with_reducible refine Kd.C_alloc ?_ _) | (with_reducible refine Kd.C_drewN ?_ _) | (with_reducible refine Kd.C_drew ?_))); (case side2 => exact HC0_2.out); (case side3 => repeat (first | exact (Kd.C_below HR1_2.out HB.out) | (with_reducible refine Kd.C_alloc ?_ _) | (with_reducible refine Kd.C_drewN ?_ _) | (with_reducible refine Kd.C_drew ?_))); (case side4 => exact HC1_2.out); rintro e w16 ⟨rfl, hb⟩; refine ⟨_, rfl, ?_⟩; replace BK306 := am (blk_below (pk BK306.out) hb); replace BK307 := am (blk_below (pk BK307.out) hb); replace HB := am (below_step (bl HB.out) hb); (try clear hb); (try clear hb2); (try clear hk); (try clear hi); have hcz17_0 : w16.cell? ⟨gb306, 0, none⟩ = some (.slice A0_0 l0_0.length c0_0) := bc BK306.out 0; have hcz17_1 : w16.cell? ⟨gb306, 1, none⟩ = some (.slice A0_1 l0_1.length c0_1) := bc BK306.out 1; have hcz17_2 : w16.cell? ⟨gb306, 2, none⟩ = some (.slice A0_2 l0_2.length c0_2) := bc BK306.out 2; have hcz17_3 : w16.cell? ⟨gb306, 3, none⟩ = some (.int .i64 a0_3) := bc BK306.out 3; have hcz17_4 : w16.cell? ⟨gb306, 4, none⟩ = some (.int .i64 a0_4) := bc BK306.out 4; have hcz17_5 : w16.cell? ⟨gb306, 5, none⟩ = some (.int .i64 a0_5) := bc BK306.out 5; have hcz18_0 : w16.cell? ⟨gb307, 0, none⟩ = some (.slice A1_0 l1_0.length c1_0) := bc BK307.out 0; have hcz18_1 : w16.cell? ⟨gb307, 1, none⟩ = some (.slice A1_1 l1_1.length c1_1) := bc BK307.out 1; have hcz18_2 : w16.cell? ⟨gb307, 2, none⟩ = some (.slice A1_2 l1_2.length c1_2) := bc BK307.out 2; have hcz18_3 : w16.cell? ⟨gb307, 3, none⟩ = some (.int .i64 a1_3) := bc BK307.out 3; have hcz18_4 : w16.cell? ⟨gb307, 4, none⟩ = some (.int .i64 a1_4) := bc BK307.out 4; have hcz18_5 : w16.cell? ⟨gb307, 5, none⟩ = some (.int .i64 a1_5) := bc BK307.out 5))
    go_ret
    exact ⟨by first | rfl | (simp [errW_none, errW_some] <;> rfl) | (simp [*, errW_none, errW_some] <;> rfl), by repeat (first | (with_reducible first | exact HB.out | apply below_alloc | apply pw_below_drewN | apply below_drew1 | refine below_set ?_ GE306.out | refine below_set ?_ GE307.out) | exact HB.out)⟩
   ·rw [if_neg c7] at H
    have c7b0 : (a0_5 == a1_5) = false := beq_eq_false_iff_ne.mpr c7
    have c7b1 : (a0_5 != a1_5) = true := bne_iff_ne.mpr c7
    obtain rfl := Option.some.inj H
    go_enter Try.func42, Try.ntmps42
    go_wp2_with (first | ((with_reducible refine gate_dst (N := 2) rfl ?_); refine box_event ?hg (N := 2) ?hd (cs := #[.slice A0_0 l0_0.length c0_0, .slice A0_1 l0_1.length c0_1, .slice A0_2 l0_2.length c0_2, .int .i64 a0_3, .int .i64 a0_4, .int .i64 a0_5]) (t := 43) ?hr ?_; (case hd => rfl); (case hg => rfl); (case hr => first | (go_simp; done) | (go_simp; rfl)); intro gb306 hg w19 hbox hb; have BK306 := am (hbox); have GW306 := am ((by rw [hg]; exact (below_size (bl HB.out)) : w.heap.size ≤ gb306)); have GE306 := GW306; replace HB := am (below_step (bl HB.out) hb); clear hb hbox hg) | ((with_reducible refine gate_dst (N := 3) rfl ?_); refine box_event ?hg (N := 3) ?hd (cs := #[.slice A1_0 l1_0.length c1_0, .slice A1_1 l1_1.length c1_1, .slice A1_2 l1_2.length c1_2, .int .i64 a1_3, .int .i64 a1_4, .int .i64 a1_5]) (t := 43) ?hr ?_; (case hd => rfl); (case hg => rfl); (case hr => first | (go_simp; done) | (go_simp; rfl)); intro gb307 hg w20 hbox hb; have BK307 := am (hbox); have GW307 := am ((by rw [hg]; exact (below_size (bl HB.out)) : w.heap.size ≤ gb307)); have GE307 := GW307; replace HB := am (below_step (bl HB.out) hb); have NB306_307 := am ((by rw [hg]; exact Nat.ne_of_lt (blk_lt (pk BK306.out)) : gb306 ≠ gb307)); have NB307_306 := am ((by rw [hg]; exact Nat.ne_of_gt (blk_lt (pk BK306.out)) : gb307 ≠ gb306)); replace BK306 := am (blk_below (pk BK306.out) hb); clear hb hbox hg; have hnb21 := NB306_307.out; have hnc21 := NB307_306.out; have hcz22_0 : w20.cell? ⟨gb306, 0, none⟩ = some (.slice A0_0 l0_0.length c0_0) := bc BK306.out 0; have hcz22_1 : w20.cell? ⟨gb306, 1, none⟩ = some (.slice A0_1 l0_1.length c0_1) := bc BK306.out 1; have hcz22_2 : w20.cell? ⟨gb306, 2, none⟩ = some (.slice A0_2 l0_2.length c0_2) := bc BK306.out 2; have hcz22_3 : w20.cell? ⟨gb306, 3, none⟩ = some (.int .i64 a0_3) := bc BK306.out 3; have hcz22_4 : w20.cell? ⟨gb306, 4, none⟩ = some (.int .i64 a0_4) := bc BK306.out 4; have hcz22_5 : w20.cell? ⟨gb306, 5, none⟩ = some (.int .i64 a0_5) := bc BK306.out 5; have hcz23_0 : w20.cell? ⟨gb307, 0, none⟩ = some (.slice A1_0 l1_0.length c1_0) := bc BK307.out 0; have hcz23_1 : w20.cell? ⟨gb307, 1, none⟩ = some (.slice A1_1 l1_1.length c1_1) := bc BK307.out 1; have hcz23_2 : w20.cell? ⟨gb307, 2, none⟩ = some (.slice A1_2 l1_2.length c1_2) := bc BK307.out 2; have hcz23_3 : w20.cell? ⟨gb307, 3, none⟩ = some (.int .i64 a1_3) := bc BK307.out 3; have hcz23_4 : w20.cell? ⟨gb307, 4, none⟩ = some (.int .i64 a1_4) := bc BK307.out 4; have hcz23_5 : w20.cell? ⟨gb307, 5, none⟩ = some (.int .i64 a1_5) := bc BK307.out 5) | ((with_reducible refine gate_callee (f := 37) rfl ?_); refine gl (some 9) Try.func37 #[.agg #[.slice A0_0 l0_0.length c0_0, .slice A0_1 l0_1.length c0_1], .agg #[.slice A1_0 l1_0.length c1_0, .slice A1_1 l1_1.length c1_1]] ?_; (with_reducible refine (laws_eqUndo.calls k _ _ l0_0 _ _ l0_1 _ _ l1_0 _ _ l1_1 true _ ?side1 ?side2 ?side3 ?side4 ?side5 ?side6 ?side7 ?side8 A3.out).mono ?_); (case side1 => repeat (first | exact (Kd.C_below HR0_0.out HB.out) | (with_reducible refine Kd.C_alloc ?_ _) | (with_reducible refine Kd.C_drewN ?_ _) | (with_reducible refine Kd.C_drew ?_))); (case side2 => exact HC0_0.out); (case side3 => repeat (first | exact (Kd.C_below HR0_1.out HB.out) | (with_reducible refine Kd.C_alloc ?_ _) | (with_reducible refine Kd.C_drewN ?_ _) | (with_reducible refine Kd.C_drew ?_))); (case side4 => exact HC0_1.out); (case side5 => repeat (first | exact (Kd.C_below HR1_0.out HB.out) | (with_reducible refine Kd.C_alloc ?_ _) | (with_reducible refine Kd.C_drewN ?_ _) | (with_reducible refine Kd.C_drew ?_))); (case side6 => exact HC1_0.out); (case side7 => repeat (first | exact (Kd.C_below HR1_1.out HB.out) | (with_reducible refine Kd.C_alloc ?_ _) | (with_reducible refine Kd.C_drewN ?_ _) | (with_reducible refine Kd.C_drew ?_))); (case side8 => exact HC1_1.out); rintro e w24 ⟨rfl, hb⟩; refine ⟨_, rfl, ?_⟩; replace BK306 := am (blk_below (pk BK306.out) hb); replace BK307 := am (blk_below (pk BK307.out) hb); replace HB := am (below_step (bl HB.out) hb); (try clear hb); (try clear hb2); (try clear hk); (try clear hi); have hcz25_0 : w24.cell? ⟨gb306, 0, none⟩ = some (.slice A0_0 l0_0.length c0_0) := bc BK306.out 0; have hcz25_1 : w24.cell? ⟨gb306, 1, none⟩ = some (.slice A0_1 l0_1.length c0_1) := bc BK306.out 1; have hcz25_2 : w24.cell? ⟨gb306, 2, none⟩ = some (.slice A0_2 l0_2.length c0_2) := bc BK306.out 2; have hcz25_3 : w24.cell? ⟨gb306, 3, none⟩ = some (.int .i64 a0_3) := bc BK306.out 3; have hcz25_4 : w24.cell? ⟨gb306, 4, none⟩ = some (.int .i64 a0_4) := bc BK306.out 4; have hcz25_5 : w24.cell? ⟨gb306, 5, none⟩ = some (.int .i64 a0_5) := bc BK306.out 5; have hcz26_0 : w24.cell? ⟨gb307, 0, none⟩ = some (.slice A1_0 l1_0.length c1_0) := bc BK307.out 0; have hcz26_1 : w24.cell? ⟨gb307, 1, none⟩ = some (.slice A1_1 l1_1.length c1_1) := bc BK307.out 1; have hcz26_2 : w24.cell? ⟨gb307, 2, none⟩ = some (.slice A1_2 l1_2.length c1_2) := bc BK307.out 2; have hcz26_3 : w24.cell? ⟨gb307, 3, none⟩ = some (.int .i64 a1_3) := bc BK307.out 3; have hcz26_4 : w24.cell? ⟨gb307, 4, none⟩ = some (.int .i64 a1_4) := bc BK307.out 4; have hcz26_5 : w24.cell? ⟨gb307, 5, none⟩ = some (.int .i64 a1_5) := bc BK307.out 5) | ((with_reducible refine gate_callee (f := 38) rfl ?_); refine gl (some 15) Try.func38 #[.agg #[.slice A0_2 l0_2.length c0_2, .int .i64 a0_3, .int .i64 a0_4], .agg #[.slice A1_2 l1_2.length c1_2, .int .i64 a1_3, .int .i64 a1_4]] ?_; (with_reducible refine (laws_eqBuf.calls k _ _ l0_2 a0_3 a0_4 _ _ l1_2 a1_3 a1_4 true _ ?side1 ?side2 ?side3 ?side4 A5.out).mono ?_); (case side1 => repeat (first | exact (Kd.C_below HR0_2.out HB.out) | (with_reducible refine Kd.C_alloc ?_ _) | (with_reducible refine Kd.C_drewN ?_ _) | (with_reducible refine Kd.C_drew ?_))); (case side2 => exact HC0_2.out); (case side3 => repeat (first | exact (Kd.C_below HR1_2.out HB.out) | (with_reducible refine Kd.C_alloc ?_ _) | (with_reducible refine Kd.C_drewN ?_ _) | (with_reducible refine Kd.C_drew ?_))); (case side4 => exact HC1_2.out); rintro e w27 ⟨rfl, hb⟩; refine ⟨_, rfl, ?_⟩; replace BK306 := am (blk_below (pk BK306.out) hb); replace BK307 := am (blk_below (pk BK307.out) hb); replace HB := am (below_step (bl HB.out) hb); (try clear hb); (try clear hb2); (try clear hk); (try clear hi); have hcz28_0 : w27.cell? ⟨gb306, 0, none⟩ = some (.slice A0_0 l0_0.length c0_0) := bc BK306.out 0; have hcz28_1 : w27.cell? ⟨gb306, 1, none⟩ = some (.slice A0_1 l0_1.length c0_1) := bc BK306.out 1; have hcz28_2 : w27.cell? ⟨gb306, 2, none⟩ = some (.slice A0_2 l0_2.length c0_2) := bc BK306.out 2; have hcz28_3 : w27.cell? ⟨gb306, 3, none⟩ = some (.int .i64 a0_3) := bc BK306.out 3; have hcz28_4 : w27.cell? ⟨gb306, 4, none⟩ = some (.int .i64 a0_4) := bc BK306.out 4; have hcz28_5 : w27.cell? ⟨gb306, 5, none⟩ = some (.int .i64 a0_5) := bc BK306.out 5; have hcz29_0 : w27.cell? ⟨gb307, 0, none⟩ = some (.slice A1_0 l1_0.length c1_0) := bc BK307.out 0; have hcz29_1 : w27.cell? ⟨gb307, 1, none⟩ = some (.slice A1_1 l1_1.length c1_1) := bc BK307.out 1; have hcz29_2 : w27.cell? ⟨gb307, 2, none⟩ = some (.slice A1_2 l1_2.length c1_2) := bc BK307.out 2; have hcz29_3 : w27.cell? ⟨gb307, 3, none⟩ = some (.int .i64 a1_3) := bc BK307.out 3; have hcz29_4 : w27.cell? ⟨gb307, 4, none⟩ = some (.int .i64 a1_4) := bc BK307.out 4; have hcz29_5 : w27.cell? ⟨gb307, 5, none⟩ = some (.int .i64 a1_5) := bc BK307.out 5))
    go_ret
    exact ⟨by first | rfl | (simp [errW_none, errW_some] <;> rfl) | (simp [*, errW_none, errW_some] <;> rfl), by repeat (first | (with_reducible first | exact HB.out | apply below_alloc | apply pw_below_drewN | apply below_drew1 | refine below_set ?_ GE306.out | refine below_set ?_ GE307.out) | exact HB.out)⟩
  ·replace c6 := Bool.eq_false_iff.mpr c6
   subst c6
   have H1 : (some false) = some r := by rw [if_neg (show ¬ (false = true) by decide)] at H; exact H
   clear H
   have H := H1
   clear H1
   obtain rfl := Option.some.inj H
   go_enter Try.func42, Try.ntmps42
   go_wp2_with (first | ((with_reducible refine gate_dst (N := 2) rfl ?_); refine box_event ?hg (N := 2) ?hd (cs := #[.slice A0_0 l0_0.length c0_0, .slice A0_1 l0_1.length c0_1, .slice A0_2 l0_2.length c0_2, .int .i64 a0_3, .int .i64 a0_4, .int .i64 a0_5]) (t := 43) ?hr ?_; (case hd => rfl); (case hg => rfl); (case hr => first | (go_simp; done) | (go_simp; rfl)); intro gb306 hg w30 hbox hb; have BK306 := am (hbox); have GW306 := am ((by rw [hg]; exact (below_size (bl HB.out)) : w.heap.size ≤ gb306)); have GE306 := GW306; replace HB := am (below_step (bl HB.out) hb); clear hb hbox hg) | ((with_reducible refine gate_dst (N := 3) rfl ?_); refine box_event ?hg (N := 3) ?hd (cs := #[.slice A1_0 l1_0.length c1_0, .slice A1_1 l1_1.length c1_1, .slice A1_2 l1_2.length c1_2, .int .i64 a1_3, .int .i64 a1_4, .int .i64 a1_5]) (t := 43) ?hr ?_; (case hd => rfl); (case hg => rfl); (case hr => first | (go_simp; done) | (go_simp; rfl)); intro gb307 hg w31 hbox hb; have BK307 := am (hbox); have GW307 := am ((by rw [hg]; exact (below_size (bl HB.out)) : w.heap.size ≤ gb307)); have GE307 := GW307; replace HB := am (below_step (bl HB.out) hb); have NB306_307 := am ((by rw [hg]; exact Nat.ne_of_lt (blk_lt (pk BK306.out)) : gb306 ≠ gb307)); have NB307_306 := am ((by rw [hg]; exact Nat.ne_of_gt (blk_lt (pk BK306.out)) : gb307 ≠ gb306)); replace BK306 := am (blk_below (pk BK306.out) hb); clear hb hbox hg; have hnb32 := NB306_307.out; have hnc32 := NB307_306.out; have hcz33_0 : w31.cell? ⟨gb306, 0, none⟩ = some (.slice A0_0 l0_0.length c0_0) := bc BK306.out 0; have hcz33_1 : w31.cell? ⟨gb306, 1, none⟩ = some (.slice A0_1 l0_1.length c0_1) := bc BK306.out 1; have hcz33_2 : w31.cell? ⟨gb306, 2, none⟩ = some (.slice A0_2 l0_2.length c0_2) := bc BK306.out 2; have hcz33_3 : w31.cell? ⟨gb306, 3, none⟩ = some (.int .i64 a0_3) := bc BK306.out 3; have hcz33_4 : w31.cell? ⟨gb306, 4, none⟩ = some (.int .i64 a0_4) := bc BK306.out 4; have hcz33_5 : w31.cell? ⟨gb306, 5, none⟩ = some (.int .i64 a0_5) := bc BK306.out 5; have hcz34_0 : w31.cell? ⟨gb307, 0, none⟩ = some (.slice A1_0 l1_0.length c1_0) := bc BK307.out 0; have hcz34_1 : w31.cell? ⟨gb307, 1, none⟩ = some (.slice A1_1 l1_1.length c1_1) := bc BK307.out 1; have hcz34_2 : w31.cell? ⟨gb307, 2, none⟩ = some (.slice A1_2 l1_2.length c1_2) := bc BK307.out 2; have hcz34_3 : w31.cell? ⟨gb307, 3, none⟩ = some (.int .i64 a1_3) := bc BK307.out 3; have hcz34_4 : w31.cell? ⟨gb307, 4, none⟩ = some (.int .i64 a1_4) := bc BK307.out 4; have hcz34_5 : w31.cell? ⟨gb307, 5, none⟩ = some (.int .i64 a1_5) := bc BK307.out 5) | ((with_reducible refine gate_callee (f := 37) rfl ?_); refine gl (some 9) Try.func37 #[.agg #[.slice A0_0 l0_0.length c0_0, .slice A0_1 l0_1.length c0_1], .agg #[.slice A1_0 l1_0.length c1_0, .slice A1_1 l1_1.length c1_1]] ?_; (with_reducible refine (laws_eqUndo.calls k _ _ l0_0 _ _ l0_1 _ _ l1_0 _ _ l1_1 true _ ?side1 ?side2 ?side3 ?side4 ?side5 ?side6 ?side7 ?side8 A3.out).mono ?_); (case side1 => repeat (first | exact (Kd.C_below HR0_0.out HB.out) | (with_reducible refine Kd.C_alloc ?_ _) | (with_reducible refine Kd.C_drewN ?_ _) | (with_reducible refine Kd.C_drew ?_))); (case side2 => exact HC0_0.out); (case side3 => repeat (first | exact (Kd.C_below HR0_1.out HB.out) | (with_reducible refine Kd.C_alloc ?_ _) | (with_reducible refine Kd.C_drewN ?_ _) | (with_reducible refine Kd.C_drew ?_))); (case side4 => exact HC0_1.out); (case side5 => repeat (first | exact (Kd.C_below HR1_0.out HB.out) | (with_reducible refine Kd.C_alloc ?_ _) | (with_reducible refine Kd.C_drewN ?_ _) | (with_reducible refine Kd.C_drew ?_))); (case side6 => exact HC1_0.out); (case side7 => repeat (first | exact (Kd.C_below HR1_1.out HB.out) | (with_reducible refine Kd.C_alloc ?_ _) | (with_reducible refine Kd.C_drewN ?_ _) | (with_reducible refine Kd.C_drew ?_))); (case side8 => exact HC1_1.out); rintro e w35 ⟨rfl, hb⟩; refine ⟨_, rfl, ?_⟩; replace BK306 := am (blk_below (pk BK306.out) hb); replace BK307 := am (blk_below (pk BK307.out) hb); replace HB := am (below_step (bl HB.out) hb); (try clear hb); (try clear hb2); (try clear hk); (try clear hi); have hcz36_0 : w35.cell? ⟨gb306, 0, none⟩ = some (.slice A0_0 l0_0.length c0_0) := bc BK306.out 0; have hcz36_1 : w35.cell? ⟨gb306, 1, none⟩ = some (.slice A0_1 l0_1.length c0_1) := bc BK306.out 1; have hcz36_2 : w35.cell? ⟨gb306, 2, none⟩ = some (.slice A0_2 l0_2.length c0_2) := bc BK306.out 2; have hcz36_3 : w35.cell? ⟨gb306, 3, none⟩ = some (.int .i64 a0_3) := bc BK306.out 3; have hcz36_4 : w35.cell? ⟨gb306, 4, none⟩ = some (.int .i64 a0_4) := bc BK306.out 4; have hcz36_5 : w35.cell? ⟨gb306, 5, none⟩ = some (.int .i64 a0_5) := bc BK306.out 5; have hcz37_0 : w35.cell? ⟨gb307, 0, none⟩ = some (.slice A1_0 l1_0.length c1_0) := bc BK307.out 0; have hcz37_1 : w35.cell? ⟨gb307, 1, none⟩ = some (.slice A1_1 l1_1.length c1_1) := bc BK307.out 1; have hcz37_2 : w35.cell? ⟨gb307, 2, none⟩ = some (.slice A1_2 l1_2.length c1_2) := bc BK307.out 2; have hcz37_3 : w35.cell? ⟨gb307, 3, none⟩ = some (.int .i64 a1_3) := bc BK307.out 3; have hcz37_4 : w35.cell? ⟨gb307, 4, none⟩ = some (.int .i64 a1_4) := bc BK307.out 4; have hcz37_5 : w35.cell? ⟨gb307, 5, none⟩ = some (.int .i64 a1_5) := bc BK307.out 5) | ((with_reducible refine gate_callee (f := 38) rfl ?_); refine gl (some 15) Try.func38 #[.agg #[.slice A0_2 l0_2.length c0_2, .int .i64 a0_3, .int .i64 a0_4], .agg #[.slice A1_2 l1_2.length c1_2, .int .i64 a1_3, .int .i64 a1_4]] ?_; (with_reducible refine (laws_eqBuf.calls k _ _ l0_2 a0_3 a0_4 _ _ l1_2 a1_3 a1_4 false _ ?side1 ?side2 ?side3 ?side4 A5.out).mono ?_); (case side1 => repeat (first | exact (Kd.C_below HR0_2.out HB.out) | (with_reducible refine Kd.C_alloc ?_ _) | (with_reducible refine Kd.C_drewN ?_ _) | (with_reducible refine Kd.C_drew ?_))); (case side2 => exact HC0_2.out); (case side3 => repeat (first | exact (Kd.C_below HR1_2.out HB.out) | (with_reducible refine Kd.C_alloc ?_ _) | (with_reducible refine Kd.C_drewN ?_ _) | (with_reducible refine Kd.C_drew ?_))); (case side4 => exact HC1_2.out); rintro e w38 ⟨rfl, hb⟩; refine ⟨_, rfl, ?_⟩; replace BK306 := am (blk_below (pk BK306.out) hb); replace BK307 := am (blk_below (pk BK307.out) hb); replace HB := am (below_step (bl HB.out) hb); (try clear hb); (try clear hb2); (try clear hk); (try clear hi)))
   go_ret
   exact ⟨by first | rfl | (simp [errW_none, errW_some] <;> rfl) | (simp [*, errW_none, errW_some] <;> rfl), by repeat (first | (with_reducible first | exact HB.out | apply below_alloc | apply pw_below_drewN | apply below_drew1 | refine below_set ?_ GE306.out | refine below_set ?_ GE307.out) | exact HB.out)⟩
 ·replace c4 := Bool.eq_false_iff.mpr c4
  subst c4
  have H1 : (some false) = some r := by rw [if_neg (show ¬ (false = true) by decide)] at H; exact H
  clear H
  have H := H1
  clear H1
  obtain rfl := Option.some.inj H
  go_enter Try.func42, Try.ntmps42
  go_wp2_with (first | ((with_reducible refine gate_dst (N := 2) rfl ?_); refine box_event ?hg (N := 2) ?hd (cs := #[.slice A0_0 l0_0.length c0_0, .slice A0_1 l0_1.length c0_1, .slice A0_2 l0_2.length c0_2, .int .i64 a0_3, .int .i64 a0_4, .int .i64 a0_5]) (t := 43) ?hr ?_; (case hd => rfl); (case hg => rfl); (case hr => first | (go_simp; done) | (go_simp; rfl)); intro gb306 hg w39 hbox hb; have BK306 := am (hbox); have GW306 := am ((by rw [hg]; exact (below_size (bl HB.out)) : w.heap.size ≤ gb306)); have GE306 := GW306; replace HB := am (below_step (bl HB.out) hb); clear hb hbox hg) | ((with_reducible refine gate_dst (N := 3) rfl ?_); refine box_event ?hg (N := 3) ?hd (cs := #[.slice A1_0 l1_0.length c1_0, .slice A1_1 l1_1.length c1_1, .slice A1_2 l1_2.length c1_2, .int .i64 a1_3, .int .i64 a1_4, .int .i64 a1_5]) (t := 43) ?hr ?_; (case hd => rfl); (case hg => rfl); (case hr => first | (go_simp; done) | (go_simp; rfl)); intro gb307 hg w40 hbox hb; have BK307 := am (hbox); have GW307 := am ((by rw [hg]; exact (below_size (bl HB.out)) : w.heap.size ≤ gb307)); have GE307 := GW307; replace HB := am (below_step (bl HB.out) hb); have NB306_307 := am ((by rw [hg]; exact Nat.ne_of_lt (blk_lt (pk BK306.out)) : gb306 ≠ gb307)); have NB307_306 := am ((by rw [hg]; exact Nat.ne_of_gt (blk_lt (pk BK306.out)) : gb307 ≠ gb306)); replace BK306 := am (blk_below (pk BK306.out) hb); clear hb hbox hg; have hnb41 := NB306_307.out; have hnc41 := NB307_306.out; have hcz42_0 : w40.cell? ⟨gb306, 0, none⟩ = some (.slice A0_0 l0_0.length c0_0) := bc BK306.out 0; have hcz42_1 : w40.cell? ⟨gb306, 1, none⟩ = some (.slice A0_1 l0_1.length c0_1) := bc BK306.out 1; have hcz42_2 : w40.cell? ⟨gb306, 2, none⟩ = some (.slice A0_2 l0_2.length c0_2) := bc BK306.out 2; have hcz42_3 : w40.cell? ⟨gb306, 3, none⟩ = some (.int .i64 a0_3) := bc BK306.out 3; have hcz42_4 : w40.cell? ⟨gb306, 4, none⟩ = some (.int .i64 a0_4) := bc BK306.out 4; have hcz42_5 : w40.cell? ⟨gb306, 5, none⟩ = some (.int .i64 a0_5) := bc BK306.out 5; have hcz43_0 : w40.cell? ⟨gb307, 0, none⟩ = some (.slice A1_0 l1_0.length c1_0) := bc BK307.out 0; have hcz43_1 : w40.cell? ⟨gb307, 1, none⟩ = some (.slice A1_1 l1_1.length c1_1) := bc BK307.out 1; have hcz43_2 : w40.cell? ⟨gb307, 2, none⟩ = some (.slice A1_2 l1_2.length c1_2) := bc BK307.out 2; have hcz43_3 : w40.cell? ⟨gb307, 3, none⟩ = some (.int .i64 a1_3) := bc BK307.out 3; have hcz43_4 : w40.cell? ⟨gb307, 4, none⟩ = some (.int .i64 a1_4) := bc BK307.out 4; have hcz43_5 : w40.cell? ⟨gb307, 5, none⟩ = some (.int .i64 a1_5) := bc BK307.out 5) | ((with_reducible refine gate_callee (f := 37) rfl ?_); refine gl (some 9) Try.func37 #[.agg #[.slice A0_0 l0_0.length c0_0, .slice A0_1 l0_1.length c0_1], .agg #[.slice A1_0 l1_0.length c1_0, .slice A1_1 l1_1.length c1_1]] ?_; (with_reducible refine (laws_eqUndo.calls k _ _ l0_0 _ _ l0_1 _ _ l1_0 _ _ l1_1 false _ ?side1 ?side2 ?side3 ?side4 ?side5 ?side6 ?side7 ?side8 A3.out).mono ?_); (case side1 => repeat (first | exact (Kd.C_below HR0_0.out HB.out) | (with_reducible refine Kd.C_alloc ?_ _) | (with_reducible refine Kd.C_drewN ?_ _) | (with_reducible refine Kd.C_drew ?_))); (case side2 => exact HC0_0.out); (case side3 => repeat (first | exact (Kd.C_below HR0_1.out HB.out) | (with_reducible refine Kd.C_alloc ?_ _) | (with_reducible refine Kd.C_drewN ?_ _) | (with_reducible refine Kd.C_drew ?_))); (case side4 => exact HC0_1.out); (case side5 => repeat (first | exact (Kd.C_below HR1_0.out HB.out) | (with_reducible refine Kd.C_alloc ?_ _) | (with_reducible refine Kd.C_drewN ?_ _) | (with_reducible refine Kd.C_drew ?_))); (case side6 => exact HC1_0.out); (case side7 => repeat (first | exact (Kd.C_below HR1_1.out HB.out) | (with_reducible refine Kd.C_alloc ?_ _) | (with_reducible refine Kd.C_drewN ?_ _) | (with_reducible refine Kd.C_drew ?_))); (case side8 => exact HC1_1.out); rintro e w44 ⟨rfl, hb⟩; refine ⟨_, rfl, ?_⟩; replace BK306 := am (blk_below (pk BK306.out) hb); replace BK307 := am (blk_below (pk BK307.out) hb); replace HB := am (below_step (bl HB.out) hb); (try clear hb); (try clear hb2); (try clear hk); (try clear hi)))
  go_ret
  exact ⟨by first | rfl | (simp [errW_none, errW_some] <;> rfl) | (simp [*, errW_none, errW_some] <;> rfl), by repeat (first | (with_reducible first | exact HB.out | apply below_alloc | apply pw_below_drewN | apply below_drew1 | refine below_set ?_ GE306.out | refine below_set ?_ GE307.out) | exact HB.out)⟩

/-! ### laws_markUndoOut: function 43 -/
def laws_markUndoOut.f (k : Nat) (l0_0 : List (S39)) (l0_1 : List (S39)) (l0_2 : List Int) (a0_3 : Int) (a0_4 : Int) (a0_5 : Int) (a1 : Int) : Option (Int × List (S39) × List (S39) × List Int) := (laws_markUndo.f k l0_0 l0_1 a1).bind fun b0 => (laws_markBuf.f k l0_2 a0_3 a0_4 b0.1).bind fun b1 => some (b1.1, b0.2.1, b0.2.2, b1.2)
theorem laws_markUndoOut.marks (k : Nat) (P0_0_ : Nat → Prop) (u0_0_ : Value) (P0_1_ : Nat → Prop) (u0_1_ : Value) (P0_2_ : Nat → Prop) (u0_2_ : Value) (l0_0 : List (S39)) (l0_1 : List (S39)) (l0_2 : List Int) (a0_3 : Int) (a0_4 : Int) (a0_5 : Int) (a1 r1 : Int) (r0_0_ : List (S39)) (r0_1_ : List (S39)) (r0_2_ : List Int) (w0 w : World) (hB : Below w0.heap.size w0 w) (ho0_0 : Kd.S k39 39 w w0.heap.size P0_0_ u0_0_ l0_0) (ho0_1 : Kd.S k39 39 w w0.heap.size P0_1_ u0_1_ l0_1) (ho0_2 : Kd.R (Kd.int .i64) 2 w w0.heap.size P0_2_ u0_2_ l0_2) (hp0_0_0_1 : ∀ k_, P0_0_ k_ → ¬ P0_1_ k_) (hp0_0_0_2 : ∀ k_, P0_0_ k_ → ¬ P0_2_ k_) (hp0_1_0_2 : ∀ k_, P0_1_ k_ → ¬ P0_2_ k_) (h : laws_markUndoOut.f k l0_0 l0_1 l0_2 a0_3 a0_4 a0_5 a1 = some (r1, r0_0_, r0_1_, r0_2_)) :
 Calls Try.prog 43 #[.agg #[u0_0_, u0_1_, u0_2_, .int .i64 a0_3, .int .i64 a0_4, .int .i64 a0_5], .int .i64 a1] w fun e w' => e = .returned (.int .i64 r1) ∧ Kd.S k39 39 w' w0.heap.size P0_0_ u0_0_ r0_0_ ∧ Kd.S k39 39 w' w0.heap.size P0_1_ u0_1_ r0_1_ ∧ Kd.R (Kd.int .i64) 2 w' w0.heap.size P0_2_ u0_2_ r0_2_ ∧ Below w0.heap.size w0 w' ∧ Kept w w' (fun k_ => P0_0_ k_ ∨ P0_1_ k_ ∨ P0_2_ k_) := by
 have HO0_0 := am (Kd.S_mono (ok' := fun k_ => P0_0_ k_ ∧ k_ < w.heap.size) (Kd.S_bound ho0_0) (fun k_ hk_ => ⟨hk_.1, hk_.2.2.1⟩))
 have HO0_1 := am (Kd.S_mono (ok' := fun k_ => P0_1_ k_ ∧ k_ < w.heap.size) (Kd.S_bound ho0_1) (fun k_ hk_ => ⟨hk_.1, hk_.2.2.1⟩))
 have HO0_2 := am (Kd.R_mono (ok' := fun k_ => P0_2_ k_ ∧ k_ < w.heap.size) (Kd.R_bound ho0_2) (fun k_ hk_ => ⟨hk_.1, hk_.2.2.1⟩))
 obtain ⟨A0_0_, c0_0_, eu0_0⟩ := Kd.S_slice HO0_0.out
 subst eu0_0
 obtain ⟨A0_1_, c0_1_, eu0_1⟩ := Kd.S_slice HO0_1.out
 subst eu0_1
 obtain ⟨A0_2_, c0_2_, eu0_2⟩ := Kd.R_slice HO0_2.out
 subst eu0_2
 have HK := am (Kept.refl w (fun k_ => P0_0_ k_ ∨ P0_1_ k_ ∨ P0_2_ k_))
 have HB := am hB
 clear hB ho0_0 ho0_1 ho0_2
 have H : ((laws_markUndo.f k l0_0 l0_1 a1).bind fun b0 => (laws_markBuf.f k l0_2 a0_3 a0_4 b0.1).bind fun b1 => some (b1.1, b0.2.1, b0.2.2, b1.2)) = some (r1, r0_0_, r0_1_, r0_2_) := h
 clear h
 obtain ⟨⟨t0, t0_0_0, t0_0_1⟩, E0, H⟩ := Option.bind_eq_some_iff.mp H
 (try dsimp only at H)
 have A0 := Aside0.mk E0
 clear E0
 obtain ⟨⟨t1, t1_0_2⟩, E1, H⟩ := Option.bind_eq_some_iff.mp H
 (try dsimp only at H)
 have A1 := Aside0.mk E1
 clear E1
 simp only [Option.some.injEq, Prod.mk.injEq] at H
 obtain ⟨rfl, rfl, rfl, rfl⟩ := H
 go_enter Try.func43, Try.ntmps43
 go_wp2_with (first | ((with_reducible refine gate_dst (N := 2) rfl ?_); refine box_event ?hg (N := 2) ?hd (cs := #[.slice A0_0_ l0_0.length c0_0_, .slice A0_1_ l0_1.length c0_1_, .slice A0_2_ l0_2.length c0_2_, .int .i64 a0_3, .int .i64 a0_4, .int .i64 a0_5]) (t := 43) ?hr ?_; (case hd => rfl); (case hg => rfl); (case hr => first | (go_simp; done) | (go_simp; rfl)); intro gb hg wb hbox hb; have BK := am hbox; have GB : w.heap.size ≤ gb := (by rw [hg]; exact Nat.le_refl _); replace HO0_0 := am (Kd.S_below (ks HO0_0.out) hb); replace HO0_1 := am (Kd.S_below (ks HO0_1.out) hb); replace HO0_2 := am (Kd.R_below (kr HO0_2.out) hb); replace HB := am (below_then HB.out HB.out.size hb); replace HK := am (Kept.below (by repeat (first | (with_reducible first | exact HK.out | apply Kept.alloc | apply Kept.drewN | apply Kept.drew) | exact HK.out)) hb); clear hb hbox hg; have hc_0 : wb.cell? ⟨gb, 0, none⟩ = some (.slice A0_0_ l0_0.length c0_0_) := (blk_cell BK.out 0).trans rfl; have hc_1 : wb.cell? ⟨gb, 1, none⟩ = some (.slice A0_1_ l0_1.length c0_1_) := (blk_cell BK.out 1).trans rfl; have hc_2 : wb.cell? ⟨gb, 2, none⟩ = some (.slice A0_2_ l0_2.length c0_2_) := (blk_cell BK.out 2).trans rfl; have hc_3 : wb.cell? ⟨gb, 3, none⟩ = some (.int .i64 a0_3) := (blk_cell BK.out 3).trans rfl; have hc_4 : wb.cell? ⟨gb, 4, none⟩ = some (.int .i64 a0_4) := (blk_cell BK.out 4).trans rfl; have hc_5 : wb.cell? ⟨gb, 5, none⟩ = some (.int .i64 a0_5) := (blk_cell BK.out 5).trans rfl) | ((go_at_call 39); (with_reducible refine (laws_markUndo.marks k (fun k_ => P0_0_ k_ ∧ k_ < w.heap.size) (.slice A0_0_ l0_0.length c0_0_) (fun k_ => P0_1_ k_ ∧ k_ < w.heap.size) (.slice A0_1_ l0_1.length c0_1_) l0_0 l0_1 a1 t0 t0_0_0 t0_0_1 w0 _ ?s0 ?s1 ?s2 ?s3 A0.out).mono ?_); (case s0 => repeat (first | (with_reducible first | exact HB.out | apply below_alloc | apply pw_below_drewN | apply below_drew1) | exact HB.out)); (case s1 => ((with_reducible repeat (first | apply Kd.S_alloc | apply Kd.S_drewN | apply Kd.S_drew)); exact HO0_0.out)); (case s2 => ((with_reducible repeat (first | apply Kd.S_alloc | apply Kd.S_drewN | apply Kd.S_drew)); exact HO0_1.out)); (case s3 => exact fun k_ h1_ h2_ => hp0_0_0_1 k_ h1_.1 h2_.1); rintro e wm0 ⟨rfl, hy0_0, hy0_1, hb, hkp⟩; replace HO0_0 := am (hy0_0); replace HO0_1 := am (hy0_1); replace HO0_2 := am (Kd.R_kept (ok := fun k_ => P0_2_ k_ ∧ k_ < w.heap.size) (kr HO0_2.out) hkp (fun k_ hk_ hs_ => Or.elim hs_ (fun z_ => hp0_0_0_2 k_ z_.1 hk_.1) (fun z_ => hp0_1_0_2 k_ z_.1 hk_.1))); replace BK := am (blk_kept (g := gb) (o := .cells #[.slice A0_0_ l0_0.length c0_0_, .slice A0_1_ l0_1.length c0_1_, .slice A0_2_ l0_2.length c0_2_, .int .i64 a0_3, .int .i64 a0_4, .int .i64 a0_5] 43 (0, 0)) (pk BK.out) hkp (fun hs_ => Or.elim hs_ (fun z_ => absurd z_.2 (Nat.not_lt.2 GB)) (fun z_ => absurd z_.2 (Nat.not_lt.2 GB)))); replace HB := am (hb); replace HK := am (Kept.then_ (S := (fun k_ => P0_0_ k_ ∨ P0_1_ k_ ∨ P0_2_ k_)) (by repeat (first | (with_reducible first | exact HK.out | apply Kept.alloc | apply Kept.drewN | apply Kept.drew) | exact HK.out)) hkp (fun k_ hs_ => Or.elim hs_ (fun z_ => (.inl (.inl z_.1))) (fun z_ => (.inl (.inr (.inl z_.1)))))); clear hb hkp; have hc_0 : wm0.cell? ⟨gb, 0, none⟩ = some (.slice A0_0_ l0_0.length c0_0_) := (blk_cell BK.out 0).trans rfl; have hc_1 : wm0.cell? ⟨gb, 1, none⟩ = some (.slice A0_1_ l0_1.length c0_1_) := (blk_cell BK.out 1).trans rfl; have hc_2 : wm0.cell? ⟨gb, 2, none⟩ = some (.slice A0_2_ l0_2.length c0_2_) := (blk_cell BK.out 2).trans rfl; have hc_3 : wm0.cell? ⟨gb, 3, none⟩ = some (.int .i64 a0_3) := (blk_cell BK.out 3).trans rfl; have hc_4 : wm0.cell? ⟨gb, 4, none⟩ = some (.int .i64 a0_4) := (blk_cell BK.out 4).trans rfl; have hc_5 : wm0.cell? ⟨gb, 5, none⟩ = some (.int .i64 a0_5) := (blk_cell BK.out 5).trans rfl) | ((go_at_call 40); (with_reducible refine (laws_markBuf.marks k (fun k_ => P0_2_ k_ ∧ k_ < w.heap.size) (.slice A0_2_ l0_2.length c0_2_) l0_2 a0_3 a0_4 t0 t1 t1_0_2 w0 _ ?s0 ?s1 A1.out).mono ?_); (case s0 => repeat (first | (with_reducible first | exact HB.out | apply below_alloc | apply pw_below_drewN | apply below_drew1) | exact HB.out)); (case s1 => ((with_reducible repeat (first | apply Kd.R_alloc | apply Kd.R_drewN | apply Kd.R_drew)); exact HO0_2.out)); rintro e wm1 ⟨rfl, hy0_2, hb, hkp⟩; replace HO0_0 := am (Kd.S_kept (ok := fun k_ => P0_0_ k_ ∧ k_ < w.heap.size) (ks HO0_0.out) hkp (fun k_ hk_ hs_ => hp0_0_0_2 k_ hk_.1 hs_.1)); replace HO0_1 := am (Kd.S_kept (ok := fun k_ => P0_1_ k_ ∧ k_ < w.heap.size) (ks HO0_1.out) hkp (fun k_ hk_ hs_ => hp0_1_0_2 k_ hk_.1 hs_.1)); replace HO0_2 := am (hy0_2); replace BK := am (blk_kept (g := gb) (o := .cells #[.slice A0_0_ l0_0.length c0_0_, .slice A0_1_ l0_1.length c0_1_, .slice A0_2_ l0_2.length c0_2_, .int .i64 a0_3, .int .i64 a0_4, .int .i64 a0_5] 43 (0, 0)) (pk BK.out) hkp (fun hs_ => absurd hs_.2 (Nat.not_lt.2 GB))); replace HB := am (hb); replace HK := am (Kept.then_ (S := (fun k_ => P0_0_ k_ ∨ P0_1_ k_ ∨ P0_2_ k_)) (by repeat (first | (with_reducible first | exact HK.out | apply Kept.alloc | apply Kept.drewN | apply Kept.drew) | exact HK.out)) hkp (fun k_ hs_ => (.inl (.inr (.inr hs_.1))))); clear hb hkp; have hc_0 : wm1.cell? ⟨gb, 0, none⟩ = some (.slice A0_0_ l0_0.length c0_0_) := (blk_cell BK.out 0).trans rfl; have hc_1 : wm1.cell? ⟨gb, 1, none⟩ = some (.slice A0_1_ l0_1.length c0_1_) := (blk_cell BK.out 1).trans rfl; have hc_2 : wm1.cell? ⟨gb, 2, none⟩ = some (.slice A0_2_ l0_2.length c0_2_) := (blk_cell BK.out 2).trans rfl; have hc_3 : wm1.cell? ⟨gb, 3, none⟩ = some (.int .i64 a0_3) := (blk_cell BK.out 3).trans rfl; have hc_4 : wm1.cell? ⟨gb, 4, none⟩ = some (.int .i64 a0_4) := (blk_cell BK.out 4).trans rfl; have hc_5 : wm1.cell? ⟨gb, 5, none⟩ = some (.int .i64 a0_5) := (blk_cell BK.out 5).trans rfl))
 go_ret
 exact ⟨by first | rfl | (simp [*]; done), Kd.S_mono (ok := fun k_ => P0_0_ k_ ∧ k_ < w.heap.size) (ks HO0_0.out) (fun k_ hk_ => hk_.1), Kd.S_mono (ok := fun k_ => P0_1_ k_ ∧ k_ < w.heap.size) (ks HO0_1.out) (fun k_ hk_ => hk_.1), Kd.R_mono (ok := fun k_ => P0_2_ k_ ∧ k_ < w.heap.size) (kr HO0_2.out) (fun k_ hk_ => hk_.1), by repeat (first | (with_reducible first | exact HB.out | apply below_alloc | apply pw_below_drewN | apply below_drew1) | exact HB.out), by repeat (first | (with_reducible first | exact HK.out | apply Kept.alloc | apply Kept.drewN | apply Kept.drew) | exact HK.out)⟩
theorem laws_markUndoOut.marksT (k : Nat) (P0_0_ : Nat → Prop) (u0_0_ : Value) (P0_1_ : Nat → Prop) (u0_1_ : Value) (P0_2_ : Nat → Prop) (u0_2_ : Value) (l0_0 : List (S39)) (l0_1 : List (S39)) (l0_2 : List Int) (a0_3 : Int) (a0_4 : Int) (a0_5 : Int) (a1 r1 : Int) (r0_0_ : List (S39)) (r0_1_ : List (S39)) (r0_2_ : List Int) (w0 w : World) (hB : Below w0.heap.size w0 w) (ho0_0 : Kd.T k39 39 w w0.heap.size P0_0_ u0_0_ l0_0) (ho0_1 : Kd.T k39 39 w w0.heap.size P0_1_ u0_1_ l0_1) (ho0_2 : Kd.R (Kd.int .i64) 2 w w0.heap.size P0_2_ u0_2_ l0_2) (hp0_0_0_1 : ∀ k_, P0_0_ k_ → ¬ P0_1_ k_) (hp0_0_0_2 : ∀ k_, P0_0_ k_ → ¬ P0_2_ k_) (hp0_1_0_2 : ∀ k_, P0_1_ k_ → ¬ P0_2_ k_) (h : laws_markUndoOut.f k l0_0 l0_1 l0_2 a0_3 a0_4 a0_5 a1 = some (r1, r0_0_, r0_1_, r0_2_)) :
 Calls Try.prog 43 #[.agg #[u0_0_, u0_1_, u0_2_, .int .i64 a0_3, .int .i64 a0_4, .int .i64 a0_5], .int .i64 a1] w fun e w' => e = .returned (.int .i64 r1) ∧ Kd.T k39 39 w' w0.heap.size P0_0_ u0_0_ r0_0_ ∧ Kd.T k39 39 w' w0.heap.size P0_1_ u0_1_ r0_1_ ∧ Kd.R (Kd.int .i64) 2 w' w0.heap.size P0_2_ u0_2_ r0_2_ ∧ Below w0.heap.size w0 w' ∧ Kept w w' (fun k_ => P0_0_ k_ ∨ P0_1_ k_ ∨ P0_2_ k_) := by
 have HO0_0 := am (Kd.T_mono (ok' := fun k_ => P0_0_ k_ ∧ k_ < w.heap.size) (Kd.T_bound ho0_0) (fun k_ hk_ => ⟨hk_.1, hk_.2.2.1⟩))
 have HO0_1 := am (Kd.T_mono (ok' := fun k_ => P0_1_ k_ ∧ k_ < w.heap.size) (Kd.T_bound ho0_1) (fun k_ hk_ => ⟨hk_.1, hk_.2.2.1⟩))
 have HO0_2 := am (Kd.R_mono (ok' := fun k_ => P0_2_ k_ ∧ k_ < w.heap.size) (Kd.R_bound ho0_2) (fun k_ hk_ => ⟨hk_.1, hk_.2.2.1⟩))
 obtain ⟨A0_0_, c0_0_, eu0_0, _⟩ := Kd.T_slice HO0_0.out
 subst eu0_0
 obtain ⟨A0_1_, c0_1_, eu0_1, _⟩ := Kd.T_slice HO0_1.out
 subst eu0_1
 obtain ⟨A0_2_, c0_2_, eu0_2⟩ := Kd.R_slice HO0_2.out
 subst eu0_2
 have HK := am (Kept.refl w (fun k_ => P0_0_ k_ ∨ P0_1_ k_ ∨ P0_2_ k_))
 have HB := am hB
 clear hB ho0_0 ho0_1 ho0_2
 have H : ((laws_markUndo.f k l0_0 l0_1 a1).bind fun b0 => (laws_markBuf.f k l0_2 a0_3 a0_4 b0.1).bind fun b1 => some (b1.1, b0.2.1, b0.2.2, b1.2)) = some (r1, r0_0_, r0_1_, r0_2_) := h
 clear h
 obtain ⟨⟨t0, t0_0_0, t0_0_1⟩, E0, H⟩ := Option.bind_eq_some_iff.mp H
 (try dsimp only at H)
 have A0 := Aside0.mk E0
 clear E0
 obtain ⟨⟨t1, t1_0_2⟩, E1, H⟩ := Option.bind_eq_some_iff.mp H
 (try dsimp only at H)
 have A1 := Aside0.mk E1
 clear E1
 simp only [Option.some.injEq, Prod.mk.injEq] at H
 obtain ⟨rfl, rfl, rfl, rfl⟩ := H
 go_enter Try.func43, Try.ntmps43
 go_wp2_with (first | ((with_reducible refine gate_dst (N := 2) rfl ?_); refine box_event ?hg (N := 2) ?hd (cs := #[.slice A0_0_ l0_0.length c0_0_, .slice A0_1_ l0_1.length c0_1_, .slice A0_2_ l0_2.length c0_2_, .int .i64 a0_3, .int .i64 a0_4, .int .i64 a0_5]) (t := 43) ?hr ?_; (case hd => rfl); (case hg => rfl); (case hr => first | (go_simp; done) | (go_simp; rfl)); intro gb hg wb hbox hb; have BK := am hbox; have GB : w.heap.size ≤ gb := (by rw [hg]; exact Nat.le_refl _); replace HO0_0 := am (Kd.T_below (by (with_reducible repeat (first | apply Kd.T_alloc | apply Kd.T_drewN | apply Kd.T_drew)); exact HO0_0.out) hb); replace HO0_1 := am (Kd.T_below (by (with_reducible repeat (first | apply Kd.T_alloc | apply Kd.T_drewN | apply Kd.T_drew)); exact HO0_1.out) hb); replace HO0_2 := am (Kd.R_below (kr HO0_2.out) hb); replace HB := am (below_then HB.out HB.out.size hb); replace HK := am (Kept.below (by repeat (first | (with_reducible first | exact HK.out | apply Kept.alloc | apply Kept.drewN | apply Kept.drew) | exact HK.out)) hb); clear hb hbox hg; have hc_0 : wb.cell? ⟨gb, 0, none⟩ = some (.slice A0_0_ l0_0.length c0_0_) := (blk_cell BK.out 0).trans rfl; have hc_1 : wb.cell? ⟨gb, 1, none⟩ = some (.slice A0_1_ l0_1.length c0_1_) := (blk_cell BK.out 1).trans rfl; have hc_2 : wb.cell? ⟨gb, 2, none⟩ = some (.slice A0_2_ l0_2.length c0_2_) := (blk_cell BK.out 2).trans rfl; have hc_3 : wb.cell? ⟨gb, 3, none⟩ = some (.int .i64 a0_3) := (blk_cell BK.out 3).trans rfl; have hc_4 : wb.cell? ⟨gb, 4, none⟩ = some (.int .i64 a0_4) := (blk_cell BK.out 4).trans rfl; have hc_5 : wb.cell? ⟨gb, 5, none⟩ = some (.int .i64 a0_5) := (blk_cell BK.out 5).trans rfl) | ((go_at_call 39); (with_reducible refine (laws_markUndo.marksT k (fun k_ => P0_0_ k_ ∧ k_ < w.heap.size) (.slice A0_0_ l0_0.length c0_0_) (fun k_ => P0_1_ k_ ∧ k_ < w.heap.size) (.slice A0_1_ l0_1.length c0_1_) l0_0 l0_1 a1 t0 t0_0_0 t0_0_1 w0 _ ?s0 ?s1 ?s2 ?s3 A0.out).mono ?_); (case s0 => repeat (first | (with_reducible first | exact HB.out | apply below_alloc | apply pw_below_drewN | apply below_drew1) | exact HB.out)); (case s1 => ((with_reducible repeat (first | apply Kd.T_alloc | apply Kd.T_drewN | apply Kd.T_drew)); exact HO0_0.out)); (case s2 => ((with_reducible repeat (first | apply Kd.T_alloc | apply Kd.T_drewN | apply Kd.T_drew)); exact HO0_1.out)); (case s3 => exact fun k_ h1_ h2_ => hp0_0_0_1 k_ h1_.1 h2_.1); rintro e wm0 ⟨rfl, hy0_0, hy0_1, hb, hkp⟩; replace HO0_0 := am (hy0_0); replace HO0_1 := am (hy0_1); replace HO0_2 := am (Kd.R_kept (ok := fun k_ => P0_2_ k_ ∧ k_ < w.heap.size) (kr HO0_2.out) hkp (fun k_ hk_ hs_ => Or.elim hs_ (fun z_ => hp0_0_0_2 k_ z_.1 hk_.1) (fun z_ => hp0_1_0_2 k_ z_.1 hk_.1))); replace BK := am (blk_kept (g := gb) (o := .cells #[.slice A0_0_ l0_0.length c0_0_, .slice A0_1_ l0_1.length c0_1_, .slice A0_2_ l0_2.length c0_2_, .int .i64 a0_3, .int .i64 a0_4, .int .i64 a0_5] 43 (0, 0)) (pk BK.out) hkp (fun hs_ => Or.elim hs_ (fun z_ => absurd z_.2 (Nat.not_lt.2 GB)) (fun z_ => absurd z_.2 (Nat.not_lt.2 GB)))); replace HB := am (hb); replace HK := am (Kept.then_ (S := (fun k_ => P0_0_ k_ ∨ P0_1_ k_ ∨ P0_2_ k_)) (by repeat (first | (with_reducible first | exact HK.out | apply Kept.alloc | apply Kept.drewN | apply Kept.drew) | exact HK.out)) hkp (fun k_ hs_ => Or.elim hs_ (fun z_ => (.inl (.inl z_.1))) (fun z_ => (.inl (.inr (.inl z_.1)))))); clear hb hkp; have hc_0 : wm0.cell? ⟨gb, 0, none⟩ = some (.slice A0_0_ l0_0.length c0_0_) := (blk_cell BK.out 0).trans rfl; have hc_1 : wm0.cell? ⟨gb, 1, none⟩ = some (.slice A0_1_ l0_1.length c0_1_) := (blk_cell BK.out 1).trans rfl; have hc_2 : wm0.cell? ⟨gb, 2, none⟩ = some (.slice A0_2_ l0_2.length c0_2_) := (blk_cell BK.out 2).trans rfl; have hc_3 : wm0.cell? ⟨gb, 3, none⟩ = some (.int .i64 a0_3) := (blk_cell BK.out 3).trans rfl; have hc_4 : wm0.cell? ⟨gb, 4, none⟩ = some (.int .i64 a0_4) := (blk_cell BK.out 4).trans rfl; have hc_5 : wm0.cell? ⟨gb, 5, none⟩ = some (.int .i64 a0_5) := (blk_cell BK.out 5).trans rfl) | ((go_at_call 40); (with_reducible refine (laws_markBuf.marks k (fun k_ => P0_2_ k_ ∧ k_ < w.heap.size) (.slice A0_2_ l0_2.length c0_2_) l0_2 a0_3 a0_4 t0 t1 t1_0_2 w0 _ ?s0 ?s1 A1.out).mono ?_); (case s0 => repeat (first | (with_reducible first | exact HB.out | apply below_alloc | apply pw_below_drewN | apply below_drew1) | exact HB.out)); (case s1 => ((with_reducible repeat (first | apply Kd.R_alloc | apply Kd.R_drewN | apply Kd.R_drew)); exact HO0_2.out)); rintro e wm1 ⟨rfl, hy0_2, hb, hkp⟩; replace HO0_0 := am (Kd.T_kept (ok := fun k_ => P0_0_ k_ ∧ k_ < w.heap.size) (by (with_reducible repeat (first | apply Kd.T_alloc | apply Kd.T_drewN | apply Kd.T_drew)); exact HO0_0.out) hkp (fun k_ hk_ hs_ => hp0_0_0_2 k_ hk_.1 hs_.1)); replace HO0_1 := am (Kd.T_kept (ok := fun k_ => P0_1_ k_ ∧ k_ < w.heap.size) (by (with_reducible repeat (first | apply Kd.T_alloc | apply Kd.T_drewN | apply Kd.T_drew)); exact HO0_1.out) hkp (fun k_ hk_ hs_ => hp0_1_0_2 k_ hk_.1 hs_.1)); replace HO0_2 := am (hy0_2); replace BK := am (blk_kept (g := gb) (o := .cells #[.slice A0_0_ l0_0.length c0_0_, .slice A0_1_ l0_1.length c0_1_, .slice A0_2_ l0_2.length c0_2_, .int .i64 a0_3, .int .i64 a0_4, .int .i64 a0_5] 43 (0, 0)) (pk BK.out) hkp (fun hs_ => absurd hs_.2 (Nat.not_lt.2 GB))); replace HB := am (hb); replace HK := am (Kept.then_ (S := (fun k_ => P0_0_ k_ ∨ P0_1_ k_ ∨ P0_2_ k_)) (by repeat (first | (with_reducible first | exact HK.out | apply Kept.alloc | apply Kept.drewN | apply Kept.drew) | exact HK.out)) hkp (fun k_ hs_ => (.inl (.inr (.inr hs_.1))))); clear hb hkp; have hc_0 : wm1.cell? ⟨gb, 0, none⟩ = some (.slice A0_0_ l0_0.length c0_0_) := (blk_cell BK.out 0).trans rfl; have hc_1 : wm1.cell? ⟨gb, 1, none⟩ = some (.slice A0_1_ l0_1.length c0_1_) := (blk_cell BK.out 1).trans rfl; have hc_2 : wm1.cell? ⟨gb, 2, none⟩ = some (.slice A0_2_ l0_2.length c0_2_) := (blk_cell BK.out 2).trans rfl; have hc_3 : wm1.cell? ⟨gb, 3, none⟩ = some (.int .i64 a0_3) := (blk_cell BK.out 3).trans rfl; have hc_4 : wm1.cell? ⟨gb, 4, none⟩ = some (.int .i64 a0_4) := (blk_cell BK.out 4).trans rfl; have hc_5 : wm1.cell? ⟨gb, 5, none⟩ = some (.int .i64 a0_5) := (blk_cell BK.out 5).trans rfl))
 go_ret
 exact ⟨by first | rfl | (simp [*]; done), Kd.T_mono (ok := fun k_ => P0_0_ k_ ∧ k_ < w.heap.size) (by (with_reducible repeat (first | apply Kd.T_alloc | apply Kd.T_drewN | apply Kd.T_drew)); exact HO0_0.out) (fun k_ hk_ => hk_.1), Kd.T_mono (ok := fun k_ => P0_1_ k_ ∧ k_ < w.heap.size) (by (with_reducible repeat (first | apply Kd.T_alloc | apply Kd.T_drewN | apply Kd.T_drew)); exact HO0_1.out) (fun k_ hk_ => hk_.1), Kd.R_mono (ok := fun k_ => P0_2_ k_ ∧ k_ < w.heap.size) (kr HO0_2.out) (fun k_ hk_ => hk_.1), by repeat (first | (with_reducible first | exact HB.out | apply below_alloc | apply pw_below_drewN | apply below_drew1) | exact HB.out), by repeat (first | (with_reducible first | exact HK.out | apply Kept.alloc | apply Kept.drewN | apply Kept.drew) | exact HK.out)⟩

/-! ### laws_heldInt64S: function 87 -/
def laws_heldInt64S.l0 : Nat → List Int → Int → Int → Option (Int)
 | 0, _, _, _ => none
 | k + 1, x0, x1, x5 => if x5 < (x0.length : Int) then (if 0 ≤ x5 then (if (rd x0 x5) = x1 then (laws_heldInt64S.l0 k x0 (wrap64 (x1 + 1)) (wrap64 (x5 + 1))) else (some (-1))) else (none)) else (some x1)
def laws_heldInt64S.f (k : Nat) (l0 : List Int) (a1 : Int) : Option (Int) := laws_heldInt64S.l0 k l0 a1 0
theorem laws_heldInt64S.mono_l : ∀ k, (∀ y0 y1 y2, LeO (laws_heldInt64S.l0 k y0 y1 y2) (laws_heldInt64S.l0 (k + 1) y0 y1 y2))
 | 0 => fun _ _ _ r h => by simp [laws_heldInt64S.l0] at h
 | k + 1 => by
  have ih0 := laws_heldInt64S.mono_l k
  ·intro y0 y1 y2
   unfold laws_heldInt64S.l0
   repeat' first
   | (with_reducible exact ih0 _ _ _)
   | (with_reducible exact LeO.refl _)
   | (with_reducible exact LeO.none _)
   | (with_reducible refine LeO.ite ?_ ?_)
   | (with_reducible refine LeO.bind ?_ (fun _ => ?_))
   | exact ih0 _ _ _
   | refine LeO.bind ?_ (fun _ => ?_)
theorem laws_heldInt64S.mono : ∀ a0 a1 k, LeO (laws_heldInt64S.f k a0 a1) (laws_heldInt64S.f (k + 1) a0 a1) := by
 intro a0 a1 k
 have ih0 := laws_heldInt64S.mono_l k
 unfold laws_heldInt64S.f
 repeat' first
   | (with_reducible exact ih0 _ _ _)
   | (with_reducible exact LeO.refl _)
   | (with_reducible exact LeO.none _)
   | (with_reducible refine LeO.ite ?_ ?_)
   | (with_reducible refine LeO.bind ?_ (fun _ => ?_))
   | exact ih0 _ _ _
   | refine LeO.bind ?_ (fun _ => ?_)
theorem laws_heldInt64S.calls (k : Nat) (A0 : Option Addr) (c0 : Nat) (l0 : List Int) (a1 : Int) (r : Int) (w : World) (hr0 : Kd.C (Kd.int .i64) w A0 l0.length l0) (hc0 : l0.length ≤ c0) (h : laws_heldInt64S.f k l0 a1 = some r) :
  Calls Try.prog 87 #[.slice A0 l0.length c0, .int .i64 a1] w fun e w' => e = .returned (.int .i64 r) ∧ Drawn0 w w' := by
 have HR0 := am hr0
 have HC0 := am hc0
 clear hr0 hc0
 have H : (laws_heldInt64S.l0 k l0 a1 0) = some r := h
 clear h
 have H' := Aside0.mk H
 clear H
 go_enter Try.func87, Try.ntmps87
 go_wp2
 go_loopg [1, 5] k (fun kq v1 v5 w' => ∃ (x1_1 : Int) (x5_1 : Int), v1 = .int .i64 x1_1 ∧ v5 = .int .i64 x5_1 ∧ Aside0 (laws_heldInt64S.l0 kq l0 x1_1 x5_1 = some r) ∧ Aside0 (kq ≤ k) ∧ Drawn0 w w')
 case atStart => exact ⟨(a1), (0), (by first | rfl | (simp; done) | (simp [*]; done)), (by first | rfl | (simp; done) | (simp [*]; done)), H', ⟨Nat.le_refl _⟩, by repeat (first | exact Drawn0.refl _ | apply Drawn0.step)⟩
 case round =>
  clear H'
  try clear p2
  obtain ⟨x1_1, x5_1, rfl, rfl, HA, HK1, ⟨m1, rfl⟩⟩ := hrel
  cases gk with
  | zero => exact absurd HA.out (by simp [laws_heldInt64S.l0])
  | succ k1 =>
   have H := HA.out
   clear HA
   simp only [laws_heldInt64S.l0] at H
   by_cases c3 : x5_1 < (l0.length : Int)
   ·rw [if_pos c3] at H
    have c3b0 : decide (x5_1 < (l0.length : Int)) = true := decide_eq_true c3
    clear c3
    by_cases c4 : 0 ≤ x5_1
    ·rw [if_pos c4] at H
     have c4b0 : decide (0 ≤ x5_1) = true := decide_eq_true c4
     clear c4
     by_cases c5 : (rd l0 x5_1) = x1_1
     ·rw [if_pos c5] at H
      have c5b0 : ((rd l0 x5_1) == x1_1) = true := beq_iff_eq.mpr c5
      have c5b1 : ((rd l0 x5_1) != x1_1) = false := bne_eq_false_iff_eq.mpr c5
      clear c5
      have H' := Aside0.mk H
      clear H
      have p310 : 0 ≤ (x5_1 : Int) := of_decide_eq_true (by first | (with_reducible assumption) | assumption)
      have q310 : x5_1 < (l0.length : Int) := of_decide_eq_true (by first | (with_reducible assumption) | assumption)
      obtain ⟨ad310, e310, hx310_0⟩ := Kd.at_int HR0.out x5_1 p310 q310
      cases e310
      replace p310 := eq_true p310
      replace q310 := eq_true q310
      go_wp2
      go_roundg k1
      case measure => have := HK1.out; omega
      case rel => exact ⟨(wrap64 (x1_1 + 1)), (wrap64 (x5_1 + 1)), (by first | rfl | (simp; done) | (simp [*]; done)), (by first | rfl | (simp; done) | (simp [*]; done)), H', ⟨by have := HK1.out; omega⟩, by repeat (first | exact Drawn0.refl _ | apply Drawn0.step)⟩
     ·rw [if_neg c5] at H
      have c5b0 : ((rd l0 x5_1) == x1_1) = false := beq_eq_false_iff_ne.mpr c5
      have c5b1 : ((rd l0 x5_1) != x1_1) = true := bne_iff_ne.mpr c5
      obtain rfl := Option.some.inj H
      have p310 : 0 ≤ (x5_1 : Int) := of_decide_eq_true (by first | (with_reducible assumption) | assumption)
      have q310 : x5_1 < (l0.length : Int) := of_decide_eq_true (by first | (with_reducible assumption) | assumption)
      obtain ⟨ad310, e310, hx310_0⟩ := Kd.at_int HR0.out x5_1 p310 q310
      cases e310
      replace p310 := eq_true p310
      replace q310 := eq_true q310
      go_wp2
      go_ret
      exact ⟨by first | rfl | (simp; done) | (simp [*]; done), by repeat (first | exact Drawn0.refl _ | apply Drawn0.step)⟩
    ·rw [if_neg c4] at H
     exact absurd H (by simp)
   ·rw [if_neg c3] at H
    have c3b0 : decide (x5_1 < (l0.length : Int)) = false := decide_eq_false c3
    clear c3
    obtain rfl := Option.some.inj H
    go_wp2
    go_ret
    exact ⟨by first | rfl | (simp; done) | (simp [*]; done), by repeat (first | exact Drawn0.refl _ | apply Drawn0.step)⟩

/-! ### laws_heldBufS: function 94 -/
def laws_heldBufS.l0 : Nat → List (S39) → Int → Int → Option (Int)
 | 0, _, _, _ => none
 | k + 1, x0, x1, x5 => if x5 < (x0.length : Int) then (if 0 ≤ x5 then ((laws_heldInt64S.f k ((rd_T39 x0 x5).f0) x1).bind fun t312 => (if t312 < 0 then (some (-1)) else (if ((rd_T39 x0 x5).f1) = t312 then (if ((rd_T39 x0 x5).f2) = (wrap64 (t312 + 1)) then (laws_heldBufS.l0 k x0 (wrap64 ((wrap64 (t312 + 1)) + 1)) (wrap64 (x5 + 1))) else (some (-1))) else (some (-1))))) else (none)) else (some x1)
def laws_heldBufS.f (k : Nat) (l0 : List (S39)) (a1 : Int) : Option (Int) := laws_heldBufS.l0 k l0 a1 0
theorem laws_heldBufS.mono_l : ∀ k, (∀ y0 y1 y2, LeO (laws_heldBufS.l0 k y0 y1 y2) (laws_heldBufS.l0 (k + 1) y0 y1 y2))
 | 0 => fun _ _ _ r h => by simp [laws_heldBufS.l0] at h
 | k + 1 => by
  have ih0 := laws_heldBufS.mono_l k
  ·intro y0 y1 y2
   unfold laws_heldBufS.l0
   repeat' first
   | (with_reducible exact ih0 _ _ _)
   | (with_reducible exact laws_heldInt64S.mono _ _ _)
   | (with_reducible exact LeO.refl _)
   | (with_reducible exact LeO.none _)
   | (with_reducible refine LeO.ite ?_ ?_)
   | (with_reducible refine LeO.bind ?_ (fun _ => ?_))
   | exact ih0 _ _ _
   | exact laws_heldInt64S.mono _ _ _
   | refine LeO.bind ?_ (fun _ => ?_)
theorem laws_heldBufS.mono : ∀ a0 a1 k, LeO (laws_heldBufS.f k a0 a1) (laws_heldBufS.f (k + 1) a0 a1) := by
 intro a0 a1 k
 have ih0 := laws_heldBufS.mono_l k
 unfold laws_heldBufS.f
 repeat' first
   | (with_reducible exact ih0 _ _ _)
   | (with_reducible exact laws_heldInt64S.mono _ _ _)
   | (with_reducible exact LeO.refl _)
   | (with_reducible exact LeO.none _)
   | (with_reducible refine LeO.ite ?_ ?_)
   | (with_reducible refine LeO.bind ?_ (fun _ => ?_))
   | exact ih0 _ _ _
   | exact laws_heldInt64S.mono _ _ _
   | refine LeO.bind ?_ (fun _ => ?_)
theorem laws_heldBufS.calls (k : Nat) (A0 : Option Addr) (c0 : Nat) (l0 : List (S39)) (a1 : Int) (r : Int) (w : World) (hr0 : Kd.C k39 w A0 l0.length l0) (hc0 : l0.length ≤ c0) (h : laws_heldBufS.f k l0 a1 = some r) :
  Calls Try.prog 94 #[.slice A0 l0.length c0, .int .i64 a1] w fun e w' => e = .returned (.int .i64 r) ∧ Drawn0 w w' := by
 have HR0 := am hr0
 have HC0 := am hc0
 clear hr0 hc0
 have H : (laws_heldBufS.l0 k l0 a1 0) = some r := h
 clear h
 have H' := Aside0.mk H
 clear H
 go_enter Try.func94, Try.ntmps94
 go_wp2
 go_loopg [1, 5] k (fun kq v1 v5 w' => ∃ (x1_1 : Int) (x5_1 : Int), v1 = .int .i64 x1_1 ∧ v5 = .int .i64 x5_1 ∧ Aside0 (laws_heldBufS.l0 kq l0 x1_1 x5_1 = some r) ∧ Aside0 (kq ≤ k) ∧ Drawn0 w w')
 case atStart => exact ⟨(a1), (0), (by first | rfl | (simp; done) | (simp [*]; done)), (by first | rfl | (simp; done) | (simp [*]; done)), H', ⟨Nat.le_refl _⟩, by repeat (first | exact Drawn0.refl _ | apply Drawn0.step)⟩
 case round =>
  clear H'
  try clear p2
  obtain ⟨x1_1, x5_1, rfl, rfl, HA, HK1, ⟨m1, rfl⟩⟩ := hrel
  cases gk with
  | zero => exact absurd HA.out (by simp [laws_heldBufS.l0])
  | succ k1 =>
   have H := HA.out
   clear HA
   simp only [laws_heldBufS.l0] at H
   by_cases c3 : x5_1 < (l0.length : Int)
   ·rw [if_pos c3] at H
    have c3b0 : decide (x5_1 < (l0.length : Int)) = true := decide_eq_true c3
    clear c3
    by_cases c4 : 0 ≤ x5_1
    ·rw [if_pos c4] at H
     have c4b0 : decide (0 ≤ x5_1) = true := decide_eq_true c4
     clear c4
     replace H := Option.bind_eq_some_iff.mp H
     obtain ⟨t312, A50, H⟩ := H
     replace H : (if t312 < 0 then (some (-1)) else (if ((rd_T39 l0 x5_1).f1) = t312 then (if ((rd_T39 l0 x5_1).f2) = (wrap64 (t312 + 1)) then (laws_heldBufS.l0 k1 l0 (wrap64 ((wrap64 (t312 + 1)) + 1)) (wrap64 (x5_1 + 1))) else (some (-1))) else (some (-1)))) = some r := H
     have A5 := Aside0.mk A50
     clear A50
     by_cases c6 : t312 < 0
     ·rw [if_pos c6] at H
      have c6b0 : decide (t312 < 0) = true := decide_eq_true c6
      clear c6
      obtain rfl := Option.some.inj H
      have p311 : 0 ≤ (x5_1 : Int) := of_decide_eq_true (by first | (with_reducible assumption) | assumption)
      have q311 : x5_1 < (l0.length : Int) := of_decide_eq_true (by first | (with_reducible assumption) | assumption)
      obtain ⟨ad311, A311_0, c311_0, e311, hx311_0, hx311_1, hx311_2, hl311_0, hi311_0⟩ := at_T39 HR0.out x5_1 p311 q311
      cases e311
      have HR311_0 := am hi311_0
      have HC311_0 := am hl311_0
      clear hi311_0 hl311_0
      replace p311 := eq_true p311
      replace q311 := eq_true q311
      go_wp2_with (first | ((with_reducible refine gate_callee (f := 87) rfl ?_); refine gl (some 18) Try.func87 #[.slice A311_0 ((rd_T39 l0 x5_1).f0).length c311_0, .int .i64 x1_1] ?_; (with_reducible refine (laws_heldInt64S.calls k1 _ _ ((rd_T39 l0 x5_1).f0) x1_1 t312 _ ?side1 ?side2 A5.out).mono ?_); (case side1 => repeat (first | exact HR311_0.out | (with_reducible refine Kd.C_alloc ?_ _) | (with_reducible refine Kd.C_drewN ?_ _) | (with_reducible refine Kd.C_drew ?_))); (case side2 => exact HC311_0.out); rintro e w' ⟨rfl, ⟨nd, rfl⟩⟩; refine ⟨_, rfl, ?_⟩))
      go_ret
      exact ⟨by first | rfl | (simp; done) | (simp [*]; done), by repeat (first | exact Drawn0.refl _ | apply Drawn0.step)⟩
     ·rw [if_neg c6] at H
      have c6b0 : decide (t312 < 0) = false := decide_eq_false c6
      clear c6
      by_cases c7 : ((rd_T39 l0 x5_1).f1) = t312
      ·rw [if_pos c7] at H
       have c7b0 : (((rd_T39 l0 x5_1).f1) == t312) = true := beq_iff_eq.mpr c7
       have c7b1 : (((rd_T39 l0 x5_1).f1) != t312) = false := bne_eq_false_iff_eq.mpr c7
       clear c7
       by_cases c8 : ((rd_T39 l0 x5_1).f2) = (wrap64 (t312 + 1))
       ·rw [if_pos c8] at H
        have c8b0 : (((rd_T39 l0 x5_1).f2) == (wrap64 (t312 + 1))) = true := beq_iff_eq.mpr c8
        have c8b1 : (((rd_T39 l0 x5_1).f2) != (wrap64 (t312 + 1))) = false := bne_eq_false_iff_eq.mpr c8
        clear c8
        have H' := Aside0.mk H
        clear H
        have p311 : 0 ≤ (x5_1 : Int) := of_decide_eq_true (by first | (with_reducible assumption) | assumption)
        have q311 : x5_1 < (l0.length : Int) := of_decide_eq_true (by first | (with_reducible assumption) | assumption)
        obtain ⟨ad311, A311_0, c311_0, e311, hx311_0, hx311_1, hx311_2, hl311_0, hi311_0⟩ := at_T39 HR0.out x5_1 p311 q311
        cases e311
        have HR311_0 := am hi311_0
        have HC311_0 := am hl311_0
        clear hi311_0 hl311_0
        replace p311 := eq_true p311
        replace q311 := eq_true q311
        go_wp2_with (first | ((with_reducible refine gate_callee (f := 87) rfl ?_); refine gl (some 18) Try.func87 #[.slice A311_0 ((rd_T39 l0 x5_1).f0).length c311_0, .int .i64 x1_1] ?_; (with_reducible refine (laws_heldInt64S.calls k1 _ _ ((rd_T39 l0 x5_1).f0) x1_1 t312 _ ?side1 ?side2 A5.out).mono ?_); (case side1 => repeat (first | exact HR311_0.out | (with_reducible refine Kd.C_alloc ?_ _) | (with_reducible refine Kd.C_drewN ?_ _) | (with_reducible refine Kd.C_drew ?_))); (case side2 => exact HC311_0.out); rintro e w' ⟨rfl, ⟨nd, rfl⟩⟩; refine ⟨_, rfl, ?_⟩; have p313 : 0 ≤ (x5_1 : Int) := of_decide_eq_true (by first | (with_reducible assumption) | assumption); have q313 : x5_1 < (l0.length : Int) := of_decide_eq_true (by first | (with_reducible assumption) | assumption); obtain ⟨ad313, A313_0, c313_0, e313, hx313_0, hx313_1, hx313_2, hl313_0, hi313_0⟩ := at_T39 HR0.out x5_1 p313 q313; obtain rfl : ad311 = ad313 := (by injection e313); have HR313_0 := am hi313_0; have HC313_0 := am hl313_0; clear hi313_0 hl313_0; replace p313 := eq_true p313; replace q313 := eq_true q313; (first | have ea_ := Option.some.inj (hx311_0.symm.trans hx313_0) | have ea_ := Option.some.inj (hxw311_0.symm.trans hxw313_0)); injection ea_ with ea_ en_ ec_; subst ea_; subst ec_; clear en_; have p314 : 0 ≤ (x5_1 : Int) := of_decide_eq_true (by first | (with_reducible assumption) | assumption); have q314 : x5_1 < (l0.length : Int) := of_decide_eq_true (by first | (with_reducible assumption) | assumption); obtain ⟨ad314, A314_0, c314_0, e314, hx314_0, hx314_1, hx314_2, hl314_0, hi314_0⟩ := at_T39 HR0.out x5_1 p314 q314; obtain rfl : ad311 = ad314 := (by injection e314); have HR314_0 := am hi314_0; have HC314_0 := am hl314_0; clear hi314_0 hl314_0; replace p314 := eq_true p314; replace q314 := eq_true q314; (first | have ea_ := Option.some.inj (hx311_0.symm.trans hx314_0) | have ea_ := Option.some.inj (hxw311_0.symm.trans hxw314_0)); injection ea_ with ea_ en_ ec_; subst ea_; subst ec_; clear en_))
        go_roundg k1
        case measure => have := HK1.out; omega
        case rel => exact ⟨(wrap64 ((wrap64 (t312 + 1)) + 1)), (wrap64 (x5_1 + 1)), (by first | rfl | (simp; done) | (simp [*]; done)), (by first | rfl | (simp; done) | (simp [*]; done)), H', ⟨by have := HK1.out; omega⟩, by repeat (first | exact Drawn0.refl _ | apply Drawn0.step)⟩
       ·rw [if_neg c8] at H
        have c8b0 : (((rd_T39 l0 x5_1).f2) == (wrap64 (t312 + 1))) = false := beq_eq_false_iff_ne.mpr c8
        have c8b1 : (((rd_T39 l0 x5_1).f2) != (wrap64 (t312 + 1))) = true := bne_iff_ne.mpr c8
        obtain rfl := Option.some.inj H
        have p311 : 0 ≤ (x5_1 : Int) := of_decide_eq_true (by first | (with_reducible assumption) | assumption)
        have q311 : x5_1 < (l0.length : Int) := of_decide_eq_true (by first | (with_reducible assumption) | assumption)
        obtain ⟨ad311, A311_0, c311_0, e311, hx311_0, hx311_1, hx311_2, hl311_0, hi311_0⟩ := at_T39 HR0.out x5_1 p311 q311
        cases e311
        have HR311_0 := am hi311_0
        have HC311_0 := am hl311_0
        clear hi311_0 hl311_0
        replace p311 := eq_true p311
        replace q311 := eq_true q311
        go_wp2_with (first | ((with_reducible refine gate_callee (f := 87) rfl ?_); refine gl (some 18) Try.func87 #[.slice A311_0 ((rd_T39 l0 x5_1).f0).length c311_0, .int .i64 x1_1] ?_; (with_reducible refine (laws_heldInt64S.calls k1 _ _ ((rd_T39 l0 x5_1).f0) x1_1 t312 _ ?side1 ?side2 A5.out).mono ?_); (case side1 => repeat (first | exact HR311_0.out | (with_reducible refine Kd.C_alloc ?_ _) | (with_reducible refine Kd.C_drewN ?_ _) | (with_reducible refine Kd.C_drew ?_))); (case side2 => exact HC311_0.out); rintro e w' ⟨rfl, ⟨nd, rfl⟩⟩; refine ⟨_, rfl, ?_⟩; have p313 : 0 ≤ (x5_1 : Int) := of_decide_eq_true (by first | (with_reducible assumption) | assumption); have q313 : x5_1 < (l0.length : Int) := of_decide_eq_true (by first | (with_reducible assumption) | assumption); obtain ⟨ad313, A313_0, c313_0, e313, hx313_0, hx313_1, hx313_2, hl313_0, hi313_0⟩ := at_T39 HR0.out x5_1 p313 q313; obtain rfl : ad311 = ad313 := (by injection e313); have HR313_0 := am hi313_0; have HC313_0 := am hl313_0; clear hi313_0 hl313_0; replace p313 := eq_true p313; replace q313 := eq_true q313; (first | have ea_ := Option.some.inj (hx311_0.symm.trans hx313_0) | have ea_ := Option.some.inj (hxw311_0.symm.trans hxw313_0)); injection ea_ with ea_ en_ ec_; subst ea_; subst ec_; clear en_; have p314 : 0 ≤ (x5_1 : Int) := of_decide_eq_true (by first | (with_reducible assumption) | assumption); have q314 : x5_1 < (l0.length : Int) := of_decide_eq_true (by first | (with_reducible assumption) | assumption); obtain ⟨ad314, A314_0, c314_0, e314, hx314_0, hx314_1, hx314_2, hl314_0, hi314_0⟩ := at_T39 HR0.out x5_1 p314 q314; obtain rfl : ad311 = ad314 := (by injection e314); have HR314_0 := am hi314_0; have HC314_0 := am hl314_0; clear hi314_0 hl314_0; replace p314 := eq_true p314; replace q314 := eq_true q314; (first | have ea_ := Option.some.inj (hx311_0.symm.trans hx314_0) | have ea_ := Option.some.inj (hxw311_0.symm.trans hxw314_0)); injection ea_ with ea_ en_ ec_; subst ea_; subst ec_; clear en_))
        go_ret
        exact ⟨by first | rfl | (simp; done) | (simp [*]; done), by repeat (first | exact Drawn0.refl _ | apply Drawn0.step)⟩
      ·rw [if_neg c7] at H
       have c7b0 : (((rd_T39 l0 x5_1).f1) == t312) = false := beq_eq_false_iff_ne.mpr c7
       have c7b1 : (((rd_T39 l0 x5_1).f1) != t312) = true := bne_iff_ne.mpr c7
       obtain rfl := Option.some.inj H
       have p311 : 0 ≤ (x5_1 : Int) := of_decide_eq_true (by first | (with_reducible assumption) | assumption)
       have q311 : x5_1 < (l0.length : Int) := of_decide_eq_true (by first | (with_reducible assumption) | assumption)
       obtain ⟨ad311, A311_0, c311_0, e311, hx311_0, hx311_1, hx311_2, hl311_0, hi311_0⟩ := at_T39 HR0.out x5_1 p311 q311
       cases e311
       have HR311_0 := am hi311_0
       have HC311_0 := am hl311_0
       clear hi311_0 hl311_0
       replace p311 := eq_true p311
       replace q311 := eq_true q311
       go_wp2_with (first | ((with_reducible refine gate_callee (f := 87) rfl ?_); refine gl (some 18) Try.func87 #[.slice A311_0 ((rd_T39 l0 x5_1).f0).length c311_0, .int .i64 x1_1] ?_; (with_reducible refine (laws_heldInt64S.calls k1 _ _ ((rd_T39 l0 x5_1).f0) x1_1 t312 _ ?side1 ?side2 A5.out).mono ?_); (case side1 => repeat (first | exact HR311_0.out | (with_reducible refine Kd.C_alloc ?_ _) | (with_reducible refine Kd.C_drewN ?_ _) | (with_reducible refine Kd.C_drew ?_))); (case side2 => exact HC311_0.out); rintro e w' ⟨rfl, ⟨nd, rfl⟩⟩; refine ⟨_, rfl, ?_⟩; have p313 : 0 ≤ (x5_1 : Int) := of_decide_eq_true (by first | (with_reducible assumption) | assumption); have q313 : x5_1 < (l0.length : Int) := of_decide_eq_true (by first | (with_reducible assumption) | assumption); obtain ⟨ad313, A313_0, c313_0, e313, hx313_0, hx313_1, hx313_2, hl313_0, hi313_0⟩ := at_T39 HR0.out x5_1 p313 q313; obtain rfl : ad311 = ad313 := (by injection e313); have HR313_0 := am hi313_0; have HC313_0 := am hl313_0; clear hi313_0 hl313_0; replace p313 := eq_true p313; replace q313 := eq_true q313; (first | have ea_ := Option.some.inj (hx311_0.symm.trans hx313_0) | have ea_ := Option.some.inj (hxw311_0.symm.trans hxw313_0)); injection ea_ with ea_ en_ ec_; subst ea_; subst ec_; clear en_))
       go_ret
       exact ⟨by first | rfl | (simp; done) | (simp [*]; done), by repeat (first | exact Drawn0.refl _ | apply Drawn0.step)⟩
    ·rw [if_neg c4] at H
     exact absurd H (by simp)
   ·rw [if_neg c3] at H
    have c3b0 : decide (x5_1 < (l0.length : Int)) = false := decide_eq_false c3
    clear c3
    obtain rfl := Option.some.inj H
    go_wp2
    go_ret
    exact ⟨by first | rfl | (simp; done) | (simp [*]; done), by repeat (first | exact Drawn0.refl _ | apply Drawn0.step)⟩

/-! ### laws_heldUndo: function 41 -/
def laws_heldUndo.f (k : Nat) (l0_0 : List (S39)) (l0_1 : List (S39)) (a1 : Int) : Option (Int) := (laws_heldBufS.f k l0_0 a1).bind fun t316 => (if t316 < 0 then (some (-1)) else ((laws_heldBufS.f k l0_1 t316).bind fun t317 => (if t317 < 0 then (some (-1)) else (some t317))))
theorem laws_heldUndo.mono : ∀ a0 a1 a2 k, LeO (laws_heldUndo.f k a0 a1 a2) (laws_heldUndo.f (k + 1) a0 a1 a2) := by
 intro a0 a1 a2 k
 unfold laws_heldUndo.f
 repeat' first
   | (with_reducible exact laws_heldBufS.mono _ _ _)
   | (with_reducible exact LeO.refl _)
   | (with_reducible exact LeO.none _)
   | (with_reducible refine LeO.ite ?_ ?_)
   | (with_reducible refine LeO.bind ?_ (fun _ => ?_))
   | exact laws_heldBufS.mono _ _ _
   | refine LeO.bind ?_ (fun _ => ?_)
theorem laws_heldUndo.calls (k : Nat) (A0_0 : Option Addr) (c0_0 : Nat) (l0_0 : List (S39)) (A0_1 : Option Addr) (c0_1 : Nat) (l0_1 : List (S39)) (a1 : Int) (r : Int) (w : World) (hr0_0 : Kd.C k39 w A0_0 l0_0.length l0_0) (hc0_0 : l0_0.length ≤ c0_0) (hr0_1 : Kd.C k39 w A0_1 l0_1.length l0_1) (hc0_1 : l0_1.length ≤ c0_1) (h : laws_heldUndo.f k l0_0 l0_1 a1 = some r) :
  Calls Try.prog 41 #[.agg #[.slice A0_0 l0_0.length c0_0, .slice A0_1 l0_1.length c0_1], .int .i64 a1] w fun e w' => e = .returned (.int .i64 r) ∧ Below w.heap.size w w' := by
 have hu36 := Try.underlying36
 have HR0_0 := am hr0_0
 have HC0_0 := am hc0_0
 clear hr0_0 hc0_0
 have HR0_1 := am hr0_1
 have HC0_1 := am hc0_1
 clear hr0_1 hc0_1
 have HB := am (Below.refl w.heap.size w)
 have H : ((laws_heldBufS.f k l0_0 a1).bind fun t316 => (if t316 < 0 then (some (-1)) else ((laws_heldBufS.f k l0_1 t316).bind fun t317 => (if t317 < 0 then (some (-1)) else (some t317))))) = some r := h
 clear h
 replace H := Option.bind_eq_some_iff.mp H
 obtain ⟨t316, A30, H⟩ := H
 replace H : (if t316 < 0 then (some (-1)) else ((laws_heldBufS.f k l0_1 t316).bind fun t317 => (if t317 < 0 then (some (-1)) else (some t317)))) = some r := H
 have A3 := Aside0.mk A30
 clear A30
 by_cases c4 : t316 < 0
 ·rw [if_pos c4] at H
  have c4b0 : decide (t316 < 0) = true := decide_eq_true c4
  clear c4
  obtain rfl := Option.some.inj H
  go_enter Try.func41, Try.ntmps41
  go_wp2_with (first | ((with_reducible refine gate_dst (N := 2) rfl ?_); refine box_event ?hg (N := 2) ?hd (cs := #[.slice A0_0 l0_0.length c0_0, .slice A0_1 l0_1.length c0_1]) (t := 36) ?hr ?_; (case hd => rfl); (case hg => rfl); (case hr => first | (go_simp; done) | (go_simp; rfl)); intro gb315 hg w5 hbox hb; have BK315 := am (hbox); have GW315 := am ((by rw [hg]; exact (below_size (bl HB.out)) : w.heap.size ≤ gb315)); have GE315 := GW315; replace HB := am (below_step (bl HB.out) hb); clear hb hbox hg; have hcz6_0 : w5.cell? ⟨gb315, 0, none⟩ = some (.slice A0_0 l0_0.length c0_0) := bc BK315.out 0; have hcz6_1 : w5.cell? ⟨gb315, 1, none⟩ = some (.slice A0_1 l0_1.length c0_1) := bc BK315.out 1) | ((with_reducible refine gate_callee (f := 94) rfl ?_); refine gl (some 8) Try.func94 #[.slice A0_0 l0_0.length c0_0, .int .i64 a1] ?_; (with_reducible refine (laws_heldBufS.calls k _ _ l0_0 a1 t316 _ ?side1 ?side2 A3.out).mono ?_); (case side1 => repeat (first | exact (Kd.C_below HR0_0.out HB.out) | (with_reducible refine Kd.C_alloc ?_ _) | (with_reducible refine Kd.C_drewN ?_ _) | (with_reducible refine Kd.C_drew ?_))); (case side2 => exact HC0_0.out); rintro e w' ⟨rfl, ⟨nd, rfl⟩⟩; refine ⟨_, rfl, ?_⟩))
  go_ret
  exact ⟨by first | rfl | (simp [errW_none, errW_some] <;> rfl) | (simp [*, errW_none, errW_some] <;> rfl), by repeat (first | (with_reducible first | exact HB.out | apply below_alloc | apply pw_below_drewN | apply below_drew1 | refine below_set ?_ GE315.out) | exact HB.out)⟩
 ·rw [if_neg c4] at H
  have c4b0 : decide (t316 < 0) = false := decide_eq_false c4
  clear c4
  replace H := Option.bind_eq_some_iff.mp H
  obtain ⟨t317, A70, H⟩ := H
  replace H : (if t317 < 0 then (some (-1)) else (some t317)) = some r := H
  have A7 := Aside0.mk A70
  clear A70
  by_cases c8 : t317 < 0
  ·rw [if_pos c8] at H
   have c8b0 : decide (t317 < 0) = true := decide_eq_true c8
   clear c8
   obtain rfl := Option.some.inj H
   go_enter Try.func41, Try.ntmps41
   go_wp2_with (first | ((with_reducible refine gate_dst (N := 2) rfl ?_); refine box_event ?hg (N := 2) ?hd (cs := #[.slice A0_0 l0_0.length c0_0, .slice A0_1 l0_1.length c0_1]) (t := 36) ?hr ?_; (case hd => rfl); (case hg => rfl); (case hr => first | (go_simp; done) | (go_simp; rfl)); intro gb315 hg w9 hbox hb; have BK315 := am (hbox); have GW315 := am ((by rw [hg]; exact (below_size (bl HB.out)) : w.heap.size ≤ gb315)); have GE315 := GW315; replace HB := am (below_step (bl HB.out) hb); clear hb hbox hg; have hcz10_0 : w9.cell? ⟨gb315, 0, none⟩ = some (.slice A0_0 l0_0.length c0_0) := bc BK315.out 0; have hcz10_1 : w9.cell? ⟨gb315, 1, none⟩ = some (.slice A0_1 l0_1.length c0_1) := bc BK315.out 1) | ((with_reducible refine gate_callee (f := 94) rfl ?_); refine gl (some 8) Try.func94 #[.slice A0_0 l0_0.length c0_0, .int .i64 a1] ?_; (with_reducible refine (laws_heldBufS.calls k _ _ l0_0 a1 t316 _ ?side1 ?side2 A3.out).mono ?_); (case side1 => repeat (first | exact (Kd.C_below HR0_0.out HB.out) | (with_reducible refine Kd.C_alloc ?_ _) | (with_reducible refine Kd.C_drewN ?_ _) | (with_reducible refine Kd.C_drew ?_))); (case side2 => exact HC0_0.out); rintro e w' ⟨rfl, ⟨nd, rfl⟩⟩; refine ⟨_, rfl, ?_⟩) | ((with_reducible refine gate_callee (f := 94) rfl ?_); refine gl (some 14) Try.func94 #[.slice A0_1 l0_1.length c0_1, .int .i64 t316] ?_; (with_reducible refine (laws_heldBufS.calls k _ _ l0_1 t316 t317 _ ?side1 ?side2 A7.out).mono ?_); (case side1 => repeat (first | exact (Kd.C_below HR0_1.out (bl HB.out)) | (with_reducible refine Kd.C_alloc ?_ _) | (with_reducible refine Kd.C_drewN ?_ _) | (with_reducible refine Kd.C_drew ?_))); (case side2 => exact HC0_1.out); rintro e w' ⟨rfl, ⟨nd, rfl⟩⟩; refine ⟨_, rfl, ?_⟩))
   go_ret
   exact ⟨by first | rfl | (simp [errW_none, errW_some] <;> rfl) | (simp [*, errW_none, errW_some] <;> rfl), by repeat (first | (with_reducible first | exact HB.out | apply below_alloc | apply pw_below_drewN | apply below_drew1 | refine below_set ?_ GE315.out) | exact HB.out)⟩
  ·rw [if_neg c8] at H
   have c8b0 : decide (t317 < 0) = false := decide_eq_false c8
   clear c8
   obtain rfl := Option.some.inj H
   go_enter Try.func41, Try.ntmps41
   go_wp2_with (first | ((with_reducible refine gate_dst (N := 2) rfl ?_); refine box_event ?hg (N := 2) ?hd (cs := #[.slice A0_0 l0_0.length c0_0, .slice A0_1 l0_1.length c0_1]) (t := 36) ?hr ?_; (case hd => rfl); (case hg => rfl); (case hr => first | (go_simp; done) | (go_simp; rfl)); intro gb315 hg w11 hbox hb; have BK315 := am (hbox); have GW315 := am ((by rw [hg]; exact (below_size (bl HB.out)) : w.heap.size ≤ gb315)); have GE315 := GW315; replace HB := am (below_step (bl HB.out) hb); clear hb hbox hg; have hcz12_0 : w11.cell? ⟨gb315, 0, none⟩ = some (.slice A0_0 l0_0.length c0_0) := bc BK315.out 0; have hcz12_1 : w11.cell? ⟨gb315, 1, none⟩ = some (.slice A0_1 l0_1.length c0_1) := bc BK315.out 1) | ((with_reducible refine gate_callee (f := 94) rfl ?_); refine gl (some 8) Try.func94 #[.slice A0_0 l0_0.length c0_0, .int .i64 a1] ?_; (with_reducible refine (laws_heldBufS.calls k _ _ l0_0 a1 t316 _ ?side1 ?side2 A3.out).mono ?_); (case side1 => repeat (first | exact (Kd.C_below HR0_0.out HB.out) | (with_reducible refine Kd.C_alloc ?_ _) | (with_reducible refine Kd.C_drewN ?_ _) | (with_reducible refine Kd.C_drew ?_))); (case side2 => exact HC0_0.out); rintro e w' ⟨rfl, ⟨nd, rfl⟩⟩; refine ⟨_, rfl, ?_⟩) | ((with_reducible refine gate_callee (f := 94) rfl ?_); refine gl (some 14) Try.func94 #[.slice A0_1 l0_1.length c0_1, .int .i64 t316] ?_; (with_reducible refine (laws_heldBufS.calls k _ _ l0_1 t316 t317 _ ?side1 ?side2 A7.out).mono ?_); (case side1 => repeat (first | exact (Kd.C_below HR0_1.out (bl HB.out)) | (with_reducible refine Kd.C_alloc ?_ _) | (with_reducible refine Kd.C_drewN ?_ _) | (with_reducible refine Kd.C_drew ?_))); (case side2 => exact HC0_1.out); rintro e w' ⟨rfl, ⟨nd, rfl⟩⟩; refine ⟨_, rfl, ?_⟩))
   go_ret
   exact ⟨by first | rfl | (simp [errW_none, errW_some] <;> rfl) | (simp [*, errW_none, errW_some] <;> rfl), by repeat (first | (with_reducible first | exact HB.out | apply below_alloc | apply pw_below_drewN | apply below_drew1 | refine below_set ?_ GE315.out) | exact HB.out)⟩

/-! ### laws_heldBuf: function 95 -/
def laws_heldBuf.f (k : Nat) (l0_0 : List Int) (a0_1 : Int) (a0_2 : Int) (a1 : Int) : Option (Int) := (laws_heldInt64S.f k l0_0 a1).bind fun t319 => (if t319 < 0 then (some (-1)) else (some t319))
theorem laws_heldBuf.mono : ∀ a0 a1 a2 a3 k, LeO (laws_heldBuf.f k a0 a1 a2 a3) (laws_heldBuf.f (k + 1) a0 a1 a2 a3) := by
 intro a0 a1 a2 a3 k
 unfold laws_heldBuf.f
 repeat' first
   | (with_reducible exact laws_heldInt64S.mono _ _ _)
   | (with_reducible exact LeO.refl _)
   | (with_reducible exact LeO.none _)
   | (with_reducible refine LeO.ite ?_ ?_)
   | (with_reducible refine LeO.bind ?_ (fun _ => ?_))
   | exact laws_heldInt64S.mono _ _ _
   | refine LeO.bind ?_ (fun _ => ?_)
theorem laws_heldBuf.calls (k : Nat) (A0_0 : Option Addr) (c0_0 : Nat) (l0_0 : List Int) (a0_1 : Int) (a0_2 : Int) (a1 : Int) (r : Int) (w : World) (hr0_0 : Kd.C (Kd.int .i64) w A0_0 l0_0.length l0_0) (hc0_0 : l0_0.length ≤ c0_0) (h : laws_heldBuf.f k l0_0 a0_1 a0_2 a1 = some r) :
  Calls Try.prog 95 #[.agg #[.slice A0_0 l0_0.length c0_0, .int .i64 a0_1, .int .i64 a0_2], .int .i64 a1] w fun e w' => e = .returned (.int .i64 r) ∧ Below w.heap.size w w' := by
 have hu39 := Try.underlying39
 have HR0_0 := am hr0_0
 have HC0_0 := am hc0_0
 clear hr0_0 hc0_0
 have HB := am (Below.refl w.heap.size w)
 have H : ((laws_heldInt64S.f k l0_0 a1).bind fun t319 => (if t319 < 0 then (some (-1)) else (some t319))) = some r := h
 clear h
 replace H := Option.bind_eq_some_iff.mp H
 obtain ⟨t319, A30, H⟩ := H
 replace H : (if t319 < 0 then (some (-1)) else (some t319)) = some r := H
 have A3 := Aside0.mk A30
 clear A30
 by_cases c4 : t319 < 0
 ·rw [if_pos c4] at H
  have c4b0 : decide (t319 < 0) = true := decide_eq_true c4
  clear c4
  obtain rfl := Option.some.inj H
  go_enter Try.func95, Try.ntmps95
  go_wp2_with (first | ((with_reducible refine gate_dst (N := 2) rfl ?_); refine box_event ?hg (N := 2) ?hd (cs := #[.slice A0_0 l0_0.length c0_0, .int .i64 a0_1, .int .i64 a0_2]) (t := 39) ?hr ?_; (case hd => rfl); (case hg => rfl); (case hr => first | (go_simp; done) | (go_simp; rfl)); intro gb318 hg w5 hbox hb; have BK318 := am (hbox); have GW318 := am ((by rw [hg]; exact (below_size (bl HB.out)) : w.heap.size ≤ gb318)); have GE318 := GW318; replace HB := am (below_step (bl HB.out) hb); clear hb hbox hg; have hcz6_0 : w5.cell? ⟨gb318, 0, none⟩ = some (.slice A0_0 l0_0.length c0_0) := bc BK318.out 0; have hcz6_1 : w5.cell? ⟨gb318, 1, none⟩ = some (.int .i64 a0_1) := bc BK318.out 1; have hcz6_2 : w5.cell? ⟨gb318, 2, none⟩ = some (.int .i64 a0_2) := bc BK318.out 2) | ((with_reducible refine gate_callee (f := 87) rfl ?_); refine gl (some 8) Try.func87 #[.slice A0_0 l0_0.length c0_0, .int .i64 a1] ?_; (with_reducible refine (laws_heldInt64S.calls k _ _ l0_0 a1 t319 _ ?side1 ?side2 A3.out).mono ?_); (case side1 => repeat (first | exact (Kd.C_below HR0_0.out HB.out) | (with_reducible refine Kd.C_alloc ?_ _) | (with_reducible refine Kd.C_drewN ?_ _) | (with_reducible refine Kd.C_drew ?_))); (case side2 => exact HC0_0.out); rintro e w' ⟨rfl, ⟨nd, rfl⟩⟩; refine ⟨_, rfl, ?_⟩))
  go_ret
  exact ⟨by first | rfl | (simp [errW_none, errW_some] <;> rfl) | (simp [*, errW_none, errW_some] <;> rfl), by repeat (first | (with_reducible first | exact HB.out | apply below_alloc | apply pw_below_drewN | apply below_drew1 | refine below_set ?_ GE318.out) | exact HB.out)⟩
 ·rw [if_neg c4] at H
  have c4b0 : decide (t319 < 0) = false := decide_eq_false c4
  clear c4
  obtain rfl := Option.some.inj H
  go_enter Try.func95, Try.ntmps95
  go_wp2_with (first | ((with_reducible refine gate_dst (N := 2) rfl ?_); refine box_event ?hg (N := 2) ?hd (cs := #[.slice A0_0 l0_0.length c0_0, .int .i64 a0_1, .int .i64 a0_2]) (t := 39) ?hr ?_; (case hd => rfl); (case hg => rfl); (case hr => first | (go_simp; done) | (go_simp; rfl)); intro gb318 hg w7 hbox hb; have BK318 := am (hbox); have GW318 := am ((by rw [hg]; exact (below_size (bl HB.out)) : w.heap.size ≤ gb318)); have GE318 := GW318; replace HB := am (below_step (bl HB.out) hb); clear hb hbox hg; have hcz8_0 : w7.cell? ⟨gb318, 0, none⟩ = some (.slice A0_0 l0_0.length c0_0) := bc BK318.out 0; have hcz8_1 : w7.cell? ⟨gb318, 1, none⟩ = some (.int .i64 a0_1) := bc BK318.out 1; have hcz8_2 : w7.cell? ⟨gb318, 2, none⟩ = some (.int .i64 a0_2) := bc BK318.out 2) | ((with_reducible refine gate_callee (f := 87) rfl ?_); refine gl (some 8) Try.func87 #[.slice A0_0 l0_0.length c0_0, .int .i64 a1] ?_; (with_reducible refine (laws_heldInt64S.calls k _ _ l0_0 a1 t319 _ ?side1 ?side2 A3.out).mono ?_); (case side1 => repeat (first | exact (Kd.C_below HR0_0.out HB.out) | (with_reducible refine Kd.C_alloc ?_ _) | (with_reducible refine Kd.C_drewN ?_ _) | (with_reducible refine Kd.C_drew ?_))); (case side2 => exact HC0_0.out); rintro e w' ⟨rfl, ⟨nd, rfl⟩⟩; refine ⟨_, rfl, ?_⟩))
  go_ret
  exact ⟨by first | rfl | (simp [errW_none, errW_some] <;> rfl) | (simp [*, errW_none, errW_some] <;> rfl), by repeat (first | (with_reducible first | exact HB.out | apply below_alloc | apply pw_below_drewN | apply below_drew1 | refine below_set ?_ GE318.out) | exact HB.out)⟩

/-! ### laws_heldUndoOut: function 44 -/
def laws_heldUndoOut.f (k : Nat) (l0_0 : List (S39)) (l0_1 : List (S39)) (l0_2 : List Int) (a0_3 : Int) (a0_4 : Int) (a0_5 : Int) (a1 : Int) : Option (Int) := (laws_heldUndo.f k l0_0 l0_1 a1).bind fun t321 => (if t321 < 0 then (some (-1)) else ((laws_heldBuf.f k l0_2 a0_3 a0_4 t321).bind fun t322 => (if t322 < 0 then (some (-1)) else (some t322))))
theorem laws_heldUndoOut.mono : ∀ a0 a1 a2 a3 a4 a5 a6 k, LeO (laws_heldUndoOut.f k a0 a1 a2 a3 a4 a5 a6) (laws_heldUndoOut.f (k + 1) a0 a1 a2 a3 a4 a5 a6) := by
 intro a0 a1 a2 a3 a4 a5 a6 k
 unfold laws_heldUndoOut.f
 repeat' first
   | (with_reducible exact laws_heldBuf.mono _ _ _ _ _)
   | (with_reducible exact laws_heldUndo.mono _ _ _ _)
   | (with_reducible exact LeO.refl _)
   | (with_reducible exact LeO.none _)
   | (with_reducible refine LeO.ite ?_ ?_)
   | (with_reducible refine LeO.bind ?_ (fun _ => ?_))
   | exact laws_heldBuf.mono _ _ _ _ _
   | exact laws_heldUndo.mono _ _ _ _
   | refine LeO.bind ?_ (fun _ => ?_)
theorem laws_heldUndoOut.calls (k : Nat) (A0_0 : Option Addr) (c0_0 : Nat) (l0_0 : List (S39)) (A0_1 : Option Addr) (c0_1 : Nat) (l0_1 : List (S39)) (A0_2 : Option Addr) (c0_2 : Nat) (l0_2 : List Int) (a0_3 : Int) (a0_4 : Int) (a0_5 : Int) (a1 : Int) (r : Int) (w : World) (hr0_0 : Kd.C k39 w A0_0 l0_0.length l0_0) (hc0_0 : l0_0.length ≤ c0_0) (hr0_1 : Kd.C k39 w A0_1 l0_1.length l0_1) (hc0_1 : l0_1.length ≤ c0_1) (hr0_2 : Kd.C (Kd.int .i64) w A0_2 l0_2.length l0_2) (hc0_2 : l0_2.length ≤ c0_2) (h : laws_heldUndoOut.f k l0_0 l0_1 l0_2 a0_3 a0_4 a0_5 a1 = some r) :
  Calls Try.prog 44 #[.agg #[.slice A0_0 l0_0.length c0_0, .slice A0_1 l0_1.length c0_1, .slice A0_2 l0_2.length c0_2, .int .i64 a0_3, .int .i64 a0_4, .int .i64 a0_5], .int .i64 a1] w fun e w' => e = .returned (.int .i64 r) ∧ Below w.heap.size w w' := by
 have hu43 := Try.underlying43
 have hu36 := Try.underlying36
 have hu39 := Try.underlying39
 have HR0_0 := am hr0_0
 have HC0_0 := am hc0_0
 clear hr0_0 hc0_0
 have HR0_1 := am hr0_1
 have HC0_1 := am hc0_1
 clear hr0_1 hc0_1
 have HR0_2 := am hr0_2
 have HC0_2 := am hc0_2
 clear hr0_2 hc0_2
 have HB := am (Below.refl w.heap.size w)
 have H : ((laws_heldUndo.f k l0_0 l0_1 a1).bind fun t321 => (if t321 < 0 then (some (-1)) else ((laws_heldBuf.f k l0_2 a0_3 a0_4 t321).bind fun t322 => (if t322 < 0 then (some (-1)) else (some t322))))) = some r := h
 clear h
 replace H := Option.bind_eq_some_iff.mp H
 obtain ⟨t321, A30, H⟩ := H
 replace H : (if t321 < 0 then (some (-1)) else ((laws_heldBuf.f k l0_2 a0_3 a0_4 t321).bind fun t322 => (if t322 < 0 then (some (-1)) else (some t322)))) = some r := H
 have A3 := Aside0.mk A30
 clear A30
 by_cases c4 : t321 < 0
 ·rw [if_pos c4] at H
  have c4b0 : decide (t321 < 0) = true := decide_eq_true c4
  clear c4
  obtain rfl := Option.some.inj H
  go_enter Try.func44, Try.ntmps44
  go_wp2_with (first | ((with_reducible refine gate_dst (N := 2) rfl ?_); refine box_event ?hg (N := 2) ?hd (cs := #[.slice A0_0 l0_0.length c0_0, .slice A0_1 l0_1.length c0_1, .slice A0_2 l0_2.length c0_2, .int .i64 a0_3, .int .i64 a0_4, .int .i64 a0_5]) (t := 43) ?hr ?_; (case hd => rfl); (case hg => rfl); (case hr => first | (go_simp; done) | (go_simp; rfl)); intro gb320 hg w5 hbox hb; have BK320 := am (hbox); have GW320 := am ((by rw [hg]; exact (below_size (bl HB.out)) : w.heap.size ≤ gb320)); have GE320 := GW320; replace HB := am (below_step (bl HB.out) hb); clear hb hbox hg; have hcz6_0 : w5.cell? ⟨gb320, 0, none⟩ = some (.slice A0_0 l0_0.length c0_0) := bc BK320.out 0; have hcz6_1 : w5.cell? ⟨gb320, 1, none⟩ = some (.slice A0_1 l0_1.length c0_1) := bc BK320.out 1; have hcz6_2 : w5.cell? ⟨gb320, 2, none⟩ = some (.slice A0_2 l0_2.length c0_2) := bc BK320.out 2; have hcz6_3 : w5.cell? ⟨gb320, 3, none⟩ = some (.int .i64 a0_3) := bc BK320.out 3; have hcz6_4 : w5.cell? ⟨gb320, 4, none⟩ = some (.int .i64 a0_4) := bc BK320.out 4; have hcz6_5 : w5.cell? ⟨gb320, 5, none⟩ = some (.int .i64 a0_5) := bc BK320.out 5) | ((with_reducible refine gate_callee (f := 41) rfl ?_); refine gl (some 8) Try.func41 #[.agg #[.slice A0_0 l0_0.length c0_0, .slice A0_1 l0_1.length c0_1], .int .i64 a1] ?_; (with_reducible refine (laws_heldUndo.calls k _ _ l0_0 _ _ l0_1 a1 t321 _ ?side1 ?side2 ?side3 ?side4 A3.out).mono ?_); (case side1 => repeat (first | exact (Kd.C_below HR0_0.out HB.out) | (with_reducible refine Kd.C_alloc ?_ _) | (with_reducible refine Kd.C_drewN ?_ _) | (with_reducible refine Kd.C_drew ?_))); (case side2 => exact HC0_0.out); (case side3 => repeat (first | exact (Kd.C_below HR0_1.out HB.out) | (with_reducible refine Kd.C_alloc ?_ _) | (with_reducible refine Kd.C_drewN ?_ _) | (with_reducible refine Kd.C_drew ?_))); (case side4 => exact HC0_1.out); rintro e w7 ⟨rfl, hb⟩; refine ⟨_, rfl, ?_⟩; replace BK320 := am (blk_below (pk BK320.out) hb); replace HB := am (below_step (bl HB.out) hb); (try clear hb); (try clear hb2); (try clear hk); (try clear hi)))
  go_ret
  exact ⟨by first | rfl | (simp [errW_none, errW_some] <;> rfl) | (simp [*, errW_none, errW_some] <;> rfl), by repeat (first | (with_reducible first | exact HB.out | apply below_alloc | apply pw_below_drewN | apply below_drew1 | refine below_set ?_ GE320.out) | exact HB.out)⟩
 ·rw [if_neg c4] at H
  have c4b0 : decide (t321 < 0) = false := decide_eq_false c4
  clear c4
  replace H := Option.bind_eq_some_iff.mp H
  obtain ⟨t322, A80, H⟩ := H
  replace H : (if t322 < 0 then (some (-1)) else (some t322)) = some r := H
  have A8 := Aside0.mk A80
  clear A80
  by_cases c9 : t322 < 0
  ·rw [if_pos c9] at H
   have c9b0 : decide (t322 < 0) = true := decide_eq_true c9
   clear c9
   obtain rfl := Option.some.inj H
   go_enter Try.func44, Try.ntmps44
   go_wp2_with (first | ((with_reducible refine gate_dst (N := 2) rfl ?_); refine box_event ?hg (N := 2) ?hd (cs := #[.slice A0_0 l0_0.length c0_0, .slice A0_1 l0_1.length c0_1, .slice A0_2 l0_2.length c0_2, .int .i64 a0_3, .int .i64 a0_4, .int .i64 a0_5]) (t := 43) ?hr ?_; (case hd => rfl); (case hg => rfl); (case hr => first | (go_simp; done) | (go_simp; rfl)); intro gb320 hg w10 hbox hb; have BK320 := am (hbox); have GW320 := am ((by rw [hg]; exact (below_size (bl HB.out)) : w.heap.size ≤ gb320)); have GE320 := GW320; replace HB := am (below_step (bl HB.out) hb); clear hb hbox hg; have hcz11_0 : w10.cell? ⟨gb320, 0, none⟩ = some (.slice A0_0 l0_0.length c0_0) := bc BK320.out 0; have hcz11_1 : w10.cell? ⟨gb320, 1, none⟩ = some (.slice A0_1 l0_1.length c0_1) := bc BK320.out 1; have hcz11_2 : w10.cell? ⟨gb320, 2, none⟩ = some (.slice A0_2 l0_2.length c0_2) := bc BK320.out 2; have hcz11_3 : w10.cell? ⟨gb320, 3, none⟩ = some (.int .i64 a0_3) := bc BK320.out 3; have hcz11_4 : w10.cell? ⟨gb320, 4, none⟩ = some (.int .i64 a0_4) := bc BK320.out 4; have hcz11_5 : w10.cell? ⟨gb320, 5, none⟩ = some (.int .i64 a0_5) := bc BK320.out 5) | ((with_reducible refine gate_callee (f := 41) rfl ?_); refine gl (some 8) Try.func41 #[.agg #[.slice A0_0 l0_0.length c0_0, .slice A0_1 l0_1.length c0_1], .int .i64 a1] ?_; (with_reducible refine (laws_heldUndo.calls k _ _ l0_0 _ _ l0_1 a1 t321 _ ?side1 ?side2 ?side3 ?side4 A3.out).mono ?_); (case side1 => repeat (first | exact (Kd.C_below HR0_0.out HB.out) | (with_reducible refine Kd.C_alloc ?_ _) | (with_reducible refine Kd.C_drewN ?_ _) | (with_reducible refine Kd.C_drew ?_))); (case side2 => exact HC0_0.out); (case side3 => repeat (first | exact (Kd.C_below HR0_1.out HB.out) | (with_reducible refine Kd.C_alloc ?_ _) | (with_reducible refine Kd.C_drewN ?_ _) | (with_reducible refine Kd.C_drew ?_))); (case side4 => exact HC0_1.out); rintro e w12 ⟨rfl, hb⟩; refine ⟨_, rfl, ?_⟩; replace BK320 := am (blk_below (pk BK320.out) hb); replace HB := am (below_step (bl HB.out) hb); (try clear hb); (try clear hb2); (try clear hk); (try clear hi); have hcz13_0 : w12.cell? ⟨gb320, 0, none⟩ = some (.slice A0_0 l0_0.length c0_0) := bc BK320.out 0; have hcz13_1 : w12.cell? ⟨gb320, 1, none⟩ = some (.slice A0_1 l0_1.length c0_1) := bc BK320.out 1; have hcz13_2 : w12.cell? ⟨gb320, 2, none⟩ = some (.slice A0_2 l0_2.length c0_2) := bc BK320.out 2; have hcz13_3 : w12.cell? ⟨gb320, 3, none⟩ = some (.int .i64 a0_3) := bc BK320.out 3; have hcz13_4 : w12.cell? ⟨gb320, 4, none⟩ = some (.int .i64 a0_4) := bc BK320.out 4; have hcz13_5 : w12.cell? ⟨gb320, 5, none⟩ = some (.int .i64 a0_5) := bc BK320.out 5) | ((with_reducible refine gate_callee (f := 95) rfl ?_); refine gl (some 14) Try.func95 #[.agg #[.slice A0_2 l0_2.length c0_2, .int .i64 a0_3, .int .i64 a0_4], .int .i64 t321] ?_; (with_reducible refine (laws_heldBuf.calls k _ _ l0_2 a0_3 a0_4 t321 t322 _ ?side1 ?side2 A8.out).mono ?_); (case side1 => repeat (first | exact (Kd.C_below HR0_2.out HB.out) | (with_reducible refine Kd.C_alloc ?_ _) | (with_reducible refine Kd.C_drewN ?_ _) | (with_reducible refine Kd.C_drew ?_))); (case side2 => exact HC0_2.out); rintro e w14 ⟨rfl, hb⟩; refine ⟨_, rfl, ?_⟩; replace BK320 := am (blk_below (pk BK320.out) hb); replace HB := am (below_step (bl HB.out) hb); (try clear hb); (try clear hb2); (try clear hk); (try clear hi)))
   go_ret
   exact ⟨by first | rfl | (simp [errW_none, errW_some] <;> rfl) | (simp [*, errW_none, errW_some] <;> rfl), by repeat (first | (with_reducible first | exact HB.out | apply below_alloc | apply pw_below_drewN | apply below_drew1 | refine below_set ?_ GE320.out) | exact HB.out)⟩
  ·rw [if_neg c9] at H
   have c9b0 : decide (t322 < 0) = false := decide_eq_false c9
   clear c9
   obtain rfl := Option.some.inj H
   go_enter Try.func44, Try.ntmps44
   go_wp2_with (first | ((with_reducible refine gate_dst (N := 2) rfl ?_); refine box_event ?hg (N := 2) ?hd (cs := #[.slice A0_0 l0_0.length c0_0, .slice A0_1 l0_1.length c0_1, .slice A0_2 l0_2.length c0_2, .int .i64 a0_3, .int .i64 a0_4, .int .i64 a0_5]) (t := 43) ?hr ?_; (case hd => rfl); (case hg => rfl); (case hr => first | (go_simp; done) | (go_simp; rfl)); intro gb320 hg w15 hbox hb; have BK320 := am (hbox); have GW320 := am ((by rw [hg]; exact (below_size (bl HB.out)) : w.heap.size ≤ gb320)); have GE320 := GW320; replace HB := am (below_step (bl HB.out) hb); clear hb hbox hg; have hcz16_0 : w15.cell? ⟨gb320, 0, none⟩ = some (.slice A0_0 l0_0.length c0_0) := bc BK320.out 0; have hcz16_1 : w15.cell? ⟨gb320, 1, none⟩ = some (.slice A0_1 l0_1.length c0_1) := bc BK320.out 1; have hcz16_2 : w15.cell? ⟨gb320, 2, none⟩ = some (.slice A0_2 l0_2.length c0_2) := bc BK320.out 2; have hcz16_3 : w15.cell? ⟨gb320, 3, none⟩ = some (.int .i64 a0_3) := bc BK320.out 3; have hcz16_4 : w15.cell? ⟨gb320, 4, none⟩ = some (.int .i64 a0_4) := bc BK320.out 4; have hcz16_5 : w15.cell? ⟨gb320, 5, none⟩ = some (.int .i64 a0_5) := bc BK320.out 5) | ((with_reducible refine gate_callee (f := 41) rfl ?_); refine gl (some 8) Try.func41 #[.agg #[.slice A0_0 l0_0.length c0_0, .slice A0_1 l0_1.length c0_1], .int .i64 a1] ?_; (with_reducible refine (laws_heldUndo.calls k _ _ l0_0 _ _ l0_1 a1 t321 _ ?side1 ?side2 ?side3 ?side4 A3.out).mono ?_); (case side1 => repeat (first | exact (Kd.C_below HR0_0.out HB.out) | (with_reducible refine Kd.C_alloc ?_ _) | (with_reducible refine Kd.C_drewN ?_ _) | (with_reducible refine Kd.C_drew ?_))); (case side2 => exact HC0_0.out); (case side3 => repeat (first | exact (Kd.C_below HR0_1.out HB.out) | (with_reducible refine Kd.C_alloc ?_ _) | (with_reducible refine Kd.C_drewN ?_ _) | (with_reducible refine Kd.C_drew ?_))); (case side4 => exact HC0_1.out); rintro e w17 ⟨rfl, hb⟩; refine ⟨_, rfl, ?_⟩; replace BK320 := am (blk_below (pk BK320.out) hb); replace HB := am (below_step (bl HB.out) hb); (try clear hb); (try clear hb2); (try clear hk); (try clear hi); have hcz18_0 : w17.cell? ⟨gb320, 0, none⟩ = some (.slice A0_0 l0_0.length c0_0) := bc BK320.out 0; have hcz18_1 : w17.cell? ⟨gb320, 1, none⟩ = some (.slice A0_1 l0_1.length c0_1) := bc BK320.out 1; have hcz18_2 : w17.cell? ⟨gb320, 2, none⟩ = some (.slice A0_2 l0_2.length c0_2) := bc BK320.out 2; have hcz18_3 : w17.cell? ⟨gb320, 3, none⟩ = some (.int .i64 a0_3) := bc BK320.out 3; have hcz18_4 : w17.cell? ⟨gb320, 4, none⟩ = some (.int .i64 a0_4) := bc BK320.out 4; have hcz18_5 : w17.cell? ⟨gb320, 5, none⟩ = some (.int .i64 a0_5) := bc BK320.out 5) | ((with_reducible refine gate_callee (f := 95) rfl ?_); refine gl (some 14) Try.func95 #[.agg #[.slice A0_2 l0_2.length c0_2, .int .i64 a0_3, .int .i64 a0_4], .int .i64 t321] ?_; (with_reducible refine (laws_heldBuf.calls k _ _ l0_2 a0_3 a0_4 t321 t322 _ ?side1 ?side2 A8.out).mono ?_); (case side1 => repeat (first | exact (Kd.C_below HR0_2.out HB.out) | (with_reducible refine Kd.C_alloc ?_ _) | (with_reducible refine Kd.C_drewN ?_ _) | (with_reducible refine Kd.C_drew ?_))); (case side2 => exact HC0_2.out); rintro e w19 ⟨rfl, hb⟩; refine ⟨_, rfl, ?_⟩; replace BK320 := am (blk_below (pk BK320.out) hb); replace HB := am (below_step (bl HB.out) hb); (try clear hb); (try clear hb2); (try clear hk); (try clear hi)))
   go_ret
   exact ⟨by first | rfl | (simp [errW_none, errW_some] <;> rfl) | (simp [*, errW_none, errW_some] <;> rfl), by repeat (first | (with_reducible first | exact HB.out | apply below_alloc | apply pw_below_drewN | apply below_drew1 | refine below_set ?_ GE320.out) | exact HB.out)⟩

end Go.Proofs.Ytfkghjdhimhjjaa.PFnExactUndoBack
