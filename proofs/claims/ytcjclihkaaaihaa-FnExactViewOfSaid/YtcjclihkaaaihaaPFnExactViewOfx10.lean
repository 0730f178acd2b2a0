-- Written by xprint.py (this claim's own program, over the kit's printer); Lean checks it.
import Derived.Test.YtcjclihkaaaihaaPFnExactViewOfx0
import Derived.Test.YtcjclihkaaaihaaPFnExactViewOfx1
import Derived.Test.YtcjclihkaaaihaaPFnExactViewOfx4
import Derived.Test.YtcjclihkaaaihaaPFnExactViewOfx5
import Derived.Test.YtcjclihkaaaihaaPFnExactViewOfx7
import Derived.Test.YtcjclihkaaaihaaPFnExactViewOfx8
import Derived.Test.YtcjclihkaaaihaaPFnExactViewOfx9
namespace Go.Proofs.Ytcjclihkaaaihaa.PFnExactViewOf
open Go.RowKit Go.Proofs.YtcjclihkaaaihaaW.PrintWords Go.Proofs.YtcjclihkaaaihaaW.PrintLast Go.Proofs.YtcjclihkaaaihaaW.PrintMore
attribute [local go_sem] max2_int min2_int max_two min_two max_three min_three max_four min_four   -- for this text's walks alone
set_option linter.unusedVariables false
set_option linter.unusedSimpArgs false   -- squeezed

/-! ### laws_FnExactViewOf: function 3 -/
def laws_FnExactViewOf.f (k : Nat) (l0 : List Int) (l1_0 : List Int) (a1_1 : Int) (a1_2 : Int) (a2 : Bool) (a3 : Int) (a4 : Int) : Option (Bool) := (if (l0.length : Int) > 1048576 then (some true) else ((laws_szBuf.f l1_0 a1_1 a1_2 1048576).bind fun t4 => (if t4 < 0 then (some true) else ((laws_toInt64S.f k l0).bind fun t8 => ((laws_toBuf.f k l1_0 a1_1 a1_2).bind fun bt10 => ((spec_ViewOf.f k t8 bt10.1 bt10.2.1 bt10.2.2 a2 a3 a4).bind fun bt12 => ((laws_toInt64S.f k l0).bind fun t37 => ((laws_toBuf.f k l1_0 a1_1 a1_2).bind fun bt39 => ((impl_ViewOf.f k t37 bt39.1 bt39.2.1 bt39.2.2 a2 a3 a4).bind fun bt43 => ((laws_eqView.f k bt43.1 bt43.2.1 bt43.2.2.1 bt43.2.2.2.1 bt43.2.2.2.2.1 bt43.2.2.2.2.2.1 bt43.2.2.2.2.2.2.1 bt43.2.2.2.2.2.2.2.1 bt43.2.2.2.2.2.2.2.2 bt12.1 bt12.2.1 bt12.2.2.1 bt12.2.2.2.1 bt12.2.2.2.2.1 bt12.2.2.2.2.2.1 bt12.2.2.2.2.2.2.1 bt12.2.2.2.2.2.2.2.1 bt12.2.2.2.2.2.2.2.2).bind fun t47 => (if t47 = true then ((laws_toInt64S.f k l0).bind fun t50 => ((laws_eqInt64S.f k t37 t50).bind fun t52 => (if t52 = true then ((laws_toBuf.f k l1_0 a1_1 a1_2).bind fun bt57 => ((laws_eqBuf.f k bt39.1 bt39.2.1 bt39.2.2 bt57.1 bt57.2.1 bt57.2.2).bind fun t59 => (if t59 = true then ((laws_markInt64S.f k t37 1).bind fun bt62 => ((laws_markBuf.f k bt39.1 bt39.2.1 bt39.2.2 bt62.1).bind fun bt64 => ((laws_eqView.f k bt43.1 bt43.2.1 bt43.2.2.1 bt43.2.2.2.1 bt43.2.2.2.2.1 bt43.2.2.2.2.2.1 bt43.2.2.2.2.2.2.1 bt43.2.2.2.2.2.2.2.1 bt43.2.2.2.2.2.2.2.2 bt12.1 bt12.2.1 bt12.2.2.1 bt12.2.2.2.1 bt12.2.2.2.2.1 bt12.2.2.2.2.2.1 bt12.2.2.2.2.2.2.1 bt12.2.2.2.2.2.2.2.1 bt12.2.2.2.2.2.2.2.2).bind fun t66 => (if bt64.1 < 0 then (some false) else (if t66 = true then ((laws_markView.f k bt43.1 bt43.2.1 bt43.2.2.1 bt43.2.2.2.1 bt43.2.2.2.2.1 bt43.2.2.2.2.2.1 bt43.2.2.2.2.2.2.1 bt43.2.2.2.2.2.2.2.1 bt43.2.2.2.2.2.2.2.2 1).bind fun bt70 => ((laws_heldView.f k bt43.1 bt43.2.1 bt70.2 bt43.2.2.2.1 bt43.2.2.2.2.1 bt43.2.2.2.2.2.1 bt43.2.2.2.2.2.2.1 bt43.2.2.2.2.2.2.2.1 bt43.2.2.2.2.2.2.2.2 1).bind fun t72 => (if t72 < 0 then (some false) else (if t72 = bt70.1 then ((laws_toInt64S.f k l0).bind fun t77 => ((laws_toBuf.f k l1_0 a1_1 a1_2).bind fun bt79 => ((impl_ViewOf.f k t77 bt79.1 bt79.2.1 bt79.2.2 a2 a3 a4).bind fun bt81 => ((laws_eqView.f k bt81.1 bt81.2.1 bt81.2.2.1 bt81.2.2.2.1 bt81.2.2.2.2.1 bt81.2.2.2.2.2.1 bt81.2.2.2.2.2.2.1 bt81.2.2.2.2.2.2.2.1 bt81.2.2.2.2.2.2.2.2 bt12.1 bt12.2.1 bt12.2.2.1 bt12.2.2.2.1 bt12.2.2.2.2.1 bt12.2.2.2.2.2.1 bt12.2.2.2.2.2.2.1 bt12.2.2.2.2.2.2.2.1 bt12.2.2.2.2.2.2.2.2).bind fun t106 => (if t106 = true then ((laws_heldView.f k bt43.1 bt43.2.1 bt70.2 bt43.2.2.2.1 bt43.2.2.2.2.1 bt43.2.2.2.2.2.1 bt43.2.2.2.2.2.2.1 bt43.2.2.2.2.2.2.2.1 bt43.2.2.2.2.2.2.2.2 1).bind fun t109 => (if t109 < 0 then (some false) else (if t109 = bt70.1 then (some true) else (some false)))) else (some false)))))) else (some false))))) else (some false)))))) else (some false)))) else (some false)))) else (some false))))))))))))
set_option maxHeartbeats 8000000 in
set_option maxRecDepth 100000 in
theorem laws_FnExactViewOf.calls (k : Nat) (A0 : Option Addr) (c0 : Nat) (l0 : List Int) (A1_0 : Option Addr) (c1_0 : Nat) (l1_0 : List Int) (a1_1 : Int) (a1_2 : Int) (a2 : Bool) (a3 : Int) (a4 : Int) (r : Bool) (w : World) (hr0 : Kd.C (Kd.int .i64) w A0 l0.length l0) (hc0 : l0.length ≤ c0) (hr1_0 : Kd.C (Kd.int .i64) w A1_0 l1_0.length l1_0) (hc1_0 : l1_0.length ≤ c1_0) (h : laws_FnExactViewOf.f k l0 l1_0 a1_1 a1_2 a2 a3 a4 = some true) :
 Calls Try.prog 3 #[.slice A0 l0.length c0, .agg #[.slice A1_0 l1_0.length c1_0, .int .i64 a1_1, .int .i64 a1_2], .bool a2, .int .i64 a3, .int .i64 a4] w fun e w' => e = .returned (.bool true) ∧ Below w.heap.size w w' := by
 have hu24 := Try.underlying24
 have hu30 := Try.underlying30
 have hu33 := Try.underlying33
 have HR0 := am hr0
 have HR1_0 := am hr1_0
 have HC0 := am hc0
 have HC1_0 := am hc1_0
 clear hr0 hc0 hr1_0 hc1_0
 have HB := am (Below.refl w.heap.size w)
 have H := h
 unfold laws_FnExactViewOf.f at H
 clear h
 by_cases c3 : (l0.length : Int) > 1048576
 ·have c3b0 : decide (1048576 < (l0.length : Int)) = true := decide_eq_true c3; have c3b1 : decide (1048576 < l0.length) = true := decide_eq_true (by omega)
  clear c3
  go_enter Try.func3, Try.ntmps3
  go_wp2_with (first | ((with_reducible refine gate_dst (N := 6) rfl ?_); refine box_event ?hg (N := 6) ?hd (cs := #[.slice A1_0 l1_0.length c1_0, .int .i64 a1_1, .int .i64 a1_2]) (t := 24) ?hr ?_; (case hd => rfl); (case hg => rfl); (case hr => first | (go_simp; done) | (go_simp; rfl)); intro gb1 hg w2 hbox hb; have GEgb1 : w.heap.size ≤ gb1 := (by rw [hg]; exact below_size HB.out); have ngb1 : gb1 + 1 ≤ w2.heap.size := blk_lt hbox; have BKgb1 := am (hbox); replace HB := am (below_step HB.out hb); have HZ := am (ngb1); clear hb hbox hg ngb1; have hcgb1_0 : w2.cell? ⟨gb1, 0, none⟩ = some (.slice A1_0 l1_0.length c1_0) := bc BKgb1.out 0; have hfgb1_0 := blk_frozen BKgb1.out 0; have hcgb1_1 : w2.cell? ⟨gb1, 1, none⟩ = some (.int .i64 a1_1) := bc BKgb1.out 1; have hfgb1_1 := blk_frozen BKgb1.out 1; have hcgb1_2 : w2.cell? ⟨gb1, 2, none⟩ = some (.int .i64 a1_2) := bc BKgb1.out 2; have hfgb1_2 := blk_frozen BKgb1.out 2))
  go_ret
  exact ⟨by first | rfl | (simp [*]; done), HB.out⟩
 ·skip
  rw [if_neg c3] at H
  have c3b0 : decide (1048576 < (l0.length : Int)) = false := decide_eq_false c3
  have c3b1 : decide (1048576 < l0.length) = false := decide_eq_false (by omega)
  clear c3
  obtain ⟨t4, E4, H⟩ := Option.bind_eq_some_iff.mp H
  (try dsimp only at H)
  have A4 := Aside0.mk E4
  clear E4
  by_cases c6 : t4 < 0
  ·have c6b0 : decide (t4 < 0) = true := decide_eq_true c6
   clear c6
   go_enter Try.func3, Try.ntmps3
   go_wp2_with (first | ((with_reducible refine gate_dst (N := 6) rfl ?_); refine box_event ?hg (N := 6) ?hd (cs := #[.slice A1_0 l1_0.length c1_0, .int .i64 a1_1, .int .i64 a1_2]) (t := 24) ?hr ?_; (case hd => rfl); (case hg => rfl); (case hr => first | (go_simp; done) | (go_simp; rfl)); intro gb1 hg w2 hbox hb; have GEgb1 : w.heap.size ≤ gb1 := (by rw [hg]; exact below_size HB.out); have ngb1 : gb1 + 1 ≤ w2.heap.size := blk_lt hbox; have BKgb1 := am (hbox); replace HB := am (below_step HB.out hb); have HZ := am (ngb1); clear hb hbox hg ngb1; have hcgb1_0 : w2.cell? ⟨gb1, 0, none⟩ = some (.slice A1_0 l1_0.length c1_0) := bc BKgb1.out 0; have hfgb1_0 := blk_frozen BKgb1.out 0; have hcgb1_1 : w2.cell? ⟨gb1, 1, none⟩ = some (.int .i64 a1_1) := bc BKgb1.out 1; have hfgb1_1 := blk_frozen BKgb1.out 1; have hcgb1_2 : w2.cell? ⟨gb1, 2, none⟩ = some (.int .i64 a1_2) := bc BKgb1.out 2; have hfgb1_2 := blk_frozen BKgb1.out 2) | ((with_reducible refine gate_callee (f := 9) rfl ?_); refine gl (some 25) Try.func9 #[.agg #[.slice A1_0 l1_0.length c1_0, .int .i64 a1_1, .int .i64 a1_2], .int .i64 1048576] ?_; (with_reducible refine (laws_szBuf.calls _ _ l1_0 a1_1 a1_2 1048576 t4 _ ?s0 ?s1 A4.out).mono ?_); (case s0 => exact (Kd.C_below HR1_0.out HB.out)); (case s1 => exact HC1_0.out); rintro e w5 ⟨rfl, hb⟩; refine ⟨_, rfl, ?_⟩; obtain ⟨na4, nb4, ha_, hz_, hab4⟩ := nxt_ hb; have hn4 : (gb1 + 1) ≤ na4 := (by rw [ha_]; exact HZ.out); replace BKgb1 := am (blk_below BKgb1.out hb); replace HB := am (below_step HB.out hb); replace HZ := am (Nat.le_of_eq hz_); clear hb ha_ hz_ ; clear hcgb1_0 hfgb1_0 hcgb1_1 hfgb1_1 hcgb1_2 hfgb1_2; have hcgb1_0 : w5.cell? ⟨gb1, 0, none⟩ = some (.slice A1_0 l1_0.length c1_0) := bc BKgb1.out 0; have hfgb1_0 := blk_frozen BKgb1.out 0; have hcgb1_1 : w5.cell? ⟨gb1, 1, none⟩ = some (.int .i64 a1_1) := bc BKgb1.out 1; have hfgb1_1 := blk_frozen BKgb1.out 1; have hcgb1_2 : w5.cell? ⟨gb1, 2, none⟩ = some (.int .i64 a1_2) := bc BKgb1.out 2; have hfgb1_2 := blk_frozen BKgb1.out 2))
   go_ret
   exact ⟨by first | rfl | (simp [*]; done), HB.out⟩
  ·skip
   rw [if_neg c6] at H
   have c6b0 : decide (t4 < 0) = false := decide_eq_false c6
   clear c6
   obtain ⟨t8, E8, H⟩ := Option.bind_eq_some_iff.mp H
   (try dsimp only at H)
   have A8 := Aside0.mk E8
   clear E8
   obtain ⟨⟨t10_0, t10_1, t10_2⟩, E10, H⟩ := Option.bind_eq_some_iff.mp H
   (try dsimp only at H)
   have A10 := Aside0.mk E10
   clear E10
   obtain ⟨⟨t12_0, t12_1, t12_2, t12_3, t12_4, t12_5, t12_6, t12_7, t12_8⟩, E12, H⟩ := Option.bind_eq_some_iff.mp H
   (try dsimp only at H)
   have A12 := Aside0.mk E12
   clear E12
   obtain ⟨t37, E37, H⟩ := Option.bind_eq_some_iff.mp H
   (try dsimp only at H)
   have A37 := Aside0.mk E37
   clear E37
   obtain ⟨⟨t39_0, t39_1, t39_2⟩, E39, H⟩ := Option.bind_eq_some_iff.mp H
   (try dsimp only at H)
   have A39 := Aside0.mk E39
   clear E39
   obtain ⟨⟨t43_0, t43_1, t43_2, t43_3, t43_4, t43_5, t43_6, t43_7, t43_8⟩, E43, H⟩ := Option.bind_eq_some_iff.mp H
   (try dsimp only at H)
   have A43 := Aside0.mk E43
   clear E43
   obtain ⟨t47, E47, H⟩ := Option.bind_eq_some_iff.mp H
   (try dsimp only at H)
   have A47 := Aside0.mk E47
   clear E47
   have c49 : t47 = true := Decidable.byContradiction (fun c_ => by rw [if_neg c_] at H; exact absurd H (by decide))
   rw [if_pos c49] at H
   subst c49
   obtain ⟨t50, E50, H⟩ := Option.bind_eq_some_iff.mp H
   (try dsimp only at H)
   have A50 := Aside0.mk E50
   clear E50
   obtain ⟨t52, E52, H⟩ := Option.bind_eq_some_iff.mp H
   (try dsimp only at H)
   have A52 := Aside0.mk E52
   clear E52
   have c54 : t52 = true := Decidable.byContradiction (fun c_ => by rw [if_neg c_] at H; exact absurd H (by decide))
   rw [if_pos c54] at H
   subst c54
   obtain ⟨⟨t57_0, t57_1, t57_2⟩, E57, H⟩ := Option.bind_eq_some_iff.mp H
   (try dsimp only at H)
   have A57 := Aside0.mk E57
   clear E57
   obtain ⟨t59, E59, H⟩ := Option.bind_eq_some_iff.mp H
   (try dsimp only at H)
   have A59 := Aside0.mk E59
   clear E59
   have c61 : t59 = true := Decidable.byContradiction (fun c_ => by rw [if_neg c_] at H; exact absurd H (by decide))
   rw [if_pos c61] at H
   subst c61
   obtain ⟨⟨t62, t62_0⟩, E62, H⟩ := Option.bind_eq_some_iff.mp H
   (try dsimp only at H)
   have A62 := Aside0.mk E62
   clear E62
   obtain ⟨⟨t64, t64_0⟩, E64, H⟩ := Option.bind_eq_some_iff.mp H
   (try dsimp only at H)
   have A64 := Aside0.mk E64
   clear E64
   obtain ⟨t66, E66, H⟩ := Option.bind_eq_some_iff.mp H
   (try dsimp only at H)
   have A66 := Aside0.mk E66
   clear E66
   have c68 : ¬ (t64 < 0) := fun c_ => by rw [if_pos c_] at H; exact absurd H (by decide)
   rw [if_neg c68] at H
   have c68b0 : decide (t64 < 0) = false := decide_eq_false c68
   clear c68
   have c69 : t66 = true := Decidable.byContradiction (fun c_ => by rw [if_neg c_] at H; exact absurd H (by decide))
   rw [if_pos c69] at H
   subst c69
   obtain ⟨⟨t70, t70_0⟩, E70, H⟩ := Option.bind_eq_some_iff.mp H
   (try dsimp only at H)
   have A70 := Aside0.mk E70
   clear E70
   obtain ⟨t72, E72, H⟩ := Option.bind_eq_some_iff.mp H
   (try dsimp only at H)
   have A72 := Aside0.mk E72
   clear E72
   have c74 : ¬ (t72 < 0) := fun c_ => by rw [if_pos c_] at H; exact absurd H (by decide)
   rw [if_neg c74] at H
   have c74b0 : decide (t72 < 0) = false := decide_eq_false c74
   clear c74
   have c75 : t72 = t70 := Decidable.byContradiction (fun c_ => by rw [if_neg c_] at H; exact absurd H (by decide))
   rw [if_pos c75] at H
   have c75b0 : (t72 == t70) = true := beq_iff_eq.mpr c75
   have c75b1 : (t72 != t70) = false := bne_eq_false_iff_eq.mpr c75
   have c75n : (t72 != t70) = false := by simp [c75]
   clear c75
   obtain ⟨t77, E77, H⟩ := Option.bind_eq_some_iff.mp H
   (try dsimp only at H)
   have A77 := Aside0.mk E77
   clear E77
   obtain ⟨⟨t79_0, t79_1, t79_2⟩, E79, H⟩ := Option.bind_eq_some_iff.mp H
   (try dsimp only at H)
   have A79 := Aside0.mk E79
   clear E79
   obtain ⟨⟨t81_0, t81_1, t81_2, t81_3, t81_4, t81_5, t81_6, t81_7, t81_8⟩, E81, H⟩ := Option.bind_eq_some_iff.mp H
   (try dsimp only at H)
   have A81 := Aside0.mk E81
   clear E81
   obtain ⟨t106, E106, H⟩ := Option.bind_eq_some_iff.mp H
   (try dsimp only at H)
   have A106 := Aside0.mk E106
   clear E106
   have c108 : t106 = true := Decidable.byContradiction (fun c_ => by rw [if_neg c_] at H; exact absurd H (by decide))
   rw [if_pos c108] at H
   subst c108
   obtain ⟨t109, E109, H⟩ := Option.bind_eq_some_iff.mp H
   (try dsimp only at H)
   have A109 := Aside0.mk E109
   clear E109
   have c111 : ¬ (t109 < 0) := fun c_ => by rw [if_pos c_] at H; exact absurd H (by decide)
   rw [if_neg c111] at H
   have c111b0 : decide (t109 < 0) = false := decide_eq_false c111
   clear c111
   have c112 : t109 = t70 := Decidable.byContradiction (fun c_ => by rw [if_neg c_] at H; exact absurd H (by decide))
   rw [if_pos c112] at H
   have c112b0 : (t109 == t70) = true := beq_iff_eq.mpr c112
   have c112b1 : (t109 != t70) = false := bne_eq_false_iff_eq.mpr c112
   have c112n : (t109 != t70) = false := by simp [c112]
   clear c112
   go_enter Try.func3, Try.ntmps3
   go_wp2_with (first | ((with_reducible refine gate_dst (N := 6) rfl ?_); refine box_event ?hg (N := 6) ?hd (cs := #[.slice A1_0 l1_0.length c1_0, .int .i64 a1_1, .int .i64 a1_2]) (t := 24) ?hr ?_; (case hd => rfl); (case hg => rfl); (case hr => first | (go_simp; done) | (go_simp; rfl)); intro gb1 hg w2 hbox hb; have GEgb1 : w.heap.size ≤ gb1 := (by rw [hg]; exact below_size HB.out); have ngb1 : gb1 + 1 ≤ w2.heap.size := blk_lt hbox; have BKgb1 := am (hbox); replace HB := am (below_step HB.out hb); have HZ := am (ngb1); clear hb hbox hg ngb1; have hcgb1_0 : w2.cell? ⟨gb1, 0, none⟩ = some (.slice A1_0 l1_0.length c1_0) := bc BKgb1.out 0; have hfgb1_0 := blk_frozen BKgb1.out 0; have hcgb1_1 : w2.cell? ⟨gb1, 1, none⟩ = some (.int .i64 a1_1) := bc BKgb1.out 1; have hfgb1_1 := blk_frozen BKgb1.out 1; have hcgb1_2 : w2.cell? ⟨gb1, 2, none⟩ = some (.int .i64 a1_2) := bc BKgb1.out 2; have hfgb1_2 := blk_frozen BKgb1.out 2) | ((with_reducible refine gate_callee (f := 9) rfl ?_); refine gl (some 25) Try.func9 #[.agg #[.slice A1_0 l1_0.length c1_0, .int .i64 a1_1, .int .i64 a1_2], .int .i64 1048576] ?_; (with_reducible refine (laws_szBuf.calls _ _ l1_0 a1_1 a1_2 1048576 t4 _ ?s0 ?s1 A4.out).mono ?_); (case s0 => exact (Kd.C_below HR1_0.out HB.out)); (case s1 => exact HC1_0.out); rintro e w5 ⟨rfl, hb⟩; refine ⟨_, rfl, ?_⟩; obtain ⟨na4, nb4, ha_, hz_, hab4⟩ := nxt_ hb; have hn4 : (gb1 + 1) ≤ na4 := (by rw [ha_]; exact HZ.out); replace BKgb1 := am (blk_below BKgb1.out hb); replace HB := am (below_step HB.out hb); replace HZ := am (Nat.le_of_eq hz_); clear hb ha_ hz_ ; clear hcgb1_0 hfgb1_0 hcgb1_1 hfgb1_1 hcgb1_2 hfgb1_2; have hcgb1_0 : w5.cell? ⟨gb1, 0, none⟩ = some (.slice A1_0 l1_0.length c1_0) := bc BKgb1.out 0; have hfgb1_0 := blk_frozen BKgb1.out 0; have hcgb1_1 : w5.cell? ⟨gb1, 1, none⟩ = some (.int .i64 a1_1) := bc BKgb1.out 1; have hfgb1_1 := blk_frozen BKgb1.out 1; have hcgb1_2 : w5.cell? ⟨gb1, 2, none⟩ = some (.int .i64 a1_2) := bc BKgb1.out 2; have hfgb1_2 := blk_frozen BKgb1.out 2))
   try go_wp2
   replace BKgb1 := am (blk_drew BKgb1.out)
   replace HB := am (below_drew1 HB.out)
   refine start_ (n := 10) (S := fun w' => w'.cell? ⟨gb1, 0, none⟩ = some (.slice A1_0 l1_0.length c1_0) ∧ w'.cell? ⟨gb1, 1, none⟩ = some (.int .i64 a1_1) ∧ w'.cell? ⟨gb1, 2, none⟩ = some (.int .i64 a1_2)) (ds := []) #[false, false, false, false, false, false, false, false, false, false] (by kernel_rfl) rfl rfl ⟨bc BKgb1.out 0, bc BKgb1.out 1, bc BKgb1.out 2⟩ (fun hHeld => ?_)
   have HZ2 := am (show nb4 ≤ (w5.drew).heap.size from HZ.out)
   clear HZ
   have HZ := HZ2
   clear HZ2
   generalize w5.drew = w7 at BKgb1 HB HZ hHeld ⊢
   refine pure_ (i := 0) (N := some 28) (v := ?_) (a' := ?_) #[true, false, false, false, false, false, false, false, false, false] rfl rfl (by kernel_rfl) (fun _ _ _ h => h) (Or.inl ⟨by rfl, ?_⟩) ?_ ?_; rotate_left
   ·intro w'; go_simp; with_reducible rfl
   rotate_left
   ·simp only [Act.put, sa_, s0_, ss_, i64_w, i32_w]; rfl
   refine take_ (i := 2) (N := some 30) (v := ?_) (a' := ?_) #[true, false, true, false, false, false, false, false, false, false] rfl rfl (by kernel_rfl) (fun _ _ _ h => h) (Or.inl ⟨by rfl, ?_⟩) hHeld ?_ ?_; rotate_left
   ·rintro w' ⟨s0, s1, s2⟩; go_simp; with_reducible rfl
   rotate_left
   ·simp only [Act.put, sa_, s0_, ss_, i64_w, i32_w]; rfl
   refine pure_ (i := 4) (N := some 32) (v := ?_) (a' := ?_) #[true, false, true, false, true, false, false, false, false, false] rfl rfl (by kernel_rfl) (fun _ _ _ h => h) (Or.inl ⟨by rfl, ?_⟩) ?_ ?_; rotate_left
   ·intro w'; go_simp; with_reducible rfl
   rotate_left
   ·simp only [Act.put, sa_, s0_, ss_, i64_w, i32_w]; rfl
   refine pure_ (i := 5) (N := some 33) (v := ?_) (a' := ?_) #[true, false, true, false, true, true, false, false, false, false] rfl rfl (by kernel_rfl) (fun _ _ _ h => h) (Or.inl ⟨by rfl, ?_⟩) ?_ ?_; rotate_left
   ·intro w'; go_simp; with_reducible rfl
   rotate_left
   ·simp only [Act.put, sa_, s0_, ss_, i64_w, i32_w]; rfl
   refine pure_ (i := 6) (N := some 34) (v := ?_) (a' := ?_) #[true, false, true, false, true, true, true, false, false, false] rfl rfl (by kernel_rfl) (fun _ _ _ h => h) (Or.inl ⟨by rfl, ?_⟩) ?_ ?_; rotate_left
   ·intro w'; go_simp; with_reducible rfl
   rotate_left
   ·simp only [Act.put, sa_, s0_, ss_, i64_w, i32_w]; rfl
   refine join_ (σ := Value × Value × Value × Nat × Nat × Nat × Nat × Nat × Nat × Nat × Nat) 1 #[true, true, true, true, true, true, true, true, true, false] (fun s_ => [(29, s_.1), (31, .agg #[s_.2.1, .int .i64 t10_1, .int .i64 t10_2]), (35, .agg #[.int .i64 t12_0, .int .i64 t12_1, s_.2.2.1, .int .i64 t12_3, .int .i64 t12_4, .bool t12_5, .int .i64 t12_6, .int .i64 t12_7, .int .i64 t12_8]), (12, .pointer (some ⟨s_.2.2.2.1, 0, none⟩))]) (fun s_ w' => (w'.cell? ⟨gb1, 0, none⟩ = some (.slice A1_0 l1_0.length c1_0) ∧ w'.cell? ⟨gb1, 1, none⟩ = some (.int .i64 a1_1) ∧ w'.cell? ⟨gb1, 2, none⟩ = some (.int .i64 a1_2)) ∧ (∃ T_ : Nat → Prop, Kd.R (Kd.int .i64) 2 w' w.heap.size (fun k_ => Rg s_.2.2.2.2.1 s_.2.2.2.2.2.1 k_ ∧ T_ k_) s_.1 t8) ∧ (∃ T_ : Nat → Prop, Kd.R (Kd.int .i64) 2 w' w.heap.size (fun k_ => Rg s_.2.2.2.2.2.2.1 s_.2.2.2.2.2.2.2.1 k_ ∧ T_ k_) s_.2.1 t10_0) ∧ (∃ T_ : Nat → Prop, Kd.R k75 75 w' w.heap.size (fun k_ => Rg s_.2.2.2.2.2.2.2.2.1 s_.2.2.2.2.2.2.2.2.2.1 k_ ∧ T_ k_) s_.2.2.1 t12_2) ∧ (w'.heap[gb1]? = some (.cells #[.slice A1_0 l1_0.length c1_0, .int .i64 a1_1, .int .i64 a1_2] 24 (0, 0))) ∧ (w'.heap[s_.2.2.2.1]? = some (.cells #[.int .i64 0, .int .i64 0, .slice none 0 0, .int .i64 0, .int .i64 0, .bool false, .int .i64 0, .int .i64 0, .int .i64 0] 30 (0, 0))) ∧ (Below w.heap.size w w') ∧ (s_.2.2.2.2.2.2.2.2.2.2 ≤ w'.heap.size) ∧ (w.heap.size ≤ s_.2.2.2.1) ∧ (nb4 ≤ s_.2.2.2.1 ∧ s_.2.2.2.1 < s_.2.2.2.2.2.2.2.2.2.2) ∧ (nb4 ≤ s_.2.2.2.2.1 ∧ s_.2.2.2.2.1 ≤ s_.2.2.2.2.2.1 ∧ (s_.2.2.2.1 < s_.2.2.2.2.1 ∨ s_.2.2.2.2.2.1 ≤ s_.2.2.2.1)) ∧ (s_.2.2.2.2.2.1 ≤ s_.2.2.2.2.2.2.1 ∧ s_.2.2.2.2.2.2.1 ≤ s_.2.2.2.2.2.2.2.1 ∧ (s_.2.2.2.1 < s_.2.2.2.2.2.2.1 ∨ s_.2.2.2.2.2.2.2.1 ≤ s_.2.2.2.1)) ∧ (s_.2.2.2.2.2.2.2.1 ≤ s_.2.2.2.2.2.2.2.2.1 ∧ s_.2.2.2.2.2.2.2.2.1 ≤ s_.2.2.2.2.2.2.2.2.2.1 ∧ (s_.2.2.2.1 < s_.2.2.2.2.2.2.2.2.1 ∨ s_.2.2.2.2.2.2.2.2.2.1 ≤ s_.2.2.2.1)) ∧ (s_.2.2.2.2.2.2.2.2.2.1 ≤ s_.2.2.2.2.2.2.2.2.2.2)) ?_ ?_
   rotate_left
   ·intro hJ
    refine two_ (i := 1) (j := 8) (Ni := some 29) (Nj := some 12) #[true, true, true, false, true, true, true, false, false, false] #[true, false, true, false, true, true, true, false, true, false] rfl rfl rfl rfl (by kernel_rfl) (by decide) (by decide) (fun K hK => ?_) (fun K hK => ?_)
    ·skip
     refine gs_ Try.func11 #[.slice A0 l0.length c0] ?_
     (with_reducible refine (laws_toInt64S.calls k _ _ l0 t8 _ ?s0 ?s1 A8.out).mono ?_)
     (case s0 => exact (Kd.C_below HR0.out HB.out))
     (case s1 => exact HC0.out)
     rintro e w9 ⟨v8_0, rfl, ho0, hb⟩
     refine ⟨_, rfl, ?_⟩
     obtain ⟨na8, nb8, ha_, hz_, hab8⟩ := nxt_ hb
     have hn8 : nb4 ≤ na8 := (by rw [ha_]; exact HZ.out)
     replace BKgb1 := am (blk_below BKgb1.out hb)
     have HO8_0 := am (R_rg ha_ hz_ (below_size HB.out) ho0)
     replace HB := am (below_step HB.out hb)
     replace HZ := am (Nat.le_of_eq hz_)
     clear hb ha_ hz_ ho0
     obtain ⟨Ao8_0, co8_0, eo8_0⟩ := Kd.R_slice HO8_0.out
     subst eo8_0
     refine hK.out _ _ ⟨bc BKgb1.out 0, bc BKgb1.out 1, bc BKgb1.out 2⟩ (fun hHeld => ?_)
     clear hK K
     refine norm_ (a' := ?_) ?_ ?_
     rotate_left
     ·show Act.put _ (some 29) _ = _; simp only [Act.put, sa_, s0_, ss_, i64_w, i32_w]; rfl
     refine two_ (i := 3) (j := 8) (Ni := some 31) (Nj := some 12) #[true, true, true, true, true, true, true, false, false, false] #[true, true, true, false, true, true, true, false, true, false] rfl rfl rfl rfl (by kernel_rfl) (by decide) (by decide) (fun K hK => ?_) (fun K hK => ?_)
     ·skip
      refine gs_ Try.func12 #[.agg #[.slice A1_0 l1_0.length c1_0, .int .i64 a1_1, .int .i64 a1_2]] ?_
      (with_reducible refine (laws_toBuf.calls k _ _ l1_0 a1_1 a1_2 t10_0 t10_1 t10_2 _ ?s0 ?s1 A10.out).mono ?_)
      (case s0 => exact (Kd.C_below HR1_0.out HB.out))
      (case s1 => exact HC1_0.out)
      rintro e w11 ⟨v10_0, rfl, ho0, hb⟩
      refine ⟨_, rfl, ?_⟩
      obtain ⟨na10, nb10, ha_, hz_, hab10⟩ := nxt_ hb
      have hn10 : nb8 ≤ na10 := (by rw [ha_]; exact HZ.out)
      replace HO8_0 := am (Kd.R_below HO8_0.out hb)
      replace BKgb1 := am (blk_below BKgb1.out hb)
      have HO10_0 := am (R_rg ha_ hz_ (below_size HB.out) ho0)
      replace HB := am (below_step HB.out hb)
      replace HZ := am (Nat.le_of_eq hz_)
      clear hb ha_ hz_ ho0
      obtain ⟨Ao10_0, co10_0, eo10_0⟩ := Kd.R_slice HO10_0.out
      subst eo10_0
      refine hK.out _ _ ⟨bc BKgb1.out 0, bc BKgb1.out 1, bc BKgb1.out 2⟩ (fun hHeld => ?_)
      clear hK K
      refine norm_ (a' := ?_) ?_ ?_
      rotate_left
      ·show Act.put _ (some 31) _ = _; simp only [Act.put, sa_, s0_, ss_, i64_w, i32_w]; rfl
      refine two_ (i := 7) (j := 8) (Ni := some 35) (Nj := some 12) #[true, true, true, true, true, true, true, true, false, false] #[true, true, true, true, true, true, true, false, true, false] rfl rfl rfl rfl (by kernel_rfl) (by decide) (by decide) (fun K hK => ?_) (fun K hK => ?_)
      ·skip
       refine gs_ Try.func10 #[.slice Ao8_0 t8.length co8_0, .agg #[.slice Ao10_0 t10_0.length co10_0, .int .i64 t10_1, .int .i64 t10_2], .bool a2, .int .i64 a3, .int .i64 a4] ?_
       (with_reducible refine (spec_ViewOf.calls k _ _ t8 _ _ t10_0 t10_1 t10_2 a2 a3 a4 t12_0 t12_1 t12_2 t12_3 t12_4 t12_5 t12_6 t12_7 t12_8 _ ?s0 ?s1 ?s2 ?s3 A12.out).mono ?_)
       (case s0 => exact (Kd.R_reads' HO8_0.out).2.2)
       (case s1 => exact (Kd.R_reads' HO8_0.out).2.1)
       (case s2 => exact (Kd.R_reads' HO10_0.out).2.2)
       (case s3 => exact (Kd.R_reads' HO10_0.out).2.1)
       rintro e w13 ⟨v12_2, rfl, ho2, hb⟩
       refine ⟨_, rfl, ?_⟩
       obtain ⟨na12, nb12, ha_, hz_, hab12⟩ := nxt_ hb
       have hn12 : nb10 ≤ na12 := (by rw [ha_]; exact HZ.out)
       replace HO8_0 := am (Kd.R_below HO8_0.out hb)
       replace HO10_0 := am (Kd.R_below HO10_0.out hb)
       replace BKgb1 := am (blk_below BKgb1.out hb)
       have HO12_2 := am (R_rg ha_ hz_ (below_size HB.out) ho2)
       replace HB := am (below_step HB.out hb)
       replace HZ := am (Nat.le_of_eq hz_)
       clear hb ha_ hz_ ho2
       obtain ⟨Ao12_2, co12_2, eo12_2⟩ := Kd.R_slice HO12_2.out
       subst eo12_2
       refine hK.out _ _ ⟨bc BKgb1.out 0, bc BKgb1.out 1, bc BKgb1.out 2⟩ (fun hHeld => ?_)
       clear hK K
       refine norm_ (a' := ?_) ?_ ?_
       rotate_left
       ·show Act.put _ (some 35) _ = _; simp only [Act.put, sa_, s0_, ss_, i64_w, i32_w]; rfl
       refine one_ (i := 8) (N := some 12) #[true, true, true, true, true, true, true, true, true, false] rfl rfl (by kernel_rfl) (by decide) (fun K hK => ?_)
       refine box_step ?hg (N := 12) ?hd (cs := #[.int .i64 0, .int .i64 0, .slice none 0 0, .int .i64 0, .int .i64 0, .bool false, .int .i64 0, .int .i64 0, .int .i64 0]) (t := 30) ?hr ?_
       (case hd => rfl)
       (case hg => rfl)
       (case hr => first | (go_simp; done) | (go_simp; rfl))
       intro gb14 hg w15 hbox hb
       have GEgb14 : w.heap.size ≤ gb14 := (by rw [hg]; exact below_size HB.out)
       have hn14 : nb12 ≤ gb14 := (by rw [hg]; exact HZ.out)
       have ngb14 : gb14 + 1 ≤ w15.heap.size := blk_lt hbox
       replace HO8_0 := am (Kd.R_below HO8_0.out hb)
       replace HO10_0 := am (Kd.R_below HO10_0.out hb)
       replace HO12_2 := am (Kd.R_below HO12_2.out hb)
       replace BKgb1 := am (blk_below BKgb1.out hb)
       have BKgb14 := am (hbox)
       replace HB := am (below_step HB.out hb)
       replace HZ := am (ngb14)
       clear hb hbox hg ngb14
       refine hK.out _ _ ⟨bc BKgb1.out 0, bc BKgb1.out 1, bc BKgb1.out 2⟩ (fun hHeld => ?_)
       clear hK K
       refine norm_ (a' := ?_) ?_ ?_
       rotate_left
       ·show Act.put _ (some 12) _ = _; simp only [Act.put, sa_, s0_, ss_, i64_w, i32_w]; rfl
       exact norm_ (by first | (simp only [putAll, Act.put, sa_, s0_, ss_]; done) | (simp only [putAll, Act.put, sa_, s0_, ss_]; rfl)) (hJ (.slice Ao8_0 t8.length co8_0, .slice Ao10_0 t10_0.length co10_0, .slice Ao12_2 t12_2.length co12_2, gb14, na8, nb8, na10, nb10, na12, nb12, (gb14 + 1)) _ ⟨hHeld, ⟨_, HO8_0.out⟩, ⟨_, HO10_0.out⟩, ⟨_, HO12_2.out⟩, BKgb1.out, BKgb14.out, HB.out, HZ.out, GEgb14, (by (try dsimp only); omega), (by (try dsimp only); omega), (by (try dsimp only); omega), (by (try dsimp only); omega), (by (try dsimp only); omega)⟩)
      ·skip
       refine box_step ?hg (N := 12) ?hd (cs := #[.int .i64 0, .int .i64 0, .slice none 0 0, .int .i64 0, .int .i64 0, .bool false, .int .i64 0, .int .i64 0, .int .i64 0]) (t := 30) ?hr ?_
       (case hd => rfl)
       (case hg => rfl)
       (case hr => first | (go_simp; done) | (go_simp; rfl))
       intro gb16 hg w17 hbox hb
       have GEgb16 : w.heap.size ≤ gb16 := (by rw [hg]; exact below_size HB.out)
       have hn16 : nb10 ≤ gb16 := (by rw [hg]; exact HZ.out)
       have ngb16 : gb16 + 1 ≤ w17.heap.size := blk_lt hbox
       replace HO8_0 := am (Kd.R_below HO8_0.out hb)
       replace HO10_0 := am (Kd.R_below HO10_0.out hb)
       replace BKgb1 := am (blk_below BKgb1.out hb)
       have BKgb16 := am (hbox)
       replace HB := am (below_step HB.out hb)
       replace HZ := am (ngb16)
       clear hb hbox hg ngb16
       refine hK.out _ _ ⟨bc BKgb1.out 0, bc BKgb1.out 1, bc BKgb1.out 2⟩ (fun hHeld => ?_)
       clear hK K
       refine norm_ (a' := ?_) ?_ ?_
       rotate_left
       ·show Act.put _ (some 12) _ = _; simp only [Act.put, sa_, s0_, ss_, i64_w, i32_w]; rfl
       refine one_ (i := 7) (N := some 35) #[true, true, true, true, true, true, true, true, true, false] rfl rfl (by kernel_rfl) (by decide) (fun K hK => ?_)
       refine gs_ Try.func10 #[.slice Ao8_0 t8.length co8_0, .agg #[.slice Ao10_0 t10_0.length co10_0, .int .i64 t10_1, .int .i64 t10_2], .bool a2, .int .i64 a3, .int .i64 a4] ?_
       (with_reducible refine (spec_ViewOf.calls k _ _ t8 _ _ t10_0 t10_1 t10_2 a2 a3 a4 t12_0 t12_1 t12_2 t12_3 t12_4 t12_5 t12_6 t12_7 t12_8 _ ?s0 ?s1 ?s2 ?s3 A12.out).mono ?_)
       (case s0 => exact (Kd.R_reads' HO8_0.out).2.2)
       (case s1 => exact (Kd.R_reads' HO8_0.out).2.1)
       (case s2 => exact (Kd.R_reads' HO10_0.out).2.2)
       (case s3 => exact (Kd.R_reads' HO10_0.out).2.1)
       rintro e w19 ⟨v18_2, rfl, ho2, hb⟩
       refine ⟨_, rfl, ?_⟩
       obtain ⟨na18, nb18, ha_, hz_, hab18⟩ := nxt_ hb
       have hn18 : (gb16 + 1) ≤ na18 := (by rw [ha_]; exact HZ.out)
       replace HO8_0 := am (Kd.R_below HO8_0.out hb)
       replace HO10_0 := am (Kd.R_below HO10_0.out hb)
       replace BKgb1 := am (blk_below BKgb1.out hb)
       replace BKgb16 := am (blk_below BKgb16.out hb)
       have HO18_2 := am (R_rg ha_ hz_ (below_size HB.out) ho2)
       replace HB := am (below_step HB.out hb)
       replace HZ := am (Nat.le_of_eq hz_)
       clear hb ha_ hz_ ho2
       obtain ⟨Ao18_2, co18_2, eo18_2⟩ := Kd.R_slice HO18_2.out
       subst eo18_2
       refine hK.out _ _ ⟨bc BKgb1.out 0, bc BKgb1.out 1, bc BKgb1.out 2⟩ (fun hHeld => ?_)
       clear hK K
       refine norm_ (a' := ?_) ?_ ?_
       rotate_left
       ·show Act.put _ (some 35) _ = _; simp only [Act.put, sa_, s0_, ss_, i64_w, i32_w]; rfl
       exact norm_ (by first | (simp only [putAll, Act.put, sa_, s0_, ss_]; done) | (simp only [putAll, Act.put, sa_, s0_, ss_]; rfl)) (hJ (.slice Ao8_0 t8.length co8_0, .slice Ao10_0 t10_0.length co10_0, .slice Ao18_2 t12_2.length co18_2, gb16, na8, nb8, na10, nb10, na18, nb18, nb18) _ ⟨hHeld, ⟨_, HO8_0.out⟩, ⟨_, HO10_0.out⟩, ⟨_, HO18_2.out⟩, BKgb1.out, BKgb16.out, HB.out, HZ.out, GEgb16, (by (try dsimp only); omega), (by (try dsimp only); omega), (by (try dsimp only); omega), (by (try dsimp only); omega), (by (try dsimp only); omega)⟩)
     ·skip
      refine box_step ?hg (N := 12) ?hd (cs := #[.int .i64 0, .int .i64 0, .slice none 0 0, .int .i64 0, .int .i64 0, .bool false, .int .i64 0, .int .i64 0, .int .i64 0]) (t := 30) ?hr ?_
      (case hd => rfl)
      (case hg => rfl)
      (case hr => first | (go_simp; done) | (go_simp; rfl))
      intro gb20 hg w21 hbox hb
      have GEgb20 : w.heap.size ≤ gb20 := (by rw [hg]; exact below_size HB.out)
      have hn20 : nb8 ≤ gb20 := (by rw [hg]; exact HZ.out)
      have ngb20 : gb20 + 1 ≤ w21.heap.size := blk_lt hbox
      replace HO8_0 := am (Kd.R_below HO8_0.out hb)
      replace BKgb1 := am (blk_below BKgb1.out hb)
      have BKgb20 := am (hbox)
      replace HB := am (below_step HB.out hb)
      replace HZ := am (ngb20)
      clear hb hbox hg ngb20
      refine hK.out _ _ ⟨bc BKgb1.out 0, bc BKgb1.out 1, bc BKgb1.out 2⟩ (fun hHeld => ?_)
      clear hK K
      refine norm_ (a' := ?_) ?_ ?_
      rotate_left
      ·show Act.put _ (some 12) _ = _; simp only [Act.put, sa_, s0_, ss_, i64_w, i32_w]; rfl
      refine one_ (i := 3) (N := some 31) #[true, true, true, true, true, true, true, false, true, false] rfl rfl (by kernel_rfl) (by decide) (fun K hK => ?_)
      refine gs_ Try.func12 #[.agg #[.slice A1_0 l1_0.length c1_0, .int .i64 a1_1, .int .i64 a1_2]] ?_
      (with_reducible refine (laws_toBuf.calls k _ _ l1_0 a1_1 a1_2 t10_0 t10_1 t10_2 _ ?s0 ?s1 A10.out).mono ?_)
      (case s0 => exact (Kd.C_below HR1_0.out HB.out))
      (case s1 => exact HC1_0.out)
      rintro e w23 ⟨v22_0, rfl, ho0, hb⟩
      refine ⟨_, rfl, ?_⟩
      obtain ⟨na22, nb22, ha_, hz_, hab22⟩ := nxt_ hb
      have hn22 : (gb20 + 1) ≤ na22 := (by rw [ha_]; exact HZ.out)
      replace HO8_0 := am (Kd.R_below HO8_0.out hb)
      replace BKgb1 := am (blk_below BKgb1.out hb)
      replace BKgb20 := am (blk_below BKgb20.out hb)
      have HO22_0 := am (R_rg ha_ hz_ (below_size HB.out) ho0)
      replace HB := am (below_step HB.out hb)
      replace HZ := am (Nat.le_of_eq hz_)
      clear hb ha_ hz_ ho0
      obtain ⟨Ao22_0, co22_0, eo22_0⟩ := Kd.R_slice HO22_0.out
      subst eo22_0
      refine hK.out _ _ ⟨bc BKgb1.out 0, bc BKgb1.out 1, bc BKgb1.out 2⟩ (fun hHeld => ?_)
      clear hK K
      refine norm_ (a' := ?_) ?_ ?_
      rotate_left
      ·show Act.put _ (some 31) _ = _; simp only [Act.put, sa_, s0_, ss_, i64_w, i32_w]; rfl
      refine one_ (i := 7) (N := some 35) #[true, true, true, true, true, true, true, true, true, false] rfl rfl (by kernel_rfl) (by decide) (fun K hK => ?_)
      refine gs_ Try.func10 #[.slice Ao8_0 t8.length co8_0, .agg #[.slice Ao22_0 t10_0.length co22_0, .int .i64 t10_1, .int .i64 t10_2], .bool a2, .int .i64 a3, .int .i64 a4] ?_
      (with_reducible refine (spec_ViewOf.calls k _ _ t8 _ _ t10_0 t10_1 t10_2 a2 a3 a4 t12_0 t12_1 t12_2 t12_3 t12_4 t12_5 t12_6 t12_7 t12_8 _ ?s0 ?s1 ?s2 ?s3 A12.out).mono ?_)
      (case s0 => exact (Kd.R_reads' HO8_0.out).2.2)
      (case s1 => exact (Kd.R_reads' HO8_0.out).2.1)
      (case s2 => exact (Kd.R_reads' HO22_0.out).2.2)
      (case s3 => exact (Kd.R_reads' HO22_0.out).2.1)
      rintro e w25 ⟨v24_2, rfl, ho2, hb⟩
      refine ⟨_, rfl, ?_⟩
      obtain ⟨na24, nb24, ha_, hz_, hab24⟩ := nxt_ hb
      have hn24 : nb22 ≤ na24 := (by rw [ha_]; exact HZ.out)
      replace HO8_0 := am (Kd.R_below HO8_0.out hb)
      replace HO22_0 := am (Kd.R_below HO22_0.out hb)
      replace BKgb1 := am (blk_below BKgb1.out hb)
      replace BKgb20 := am (blk_below BKgb20.out hb)
      have HO24_2 := am (R_rg ha_ hz_ (below_size HB.out) ho2)
      replace HB := am (below_step HB.out hb)
      replace HZ := am (Nat.le_of_eq hz_)
      clear hb ha_ hz_ ho2
      obtain ⟨Ao24_2, co24_2, eo24_2⟩ := Kd.R_slice HO24_2.out
      subst eo24_2
      refine hK.out _ _ ⟨bc BKgb1.out 0, bc BKgb1.out 1, bc BKgb1.out 2⟩ (fun hHeld => ?_)
      clear hK K
      refine norm_ (a' := ?_) ?_ ?_
      rotate_left
      ·show Act.put _ (some 35) _ = _; simp only [Act.put, sa_, s0_, ss_, i64_w, i32_w]; rfl
      exact norm_ (by first | (simp only [putAll, Act.put, sa_, s0_, ss_]; done) | (simp only [putAll, Act.put, sa_, s0_, ss_]; rfl)) (hJ (.slice Ao8_0 t8.length co8_0, .slice Ao22_0 t10_0.length co22_0, .slice Ao24_2 t12_2.length co24_2, gb20, na8, nb8, na22, nb22, na24, nb24, nb24) _ ⟨hHeld, ⟨_, HO8_0.out⟩, ⟨_, HO22_0.out⟩, ⟨_, HO24_2.out⟩, BKgb1.out, BKgb20.out, HB.out, HZ.out, GEgb20, (by (try dsimp only); omega), (by (try dsimp only); omega), (by (try dsimp only); omega), (by (try dsimp only); omega), (by (try dsimp only); omega)⟩)
    ·skip
     refine box_step ?hg (N := 12) ?hd (cs := #[.int .i64 0, .int .i64 0, .slice none 0 0, .int .i64 0, .int .i64 0, .bool false, .int .i64 0, .int .i64 0, .int .i64 0]) (t := 30) ?hr ?_
     (case hd => rfl)
     (case hg => rfl)
     (case hr => first | (go_simp; done) | (go_simp; rfl))
     intro gb26 hg w27 hbox hb
     have GEgb26 : w.heap.size ≤ gb26 := (by rw [hg]; exact below_size HB.out)
     have hn26 : nb4 ≤ gb26 := (by rw [hg]; exact HZ.out)
     have ngb26 : gb26 + 1 ≤ w27.heap.size := blk_lt hbox
     replace BKgb1 := am (blk_below BKgb1.out hb)
     have BKgb26 := am (hbox)
     replace HB := am (below_step HB.out hb)
     replace HZ := am (ngb26)
     clear hb hbox hg ngb26
     refine hK.out _ _ ⟨bc BKgb1.out 0, bc BKgb1.out 1, bc BKgb1.out 2⟩ (fun hHeld => ?_)
     clear hK K
     refine norm_ (a' := ?_) ?_ ?_
     rotate_left
     ·show Act.put _ (some 12) _ = _; simp only [Act.put, sa_, s0_, ss_, i64_w, i32_w]; rfl
     refine one_ (i := 1) (N := some 29) #[true, true, true, false, true, true, true, false, true, false] rfl rfl (by kernel_rfl) (by decide) (fun K hK => ?_)
     refine gs_ Try.func11 #[.slice A0 l0.length c0] ?_
     (with_reducible refine (laws_toInt64S.calls k _ _ l0 t8 _ ?s0 ?s1 A8.out).mono ?_)
     (case s0 => exact (Kd.C_below HR0.out HB.out))
     (case s1 => exact HC0.out)
     rintro e w29 ⟨v28_0, rfl, ho0, hb⟩
     refine ⟨_, rfl, ?_⟩
     obtain ⟨na28, nb28, ha_, hz_, hab28⟩ := nxt_ hb
     have hn28 : (gb26 + 1) ≤ na28 := (by rw [ha_]; exact HZ.out)
     replace BKgb1 := am (blk_below BKgb1.out hb)
     replace BKgb26 := am (blk_below BKgb26.out hb)
     have HO28_0 := am (R_rg ha_ hz_ (below_size HB.out) ho0)
     replace HB := am (below_step HB.out hb)
     replace HZ := am (Nat.le_of_eq hz_)
     clear hb ha_ hz_ ho0
     obtain ⟨Ao28_0, co28_0, eo28_0⟩ := Kd.R_slice HO28_0.out
     subst eo28_0
     refine hK.out _ _ ⟨bc BKgb1.out 0, bc BKgb1.out 1, bc BKgb1.out 2⟩ (fun hHeld => ?_)
     clear hK K
     refine norm_ (a' := ?_) ?_ ?_
     rotate_left
     ·show Act.put _ (some 29) _ = _; simp only [Act.put, sa_, s0_, ss_, i64_w, i32_w]; rfl
     refine one_ (i := 3) (N := some 31) #[true, true, true, true, true, true, true, false, true, false] rfl rfl (by kernel_rfl) (by decide) (fun K hK => ?_)
     refine gs_ Try.func12 #[.agg #[.slice A1_0 l1_0.length c1_0, .int .i64 a1_1, .int .i64 a1_2]] ?_
     (with_reducible refine (laws_toBuf.calls k _ _ l1_0 a1_1 a1_2 t10_0 t10_1 t10_2 _ ?s0 ?s1 A10.out).mono ?_)
     (case s0 => exact (Kd.C_below HR1_0.out HB.out))
     (case s1 => exact HC1_0.out)
     rintro e w31 ⟨v30_0, rfl, ho0, hb⟩
     refine ⟨_, rfl, ?_⟩
     obtain ⟨na30, nb30, ha_, hz_, hab30⟩ := nxt_ hb
     have hn30 : nb28 ≤ na30 := (by rw [ha_]; exact HZ.out)
     replace HO28_0 := am (Kd.R_below HO28_0.out hb)
     replace BKgb1 := am (blk_below BKgb1.out hb)
     replace BKgb26 := am (blk_below BKgb26.out hb)
     have HO30_0 := am (R_rg ha_ hz_ (below_size HB.out) ho0)
     replace HB := am (below_step HB.out hb)
     replace HZ := am (Nat.le_of_eq hz_)
     clear hb ha_ hz_ ho0
     obtain ⟨Ao30_0, co30_0, eo30_0⟩ := Kd.R_slice HO30_0.out
     subst eo30_0
     refine hK.out _ _ ⟨bc BKgb1.out 0, bc BKgb1.out 1, bc BKgb1.out 2⟩ (fun hHeld => ?_)
     clear hK K
     refine norm_ (a' := ?_) ?_ ?_
     rotate_left
     ·show Act.put _ (some 31) _ = _; simp only [Act.put, sa_, s0_, ss_, i64_w, i32_w]; rfl
     refine one_ (i := 7) (N := some 35) #[true, true, true, true, true, true, true, true, true, false] rfl rfl (by kernel_rfl) (by decide) (fun K hK => ?_)
     refine gs_ Try.func10 #[.slice Ao28_0 t8.length co28_0, .agg #[.slice Ao30_0 t10_0.length co30_0, .int .i64 t10_1, .int .i64 t10_2], .bool a2, .int .i64 a3, .int .i64 a4] ?_
     (with_reducible refine (spec_ViewOf.calls k _ _ t8 _ _ t10_0 t10_1 t10_2 a2 a3 a4 t12_0 t12_1 t12_2 t12_3 t12_4 t12_5 t12_6 t12_7 t12_8 _ ?s0 ?s1 ?s2 ?s3 A12.out).mono ?_)
     (case s0 => exact (Kd.R_reads' HO28_0.out).2.2)
     (case s1 => exact (Kd.R_reads' HO28_0.out).2.1)
     (case s2 => exact (Kd.R_reads' HO30_0.out).2.2)
     (case s3 => exact (Kd.R_reads' HO30_0.out).2.1)
     rintro e w33 ⟨v32_2, rfl, ho2, hb⟩
     refine ⟨_, rfl, ?_⟩
     obtain ⟨na32, nb32, ha_, hz_, hab32⟩ := nxt_ hb
     have hn32 : nb30 ≤ na32 := (by rw [ha_]; exact HZ.out)
     replace HO28_0 := am (Kd.R_below HO28_0.out hb)
     replace HO30_0 := am (Kd.R_below HO30_0.out hb)
     replace BKgb1 := am (blk_below BKgb1.out hb)
     replace BKgb26 := am (blk_below BKgb26.out hb)
     have HO32_2 := am (R_rg ha_ hz_ (below_size HB.out) ho2)
     replace HB := am (below_step HB.out hb)
     replace HZ := am (Nat.le_of_eq hz_)
     clear hb ha_ hz_ ho2
     obtain ⟨Ao32_2, co32_2, eo32_2⟩ := Kd.R_slice HO32_2.out
     subst eo32_2
     refine hK.out _ _ ⟨bc BKgb1.out 0, bc BKgb1.out 1, bc BKgb1.out 2⟩ (fun hHeld => ?_)
     clear hK K
     refine norm_ (a' := ?_) ?_ ?_
     rotate_left
     ·show Act.put _ (some 35) _ = _; simp only [Act.put, sa_, s0_, ss_, i64_w, i32_w]; rfl
     exact norm_ (by first | (simp only [putAll, Act.put, sa_, s0_, ss_]; done) | (simp only [putAll, Act.put, sa_, s0_, ss_]; rfl)) (hJ (.slice Ao28_0 t8.length co28_0, .slice Ao30_0 t10_0.length co30_0, .slice Ao32_2 t12_2.length co32_2, gb26, na28, nb28, na30, nb30, na32, nb32, nb32) _ ⟨hHeld, ⟨_, HO28_0.out⟩, ⟨_, HO30_0.out⟩, ⟨_, HO32_2.out⟩, BKgb1.out, BKgb26.out, HB.out, HZ.out, GEgb26, (by (try dsimp only); omega), (by (try dsimp only); omega), (by (try dsimp only); omega), (by (try dsimp only); omega), (by (try dsimp only); omega)⟩)
   rintro ⟨vj34_0_0, vj34_1_0, vj34_2_0, gb35, nj34_0, mj34_0, nj34_1, mj34_1, nj34_2, mj34_2, nl34⟩ w36 ⟨hS_, ⟨T34_0, h0_⟩, ⟨T34_1, h1_⟩, ⟨T34_2, h2_⟩, h3_, h4_, h5_, h6_, h7_, h8_, h9_, h10_, h11_, h12_⟩
   have HOj34_1_0 : Aside0 (Kd.R (Kd.int .i64) 2 w36 w.heap.size (fun k_ => Rg nj34_0 mj34_0 k_ ∧ T34_0 k_) vj34_0_0 t8) := ⟨h0_⟩
   have HOj34_3_0 : Aside0 (Kd.R (Kd.int .i64) 2 w36 w.heap.size (fun k_ => Rg nj34_1 mj34_1 k_ ∧ T34_1 k_) vj34_1_0 t10_0) := ⟨h1_⟩
   have HOj34_7_0 : Aside0 (Kd.R k75 75 w36 w.heap.size (fun k_ => Rg nj34_2 mj34_2 k_ ∧ T34_2 k_) vj34_2_0 t12_2) := ⟨h2_⟩
   replace BKgb1 : Aside0 (w36.heap[gb1]? = some (.cells #[.slice A1_0 l1_0.length c1_0, .int .i64 a1_1, .int .i64 a1_2] 24 (0, 0))) := ⟨h3_⟩
   have BKgb35 : Aside0 (w36.heap[gb35]? = some (.cells #[.int .i64 0, .int .i64 0, .slice none 0 0, .int .i64 0, .int .i64 0, .bool false, .int .i64 0, .int .i64 0, .int .i64 0] 30 (0, 0))) := ⟨h4_⟩
   replace HB : Aside0 (Below w.heap.size w w36) := ⟨h5_⟩
   replace HZ : Aside0 (nl34 ≤ w36.heap.size) := ⟨h6_⟩
   have GEgb35 : w.heap.size ≤ gb35 := h7_
   have hq34_8 : nb4 ≤ gb35 ∧ gb35 < nl34 := h8_
   have hq34_9 : nb4 ≤ nj34_0 ∧ nj34_0 ≤ mj34_0 ∧ (gb35 < nj34_0 ∨ mj34_0 ≤ gb35) := h9_
   have hq34_10 : mj34_0 ≤ nj34_1 ∧ nj34_1 ≤ mj34_1 ∧ (gb35 < nj34_1 ∨ mj34_1 ≤ gb35) := h10_
   have hq34_11 : mj34_1 ≤ nj34_2 ∧ nj34_2 ≤ mj34_2 ∧ (gb35 < nj34_2 ∨ mj34_2 ≤ gb35) := h11_
   have hq34_12 : mj34_2 ≤ nl34 := h12_
   have hHeld2 : w36.cell? ⟨gb1, 0, none⟩ = some (.slice A1_0 l1_0.length c1_0) ∧ w36.cell? ⟨gb1, 1, none⟩ = some (.int .i64 a1_1) ∧ w36.cell? ⟨gb1, 2, none⟩ = some (.int .i64 a1_2) := hS_
   clear hS_ hHeld h0_ h1_ h2_ h3_ h4_ h5_ h6_ h7_ h8_ h9_ h10_ h11_ h12_
   have hHeld := hHeld2
   clear hHeld2
   obtain ⟨Aoj34_1_0, coj34_1_0, eoj34_1_0⟩ := Kd.R_slice HOj34_1_0.out
   subst eoj34_1_0
   obtain ⟨Aoj34_3_0, coj34_3_0, eoj34_3_0⟩ := Kd.R_slice HOj34_3_0.out
   subst eoj34_3_0
   obtain ⟨Aoj34_7_0, coj34_7_0, eoj34_7_0⟩ := Kd.R_slice HOj34_7_0.out
   subst eoj34_7_0
   clear hcgb1_0 hfgb1_0 hcgb1_1 hfgb1_1 hcgb1_2 hfgb1_2
   have hcgb1_0 : w36.cell? ⟨gb1, 0, none⟩ = some (.slice A1_0 l1_0.length c1_0) := bc BKgb1.out 0
   have hfgb1_0 := blk_frozen BKgb1.out 0
   have hcgb1_1 : w36.cell? ⟨gb1, 1, none⟩ = some (.int .i64 a1_1) := bc BKgb1.out 1
   have hfgb1_1 := blk_frozen BKgb1.out 1
   have hcgb1_2 : w36.cell? ⟨gb1, 2, none⟩ = some (.int .i64 a1_2) := bc BKgb1.out 2
   have hfgb1_2 := blk_frozen BKgb1.out 2
   have hcgb35_0 : w36.cell? ⟨gb35, 0, none⟩ = some (.int .i64 0) := bc BKgb35.out 0
   have hfgb35_0 := blk_frozen BKgb35.out 0
   have hcgb35_1 : w36.cell? ⟨gb35, 1, none⟩ = some (.int .i64 0) := bc BKgb35.out 1
   have hfgb35_1 := blk_frozen BKgb35.out 1
   have hcgb35_2 : w36.cell? ⟨gb35, 2, none⟩ = some (.slice none 0 0) := bc BKgb35.out 2
   have hfgb35_2 := blk_frozen BKgb35.out 2
   have hcgb35_3 : w36.cell? ⟨gb35, 3, none⟩ = some (.int .i64 0) := bc BKgb35.out 3
   have hfgb35_3 := blk_frozen BKgb35.out 3
   have hcgb35_4 : w36.cell? ⟨gb35, 4, none⟩ = some (.int .i64 0) := bc BKgb35.out 4
   have hfgb35_4 := blk_frozen BKgb35.out 4
   have hcgb35_5 : w36.cell? ⟨gb35, 5, none⟩ = some (.bool false) := bc BKgb35.out 5
   have hfgb35_5 := blk_frozen BKgb35.out 5
   have hcgb35_6 : w36.cell? ⟨gb35, 6, none⟩ = some (.int .i64 0) := bc BKgb35.out 6
   have hfgb35_6 := blk_frozen BKgb35.out 6
   have hcgb35_7 : w36.cell? ⟨gb35, 7, none⟩ = some (.int .i64 0) := bc BKgb35.out 7
   have hfgb35_7 := blk_frozen BKgb35.out 7
   have hcgb35_8 : w36.cell? ⟨gb35, 8, none⟩ = some (.int .i64 0) := bc BKgb35.out 8
   have hfgb35_8 := blk_frozen BKgb35.out 8
   have hxgb35_gb1 : gb35 ≠ gb1 := (by omega)
   have hygb35_gb1 : gb1 ≠ gb35 := (by omega)
   refine norm_ (a' := ?_) ?_ ?_
   rotate_left
   ·simp only [putAll, Act.put, sa_, s0_, ss_]; rfl
   refine one_ (i := 9) (N := none) #[true, true, true, true, true, true, true, true, true, true] rfl rfl (by kernel_rfl) (by decide) (fun K hK => ?_)
   refine skip_ (w1 := ?_) (by rfl) rfl ?_ ?_
   rotate_left
   ·go_simp; rfl
   refine hK.out _ _ ⟨((cell_far (p := ⟨gb35, _, none⟩) hygb35_gb1 _).trans ((cell_far (p := ⟨gb35, _, none⟩) hygb35_gb1 _).trans ((cell_far (p := ⟨gb35, _, none⟩) hygb35_gb1 _).trans ((cell_far (p := ⟨gb35, _, none⟩) hygb35_gb1 _).trans ((cell_far (p := ⟨gb35, _, none⟩) hygb35_gb1 _).trans ((cell_far (p := ⟨gb35, _, none⟩) hygb35_gb1 _).trans ((cell_far (p := ⟨gb35, _, none⟩) hygb35_gb1 _).trans ((cell_far (p := ⟨gb35, _, none⟩) hygb35_gb1 _).trans ((cell_far (p := ⟨gb35, _, none⟩) hygb35_gb1 _).trans (hHeld.1)))))))))), ((cell_far (p := ⟨gb35, _, none⟩) hygb35_gb1 _).trans ((cell_far (p := ⟨gb35, _, none⟩) hygb35_gb1 _).trans ((cell_far (p := ⟨gb35, _, none⟩) hygb35_gb1 _).trans ((cell_far (p := ⟨gb35, _, none⟩) hygb35_gb1 _).trans ((cell_far (p := ⟨gb35, _, none⟩) hygb35_gb1 _).trans ((cell_far (p := ⟨gb35, _, none⟩) hygb35_gb1 _).trans ((cell_far (p := ⟨gb35, _, none⟩) hygb35_gb1 _).trans ((cell_far (p := ⟨gb35, _, none⟩) hygb35_gb1 _).trans ((cell_far (p := ⟨gb35, _, none⟩) hygb35_gb1 _).trans (hHeld.2.1)))))))))), ((cell_far (p := ⟨gb35, _, none⟩) hygb35_gb1 _).trans ((cell_far (p := ⟨gb35, _, none⟩) hygb35_gb1 _).trans ((cell_far (p := ⟨gb35, _, none⟩) hygb35_gb1 _).trans ((cell_far (p := ⟨gb35, _, none⟩) hygb35_gb1 _).trans ((cell_far (p := ⟨gb35, _, none⟩) hygb35_gb1 _).trans ((cell_far (p := ⟨gb35, _, none⟩) hygb35_gb1 _).trans ((cell_far (p := ⟨gb35, _, none⟩) hygb35_gb1 _).trans ((cell_far (p := ⟨gb35, _, none⟩) hygb35_gb1 _).trans ((cell_far (p := ⟨gb35, _, none⟩) hygb35_gb1 _).trans (hHeld.2.2))))))))))⟩ (fun hHeld => ?_)
   clear hK K
   refine done_ (by kernel_rfl) ?_
   go_wp2_with (first | ((with_reducible refine gate_callee (f := 11) rfl ?_); refine gl (some 37) Try.func11 #[.slice A0 l0.length c0] ?_; (with_reducible refine (laws_toInt64S.calls k _ _ l0 t37 _ ?s0 ?s1 A37.out).mono ?_); (case s0 => exact (Kd.C_below HR0.out (below_set (below_set (below_set (below_set (below_set (below_set (below_set (below_set (below_set HB.out GEgb35) GEgb35) GEgb35) GEgb35) GEgb35) GEgb35) GEgb35) GEgb35) GEgb35))); (case s1 => exact HC0.out); rintro e w38 ⟨v37_0, rfl, ho0, hb⟩; refine ⟨_, rfl, ?_⟩; obtain ⟨na37, nb37, ha_, hz_, hab37⟩ := nxt_ hb; have hn37 : nl34 ≤ na37 := (by rw [ha_]; exact (sz_set (sz_set (sz_set (sz_set (sz_set (sz_set (sz_set (sz_set (sz_set HZ.out)))))))))); replace HOj34_1_0 := am (Kd.R_below (R_farR (g := gb35) (R_farR (g := gb35) (R_farR (g := gb35) (R_farR (g := gb35) (R_farR (g := gb35) (R_farR (g := gb35) (R_farR (g := gb35) (R_farR (g := gb35) (R_farR (g := gb35) HOj34_1_0.out (by omega) _) (by omega) _) (by omega) _) (by omega) _) (by omega) _) (by omega) _) (by omega) _) (by omega) _) (by omega) _) hb); replace HOj34_3_0 := am (Kd.R_below (R_farR (g := gb35) (R_farR (g := gb35) (R_farR (g := gb35) (R_farR (g := gb35) (R_farR (g := gb35) (R_farR (g := gb35) (R_farR (g := gb35) (R_farR (g := gb35) (R_farR (g := gb35) HOj34_3_0.out (by omega) _) (by omega) _) (by omega) _) (by omega) _) (by omega) _) (by omega) _) (by omega) _) (by omega) _) (by omega) _) hb); replace HOj34_7_0 := am (Kd.R_below (R_farR (g := gb35) (R_farR (g := gb35) (R_farR (g := gb35) (R_farR (g := gb35) (R_farR (g := gb35) (R_farR (g := gb35) (R_farR (g := gb35) (R_farR (g := gb35) (R_farR (g := gb35) HOj34_7_0.out (by omega) _) (by omega) _) (by omega) _) (by omega) _) (by omega) _) (by omega) _) (by omega) _) (by omega) _) (by omega) _) hb); replace BKgb1 := am (blk_below (g := gb1) (o := .cells #[.slice A1_0 l1_0.length c1_0, .int .i64 a1_1, .int .i64 a1_2] 24 (0, 0)) (by refine pk ?_; refine blk_far ?_ (show gb1 ≠ gb35 by omega) _; refine pk ?_; refine blk_far ?_ (show gb1 ≠ gb35 by omega) _; refine pk ?_; refine blk_far ?_ (show gb1 ≠ gb35 by omega) _; refine pk ?_; refine blk_far ?_ (show gb1 ≠ gb35 by omega) _; refine pk ?_; refine blk_far ?_ (show gb1 ≠ gb35 by omega) _; refine pk ?_; refine blk_far ?_ (show gb1 ≠ gb35 by omega) _; refine pk ?_; refine blk_far ?_ (show gb1 ≠ gb35 by omega) _; refine pk ?_; refine blk_far ?_ (show gb1 ≠ gb35 by omega) _; refine pk ?_; refine blk_far ?_ (show gb1 ≠ gb35 by omega) _; refine pk ?_; exact BKgb1.out) hb); replace BKgb35 := am (blk_below (g := gb35) (o := .cells #[.int .i64 t12_0, .int .i64 t12_1, .slice Aoj34_7_0 t12_2.length coj34_7_0, .int .i64 t12_3, .int .i64 t12_4, .bool t12_5, .int .i64 t12_6, .int .i64 t12_7, .int .i64 t12_8] 30 (0, 0)) (by refine pk ?_; refine blk_put (cs := #[.int .i64 t12_0, .int .i64 t12_1, .slice Aoj34_7_0 t12_2.length coj34_7_0, .int .i64 t12_3, .int .i64 t12_4, .bool t12_5, .int .i64 t12_6, .int .i64 t12_7, .int .i64 0]) ?_ 8 _ rfl; refine pk ?_; refine blk_put (cs := #[.int .i64 t12_0, .int .i64 t12_1, .slice Aoj34_7_0 t12_2.length coj34_7_0, .int .i64 t12_3, .int .i64 t12_4, .bool t12_5, .int .i64 t12_6, .int .i64 0, .int .i64 0]) ?_ 7 _ rfl; refine pk ?_; refine blk_put (cs := #[.int .i64 t12_0, .int .i64 t12_1, .slice Aoj34_7_0 t12_2.length coj34_7_0, .int .i64 t12_3, .int .i64 t12_4, .bool t12_5, .int .i64 0, .int .i64 0, .int .i64 0]) ?_ 6 _ rfl; refine pk ?_; refine blk_put (cs := #[.int .i64 t12_0, .int .i64 t12_1, .slice Aoj34_7_0 t12_2.length coj34_7_0, .int .i64 t12_3, .int .i64 t12_4, .bool false, .int .i64 0, .int .i64 0, .int .i64 0]) ?_ 5 _ rfl; refine pk ?_; refine blk_put (cs := #[.int .i64 t12_0, .int .i64 t12_1, .slice Aoj34_7_0 t12_2.length coj34_7_0, .int .i64 t12_3, .int .i64 0, .bool false, .int .i64 0, .int .i64 0, .int .i64 0]) ?_ 4 _ rfl; refine pk ?_; refine blk_put (cs := #[.int .i64 t12_0, .int .i64 t12_1, .slice Aoj34_7_0 t12_2.length coj34_7_0, .int .i64 0, .int .i64 0, .bool false, .int .i64 0, .int .i64 0, .int .i64 0]) ?_ 3 _ rfl; refine pk ?_; refine blk_put (cs := #[.int .i64 t12_0, .int .i64 t12_1, .slice none 0 0, .int .i64 0, .int .i64 0, .bool false, .int .i64 0, .int .i64 0, .int .i64 0]) ?_ 2 _ rfl; refine pk ?_; refine blk_put (cs := #[.int .i64 t12_0, .int .i64 0, .slice none 0 0, .int .i64 0, .int .i64 0, .bool false, .int .i64 0, .int .i64 0, .int .i64 0]) ?_ 1 _ rfl; refine pk ?_; refine blk_put (cs := #[.int .i64 0, .int .i64 0, .slice none 0 0, .int .i64 0, .int .i64 0, .bool false, .int .i64 0, .int .i64 0, .int .i64 0]) ?_ 0 _ rfl; refine pk ?_; exact BKgb35.out) hb); have HO37_0 := am (R_rg ha_ hz_ (below_size (below_set (below_set (below_set (below_set (below_set (below_set (below_set (below_set (below_set HB.out GEgb35) GEgb35) GEgb35) GEgb35) GEgb35) GEgb35) GEgb35) GEgb35) GEgb35)) ho0); replace HB := am (below_step (below_set (below_set (below_set (below_set (below_set (below_set (below_set (below_set (below_set HB.out GEgb35) GEgb35) GEgb35) GEgb35) GEgb35) GEgb35) GEgb35) GEgb35) GEgb35) hb); replace HZ := am (Nat.le_of_eq hz_); clear hb ha_ hz_ ho0; obtain ⟨Ao37_0, co37_0, eo37_0⟩ := Kd.R_slice HO37_0.out; subst eo37_0; clear hcgb1_0 hfgb1_0 hcgb1_1 hfgb1_1 hcgb1_2 hfgb1_2 hcgb35_0 hfgb35_0 hcgb35_1 hfgb35_1 hcgb35_2 hfgb35_2 hcgb35_3 hfgb35_3 hcgb35_4 hfgb35_4 hcgb35_5 hfgb35_5 hcgb35_6 hfgb35_6 hcgb35_7 hfgb35_7 hcgb35_8 hfgb35_8; have hcgb1_0 : w38.cell? ⟨gb1, 0, none⟩ = some (.slice A1_0 l1_0.length c1_0) := bc BKgb1.out 0; have hfgb1_0 := blk_frozen BKgb1.out 0; have hcgb1_1 : w38.cell? ⟨gb1, 1, none⟩ = some (.int .i64 a1_1) := bc BKgb1.out 1; have hfgb1_1 := blk_frozen BKgb1.out 1; have hcgb1_2 : w38.cell? ⟨gb1, 2, none⟩ = some (.int .i64 a1_2) := bc BKgb1.out 2; have hfgb1_2 := blk_frozen BKgb1.out 2; have hcgb35_0 : w38.cell? ⟨gb35, 0, none⟩ = some (.int .i64 t12_0) := bc BKgb35.out 0; have hfgb35_0 := blk_frozen BKgb35.out 0; have hcgb35_1 : w38.cell? ⟨gb35, 1, none⟩ = some (.int .i64 t12_1) := bc BKgb35.out 1; have hfgb35_1 := blk_frozen BKgb35.out 1; have hcgb35_2 : w38.cell? ⟨gb35, 2, none⟩ = some (.slice Aoj34_7_0 t12_2.length coj34_7_0) := bc BKgb35.out 2; have hfgb35_2 := blk_frozen BKgb35.out 2; have hcgb35_3 : w38.cell? ⟨gb35, 3, none⟩ = some (.int .i64 t12_3) := bc BKgb35.out 3; have hfgb35_3 := blk_frozen BKgb35.out 3; have hcgb35_4 : w38.cell? ⟨gb35, 4, none⟩ = some (.int .i64 t12_4) := bc BKgb35.out 4; have hfgb35_4 := blk_frozen BKgb35.out 4; have hcgb35_5 : w38.cell? ⟨gb35, 5, none⟩ = some (.bool t12_5) := bc BKgb35.out 5; have hfgb35_5 := blk_frozen BKgb35.out 5; have hcgb35_6 : w38.cell? ⟨gb35, 6, none⟩ = some (.int .i64 t12_6) := bc BKgb35.out 6; have hfgb35_6 := blk_frozen BKgb35.out 6; have hcgb35_7 : w38.cell? ⟨gb35, 7, none⟩ = some (.int .i64 t12_7) := bc BKgb35.out 7; have hfgb35_7 := blk_frozen BKgb35.out 7; have hcgb35_8 : w38.cell? ⟨gb35, 8, none⟩ = some (.int .i64 t12_8) := bc BKgb35.out 8; have hfgb35_8 := blk_frozen BKgb35.out 8) | ((with_reducible refine gate_callee (f := 12) rfl ?_); refine gl (some 39) Try.func12 #[.agg #[.slice A1_0 l1_0.length c1_0, .int .i64 a1_1, .int .i64 a1_2]] ?_; (with_reducible refine (laws_toBuf.calls k _ _ l1_0 a1_1 a1_2 t39_0 t39_1 t39_2 _ ?s0 ?s1 A39.out).mono ?_); (case s0 => exact (Kd.C_below HR1_0.out HB.out)); (case s1 => exact HC1_0.out); rintro e w40 ⟨v39_0, rfl, ho0, hb⟩; refine ⟨_, rfl, ?_⟩; obtain ⟨na39, nb39, ha_, hz_, hab39⟩ := nxt_ hb; have hn39 : nb37 ≤ na39 := (by rw [ha_]; exact HZ.out); replace HOj34_1_0 := am (Kd.R_below HOj34_1_0.out hb); replace HOj34_3_0 := am (Kd.R_below HOj34_3_0.out hb); replace HOj34_7_0 := am (Kd.R_below HOj34_7_0.out hb); replace HO37_0 := am (Kd.R_below HO37_0.out hb); replace BKgb1 := am (blk_below BKgb1.out hb); replace BKgb35 := am (blk_below BKgb35.out hb); have HO39_0 := am (R_rg ha_ hz_ (below_size HB.out) ho0); replace HB := am (below_step HB.out hb); replace HZ := am (Nat.le_of_eq hz_); clear hb ha_ hz_ ho0; obtain ⟨Ao39_0, co39_0, eo39_0⟩ := Kd.R_slice HO39_0.out; subst eo39_0; clear hcgb1_0 hfgb1_0 hcgb1_1 hfgb1_1 hcgb1_2 hfgb1_2 hcgb35_0 hfgb35_0 hcgb35_1 hfgb35_1 hcgb35_2 hfgb35_2 hcgb35_3 hfgb35_3 hcgb35_4 hfgb35_4 hcgb35_5 hfgb35_5 hcgb35_6 hfgb35_6 hcgb35_7 hfgb35_7 hcgb35_8 hfgb35_8; have hcgb1_0 : w40.cell? ⟨gb1, 0, none⟩ = some (.slice A1_0 l1_0.length c1_0) := bc BKgb1.out 0; have hfgb1_0 := blk_frozen BKgb1.out 0; have hcgb1_1 : w40.cell? ⟨gb1, 1, none⟩ = some (.int .i64 a1_1) := bc BKgb1.out 1; have hfgb1_1 := blk_frozen BKgb1.out 1; have hcgb1_2 : w40.cell? ⟨gb1, 2, none⟩ = some (.int .i64 a1_2) := bc BKgb1.out 2; have hfgb1_2 := blk_frozen BKgb1.out 2; have hcgb35_0 : w40.cell? ⟨gb35, 0, none⟩ = some (.int .i64 t12_0) := bc BKgb35.out 0; have hfgb35_0 := blk_frozen BKgb35.out 0; have hcgb35_1 : w40.cell? ⟨gb35, 1, none⟩ = some (.int .i64 t12_1) := bc BKgb35.out 1; have hfgb35_1 := blk_frozen BKgb35.out 1; have hcgb35_2 : w40.cell? ⟨gb35, 2, none⟩ = some (.slice Aoj34_7_0 t12_2.length coj34_7_0) := bc BKgb35.out 2; have hfgb35_2 := blk_frozen BKgb35.out 2; have hcgb35_3 : w40.cell? ⟨gb35, 3, none⟩ = some (.int .i64 t12_3) := bc BKgb35.out 3; have hfgb35_3 := blk_frozen BKgb35.out 3; have hcgb35_4 : w40.cell? ⟨gb35, 4, none⟩ = some (.int .i64 t12_4) := bc BKgb35.out 4; have hfgb35_4 := blk_frozen BKgb35.out 4; have hcgb35_5 : w40.cell? ⟨gb35, 5, none⟩ = some (.bool t12_5) := bc BKgb35.out 5; have hfgb35_5 := blk_frozen BKgb35.out 5; have hcgb35_6 : w40.cell? ⟨gb35, 6, none⟩ = some (.int .i64 t12_6) := bc BKgb35.out 6; have hfgb35_6 := blk_frozen BKgb35.out 6; have hcgb35_7 : w40.cell? ⟨gb35, 7, none⟩ = some (.int .i64 t12_7) := bc BKgb35.out 7; have hfgb35_7 := blk_frozen BKgb35.out 7; have hcgb35_8 : w40.cell? ⟨gb35, 8, none⟩ = some (.int .i64 t12_8) := bc BKgb35.out 8; have hfgb35_8 := blk_frozen BKgb35.out 8) | ((with_reducible refine gate_dst (N := 14) rfl ?_); refine box_event ?hg (N := 14) ?hd (cs := #[.slice none 0 0, .int .i64 0, .int .i64 0]) (t := 33) ?hr ?_; (case hd => rfl); (case hg => rfl); (case hr => first | (go_simp; done) | (go_simp; rfl)); intro gb41 hg w42 hbox hb; have GEgb41 : w.heap.size ≤ gb41 := (by rw [hg]; exact below_size HB.out); have hn41 : nb39 ≤ gb41 := (by rw [hg]; exact HZ.out); have ngb41 : gb41 + 1 ≤ w42.heap.size := blk_lt hbox; replace HOj34_1_0 := am (Kd.R_below HOj34_1_0.out hb); replace HOj34_3_0 := am (Kd.R_below HOj34_3_0.out hb); replace HOj34_7_0 := am (Kd.R_below HOj34_7_0.out hb); replace HO37_0 := am (Kd.R_below HO37_0.out hb); replace HO39_0 := am (Kd.R_below HO39_0.out hb); replace BKgb1 := am (blk_below BKgb1.out hb); replace BKgb35 := am (blk_below BKgb35.out hb); have BKgb41 := am (hbox); replace HB := am (below_step HB.out hb); replace HZ := am (ngb41); clear hb hbox hg ngb41; clear hcgb1_0 hfgb1_0 hcgb1_1 hfgb1_1 hcgb1_2 hfgb1_2 hcgb35_0 hfgb35_0 hcgb35_1 hfgb35_1 hcgb35_2 hfgb35_2 hcgb35_3 hfgb35_3 hcgb35_4 hfgb35_4 hcgb35_5 hfgb35_5 hcgb35_6 hfgb35_6 hcgb35_7 hfgb35_7 hcgb35_8 hfgb35_8; have hcgb1_0 : w42.cell? ⟨gb1, 0, none⟩ = some (.slice A1_0 l1_0.length c1_0) := bc BKgb1.out 0; have hfgb1_0 := blk_frozen BKgb1.out 0; have hcgb1_1 : w42.cell? ⟨gb1, 1, none⟩ = some (.int .i64 a1_1) := bc BKgb1.out 1; have hfgb1_1 := blk_frozen BKgb1.out 1; have hcgb1_2 : w42.cell? ⟨gb1, 2, none⟩ = some (.int .i64 a1_2) := bc BKgb1.out 2; have hfgb1_2 := blk_frozen BKgb1.out 2; have hcgb35_0 : w42.cell? ⟨gb35, 0, none⟩ = some (.int .i64 t12_0) := bc BKgb35.out 0; have hfgb35_0 := blk_frozen BKgb35.out 0; have hcgb35_1 : w42.cell? ⟨gb35, 1, none⟩ = some (.int .i64 t12_1) := bc BKgb35.out 1; have hfgb35_1 := blk_frozen BKgb35.out 1; have hcgb35_2 : w42.cell? ⟨gb35, 2, none⟩ = some (.slice Aoj34_7_0 t12_2.length coj34_7_0) := bc BKgb35.out 2; have hfgb35_2 := blk_frozen BKgb35.out 2; have hcgb35_3 : w42.cell? ⟨gb35, 3, none⟩ = some (.int .i64 t12_3) := bc BKgb35.out 3; have hfgb35_3 := blk_frozen BKgb35.out 3; have hcgb35_4 : w42.cell? ⟨gb35, 4, none⟩ = some (.int .i64 t12_4) := bc BKgb35.out 4; have hfgb35_4 := blk_frozen BKgb35.out 4; have hcgb35_5 : w42.cell? ⟨gb35, 5, none⟩ = some (.bool t12_5) := bc BKgb35.out 5; have hfgb35_5 := blk_frozen BKgb35.out 5; have hcgb35_6 : w42.cell? ⟨gb35, 6, none⟩ = some (.int .i64 t12_6) := bc BKgb35.out 6; have hfgb35_6 := blk_frozen BKgb35.out 6; have hcgb35_7 : w42.cell? ⟨gb35, 7, none⟩ = some (.int .i64 t12_7) := bc BKgb35.out 7; have hfgb35_7 := blk_frozen BKgb35.out 7; have hcgb35_8 : w42.cell? ⟨gb35, 8, none⟩ = some (.int .i64 t12_8) := bc BKgb35.out 8; have hfgb35_8 := blk_frozen BKgb35.out 8; have hcgb41_0 : w42.cell? ⟨gb41, 0, none⟩ = some (.slice none 0 0) := bc BKgb41.out 0; have hfgb41_0 := blk_frozen BKgb41.out 0; have hcgb41_1 : w42.cell? ⟨gb41, 1, none⟩ = some (.int .i64 0) := bc BKgb41.out 1; have hfgb41_1 := blk_frozen BKgb41.out 1; have hcgb41_2 : w42.cell? ⟨gb41, 2, none⟩ = some (.int .i64 0) := bc BKgb41.out 2; have hfgb41_2 := blk_frozen BKgb41.out 2; have hxgb41_gb1 : gb41 ≠ gb1 := (by omega); have hygb41_gb1 : gb1 ≠ gb41 := (by omega); have hxgb41_gb35 : gb41 ≠ gb35 := (by omega); have hygb41_gb35 : gb35 ≠ gb41 := (by omega)) | ((with_reducible refine gate_callee (f := 13) rfl ?_); refine gl (some 45) Try.func13 #[.slice Ao37_0 t37.length co37_0, .agg #[.slice Ao39_0 t39_0.length co39_0, .int .i64 t39_1, .int .i64 t39_2], .bool a2, .int .i64 a3, .int .i64 a4] ?_; (with_reducible refine (impl_ViewOf.calls k _ _ t37 _ _ t39_0 t39_1 t39_2 a2 a3 a4 t43_0 t43_1 t43_2 t43_3 t43_4 t43_5 t43_6 t43_7 t43_8 _ ?s0 ?s1 ?s2 ?s3 A43.out).mono ?_); (case s0 => exact (Kd.R_reads' (R_farR (g := gb41) (R_farR (g := gb41) (R_farR (g := gb41) HO37_0.out (by omega) _) (by omega) _) (by omega) _)).2.2); (case s1 => exact (Kd.R_reads' HO37_0.out).2.1); (case s2 => exact (Kd.R_reads' (R_farR (g := gb41) (R_farR (g := gb41) (R_farR (g := gb41) HO39_0.out (by omega) _) (by omega) _) (by omega) _)).2.2); (case s3 => exact (Kd.R_reads' HO39_0.out).2.1); rintro e w44 ⟨v43_2, rfl, ho2, hb⟩; refine ⟨_, rfl, ?_⟩; obtain ⟨na43, nb43, ha_, hz_, hab43⟩ := nxt_ hb; have hn43 : (gb41 + 1) ≤ na43 := (by rw [ha_]; exact (sz_set (sz_set (sz_set HZ.out)))); replace HOj34_1_0 := am (Kd.R_below (R_farR (g := gb41) (R_farR (g := gb41) (R_farR (g := gb41) HOj34_1_0.out (by omega) _) (by omega) _) (by omega) _) hb); replace HOj34_3_0 := am (Kd.R_below (R_farR (g := gb41) (R_farR (g := gb41) (R_farR (g := gb41) HOj34_3_0.out (by omega) _) (by omega) _) (by omega) _) hb); replace HOj34_7_0 := am (Kd.R_below (R_farR (g := gb41) (R_farR (g := gb41) (R_farR (g := gb41) HOj34_7_0.out (by omega) _) (by omega) _) (by omega) _) hb); replace HO37_0 := am (Kd.R_below (R_farR (g := gb41) (R_farR (g := gb41) (R_farR (g := gb41) HO37_0.out (by omega) _) (by omega) _) (by omega) _) hb); replace HO39_0 := am (Kd.R_below (R_farR (g := gb41) (R_farR (g := gb41) (R_farR (g := gb41) HO39_0.out (by omega) _) (by omega) _) (by omega) _) hb); replace BKgb1 := am (blk_below (g := gb1) (o := .cells #[.slice A1_0 l1_0.length c1_0, .int .i64 a1_1, .int .i64 a1_2] 24 (0, 0)) (by refine pk ?_; refine blk_far ?_ (show gb1 ≠ gb41 by omega) _; refine pk ?_; refine blk_far ?_ (show gb1 ≠ gb41 by omega) _; refine pk ?_; refine blk_far ?_ (show gb1 ≠ gb41 by omega) _; refine pk ?_; exact BKgb1.out) hb); replace BKgb35 := am (blk_below (g := gb35) (o := .cells #[.int .i64 t12_0, .int .i64 t12_1, .slice Aoj34_7_0 t12_2.length coj34_7_0, .int .i64 t12_3, .int .i64 t12_4, .bool t12_5, .int .i64 t12_6, .int .i64 t12_7, .int .i64 t12_8] 30 (0, 0)) (by refine pk ?_; refine blk_far ?_ (show gb35 ≠ gb41 by omega) _; refine pk ?_; refine blk_far ?_ (show gb35 ≠ gb41 by omega) _; refine pk ?_; refine blk_far ?_ (show gb35 ≠ gb41 by omega) _; refine pk ?_; exact BKgb35.out) hb); replace BKgb41 := am (blk_below (g := gb41) (o := .cells #[.slice Ao39_0 t39_0.length co39_0, .int .i64 t39_1, .int .i64 t39_2] 33 (0, 0)) (by refine pk ?_; refine blk_put (cs := #[.slice Ao39_0 t39_0.length co39_0, .int .i64 t39_1, .int .i64 0]) ?_ 2 _ rfl; refine pk ?_; refine blk_put (cs := #[.slice Ao39_0 t39_0.length co39_0, .int .i64 0, .int .i64 0]) ?_ 1 _ rfl; refine pk ?_; refine blk_put (cs := #[.slice none 0 0, .int .i64 0, .int .i64 0]) ?_ 0 _ rfl; refine pk ?_; exact BKgb41.out) hb); have HO43_2 := am (S_rg ha_ hz_ (below_size (below_set (below_set (below_set HB.out GEgb41) GEgb41) GEgb41)) ho2); replace HB := am (below_step (below_set (below_set (below_set HB.out GEgb41) GEgb41) GEgb41) hb); replace HZ := am (Nat.le_of_eq hz_); clear hb ha_ hz_ ho2; obtain ⟨Ao43_2, co43_2, eo43_2⟩ := Kd.S_slice HO43_2.out; subst eo43_2; clear hcgb1_0 hfgb1_0 hcgb1_1 hfgb1_1 hcgb1_2 hfgb1_2 hcgb35_0 hfgb35_0 hcgb35_1 hfgb35_1 hcgb35_2 hfgb35_2 hcgb35_3 hfgb35_3 hcgb35_4 hfgb35_4 hcgb35_5 hfgb35_5 hcgb35_6 hfgb35_6 hcgb35_7 hfgb35_7 hcgb35_8 hfgb35_8 hcgb41_0 hfgb41_0 hcgb41_1 hfgb41_1 hcgb41_2 hfgb41_2; have hcgb1_0 : w44.cell? ⟨gb1, 0, none⟩ = some (.slice A1_0 l1_0.length c1_0) := bc BKgb1.out 0; have hfgb1_0 := blk_frozen BKgb1.out 0; have hcgb1_1 : w44.cell? ⟨gb1, 1, none⟩ = some (.int .i64 a1_1) := bc BKgb1.out 1; have hfgb1_1 := blk_frozen BKgb1.out 1; have hcgb1_2 : w44.cell? ⟨gb1, 2, none⟩ = some (.int .i64 a1_2) := bc BKgb1.out 2; have hfgb1_2 := blk_frozen BKgb1.out 2; have hcgb35_0 : w44.cell? ⟨gb35, 0, none⟩ = some (.int .i64 t12_0) := bc BKgb35.out 0; have hfgb35_0 := blk_frozen BKgb35.out 0; have hcgb35_1 : w44.cell? ⟨gb35, 1, none⟩ = some (.int .i64 t12_1) := bc BKgb35.out 1; have hfgb35_1 := blk_frozen BKgb35.out 1; have hcgb35_2 : w44.cell? ⟨gb35, 2, none⟩ = some (.slice Aoj34_7_0 t12_2.length coj34_7_0) := bc BKgb35.out 2; have hfgb35_2 := blk_frozen BKgb35.out 2; have hcgb35_3 : w44.cell? ⟨gb35, 3, none⟩ = some (.int .i64 t12_3) := bc BKgb35.out 3; have hfgb35_3 := blk_frozen BKgb35.out 3; have hcgb35_4 : w44.cell? ⟨gb35, 4, none⟩ = some (.int .i64 t12_4) := bc BKgb35.out 4; have hfgb35_4 := blk_frozen BKgb35.out 4; have hcgb35_5 : w44.cell? ⟨gb35, 5, none⟩ = some (.bool t12_5) := bc BKgb35.out 5; have hfgb35_5 := blk_frozen BKgb35.out 5; have hcgb35_6 : w44.cell? ⟨gb35, 6, none⟩ = some (.int .i64 t12_6) := bc BKgb35.out 6; have hfgb35_6 := blk_frozen BKgb35.out 6; have hcgb35_7 : w44.cell? ⟨gb35, 7, none⟩ = some (.int .i64 t12_7) := bc BKgb35.out 7; have hfgb35_7 := blk_frozen BKgb35.out 7; have hcgb35_8 : w44.cell? ⟨gb35, 8, none⟩ = some (.int .i64 t12_8) := bc BKgb35.out 8; have hfgb35_8 := blk_frozen BKgb35.out 8; have hcgb41_0 : w44.cell? ⟨gb41, 0, none⟩ = some (.slice Ao39_0 t39_0.length co39_0) := bc BKgb41.out 0; have hfgb41_0 := blk_frozen BKgb41.out 0; have hcgb41_1 : w44.cell? ⟨gb41, 1, none⟩ = some (.int .i64 t39_1) := bc BKgb41.out 1; have hfgb41_1 := blk_frozen BKgb41.out 1; have hcgb41_2 : w44.cell? ⟨gb41, 2, none⟩ = some (.int .i64 t39_2) := bc BKgb41.out 2; have hfgb41_2 := blk_frozen BKgb41.out 2) | ((with_reducible refine gate_dst (N := 15) rfl ?_); refine box_event ?hg (N := 15) ?hd (cs := #[.int .i64 0, .int .i64 0, .slice none 0 0, .int .i64 0, .int .i64 0, .bool false, .int .i64 0, .int .i64 0, .int .i64 0]) (t := 30) ?hr ?_; (case hd => rfl); (case hg => rfl); (case hr => first | (go_simp; done) | (go_simp; rfl)); intro gb45 hg w46 hbox hb; have GEgb45 : w.heap.size ≤ gb45 := (by rw [hg]; exact below_size HB.out); have hn45 : nb43 ≤ gb45 := (by rw [hg]; exact HZ.out); have ngb45 : gb45 + 1 ≤ w46.heap.size := blk_lt hbox; replace HOj34_1_0 := am (Kd.R_below HOj34_1_0.out hb); replace HOj34_3_0 := am (Kd.R_below HOj34_3_0.out hb); replace HOj34_7_0 := am (Kd.R_below HOj34_7_0.out hb); replace HO37_0 := am (Kd.R_below HO37_0.out hb); replace HO39_0 := am (Kd.R_below HO39_0.out hb); replace HO43_2 := am (Kd.S_below HO43_2.out hb); replace BKgb1 := am (blk_below BKgb1.out hb); replace BKgb35 := am (blk_below BKgb35.out hb); replace BKgb41 := am (blk_below BKgb41.out hb); have BKgb45 := am (hbox); replace HB := am (below_step HB.out hb); replace HZ := am (ngb45); clear hb hbox hg ngb45; clear hcgb1_0 hfgb1_0 hcgb1_1 hfgb1_1 hcgb1_2 hfgb1_2 hcgb35_0 hfgb35_0 hcgb35_1 hfgb35_1 hcgb35_2 hfgb35_2 hcgb35_3 hfgb35_3 hcgb35_4 hfgb35_4 hcgb35_5 hfgb35_5 hcgb35_6 hfgb35_6 hcgb35_7 hfgb35_7 hcgb35_8 hfgb35_8 hcgb41_0 hfgb41_0 hcgb41_1 hfgb41_1 hcgb41_2 hfgb41_2; have hcgb1_0 : w46.cell? ⟨gb1, 0, none⟩ = some (.slice A1_0 l1_0.length c1_0) := bc BKgb1.out 0; have hfgb1_0 := blk_frozen BKgb1.out 0; have hcgb1_1 : w46.cell? ⟨gb1, 1, none⟩ = some (.int .i64 a1_1) := bc BKgb1.out 1; have hfgb1_1 := blk_frozen BKgb1.out 1; have hcgb1_2 : w46.cell? ⟨gb1, 2, none⟩ = some (.int .i64 a1_2) := bc BKgb1.out 2; have hfgb1_2 := blk_frozen BKgb1.out 2; have hcgb35_0 : w46.cell? ⟨gb35, 0, none⟩ = some (.int .i64 t12_0) := bc BKgb35.out 0; have hfgb35_0 := blk_frozen BKgb35.out 0; have hcgb35_1 : w46.cell? ⟨gb35, 1, none⟩ = some (.int .i64 t12_1) := bc BKgb35.out 1; have hfgb35_1 := blk_frozen BKgb35.out 1; have hcgb35_2 : w46.cell? ⟨gb35, 2, none⟩ = some (.slice Aoj34_7_0 t12_2.length coj34_7_0) := bc BKgb35.out 2; have hfgb35_2 := blk_frozen BKgb35.out 2; have hcgb35_3 : w46.cell? ⟨gb35, 3, none⟩ = some (.int .i64 t12_3) := bc BKgb35.out 3; have hfgb35_3 := blk_frozen BKgb35.out 3; have hcgb35_4 : w46.cell? ⟨gb35, 4, none⟩ = some (.int .i64 t12_4) := bc BKgb35.out 4; have hfgb35_4 := blk_frozen BKgb35.out 4; have hcgb35_5 : w46.cell? ⟨gb35, 5, none⟩ = some (.bool t12_5) := bc BKgb35.out 5; have hfgb35_5 := blk_frozen BKgb35.out 5; have hcgb35_6 : w46.cell? ⟨gb35, 6, none⟩ = some (.int .i64 t12_6) := bc BKgb35.out 6; have hfgb35_6 := blk_frozen BKgb35.out 6; have hcgb35_7 : w46.cell? ⟨gb35, 7, none⟩ = some (.int .i64 t12_7) := bc BKgb35.out 7; have hfgb35_7 := blk_frozen BKgb35.out 7; have hcgb35_8 : w46.cell? ⟨gb35, 8, none⟩ = some (.int .i64 t12_8) := bc BKgb35.out 8; have hfgb35_8 := blk_frozen BKgb35.out 8; have hcgb41_0 : w46.cell? ⟨gb41, 0, none⟩ = some (.slice Ao39_0 t39_0.length co39_0) := bc BKgb41.out 0; have hfgb41_0 := blk_frozen BKgb41.out 0; have hcgb41_1 : w46.cell? ⟨gb41, 1, none⟩ = some (.int .i64 t39_1) := bc BKgb41.out 1; have hfgb41_1 := blk_frozen BKgb41.out 1; have hcgb41_2 : w46.cell? ⟨gb41, 2, none⟩ = some (.int .i64 t39_2) := bc BKgb41.out 2; have hfgb41_2 := blk_frozen BKgb41.out 2; have hcgb45_0 : w46.cell? ⟨gb45, 0, none⟩ = some (.int .i64 0) := bc BKgb45.out 0; have hfgb45_0 := blk_frozen BKgb45.out 0; have hcgb45_1 : w46.cell? ⟨gb45, 1, none⟩ = some (.int .i64 0) := bc BKgb45.out 1; have hfgb45_1 := blk_frozen BKgb45.out 1; have hcgb45_2 : w46.cell? ⟨gb45, 2, none⟩ = some (.slice none 0 0) := bc BKgb45.out 2; have hfgb45_2 := blk_frozen BKgb45.out 2; have hcgb45_3 : w46.cell? ⟨gb45, 3, none⟩ = some (.int .i64 0) := bc BKgb45.out 3; have hfgb45_3 := blk_frozen BKgb45.out 3; have hcgb45_4 : w46.cell? ⟨gb45, 4, none⟩ = some (.int .i64 0) := bc BKgb45.out 4; have hfgb45_4 := blk_frozen BKgb45.out 4; have hcgb45_5 : w46.cell? ⟨gb45, 5, none⟩ = some (.bool false) := bc BKgb45.out 5; have hfgb45_5 := blk_frozen BKgb45.out 5; have hcgb45_6 : w46.cell? ⟨gb45, 6, none⟩ = some (.int .i64 0) := bc BKgb45.out 6; have hfgb45_6 := blk_frozen BKgb45.out 6; have hcgb45_7 : w46.cell? ⟨gb45, 7, none⟩ = some (.int .i64 0) := bc BKgb45.out 7; have hfgb45_7 := blk_frozen BKgb45.out 7; have hcgb45_8 : w46.cell? ⟨gb45, 8, none⟩ = some (.int .i64 0) := bc BKgb45.out 8; have hfgb45_8 := blk_frozen BKgb45.out 8; have hxgb45_gb1 : gb45 ≠ gb1 := (by omega); have hygb45_gb1 : gb1 ≠ gb45 := (by omega); have hxgb45_gb35 : gb45 ≠ gb35 := (by omega); have hygb45_gb35 : gb35 ≠ gb45 := (by omega); have hxgb45_gb41 : gb45 ≠ gb41 := (by omega); have hygb45_gb41 : gb41 ≠ gb45 := (by omega)) | ((with_reducible refine gate_callee (f := 14) rfl ?_); refine gl (some 48) Try.func14 #[.agg #[.int .i64 t43_0, .int .i64 t43_1, .slice Ao43_2 t43_2.length co43_2, .int .i64 t43_3, .int .i64 t43_4, .bool t43_5, .int .i64 t43_6, .int .i64 t43_7, .int .i64 t43_8], .agg #[.int .i64 t12_0, .int .i64 t12_1, .slice Aoj34_7_0 t12_2.length coj34_7_0, .int .i64 t12_3, .int .i64 t12_4, .bool t12_5, .int .i64 t12_6, .int .i64 t12_7, .int .i64 t12_8]] ?_; (with_reducible refine (laws_eqView.calls k t43_0 t43_1 _ _ t43_2 t43_3 t43_4 t43_5 t43_6 t43_7 t43_8 t12_0 t12_1 _ _ t12_2 t12_3 t12_4 t12_5 t12_6 t12_7 t12_8 true _ ?s0 ?s1 ?s2 ?s3 A47.out).mono ?_); (case s0 => exact (Kd.S_reads' (S_farR (g := gb45) (S_farR (g := gb45) (S_farR (g := gb45) (S_farR (g := gb45) (S_farR (g := gb45) (S_farR (g := gb45) (S_farR (g := gb45) (S_farR (g := gb45) (S_farR (g := gb45) HO43_2.out (by omega) _) (by omega) _) (by omega) _) (by omega) _) (by omega) _) (by omega) _) (by omega) _) (by omega) _) (by omega) _)).2.2); (case s1 => exact (Kd.S_reads' HO43_2.out).2.1); (case s2 => exact (Kd.R_reads' (R_farR (g := gb45) (R_farR (g := gb45) (R_farR (g := gb45) (R_farR (g := gb45) (R_farR (g := gb45) (R_farR (g := gb45) (R_farR (g := gb45) (R_farR (g := gb45) (R_farR (g := gb45) HOj34_7_0.out (by omega) _) (by omega) _) (by omega) _) (by omega) _) (by omega) _) (by omega) _) (by omega) _) (by omega) _) (by omega) _)).2.2); (case s3 => exact (Kd.R_reads' HOj34_7_0.out).2.1); rintro e w48 ⟨rfl, hb⟩; refine ⟨_, rfl, ?_⟩; obtain ⟨na47, nb47, ha_, hz_, hab47⟩ := nxt_ hb; have hn47 : (gb45 + 1) ≤ na47 := (by rw [ha_]; exact (sz_set (sz_set (sz_set (sz_set (sz_set (sz_set (sz_set (sz_set (sz_set HZ.out)))))))))); replace HOj34_1_0 := am (Kd.R_below (R_farR (g := gb45) (R_farR (g := gb45) (R_farR (g := gb45) (R_farR (g := gb45) (R_farR (g := gb45) (R_farR (g := gb45) (R_farR (g := gb45) (R_farR (g := gb45) (R_farR (g := gb45) HOj34_1_0.out (by omega) _) (by omega) _) (by omega) _) (by omega) _) (by omega) _) (by omega) _) (by omega) _) (by omega) _) (by omega) _) hb); replace HOj34_3_0 := am (Kd.R_below (R_farR (g := gb45) (R_farR (g := gb45) (R_farR (g := gb45) (R_farR (g := gb45) (R_farR (g := gb45) (R_farR (g := gb45) (R_farR (g := gb45) (R_farR (g := gb45) (R_farR (g := gb45) HOj34_3_0.out (by omega) _) (by omega) _) (by omega) _) (by omega) _) (by omega) _) (by omega) _) (by omega) _) (by omega) _) (by omega) _) hb); replace HOj34_7_0 := am (Kd.R_below (R_farR (g := gb45) (R_farR (g := gb45) (R_farR (g := gb45) (R_farR (g := gb45) (R_farR (g := gb45) (R_farR (g := gb45) (R_farR (g := gb45) (R_farR (g := gb45) (R_farR (g := gb45) HOj34_7_0.out (by omega) _) (by omega) _) (by omega) _) (by omega) _) (by omega) _) (by omega) _) (by omega) _) (by omega) _) (by omega) _) hb); replace HO37_0 := am (Kd.R_below (R_farR (g := gb45) (R_farR (g := gb45) (R_farR (g := gb45) (R_farR (g := gb45) (R_farR (g := gb45) (R_farR (g := gb45) (R_farR (g := gb45) (R_farR (g := gb45) (R_farR (g := gb45) HO37_0.out (by omega) _) (by omega) _) (by omega) _) (by omega) _) (by omega) _) (by omega) _) (by omega) _) (by omega) _) (by omega) _) hb); replace HO39_0 := am (Kd.R_below (R_farR (g := gb45) (R_farR (g := gb45) (R_farR (g := gb45) (R_farR (g := gb45) (R_farR (g := gb45) (R_farR (g := gb45) (R_farR (g := gb45) (R_farR (g := gb45) (R_farR (g := gb45) HO39_0.out (by omega) _) (by omega) _) (by omega) _) (by omega) _) (by omega) _) (by omega) _) (by omega) _) (by omega) _) (by omega) _) hb); replace HO43_2 := am (Kd.S_below (S_farR (g := gb45) (S_farR (g := gb45) (S_farR (g := gb45) (S_farR (g := gb45) (S_farR (g := gb45) (S_farR (g := gb45) (S_farR (g := gb45) (S_farR (g := gb45) (S_farR (g := gb45) HO43_2.out (by omega) _) (by omega) _) (by omega) _) (by omega) _) (by omega) _) (by omega) _) (by omega) _) (by omega) _) (by omega) _) hb); replace BKgb1 := am (blk_below (g := gb1) (o := .cells #[.slice A1_0 l1_0.length c1_0, .int .i64 a1_1, .int .i64 a1_2] 24 (0, 0)) (by refine pk ?_; refine blk_far ?_ (show gb1 ≠ gb45 by omega) _; refine pk ?_; refine blk_far ?_ (show gb1 ≠ gb45 by omega) _; refine pk ?_; refine blk_far ?_ (show gb1 ≠ gb45 by omega) _; refine pk ?_; refine blk_far ?_ (show gb1 ≠ gb45 by omega) _; refine pk ?_; refine blk_far ?_ (show gb1 ≠ gb45 by omega) _; refine pk ?_; refine blk_far ?_ (show gb1 ≠ gb45 by omega) _; refine pk ?_; refine blk_far ?_ (show gb1 ≠ gb45 by omega) _; refine pk ?_; refine blk_far ?_ (show gb1 ≠ gb45 by omega) _; refine pk ?_; refine blk_far ?_ (show gb1 ≠ gb45 by omega) _; refine pk ?_; exact BKgb1.out) hb); replace BKgb35 := am (blk_below (g := gb35) (o := .cells #[.int .i64 t12_0, .int .i64 t12_1, .slice Aoj34_7_0 t12_2.length coj34_7_0, .int .i64 t12_3, .int .i64 t12_4, .bool t12_5, .int .i64 t12_6, .int .i64 t12_7, .int .i64 t12_8] 30 (0, 0)) (by refine pk ?_; refine blk_far ?_ (show gb35 ≠ gb45 by omega) _; refine pk ?_; refine blk_far ?_ (show gb35 ≠ gb45 by omega) _; refine pk ?_; refine blk_far ?_ (show gb35 ≠ gb45 by omega) _; refine pk ?_; refine blk_far ?_ (show gb35 ≠ gb45 by omega) _; refine pk ?_; refine blk_far ?_ (show gb35 ≠ gb45 by omega) _; refine pk ?_; refine blk_far ?_ (show gb35 ≠ gb45 by omega) _; refine pk ?_; refine blk_far ?_ (show gb35 ≠ gb45 by omega) _; refine pk ?_; refine blk_far ?_ (show gb35 ≠ gb45 by omega) _; refine pk ?_; refine blk_far ?_ (show gb35 ≠ gb45 by omega) _; refine pk ?_; exact BKgb35.out) hb); replace BKgb41 := am (blk_below (g := gb41) (o := .cells #[.slice Ao39_0 t39_0.length co39_0, .int .i64 t39_1, .int .i64 t39_2] 33 (0, 0)) (by refine pk ?_; refine blk_far ?_ (show gb41 ≠ gb45 by omega) _; refine pk ?_; refine blk_far ?_ (show gb41 ≠ gb45 by omega) _; refine pk ?_; refine blk_far ?_ (show gb41 ≠ gb45 by omega) _; refine pk ?_; refine blk_far ?_ (show gb41 ≠ gb45 by omega) _; refine pk ?_; refine blk_far ?_ (show gb41 ≠ gb45 by omega) _; refine pk ?_; refine blk_far ?_ (show gb41 ≠ gb45 by omega) _; refine pk ?_; refine blk_far ?_ (show gb41 ≠ gb45 by omega) _; refine pk ?_; refine blk_far ?_ (show gb41 ≠ gb45 by omega) _; refine pk ?_; refine blk_far ?_ (show gb41 ≠ gb45 by omega) _; refine pk ?_; exact BKgb41.out) hb); replace BKgb45 := am (blk_below (g := gb45) (o := .cells #[.int .i64 t43_0, .int .i64 t43_1, .slice Ao43_2 t43_2.length co43_2, .int .i64 t43_3, .int .i64 t43_4, .bool t43_5, .int .i64 t43_6, .int .i64 t43_7, .int .i64 t43_8] 30 (0, 0)) (by refine pk ?_; refine blk_put (cs := #[.int .i64 t43_0, .int .i64 t43_1, .slice Ao43_2 t43_2.length co43_2, .int .i64 t43_3, .int .i64 t43_4, .bool t43_5, .int .i64 t43_6, .int .i64 t43_7, .int .i64 0]) ?_ 8 _ rfl; refine pk ?_; refine blk_put (cs := #[.int .i64 t43_0, .int .i64 t43_1, .slice Ao43_2 t43_2.length co43_2, .int .i64 t43_3, .int .i64 t43_4, .bool t43_5, .int .i64 t43_6, .int .i64 0, .int .i64 0]) ?_ 7 _ rfl; refine pk ?_; refine blk_put (cs := #[.int .i64 t43_0, .int .i64 t43_1, .slice Ao43_2 t43_2.length co43_2, .int .i64 t43_3, .int .i64 t43_4, .bool t43_5, .int .i64 0, .int .i64 0, .int .i64 0]) ?_ 6 _ rfl; refine pk ?_; refine blk_put (cs := #[.int .i64 t43_0, .int .i64 t43_1, .slice Ao43_2 t43_2.length co43_2, .int .i64 t43_3, .int .i64 t43_4, .bool false, .int .i64 0, .int .i64 0, .int .i64 0]) ?_ 5 _ rfl; refine pk ?_; refine blk_put (cs := #[.int .i64 t43_0, .int .i64 t43_1, .slice Ao43_2 t43_2.length co43_2, .int .i64 t43_3, .int .i64 0, .bool false, .int .i64 0, .int .i64 0, .int .i64 0]) ?_ 4 _ rfl; refine pk ?_; refine blk_put (cs := #[.int .i64 t43_0, .int .i64 t43_1, .slice Ao43_2 t43_2.length co43_2, .int .i64 0, .int .i64 0, .bool false, .int .i64 0, .int .i64 0, .int .i64 0]) ?_ 3 _ rfl; refine pk ?_; refine blk_put (cs := #[.int .i64 t43_0, .int .i64 t43_1, .slice none 0 0, .int .i64 0, .int .i64 0, .bool false, .int .i64 0, .int .i64 0, .int .i64 0]) ?_ 2 _ rfl; refine pk ?_; refine blk_put (cs := #[.int .i64 t43_0, .int .i64 0, .slice none 0 0, .int .i64 0, .int .i64 0, .bool false, .int .i64 0, .int .i64 0, .int .i64 0]) ?_ 1 _ rfl; refine pk ?_; refine blk_put (cs := #[.int .i64 0, .int .i64 0, .slice none 0 0, .int .i64 0, .int .i64 0, .bool false, .int .i64 0, .int .i64 0, .int .i64 0]) ?_ 0 _ rfl; refine pk ?_; exact BKgb45.out) hb); replace HB := am (below_step (below_set (below_set (below_set (below_set (below_set (below_set (below_set (below_set (below_set HB.out GEgb45) GEgb45) GEgb45) GEgb45) GEgb45) GEgb45) GEgb45) GEgb45) GEgb45) hb); replace HZ := am (Nat.le_of_eq hz_); clear hb ha_ hz_ ; clear hcgb1_0 hfgb1_0 hcgb1_1 hfgb1_1 hcgb1_2 hfgb1_2 hcgb35_0 hfgb35_0 hcgb35_1 hfgb35_1 hcgb35_2 hfgb35_2 hcgb35_3 hfgb35_3 hcgb35_4 hfgb35_4 hcgb35_5 hfgb35_5 hcgb35_6 hfgb35_6 hcgb35_7 hfgb35_7 hcgb35_8 hfgb35_8 hcgb41_0 hfgb41_0 hcgb41_1 hfgb41_1 hcgb41_2 hfgb41_2 hcgb45_0 hfgb45_0 hcgb45_1 hfgb45_1 hcgb45_2 hfgb45_2 hcgb45_3 hfgb45_3 hcgb45_4 hfgb45_4 hcgb45_5 hfgb45_5 hcgb45_6 hfgb45_6 hcgb45_7 hfgb45_7 hcgb45_8 hfgb45_8; have hcgb1_0 : w48.cell? ⟨gb1, 0, none⟩ = some (.slice A1_0 l1_0.length c1_0) := bc BKgb1.out 0; have hfgb1_0 := blk_frozen BKgb1.out 0; have hcgb1_1 : w48.cell? ⟨gb1, 1, none⟩ = some (.int .i64 a1_1) := bc BKgb1.out 1; have hfgb1_1 := blk_frozen BKgb1.out 1; have hcgb1_2 : w48.cell? ⟨gb1, 2, none⟩ = some (.int .i64 a1_2) := bc BKgb1.out 2; have hfgb1_2 := blk_frozen BKgb1.out 2; have hcgb35_0 : w48.cell? ⟨gb35, 0, none⟩ = some (.int .i64 t12_0) := bc BKgb35.out 0; have hfgb35_0 := blk_frozen BKgb35.out 0; have hcgb35_1 : w48.cell? ⟨gb35, 1, none⟩ = some (.int .i64 t12_1) := bc BKgb35.out 1; have hfgb35_1 := blk_frozen BKgb35.out 1; have hcgb35_2 : w48.cell? ⟨gb35, 2, none⟩ = some (.slice Aoj34_7_0 t12_2.length coj34_7_0) := bc BKgb35.out 2; have hfgb35_2 := blk_frozen BKgb35.out 2; have hcgb35_3 : w48.cell? ⟨gb35, 3, none⟩ = some (.int .i64 t12_3) := bc BKgb35.out 3; have hfgb35_3 := blk_frozen BKgb35.out 3; have hcgb35_4 : w48.cell? ⟨gb35, 4, none⟩ = some (.int .i64 t12_4) := bc BKgb35.out 4; have hfgb35_4 := blk_frozen BKgb35.out 4; have hcgb35_5 : w48.cell? ⟨gb35, 5, none⟩ = some (.bool t12_5) := bc BKgb35.out 5; have hfgb35_5 := blk_frozen BKgb35.out 5; have hcgb35_6 : w48.cell? ⟨gb35, 6, none⟩ = some (.int .i64 t12_6) := bc BKgb35.out 6; have hfgb35_6 := blk_frozen BKgb35.out 6; have hcgb35_7 : w48.cell? ⟨gb35, 7, none⟩ = some (.int .i64 t12_7) := bc BKgb35.out 7; have hfgb35_7 := blk_frozen BKgb35.out 7; have hcgb35_8 : w48.cell? ⟨gb35, 8, none⟩ = some (.int .i64 t12_8) := bc BKgb35.out 8; have hfgb35_8 := blk_frozen BKgb35.out 8; have hcgb41_0 : w48.cell? ⟨gb41, 0, none⟩ = some (.slice Ao39_0 t39_0.length co39_0) := bc BKgb41.out 0; have hfgb41_0 := blk_frozen BKgb41.out 0; have hcgb41_1 : w48.cell? ⟨gb41, 1, none⟩ = some (.int .i64 t39_1) := bc BKgb41.out 1; have hfgb41_1 := blk_frozen BKgb41.out 1; have hcgb41_2 : w48.cell? ⟨gb41, 2, none⟩ = some (.int .i64 t39_2) := bc BKgb41.out 2; have hfgb41_2 := blk_frozen BKgb41.out 2; have hcgb45_0 : w48.cell? ⟨gb45, 0, none⟩ = some (.int .i64 t43_0) := bc BKgb45.out 0; have hfgb45_0 := blk_frozen BKgb45.out 0; have hcgb45_1 : w48.cell? ⟨gb45, 1, none⟩ = some (.int .i64 t43_1) := bc BKgb45.out 1; have hfgb45_1 := blk_frozen BKgb45.out 1; have hcgb45_2 : w48.cell? ⟨gb45, 2, none⟩ = some (.slice Ao43_2 t43_2.length co43_2) := bc BKgb45.out 2; have hfgb45_2 := blk_frozen BKgb45.out 2; have hcgb45_3 : w48.cell? ⟨gb45, 3, none⟩ = some (.int .i64 t43_3) := bc BKgb45.out 3; have hfgb45_3 := blk_frozen BKgb45.out 3; have hcgb45_4 : w48.cell? ⟨gb45, 4, none⟩ = some (.int .i64 t43_4) := bc BKgb45.out 4; have hfgb45_4 := blk_frozen BKgb45.out 4; have hcgb45_5 : w48.cell? ⟨gb45, 5, none⟩ = some (.bool t43_5) := bc BKgb45.out 5; have hfgb45_5 := blk_frozen BKgb45.out 5; have hcgb45_6 : w48.cell? ⟨gb45, 6, none⟩ = some (.int .i64 t43_6) := bc BKgb45.out 6; have hfgb45_6 := blk_frozen BKgb45.out 6; have hcgb45_7 : w48.cell? ⟨gb45, 7, none⟩ = some (.int .i64 t43_7) := bc BKgb45.out 7; have hfgb45_7 := blk_frozen BKgb45.out 7; have hcgb45_8 : w48.cell? ⟨gb45, 8, none⟩ = some (.int .i64 t43_8) := bc BKgb45.out 8; have hfgb45_8 := blk_frozen BKgb45.out 8) | ((with_reducible refine gate_callee (f := 11) rfl ?_); refine gl (some 52) Try.func11 #[.slice A0 l0.length c0] ?_; (with_reducible refine (laws_toInt64S.calls k _ _ l0 t50 _ ?s0 ?s1 A50.out).mono ?_); (case s0 => exact (Kd.C_below HR0.out HB.out)); (case s1 => exact HC0.out); rintro e w51 ⟨v50_0, rfl, ho0, hb⟩; refine ⟨_, rfl, ?_⟩; obtain ⟨na50, nb50, ha_, hz_, hab50⟩ := nxt_ hb; have hn50 : nb47 ≤ na50 := (by rw [ha_]; exact HZ.out); replace HOj34_1_0 := am (Kd.R_below HOj34_1_0.out hb); replace HOj34_3_0 := am (Kd.R_below HOj34_3_0.out hb); replace HOj34_7_0 := am (Kd.R_below HOj34_7_0.out hb); replace HO37_0 := am (Kd.R_below HO37_0.out hb); replace HO39_0 := am (Kd.R_below HO39_0.out hb); replace HO43_2 := am (Kd.S_below HO43_2.out hb); replace BKgb1 := am (blk_below BKgb1.out hb); replace BKgb35 := am (blk_below BKgb35.out hb); replace BKgb41 := am (blk_below BKgb41.out hb); replace BKgb45 := am (blk_below BKgb45.out hb); have HO50_0 := am (R_rg ha_ hz_ (below_size HB.out) ho0); replace HB := am (below_step HB.out hb); replace HZ := am (Nat.le_of_eq hz_); clear hb ha_ hz_ ho0; obtain ⟨Ao50_0, co50_0, eo50_0⟩ := Kd.R_slice HO50_0.out; subst eo50_0; clear hcgb1_0 hfgb1_0 hcgb1_1 hfgb1_1 hcgb1_2 hfgb1_2 hcgb35_0 hfgb35_0 hcgb35_1 hfgb35_1 hcgb35_2 hfgb35_2 hcgb35_3 hfgb35_3 hcgb35_4 hfgb35_4 hcgb35_5 hfgb35_5 hcgb35_6 hfgb35_6 hcgb35_7 hfgb35_7 hcgb35_8 hfgb35_8 hcgb41_0 hfgb41_0 hcgb41_1 hfgb41_1 hcgb41_2 hfgb41_2 hcgb45_0 hfgb45_0 hcgb45_1 hfgb45_1 hcgb45_2 hfgb45_2 hcgb45_3 hfgb45_3 hcgb45_4 hfgb45_4 hcgb45_5 hfgb45_5 hcgb45_6 hfgb45_6 hcgb45_7 hfgb45_7 hcgb45_8 hfgb45_8; have hcgb1_0 : w51.cell? ⟨gb1, 0, none⟩ = some (.slice A1_0 l1_0.length c1_0) := bc BKgb1.out 0; have hfgb1_0 := blk_frozen BKgb1.out 0; have hcgb1_1 : w51.cell? ⟨gb1, 1, none⟩ = some (.int .i64 a1_1) := bc BKgb1.out 1; have hfgb1_1 := blk_frozen BKgb1.out 1; have hcgb1_2 : w51.cell? ⟨gb1, 2, none⟩ = some (.int .i64 a1_2) := bc BKgb1.out 2; have hfgb1_2 := blk_frozen BKgb1.out 2; have hcgb35_0 : w51.cell? ⟨gb35, 0, none⟩ = some (.int .i64 t12_0) := bc BKgb35.out 0; have hfgb35_0 := blk_frozen BKgb35.out 0; have hcgb35_1 : w51.cell? ⟨gb35, 1, none⟩ = some (.int .i64 t12_1) := bc BKgb35.out 1; have hfgb35_1 := blk_frozen BKgb35.out 1; have hcgb35_2 : w51.cell? ⟨gb35, 2, none⟩ = some (.slice Aoj34_7_0 t12_2.length coj34_7_0) := bc BKgb35.out 2; have hfgb35_2 := blk_frozen BKgb35.out 2; have hcgb35_3 : w51.cell? ⟨gb35, 3, none⟩ = some (.int .i64 t12_3) := bc BKgb35.out 3; have hfgb35_3 := blk_frozen BKgb35.out 3; have hcgb35_4 : w51.cell? ⟨gb35, 4, none⟩ = some (.int .i64 t12_4) := bc BKgb35.out 4; have hfgb35_4 := blk_frozen BKgb35.out 4; have hcgb35_5 : w51.cell? ⟨gb35, 5, none⟩ = some (.bool t12_5) := bc BKgb35.out 5; have hfgb35_5 := blk_frozen BKgb35.out 5; have hcgb35_6 : w51.cell? ⟨gb35, 6, none⟩ = some (.int .i64 t12_6) := bc BKgb35.out 6; have hfgb35_6 := blk_frozen BKgb35.out 6; have hcgb35_7 : w51.cell? ⟨gb35, 7, none⟩ = some (.int .i64 t12_7) := bc BKgb35.out 7; have hfgb35_7 := blk_frozen BKgb35.out 7; have hcgb35_8 : w51.cell? ⟨gb35, 8, none⟩ = some (.int .i64 t12_8) := bc BKgb35.out 8; have hfgb35_8 := blk_frozen BKgb35.out 8; have hcgb41_0 : w51.cell? ⟨gb41, 0, none⟩ = some (.slice Ao39_0 t39_0.length co39_0) := bc BKgb41.out 0; have hfgb41_0 := blk_frozen BKgb41.out 0; have hcgb41_1 : w51.cell? ⟨gb41, 1, none⟩ = some (.int .i64 t39_1) := bc BKgb41.out 1; have hfgb41_1 := blk_frozen BKgb41.out 1; have hcgb41_2 : w51.cell? ⟨gb41, 2, none⟩ = some (.int .i64 t39_2) := bc BKgb41.out 2; have hfgb41_2 := blk_frozen BKgb41.out 2; have hcgb45_0 : w51.cell? ⟨gb45, 0, none⟩ = some (.int .i64 t43_0) := bc BKgb45.out 0; have hfgb45_0 := blk_frozen BKgb45.out 0; have hcgb45_1 : w51.cell? ⟨gb45, 1, none⟩ = some (.int .i64 t43_1) := bc BKgb45.out 1; have hfgb45_1 := blk_frozen BKgb45.out 1; have hcgb45_2 : w51.cell? ⟨gb45, 2, none⟩ = some (.slice Ao43_2 t43_2.length co43_2) := bc BKgb45.out 2; have hfgb45_2 := blk_frozen BKgb45.out 2; have hcgb45_3 : w51.cell? ⟨gb45, 3, none⟩ = some (.int .i64 t43_3) := bc BKgb45.out 3; have hfgb45_3 := blk_frozen BKgb45.out 3; have hcgb45_4 : w51.cell? ⟨gb45, 4, none⟩ = some (.int .i64 t43_4) := bc BKgb45.out 4; have hfgb45_4 := blk_frozen BKgb45.out 4; have hcgb45_5 : w51.cell? ⟨gb45, 5, none⟩ = some (.bool t43_5) := bc BKgb45.out 5; have hfgb45_5 := blk_frozen BKgb45.out 5; have hcgb45_6 : w51.cell? ⟨gb45, 6, none⟩ = some (.int .i64 t43_6) := bc BKgb45.out 6; have hfgb45_6 := blk_frozen BKgb45.out 6; have hcgb45_7 : w51.cell? ⟨gb45, 7, none⟩ = some (.int .i64 t43_7) := bc BKgb45.out 7; have hfgb45_7 := blk_frozen BKgb45.out 7; have hcgb45_8 : w51.cell? ⟨gb45, 8, none⟩ = some (.int .i64 t43_8) := bc BKgb45.out 8; have hfgb45_8 := blk_frozen BKgb45.out 8) | ((with_reducible refine gate_callee (f := 15) rfl ?_); refine gl (some 53) Try.func15 #[.slice Ao37_0 t37.length co37_0, .slice Ao50_0 t50.length co50_0] ?_; (with_reducible refine (laws_eqInt64S.calls k _ _ t37 _ _ t50 true _ ?s0 ?s1 ?s2 ?s3 A52.out).mono ?_); (case s0 => exact (Kd.R_reads' HO37_0.out).2.2); (case s1 => exact (Kd.R_reads' HO37_0.out).2.1); (case s2 => exact (Kd.R_reads' HO50_0.out).2.2); (case s3 => exact (Kd.R_reads' HO50_0.out).2.1); rintro e w53 ⟨rfl, hb0⟩; have hb := Drawn0.below hb0; clear hb0; refine ⟨_, rfl, ?_⟩; obtain ⟨na52, nb52, ha_, hz_, hab52⟩ := nxt_ hb; have hn52 : nb50 ≤ na52 := (by rw [ha_]; exact HZ.out); replace HOj34_1_0 := am (Kd.R_below HOj34_1_0.out hb); replace HOj34_3_0 := am (Kd.R_below HOj34_3_0.out hb); replace HOj34_7_0 := am (Kd.R_below HOj34_7_0.out hb); replace HO37_0 := am (Kd.R_below HO37_0.out hb); replace HO39_0 := am (Kd.R_below HO39_0.out hb); replace HO43_2 := am (Kd.S_below HO43_2.out hb); replace HO50_0 := am (Kd.R_below HO50_0.out hb); replace BKgb1 := am (blk_below BKgb1.out hb); replace BKgb35 := am (blk_below BKgb35.out hb); replace BKgb41 := am (blk_below BKgb41.out hb); replace BKgb45 := am (blk_below BKgb45.out hb); replace HB := am (below_step HB.out hb); replace HZ := am (Nat.le_of_eq hz_); clear hb ha_ hz_ ; clear hcgb1_0 hfgb1_0 hcgb1_1 hfgb1_1 hcgb1_2 hfgb1_2 hcgb35_0 hfgb35_0 hcgb35_1 hfgb35_1 hcgb35_2 hfgb35_2 hcgb35_3 hfgb35_3 hcgb35_4 hfgb35_4 hcgb35_5 hfgb35_5 hcgb35_6 hfgb35_6 hcgb35_7 hfgb35_7 hcgb35_8 hfgb35_8 hcgb41_0 hfgb41_0 hcgb41_1 hfgb41_1 hcgb41_2 hfgb41_2 hcgb45_0 hfgb45_0 hcgb45_1 hfgb45_1 hcgb45_2 hfgb45_2 hcgb45_3 hfgb45_3 hcgb45_4 hfgb45_4 hcgb45_5 hfgb45_5 hcgb45_6 hfgb45_6 hcgb45_7 hfgb45_7 hcgb45_8 hfgb45_8; have hcgb1_0 : w53.cell? ⟨gb1, 0, none⟩ = some (.slice A1_0 l1_0.length c1_0) := bc BKgb1.out 0; have hfgb1_0 := blk_frozen BKgb1.out 0; have hcgb1_1 : w53.cell? ⟨gb1, 1, none⟩ = some (.int .i64 a1_1) := bc BKgb1.out 1; have hfgb1_1 := blk_frozen BKgb1.out 1; have hcgb1_2 : w53.cell? ⟨gb1, 2, none⟩ = some (.int .i64 a1_2) := bc BKgb1.out 2; have hfgb1_2 := blk_frozen BKgb1.out 2; have hcgb35_0 : w53.cell? ⟨gb35, 0, none⟩ = some (.int .i64 t12_0) := bc BKgb35.out 0; have hfgb35_0 := blk_frozen BKgb35.out 0; have hcgb35_1 : w53.cell? ⟨gb35, 1, none⟩ = some (.int .i64 t12_1) := bc BKgb35.out 1; have hfgb35_1 := blk_frozen BKgb35.out 1; have hcgb35_2 : w53.cell? ⟨gb35, 2, none⟩ = some (.slice Aoj34_7_0 t12_2.length coj34_7_0) := bc BKgb35.out 2; have hfgb35_2 := blk_frozen BKgb35.out 2; have hcgb35_3 : w53.cell? ⟨gb35, 3, none⟩ = some (.int .i64 t12_3) := bc BKgb35.out 3; have hfgb35_3 := blk_frozen BKgb35.out 3; have hcgb35_4 : w53.cell? ⟨gb35, 4, none⟩ = some (.int .i64 t12_4) := bc BKgb35.out 4; have hfgb35_4 := blk_frozen BKgb35.out 4; have hcgb35_5 : w53.cell? ⟨gb35, 5, none⟩ = some (.bool t12_5) := bc BKgb35.out 5; have hfgb35_5 := blk_frozen BKgb35.out 5; have hcgb35_6 : w53.cell? ⟨gb35, 6, none⟩ = some (.int .i64 t12_6) := bc BKgb35.out 6; have hfgb35_6 := blk_frozen BKgb35.out 6; have hcgb35_7 : w53.cell? ⟨gb35, 7, none⟩ = some (.int .i64 t12_7) := bc BKgb35.out 7; have hfgb35_7 := blk_frozen BKgb35.out 7; have hcgb35_8 : w53.cell? ⟨gb35, 8, none⟩ = some (.int .i64 t12_8) := bc BKgb35.out 8; have hfgb35_8 := blk_frozen BKgb35.out 8; have hcgb41_0 : w53.cell? ⟨gb41, 0, none⟩ = some (.slice Ao39_0 t39_0.length co39_0) := bc BKgb41.out 0; have hfgb41_0 := blk_frozen BKgb41.out 0; have hcgb41_1 : w53.cell? ⟨gb41, 1, none⟩ = some (.int .i64 t39_1) := bc BKgb41.out 1; have hfgb41_1 := blk_frozen BKgb41.out 1; have hcgb41_2 : w53.cell? ⟨gb41, 2, none⟩ = some (.int .i64 t39_2) := bc BKgb41.out 2; have hfgb41_2 := blk_frozen BKgb41.out 2; have hcgb45_0 : w53.cell? ⟨gb45, 0, none⟩ = some (.int .i64 t43_0) := bc BKgb45.out 0; have hfgb45_0 := blk_frozen BKgb45.out 0; have hcgb45_1 : w53.cell? ⟨gb45, 1, none⟩ = some (.int .i64 t43_1) := bc BKgb45.out 1; have hfgb45_1 := blk_frozen BKgb45.out 1; have hcgb45_2 : w53.cell? ⟨gb45, 2, none⟩ = some (.slice Ao43_2 t43_2.length co43_2) := bc BKgb45.out 2; have hfgb45_2 := blk_frozen BKgb45.out 2; have hcgb45_3 : w53.cell? ⟨gb45, 3, none⟩ = some (.int .i64 t43_3) := bc BKgb45.out 3; have hfgb45_3 := blk_frozen BKgb45.out 3; have hcgb45_4 : w53.cell? ⟨gb45, 4, none⟩ = some (.int .i64 t43_4) := bc BKgb45.out 4; have hfgb45_4 := blk_frozen BKgb45.out 4; have hcgb45_5 : w53.cell? ⟨gb45, 5, none⟩ = some (.bool t43_5) := bc BKgb45.out 5; have hfgb45_5 := blk_frozen BKgb45.out 5; have hcgb45_6 : w53.cell? ⟨gb45, 6, none⟩ = some (.int .i64 t43_6) := bc BKgb45.out 6; have hfgb45_6 := blk_frozen BKgb45.out 6; have hcgb45_7 : w53.cell? ⟨gb45, 7, none⟩ = some (.int .i64 t43_7) := bc BKgb45.out 7; have hfgb45_7 := blk_frozen BKgb45.out 7; have hcgb45_8 : w53.cell? ⟨gb45, 8, none⟩ = some (.int .i64 t43_8) := bc BKgb45.out 8; have hfgb45_8 := blk_frozen BKgb45.out 8))
   try go_wp2
   replace HOj34_1_0 := am (Kd.R_drew HOj34_1_0.out)
   replace HOj34_3_0 := am (Kd.R_drew HOj34_3_0.out)
   replace HOj34_7_0 := am (Kd.R_drew HOj34_7_0.out)
   replace HO37_0 := am (Kd.R_drew HO37_0.out)
   replace HO39_0 := am (Kd.R_drew HO39_0.out)
   replace HO43_2 := am (Kd.S_drew HO43_2.out)
   replace HO50_0 := am (Kd.R_drew HO50_0.out)
   replace BKgb1 := am (blk_drew BKgb1.out)
   replace BKgb35 := am (blk_drew BKgb35.out)
   replace BKgb41 := am (blk_drew BKgb41.out)
   replace BKgb45 := am (blk_drew BKgb45.out)
   replace HB := am (below_drew1 HB.out)
   refine start_ (n := 5) (S := fun w' => w'.cell? ⟨gb1, 0, none⟩ = some (.slice A1_0 l1_0.length c1_0) ∧ w'.cell? ⟨gb1, 1, none⟩ = some (.int .i64 a1_1) ∧ w'.cell? ⟨gb1, 2, none⟩ = some (.int .i64 a1_2) ∧ w'.cell? ⟨gb35, 0, none⟩ = some (.int .i64 t12_0) ∧ w'.cell? ⟨gb35, 1, none⟩ = some (.int .i64 t12_1) ∧ w'.cell? ⟨gb35, 2, none⟩ = some (.slice Aoj34_7_0 t12_2.length coj34_7_0) ∧ w'.cell? ⟨gb35, 3, none⟩ = some (.int .i64 t12_3) ∧ w'.cell? ⟨gb35, 4, none⟩ = some (.int .i64 t12_4) ∧ w'.cell? ⟨gb35, 5, none⟩ = some (.bool t12_5) ∧ w'.cell? ⟨gb35, 6, none⟩ = some (.int .i64 t12_6) ∧ w'.cell? ⟨gb35, 7, none⟩ = some (.int .i64 t12_7) ∧ w'.cell? ⟨gb35, 8, none⟩ = some (.int .i64 t12_8) ∧ w'.cell? ⟨gb41, 0, none⟩ = some (.slice Ao39_0 t39_0.length co39_0) ∧ w'.cell? ⟨gb41, 1, none⟩ = some (.int .i64 t39_1) ∧ w'.cell? ⟨gb41, 2, none⟩ = some (.int .i64 t39_2) ∧ w'.cell? ⟨gb45, 0, none⟩ = some (.int .i64 t43_0) ∧ w'.cell? ⟨gb45, 1, none⟩ = some (.int .i64 t43_1) ∧ w'.cell? ⟨gb45, 2, none⟩ = some (.slice Ao43_2 t43_2.length co43_2) ∧ w'.cell? ⟨gb45, 3, none⟩ = some (.int .i64 t43_3) ∧ w'.cell? ⟨gb45, 4, none⟩ = some (.int .i64 t43_4) ∧ w'.cell? ⟨gb45, 5, none⟩ = some (.bool t43_5) ∧ w'.cell? ⟨gb45, 6, none⟩ = some (.int .i64 t43_6) ∧ w'.cell? ⟨gb45, 7, none⟩ = some (.int .i64 t43_7) ∧ w'.cell? ⟨gb45, 8, none⟩ = some (.int .i64 t43_8)) (ds := []) #[false, false, false, false, false] (by kernel_rfl) rfl rfl ⟨bc BKgb1.out 0, bc BKgb1.out 1, bc BKgb1.out 2, bc BKgb35.out 0, bc BKgb35.out 1, bc BKgb35.out 2, bc BKgb35.out 3, bc BKgb35.out 4, bc BKgb35.out 5, bc BKgb35.out 6, bc BKgb35.out 7, bc BKgb35.out 8, bc BKgb41.out 0, bc BKgb41.out 1, bc BKgb41.out 2, bc BKgb45.out 0, bc BKgb45.out 1, bc BKgb45.out 2, bc BKgb45.out 3, bc BKgb45.out 4, bc BKgb45.out 5, bc BKgb45.out 6, bc BKgb45.out 7, bc BKgb45.out 8⟩ (fun hHeld => ?_)
   have HZ2 := am (show nb52 ≤ (w53.drew).heap.size from HZ.out)
   clear HZ
   have HZ := HZ2
   clear HZ2
   generalize w53.drew = w56 at HOj34_1_0 HOj34_3_0 HOj34_7_0 HO37_0 HO39_0 HO43_2 HO50_0 BKgb1 BKgb35 BKgb41 BKgb45 HB HZ hHeld ⊢
   refine take_ (i := 0) (N := some 55) (v := ?_) (a' := ?_) #[true, false, false, false, false] rfl rfl (by kernel_rfl) (fun _ _ _ h => h) (Or.inl ⟨by rfl, ?_⟩) hHeld ?_ ?_; rotate_left
   ·rintro w' ⟨s0, s1, s2, s3, s4, s5, s6, s7, s8, s9, s10, s11, s12, s13, s14, s15, s16, s17, s18, s19, s20, s21, s22, s23⟩; go_simp; with_reducible rfl
   rotate_left
   ·simp only [Act.put, sa_, s0_, ss_, i64_w, i32_w]; rfl
   refine take_ (i := 1) (N := some 56) (v := ?_) (a' := ?_) #[true, true, false, false, false] rfl rfl (by kernel_rfl) (fun _ _ _ h => h) (Or.inl ⟨by rfl, ?_⟩) hHeld ?_ ?_; rotate_left
   ·rintro w' ⟨s0, s1, s2, s3, s4, s5, s6, s7, s8, s9, s10, s11, s12, s13, s14, s15, s16, s17, s18, s19, s20, s21, s22, s23⟩; go_simp; with_reducible rfl
   rotate_left
   ·simp only [Act.put, sa_, s0_, ss_, i64_w, i32_w]; rfl
   refine one_ (i := 2) (N := some 57) #[true, true, true, false, false] rfl rfl (by kernel_rfl) (by decide) (fun K hK => ?_)
   refine gs_ Try.func12 #[.agg #[.slice A1_0 l1_0.length c1_0, .int .i64 a1_1, .int .i64 a1_2]] ?_
   (with_reducible refine (laws_toBuf.calls k _ _ l1_0 a1_1 a1_2 t57_0 t57_1 t57_2 _ ?s0 ?s1 A57.out).mono ?_)
   (case s0 => exact (Kd.C_below HR1_0.out HB.out))
   (case s1 => exact HC1_0.out)
   rintro e w58 ⟨v57_0, rfl, ho0, hb⟩
   refine ⟨_, rfl, ?_⟩
   obtain ⟨na57, nb57, ha_, hz_, hab57⟩ := nxt_ hb
   have hn57 : nb52 ≤ na57 := (by rw [ha_]; exact HZ.out)
   replace HOj34_1_0 := am (Kd.R_below HOj34_1_0.out hb)
   replace HOj34_3_0 := am (Kd.R_below HOj34_3_0.out hb)
   replace HOj34_7_0 := am (Kd.R_below HOj34_7_0.out hb)
   replace HO37_0 := am (Kd.R_below HO37_0.out hb)
   replace HO39_0 := am (Kd.R_below HO39_0.out hb)
   replace HO43_2 := am (Kd.S_below HO43_2.out hb)
   replace HO50_0 := am (Kd.R_below HO50_0.out hb)
   replace BKgb1 := am (blk_below BKgb1.out hb)
   replace BKgb35 := am (blk_below BKgb35.out hb)
   replace BKgb41 := am (blk_below BKgb41.out hb)
   replace BKgb45 := am (blk_below BKgb45.out hb)
   have HO57_0 := am (R_rg ha_ hz_ (below_size HB.out) ho0)
   replace HB := am (below_step HB.out hb)
   replace HZ := am (Nat.le_of_eq hz_)
   clear hb ha_ hz_ ho0
   obtain ⟨Ao57_0, co57_0, eo57_0⟩ := Kd.R_slice HO57_0.out
   subst eo57_0
   clear hcgb1_0 hfgb1_0 hcgb1_1 hfgb1_1 hcgb1_2 hfgb1_2 hcgb35_0 hfgb35_0 hcgb35_1 hfgb35_1 hcgb35_2 hfgb35_2 hcgb35_3 hfgb35_3 hcgb35_4 hfgb35_4 hcgb35_5 hfgb35_5 hcgb35_6 hfgb35_6 hcgb35_7 hfgb35_7 hcgb35_8 hfgb35_8 hcgb41_0 hfgb41_0 hcgb41_1 hfgb41_1 hcgb41_2 hfgb41_2 hcgb45_0 hfgb45_0 hcgb45_1 hfgb45_1 hcgb45_2 hfgb45_2 hcgb45_3 hfgb45_3 hcgb45_4 hfgb45_4 hcgb45_5 hfgb45_5 hcgb45_6 hfgb45_6 hcgb45_7 hfgb45_7 hcgb45_8 hfgb45_8
   have hcgb1_0 : w58.cell? ⟨gb1, 0, none⟩ = some (.slice A1_0 l1_0.length c1_0) := bc BKgb1.out 0
   have hfgb1_0 := blk_frozen BKgb1.out 0
   have hcgb1_1 : w58.cell? ⟨gb1, 1, none⟩ = some (.int .i64 a1_1) := bc BKgb1.out 1
   have hfgb1_1 := blk_frozen BKgb1.out 1
   have hcgb1_2 : w58.cell? ⟨gb1, 2, none⟩ = some (.int .i64 a1_2) := bc BKgb1.out 2
   have hfgb1_2 := blk_frozen BKgb1.out 2
   have hcgb35_0 : w58.cell? ⟨gb35, 0, none⟩ = some (.int .i64 t12_0) := bc BKgb35.out 0
   have hfgb35_0 := blk_frozen BKgb35.out 0
   have hcgb35_1 : w58.cell? ⟨gb35, 1, none⟩ = some (.int .i64 t12_1) := bc BKgb35.out 1
   have hfgb35_1 := blk_frozen BKgb35.out 1
   have hcgb35_2 : w58.cell? ⟨gb35, 2, none⟩ = some (.slice Aoj34_7_0 t12_2.length coj34_7_0) := bc BKgb35.out 2
   have hfgb35_2 := blk_frozen BKgb35.out 2
   have hcgb35_3 : w58.cell? ⟨gb35, 3, none⟩ = some (.int .i64 t12_3) := bc BKgb35.out 3
   have hfgb35_3 := blk_frozen BKgb35.out 3
   have hcgb35_4 : w58.cell? ⟨gb35, 4, none⟩ = some (.int .i64 t12_4) := bc BKgb35.out 4
   have hfgb35_4 := blk_frozen BKgb35.out 4
   have hcgb35_5 : w58.cell? ⟨gb35, 5, none⟩ = some (.bool t12_5) := bc BKgb35.out 5
   have hfgb35_5 := blk_frozen BKgb35.out 5
   have hcgb35_6 : w58.cell? ⟨gb35, 6, none⟩ = some (.int .i64 t12_6) := bc BKgb35.out 6
   have hfgb35_6 := blk_frozen BKgb35.out 6
   have hcgb35_7 : w58.cell? ⟨gb35, 7, none⟩ = some (.int .i64 t12_7) := bc BKgb35.out 7
   have hfgb35_7 := blk_frozen BKgb35.out 7
   have hcgb35_8 : w58.cell? ⟨gb35, 8, none⟩ = some (.int .i64 t12_8) := bc BKgb35.out 8
   have hfgb35_8 := blk_frozen BKgb35.out 8
   have hcgb41_0 : w58.cell? ⟨gb41, 0, none⟩ = some (.slice Ao39_0 t39_0.length co39_0) := bc BKgb41.out 0
   have hfgb41_0 := blk_frozen BKgb41.out 0
   have hcgb41_1 : w58.cell? ⟨gb41, 1, none⟩ = some (.int .i64 t39_1) := bc BKgb41.out 1
   have hfgb41_1 := blk_frozen BKgb41.out 1
   have hcgb41_2 : w58.cell? ⟨gb41, 2, none⟩ = some (.int .i64 t39_2) := bc BKgb41.out 2
   have hfgb41_2 := blk_frozen BKgb41.out 2
   have hcgb45_0 : w58.cell? ⟨gb45, 0, none⟩ = some (.int .i64 t43_0) := bc BKgb45.out 0
   have hfgb45_0 := blk_frozen BKgb45.out 0
   have hcgb45_1 : w58.cell? ⟨gb45, 1, none⟩ = some (.int .i64 t43_1) := bc BKgb45.out 1
   have hfgb45_1 := blk_frozen BKgb45.out 1
   have hcgb45_2 : w58.cell? ⟨gb45, 2, none⟩ = some (.slice Ao43_2 t43_2.length co43_2) := bc BKgb45.out 2
   have hfgb45_2 := blk_frozen BKgb45.out 2
   have hcgb45_3 : w58.cell? ⟨gb45, 3, none⟩ = some (.int .i64 t43_3) := bc BKgb45.out 3
   have hfgb45_3 := blk_frozen BKgb45.out 3
   have hcgb45_4 : w58.cell? ⟨gb45, 4, none⟩ = some (.int .i64 t43_4) := bc BKgb45.out 4
   have hfgb45_4 := blk_frozen BKgb45.out 4
   have hcgb45_5 : w58.cell? ⟨gb45, 5, none⟩ = some (.bool t43_5) := bc BKgb45.out 5
   have hfgb45_5 := blk_frozen BKgb45.out 5
   have hcgb45_6 : w58.cell? ⟨gb45, 6, none⟩ = some (.int .i64 t43_6) := bc BKgb45.out 6
   have hfgb45_6 := blk_frozen BKgb45.out 6
   have hcgb45_7 : w58.cell? ⟨gb45, 7, none⟩ = some (.int .i64 t43_7) := bc BKgb45.out 7
   have hfgb45_7 := blk_frozen BKgb45.out 7
   have hcgb45_8 : w58.cell? ⟨gb45, 8, none⟩ = some (.int .i64 t43_8) := bc BKgb45.out 8
   have hfgb45_8 := blk_frozen BKgb45.out 8
   refine hK.out _ _ ⟨bc BKgb1.out 0, bc BKgb1.out 1, bc BKgb1.out 2, bc BKgb35.out 0, bc BKgb35.out 1, bc BKgb35.out 2, bc BKgb35.out 3, bc BKgb35.out 4, bc BKgb35.out 5, bc BKgb35.out 6, bc BKgb35.out 7, bc BKgb35.out 8, bc BKgb41.out 0, bc BKgb41.out 1, bc BKgb41.out 2, bc BKgb45.out 0, bc BKgb45.out 1, bc BKgb45.out 2, bc BKgb45.out 3, bc BKgb45.out 4, bc BKgb45.out 5, bc BKgb45.out 6, bc BKgb45.out 7, bc BKgb45.out 8⟩ (fun hHeld => ?_)
   clear hK K
   refine norm_ (a' := ?_) ?_ ?_
   rotate_left
   ·show Act.put _ (some 57) _ = _; simp only [Act.put, sa_, s0_, ss_, i64_w, i32_w]; rfl
   refine one_ (i := 3) (N := some 58) #[true, true, true, true, false] rfl rfl (by kernel_rfl) (by decide) (fun K hK => ?_)
   refine gs_ Try.func16 #[.agg #[.slice Ao39_0 t39_0.length co39_0, .int .i64 t39_1, .int .i64 t39_2], .agg #[.slice Ao57_0 t57_0.length co57_0, .int .i64 t57_1, .int .i64 t57_2]] ?_
   (with_reducible refine (laws_eqBuf.calls k _ _ t39_0 t39_1 t39_2 _ _ t57_0 t57_1 t57_2 true _ ?s0 ?s1 ?s2 ?s3 A59.out).mono ?_)
   (case s0 => exact (Kd.R_reads' HO39_0.out).2.2)
   (case s1 => exact (Kd.R_reads' HO39_0.out).2.1)
   (case s2 => exact (Kd.R_reads' HO57_0.out).2.2)
   (case s3 => exact (Kd.R_reads' HO57_0.out).2.1)
   rintro e w60 ⟨rfl, hb⟩
   refine ⟨_, rfl, ?_⟩
   obtain ⟨na59, nb59, ha_, hz_, hab59⟩ := nxt_ hb
   have hn59 : nb57 ≤ na59 := (by rw [ha_]; exact HZ.out)
   replace HOj34_1_0 := am (Kd.R_below HOj34_1_0.out hb)
   replace HOj34_3_0 := am (Kd.R_below HOj34_3_0.out hb)
   replace HOj34_7_0 := am (Kd.R_below HOj34_7_0.out hb)
   replace HO37_0 := am (Kd.R_below HO37_0.out hb)
   replace HO39_0 := am (Kd.R_below HO39_0.out hb)
   replace HO43_2 := am (Kd.S_below HO43_2.out hb)
   replace HO50_0 := am (Kd.R_below HO50_0.out hb)
   replace HO57_0 := am (Kd.R_below HO57_0.out hb)
   replace BKgb1 := am (blk_below BKgb1.out hb)
   replace BKgb35 := am (blk_below BKgb35.out hb)
   replace BKgb41 := am (blk_below BKgb41.out hb)
   replace BKgb45 := am (blk_below BKgb45.out hb)
   replace HB := am (below_step HB.out hb)
   replace HZ := am (Nat.le_of_eq hz_)
   clear hb ha_ hz_  hcgb1_0 hfgb1_0 hcgb1_1 hfgb1_1 hcgb1_2 hfgb1_2 hcgb35_0 hfgb35_0 hcgb35_1 hfgb35_1 hcgb35_2 hfgb35_2 hcgb35_3 hfgb35_3 hcgb35_4 hfgb35_4 hcgb35_5 hfgb35_5 hcgb35_6 hfgb35_6 hcgb35_7 hfgb35_7 hcgb35_8 hfgb35_8 hcgb41_0 hfgb41_0 hcgb41_1 hfgb41_1 hcgb41_2 hfgb41_2 hcgb45_0 hfgb45_0 hcgb45_1 hfgb45_1 hcgb45_2 hfgb45_2 hcgb45_3 hfgb45_3 hcgb45_4 hfgb45_4 hcgb45_5 hfgb45_5 hcgb45_6 hfgb45_6 hcgb45_7 hfgb45_7 hcgb45_8 hfgb45_8
   have hcgb1_0 : w60.cell? ⟨gb1, 0, none⟩ = some (.slice A1_0 l1_0.length c1_0) := bc BKgb1.out 0
   have hfgb1_0 := blk_frozen BKgb1.out 0
   have hcgb1_1 : w60.cell? ⟨gb1, 1, none⟩ = some (.int .i64 a1_1) := bc BKgb1.out 1
   have hfgb1_1 := blk_frozen BKgb1.out 1
   have hcgb1_2 : w60.cell? ⟨gb1, 2, none⟩ = some (.int .i64 a1_2) := bc BKgb1.out 2
   have hfgb1_2 := blk_frozen BKgb1.out 2
   have hcgb35_0 : w60.cell? ⟨gb35, 0, none⟩ = some (.int .i64 t12_0) := bc BKgb35.out 0
   have hfgb35_0 := blk_frozen BKgb35.out 0
   have hcgb35_1 : w60.cell? ⟨gb35, 1, none⟩ = some (.int .i64 t12_1) := bc BKgb35.out 1
   have hfgb35_1 := blk_frozen BKgb35.out 1
   have hcgb35_2 : w60.cell? ⟨gb35, 2, none⟩ = some (.slice Aoj34_7_0 t12_2.length coj34_7_0) := bc BKgb35.out 2
   have hfgb35_2 := blk_frozen BKgb35.out 2
   have hcgb35_3 : w60.cell? ⟨gb35, 3, none⟩ = some (.int .i64 t12_3) := bc BKgb35.out 3
   have hfgb35_3 := blk_frozen BKgb35.out 3
   have hcgb35_4 : w60.cell? ⟨gb35, 4, none⟩ = some (.int .i64 t12_4) := bc BKgb35.out 4
   have hfgb35_4 := blk_frozen BKgb35.out 4
   have hcgb35_5 : w60.cell? ⟨gb35, 5, none⟩ = some (.bool t12_5) := bc BKgb35.out 5
   have hfgb35_5 := blk_frozen BKgb35.out 5
   have hcgb35_6 : w60.cell? ⟨gb35, 6, none⟩ = some (.int .i64 t12_6) := bc BKgb35.out 6
   have hfgb35_6 := blk_frozen BKgb35.out 6
   have hcgb35_7 : w60.cell? ⟨gb35, 7, none⟩ = some (.int .i64 t12_7) := bc BKgb35.out 7
   have hfgb35_7 := blk_frozen BKgb35.out 7
   have hcgb35_8 : w60.cell? ⟨gb35, 8, none⟩ = some (.int .i64 t12_8) := bc BKgb35.out 8
   have hfgb35_8 := blk_frozen BKgb35.out 8
   have hcgb41_0 : w60.cell? ⟨gb41, 0, none⟩ = some (.slice Ao39_0 t39_0.length co39_0) := bc BKgb41.out 0
   have hfgb41_0 := blk_frozen BKgb41.out 0
   have hcgb41_1 : w60.cell? ⟨gb41, 1, none⟩ = some (.int .i64 t39_1) := bc BKgb41.out 1
   have hfgb41_1 := blk_frozen BKgb41.out 1
   have hcgb41_2 : w60.cell? ⟨gb41, 2, none⟩ = some (.int .i64 t39_2) := bc BKgb41.out 2
   have hfgb41_2 := blk_frozen BKgb41.out 2
   have hcgb45_0 : w60.cell? ⟨gb45, 0, none⟩ = some (.int .i64 t43_0) := bc BKgb45.out 0
   have hfgb45_0 := blk_frozen BKgb45.out 0
   have hcgb45_1 : w60.cell? ⟨gb45, 1, none⟩ = some (.int .i64 t43_1) := bc BKgb45.out 1
   have hfgb45_1 := blk_frozen BKgb45.out 1
   have hcgb45_2 : w60.cell? ⟨gb45, 2, none⟩ = some (.slice Ao43_2 t43_2.length co43_2) := bc BKgb45.out 2
   have hfgb45_2 := blk_frozen BKgb45.out 2
   have hcgb45_3 : w60.cell? ⟨gb45, 3, none⟩ = some (.int .i64 t43_3) := bc BKgb45.out 3
   have hfgb45_3 := blk_frozen BKgb45.out 3
   have hcgb45_4 : w60.cell? ⟨gb45, 4, none⟩ = some (.int .i64 t43_4) := bc BKgb45.out 4
   have hfgb45_4 := blk_frozen BKgb45.out 4
   have hcgb45_5 : w60.cell? ⟨gb45, 5, none⟩ = some (.bool t43_5) := bc BKgb45.out 5
   have hfgb45_5 := blk_frozen BKgb45.out 5
   have hcgb45_6 : w60.cell? ⟨gb45, 6, none⟩ = some (.int .i64 t43_6) := bc BKgb45.out 6
   have hfgb45_6 := blk_frozen BKgb45.out 6
   have hcgb45_7 : w60.cell? ⟨gb45, 7, none⟩ = some (.int .i64 t43_7) := bc BKgb45.out 7
   have hfgb45_7 := blk_frozen BKgb45.out 7
   have hcgb45_8 : w60.cell? ⟨gb45, 8, none⟩ = some (.int .i64 t43_8) := bc BKgb45.out 8
   have hfgb45_8 := blk_frozen BKgb45.out 8
   refine hK.out _ _ ⟨bc BKgb1.out 0, bc BKgb1.out 1, bc BKgb1.out 2, bc BKgb35.out 0, bc BKgb35.out 1, bc BKgb35.out 2, bc BKgb35.out 3, bc BKgb35.out 4, bc BKgb35.out 5, bc BKgb35.out 6, bc BKgb35.out 7, bc BKgb35.out 8, bc BKgb41.out 0, bc BKgb41.out 1, bc BKgb41.out 2, bc BKgb45.out 0, bc BKgb45.out 1, bc BKgb45.out 2, bc BKgb45.out 3, bc BKgb45.out 4, bc BKgb45.out 5, bc BKgb45.out 6, bc BKgb45.out 7, bc BKgb45.out 8⟩ (fun hHeld => ?_)
   clear hK K
   refine norm_ (a' := ?_) ?_ ?_
   rotate_left
   ·show Act.put _ (some 58) _ = _; simp only [Act.put, sa_, s0_, ss_, i64_w, i32_w]; rfl
   refine pure_ (i := 4) (N := some 59) (v := ?_) (a' := ?_) #[true, true, true, true, true] rfl rfl (by kernel_rfl) (fun _ _ _ h => h) (Or.inl ⟨by rfl, ?_⟩) ?_ ?_; rotate_left
   ·intro w'; go_simp; with_reducible rfl
   rotate_left
   ·simp only [Act.put, sa_, s0_, ss_, i64_w, i32_w]; rfl
   refine done_ (by kernel_rfl) ?_
   go_wp2_with (first | ((with_reducible refine gate_callee (f := 17) rfl ?_); refine gl (some 62) Try.func17 #[.slice Ao37_0 t37.length co37_0, .int .i64 1] ?_; refine (laws_markInt64S.marks k _ _ t37 1 t62 t62_0 w _ HB.out HO37_0.out A62.out).mono ?_; rintro e w63 ⟨rfl, hy0, hb, hkp⟩; refine ⟨_, rfl, ?_⟩; replace HOj34_1_0 := am (Kd.R_kept HOj34_1_0.out hkp (fun k_ hk_ hs_ => Rg_no hk_.1 hs_.1 (by omega))); replace HOj34_3_0 := am (Kd.R_kept HOj34_3_0.out hkp (fun k_ hk_ hs_ => Rg_no hk_.1 hs_.1 (by omega))); replace HOj34_7_0 := am (Kd.R_kept HOj34_7_0.out hkp (fun k_ hk_ hs_ => Rg_no hk_.1 hs_.1 (by omega))); replace HO37_0 := am (hy0); replace HO39_0 := am (Kd.R_kept HO39_0.out hkp (fun k_ hk_ hs_ => Rg_no hk_.1 hs_.1 (by omega))); replace HO43_2 := am (Kd.S_kept HO43_2.out hkp (fun k_ hk_ hs_ => Rg_no hk_.1 hs_.1 (by omega))); replace HO50_0 := am (Kd.R_kept HO50_0.out hkp (fun k_ hk_ hs_ => Rg_no hk_.1 hs_.1 (by omega))); replace HO57_0 := am (Kd.R_kept HO57_0.out hkp (fun k_ hk_ hs_ => Rg_no hk_.1 hs_.1 (by omega))); replace BKgb1 := am (blk_kept (g := gb1) BKgb1.out hkp (fun hs_ => Rg_ne hs_.1 (by omega) rfl)); replace BKgb35 := am (blk_kept (g := gb35) BKgb35.out hkp (fun hs_ => Rg_ne hs_.1 (by omega) rfl)); replace BKgb41 := am (blk_kept (g := gb41) BKgb41.out hkp (fun hs_ => Rg_ne hs_.1 (by omega) rfl)); replace BKgb45 := am (blk_kept (g := gb45) BKgb45.out hkp (fun hs_ => Rg_ne hs_.1 (by omega) rfl)); replace HB := am (hb); replace HZ := am (Nat.le_trans HZ.out hkp.1); clear hb hkp hy0; clear hcgb1_0 hfgb1_0 hcgb1_1 hfgb1_1 hcgb1_2 hfgb1_2 hcgb35_0 hfgb35_0 hcgb35_1 hfgb35_1 hcgb35_2 hfgb35_2 hcgb35_3 hfgb35_3 hcgb35_4 hfgb35_4 hcgb35_5 hfgb35_5 hcgb35_6 hfgb35_6 hcgb35_7 hfgb35_7 hcgb35_8 hfgb35_8 hcgb41_0 hfgb41_0 hcgb41_1 hfgb41_1 hcgb41_2 hfgb41_2 hcgb45_0 hfgb45_0 hcgb45_1 hfgb45_1 hcgb45_2 hfgb45_2 hcgb45_3 hfgb45_3 hcgb45_4 hfgb45_4 hcgb45_5 hfgb45_5 hcgb45_6 hfgb45_6 hcgb45_7 hfgb45_7 hcgb45_8 hfgb45_8; have hcgb1_0 : w63.cell? ⟨gb1, 0, none⟩ = some (.slice A1_0 l1_0.length c1_0) := bc BKgb1.out 0; have hfgb1_0 := blk_frozen BKgb1.out 0; have hcgb1_1 : w63.cell? ⟨gb1, 1, none⟩ = some (.int .i64 a1_1) := bc BKgb1.out 1; have hfgb1_1 := blk_frozen BKgb1.out 1; have hcgb1_2 : w63.cell? ⟨gb1, 2, none⟩ = some (.int .i64 a1_2) := bc BKgb1.out 2; have hfgb1_2 := blk_frozen BKgb1.out 2; have hcgb35_0 : w63.cell? ⟨gb35, 0, none⟩ = some (.int .i64 t12_0) := bc BKgb35.out 0; have hfgb35_0 := blk_frozen BKgb35.out 0; have hcgb35_1 : w63.cell? ⟨gb35, 1, none⟩ = some (.int .i64 t12_1) := bc BKgb35.out 1; have hfgb35_1 := blk_frozen BKgb35.out 1; have hcgb35_2 : w63.cell? ⟨gb35, 2, none⟩ = some (.slice Aoj34_7_0 t12_2.length coj34_7_0) := bc BKgb35.out 2; have hfgb35_2 := blk_frozen BKgb35.out 2; have hcgb35_3 : w63.cell? ⟨gb35, 3, none⟩ = some (.int .i64 t12_3) := bc BKgb35.out 3; have hfgb35_3 := blk_frozen BKgb35.out 3; have hcgb35_4 : w63.cell? ⟨gb35, 4, none⟩ = some (.int .i64 t12_4) := bc BKgb35.out 4; have hfgb35_4 := blk_frozen BKgb35.out 4; have hcgb35_5 : w63.cell? ⟨gb35, 5, none⟩ = some (.bool t12_5) := bc BKgb35.out 5; have hfgb35_5 := blk_frozen BKgb35.out 5; have hcgb35_6 : w63.cell? ⟨gb35, 6, none⟩ = some (.int .i64 t12_6) := bc BKgb35.out 6; have hfgb35_6 := blk_frozen BKgb35.out 6; have hcgb35_7 : w63.cell? ⟨gb35, 7, none⟩ = some (.int .i64 t12_7) := bc BKgb35.out 7; have hfgb35_7 := blk_frozen BKgb35.out 7; have hcgb35_8 : w63.cell? ⟨gb35, 8, none⟩ = some (.int .i64 t12_8) := bc BKgb35.out 8; have hfgb35_8 := blk_frozen BKgb35.out 8; have hcgb41_0 : w63.cell? ⟨gb41, 0, none⟩ = some (.slice Ao39_0 t39_0.length co39_0) := bc BKgb41.out 0; have hfgb41_0 := blk_frozen BKgb41.out 0; have hcgb41_1 : w63.cell? ⟨gb41, 1, none⟩ = some (.int .i64 t39_1) := bc BKgb41.out 1; have hfgb41_1 := blk_frozen BKgb41.out 1; have hcgb41_2 : w63.cell? ⟨gb41, 2, none⟩ = some (.int .i64 t39_2) := bc BKgb41.out 2; have hfgb41_2 := blk_frozen BKgb41.out 2; have hcgb45_0 : w63.cell? ⟨gb45, 0, none⟩ = some (.int .i64 t43_0) := bc BKgb45.out 0; have hfgb45_0 := blk_frozen BKgb45.out 0; have hcgb45_1 : w63.cell? ⟨gb45, 1, none⟩ = some (.int .i64 t43_1) := bc BKgb45.out 1; have hfgb45_1 := blk_frozen BKgb45.out 1; have hcgb45_2 : w63.cell? ⟨gb45, 2, none⟩ = some (.slice Ao43_2 t43_2.length co43_2) := bc BKgb45.out 2; have hfgb45_2 := blk_frozen BKgb45.out 2; have hcgb45_3 : w63.cell? ⟨gb45, 3, none⟩ = some (.int .i64 t43_3) := bc BKgb45.out 3; have hfgb45_3 := blk_frozen BKgb45.out 3; have hcgb45_4 : w63.cell? ⟨gb45, 4, none⟩ = some (.int .i64 t43_4) := bc BKgb45.out 4; have hfgb45_4 := blk_frozen BKgb45.out 4; have hcgb45_5 : w63.cell? ⟨gb45, 5, none⟩ = some (.bool t43_5) := bc BKgb45.out 5; have hfgb45_5 := blk_frozen BKgb45.out 5; have hcgb45_6 : w63.cell? ⟨gb45, 6, none⟩ = some (.int .i64 t43_6) := bc BKgb45.out 6; have hfgb45_6 := blk_frozen BKgb45.out 6; have hcgb45_7 : w63.cell? ⟨gb45, 7, none⟩ = some (.int .i64 t43_7) := bc BKgb45.out 7; have hfgb45_7 := blk_frozen BKgb45.out 7; have hcgb45_8 : w63.cell? ⟨gb45, 8, none⟩ = some (.int .i64 t43_8) := bc BKgb45.out 8; have hfgb45_8 := blk_frozen BKgb45.out 8; have HL62_0 := am (Kd.R_reads' HO37_0.out).1) | ((with_reducible refine gate_callee (f := 18) rfl ?_); refine gl (some 65) Try.func18 #[.agg #[.slice Ao39_0 t39_0.length co39_0, .int .i64 t39_1, .int .i64 t39_2], .int .i64 t62] ?_; refine (laws_markBuf.marks k _ _ t39_0 t39_1 t39_2 t62 t64 t64_0 w _ HB.out HO39_0.out A64.out).mono ?_; rintro e w65 ⟨rfl, hy0, hb, hkp⟩; refine ⟨_, rfl, ?_⟩; replace HOj34_1_0 := am (Kd.R_kept HOj34_1_0.out hkp (fun k_ hk_ hs_ => Rg_no hk_.1 hs_.1 (by omega))); replace HOj34_3_0 := am (Kd.R_kept HOj34_3_0.out hkp (fun k_ hk_ hs_ => Rg_no hk_.1 hs_.1 (by omega))); replace HOj34_7_0 := am (Kd.R_kept HOj34_7_0.out hkp (fun k_ hk_ hs_ => Rg_no hk_.1 hs_.1 (by omega))); replace HO37_0 := am (Kd.R_kept HO37_0.out hkp (fun k_ hk_ hs_ => Rg_no hk_.1 hs_.1 (by omega))); replace HO39_0 := am (hy0); replace HO43_2 := am (Kd.S_kept HO43_2.out hkp (fun k_ hk_ hs_ => Rg_no hk_.1 hs_.1 (by omega))); replace HO50_0 := am (Kd.R_kept HO50_0.out hkp (fun k_ hk_ hs_ => Rg_no hk_.1 hs_.1 (by omega))); replace HO57_0 := am (Kd.R_kept HO57_0.out hkp (fun k_ hk_ hs_ => Rg_no hk_.1 hs_.1 (by omega))); replace BKgb1 := am (blk_kept (g := gb1) BKgb1.out hkp (fun hs_ => Rg_ne hs_.1 (by omega) rfl)); replace BKgb35 := am (blk_kept (g := gb35) BKgb35.out hkp (fun hs_ => Rg_ne hs_.1 (by omega) rfl)); replace BKgb41 := am (blk_kept (g := gb41) BKgb41.out hkp (fun hs_ => Rg_ne hs_.1 (by omega) rfl)); replace BKgb45 := am (blk_kept (g := gb45) BKgb45.out hkp (fun hs_ => Rg_ne hs_.1 (by omega) rfl)); replace HB := am (hb); replace HZ := am (Nat.le_trans HZ.out hkp.1); clear hb hkp hy0; clear hcgb1_0 hfgb1_0 hcgb1_1 hfgb1_1 hcgb1_2 hfgb1_2 hcgb35_0 hfgb35_0 hcgb35_1 hfgb35_1 hcgb35_2 hfgb35_2 hcgb35_3 hfgb35_3 hcgb35_4 hfgb35_4 hcgb35_5 hfgb35_5 hcgb35_6 hfgb35_6 hcgb35_7 hfgb35_7 hcgb35_8 hfgb35_8 hcgb41_0 hfgb41_0 hcgb41_1 hfgb41_1 hcgb41_2 hfgb41_2 hcgb45_0 hfgb45_0 hcgb45_1 hfgb45_1 hcgb45_2 hfgb45_2 hcgb45_3 hfgb45_3 hcgb45_4 hfgb45_4 hcgb45_5 hfgb45_5 hcgb45_6 hfgb45_6 hcgb45_7 hfgb45_7 hcgb45_8 hfgb45_8; have hcgb1_0 : w65.cell? ⟨gb1, 0, none⟩ = some (.slice A1_0 l1_0.length c1_0) := bc BKgb1.out 0; have hfgb1_0 := blk_frozen BKgb1.out 0; have hcgb1_1 : w65.cell? ⟨gb1, 1, none⟩ = some (.int .i64 a1_1) := bc BKgb1.out 1; have hfgb1_1 := blk_frozen BKgb1.out 1; have hcgb1_2 : w65.cell? ⟨gb1, 2, none⟩ = some (.int .i64 a1_2) := bc BKgb1.out 2; have hfgb1_2 := blk_frozen BKgb1.out 2; have hcgb35_0 : w65.cell? ⟨gb35, 0, none⟩ = some (.int .i64 t12_0) := bc BKgb35.out 0; have hfgb35_0 := blk_frozen BKgb35.out 0; have hcgb35_1 : w65.cell? ⟨gb35, 1, none⟩ = some (.int .i64 t12_1) := bc BKgb35.out 1; have hfgb35_1 := blk_frozen BKgb35.out 1; have hcgb35_2 : w65.cell? ⟨gb35, 2, none⟩ = some (.slice Aoj34_7_0 t12_2.length coj34_7_0) := bc BKgb35.out 2; have hfgb35_2 := blk_frozen BKgb35.out 2; have hcgb35_3 : w65.cell? ⟨gb35, 3, none⟩ = some (.int .i64 t12_3) := bc BKgb35.out 3; have hfgb35_3 := blk_frozen BKgb35.out 3; have hcgb35_4 : w65.cell? ⟨gb35, 4, none⟩ = some (.int .i64 t12_4) := bc BKgb35.out 4; have hfgb35_4 := blk_frozen BKgb35.out 4; have hcgb35_5 : w65.cell? ⟨gb35, 5, none⟩ = some (.bool t12_5) := bc BKgb35.out 5; have hfgb35_5 := blk_frozen BKgb35.out 5; have hcgb35_6 : w65.cell? ⟨gb35, 6, none⟩ = some (.int .i64 t12_6) := bc BKgb35.out 6; have hfgb35_6 := blk_frozen BKgb35.out 6; have hcgb35_7 : w65.cell? ⟨gb35, 7, none⟩ = some (.int .i64 t12_7) := bc BKgb35.out 7; have hfgb35_7 := blk_frozen BKgb35.out 7; have hcgb35_8 : w65.cell? ⟨gb35, 8, none⟩ = some (.int .i64 t12_8) := bc BKgb35.out 8; have hfgb35_8 := blk_frozen BKgb35.out 8; have hcgb41_0 : w65.cell? ⟨gb41, 0, none⟩ = some (.slice Ao39_0 t39_0.length co39_0) := bc BKgb41.out 0; have hfgb41_0 := blk_frozen BKgb41.out 0; have hcgb41_1 : w65.cell? ⟨gb41, 1, none⟩ = some (.int .i64 t39_1) := bc BKgb41.out 1; have hfgb41_1 := blk_frozen BKgb41.out 1; have hcgb41_2 : w65.cell? ⟨gb41, 2, none⟩ = some (.int .i64 t39_2) := bc BKgb41.out 2; have hfgb41_2 := blk_frozen BKgb41.out 2; have hcgb45_0 : w65.cell? ⟨gb45, 0, none⟩ = some (.int .i64 t43_0) := bc BKgb45.out 0; have hfgb45_0 := blk_frozen BKgb45.out 0; have hcgb45_1 : w65.cell? ⟨gb45, 1, none⟩ = some (.int .i64 t43_1) := bc BKgb45.out 1; have hfgb45_1 := blk_frozen BKgb45.out 1; have hcgb45_2 : w65.cell? ⟨gb45, 2, none⟩ = some (.slice Ao43_2 t43_2.length co43_2) := bc BKgb45.out 2; have hfgb45_2 := blk_frozen BKgb45.out 2; have hcgb45_3 : w65.cell? ⟨gb45, 3, none⟩ = some (.int .i64 t43_3) := bc BKgb45.out 3; have hfgb45_3 := blk_frozen BKgb45.out 3; have hcgb45_4 : w65.cell? ⟨gb45, 4, none⟩ = some (.int .i64 t43_4) := bc BKgb45.out 4; have hfgb45_4 := blk_frozen BKgb45.out 4; have hcgb45_5 : w65.cell? ⟨gb45, 5, none⟩ = some (.bool t43_5) := bc BKgb45.out 5; have hfgb45_5 := blk_frozen BKgb45.out 5; have hcgb45_6 : w65.cell? ⟨gb45, 6, none⟩ = some (.int .i64 t43_6) := bc BKgb45.out 6; have hfgb45_6 := blk_frozen BKgb45.out 6; have hcgb45_7 : w65.cell? ⟨gb45, 7, none⟩ = some (.int .i64 t43_7) := bc BKgb45.out 7; have hfgb45_7 := blk_frozen BKgb45.out 7; have hcgb45_8 : w65.cell? ⟨gb45, 8, none⟩ = some (.int .i64 t43_8) := bc BKgb45.out 8; have hfgb45_8 := blk_frozen BKgb45.out 8; have HL64_0 := am (Kd.R_reads' HO39_0.out).1) | (go_at_call 14; (with_reducible refine (laws_eqView.calls k t43_0 t43_1 _ _ t43_2 t43_3 t43_4 t43_5 t43_6 t43_7 t43_8 t12_0 t12_1 _ _ t12_2 t12_3 t12_4 t12_5 t12_6 t12_7 t12_8 true _ ?s0 ?s1 ?s2 ?s3 A66.out).mono ?_); (case s0 => exact (Kd.S_reads' HO43_2.out).2.2); (case s1 => exact (Kd.S_reads' HO43_2.out).2.1); (case s2 => exact (Kd.R_reads' HOj34_7_0.out).2.2); (case s3 => exact (Kd.R_reads' HOj34_7_0.out).2.1); rintro e w67 ⟨rfl, hb⟩; obtain ⟨na66, nb66, ha_, hz_, hab66⟩ := nxt_ hb; have hn66 : nb59 ≤ na66 := (by rw [ha_]; exact HZ.out); replace HOj34_1_0 := am (Kd.R_below HOj34_1_0.out hb); replace HOj34_3_0 := am (Kd.R_below HOj34_3_0.out hb); replace HOj34_7_0 := am (Kd.R_below HOj34_7_0.out hb); replace HO37_0 := am (Kd.R_below HO37_0.out hb); replace HO39_0 := am (Kd.R_below HO39_0.out hb); replace HO43_2 := am (Kd.S_below HO43_2.out hb); replace HO50_0 := am (Kd.R_below HO50_0.out hb); replace HO57_0 := am (Kd.R_below HO57_0.out hb); replace BKgb1 := am (blk_below BKgb1.out hb); replace BKgb35 := am (blk_below BKgb35.out hb); replace BKgb41 := am (blk_below BKgb41.out hb); replace BKgb45 := am (blk_below BKgb45.out hb); replace HB := am (below_step HB.out hb); replace HZ := am (Nat.le_of_eq hz_); clear hb ha_ hz_ ; clear hcgb1_0 hfgb1_0 hcgb1_1 hfgb1_1 hcgb1_2 hfgb1_2 hcgb35_0 hfgb35_0 hcgb35_1 hfgb35_1 hcgb35_2 hfgb35_2 hcgb35_3 hfgb35_3 hcgb35_4 hfgb35_4 hcgb35_5 hfgb35_5 hcgb35_6 hfgb35_6 hcgb35_7 hfgb35_7 hcgb35_8 hfgb35_8 hcgb41_0 hfgb41_0 hcgb41_1 hfgb41_1 hcgb41_2 hfgb41_2 hcgb45_0 hfgb45_0 hcgb45_1 hfgb45_1 hcgb45_2 hfgb45_2 hcgb45_3 hfgb45_3 hcgb45_4 hfgb45_4 hcgb45_5 hfgb45_5 hcgb45_6 hfgb45_6 hcgb45_7 hfgb45_7 hcgb45_8 hfgb45_8; have hcgb1_0 : w67.cell? ⟨gb1, 0, none⟩ = some (.slice A1_0 l1_0.length c1_0) := bc BKgb1.out 0; have hfgb1_0 := blk_frozen BKgb1.out 0; have hcgb1_1 : w67.cell? ⟨gb1, 1, none⟩ = some (.int .i64 a1_1) := bc BKgb1.out 1; have hfgb1_1 := blk_frozen BKgb1.out 1; have hcgb1_2 : w67.cell? ⟨gb1, 2, none⟩ = some (.int .i64 a1_2) := bc BKgb1.out 2; have hfgb1_2 := blk_frozen BKgb1.out 2; have hcgb35_0 : w67.cell? ⟨gb35, 0, none⟩ = some (.int .i64 t12_0) := bc BKgb35.out 0; have hfgb35_0 := blk_frozen BKgb35.out 0; have hcgb35_1 : w67.cell? ⟨gb35, 1, none⟩ = some (.int .i64 t12_1) := bc BKgb35.out 1; have hfgb35_1 := blk_frozen BKgb35.out 1; have hcgb35_2 : w67.cell? ⟨gb35, 2, none⟩ = some (.slice Aoj34_7_0 t12_2.length coj34_7_0) := bc BKgb35.out 2; have hfgb35_2 := blk_frozen BKgb35.out 2; have hcgb35_3 : w67.cell? ⟨gb35, 3, none⟩ = some (.int .i64 t12_3) := bc BKgb35.out 3; have hfgb35_3 := blk_frozen BKgb35.out 3; have hcgb35_4 : w67.cell? ⟨gb35, 4, none⟩ = some (.int .i64 t12_4) := bc BKgb35.out 4; have hfgb35_4 := blk_frozen BKgb35.out 4; have hcgb35_5 : w67.cell? ⟨gb35, 5, none⟩ = some (.bool t12_5) := bc BKgb35.out 5; have hfgb35_5 := blk_frozen BKgb35.out 5; have hcgb35_6 : w67.cell? ⟨gb35, 6, none⟩ = some (.int .i64 t12_6) := bc BKgb35.out 6; have hfgb35_6 := blk_frozen BKgb35.out 6; have hcgb35_7 : w67.cell? ⟨gb35, 7, none⟩ = some (.int .i64 t12_7) := bc BKgb35.out 7; have hfgb35_7 := blk_frozen BKgb35.out 7; have hcgb35_8 : w67.cell? ⟨gb35, 8, none⟩ = some (.int .i64 t12_8) := bc BKgb35.out 8; have hfgb35_8 := blk_frozen BKgb35.out 8; have hcgb41_0 : w67.cell? ⟨gb41, 0, none⟩ = some (.slice Ao39_0 t39_0.length co39_0) := bc BKgb41.out 0; have hfgb41_0 := blk_frozen BKgb41.out 0; have hcgb41_1 : w67.cell? ⟨gb41, 1, none⟩ = some (.int .i64 t39_1) := bc BKgb41.out 1; have hfgb41_1 := blk_frozen BKgb41.out 1; have hcgb41_2 : w67.cell? ⟨gb41, 2, none⟩ = some (.int .i64 t39_2) := bc BKgb41.out 2; have hfgb41_2 := blk_frozen BKgb41.out 2; have hcgb45_0 : w67.cell? ⟨gb45, 0, none⟩ = some (.int .i64 t43_0) := bc BKgb45.out 0; have hfgb45_0 := blk_frozen BKgb45.out 0; have hcgb45_1 : w67.cell? ⟨gb45, 1, none⟩ = some (.int .i64 t43_1) := bc BKgb45.out 1; have hfgb45_1 := blk_frozen BKgb45.out 1; have hcgb45_2 : w67.cell? ⟨gb45, 2, none⟩ = some (.slice Ao43_2 t43_2.length co43_2) := bc BKgb45.out 2; have hfgb45_2 := blk_frozen BKgb45.out 2; have hcgb45_3 : w67.cell? ⟨gb45, 3, none⟩ = some (.int .i64 t43_3) := bc BKgb45.out 3; have hfgb45_3 := blk_frozen BKgb45.out 3; have hcgb45_4 : w67.cell? ⟨gb45, 4, none⟩ = some (.int .i64 t43_4) := bc BKgb45.out 4; have hfgb45_4 := blk_frozen BKgb45.out 4; have hcgb45_5 : w67.cell? ⟨gb45, 5, none⟩ = some (.bool t43_5) := bc BKgb45.out 5; have hfgb45_5 := blk_frozen BKgb45.out 5; have hcgb45_6 : w67.cell? ⟨gb45, 6, none⟩ = some (.int .i64 t43_6) := bc BKgb45.out 6; have hfgb45_6 := blk_frozen BKgb45.out 6; have hcgb45_7 : w67.cell? ⟨gb45, 7, none⟩ = some (.int .i64 t43_7) := bc BKgb45.out 7; have hfgb45_7 := blk_frozen BKgb45.out 7; have hcgb45_8 : w67.cell? ⟨gb45, 8, none⟩ = some (.int .i64 t43_8) := bc BKgb45.out 8; have hfgb45_8 := blk_frozen BKgb45.out 8) | ((with_reducible refine gate_callee (f := 19) rfl ?_); refine gl (some 76) Try.func19 #[.agg #[.int .i64 t43_0, .int .i64 t43_1, .slice Ao43_2 t43_2.length co43_2, .int .i64 t43_3, .int .i64 t43_4, .bool t43_5, .int .i64 t43_6, .int .i64 t43_7, .int .i64 t43_8], .int .i64 1] ?_; refine (laws_markView.marks k _ _ t43_0 t43_1 t43_2 t43_3 t43_4 t43_5 t43_6 t43_7 t43_8 1 t70 t70_0 w _ HB.out HO43_2.out A70.out).mono ?_; rintro e w71 ⟨rfl, hy0, hb, hkp⟩; refine ⟨_, rfl, ?_⟩; replace HOj34_1_0 := am (Kd.R_kept HOj34_1_0.out hkp (fun k_ hk_ hs_ => Rg_no hk_.1 hs_.1 (by omega))); replace HOj34_3_0 := am (Kd.R_kept HOj34_3_0.out hkp (fun k_ hk_ hs_ => Rg_no hk_.1 hs_.1 (by omega))); replace HOj34_7_0 := am (Kd.R_kept HOj34_7_0.out hkp (fun k_ hk_ hs_ => Rg_no hk_.1 hs_.1 (by omega))); replace HO37_0 := am (Kd.R_kept HO37_0.out hkp (fun k_ hk_ hs_ => Rg_no hk_.1 hs_.1 (by omega))); replace HO39_0 := am (Kd.R_kept HO39_0.out hkp (fun k_ hk_ hs_ => Rg_no hk_.1 hs_.1 (by omega))); replace HO43_2 := am (hy0); replace HO50_0 := am (Kd.R_kept HO50_0.out hkp (fun k_ hk_ hs_ => Rg_no hk_.1 hs_.1 (by omega))); replace HO57_0 := am (Kd.R_kept HO57_0.out hkp (fun k_ hk_ hs_ => Rg_no hk_.1 hs_.1 (by omega))); replace BKgb1 := am (blk_kept (g := gb1) BKgb1.out hkp (fun hs_ => Rg_ne hs_.1 (by omega) rfl)); replace BKgb35 := am (blk_kept (g := gb35) BKgb35.out hkp (fun hs_ => Rg_ne hs_.1 (by omega) rfl)); replace BKgb41 := am (blk_kept (g := gb41) BKgb41.out hkp (fun hs_ => Rg_ne hs_.1 (by omega) rfl)); replace BKgb45 := am (blk_kept (g := gb45) BKgb45.out hkp (fun hs_ => Rg_ne hs_.1 (by omega) rfl)); replace HB := am (hb); replace HZ := am (Nat.le_trans HZ.out hkp.1); clear hb hkp hy0; clear hcgb1_0 hfgb1_0 hcgb1_1 hfgb1_1 hcgb1_2 hfgb1_2 hcgb35_0 hfgb35_0 hcgb35_1 hfgb35_1 hcgb35_2 hfgb35_2 hcgb35_3 hfgb35_3 hcgb35_4 hfgb35_4 hcgb35_5 hfgb35_5 hcgb35_6 hfgb35_6 hcgb35_7 hfgb35_7 hcgb35_8 hfgb35_8 hcgb41_0 hfgb41_0 hcgb41_1 hfgb41_1 hcgb41_2 hfgb41_2 hcgb45_0 hfgb45_0 hcgb45_1 hfgb45_1 hcgb45_2 hfgb45_2 hcgb45_3 hfgb45_3 hcgb45_4 hfgb45_4 hcgb45_5 hfgb45_5 hcgb45_6 hfgb45_6 hcgb45_7 hfgb45_7 hcgb45_8 hfgb45_8; have hcgb1_0 : w71.cell? ⟨gb1, 0, none⟩ = some (.slice A1_0 l1_0.length c1_0) := bc BKgb1.out 0; have hfgb1_0 := blk_frozen BKgb1.out 0; have hcgb1_1 : w71.cell? ⟨gb1, 1, none⟩ = some (.int .i64 a1_1) := bc BKgb1.out 1; have hfgb1_1 := blk_frozen BKgb1.out 1; have hcgb1_2 : w71.cell? ⟨gb1, 2, none⟩ = some (.int .i64 a1_2) := bc BKgb1.out 2; have hfgb1_2 := blk_frozen BKgb1.out 2; have hcgb35_0 : w71.cell? ⟨gb35, 0, none⟩ = some (.int .i64 t12_0) := bc BKgb35.out 0; have hfgb35_0 := blk_frozen BKgb35.out 0; have hcgb35_1 : w71.cell? ⟨gb35, 1, none⟩ = some (.int .i64 t12_1) := bc BKgb35.out 1; have hfgb35_1 := blk_frozen BKgb35.out 1; have hcgb35_2 : w71.cell? ⟨gb35, 2, none⟩ = some (.slice Aoj34_7_0 t12_2.length coj34_7_0) := bc BKgb35.out 2; have hfgb35_2 := blk_frozen BKgb35.out 2; have hcgb35_3 : w71.cell? ⟨gb35, 3, none⟩ = some (.int .i64 t12_3) := bc BKgb35.out 3; have hfgb35_3 := blk_frozen BKgb35.out 3; have hcgb35_4 : w71.cell? ⟨gb35, 4, none⟩ = some (.int .i64 t12_4) := bc BKgb35.out 4; have hfgb35_4 := blk_frozen BKgb35.out 4; have hcgb35_5 : w71.cell? ⟨gb35, 5, none⟩ = some (.bool t12_5) := bc BKgb35.out 5; have hfgb35_5 := blk_frozen BKgb35.out 5; have hcgb35_6 : w71.cell? ⟨gb35, 6, none⟩ = some (.int .i64 t12_6) := bc BKgb35.out 6; have hfgb35_6 := blk_frozen BKgb35.out 6; have hcgb35_7 : w71.cell? ⟨gb35, 7, none⟩ = some (.int .i64 t12_7) := bc BKgb35.out 7; have hfgb35_7 := blk_frozen BKgb35.out 7; have hcgb35_8 : w71.cell? ⟨gb35, 8, none⟩ = some (.int .i64 t12_8) := bc BKgb35.out 8; have hfgb35_8 := blk_frozen BKgb35.out 8; have hcgb41_0 : w71.cell? ⟨gb41, 0, none⟩ = some (.slice Ao39_0 t39_0.length co39_0) := bc BKgb41.out 0; have hfgb41_0 := blk_frozen BKgb41.out 0; have hcgb41_1 : w71.cell? ⟨gb41, 1, none⟩ = some (.int .i64 t39_1) := bc BKgb41.out 1; have hfgb41_1 := blk_frozen BKgb41.out 1; have hcgb41_2 : w71.cell? ⟨gb41, 2, none⟩ = some (.int .i64 t39_2) := bc BKgb41.out 2; have hfgb41_2 := blk_frozen BKgb41.out 2; have hcgb45_0 : w71.cell? ⟨gb45, 0, none⟩ = some (.int .i64 t43_0) := bc BKgb45.out 0; have hfgb45_0 := blk_frozen BKgb45.out 0; have hcgb45_1 : w71.cell? ⟨gb45, 1, none⟩ = some (.int .i64 t43_1) := bc BKgb45.out 1; have hfgb45_1 := blk_frozen BKgb45.out 1; have hcgb45_2 : w71.cell? ⟨gb45, 2, none⟩ = some (.slice Ao43_2 t43_2.length co43_2) := bc BKgb45.out 2; have hfgb45_2 := blk_frozen BKgb45.out 2; have hcgb45_3 : w71.cell? ⟨gb45, 3, none⟩ = some (.int .i64 t43_3) := bc BKgb45.out 3; have hfgb45_3 := blk_frozen BKgb45.out 3; have hcgb45_4 : w71.cell? ⟨gb45, 4, none⟩ = some (.int .i64 t43_4) := bc BKgb45.out 4; have hfgb45_4 := blk_frozen BKgb45.out 4; have hcgb45_5 : w71.cell? ⟨gb45, 5, none⟩ = some (.bool t43_5) := bc BKgb45.out 5; have hfgb45_5 := blk_frozen BKgb45.out 5; have hcgb45_6 : w71.cell? ⟨gb45, 6, none⟩ = some (.int .i64 t43_6) := bc BKgb45.out 6; have hfgb45_6 := blk_frozen BKgb45.out 6; have hcgb45_7 : w71.cell? ⟨gb45, 7, none⟩ = some (.int .i64 t43_7) := bc BKgb45.out 7; have hfgb45_7 := blk_frozen BKgb45.out 7; have hcgb45_8 : w71.cell? ⟨gb45, 8, none⟩ = some (.int .i64 t43_8) := bc BKgb45.out 8; have hfgb45_8 := blk_frozen BKgb45.out 8; have HL70_0 := am (Kd.S_reads' HO43_2.out).1) | ((with_reducible refine gate_callee (f := 20) rfl ?_); refine gl (some 79) Try.func20 #[.agg #[.int .i64 t43_0, .int .i64 t43_1, .slice Ao43_2 t43_2.length co43_2, .int .i64 t43_3, .int .i64 t43_4, .bool t43_5, .int .i64 t43_6, .int .i64 t43_7, .int .i64 t43_8], .int .i64 1] ?_; refine calls_of_args (args' := #[.agg #[.int .i64 t43_0, .int .i64 t43_1, .slice Ao43_2 t70_0.length co43_2, .int .i64 t43_3, .int .i64 t43_4, .bool t43_5, .int .i64 t43_6, .int .i64 t43_7, .int .i64 t43_8], .int .i64 1]) (by simp only [HL70_0.out]) ?_; (with_reducible refine (laws_heldView.calls k t43_0 t43_1 _ _ t70_0 t43_3 t43_4 t43_5 t43_6 t43_7 t43_8 1 t72 _ ?s0 ?s1 A72.out).mono ?_); (case s0 => exact (Kd.S_reads' HO43_2.out).2.2); (case s1 => exact (fun h_ => h_.1 ▸ h_.2.1) (Kd.S_reads' HO43_2.out)); rintro e w73 ⟨rfl, hb⟩; refine ⟨_, rfl, ?_⟩; obtain ⟨na72, nb72, ha_, hz_, hab72⟩ := nxt_ hb; have hn72 : nb66 ≤ na72 := (by rw [ha_]; exact HZ.out); replace HOj34_1_0 := am (Kd.R_below HOj34_1_0.out hb); replace HOj34_3_0 := am (Kd.R_below HOj34_3_0.out hb); replace HOj34_7_0 := am (Kd.R_below HOj34_7_0.out hb); replace HO37_0 := am (Kd.R_below HO37_0.out hb); replace HO39_0 := am (Kd.R_below HO39_0.out hb); replace HO43_2 := am (Kd.S_below HO43_2.out hb); replace HO50_0 := am (Kd.R_below HO50_0.out hb); replace HO57_0 := am (Kd.R_below HO57_0.out hb); replace BKgb1 := am (blk_below BKgb1.out hb); replace BKgb35 := am (blk_below BKgb35.out hb); replace BKgb41 := am (blk_below BKgb41.out hb); replace BKgb45 := am (blk_below BKgb45.out hb); replace HB := am (below_step HB.out hb); replace HZ := am (Nat.le_of_eq hz_); clear hb ha_ hz_ ; clear hcgb1_0 hfgb1_0 hcgb1_1 hfgb1_1 hcgb1_2 hfgb1_2 hcgb35_0 hfgb35_0 hcgb35_1 hfgb35_1 hcgb35_2 hfgb35_2 hcgb35_3 hfgb35_3 hcgb35_4 hfgb35_4 hcgb35_5 hfgb35_5 hcgb35_6 hfgb35_6 hcgb35_7 hfgb35_7 hcgb35_8 hfgb35_8 hcgb41_0 hfgb41_0 hcgb41_1 hfgb41_1 hcgb41_2 hfgb41_2 hcgb45_0 hfgb45_0 hcgb45_1 hfgb45_1 hcgb45_2 hfgb45_2 hcgb45_3 hfgb45_3 hcgb45_4 hfgb45_4 hcgb45_5 hfgb45_5 hcgb45_6 hfgb45_6 hcgb45_7 hfgb45_7 hcgb45_8 hfgb45_8; have hcgb1_0 : w73.cell? ⟨gb1, 0, none⟩ = some (.slice A1_0 l1_0.length c1_0) := bc BKgb1.out 0; have hfgb1_0 := blk_frozen BKgb1.out 0; have hcgb1_1 : w73.cell? ⟨gb1, 1, none⟩ = some (.int .i64 a1_1) := bc BKgb1.out 1; have hfgb1_1 := blk_frozen BKgb1.out 1; have hcgb1_2 : w73.cell? ⟨gb1, 2, none⟩ = some (.int .i64 a1_2) := bc BKgb1.out 2; have hfgb1_2 := blk_frozen BKgb1.out 2; have hcgb35_0 : w73.cell? ⟨gb35, 0, none⟩ = some (.int .i64 t12_0) := bc BKgb35.out 0; have hfgb35_0 := blk_frozen BKgb35.out 0; have hcgb35_1 : w73.cell? ⟨gb35, 1, none⟩ = some (.int .i64 t12_1) := bc BKgb35.out 1; have hfgb35_1 := blk_frozen BKgb35.out 1; have hcgb35_2 : w73.cell? ⟨gb35, 2, none⟩ = some (.slice Aoj34_7_0 t12_2.length coj34_7_0) := bc BKgb35.out 2; have hfgb35_2 := blk_frozen BKgb35.out 2; have hcgb35_3 : w73.cell? ⟨gb35, 3, none⟩ = some (.int .i64 t12_3) := bc BKgb35.out 3; have hfgb35_3 := blk_frozen BKgb35.out 3; have hcgb35_4 : w73.cell? ⟨gb35, 4, none⟩ = some (.int .i64 t12_4) := bc BKgb35.out 4; have hfgb35_4 := blk_frozen BKgb35.out 4; have hcgb35_5 : w73.cell? ⟨gb35, 5, none⟩ = some (.bool t12_5) := bc BKgb35.out 5; have hfgb35_5 := blk_frozen BKgb35.out 5; have hcgb35_6 : w73.cell? ⟨gb35, 6, none⟩ = some (.int .i64 t12_6) := bc BKgb35.out 6; have hfgb35_6 := blk_frozen BKgb35.out 6; have hcgb35_7 : w73.cell? ⟨gb35, 7, none⟩ = some (.int .i64 t12_7) := bc BKgb35.out 7; have hfgb35_7 := blk_frozen BKgb35.out 7; have hcgb35_8 : w73.cell? ⟨gb35, 8, none⟩ = some (.int .i64 t12_8) := bc BKgb35.out 8; have hfgb35_8 := blk_frozen BKgb35.out 8; have hcgb41_0 : w73.cell? ⟨gb41, 0, none⟩ = some (.slice Ao39_0 t39_0.length co39_0) := bc BKgb41.out 0; have hfgb41_0 := blk_frozen BKgb41.out 0; have hcgb41_1 : w73.cell? ⟨gb41, 1, none⟩ = some (.int .i64 t39_1) := bc BKgb41.out 1; have hfgb41_1 := blk_frozen BKgb41.out 1; have hcgb41_2 : w73.cell? ⟨gb41, 2, none⟩ = some (.int .i64 t39_2) := bc BKgb41.out 2; have hfgb41_2 := blk_frozen BKgb41.out 2; have hcgb45_0 : w73.cell? ⟨gb45, 0, none⟩ = some (.int .i64 t43_0) := bc BKgb45.out 0; have hfgb45_0 := blk_frozen BKgb45.out 0; have hcgb45_1 : w73.cell? ⟨gb45, 1, none⟩ = some (.int .i64 t43_1) := bc BKgb45.out 1; have hfgb45_1 := blk_frozen BKgb45.out 1; have hcgb45_2 : w73.cell? ⟨gb45, 2, none⟩ = some (.slice Ao43_2 t43_2.length co43_2) := bc BKgb45.out 2; have hfgb45_2 := blk_frozen BKgb45.out 2; have hcgb45_3 : w73.cell? ⟨gb45, 3, none⟩ = some (.int .i64 t43_3) := bc BKgb45.out 3; have hfgb45_3 := blk_frozen BKgb45.out 3; have hcgb45_4 : w73.cell? ⟨gb45, 4, none⟩ = some (.int .i64 t43_4) := bc BKgb45.out 4; have hfgb45_4 := blk_frozen BKgb45.out 4; have hcgb45_5 : w73.cell? ⟨gb45, 5, none⟩ = some (.bool t43_5) := bc BKgb45.out 5; have hfgb45_5 := blk_frozen BKgb45.out 5; have hcgb45_6 : w73.cell? ⟨gb45, 6, none⟩ = some (.int .i64 t43_6) := bc BKgb45.out 6; have hfgb45_6 := blk_frozen BKgb45.out 6; have hcgb45_7 : w73.cell? ⟨gb45, 7, none⟩ = some (.int .i64 t43_7) := bc BKgb45.out 7; have hfgb45_7 := blk_frozen BKgb45.out 7; have hcgb45_8 : w73.cell? ⟨gb45, 8, none⟩ = some (.int .i64 t43_8) := bc BKgb45.out 8; have hfgb45_8 := blk_frozen BKgb45.out 8))
   try go_wp2
   replace HOj34_1_0 := am (Kd.R_drew HOj34_1_0.out)
   replace HOj34_3_0 := am (Kd.R_drew HOj34_3_0.out)
   replace HOj34_7_0 := am (Kd.R_drew HOj34_7_0.out)
   replace HO37_0 := am (Kd.R_drew HO37_0.out)
   replace HO39_0 := am (Kd.R_drew HO39_0.out)
   replace HO43_2 := am (Kd.S_drew HO43_2.out)
   replace HO50_0 := am (Kd.R_drew HO50_0.out)
   replace HO57_0 := am (Kd.R_drew HO57_0.out)
   replace BKgb1 := am (blk_drew BKgb1.out)
   replace BKgb35 := am (blk_drew BKgb35.out)
   replace BKgb41 := am (blk_drew BKgb41.out)
   replace BKgb45 := am (blk_drew BKgb45.out)
   replace HB := am (below_drew1 HB.out)
   refine start_ (n := 10) (S := fun w' => w'.cell? ⟨gb1, 0, none⟩ = some (.slice A1_0 l1_0.length c1_0) ∧ w'.cell? ⟨gb1, 1, none⟩ = some (.int .i64 a1_1) ∧ w'.cell? ⟨gb1, 2, none⟩ = some (.int .i64 a1_2) ∧ w'.cell? ⟨gb35, 0, none⟩ = some (.int .i64 t12_0) ∧ w'.cell? ⟨gb35, 1, none⟩ = some (.int .i64 t12_1) ∧ w'.cell? ⟨gb35, 2, none⟩ = some (.slice Aoj34_7_0 t12_2.length coj34_7_0) ∧ w'.cell? ⟨gb35, 3, none⟩ = some (.int .i64 t12_3) ∧ w'.cell? ⟨gb35, 4, none⟩ = some (.int .i64 t12_4) ∧ w'.cell? ⟨gb35, 5, none⟩ = some (.bool t12_5) ∧ w'.cell? ⟨gb35, 6, none⟩ = some (.int .i64 t12_6) ∧ w'.cell? ⟨gb35, 7, none⟩ = some (.int .i64 t12_7) ∧ w'.cell? ⟨gb35, 8, none⟩ = some (.int .i64 t12_8) ∧ w'.cell? ⟨gb41, 0, none⟩ = some (.slice Ao39_0 t39_0.length co39_0) ∧ w'.cell? ⟨gb41, 1, none⟩ = some (.int .i64 t39_1) ∧ w'.cell? ⟨gb41, 2, none⟩ = some (.int .i64 t39_2) ∧ w'.cell? ⟨gb45, 0, none⟩ = some (.int .i64 t43_0) ∧ w'.cell? ⟨gb45, 1, none⟩ = some (.int .i64 t43_1) ∧ w'.cell? ⟨gb45, 2, none⟩ = some (.slice Ao43_2 t43_2.length co43_2) ∧ w'.cell? ⟨gb45, 3, none⟩ = some (.int .i64 t43_3) ∧ w'.cell? ⟨gb45, 4, none⟩ = some (.int .i64 t43_4) ∧ w'.cell? ⟨gb45, 5, none⟩ = some (.bool t43_5) ∧ w'.cell? ⟨gb45, 6, none⟩ = some (.int .i64 t43_6) ∧ w'.cell? ⟨gb45, 7, none⟩ = some (.int .i64 t43_7) ∧ w'.cell? ⟨gb45, 8, none⟩ = some (.int .i64 t43_8)) (ds := []) #[false, false, false, false, false, false, false, false, false, false] (by kernel_rfl) rfl rfl ⟨bc BKgb1.out 0, bc BKgb1.out 1, bc BKgb1.out 2, bc BKgb35.out 0, bc BKgb35.out 1, bc BKgb35.out 2, bc BKgb35.out 3, bc BKgb35.out 4, bc BKgb35.out 5, bc BKgb35.out 6, bc BKgb35.out 7, bc BKgb35.out 8, bc BKgb41.out 0, bc BKgb41.out 1, bc BKgb41.out 2, bc BKgb45.out 0, bc BKgb45.out 1, bc BKgb45.out 2, bc BKgb45.out 3, bc BKgb45.out 4, bc BKgb45.out 5, bc BKgb45.out 6, bc BKgb45.out 7, bc BKgb45.out 8⟩ (fun hHeld => ?_)
   have HZ2 := am (show nb72 ≤ (w73.drew).heap.size from HZ.out)
   clear HZ
   have HZ := HZ2
   clear HZ2
   generalize w73.drew = w76 at HOj34_1_0 HOj34_3_0 HOj34_7_0 HO37_0 HO39_0 HO43_2 HO50_0 HO57_0 BKgb1 BKgb35 BKgb41 BKgb45 HB HZ hHeld ⊢
   refine pure_ (i := 0) (N := some 85) (v := ?_) (a' := ?_) #[true, false, false, false, false, false, false, false, false, false] rfl rfl (by kernel_rfl) (fun _ _ _ h => h) (Or.inl ⟨by rfl, ?_⟩) ?_ ?_; rotate_left
   ·intro w'; go_simp; with_reducible rfl
   rotate_left
   ·simp only [Act.put, sa_, s0_, ss_, i64_w, i32_w]; rfl
   refine take_ (i := 2) (N := some 87) (v := ?_) (a' := ?_) #[true, false, true, false, false, false, false, false, false, false] rfl rfl (by kernel_rfl) (fun _ _ _ h => h) (Or.inl ⟨by rfl, ?_⟩) hHeld ?_ ?_; rotate_left
   ·rintro w' ⟨s0, s1, s2, s3, s4, s5, s6, s7, s8, s9, s10, s11, s12, s13, s14, s15, s16, s17, s18, s19, s20, s21, s22, s23⟩; go_simp; with_reducible rfl
   rotate_left
   ·simp only [Act.put, sa_, s0_, ss_, i64_w, i32_w]; rfl
   refine pure_ (i := 4) (N := some 89) (v := ?_) (a' := ?_) #[true, false, true, false, true, false, false, false, false, false] rfl rfl (by kernel_rfl) (fun _ _ _ h => h) (Or.inl ⟨by rfl, ?_⟩) ?_ ?_; rotate_left
   ·intro w'; go_simp; with_reducible rfl
   rotate_left
   ·simp only [Act.put, sa_, s0_, ss_, i64_w, i32_w]; rfl
   refine pure_ (i := 5) (N := some 90) (v := ?_) (a' := ?_) #[true, false, true, false, true, true, false, false, false, false] rfl rfl (by kernel_rfl) (fun _ _ _ h => h) (Or.inl ⟨by rfl, ?_⟩) ?_ ?_; rotate_left
   ·intro w'; go_simp; with_reducible rfl
   rotate_left
   ·simp only [Act.put, sa_, s0_, ss_, i64_w, i32_w]; rfl
   refine pure_ (i := 6) (N := some 91) (v := ?_) (a' := ?_) #[true, false, true, false, true, true, true, false, false, false] rfl rfl (by kernel_rfl) (fun _ _ _ h => h) (Or.inl ⟨by rfl, ?_⟩) ?_ ?_; rotate_left
   ·intro w'; go_simp; with_reducible rfl
   rotate_left
   ·simp only [Act.put, sa_, s0_, ss_, i64_w, i32_w]; rfl
   refine join_ (σ := Value × Value × Value × Nat × Nat × Nat × Nat × Nat × Nat × Nat × Nat) 1 #[true, true, true, true, true, true, true, true, true, false] (fun s_ => [(86, s_.1), (88, .agg #[s_.2.1, .int .i64 t79_1, .int .i64 t79_2]), (92, .agg #[.int .i64 t81_0, .int .i64 t81_1, s_.2.2.1, .int .i64 t81_3, .int .i64 t81_4, .bool t81_5, .int .i64 t81_6, .int .i64 t81_7, .int .i64 t81_8]), (19, .pointer (some ⟨s_.2.2.2.1, 0, none⟩))]) (fun s_ w' => (w'.cell? ⟨gb1, 0, none⟩ = some (.slice A1_0 l1_0.length c1_0) ∧ w'.cell? ⟨gb1, 1, none⟩ = some (.int .i64 a1_1) ∧ w'.cell? ⟨gb1, 2, none⟩ = some (.int .i64 a1_2) ∧ w'.cell? ⟨gb35, 0, none⟩ = some (.int .i64 t12_0) ∧ w'.cell? ⟨gb35, 1, none⟩ = some (.int .i64 t12_1) ∧ w'.cell? ⟨gb35, 2, none⟩ = some (.slice Aoj34_7_0 t12_2.length coj34_7_0) ∧ w'.cell? ⟨gb35, 3, none⟩ = some (.int .i64 t12_3) ∧ w'.cell? ⟨gb35, 4, none⟩ = some (.int .i64 t12_4) ∧ w'.cell? ⟨gb35, 5, none⟩ = some (.bool t12_5) ∧ w'.cell? ⟨gb35, 6, none⟩ = some (.int .i64 t12_6) ∧ w'.cell? ⟨gb35, 7, none⟩ = some (.int .i64 t12_7) ∧ w'.cell? ⟨gb35, 8, none⟩ = some (.int .i64 t12_8) ∧ w'.cell? ⟨gb41, 0, none⟩ = some (.slice Ao39_0 t39_0.length co39_0) ∧ w'.cell? ⟨gb41, 1, none⟩ = some (.int .i64 t39_1) ∧ w'.cell? ⟨gb41, 2, none⟩ = some (.int .i64 t39_2) ∧ w'.cell? ⟨gb45, 0, none⟩ = some (.int .i64 t43_0) ∧ w'.cell? ⟨gb45, 1, none⟩ = some (.int .i64 t43_1) ∧ w'.cell? ⟨gb45, 2, none⟩ = some (.slice Ao43_2 t43_2.length co43_2) ∧ w'.cell? ⟨gb45, 3, none⟩ = some (.int .i64 t43_3) ∧ w'.cell? ⟨gb45, 4, none⟩ = some (.int .i64 t43_4) ∧ w'.cell? ⟨gb45, 5, none⟩ = some (.bool t43_5) ∧ w'.cell? ⟨gb45, 6, none⟩ = some (.int .i64 t43_6) ∧ w'.cell? ⟨gb45, 7, none⟩ = some (.int .i64 t43_7) ∧ w'.cell? ⟨gb45, 8, none⟩ = some (.int .i64 t43_8)) ∧ (∃ T_ : Nat → Prop, Kd.R (Kd.int .i64) 2 w' w.heap.size (fun k_ => Rg nj34_0 mj34_0 k_ ∧ T_ k_) (.slice Aoj34_1_0 t8.length coj34_1_0) t8) ∧ (∃ T_ : Nat → Prop, Kd.R (Kd.int .i64) 2 w' w.heap.size (fun k_ => Rg nj34_1 mj34_1 k_ ∧ T_ k_) (.slice Aoj34_3_0 t10_0.length coj34_3_0) t10_0) ∧ (∃ T_ : Nat → Prop, Kd.R k75 75 w' w.heap.size (fun k_ => Rg nj34_2 mj34_2 k_ ∧ T_ k_) (.slice Aoj34_7_0 t12_2.length coj34_7_0) t12_2) ∧ (∃ T_ : Nat → Prop, Kd.R (Kd.int .i64) 2 w' w.heap.size (fun k_ => Rg na37 nb37 k_ ∧ T_ k_) (.slice Ao37_0 t37.length co37_0) t62_0) ∧ (∃ T_ : Nat → Prop, Kd.R (Kd.int .i64) 2 w' w.heap.size (fun k_ => Rg na39 nb39 k_ ∧ T_ k_) (.slice Ao39_0 t39_0.length co39_0) t64_0) ∧ (∃ T_ : Nat → Prop, Kd.S k75 75 w' w.heap.size (fun k_ => Rg na43 nb43 k_ ∧ T_ k_) (.slice Ao43_2 t43_2.length co43_2) t70_0) ∧ (∃ T_ : Nat → Prop, Kd.R (Kd.int .i64) 2 w' w.heap.size (fun k_ => Rg na50 nb50 k_ ∧ T_ k_) (.slice Ao50_0 t50.length co50_0) t50) ∧ (∃ T_ : Nat → Prop, Kd.R (Kd.int .i64) 2 w' w.heap.size (fun k_ => Rg na57 nb57 k_ ∧ T_ k_) (.slice Ao57_0 t57_0.length co57_0) t57_0) ∧ (∃ T_ : Nat → Prop, Kd.R (Kd.int .i64) 2 w' w.heap.size (fun k_ => Rg s_.2.2.2.2.1 s_.2.2.2.2.2.1 k_ ∧ T_ k_) s_.1 t77) ∧ (∃ T_ : Nat → Prop, Kd.R (Kd.int .i64) 2 w' w.heap.size (fun k_ => Rg s_.2.2.2.2.2.2.1 s_.2.2.2.2.2.2.2.1 k_ ∧ T_ k_) s_.2.1 t79_0) ∧ (∃ T_ : Nat → Prop, Kd.S k75 75 w' w.heap.size (fun k_ => Rg s_.2.2.2.2.2.2.2.2.1 s_.2.2.2.2.2.2.2.2.2.1 k_ ∧ T_ k_) s_.2.2.1 t81_2) ∧ (w'.heap[gb1]? = some (.cells #[.slice A1_0 l1_0.length c1_0, .int .i64 a1_1, .int .i64 a1_2] 24 (0, 0))) ∧ (w'.heap[gb35]? = some (.cells #[.int .i64 t12_0, .int .i64 t12_1, .slice Aoj34_7_0 t12_2.length coj34_7_0, .int .i64 t12_3, .int .i64 t12_4, .bool t12_5, .int .i64 t12_6, .int .i64 t12_7, .int .i64 t12_8] 30 (0, 0))) ∧ (w'.heap[gb41]? = some (.cells #[.slice Ao39_0 t39_0.length co39_0, .int .i64 t39_1, .int .i64 t39_2] 33 (0, 0))) ∧ (w'.heap[gb45]? = some (.cells #[.int .i64 t43_0, .int .i64 t43_1, .slice Ao43_2 t43_2.length co43_2, .int .i64 t43_3, .int .i64 t43_4, .bool t43_5, .int .i64 t43_6, .int .i64 t43_7, .int .i64 t43_8] 30 (0, 0))) ∧ (w'.heap[s_.2.2.2.1]? = some (.cells #[.int .i64 0, .int .i64 0, .slice none 0 0, .int .i64 0, .int .i64 0, .bool false, .int .i64 0, .int .i64 0, .int .i64 0] 30 (0, 0))) ∧ (Below w.heap.size w w') ∧ (s_.2.2.2.2.2.2.2.2.2.2 ≤ w'.heap.size) ∧ (w.heap.size ≤ s_.2.2.2.1) ∧ (nb72 ≤ s_.2.2.2.1 ∧ s_.2.2.2.1 < s_.2.2.2.2.2.2.2.2.2.2) ∧ (nb72 ≤ s_.2.2.2.2.1 ∧ s_.2.2.2.2.1 ≤ s_.2.2.2.2.2.1 ∧ (s_.2.2.2.1 < s_.2.2.2.2.1 ∨ s_.2.2.2.2.2.1 ≤ s_.2.2.2.1)) ∧ (s_.2.2.2.2.2.1 ≤ s_.2.2.2.2.2.2.1 ∧ s_.2.2.2.2.2.2.1 ≤ s_.2.2.2.2.2.2.2.1 ∧ (s_.2.2.2.1 < s_.2.2.2.2.2.2.1 ∨ s_.2.2.2.2.2.2.2.1 ≤ s_.2.2.2.1)) ∧ (s_.2.2.2.2.2.2.2.1 ≤ s_.2.2.2.2.2.2.2.2.1 ∧ s_.2.2.2.2.2.2.2.2.1 ≤ s_.2.2.2.2.2.2.2.2.2.1 ∧ (s_.2.2.2.1 < s_.2.2.2.2.2.2.2.2.1 ∨ s_.2.2.2.2.2.2.2.2.2.1 ≤ s_.2.2.2.1)) ∧ (s_.2.2.2.2.2.2.2.2.2.1 ≤ s_.2.2.2.2.2.2.2.2.2.2)) ?_ ?_
   rotate_left
   ·intro hJ
    refine two_ (i := 1) (j := 8) (Ni := some 86) (Nj := some 19) #[true, true, true, false, true, true, true, false, false, false] #[true, false, true, false, true, true, true, false, true, false] rfl rfl rfl rfl (by kernel_rfl) (by decide) (by decide) (fun K hK => ?_) (fun K hK => ?_)
    ·skip
     refine gs_ Try.func11 #[.slice A0 l0.length c0] ?_
     (with_reducible refine (laws_toInt64S.calls k _ _ l0 t77 _ ?s0 ?s1 A77.out).mono ?_)
     (case s0 => exact (Kd.C_below HR0.out HB.out))
     (case s1 => exact HC0.out)
     rintro e w78 ⟨v77_0, rfl, ho0, hb⟩
     refine ⟨_, rfl, ?_⟩
     obtain ⟨na77, nb77, ha_, hz_, hab77⟩ := nxt_ hb
     have hn77 : nb72 ≤ na77 := (by rw [ha_]; exact HZ.out)
     replace HOj34_1_0 := am (Kd.R_below HOj34_1_0.out hb)
     replace HOj34_3_0 := am (Kd.R_below HOj34_3_0.out hb)
     replace HOj34_7_0 := am (Kd.R_below HOj34_7_0.out hb)
     replace HO37_0 := am (Kd.R_below HO37_0.out hb)
     replace HO39_0 := am (Kd.R_below HO39_0.out hb)
     replace HO43_2 := am (Kd.S_below HO43_2.out hb)
     replace HO50_0 := am (Kd.R_below HO50_0.out hb)
     replace HO57_0 := am (Kd.R_below HO57_0.out hb)
     replace BKgb1 := am (blk_below BKgb1.out hb)
     replace BKgb35 := am (blk_below BKgb35.out hb)
     replace BKgb41 := am (blk_below BKgb41.out hb)
     replace BKgb45 := am (blk_below BKgb45.out hb)
     have HO77_0 := am (R_rg ha_ hz_ (below_size HB.out) ho0)
     replace HB := am (below_step HB.out hb)
     replace HZ := am (Nat.le_of_eq hz_)
     clear hb ha_ hz_ ho0
     obtain ⟨Ao77_0, co77_0, eo77_0⟩ := Kd.R_slice HO77_0.out
     subst eo77_0
     refine hK.out _ _ ⟨bc BKgb1.out 0, bc BKgb1.out 1, bc BKgb1.out 2, bc BKgb35.out 0, bc BKgb35.out 1, bc BKgb35.out 2, bc BKgb35.out 3, bc BKgb35.out 4, bc BKgb35.out 5, bc BKgb35.out 6, bc BKgb35.out 7, bc BKgb35.out 8, bc BKgb41.out 0, bc BKgb41.out 1, bc BKgb41.out 2, bc BKgb45.out 0, bc BKgb45.out 1, bc BKgb45.out 2, bc BKgb45.out 3, bc BKgb45.out 4, bc BKgb45.out 5, bc BKgb45.out 6, bc BKgb45.out 7, bc BKgb45.out 8⟩ (fun hHeld => ?_)
     clear hK K
     refine norm_ (a' := ?_) ?_ ?_
     rotate_left
     ·show Act.put _ (some 86) _ = _; simp only [Act.put, sa_, s0_, ss_, i64_w, i32_w]; rfl
     refine two_ (i := 3) (j := 8) (Ni := some 88) (Nj := some 19) #[true, true, true, true, true, true, true, false, false, false] #[true, true, true, false, true, true, true, false, true, false] rfl rfl rfl rfl (by kernel_rfl) (by decide) (by decide) (fun K hK => ?_) (fun K hK => ?_)
     ·skip
      refine gs_ Try.func12 #[.agg #[.slice A1_0 l1_0.length c1_0, .int .i64 a1_1, .int .i64 a1_2]] ?_
      (with_reducible refine (laws_toBuf.calls k _ _ l1_0 a1_1 a1_2 t79_0 t79_1 t79_2 _ ?s0 ?s1 A79.out).mono ?_)
      (case s0 => exact (Kd.C_below HR1_0.out HB.out))
      (case s1 => exact HC1_0.out)
      rintro e w80 ⟨v79_0, rfl, ho0, hb⟩
      refine ⟨_, rfl, ?_⟩
      obtain ⟨na79, nb79, ha_, hz_, hab79⟩ := nxt_ hb
      have hn79 : nb77 ≤ na79 := (by rw [ha_]; exact HZ.out)
      replace HOj34_1_0 := am (Kd.R_below HOj34_1_0.out hb)
      replace HOj34_3_0 := am (Kd.R_below HOj34_3_0.out hb)
      replace HOj34_7_0 := am (Kd.R_below HOj34_7_0.out hb)
      replace HO37_0 := am (Kd.R_below HO37_0.out hb)
      replace HO39_0 := am (Kd.R_below HO39_0.out hb)
      replace HO43_2 := am (Kd.S_below HO43_2.out hb)
      replace HO50_0 := am (Kd.R_below HO50_0.out hb)
      replace HO57_0 := am (Kd.R_below HO57_0.out hb)
      replace HO77_0 := am (Kd.R_below HO77_0.out hb)
      replace BKgb1 := am (blk_below BKgb1.out hb)
      replace BKgb35 := am (blk_below BKgb35.out hb)
      replace BKgb41 := am (blk_below BKgb41.out hb)
      replace BKgb45 := am (blk_below BKgb45.out hb)
      have HO79_0 := am (R_rg ha_ hz_ (below_size HB.out) ho0)
      replace HB := am (below_step HB.out hb)
      replace HZ := am (Nat.le_of_eq hz_)
      clear hb ha_ hz_ ho0
      obtain ⟨Ao79_0, co79_0, eo79_0⟩ := Kd.R_slice HO79_0.out
      subst eo79_0
      refine hK.out _ _ ⟨bc BKgb1.out 0, bc BKgb1.out 1, bc BKgb1.out 2, bc BKgb35.out 0, bc BKgb35.out 1, bc BKgb35.out 2, bc BKgb35.out 3, bc BKgb35.out 4, bc BKgb35.out 5, bc BKgb35.out 6, bc BKgb35.out 7, bc BKgb35.out 8, bc BKgb41.out 0, bc BKgb41.out 1, bc BKgb41.out 2, bc BKgb45.out 0, bc BKgb45.out 1, bc BKgb45.out 2, bc BKgb45.out 3, bc BKgb45.out 4, bc BKgb45.out 5, bc BKgb45.out 6, bc BKgb45.out 7, bc BKgb45.out 8⟩ (fun hHeld => ?_)
      clear hK K
      refine norm_ (a' := ?_) ?_ ?_
      rotate_left
      ·show Act.put _ (some 88) _ = _; simp only [Act.put, sa_, s0_, ss_, i64_w, i32_w]; rfl
      refine two_ (i := 7) (j := 8) (Ni := some 92) (Nj := some 19) #[true, true, true, true, true, true, true, true, false, false] #[true, true, true, true, true, true, true, false, true, false] rfl rfl rfl rfl (by kernel_rfl) (by decide) (by decide) (fun K hK => ?_) (fun K hK => ?_)
      ·skip
       refine gs_ Try.func13 #[.slice Ao77_0 t77.length co77_0, .agg #[.slice Ao79_0 t79_0.length co79_0, .int .i64 t79_1, .int .i64 t79_2], .bool a2, .int .i64 a3, .int .i64 a4] ?_
       (with_reducible refine (impl_ViewOf.calls k _ _ t77 _ _ t79_0 t79_1 t79_2 a2 a3 a4 t81_0 t81_1 t81_2 t81_3 t81_4 t81_5 t81_6 t81_7 t81_8 _ ?s0 ?s1 ?s2 ?s3 A81.out).mono ?_)
       (case s0 => exact (Kd.R_reads' HO77_0.out).2.2)
       (case s1 => exact (Kd.R_reads' HO77_0.out).2.1)
       (case s2 => exact (Kd.R_reads' HO79_0.out).2.2)
       (case s3 => exact (Kd.R_reads' HO79_0.out).2.1)
       rintro e w82 ⟨v81_2, rfl, ho2, hb⟩
       refine ⟨_, rfl, ?_⟩
       obtain ⟨na81, nb81, ha_, hz_, hab81⟩ := nxt_ hb
       have hn81 : nb79 ≤ na81 := (by rw [ha_]; exact HZ.out)
       replace HOj34_1_0 := am (Kd.R_below HOj34_1_0.out hb)
       replace HOj34_3_0 := am (Kd.R_below HOj34_3_0.out hb)
       replace HOj34_7_0 := am (Kd.R_below HOj34_7_0.out hb)
       replace HO37_0 := am (Kd.R_below HO37_0.out hb)
       replace HO39_0 := am (Kd.R_below HO39_0.out hb)
       replace HO43_2 := am (Kd.S_below HO43_2.out hb)
       replace HO50_0 := am (Kd.R_below HO50_0.out hb)
       replace HO57_0 := am (Kd.R_below HO57_0.out hb)
       replace HO77_0 := am (Kd.R_below HO77_0.out hb)
       replace HO79_0 := am (Kd.R_below HO79_0.out hb)
       replace BKgb1 := am (blk_below BKgb1.out hb)
       replace BKgb35 := am (blk_below BKgb35.out hb)
       replace BKgb41 := am (blk_below BKgb41.out hb)
       replace BKgb45 := am (blk_below BKgb45.out hb)
       have HO81_2 := am (S_rg ha_ hz_ (below_size HB.out) ho2)
       replace HB := am (below_step HB.out hb)
       replace HZ := am (Nat.le_of_eq hz_)
       clear hb ha_ hz_ ho2
       obtain ⟨Ao81_2, co81_2, eo81_2⟩ := Kd.S_slice HO81_2.out
       subst eo81_2
       refine hK.out _ _ ⟨bc BKgb1.out 0, bc BKgb1.out 1, bc BKgb1.out 2, bc BKgb35.out 0, bc BKgb35.out 1, bc BKgb35.out 2, bc BKgb35.out 3, bc BKgb35.out 4, bc BKgb35.out 5, bc BKgb35.out 6, bc BKgb35.out 7, bc BKgb35.out 8, bc BKgb41.out 0, bc BKgb41.out 1, bc BKgb41.out 2, bc BKgb45.out 0, bc BKgb45.out 1, bc BKgb45.out 2, bc BKgb45.out 3, bc BKgb45.out 4, bc BKgb45.out 5, bc BKgb45.out 6, bc BKgb45.out 7, bc BKgb45.out 8⟩ (fun hHeld => ?_)
       clear hK K
       refine norm_ (a' := ?_) ?_ ?_
       rotate_left
       ·show Act.put _ (some 92) _ = _; simp only [Act.put, sa_, s0_, ss_, i64_w, i32_w]; rfl
       refine one_ (i := 8) (N := some 19) #[true, true, true, true, true, true, true, true, true, false] rfl rfl (by kernel_rfl) (by decide) (fun K hK => ?_)
       refine box_step ?hg (N := 19) ?hd (cs := #[.int .i64 0, .int .i64 0, .slice none 0 0, .int .i64 0, .int .i64 0, .bool false, .int .i64 0, .int .i64 0, .int .i64 0]) (t := 30) ?hr ?_
       (case hd => rfl)
       (case hg => rfl)
       (case hr => first | (go_simp; done) | (go_simp; rfl))
       intro gb83 hg w84 hbox hb
       have GEgb83 : w.heap.size ≤ gb83 := (by rw [hg]; exact below_size HB.out)
       have hn83 : nb81 ≤ gb83 := (by rw [hg]; exact HZ.out)
       have ngb83 : gb83 + 1 ≤ w84.heap.size := blk_lt hbox
       replace HOj34_1_0 := am (Kd.R_below HOj34_1_0.out hb)
       replace HOj34_3_0 := am (Kd.R_below HOj34_3_0.out hb)
       replace HOj34_7_0 := am (Kd.R_below HOj34_7_0.out hb)
       replace HO37_0 := am (Kd.R_below HO37_0.out hb)
       replace HO39_0 := am (Kd.R_below HO39_0.out hb)
       replace HO43_2 := am (Kd.S_below HO43_2.out hb)
       replace HO50_0 := am (Kd.R_below HO50_0.out hb)
       replace HO57_0 := am (Kd.R_below HO57_0.out hb)
       replace HO77_0 := am (Kd.R_below HO77_0.out hb)
       replace HO79_0 := am (Kd.R_below HO79_0.out hb)
       replace HO81_2 := am (Kd.S_below HO81_2.out hb)
       replace BKgb1 := am (blk_below BKgb1.out hb)
       replace BKgb35 := am (blk_below BKgb35.out hb)
       replace BKgb41 := am (blk_below BKgb41.out hb)
       replace BKgb45 := am (blk_below BKgb45.out hb)
       have BKgb83 := am (hbox)
       replace HB := am (below_step HB.out hb)
       replace HZ := am (ngb83)
       clear hb hbox hg ngb83
       refine hK.out _ _ ⟨bc BKgb1.out 0, bc BKgb1.out 1, bc BKgb1.out 2, bc BKgb35.out 0, bc BKgb35.out 1, bc BKgb35.out 2, bc BKgb35.out 3, bc BKgb35.out 4, bc BKgb35.out 5, bc BKgb35.out 6, bc BKgb35.out 7, bc BKgb35.out 8, bc BKgb41.out 0, bc BKgb41.out 1, bc BKgb41.out 2, bc BKgb45.out 0, bc BKgb45.out 1, bc BKgb45.out 2, bc BKgb45.out 3, bc BKgb45.out 4, bc BKgb45.out 5, bc BKgb45.out 6, bc BKgb45.out 7, bc BKgb45.out 8⟩ (fun hHeld => ?_)
       clear hK K
       refine norm_ (a' := ?_) ?_ ?_
       rotate_left
       ·show Act.put _ (some 19) _ = _; simp only [Act.put, sa_, s0_, ss_, i64_w, i32_w]; rfl
       exact norm_ (by first | (simp only [putAll, Act.put, sa_, s0_, ss_]; done) | (simp only [putAll, Act.put, sa_, s0_, ss_]; rfl)) (hJ (.slice Ao77_0 t77.length co77_0, .slice Ao79_0 t79_0.length co79_0, .slice Ao81_2 t81_2.length co81_2, gb83, na77, nb77, na79, nb79, na81, nb81, (gb83 + 1)) _ ⟨hHeld, ⟨_, HOj34_1_0.out⟩, ⟨_, HOj34_3_0.out⟩, ⟨_, HOj34_7_0.out⟩, ⟨_, HO37_0.out⟩, ⟨_, HO39_0.out⟩, ⟨_, HO43_2.out⟩, ⟨_, HO50_0.out⟩, ⟨_, HO57_0.out⟩, ⟨_, HO77_0.out⟩, ⟨_, HO79_0.out⟩, ⟨_, HO81_2.out⟩, BKgb1.out, BKgb35.out, BKgb41.out, BKgb45.out, BKgb83.out, HB.out, HZ.out, GEgb83, (by (try dsimp only); omega), (by (try dsimp only); omega), (by (try dsimp only); omega), (by (try dsimp only); omega), (by (try dsimp only); omega)⟩)
      ·skip
       refine box_step ?hg (N := 19) ?hd (cs := #[.int .i64 0, .int .i64 0, .slice none 0 0, .int .i64 0, .int .i64 0, .bool false, .int .i64 0, .int .i64 0, .int .i64 0]) (t := 30) ?hr ?_
       (case hd => rfl)
       (case hg => rfl)
       (case hr => first | (go_simp; done) | (go_simp; rfl))
       intro gb85 hg w86 hbox hb
       have GEgb85 : w.heap.size ≤ gb85 := (by rw [hg]; exact below_size HB.out)
       have hn85 : nb79 ≤ gb85 := (by rw [hg]; exact HZ.out)
       have ngb85 : gb85 + 1 ≤ w86.heap.size := blk_lt hbox
       replace HOj34_1_0 := am (Kd.R_below HOj34_1_0.out hb)
       replace HOj34_3_0 := am (Kd.R_below HOj34_3_0.out hb)
       replace HOj34_7_0 := am (Kd.R_below HOj34_7_0.out hb)
       replace HO37_0 := am (Kd.R_below HO37_0.out hb)
       replace HO39_0 := am (Kd.R_below HO39_0.out hb)
       replace HO43_2 := am (Kd.S_below HO43_2.out hb)
       replace HO50_0 := am (Kd.R_below HO50_0.out hb)
       replace HO57_0 := am (Kd.R_below HO57_0.out hb)
       replace HO77_0 := am (Kd.R_below HO77_0.out hb)
       replace HO79_0 := am (Kd.R_below HO79_0.out hb)
       replace BKgb1 := am (blk_below BKgb1.out hb)
       replace BKgb35 := am (blk_below BKgb35.out hb)
       replace BKgb41 := am (blk_below BKgb41.out hb)
       replace BKgb45 := am (blk_below BKgb45.out hb)
       have BKgb85 := am (hbox)
       replace HB := am (below_step HB.out hb)
       replace HZ := am (ngb85)
       clear hb hbox hg ngb85
       refine hK.out _ _ ⟨bc BKgb1.out 0, bc BKgb1.out 1, bc BKgb1.out 2, bc BKgb35.out 0, bc BKgb35.out 1, bc BKgb35.out 2, bc BKgb35.out 3, bc BKgb35.out 4, bc BKgb35.out 5, bc BKgb35.out 6, bc BKgb35.out 7, bc BKgb35.out 8, bc BKgb41.out 0, bc BKgb41.out 1, bc BKgb41.out 2, bc BKgb45.out 0, bc BKgb45.out 1, bc BKgb45.out 2, bc BKgb45.out 3, bc BKgb45.out 4, bc BKgb45.out 5, bc BKgb45.out 6, bc BKgb45.out 7, bc BKgb45.out 8⟩ (fun hHeld => ?_)
       clear hK K
       refine norm_ (a' := ?_) ?_ ?_
       rotate_left
       ·show Act.put _ (some 19) _ = _; simp only [Act.put, sa_, s0_, ss_, i64_w, i32_w]; rfl
       refine one_ (i := 7) (N := some 92) #[true, true, true, true, true, true, true, true, true, false] rfl rfl (by kernel_rfl) (by decide) (fun K hK => ?_)
       refine gs_ Try.func13 #[.slice Ao77_0 t77.length co77_0, .agg #[.slice Ao79_0 t79_0.length co79_0, .int .i64 t79_1, .int .i64 t79_2], .bool a2, .int .i64 a3, .int .i64 a4] ?_
       (with_reducible refine (impl_ViewOf.calls k _ _ t77 _ _ t79_0 t79_1 t79_2 a2 a3 a4 t81_0 t81_1 t81_2 t81_3 t81_4 t81_5 t81_6 t81_7 t81_8 _ ?s0 ?s1 ?s2 ?s3 A81.out).mono ?_)
       (case s0 => exact (Kd.R_reads' HO77_0.out).2.2)
       (case s1 => exact (Kd.R_reads' HO77_0.out).2.1)
       (case s2 => exact (Kd.R_reads' HO79_0.out).2.2)
       (case s3 => exact (Kd.R_reads' HO79_0.out).2.1)
       rintro e w88 ⟨v87_2, rfl, ho2, hb⟩
       refine ⟨_, rfl, ?_⟩
       obtain ⟨na87, nb87, ha_, hz_, hab87⟩ := nxt_ hb
       have hn87 : (gb85 + 1) ≤ na87 := (by rw [ha_]; exact HZ.out)
       replace HOj34_1_0 := am (Kd.R_below HOj34_1_0.out hb)
       replace HOj34_3_0 := am (Kd.R_below HOj34_3_0.out hb)
       replace HOj34_7_0 := am (Kd.R_below HOj34_7_0.out hb)
       replace HO37_0 := am (Kd.R_below HO37_0.out hb)
       replace HO39_0 := am (Kd.R_below HO39_0.out hb)
       replace HO43_2 := am (Kd.S_below HO43_2.out hb)
       replace HO50_0 := am (Kd.R_below HO50_0.out hb)
       replace HO57_0 := am (Kd.R_below HO57_0.out hb)
       replace HO77_0 := am (Kd.R_below HO77_0.out hb)
       replace HO79_0 := am (Kd.R_below HO79_0.out hb)
       replace BKgb1 := am (blk_below BKgb1.out hb)
       replace BKgb35 := am (blk_below BKgb35.out hb)
       replace BKgb41 := am (blk_below BKgb41.out hb)
       replace BKgb45 := am (blk_below BKgb45.out hb)
       replace BKgb85 := am (blk_below BKgb85.out hb)
       have HO87_2 := am (S_rg ha_ hz_ (below_size HB.out) ho2)
       replace HB := am (below_step HB.out hb)
       replace HZ := am (Nat.le_of_eq hz_)
       clear hb ha_ hz_ ho2
       obtain ⟨Ao87_2, co87_2, eo87_2⟩ := Kd.S_slice HO87_2.out
       subst eo87_2
       refine hK.out _ _ ⟨bc BKgb1.out 0, bc BKgb1.out 1, bc BKgb1.out 2, bc BKgb35.out 0, bc BKgb35.out 1, bc BKgb35.out 2, bc BKgb35.out 3, bc BKgb35.out 4, bc BKgb35.out 5, bc BKgb35.out 6, bc BKgb35.out 7, bc BKgb35.out 8, bc BKgb41.out 0, bc BKgb41.out 1, bc BKgb41.out 2, bc BKgb45.out 0, bc BKgb45.out 1, bc BKgb45.out 2, bc BKgb45.out 3, bc BKgb45.out 4, bc BKgb45.out 5, bc BKgb45.out 6, bc BKgb45.out 7, bc BKgb45.out 8⟩ (fun hHeld => ?_)
       clear hK K
       refine norm_ (a' := ?_) ?_ ?_
       rotate_left
       ·show Act.put _ (some 92) _ = _; simp only [Act.put, sa_, s0_, ss_, i64_w, i32_w]; rfl
       exact norm_ (by first | (simp only [putAll, Act.put, sa_, s0_, ss_]; done) | (simp only [putAll, Act.put, sa_, s0_, ss_]; rfl)) (hJ (.slice Ao77_0 t77.length co77_0, .slice Ao79_0 t79_0.length co79_0, .slice Ao87_2 t81_2.length co87_2, gb85, na77, nb77, na79, nb79, na87, nb87, nb87) _ ⟨hHeld, ⟨_, HOj34_1_0.out⟩, ⟨_, HOj34_3_0.out⟩, ⟨_, HOj34_7_0.out⟩, ⟨_, HO37_0.out⟩, ⟨_, HO39_0.out⟩, ⟨_, HO43_2.out⟩, ⟨_, HO50_0.out⟩, ⟨_, HO57_0.out⟩, ⟨_, HO77_0.out⟩, ⟨_, HO79_0.out⟩, ⟨_, HO87_2.out⟩, BKgb1.out, BKgb35.out, BKgb41.out, BKgb45.out, BKgb85.out, HB.out, HZ.out, GEgb85, (by (try dsimp only); omega), (by (try dsimp only); omega), (by (try dsimp only); omega), (by (try dsimp only); omega), (by (try dsimp only); omega)⟩)
     ·skip
      refine box_step ?hg (N := 19) ?hd (cs := #[.int .i64 0, .int .i64 0, .slice none 0 0, .int .i64 0, .int .i64 0, .bool false, .int .i64 0, .int .i64 0, .int .i64 0]) (t := 30) ?hr ?_
      (case hd => rfl)
      (case hg => rfl)
      (case hr => first | (go_simp; done) | (go_simp; rfl))
      intro gb89 hg w90 hbox hb
      have GEgb89 : w.heap.size ≤ gb89 := (by rw [hg]; exact below_size HB.out)
      have hn89 : nb77 ≤ gb89 := (by rw [hg]; exact HZ.out)
      have ngb89 : gb89 + 1 ≤ w90.heap.size := blk_lt hbox
      replace HOj34_1_0 := am (Kd.R_below HOj34_1_0.out hb)
      replace HOj34_3_0 := am (Kd.R_below HOj34_3_0.out hb)
      replace HOj34_7_0 := am (Kd.R_below HOj34_7_0.out hb)
      replace HO37_0 := am (Kd.R_below HO37_0.out hb)
      replace HO39_0 := am (Kd.R_below HO39_0.out hb)
      replace HO43_2 := am (Kd.S_below HO43_2.out hb)
      replace HO50_0 := am (Kd.R_below HO50_0.out hb)
      replace HO57_0 := am (Kd.R_below HO57_0.out hb)
      replace HO77_0 := am (Kd.R_below HO77_0.out hb)
      replace BKgb1 := am (blk_below BKgb1.out hb)
      replace BKgb35 := am (blk_below BKgb35.out hb)
      replace BKgb41 := am (blk_below BKgb41.out hb)
      replace BKgb45 := am (blk_below BKgb45.out hb)
      have BKgb89 := am (hbox)
      replace HB := am (below_step HB.out hb)
      replace HZ := am (ngb89)
      clear hb hbox hg ngb89
      refine hK.out _ _ ⟨bc BKgb1.out 0, bc BKgb1.out 1, bc BKgb1.out 2, bc BKgb35.out 0, bc BKgb35.out 1, bc BKgb35.out 2, bc BKgb35.out 3, bc BKgb35.out 4, bc BKgb35.out 5, bc BKgb35.out 6, bc BKgb35.out 7, bc BKgb35.out 8, bc BKgb41.out 0, bc BKgb41.out 1, bc BKgb41.out 2, bc BKgb45.out 0, bc BKgb45.out 1, bc BKgb45.out 2, bc BKgb45.out 3, bc BKgb45.out 4, bc BKgb45.out 5, bc BKgb45.out 6, bc BKgb45.out 7, bc BKgb45.out 8⟩ (fun hHeld => ?_)
      clear hK K
      refine norm_ (a' := ?_) ?_ ?_
      rotate_left
      ·show Act.put _ (some 19) _ = _; simp only [Act.put, sa_, s0_, ss_, i64_w, i32_w]; rfl
      refine one_ (i := 3) (N := some 88) #[true, true, true, true, true, true, true, false, true, false] rfl rfl (by kernel_rfl) (by decide) (fun K hK => ?_)
      refine gs_ Try.func12 #[.agg #[.slice A1_0 l1_0.length c1_0, .int .i64 a1_1, .int .i64 a1_2]] ?_
      (with_reducible refine (laws_toBuf.calls k _ _ l1_0 a1_1 a1_2 t79_0 t79_1 t79_2 _ ?s0 ?s1 A79.out).mono ?_)
      (case s0 => exact (Kd.C_below HR1_0.out HB.out))
      (case s1 => exact HC1_0.out)
      rintro e w92 ⟨v91_0, rfl, ho0, hb⟩
      refine ⟨_, rfl, ?_⟩
      obtain ⟨na91, nb91, ha_, hz_, hab91⟩ := nxt_ hb
      have hn91 : (gb89 + 1) ≤ na91 := (by rw [ha_]; exact HZ.out)
      replace HOj34_1_0 := am (Kd.R_below HOj34_1_0.out hb)
      replace HOj34_3_0 := am (Kd.R_below HOj34_3_0.out hb)
      replace HOj34_7_0 := am (Kd.R_below HOj34_7_0.out hb)
      replace HO37_0 := am (Kd.R_below HO37_0.out hb)
      replace HO39_0 := am (Kd.R_below HO39_0.out hb)
      replace HO43_2 := am (Kd.S_below HO43_2.out hb)
      replace HO50_0 := am (Kd.R_below HO50_0.out hb)
      replace HO57_0 := am (Kd.R_below HO57_0.out hb)
      replace HO77_0 := am (Kd.R_below HO77_0.out hb)
      replace BKgb1 := am (blk_below BKgb1.out hb)
      replace BKgb35 := am (blk_below BKgb35.out hb)
      replace BKgb41 := am (blk_below BKgb41.out hb)
      replace BKgb45 := am (blk_below BKgb45.out hb)
      replace BKgb89 := am (blk_below BKgb89.out hb)
      have HO91_0 := am (R_rg ha_ hz_ (below_size HB.out) ho0)
      replace HB := am (below_step HB.out hb)
      replace HZ := am (Nat.le_of_eq hz_)
      clear hb ha_ hz_ ho0
      obtain ⟨Ao91_0, co91_0, eo91_0⟩ := Kd.R_slice HO91_0.out
      subst eo91_0
      refine hK.out _ _ ⟨bc BKgb1.out 0, bc BKgb1.out 1, bc BKgb1.out 2, bc BKgb35.out 0, bc BKgb35.out 1, bc BKgb35.out 2, bc BKgb35.out 3, bc BKgb35.out 4, bc BKgb35.out 5, bc BKgb35.out 6, bc BKgb35.out 7, bc BKgb35.out 8, bc BKgb41.out 0, bc BKgb41.out 1, bc BKgb41.out 2, bc BKgb45.out 0, bc BKgb45.out 1, bc BKgb45.out 2, bc BKgb45.out 3, bc BKgb45.out 4, bc BKgb45.out 5, bc BKgb45.out 6, bc BKgb45.out 7, bc BKgb45.out 8⟩ (fun hHeld => ?_)
      clear hK K
      refine norm_ (a' := ?_) ?_ ?_
      rotate_left
      ·show Act.put _ (some 88) _ = _; simp only [Act.put, sa_, s0_, ss_, i64_w, i32_w]; rfl
      refine one_ (i := 7) (N := some 92) #[true, true, true, true, true, true, true, true, true, false] rfl rfl (by kernel_rfl) (by decide) (fun K hK => ?_)
      refine gs_ Try.func13 #[.slice Ao77_0 t77.length co77_0, .agg #[.slice Ao91_0 t79_0.length co91_0, .int .i64 t79_1, .int .i64 t79_2], .bool a2, .int .i64 a3, .int .i64 a4] ?_
      (with_reducible refine (impl_ViewOf.calls k _ _ t77 _ _ t79_0 t79_1 t79_2 a2 a3 a4 t81_0 t81_1 t81_2 t81_3 t81_4 t81_5 t81_6 t81_7 t81_8 _ ?s0 ?s1 ?s2 ?s3 A81.out).mono ?_)
      (case s0 => exact (Kd.R_reads' HO77_0.out).2.2)
      (case s1 => exact (Kd.R_reads' HO77_0.out).2.1)
      (case s2 => exact (Kd.R_reads' HO91_0.out).2.2)
      (case s3 => exact (Kd.R_reads' HO91_0.out).2.1)
      rintro e w94 ⟨v93_2, rfl, ho2, hb⟩
      refine ⟨_, rfl, ?_⟩
      obtain ⟨na93, nb93, ha_, hz_, hab93⟩ := nxt_ hb
      have hn93 : nb91 ≤ na93 := (by rw [ha_]; exact HZ.out)
      replace HOj34_1_0 := am (Kd.R_below HOj34_1_0.out hb)
      replace HOj34_3_0 := am (Kd.R_below HOj34_3_0.out hb)
      replace HOj34_7_0 := am (Kd.R_below HOj34_7_0.out hb)
      replace HO37_0 := am (Kd.R_below HO37_0.out hb)
      replace HO39_0 := am (Kd.R_below HO39_0.out hb)
      replace HO43_2 := am (Kd.S_below HO43_2.out hb)
      replace HO50_0 := am (Kd.R_below HO50_0.out hb)
      replace HO57_0 := am (Kd.R_below HO57_0.out hb)
      replace HO77_0 := am (Kd.R_below HO77_0.out hb)
      replace HO91_0 := am (Kd.R_below HO91_0.out hb)
      replace BKgb1 := am (blk_below BKgb1.out hb)
      replace BKgb35 := am (blk_below BKgb35.out hb)
      replace BKgb41 := am (blk_below BKgb41.out hb)
      replace BKgb45 := am (blk_below BKgb45.out hb)
      replace BKgb89 := am (blk_below BKgb89.out hb)
      have HO93_2 := am (S_rg ha_ hz_ (below_size HB.out) ho2)
      replace HB := am (below_step HB.out hb)
      replace HZ := am (Nat.le_of_eq hz_)
      clear hb ha_ hz_ ho2
      obtain ⟨Ao93_2, co93_2, eo93_2⟩ := Kd.S_slice HO93_2.out
      subst eo93_2
      refine hK.out _ _ ⟨bc BKgb1.out 0, bc BKgb1.out 1, bc BKgb1.out 2, bc BKgb35.out 0, bc BKgb35.out 1, bc BKgb35.out 2, bc BKgb35.out 3, bc BKgb35.out 4, bc BKgb35.out 5, bc BKgb35.out 6, bc BKgb35.out 7, bc BKgb35.out 8, bc BKgb41.out 0, bc BKgb41.out 1, bc BKgb41.out 2, bc BKgb45.out 0, bc BKgb45.out 1, bc BKgb45.out 2, bc BKgb45.out 3, bc BKgb45.out 4, bc BKgb45.out 5, bc BKgb45.out 6, bc BKgb45.out 7, bc BKgb45.out 8⟩ (fun hHeld => ?_)
      clear hK K
      refine norm_ (a' := ?_) ?_ ?_
      rotate_left
      ·show Act.put _ (some 92) _ = _; simp only [Act.put, sa_, s0_, ss_, i64_w, i32_w]; rfl
      exact norm_ (by first | (simp only [putAll, Act.put, sa_, s0_, ss_]; done) | (simp only [putAll, Act.put, sa_, s0_, ss_]; rfl)) (hJ (.slice Ao77_0 t77.length co77_0, .slice Ao91_0 t79_0.length co91_0, .slice Ao93_2 t81_2.length co93_2, gb89, na77, nb77, na91, nb91, na93, nb93, nb93) _ ⟨hHeld, ⟨_, HOj34_1_0.out⟩, ⟨_, HOj34_3_0.out⟩, ⟨_, HOj34_7_0.out⟩, ⟨_, HO37_0.out⟩, ⟨_, HO39_0.out⟩, ⟨_, HO43_2.out⟩, ⟨_, HO50_0.out⟩, ⟨_, HO57_0.out⟩, ⟨_, HO77_0.out⟩, ⟨_, HO91_0.out⟩, ⟨_, HO93_2.out⟩, BKgb1.out, BKgb35.out, BKgb41.out, BKgb45.out, BKgb89.out, HB.out, HZ.out, GEgb89, (by (try dsimp only); omega), (by (try dsimp only); omega), (by (try dsimp only); omega), (by (try dsimp only); omega), (by (try dsimp only); omega)⟩)
    ·skip
     refine box_step ?hg (N := 19) ?hd (cs := #[.int .i64 0, .int .i64 0, .slice none 0 0, .int .i64 0, .int .i64 0, .bool false, .int .i64 0, .int .i64 0, .int .i64 0]) (t := 30) ?hr ?_
     (case hd => rfl)
     (case hg => rfl)
     (case hr => first | (go_simp; done) | (go_simp; rfl))
     intro gb95 hg w96 hbox hb
     have GEgb95 : w.heap.size ≤ gb95 := (by rw [hg]; exact below_size HB.out)
     have hn95 : nb72 ≤ gb95 := (by rw [hg]; exact HZ.out)
     have ngb95 : gb95 + 1 ≤ w96.heap.size := blk_lt hbox
     replace HOj34_1_0 := am (Kd.R_below HOj34_1_0.out hb)
     replace HOj34_3_0 := am (Kd.R_below HOj34_3_0.out hb)
     replace HOj34_7_0 := am (Kd.R_below HOj34_7_0.out hb)
     replace HO37_0 := am (Kd.R_below HO37_0.out hb)
     replace HO39_0 := am (Kd.R_below HO39_0.out hb)
     replace HO43_2 := am (Kd.S_below HO43_2.out hb)
     replace HO50_0 := am (Kd.R_below HO50_0.out hb)
     replace HO57_0 := am (Kd.R_below HO57_0.out hb)
     replace BKgb1 := am (blk_below BKgb1.out hb)
     replace BKgb35 := am (blk_below BKgb35.out hb)
     replace BKgb41 := am (blk_below BKgb41.out hb)
     replace BKgb45 := am (blk_below BKgb45.out hb)
     have BKgb95 := am (hbox)
     replace HB := am (below_step HB.out hb)
     replace HZ := am (ngb95)
     clear hb hbox hg ngb95
     refine hK.out _ _ ⟨bc BKgb1.out 0, bc BKgb1.out 1, bc BKgb1.out 2, bc BKgb35.out 0, bc BKgb35.out 1, bc BKgb35.out 2, bc BKgb35.out 3, bc BKgb35.out 4, bc BKgb35.out 5, bc BKgb35.out 6, bc BKgb35.out 7, bc BKgb35.out 8, bc BKgb41.out 0, bc BKgb41.out 1, bc BKgb41.out 2, bc BKgb45.out 0, bc BKgb45.out 1, bc BKgb45.out 2, bc BKgb45.out 3, bc BKgb45.out 4, bc BKgb45.out 5, bc BKgb45.out 6, bc BKgb45.out 7, bc BKgb45.out 8⟩ (fun hHeld => ?_)
     clear hK K
     refine norm_ (a' := ?_) ?_ ?_
     rotate_left
     ·show Act.put _ (some 19) _ = _; simp only [Act.put, sa_, s0_, ss_, i64_w, i32_w]; rfl
     refine one_ (i := 1) (N := some 86) #[true, true, true, false, true, true, true, false, true, false] rfl rfl (by kernel_rfl) (by decide) (fun K hK => ?_)
     refine gs_ Try.func11 #[.slice A0 l0.length c0] ?_
     (with_reducible refine (laws_toInt64S.calls k _ _ l0 t77 _ ?s0 ?s1 A77.out).mono ?_)
     (case s0 => exact (Kd.C_below HR0.out HB.out))
     (case s1 => exact HC0.out)
     rintro e w98 ⟨v97_0, rfl, ho0, hb⟩
     refine ⟨_, rfl, ?_⟩
     obtain ⟨na97, nb97, ha_, hz_, hab97⟩ := nxt_ hb
     have hn97 : (gb95 + 1) ≤ na97 := (by rw [ha_]; exact HZ.out)
     replace HOj34_1_0 := am (Kd.R_below HOj34_1_0.out hb)
     replace HOj34_3_0 := am (Kd.R_below HOj34_3_0.out hb)
     replace HOj34_7_0 := am (Kd.R_below HOj34_7_0.out hb)
     replace HO37_0 := am (Kd.R_below HO37_0.out hb)
     replace HO39_0 := am (Kd.R_below HO39_0.out hb)
     replace HO43_2 := am (Kd.S_below HO43_2.out hb)
     replace HO50_0 := am (Kd.R_below HO50_0.out hb)
     replace HO57_0 := am (Kd.R_below HO57_0.out hb)
     replace BKgb1 := am (blk_below BKgb1.out hb)
     replace BKgb35 := am (blk_below BKgb35.out hb)
     replace BKgb41 := am (blk_below BKgb41.out hb)
     replace BKgb45 := am (blk_below BKgb45.out hb)
     replace BKgb95 := am (blk_below BKgb95.out hb)
     have HO97_0 := am (R_rg ha_ hz_ (below_size HB.out) ho0)
     replace HB := am (below_step HB.out hb)
     replace HZ := am (Nat.le_of_eq hz_)
     clear hb ha_ hz_ ho0
     obtain ⟨Ao97_0, co97_0, eo97_0⟩ := Kd.R_slice HO97_0.out
     subst eo97_0
     refine hK.out _ _ ⟨bc BKgb1.out 0, bc BKgb1.out 1, bc BKgb1.out 2, bc BKgb35.out 0, bc BKgb35.out 1, bc BKgb35.out 2, bc BKgb35.out 3, bc BKgb35.out 4, bc BKgb35.out 5, bc BKgb35.out 6, bc BKgb35.out 7, bc BKgb35.out 8, bc BKgb41.out 0, bc BKgb41.out 1, bc BKgb41.out 2, bc BKgb45.out 0, bc BKgb45.out 1, bc BKgb45.out 2, bc BKgb45.out 3, bc BKgb45.out 4, bc BKgb45.out 5, bc BKgb45.out 6, bc BKgb45.out 7, bc BKgb45.out 8⟩ (fun hHeld => ?_)
     clear hK K
     refine norm_ (a' := ?_) ?_ ?_
     rotate_left
     ·show Act.put _ (some 86) _ = _; simp only [Act.put, sa_, s0_, ss_, i64_w, i32_w]; rfl
     refine one_ (i := 3) (N := some 88) #[true, true, true, true, true, true, true, false, true, false] rfl rfl (by kernel_rfl) (by decide) (fun K hK => ?_)
     refine gs_ Try.func12 #[.agg #[.slice A1_0 l1_0.length c1_0, .int .i64 a1_1, .int .i64 a1_2]] ?_
     (with_reducible refine (laws_toBuf.calls k _ _ l1_0 a1_1 a1_2 t79_0 t79_1 t79_2 _ ?s0 ?s1 A79.out).mono ?_)
     (case s0 => exact (Kd.C_below HR1_0.out HB.out))
     (case s1 => exact HC1_0.out)
     rintro e w100 ⟨v99_0, rfl, ho0, hb⟩
     refine ⟨_, rfl, ?_⟩
     obtain ⟨na99, nb99, ha_, hz_, hab99⟩ := nxt_ hb
     have hn99 : nb97 ≤ na99 := (by rw [ha_]; exact HZ.out)
     replace HOj34_1_0 := am (Kd.R_below HOj34_1_0.out hb)
     replace HOj34_3_0 := am (Kd.R_below HOj34_3_0.out hb)
     replace HOj34_7_0 := am (Kd.R_below HOj34_7_0.out hb)
     replace HO37_0 := am (Kd.R_below HO37_0.out hb)
     replace HO39_0 := am (Kd.R_below HO39_0.out hb)
     replace HO43_2 := am (Kd.S_below HO43_2.out hb)
     replace HO50_0 := am (Kd.R_below HO50_0.out hb)
     replace HO57_0 := am (Kd.R_below HO57_0.out hb)
     replace HO97_0 := am (Kd.R_below HO97_0.out hb)
     replace BKgb1 := am (blk_below BKgb1.out hb)
     replace BKgb35 := am (blk_below BKgb35.out hb)
     replace BKgb41 := am (blk_below BKgb41.out hb)
     replace BKgb45 := am (blk_below BKgb45.out hb)
     replace BKgb95 := am (blk_below BKgb95.out hb)
     have HO99_0 := am (R_rg ha_ hz_ (below_size HB.out) ho0)
     replace HB := am (below_step HB.out hb)
     replace HZ := am (Nat.le_of_eq hz_)
     clear hb ha_ hz_ ho0
     obtain ⟨Ao99_0, co99_0, eo99_0⟩ := Kd.R_slice HO99_0.out
     subst eo99_0
     refine hK.out _ _ ⟨bc BKgb1.out 0, bc BKgb1.out 1, bc BKgb1.out 2, bc BKgb35.out 0, bc BKgb35.out 1, bc BKgb35.out 2, bc BKgb35.out 3, bc BKgb35.out 4, bc BKgb35.out 5, bc BKgb35.out 6, bc BKgb35.out 7, bc BKgb35.out 8, bc BKgb41.out 0, bc BKgb41.out 1, bc BKgb41.out 2, bc BKgb45.out 0, bc BKgb45.out 1, bc BKgb45.out 2, bc BKgb45.out 3, bc BKgb45.out 4, bc BKgb45.out 5, bc BKgb45.out 6, bc BKgb45.out 7, bc BKgb45.out 8⟩ (fun hHeld => ?_)
     clear hK K
     refine norm_ (a' := ?_) ?_ ?_
     rotate_left
     ·show Act.put _ (some 88) _ = _; simp only [Act.put, sa_, s0_, ss_, i64_w, i32_w]; rfl
     refine one_ (i := 7) (N := some 92) #[true, true, true, true, true, true, true, true, true, false] rfl rfl (by kernel_rfl) (by decide) (fun K hK => ?_)
     refine gs_ Try.func13 #[.slice Ao97_0 t77.length co97_0, .agg #[.slice Ao99_0 t79_0.length co99_0, .int .i64 t79_1, .int .i64 t79_2], .bool a2, .int .i64 a3, .int .i64 a4] ?_
     (with_reducible refine (impl_ViewOf.calls k _ _ t77 _ _ t79_0 t79_1 t79_2 a2 a3 a4 t81_0 t81_1 t81_2 t81_3 t81_4 t81_5 t81_6 t81_7 t81_8 _ ?s0 ?s1 ?s2 ?s3 A81.out).mono ?_)
     (case s0 => exact (Kd.R_reads' HO97_0.out).2.2)
     (case s1 => exact (Kd.R_reads' HO97_0.out).2.1)
     (case s2 => exact (Kd.R_reads' HO99_0.out).2.2)
     (case s3 => exact (Kd.R_reads' HO99_0.out).2.1)
     rintro e w102 ⟨v101_2, rfl, ho2, hb⟩
     refine ⟨_, rfl, ?_⟩
     obtain ⟨na101, nb101, ha_, hz_, hab101⟩ := nxt_ hb
     have hn101 : nb99 ≤ na101 := (by rw [ha_]; exact HZ.out)
     replace HOj34_1_0 := am (Kd.R_below HOj34_1_0.out hb)
     replace HOj34_3_0 := am (Kd.R_below HOj34_3_0.out hb)
     replace HOj34_7_0 := am (Kd.R_below HOj34_7_0.out hb)
     replace HO37_0 := am (Kd.R_below HO37_0.out hb)
     replace HO39_0 := am (Kd.R_below HO39_0.out hb)
     replace HO43_2 := am (Kd.S_below HO43_2.out hb)
     replace HO50_0 := am (Kd.R_below HO50_0.out hb)
     replace HO57_0 := am (Kd.R_below HO57_0.out hb)
     replace HO97_0 := am (Kd.R_below HO97_0.out hb)
     replace HO99_0 := am (Kd.R_below HO99_0.out hb)
     replace BKgb1 := am (blk_below BKgb1.out hb)
     replace BKgb35 := am (blk_below BKgb35.out hb)
     replace BKgb41 := am (blk_below BKgb41.out hb)
     replace BKgb45 := am (blk_below BKgb45.out hb)
     replace BKgb95 := am (blk_below BKgb95.out hb)
     have HO101_2 := am (S_rg ha_ hz_ (below_size HB.out) ho2)
     replace HB := am (below_step HB.out hb)
     replace HZ := am (Nat.le_of_eq hz_)
     clear hb ha_ hz_ ho2
     obtain ⟨Ao101_2, co101_2, eo101_2⟩ := Kd.S_slice HO101_2.out
     subst eo101_2
     refine hK.out _ _ ⟨bc BKgb1.out 0, bc BKgb1.out 1, bc BKgb1.out 2, bc BKgb35.out 0, bc BKgb35.out 1, bc BKgb35.out 2, bc BKgb35.out 3, bc BKgb35.out 4, bc BKgb35.out 5, bc BKgb35.out 6, bc BKgb35.out 7, bc BKgb35.out 8, bc BKgb41.out 0, bc BKgb41.out 1, bc BKgb41.out 2, bc BKgb45.out 0, bc BKgb45.out 1, bc BKgb45.out 2, bc BKgb45.out 3, bc BKgb45.out 4, bc BKgb45.out 5, bc BKgb45.out 6, bc BKgb45.out 7, bc BKgb45.out 8⟩ (fun hHeld => ?_)
     clear hK K
     refine norm_ (a' := ?_) ?_ ?_
     rotate_left
     ·show Act.put _ (some 92) _ = _; simp only [Act.put, sa_, s0_, ss_, i64_w, i32_w]; rfl
     exact norm_ (by first | (simp only [putAll, Act.put, sa_, s0_, ss_]; done) | (simp only [putAll, Act.put, sa_, s0_, ss_]; rfl)) (hJ (.slice Ao97_0 t77.length co97_0, .slice Ao99_0 t79_0.length co99_0, .slice Ao101_2 t81_2.length co101_2, gb95, na97, nb97, na99, nb99, na101, nb101, nb101) _ ⟨hHeld, ⟨_, HOj34_1_0.out⟩, ⟨_, HOj34_3_0.out⟩, ⟨_, HOj34_7_0.out⟩, ⟨_, HO37_0.out⟩, ⟨_, HO39_0.out⟩, ⟨_, HO43_2.out⟩, ⟨_, HO50_0.out⟩, ⟨_, HO57_0.out⟩, ⟨_, HO97_0.out⟩, ⟨_, HO99_0.out⟩, ⟨_, HO101_2.out⟩, BKgb1.out, BKgb35.out, BKgb41.out, BKgb45.out, BKgb95.out, HB.out, HZ.out, GEgb95, (by (try dsimp only); omega), (by (try dsimp only); omega), (by (try dsimp only); omega), (by (try dsimp only); omega), (by (try dsimp only); omega)⟩)
   rintro ⟨vj103_0_0, vj103_1_0, vj103_2_0, gb104, nj103_0, mj103_0, nj103_1, mj103_1, nj103_2, mj103_2, nl103⟩ w105 ⟨hS_, ⟨T103_0, h0_⟩, ⟨T103_1, h1_⟩, ⟨T103_2, h2_⟩, ⟨T103_3, h3_⟩, ⟨T103_4, h4_⟩, ⟨T103_5, h5_⟩, ⟨T103_6, h6_⟩, ⟨T103_7, h7_⟩, ⟨T103_8, h8_⟩, ⟨T103_9, h9_⟩, ⟨T103_10, h10_⟩, h11_, h12_, h13_, h14_, h15_, h16_, h17_, h18_, h19_, h20_, h21_, h22_, h23_⟩
   replace HOj34_1_0 : Aside0 (Kd.R (Kd.int .i64) 2 w105 w.heap.size (fun k_ => Rg nj34_0 mj34_0 k_ ∧ T103_0 k_) (.slice Aoj34_1_0 t8.length coj34_1_0) t8) := ⟨h0_⟩
   replace HOj34_3_0 : Aside0 (Kd.R (Kd.int .i64) 2 w105 w.heap.size (fun k_ => Rg nj34_1 mj34_1 k_ ∧ T103_1 k_) (.slice Aoj34_3_0 t10_0.length coj34_3_0) t10_0) := ⟨h1_⟩
   replace HOj34_7_0 : Aside0 (Kd.R k75 75 w105 w.heap.size (fun k_ => Rg nj34_2 mj34_2 k_ ∧ T103_2 k_) (.slice Aoj34_7_0 t12_2.length coj34_7_0) t12_2) := ⟨h2_⟩
   replace HO37_0 : Aside0 (Kd.R (Kd.int .i64) 2 w105 w.heap.size (fun k_ => Rg na37 nb37 k_ ∧ T103_3 k_) (.slice Ao37_0 t37.length co37_0) t62_0) := ⟨h3_⟩
   replace HO39_0 : Aside0 (Kd.R (Kd.int .i64) 2 w105 w.heap.size (fun k_ => Rg na39 nb39 k_ ∧ T103_4 k_) (.slice Ao39_0 t39_0.length co39_0) t64_0) := ⟨h4_⟩
   replace HO43_2 : Aside0 (Kd.S k75 75 w105 w.heap.size (fun k_ => Rg na43 nb43 k_ ∧ T103_5 k_) (.slice Ao43_2 t43_2.length co43_2) t70_0) := ⟨h5_⟩
   replace HO50_0 : Aside0 (Kd.R (Kd.int .i64) 2 w105 w.heap.size (fun k_ => Rg na50 nb50 k_ ∧ T103_6 k_) (.slice Ao50_0 t50.length co50_0) t50) := ⟨h6_⟩
   replace HO57_0 : Aside0 (Kd.R (Kd.int .i64) 2 w105 w.heap.size (fun k_ => Rg na57 nb57 k_ ∧ T103_7 k_) (.slice Ao57_0 t57_0.length co57_0) t57_0) := ⟨h7_⟩
   have HOj103_1_0 : Aside0 (Kd.R (Kd.int .i64) 2 w105 w.heap.size (fun k_ => Rg nj103_0 mj103_0 k_ ∧ T103_8 k_) vj103_0_0 t77) := ⟨h8_⟩
   have HOj103_3_0 : Aside0 (Kd.R (Kd.int .i64) 2 w105 w.heap.size (fun k_ => Rg nj103_1 mj103_1 k_ ∧ T103_9 k_) vj103_1_0 t79_0) := ⟨h9_⟩
   have HOj103_7_0 : Aside0 (Kd.S k75 75 w105 w.heap.size (fun k_ => Rg nj103_2 mj103_2 k_ ∧ T103_10 k_) vj103_2_0 t81_2) := ⟨h10_⟩
   replace BKgb1 : Aside0 (w105.heap[gb1]? = some (.cells #[.slice A1_0 l1_0.length c1_0, .int .i64 a1_1, .int .i64 a1_2] 24 (0, 0))) := ⟨h11_⟩
   replace BKgb35 : Aside0 (w105.heap[gb35]? = some (.cells #[.int .i64 t12_0, .int .i64 t12_1, .slice Aoj34_7_0 t12_2.length coj34_7_0, .int .i64 t12_3, .int .i64 t12_4, .bool t12_5, .int .i64 t12_6, .int .i64 t12_7, .int .i64 t12_8] 30 (0, 0))) := ⟨h12_⟩
   replace BKgb41 : Aside0 (w105.heap[gb41]? = some (.cells #[.slice Ao39_0 t39_0.length co39_0, .int .i64 t39_1, .int .i64 t39_2] 33 (0, 0))) := ⟨h13_⟩
   replace BKgb45 : Aside0 (w105.heap[gb45]? = some (.cells #[.int .i64 t43_0, .int .i64 t43_1, .slice Ao43_2 t43_2.length co43_2, .int .i64 t43_3, .int .i64 t43_4, .bool t43_5, .int .i64 t43_6, .int .i64 t43_7, .int .i64 t43_8] 30 (0, 0))) := ⟨h14_⟩
   have BKgb104 : Aside0 (w105.heap[gb104]? = some (.cells #[.int .i64 0, .int .i64 0, .slice none 0 0, .int .i64 0, .int .i64 0, .bool false, .int .i64 0, .int .i64 0, .int .i64 0] 30 (0, 0))) := ⟨h15_⟩
   replace HB : Aside0 (Below w.heap.size w w105) := ⟨h16_⟩
   replace HZ : Aside0 (nl103 ≤ w105.heap.size) := ⟨h17_⟩
   have GEgb104 : w.heap.size ≤ gb104 := h18_
   have hq103_19 : nb72 ≤ gb104 ∧ gb104 < nl103 := h19_
   have hq103_20 : nb72 ≤ nj103_0 ∧ nj103_0 ≤ mj103_0 ∧ (gb104 < nj103_0 ∨ mj103_0 ≤ gb104) := h20_
   have hq103_21 : mj103_0 ≤ nj103_1 ∧ nj103_1 ≤ mj103_1 ∧ (gb104 < nj103_1 ∨ mj103_1 ≤ gb104) := h21_
   have hq103_22 : mj103_1 ≤ nj103_2 ∧ nj103_2 ≤ mj103_2 ∧ (gb104 < nj103_2 ∨ mj103_2 ≤ gb104) := h22_
   have hq103_23 : mj103_2 ≤ nl103 := h23_
   have hHeld2 : w105.cell? ⟨gb1, 0, none⟩ = some (.slice A1_0 l1_0.length c1_0) ∧ w105.cell? ⟨gb1, 1, none⟩ = some (.int .i64 a1_1) ∧ w105.cell? ⟨gb1, 2, none⟩ = some (.int .i64 a1_2) ∧ w105.cell? ⟨gb35, 0, none⟩ = some (.int .i64 t12_0) ∧ w105.cell? ⟨gb35, 1, none⟩ = some (.int .i64 t12_1) ∧ w105.cell? ⟨gb35, 2, none⟩ = some (.slice Aoj34_7_0 t12_2.length coj34_7_0) ∧ w105.cell? ⟨gb35, 3, none⟩ = some (.int .i64 t12_3) ∧ w105.cell? ⟨gb35, 4, none⟩ = some (.int .i64 t12_4) ∧ w105.cell? ⟨gb35, 5, none⟩ = some (.bool t12_5) ∧ w105.cell? ⟨gb35, 6, none⟩ = some (.int .i64 t12_6) ∧ w105.cell? ⟨gb35, 7, none⟩ = some (.int .i64 t12_7) ∧ w105.cell? ⟨gb35, 8, none⟩ = some (.int .i64 t12_8) ∧ w105.cell? ⟨gb41, 0, none⟩ = some (.slice Ao39_0 t39_0.length co39_0) ∧ w105.cell? ⟨gb41, 1, none⟩ = some (.int .i64 t39_1) ∧ w105.cell? ⟨gb41, 2, none⟩ = some (.int .i64 t39_2) ∧ w105.cell? ⟨gb45, 0, none⟩ = some (.int .i64 t43_0) ∧ w105.cell? ⟨gb45, 1, none⟩ = some (.int .i64 t43_1) ∧ w105.cell? ⟨gb45, 2, none⟩ = some (.slice Ao43_2 t43_2.length co43_2) ∧ w105.cell? ⟨gb45, 3, none⟩ = some (.int .i64 t43_3) ∧ w105.cell? ⟨gb45, 4, none⟩ = some (.int .i64 t43_4) ∧ w105.cell? ⟨gb45, 5, none⟩ = some (.bool t43_5) ∧ w105.cell? ⟨gb45, 6, none⟩ = some (.int .i64 t43_6) ∧ w105.cell? ⟨gb45, 7, none⟩ = some (.int .i64 t43_7) ∧ w105.cell? ⟨gb45, 8, none⟩ = some (.int .i64 t43_8) := hS_
   clear hS_ hHeld h0_ h1_ h2_ h3_ h4_ h5_ h6_ h7_ h8_ h9_ h10_ h11_ h12_ h13_ h14_ h15_ h16_ h17_ h18_ h19_ h20_ h21_ h22_ h23_
   have hHeld := hHeld2
   clear hHeld2
   obtain ⟨Aoj103_1_0, coj103_1_0, eoj103_1_0⟩ := Kd.R_slice HOj103_1_0.out
   subst eoj103_1_0
   obtain ⟨Aoj103_3_0, coj103_3_0, eoj103_3_0⟩ := Kd.R_slice HOj103_3_0.out
   subst eoj103_3_0
   obtain ⟨Aoj103_7_0, coj103_7_0, eoj103_7_0⟩ := Kd.S_slice HOj103_7_0.out
   subst eoj103_7_0
   clear hcgb1_0 hfgb1_0 hcgb1_1 hfgb1_1 hcgb1_2 hfgb1_2 hcgb35_0 hfgb35_0 hcgb35_1 hfgb35_1 hcgb35_2 hfgb35_2 hcgb35_3 hfgb35_3 hcgb35_4 hfgb35_4 hcgb35_5 hfgb35_5 hcgb35_6 hfgb35_6 hcgb35_7 hfgb35_7 hcgb35_8 hfgb35_8 hcgb41_0 hfgb41_0 hcgb41_1 hfgb41_1 hcgb41_2 hfgb41_2 hcgb45_0 hfgb45_0 hcgb45_1 hfgb45_1 hcgb45_2 hfgb45_2 hcgb45_3 hfgb45_3 hcgb45_4 hfgb45_4 hcgb45_5 hfgb45_5 hcgb45_6 hfgb45_6 hcgb45_7 hfgb45_7 hcgb45_8 hfgb45_8
   have hcgb1_0 : w105.cell? ⟨gb1, 0, none⟩ = some (.slice A1_0 l1_0.length c1_0) := bc BKgb1.out 0
   have hfgb1_0 := blk_frozen BKgb1.out 0
   have hcgb1_1 : w105.cell? ⟨gb1, 1, none⟩ = some (.int .i64 a1_1) := bc BKgb1.out 1
   have hfgb1_1 := blk_frozen BKgb1.out 1
   have hcgb1_2 : w105.cell? ⟨gb1, 2, none⟩ = some (.int .i64 a1_2) := bc BKgb1.out 2
   have hfgb1_2 := blk_frozen BKgb1.out 2
   have hcgb35_0 : w105.cell? ⟨gb35, 0, none⟩ = some (.int .i64 t12_0) := bc BKgb35.out 0
   have hfgb35_0 := blk_frozen BKgb35.out 0
   have hcgb35_1 : w105.cell? ⟨gb35, 1, none⟩ = some (.int .i64 t12_1) := bc BKgb35.out 1
   have hfgb35_1 := blk_frozen BKgb35.out 1
   have hcgb35_2 : w105.cell? ⟨gb35, 2, none⟩ = some (.slice Aoj34_7_0 t12_2.length coj34_7_0) := bc BKgb35.out 2
   have hfgb35_2 := blk_frozen BKgb35.out 2
   have hcgb35_3 : w105.cell? ⟨gb35, 3, none⟩ = some (.int .i64 t12_3) := bc BKgb35.out 3
   have hfgb35_3 := blk_frozen BKgb35.out 3
   have hcgb35_4 : w105.cell? ⟨gb35, 4, none⟩ = some (.int .i64 t12_4) := bc BKgb35.out 4
   have hfgb35_4 := blk_frozen BKgb35.out 4
   have hcgb35_5 : w105.cell? ⟨gb35, 5, none⟩ = some (.bool t12_5) := bc BKgb35.out 5
   have hfgb35_5 := blk_frozen BKgb35.out 5
   have hcgb35_6 : w105.cell? ⟨gb35, 6, none⟩ = some (.int .i64 t12_6) := bc BKgb35.out 6
   have hfgb35_6 := blk_frozen BKgb35.out 6
   have hcgb35_7 : w105.cell? ⟨gb35, 7, none⟩ = some (.int .i64 t12_7) := bc BKgb35.out 7
   have hfgb35_7 := blk_frozen BKgb35.out 7
   have hcgb35_8 : w105.cell? ⟨gb35, 8, none⟩ = some (.int .i64 t12_8) := bc BKgb35.out 8
   have hfgb35_8 := blk_frozen BKgb35.out 8
   have hcgb41_0 : w105.cell? ⟨gb41, 0, none⟩ = some (.slice Ao39_0 t39_0.length co39_0) := bc BKgb41.out 0
   have hfgb41_0 := blk_frozen BKgb41.out 0
   have hcgb41_1 : w105.cell? ⟨gb41, 1, none⟩ = some (.int .i64 t39_1) := bc BKgb41.out 1
   have hfgb41_1 := blk_frozen BKgb41.out 1
   have hcgb41_2 : w105.cell? ⟨gb41, 2, none⟩ = some (.int .i64 t39_2) := bc BKgb41.out 2
   have hfgb41_2 := blk_frozen BKgb41.out 2
   have hcgb45_0 : w105.cell? ⟨gb45, 0, none⟩ = some (.int .i64 t43_0) := bc BKgb45.out 0
   have hfgb45_0 := blk_frozen BKgb45.out 0
   have hcgb45_1 : w105.cell? ⟨gb45, 1, none⟩ = some (.int .i64 t43_1) := bc BKgb45.out 1
   have hfgb45_1 := blk_frozen BKgb45.out 1
   have hcgb45_2 : w105.cell? ⟨gb45, 2, none⟩ = some (.slice Ao43_2 t43_2.length co43_2) := bc BKgb45.out 2
   have hfgb45_2 := blk_frozen BKgb45.out 2
   have hcgb45_3 : w105.cell? ⟨gb45, 3, none⟩ = some (.int .i64 t43_3) := bc BKgb45.out 3
   have hfgb45_3 := blk_frozen BKgb45.out 3
   have hcgb45_4 : w105.cell? ⟨gb45, 4, none⟩ = some (.int .i64 t43_4) := bc BKgb45.out 4
   have hfgb45_4 := blk_frozen BKgb45.out 4
   have hcgb45_5 : w105.cell? ⟨gb45, 5, none⟩ = some (.bool t43_5) := bc BKgb45.out 5
   have hfgb45_5 := blk_frozen BKgb45.out 5
   have hcgb45_6 : w105.cell? ⟨gb45, 6, none⟩ = some (.int .i64 t43_6) := bc BKgb45.out 6
   have hfgb45_6 := blk_frozen BKgb45.out 6
   have hcgb45_7 : w105.cell? ⟨gb45, 7, none⟩ = some (.int .i64 t43_7) := bc BKgb45.out 7
   have hfgb45_7 := blk_frozen BKgb45.out 7
   have hcgb45_8 : w105.cell? ⟨gb45, 8, none⟩ = some (.int .i64 t43_8) := bc BKgb45.out 8
   have hfgb45_8 := blk_frozen BKgb45.out 8
   have hcgb104_0 : w105.cell? ⟨gb104, 0, none⟩ = some (.int .i64 0) := bc BKgb104.out 0
   have hfgb104_0 := blk_frozen BKgb104.out 0
   have hcgb104_1 : w105.cell? ⟨gb104, 1, none⟩ = some (.int .i64 0) := bc BKgb104.out 1
   have hfgb104_1 := blk_frozen BKgb104.out 1
   have hcgb104_2 : w105.cell? ⟨gb104, 2, none⟩ = some (.slice none 0 0) := bc BKgb104.out 2
   have hfgb104_2 := blk_frozen BKgb104.out 2
   have hcgb104_3 : w105.cell? ⟨gb104, 3, none⟩ = some (.int .i64 0) := bc BKgb104.out 3
   have hfgb104_3 := blk_frozen BKgb104.out 3
   have hcgb104_4 : w105.cell? ⟨gb104, 4, none⟩ = some (.int .i64 0) := bc BKgb104.out 4
   have hfgb104_4 := blk_frozen BKgb104.out 4
   have hcgb104_5 : w105.cell? ⟨gb104, 5, none⟩ = some (.bool false) := bc BKgb104.out 5
   have hfgb104_5 := blk_frozen BKgb104.out 5
   have hcgb104_6 : w105.cell? ⟨gb104, 6, none⟩ = some (.int .i64 0) := bc BKgb104.out 6
   have hfgb104_6 := blk_frozen BKgb104.out 6
   have hcgb104_7 : w105.cell? ⟨gb104, 7, none⟩ = some (.int .i64 0) := bc BKgb104.out 7
   have hfgb104_7 := blk_frozen BKgb104.out 7
   have hcgb104_8 : w105.cell? ⟨gb104, 8, none⟩ = some (.int .i64 0) := bc BKgb104.out 8
   have hfgb104_8 := blk_frozen BKgb104.out 8
   have hxgb104_gb1 : gb104 ≠ gb1 := (by omega)
   have hygb104_gb1 : gb1 ≠ gb104 := (by omega)
   have hxgb104_gb35 : gb104 ≠ gb35 := (by omega)
   have hygb104_gb35 : gb35 ≠ gb104 := (by omega)
   have hxgb104_gb41 : gb104 ≠ gb41 := (by omega)
   have hygb104_gb41 : gb41 ≠ gb104 := (by omega)
   have hxgb104_gb45 : gb104 ≠ gb45 := (by omega)
   have hygb104_gb45 : gb45 ≠ gb104 := (by omega)
   refine norm_ (a' := ?_) ?_ ?_
   rotate_left
   ·simp only [putAll, Act.put, sa_, s0_, ss_]; rfl
   refine one_ (i := 9) (N := none) #[true, true, true, true, true, true, true, true, true, true] rfl rfl (by kernel_rfl) (by decide) (fun K hK => ?_)
   refine skip_ (w1 := ?_) (by rfl) rfl ?_ ?_
   rotate_left
   ·go_simp; rfl
   refine hK.out _ _ ⟨((cell_far (p := ⟨gb104, _, none⟩) hygb104_gb1 _).trans ((cell_far (p := ⟨gb104, _, none⟩) hygb104_gb1 _).trans ((cell_far (p := ⟨gb104, _, none⟩) hygb104_gb1 _).trans ((cell_far (p := ⟨gb104, _, none⟩) hygb104_gb1 _).trans ((cell_far (p := ⟨gb104, _, none⟩) hygb104_gb1 _).trans ((cell_far (p := ⟨gb104, _, none⟩) hygb104_gb1 _).trans ((cell_far (p := ⟨gb104, _, none⟩) hygb104_gb1 _).trans ((cell_far (p := ⟨gb104, _, none⟩) hygb104_gb1 _).trans ((cell_far (p := ⟨gb104, _, none⟩) hygb104_gb1 _).trans (hHeld.1)))))))))), ((cell_far (p := ⟨gb104, _, none⟩) hygb104_gb1 _).trans ((cell_far (p := ⟨gb104, _, none⟩) hygb104_gb1 _).trans ((cell_far (p := ⟨gb104, _, none⟩) hygb104_gb1 _).trans ((cell_far (p := ⟨gb104, _, none⟩) hygb104_gb1 _).trans ((cell_far (p := ⟨gb104, _, none⟩) hygb104_gb1 _).trans ((cell_far (p := ⟨gb104, _, none⟩) hygb104_gb1 _).trans ((cell_far (p := ⟨gb104, _, none⟩) hygb104_gb1 _).trans ((cell_far (p := ⟨gb104, _, none⟩) hygb104_gb1 _).trans ((cell_far (p := ⟨gb104, _, none⟩) hygb104_gb1 _).trans (hHeld.2.1)))))))))), ((cell_far (p := ⟨gb104, _, none⟩) hygb104_gb1 _).trans ((cell_far (p := ⟨gb104, _, none⟩) hygb104_gb1 _).trans ((cell_far (p := ⟨gb104, _, none⟩) hygb104_gb1 _).trans ((cell_far (p := ⟨gb104, _, none⟩) hygb104_gb1 _).trans ((cell_far (p := ⟨gb104, _, none⟩) hygb104_gb1 _).trans ((cell_far (p := ⟨gb104, _, none⟩) hygb104_gb1 _).trans ((cell_far (p := ⟨gb104, _, none⟩) hygb104_gb1 _).trans ((cell_far (p := ⟨gb104, _, none⟩) hygb104_gb1 _).trans ((cell_far (p := ⟨gb104, _, none⟩) hygb104_gb1 _).trans (hHeld.2.2.1)))))))))), ((cell_far (p := ⟨gb104, _, none⟩) hygb104_gb35 _).trans ((cell_far (p := ⟨gb104, _, none⟩) hygb104_gb35 _).trans ((cell_far (p := ⟨gb104, _, none⟩) hygb104_gb35 _).trans ((cell_far (p := ⟨gb104, _, none⟩) hygb104_gb35 _).trans ((cell_far (p := ⟨gb104, _, none⟩) hygb104_gb35 _).trans ((cell_far (p := ⟨gb104, _, none⟩) hygb104_gb35 _).trans ((cell_far (p := ⟨gb104, _, none⟩) hygb104_gb35 _).trans ((cell_far (p := ⟨gb104, _, none⟩) hygb104_gb35 _).trans ((cell_far (p := ⟨gb104, _, none⟩) hygb104_gb35 _).trans (hHeld.2.2.2.1)))))))))), ((cell_far (p := ⟨gb104, _, none⟩) hygb104_gb35 _).trans ((cell_far (p := ⟨gb104, _, none⟩) hygb104_gb35 _).trans ((cell_far (p := ⟨gb104, _, none⟩) hygb104_gb35 _).trans ((cell_far (p := ⟨gb104, _, none⟩) hygb104_gb35 _).trans ((cell_far (p := ⟨gb104, _, none⟩) hygb104_gb35 _).trans ((cell_far (p := ⟨gb104, _, none⟩) hygb104_gb35 _).trans ((cell_far (p := ⟨gb104, _, none⟩) hygb104_gb35 _).trans ((cell_far (p := ⟨gb104, _, none⟩) hygb104_gb35 _).trans ((cell_far (p := ⟨gb104, _, none⟩) hygb104_gb35 _).trans (hHeld.2.2.2.2.1)))))))))), ((cell_far (p := ⟨gb104, _, none⟩) hygb104_gb35 _).trans ((cell_far (p := ⟨gb104, _, none⟩) hygb104_gb35 _).trans ((cell_far (p := ⟨gb104, _, none⟩) hygb104_gb35 _).trans ((cell_far (p := ⟨gb104, _, none⟩) hygb104_gb35 _).trans ((cell_far (p := ⟨gb104, _, none⟩) hygb104_gb35 _).trans ((cell_far (p := ⟨gb104, _, none⟩) hygb104_gb35 _).trans ((cell_far (p := ⟨gb104, _, none⟩) hygb104_gb35 _).trans ((cell_far (p := ⟨gb104, _, none⟩) hygb104_gb35 _).trans ((cell_far (p := ⟨gb104, _, none⟩) hygb104_gb35 _).trans (hHeld.2.2.2.2.2.1)))))))))), ((cell_far (p := ⟨gb104, _, none⟩) hygb104_gb35 _).trans ((cell_far (p := ⟨gb104, _, none⟩) hygb104_gb35 _).trans ((cell_far (p := ⟨gb104, _, none⟩) hygb104_gb35 _).trans ((cell_far (p := ⟨gb104, _, none⟩) hygb104_gb35 _).trans ((cell_far (p := ⟨gb104, _, none⟩) hygb104_gb35 _).trans ((cell_far (p := ⟨gb104, _, none⟩) hygb104_gb35 _).trans ((cell_far (p := ⟨gb104, _, none⟩) hygb104_gb35 _).trans ((cell_far (p := ⟨gb104, _, none⟩) hygb104_gb35 _).trans ((cell_far (p := ⟨gb104, _, none⟩) hygb104_gb35 _).trans (hHeld.2.2.2.2.2.2.1)))))))))), ((cell_far (p := ⟨gb104, _, none⟩) hygb104_gb35 _).trans ((cell_far (p := ⟨gb104, _, none⟩) hygb104_gb35 _).trans ((cell_far (p := ⟨gb104, _, none⟩) hygb104_gb35 _).trans ((cell_far (p := ⟨gb104, _, none⟩) hygb104_gb35 _).trans ((cell_far (p := ⟨gb104, _, none⟩) hygb104_gb35 _).trans ((cell_far (p := ⟨gb104, _, none⟩) hygb104_gb35 _).trans ((cell_far (p := ⟨gb104, _, none⟩) hygb104_gb35 _).trans ((cell_far (p := ⟨gb104, _, none⟩) hygb104_gb35 _).trans ((cell_far (p := ⟨gb104, _, none⟩) hygb104_gb35 _).trans (hHeld.2.2.2.2.2.2.2.1)))))))))), ((cell_far (p := ⟨gb104, _, none⟩) hygb104_gb35 _).trans ((cell_far (p := ⟨gb104, _, none⟩) hygb104_gb35 _).trans ((cell_far (p := ⟨gb104, _, none⟩) hygb104_gb35 _).trans ((cell_far (p := ⟨gb104, _, none⟩) hygb104_gb35 _).trans ((cell_far (p := ⟨gb104, _, none⟩) hygb104_gb35 _).trans ((cell_far (p := ⟨gb104, _, none⟩) hygb104_gb35 _).trans ((cell_far (p := ⟨gb104, _, none⟩) hygb104_gb35 _).trans ((cell_far (p := ⟨gb104, _, none⟩) hygb104_gb35 _).trans ((cell_far (p := ⟨gb104, _, none⟩) hygb104_gb35 _).trans (hHeld.2.2.2.2.2.2.2.2.1)))))))))), ((cell_far (p := ⟨gb104, _, none⟩) hygb104_gb35 _).trans ((cell_far (p := ⟨gb104, _, none⟩) hygb104_gb35 _).trans ((cell_far (p := ⟨gb104, _, none⟩) hygb104_gb35 _).trans ((cell_far (p := ⟨gb104, _, none⟩) hygb104_gb35 _).trans ((cell_far (p := ⟨gb104, _, none⟩) hygb104_gb35 _).trans ((cell_far (p := ⟨gb104, _, none⟩) hygb104_gb35 _).trans ((cell_far (p := ⟨gb104, _, none⟩) hygb104_gb35 _).trans ((cell_far (p := ⟨gb104, _, none⟩) hygb104_gb35 _).trans ((cell_far (p := ⟨gb104, _, none⟩) hygb104_gb35 _).trans (hHeld.2.2.2.2.2.2.2.2.2.1)))))))))), ((cell_far (p := ⟨gb104, _, none⟩) hygb104_gb35 _).trans ((cell_far (p := ⟨gb104, _, none⟩) hygb104_gb35 _).trans ((cell_far (p := ⟨gb104, _, none⟩) hygb104_gb35 _).trans ((cell_far (p := ⟨gb104, _, none⟩) hygb104_gb35 _).trans ((cell_far (p := ⟨gb104, _, none⟩) hygb104_gb35 _).trans ((cell_far (p := ⟨gb104, _, none⟩) hygb104_gb35 _).trans ((cell_far (p := ⟨gb104, _, none⟩) hygb104_gb35 _).trans ((cell_far (p := ⟨gb104, _, none⟩) hygb104_gb35 _).trans ((cell_far (p := ⟨gb104, _, none⟩) hygb104_gb35 _).trans (hHeld.2.2.2.2.2.2.2.2.2.2.1)))))))))), ((cell_far (p := ⟨gb104, _, none⟩) hygb104_gb35 _).trans ((cell_far (p := ⟨gb104, _, none⟩) hygb104_gb35 _).trans ((cell_far (p := ⟨gb104, _, none⟩) hygb104_gb35 _).trans ((cell_far (p := ⟨gb104, _, none⟩) hygb104_gb35 _).trans ((cell_far (p := ⟨gb104, _, none⟩) hygb104_gb35 _).trans ((cell_far (p := ⟨gb104, _, none⟩) hygb104_gb35 _).trans ((cell_far (p := ⟨gb104, _, none⟩) hygb104_gb35 _).trans ((cell_far (p := ⟨gb104, _, none⟩) hygb104_gb35 _).trans ((cell_far (p := ⟨gb104, _, none⟩) hygb104_gb35 _).trans (hHeld.2.2.2.2.2.2.2.2.2.2.2.1)))))))))), ((cell_far (p := ⟨gb104, _, none⟩) hygb104_gb41 _).trans ((cell_far (p := ⟨gb104, _, none⟩) hygb104_gb41 _).trans ((cell_far (p := ⟨gb104, _, none⟩) hygb104_gb41 _).trans ((cell_far (p := ⟨gb104, _, none⟩) hygb104_gb41 _).trans ((cell_far (p := ⟨gb104, _, none⟩) hygb104_gb41 _).trans ((cell_far (p := ⟨gb104, _, none⟩) hygb104_gb41 _).trans ((cell_far (p := ⟨gb104, _, none⟩) hygb104_gb41 _).trans ((cell_far (p := ⟨gb104, _, none⟩) hygb104_gb41 _).trans ((cell_far (p := ⟨gb104, _, none⟩) hygb104_gb41 _).trans (hHeld.2.2.2.2.2.2.2.2.2.2.2.2.1)))))))))), ((cell_far (p := ⟨gb104, _, none⟩) hygb104_gb41 _).trans ((cell_far (p := ⟨gb104, _, none⟩) hygb104_gb41 _).trans ((cell_far (p := ⟨gb104, _, none⟩) hygb104_gb41 _).trans ((cell_far (p := ⟨gb104, _, none⟩) hygb104_gb41 _).trans ((cell_far (p := ⟨gb104, _, none⟩) hygb104_gb41 _).trans ((cell_far (p := ⟨gb104, _, none⟩) hygb104_gb41 _).trans ((cell_far (p := ⟨gb104, _, none⟩) hygb104_gb41 _).trans ((cell_far (p := ⟨gb104, _, none⟩) hygb104_gb41 _).trans ((cell_far (p := ⟨gb104, _, none⟩) hygb104_gb41 _).trans (hHeld.2.2.2.2.2.2.2.2.2.2.2.2.2.1)))))))))), ((cell_far (p := ⟨gb104, _, none⟩) hygb104_gb41 _).trans ((cell_far (p := ⟨gb104, _, none⟩) hygb104_gb41 _).trans ((cell_far (p := ⟨gb104, _, none⟩) hygb104_gb41 _).trans ((cell_far (p := ⟨gb104, _, none⟩) hygb104_gb41 _).trans ((cell_far (p := ⟨gb104, _, none⟩) hygb104_gb41 _).trans ((cell_far (p := ⟨gb104, _, none⟩) hygb104_gb41 _).trans ((cell_far (p := ⟨gb104, _, none⟩) hygb104_gb41 _).trans ((cell_far (p := ⟨gb104, _, none⟩) hygb104_gb41 _).trans ((cell_far (p := ⟨gb104, _, none⟩) hygb104_gb41 _).trans (hHeld.2.2.2.2.2.2.2.2.2.2.2.2.2.2.1)))))))))), ((cell_far (p := ⟨gb104, _, none⟩) hygb104_gb45 _).trans ((cell_far (p := ⟨gb104, _, none⟩) hygb104_gb45 _).trans ((cell_far (p := ⟨gb104, _, none⟩) hygb104_gb45 _).trans ((cell_far (p := ⟨gb104, _, none⟩) hygb104_gb45 _).trans ((cell_far (p := ⟨gb104, _, none⟩) hygb104_gb45 _).trans ((cell_far (p := ⟨gb104, _, none⟩) hygb104_gb45 _).trans ((cell_far (p := ⟨gb104, _, none⟩) hygb104_gb45 _).trans ((cell_far (p := ⟨gb104, _, none⟩) hygb104_gb45 _).trans ((cell_far (p := ⟨gb104, _, none⟩) hygb104_gb45 _).trans (hHeld.2.2.2.2.2.2.2.2.2.2.2.2.2.2.2.1)))))))))), ((cell_far (p := ⟨gb104, _, none⟩) hygb104_gb45 _).trans ((cell_far (p := ⟨gb104, _, none⟩) hygb104_gb45 _).trans ((cell_far (p := ⟨gb104, _, none⟩) hygb104_gb45 _).trans ((cell_far (p := ⟨gb104, _, none⟩) hygb104_gb45 _).trans ((cell_far (p := ⟨gb104, _, none⟩) hygb104_gb45 _).trans ((cell_far (p := ⟨gb104, _, none⟩) hygb104_gb45 _).trans ((cell_far (p := ⟨gb104, _, none⟩) hygb104_gb45 _).trans ((cell_far (p := ⟨gb104, _, none⟩) hygb104_gb45 _).trans ((cell_far (p := ⟨gb104, _, none⟩) hygb104_gb45 _).trans (hHeld.2.2.2.2.2.2.2.2.2.2.2.2.2.2.2.2.1)))))))))), ((cell_far (p := ⟨gb104, _, none⟩) hygb104_gb45 _).trans ((cell_far (p := ⟨gb104, _, none⟩) hygb104_gb45 _).trans ((cell_far (p := ⟨gb104, _, none⟩) hygb104_gb45 _).trans ((cell_far (p := ⟨gb104, _, none⟩) hygb104_gb45 _).trans ((cell_far (p := ⟨gb104, _, none⟩) hygb104_gb45 _).trans ((cell_far (p := ⟨gb104, _, none⟩) hygb104_gb45 _).trans ((cell_far (p := ⟨gb104, _, none⟩) hygb104_gb45 _).trans ((cell_far (p := ⟨gb104, _, none⟩) hygb104_gb45 _).trans ((cell_far (p := ⟨gb104, _, none⟩) hygb104_gb45 _).trans (hHeld.2.2.2.2.2.2.2.2.2.2.2.2.2.2.2.2.2.1)))))))))), ((cell_far (p := ⟨gb104, _, none⟩) hygb104_gb45 _).trans ((cell_far (p := ⟨gb104, _, none⟩) hygb104_gb45 _).trans ((cell_far (p := ⟨gb104, _, none⟩) hygb104_gb45 _).trans ((cell_far (p := ⟨gb104, _, none⟩) hygb104_gb45 _).trans ((cell_far (p := ⟨gb104, _, none⟩) hygb104_gb45 _).trans ((cell_far (p := ⟨gb104, _, none⟩) hygb104_gb45 _).trans ((cell_far (p := ⟨gb104, _, none⟩) hygb104_gb45 _).trans ((cell_far (p := ⟨gb104, _, none⟩) hygb104_gb45 _).trans ((cell_far (p := ⟨gb104, _, none⟩) hygb104_gb45 _).trans (hHeld.2.2.2.2.2.2.2.2.2.2.2.2.2.2.2.2.2.2.1)))))))))), ((cell_far (p := ⟨gb104, _, none⟩) hygb104_gb45 _).trans ((cell_far (p := ⟨gb104, _, none⟩) hygb104_gb45 _).trans ((cell_far (p := ⟨gb104, _, none⟩) hygb104_gb45 _).trans ((cell_far (p := ⟨gb104, _, none⟩) hygb104_gb45 _).trans ((cell_far (p := ⟨gb104, _, none⟩) hygb104_gb45 _).trans ((cell_far (p := ⟨gb104, _, none⟩) hygb104_gb45 _).trans ((cell_far (p := ⟨gb104, _, none⟩) hygb104_gb45 _).trans ((cell_far (p := ⟨gb104, _, none⟩) hygb104_gb45 _).trans ((cell_far (p := ⟨gb104, _, none⟩) hygb104_gb45 _).trans (hHeld.2.2.2.2.2.2.2.2.2.2.2.2.2.2.2.2.2.2.2.1)))))))))), ((cell_far (p := ⟨gb104, _, none⟩) hygb104_gb45 _).trans ((cell_far (p := ⟨gb104, _, none⟩) hygb104_gb45 _).trans ((cell_far (p := ⟨gb104, _, none⟩) hygb104_gb45 _).trans ((cell_far (p := ⟨gb104, _, none⟩) hygb104_gb45 _).trans ((cell_far (p := ⟨gb104, _, none⟩) hygb104_gb45 _).trans ((cell_far (p := ⟨gb104, _, none⟩) hygb104_gb45 _).trans ((cell_far (p := ⟨gb104, _, none⟩) hygb104_gb45 _).trans ((cell_far (p := ⟨gb104, _, none⟩) hygb104_gb45 _).trans ((cell_far (p := ⟨gb104, _, none⟩) hygb104_gb45 _).trans (hHeld.2.2.2.2.2.2.2.2.2.2.2.2.2.2.2.2.2.2.2.2.1)))))))))), ((cell_far (p := ⟨gb104, _, none⟩) hygb104_gb45 _).trans ((cell_far (p := ⟨gb104, _, none⟩) hygb104_gb45 _).trans ((cell_far (p := ⟨gb104, _, none⟩) hygb104_gb45 _).trans ((cell_far (p := ⟨gb104, _, none⟩) hygb104_gb45 _).trans ((cell_far (p := ⟨gb104, _, none⟩) hygb104_gb45 _).trans ((cell_far (p := ⟨gb104, _, none⟩) hygb104_gb45 _).trans ((cell_far (p := ⟨gb104, _, none⟩) hygb104_gb45 _).trans ((cell_far (p := ⟨gb104, _, none⟩) hygb104_gb45 _).trans ((cell_far (p := ⟨gb104, _, none⟩) hygb104_gb45 _).trans (hHeld.2.2.2.2.2.2.2.2.2.2.2.2.2.2.2.2.2.2.2.2.2.1)))))))))), ((cell_far (p := ⟨gb104, _, none⟩) hygb104_gb45 _).trans ((cell_far (p := ⟨gb104, _, none⟩) hygb104_gb45 _).trans ((cell_far (p := ⟨gb104, _, none⟩) hygb104_gb45 _).trans ((cell_far (p := ⟨gb104, _, none⟩) hygb104_gb45 _).trans ((cell_far (p := ⟨gb104, _, none⟩) hygb104_gb45 _).trans ((cell_far (p := ⟨gb104, _, none⟩) hygb104_gb45 _).trans ((cell_far (p := ⟨gb104, _, none⟩) hygb104_gb45 _).trans ((cell_far (p := ⟨gb104, _, none⟩) hygb104_gb45 _).trans ((cell_far (p := ⟨gb104, _, none⟩) hygb104_gb45 _).trans (hHeld.2.2.2.2.2.2.2.2.2.2.2.2.2.2.2.2.2.2.2.2.2.2.1)))))))))), ((cell_far (p := ⟨gb104, _, none⟩) hygb104_gb45 _).trans ((cell_far (p := ⟨gb104, _, none⟩) hygb104_gb45 _).trans ((cell_far (p := ⟨gb104, _, none⟩) hygb104_gb45 _).trans ((cell_far (p := ⟨gb104, _, none⟩) hygb104_gb45 _).trans ((cell_far (p := ⟨gb104, _, none⟩) hygb104_gb45 _).trans ((cell_far (p := ⟨gb104, _, none⟩) hygb104_gb45 _).trans ((cell_far (p := ⟨gb104, _, none⟩) hygb104_gb45 _).trans ((cell_far (p := ⟨gb104, _, none⟩) hygb104_gb45 _).trans ((cell_far (p := ⟨gb104, _, none⟩) hygb104_gb45 _).trans (hHeld.2.2.2.2.2.2.2.2.2.2.2.2.2.2.2.2.2.2.2.2.2.2.2))))))))))⟩ (fun hHeld => ?_)
   clear hK K
   refine done_ (by kernel_rfl) ?_
   go_wp2_with (first | ((with_reducible refine gate_callee (f := 14) rfl ?_); refine gl (some 95) Try.func14 #[.agg #[.int .i64 t81_0, .int .i64 t81_1, .slice Aoj103_7_0 t81_2.length coj103_7_0, .int .i64 t81_3, .int .i64 t81_4, .bool t81_5, .int .i64 t81_6, .int .i64 t81_7, .int .i64 t81_8], .agg #[.int .i64 t12_0, .int .i64 t12_1, .slice Aoj34_7_0 t12_2.length coj34_7_0, .int .i64 t12_3, .int .i64 t12_4, .bool t12_5, .int .i64 t12_6, .int .i64 t12_7, .int .i64 t12_8]] ?_; (with_reducible refine (laws_eqView.calls k t81_0 t81_1 _ _ t81_2 t81_3 t81_4 t81_5 t81_6 t81_7 t81_8 t12_0 t12_1 _ _ t12_2 t12_3 t12_4 t12_5 t12_6 t12_7 t12_8 true _ ?s0 ?s1 ?s2 ?s3 A106.out).mono ?_); (case s0 => exact (Kd.S_reads' (S_farR (g := gb104) (S_farR (g := gb104) (S_farR (g := gb104) (S_farR (g := gb104) (S_farR (g := gb104) (S_farR (g := gb104) (S_farR (g := gb104) (S_farR (g := gb104) (S_farR (g := gb104) HOj103_7_0.out (by omega) _) (by omega) _) (by omega) _) (by omega) _) (by omega) _) (by omega) _) (by omega) _) (by omega) _) (by omega) _)).2.2); (case s1 => exact (Kd.S_reads' HOj103_7_0.out).2.1); (case s2 => exact (Kd.R_reads' (R_farR (g := gb104) (R_farR (g := gb104) (R_farR (g := gb104) (R_farR (g := gb104) (R_farR (g := gb104) (R_farR (g := gb104) (R_farR (g := gb104) (R_farR (g := gb104) (R_farR (g := gb104) HOj34_7_0.out (by omega) _) (by omega) _) (by omega) _) (by omega) _) (by omega) _) (by omega) _) (by omega) _) (by omega) _) (by omega) _)).2.2); (case s3 => exact (Kd.R_reads' HOj34_7_0.out).2.1); rintro e w107 ⟨rfl, hb⟩; refine ⟨_, rfl, ?_⟩; obtain ⟨na106, nb106, ha_, hz_, hab106⟩ := nxt_ hb; have hn106 : nl103 ≤ na106 := (by rw [ha_]; exact (sz_set (sz_set (sz_set (sz_set (sz_set (sz_set (sz_set (sz_set (sz_set HZ.out)))))))))); replace HOj34_1_0 := am (Kd.R_below (R_farR (g := gb104) (R_farR (g := gb104) (R_farR (g := gb104) (R_farR (g := gb104) (R_farR (g := gb104) (R_farR (g := gb104) (R_farR (g := gb104) (R_farR (g := gb104) (R_farR (g := gb104) HOj34_1_0.out (by omega) _) (by omega) _) (by omega) _) (by omega) _) (by omega) _) (by omega) _) (by omega) _) (by omega) _) (by omega) _) hb); replace HOj34_3_0 := am (Kd.R_below (R_farR (g := gb104) (R_farR (g := gb104) (R_farR (g := gb104) (R_farR (g := gb104) (R_farR (g := gb104) (R_farR (g := gb104) (R_farR (g := gb104) (R_farR (g := gb104) (R_farR (g := gb104) HOj34_3_0.out (by omega) _) (by omega) _) (by omega) _) (by omega) _) (by omega) _) (by omega) _) (by omega) _) (by omega) _) (by omega) _) hb); replace HOj34_7_0 := am (Kd.R_below (R_farR (g := gb104) (R_farR (g := gb104) (R_farR (g := gb104) (R_farR (g := gb104) (R_farR (g := gb104) (R_farR (g := gb104) (R_farR (g := gb104) (R_farR (g := gb104) (R_farR (g := gb104) HOj34_7_0.out (by omega) _) (by omega) _) (by omega) _) (by omega) _) (by omega) _) (by omega) _) (by omega) _) (by omega) _) (by omega) _) hb); replace HO37_0 := am (Kd.R_below (R_farR (g := gb104) (R_farR (g := gb104) (R_farR (g := gb104) (R_farR (g := gb104) (R_farR (g := gb104) (R_farR (g := gb104) (R_farR (g := gb104) (R_farR (g := gb104) (R_farR (g := gb104) HO37_0.out (by omega) _) (by omega) _) (by omega) _) (by omega) _) (by omega) _) (by omega) _) (by omega) _) (by omega) _) (by omega) _) hb); replace HO39_0 := am (Kd.R_below (R_farR (g := gb104) (R_farR (g := gb104) (R_farR (g := gb104) (R_farR (g := gb104) (R_farR (g := gb104) (R_farR (g := gb104) (R_farR (g := gb104) (R_farR (g := gb104) (R_farR (g := gb104) HO39_0.out (by omega) _) (by omega) _) (by omega) _) (by omega) _) (by omega) _) (by omega) _) (by omega) _) (by omega) _) (by omega) _) hb); replace HO43_2 := am (Kd.S_below (S_farR (g := gb104) (S_farR (g := gb104) (S_farR (g := gb104) (S_farR (g := gb104) (S_farR (g := gb104) (S_farR (g := gb104) (S_farR (g := gb104) (S_farR (g := gb104) (S_farR (g := gb104) HO43_2.out (by omega) _) (by omega) _) (by omega) _) (by omega) _) (by omega) _) (by omega) _) (by omega) _) (by omega) _) (by omega) _) hb); replace HO50_0 := am (Kd.R_below (R_farR (g := gb104) (R_farR (g := gb104) (R_farR (g := gb104) (R_farR (g := gb104) (R_farR (g := gb104) (R_farR (g := gb104) (R_farR (g := gb104) (R_farR (g := gb104) (R_farR (g := gb104) HO50_0.out (by omega) _) (by omega) _) (by omega) _) (by omega) _) (by omega) _) (by omega) _) (by omega) _) (by omega) _) (by omega) _) hb); replace HO57_0 := am (Kd.R_below (R_farR (g := gb104) (R_farR (g := gb104) (R_farR (g := gb104) (R_farR (g := gb104) (R_farR (g := gb104) (R_farR (g := gb104) (R_farR (g := gb104) (R_farR (g := gb104) (R_farR (g := gb104) HO57_0.out (by omega) _) (by omega) _) (by omega) _) (by omega) _) (by omega) _) (by omega) _) (by omega) _) (by omega) _) (by omega) _) hb); replace HOj103_1_0 := am (Kd.R_below (R_farR (g := gb104) (R_farR (g := gb104) (R_farR (g := gb104) (R_farR (g := gb104) (R_farR (g := gb104) (R_farR (g := gb104) (R_farR (g := gb104) (R_farR (g := gb104) (R_farR (g := gb104) HOj103_1_0.out (by omega) _) (by omega) _) (by omega) _) (by omega) _) (by omega) _) (by omega) _) (by omega) _) (by omega) _) (by omega) _) hb); replace HOj103_3_0 := am (Kd.R_below (R_farR (g := gb104) (R_farR (g := gb104) (R_farR (g := gb104) (R_farR (g := gb104) (R_farR (g := gb104) (R_farR (g := gb104) (R_farR (g := gb104) (R_farR (g := gb104) (R_farR (g := gb104) HOj103_3_0.out (by omega) _) (by omega) _) (by omega) _) (by omega) _) (by omega) _) (by omega) _) (by omega) _) (by omega) _) (by omega) _) hb); replace HOj103_7_0 := am (Kd.S_below (S_farR (g := gb104) (S_farR (g := gb104) (S_farR (g := gb104) (S_farR (g := gb104) (S_farR (g := gb104) (S_farR (g := gb104) (S_farR (g := gb104) (S_farR (g := gb104) (S_farR (g := gb104) HOj103_7_0.out (by omega) _) (by omega) _) (by omega) _) (by omega) _) (by omega) _) (by omega) _) (by omega) _) (by omega) _) (by omega) _) hb); replace BKgb1 := am (blk_below (g := gb1) (o := .cells #[.slice A1_0 l1_0.length c1_0, .int .i64 a1_1, .int .i64 a1_2] 24 (0, 0)) (by refine pk ?_; refine blk_far ?_ (show gb1 ≠ gb104 by omega) _; refine pk ?_; refine blk_far ?_ (show gb1 ≠ gb104 by omega) _; refine pk ?_; refine blk_far ?_ (show gb1 ≠ gb104 by omega) _; refine pk ?_; refine blk_far ?_ (show gb1 ≠ gb104 by omega) _; refine pk ?_; refine blk_far ?_ (show gb1 ≠ gb104 by omega) _; refine pk ?_; refine blk_far ?_ (show gb1 ≠ gb104 by omega) _; refine pk ?_; refine blk_far ?_ (show gb1 ≠ gb104 by omega) _; refine pk ?_; refine blk_far ?_ (show gb1 ≠ gb104 by omega) _; refine pk ?_; refine blk_far ?_ (show gb1 ≠ gb104 by omega) _; refine pk ?_; exact BKgb1.out) hb); replace BKgb35 := am (blk_below (g := gb35) (o := .cells #[.int .i64 t12_0, .int .i64 t12_1, .slice Aoj34_7_0 t12_2.length coj34_7_0, .int .i64 t12_3, .int .i64 t12_4, .bool t12_5, .int .i64 t12_6, .int .i64 t12_7, .int .i64 t12_8] 30 (0, 0)) (by refine pk ?_; refine blk_far ?_ (show gb35 ≠ gb104 by omega) _; refine pk ?_; refine blk_far ?_ (show gb35 ≠ gb104 by omega) _; refine pk ?_; refine blk_far ?_ (show gb35 ≠ gb104 by omega) _; refine pk ?_; refine blk_far ?_ (show gb35 ≠ gb104 by omega) _; refine pk ?_; refine blk_far ?_ (show gb35 ≠ gb104 by omega) _; refine pk ?_; refine blk_far ?_ (show gb35 ≠ gb104 by omega) _; refine pk ?_; refine blk_far ?_ (show gb35 ≠ gb104 by omega) _; refine pk ?_; refine blk_far ?_ (show gb35 ≠ gb104 by omega) _; refine pk ?_; refine blk_far ?_ (show gb35 ≠ gb104 by omega) _; refine pk ?_; exact BKgb35.out) hb); replace BKgb41 := am (blk_below (g := gb41) (o := .cells #[.slice Ao39_0 t39_0.length co39_0, .int .i64 t39_1, .int .i64 t39_2] 33 (0, 0)) (by refine pk ?_; refine blk_far ?_ (show gb41 ≠ gb104 by omega) _; refine pk ?_; refine blk_far ?_ (show gb41 ≠ gb104 by omega) _; refine pk ?_; refine blk_far ?_ (show gb41 ≠ gb104 by omega) _; refine pk ?_; refine blk_far ?_ (show gb41 ≠ gb104 by omega) _; refine pk ?_; refine blk_far ?_ (show gb41 ≠ gb104 by omega) _; refine pk ?_; refine blk_far ?_ (show gb41 ≠ gb104 by omega) _; refine pk ?_; refine blk_far ?_ (show gb41 ≠ gb104 by omega) _; refine pk ?_; refine blk_far ?_ (show gb41 ≠ gb104 by omega) _; refine pk ?_; refine blk_far ?_ (show gb41 ≠ gb104 by omega) _; refine pk ?_; exact BKgb41.out) hb); replace BKgb45 := am (blk_below (g := gb45) (o := .cells #[.int .i64 t43_0, .int .i64 t43_1, .slice Ao43_2 t43_2.length co43_2, .int .i64 t43_3, .int .i64 t43_4, .bool t43_5, .int .i64 t43_6, .int .i64 t43_7, .int .i64 t43_8] 30 (0, 0)) (by refine pk ?_; refine blk_far ?_ (show gb45 ≠ gb104 by omega) _; refine pk ?_; refine blk_far ?_ (show gb45 ≠ gb104 by omega) _; refine pk ?_; refine blk_far ?_ (show gb45 ≠ gb104 by omega) _; refine pk ?_; refine blk_far ?_ (show gb45 ≠ gb104 by omega) _; refine pk ?_; refine blk_far ?_ (show gb45 ≠ gb104 by omega) _; refine pk ?_; refine blk_far ?_ (show gb45 ≠ gb104 by omega) _; refine pk ?_; refine blk_far ?_ (show gb45 ≠ gb104 by omega) _; refine pk ?_; refine blk_far ?_ (show gb45 ≠ gb104 by omega) _; refine pk ?_; refine blk_far ?_ (show gb45 ≠ gb104 by omega) _; refine pk ?_; exact BKgb45.out) hb); replace BKgb104 := am (blk_below (g := gb104) (o := .cells #[.int .i64 t81_0, .int .i64 t81_1, .slice Aoj103_7_0 t81_2.length coj103_7_0, .int .i64 t81_3, .int .i64 t81_4, .bool t81_5, .int .i64 t81_6, .int .i64 t81_7, .int .i64 t81_8] 30 (0, 0)) (by refine pk ?_; refine blk_put (cs := #[.int .i64 t81_0, .int .i64 t81_1, .slice Aoj103_7_0 t81_2.length coj103_7_0, .int .i64 t81_3, .int .i64 t81_4, .bool t81_5, .int .i64 t81_6, .int .i64 t81_7, .int .i64 0]) ?_ 8 _ rfl; refine pk ?_; refine blk_put (cs := #[.int .i64 t81_0, .int .i64 t81_1, .slice Aoj103_7_0 t81_2.length coj103_7_0, .int .i64 t81_3, .int .i64 t81_4, .bool t81_5, .int .i64 t81_6, .int .i64 0, .int .i64 0]) ?_ 7 _ rfl; refine pk ?_; refine blk_put (cs := #[.int .i64 t81_0, .int .i64 t81_1, .slice Aoj103_7_0 t81_2.length coj103_7_0, .int .i64 t81_3, .int .i64 t81_4, .bool t81_5, .int .i64 0, .int .i64 0, .int .i64 0]) ?_ 6 _ rfl; refine pk ?_; refine blk_put (cs := #[.int .i64 t81_0, .int .i64 t81_1, .slice Aoj103_7_0 t81_2.length coj103_7_0, .int .i64 t81_3, .int .i64 t81_4, .bool false, .int .i64 0, .int .i64 0, .int .i64 0]) ?_ 5 _ rfl; refine pk ?_; refine blk_put (cs := #[.int .i64 t81_0, .int .i64 t81_1, .slice Aoj103_7_0 t81_2.length coj103_7_0, .int .i64 t81_3, .int .i64 0, .bool false, .int .i64 0, .int .i64 0, .int .i64 0]) ?_ 4 _ rfl; refine pk ?_; refine blk_put (cs := #[.int .i64 t81_0, .int .i64 t81_1, .slice Aoj103_7_0 t81_2.length coj103_7_0, .int .i64 0, .int .i64 0, .bool false, .int .i64 0, .int .i64 0, .int .i64 0]) ?_ 3 _ rfl; refine pk ?_; refine blk_put (cs := #[.int .i64 t81_0, .int .i64 t81_1, .slice none 0 0, .int .i64 0, .int .i64 0, .bool false, .int .i64 0, .int .i64 0, .int .i64 0]) ?_ 2 _ rfl; refine pk ?_; refine blk_put (cs := #[.int .i64 t81_0, .int .i64 0, .slice none 0 0, .int .i64 0, .int .i64 0, .bool false, .int .i64 0, .int .i64 0, .int .i64 0]) ?_ 1 _ rfl; refine pk ?_; refine blk_put (cs := #[.int .i64 0, .int .i64 0, .slice none 0 0, .int .i64 0, .int .i64 0, .bool false, .int .i64 0, .int .i64 0, .int .i64 0]) ?_ 0 _ rfl; refine pk ?_; exact BKgb104.out) hb); replace HB := am (below_step (below_set (below_set (below_set (below_set (below_set (below_set (below_set (below_set (below_set HB.out GEgb104) GEgb104) GEgb104) GEgb104) GEgb104) GEgb104) GEgb104) GEgb104) GEgb104) hb); replace HZ := am (Nat.le_of_eq hz_); clear hb ha_ hz_ ; clear hcgb1_0 hfgb1_0 hcgb1_1 hfgb1_1 hcgb1_2 hfgb1_2 hcgb35_0 hfgb35_0 hcgb35_1 hfgb35_1 hcgb35_2 hfgb35_2 hcgb35_3 hfgb35_3 hcgb35_4 hfgb35_4 hcgb35_5 hfgb35_5 hcgb35_6 hfgb35_6 hcgb35_7 hfgb35_7 hcgb35_8 hfgb35_8 hcgb41_0 hfgb41_0 hcgb41_1 hfgb41_1 hcgb41_2 hfgb41_2 hcgb45_0 hfgb45_0 hcgb45_1 hfgb45_1 hcgb45_2 hfgb45_2 hcgb45_3 hfgb45_3 hcgb45_4 hfgb45_4 hcgb45_5 hfgb45_5 hcgb45_6 hfgb45_6 hcgb45_7 hfgb45_7 hcgb45_8 hfgb45_8 hcgb104_0 hfgb104_0 hcgb104_1 hfgb104_1 hcgb104_2 hfgb104_2 hcgb104_3 hfgb104_3 hcgb104_4 hfgb104_4 hcgb104_5 hfgb104_5 hcgb104_6 hfgb104_6 hcgb104_7 hfgb104_7 hcgb104_8 hfgb104_8; have hcgb1_0 : w107.cell? ⟨gb1, 0, none⟩ = some (.slice A1_0 l1_0.length c1_0) := bc BKgb1.out 0; have hfgb1_0 := blk_frozen BKgb1.out 0; have hcgb1_1 : w107.cell? ⟨gb1, 1, none⟩ = some (.int .i64 a1_1) := bc BKgb1.out 1; have hfgb1_1 := blk_frozen BKgb1.out 1; have hcgb1_2 : w107.cell? ⟨gb1, 2, none⟩ = some (.int .i64 a1_2) := bc BKgb1.out 2; have hfgb1_2 := blk_frozen BKgb1.out 2; have hcgb35_0 : w107.cell? ⟨gb35, 0, none⟩ = some (.int .i64 t12_0) := bc BKgb35.out 0; have hfgb35_0 := blk_frozen BKgb35.out 0; have hcgb35_1 : w107.cell? ⟨gb35, 1, none⟩ = some (.int .i64 t12_1) := bc BKgb35.out 1; have hfgb35_1 := blk_frozen BKgb35.out 1; have hcgb35_2 : w107.cell? ⟨gb35, 2, none⟩ = some (.slice Aoj34_7_0 t12_2.length coj34_7_0) := bc BKgb35.out 2; have hfgb35_2 := blk_frozen BKgb35.out 2; have hcgb35_3 : w107.cell? ⟨gb35, 3, none⟩ = some (.int .i64 t12_3) := bc BKgb35.out 3; have hfgb35_3 := blk_frozen BKgb35.out 3; have hcgb35_4 : w107.cell? ⟨gb35, 4, none⟩ = some (.int .i64 t12_4) := bc BKgb35.out 4; have hfgb35_4 := blk_frozen BKgb35.out 4; have hcgb35_5 : w107.cell? ⟨gb35, 5, none⟩ = some (.bool t12_5) := bc BKgb35.out 5; have hfgb35_5 := blk_frozen BKgb35.out 5; have hcgb35_6 : w107.cell? ⟨gb35, 6, none⟩ = some (.int .i64 t12_6) := bc BKgb35.out 6; have hfgb35_6 := blk_frozen BKgb35.out 6; have hcgb35_7 : w107.cell? ⟨gb35, 7, none⟩ = some (.int .i64 t12_7) := bc BKgb35.out 7; have hfgb35_7 := blk_frozen BKgb35.out 7; have hcgb35_8 : w107.cell? ⟨gb35, 8, none⟩ = some (.int .i64 t12_8) := bc BKgb35.out 8; have hfgb35_8 := blk_frozen BKgb35.out 8; have hcgb41_0 : w107.cell? ⟨gb41, 0, none⟩ = some (.slice Ao39_0 t39_0.length co39_0) := bc BKgb41.out 0; have hfgb41_0 := blk_frozen BKgb41.out 0; have hcgb41_1 : w107.cell? ⟨gb41, 1, none⟩ = some (.int .i64 t39_1) := bc BKgb41.out 1; have hfgb41_1 := blk_frozen BKgb41.out 1; have hcgb41_2 : w107.cell? ⟨gb41, 2, none⟩ = some (.int .i64 t39_2) := bc BKgb41.out 2; have hfgb41_2 := blk_frozen BKgb41.out 2; have hcgb45_0 : w107.cell? ⟨gb45, 0, none⟩ = some (.int .i64 t43_0) := bc BKgb45.out 0; have hfgb45_0 := blk_frozen BKgb45.out 0; have hcgb45_1 : w107.cell? ⟨gb45, 1, none⟩ = some (.int .i64 t43_1) := bc BKgb45.out 1; have hfgb45_1 := blk_frozen BKgb45.out 1; have hcgb45_2 : w107.cell? ⟨gb45, 2, none⟩ = some (.slice Ao43_2 t43_2.length co43_2) := bc BKgb45.out 2; have hfgb45_2 := blk_frozen BKgb45.out 2; have hcgb45_3 : w107.cell? ⟨gb45, 3, none⟩ = some (.int .i64 t43_3) := bc BKgb45.out 3; have hfgb45_3 := blk_frozen BKgb45.out 3; have hcgb45_4 : w107.cell? ⟨gb45, 4, none⟩ = some (.int .i64 t43_4) := bc BKgb45.out 4; have hfgb45_4 := blk_frozen BKgb45.out 4; have hcgb45_5 : w107.cell? ⟨gb45, 5, none⟩ = some (.bool t43_5) := bc BKgb45.out 5; have hfgb45_5 := blk_frozen BKgb45.out 5; have hcgb45_6 : w107.cell? ⟨gb45, 6, none⟩ = some (.int .i64 t43_6) := bc BKgb45.out 6; have hfgb45_6 := blk_frozen BKgb45.out 6; have hcgb45_7 : w107.cell? ⟨gb45, 7, none⟩ = some (.int .i64 t43_7) := bc BKgb45.out 7; have hfgb45_7 := blk_frozen BKgb45.out 7; have hcgb45_8 : w107.cell? ⟨gb45, 8, none⟩ = some (.int .i64 t43_8) := bc BKgb45.out 8; have hfgb45_8 := blk_frozen BKgb45.out 8; have hcgb104_0 : w107.cell? ⟨gb104, 0, none⟩ = some (.int .i64 t81_0) := bc BKgb104.out 0; have hfgb104_0 := blk_frozen BKgb104.out 0; have hcgb104_1 : w107.cell? ⟨gb104, 1, none⟩ = some (.int .i64 t81_1) := bc BKgb104.out 1; have hfgb104_1 := blk_frozen BKgb104.out 1; have hcgb104_2 : w107.cell? ⟨gb104, 2, none⟩ = some (.slice Aoj103_7_0 t81_2.length coj103_7_0) := bc BKgb104.out 2; have hfgb104_2 := blk_frozen BKgb104.out 2; have hcgb104_3 : w107.cell? ⟨gb104, 3, none⟩ = some (.int .i64 t81_3) := bc BKgb104.out 3; have hfgb104_3 := blk_frozen BKgb104.out 3; have hcgb104_4 : w107.cell? ⟨gb104, 4, none⟩ = some (.int .i64 t81_4) := bc BKgb104.out 4; have hfgb104_4 := blk_frozen BKgb104.out 4; have hcgb104_5 : w107.cell? ⟨gb104, 5, none⟩ = some (.bool t81_5) := bc BKgb104.out 5; have hfgb104_5 := blk_frozen BKgb104.out 5; have hcgb104_6 : w107.cell? ⟨gb104, 6, none⟩ = some (.int .i64 t81_6) := bc BKgb104.out 6; have hfgb104_6 := blk_frozen BKgb104.out 6; have hcgb104_7 : w107.cell? ⟨gb104, 7, none⟩ = some (.int .i64 t81_7) := bc BKgb104.out 7; have hfgb104_7 := blk_frozen BKgb104.out 7; have hcgb104_8 : w107.cell? ⟨gb104, 8, none⟩ = some (.int .i64 t81_8) := bc BKgb104.out 8; have hfgb104_8 := blk_frozen BKgb104.out 8) | ((with_reducible refine gate_callee (f := 20) rfl ?_); refine gl (some 99) Try.func20 #[.agg #[.int .i64 t43_0, .int .i64 t43_1, .slice Ao43_2 t43_2.length co43_2, .int .i64 t43_3, .int .i64 t43_4, .bool t43_5, .int .i64 t43_6, .int .i64 t43_7, .int .i64 t43_8], .int .i64 1] ?_; refine calls_of_args (args' := #[.agg #[.int .i64 t43_0, .int .i64 t43_1, .slice Ao43_2 t70_0.length co43_2, .int .i64 t43_3, .int .i64 t43_4, .bool t43_5, .int .i64 t43_6, .int .i64 t43_7, .int .i64 t43_8], .int .i64 1]) (by simp only [HL70_0.out]) ?_; (with_reducible refine (laws_heldView.calls k t43_0 t43_1 _ _ t70_0 t43_3 t43_4 t43_5 t43_6 t43_7 t43_8 1 t109 _ ?s0 ?s1 A109.out).mono ?_); (case s0 => exact (Kd.S_reads' HO43_2.out).2.2); (case s1 => exact (fun h_ => h_.1 ▸ h_.2.1) (Kd.S_reads' HO43_2.out)); rintro e w110 ⟨rfl, hb⟩; refine ⟨_, rfl, ?_⟩; obtain ⟨na109, nb109, ha_, hz_, hab109⟩ := nxt_ hb; have hn109 : nb106 ≤ na109 := (by rw [ha_]; exact HZ.out); replace HOj34_1_0 := am (Kd.R_below HOj34_1_0.out hb); replace HOj34_3_0 := am (Kd.R_below HOj34_3_0.out hb); replace HOj34_7_0 := am (Kd.R_below HOj34_7_0.out hb); replace HO37_0 := am (Kd.R_below HO37_0.out hb); replace HO39_0 := am (Kd.R_below HO39_0.out hb); replace HO43_2 := am (Kd.S_below HO43_2.out hb); replace HO50_0 := am (Kd.R_below HO50_0.out hb); replace HO57_0 := am (Kd.R_below HO57_0.out hb); replace HOj103_1_0 := am (Kd.R_below HOj103_1_0.out hb); replace HOj103_3_0 := am (Kd.R_below HOj103_3_0.out hb); replace HOj103_7_0 := am (Kd.S_below HOj103_7_0.out hb); replace BKgb1 := am (blk_below BKgb1.out hb); replace BKgb35 := am (blk_below BKgb35.out hb); replace BKgb41 := am (blk_below BKgb41.out hb); replace BKgb45 := am (blk_below BKgb45.out hb); replace BKgb104 := am (blk_below BKgb104.out hb); replace HB := am (below_step HB.out hb); replace HZ := am (Nat.le_of_eq hz_); clear hb ha_ hz_ ; clear hcgb1_0 hfgb1_0 hcgb1_1 hfgb1_1 hcgb1_2 hfgb1_2 hcgb35_0 hfgb35_0 hcgb35_1 hfgb35_1 hcgb35_2 hfgb35_2 hcgb35_3 hfgb35_3 hcgb35_4 hfgb35_4 hcgb35_5 hfgb35_5 hcgb35_6 hfgb35_6 hcgb35_7 hfgb35_7 hcgb35_8 hfgb35_8 hcgb41_0 hfgb41_0 hcgb41_1 hfgb41_1 hcgb41_2 hfgb41_2 hcgb45_0 hfgb45_0 hcgb45_1 hfgb45_1 hcgb45_2 hfgb45_2 hcgb45_3 hfgb45_3 hcgb45_4 hfgb45_4 hcgb45_5 hfgb45_5 hcgb45_6 hfgb45_6 hcgb45_7 hfgb45_7 hcgb45_8 hfgb45_8 hcgb104_0 hfgb104_0 hcgb104_1 hfgb104_1 hcgb104_2 hfgb104_2 hcgb104_3 hfgb104_3 hcgb104_4 hfgb104_4 hcgb104_5 hfgb104_5 hcgb104_6 hfgb104_6 hcgb104_7 hfgb104_7 hcgb104_8 hfgb104_8; have hcgb1_0 : w110.cell? ⟨gb1, 0, none⟩ = some (.slice A1_0 l1_0.length c1_0) := bc BKgb1.out 0; have hfgb1_0 := blk_frozen BKgb1.out 0; have hcgb1_1 : w110.cell? ⟨gb1, 1, none⟩ = some (.int .i64 a1_1) := bc BKgb1.out 1; have hfgb1_1 := blk_frozen BKgb1.out 1; have hcgb1_2 : w110.cell? ⟨gb1, 2, none⟩ = some (.int .i64 a1_2) := bc BKgb1.out 2; have hfgb1_2 := blk_frozen BKgb1.out 2; have hcgb35_0 : w110.cell? ⟨gb35, 0, none⟩ = some (.int .i64 t12_0) := bc BKgb35.out 0; have hfgb35_0 := blk_frozen BKgb35.out 0; have hcgb35_1 : w110.cell? ⟨gb35, 1, none⟩ = some (.int .i64 t12_1) := bc BKgb35.out 1; have hfgb35_1 := blk_frozen BKgb35.out 1; have hcgb35_2 : w110.cell? ⟨gb35, 2, none⟩ = some (.slice Aoj34_7_0 t12_2.length coj34_7_0) := bc BKgb35.out 2; have hfgb35_2 := blk_frozen BKgb35.out 2; have hcgb35_3 : w110.cell? ⟨gb35, 3, none⟩ = some (.int .i64 t12_3) := bc BKgb35.out 3; have hfgb35_3 := blk_frozen BKgb35.out 3; have hcgb35_4 : w110.cell? ⟨gb35, 4, none⟩ = some (.int .i64 t12_4) := bc BKgb35.out 4; have hfgb35_4 := blk_frozen BKgb35.out 4; have hcgb35_5 : w110.cell? ⟨gb35, 5, none⟩ = some (.bool t12_5) := bc BKgb35.out 5; have hfgb35_5 := blk_frozen BKgb35.out 5; have hcgb35_6 : w110.cell? ⟨gb35, 6, none⟩ = some (.int .i64 t12_6) := bc BKgb35.out 6; have hfgb35_6 := blk_frozen BKgb35.out 6; have hcgb35_7 : w110.cell? ⟨gb35, 7, none⟩ = some (.int .i64 t12_7) := bc BKgb35.out 7; have hfgb35_7 := blk_frozen BKgb35.out 7; have hcgb35_8 : w110.cell? ⟨gb35, 8, none⟩ = some (.int .i64 t12_8) := bc BKgb35.out 8; have hfgb35_8 := blk_frozen BKgb35.out 8; have hcgb41_0 : w110.cell? ⟨gb41, 0, none⟩ = some (.slice Ao39_0 t39_0.length co39_0) := bc BKgb41.out 0; have hfgb41_0 := blk_frozen BKgb41.out 0; have hcgb41_1 : w110.cell? ⟨gb41, 1, none⟩ = some (.int .i64 t39_1) := bc BKgb41.out 1; have hfgb41_1 := blk_frozen BKgb41.out 1; have hcgb41_2 : w110.cell? ⟨gb41, 2, none⟩ = some (.int .i64 t39_2) := bc BKgb41.out 2; have hfgb41_2 := blk_frozen BKgb41.out 2; have hcgb45_0 : w110.cell? ⟨gb45, 0, none⟩ = some (.int .i64 t43_0) := bc BKgb45.out 0; have hfgb45_0 := blk_frozen BKgb45.out 0; have hcgb45_1 : w110.cell? ⟨gb45, 1, none⟩ = some (.int .i64 t43_1) := bc BKgb45.out 1; have hfgb45_1 := blk_frozen BKgb45.out 1; have hcgb45_2 : w110.cell? ⟨gb45, 2, none⟩ = some (.slice Ao43_2 t43_2.length co43_2) := bc BKgb45.out 2; have hfgb45_2 := blk_frozen BKgb45.out 2; have hcgb45_3 : w110.cell? ⟨gb45, 3, none⟩ = some (.int .i64 t43_3) := bc BKgb45.out 3; have hfgb45_3 := blk_frozen BKgb45.out 3; have hcgb45_4 : w110.cell? ⟨gb45, 4, none⟩ = some (.int .i64 t43_4) := bc BKgb45.out 4; have hfgb45_4 := blk_frozen BKgb45.out 4; have hcgb45_5 : w110.cell? ⟨gb45, 5, none⟩ = some (.bool t43_5) := bc BKgb45.out 5; have hfgb45_5 := blk_frozen BKgb45.out 5; have hcgb45_6 : w110.cell? ⟨gb45, 6, none⟩ = some (.int .i64 t43_6) := bc BKgb45.out 6; have hfgb45_6 := blk_frozen BKgb45.out 6; have hcgb45_7 : w110.cell? ⟨gb45, 7, none⟩ = some (.int .i64 t43_7) := bc BKgb45.out 7; have hfgb45_7 := blk_frozen BKgb45.out 7; have hcgb45_8 : w110.cell? ⟨gb45, 8, none⟩ = some (.int .i64 t43_8) := bc BKgb45.out 8; have hfgb45_8 := blk_frozen BKgb45.out 8; have hcgb104_0 : w110.cell? ⟨gb104, 0, none⟩ = some (.int .i64 t81_0) := bc BKgb104.out 0; have hfgb104_0 := blk_frozen BKgb104.out 0; have hcgb104_1 : w110.cell? ⟨gb104, 1, none⟩ = some (.int .i64 t81_1) := bc BKgb104.out 1; have hfgb104_1 := blk_frozen BKgb104.out 1; have hcgb104_2 : w110.cell? ⟨gb104, 2, none⟩ = some (.slice Aoj103_7_0 t81_2.length coj103_7_0) := bc BKgb104.out 2; have hfgb104_2 := blk_frozen BKgb104.out 2; have hcgb104_3 : w110.cell? ⟨gb104, 3, none⟩ = some (.int .i64 t81_3) := bc BKgb104.out 3; have hfgb104_3 := blk_frozen BKgb104.out 3; have hcgb104_4 : w110.cell? ⟨gb104, 4, none⟩ = some (.int .i64 t81_4) := bc BKgb104.out 4; have hfgb104_4 := blk_frozen BKgb104.out 4; have hcgb104_5 : w110.cell? ⟨gb104, 5, none⟩ = some (.bool t81_5) := bc BKgb104.out 5; have hfgb104_5 := blk_frozen BKgb104.out 5; have hcgb104_6 : w110.cell? ⟨gb104, 6, none⟩ = some (.int .i64 t81_6) := bc BKgb104.out 6; have hfgb104_6 := blk_frozen BKgb104.out 6; have hcgb104_7 : w110.cell? ⟨gb104, 7, none⟩ = some (.int .i64 t81_7) := bc BKgb104.out 7; have hfgb104_7 := blk_frozen BKgb104.out 7; have hcgb104_8 : w110.cell? ⟨gb104, 8, none⟩ = some (.int .i64 t81_8) := bc BKgb104.out 8; have hfgb104_8 := blk_frozen BKgb104.out 8))
   go_ret
   exact ⟨by first | rfl | (simp [*]; done), HB.out⟩

/-- THE ONE PURE STATEMENT of laws_FnExactViewOf. -/
def laws_FnExactViewOf.Pure : Prop := ∀ (l0 : List Int) (l1_0 : List Int) (a1_1 : Int) (a1_2 : Int) (a2 : Bool) (a3 : Int) (a4 : Int), (l0.length ≤ maxLen ∧ ∀ y0_ ∈ l0, (Lit.int .i64 y0_).wf = true) → ((l1_0.length ≤ maxLen ∧ ∀ y1_ ∈ l1_0, (Lit.int .i64 y1_).wf = true) ∧ (Lit.int .i64 a1_1).wf = true ∧ (Lit.int .i64 a1_2).wf = true) → (Lit.int .i64 a3).wf = true → (Lit.int .i64 a4).wf = true → ∃ k, laws_FnExactViewOf.f k l0 l1_0 a1_1 a1_2 a2 a3 a4 = some true

end Go.Proofs.Ytcjclihkaaaihaa.PFnExactViewOf
