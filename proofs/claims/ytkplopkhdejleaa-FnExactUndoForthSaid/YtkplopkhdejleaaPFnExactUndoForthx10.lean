-- Written by xprint.py (this claim's own program, over the kit's printer); Lean checks it.
import Derived.Test.YtkplopkhdejleaaPFnExactUndoForthx0
import Derived.Test.YtkplopkhdejleaaPFnExactUndoForthx1
import Derived.Test.YtkplopkhdejleaaPFnExactUndoForthx2
import Derived.Test.YtkplopkhdejleaaPFnExactUndoForthx3
import Derived.Test.YtkplopkhdejleaaPFnExactUndoForthx4
import Derived.Test.YtkplopkhdejleaaPFnExactUndoForthx6
import Derived.Test.YtkplopkhdejleaaPFnExactUndoForthx9
namespace Go.Proofs.Ytkplopkhdejleaa.PFnExactUndoForth
open Go.RowKit Go.Proofs.YtkplopkhdejleaaW.PrintWords Go.Proofs.YtkplopkhdejleaaW.PrintLast Go.Proofs.YtkplopkhdejleaaW.PrintMore
attribute [local go_sem] max2_int min2_int max_two min_two max_three min_three max_four min_four   -- for this text's walks alone
set_option linter.unusedVariables false
set_option linter.unusedSimpArgs false   -- squeezed

/-! ### laws_FnExactUndoForth: function 5 -/
def laws_FnExactUndoForth.f (k : Nat) (l0_0 : List (S24)) (l0_1 : List (S24)) (l1_0 : List Int) (a1_1 : Int) (a1_2 : Int) : Option (Bool) := ((laws_szUndo.f k l0_0 l0_1 1048576).bind fun t5 => (if t5 < 0 then (some true) else ((laws_szBuf.f l1_0 a1_1 a1_2 t5).bind fun t8 => (if t8 < 0 then (some true) else ((laws_toUndo.f k l0_0 l0_1).bind fun bt12 => ((laws_toBuf.f k l1_0 a1_1 a1_2).bind fun bt14 => ((spec_UndoForth.f k bt12.1 bt12.2 bt14.1 bt14.2.1 bt14.2.2).bind fun bt16 => ((laws_toUndo.f k l0_0 l0_1).bind fun bt41 => ((laws_toBuf.f k l1_0 a1_1 a1_2).bind fun bt45 => ((impl_UndoForth.f k bt41.1 bt41.2 bt45.1 bt45.2.1 bt45.2.2).bind fun bt49 => ((laws_eqUndoOut.f k bt49.1 bt49.2.1 bt49.2.2.1 bt49.2.2.2.1 bt49.2.2.2.2.1 bt49.2.2.2.2.2 bt16.1 bt16.2.1 bt16.2.2.1 bt16.2.2.2.1 bt16.2.2.2.2.1 bt16.2.2.2.2.2).bind fun t53 => (if t53 = true then ((laws_toUndo.f k l0_0 l0_1).bind fun bt58 => ((laws_eqUndo.f k bt41.1 bt41.2 bt58.1 bt58.2).bind fun t60 => (if t60 = true then ((laws_toBuf.f k l1_0 a1_1 a1_2).bind fun bt65 => ((laws_eqBuf.f k bt45.1 bt45.2.1 bt45.2.2 bt65.1 bt65.2.1 bt65.2.2).bind fun t67 => (if t67 = true then ((laws_markUndo.f k bt41.1 bt41.2 1).bind fun bt70 => ((laws_markBuf.f k bt45.1 bt45.2.1 bt45.2.2 bt70.1).bind fun bt72 => ((laws_eqUndoOut.f k bt49.1 bt49.2.1 bt49.2.2.1 bt49.2.2.2.1 bt49.2.2.2.2.1 bt49.2.2.2.2.2 bt16.1 bt16.2.1 bt16.2.2.1 bt16.2.2.2.1 bt16.2.2.2.2.1 bt16.2.2.2.2.2).bind fun t74 => (if bt72.1 < 0 then (some false) else (if t74 = true then ((laws_markUndoOut.f k bt49.1 bt49.2.1 bt49.2.2.1 bt49.2.2.2.1 bt49.2.2.2.2.1 bt49.2.2.2.2.2 1).bind fun bt78 => ((laws_heldUndoOut.f k bt78.2.1 bt78.2.2.1 bt78.2.2.2 bt49.2.2.2.1 bt49.2.2.2.2.1 bt49.2.2.2.2.2 1).bind fun t80 => (if t80 < 0 then (some false) else (if t80 = bt78.1 then ((laws_toUndo.f k l0_0 l0_1).bind fun bt85 => ((laws_toBuf.f k l1_0 a1_1 a1_2).bind fun bt87 => ((impl_UndoForth.f k bt85.1 bt85.2 bt87.1 bt87.2.1 bt87.2.2).bind fun bt89 => ((laws_eqUndoOut.f k bt89.1 bt89.2.1 bt89.2.2.1 bt89.2.2.2.1 bt89.2.2.2.2.1 bt89.2.2.2.2.2 bt16.1 bt16.2.1 bt16.2.2.1 bt16.2.2.2.1 bt16.2.2.2.2.1 bt16.2.2.2.2.2).bind fun t114 => (if t114 = true then ((laws_heldUndoOut.f k bt78.2.1 bt78.2.2.1 bt78.2.2.2 bt49.2.2.2.1 bt49.2.2.2.2.1 bt49.2.2.2.2.2 1).bind fun t117 => (if t117 < 0 then (some false) else (if t117 = bt78.1 then (some true) else (some false)))) else (some false)))))) else (some false))))) else (some false)))))) else (some false)))) else (some false)))) else (some false)))))))))))))
set_option maxHeartbeats 8000000 in
set_option maxRecDepth 100000 in
theorem laws_FnExactUndoForth.calls (k : Nat) (A0_0 : Option Addr) (c0_0 : Nat) (l0_0 : List (S24)) (A0_1 : Option Addr) (c0_1 : Nat) (l0_1 : List (S24)) (A1_0 : Option Addr) (c1_0 : Nat) (l1_0 : List Int) (a1_1 : Int) (a1_2 : Int) (r : Bool) (w : World) (hr0_0 : Kd.C k24 w A0_0 l0_0.length l0_0) (hc0_0 : l0_0.length ≤ c0_0) (hr0_1 : Kd.C k24 w A0_1 l0_1.length l0_1) (hc0_1 : l0_1.length ≤ c0_1) (hr1_0 : Kd.C (Kd.int .i64) w A1_0 l1_0.length l1_0) (hc1_0 : l1_0.length ≤ c1_0) (h : laws_FnExactUndoForth.f k l0_0 l0_1 l1_0 a1_1 a1_2 = some true) :
 Calls Try.prog 5 #[.agg #[.slice A0_0 l0_0.length c0_0, .slice A0_1 l0_1.length c0_1], .agg #[.slice A1_0 l1_0.length c1_0, .int .i64 a1_1, .int .i64 a1_2]] w fun e w' => e = .returned (.bool true) ∧ Below w.heap.size w w' := by
 have hu24 := Try.underlying24
 have hu30 := Try.underlying30
 have hu31 := Try.underlying31
 have hu33 := Try.underlying33
 have hu45 := Try.underlying45
 have HR0_0 := am hr0_0
 have HR0_1 := am hr0_1
 have HR1_0 := am hr1_0
 have HC0_0 := am hc0_0
 have HC0_1 := am hc0_1
 have HC1_0 := am hc1_0
 clear hr0_0 hc0_0 hr0_1 hc0_1 hr1_0 hc1_0
 have HB := am (Below.refl w.heap.size w)
 have H := h
 unfold laws_FnExactUndoForth.f at H
 clear h
 obtain ⟨t5, E5, H⟩ := Option.bind_eq_some_iff.mp H
 (try dsimp only at H)
 have A5 := Aside0.mk E5
 clear E5
 by_cases c7 : t5 < 0
 ·have c7b0 : decide (t5 < 0) = true := decide_eq_true c7
  clear c7
  go_enter Try.func5, Try.ntmps5
  go_wp2_with (first | ((with_reducible refine gate_dst (N := 2) rfl ?_); refine box_event ?hg (N := 2) ?hd (cs := #[.slice A0_0 l0_0.length c0_0, .slice A0_1 l0_1.length c0_1]) (t := 45) ?hr ?_; (case hd => rfl); (case hg => rfl); (case hr => first | (go_simp; done) | (go_simp; rfl)); intro gb1 hg w2 hbox hb; have GEgb1 : w.heap.size ≤ gb1 := (by rw [hg]; exact below_size HB.out); have ngb1 : gb1 + 1 ≤ w2.heap.size := blk_lt hbox; have BKgb1 := am (hbox); replace HB := am (below_step HB.out hb); have HZ := am (ngb1); clear hb hbox hg ngb1; have hcgb1_0 : w2.cell? ⟨gb1, 0, none⟩ = some (.slice A0_0 l0_0.length c0_0) := bc BKgb1.out 0; have hfgb1_0 := blk_frozen BKgb1.out 0; have hcgb1_1 : w2.cell? ⟨gb1, 1, none⟩ = some (.slice A0_1 l0_1.length c0_1) := bc BKgb1.out 1; have hfgb1_1 := blk_frozen BKgb1.out 1) | ((with_reducible refine gate_dst (N := 3) rfl ?_); refine box_event ?hg (N := 3) ?hd (cs := #[.slice A1_0 l1_0.length c1_0, .int .i64 a1_1, .int .i64 a1_2]) (t := 24) ?hr ?_; (case hd => rfl); (case hg => rfl); (case hr => first | (go_simp; done) | (go_simp; rfl)); intro gb3 hg w4 hbox hb; have GEgb3 : w.heap.size ≤ gb3 := (by rw [hg]; exact below_size HB.out); have hn3 : (gb1 + 1) ≤ gb3 := (by rw [hg]; exact HZ.out); have ngb3 : gb3 + 1 ≤ w4.heap.size := blk_lt hbox; replace BKgb1 := am (blk_below BKgb1.out hb); have BKgb3 := am (hbox); replace HB := am (below_step HB.out hb); replace HZ := am (ngb3); clear hb hbox hg ngb3; clear hcgb1_0 hfgb1_0 hcgb1_1 hfgb1_1; have hcgb1_0 : w4.cell? ⟨gb1, 0, none⟩ = some (.slice A0_0 l0_0.length c0_0) := bc BKgb1.out 0; have hfgb1_0 := blk_frozen BKgb1.out 0; have hcgb1_1 : w4.cell? ⟨gb1, 1, none⟩ = some (.slice A0_1 l0_1.length c0_1) := bc BKgb1.out 1; have hfgb1_1 := blk_frozen BKgb1.out 1; have hcgb3_0 : w4.cell? ⟨gb3, 0, none⟩ = some (.slice A1_0 l1_0.length c1_0) := bc BKgb3.out 0; have hfgb3_0 := blk_frozen BKgb3.out 0; have hcgb3_1 : w4.cell? ⟨gb3, 1, none⟩ = some (.int .i64 a1_1) := bc BKgb3.out 1; have hfgb3_1 := blk_frozen BKgb3.out 1; have hcgb3_2 : w4.cell? ⟨gb3, 2, none⟩ = some (.int .i64 a1_2) := bc BKgb3.out 2; have hfgb3_2 := blk_frozen BKgb3.out 2; have hxgb3_gb1 : gb3 ≠ gb1 := (by omega); have hygb3_gb1 : gb1 ≠ gb3 := (by omega)) | ((with_reducible refine gate_callee (f := 19) rfl ?_); refine gl (some 16) Try.func19 #[.agg #[.slice A0_0 l0_0.length c0_0, .slice A0_1 l0_1.length c0_1], .int .i64 1048576] ?_; (with_reducible refine (laws_szUndo.calls k _ _ l0_0 _ _ l0_1 1048576 t5 _ ?s0 ?s1 ?s2 ?s3 A5.out).mono ?_); (case s0 => exact (Kd.C_below HR0_0.out HB.out)); (case s1 => exact HC0_0.out); (case s2 => exact (Kd.C_below HR0_1.out HB.out)); (case s3 => exact HC0_1.out); rintro e w6 ⟨rfl, hb⟩; refine ⟨_, rfl, ?_⟩; obtain ⟨na5, nb5, ha_, hz_, hab5⟩ := nxt_ hb; have hn5 : (gb3 + 1) ≤ na5 := (by rw [ha_]; exact HZ.out); replace BKgb1 := am (blk_below BKgb1.out hb); replace BKgb3 := am (blk_below BKgb3.out hb); replace HB := am (below_step HB.out hb); replace HZ := am (Nat.le_of_eq hz_); clear hb ha_ hz_ ; clear hcgb1_0 hfgb1_0 hcgb1_1 hfgb1_1 hcgb3_0 hfgb3_0 hcgb3_1 hfgb3_1 hcgb3_2 hfgb3_2; have hcgb1_0 : w6.cell? ⟨gb1, 0, none⟩ = some (.slice A0_0 l0_0.length c0_0) := bc BKgb1.out 0; have hfgb1_0 := blk_frozen BKgb1.out 0; have hcgb1_1 : w6.cell? ⟨gb1, 1, none⟩ = some (.slice A0_1 l0_1.length c0_1) := bc BKgb1.out 1; have hfgb1_1 := blk_frozen BKgb1.out 1; have hcgb3_0 : w6.cell? ⟨gb3, 0, none⟩ = some (.slice A1_0 l1_0.length c1_0) := bc BKgb3.out 0; have hfgb3_0 := blk_frozen BKgb3.out 0; have hcgb3_1 : w6.cell? ⟨gb3, 1, none⟩ = some (.int .i64 a1_1) := bc BKgb3.out 1; have hfgb3_1 := blk_frozen BKgb3.out 1; have hcgb3_2 : w6.cell? ⟨gb3, 2, none⟩ = some (.int .i64 a1_2) := bc BKgb3.out 2; have hfgb3_2 := blk_frozen BKgb3.out 2))
  go_ret
  exact ⟨by first | rfl | (simp [*]; done), HB.out⟩
 ·skip
  rw [if_neg c7] at H
  have c7b0 : decide (t5 < 0) = false := decide_eq_false c7
  clear c7
  obtain ⟨t8, E8, H⟩ := Option.bind_eq_some_iff.mp H
  (try dsimp only at H)
  have A8 := Aside0.mk E8
  clear E8
  by_cases c10 : t8 < 0
  ·have c10b0 : decide (t8 < 0) = true := decide_eq_true c10
   clear c10
   go_enter Try.func5, Try.ntmps5
   go_wp2_with (first | ((with_reducible refine gate_dst (N := 2) rfl ?_); refine box_event ?hg (N := 2) ?hd (cs := #[.slice A0_0 l0_0.length c0_0, .slice A0_1 l0_1.length c0_1]) (t := 45) ?hr ?_; (case hd => rfl); (case hg => rfl); (case hr => first | (go_simp; done) | (go_simp; rfl)); intro gb1 hg w2 hbox hb; have GEgb1 : w.heap.size ≤ gb1 := (by rw [hg]; exact below_size HB.out); have ngb1 : gb1 + 1 ≤ w2.heap.size := blk_lt hbox; have BKgb1 := am (hbox); replace HB := am (below_step HB.out hb); have HZ := am (ngb1); clear hb hbox hg ngb1; have hcgb1_0 : w2.cell? ⟨gb1, 0, none⟩ = some (.slice A0_0 l0_0.length c0_0) := bc BKgb1.out 0; have hfgb1_0 := blk_frozen BKgb1.out 0; have hcgb1_1 : w2.cell? ⟨gb1, 1, none⟩ = some (.slice A0_1 l0_1.length c0_1) := bc BKgb1.out 1; have hfgb1_1 := blk_frozen BKgb1.out 1) | ((with_reducible refine gate_dst (N := 3) rfl ?_); refine box_event ?hg (N := 3) ?hd (cs := #[.slice A1_0 l1_0.length c1_0, .int .i64 a1_1, .int .i64 a1_2]) (t := 24) ?hr ?_; (case hd => rfl); (case hg => rfl); (case hr => first | (go_simp; done) | (go_simp; rfl)); intro gb3 hg w4 hbox hb; have GEgb3 : w.heap.size ≤ gb3 := (by rw [hg]; exact below_size HB.out); have hn3 : (gb1 + 1) ≤ gb3 := (by rw [hg]; exact HZ.out); have ngb3 : gb3 + 1 ≤ w4.heap.size := blk_lt hbox; replace BKgb1 := am (blk_below BKgb1.out hb); have BKgb3 := am (hbox); replace HB := am (below_step HB.out hb); replace HZ := am (ngb3); clear hb hbox hg ngb3; clear hcgb1_0 hfgb1_0 hcgb1_1 hfgb1_1; have hcgb1_0 : w4.cell? ⟨gb1, 0, none⟩ = some (.slice A0_0 l0_0.length c0_0) := bc BKgb1.out 0; have hfgb1_0 := blk_frozen BKgb1.out 0; have hcgb1_1 : w4.cell? ⟨gb1, 1, none⟩ = some (.slice A0_1 l0_1.length c0_1) := bc BKgb1.out 1; have hfgb1_1 := blk_frozen BKgb1.out 1; have hcgb3_0 : w4.cell? ⟨gb3, 0, none⟩ = some (.slice A1_0 l1_0.length c1_0) := bc BKgb3.out 0; have hfgb3_0 := blk_frozen BKgb3.out 0; have hcgb3_1 : w4.cell? ⟨gb3, 1, none⟩ = some (.int .i64 a1_1) := bc BKgb3.out 1; have hfgb3_1 := blk_frozen BKgb3.out 1; have hcgb3_2 : w4.cell? ⟨gb3, 2, none⟩ = some (.int .i64 a1_2) := bc BKgb3.out 2; have hfgb3_2 := blk_frozen BKgb3.out 2; have hxgb3_gb1 : gb3 ≠ gb1 := (by omega); have hygb3_gb1 : gb1 ≠ gb3 := (by omega)) | ((with_reducible refine gate_callee (f := 19) rfl ?_); refine gl (some 16) Try.func19 #[.agg #[.slice A0_0 l0_0.length c0_0, .slice A0_1 l0_1.length c0_1], .int .i64 1048576] ?_; (with_reducible refine (laws_szUndo.calls k _ _ l0_0 _ _ l0_1 1048576 t5 _ ?s0 ?s1 ?s2 ?s3 A5.out).mono ?_); (case s0 => exact (Kd.C_below HR0_0.out HB.out)); (case s1 => exact HC0_0.out); (case s2 => exact (Kd.C_below HR0_1.out HB.out)); (case s3 => exact HC0_1.out); rintro e w6 ⟨rfl, hb⟩; refine ⟨_, rfl, ?_⟩; obtain ⟨na5, nb5, ha_, hz_, hab5⟩ := nxt_ hb; have hn5 : (gb3 + 1) ≤ na5 := (by rw [ha_]; exact HZ.out); replace BKgb1 := am (blk_below BKgb1.out hb); replace BKgb3 := am (blk_below BKgb3.out hb); replace HB := am (below_step HB.out hb); replace HZ := am (Nat.le_of_eq hz_); clear hb ha_ hz_ ; clear hcgb1_0 hfgb1_0 hcgb1_1 hfgb1_1 hcgb3_0 hfgb3_0 hcgb3_1 hfgb3_1 hcgb3_2 hfgb3_2; have hcgb1_0 : w6.cell? ⟨gb1, 0, none⟩ = some (.slice A0_0 l0_0.length c0_0) := bc BKgb1.out 0; have hfgb1_0 := blk_frozen BKgb1.out 0; have hcgb1_1 : w6.cell? ⟨gb1, 1, none⟩ = some (.slice A0_1 l0_1.length c0_1) := bc BKgb1.out 1; have hfgb1_1 := blk_frozen BKgb1.out 1; have hcgb3_0 : w6.cell? ⟨gb3, 0, none⟩ = some (.slice A1_0 l1_0.length c1_0) := bc BKgb3.out 0; have hfgb3_0 := blk_frozen BKgb3.out 0; have hcgb3_1 : w6.cell? ⟨gb3, 1, none⟩ = some (.int .i64 a1_1) := bc BKgb3.out 1; have hfgb3_1 := blk_frozen BKgb3.out 1; have hcgb3_2 : w6.cell? ⟨gb3, 2, none⟩ = some (.int .i64 a1_2) := bc BKgb3.out 2; have hfgb3_2 := blk_frozen BKgb3.out 2) | ((with_reducible refine gate_callee (f := 6) rfl ?_); refine gl (some 21) Try.func6 #[.agg #[.slice A1_0 l1_0.length c1_0, .int .i64 a1_1, .int .i64 a1_2], .int .i64 t5] ?_; (with_reducible refine (laws_szBuf.calls _ _ l1_0 a1_1 a1_2 t5 t8 _ ?s0 ?s1 A8.out).mono ?_); (case s0 => exact (Kd.C_below HR1_0.out HB.out)); (case s1 => exact HC1_0.out); rintro e w9 ⟨rfl, hb⟩; refine ⟨_, rfl, ?_⟩; obtain ⟨na8, nb8, ha_, hz_, hab8⟩ := nxt_ hb; have hn8 : nb5 ≤ na8 := (by rw [ha_]; exact HZ.out); replace BKgb1 := am (blk_below BKgb1.out hb); replace BKgb3 := am (blk_below BKgb3.out hb); replace HB := am (below_step HB.out hb); replace HZ := am (Nat.le_of_eq hz_); clear hb ha_ hz_ ; clear hcgb1_0 hfgb1_0 hcgb1_1 hfgb1_1 hcgb3_0 hfgb3_0 hcgb3_1 hfgb3_1 hcgb3_2 hfgb3_2; have hcgb1_0 : w9.cell? ⟨gb1, 0, none⟩ = some (.slice A0_0 l0_0.length c0_0) := bc BKgb1.out 0; have hfgb1_0 := blk_frozen BKgb1.out 0; have hcgb1_1 : w9.cell? ⟨gb1, 1, none⟩ = some (.slice A0_1 l0_1.length c0_1) := bc BKgb1.out 1; have hfgb1_1 := blk_frozen BKgb1.out 1; have hcgb3_0 : w9.cell? ⟨gb3, 0, none⟩ = some (.slice A1_0 l1_0.length c1_0) := bc BKgb3.out 0; have hfgb3_0 := blk_frozen BKgb3.out 0; have hcgb3_1 : w9.cell? ⟨gb3, 1, none⟩ = some (.int .i64 a1_1) := bc BKgb3.out 1; have hfgb3_1 := blk_frozen BKgb3.out 1; have hcgb3_2 : w9.cell? ⟨gb3, 2, none⟩ = some (.int .i64 a1_2) := bc BKgb3.out 2; have hfgb3_2 := blk_frozen BKgb3.out 2))
   go_ret
   exact ⟨by first | rfl | (simp [*]; done), HB.out⟩
  ·skip
   rw [if_neg c10] at H
   have c10b0 : decide (t8 < 0) = false := decide_eq_false c10
   clear c10
   obtain ⟨⟨t12_0, t12_1⟩, E12, H⟩ := Option.bind_eq_some_iff.mp H
   (try dsimp only at H)
   have A12 := Aside0.mk E12
   clear E12
   obtain ⟨⟨t14_0, t14_1, t14_2⟩, E14, H⟩ := Option.bind_eq_some_iff.mp H
   (try dsimp only at H)
   have A14 := Aside0.mk E14
   clear E14
   obtain ⟨⟨t16_0, t16_1, t16_2, t16_3, t16_4, t16_5⟩, E16, H⟩ := Option.bind_eq_some_iff.mp H
   (try dsimp only at H)
   have A16 := Aside0.mk E16
   clear E16
   obtain ⟨⟨t41_0, t41_1⟩, E41, H⟩ := Option.bind_eq_some_iff.mp H
   (try dsimp only at H)
   have A41 := Aside0.mk E41
   clear E41
   obtain ⟨⟨t45_0, t45_1, t45_2⟩, E45, H⟩ := Option.bind_eq_some_iff.mp H
   (try dsimp only at H)
   have A45 := Aside0.mk E45
   clear E45
   obtain ⟨⟨t49_0, t49_1, t49_2, t49_3, t49_4, t49_5⟩, E49, H⟩ := Option.bind_eq_some_iff.mp H
   (try dsimp only at H)
   have A49 := Aside0.mk E49
   clear E49
   obtain ⟨t53, E53, H⟩ := Option.bind_eq_some_iff.mp H
   (try dsimp only at H)
   have A53 := Aside0.mk E53
   clear E53
   have c55 : t53 = true := Decidable.byContradiction (fun c_ => by rw [if_neg c_] at H; exact absurd H (by decide))
   rw [if_pos c55] at H
   subst c55
   obtain ⟨⟨t58_0, t58_1⟩, E58, H⟩ := Option.bind_eq_some_iff.mp H
   (try dsimp only at H)
   have A58 := Aside0.mk E58
   clear E58
   obtain ⟨t60, E60, H⟩ := Option.bind_eq_some_iff.mp H
   (try dsimp only at H)
   have A60 := Aside0.mk E60
   clear E60
   have c62 : t60 = true := Decidable.byContradiction (fun c_ => by rw [if_neg c_] at H; exact absurd H (by decide))
   rw [if_pos c62] at H
   subst c62
   obtain ⟨⟨t65_0, t65_1, t65_2⟩, E65, H⟩ := Option.bind_eq_some_iff.mp H
   (try dsimp only at H)
   have A65 := Aside0.mk E65
   clear E65
   obtain ⟨t67, E67, H⟩ := Option.bind_eq_some_iff.mp H
   (try dsimp only at H)
   have A67 := Aside0.mk E67
   clear E67
   have c69 : t67 = true := Decidable.byContradiction (fun c_ => by rw [if_neg c_] at H; exact absurd H (by decide))
   rw [if_pos c69] at H
   subst c69
   obtain ⟨⟨t70, t70_0, t70_1⟩, E70, H⟩ := Option.bind_eq_some_iff.mp H
   (try dsimp only at H)
   have A70 := Aside0.mk E70
   clear E70
   obtain ⟨⟨t72, t72_0⟩, E72, H⟩ := Option.bind_eq_some_iff.mp H
   (try dsimp only at H)
   have A72 := Aside0.mk E72
   clear E72
   obtain ⟨t74, E74, H⟩ := Option.bind_eq_some_iff.mp H
   (try dsimp only at H)
   have A74 := Aside0.mk E74
   clear E74
   have c76 : ¬ (t72 < 0) := fun c_ => by rw [if_pos c_] at H; exact absurd H (by decide)
   rw [if_neg c76] at H
   have c76b0 : decide (t72 < 0) = false := decide_eq_false c76
   clear c76
   have c77 : t74 = true := Decidable.byContradiction (fun c_ => by rw [if_neg c_] at H; exact absurd H (by decide))
   rw [if_pos c77] at H
   subst c77
   obtain ⟨⟨t78, t78_0, t78_1, t78_2⟩, E78, H⟩ := Option.bind_eq_some_iff.mp H
   (try dsimp only at H)
   have A78 := Aside0.mk E78
   clear E78
   obtain ⟨t80, E80, H⟩ := Option.bind_eq_some_iff.mp H
   (try dsimp only at H)
   have A80 := Aside0.mk E80
   clear E80
   have c82 : ¬ (t80 < 0) := fun c_ => by rw [if_pos c_] at H; exact absurd H (by decide)
   rw [if_neg c82] at H
   have c82b0 : decide (t80 < 0) = false := decide_eq_false c82
   clear c82
   have c83 : t80 = t78 := Decidable.byContradiction (fun c_ => by rw [if_neg c_] at H; exact absurd H (by decide))
   rw [if_pos c83] at H
   have c83b0 : (t80 == t78) = true := beq_iff_eq.mpr c83
   have c83b1 : (t80 != t78) = false := bne_eq_false_iff_eq.mpr c83
   have c83n : (t80 != t78) = false := by simp [c83]
   clear c83
   obtain ⟨⟨t85_0, t85_1⟩, E85, H⟩ := Option.bind_eq_some_iff.mp H
   (try dsimp only at H)
   have A85 := Aside0.mk E85
   clear E85
   obtain ⟨⟨t87_0, t87_1, t87_2⟩, E87, H⟩ := Option.bind_eq_some_iff.mp H
   (try dsimp only at H)
   have A87 := Aside0.mk E87
   clear E87
   obtain ⟨⟨t89_0, t89_1, t89_2, t89_3, t89_4, t89_5⟩, E89, H⟩ := Option.bind_eq_some_iff.mp H
   (try dsimp only at H)
   have A89 := Aside0.mk E89
   clear E89
   obtain ⟨t114, E114, H⟩ := Option.bind_eq_some_iff.mp H
   (try dsimp only at H)
   have A114 := Aside0.mk E114
   clear E114
   have c116 : t114 = true := Decidable.byContradiction (fun c_ => by rw [if_neg c_] at H; exact absurd H (by decide))
   rw [if_pos c116] at H
   subst c116
   obtain ⟨t117, E117, H⟩ := Option.bind_eq_some_iff.mp H
   (try dsimp only at H)
   have A117 := Aside0.mk E117
   clear E117
   have c119 : ¬ (t117 < 0) := fun c_ => by rw [if_pos c_] at H; exact absurd H (by decide)
   rw [if_neg c119] at H
   have c119b0 : decide (t117 < 0) = false := decide_eq_false c119
   clear c119
   have c120 : t117 = t78 := Decidable.byContradiction (fun c_ => by rw [if_neg c_] at H; exact absurd H (by decide))
   rw [if_pos c120] at H
   have c120b0 : (t117 == t78) = true := beq_iff_eq.mpr c120
   have c120b1 : (t117 != t78) = false := bne_eq_false_iff_eq.mpr c120
   have c120n : (t117 != t78) = false := by simp [c120]
   clear c120
   go_enter Try.func5, Try.ntmps5
   go_wp2_with (first | ((with_reducible refine gate_dst (N := 2) rfl ?_); refine box_event ?hg (N := 2) ?hd (cs := #[.slice A0_0 l0_0.length c0_0, .slice A0_1 l0_1.length c0_1]) (t := 45) ?hr ?_; (case hd => rfl); (case hg => rfl); (case hr => first | (go_simp; done) | (go_simp; rfl)); intro gb1 hg w2 hbox hb; have GEgb1 : w.heap.size ≤ gb1 := (by rw [hg]; exact below_size HB.out); have ngb1 : gb1 + 1 ≤ w2.heap.size := blk_lt hbox; have BKgb1 := am (hbox); replace HB := am (below_step HB.out hb); have HZ := am (ngb1); clear hb hbox hg ngb1; have hcgb1_0 : w2.cell? ⟨gb1, 0, none⟩ = some (.slice A0_0 l0_0.length c0_0) := bc BKgb1.out 0; have hfgb1_0 := blk_frozen BKgb1.out 0; have hcgb1_1 : w2.cell? ⟨gb1, 1, none⟩ = some (.slice A0_1 l0_1.length c0_1) := bc BKgb1.out 1; have hfgb1_1 := blk_frozen BKgb1.out 1) | ((with_reducible refine gate_dst (N := 3) rfl ?_); refine box_event ?hg (N := 3) ?hd (cs := #[.slice A1_0 l1_0.length c1_0, .int .i64 a1_1, .int .i64 a1_2]) (t := 24) ?hr ?_; (case hd => rfl); (case hg => rfl); (case hr => first | (go_simp; done) | (go_simp; rfl)); intro gb3 hg w4 hbox hb; have GEgb3 : w.heap.size ≤ gb3 := (by rw [hg]; exact below_size HB.out); have hn3 : (gb1 + 1) ≤ gb3 := (by rw [hg]; exact HZ.out); have ngb3 : gb3 + 1 ≤ w4.heap.size := blk_lt hbox; replace BKgb1 := am (blk_below BKgb1.out hb); have BKgb3 := am (hbox); replace HB := am (below_step HB.out hb); replace HZ := am (ngb3); clear hb hbox hg ngb3; clear hcgb1_0 hfgb1_0 hcgb1_1 hfgb1_1; have hcgb1_0 : w4.cell? ⟨gb1, 0, none⟩ = some (.slice A0_0 l0_0.length c0_0) := bc BKgb1.out 0; have hfgb1_0 := blk_frozen BKgb1.out 0; have hcgb1_1 : w4.cell? ⟨gb1, 1, none⟩ = some (.slice A0_1 l0_1.length c0_1) := bc BKgb1.out 1; have hfgb1_1 := blk_frozen BKgb1.out 1; have hcgb3_0 : w4.cell? ⟨gb3, 0, none⟩ = some (.slice A1_0 l1_0.length c1_0) := bc BKgb3.out 0; have hfgb3_0 := blk_frozen BKgb3.out 0; have hcgb3_1 : w4.cell? ⟨gb3, 1, none⟩ = some (.int .i64 a1_1) := bc BKgb3.out 1; have hfgb3_1 := blk_frozen BKgb3.out 1; have hcgb3_2 : w4.cell? ⟨gb3, 2, none⟩ = some (.int .i64 a1_2) := bc BKgb3.out 2; have hfgb3_2 := blk_frozen BKgb3.out 2; have hxgb3_gb1 : gb3 ≠ gb1 := (by omega); have hygb3_gb1 : gb1 ≠ gb3 := (by omega)) | ((with_reducible refine gate_callee (f := 19) rfl ?_); refine gl (some 16) Try.func19 #[.agg #[.slice A0_0 l0_0.length c0_0, .slice A0_1 l0_1.length c0_1], .int .i64 1048576] ?_; (with_reducible refine (laws_szUndo.calls k _ _ l0_0 _ _ l0_1 1048576 t5 _ ?s0 ?s1 ?s2 ?s3 A5.out).mono ?_); (case s0 => exact (Kd.C_below HR0_0.out HB.out)); (case s1 => exact HC0_0.out); (case s2 => exact (Kd.C_below HR0_1.out HB.out)); (case s3 => exact HC0_1.out); rintro e w6 ⟨rfl, hb⟩; refine ⟨_, rfl, ?_⟩; obtain ⟨na5, nb5, ha_, hz_, hab5⟩ := nxt_ hb; have hn5 : (gb3 + 1) ≤ na5 := (by rw [ha_]; exact HZ.out); replace BKgb1 := am (blk_below BKgb1.out hb); replace BKgb3 := am (blk_below BKgb3.out hb); replace HB := am (below_step HB.out hb); replace HZ := am (Nat.le_of_eq hz_); clear hb ha_ hz_ ; clear hcgb1_0 hfgb1_0 hcgb1_1 hfgb1_1 hcgb3_0 hfgb3_0 hcgb3_1 hfgb3_1 hcgb3_2 hfgb3_2; have hcgb1_0 : w6.cell? ⟨gb1, 0, none⟩ = some (.slice A0_0 l0_0.length c0_0) := bc BKgb1.out 0; have hfgb1_0 := blk_frozen BKgb1.out 0; have hcgb1_1 : w6.cell? ⟨gb1, 1, none⟩ = some (.slice A0_1 l0_1.length c0_1) := bc BKgb1.out 1; have hfgb1_1 := blk_frozen BKgb1.out 1; have hcgb3_0 : w6.cell? ⟨gb3, 0, none⟩ = some (.slice A1_0 l1_0.length c1_0) := bc BKgb3.out 0; have hfgb3_0 := blk_frozen BKgb3.out 0; have hcgb3_1 : w6.cell? ⟨gb3, 1, none⟩ = some (.int .i64 a1_1) := bc BKgb3.out 1; have hfgb3_1 := blk_frozen BKgb3.out 1; have hcgb3_2 : w6.cell? ⟨gb3, 2, none⟩ = some (.int .i64 a1_2) := bc BKgb3.out 2; have hfgb3_2 := blk_frozen BKgb3.out 2) | ((with_reducible refine gate_callee (f := 6) rfl ?_); refine gl (some 21) Try.func6 #[.agg #[.slice A1_0 l1_0.length c1_0, .int .i64 a1_1, .int .i64 a1_2], .int .i64 t5] ?_; (with_reducible refine (laws_szBuf.calls _ _ l1_0 a1_1 a1_2 t5 t8 _ ?s0 ?s1 A8.out).mono ?_); (case s0 => exact (Kd.C_below HR1_0.out HB.out)); (case s1 => exact HC1_0.out); rintro e w9 ⟨rfl, hb⟩; refine ⟨_, rfl, ?_⟩; obtain ⟨na8, nb8, ha_, hz_, hab8⟩ := nxt_ hb; have hn8 : nb5 ≤ na8 := (by rw [ha_]; exact HZ.out); replace BKgb1 := am (blk_below BKgb1.out hb); replace BKgb3 := am (blk_below BKgb3.out hb); replace HB := am (below_step HB.out hb); replace HZ := am (Nat.le_of_eq hz_); clear hb ha_ hz_ ; clear hcgb1_0 hfgb1_0 hcgb1_1 hfgb1_1 hcgb3_0 hfgb3_0 hcgb3_1 hfgb3_1 hcgb3_2 hfgb3_2; have hcgb1_0 : w9.cell? ⟨gb1, 0, none⟩ = some (.slice A0_0 l0_0.length c0_0) := bc BKgb1.out 0; have hfgb1_0 := blk_frozen BKgb1.out 0; have hcgb1_1 : w9.cell? ⟨gb1, 1, none⟩ = some (.slice A0_1 l0_1.length c0_1) := bc BKgb1.out 1; have hfgb1_1 := blk_frozen BKgb1.out 1; have hcgb3_0 : w9.cell? ⟨gb3, 0, none⟩ = some (.slice A1_0 l1_0.length c1_0) := bc BKgb3.out 0; have hfgb3_0 := blk_frozen BKgb3.out 0; have hcgb3_1 : w9.cell? ⟨gb3, 1, none⟩ = some (.int .i64 a1_1) := bc BKgb3.out 1; have hfgb3_1 := blk_frozen BKgb3.out 1; have hcgb3_2 : w9.cell? ⟨gb3, 2, none⟩ = some (.int .i64 a1_2) := bc BKgb3.out 2; have hfgb3_2 := blk_frozen BKgb3.out 2))
   try go_wp2
   replace BKgb1 := am (blk_drew BKgb1.out)
   replace BKgb3 := am (blk_drew BKgb3.out)
   replace HB := am (below_drew1 HB.out)
   refine start_ (n := 7) (S := fun w' => w'.cell? ⟨gb1, 0, none⟩ = some (.slice A0_0 l0_0.length c0_0) ∧ w'.cell? ⟨gb1, 1, none⟩ = some (.slice A0_1 l0_1.length c0_1) ∧ w'.cell? ⟨gb3, 0, none⟩ = some (.slice A1_0 l1_0.length c1_0) ∧ w'.cell? ⟨gb3, 1, none⟩ = some (.int .i64 a1_1) ∧ w'.cell? ⟨gb3, 2, none⟩ = some (.int .i64 a1_2)) (ds := []) #[false, false, false, false, false, false, false] (by kernel_rfl) rfl rfl ⟨bc BKgb1.out 0, bc BKgb1.out 1, bc BKgb3.out 0, bc BKgb3.out 1, bc BKgb3.out 2⟩ (fun hHeld => ?_)
   have HZ2 := am (show nb8 ≤ (w9.drew).heap.size from HZ.out)
   clear HZ
   have HZ := HZ2
   clear HZ2
   generalize w9.drew = w11 at BKgb1 BKgb3 HB HZ hHeld ⊢
   refine take_ (i := 0) (N := some 24) (v := ?_) (a' := ?_) #[true, false, false, false, false, false, false] rfl rfl (by kernel_rfl) (fun _ _ _ h => h) (Or.inl ⟨by rfl, ?_⟩) hHeld ?_ ?_; rotate_left
   ·rintro w' ⟨s0, s1, s2, s3, s4⟩; go_simp; with_reducible rfl
   rotate_left
   ·simp only [Act.put, sa_, s0_, ss_, i64_w, i32_w]; rfl
   refine take_ (i := 2) (N := some 26) (v := ?_) (a' := ?_) #[true, false, true, false, false, false, false] rfl rfl (by kernel_rfl) (fun _ _ _ h => h) (Or.inl ⟨by rfl, ?_⟩) hHeld ?_ ?_; rotate_left
   ·rintro w' ⟨s0, s1, s2, s3, s4⟩; go_simp; with_reducible rfl
   rotate_left
   ·simp only [Act.put, sa_, s0_, ss_, i64_w, i32_w]; rfl
   refine join_ (σ := Value × Value × Value × Value × Value × Value × Nat × Nat × Nat × Nat × Nat × Nat × Nat × Nat) 1 #[true, true, true, true, true, true, false] (fun s_ => [(25, .agg #[s_.1, s_.2.1]), (27, .agg #[s_.2.2.1, .int .i64 t14_1, .int .i64 t14_2]), (28, .agg #[s_.2.2.2.1, s_.2.2.2.2.1, s_.2.2.2.2.2.1, .int .i64 t16_3, .int .i64 t16_4, .int .i64 t16_5]), (6, .pointer (some ⟨s_.2.2.2.2.2.2.1, 0, none⟩))]) (fun s_ w' => (w'.cell? ⟨gb1, 0, none⟩ = some (.slice A0_0 l0_0.length c0_0) ∧ w'.cell? ⟨gb1, 1, none⟩ = some (.slice A0_1 l0_1.length c0_1) ∧ w'.cell? ⟨gb3, 0, none⟩ = some (.slice A1_0 l1_0.length c1_0) ∧ w'.cell? ⟨gb3, 1, none⟩ = some (.int .i64 a1_1) ∧ w'.cell? ⟨gb3, 2, none⟩ = some (.int .i64 a1_2)) ∧ (∃ T_ : Nat → Prop, Kd.S k31 31 w' w.heap.size (fun k_ => Rg s_.2.2.2.2.2.2.2.1 s_.2.2.2.2.2.2.2.2.1 k_ ∧ T_ k_) s_.1 t12_0) ∧ (∃ T_ : Nat → Prop, Kd.S k31 31 w' w.heap.size (fun k_ => Rg s_.2.2.2.2.2.2.2.1 s_.2.2.2.2.2.2.2.2.1 k_ ∧ T_ k_) s_.2.1 t12_1) ∧ (∃ T_ : Nat → Prop, Kd.R (Kd.int .i64) 2 w' w.heap.size (fun k_ => Rg s_.2.2.2.2.2.2.2.2.2.1 s_.2.2.2.2.2.2.2.2.2.2.1 k_ ∧ T_ k_) s_.2.2.1 t14_0) ∧ (∃ T_ : Nat → Prop, Kd.T k31 31 w' w.heap.size (fun k_ => Rg s_.2.2.2.2.2.2.2.2.2.2.2.1 s_.2.2.2.2.2.2.2.2.2.2.2.2.1 k_ ∧ T_ k_) s_.2.2.2.1 t16_0) ∧ (∃ T_ : Nat → Prop, Kd.S k31 31 w' w.heap.size (fun k_ => Rg s_.2.2.2.2.2.2.2.2.2.2.2.1 s_.2.2.2.2.2.2.2.2.2.2.2.2.1 k_ ∧ T_ k_) s_.2.2.2.2.1 t16_1) ∧ (∃ T_ : Nat → Prop, Kd.R (Kd.int .i64) 2 w' w.heap.size (fun k_ => Rg s_.2.2.2.2.2.2.2.2.2.2.2.1 s_.2.2.2.2.2.2.2.2.2.2.2.2.1 k_ ∧ T_ k_) s_.2.2.2.2.2.1 t16_2) ∧ (w'.heap[gb1]? = some (.cells #[.slice A0_0 l0_0.length c0_0, .slice A0_1 l0_1.length c0_1] 45 (0, 0))) ∧ (w'.heap[gb3]? = some (.cells #[.slice A1_0 l1_0.length c1_0, .int .i64 a1_1, .int .i64 a1_2] 24 (0, 0))) ∧ (w'.heap[s_.2.2.2.2.2.2.1]? = some (.cells #[.slice none 0 0, .slice none 0 0, .slice none 0 0, .int .i64 0, .int .i64 0, .int .i64 0] 33 (0, 0))) ∧ (Below w.heap.size w w') ∧ (s_.2.2.2.2.2.2.2.2.2.2.2.2.2 ≤ w'.heap.size) ∧ (w.heap.size ≤ s_.2.2.2.2.2.2.1) ∧ (nb8 ≤ s_.2.2.2.2.2.2.1 ∧ s_.2.2.2.2.2.2.1 < s_.2.2.2.2.2.2.2.2.2.2.2.2.2) ∧ (nb8 ≤ s_.2.2.2.2.2.2.2.1 ∧ s_.2.2.2.2.2.2.2.1 ≤ s_.2.2.2.2.2.2.2.2.1 ∧ (s_.2.2.2.2.2.2.1 < s_.2.2.2.2.2.2.2.1 ∨ s_.2.2.2.2.2.2.2.2.1 ≤ s_.2.2.2.2.2.2.1)) ∧ (s_.2.2.2.2.2.2.2.2.1 ≤ s_.2.2.2.2.2.2.2.2.2.1 ∧ s_.2.2.2.2.2.2.2.2.2.1 ≤ s_.2.2.2.2.2.2.2.2.2.2.1 ∧ (s_.2.2.2.2.2.2.1 < s_.2.2.2.2.2.2.2.2.2.1 ∨ s_.2.2.2.2.2.2.2.2.2.2.1 ≤ s_.2.2.2.2.2.2.1)) ∧ (s_.2.2.2.2.2.2.2.2.2.2.1 ≤ s_.2.2.2.2.2.2.2.2.2.2.2.1 ∧ s_.2.2.2.2.2.2.2.2.2.2.2.1 ≤ s_.2.2.2.2.2.2.2.2.2.2.2.2.1 ∧ (s_.2.2.2.2.2.2.1 < s_.2.2.2.2.2.2.2.2.2.2.2.1 ∨ s_.2.2.2.2.2.2.2.2.2.2.2.2.1 ≤ s_.2.2.2.2.2.2.1)) ∧ (s_.2.2.2.2.2.2.2.2.2.2.2.2.1 ≤ s_.2.2.2.2.2.2.2.2.2.2.2.2.2)) ?_ ?_
   rotate_left
   ·intro hJ
    refine two_ (i := 1) (j := 5) (Ni := some 25) (Nj := some 6) #[true, true, true, false, false, false, false] #[true, false, true, false, false, true, false] rfl rfl rfl rfl (by kernel_rfl) (by decide) (by decide) (fun K hK => ?_) (fun K hK => ?_)
    ·skip
     refine gs_ Try.func21 #[.agg #[.slice A0_0 l0_0.length c0_0, .slice A0_1 l0_1.length c0_1]] ?_
     (with_reducible refine (laws_toUndo.calls k _ _ l0_0 _ _ l0_1 t12_0 t12_1 _ ?s0 ?s1 ?s2 ?s3 A12.out).mono ?_)
     (case s0 => exact (Kd.C_below HR0_0.out HB.out))
     (case s1 => exact HC0_0.out)
     (case s2 => exact (Kd.C_below HR0_1.out HB.out))
     (case s3 => exact HC0_1.out)
     rintro e w13 ⟨v12_0, v12_1, rfl, ho0, ho1, hb⟩
     refine ⟨_, rfl, ?_⟩
     obtain ⟨na12, nb12, ha_, hz_, hab12⟩ := nxt_ hb
     have hn12 : nb8 ≤ na12 := (by rw [ha_]; exact HZ.out)
     replace BKgb1 := am (blk_below BKgb1.out hb)
     replace BKgb3 := am (blk_below BKgb3.out hb)
     have HO12_0 := am (S_rg ha_ hz_ (below_size HB.out) ho0)
     have HO12_1 := am (S_rg ha_ hz_ (below_size HB.out) ho1)
     replace HB := am (below_step HB.out hb)
     replace HZ := am (Nat.le_of_eq hz_)
     clear hb ha_ hz_ ho0 ho1
     obtain ⟨Ao12_0, co12_0, eo12_0⟩ := Kd.S_slice HO12_0.out
     subst eo12_0
     obtain ⟨Ao12_1, co12_1, eo12_1⟩ := Kd.S_slice HO12_1.out
     subst eo12_1
     refine hK.out _ _ ⟨bc BKgb1.out 0, bc BKgb1.out 1, bc BKgb3.out 0, bc BKgb3.out 1, bc BKgb3.out 2⟩ (fun hHeld => ?_)
     clear hK K
     refine norm_ (a' := ?_) ?_ ?_
     rotate_left
     ·show Act.put _ (some 25) _ = _; simp only [Act.put, sa_, s0_, ss_, i64_w, i32_w]; rfl
     refine two_ (i := 3) (j := 5) (Ni := some 27) (Nj := some 6) #[true, true, true, true, false, false, false] #[true, true, true, false, false, true, false] rfl rfl rfl rfl (by kernel_rfl) (by decide) (by decide) (fun K hK => ?_) (fun K hK => ?_)
     ·skip
      refine gs_ Try.func9 #[.agg #[.slice A1_0 l1_0.length c1_0, .int .i64 a1_1, .int .i64 a1_2]] ?_
      (with_reducible refine (laws_toBuf.calls k _ _ l1_0 a1_1 a1_2 t14_0 t14_1 t14_2 _ ?s0 ?s1 A14.out).mono ?_)
      (case s0 => exact (Kd.C_below HR1_0.out HB.out))
      (case s1 => exact HC1_0.out)
      rintro e w15 ⟨v14_0, rfl, ho0, hb⟩
      refine ⟨_, rfl, ?_⟩
      obtain ⟨na14, nb14, ha_, hz_, hab14⟩ := nxt_ hb
      have hn14 : nb12 ≤ na14 := (by rw [ha_]; exact HZ.out)
      replace HO12_0 := am (Kd.S_below HO12_0.out hb)
      replace HO12_1 := am (Kd.S_below HO12_1.out hb)
      replace BKgb1 := am (blk_below BKgb1.out hb)
      replace BKgb3 := am (blk_below BKgb3.out hb)
      have HO14_0 := am (R_rg ha_ hz_ (below_size HB.out) ho0)
      replace HB := am (below_step HB.out hb)
      replace HZ := am (Nat.le_of_eq hz_)
      clear hb ha_ hz_ ho0
      obtain ⟨Ao14_0, co14_0, eo14_0⟩ := Kd.R_slice HO14_0.out
      subst eo14_0
      refine hK.out _ _ ⟨bc BKgb1.out 0, bc BKgb1.out 1, bc BKgb3.out 0, bc BKgb3.out 1, bc BKgb3.out 2⟩ (fun hHeld => ?_)
      clear hK K
      refine norm_ (a' := ?_) ?_ ?_
      rotate_left
      ·show Act.put _ (some 27) _ = _; simp only [Act.put, sa_, s0_, ss_, i64_w, i32_w]; rfl
      refine two_ (i := 4) (j := 5) (Ni := some 28) (Nj := some 6) #[true, true, true, true, true, false, false] #[true, true, true, true, false, true, false] rfl rfl rfl rfl (by kernel_rfl) (by decide) (by decide) (fun K hK => ?_) (fun K hK => ?_)
      ·skip
       refine gs_ Try.func26 #[.agg #[.slice Ao12_0 t12_0.length co12_0, .slice Ao12_1 t12_1.length co12_1], .agg #[.slice Ao14_0 t14_0.length co14_0, .int .i64 t14_1, .int .i64 t14_2]] ?_
       (with_reducible refine (spec_UndoForth.calls k _ _ t12_0 _ _ t12_1 _ _ t14_0 t14_1 t14_2 t16_0 t16_1 t16_2 t16_3 t16_4 t16_5 _ ?s0 ?s1 ?s2 ?s3 ?s4 ?s5 A16.out).mono ?_)
       (case s0 => exact (Kd.S_reads' HO12_0.out).2.2)
       (case s1 => exact (Kd.S_reads' HO12_0.out).2.1)
       (case s2 => exact (Kd.S_reads' HO12_1.out).2.2)
       (case s3 => exact (Kd.S_reads' HO12_1.out).2.1)
       (case s4 => exact (Kd.R_reads' HO14_0.out).2.2)
       (case s5 => exact (Kd.R_reads' HO14_0.out).2.1)
       rintro e w17 ⟨v16_0, v16_1, v16_2, rfl, ho0, ho1, ho2, hb⟩
       refine ⟨_, rfl, ?_⟩
       obtain ⟨na16, nb16, ha_, hz_, hab16⟩ := nxt_ hb
       have hn16 : nb14 ≤ na16 := (by rw [ha_]; exact HZ.out)
       replace HO12_0 := am (Kd.S_below HO12_0.out hb)
       replace HO12_1 := am (Kd.S_below HO12_1.out hb)
       replace HO14_0 := am (Kd.R_below HO14_0.out hb)
       replace BKgb1 := am (blk_below BKgb1.out hb)
       replace BKgb3 := am (blk_below BKgb3.out hb)
       have HO16_0 := am (T_rg ha_ hz_ (below_size HB.out) ho0)
       have HO16_1 := am (S_rg ha_ hz_ (below_size HB.out) ho1)
       have HO16_2 := am (R_rg ha_ hz_ (below_size HB.out) ho2)
       replace HB := am (below_step HB.out hb)
       replace HZ := am (Nat.le_of_eq hz_)
       clear hb ha_ hz_ ho0 ho1 ho2
       obtain ⟨Ao16_0, co16_0, eo16_0, _⟩ := Kd.T_slice HO16_0.out
       subst eo16_0
       obtain ⟨Ao16_1, co16_1, eo16_1⟩ := Kd.S_slice HO16_1.out
       subst eo16_1
       obtain ⟨Ao16_2, co16_2, eo16_2⟩ := Kd.R_slice HO16_2.out
       subst eo16_2
       refine hK.out _ _ ⟨bc BKgb1.out 0, bc BKgb1.out 1, bc BKgb3.out 0, bc BKgb3.out 1, bc BKgb3.out 2⟩ (fun hHeld => ?_)
       clear hK K
       refine norm_ (a' := ?_) ?_ ?_
       rotate_left
       ·show Act.put _ (some 28) _ = _; simp only [Act.put, sa_, s0_, ss_, i64_w, i32_w]; rfl
       refine one_ (i := 5) (N := some 6) #[true, true, true, true, true, true, false] rfl rfl (by kernel_rfl) (by decide) (fun K hK => ?_)
       refine box_step ?hg (N := 6) ?hd (cs := #[.slice none 0 0, .slice none 0 0, .slice none 0 0, .int .i64 0, .int .i64 0, .int .i64 0]) (t := 33) ?hr ?_
       (case hd => rfl)
       (case hg => rfl)
       (case hr => first | (go_simp; done) | (go_simp; rfl))
       intro gb18 hg w19 hbox hb
       have GEgb18 : w.heap.size ≤ gb18 := (by rw [hg]; exact below_size HB.out)
       have hn18 : nb16 ≤ gb18 := (by rw [hg]; exact HZ.out)
       have ngb18 : gb18 + 1 ≤ w19.heap.size := blk_lt hbox
       replace HO12_0 := am (Kd.S_below HO12_0.out hb)
       replace HO12_1 := am (Kd.S_below HO12_1.out hb)
       replace HO14_0 := am (Kd.R_below HO14_0.out hb)
       replace HO16_0 := am (Kd.T_below HO16_0.out hb)
       replace HO16_1 := am (Kd.S_below HO16_1.out hb)
       replace HO16_2 := am (Kd.R_below HO16_2.out hb)
       replace BKgb1 := am (blk_below BKgb1.out hb)
       replace BKgb3 := am (blk_below BKgb3.out hb)
       have BKgb18 := am (hbox)
       replace HB := am (below_step HB.out hb)
       replace HZ := am (ngb18)
       clear hb hbox hg ngb18
       refine hK.out _ _ ⟨bc BKgb1.out 0, bc BKgb1.out 1, bc BKgb3.out 0, bc BKgb3.out 1, bc BKgb3.out 2⟩ (fun hHeld => ?_)
       clear hK K
       refine norm_ (a' := ?_) ?_ ?_
       rotate_left
       ·show Act.put _ (some 6) _ = _; simp only [Act.put, sa_, s0_, ss_, i64_w, i32_w]; rfl
       exact norm_ (by first | (simp only [putAll, Act.put, sa_, s0_, ss_]; done) | (simp only [putAll, Act.put, sa_, s0_, ss_]; rfl)) (hJ (.slice Ao12_0 t12_0.length co12_0, .slice Ao12_1 t12_1.length co12_1, .slice Ao14_0 t14_0.length co14_0, .slice Ao16_0 t16_0.length co16_0, .slice Ao16_1 t16_1.length co16_1, .slice Ao16_2 t16_2.length co16_2, gb18, na12, nb12, na14, nb14, na16, nb16, (gb18 + 1)) _ ⟨hHeld, ⟨_, HO12_0.out⟩, ⟨_, HO12_1.out⟩, ⟨_, HO14_0.out⟩, ⟨_, HO16_0.out⟩, ⟨_, HO16_1.out⟩, ⟨_, HO16_2.out⟩, BKgb1.out, BKgb3.out, BKgb18.out, HB.out, HZ.out, GEgb18, (by (try dsimp only); omega), (by (try dsimp only); omega), (by (try dsimp only); omega), (by (try dsimp only); omega), (by (try dsimp only); omega)⟩)
      ·skip
       refine box_step ?hg (N := 6) ?hd (cs := #[.slice none 0 0, .slice none 0 0, .slice none 0 0, .int .i64 0, .int .i64 0, .int .i64 0]) (t := 33) ?hr ?_
       (case hd => rfl)
       (case hg => rfl)
       (case hr => first | (go_simp; done) | (go_simp; rfl))
       intro gb20 hg w21 hbox hb
       have GEgb20 : w.heap.size ≤ gb20 := (by rw [hg]; exact below_size HB.out)
       have hn20 : nb14 ≤ gb20 := (by rw [hg]; exact HZ.out)
       have ngb20 : gb20 + 1 ≤ w21.heap.size := blk_lt hbox
       replace HO12_0 := am (Kd.S_below HO12_0.out hb)
       replace HO12_1 := am (Kd.S_below HO12_1.out hb)
       replace HO14_0 := am (Kd.R_below HO14_0.out hb)
       replace BKgb1 := am (blk_below BKgb1.out hb)
       replace BKgb3 := am (blk_below BKgb3.out hb)
       have BKgb20 := am (hbox)
       replace HB := am (below_step HB.out hb)
       replace HZ := am (ngb20)
       clear hb hbox hg ngb20
       refine hK.out _ _ ⟨bc BKgb1.out 0, bc BKgb1.out 1, bc BKgb3.out 0, bc BKgb3.out 1, bc BKgb3.out 2⟩ (fun hHeld => ?_)
       clear hK K
       refine norm_ (a' := ?_) ?_ ?_
       rotate_left
       ·show Act.put _ (some 6) _ = _; simp only [Act.put, sa_, s0_, ss_, i64_w, i32_w]; rfl
       refine one_ (i := 4) (N := some 28) #[true, true, true, true, true, true, false] rfl rfl (by kernel_rfl) (by decide) (fun K hK => ?_)
       refine gs_ Try.func26 #[.agg #[.slice Ao12_0 t12_0.length co12_0, .slice Ao12_1 t12_1.length co12_1], .agg #[.slice Ao14_0 t14_0.length co14_0, .int .i64 t14_1, .int .i64 t14_2]] ?_
       (with_reducible refine (spec_UndoForth.calls k _ _ t12_0 _ _ t12_1 _ _ t14_0 t14_1 t14_2 t16_0 t16_1 t16_2 t16_3 t16_4 t16_5 _ ?s0 ?s1 ?s2 ?s3 ?s4 ?s5 A16.out).mono ?_)
       (case s0 => exact (Kd.S_reads' HO12_0.out).2.2)
       (case s1 => exact (Kd.S_reads' HO12_0.out).2.1)
       (case s2 => exact (Kd.S_reads' HO12_1.out).2.2)
       (case s3 => exact (Kd.S_reads' HO12_1.out).2.1)
       (case s4 => exact (Kd.R_reads' HO14_0.out).2.2)
       (case s5 => exact (Kd.R_reads' HO14_0.out).2.1)
       rintro e w23 ⟨v22_0, v22_1, v22_2, rfl, ho0, ho1, ho2, hb⟩
       refine ⟨_, rfl, ?_⟩
       obtain ⟨na22, nb22, ha_, hz_, hab22⟩ := nxt_ hb
       have hn22 : (gb20 + 1) ≤ na22 := (by rw [ha_]; exact HZ.out)
       replace HO12_0 := am (Kd.S_below HO12_0.out hb)
       replace HO12_1 := am (Kd.S_below HO12_1.out hb)
       replace HO14_0 := am (Kd.R_below HO14_0.out hb)
       replace BKgb1 := am (blk_below BKgb1.out hb)
       replace BKgb3 := am (blk_below BKgb3.out hb)
       replace BKgb20 := am (blk_below BKgb20.out hb)
       have HO22_0 := am (T_rg ha_ hz_ (below_size HB.out) ho0)
       have HO22_1 := am (S_rg ha_ hz_ (below_size HB.out) ho1)
       have HO22_2 := am (R_rg ha_ hz_ (below_size HB.out) ho2)
       replace HB := am (below_step HB.out hb)
       replace HZ := am (Nat.le_of_eq hz_)
       clear hb ha_ hz_ ho0 ho1 ho2
       obtain ⟨Ao22_0, co22_0, eo22_0, _⟩ := Kd.T_slice HO22_0.out
       subst eo22_0
       obtain ⟨Ao22_1, co22_1, eo22_1⟩ := Kd.S_slice HO22_1.out
       subst eo22_1
       obtain ⟨Ao22_2, co22_2, eo22_2⟩ := Kd.R_slice HO22_2.out
       subst eo22_2
       refine hK.out _ _ ⟨bc BKgb1.out 0, bc BKgb1.out 1, bc BKgb3.out 0, bc BKgb3.out 1, bc BKgb3.out 2⟩ (fun hHeld => ?_)
       clear hK K
       refine norm_ (a' := ?_) ?_ ?_
       rotate_left
       ·show Act.put _ (some 28) _ = _; simp only [Act.put, sa_, s0_, ss_, i64_w, i32_w]; rfl
       exact norm_ (by first | (simp only [putAll, Act.put, sa_, s0_, ss_]; done) | (simp only [putAll, Act.put, sa_, s0_, ss_]; rfl)) (hJ (.slice Ao12_0 t12_0.length co12_0, .slice Ao12_1 t12_1.length co12_1, .slice Ao14_0 t14_0.length co14_0, .slice Ao22_0 t16_0.length co22_0, .slice Ao22_1 t16_1.length co22_1, .slice Ao22_2 t16_2.length co22_2, gb20, na12, nb12, na14, nb14, na22, nb22, nb22) _ ⟨hHeld, ⟨_, HO12_0.out⟩, ⟨_, HO12_1.out⟩, ⟨_, HO14_0.out⟩, ⟨_, HO22_0.out⟩, ⟨_, HO22_1.out⟩, ⟨_, HO22_2.out⟩, BKgb1.out, BKgb3.out, BKgb20.out, HB.out, HZ.out, GEgb20, (by (try dsimp only); omega), (by (try dsimp only); omega), (by (try dsimp only); omega), (by (try dsimp only); omega), (by (try dsimp only); omega)⟩)
     ·skip
      refine box_step ?hg (N := 6) ?hd (cs := #[.slice none 0 0, .slice none 0 0, .slice none 0 0, .int .i64 0, .int .i64 0, .int .i64 0]) (t := 33) ?hr ?_
      (case hd => rfl)
      (case hg => rfl)
      (case hr => first | (go_simp; done) | (go_simp; rfl))
      intro gb24 hg w25 hbox hb
      have GEgb24 : w.heap.size ≤ gb24 := (by rw [hg]; exact below_size HB.out)
      have hn24 : nb12 ≤ gb24 := (by rw [hg]; exact HZ.out)
      have ngb24 : gb24 + 1 ≤ w25.heap.size := blk_lt hbox
      replace HO12_0 := am (Kd.S_below HO12_0.out hb)
      replace HO12_1 := am (Kd.S_below HO12_1.out hb)
      replace BKgb1 := am (blk_below BKgb1.out hb)
      replace BKgb3 := am (blk_below BKgb3.out hb)
      have BKgb24 := am (hbox)
      replace HB := am (below_step HB.out hb)
      replace HZ := am (ngb24)
      clear hb hbox hg ngb24
      refine hK.out _ _ ⟨bc BKgb1.out 0, bc BKgb1.out 1, bc BKgb3.out 0, bc BKgb3.out 1, bc BKgb3.out 2⟩ (fun hHeld => ?_)
      clear hK K
      refine norm_ (a' := ?_) ?_ ?_
      rotate_left
      ·show Act.put _ (some 6) _ = _; simp only [Act.put, sa_, s0_, ss_, i64_w, i32_w]; rfl
      refine one_ (i := 3) (N := some 27) #[true, true, true, true, false, true, false] rfl rfl (by kernel_rfl) (by decide) (fun K hK => ?_)
      refine gs_ Try.func9 #[.agg #[.slice A1_0 l1_0.length c1_0, .int .i64 a1_1, .int .i64 a1_2]] ?_
      (with_reducible refine (laws_toBuf.calls k _ _ l1_0 a1_1 a1_2 t14_0 t14_1 t14_2 _ ?s0 ?s1 A14.out).mono ?_)
      (case s0 => exact (Kd.C_below HR1_0.out HB.out))
      (case s1 => exact HC1_0.out)
      rintro e w27 ⟨v26_0, rfl, ho0, hb⟩
      refine ⟨_, rfl, ?_⟩
      obtain ⟨na26, nb26, ha_, hz_, hab26⟩ := nxt_ hb
      have hn26 : (gb24 + 1) ≤ na26 := (by rw [ha_]; exact HZ.out)
      replace HO12_0 := am (Kd.S_below HO12_0.out hb)
      replace HO12_1 := am (Kd.S_below HO12_1.out hb)
      replace BKgb1 := am (blk_below BKgb1.out hb)
      replace BKgb3 := am (blk_below BKgb3.out hb)
      replace BKgb24 := am (blk_below BKgb24.out hb)
      have HO26_0 := am (R_rg ha_ hz_ (below_size HB.out) ho0)
      replace HB := am (below_step HB.out hb)
      replace HZ := am (Nat.le_of_eq hz_)
      clear hb ha_ hz_ ho0
      obtain ⟨Ao26_0, co26_0, eo26_0⟩ := Kd.R_slice HO26_0.out
      subst eo26_0
      refine hK.out _ _ ⟨bc BKgb1.out 0, bc BKgb1.out 1, bc BKgb3.out 0, bc BKgb3.out 1, bc BKgb3.out 2⟩ (fun hHeld => ?_)
      clear hK K
      refine norm_ (a' := ?_) ?_ ?_
      rotate_left
      ·show Act.put _ (some 27) _ = _; simp only [Act.put, sa_, s0_, ss_, i64_w, i32_w]; rfl
      refine one_ (i := 4) (N := some 28) #[true, true, true, true, true, true, false] rfl rfl (by kernel_rfl) (by decide) (fun K hK => ?_)
      refine gs_ Try.func26 #[.agg #[.slice Ao12_0 t12_0.length co12_0, .slice Ao12_1 t12_1.length co12_1], .agg #[.slice Ao26_0 t14_0.length co26_0, .int .i64 t14_1, .int .i64 t14_2]] ?_
      (with_reducible refine (spec_UndoForth.calls k _ _ t12_0 _ _ t12_1 _ _ t14_0 t14_1 t14_2 t16_0 t16_1 t16_2 t16_3 t16_4 t16_5 _ ?s0 ?s1 ?s2 ?s3 ?s4 ?s5 A16.out).mono ?_)
      (case s0 => exact (Kd.S_reads' HO12_0.out).2.2)
      (case s1 => exact (Kd.S_reads' HO12_0.out).2.1)
      (case s2 => exact (Kd.S_reads' HO12_1.out).2.2)
      (case s3 => exact (Kd.S_reads' HO12_1.out).2.1)
      (case s4 => exact (Kd.R_reads' HO26_0.out).2.2)
      (case s5 => exact (Kd.R_reads' HO26_0.out).2.1)
      rintro e w29 ⟨v28_0, v28_1, v28_2, rfl, ho0, ho1, ho2, hb⟩
      refine ⟨_, rfl, ?_⟩
      obtain ⟨na28, nb28, ha_, hz_, hab28⟩ := nxt_ hb
      have hn28 : nb26 ≤ na28 := (by rw [ha_]; exact HZ.out)
      replace HO12_0 := am (Kd.S_below HO12_0.out hb)
      replace HO12_1 := am (Kd.S_below HO12_1.out hb)
      replace HO26_0 := am (Kd.R_below HO26_0.out hb)
      replace BKgb1 := am (blk_below BKgb1.out hb)
      replace BKgb3 := am (blk_below BKgb3.out hb)
      replace BKgb24 := am (blk_below BKgb24.out hb)
      have HO28_0 := am (T_rg ha_ hz_ (below_size HB.out) ho0)
      have HO28_1 := am (S_rg ha_ hz_ (below_size HB.out) ho1)
      have HO28_2 := am (R_rg ha_ hz_ (below_size HB.out) ho2)
      replace HB := am (below_step HB.out hb)
      replace HZ := am (Nat.le_of_eq hz_)
      clear hb ha_ hz_ ho0 ho1 ho2
      obtain ⟨Ao28_0, co28_0, eo28_0, _⟩ := Kd.T_slice HO28_0.out
      subst eo28_0
      obtain ⟨Ao28_1, co28_1, eo28_1⟩ := Kd.S_slice HO28_1.out
      subst eo28_1
      obtain ⟨Ao28_2, co28_2, eo28_2⟩ := Kd.R_slice HO28_2.out
      subst eo28_2
      refine hK.out _ _ ⟨bc BKgb1.out 0, bc BKgb1.out 1, bc BKgb3.out 0, bc BKgb3.out 1, bc BKgb3.out 2⟩ (fun hHeld => ?_)
      clear hK K
      refine norm_ (a' := ?_) ?_ ?_
      rotate_left
      ·show Act.put _ (some 28) _ = _; simp only [Act.put, sa_, s0_, ss_, i64_w, i32_w]; rfl
      exact norm_ (by first | (simp only [putAll, Act.put, sa_, s0_, ss_]; done) | (simp only [putAll, Act.put, sa_, s0_, ss_]; rfl)) (hJ (.slice Ao12_0 t12_0.length co12_0, .slice Ao12_1 t12_1.length co12_1, .slice Ao26_0 t14_0.length co26_0, .slice Ao28_0 t16_0.length co28_0, .slice Ao28_1 t16_1.length co28_1, .slice Ao28_2 t16_2.length co28_2, gb24, na12, nb12, na26, nb26, na28, nb28, nb28) _ ⟨hHeld, ⟨_, HO12_0.out⟩, ⟨_, HO12_1.out⟩, ⟨_, HO26_0.out⟩, ⟨_, HO28_0.out⟩, ⟨_, HO28_1.out⟩, ⟨_, HO28_2.out⟩, BKgb1.out, BKgb3.out, BKgb24.out, HB.out, HZ.out, GEgb24, (by (try dsimp only); omega), (by (try dsimp only); omega), (by (try dsimp only); omega), (by (try dsimp only); omega), (by (try dsimp only); omega)⟩)
    ·skip
     refine box_step ?hg (N := 6) ?hd (cs := #[.slice none 0 0, .slice none 0 0, .slice none 0 0, .int .i64 0, .int .i64 0, .int .i64 0]) (t := 33) ?hr ?_
     (case hd => rfl)
     (case hg => rfl)
     (case hr => first | (go_simp; done) | (go_simp; rfl))
     intro gb30 hg w31 hbox hb
     have GEgb30 : w.heap.size ≤ gb30 := (by rw [hg]; exact below_size HB.out)
     have hn30 : nb8 ≤ gb30 := (by rw [hg]; exact HZ.out)
     have ngb30 : gb30 + 1 ≤ w31.heap.size := blk_lt hbox
     replace BKgb1 := am (blk_below BKgb1.out hb)
     replace BKgb3 := am (blk_below BKgb3.out hb)
     have BKgb30 := am (hbox)
     replace HB := am (below_step HB.out hb)
     replace HZ := am (ngb30)
     clear hb hbox hg ngb30
     refine hK.out _ _ ⟨bc BKgb1.out 0, bc BKgb1.out 1, bc BKgb3.out 0, bc BKgb3.out 1, bc BKgb3.out 2⟩ (fun hHeld => ?_)
     clear hK K
     refine norm_ (a' := ?_) ?_ ?_
     rotate_left
     ·show Act.put _ (some 6) _ = _; simp only [Act.put, sa_, s0_, ss_, i64_w, i32_w]; rfl
     refine one_ (i := 1) (N := some 25) #[true, true, true, false, false, true, false] rfl rfl (by kernel_rfl) (by decide) (fun K hK => ?_)
     refine gs_ Try.func21 #[.agg #[.slice A0_0 l0_0.length c0_0, .slice A0_1 l0_1.length c0_1]] ?_
     (with_reducible refine (laws_toUndo.calls k _ _ l0_0 _ _ l0_1 t12_0 t12_1 _ ?s0 ?s1 ?s2 ?s3 A12.out).mono ?_)
     (case s0 => exact (Kd.C_below HR0_0.out HB.out))
     (case s1 => exact HC0_0.out)
     (case s2 => exact (Kd.C_below HR0_1.out HB.out))
     (case s3 => exact HC0_1.out)
     rintro e w33 ⟨v32_0, v32_1, rfl, ho0, ho1, hb⟩
     refine ⟨_, rfl, ?_⟩
     obtain ⟨na32, nb32, ha_, hz_, hab32⟩ := nxt_ hb
     have hn32 : (gb30 + 1) ≤ na32 := (by rw [ha_]; exact HZ.out)
     replace BKgb1 := am (blk_below BKgb1.out hb)
     replace BKgb3 := am (blk_below BKgb3.out hb)
     replace BKgb30 := am (blk_below BKgb30.out hb)
     have HO32_0 := am (S_rg ha_ hz_ (below_size HB.out) ho0)
     have HO32_1 := am (S_rg ha_ hz_ (below_size HB.out) ho1)
     replace HB := am (below_step HB.out hb)
     replace HZ := am (Nat.le_of_eq hz_)
     clear hb ha_ hz_ ho0 ho1
     obtain ⟨Ao32_0, co32_0, eo32_0⟩ := Kd.S_slice HO32_0.out
     subst eo32_0
     obtain ⟨Ao32_1, co32_1, eo32_1⟩ := Kd.S_slice HO32_1.out
     subst eo32_1
     refine hK.out _ _ ⟨bc BKgb1.out 0, bc BKgb1.out 1, bc BKgb3.out 0, bc BKgb3.out 1, bc BKgb3.out 2⟩ (fun hHeld => ?_)
     clear hK K
     refine norm_ (a' := ?_) ?_ ?_
     rotate_left
     ·show Act.put _ (some 25) _ = _; simp only [Act.put, sa_, s0_, ss_, i64_w, i32_w]; rfl
     refine one_ (i := 3) (N := some 27) #[true, true, true, true, false, true, false] rfl rfl (by kernel_rfl) (by decide) (fun K hK => ?_)
     refine gs_ Try.func9 #[.agg #[.slice A1_0 l1_0.length c1_0, .int .i64 a1_1, .int .i64 a1_2]] ?_
     (with_reducible refine (laws_toBuf.calls k _ _ l1_0 a1_1 a1_2 t14_0 t14_1 t14_2 _ ?s0 ?s1 A14.out).mono ?_)
     (case s0 => exact (Kd.C_below HR1_0.out HB.out))
     (case s1 => exact HC1_0.out)
     rintro e w35 ⟨v34_0, rfl, ho0, hb⟩
     refine ⟨_, rfl, ?_⟩
     obtain ⟨na34, nb34, ha_, hz_, hab34⟩ := nxt_ hb
     have hn34 : nb32 ≤ na34 := (by rw [ha_]; exact HZ.out)
     replace HO32_0 := am (Kd.S_below HO32_0.out hb)
     replace HO32_1 := am (Kd.S_below HO32_1.out hb)
     replace BKgb1 := am (blk_below BKgb1.out hb)
     replace BKgb3 := am (blk_below BKgb3.out hb)
     replace BKgb30 := am (blk_below BKgb30.out hb)
     have HO34_0 := am (R_rg ha_ hz_ (below_size HB.out) ho0)
     replace HB := am (below_step HB.out hb)
     replace HZ := am (Nat.le_of_eq hz_)
     clear hb ha_ hz_ ho0
     obtain ⟨Ao34_0, co34_0, eo34_0⟩ := Kd.R_slice HO34_0.out
     subst eo34_0
     refine hK.out _ _ ⟨bc BKgb1.out 0, bc BKgb1.out 1, bc BKgb3.out 0, bc BKgb3.out 1, bc BKgb3.out 2⟩ (fun hHeld => ?_)
     clear hK K
     refine norm_ (a' := ?_) ?_ ?_
     rotate_left
     ·show Act.put _ (some 27) _ = _; simp only [Act.put, sa_, s0_, ss_, i64_w, i32_w]; rfl
     refine one_ (i := 4) (N := some 28) #[true, true, true, true, true, true, false] rfl rfl (by kernel_rfl) (by decide) (fun K hK => ?_)
     refine gs_ Try.func26 #[.agg #[.slice Ao32_0 t12_0.length co32_0, .slice Ao32_1 t12_1.length co32_1], .agg #[.slice Ao34_0 t14_0.length co34_0, .int .i64 t14_1, .int .i64 t14_2]] ?_
     (with_reducible refine (spec_UndoForth.calls k _ _ t12_0 _ _ t12_1 _ _ t14_0 t14_1 t14_2 t16_0 t16_1 t16_2 t16_3 t16_4 t16_5 _ ?s0 ?s1 ?s2 ?s3 ?s4 ?s5 A16.out).mono ?_)
     (case s0 => exact (Kd.S_reads' HO32_0.out).2.2)
     (case s1 => exact (Kd.S_reads' HO32_0.out).2.1)
     (case s2 => exact (Kd.S_reads' HO32_1.out).2.2)
     (case s3 => exact (Kd.S_reads' HO32_1.out).2.1)
     (case s4 => exact (Kd.R_reads' HO34_0.out).2.2)
     (case s5 => exact (Kd.R_reads' HO34_0.out).2.1)
     rintro e w37 ⟨v36_0, v36_1, v36_2, rfl, ho0, ho1, ho2, hb⟩
     refine ⟨_, rfl, ?_⟩
     obtain ⟨na36, nb36, ha_, hz_, hab36⟩ := nxt_ hb
     have hn36 : nb34 ≤ na36 := (by rw [ha_]; exact HZ.out)
     replace HO32_0 := am (Kd.S_below HO32_0.out hb)
     replace HO32_1 := am (Kd.S_below HO32_1.out hb)
     replace HO34_0 := am (Kd.R_below HO34_0.out hb)
     replace BKgb1 := am (blk_below BKgb1.out hb)
     replace BKgb3 := am (blk_below BKgb3.out hb)
     replace BKgb30 := am (blk_below BKgb30.out hb)
     have HO36_0 := am (T_rg ha_ hz_ (below_size HB.out) ho0)
     have HO36_1 := am (S_rg ha_ hz_ (below_size HB.out) ho1)
     have HO36_2 := am (R_rg ha_ hz_ (below_size HB.out) ho2)
     replace HB := am (below_step HB.out hb)
     replace HZ := am (Nat.le_of_eq hz_)
     clear hb ha_ hz_ ho0 ho1 ho2
     obtain ⟨Ao36_0, co36_0, eo36_0, _⟩ := Kd.T_slice HO36_0.out
     subst eo36_0
     obtain ⟨Ao36_1, co36_1, eo36_1⟩ := Kd.S_slice HO36_1.out
     subst eo36_1
     obtain ⟨Ao36_2, co36_2, eo36_2⟩ := Kd.R_slice HO36_2.out
     subst eo36_2
     refine hK.out _ _ ⟨bc BKgb1.out 0, bc BKgb1.out 1, bc BKgb3.out 0, bc BKgb3.out 1, bc BKgb3.out 2⟩ (fun hHeld => ?_)
     clear hK K
     refine norm_ (a' := ?_) ?_ ?_
     rotate_left
     ·show Act.put _ (some 28) _ = _; simp only [Act.put, sa_, s0_, ss_, i64_w, i32_w]; rfl
     exact norm_ (by first | (simp only [putAll, Act.put, sa_, s0_, ss_]; done) | (simp only [putAll, Act.put, sa_, s0_, ss_]; rfl)) (hJ (.slice Ao32_0 t12_0.length co32_0, .slice Ao32_1 t12_1.length co32_1, .slice Ao34_0 t14_0.length co34_0, .slice Ao36_0 t16_0.length co36_0, .slice Ao36_1 t16_1.length co36_1, .slice Ao36_2 t16_2.length co36_2, gb30, na32, nb32, na34, nb34, na36, nb36, nb36) _ ⟨hHeld, ⟨_, HO32_0.out⟩, ⟨_, HO32_1.out⟩, ⟨_, HO34_0.out⟩, ⟨_, HO36_0.out⟩, ⟨_, HO36_1.out⟩, ⟨_, HO36_2.out⟩, BKgb1.out, BKgb3.out, BKgb30.out, HB.out, HZ.out, GEgb30, (by (try dsimp only); omega), (by (try dsimp only); omega), (by (try dsimp only); omega), (by (try dsimp only); omega), (by (try dsimp only); omega)⟩)
   rintro ⟨vj38_0_0, vj38_0_1, vj38_1_0, vj38_2_0, vj38_2_1, vj38_2_2, gb39, nj38_0, mj38_0, nj38_1, mj38_1, nj38_2, mj38_2, nl38⟩ w40 ⟨hS_, ⟨T38_0, h0_⟩, ⟨T38_1, h1_⟩, ⟨T38_2, h2_⟩, ⟨T38_3, h3_⟩, ⟨T38_4, h4_⟩, ⟨T38_5, h5_⟩, h6_, h7_, h8_, h9_, h10_, h11_, h12_, h13_, h14_, h15_, h16_⟩
   have HOj38_1_0 : Aside0 (Kd.S k31 31 w40 w.heap.size (fun k_ => Rg nj38_0 mj38_0 k_ ∧ T38_0 k_) vj38_0_0 t12_0) := ⟨h0_⟩
   have HOj38_1_1 : Aside0 (Kd.S k31 31 w40 w.heap.size (fun k_ => Rg nj38_0 mj38_0 k_ ∧ T38_1 k_) vj38_0_1 t12_1) := ⟨h1_⟩
   have HOj38_3_0 : Aside0 (Kd.R (Kd.int .i64) 2 w40 w.heap.size (fun k_ => Rg nj38_1 mj38_1 k_ ∧ T38_2 k_) vj38_1_0 t14_0) := ⟨h2_⟩
   have HOj38_4_0 : Aside0 (Kd.T k31 31 w40 w.heap.size (fun k_ => Rg nj38_2 mj38_2 k_ ∧ T38_3 k_) vj38_2_0 t16_0) := ⟨h3_⟩
   have HOj38_4_1 : Aside0 (Kd.S k31 31 w40 w.heap.size (fun k_ => Rg nj38_2 mj38_2 k_ ∧ T38_4 k_) vj38_2_1 t16_1) := ⟨h4_⟩
   have HOj38_4_2 : Aside0 (Kd.R (Kd.int .i64) 2 w40 w.heap.size (fun k_ => Rg nj38_2 mj38_2 k_ ∧ T38_5 k_) vj38_2_2 t16_2) := ⟨h5_⟩
   replace BKgb1 : Aside0 (w40.heap[gb1]? = some (.cells #[.slice A0_0 l0_0.length c0_0, .slice A0_1 l0_1.length c0_1] 45 (0, 0))) := ⟨h6_⟩
   replace BKgb3 : Aside0 (w40.heap[gb3]? = some (.cells #[.slice A1_0 l1_0.length c1_0, .int .i64 a1_1, .int .i64 a1_2] 24 (0, 0))) := ⟨h7_⟩
   have BKgb39 : Aside0 (w40.heap[gb39]? = some (.cells #[.slice none 0 0, .slice none 0 0, .slice none 0 0, .int .i64 0, .int .i64 0, .int .i64 0] 33 (0, 0))) := ⟨h8_⟩
   replace HB : Aside0 (Below w.heap.size w w40) := ⟨h9_⟩
   replace HZ : Aside0 (nl38 ≤ w40.heap.size) := ⟨h10_⟩
   have GEgb39 : w.heap.size ≤ gb39 := h11_
   have hq38_12 : nb8 ≤ gb39 ∧ gb39 < nl38 := h12_
   have hq38_13 : nb8 ≤ nj38_0 ∧ nj38_0 ≤ mj38_0 ∧ (gb39 < nj38_0 ∨ mj38_0 ≤ gb39) := h13_
   have hq38_14 : mj38_0 ≤ nj38_1 ∧ nj38_1 ≤ mj38_1 ∧ (gb39 < nj38_1 ∨ mj38_1 ≤ gb39) := h14_
   have hq38_15 : mj38_1 ≤ nj38_2 ∧ nj38_2 ≤ mj38_2 ∧ (gb39 < nj38_2 ∨ mj38_2 ≤ gb39) := h15_
   have hq38_16 : mj38_2 ≤ nl38 := h16_
   have hHeld2 : w40.cell? ⟨gb1, 0, none⟩ = some (.slice A0_0 l0_0.length c0_0) ∧ w40.cell? ⟨gb1, 1, none⟩ = some (.slice A0_1 l0_1.length c0_1) ∧ w40.cell? ⟨gb3, 0, none⟩ = some (.slice A1_0 l1_0.length c1_0) ∧ w40.cell? ⟨gb3, 1, none⟩ = some (.int .i64 a1_1) ∧ w40.cell? ⟨gb3, 2, none⟩ = some (.int .i64 a1_2) := hS_
   clear hS_ hHeld h0_ h1_ h2_ h3_ h4_ h5_ h6_ h7_ h8_ h9_ h10_ h11_ h12_ h13_ h14_ h15_ h16_
   have hHeld := hHeld2
   clear hHeld2
   obtain ⟨Aoj38_1_0, coj38_1_0, eoj38_1_0⟩ := Kd.S_slice HOj38_1_0.out
   subst eoj38_1_0
   obtain ⟨Aoj38_1_1, coj38_1_1, eoj38_1_1⟩ := Kd.S_slice HOj38_1_1.out
   subst eoj38_1_1
   obtain ⟨Aoj38_3_0, coj38_3_0, eoj38_3_0⟩ := Kd.R_slice HOj38_3_0.out
   subst eoj38_3_0
   obtain ⟨Aoj38_4_0, coj38_4_0, eoj38_4_0, _⟩ := Kd.T_slice HOj38_4_0.out
   subst eoj38_4_0
   obtain ⟨Aoj38_4_1, coj38_4_1, eoj38_4_1⟩ := Kd.S_slice HOj38_4_1.out
   subst eoj38_4_1
   obtain ⟨Aoj38_4_2, coj38_4_2, eoj38_4_2⟩ := Kd.R_slice HOj38_4_2.out
   subst eoj38_4_2
   clear hcgb1_0 hfgb1_0 hcgb1_1 hfgb1_1 hcgb3_0 hfgb3_0 hcgb3_1 hfgb3_1 hcgb3_2 hfgb3_2
   have hcgb1_0 : w40.cell? ⟨gb1, 0, none⟩ = some (.slice A0_0 l0_0.length c0_0) := bc BKgb1.out 0
   have hfgb1_0 := blk_frozen BKgb1.out 0
   have hcgb1_1 : w40.cell? ⟨gb1, 1, none⟩ = some (.slice A0_1 l0_1.length c0_1) := bc BKgb1.out 1
   have hfgb1_1 := blk_frozen BKgb1.out 1
   have hcgb3_0 : w40.cell? ⟨gb3, 0, none⟩ = some (.slice A1_0 l1_0.length c1_0) := bc BKgb3.out 0
   have hfgb3_0 := blk_frozen BKgb3.out 0
   have hcgb3_1 : w40.cell? ⟨gb3, 1, none⟩ = some (.int .i64 a1_1) := bc BKgb3.out 1
   have hfgb3_1 := blk_frozen BKgb3.out 1
   have hcgb3_2 : w40.cell? ⟨gb3, 2, none⟩ = some (.int .i64 a1_2) := bc BKgb3.out 2
   have hfgb3_2 := blk_frozen BKgb3.out 2
   have hcgb39_0 : w40.cell? ⟨gb39, 0, none⟩ = some (.slice none 0 0) := bc BKgb39.out 0
   have hfgb39_0 := blk_frozen BKgb39.out 0
   have hcgb39_1 : w40.cell? ⟨gb39, 1, none⟩ = some (.slice none 0 0) := bc BKgb39.out 1
   have hfgb39_1 := blk_frozen BKgb39.out 1
   have hcgb39_2 : w40.cell? ⟨gb39, 2, none⟩ = some (.slice none 0 0) := bc BKgb39.out 2
   have hfgb39_2 := blk_frozen BKgb39.out 2
   have hcgb39_3 : w40.cell? ⟨gb39, 3, none⟩ = some (.int .i64 0) := bc BKgb39.out 3
   have hfgb39_3 := blk_frozen BKgb39.out 3
   have hcgb39_4 : w40.cell? ⟨gb39, 4, none⟩ = some (.int .i64 0) := bc BKgb39.out 4
   have hfgb39_4 := blk_frozen BKgb39.out 4
   have hcgb39_5 : w40.cell? ⟨gb39, 5, none⟩ = some (.int .i64 0) := bc BKgb39.out 5
   have hfgb39_5 := blk_frozen BKgb39.out 5
   have hxgb39_gb1 : gb39 ≠ gb1 := (by omega)
   have hygb39_gb1 : gb1 ≠ gb39 := (by omega)
   have hxgb39_gb3 : gb39 ≠ gb3 := (by omega)
   have hygb39_gb3 : gb3 ≠ gb39 := (by omega)
   refine norm_ (a' := ?_) ?_ ?_
   rotate_left
   ·simp only [putAll, Act.put, sa_, s0_, ss_]; rfl
   refine one_ (i := 6) (N := none) #[true, true, true, true, true, true, true] rfl rfl (by kernel_rfl) (by decide) (fun K hK => ?_)
   refine skip_ (w1 := ?_) (by rfl) rfl ?_ ?_
   rotate_left
   ·go_simp; rfl
   refine hK.out _ _ ⟨((cell_far (p := ⟨gb39, _, none⟩) hygb39_gb1 _).trans ((cell_far (p := ⟨gb39, _, none⟩) hygb39_gb1 _).trans ((cell_far (p := ⟨gb39, _, none⟩) hygb39_gb1 _).trans ((cell_far (p := ⟨gb39, _, none⟩) hygb39_gb1 _).trans ((cell_far (p := ⟨gb39, _, none⟩) hygb39_gb1 _).trans ((cell_far (p := ⟨gb39, _, none⟩) hygb39_gb1 _).trans (hHeld.1))))))), ((cell_far (p := ⟨gb39, _, none⟩) hygb39_gb1 _).trans ((cell_far (p := ⟨gb39, _, none⟩) hygb39_gb1 _).trans ((cell_far (p := ⟨gb39, _, none⟩) hygb39_gb1 _).trans ((cell_far (p := ⟨gb39, _, none⟩) hygb39_gb1 _).trans ((cell_far (p := ⟨gb39, _, none⟩) hygb39_gb1 _).trans ((cell_far (p := ⟨gb39, _, none⟩) hygb39_gb1 _).trans (hHeld.2.1))))))), ((cell_far (p := ⟨gb39, _, none⟩) hygb39_gb3 _).trans ((cell_far (p := ⟨gb39, _, none⟩) hygb39_gb3 _).trans ((cell_far (p := ⟨gb39, _, none⟩) hygb39_gb3 _).trans ((cell_far (p := ⟨gb39, _, none⟩) hygb39_gb3 _).trans ((cell_far (p := ⟨gb39, _, none⟩) hygb39_gb3 _).trans ((cell_far (p := ⟨gb39, _, none⟩) hygb39_gb3 _).trans (hHeld.2.2.1))))))), ((cell_far (p := ⟨gb39, _, none⟩) hygb39_gb3 _).trans ((cell_far (p := ⟨gb39, _, none⟩) hygb39_gb3 _).trans ((cell_far (p := ⟨gb39, _, none⟩) hygb39_gb3 _).trans ((cell_far (p := ⟨gb39, _, none⟩) hygb39_gb3 _).trans ((cell_far (p := ⟨gb39, _, none⟩) hygb39_gb3 _).trans ((cell_far (p := ⟨gb39, _, none⟩) hygb39_gb3 _).trans (hHeld.2.2.2.1))))))), ((cell_far (p := ⟨gb39, _, none⟩) hygb39_gb3 _).trans ((cell_far (p := ⟨gb39, _, none⟩) hygb39_gb3 _).trans ((cell_far (p := ⟨gb39, _, none⟩) hygb39_gb3 _).trans ((cell_far (p := ⟨gb39, _, none⟩) hygb39_gb3 _).trans ((cell_far (p := ⟨gb39, _, none⟩) hygb39_gb3 _).trans ((cell_far (p := ⟨gb39, _, none⟩) hygb39_gb3 _).trans (hHeld.2.2.2.2)))))))⟩ (fun hHeld => ?_)
   clear hK K
   refine done_ (by kernel_rfl) ?_
   go_wp2_with (first | ((with_reducible refine gate_callee (f := 21) rfl ?_); refine gl (some 30) Try.func21 #[.agg #[.slice A0_0 l0_0.length c0_0, .slice A0_1 l0_1.length c0_1]] ?_; (with_reducible refine (laws_toUndo.callsA k _ _ l0_0 _ _ l0_1 t41_0 t41_1 _ ?s0 ?s1 ?s2 ?s3 A41.out).mono ?_); (case s0 => exact (Kd.C_below HR0_0.out (below_set (below_set (below_set (below_set (below_set (below_set HB.out GEgb39) GEgb39) GEgb39) GEgb39) GEgb39) GEgb39))); (case s1 => exact HC0_0.out); (case s2 => exact (Kd.C_below HR0_1.out (below_set (below_set (below_set (below_set (below_set (below_set HB.out GEgb39) GEgb39) GEgb39) GEgb39) GEgb39) GEgb39))); (case s3 => exact HC0_1.out); rintro e w42 ⟨mq41_1, ⟨hs0_, hs1_⟩, v41_0, v41_1, rfl, ho0, ho1, hb⟩; refine ⟨_, rfl, ?_⟩; obtain ⟨na41, nb41, ha_, hz_, hab41⟩ := nxt_ hb; have hn41 : nl38 ≤ na41 := (by rw [ha_]; exact (sz_set (sz_set (sz_set (sz_set (sz_set (sz_set HZ.out))))))); have hq41_0 : na41 ≤ mq41_1 := (by rw [ha_]; exact hs0_); have hq41_2 : mq41_1 ≤ nb41 := (by rw [hz_]; exact hs1_); clear hs0_ hs1_; replace HOj38_1_0 := am (Kd.S_below (S_farR (g := gb39) (S_farR (g := gb39) (S_farR (g := gb39) (S_farR (g := gb39) (S_farR (g := gb39) (S_farR (g := gb39) HOj38_1_0.out (by omega) _) (by omega) _) (by omega) _) (by omega) _) (by omega) _) (by omega) _) hb); replace HOj38_1_1 := am (Kd.S_below (S_farR (g := gb39) (S_farR (g := gb39) (S_farR (g := gb39) (S_farR (g := gb39) (S_farR (g := gb39) (S_farR (g := gb39) HOj38_1_1.out (by omega) _) (by omega) _) (by omega) _) (by omega) _) (by omega) _) (by omega) _) hb); replace HOj38_3_0 := am (Kd.R_below (R_farR (g := gb39) (R_farR (g := gb39) (R_farR (g := gb39) (R_farR (g := gb39) (R_farR (g := gb39) (R_farR (g := gb39) HOj38_3_0.out (by omega) _) (by omega) _) (by omega) _) (by omega) _) (by omega) _) (by omega) _) hb); replace HOj38_4_0 := am (Kd.T_below (T_farR (g := gb39) (T_farR (g := gb39) (T_farR (g := gb39) (T_farR (g := gb39) (T_farR (g := gb39) (T_farR (g := gb39) HOj38_4_0.out (by omega) _) (by omega) _) (by omega) _) (by omega) _) (by omega) _) (by omega) _) hb); replace HOj38_4_1 := am (Kd.S_below (S_farR (g := gb39) (S_farR (g := gb39) (S_farR (g := gb39) (S_farR (g := gb39) (S_farR (g := gb39) (S_farR (g := gb39) HOj38_4_1.out (by omega) _) (by omega) _) (by omega) _) (by omega) _) (by omega) _) (by omega) _) hb); replace HOj38_4_2 := am (Kd.R_below (R_farR (g := gb39) (R_farR (g := gb39) (R_farR (g := gb39) (R_farR (g := gb39) (R_farR (g := gb39) (R_farR (g := gb39) HOj38_4_2.out (by omega) _) (by omega) _) (by omega) _) (by omega) _) (by omega) _) (by omega) _) hb); replace BKgb1 := am (blk_below (g := gb1) (o := .cells #[.slice A0_0 l0_0.length c0_0, .slice A0_1 l0_1.length c0_1] 45 (0, 0)) (by refine pk ?_; refine blk_far ?_ (show gb1 ≠ gb39 by omega) _; refine pk ?_; refine blk_far ?_ (show gb1 ≠ gb39 by omega) _; refine pk ?_; refine blk_far ?_ (show gb1 ≠ gb39 by omega) _; refine pk ?_; refine blk_far ?_ (show gb1 ≠ gb39 by omega) _; refine pk ?_; refine blk_far ?_ (show gb1 ≠ gb39 by omega) _; refine pk ?_; refine blk_far ?_ (show gb1 ≠ gb39 by omega) _; refine pk ?_; exact BKgb1.out) hb); replace BKgb3 := am (blk_below (g := gb3) (o := .cells #[.slice A1_0 l1_0.length c1_0, .int .i64 a1_1, .int .i64 a1_2] 24 (0, 0)) (by refine pk ?_; refine blk_far ?_ (show gb3 ≠ gb39 by omega) _; refine pk ?_; refine blk_far ?_ (show gb3 ≠ gb39 by omega) _; refine pk ?_; refine blk_far ?_ (show gb3 ≠ gb39 by omega) _; refine pk ?_; refine blk_far ?_ (show gb3 ≠ gb39 by omega) _; refine pk ?_; refine blk_far ?_ (show gb3 ≠ gb39 by omega) _; refine pk ?_; refine blk_far ?_ (show gb3 ≠ gb39 by omega) _; refine pk ?_; exact BKgb3.out) hb); replace BKgb39 := am (blk_below (g := gb39) (o := .cells #[.slice Aoj38_4_0 t16_0.length coj38_4_0, .slice Aoj38_4_1 t16_1.length coj38_4_1, .slice Aoj38_4_2 t16_2.length coj38_4_2, .int .i64 t16_3, .int .i64 t16_4, .int .i64 t16_5] 33 (0, 0)) (by refine pk ?_; refine blk_put (cs := #[.slice Aoj38_4_0 t16_0.length coj38_4_0, .slice Aoj38_4_1 t16_1.length coj38_4_1, .slice Aoj38_4_2 t16_2.length coj38_4_2, .int .i64 t16_3, .int .i64 t16_4, .int .i64 0]) ?_ 5 _ rfl; refine pk ?_; refine blk_put (cs := #[.slice Aoj38_4_0 t16_0.length coj38_4_0, .slice Aoj38_4_1 t16_1.length coj38_4_1, .slice Aoj38_4_2 t16_2.length coj38_4_2, .int .i64 t16_3, .int .i64 0, .int .i64 0]) ?_ 4 _ rfl; refine pk ?_; refine blk_put (cs := #[.slice Aoj38_4_0 t16_0.length coj38_4_0, .slice Aoj38_4_1 t16_1.length coj38_4_1, .slice Aoj38_4_2 t16_2.length coj38_4_2, .int .i64 0, .int .i64 0, .int .i64 0]) ?_ 3 _ rfl; refine pk ?_; refine blk_put (cs := #[.slice Aoj38_4_0 t16_0.length coj38_4_0, .slice Aoj38_4_1 t16_1.length coj38_4_1, .slice none 0 0, .int .i64 0, .int .i64 0, .int .i64 0]) ?_ 2 _ rfl; refine pk ?_; refine blk_put (cs := #[.slice Aoj38_4_0 t16_0.length coj38_4_0, .slice none 0 0, .slice none 0 0, .int .i64 0, .int .i64 0, .int .i64 0]) ?_ 1 _ rfl; refine pk ?_; refine blk_put (cs := #[.slice none 0 0, .slice none 0 0, .slice none 0 0, .int .i64 0, .int .i64 0, .int .i64 0]) ?_ 0 _ rfl; refine pk ?_; exact BKgb39.out) hb); have HO41_0 := am (Kd.S_mono (ok' := fun k_ => Rg na41 mq41_1 k_ ∧ True) (S_rg ha_ hz_ (below_size (below_set (below_set (below_set (below_set (below_set (below_set HB.out GEgb39) GEgb39) GEgb39) GEgb39) GEgb39) GEgb39)) ho0) (fun k_ hk_ => ⟨⟨hk_.1.1, hk_.2⟩, trivial⟩)); have HO41_1 := am (Kd.S_mono (ok' := fun k_ => Rg mq41_1 nb41 k_ ∧ True) (S_rg ha_ hz_ (below_size (below_set (below_set (below_set (below_set (below_set (below_set HB.out GEgb39) GEgb39) GEgb39) GEgb39) GEgb39) GEgb39)) ho1) (fun k_ hk_ => ⟨⟨hk_.2, hk_.1.2⟩, trivial⟩)); replace HB := am (below_step (below_set (below_set (below_set (below_set (below_set (below_set HB.out GEgb39) GEgb39) GEgb39) GEgb39) GEgb39) GEgb39) hb); replace HZ := am (Nat.le_of_eq hz_); clear hb ha_ hz_ ho0 ho1; obtain ⟨Ao41_0, co41_0, eo41_0⟩ := Kd.S_slice HO41_0.out; subst eo41_0; obtain ⟨Ao41_1, co41_1, eo41_1⟩ := Kd.S_slice HO41_1.out; subst eo41_1; clear hcgb1_0 hfgb1_0 hcgb1_1 hfgb1_1 hcgb3_0 hfgb3_0 hcgb3_1 hfgb3_1 hcgb3_2 hfgb3_2 hcgb39_0 hfgb39_0 hcgb39_1 hfgb39_1 hcgb39_2 hfgb39_2 hcgb39_3 hfgb39_3 hcgb39_4 hfgb39_4 hcgb39_5 hfgb39_5; have hcgb1_0 : w42.cell? ⟨gb1, 0, none⟩ = some (.slice A0_0 l0_0.length c0_0) := bc BKgb1.out 0; have hfgb1_0 := blk_frozen BKgb1.out 0; have hcgb1_1 : w42.cell? ⟨gb1, 1, none⟩ = some (.slice A0_1 l0_1.length c0_1) := bc BKgb1.out 1; have hfgb1_1 := blk_frozen BKgb1.out 1; have hcgb3_0 : w42.cell? ⟨gb3, 0, none⟩ = some (.slice A1_0 l1_0.length c1_0) := bc BKgb3.out 0; have hfgb3_0 := blk_frozen BKgb3.out 0; have hcgb3_1 : w42.cell? ⟨gb3, 1, none⟩ = some (.int .i64 a1_1) := bc BKgb3.out 1; have hfgb3_1 := blk_frozen BKgb3.out 1; have hcgb3_2 : w42.cell? ⟨gb3, 2, none⟩ = some (.int .i64 a1_2) := bc BKgb3.out 2; have hfgb3_2 := blk_frozen BKgb3.out 2; have hcgb39_0 : w42.cell? ⟨gb39, 0, none⟩ = some (.slice Aoj38_4_0 t16_0.length coj38_4_0) := bc BKgb39.out 0; have hfgb39_0 := blk_frozen BKgb39.out 0; have hcgb39_1 : w42.cell? ⟨gb39, 1, none⟩ = some (.slice Aoj38_4_1 t16_1.length coj38_4_1) := bc BKgb39.out 1; have hfgb39_1 := blk_frozen BKgb39.out 1; have hcgb39_2 : w42.cell? ⟨gb39, 2, none⟩ = some (.slice Aoj38_4_2 t16_2.length coj38_4_2) := bc BKgb39.out 2; have hfgb39_2 := blk_frozen BKgb39.out 2; have hcgb39_3 : w42.cell? ⟨gb39, 3, none⟩ = some (.int .i64 t16_3) := bc BKgb39.out 3; have hfgb39_3 := blk_frozen BKgb39.out 3; have hcgb39_4 : w42.cell? ⟨gb39, 4, none⟩ = some (.int .i64 t16_4) := bc BKgb39.out 4; have hfgb39_4 := blk_frozen BKgb39.out 4; have hcgb39_5 : w42.cell? ⟨gb39, 5, none⟩ = some (.int .i64 t16_5) := bc BKgb39.out 5; have hfgb39_5 := blk_frozen BKgb39.out 5) | ((with_reducible refine gate_dst (N := 7) rfl ?_); refine box_event ?hg (N := 7) ?hd (cs := #[.slice none 0 0, .slice none 0 0]) (t := 30) ?hr ?_; (case hd => rfl); (case hg => rfl); (case hr => first | (go_simp; done) | (go_simp; rfl)); intro gb43 hg w44 hbox hb; have GEgb43 : w.heap.size ≤ gb43 := (by rw [hg]; exact below_size HB.out); have hn43 : nb41 ≤ gb43 := (by rw [hg]; exact HZ.out); have ngb43 : gb43 + 1 ≤ w44.heap.size := blk_lt hbox; replace HOj38_1_0 := am (Kd.S_below HOj38_1_0.out hb); replace HOj38_1_1 := am (Kd.S_below HOj38_1_1.out hb); replace HOj38_3_0 := am (Kd.R_below HOj38_3_0.out hb); replace HOj38_4_0 := am (Kd.T_below HOj38_4_0.out hb); replace HOj38_4_1 := am (Kd.S_below HOj38_4_1.out hb); replace HOj38_4_2 := am (Kd.R_below HOj38_4_2.out hb); replace HO41_0 := am (Kd.S_below HO41_0.out hb); replace HO41_1 := am (Kd.S_below HO41_1.out hb); replace BKgb1 := am (blk_below BKgb1.out hb); replace BKgb3 := am (blk_below BKgb3.out hb); replace BKgb39 := am (blk_below BKgb39.out hb); have BKgb43 := am (hbox); replace HB := am (below_step HB.out hb); replace HZ := am (ngb43); clear hb hbox hg ngb43; clear hcgb1_0 hfgb1_0 hcgb1_1 hfgb1_1 hcgb3_0 hfgb3_0 hcgb3_1 hfgb3_1 hcgb3_2 hfgb3_2 hcgb39_0 hfgb39_0 hcgb39_1 hfgb39_1 hcgb39_2 hfgb39_2 hcgb39_3 hfgb39_3 hcgb39_4 hfgb39_4 hcgb39_5 hfgb39_5; have hcgb1_0 : w44.cell? ⟨gb1, 0, none⟩ = some (.slice A0_0 l0_0.length c0_0) := bc BKgb1.out 0; have hfgb1_0 := blk_frozen BKgb1.out 0; have hcgb1_1 : w44.cell? ⟨gb1, 1, none⟩ = some (.slice A0_1 l0_1.length c0_1) := bc BKgb1.out 1; have hfgb1_1 := blk_frozen BKgb1.out 1; have hcgb3_0 : w44.cell? ⟨gb3, 0, none⟩ = some (.slice A1_0 l1_0.length c1_0) := bc BKgb3.out 0; have hfgb3_0 := blk_frozen BKgb3.out 0; have hcgb3_1 : w44.cell? ⟨gb3, 1, none⟩ = some (.int .i64 a1_1) := bc BKgb3.out 1; have hfgb3_1 := blk_frozen BKgb3.out 1; have hcgb3_2 : w44.cell? ⟨gb3, 2, none⟩ = some (.int .i64 a1_2) := bc BKgb3.out 2; have hfgb3_2 := blk_frozen BKgb3.out 2; have hcgb39_0 : w44.cell? ⟨gb39, 0, none⟩ = some (.slice Aoj38_4_0 t16_0.length coj38_4_0) := bc BKgb39.out 0; have hfgb39_0 := blk_frozen BKgb39.out 0; have hcgb39_1 : w44.cell? ⟨gb39, 1, none⟩ = some (.slice Aoj38_4_1 t16_1.length coj38_4_1) := bc BKgb39.out 1; have hfgb39_1 := blk_frozen BKgb39.out 1; have hcgb39_2 : w44.cell? ⟨gb39, 2, none⟩ = some (.slice Aoj38_4_2 t16_2.length coj38_4_2) := bc BKgb39.out 2; have hfgb39_2 := blk_frozen BKgb39.out 2; have hcgb39_3 : w44.cell? ⟨gb39, 3, none⟩ = some (.int .i64 t16_3) := bc BKgb39.out 3; have hfgb39_3 := blk_frozen BKgb39.out 3; have hcgb39_4 : w44.cell? ⟨gb39, 4, none⟩ = some (.int .i64 t16_4) := bc BKgb39.out 4; have hfgb39_4 := blk_frozen BKgb39.out 4; have hcgb39_5 : w44.cell? ⟨gb39, 5, none⟩ = some (.int .i64 t16_5) := bc BKgb39.out 5; have hfgb39_5 := blk_frozen BKgb39.out 5; have hcgb43_0 : w44.cell? ⟨gb43, 0, none⟩ = some (.slice none 0 0) := bc BKgb43.out 0; have hfgb43_0 := blk_frozen BKgb43.out 0; have hcgb43_1 : w44.cell? ⟨gb43, 1, none⟩ = some (.slice none 0 0) := bc BKgb43.out 1; have hfgb43_1 := blk_frozen BKgb43.out 1; have hxgb43_gb1 : gb43 ≠ gb1 := (by omega); have hygb43_gb1 : gb1 ≠ gb43 := (by omega); have hxgb43_gb3 : gb43 ≠ gb3 := (by omega); have hygb43_gb3 : gb3 ≠ gb43 := (by omega); have hxgb43_gb39 : gb43 ≠ gb39 := (by omega); have hygb43_gb39 : gb39 ≠ gb43 := (by omega)) | ((with_reducible refine gate_callee (f := 9) rfl ?_); refine gl (some 32) Try.func9 #[.agg #[.slice A1_0 l1_0.length c1_0, .int .i64 a1_1, .int .i64 a1_2]] ?_; (with_reducible refine (laws_toBuf.calls k _ _ l1_0 a1_1 a1_2 t45_0 t45_1 t45_2 _ ?s0 ?s1 A45.out).mono ?_); (case s0 => exact (Kd.C_below HR1_0.out (below_set (below_set HB.out GEgb43) GEgb43))); (case s1 => exact HC1_0.out); rintro e w46 ⟨v45_0, rfl, ho0, hb⟩; refine ⟨_, rfl, ?_⟩; obtain ⟨na45, nb45, ha_, hz_, hab45⟩ := nxt_ hb; have hn45 : (gb43 + 1) ≤ na45 := (by rw [ha_]; exact (sz_set (sz_set HZ.out))); replace HOj38_1_0 := am (Kd.S_below (S_farR (g := gb43) (S_farR (g := gb43) HOj38_1_0.out (by omega) _) (by omega) _) hb); replace HOj38_1_1 := am (Kd.S_below (S_farR (g := gb43) (S_farR (g := gb43) HOj38_1_1.out (by omega) _) (by omega) _) hb); replace HOj38_3_0 := am (Kd.R_below (R_farR (g := gb43) (R_farR (g := gb43) HOj38_3_0.out (by omega) _) (by omega) _) hb); replace HOj38_4_0 := am (Kd.T_below (T_farR (g := gb43) (T_farR (g := gb43) HOj38_4_0.out (by omega) _) (by omega) _) hb); replace HOj38_4_1 := am (Kd.S_below (S_farR (g := gb43) (S_farR (g := gb43) HOj38_4_1.out (by omega) _) (by omega) _) hb); replace HOj38_4_2 := am (Kd.R_below (R_farR (g := gb43) (R_farR (g := gb43) HOj38_4_2.out (by omega) _) (by omega) _) hb); replace HO41_0 := am (Kd.S_below (S_farR (g := gb43) (S_farR (g := gb43) HO41_0.out (by omega) _) (by omega) _) hb); replace HO41_1 := am (Kd.S_below (S_farR (g := gb43) (S_farR (g := gb43) HO41_1.out (by omega) _) (by omega) _) hb); replace BKgb1 := am (blk_below (g := gb1) (o := .cells #[.slice A0_0 l0_0.length c0_0, .slice A0_1 l0_1.length c0_1] 45 (0, 0)) (by refine pk ?_; refine blk_far ?_ (show gb1 ≠ gb43 by omega) _; refine pk ?_; refine blk_far ?_ (show gb1 ≠ gb43 by omega) _; refine pk ?_; exact BKgb1.out) hb); replace BKgb3 := am (blk_below (g := gb3) (o := .cells #[.slice A1_0 l1_0.length c1_0, .int .i64 a1_1, .int .i64 a1_2] 24 (0, 0)) (by refine pk ?_; refine blk_far ?_ (show gb3 ≠ gb43 by omega) _; refine pk ?_; refine blk_far ?_ (show gb3 ≠ gb43 by omega) _; refine pk ?_; exact BKgb3.out) hb); replace BKgb39 := am (blk_below (g := gb39) (o := .cells #[.slice Aoj38_4_0 t16_0.length coj38_4_0, .slice Aoj38_4_1 t16_1.length coj38_4_1, .slice Aoj38_4_2 t16_2.length coj38_4_2, .int .i64 t16_3, .int .i64 t16_4, .int .i64 t16_5] 33 (0, 0)) (by refine pk ?_; refine blk_far ?_ (show gb39 ≠ gb43 by omega) _; refine pk ?_; refine blk_far ?_ (show gb39 ≠ gb43 by omega) _; refine pk ?_; exact BKgb39.out) hb); replace BKgb43 := am (blk_below (g := gb43) (o := .cells #[.slice Ao41_0 t41_0.length co41_0, .slice Ao41_1 t41_1.length co41_1] 30 (0, 0)) (by refine pk ?_; refine blk_put (cs := #[.slice Ao41_0 t41_0.length co41_0, .slice none 0 0]) ?_ 1 _ rfl; refine pk ?_; refine blk_put (cs := #[.slice none 0 0, .slice none 0 0]) ?_ 0 _ rfl; refine pk ?_; exact BKgb43.out) hb); have HO45_0 := am (R_rg ha_ hz_ (below_size (below_set (below_set HB.out GEgb43) GEgb43)) ho0); replace HB := am (below_step (below_set (below_set HB.out GEgb43) GEgb43) hb); replace HZ := am (Nat.le_of_eq hz_); clear hb ha_ hz_ ho0; obtain ⟨Ao45_0, co45_0, eo45_0⟩ := Kd.R_slice HO45_0.out; subst eo45_0; clear hcgb1_0 hfgb1_0 hcgb1_1 hfgb1_1 hcgb3_0 hfgb3_0 hcgb3_1 hfgb3_1 hcgb3_2 hfgb3_2 hcgb39_0 hfgb39_0 hcgb39_1 hfgb39_1 hcgb39_2 hfgb39_2 hcgb39_3 hfgb39_3 hcgb39_4 hfgb39_4 hcgb39_5 hfgb39_5 hcgb43_0 hfgb43_0 hcgb43_1 hfgb43_1; have hcgb1_0 : w46.cell? ⟨gb1, 0, none⟩ = some (.slice A0_0 l0_0.length c0_0) := bc BKgb1.out 0; have hfgb1_0 := blk_frozen BKgb1.out 0; have hcgb1_1 : w46.cell? ⟨gb1, 1, none⟩ = some (.slice A0_1 l0_1.length c0_1) := bc BKgb1.out 1; have hfgb1_1 := blk_frozen BKgb1.out 1; have hcgb3_0 : w46.cell? ⟨gb3, 0, none⟩ = some (.slice A1_0 l1_0.length c1_0) := bc BKgb3.out 0; have hfgb3_0 := blk_frozen BKgb3.out 0; have hcgb3_1 : w46.cell? ⟨gb3, 1, none⟩ = some (.int .i64 a1_1) := bc BKgb3.out 1; have hfgb3_1 := blk_frozen BKgb3.out 1; have hcgb3_2 : w46.cell? ⟨gb3, 2, none⟩ = some (.int .i64 a1_2) := bc BKgb3.out 2; have hfgb3_2 := blk_frozen BKgb3.out 2; have hcgb39_0 : w46.cell? ⟨gb39, 0, none⟩ = some (.slice Aoj38_4_0 t16_0.length coj38_4_0) := bc BKgb39.out 0; have hfgb39_0 := blk_frozen BKgb39.out 0; have hcgb39_1 : w46.cell? ⟨gb39, 1, none⟩ = some (.slice Aoj38_4_1 t16_1.length coj38_4_1) := bc BKgb39.out 1; have hfgb39_1 := blk_frozen BKgb39.out 1; have hcgb39_2 : w46.cell? ⟨gb39, 2, none⟩ = some (.slice Aoj38_4_2 t16_2.length coj38_4_2) := bc BKgb39.out 2; have hfgb39_2 := blk_frozen BKgb39.out 2; have hcgb39_3 : w46.cell? ⟨gb39, 3, none⟩ = some (.int .i64 t16_3) := bc BKgb39.out 3; have hfgb39_3 := blk_frozen BKgb39.out 3; have hcgb39_4 : w46.cell? ⟨gb39, 4, none⟩ = some (.int .i64 t16_4) := bc BKgb39.out 4; have hfgb39_4 := blk_frozen BKgb39.out 4; have hcgb39_5 : w46.cell? ⟨gb39, 5, none⟩ = some (.int .i64 t16_5) := bc BKgb39.out 5; have hfgb39_5 := blk_frozen BKgb39.out 5; have hcgb43_0 : w46.cell? ⟨gb43, 0, none⟩ = some (.slice Ao41_0 t41_0.length co41_0) := bc BKgb43.out 0; have hfgb43_0 := blk_frozen BKgb43.out 0; have hcgb43_1 : w46.cell? ⟨gb43, 1, none⟩ = some (.slice Ao41_1 t41_1.length co41_1) := bc BKgb43.out 1; have hfgb43_1 := blk_frozen BKgb43.out 1) | ((with_reducible refine gate_dst (N := 8) rfl ?_); refine box_event ?hg (N := 8) ?hd (cs := #[.slice none 0 0, .int .i64 0, .int .i64 0]) (t := 31) ?hr ?_; (case hd => rfl); (case hg => rfl); (case hr => first | (go_simp; done) | (go_simp; rfl)); intro gb47 hg w48 hbox hb; have GEgb47 : w.heap.size ≤ gb47 := (by rw [hg]; exact below_size HB.out); have hn47 : nb45 ≤ gb47 := (by rw [hg]; exact HZ.out); have ngb47 : gb47 + 1 ≤ w48.heap.size := blk_lt hbox; replace HOj38_1_0 := am (Kd.S_below HOj38_1_0.out hb); replace HOj38_1_1 := am (Kd.S_below HOj38_1_1.out hb); replace HOj38_3_0 := am (Kd.R_below HOj38_3_0.out hb); replace HOj38_4_0 := am (Kd.T_below HOj38_4_0.out hb); replace HOj38_4_1 := am (Kd.S_below HOj38_4_1.out hb); replace HOj38_4_2 := am (Kd.R_below HOj38_4_2.out hb); replace HO41_0 := am (Kd.S_below HO41_0.out hb); replace HO41_1 := am (Kd.S_below HO41_1.out hb); replace HO45_0 := am (Kd.R_below HO45_0.out hb); replace BKgb1 := am (blk_below BKgb1.out hb); replace BKgb3 := am (blk_below BKgb3.out hb); replace BKgb39 := am (blk_below BKgb39.out hb); replace BKgb43 := am (blk_below BKgb43.out hb); have BKgb47 := am (hbox); replace HB := am (below_step HB.out hb); replace HZ := am (ngb47); clear hb hbox hg ngb47; clear hcgb1_0 hfgb1_0 hcgb1_1 hfgb1_1 hcgb3_0 hfgb3_0 hcgb3_1 hfgb3_1 hcgb3_2 hfgb3_2 hcgb39_0 hfgb39_0 hcgb39_1 hfgb39_1 hcgb39_2 hfgb39_2 hcgb39_3 hfgb39_3 hcgb39_4 hfgb39_4 hcgb39_5 hfgb39_5 hcgb43_0 hfgb43_0 hcgb43_1 hfgb43_1; have hcgb1_0 : w48.cell? ⟨gb1, 0, none⟩ = some (.slice A0_0 l0_0.length c0_0) := bc BKgb1.out 0; have hfgb1_0 := blk_frozen BKgb1.out 0; have hcgb1_1 : w48.cell? ⟨gb1, 1, none⟩ = some (.slice A0_1 l0_1.length c0_1) := bc BKgb1.out 1; have hfgb1_1 := blk_frozen BKgb1.out 1; have hcgb3_0 : w48.cell? ⟨gb3, 0, none⟩ = some (.slice A1_0 l1_0.length c1_0) := bc BKgb3.out 0; have hfgb3_0 := blk_frozen BKgb3.out 0; have hcgb3_1 : w48.cell? ⟨gb3, 1, none⟩ = some (.int .i64 a1_1) := bc BKgb3.out 1; have hfgb3_1 := blk_frozen BKgb3.out 1; have hcgb3_2 : w48.cell? ⟨gb3, 2, none⟩ = some (.int .i64 a1_2) := bc BKgb3.out 2; have hfgb3_2 := blk_frozen BKgb3.out 2; have hcgb39_0 : w48.cell? ⟨gb39, 0, none⟩ = some (.slice Aoj38_4_0 t16_0.length coj38_4_0) := bc BKgb39.out 0; have hfgb39_0 := blk_frozen BKgb39.out 0; have hcgb39_1 : w48.cell? ⟨gb39, 1, none⟩ = some (.slice Aoj38_4_1 t16_1.length coj38_4_1) := bc BKgb39.out 1; have hfgb39_1 := blk_frozen BKgb39.out 1; have hcgb39_2 : w48.cell? ⟨gb39, 2, none⟩ = some (.slice Aoj38_4_2 t16_2.length coj38_4_2) := bc BKgb39.out 2; have hfgb39_2 := blk_frozen BKgb39.out 2; have hcgb39_3 : w48.cell? ⟨gb39, 3, none⟩ = some (.int .i64 t16_3) := bc BKgb39.out 3; have hfgb39_3 := blk_frozen BKgb39.out 3; have hcgb39_4 : w48.cell? ⟨gb39, 4, none⟩ = some (.int .i64 t16_4) := bc BKgb39.out 4; have hfgb39_4 := blk_frozen BKgb39.out 4; have hcgb39_5 : w48.cell? ⟨gb39, 5, none⟩ = some (.int .i64 t16_5) := bc BKgb39.out 5; have hfgb39_5 := blk_frozen BKgb39.out 5; have hcgb43_0 : w48.cell? ⟨gb43, 0, none⟩ = some (.slice Ao41_0 t41_0.length co41_0) := bc BKgb43.out 0; have hfgb43_0 := blk_frozen BKgb43.out 0; have hcgb43_1 : w48.cell? ⟨gb43, 1, none⟩ = some (.slice Ao41_1 t41_1.length co41_1) := bc BKgb43.out 1; have hfgb43_1 := blk_frozen BKgb43.out 1; have hcgb47_0 : w48.cell? ⟨gb47, 0, none⟩ = some (.slice none 0 0) := bc BKgb47.out 0; have hfgb47_0 := blk_frozen BKgb47.out 0; have hcgb47_1 : w48.cell? ⟨gb47, 1, none⟩ = some (.int .i64 0) := bc BKgb47.out 1; have hfgb47_1 := blk_frozen BKgb47.out 1; have hcgb47_2 : w48.cell? ⟨gb47, 2, none⟩ = some (.int .i64 0) := bc BKgb47.out 2; have hfgb47_2 := blk_frozen BKgb47.out 2; have hxgb47_gb1 : gb47 ≠ gb1 := (by omega); have hygb47_gb1 : gb1 ≠ gb47 := (by omega); have hxgb47_gb3 : gb47 ≠ gb3 := (by omega); have hygb47_gb3 : gb3 ≠ gb47 := (by omega); have hxgb47_gb39 : gb47 ≠ gb39 := (by omega); have hygb47_gb39 : gb39 ≠ gb47 := (by omega); have hxgb47_gb43 : gb47 ≠ gb43 := (by omega); have hygb47_gb43 : gb43 ≠ gb47 := (by omega)) | ((with_reducible refine gate_callee (f := 27) rfl ?_); refine gl (some 35) Try.func27 #[.agg #[.slice Ao41_0 t41_0.length co41_0, .slice Ao41_1 t41_1.length co41_1], .agg #[.slice Ao45_0 t45_0.length co45_0, .int .i64 t45_1, .int .i64 t45_2]] ?_; (with_reducible refine (impl_UndoForth.callsA k _ _ t41_0 _ _ t41_1 _ _ t45_0 t45_1 t45_2 t49_0 t49_1 t49_2 t49_3 t49_4 t49_5 _ ?s0 ?s1 ?s2 ?s3 ?s4 ?s5 A49.out).mono ?_); (case s0 => exact (Kd.S_reads' (S_farR (g := gb47) (S_farR (g := gb47) (S_farR (g := gb47) HO41_0.out (by omega) _) (by omega) _) (by omega) _)).2.2); (case s1 => exact (Kd.S_reads' HO41_0.out).2.1); (case s2 => exact (Kd.S_reads' (S_farR (g := gb47) (S_farR (g := gb47) (S_farR (g := gb47) HO41_1.out (by omega) _) (by omega) _) (by omega) _)).2.2); (case s3 => exact (Kd.S_reads' HO41_1.out).2.1); (case s4 => exact (Kd.R_reads' (R_farR (g := gb47) (R_farR (g := gb47) (R_farR (g := gb47) HO45_0.out (by omega) _) (by omega) _) (by omega) _)).2.2); (case s5 => exact (Kd.R_reads' HO45_0.out).2.1); rintro e w50 ⟨mq49_1, mq49_2, ⟨hs0_, hs1_, hs2_⟩, v49_0, v49_1, v49_2, rfl, ho0, ho1, ho2, hb⟩; refine ⟨_, rfl, ?_⟩; obtain ⟨na49, nb49, ha_, hz_, hab49⟩ := nxt_ hb; have hn49 : (gb47 + 1) ≤ na49 := (by rw [ha_]; exact (sz_set (sz_set (sz_set HZ.out)))); have hq49_0 : na49 ≤ mq49_1 := (by rw [ha_]; exact hs0_); have hq49_1 : mq49_1 ≤ mq49_2 := hs1_; have hq49_3 : mq49_2 ≤ nb49 := (by rw [hz_]; exact hs2_); clear hs0_ hs1_ hs2_; replace HOj38_1_0 := am (Kd.S_below (S_farR (g := gb47) (S_farR (g := gb47) (S_farR (g := gb47) HOj38_1_0.out (by omega) _) (by omega) _) (by omega) _) hb); replace HOj38_1_1 := am (Kd.S_below (S_farR (g := gb47) (S_farR (g := gb47) (S_farR (g := gb47) HOj38_1_1.out (by omega) _) (by omega) _) (by omega) _) hb); replace HOj38_3_0 := am (Kd.R_below (R_farR (g := gb47) (R_farR (g := gb47) (R_farR (g := gb47) HOj38_3_0.out (by omega) _) (by omega) _) (by omega) _) hb); replace HOj38_4_0 := am (Kd.T_below (T_farR (g := gb47) (T_farR (g := gb47) (T_farR (g := gb47) HOj38_4_0.out (by omega) _) (by omega) _) (by omega) _) hb); replace HOj38_4_1 := am (Kd.S_below (S_farR (g := gb47) (S_farR (g := gb47) (S_farR (g := gb47) HOj38_4_1.out (by omega) _) (by omega) _) (by omega) _) hb); replace HOj38_4_2 := am (Kd.R_below (R_farR (g := gb47) (R_farR (g := gb47) (R_farR (g := gb47) HOj38_4_2.out (by omega) _) (by omega) _) (by omega) _) hb); replace HO41_0 := am (Kd.S_below (S_farR (g := gb47) (S_farR (g := gb47) (S_farR (g := gb47) HO41_0.out (by omega) _) (by omega) _) (by omega) _) hb); replace HO41_1 := am (Kd.S_below (S_farR (g := gb47) (S_farR (g := gb47) (S_farR (g := gb47) HO41_1.out (by omega) _) (by omega) _) (by omega) _) hb); replace HO45_0 := am (Kd.R_below (R_farR (g := gb47) (R_farR (g := gb47) (R_farR (g := gb47) HO45_0.out (by omega) _) (by omega) _) (by omega) _) hb); replace BKgb1 := am (blk_below (g := gb1) (o := .cells #[.slice A0_0 l0_0.length c0_0, .slice A0_1 l0_1.length c0_1] 45 (0, 0)) (by refine pk ?_; refine blk_far ?_ (show gb1 ≠ gb47 by omega) _; refine pk ?_; refine blk_far ?_ (show gb1 ≠ gb47 by omega) _; refine pk ?_; refine blk_far ?_ (show gb1 ≠ gb47 by omega) _; refine pk ?_; exact BKgb1.out) hb); replace BKgb3 := am (blk_below (g := gb3) (o := .cells #[.slice A1_0 l1_0.length c1_0, .int .i64 a1_1, .int .i64 a1_2] 24 (0, 0)) (by refine pk ?_; refine blk_far ?_ (show gb3 ≠ gb47 by omega) _; refine pk ?_; refine blk_far ?_ (show gb3 ≠ gb47 by omega) _; refine pk ?_; refine blk_far ?_ (show gb3 ≠ gb47 by omega) _; refine pk ?_; exact BKgb3.out) hb); replace BKgb39 := am (blk_below (g := gb39) (o := .cells #[.slice Aoj38_4_0 t16_0.length coj38_4_0, .slice Aoj38_4_1 t16_1.length coj38_4_1, .slice Aoj38_4_2 t16_2.length coj38_4_2, .int .i64 t16_3, .int .i64 t16_4, .int .i64 t16_5] 33 (0, 0)) (by refine pk ?_; refine blk_far ?_ (show gb39 ≠ gb47 by omega) _; refine pk ?_; refine blk_far ?_ (show gb39 ≠ gb47 by omega) _; refine pk ?_; refine blk_far ?_ (show gb39 ≠ gb47 by omega) _; refine pk ?_; exact BKgb39.out) hb); replace BKgb43 := am (blk_below (g := gb43) (o := .cells #[.slice Ao41_0 t41_0.length co41_0, .slice Ao41_1 t41_1.length co41_1] 30 (0, 0)) (by refine pk ?_; refine blk_far ?_ (show gb43 ≠ gb47 by omega) _; refine pk ?_; refine blk_far ?_ (show gb43 ≠ gb47 by omega) _; refine pk ?_; refine blk_far ?_ (show gb43 ≠ gb47 by omega) _; refine pk ?_; exact BKgb43.out) hb); replace BKgb47 := am (blk_below (g := gb47) (o := .cells #[.slice Ao45_0 t45_0.length co45_0, .int .i64 t45_1, .int .i64 t45_2] 31 (0, 0)) (by refine pk ?_; refine blk_put (cs := #[.slice Ao45_0 t45_0.length co45_0, .int .i64 t45_1, .int .i64 0]) ?_ 2 _ rfl; refine pk ?_; refine blk_put (cs := #[.slice Ao45_0 t45_0.length co45_0, .int .i64 0, .int .i64 0]) ?_ 1 _ rfl; refine pk ?_; refine blk_put (cs := #[.slice none 0 0, .int .i64 0, .int .i64 0]) ?_ 0 _ rfl; refine pk ?_; exact BKgb47.out) hb); have HO49_0 := am (Kd.T_mono (ok' := fun k_ => Rg mq49_1 mq49_2 k_ ∧ True) (T_rg ha_ hz_ (below_size (below_set (below_set (below_set HB.out GEgb47) GEgb47) GEgb47)) ho0) (fun k_ hk_ => ⟨hk_.2, trivial⟩)); have HO49_1 := am (Kd.S_mono (ok' := fun k_ => Rg na49 mq49_1 k_ ∧ True) (S_rg ha_ hz_ (below_size (below_set (below_set (below_set HB.out GEgb47) GEgb47) GEgb47)) ho1) (fun k_ hk_ => ⟨⟨hk_.1.1, hk_.2⟩, trivial⟩)); have HO49_2 := am (Kd.R_mono (ok' := fun k_ => Rg mq49_2 nb49 k_ ∧ True) (R_rg ha_ hz_ (below_size (below_set (below_set (below_set HB.out GEgb47) GEgb47) GEgb47)) ho2) (fun k_ hk_ => ⟨⟨hk_.2, hk_.1.2⟩, trivial⟩)); replace HB := am (below_step (below_set (below_set (below_set HB.out GEgb47) GEgb47) GEgb47) hb); replace HZ := am (Nat.le_of_eq hz_); clear hb ha_ hz_ ho0 ho1 ho2; obtain ⟨Ao49_0, co49_0, eo49_0, _⟩ := Kd.T_slice HO49_0.out; subst eo49_0; obtain ⟨Ao49_1, co49_1, eo49_1⟩ := Kd.S_slice HO49_1.out; subst eo49_1; obtain ⟨Ao49_2, co49_2, eo49_2⟩ := Kd.R_slice HO49_2.out; subst eo49_2; clear hcgb1_0 hfgb1_0 hcgb1_1 hfgb1_1 hcgb3_0 hfgb3_0 hcgb3_1 hfgb3_1 hcgb3_2 hfgb3_2 hcgb39_0 hfgb39_0 hcgb39_1 hfgb39_1 hcgb39_2 hfgb39_2 hcgb39_3 hfgb39_3 hcgb39_4 hfgb39_4 hcgb39_5 hfgb39_5 hcgb43_0 hfgb43_0 hcgb43_1 hfgb43_1 hcgb47_0 hfgb47_0 hcgb47_1 hfgb47_1 hcgb47_2 hfgb47_2; have hcgb1_0 : w50.cell? ⟨gb1, 0, none⟩ = some (.slice A0_0 l0_0.length c0_0) := bc BKgb1.out 0; have hfgb1_0 := blk_frozen BKgb1.out 0; have hcgb1_1 : w50.cell? ⟨gb1, 1, none⟩ = some (.slice A0_1 l0_1.length c0_1) := bc BKgb1.out 1; have hfgb1_1 := blk_frozen BKgb1.out 1; have hcgb3_0 : w50.cell? ⟨gb3, 0, none⟩ = some (.slice A1_0 l1_0.length c1_0) := bc BKgb3.out 0; have hfgb3_0 := blk_frozen BKgb3.out 0; have hcgb3_1 : w50.cell? ⟨gb3, 1, none⟩ = some (.int .i64 a1_1) := bc BKgb3.out 1; have hfgb3_1 := blk_frozen BKgb3.out 1; have hcgb3_2 : w50.cell? ⟨gb3, 2, none⟩ = some (.int .i64 a1_2) := bc BKgb3.out 2; have hfgb3_2 := blk_frozen BKgb3.out 2; have hcgb39_0 : w50.cell? ⟨gb39, 0, none⟩ = some (.slice Aoj38_4_0 t16_0.length coj38_4_0) := bc BKgb39.out 0; have hfgb39_0 := blk_frozen BKgb39.out 0; have hcgb39_1 : w50.cell? ⟨gb39, 1, none⟩ = some (.slice Aoj38_4_1 t16_1.length coj38_4_1) := bc BKgb39.out 1; have hfgb39_1 := blk_frozen BKgb39.out 1; have hcgb39_2 : w50.cell? ⟨gb39, 2, none⟩ = some (.slice Aoj38_4_2 t16_2.length coj38_4_2) := bc BKgb39.out 2; have hfgb39_2 := blk_frozen BKgb39.out 2; have hcgb39_3 : w50.cell? ⟨gb39, 3, none⟩ = some (.int .i64 t16_3) := bc BKgb39.out 3; have hfgb39_3 := blk_frozen BKgb39.out 3; have hcgb39_4 : w50.cell? ⟨gb39, 4, none⟩ = some (.int .i64 t16_4) := bc BKgb39.out 4; have hfgb39_4 := blk_frozen BKgb39.out 4; have hcgb39_5 : w50.cell? ⟨gb39, 5, none⟩ = some (.int .i64 t16_5) := bc BKgb39.out 5; have hfgb39_5 := blk_frozen BKgb39.out 5; have hcgb43_0 : w50.cell? ⟨gb43, 0, none⟩ = some (.slice Ao41_0 t41_0.length co41_0) := bc BKgb43.out 0; have hfgb43_0 := blk_frozen BKgb43.out 0; have hcgb43_1 : w50.cell? ⟨gb43, 1, none⟩ = some (.slice Ao41_1 t41_1.length co41_1) := bc BKgb43.out 1; have hfgb43_1 := blk_frozen BKgb43.out 1; have hcgb47_0 : w50.cell? ⟨gb47, 0, none⟩ = some (.slice Ao45_0 t45_0.length co45_0) := bc BKgb47.out 0; have hfgb47_0 := blk_frozen BKgb47.out 0; have hcgb47_1 : w50.cell? ⟨gb47, 1, none⟩ = some (.int .i64 t45_1) := bc BKgb47.out 1; have hfgb47_1 := blk_frozen BKgb47.out 1; have hcgb47_2 : w50.cell? ⟨gb47, 2, none⟩ = some (.int .i64 t45_2) := bc BKgb47.out 2; have hfgb47_2 := blk_frozen BKgb47.out 2) | ((with_reducible refine gate_dst (N := 9) rfl ?_); refine box_event ?hg (N := 9) ?hd (cs := #[.slice none 0 0, .slice none 0 0, .slice none 0 0, .int .i64 0, .int .i64 0, .int .i64 0]) (t := 33) ?hr ?_; (case hd => rfl); (case hg => rfl); (case hr => first | (go_simp; done) | (go_simp; rfl)); intro gb51 hg w52 hbox hb; have GEgb51 : w.heap.size ≤ gb51 := (by rw [hg]; exact below_size HB.out); have hn51 : nb49 ≤ gb51 := (by rw [hg]; exact HZ.out); have ngb51 : gb51 + 1 ≤ w52.heap.size := blk_lt hbox; replace HOj38_1_0 := am (Kd.S_below HOj38_1_0.out hb); replace HOj38_1_1 := am (Kd.S_below HOj38_1_1.out hb); replace HOj38_3_0 := am (Kd.R_below HOj38_3_0.out hb); replace HOj38_4_0 := am (Kd.T_below HOj38_4_0.out hb); replace HOj38_4_1 := am (Kd.S_below HOj38_4_1.out hb); replace HOj38_4_2 := am (Kd.R_below HOj38_4_2.out hb); replace HO41_0 := am (Kd.S_below HO41_0.out hb); replace HO41_1 := am (Kd.S_below HO41_1.out hb); replace HO45_0 := am (Kd.R_below HO45_0.out hb); replace HO49_0 := am (Kd.T_below HO49_0.out hb); replace HO49_1 := am (Kd.S_below HO49_1.out hb); replace HO49_2 := am (Kd.R_below HO49_2.out hb); replace BKgb1 := am (blk_below BKgb1.out hb); replace BKgb3 := am (blk_below BKgb3.out hb); replace BKgb39 := am (blk_below BKgb39.out hb); replace BKgb43 := am (blk_below BKgb43.out hb); replace BKgb47 := am (blk_below BKgb47.out hb); have BKgb51 := am (hbox); replace HB := am (below_step HB.out hb); replace HZ := am (ngb51); clear hb hbox hg ngb51; clear hcgb1_0 hfgb1_0 hcgb1_1 hfgb1_1 hcgb3_0 hfgb3_0 hcgb3_1 hfgb3_1 hcgb3_2 hfgb3_2 hcgb39_0 hfgb39_0 hcgb39_1 hfgb39_1 hcgb39_2 hfgb39_2 hcgb39_3 hfgb39_3 hcgb39_4 hfgb39_4 hcgb39_5 hfgb39_5 hcgb43_0 hfgb43_0 hcgb43_1 hfgb43_1 hcgb47_0 hfgb47_0 hcgb47_1 hfgb47_1 hcgb47_2 hfgb47_2; have hcgb1_0 : w52.cell? ⟨gb1, 0, none⟩ = some (.slice A0_0 l0_0.length c0_0) := bc BKgb1.out 0; have hfgb1_0 := blk_frozen BKgb1.out 0; have hcgb1_1 : w52.cell? ⟨gb1, 1, none⟩ = some (.slice A0_1 l0_1.length c0_1) := bc BKgb1.out 1; have hfgb1_1 := blk_frozen BKgb1.out 1; have hcgb3_0 : w52.cell? ⟨gb3, 0, none⟩ = some (.slice A1_0 l1_0.length c1_0) := bc BKgb3.out 0; have hfgb3_0 := blk_frozen BKgb3.out 0; have hcgb3_1 : w52.cell? ⟨gb3, 1, none⟩ = some (.int .i64 a1_1) := bc BKgb3.out 1; have hfgb3_1 := blk_frozen BKgb3.out 1; have hcgb3_2 : w52.cell? ⟨gb3, 2, none⟩ = some (.int .i64 a1_2) := bc BKgb3.out 2; have hfgb3_2 := blk_frozen BKgb3.out 2; have hcgb39_0 : w52.cell? ⟨gb39, 0, none⟩ = some (.slice Aoj38_4_0 t16_0.length coj38_4_0) := bc BKgb39.out 0; have hfgb39_0 := blk_frozen BKgb39.out 0; have hcgb39_1 : w52.cell? ⟨gb39, 1, none⟩ = some (.slice Aoj38_4_1 t16_1.length coj38_4_1) := bc BKgb39.out 1; have hfgb39_1 := blk_frozen BKgb39.out 1; have hcgb39_2 : w52.cell? ⟨gb39, 2, none⟩ = some (.slice Aoj38_4_2 t16_2.length coj38_4_2) := bc BKgb39.out 2; have hfgb39_2 := blk_frozen BKgb39.out 2; have hcgb39_3 : w52.cell? ⟨gb39, 3, none⟩ = some (.int .i64 t16_3) := bc BKgb39.out 3; have hfgb39_3 := blk_frozen BKgb39.out 3; have hcgb39_4 : w52.cell? ⟨gb39, 4, none⟩ = some (.int .i64 t16_4) := bc BKgb39.out 4; have hfgb39_4 := blk_frozen BKgb39.out 4; have hcgb39_5 : w52.cell? ⟨gb39, 5, none⟩ = some (.int .i64 t16_5) := bc BKgb39.out 5; have hfgb39_5 := blk_frozen BKgb39.out 5; have hcgb43_0 : w52.cell? ⟨gb43, 0, none⟩ = some (.slice Ao41_0 t41_0.length co41_0) := bc BKgb43.out 0; have hfgb43_0 := blk_frozen BKgb43.out 0; have hcgb43_1 : w52.cell? ⟨gb43, 1, none⟩ = some (.slice Ao41_1 t41_1.length co41_1) := bc BKgb43.out 1; have hfgb43_1 := blk_frozen BKgb43.out 1; have hcgb47_0 : w52.cell? ⟨gb47, 0, none⟩ = some (.slice Ao45_0 t45_0.length co45_0) := bc BKgb47.out 0; have hfgb47_0 := blk_frozen BKgb47.out 0; have hcgb47_1 : w52.cell? ⟨gb47, 1, none⟩ = some (.int .i64 t45_1) := bc BKgb47.out 1; have hfgb47_1 := blk_frozen BKgb47.out 1; have hcgb47_2 : w52.cell? ⟨gb47, 2, none⟩ = some (.int .i64 t45_2) := bc BKgb47.out 2; have hfgb47_2 := blk_frozen BKgb47.out 2; have hcgb51_0 : w52.cell? ⟨gb51, 0, none⟩ = some (.slice none 0 0) := bc BKgb51.out 0; have hfgb51_0 := blk_frozen BKgb51.out 0; have hcgb51_1 : w52.cell? ⟨gb51, 1, none⟩ = some (.slice none 0 0) := bc BKgb51.out 1; have hfgb51_1 := blk_frozen BKgb51.out 1; have hcgb51_2 : w52.cell? ⟨gb51, 2, none⟩ = some (.slice none 0 0) := bc BKgb51.out 2; have hfgb51_2 := blk_frozen BKgb51.out 2; have hcgb51_3 : w52.cell? ⟨gb51, 3, none⟩ = some (.int .i64 0) := bc BKgb51.out 3; have hfgb51_3 := blk_frozen BKgb51.out 3; have hcgb51_4 : w52.cell? ⟨gb51, 4, none⟩ = some (.int .i64 0) := bc BKgb51.out 4; have hfgb51_4 := blk_frozen BKgb51.out 4; have hcgb51_5 : w52.cell? ⟨gb51, 5, none⟩ = some (.int .i64 0) := bc BKgb51.out 5; have hfgb51_5 := blk_frozen BKgb51.out 5; have hxgb51_gb1 : gb51 ≠ gb1 := (by omega); have hygb51_gb1 : gb1 ≠ gb51 := (by omega); have hxgb51_gb3 : gb51 ≠ gb3 := (by omega); have hygb51_gb3 : gb3 ≠ gb51 := (by omega); have hxgb51_gb39 : gb51 ≠ gb39 := (by omega); have hygb51_gb39 : gb39 ≠ gb51 := (by omega); have hxgb51_gb43 : gb51 ≠ gb43 := (by omega); have hygb51_gb43 : gb43 ≠ gb51 := (by omega); have hxgb51_gb47 : gb51 ≠ gb47 := (by omega); have hygb51_gb47 : gb47 ≠ gb51 := (by omega)) | ((with_reducible refine gate_callee (f := 12) rfl ?_); refine gl (some 38) Try.func12 #[.agg #[.slice Ao49_0 t49_0.length co49_0, .slice Ao49_1 t49_1.length co49_1, .slice Ao49_2 t49_2.length co49_2, .int .i64 t49_3, .int .i64 t49_4, .int .i64 t49_5], .agg #[.slice Aoj38_4_0 t16_0.length coj38_4_0, .slice Aoj38_4_1 t16_1.length coj38_4_1, .slice Aoj38_4_2 t16_2.length coj38_4_2, .int .i64 t16_3, .int .i64 t16_4, .int .i64 t16_5]] ?_; (with_reducible refine (laws_eqUndoOut.calls k _ _ t49_0 _ _ t49_1 _ _ t49_2 t49_3 t49_4 t49_5 _ _ t16_0 _ _ t16_1 _ _ t16_2 t16_3 t16_4 t16_5 true _ ?s0 ?s1 ?s2 ?s3 ?s4 ?s5 ?s6 ?s7 ?s8 ?s9 ?s10 ?s11 A53.out).mono ?_); (case s0 => exact (Kd.T_reads' (T_farR (g := gb51) (T_farR (g := gb51) (T_farR (g := gb51) (T_farR (g := gb51) (T_farR (g := gb51) (T_farR (g := gb51) HO49_0.out (by omega) _) (by omega) _) (by omega) _) (by omega) _) (by omega) _) (by omega) _)).2.2); (case s1 => exact (Kd.T_reads' HO49_0.out).2.1); (case s2 => exact (Kd.S_reads' (S_farR (g := gb51) (S_farR (g := gb51) (S_farR (g := gb51) (S_farR (g := gb51) (S_farR (g := gb51) (S_farR (g := gb51) HO49_1.out (by omega) _) (by omega) _) (by omega) _) (by omega) _) (by omega) _) (by omega) _)).2.2); (case s3 => exact (Kd.S_reads' HO49_1.out).2.1); (case s4 => exact (Kd.R_reads' (R_farR (g := gb51) (R_farR (g := gb51) (R_farR (g := gb51) (R_farR (g := gb51) (R_farR (g := gb51) (R_farR (g := gb51) HO49_2.out (by omega) _) (by omega) _) (by omega) _) (by omega) _) (by omega) _) (by omega) _)).2.2); (case s5 => exact (Kd.R_reads' HO49_2.out).2.1); (case s6 => exact (Kd.T_reads' (T_farR (g := gb51) (T_farR (g := gb51) (T_farR (g := gb51) (T_farR (g := gb51) (T_farR (g := gb51) (T_farR (g := gb51) HOj38_4_0.out (by omega) _) (by omega) _) (by omega) _) (by omega) _) (by omega) _) (by omega) _)).2.2); (case s7 => exact (Kd.T_reads' HOj38_4_0.out).2.1); (case s8 => exact (Kd.S_reads' (S_farR (g := gb51) (S_farR (g := gb51) (S_farR (g := gb51) (S_farR (g := gb51) (S_farR (g := gb51) (S_farR (g := gb51) HOj38_4_1.out (by omega) _) (by omega) _) (by omega) _) (by omega) _) (by omega) _) (by omega) _)).2.2); (case s9 => exact (Kd.S_reads' HOj38_4_1.out).2.1); (case s10 => exact (Kd.R_reads' (R_farR (g := gb51) (R_farR (g := gb51) (R_farR (g := gb51) (R_farR (g := gb51) (R_farR (g := gb51) (R_farR (g := gb51) HOj38_4_2.out (by omega) _) (by omega) _) (by omega) _) (by omega) _) (by omega) _) (by omega) _)).2.2); (case s11 => exact (Kd.R_reads' HOj38_4_2.out).2.1); rintro e w54 ⟨rfl, hb⟩; refine ⟨_, rfl, ?_⟩; obtain ⟨na53, nb53, ha_, hz_, hab53⟩ := nxt_ hb; have hn53 : (gb51 + 1) ≤ na53 := (by rw [ha_]; exact (sz_set (sz_set (sz_set (sz_set (sz_set (sz_set HZ.out))))))); replace HOj38_1_0 := am (Kd.S_below (S_farR (g := gb51) (S_farR (g := gb51) (S_farR (g := gb51) (S_farR (g := gb51) (S_farR (g := gb51) (S_farR (g := gb51) HOj38_1_0.out (by omega) _) (by omega) _) (by omega) _) (by omega) _) (by omega) _) (by omega) _) hb); replace HOj38_1_1 := am (Kd.S_below (S_farR (g := gb51) (S_farR (g := gb51) (S_farR (g := gb51) (S_farR (g := gb51) (S_farR (g := gb51) (S_farR (g := gb51) HOj38_1_1.out (by omega) _) (by omega) _) (by omega) _) (by omega) _) (by omega) _) (by omega) _) hb); replace HOj38_3_0 := am (Kd.R_below (R_farR (g := gb51) (R_farR (g := gb51) (R_farR (g := gb51) (R_farR (g := gb51) (R_farR (g := gb51) (R_farR (g := gb51) HOj38_3_0.out (by omega) _) (by omega) _) (by omega) _) (by omega) _) (by omega) _) (by omega) _) hb); replace HOj38_4_0 := am (Kd.T_below (T_farR (g := gb51) (T_farR (g := gb51) (T_farR (g := gb51) (T_farR (g := gb51) (T_farR (g := gb51) (T_farR (g := gb51) HOj38_4_0.out (by omega) _) (by omega) _) (by omega) _) (by omega) _) (by omega) _) (by omega) _) hb); replace HOj38_4_1 := am (Kd.S_below (S_farR (g := gb51) (S_farR (g := gb51) (S_farR (g := gb51) (S_farR (g := gb51) (S_farR (g := gb51) (S_farR (g := gb51) HOj38_4_1.out (by omega) _) (by omega) _) (by omega) _) (by omega) _) (by omega) _) (by omega) _) hb); replace HOj38_4_2 := am (Kd.R_below (R_farR (g := gb51) (R_farR (g := gb51) (R_farR (g := gb51) (R_farR (g := gb51) (R_farR (g := gb51) (R_farR (g := gb51) HOj38_4_2.out (by omega) _) (by omega) _) (by omega) _) (by omega) _) (by omega) _) (by omega) _) hb); replace HO41_0 := am (Kd.S_below (S_farR (g := gb51) (S_farR (g := gb51) (S_farR (g := gb51) (S_farR (g := gb51) (S_farR (g := gb51) (S_farR (g := gb51) HO41_0.out (by omega) _) (by omega) _) (by omega) _) (by omega) _) (by omega) _) (by omega) _) hb); replace HO41_1 := am (Kd.S_below (S_farR (g := gb51) (S_farR (g := gb51) (S_farR (g := gb51) (S_farR (g := gb51) (S_farR (g := gb51) (S_farR (g := gb51) HO41_1.out (by omega) _) (by omega) _) (by omega) _) (by omega) _) (by omega) _) (by omega) _) hb); replace HO45_0 := am (Kd.R_below (R_farR (g := gb51) (R_farR (g := gb51) (R_farR (g := gb51) (R_farR (g := gb51) (R_farR (g := gb51) (R_farR (g := gb51) HO45_0.out (by omega) _) (by omega) _) (by omega) _) (by omega) _) (by omega) _) (by omega) _) hb); replace HO49_0 := am (Kd.T_below (T_farR (g := gb51) (T_farR (g := gb51) (T_farR (g := gb51) (T_farR (g := gb51) (T_farR (g := gb51) (T_farR (g := gb51) HO49_0.out (by omega) _) (by omega) _) (by omega) _) (by omega) _) (by omega) _) (by omega) _) hb); replace HO49_1 := am (Kd.S_below (S_farR (g := gb51) (S_farR (g := gb51) (S_farR (g := gb51) (S_farR (g := gb51) (S_farR (g := gb51) (S_farR (g := gb51) HO49_1.out (by omega) _) (by omega) _) (by omega) _) (by omega) _) (by omega) _) (by omega) _) hb); replace HO49_2 := am (Kd.R_below (R_farR (g := gb51) (R_farR (g := gb51) (R_farR (g := gb51) (R_farR (g := gb51) (R_farR (g := gb51) (R_farR (g := gb51) HO49_2.out (by omega) _) (by omega) _) (by omega) _) (by omega) _) (by omega) _) (by omega) _) hb); replace BKgb1 := am (blk_below (g := gb1) (o := .cells #[.slice A0_0 l0_0.length c0_0, .slice A0_1 l0_1.length c0_1] 45 (0, 0)) (by refine pk ?_; refine blk_far ?_ (show gb1 ≠ gb51 by omega) _; refine pk ?_; refine blk_far ?_ (show gb1 ≠ gb51 by omega) _; refine pk ?_; refine blk_far ?_ (show gb1 ≠ gb51 by omega) _; refine pk ?_; refine blk_far ?_ (show gb1 ≠ gb51 by omega) _; refine pk ?_; refine blk_far ?_ (show gb1 ≠ gb51 by omega) _; refine pk ?_; refine blk_far ?_ (show gb1 ≠ gb51 by omega) _; refine pk ?_; exact BKgb1.out) hb); replace BKgb3 := am (blk_below (g := gb3) (o := .cells #[.slice A1_0 l1_0.length c1_0, .int .i64 a1_1, .int .i64 a1_2] 24 (0, 0)) (by refine pk ?_; refine blk_far ?_ (show gb3 ≠ gb51 by omega) _; refine pk ?_; refine blk_far ?_ (show gb3 ≠ gb51 by omega) _; refine pk ?_; refine blk_far ?_ (show gb3 ≠ gb51 by omega) _; refine pk ?_; refine blk_far ?_ (show gb3 ≠ gb51 by omega) _; refine pk ?_; refine blk_far ?_ (show gb3 ≠ gb51 by omega) _; refine pk ?_; refine blk_far ?_ (show gb3 ≠ gb51 by omega) _; refine pk ?_; exact BKgb3.out) hb); replace BKgb39 := am (blk_below (g := gb39) (o := .cells #[.slice Aoj38_4_0 t16_0.length coj38_4_0, .slice Aoj38_4_1 t16_1.length coj38_4_1, .slice Aoj38_4_2 t16_2.length coj38_4_2, .int .i64 t16_3, .int .i64 t16_4, .int .i64 t16_5] 33 (0, 0)) (by refine pk ?_; refine blk_far ?_ (show gb39 ≠ gb51 by omega) _; refine pk ?_; refine blk_far ?_ (show gb39 ≠ gb51 by omega) _; refine pk ?_; refine blk_far ?_ (show gb39 ≠ gb51 by omega) _; refine pk ?_; refine blk_far ?_ (show gb39 ≠ gb51 by omega) _; refine pk ?_; refine blk_far ?_ (show gb39 ≠ gb51 by omega) _; refine pk ?_; refine blk_far ?_ (show gb39 ≠ gb51 by omega) _; refine pk ?_; exact BKgb39.out) hb); replace BKgb43 := am (blk_below (g := gb43) (o := .cells #[.slice Ao41_0 t41_0.length co41_0, .slice Ao41_1 t41_1.length co41_1] 30 (0, 0)) (by refine pk ?_; refine blk_far ?_ (show gb43 ≠ gb51 by omega) _; refine pk ?_; refine blk_far ?_ (show gb43 ≠ gb51 by omega) _; refine pk ?_; refine blk_far ?_ (show gb43 ≠ gb51 by omega) _; refine pk ?_; refine blk_far ?_ (show gb43 ≠ gb51 by omega) _; refine pk ?_; refine blk_far ?_ (show gb43 ≠ gb51 by omega) _; refine pk ?_; refine blk_far ?_ (show gb43 ≠ gb51 by omega) _; refine pk ?_; exact BKgb43.out) hb); replace BKgb47 := am (blk_below (g := gb47) (o := .cells #[.slice Ao45_0 t45_0.length co45_0, .int .i64 t45_1, .int .i64 t45_2] 31 (0, 0)) (by refine pk ?_; refine blk_far ?_ (show gb47 ≠ gb51 by omega) _; refine pk ?_; refine blk_far ?_ (show gb47 ≠ gb51 by omega) _; refine pk ?_; refine blk_far ?_ (show gb47 ≠ gb51 by omega) _; refine pk ?_; refine blk_far ?_ (show gb47 ≠ gb51 by omega) _; refine pk ?_; refine blk_far ?_ (show gb47 ≠ gb51 by omega) _; refine pk ?_; refine blk_far ?_ (show gb47 ≠ gb51 by omega) _; refine pk ?_; exact BKgb47.out) hb); replace BKgb51 := am (blk_below (g := gb51) (o := .cells #[.slice Ao49_0 t49_0.length co49_0, .slice Ao49_1 t49_1.length co49_1, .slice Ao49_2 t49_2.length co49_2, .int .i64 t49_3, .int .i64 t49_4, .int .i64 t49_5] 33 (0, 0)) (by refine pk ?_; refine blk_put (cs := #[.slice Ao49_0 t49_0.length co49_0, .slice Ao49_1 t49_1.length co49_1, .slice Ao49_2 t49_2.length co49_2, .int .i64 t49_3, .int .i64 t49_4, .int .i64 0]) ?_ 5 _ rfl; refine pk ?_; refine blk_put (cs := #[.slice Ao49_0 t49_0.length co49_0, .slice Ao49_1 t49_1.length co49_1, .slice Ao49_2 t49_2.length co49_2, .int .i64 t49_3, .int .i64 0, .int .i64 0]) ?_ 4 _ rfl; refine pk ?_; refine blk_put (cs := #[.slice Ao49_0 t49_0.length co49_0, .slice Ao49_1 t49_1.length co49_1, .slice Ao49_2 t49_2.length co49_2, .int .i64 0, .int .i64 0, .int .i64 0]) ?_ 3 _ rfl; refine pk ?_; refine blk_put (cs := #[.slice Ao49_0 t49_0.length co49_0, .slice Ao49_1 t49_1.length co49_1, .slice none 0 0, .int .i64 0, .int .i64 0, .int .i64 0]) ?_ 2 _ rfl; refine pk ?_; refine blk_put (cs := #[.slice Ao49_0 t49_0.length co49_0, .slice none 0 0, .slice none 0 0, .int .i64 0, .int .i64 0, .int .i64 0]) ?_ 1 _ rfl; refine pk ?_; refine blk_put (cs := #[.slice none 0 0, .slice none 0 0, .slice none 0 0, .int .i64 0, .int .i64 0, .int .i64 0]) ?_ 0 _ rfl; refine pk ?_; exact BKgb51.out) hb); replace HB := am (below_step (below_set (below_set (below_set (below_set (below_set (below_set HB.out GEgb51) GEgb51) GEgb51) GEgb51) GEgb51) GEgb51) hb); replace HZ := am (Nat.le_of_eq hz_); clear hb ha_ hz_ ; clear hcgb1_0 hfgb1_0 hcgb1_1 hfgb1_1 hcgb3_0 hfgb3_0 hcgb3_1 hfgb3_1 hcgb3_2 hfgb3_2 hcgb39_0 hfgb39_0 hcgb39_1 hfgb39_1 hcgb39_2 hfgb39_2 hcgb39_3 hfgb39_3 hcgb39_4 hfgb39_4 hcgb39_5 hfgb39_5 hcgb43_0 hfgb43_0 hcgb43_1 hfgb43_1 hcgb47_0 hfgb47_0 hcgb47_1 hfgb47_1 hcgb47_2 hfgb47_2 hcgb51_0 hfgb51_0 hcgb51_1 hfgb51_1 hcgb51_2 hfgb51_2 hcgb51_3 hfgb51_3 hcgb51_4 hfgb51_4 hcgb51_5 hfgb51_5; have hcgb1_0 : w54.cell? ⟨gb1, 0, none⟩ = some (.slice A0_0 l0_0.length c0_0) := bc BKgb1.out 0; have hfgb1_0 := blk_frozen BKgb1.out 0; have hcgb1_1 : w54.cell? ⟨gb1, 1, none⟩ = some (.slice A0_1 l0_1.length c0_1) := bc BKgb1.out 1; have hfgb1_1 := blk_frozen BKgb1.out 1; have hcgb3_0 : w54.cell? ⟨gb3, 0, none⟩ = some (.slice A1_0 l1_0.length c1_0) := bc BKgb3.out 0; have hfgb3_0 := blk_frozen BKgb3.out 0; have hcgb3_1 : w54.cell? ⟨gb3, 1, none⟩ = some (.int .i64 a1_1) := bc BKgb3.out 1; have hfgb3_1 := blk_frozen BKgb3.out 1; have hcgb3_2 : w54.cell? ⟨gb3, 2, none⟩ = some (.int .i64 a1_2) := bc BKgb3.out 2; have hfgb3_2 := blk_frozen BKgb3.out 2; have hcgb39_0 : w54.cell? ⟨gb39, 0, none⟩ = some (.slice Aoj38_4_0 t16_0.length coj38_4_0) := bc BKgb39.out 0; have hfgb39_0 := blk_frozen BKgb39.out 0; have hcgb39_1 : w54.cell? ⟨gb39, 1, none⟩ = some (.slice Aoj38_4_1 t16_1.length coj38_4_1) := bc BKgb39.out 1; have hfgb39_1 := blk_frozen BKgb39.out 1; have hcgb39_2 : w54.cell? ⟨gb39, 2, none⟩ = some (.slice Aoj38_4_2 t16_2.length coj38_4_2) := bc BKgb39.out 2; have hfgb39_2 := blk_frozen BKgb39.out 2; have hcgb39_3 : w54.cell? ⟨gb39, 3, none⟩ = some (.int .i64 t16_3) := bc BKgb39.out 3; have hfgb39_3 := blk_frozen BKgb39.out 3; have hcgb39_4 : w54.cell? ⟨gb39, 4, none⟩ = some (.int .i64 t16_4) := bc BKgb39.out 4; have hfgb39_4 := blk_frozen BKgb39.out 4; have hcgb39_5 : w54.cell? ⟨gb39, 5, none⟩ = some (.int .i64 t16_5) := bc BKgb39.out 5; have hfgb39_5 := blk_frozen BKgb39.out 5; have hcgb43_0 : w54.cell? ⟨gb43, 0, none⟩ = some (.slice Ao41_0 t41_0.length co41_0) := bc BKgb43.out 0; have hfgb43_0 := blk_frozen BKgb43.out 0; have hcgb43_1 : w54.cell? ⟨gb43, 1, none⟩ = some (.slice Ao41_1 t41_1.length co41_1) := bc BKgb43.out 1; have hfgb43_1 := blk_frozen BKgb43.out 1; have hcgb47_0 : w54.cell? ⟨gb47, 0, none⟩ = some (.slice Ao45_0 t45_0.length co45_0) := bc BKgb47.out 0; have hfgb47_0 := blk_frozen BKgb47.out 0; have hcgb47_1 : w54.cell? ⟨gb47, 1, none⟩ = some (.int .i64 t45_1) := bc BKgb47.out 1; have hfgb47_1 := blk_frozen BKgb47.out 1; have hcgb47_2 : w54.cell? ⟨gb47, 2, none⟩ = some (.int .i64 t45_2) := bc BKgb47.out 2; have hfgb47_2 := blk_frozen BKgb47.out 2; have hcgb51_0 : w54.cell? ⟨gb51, 0, none⟩ = some (.slice Ao49_0 t49_0.length co49_0) := bc BKgb51.out 0; have hfgb51_0 := blk_frozen BKgb51.out 0; have hcgb51_1 : w54.cell? ⟨gb51, 1, none⟩ = some (.slice Ao49_1 t49_1.length co49_1) := bc BKgb51.out 1; have hfgb51_1 := blk_frozen BKgb51.out 1; have hcgb51_2 : w54.cell? ⟨gb51, 2, none⟩ = some (.slice Ao49_2 t49_2.length co49_2) := bc BKgb51.out 2; have hfgb51_2 := blk_frozen BKgb51.out 2; have hcgb51_3 : w54.cell? ⟨gb51, 3, none⟩ = some (.int .i64 t49_3) := bc BKgb51.out 3; have hfgb51_3 := blk_frozen BKgb51.out 3; have hcgb51_4 : w54.cell? ⟨gb51, 4, none⟩ = some (.int .i64 t49_4) := bc BKgb51.out 4; have hfgb51_4 := blk_frozen BKgb51.out 4; have hcgb51_5 : w54.cell? ⟨gb51, 5, none⟩ = some (.int .i64 t49_5) := bc BKgb51.out 5; have hfgb51_5 := blk_frozen BKgb51.out 5))
   try go_wp2
   replace HOj38_1_0 := am (Kd.S_drew HOj38_1_0.out)
   replace HOj38_1_1 := am (Kd.S_drew HOj38_1_1.out)
   replace HOj38_3_0 := am (Kd.R_drew HOj38_3_0.out)
   replace HOj38_4_0 := am (Kd.T_drew HOj38_4_0.out)
   replace HOj38_4_1 := am (Kd.S_drew HOj38_4_1.out)
   replace HOj38_4_2 := am (Kd.R_drew HOj38_4_2.out)
   replace HO41_0 := am (Kd.S_drew HO41_0.out)
   replace HO41_1 := am (Kd.S_drew HO41_1.out)
   replace HO45_0 := am (Kd.R_drew HO45_0.out)
   replace HO49_0 := am (Kd.T_drew HO49_0.out)
   replace HO49_1 := am (Kd.S_drew HO49_1.out)
   replace HO49_2 := am (Kd.R_drew HO49_2.out)
   replace BKgb1 := am (blk_drew BKgb1.out)
   replace BKgb3 := am (blk_drew BKgb3.out)
   replace BKgb39 := am (blk_drew BKgb39.out)
   replace BKgb43 := am (blk_drew BKgb43.out)
   replace BKgb47 := am (blk_drew BKgb47.out)
   replace BKgb51 := am (blk_drew BKgb51.out)
   replace HB := am (below_drew1 HB.out)
   refine start_ (n := 5) (S := fun w' => w'.cell? ⟨gb1, 0, none⟩ = some (.slice A0_0 l0_0.length c0_0) ∧ w'.cell? ⟨gb1, 1, none⟩ = some (.slice A0_1 l0_1.length c0_1) ∧ w'.cell? ⟨gb3, 0, none⟩ = some (.slice A1_0 l1_0.length c1_0) ∧ w'.cell? ⟨gb3, 1, none⟩ = some (.int .i64 a1_1) ∧ w'.cell? ⟨gb3, 2, none⟩ = some (.int .i64 a1_2) ∧ w'.cell? ⟨gb39, 0, none⟩ = some (.slice Aoj38_4_0 t16_0.length coj38_4_0) ∧ w'.cell? ⟨gb39, 1, none⟩ = some (.slice Aoj38_4_1 t16_1.length coj38_4_1) ∧ w'.cell? ⟨gb39, 2, none⟩ = some (.slice Aoj38_4_2 t16_2.length coj38_4_2) ∧ w'.cell? ⟨gb39, 3, none⟩ = some (.int .i64 t16_3) ∧ w'.cell? ⟨gb39, 4, none⟩ = some (.int .i64 t16_4) ∧ w'.cell? ⟨gb39, 5, none⟩ = some (.int .i64 t16_5) ∧ w'.cell? ⟨gb43, 0, none⟩ = some (.slice Ao41_0 t41_0.length co41_0) ∧ w'.cell? ⟨gb43, 1, none⟩ = some (.slice Ao41_1 t41_1.length co41_1) ∧ w'.cell? ⟨gb47, 0, none⟩ = some (.slice Ao45_0 t45_0.length co45_0) ∧ w'.cell? ⟨gb47, 1, none⟩ = some (.int .i64 t45_1) ∧ w'.cell? ⟨gb47, 2, none⟩ = some (.int .i64 t45_2) ∧ w'.cell? ⟨gb51, 0, none⟩ = some (.slice Ao49_0 t49_0.length co49_0) ∧ w'.cell? ⟨gb51, 1, none⟩ = some (.slice Ao49_1 t49_1.length co49_1) ∧ w'.cell? ⟨gb51, 2, none⟩ = some (.slice Ao49_2 t49_2.length co49_2) ∧ w'.cell? ⟨gb51, 3, none⟩ = some (.int .i64 t49_3) ∧ w'.cell? ⟨gb51, 4, none⟩ = some (.int .i64 t49_4) ∧ w'.cell? ⟨gb51, 5, none⟩ = some (.int .i64 t49_5)) (ds := []) #[false, false, false, false, false] (by kernel_rfl) rfl rfl ⟨bc BKgb1.out 0, bc BKgb1.out 1, bc BKgb3.out 0, bc BKgb3.out 1, bc BKgb3.out 2, bc BKgb39.out 0, bc BKgb39.out 1, bc BKgb39.out 2, bc BKgb39.out 3, bc BKgb39.out 4, bc BKgb39.out 5, bc BKgb43.out 0, bc BKgb43.out 1, bc BKgb47.out 0, bc BKgb47.out 1, bc BKgb47.out 2, bc BKgb51.out 0, bc BKgb51.out 1, bc BKgb51.out 2, bc BKgb51.out 3, bc BKgb51.out 4, bc BKgb51.out 5⟩ (fun hHeld => ?_)
   have HZ2 := am (show nb53 ≤ (w54.drew).heap.size from HZ.out)
   clear HZ
   have HZ := HZ2
   clear HZ2
   generalize w54.drew = w57 at HOj38_1_0 HOj38_1_1 HOj38_3_0 HOj38_4_0 HOj38_4_1 HOj38_4_2 HO41_0 HO41_1 HO45_0 HO49_0 HO49_1 HO49_2 BKgb1 BKgb3 BKgb39 BKgb43 BKgb47 BKgb51 HB HZ hHeld ⊢
   refine take_ (i := 0) (N := some 40) (v := ?_) (a' := ?_) #[true, false, false, false, false] rfl rfl (by kernel_rfl) (fun _ _ _ h => h) (Or.inl ⟨by rfl, ?_⟩) hHeld ?_ ?_; rotate_left
   ·rintro w' ⟨s0, s1, s2, s3, s4, s5, s6, s7, s8, s9, s10, s11, s12, s13, s14, s15, s16, s17, s18, s19, s20, s21⟩; go_simp; with_reducible rfl
   rotate_left
   ·simp only [Act.put, sa_, s0_, ss_, i64_w, i32_w]; rfl
   refine take_ (i := 1) (N := some 41) (v := ?_) (a' := ?_) #[true, true, false, false, false] rfl rfl (by kernel_rfl) (fun _ _ _ h => h) (Or.inl ⟨by rfl, ?_⟩) hHeld ?_ ?_; rotate_left
   ·rintro w' ⟨s0, s1, s2, s3, s4, s5, s6, s7, s8, s9, s10, s11, s12, s13, s14, s15, s16, s17, s18, s19, s20, s21⟩; go_simp; with_reducible rfl
   rotate_left
   ·simp only [Act.put, sa_, s0_, ss_, i64_w, i32_w]; rfl
   refine one_ (i := 2) (N := some 42) #[true, true, true, false, false] rfl rfl (by kernel_rfl) (by decide) (fun K hK => ?_)
   refine gs_ Try.func21 #[.agg #[.slice A0_0 l0_0.length c0_0, .slice A0_1 l0_1.length c0_1]] ?_
   (with_reducible refine (laws_toUndo.callsA k _ _ l0_0 _ _ l0_1 t58_0 t58_1 _ ?s0 ?s1 ?s2 ?s3 A58.out).mono ?_)
   (case s0 => exact (Kd.C_below HR0_0.out HB.out))
   (case s1 => exact HC0_0.out)
   (case s2 => exact (Kd.C_below HR0_1.out HB.out))
   (case s3 => exact HC0_1.out)
   rintro e w59 ⟨mq58_1, ⟨hs0_, hs1_⟩, v58_0, v58_1, rfl, ho0, ho1, hb⟩
   refine ⟨_, rfl, ?_⟩
   obtain ⟨na58, nb58, ha_, hz_, hab58⟩ := nxt_ hb
   have hn58 : nb53 ≤ na58 := (by rw [ha_]; exact HZ.out)
   have hq58_0 : na58 ≤ mq58_1 := (by rw [ha_]; exact hs0_)
   have hq58_2 : mq58_1 ≤ nb58 := (by rw [hz_]; exact hs1_)
   clear hs0_ hs1_
   replace HOj38_1_0 := am (Kd.S_below HOj38_1_0.out hb)
   replace HOj38_1_1 := am (Kd.S_below HOj38_1_1.out hb)
   replace HOj38_3_0 := am (Kd.R_below HOj38_3_0.out hb)
   replace HOj38_4_0 := am (Kd.T_below HOj38_4_0.out hb)
   replace HOj38_4_1 := am (Kd.S_below HOj38_4_1.out hb)
   replace HOj38_4_2 := am (Kd.R_below HOj38_4_2.out hb)
   replace HO41_0 := am (Kd.S_below HO41_0.out hb)
   replace HO41_1 := am (Kd.S_below HO41_1.out hb)
   replace HO45_0 := am (Kd.R_below HO45_0.out hb)
   replace HO49_0 := am (Kd.T_below HO49_0.out hb)
   replace HO49_1 := am (Kd.S_below HO49_1.out hb)
   replace HO49_2 := am (Kd.R_below HO49_2.out hb)
   replace BKgb1 := am (blk_below BKgb1.out hb)
   replace BKgb3 := am (blk_below BKgb3.out hb)
   replace BKgb39 := am (blk_below BKgb39.out hb)
   replace BKgb43 := am (blk_below BKgb43.out hb)
   replace BKgb47 := am (blk_below BKgb47.out hb)
   replace BKgb51 := am (blk_below BKgb51.out hb)
   have HO58_0 := am (Kd.S_mono (ok' := fun k_ => Rg na58 mq58_1 k_ ∧ True) (S_rg ha_ hz_ (below_size HB.out) ho0) (fun k_ hk_ => ⟨⟨hk_.1.1, hk_.2⟩, trivial⟩))
   have HO58_1 := am (Kd.S_mono (ok' := fun k_ => Rg mq58_1 nb58 k_ ∧ True) (S_rg ha_ hz_ (below_size HB.out) ho1) (fun k_ hk_ => ⟨⟨hk_.2, hk_.1.2⟩, trivial⟩))
   replace HB := am (below_step HB.out hb)
   replace HZ := am (Nat.le_of_eq hz_)
   clear hb ha_ hz_ ho0 ho1
   obtain ⟨Ao58_0, co58_0, eo58_0⟩ := Kd.S_slice HO58_0.out
   subst eo58_0
   obtain ⟨Ao58_1, co58_1, eo58_1⟩ := Kd.S_slice HO58_1.out
   subst eo58_1
   clear hcgb1_0 hfgb1_0 hcgb1_1 hfgb1_1 hcgb3_0 hfgb3_0 hcgb3_1 hfgb3_1 hcgb3_2 hfgb3_2 hcgb39_0 hfgb39_0 hcgb39_1 hfgb39_1 hcgb39_2 hfgb39_2 hcgb39_3 hfgb39_3 hcgb39_4 hfgb39_4 hcgb39_5 hfgb39_5 hcgb43_0 hfgb43_0 hcgb43_1 hfgb43_1 hcgb47_0 hfgb47_0 hcgb47_1 hfgb47_1 hcgb47_2 hfgb47_2 hcgb51_0 hfgb51_0 hcgb51_1 hfgb51_1 hcgb51_2 hfgb51_2 hcgb51_3 hfgb51_3 hcgb51_4 hfgb51_4 hcgb51_5 hfgb51_5
   have hcgb1_0 : w59.cell? ⟨gb1, 0, none⟩ = some (.slice A0_0 l0_0.length c0_0) := bc BKgb1.out 0
   have hfgb1_0 := blk_frozen BKgb1.out 0
   have hcgb1_1 : w59.cell? ⟨gb1, 1, none⟩ = some (.slice A0_1 l0_1.length c0_1) := bc BKgb1.out 1
   have hfgb1_1 := blk_frozen BKgb1.out 1
   have hcgb3_0 : w59.cell? ⟨gb3, 0, none⟩ = some (.slice A1_0 l1_0.length c1_0) := bc BKgb3.out 0
   have hfgb3_0 := blk_frozen BKgb3.out 0
   have hcgb3_1 : w59.cell? ⟨gb3, 1, none⟩ = some (.int .i64 a1_1) := bc BKgb3.out 1
   have hfgb3_1 := blk_frozen BKgb3.out 1
   have hcgb3_2 : w59.cell? ⟨gb3, 2, none⟩ = some (.int .i64 a1_2) := bc BKgb3.out 2
   have hfgb3_2 := blk_frozen BKgb3.out 2
   have hcgb39_0 : w59.cell? ⟨gb39, 0, none⟩ = some (.slice Aoj38_4_0 t16_0.length coj38_4_0) := bc BKgb39.out 0
   have hfgb39_0 := blk_frozen BKgb39.out 0
   have hcgb39_1 : w59.cell? ⟨gb39, 1, none⟩ = some (.slice Aoj38_4_1 t16_1.length coj38_4_1) := bc BKgb39.out 1
   have hfgb39_1 := blk_frozen BKgb39.out 1
   have hcgb39_2 : w59.cell? ⟨gb39, 2, none⟩ = some (.slice Aoj38_4_2 t16_2.length coj38_4_2) := bc BKgb39.out 2
   have hfgb39_2 := blk_frozen BKgb39.out 2
   have hcgb39_3 : w59.cell? ⟨gb39, 3, none⟩ = some (.int .i64 t16_3) := bc BKgb39.out 3
   have hfgb39_3 := blk_frozen BKgb39.out 3
   have hcgb39_4 : w59.cell? ⟨gb39, 4, none⟩ = some (.int .i64 t16_4) := bc BKgb39.out 4
   have hfgb39_4 := blk_frozen BKgb39.out 4
   have hcgb39_5 : w59.cell? ⟨gb39, 5, none⟩ = some (.int .i64 t16_5) := bc BKgb39.out 5
   have hfgb39_5 := blk_frozen BKgb39.out 5
   have hcgb43_0 : w59.cell? ⟨gb43, 0, none⟩ = some (.slice Ao41_0 t41_0.length co41_0) := bc BKgb43.out 0
   have hfgb43_0 := blk_frozen BKgb43.out 0
   have hcgb43_1 : w59.cell? ⟨gb43, 1, none⟩ = some (.slice Ao41_1 t41_1.length co41_1) := bc BKgb43.out 1
   have hfgb43_1 := blk_frozen BKgb43.out 1
   have hcgb47_0 : w59.cell? ⟨gb47, 0, none⟩ = some (.slice Ao45_0 t45_0.length co45_0) := bc BKgb47.out 0
   have hfgb47_0 := blk_frozen BKgb47.out 0
   have hcgb47_1 : w59.cell? ⟨gb47, 1, none⟩ = some (.int .i64 t45_1) := bc BKgb47.out 1
   have hfgb47_1 := blk_frozen BKgb47.out 1
   have hcgb47_2 : w59.cell? ⟨gb47, 2, none⟩ = some (.int .i64 t45_2) := bc BKgb47.out 2
   have hfgb47_2 := blk_frozen BKgb47.out 2
   have hcgb51_0 : w59.cell? ⟨gb51, 0, none⟩ = some (.slice Ao49_0 t49_0.length co49_0) := bc BKgb51.out 0
   have hfgb51_0 := blk_frozen BKgb51.out 0
   have hcgb51_1 : w59.cell? ⟨gb51, 1, none⟩ = some (.slice Ao49_1 t49_1.length co49_1) := bc BKgb51.out 1
   have hfgb51_1 := blk_frozen BKgb51.out 1
   have hcgb51_2 : w59.cell? ⟨gb51, 2, none⟩ = some (.slice Ao49_2 t49_2.length co49_2) := bc BKgb51.out 2
   have hfgb51_2 := blk_frozen BKgb51.out 2
   have hcgb51_3 : w59.cell? ⟨gb51, 3, none⟩ = some (.int .i64 t49_3) := bc BKgb51.out 3
   have hfgb51_3 := blk_frozen BKgb51.out 3
   have hcgb51_4 : w59.cell? ⟨gb51, 4, none⟩ = some (.int .i64 t49_4) := bc BKgb51.out 4
   have hfgb51_4 := blk_frozen BKgb51.out 4
   have hcgb51_5 : w59.cell? ⟨gb51, 5, none⟩ = some (.int .i64 t49_5) := bc BKgb51.out 5
   have hfgb51_5 := blk_frozen BKgb51.out 5
   refine hK.out _ _ ⟨bc BKgb1.out 0, bc BKgb1.out 1, bc BKgb3.out 0, bc BKgb3.out 1, bc BKgb3.out 2, bc BKgb39.out 0, bc BKgb39.out 1, bc BKgb39.out 2, bc BKgb39.out 3, bc BKgb39.out 4, bc BKgb39.out 5, bc BKgb43.out 0, bc BKgb43.out 1, bc BKgb47.out 0, bc BKgb47.out 1, bc BKgb47.out 2, bc BKgb51.out 0, bc BKgb51.out 1, bc BKgb51.out 2, bc BKgb51.out 3, bc BKgb51.out 4, bc BKgb51.out 5⟩ (fun hHeld => ?_)
   clear hK K
   refine norm_ (a' := ?_) ?_ ?_
   rotate_left
   ·show Act.put _ (some 42) _ = _; simp only [Act.put, sa_, s0_, ss_, i64_w, i32_w]; rfl
   refine one_ (i := 3) (N := some 43) #[true, true, true, true, false] rfl rfl (by kernel_rfl) (by decide) (fun K hK => ?_)
   refine gs_ Try.func23 #[.agg #[.slice Ao41_0 t41_0.length co41_0, .slice Ao41_1 t41_1.length co41_1], .agg #[.slice Ao58_0 t58_0.length co58_0, .slice Ao58_1 t58_1.length co58_1]] ?_
   (with_reducible refine (laws_eqUndo.calls k _ _ t41_0 _ _ t41_1 _ _ t58_0 _ _ t58_1 true _ ?s0 ?s1 ?s2 ?s3 ?s4 ?s5 ?s6 ?s7 A60.out).mono ?_)
   (case s0 => exact (Kd.S_reads' HO41_0.out).2.2)
   (case s1 => exact (Kd.S_reads' HO41_0.out).2.1)
   (case s2 => exact (Kd.S_reads' HO41_1.out).2.2)
   (case s3 => exact (Kd.S_reads' HO41_1.out).2.1)
   (case s4 => exact (Kd.S_reads' HO58_0.out).2.2)
   (case s5 => exact (Kd.S_reads' HO58_0.out).2.1)
   (case s6 => exact (Kd.S_reads' HO58_1.out).2.2)
   (case s7 => exact (Kd.S_reads' HO58_1.out).2.1)
   rintro e w61 ⟨rfl, hb⟩
   refine ⟨_, rfl, ?_⟩
   obtain ⟨na60, nb60, ha_, hz_, hab60⟩ := nxt_ hb
   have hn60 : nb58 ≤ na60 := (by rw [ha_]; exact HZ.out)
   replace HOj38_1_0 := am (Kd.S_below HOj38_1_0.out hb)
   replace HOj38_1_1 := am (Kd.S_below HOj38_1_1.out hb)
   replace HOj38_3_0 := am (Kd.R_below HOj38_3_0.out hb)
   replace HOj38_4_0 := am (Kd.T_below HOj38_4_0.out hb)
   replace HOj38_4_1 := am (Kd.S_below HOj38_4_1.out hb)
   replace HOj38_4_2 := am (Kd.R_below HOj38_4_2.out hb)
   replace HO41_0 := am (Kd.S_below HO41_0.out hb)
   replace HO41_1 := am (Kd.S_below HO41_1.out hb)
   replace HO45_0 := am (Kd.R_below HO45_0.out hb)
   replace HO49_0 := am (Kd.T_below HO49_0.out hb)
   replace HO49_1 := am (Kd.S_below HO49_1.out hb)
   replace HO49_2 := am (Kd.R_below HO49_2.out hb)
   replace HO58_0 := am (Kd.S_below HO58_0.out hb)
   replace HO58_1 := am (Kd.S_below HO58_1.out hb)
   replace BKgb1 := am (blk_below BKgb1.out hb)
   replace BKgb3 := am (blk_below BKgb3.out hb)
   replace BKgb39 := am (blk_below BKgb39.out hb)
   replace BKgb43 := am (blk_below BKgb43.out hb)
   replace BKgb47 := am (blk_below BKgb47.out hb)
   replace BKgb51 := am (blk_below BKgb51.out hb)
   replace HB := am (below_step HB.out hb)
   replace HZ := am (Nat.le_of_eq hz_)
   clear hb ha_ hz_  hcgb1_0 hfgb1_0 hcgb1_1 hfgb1_1 hcgb3_0 hfgb3_0 hcgb3_1 hfgb3_1 hcgb3_2 hfgb3_2 hcgb39_0 hfgb39_0 hcgb39_1 hfgb39_1 hcgb39_2 hfgb39_2 hcgb39_3 hfgb39_3 hcgb39_4 hfgb39_4 hcgb39_5 hfgb39_5 hcgb43_0 hfgb43_0 hcgb43_1 hfgb43_1 hcgb47_0 hfgb47_0 hcgb47_1 hfgb47_1 hcgb47_2 hfgb47_2 hcgb51_0 hfgb51_0 hcgb51_1 hfgb51_1 hcgb51_2 hfgb51_2 hcgb51_3 hfgb51_3 hcgb51_4 hfgb51_4 hcgb51_5 hfgb51_5
   have hcgb1_0 : w61.cell? ⟨gb1, 0, none⟩ = some (.slice A0_0 l0_0.length c0_0) := bc BKgb1.out 0
   have hfgb1_0 := blk_frozen BKgb1.out 0
   have hcgb1_1 : w61.cell? ⟨gb1, 1, none⟩ = some (.slice A0_1 l0_1.length c0_1) := bc BKgb1.out 1
   have hfgb1_1 := blk_frozen BKgb1.out 1
   have hcgb3_0 : w61.cell? ⟨gb3, 0, none⟩ = some (.slice A1_0 l1_0.length c1_0) := bc BKgb3.out 0
   have hfgb3_0 := blk_frozen BKgb3.out 0
   have hcgb3_1 : w61.cell? ⟨gb3, 1, none⟩ = some (.int .i64 a1_1) := bc BKgb3.out 1
   have hfgb3_1 := blk_frozen BKgb3.out 1
   have hcgb3_2 : w61.cell? ⟨gb3, 2, none⟩ = some (.int .i64 a1_2) := bc BKgb3.out 2
   have hfgb3_2 := blk_frozen BKgb3.out 2
   have hcgb39_0 : w61.cell? ⟨gb39, 0, none⟩ = some (.slice Aoj38_4_0 t16_0.length coj38_4_0) := bc BKgb39.out 0
   have hfgb39_0 := blk_frozen BKgb39.out 0
   have hcgb39_1 : w61.cell? ⟨gb39, 1, none⟩ = some (.slice Aoj38_4_1 t16_1.length coj38_4_1) := bc BKgb39.out 1
   have hfgb39_1 := blk_frozen BKgb39.out 1
   have hcgb39_2 : w61.cell? ⟨gb39, 2, none⟩ = some (.slice Aoj38_4_2 t16_2.length coj38_4_2) := bc BKgb39.out 2
   have hfgb39_2 := blk_frozen BKgb39.out 2
   have hcgb39_3 : w61.cell? ⟨gb39, 3, none⟩ = some (.int .i64 t16_3) := bc BKgb39.out 3
   have hfgb39_3 := blk_frozen BKgb39.out 3
   have hcgb39_4 : w61.cell? ⟨gb39, 4, none⟩ = some (.int .i64 t16_4) := bc BKgb39.out 4
   have hfgb39_4 := blk_frozen BKgb39.out 4
   have hcgb39_5 : w61.cell? ⟨gb39, 5, none⟩ = some (.int .i64 t16_5) := bc BKgb39.out 5
   have hfgb39_5 := blk_frozen BKgb39.out 5
   have hcgb43_0 : w61.cell? ⟨gb43, 0, none⟩ = some (.slice Ao41_0 t41_0.length co41_0) := bc BKgb43.out 0
   have hfgb43_0 := blk_frozen BKgb43.out 0
   have hcgb43_1 : w61.cell? ⟨gb43, 1, none⟩ = some (.slice Ao41_1 t41_1.length co41_1) := bc BKgb43.out 1
   have hfgb43_1 := blk_frozen BKgb43.out 1
   have hcgb47_0 : w61.cell? ⟨gb47, 0, none⟩ = some (.slice Ao45_0 t45_0.length co45_0) := bc BKgb47.out 0
   have hfgb47_0 := blk_frozen BKgb47.out 0
   have hcgb47_1 : w61.cell? ⟨gb47, 1, none⟩ = some (.int .i64 t45_1) := bc BKgb47.out 1
   have hfgb47_1 := blk_frozen BKgb47.out 1
   have hcgb47_2 : w61.cell? ⟨gb47, 2, none⟩ = some (.int .i64 t45_2) := bc BKgb47.out 2
   have hfgb47_2 := blk_frozen BKgb47.out 2
   have hcgb51_0 : w61.cell? ⟨gb51, 0, none⟩ = some (.slice Ao49_0 t49_0.length co49_0) := bc BKgb51.out 0
   have hfgb51_0 := blk_frozen BKgb51.out 0
   have hcgb51_1 : w61.cell? ⟨gb51, 1, none⟩ = some (.slice Ao49_1 t49_1.length co49_1) := bc BKgb51.out 1
   have hfgb51_1 := blk_frozen BKgb51.out 1
   have hcgb51_2 : w61.cell? ⟨gb51, 2, none⟩ = some (.slice Ao49_2 t49_2.length co49_2) := bc BKgb51.out 2
   have hfgb51_2 := blk_frozen BKgb51.out 2
   have hcgb51_3 : w61.cell? ⟨gb51, 3, none⟩ = some (.int .i64 t49_3) := bc BKgb51.out 3
   have hfgb51_3 := blk_frozen BKgb51.out 3
   have hcgb51_4 : w61.cell? ⟨gb51, 4, none⟩ = some (.int .i64 t49_4) := bc BKgb51.out 4
   have hfgb51_4 := blk_frozen BKgb51.out 4
   have hcgb51_5 : w61.cell? ⟨gb51, 5, none⟩ = some (.int .i64 t49_5) := bc BKgb51.out 5
   have hfgb51_5 := blk_frozen BKgb51.out 5
   refine hK.out _ _ ⟨bc BKgb1.out 0, bc BKgb1.out 1, bc BKgb3.out 0, bc BKgb3.out 1, bc BKgb3.out 2, bc BKgb39.out 0, bc BKgb39.out 1, bc BKgb39.out 2, bc BKgb39.out 3, bc BKgb39.out 4, bc BKgb39.out 5, bc BKgb43.out 0, bc BKgb43.out 1, bc BKgb47.out 0, bc BKgb47.out 1, bc BKgb47.out 2, bc BKgb51.out 0, bc BKgb51.out 1, bc BKgb51.out 2, bc BKgb51.out 3, bc BKgb51.out 4, bc BKgb51.out 5⟩ (fun hHeld => ?_)
   clear hK K
   refine norm_ (a' := ?_) ?_ ?_
   rotate_left
   ·show Act.put _ (some 43) _ = _; simp only [Act.put, sa_, s0_, ss_, i64_w, i32_w]; rfl
   refine pure_ (i := 4) (N := some 44) (v := ?_) (a' := ?_) #[true, true, true, true, true] rfl rfl (by kernel_rfl) (fun _ _ _ h => h) (Or.inl ⟨by rfl, ?_⟩) ?_ ?_; rotate_left
   ·intro w'; go_simp; with_reducible rfl
   rotate_left
   ·simp only [Act.put, sa_, s0_, ss_, i64_w, i32_w]; rfl
   refine done_ (by kernel_rfl) ?_
   go_wp2
   try go_wp2
   replace HOj38_1_0 := am (Kd.S_drew HOj38_1_0.out)
   replace HOj38_1_1 := am (Kd.S_drew HOj38_1_1.out)
   replace HOj38_3_0 := am (Kd.R_drew HOj38_3_0.out)
   replace HOj38_4_0 := am (Kd.T_drew HOj38_4_0.out)
   replace HOj38_4_1 := am (Kd.S_drew HOj38_4_1.out)
   replace HOj38_4_2 := am (Kd.R_drew HOj38_4_2.out)
   replace HO41_0 := am (Kd.S_drew HO41_0.out)
   replace HO41_1 := am (Kd.S_drew HO41_1.out)
   replace HO45_0 := am (Kd.R_drew HO45_0.out)
   replace HO49_0 := am (Kd.T_drew HO49_0.out)
   replace HO49_1 := am (Kd.S_drew HO49_1.out)
   replace HO49_2 := am (Kd.R_drew HO49_2.out)
   replace HO58_0 := am (Kd.S_drew HO58_0.out)
   replace HO58_1 := am (Kd.S_drew HO58_1.out)
   replace BKgb1 := am (blk_drew BKgb1.out)
   replace BKgb3 := am (blk_drew BKgb3.out)
   replace BKgb39 := am (blk_drew BKgb39.out)
   replace BKgb43 := am (blk_drew BKgb43.out)
   replace BKgb47 := am (blk_drew BKgb47.out)
   replace BKgb51 := am (blk_drew BKgb51.out)
   replace HB := am (below_drew1 HB.out)
   refine start_ (n := 5) (S := fun w' => w'.cell? ⟨gb1, 0, none⟩ = some (.slice A0_0 l0_0.length c0_0) ∧ w'.cell? ⟨gb1, 1, none⟩ = some (.slice A0_1 l0_1.length c0_1) ∧ w'.cell? ⟨gb3, 0, none⟩ = some (.slice A1_0 l1_0.length c1_0) ∧ w'.cell? ⟨gb3, 1, none⟩ = some (.int .i64 a1_1) ∧ w'.cell? ⟨gb3, 2, none⟩ = some (.int .i64 a1_2) ∧ w'.cell? ⟨gb39, 0, none⟩ = some (.slice Aoj38_4_0 t16_0.length coj38_4_0) ∧ w'.cell? ⟨gb39, 1, none⟩ = some (.slice Aoj38_4_1 t16_1.length coj38_4_1) ∧ w'.cell? ⟨gb39, 2, none⟩ = some (.slice Aoj38_4_2 t16_2.length coj38_4_2) ∧ w'.cell? ⟨gb39, 3, none⟩ = some (.int .i64 t16_3) ∧ w'.cell? ⟨gb39, 4, none⟩ = some (.int .i64 t16_4) ∧ w'.cell? ⟨gb39, 5, none⟩ = some (.int .i64 t16_5) ∧ w'.cell? ⟨gb43, 0, none⟩ = some (.slice Ao41_0 t41_0.length co41_0) ∧ w'.cell? ⟨gb43, 1, none⟩ = some (.slice Ao41_1 t41_1.length co41_1) ∧ w'.cell? ⟨gb47, 0, none⟩ = some (.slice Ao45_0 t45_0.length co45_0) ∧ w'.cell? ⟨gb47, 1, none⟩ = some (.int .i64 t45_1) ∧ w'.cell? ⟨gb47, 2, none⟩ = some (.int .i64 t45_2) ∧ w'.cell? ⟨gb51, 0, none⟩ = some (.slice Ao49_0 t49_0.length co49_0) ∧ w'.cell? ⟨gb51, 1, none⟩ = some (.slice Ao49_1 t49_1.length co49_1) ∧ w'.cell? ⟨gb51, 2, none⟩ = some (.slice Ao49_2 t49_2.length co49_2) ∧ w'.cell? ⟨gb51, 3, none⟩ = some (.int .i64 t49_3) ∧ w'.cell? ⟨gb51, 4, none⟩ = some (.int .i64 t49_4) ∧ w'.cell? ⟨gb51, 5, none⟩ = some (.int .i64 t49_5)) (ds := []) #[false, false, false, false, false] (by kernel_rfl) rfl rfl ⟨bc BKgb1.out 0, bc BKgb1.out 1, bc BKgb3.out 0, bc BKgb3.out 1, bc BKgb3.out 2, bc BKgb39.out 0, bc BKgb39.out 1, bc BKgb39.out 2, bc BKgb39.out 3, bc BKgb39.out 4, bc BKgb39.out 5, bc BKgb43.out 0, bc BKgb43.out 1, bc BKgb47.out 0, bc BKgb47.out 1, bc BKgb47.out 2, bc BKgb51.out 0, bc BKgb51.out 1, bc BKgb51.out 2, bc BKgb51.out 3, bc BKgb51.out 4, bc BKgb51.out 5⟩ (fun hHeld => ?_)
   have HZ2 := am (show nb60 ≤ (w61.drew).heap.size from HZ.out)
   clear HZ
   have HZ := HZ2
   clear HZ2
   generalize w61.drew = w64 at HOj38_1_0 HOj38_1_1 HOj38_3_0 HOj38_4_0 HOj38_4_1 HOj38_4_2 HO41_0 HO41_1 HO45_0 HO49_0 HO49_1 HO49_2 HO58_0 HO58_1 BKgb1 BKgb3 BKgb39 BKgb43 BKgb47 BKgb51 HB HZ hHeld ⊢
   refine take_ (i := 0) (N := some 45) (v := ?_) (a' := ?_) #[true, false, false, false, false] rfl rfl (by kernel_rfl) (fun _ _ _ h => h) (Or.inl ⟨by rfl, ?_⟩) hHeld ?_ ?_; rotate_left
   ·rintro w' ⟨s0, s1, s2, s3, s4, s5, s6, s7, s8, s9, s10, s11, s12, s13, s14, s15, s16, s17, s18, s19, s20, s21⟩; go_simp; with_reducible rfl
   rotate_left
   ·simp only [Act.put, sa_, s0_, ss_, i64_w, i32_w]; rfl
   refine take_ (i := 1) (N := some 46) (v := ?_) (a' := ?_) #[true, true, false, false, false] rfl rfl (by kernel_rfl) (fun _ _ _ h => h) (Or.inl ⟨by rfl, ?_⟩) hHeld ?_ ?_; rotate_left
   ·rintro w' ⟨s0, s1, s2, s3, s4, s5, s6, s7, s8, s9, s10, s11, s12, s13, s14, s15, s16, s17, s18, s19, s20, s21⟩; go_simp; with_reducible rfl
   rotate_left
   ·simp only [Act.put, sa_, s0_, ss_, i64_w, i32_w]; rfl
   refine one_ (i := 2) (N := some 47) #[true, true, true, false, false] rfl rfl (by kernel_rfl) (by decide) (fun K hK => ?_)
   refine gs_ Try.func9 #[.agg #[.slice A1_0 l1_0.length c1_0, .int .i64 a1_1, .int .i64 a1_2]] ?_
   (with_reducible refine (laws_toBuf.calls k _ _ l1_0 a1_1 a1_2 t65_0 t65_1 t65_2 _ ?s0 ?s1 A65.out).mono ?_)
   (case s0 => exact (Kd.C_below HR1_0.out HB.out))
   (case s1 => exact HC1_0.out)
   rintro e w66 ⟨v65_0, rfl, ho0, hb⟩
   refine ⟨_, rfl, ?_⟩
   obtain ⟨na65, nb65, ha_, hz_, hab65⟩ := nxt_ hb
   have hn65 : nb60 ≤ na65 := (by rw [ha_]; exact HZ.out)
   replace HOj38_1_0 := am (Kd.S_below HOj38_1_0.out hb)
   replace HOj38_1_1 := am (Kd.S_below HOj38_1_1.out hb)
   replace HOj38_3_0 := am (Kd.R_below HOj38_3_0.out hb)
   replace HOj38_4_0 := am (Kd.T_below HOj38_4_0.out hb)
   replace HOj38_4_1 := am (Kd.S_below HOj38_4_1.out hb)
   replace HOj38_4_2 := am (Kd.R_below HOj38_4_2.out hb)
   replace HO41_0 := am (Kd.S_below HO41_0.out hb)
   replace HO41_1 := am (Kd.S_below HO41_1.out hb)
   replace HO45_0 := am (Kd.R_below HO45_0.out hb)
   replace HO49_0 := am (Kd.T_below HO49_0.out hb)
   replace HO49_1 := am (Kd.S_below HO49_1.out hb)
   replace HO49_2 := am (Kd.R_below HO49_2.out hb)
   replace HO58_0 := am (Kd.S_below HO58_0.out hb)
   replace HO58_1 := am (Kd.S_below HO58_1.out hb)
   replace BKgb1 := am (blk_below BKgb1.out hb)
   replace BKgb3 := am (blk_below BKgb3.out hb)
   replace BKgb39 := am (blk_below BKgb39.out hb)
   replace BKgb43 := am (blk_below BKgb43.out hb)
   replace BKgb47 := am (blk_below BKgb47.out hb)
   replace BKgb51 := am (blk_below BKgb51.out hb)
   have HO65_0 := am (R_rg ha_ hz_ (below_size HB.out) ho0)
   replace HB := am (below_step HB.out hb)
   replace HZ := am (Nat.le_of_eq hz_)
   clear hb ha_ hz_ ho0
   obtain ⟨Ao65_0, co65_0, eo65_0⟩ := Kd.R_slice HO65_0.out
   subst eo65_0
   clear hcgb1_0 hfgb1_0 hcgb1_1 hfgb1_1 hcgb3_0 hfgb3_0 hcgb3_1 hfgb3_1 hcgb3_2 hfgb3_2 hcgb39_0 hfgb39_0 hcgb39_1 hfgb39_1 hcgb39_2 hfgb39_2 hcgb39_3 hfgb39_3 hcgb39_4 hfgb39_4 hcgb39_5 hfgb39_5 hcgb43_0 hfgb43_0 hcgb43_1 hfgb43_1 hcgb47_0 hfgb47_0 hcgb47_1 hfgb47_1 hcgb47_2 hfgb47_2 hcgb51_0 hfgb51_0 hcgb51_1 hfgb51_1 hcgb51_2 hfgb51_2 hcgb51_3 hfgb51_3 hcgb51_4 hfgb51_4 hcgb51_5 hfgb51_5
   have hcgb1_0 : w66.cell? ⟨gb1, 0, none⟩ = some (.slice A0_0 l0_0.length c0_0) := bc BKgb1.out 0
   have hfgb1_0 := blk_frozen BKgb1.out 0
   have hcgb1_1 : w66.cell? ⟨gb1, 1, none⟩ = some (.slice A0_1 l0_1.length c0_1) := bc BKgb1.out 1
   have hfgb1_1 := blk_frozen BKgb1.out 1
   have hcgb3_0 : w66.cell? ⟨gb3, 0, none⟩ = some (.slice A1_0 l1_0.length c1_0) := bc BKgb3.out 0
   have hfgb3_0 := blk_frozen BKgb3.out 0
   have hcgb3_1 : w66.cell? ⟨gb3, 1, none⟩ = some (.int .i64 a1_1) := bc BKgb3.out 1
   have hfgb3_1 := blk_frozen BKgb3.out 1
   have hcgb3_2 : w66.cell? ⟨gb3, 2, none⟩ = some (.int .i64 a1_2) := bc BKgb3.out 2
   have hfgb3_2 := blk_frozen BKgb3.out 2
   have hcgb39_0 : w66.cell? ⟨gb39, 0, none⟩ = some (.slice Aoj38_4_0 t16_0.length coj38_4_0) := bc BKgb39.out 0
   have hfgb39_0 := blk_frozen BKgb39.out 0
   have hcgb39_1 : w66.cell? ⟨gb39, 1, none⟩ = some (.slice Aoj38_4_1 t16_1.length coj38_4_1) := bc BKgb39.out 1
   have hfgb39_1 := blk_frozen BKgb39.out 1
   have hcgb39_2 : w66.cell? ⟨gb39, 2, none⟩ = some (.slice Aoj38_4_2 t16_2.length coj38_4_2) := bc BKgb39.out 2
   have hfgb39_2 := blk_frozen BKgb39.out 2
   have hcgb39_3 : w66.cell? ⟨gb39, 3, none⟩ = some (.int .i64 t16_3) := bc BKgb39.out 3
   have hfgb39_3 := blk_frozen BKgb39.out 3
   have hcgb39_4 : w66.cell? ⟨gb39, 4, none⟩ = some (.int .i64 t16_4) := bc BKgb39.out 4
   have hfgb39_4 := blk_frozen BKgb39.out 4
   have hcgb39_5 : w66.cell? ⟨gb39, 5, none⟩ = some (.int .i64 t16_5) := bc BKgb39.out 5
   have hfgb39_5 := blk_frozen BKgb39.out 5
   have hcgb43_0 : w66.cell? ⟨gb43, 0, none⟩ = some (.slice Ao41_0 t41_0.length co41_0) := bc BKgb43.out 0
   have hfgb43_0 := blk_frozen BKgb43.out 0
   have hcgb43_1 : w66.cell? ⟨gb43, 1, none⟩ = some (.slice Ao41_1 t41_1.length co41_1) := bc BKgb43.out 1
   have hfgb43_1 := blk_frozen BKgb43.out 1
   have hcgb47_0 : w66.cell? ⟨gb47, 0, none⟩ = some (.slice Ao45_0 t45_0.length co45_0) := bc BKgb47.out 0
   have hfgb47_0 := blk_frozen BKgb47.out 0
   have hcgb47_1 : w66.cell? ⟨gb47, 1, none⟩ = some (.int .i64 t45_1) := bc BKgb47.out 1
   have hfgb47_1 := blk_frozen BKgb47.out 1
   have hcgb47_2 : w66.cell? ⟨gb47, 2, none⟩ = some (.int .i64 t45_2) := bc BKgb47.out 2
   have hfgb47_2 := blk_frozen BKgb47.out 2
   have hcgb51_0 : w66.cell? ⟨gb51, 0, none⟩ = some (.slice Ao49_0 t49_0.length co49_0) := bc BKgb51.out 0
   have hfgb51_0 := blk_frozen BKgb51.out 0
   have hcgb51_1 : w66.cell? ⟨gb51, 1, none⟩ = some (.slice Ao49_1 t49_1.length co49_1) := bc BKgb51.out 1
   have hfgb51_1 := blk_frozen BKgb51.out 1
   have hcgb51_2 : w66.cell? ⟨gb51, 2, none⟩ = some (.slice Ao49_2 t49_2.length co49_2) := bc BKgb51.out 2
   have hfgb51_2 := blk_frozen BKgb51.out 2
   have hcgb51_3 : w66.cell? ⟨gb51, 3, none⟩ = some (.int .i64 t49_3) := bc BKgb51.out 3
   have hfgb51_3 := blk_frozen BKgb51.out 3
   have hcgb51_4 : w66.cell? ⟨gb51, 4, none⟩ = some (.int .i64 t49_4) := bc BKgb51.out 4
   have hfgb51_4 := blk_frozen BKgb51.out 4
   have hcgb51_5 : w66.cell? ⟨gb51, 5, none⟩ = some (.int .i64 t49_5) := bc BKgb51.out 5
   have hfgb51_5 := blk_frozen BKgb51.out 5
   refine hK.out _ _ ⟨bc BKgb1.out 0, bc BKgb1.out 1, bc BKgb3.out 0, bc BKgb3.out 1, bc BKgb3.out 2, bc BKgb39.out 0, bc BKgb39.out 1, bc BKgb39.out 2, bc BKgb39.out 3, bc BKgb39.out 4, bc BKgb39.out 5, bc BKgb43.out 0, bc BKgb43.out 1, bc BKgb47.out 0, bc BKgb47.out 1, bc BKgb47.out 2, bc BKgb51.out 0, bc BKgb51.out 1, bc BKgb51.out 2, bc BKgb51.out 3, bc BKgb51.out 4, bc BKgb51.out 5⟩ (fun hHeld => ?_)
   clear hK K
   refine norm_ (a' := ?_) ?_ ?_
   rotate_left
   ·show Act.put _ (some 47) _ = _; simp only [Act.put, sa_, s0_, ss_, i64_w, i32_w]; rfl
   refine one_ (i := 3) (N := some 48) #[true, true, true, true, false] rfl rfl (by kernel_rfl) (by decide) (fun K hK => ?_)
   refine gs_ Try.func13 #[.agg #[.slice Ao45_0 t45_0.length co45_0, .int .i64 t45_1, .int .i64 t45_2], .agg #[.slice Ao65_0 t65_0.length co65_0, .int .i64 t65_1, .int .i64 t65_2]] ?_
   (with_reducible refine (laws_eqBuf.calls k _ _ t45_0 t45_1 t45_2 _ _ t65_0 t65_1 t65_2 true _ ?s0 ?s1 ?s2 ?s3 A67.out).mono ?_)
   (case s0 => exact (Kd.R_reads' HO45_0.out).2.2)
   (case s1 => exact (Kd.R_reads' HO45_0.out).2.1)
   (case s2 => exact (Kd.R_reads' HO65_0.out).2.2)
   (case s3 => exact (Kd.R_reads' HO65_0.out).2.1)
   rintro e w68 ⟨rfl, hb⟩
   refine ⟨_, rfl, ?_⟩
   obtain ⟨na67, nb67, ha_, hz_, hab67⟩ := nxt_ hb
   have hn67 : nb65 ≤ na67 := (by rw [ha_]; exact HZ.out)
   replace HOj38_1_0 := am (Kd.S_below HOj38_1_0.out hb)
   replace HOj38_1_1 := am (Kd.S_below HOj38_1_1.out hb)
   replace HOj38_3_0 := am (Kd.R_below HOj38_3_0.out hb)
   replace HOj38_4_0 := am (Kd.T_below HOj38_4_0.out hb)
   replace HOj38_4_1 := am (Kd.S_below HOj38_4_1.out hb)
   replace HOj38_4_2 := am (Kd.R_below HOj38_4_2.out hb)
   replace HO41_0 := am (Kd.S_below HO41_0.out hb)
   replace HO41_1 := am (Kd.S_below HO41_1.out hb)
   replace HO45_0 := am (Kd.R_below HO45_0.out hb)
   replace HO49_0 := am (Kd.T_below HO49_0.out hb)
   replace HO49_1 := am (Kd.S_below HO49_1.out hb)
   replace HO49_2 := am (Kd.R_below HO49_2.out hb)
   replace HO58_0 := am (Kd.S_below HO58_0.out hb)
   replace HO58_1 := am (Kd.S_below HO58_1.out hb)
   replace HO65_0 := am (Kd.R_below HO65_0.out hb)
   replace BKgb1 := am (blk_below BKgb1.out hb)
   replace BKgb3 := am (blk_below BKgb3.out hb)
   replace BKgb39 := am (blk_below BKgb39.out hb)
   replace BKgb43 := am (blk_below BKgb43.out hb)
   replace BKgb47 := am (blk_below BKgb47.out hb)
   replace BKgb51 := am (blk_below BKgb51.out hb)
   replace HB := am (below_step HB.out hb)
   replace HZ := am (Nat.le_of_eq hz_)
   clear hb ha_ hz_  hcgb1_0 hfgb1_0 hcgb1_1 hfgb1_1 hcgb3_0 hfgb3_0 hcgb3_1 hfgb3_1 hcgb3_2 hfgb3_2 hcgb39_0 hfgb39_0 hcgb39_1 hfgb39_1 hcgb39_2 hfgb39_2 hcgb39_3 hfgb39_3 hcgb39_4 hfgb39_4 hcgb39_5 hfgb39_5 hcgb43_0 hfgb43_0 hcgb43_1 hfgb43_1 hcgb47_0 hfgb47_0 hcgb47_1 hfgb47_1 hcgb47_2 hfgb47_2 hcgb51_0 hfgb51_0 hcgb51_1 hfgb51_1 hcgb51_2 hfgb51_2 hcgb51_3 hfgb51_3 hcgb51_4 hfgb51_4 hcgb51_5 hfgb51_5
   have hcgb1_0 : w68.cell? ⟨gb1, 0, none⟩ = some (.slice A0_0 l0_0.length c0_0) := bc BKgb1.out 0
   have hfgb1_0 := blk_frozen BKgb1.out 0
   have hcgb1_1 : w68.cell? ⟨gb1, 1, none⟩ = some (.slice A0_1 l0_1.length c0_1) := bc BKgb1.out 1
   have hfgb1_1 := blk_frozen BKgb1.out 1
   have hcgb3_0 : w68.cell? ⟨gb3, 0, none⟩ = some (.slice A1_0 l1_0.length c1_0) := bc BKgb3.out 0
   have hfgb3_0 := blk_frozen BKgb3.out 0
   have hcgb3_1 : w68.cell? ⟨gb3, 1, none⟩ = some (.int .i64 a1_1) := bc BKgb3.out 1
   have hfgb3_1 := blk_frozen BKgb3.out 1
   have hcgb3_2 : w68.cell? ⟨gb3, 2, none⟩ = some (.int .i64 a1_2) := bc BKgb3.out 2
   have hfgb3_2 := blk_frozen BKgb3.out 2
   have hcgb39_0 : w68.cell? ⟨gb39, 0, none⟩ = some (.slice Aoj38_4_0 t16_0.length coj38_4_0) := bc BKgb39.out 0
   have hfgb39_0 := blk_frozen BKgb39.out 0
   have hcgb39_1 : w68.cell? ⟨gb39, 1, none⟩ = some (.slice Aoj38_4_1 t16_1.length coj38_4_1) := bc BKgb39.out 1
   have hfgb39_1 := blk_frozen BKgb39.out 1
   have hcgb39_2 : w68.cell? ⟨gb39, 2, none⟩ = some (.slice Aoj38_4_2 t16_2.length coj38_4_2) := bc BKgb39.out 2
   have hfgb39_2 := blk_frozen BKgb39.out 2
   have hcgb39_3 : w68.cell? ⟨gb39, 3, none⟩ = some (.int .i64 t16_3) := bc BKgb39.out 3
   have hfgb39_3 := blk_frozen BKgb39.out 3
   have hcgb39_4 : w68.cell? ⟨gb39, 4, none⟩ = some (.int .i64 t16_4) := bc BKgb39.out 4
   have hfgb39_4 := blk_frozen BKgb39.out 4
   have hcgb39_5 : w68.cell? ⟨gb39, 5, none⟩ = some (.int .i64 t16_5) := bc BKgb39.out 5
   have hfgb39_5 := blk_frozen BKgb39.out 5
   have hcgb43_0 : w68.cell? ⟨gb43, 0, none⟩ = some (.slice Ao41_0 t41_0.length co41_0) := bc BKgb43.out 0
   have hfgb43_0 := blk_frozen BKgb43.out 0
   have hcgb43_1 : w68.cell? ⟨gb43, 1, none⟩ = some (.slice Ao41_1 t41_1.length co41_1) := bc BKgb43.out 1
   have hfgb43_1 := blk_frozen BKgb43.out 1
   have hcgb47_0 : w68.cell? ⟨gb47, 0, none⟩ = some (.slice Ao45_0 t45_0.length co45_0) := bc BKgb47.out 0
   have hfgb47_0 := blk_frozen BKgb47.out 0
   have hcgb47_1 : w68.cell? ⟨gb47, 1, none⟩ = some (.int .i64 t45_1) := bc BKgb47.out 1
   have hfgb47_1 := blk_frozen BKgb47.out 1
   have hcgb47_2 : w68.cell? ⟨gb47, 2, none⟩ = some (.int .i64 t45_2) := bc BKgb47.out 2
   have hfgb47_2 := blk_frozen BKgb47.out 2
   have hcgb51_0 : w68.cell? ⟨gb51, 0, none⟩ = some (.slice Ao49_0 t49_0.length co49_0) := bc BKgb51.out 0
   have hfgb51_0 := blk_frozen BKgb51.out 0
   have hcgb51_1 : w68.cell? ⟨gb51, 1, none⟩ = some (.slice Ao49_1 t49_1.length co49_1) := bc BKgb51.out 1
   have hfgb51_1 := blk_frozen BKgb51.out 1
   have hcgb51_2 : w68.cell? ⟨gb51, 2, none⟩ = some (.slice Ao49_2 t49_2.length co49_2) := bc BKgb51.out 2
   have hfgb51_2 := blk_frozen BKgb51.out 2
   have hcgb51_3 : w68.cell? ⟨gb51, 3, none⟩ = some (.int .i64 t49_3) := bc BKgb51.out 3
   have hfgb51_3 := blk_frozen BKgb51.out 3
   have hcgb51_4 : w68.cell? ⟨gb51, 4, none⟩ = some (.int .i64 t49_4) := bc BKgb51.out 4
   have hfgb51_4 := blk_frozen BKgb51.out 4
   have hcgb51_5 : w68.cell? ⟨gb51, 5, none⟩ = some (.int .i64 t49_5) := bc BKgb51.out 5
   have hfgb51_5 := blk_frozen BKgb51.out 5
   refine hK.out _ _ ⟨bc BKgb1.out 0, bc BKgb1.out 1, bc BKgb3.out 0, bc BKgb3.out 1, bc BKgb3.out 2, bc BKgb39.out 0, bc BKgb39.out 1, bc BKgb39.out 2, bc BKgb39.out 3, bc BKgb39.out 4, bc BKgb39.out 5, bc BKgb43.out 0, bc BKgb43.out 1, bc BKgb47.out 0, bc BKgb47.out 1, bc BKgb47.out 2, bc BKgb51.out 0, bc BKgb51.out 1, bc BKgb51.out 2, bc BKgb51.out 3, bc BKgb51.out 4, bc BKgb51.out 5⟩ (fun hHeld => ?_)
   clear hK K
   refine norm_ (a' := ?_) ?_ ?_
   rotate_left
   ·show Act.put _ (some 48) _ = _; simp only [Act.put, sa_, s0_, ss_, i64_w, i32_w]; rfl
   refine pure_ (i := 4) (N := some 49) (v := ?_) (a' := ?_) #[true, true, true, true, true] rfl rfl (by kernel_rfl) (fun _ _ _ h => h) (Or.inl ⟨by rfl, ?_⟩) ?_ ?_; rotate_left
   ·intro w'; go_simp; with_reducible rfl
   rotate_left
   ·simp only [Act.put, sa_, s0_, ss_, i64_w, i32_w]; rfl
   refine done_ (by kernel_rfl) ?_
   go_wp2_with (first | ((with_reducible refine gate_callee (f := 24) rfl ?_); refine gl (some 52) Try.func24 #[.agg #[.slice Ao41_0 t41_0.length co41_0, .slice Ao41_1 t41_1.length co41_1], .int .i64 1] ?_; refine (laws_markUndo.marks k _ _ _ _ t41_0 t41_1 1 t70 t70_0 t70_1 w _ HB.out HO41_0.out HO41_1.out (fun k_ h1_ h2_ => Rg_no h1_.1 h2_.1 (by omega)) A70.out).mono ?_; rintro e w71 ⟨rfl, hy0, hy1, hb, hkp⟩; refine ⟨_, rfl, ?_⟩; replace HOj38_1_0 := am (Kd.S_kept HOj38_1_0.out hkp (fun k_ hk_ hs_ => Or.elim hs_ (fun z_ => Rg_no hk_.1 z_.1 (by omega)) (fun z_ => Rg_no hk_.1 z_.1 (by omega)))); replace HOj38_1_1 := am (Kd.S_kept HOj38_1_1.out hkp (fun k_ hk_ hs_ => Or.elim hs_ (fun z_ => Rg_no hk_.1 z_.1 (by omega)) (fun z_ => Rg_no hk_.1 z_.1 (by omega)))); replace HOj38_3_0 := am (Kd.R_kept HOj38_3_0.out hkp (fun k_ hk_ hs_ => Or.elim hs_ (fun z_ => Rg_no hk_.1 z_.1 (by omega)) (fun z_ => Rg_no hk_.1 z_.1 (by omega)))); replace HOj38_4_0 := am (Kd.T_kept HOj38_4_0.out hkp (fun k_ hk_ hs_ => Or.elim hs_ (fun z_ => Rg_no hk_.1 z_.1 (by omega)) (fun z_ => Rg_no hk_.1 z_.1 (by omega)))); replace HOj38_4_1 := am (Kd.S_kept HOj38_4_1.out hkp (fun k_ hk_ hs_ => Or.elim hs_ (fun z_ => Rg_no hk_.1 z_.1 (by omega)) (fun z_ => Rg_no hk_.1 z_.1 (by omega)))); replace HOj38_4_2 := am (Kd.R_kept HOj38_4_2.out hkp (fun k_ hk_ hs_ => Or.elim hs_ (fun z_ => Rg_no hk_.1 z_.1 (by omega)) (fun z_ => Rg_no hk_.1 z_.1 (by omega)))); replace HO41_0 := am (hy0); replace HO41_1 := am (hy1); replace HO45_0 := am (Kd.R_kept HO45_0.out hkp (fun k_ hk_ hs_ => Or.elim hs_ (fun z_ => Rg_no hk_.1 z_.1 (by omega)) (fun z_ => Rg_no hk_.1 z_.1 (by omega)))); replace HO49_0 := am (Kd.T_kept HO49_0.out hkp (fun k_ hk_ hs_ => Or.elim hs_ (fun z_ => Rg_no hk_.1 z_.1 (by omega)) (fun z_ => Rg_no hk_.1 z_.1 (by omega)))); replace HO49_1 := am (Kd.S_kept HO49_1.out hkp (fun k_ hk_ hs_ => Or.elim hs_ (fun z_ => Rg_no hk_.1 z_.1 (by omega)) (fun z_ => Rg_no hk_.1 z_.1 (by omega)))); replace HO49_2 := am (Kd.R_kept HO49_2.out hkp (fun k_ hk_ hs_ => Or.elim hs_ (fun z_ => Rg_no hk_.1 z_.1 (by omega)) (fun z_ => Rg_no hk_.1 z_.1 (by omega)))); replace HO58_0 := am (Kd.S_kept HO58_0.out hkp (fun k_ hk_ hs_ => Or.elim hs_ (fun z_ => Rg_no hk_.1 z_.1 (by omega)) (fun z_ => Rg_no hk_.1 z_.1 (by omega)))); replace HO58_1 := am (Kd.S_kept HO58_1.out hkp (fun k_ hk_ hs_ => Or.elim hs_ (fun z_ => Rg_no hk_.1 z_.1 (by omega)) (fun z_ => Rg_no hk_.1 z_.1 (by omega)))); replace HO65_0 := am (Kd.R_kept HO65_0.out hkp (fun k_ hk_ hs_ => Or.elim hs_ (fun z_ => Rg_no hk_.1 z_.1 (by omega)) (fun z_ => Rg_no hk_.1 z_.1 (by omega)))); replace BKgb1 := am (blk_kept (g := gb1) BKgb1.out hkp (fun hs_ => Or.elim hs_ (fun z_ => Rg_ne z_.1 (by omega) rfl) (fun z_ => Rg_ne z_.1 (by omega) rfl))); replace BKgb3 := am (blk_kept (g := gb3) BKgb3.out hkp (fun hs_ => Or.elim hs_ (fun z_ => Rg_ne z_.1 (by omega) rfl) (fun z_ => Rg_ne z_.1 (by omega) rfl))); replace BKgb39 := am (blk_kept (g := gb39) BKgb39.out hkp (fun hs_ => Or.elim hs_ (fun z_ => Rg_ne z_.1 (by omega) rfl) (fun z_ => Rg_ne z_.1 (by omega) rfl))); replace BKgb43 := am (blk_kept (g := gb43) BKgb43.out hkp (fun hs_ => Or.elim hs_ (fun z_ => Rg_ne z_.1 (by omega) rfl) (fun z_ => Rg_ne z_.1 (by omega) rfl))); replace BKgb47 := am (blk_kept (g := gb47) BKgb47.out hkp (fun hs_ => Or.elim hs_ (fun z_ => Rg_ne z_.1 (by omega) rfl) (fun z_ => Rg_ne z_.1 (by omega) rfl))); replace BKgb51 := am (blk_kept (g := gb51) BKgb51.out hkp (fun hs_ => Or.elim hs_ (fun z_ => Rg_ne z_.1 (by omega) rfl) (fun z_ => Rg_ne z_.1 (by omega) rfl))); replace HB := am (hb); replace HZ := am (Nat.le_trans HZ.out hkp.1); clear hb hkp hy0 hy1; clear hcgb1_0 hfgb1_0 hcgb1_1 hfgb1_1 hcgb3_0 hfgb3_0 hcgb3_1 hfgb3_1 hcgb3_2 hfgb3_2 hcgb39_0 hfgb39_0 hcgb39_1 hfgb39_1 hcgb39_2 hfgb39_2 hcgb39_3 hfgb39_3 hcgb39_4 hfgb39_4 hcgb39_5 hfgb39_5 hcgb43_0 hfgb43_0 hcgb43_1 hfgb43_1 hcgb47_0 hfgb47_0 hcgb47_1 hfgb47_1 hcgb47_2 hfgb47_2 hcgb51_0 hfgb51_0 hcgb51_1 hfgb51_1 hcgb51_2 hfgb51_2 hcgb51_3 hfgb51_3 hcgb51_4 hfgb51_4 hcgb51_5 hfgb51_5; have hcgb1_0 : w71.cell? ⟨gb1, 0, none⟩ = some (.slice A0_0 l0_0.length c0_0) := bc BKgb1.out 0; have hfgb1_0 := blk_frozen BKgb1.out 0; have hcgb1_1 : w71.cell? ⟨gb1, 1, none⟩ = some (.slice A0_1 l0_1.length c0_1) := bc BKgb1.out 1; have hfgb1_1 := blk_frozen BKgb1.out 1; have hcgb3_0 : w71.cell? ⟨gb3, 0, none⟩ = some (.slice A1_0 l1_0.length c1_0) := bc BKgb3.out 0; have hfgb3_0 := blk_frozen BKgb3.out 0; have hcgb3_1 : w71.cell? ⟨gb3, 1, none⟩ = some (.int .i64 a1_1) := bc BKgb3.out 1; have hfgb3_1 := blk_frozen BKgb3.out 1; have hcgb3_2 : w71.cell? ⟨gb3, 2, none⟩ = some (.int .i64 a1_2) := bc BKgb3.out 2; have hfgb3_2 := blk_frozen BKgb3.out 2; have hcgb39_0 : w71.cell? ⟨gb39, 0, none⟩ = some (.slice Aoj38_4_0 t16_0.length coj38_4_0) := bc BKgb39.out 0; have hfgb39_0 := blk_frozen BKgb39.out 0; have hcgb39_1 : w71.cell? ⟨gb39, 1, none⟩ = some (.slice Aoj38_4_1 t16_1.length coj38_4_1) := bc BKgb39.out 1; have hfgb39_1 := blk_frozen BKgb39.out 1; have hcgb39_2 : w71.cell? ⟨gb39, 2, none⟩ = some (.slice Aoj38_4_2 t16_2.length coj38_4_2) := bc BKgb39.out 2; have hfgb39_2 := blk_frozen BKgb39.out 2; have hcgb39_3 : w71.cell? ⟨gb39, 3, none⟩ = some (.int .i64 t16_3) := bc BKgb39.out 3; have hfgb39_3 := blk_frozen BKgb39.out 3; have hcgb39_4 : w71.cell? ⟨gb39, 4, none⟩ = some (.int .i64 t16_4) := bc BKgb39.out 4; have hfgb39_4 := blk_frozen BKgb39.out 4; have hcgb39_5 : w71.cell? ⟨gb39, 5, none⟩ = some (.int .i64 t16_5) := bc BKgb39.out 5; have hfgb39_5 := blk_frozen BKgb39.out 5; have hcgb43_0 : w71.cell? ⟨gb43, 0, none⟩ = some (.slice Ao41_0 t41_0.length co41_0) := bc BKgb43.out 0; have hfgb43_0 := blk_frozen BKgb43.out 0; have hcgb43_1 : w71.cell? ⟨gb43, 1, none⟩ = some (.slice Ao41_1 t41_1.length co41_1) := bc BKgb43.out 1; have hfgb43_1 := blk_frozen BKgb43.out 1; have hcgb47_0 : w71.cell? ⟨gb47, 0, none⟩ = some (.slice Ao45_0 t45_0.length co45_0) := bc BKgb47.out 0; have hfgb47_0 := blk_frozen BKgb47.out 0; have hcgb47_1 : w71.cell? ⟨gb47, 1, none⟩ = some (.int .i64 t45_1) := bc BKgb47.out 1; have hfgb47_1 := blk_frozen BKgb47.out 1; have hcgb47_2 : w71.cell? ⟨gb47, 2, none⟩ = some (.int .i64 t45_2) := bc BKgb47.out 2; have hfgb47_2 := blk_frozen BKgb47.out 2; have hcgb51_0 : w71.cell? ⟨gb51, 0, none⟩ = some (.slice Ao49_0 t49_0.length co49_0) := bc BKgb51.out 0; have hfgb51_0 := blk_frozen BKgb51.out 0; have hcgb51_1 : w71.cell? ⟨gb51, 1, none⟩ = some (.slice Ao49_1 t49_1.length co49_1) := bc BKgb51.out 1; have hfgb51_1 := blk_frozen BKgb51.out 1; have hcgb51_2 : w71.cell? ⟨gb51, 2, none⟩ = some (.slice Ao49_2 t49_2.length co49_2) := bc BKgb51.out 2; have hfgb51_2 := blk_frozen BKgb51.out 2; have hcgb51_3 : w71.cell? ⟨gb51, 3, none⟩ = some (.int .i64 t49_3) := bc BKgb51.out 3; have hfgb51_3 := blk_frozen BKgb51.out 3; have hcgb51_4 : w71.cell? ⟨gb51, 4, none⟩ = some (.int .i64 t49_4) := bc BKgb51.out 4; have hfgb51_4 := blk_frozen BKgb51.out 4; have hcgb51_5 : w71.cell? ⟨gb51, 5, none⟩ = some (.int .i64 t49_5) := bc BKgb51.out 5; have hfgb51_5 := blk_frozen BKgb51.out 5; have HL70_0 := am (Kd.S_reads' HO41_0.out).1; have HL70_1 := am (Kd.S_reads' HO41_1.out).1) | ((with_reducible refine gate_callee (f := 15) rfl ?_); refine gl (some 55) Try.func15 #[.agg #[.slice Ao45_0 t45_0.length co45_0, .int .i64 t45_1, .int .i64 t45_2], .int .i64 t70] ?_; refine (laws_markBuf.marks k _ _ t45_0 t45_1 t45_2 t70 t72 t72_0 w _ HB.out HO45_0.out A72.out).mono ?_; rintro e w73 ⟨rfl, hy0, hb, hkp⟩; refine ⟨_, rfl, ?_⟩; replace HOj38_1_0 := am (Kd.S_kept HOj38_1_0.out hkp (fun k_ hk_ hs_ => Rg_no hk_.1 hs_.1 (by omega))); replace HOj38_1_1 := am (Kd.S_kept HOj38_1_1.out hkp (fun k_ hk_ hs_ => Rg_no hk_.1 hs_.1 (by omega))); replace HOj38_3_0 := am (Kd.R_kept HOj38_3_0.out hkp (fun k_ hk_ hs_ => Rg_no hk_.1 hs_.1 (by omega))); replace HOj38_4_0 := am (Kd.T_kept HOj38_4_0.out hkp (fun k_ hk_ hs_ => Rg_no hk_.1 hs_.1 (by omega))); replace HOj38_4_1 := am (Kd.S_kept HOj38_4_1.out hkp (fun k_ hk_ hs_ => Rg_no hk_.1 hs_.1 (by omega))); replace HOj38_4_2 := am (Kd.R_kept HOj38_4_2.out hkp (fun k_ hk_ hs_ => Rg_no hk_.1 hs_.1 (by omega))); replace HO41_0 := am (Kd.S_kept HO41_0.out hkp (fun k_ hk_ hs_ => Rg_no hk_.1 hs_.1 (by omega))); replace HO41_1 := am (Kd.S_kept HO41_1.out hkp (fun k_ hk_ hs_ => Rg_no hk_.1 hs_.1 (by omega))); replace HO45_0 := am (hy0); replace HO49_0 := am (Kd.T_kept HO49_0.out hkp (fun k_ hk_ hs_ => Rg_no hk_.1 hs_.1 (by omega))); replace HO49_1 := am (Kd.S_kept HO49_1.out hkp (fun k_ hk_ hs_ => Rg_no hk_.1 hs_.1 (by omega))); replace HO49_2 := am (Kd.R_kept HO49_2.out hkp (fun k_ hk_ hs_ => Rg_no hk_.1 hs_.1 (by omega))); replace HO58_0 := am (Kd.S_kept HO58_0.out hkp (fun k_ hk_ hs_ => Rg_no hk_.1 hs_.1 (by omega))); replace HO58_1 := am (Kd.S_kept HO58_1.out hkp (fun k_ hk_ hs_ => Rg_no hk_.1 hs_.1 (by omega))); replace HO65_0 := am (Kd.R_kept HO65_0.out hkp (fun k_ hk_ hs_ => Rg_no hk_.1 hs_.1 (by omega))); replace BKgb1 := am (blk_kept (g := gb1) BKgb1.out hkp (fun hs_ => Rg_ne hs_.1 (by omega) rfl)); replace BKgb3 := am (blk_kept (g := gb3) BKgb3.out hkp (fun hs_ => Rg_ne hs_.1 (by omega) rfl)); replace BKgb39 := am (blk_kept (g := gb39) BKgb39.out hkp (fun hs_ => Rg_ne hs_.1 (by omega) rfl)); replace BKgb43 := am (blk_kept (g := gb43) BKgb43.out hkp (fun hs_ => Rg_ne hs_.1 (by omega) rfl)); replace BKgb47 := am (blk_kept (g := gb47) BKgb47.out hkp (fun hs_ => Rg_ne hs_.1 (by omega) rfl)); replace BKgb51 := am (blk_kept (g := gb51) BKgb51.out hkp (fun hs_ => Rg_ne hs_.1 (by omega) rfl)); replace HB := am (hb); replace HZ := am (Nat.le_trans HZ.out hkp.1); clear hb hkp hy0; clear hcgb1_0 hfgb1_0 hcgb1_1 hfgb1_1 hcgb3_0 hfgb3_0 hcgb3_1 hfgb3_1 hcgb3_2 hfgb3_2 hcgb39_0 hfgb39_0 hcgb39_1 hfgb39_1 hcgb39_2 hfgb39_2 hcgb39_3 hfgb39_3 hcgb39_4 hfgb39_4 hcgb39_5 hfgb39_5 hcgb43_0 hfgb43_0 hcgb43_1 hfgb43_1 hcgb47_0 hfgb47_0 hcgb47_1 hfgb47_1 hcgb47_2 hfgb47_2 hcgb51_0 hfgb51_0 hcgb51_1 hfgb51_1 hcgb51_2 hfgb51_2 hcgb51_3 hfgb51_3 hcgb51_4 hfgb51_4 hcgb51_5 hfgb51_5; have hcgb1_0 : w73.cell? ⟨gb1, 0, none⟩ = some (.slice A0_0 l0_0.length c0_0) := bc BKgb1.out 0; have hfgb1_0 := blk_frozen BKgb1.out 0; have hcgb1_1 : w73.cell? ⟨gb1, 1, none⟩ = some (.slice A0_1 l0_1.length c0_1) := bc BKgb1.out 1; have hfgb1_1 := blk_frozen BKgb1.out 1; have hcgb3_0 : w73.cell? ⟨gb3, 0, none⟩ = some (.slice A1_0 l1_0.length c1_0) := bc BKgb3.out 0; have hfgb3_0 := blk_frozen BKgb3.out 0; have hcgb3_1 : w73.cell? ⟨gb3, 1, none⟩ = some (.int .i64 a1_1) := bc BKgb3.out 1; have hfgb3_1 := blk_frozen BKgb3.out 1; have hcgb3_2 : w73.cell? ⟨gb3, 2, none⟩ = some (.int .i64 a1_2) := bc BKgb3.out 2; have hfgb3_2 := blk_frozen BKgb3.out 2; have hcgb39_0 : w73.cell? ⟨gb39, 0, none⟩ = some (.slice Aoj38_4_0 t16_0.length coj38_4_0) := bc BKgb39.out 0; have hfgb39_0 := blk_frozen BKgb39.out 0; have hcgb39_1 : w73.cell? ⟨gb39, 1, none⟩ = some (.slice Aoj38_4_1 t16_1.length coj38_4_1) := bc BKgb39.out 1; have hfgb39_1 := blk_frozen BKgb39.out 1; have hcgb39_2 : w73.cell? ⟨gb39, 2, none⟩ = some (.slice Aoj38_4_2 t16_2.length coj38_4_2) := bc BKgb39.out 2; have hfgb39_2 := blk_frozen BKgb39.out 2; have hcgb39_3 : w73.cell? ⟨gb39, 3, none⟩ = some (.int .i64 t16_3) := bc BKgb39.out 3; have hfgb39_3 := blk_frozen BKgb39.out 3; have hcgb39_4 : w73.cell? ⟨gb39, 4, none⟩ = some (.int .i64 t16_4) := bc BKgb39.out 4; have hfgb39_4 := blk_frozen BKgb39.out 4; have hcgb39_5 : w73.cell? ⟨gb39, 5, none⟩ = some (.int .i64 t16_5) := bc BKgb39.out 5; have hfgb39_5 := blk_frozen BKgb39.out 5; have hcgb43_0 : w73.cell? ⟨gb43, 0, none⟩ = some (.slice Ao41_0 t41_0.length co41_0) := bc BKgb43.out 0; have hfgb43_0 := blk_frozen BKgb43.out 0; have hcgb43_1 : w73.cell? ⟨gb43, 1, none⟩ = some (.slice Ao41_1 t41_1.length co41_1) := bc BKgb43.out 1; have hfgb43_1 := blk_frozen BKgb43.out 1; have hcgb47_0 : w73.cell? ⟨gb47, 0, none⟩ = some (.slice Ao45_0 t45_0.length co45_0) := bc BKgb47.out 0; have hfgb47_0 := blk_frozen BKgb47.out 0; have hcgb47_1 : w73.cell? ⟨gb47, 1, none⟩ = some (.int .i64 t45_1) := bc BKgb47.out 1; have hfgb47_1 := blk_frozen BKgb47.out 1; have hcgb47_2 : w73.cell? ⟨gb47, 2, none⟩ = some (.int .i64 t45_2) := bc BKgb47.out 2; have hfgb47_2 := blk_frozen BKgb47.out 2; have hcgb51_0 : w73.cell? ⟨gb51, 0, none⟩ = some (.slice Ao49_0 t49_0.length co49_0) := bc BKgb51.out 0; have hfgb51_0 := blk_frozen BKgb51.out 0; have hcgb51_1 : w73.cell? ⟨gb51, 1, none⟩ = some (.slice Ao49_1 t49_1.length co49_1) := bc BKgb51.out 1; have hfgb51_1 := blk_frozen BKgb51.out 1; have hcgb51_2 : w73.cell? ⟨gb51, 2, none⟩ = some (.slice Ao49_2 t49_2.length co49_2) := bc BKgb51.out 2; have hfgb51_2 := blk_frozen BKgb51.out 2; have hcgb51_3 : w73.cell? ⟨gb51, 3, none⟩ = some (.int .i64 t49_3) := bc BKgb51.out 3; have hfgb51_3 := blk_frozen BKgb51.out 3; have hcgb51_4 : w73.cell? ⟨gb51, 4, none⟩ = some (.int .i64 t49_4) := bc BKgb51.out 4; have hfgb51_4 := blk_frozen BKgb51.out 4; have hcgb51_5 : w73.cell? ⟨gb51, 5, none⟩ = some (.int .i64 t49_5) := bc BKgb51.out 5; have hfgb51_5 := blk_frozen BKgb51.out 5; have HL72_0 := am (Kd.R_reads' HO45_0.out).1) | (go_at_call 12; (with_reducible refine (laws_eqUndoOut.calls k _ _ t49_0 _ _ t49_1 _ _ t49_2 t49_3 t49_4 t49_5 _ _ t16_0 _ _ t16_1 _ _ t16_2 t16_3 t16_4 t16_5 true _ ?s0 ?s1 ?s2 ?s3 ?s4 ?s5 ?s6 ?s7 ?s8 ?s9 ?s10 ?s11 A74.out).mono ?_); (case s0 => exact (Kd.T_reads' HO49_0.out).2.2); (case s1 => exact (Kd.T_reads' HO49_0.out).2.1); (case s2 => exact (Kd.S_reads' HO49_1.out).2.2); (case s3 => exact (Kd.S_reads' HO49_1.out).2.1); (case s4 => exact (Kd.R_reads' HO49_2.out).2.2); (case s5 => exact (Kd.R_reads' HO49_2.out).2.1); (case s6 => exact (Kd.T_reads' HOj38_4_0.out).2.2); (case s7 => exact (Kd.T_reads' HOj38_4_0.out).2.1); (case s8 => exact (Kd.S_reads' HOj38_4_1.out).2.2); (case s9 => exact (Kd.S_reads' HOj38_4_1.out).2.1); (case s10 => exact (Kd.R_reads' HOj38_4_2.out).2.2); (case s11 => exact (Kd.R_reads' HOj38_4_2.out).2.1); rintro e w75 ⟨rfl, hb⟩; obtain ⟨na74, nb74, ha_, hz_, hab74⟩ := nxt_ hb; have hn74 : nb67 ≤ na74 := (by rw [ha_]; exact HZ.out); replace HOj38_1_0 := am (Kd.S_below HOj38_1_0.out hb); replace HOj38_1_1 := am (Kd.S_below HOj38_1_1.out hb); replace HOj38_3_0 := am (Kd.R_below HOj38_3_0.out hb); replace HOj38_4_0 := am (Kd.T_below HOj38_4_0.out hb); replace HOj38_4_1 := am (Kd.S_below HOj38_4_1.out hb); replace HOj38_4_2 := am (Kd.R_below HOj38_4_2.out hb); replace HO41_0 := am (Kd.S_below HO41_0.out hb); replace HO41_1 := am (Kd.S_below HO41_1.out hb); replace HO45_0 := am (Kd.R_below HO45_0.out hb); replace HO49_0 := am (Kd.T_below HO49_0.out hb); replace HO49_1 := am (Kd.S_below HO49_1.out hb); replace HO49_2 := am (Kd.R_below HO49_2.out hb); replace HO58_0 := am (Kd.S_below HO58_0.out hb); replace HO58_1 := am (Kd.S_below HO58_1.out hb); replace HO65_0 := am (Kd.R_below HO65_0.out hb); replace BKgb1 := am (blk_below BKgb1.out hb); replace BKgb3 := am (blk_below BKgb3.out hb); replace BKgb39 := am (blk_below BKgb39.out hb); replace BKgb43 := am (blk_below BKgb43.out hb); replace BKgb47 := am (blk_below BKgb47.out hb); replace BKgb51 := am (blk_below BKgb51.out hb); replace HB := am (below_step HB.out hb); replace HZ := am (Nat.le_of_eq hz_); clear hb ha_ hz_ ; clear hcgb1_0 hfgb1_0 hcgb1_1 hfgb1_1 hcgb3_0 hfgb3_0 hcgb3_1 hfgb3_1 hcgb3_2 hfgb3_2 hcgb39_0 hfgb39_0 hcgb39_1 hfgb39_1 hcgb39_2 hfgb39_2 hcgb39_3 hfgb39_3 hcgb39_4 hfgb39_4 hcgb39_5 hfgb39_5 hcgb43_0 hfgb43_0 hcgb43_1 hfgb43_1 hcgb47_0 hfgb47_0 hcgb47_1 hfgb47_1 hcgb47_2 hfgb47_2 hcgb51_0 hfgb51_0 hcgb51_1 hfgb51_1 hcgb51_2 hfgb51_2 hcgb51_3 hfgb51_3 hcgb51_4 hfgb51_4 hcgb51_5 hfgb51_5; have hcgb1_0 : w75.cell? ⟨gb1, 0, none⟩ = some (.slice A0_0 l0_0.length c0_0) := bc BKgb1.out 0; have hfgb1_0 := blk_frozen BKgb1.out 0; have hcgb1_1 : w75.cell? ⟨gb1, 1, none⟩ = some (.slice A0_1 l0_1.length c0_1) := bc BKgb1.out 1; have hfgb1_1 := blk_frozen BKgb1.out 1; have hcgb3_0 : w75.cell? ⟨gb3, 0, none⟩ = some (.slice A1_0 l1_0.length c1_0) := bc BKgb3.out 0; have hfgb3_0 := blk_frozen BKgb3.out 0; have hcgb3_1 : w75.cell? ⟨gb3, 1, none⟩ = some (.int .i64 a1_1) := bc BKgb3.out 1; have hfgb3_1 := blk_frozen BKgb3.out 1; have hcgb3_2 : w75.cell? ⟨gb3, 2, none⟩ = some (.int .i64 a1_2) := bc BKgb3.out 2; have hfgb3_2 := blk_frozen BKgb3.out 2; have hcgb39_0 : w75.cell? ⟨gb39, 0, none⟩ = some (.slice Aoj38_4_0 t16_0.length coj38_4_0) := bc BKgb39.out 0; have hfgb39_0 := blk_frozen BKgb39.out 0; have hcgb39_1 : w75.cell? ⟨gb39, 1, none⟩ = some (.slice Aoj38_4_1 t16_1.length coj38_4_1) := bc BKgb39.out 1; have hfgb39_1 := blk_frozen BKgb39.out 1; have hcgb39_2 : w75.cell? ⟨gb39, 2, none⟩ = some (.slice Aoj38_4_2 t16_2.length coj38_4_2) := bc BKgb39.out 2; have hfgb39_2 := blk_frozen BKgb39.out 2; have hcgb39_3 : w75.cell? ⟨gb39, 3, none⟩ = some (.int .i64 t16_3) := bc BKgb39.out 3; have hfgb39_3 := blk_frozen BKgb39.out 3; have hcgb39_4 : w75.cell? ⟨gb39, 4, none⟩ = some (.int .i64 t16_4) := bc BKgb39.out 4; have hfgb39_4 := blk_frozen BKgb39.out 4; have hcgb39_5 : w75.cell? ⟨gb39, 5, none⟩ = some (.int .i64 t16_5) := bc BKgb39.out 5; have hfgb39_5 := blk_frozen BKgb39.out 5; have hcgb43_0 : w75.cell? ⟨gb43, 0, none⟩ = some (.slice Ao41_0 t41_0.length co41_0) := bc BKgb43.out 0; have hfgb43_0 := blk_frozen BKgb43.out 0; have hcgb43_1 : w75.cell? ⟨gb43, 1, none⟩ = some (.slice Ao41_1 t41_1.length co41_1) := bc BKgb43.out 1; have hfgb43_1 := blk_frozen BKgb43.out 1; have hcgb47_0 : w75.cell? ⟨gb47, 0, none⟩ = some (.slice Ao45_0 t45_0.length co45_0) := bc BKgb47.out 0; have hfgb47_0 := blk_frozen BKgb47.out 0; have hcgb47_1 : w75.cell? ⟨gb47, 1, none⟩ = some (.int .i64 t45_1) := bc BKgb47.out 1; have hfgb47_1 := blk_frozen BKgb47.out 1; have hcgb47_2 : w75.cell? ⟨gb47, 2, none⟩ = some (.int .i64 t45_2) := bc BKgb47.out 2; have hfgb47_2 := blk_frozen BKgb47.out 2; have hcgb51_0 : w75.cell? ⟨gb51, 0, none⟩ = some (.slice Ao49_0 t49_0.length co49_0) := bc BKgb51.out 0; have hfgb51_0 := blk_frozen BKgb51.out 0; have hcgb51_1 : w75.cell? ⟨gb51, 1, none⟩ = some (.slice Ao49_1 t49_1.length co49_1) := bc BKgb51.out 1; have hfgb51_1 := blk_frozen BKgb51.out 1; have hcgb51_2 : w75.cell? ⟨gb51, 2, none⟩ = some (.slice Ao49_2 t49_2.length co49_2) := bc BKgb51.out 2; have hfgb51_2 := blk_frozen BKgb51.out 2; have hcgb51_3 : w75.cell? ⟨gb51, 3, none⟩ = some (.int .i64 t49_3) := bc BKgb51.out 3; have hfgb51_3 := blk_frozen BKgb51.out 3; have hcgb51_4 : w75.cell? ⟨gb51, 4, none⟩ = some (.int .i64 t49_4) := bc BKgb51.out 4; have hfgb51_4 := blk_frozen BKgb51.out 4; have hcgb51_5 : w75.cell? ⟨gb51, 5, none⟩ = some (.int .i64 t49_5) := bc BKgb51.out 5; have hfgb51_5 := blk_frozen BKgb51.out 5) | ((with_reducible refine gate_callee (f := 17) rfl ?_); refine gl (some 66) Try.func17 #[.agg #[.slice Ao49_0 t49_0.length co49_0, .slice Ao49_1 t49_1.length co49_1, .slice Ao49_2 t49_2.length co49_2, .int .i64 t49_3, .int .i64 t49_4, .int .i64 t49_5], .int .i64 1] ?_; replace HO49_1 := am (Kd.T_of_S HO49_1.out); refine (laws_markUndoOut.marksT k _ _ _ _ _ _ t49_0 t49_1 t49_2 t49_3 t49_4 t49_5 1 t78 t78_0 t78_1 t78_2 w _ HB.out HO49_0.out HO49_1.out (Kd.R_tight2 rfl HO49_2.out) (fun k_ h1_ h2_ => Rg_no h1_.1 h2_.1 (by omega)) (fun k_ h1_ h2_ => Rg_no h1_.1 h2_.2.1 (by omega)) (fun k_ h1_ h2_ => Rg_no h1_.1 h2_.2.1 (by omega)) A78.out).mono ?_; rintro e w79 ⟨rfl, hy0, hy1, hy2, hb, hkp⟩; refine ⟨_, rfl, ?_⟩; replace HOj38_1_0 := am (Kd.S_kept HOj38_1_0.out hkp (fun k_ hk_ hs_ => Or.elim hs_ (fun z_ => Rg_no hk_.1 z_.1 (by omega)) (fun z_ => Or.elim z_ (fun z_ => Rg_no hk_.1 z_.1 (by omega)) (fun z_ => Rg_no hk_.1 z_.2.1 (by omega))))); replace HOj38_1_1 := am (Kd.S_kept HOj38_1_1.out hkp (fun k_ hk_ hs_ => Or.elim hs_ (fun z_ => Rg_no hk_.1 z_.1 (by omega)) (fun z_ => Or.elim z_ (fun z_ => Rg_no hk_.1 z_.1 (by omega)) (fun z_ => Rg_no hk_.1 z_.2.1 (by omega))))); replace HOj38_3_0 := am (Kd.R_kept HOj38_3_0.out hkp (fun k_ hk_ hs_ => Or.elim hs_ (fun z_ => Rg_no hk_.1 z_.1 (by omega)) (fun z_ => Or.elim z_ (fun z_ => Rg_no hk_.1 z_.1 (by omega)) (fun z_ => Rg_no hk_.1 z_.2.1 (by omega))))); replace HOj38_4_0 := am (Kd.T_kept HOj38_4_0.out hkp (fun k_ hk_ hs_ => Or.elim hs_ (fun z_ => Rg_no hk_.1 z_.1 (by omega)) (fun z_ => Or.elim z_ (fun z_ => Rg_no hk_.1 z_.1 (by omega)) (fun z_ => Rg_no hk_.1 z_.2.1 (by omega))))); replace HOj38_4_1 := am (Kd.S_kept HOj38_4_1.out hkp (fun k_ hk_ hs_ => Or.elim hs_ (fun z_ => Rg_no hk_.1 z_.1 (by omega)) (fun z_ => Or.elim z_ (fun z_ => Rg_no hk_.1 z_.1 (by omega)) (fun z_ => Rg_no hk_.1 z_.2.1 (by omega))))); replace HOj38_4_2 := am (Kd.R_kept HOj38_4_2.out hkp (fun k_ hk_ hs_ => Or.elim hs_ (fun z_ => Rg_no hk_.1 z_.1 (by omega)) (fun z_ => Or.elim z_ (fun z_ => Rg_no hk_.1 z_.1 (by omega)) (fun z_ => Rg_no hk_.1 z_.2.1 (by omega))))); replace HO41_0 := am (Kd.S_kept HO41_0.out hkp (fun k_ hk_ hs_ => Or.elim hs_ (fun z_ => Rg_no hk_.1 z_.1 (by omega)) (fun z_ => Or.elim z_ (fun z_ => Rg_no hk_.1 z_.1 (by omega)) (fun z_ => Rg_no hk_.1 z_.2.1 (by omega))))); replace HO41_1 := am (Kd.S_kept HO41_1.out hkp (fun k_ hk_ hs_ => Or.elim hs_ (fun z_ => Rg_no hk_.1 z_.1 (by omega)) (fun z_ => Or.elim z_ (fun z_ => Rg_no hk_.1 z_.1 (by omega)) (fun z_ => Rg_no hk_.1 z_.2.1 (by omega))))); replace HO45_0 := am (Kd.R_kept HO45_0.out hkp (fun k_ hk_ hs_ => Or.elim hs_ (fun z_ => Rg_no hk_.1 z_.1 (by omega)) (fun z_ => Or.elim z_ (fun z_ => Rg_no hk_.1 z_.1 (by omega)) (fun z_ => Rg_no hk_.1 z_.2.1 (by omega))))); replace HO49_0 := am (hy0); replace HO49_1 := am (hy1); replace HO49_2 := am (Kd.R_mono hy2 (fun k_ hk_ => hk_.2)); replace HO58_0 := am (Kd.S_kept HO58_0.out hkp (fun k_ hk_ hs_ => Or.elim hs_ (fun z_ => Rg_no hk_.1 z_.1 (by omega)) (fun z_ => Or.elim z_ (fun z_ => Rg_no hk_.1 z_.1 (by omega)) (fun z_ => Rg_no hk_.1 z_.2.1 (by omega))))); replace HO58_1 := am (Kd.S_kept HO58_1.out hkp (fun k_ hk_ hs_ => Or.elim hs_ (fun z_ => Rg_no hk_.1 z_.1 (by omega)) (fun z_ => Or.elim z_ (fun z_ => Rg_no hk_.1 z_.1 (by omega)) (fun z_ => Rg_no hk_.1 z_.2.1 (by omega))))); replace HO65_0 := am (Kd.R_kept HO65_0.out hkp (fun k_ hk_ hs_ => Or.elim hs_ (fun z_ => Rg_no hk_.1 z_.1 (by omega)) (fun z_ => Or.elim z_ (fun z_ => Rg_no hk_.1 z_.1 (by omega)) (fun z_ => Rg_no hk_.1 z_.2.1 (by omega))))); replace BKgb1 := am (blk_kept (g := gb1) BKgb1.out hkp (fun hs_ => Or.elim hs_ (fun z_ => Rg_ne z_.1 (by omega) rfl) (fun z_ => Or.elim z_ (fun z_ => Rg_ne z_.1 (by omega) rfl) (fun z_ => Rg_ne z_.2.1 (by omega) rfl)))); replace BKgb3 := am (blk_kept (g := gb3) BKgb3.out hkp (fun hs_ => Or.elim hs_ (fun z_ => Rg_ne z_.1 (by omega) rfl) (fun z_ => Or.elim z_ (fun z_ => Rg_ne z_.1 (by omega) rfl) (fun z_ => Rg_ne z_.2.1 (by omega) rfl)))); replace BKgb39 := am (blk_kept (g := gb39) BKgb39.out hkp (fun hs_ => Or.elim hs_ (fun z_ => Rg_ne z_.1 (by omega) rfl) (fun z_ => Or.elim z_ (fun z_ => Rg_ne z_.1 (by omega) rfl) (fun z_ => Rg_ne z_.2.1 (by omega) rfl)))); replace BKgb43 := am (blk_kept (g := gb43) BKgb43.out hkp (fun hs_ => Or.elim hs_ (fun z_ => Rg_ne z_.1 (by omega) rfl) (fun z_ => Or.elim z_ (fun z_ => Rg_ne z_.1 (by omega) rfl) (fun z_ => Rg_ne z_.2.1 (by omega) rfl)))); replace BKgb47 := am (blk_kept (g := gb47) BKgb47.out hkp (fun hs_ => Or.elim hs_ (fun z_ => Rg_ne z_.1 (by omega) rfl) (fun z_ => Or.elim z_ (fun z_ => Rg_ne z_.1 (by omega) rfl) (fun z_ => Rg_ne z_.2.1 (by omega) rfl)))); replace BKgb51 := am (blk_kept (g := gb51) BKgb51.out hkp (fun hs_ => Or.elim hs_ (fun z_ => Rg_ne z_.1 (by omega) rfl) (fun z_ => Or.elim z_ (fun z_ => Rg_ne z_.1 (by omega) rfl) (fun z_ => Rg_ne z_.2.1 (by omega) rfl)))); replace HB := am (hb); replace HZ := am (Nat.le_trans HZ.out hkp.1); clear hb hkp hy0 hy1 hy2; clear hcgb1_0 hfgb1_0 hcgb1_1 hfgb1_1 hcgb3_0 hfgb3_0 hcgb3_1 hfgb3_1 hcgb3_2 hfgb3_2 hcgb39_0 hfgb39_0 hcgb39_1 hfgb39_1 hcgb39_2 hfgb39_2 hcgb39_3 hfgb39_3 hcgb39_4 hfgb39_4 hcgb39_5 hfgb39_5 hcgb43_0 hfgb43_0 hcgb43_1 hfgb43_1 hcgb47_0 hfgb47_0 hcgb47_1 hfgb47_1 hcgb47_2 hfgb47_2 hcgb51_0 hfgb51_0 hcgb51_1 hfgb51_1 hcgb51_2 hfgb51_2 hcgb51_3 hfgb51_3 hcgb51_4 hfgb51_4 hcgb51_5 hfgb51_5; have hcgb1_0 : w79.cell? ⟨gb1, 0, none⟩ = some (.slice A0_0 l0_0.length c0_0) := bc BKgb1.out 0; have hfgb1_0 := blk_frozen BKgb1.out 0; have hcgb1_1 : w79.cell? ⟨gb1, 1, none⟩ = some (.slice A0_1 l0_1.length c0_1) := bc BKgb1.out 1; have hfgb1_1 := blk_frozen BKgb1.out 1; have hcgb3_0 : w79.cell? ⟨gb3, 0, none⟩ = some (.slice A1_0 l1_0.length c1_0) := bc BKgb3.out 0; have hfgb3_0 := blk_frozen BKgb3.out 0; have hcgb3_1 : w79.cell? ⟨gb3, 1, none⟩ = some (.int .i64 a1_1) := bc BKgb3.out 1; have hfgb3_1 := blk_frozen BKgb3.out 1; have hcgb3_2 : w79.cell? ⟨gb3, 2, none⟩ = some (.int .i64 a1_2) := bc BKgb3.out 2; have hfgb3_2 := blk_frozen BKgb3.out 2; have hcgb39_0 : w79.cell? ⟨gb39, 0, none⟩ = some (.slice Aoj38_4_0 t16_0.length coj38_4_0) := bc BKgb39.out 0; have hfgb39_0 := blk_frozen BKgb39.out 0; have hcgb39_1 : w79.cell? ⟨gb39, 1, none⟩ = some (.slice Aoj38_4_1 t16_1.length coj38_4_1) := bc BKgb39.out 1; have hfgb39_1 := blk_frozen BKgb39.out 1; have hcgb39_2 : w79.cell? ⟨gb39, 2, none⟩ = some (.slice Aoj38_4_2 t16_2.length coj38_4_2) := bc BKgb39.out 2; have hfgb39_2 := blk_frozen BKgb39.out 2; have hcgb39_3 : w79.cell? ⟨gb39, 3, none⟩ = some (.int .i64 t16_3) := bc BKgb39.out 3; have hfgb39_3 := blk_frozen BKgb39.out 3; have hcgb39_4 : w79.cell? ⟨gb39, 4, none⟩ = some (.int .i64 t16_4) := bc BKgb39.out 4; have hfgb39_4 := blk_frozen BKgb39.out 4; have hcgb39_5 : w79.cell? ⟨gb39, 5, none⟩ = some (.int .i64 t16_5) := bc BKgb39.out 5; have hfgb39_5 := blk_frozen BKgb39.out 5; have hcgb43_0 : w79.cell? ⟨gb43, 0, none⟩ = some (.slice Ao41_0 t41_0.length co41_0) := bc BKgb43.out 0; have hfgb43_0 := blk_frozen BKgb43.out 0; have hcgb43_1 : w79.cell? ⟨gb43, 1, none⟩ = some (.slice Ao41_1 t41_1.length co41_1) := bc BKgb43.out 1; have hfgb43_1 := blk_frozen BKgb43.out 1; have hcgb47_0 : w79.cell? ⟨gb47, 0, none⟩ = some (.slice Ao45_0 t45_0.length co45_0) := bc BKgb47.out 0; have hfgb47_0 := blk_frozen BKgb47.out 0; have hcgb47_1 : w79.cell? ⟨gb47, 1, none⟩ = some (.int .i64 t45_1) := bc BKgb47.out 1; have hfgb47_1 := blk_frozen BKgb47.out 1; have hcgb47_2 : w79.cell? ⟨gb47, 2, none⟩ = some (.int .i64 t45_2) := bc BKgb47.out 2; have hfgb47_2 := blk_frozen BKgb47.out 2; have hcgb51_0 : w79.cell? ⟨gb51, 0, none⟩ = some (.slice Ao49_0 t49_0.length co49_0) := bc BKgb51.out 0; have hfgb51_0 := blk_frozen BKgb51.out 0; have hcgb51_1 : w79.cell? ⟨gb51, 1, none⟩ = some (.slice Ao49_1 t49_1.length co49_1) := bc BKgb51.out 1; have hfgb51_1 := blk_frozen BKgb51.out 1; have hcgb51_2 : w79.cell? ⟨gb51, 2, none⟩ = some (.slice Ao49_2 t49_2.length co49_2) := bc BKgb51.out 2; have hfgb51_2 := blk_frozen BKgb51.out 2; have hcgb51_3 : w79.cell? ⟨gb51, 3, none⟩ = some (.int .i64 t49_3) := bc BKgb51.out 3; have hfgb51_3 := blk_frozen BKgb51.out 3; have hcgb51_4 : w79.cell? ⟨gb51, 4, none⟩ = some (.int .i64 t49_4) := bc BKgb51.out 4; have hfgb51_4 := blk_frozen BKgb51.out 4; have hcgb51_5 : w79.cell? ⟨gb51, 5, none⟩ = some (.int .i64 t49_5) := bc BKgb51.out 5; have hfgb51_5 := blk_frozen BKgb51.out 5; have HL78_0 := am (Kd.T_reads' HO49_0.out).1; have HL78_1 := am (Kd.T_reads' HO49_1.out).1; have HL78_2 := am (Kd.R_reads' HO49_2.out).1) | ((with_reducible refine gate_callee (f := 18) rfl ?_); refine gl (some 69) Try.func18 #[.agg #[.slice Ao49_0 t49_0.length co49_0, .slice Ao49_1 t49_1.length co49_1, .slice Ao49_2 t49_2.length co49_2, .int .i64 t49_3, .int .i64 t49_4, .int .i64 t49_5], .int .i64 1] ?_; refine calls_of_args (args' := #[.agg #[.slice Ao49_0 t78_0.length co49_0, .slice Ao49_1 t78_1.length co49_1, .slice Ao49_2 t78_2.length co49_2, .int .i64 t49_3, .int .i64 t49_4, .int .i64 t49_5], .int .i64 1]) (by simp only [HL78_0.out, HL78_1.out, HL78_2.out]) ?_; (with_reducible refine (laws_heldUndoOut.calls k _ _ t78_0 _ _ t78_1 _ _ t78_2 t49_3 t49_4 t49_5 1 t80 _ ?s0 ?s1 ?s2 ?s3 ?s4 ?s5 A80.out).mono ?_); (case s0 => exact (Kd.T_reads' HO49_0.out).2.2); (case s1 => exact (fun h_ => h_.1 ▸ h_.2.1) (Kd.T_reads' HO49_0.out)); (case s2 => exact (Kd.T_reads' HO49_1.out).2.2); (case s3 => exact (fun h_ => h_.1 ▸ h_.2.1) (Kd.T_reads' HO49_1.out)); (case s4 => exact (Kd.R_reads' HO49_2.out).2.2); (case s5 => exact (fun h_ => h_.1 ▸ h_.2.1) (Kd.R_reads' HO49_2.out)); rintro e w81 ⟨rfl, hb⟩; refine ⟨_, rfl, ?_⟩; obtain ⟨na80, nb80, ha_, hz_, hab80⟩ := nxt_ hb; have hn80 : nb74 ≤ na80 := (by rw [ha_]; exact HZ.out); replace HOj38_1_0 := am (Kd.S_below HOj38_1_0.out hb); replace HOj38_1_1 := am (Kd.S_below HOj38_1_1.out hb); replace HOj38_3_0 := am (Kd.R_below HOj38_3_0.out hb); replace HOj38_4_0 := am (Kd.T_below HOj38_4_0.out hb); replace HOj38_4_1 := am (Kd.S_below HOj38_4_1.out hb); replace HOj38_4_2 := am (Kd.R_below HOj38_4_2.out hb); replace HO41_0 := am (Kd.S_below HO41_0.out hb); replace HO41_1 := am (Kd.S_below HO41_1.out hb); replace HO45_0 := am (Kd.R_below HO45_0.out hb); replace HO49_0 := am (Kd.T_below HO49_0.out hb); replace HO49_1 := am (Kd.T_below HO49_1.out hb); replace HO49_2 := am (Kd.R_below HO49_2.out hb); replace HO58_0 := am (Kd.S_below HO58_0.out hb); replace HO58_1 := am (Kd.S_below HO58_1.out hb); replace HO65_0 := am (Kd.R_below HO65_0.out hb); replace BKgb1 := am (blk_below BKgb1.out hb); replace BKgb3 := am (blk_below BKgb3.out hb); replace BKgb39 := am (blk_below BKgb39.out hb); replace BKgb43 := am (blk_below BKgb43.out hb); replace BKgb47 := am (blk_below BKgb47.out hb); replace BKgb51 := am (blk_below BKgb51.out hb); replace HB := am (below_step HB.out hb); replace HZ := am (Nat.le_of_eq hz_); clear hb ha_ hz_ ; clear hcgb1_0 hfgb1_0 hcgb1_1 hfgb1_1 hcgb3_0 hfgb3_0 hcgb3_1 hfgb3_1 hcgb3_2 hfgb3_2 hcgb39_0 hfgb39_0 hcgb39_1 hfgb39_1 hcgb39_2 hfgb39_2 hcgb39_3 hfgb39_3 hcgb39_4 hfgb39_4 hcgb39_5 hfgb39_5 hcgb43_0 hfgb43_0 hcgb43_1 hfgb43_1 hcgb47_0 hfgb47_0 hcgb47_1 hfgb47_1 hcgb47_2 hfgb47_2 hcgb51_0 hfgb51_0 hcgb51_1 hfgb51_1 hcgb51_2 hfgb51_2 hcgb51_3 hfgb51_3 hcgb51_4 hfgb51_4 hcgb51_5 hfgb51_5; have hcgb1_0 : w81.cell? ⟨gb1, 0, none⟩ = some (.slice A0_0 l0_0.length c0_0) := bc BKgb1.out 0; have hfgb1_0 := blk_frozen BKgb1.out 0; have hcgb1_1 : w81.cell? ⟨gb1, 1, none⟩ = some (.slice A0_1 l0_1.length c0_1) := bc BKgb1.out 1; have hfgb1_1 := blk_frozen BKgb1.out 1; have hcgb3_0 : w81.cell? ⟨gb3, 0, none⟩ = some (.slice A1_0 l1_0.length c1_0) := bc BKgb3.out 0; have hfgb3_0 := blk_frozen BKgb3.out 0; have hcgb3_1 : w81.cell? ⟨gb3, 1, none⟩ = some (.int .i64 a1_1) := bc BKgb3.out 1; have hfgb3_1 := blk_frozen BKgb3.out 1; have hcgb3_2 : w81.cell? ⟨gb3, 2, none⟩ = some (.int .i64 a1_2) := bc BKgb3.out 2; have hfgb3_2 := blk_frozen BKgb3.out 2; have hcgb39_0 : w81.cell? ⟨gb39, 0, none⟩ = some (.slice Aoj38_4_0 t16_0.length coj38_4_0) := bc BKgb39.out 0; have hfgb39_0 := blk_frozen BKgb39.out 0; have hcgb39_1 : w81.cell? ⟨gb39, 1, none⟩ = some (.slice Aoj38_4_1 t16_1.length coj38_4_1) := bc BKgb39.out 1; have hfgb39_1 := blk_frozen BKgb39.out 1; have hcgb39_2 : w81.cell? ⟨gb39, 2, none⟩ = some (.slice Aoj38_4_2 t16_2.length coj38_4_2) := bc BKgb39.out 2; have hfgb39_2 := blk_frozen BKgb39.out 2; have hcgb39_3 : w81.cell? ⟨gb39, 3, none⟩ = some (.int .i64 t16_3) := bc BKgb39.out 3; have hfgb39_3 := blk_frozen BKgb39.out 3; have hcgb39_4 : w81.cell? ⟨gb39, 4, none⟩ = some (.int .i64 t16_4) := bc BKgb39.out 4; have hfgb39_4 := blk_frozen BKgb39.out 4; have hcgb39_5 : w81.cell? ⟨gb39, 5, none⟩ = some (.int .i64 t16_5) := bc BKgb39.out 5; have hfgb39_5 := blk_frozen BKgb39.out 5; have hcgb43_0 : w81.cell? ⟨gb43, 0, none⟩ = some (.slice Ao41_0 t41_0.length co41_0) := bc BKgb43.out 0; have hfgb43_0 := blk_frozen BKgb43.out 0; have hcgb43_1 : w81.cell? ⟨gb43, 1, none⟩ = some (.slice Ao41_1 t41_1.length co41_1) := bc BKgb43.out 1; have hfgb43_1 := blk_frozen BKgb43.out 1; have hcgb47_0 : w81.cell? ⟨gb47, 0, none⟩ = some (.slice Ao45_0 t45_0.length co45_0) := bc BKgb47.out 0; have hfgb47_0 := blk_frozen BKgb47.out 0; have hcgb47_1 : w81.cell? ⟨gb47, 1, none⟩ = some (.int .i64 t45_1) := bc BKgb47.out 1; have hfgb47_1 := blk_frozen BKgb47.out 1; have hcgb47_2 : w81.cell? ⟨gb47, 2, none⟩ = some (.int .i64 t45_2) := bc BKgb47.out 2; have hfgb47_2 := blk_frozen BKgb47.out 2; have hcgb51_0 : w81.cell? ⟨gb51, 0, none⟩ = some (.slice Ao49_0 t49_0.length co49_0) := bc BKgb51.out 0; have hfgb51_0 := blk_frozen BKgb51.out 0; have hcgb51_1 : w81.cell? ⟨gb51, 1, none⟩ = some (.slice Ao49_1 t49_1.length co49_1) := bc BKgb51.out 1; have hfgb51_1 := blk_frozen BKgb51.out 1; have hcgb51_2 : w81.cell? ⟨gb51, 2, none⟩ = some (.slice Ao49_2 t49_2.length co49_2) := bc BKgb51.out 2; have hfgb51_2 := blk_frozen BKgb51.out 2; have hcgb51_3 : w81.cell? ⟨gb51, 3, none⟩ = some (.int .i64 t49_3) := bc BKgb51.out 3; have hfgb51_3 := blk_frozen BKgb51.out 3; have hcgb51_4 : w81.cell? ⟨gb51, 4, none⟩ = some (.int .i64 t49_4) := bc BKgb51.out 4; have hfgb51_4 := blk_frozen BKgb51.out 4; have hcgb51_5 : w81.cell? ⟨gb51, 5, none⟩ = some (.int .i64 t49_5) := bc BKgb51.out 5; have hfgb51_5 := blk_frozen BKgb51.out 5))
   try go_wp2
   replace HOj38_1_0 := am (Kd.S_drew HOj38_1_0.out)
   replace HOj38_1_1 := am (Kd.S_drew HOj38_1_1.out)
   replace HOj38_3_0 := am (Kd.R_drew HOj38_3_0.out)
   replace HOj38_4_0 := am (Kd.T_drew HOj38_4_0.out)
   replace HOj38_4_1 := am (Kd.S_drew HOj38_4_1.out)
   replace HOj38_4_2 := am (Kd.R_drew HOj38_4_2.out)
   replace HO41_0 := am (Kd.S_drew HO41_0.out)
   replace HO41_1 := am (Kd.S_drew HO41_1.out)
   replace HO45_0 := am (Kd.R_drew HO45_0.out)
   replace HO49_0 := am (Kd.T_drew HO49_0.out)
   replace HO49_1 := am (Kd.T_drew HO49_1.out)
   replace HO49_2 := am (Kd.R_drew HO49_2.out)
   replace HO58_0 := am (Kd.S_drew HO58_0.out)
   replace HO58_1 := am (Kd.S_drew HO58_1.out)
   replace HO65_0 := am (Kd.R_drew HO65_0.out)
   replace BKgb1 := am (blk_drew BKgb1.out)
   replace BKgb3 := am (blk_drew BKgb3.out)
   replace BKgb39 := am (blk_drew BKgb39.out)
   replace BKgb43 := am (blk_drew BKgb43.out)
   replace BKgb47 := am (blk_drew BKgb47.out)
   replace BKgb51 := am (blk_drew BKgb51.out)
   replace HB := am (below_drew1 HB.out)
   refine start_ (n := 7) (S := fun w' => w'.cell? ⟨gb1, 0, none⟩ = some (.slice A0_0 l0_0.length c0_0) ∧ w'.cell? ⟨gb1, 1, none⟩ = some (.slice A0_1 l0_1.length c0_1) ∧ w'.cell? ⟨gb3, 0, none⟩ = some (.slice A1_0 l1_0.length c1_0) ∧ w'.cell? ⟨gb3, 1, none⟩ = some (.int .i64 a1_1) ∧ w'.cell? ⟨gb3, 2, none⟩ = some (.int .i64 a1_2) ∧ w'.cell? ⟨gb39, 0, none⟩ = some (.slice Aoj38_4_0 t16_0.length coj38_4_0) ∧ w'.cell? ⟨gb39, 1, none⟩ = some (.slice Aoj38_4_1 t16_1.length coj38_4_1) ∧ w'.cell? ⟨gb39, 2, none⟩ = some (.slice Aoj38_4_2 t16_2.length coj38_4_2) ∧ w'.cell? ⟨gb39, 3, none⟩ = some (.int .i64 t16_3) ∧ w'.cell? ⟨gb39, 4, none⟩ = some (.int .i64 t16_4) ∧ w'.cell? ⟨gb39, 5, none⟩ = some (.int .i64 t16_5) ∧ w'.cell? ⟨gb43, 0, none⟩ = some (.slice Ao41_0 t41_0.length co41_0) ∧ w'.cell? ⟨gb43, 1, none⟩ = some (.slice Ao41_1 t41_1.length co41_1) ∧ w'.cell? ⟨gb47, 0, none⟩ = some (.slice Ao45_0 t45_0.length co45_0) ∧ w'.cell? ⟨gb47, 1, none⟩ = some (.int .i64 t45_1) ∧ w'.cell? ⟨gb47, 2, none⟩ = some (.int .i64 t45_2) ∧ w'.cell? ⟨gb51, 0, none⟩ = some (.slice Ao49_0 t49_0.length co49_0) ∧ w'.cell? ⟨gb51, 1, none⟩ = some (.slice Ao49_1 t49_1.length co49_1) ∧ w'.cell? ⟨gb51, 2, none⟩ = some (.slice Ao49_2 t49_2.length co49_2) ∧ w'.cell? ⟨gb51, 3, none⟩ = some (.int .i64 t49_3) ∧ w'.cell? ⟨gb51, 4, none⟩ = some (.int .i64 t49_4) ∧ w'.cell? ⟨gb51, 5, none⟩ = some (.int .i64 t49_5)) (ds := []) #[false, false, false, false, false, false, false] (by kernel_rfl) rfl rfl ⟨bc BKgb1.out 0, bc BKgb1.out 1, bc BKgb3.out 0, bc BKgb3.out 1, bc BKgb3.out 2, bc BKgb39.out 0, bc BKgb39.out 1, bc BKgb39.out 2, bc BKgb39.out 3, bc BKgb39.out 4, bc BKgb39.out 5, bc BKgb43.out 0, bc BKgb43.out 1, bc BKgb47.out 0, bc BKgb47.out 1, bc BKgb47.out 2, bc BKgb51.out 0, bc BKgb51.out 1, bc BKgb51.out 2, bc BKgb51.out 3, bc BKgb51.out 4, bc BKgb51.out 5⟩ (fun hHeld => ?_)
   have HZ2 := am (show nb80 ≤ (w81.drew).heap.size from HZ.out)
   clear HZ
   have HZ := HZ2
   clear HZ2
   generalize w81.drew = w84 at HOj38_1_0 HOj38_1_1 HOj38_3_0 HOj38_4_0 HOj38_4_1 HOj38_4_2 HO41_0 HO41_1 HO45_0 HO49_0 HO49_1 HO49_2 HO58_0 HO58_1 HO65_0 BKgb1 BKgb3 BKgb39 BKgb43 BKgb47 BKgb51 HB HZ hHeld ⊢
   refine take_ (i := 0) (N := some 75) (v := ?_) (a' := ?_) #[true, false, false, false, false, false, false] rfl rfl (by kernel_rfl) (fun _ _ _ h => h) (Or.inl ⟨by rfl, ?_⟩) hHeld ?_ ?_; rotate_left
   ·rintro w' ⟨s0, s1, s2, s3, s4, s5, s6, s7, s8, s9, s10, s11, s12, s13, s14, s15, s16, s17, s18, s19, s20, s21⟩; go_simp; with_reducible rfl
   rotate_left
   ·simp only [Act.put, sa_, s0_, ss_, i64_w, i32_w]; rfl
   refine take_ (i := 2) (N := some 77) (v := ?_) (a' := ?_) #[true, false, true, false, false, false, false] rfl rfl (by kernel_rfl) (fun _ _ _ h => h) (Or.inl ⟨by rfl, ?_⟩) hHeld ?_ ?_; rotate_left
   ·rintro w' ⟨s0, s1, s2, s3, s4, s5, s6, s7, s8, s9, s10, s11, s12, s13, s14, s15, s16, s17, s18, s19, s20, s21⟩; go_simp; with_reducible rfl
   rotate_left
   ·simp only [Act.put, sa_, s0_, ss_, i64_w, i32_w]; rfl
   refine join_ (σ := Value × Value × Value × Value × Value × Value × Nat × Nat × Nat × Nat × Nat × Nat × Nat × Nat) 1 #[true, true, true, true, true, true, false] (fun s_ => [(76, .agg #[s_.1, s_.2.1]), (78, .agg #[s_.2.2.1, .int .i64 t87_1, .int .i64 t87_2]), (79, .agg #[s_.2.2.2.1, s_.2.2.2.2.1, s_.2.2.2.2.2.1, .int .i64 t89_3, .int .i64 t89_4, .int .i64 t89_5]), (13, .pointer (some ⟨s_.2.2.2.2.2.2.1, 0, none⟩))]) (fun s_ w' => (w'.cell? ⟨gb1, 0, none⟩ = some (.slice A0_0 l0_0.length c0_0) ∧ w'.cell? ⟨gb1, 1, none⟩ = some (.slice A0_1 l0_1.length c0_1) ∧ w'.cell? ⟨gb3, 0, none⟩ = some (.slice A1_0 l1_0.length c1_0) ∧ w'.cell? ⟨gb3, 1, none⟩ = some (.int .i64 a1_1) ∧ w'.cell? ⟨gb3, 2, none⟩ = some (.int .i64 a1_2) ∧ w'.cell? ⟨gb39, 0, none⟩ = some (.slice Aoj38_4_0 t16_0.length coj38_4_0) ∧ w'.cell? ⟨gb39, 1, none⟩ = some (.slice Aoj38_4_1 t16_1.length coj38_4_1) ∧ w'.cell? ⟨gb39, 2, none⟩ = some (.slice Aoj38_4_2 t16_2.length coj38_4_2) ∧ w'.cell? ⟨gb39, 3, none⟩ = some (.int .i64 t16_3) ∧ w'.cell? ⟨gb39, 4, none⟩ = some (.int .i64 t16_4) ∧ w'.cell? ⟨gb39, 5, none⟩ = some (.int .i64 t16_5) ∧ w'.cell? ⟨gb43, 0, none⟩ = some (.slice Ao41_0 t41_0.length co41_0) ∧ w'.cell? ⟨gb43, 1, none⟩ = some (.slice Ao41_1 t41_1.length co41_1) ∧ w'.cell? ⟨gb47, 0, none⟩ = some (.slice Ao45_0 t45_0.length co45_0) ∧ w'.cell? ⟨gb47, 1, none⟩ = some (.int .i64 t45_1) ∧ w'.cell? ⟨gb47, 2, none⟩ = some (.int .i64 t45_2) ∧ w'.cell? ⟨gb51, 0, none⟩ = some (.slice Ao49_0 t49_0.length co49_0) ∧ w'.cell? ⟨gb51, 1, none⟩ = some (.slice Ao49_1 t49_1.length co49_1) ∧ w'.cell? ⟨gb51, 2, none⟩ = some (.slice Ao49_2 t49_2.length co49_2) ∧ w'.cell? ⟨gb51, 3, none⟩ = some (.int .i64 t49_3) ∧ w'.cell? ⟨gb51, 4, none⟩ = some (.int .i64 t49_4) ∧ w'.cell? ⟨gb51, 5, none⟩ = some (.int .i64 t49_5)) ∧ (∃ T_ : Nat → Prop, Kd.S k31 31 w' w.heap.size (fun k_ => Rg nj38_0 mj38_0 k_ ∧ T_ k_) (.slice Aoj38_1_0 t12_0.length coj38_1_0) t12_0) ∧ (∃ T_ : Nat → Prop, Kd.S k31 31 w' w.heap.size (fun k_ => Rg nj38_0 mj38_0 k_ ∧ T_ k_) (.slice Aoj38_1_1 t12_1.length coj38_1_1) t12_1) ∧ (∃ T_ : Nat → Prop, Kd.R (Kd.int .i64) 2 w' w.heap.size (fun k_ => Rg nj38_1 mj38_1 k_ ∧ T_ k_) (.slice Aoj38_3_0 t14_0.length coj38_3_0) t14_0) ∧ (∃ T_ : Nat → Prop, Kd.T k31 31 w' w.heap.size (fun k_ => Rg nj38_2 mj38_2 k_ ∧ T_ k_) (.slice Aoj38_4_0 t16_0.length coj38_4_0) t16_0) ∧ (∃ T_ : Nat → Prop, Kd.S k31 31 w' w.heap.size (fun k_ => Rg nj38_2 mj38_2 k_ ∧ T_ k_) (.slice Aoj38_4_1 t16_1.length coj38_4_1) t16_1) ∧ (∃ T_ : Nat → Prop, Kd.R (Kd.int .i64) 2 w' w.heap.size (fun k_ => Rg nj38_2 mj38_2 k_ ∧ T_ k_) (.slice Aoj38_4_2 t16_2.length coj38_4_2) t16_2) ∧ (∃ T_ : Nat → Prop, Kd.S k31 31 w' w.heap.size (fun k_ => Rg na41 mq41_1 k_ ∧ T_ k_) (.slice Ao41_0 t41_0.length co41_0) t70_0) ∧ (∃ T_ : Nat → Prop, Kd.S k31 31 w' w.heap.size (fun k_ => Rg mq41_1 nb41 k_ ∧ T_ k_) (.slice Ao41_1 t41_1.length co41_1) t70_1) ∧ (∃ T_ : Nat → Prop, Kd.R (Kd.int .i64) 2 w' w.heap.size (fun k_ => Rg na45 nb45 k_ ∧ T_ k_) (.slice Ao45_0 t45_0.length co45_0) t72_0) ∧ (∃ T_ : Nat → Prop, Kd.T k31 31 w' w.heap.size (fun k_ => Rg mq49_1 mq49_2 k_ ∧ T_ k_) (.slice Ao49_0 t49_0.length co49_0) t78_0) ∧ (∃ T_ : Nat → Prop, Kd.T k31 31 w' w.heap.size (fun k_ => Rg na49 mq49_1 k_ ∧ T_ k_) (.slice Ao49_1 t49_1.length co49_1) t78_1) ∧ (∃ T_ : Nat → Prop, Kd.R (Kd.int .i64) 2 w' w.heap.size (fun k_ => Rg mq49_2 nb49 k_ ∧ T_ k_) (.slice Ao49_2 t49_2.length co49_2) t78_2) ∧ (∃ T_ : Nat → Prop, Kd.S k31 31 w' w.heap.size (fun k_ => Rg na58 mq58_1 k_ ∧ T_ k_) (.slice Ao58_0 t58_0.length co58_0) t58_0) ∧ (∃ T_ : Nat → Prop, Kd.S k31 31 w' w.heap.size (fun k_ => Rg mq58_1 nb58 k_ ∧ T_ k_) (.slice Ao58_1 t58_1.length co58_1) t58_1) ∧ (∃ T_ : Nat → Prop, Kd.R (Kd.int .i64) 2 w' w.heap.size (fun k_ => Rg na65 nb65 k_ ∧ T_ k_) (.slice Ao65_0 t65_0.length co65_0) t65_0) ∧ (∃ T_ : Nat → Prop, Kd.S k31 31 w' w.heap.size (fun k_ => Rg s_.2.2.2.2.2.2.2.1 s_.2.2.2.2.2.2.2.2.1 k_ ∧ T_ k_) s_.1 t85_0) ∧ (∃ T_ : Nat → Prop, Kd.S k31 31 w' w.heap.size (fun k_ => Rg s_.2.2.2.2.2.2.2.1 s_.2.2.2.2.2.2.2.2.1 k_ ∧ T_ k_) s_.2.1 t85_1) ∧ (∃ T_ : Nat → Prop, Kd.R (Kd.int .i64) 2 w' w.heap.size (fun k_ => Rg s_.2.2.2.2.2.2.2.2.2.1 s_.2.2.2.2.2.2.2.2.2.2.1 k_ ∧ T_ k_) s_.2.2.1 t87_0) ∧ (∃ T_ : Nat → Prop, Kd.T k31 31 w' w.heap.size (fun k_ => Rg s_.2.2.2.2.2.2.2.2.2.2.2.1 s_.2.2.2.2.2.2.2.2.2.2.2.2.1 k_ ∧ T_ k_) s_.2.2.2.1 t89_0) ∧ (∃ T_ : Nat → Prop, Kd.S k31 31 w' w.heap.size (fun k_ => Rg s_.2.2.2.2.2.2.2.2.2.2.2.1 s_.2.2.2.2.2.2.2.2.2.2.2.2.1 k_ ∧ T_ k_) s_.2.2.2.2.1 t89_1) ∧ (∃ T_ : Nat → Prop, Kd.R (Kd.int .i64) 2 w' w.heap.size (fun k_ => Rg s_.2.2.2.2.2.2.2.2.2.2.2.1 s_.2.2.2.2.2.2.2.2.2.2.2.2.1 k_ ∧ T_ k_) s_.2.2.2.2.2.1 t89_2) ∧ (w'.heap[gb1]? = some (.cells #[.slice A0_0 l0_0.length c0_0, .slice A0_1 l0_1.length c0_1] 45 (0, 0))) ∧ (w'.heap[gb3]? = some (.cells #[.slice A1_0 l1_0.length c1_0, .int .i64 a1_1, .int .i64 a1_2] 24 (0, 0))) ∧ (w'.heap[gb39]? = some (.cells #[.slice Aoj38_4_0 t16_0.length coj38_4_0, .slice Aoj38_4_1 t16_1.length coj38_4_1, .slice Aoj38_4_2 t16_2.length coj38_4_2, .int .i64 t16_3, .int .i64 t16_4, .int .i64 t16_5] 33 (0, 0))) ∧ (w'.heap[gb43]? = some (.cells #[.slice Ao41_0 t41_0.length co41_0, .slice Ao41_1 t41_1.length co41_1] 30 (0, 0))) ∧ (w'.heap[gb47]? = some (.cells #[.slice Ao45_0 t45_0.length co45_0, .int .i64 t45_1, .int .i64 t45_2] 31 (0, 0))) ∧ (w'.heap[gb51]? = some (.cells #[.slice Ao49_0 t49_0.length co49_0, .slice Ao49_1 t49_1.length co49_1, .slice Ao49_2 t49_2.length co49_2, .int .i64 t49_3, .int .i64 t49_4, .int .i64 t49_5] 33 (0, 0))) ∧ (w'.heap[s_.2.2.2.2.2.2.1]? = some (.cells #[.slice none 0 0, .slice none 0 0, .slice none 0 0, .int .i64 0, .int .i64 0, .int .i64 0] 33 (0, 0))) ∧ (Below w.heap.size w w') ∧ (s_.2.2.2.2.2.2.2.2.2.2.2.2.2 ≤ w'.heap.size) ∧ (w.heap.size ≤ s_.2.2.2.2.2.2.1) ∧ (nb80 ≤ s_.2.2.2.2.2.2.1 ∧ s_.2.2.2.2.2.2.1 < s_.2.2.2.2.2.2.2.2.2.2.2.2.2) ∧ (nb80 ≤ s_.2.2.2.2.2.2.2.1 ∧ s_.2.2.2.2.2.2.2.1 ≤ s_.2.2.2.2.2.2.2.2.1 ∧ (s_.2.2.2.2.2.2.1 < s_.2.2.2.2.2.2.2.1 ∨ s_.2.2.2.2.2.2.2.2.1 ≤ s_.2.2.2.2.2.2.1)) ∧ (s_.2.2.2.2.2.2.2.2.1 ≤ s_.2.2.2.2.2.2.2.2.2.1 ∧ s_.2.2.2.2.2.2.2.2.2.1 ≤ s_.2.2.2.2.2.2.2.2.2.2.1 ∧ (s_.2.2.2.2.2.2.1 < s_.2.2.2.2.2.2.2.2.2.1 ∨ s_.2.2.2.2.2.2.2.2.2.2.1 ≤ s_.2.2.2.2.2.2.1)) ∧ (s_.2.2.2.2.2.2.2.2.2.2.1 ≤ s_.2.2.2.2.2.2.2.2.2.2.2.1 ∧ s_.2.2.2.2.2.2.2.2.2.2.2.1 ≤ s_.2.2.2.2.2.2.2.2.2.2.2.2.1 ∧ (s_.2.2.2.2.2.2.1 < s_.2.2.2.2.2.2.2.2.2.2.2.1 ∨ s_.2.2.2.2.2.2.2.2.2.2.2.2.1 ≤ s_.2.2.2.2.2.2.1)) ∧ (s_.2.2.2.2.2.2.2.2.2.2.2.2.1 ≤ s_.2.2.2.2.2.2.2.2.2.2.2.2.2)) ?_ ?_
   rotate_left
   ·intro hJ
    refine two_ (i := 1) (j := 5) (Ni := some 76) (Nj := some 13) #[true, true, true, false, false, false, false] #[true, false, true, false, false, true, false] rfl rfl rfl rfl (by kernel_rfl) (by decide) (by decide) (fun K hK => ?_) (fun K hK => ?_)
    ·skip
     refine gs_ Try.func21 #[.agg #[.slice A0_0 l0_0.length c0_0, .slice A0_1 l0_1.length c0_1]] ?_
     (with_reducible refine (laws_toUndo.calls k _ _ l0_0 _ _ l0_1 t85_0 t85_1 _ ?s0 ?s1 ?s2 ?s3 A85.out).mono ?_)
     (case s0 => exact (Kd.C_below HR0_0.out HB.out))
     (case s1 => exact HC0_0.out)
     (case s2 => exact (Kd.C_below HR0_1.out HB.out))
     (case s3 => exact HC0_1.out)
     rintro e w86 ⟨v85_0, v85_1, rfl, ho0, ho1, hb⟩
     refine ⟨_, rfl, ?_⟩
     obtain ⟨na85, nb85, ha_, hz_, hab85⟩ := nxt_ hb
     have hn85 : nb80 ≤ na85 := (by rw [ha_]; exact HZ.out)
     replace HOj38_1_0 := am (Kd.S_below HOj38_1_0.out hb)
     replace HOj38_1_1 := am (Kd.S_below HOj38_1_1.out hb)
     replace HOj38_3_0 := am (Kd.R_below HOj38_3_0.out hb)
     replace HOj38_4_0 := am (Kd.T_below HOj38_4_0.out hb)
     replace HOj38_4_1 := am (Kd.S_below HOj38_4_1.out hb)
     replace HOj38_4_2 := am (Kd.R_below HOj38_4_2.out hb)
     replace HO41_0 := am (Kd.S_below HO41_0.out hb)
     replace HO41_1 := am (Kd.S_below HO41_1.out hb)
     replace HO45_0 := am (Kd.R_below HO45_0.out hb)
     replace HO49_0 := am (Kd.T_below HO49_0.out hb)
     replace HO49_1 := am (Kd.T_below HO49_1.out hb)
     replace HO49_2 := am (Kd.R_below HO49_2.out hb)
     replace HO58_0 := am (Kd.S_below HO58_0.out hb)
     replace HO58_1 := am (Kd.S_below HO58_1.out hb)
     replace HO65_0 := am (Kd.R_below HO65_0.out hb)
     replace BKgb1 := am (blk_below BKgb1.out hb)
     replace BKgb3 := am (blk_below BKgb3.out hb)
     replace BKgb39 := am (blk_below BKgb39.out hb)
     replace BKgb43 := am (blk_below BKgb43.out hb)
     replace BKgb47 := am (blk_below BKgb47.out hb)
     replace BKgb51 := am (blk_below BKgb51.out hb)
     have HO85_0 := am (S_rg ha_ hz_ (below_size HB.out) ho0)
     have HO85_1 := am (S_rg ha_ hz_ (below_size HB.out) ho1)
     replace HB := am (below_step HB.out hb)
     replace HZ := am (Nat.le_of_eq hz_)
     clear hb ha_ hz_ ho0 ho1
     obtain ⟨Ao85_0, co85_0, eo85_0⟩ := Kd.S_slice HO85_0.out
     subst eo85_0
     obtain ⟨Ao85_1, co85_1, eo85_1⟩ := Kd.S_slice HO85_1.out
     subst eo85_1
     refine hK.out _ _ ⟨bc BKgb1.out 0, bc BKgb1.out 1, bc BKgb3.out 0, bc BKgb3.out 1, bc BKgb3.out 2, bc BKgb39.out 0, bc BKgb39.out 1, bc BKgb39.out 2, bc BKgb39.out 3, bc BKgb39.out 4, bc BKgb39.out 5, bc BKgb43.out 0, bc BKgb43.out 1, bc BKgb47.out 0, bc BKgb47.out 1, bc BKgb47.out 2, bc BKgb51.out 0, bc BKgb51.out 1, bc BKgb51.out 2, bc BKgb51.out 3, bc BKgb51.out 4, bc BKgb51.out 5⟩ (fun hHeld => ?_)
     clear hK K
     refine norm_ (a' := ?_) ?_ ?_
     rotate_left
     ·show Act.put _ (some 76) _ = _; simp only [Act.put, sa_, s0_, ss_, i64_w, i32_w]; rfl
     refine two_ (i := 3) (j := 5) (Ni := some 78) (Nj := some 13) #[true, true, true, true, false, false, false] #[true, true, true, false, false, true, false] rfl rfl rfl rfl (by kernel_rfl) (by decide) (by decide) (fun K hK => ?_) (fun K hK => ?_)
     ·skip
      refine gs_ Try.func9 #[.agg #[.slice A1_0 l1_0.length c1_0, .int .i64 a1_1, .int .i64 a1_2]] ?_
      (with_reducible refine (laws_toBuf.calls k _ _ l1_0 a1_1 a1_2 t87_0 t87_1 t87_2 _ ?s0 ?s1 A87.out).mono ?_)
      (case s0 => exact (Kd.C_below HR1_0.out HB.out))
      (case s1 => exact HC1_0.out)
      rintro e w88 ⟨v87_0, rfl, ho0, hb⟩
      refine ⟨_, rfl, ?_⟩
      obtain ⟨na87, nb87, ha_, hz_, hab87⟩ := nxt_ hb
      have hn87 : nb85 ≤ na87 := (by rw [ha_]; exact HZ.out)
      replace HOj38_1_0 := am (Kd.S_below HOj38_1_0.out hb)
      replace HOj38_1_1 := am (Kd.S_below HOj38_1_1.out hb)
      replace HOj38_3_0 := am (Kd.R_below HOj38_3_0.out hb)
      replace HOj38_4_0 := am (Kd.T_below HOj38_4_0.out hb)
      replace HOj38_4_1 := am (Kd.S_below HOj38_4_1.out hb)
      replace HOj38_4_2 := am (Kd.R_below HOj38_4_2.out hb)
      replace HO41_0 := am (Kd.S_below HO41_0.out hb)
      replace HO41_1 := am (Kd.S_below HO41_1.out hb)
      replace HO45_0 := am (Kd.R_below HO45_0.out hb)
      replace HO49_0 := am (Kd.T_below HO49_0.out hb)
      replace HO49_1 := am (Kd.T_below HO49_1.out hb)
      replace HO49_2 := am (Kd.R_below HO49_2.out hb)
      replace HO58_0 := am (Kd.S_below HO58_0.out hb)
      replace HO58_1 := am (Kd.S_below HO58_1.out hb)
      replace HO65_0 := am (Kd.R_below HO65_0.out hb)
      replace HO85_0 := am (Kd.S_below HO85_0.out hb)
      replace HO85_1 := am (Kd.S_below HO85_1.out hb)
      replace BKgb1 := am (blk_below BKgb1.out hb)
      replace BKgb3 := am (blk_below BKgb3.out hb)
      replace BKgb39 := am (blk_below BKgb39.out hb)
      replace BKgb43 := am (blk_below BKgb43.out hb)
      replace BKgb47 := am (blk_below BKgb47.out hb)
      replace BKgb51 := am (blk_below BKgb51.out hb)
      have HO87_0 := am (R_rg ha_ hz_ (below_size HB.out) ho0)
      replace HB := am (below_step HB.out hb)
      replace HZ := am (Nat.le_of_eq hz_)
      clear hb ha_ hz_ ho0
      obtain ⟨Ao87_0, co87_0, eo87_0⟩ := Kd.R_slice HO87_0.out
      subst eo87_0
      refine hK.out _ _ ⟨bc BKgb1.out 0, bc BKgb1.out 1, bc BKgb3.out 0, bc BKgb3.out 1, bc BKgb3.out 2, bc BKgb39.out 0, bc BKgb39.out 1, bc BKgb39.out 2, bc BKgb39.out 3, bc BKgb39.out 4, bc BKgb39.out 5, bc BKgb43.out 0, bc BKgb43.out 1, bc BKgb47.out 0, bc BKgb47.out 1, bc BKgb47.out 2, bc BKgb51.out 0, bc BKgb51.out 1, bc BKgb51.out 2, bc BKgb51.out 3, bc BKgb51.out 4, bc BKgb51.out 5⟩ (fun hHeld => ?_)
      clear hK K
      refine norm_ (a' := ?_) ?_ ?_
      rotate_left
      ·show Act.put _ (some 78) _ = _; simp only [Act.put, sa_, s0_, ss_, i64_w, i32_w]; rfl
      refine two_ (i := 4) (j := 5) (Ni := some 79) (Nj := some 13) #[true, true, true, true, true, false, false] #[true, true, true, true, false, true, false] rfl rfl rfl rfl (by kernel_rfl) (by decide) (by decide) (fun K hK => ?_) (fun K hK => ?_)
      ·skip
       refine gs_ Try.func27 #[.agg #[.slice Ao85_0 t85_0.length co85_0, .slice Ao85_1 t85_1.length co85_1], .agg #[.slice Ao87_0 t87_0.length co87_0, .int .i64 t87_1, .int .i64 t87_2]] ?_
       (with_reducible refine (impl_UndoForth.calls k _ _ t85_0 _ _ t85_1 _ _ t87_0 t87_1 t87_2 t89_0 t89_1 t89_2 t89_3 t89_4 t89_5 _ ?s0 ?s1 ?s2 ?s3 ?s4 ?s5 A89.out).mono ?_)
       (case s0 => exact (Kd.S_reads' HO85_0.out).2.2)
       (case s1 => exact (Kd.S_reads' HO85_0.out).2.1)
       (case s2 => exact (Kd.S_reads' HO85_1.out).2.2)
       (case s3 => exact (Kd.S_reads' HO85_1.out).2.1)
       (case s4 => exact (Kd.R_reads' HO87_0.out).2.2)
       (case s5 => exact (Kd.R_reads' HO87_0.out).2.1)
       rintro e w90 ⟨v89_0, v89_1, v89_2, rfl, ho0, ho1, ho2, hb⟩
       refine ⟨_, rfl, ?_⟩
       obtain ⟨na89, nb89, ha_, hz_, hab89⟩ := nxt_ hb
       have hn89 : nb87 ≤ na89 := (by rw [ha_]; exact HZ.out)
       replace HOj38_1_0 := am (Kd.S_below HOj38_1_0.out hb)
       replace HOj38_1_1 := am (Kd.S_below HOj38_1_1.out hb)
       replace HOj38_3_0 := am (Kd.R_below HOj38_3_0.out hb)
       replace HOj38_4_0 := am (Kd.T_below HOj38_4_0.out hb)
       replace HOj38_4_1 := am (Kd.S_below HOj38_4_1.out hb)
       replace HOj38_4_2 := am (Kd.R_below HOj38_4_2.out hb)
       replace HO41_0 := am (Kd.S_below HO41_0.out hb)
       replace HO41_1 := am (Kd.S_below HO41_1.out hb)
       replace HO45_0 := am (Kd.R_below HO45_0.out hb)
       replace HO49_0 := am (Kd.T_below HO49_0.out hb)
       replace HO49_1 := am (Kd.T_below HO49_1.out hb)
       replace HO49_2 := am (Kd.R_below HO49_2.out hb)
       replace HO58_0 := am (Kd.S_below HO58_0.out hb)
       replace HO58_1 := am (Kd.S_below HO58_1.out hb)
       replace HO65_0 := am (Kd.R_below HO65_0.out hb)
       replace HO85_0 := am (Kd.S_below HO85_0.out hb)
       replace HO85_1 := am (Kd.S_below HO85_1.out hb)
       replace HO87_0 := am (Kd.R_below HO87_0.out hb)
       replace BKgb1 := am (blk_below BKgb1.out hb)
       replace BKgb3 := am (blk_below BKgb3.out hb)
       replace BKgb39 := am (blk_below BKgb39.out hb)
       replace BKgb43 := am (blk_below BKgb43.out hb)
       replace BKgb47 := am (blk_below BKgb47.out hb)
       replace BKgb51 := am (blk_below BKgb51.out hb)
       have HO89_0 := am (T_rg ha_ hz_ (below_size HB.out) ho0)
       have HO89_1 := am (S_rg ha_ hz_ (below_size HB.out) ho1)
       have HO89_2 := am (R_rg ha_ hz_ (below_size HB.out) ho2)
       replace HB := am (below_step HB.out hb)
       replace HZ := am (Nat.le_of_eq hz_)
       clear hb ha_ hz_ ho0 ho1 ho2
       obtain ⟨Ao89_0, co89_0, eo89_0, _⟩ := Kd.T_slice HO89_0.out
       subst eo89_0
       obtain ⟨Ao89_1, co89_1, eo89_1⟩ := Kd.S_slice HO89_1.out
       subst eo89_1
       obtain ⟨Ao89_2, co89_2, eo89_2⟩ := Kd.R_slice HO89_2.out
       subst eo89_2
       refine hK.out _ _ ⟨bc BKgb1.out 0, bc BKgb1.out 1, bc BKgb3.out 0, bc BKgb3.out 1, bc BKgb3.out 2, bc BKgb39.out 0, bc BKgb39.out 1, bc BKgb39.out 2, bc BKgb39.out 3, bc BKgb39.out 4, bc BKgb39.out 5, bc BKgb43.out 0, bc BKgb43.out 1, bc BKgb47.out 0, bc BKgb47.out 1, bc BKgb47.out 2, bc BKgb51.out 0, bc BKgb51.out 1, bc BKgb51.out 2, bc BKgb51.out 3, bc BKgb51.out 4, bc BKgb51.out 5⟩ (fun hHeld => ?_)
       clear hK K
       refine norm_ (a' := ?_) ?_ ?_
       rotate_left
       ·show Act.put _ (some 79) _ = _; simp only [Act.put, sa_, s0_, ss_, i64_w, i32_w]; rfl
       refine one_ (i := 5) (N := some 13) #[true, true, true, true, true, true, false] rfl rfl (by kernel_rfl) (by decide) (fun K hK => ?_)
       refine box_step ?hg (N := 13) ?hd (cs := #[.slice none 0 0, .slice none 0 0, .slice none 0 0, .int .i64 0, .int .i64 0, .int .i64 0]) (t := 33) ?hr ?_
       (case hd => rfl)
       (case hg => rfl)
       (case hr => first | (go_simp; done) | (go_simp; rfl))
       intro gb91 hg w92 hbox hb
       have GEgb91 : w.heap.size ≤ gb91 := (by rw [hg]; exact below_size HB.out)
       have hn91 : nb89 ≤ gb91 := (by rw [hg]; exact HZ.out)
       have ngb91 : gb91 + 1 ≤ w92.heap.size := blk_lt hbox
       replace HOj38_1_0 := am (Kd.S_below HOj38_1_0.out hb)
       replace HOj38_1_1 := am (Kd.S_below HOj38_1_1.out hb)
       replace HOj38_3_0 := am (Kd.R_below HOj38_3_0.out hb)
       replace HOj38_4_0 := am (Kd.T_below HOj38_4_0.out hb)
       replace HOj38_4_1 := am (Kd.S_below HOj38_4_1.out hb)
       replace HOj38_4_2 := am (Kd.R_below HOj38_4_2.out hb)
       replace HO41_0 := am (Kd.S_below HO41_0.out hb)
       replace HO41_1 := am (Kd.S_below HO41_1.out hb)
       replace HO45_0 := am (Kd.R_below HO45_0.out hb)
       replace HO49_0 := am (Kd.T_below HO49_0.out hb)
       replace HO49_1 := am (Kd.T_below HO49_1.out hb)
       replace HO49_2 := am (Kd.R_below HO49_2.out hb)
       replace HO58_0 := am (Kd.S_below HO58_0.out hb)
       replace HO58_1 := am (Kd.S_below HO58_1.out hb)
       replace HO65_0 := am (Kd.R_below HO65_0.out hb)
       replace HO85_0 := am (Kd.S_below HO85_0.out hb)
       replace HO85_1 := am (Kd.S_below HO85_1.out hb)
       replace HO87_0 := am (Kd.R_below HO87_0.out hb)
       replace HO89_0 := am (Kd.T_below HO89_0.out hb)
       replace HO89_1 := am (Kd.S_below HO89_1.out hb)
       replace HO89_2 := am (Kd.R_below HO89_2.out hb)
       replace BKgb1 := am (blk_below BKgb1.out hb)
       replace BKgb3 := am (blk_below BKgb3.out hb)
       replace BKgb39 := am (blk_below BKgb39.out hb)
       replace BKgb43 := am (blk_below BKgb43.out hb)
       replace BKgb47 := am (blk_below BKgb47.out hb)
       replace BKgb51 := am (blk_below BKgb51.out hb)
       have BKgb91 := am (hbox)
       replace HB := am (below_step HB.out hb)
       replace HZ := am (ngb91)
       clear hb hbox hg ngb91
       refine hK.out _ _ ⟨bc BKgb1.out 0, bc BKgb1.out 1, bc BKgb3.out 0, bc BKgb3.out 1, bc BKgb3.out 2, bc BKgb39.out 0, bc BKgb39.out 1, bc BKgb39.out 2, bc BKgb39.out 3, bc BKgb39.out 4, bc BKgb39.out 5, bc BKgb43.out 0, bc BKgb43.out 1, bc BKgb47.out 0, bc BKgb47.out 1, bc BKgb47.out 2, bc BKgb51.out 0, bc BKgb51.out 1, bc BKgb51.out 2, bc BKgb51.out 3, bc BKgb51.out 4, bc BKgb51.out 5⟩ (fun hHeld => ?_)
       clear hK K
       refine norm_ (a' := ?_) ?_ ?_
       rotate_left
       ·show Act.put _ (some 13) _ = _; simp only [Act.put, sa_, s0_, ss_, i64_w, i32_w]; rfl
       exact norm_ (by first | (simp only [putAll, Act.put, sa_, s0_, ss_]; done) | (simp only [putAll, Act.put, sa_, s0_, ss_]; rfl)) (hJ (.slice Ao85_0 t85_0.length co85_0, .slice Ao85_1 t85_1.length co85_1, .slice Ao87_0 t87_0.length co87_0, .slice Ao89_0 t89_0.length co89_0, .slice Ao89_1 t89_1.length co89_1, .slice Ao89_2 t89_2.length co89_2, gb91, na85, nb85, na87, nb87, na89, nb89, (gb91 + 1)) _ ⟨hHeld, ⟨_, HOj38_1_0.out⟩, ⟨_, HOj38_1_1.out⟩, ⟨_, HOj38_3_0.out⟩, ⟨_, HOj38_4_0.out⟩, ⟨_, HOj38_4_1.out⟩, ⟨_, HOj38_4_2.out⟩, ⟨_, HO41_0.out⟩, ⟨_, HO41_1.out⟩, ⟨_, HO45_0.out⟩, ⟨_, HO49_0.out⟩, ⟨_, HO49_1.out⟩, ⟨_, HO49_2.out⟩, ⟨_, HO58_0.out⟩, ⟨_, HO58_1.out⟩, ⟨_, HO65_0.out⟩, ⟨_, HO85_0.out⟩, ⟨_, HO85_1.out⟩, ⟨_, HO87_0.out⟩, ⟨_, HO89_0.out⟩, ⟨_, HO89_1.out⟩, ⟨_, HO89_2.out⟩, BKgb1.out, BKgb3.out, BKgb39.out, BKgb43.out, BKgb47.out, BKgb51.out, BKgb91.out, HB.out, HZ.out, GEgb91, (by (try dsimp only); omega), (by (try dsimp only); omega), (by (try dsimp only); omega), (by (try dsimp only); omega), (by (try dsimp only); omega)⟩)
      ·skip
       refine box_step ?hg (N := 13) ?hd (cs := #[.slice none 0 0, .slice none 0 0, .slice none 0 0, .int .i64 0, .int .i64 0, .int .i64 0]) (t := 33) ?hr ?_
       (case hd => rfl)
       (case hg => rfl)
       (case hr => first | (go_simp; done) | (go_simp; rfl))
       intro gb93 hg w94 hbox hb
       have GEgb93 : w.heap.size ≤ gb93 := (by rw [hg]; exact below_size HB.out)
       have hn93 : nb87 ≤ gb93 := (by rw [hg]; exact HZ.out)
       have ngb93 : gb93 + 1 ≤ w94.heap.size := blk_lt hbox
       replace HOj38_1_0 := am (Kd.S_below HOj38_1_0.out hb)
       replace HOj38_1_1 := am (Kd.S_below HOj38_1_1.out hb)
       replace HOj38_3_0 := am (Kd.R_below HOj38_3_0.out hb)
       replace HOj38_4_0 := am (Kd.T_below HOj38_4_0.out hb)
       replace HOj38_4_1 := am (Kd.S_below HOj38_4_1.out hb)
       replace HOj38_4_2 := am (Kd.R_below HOj38_4_2.out hb)
       replace HO41_0 := am (Kd.S_below HO41_0.out hb)
       replace HO41_1 := am (Kd.S_below HO41_1.out hb)
       replace HO45_0 := am (Kd.R_below HO45_0.out hb)
       replace HO49_0 := am (Kd.T_below HO49_0.out hb)
       replace HO49_1 := am (Kd.T_below HO49_1.out hb)
       replace HO49_2 := am (Kd.R_below HO49_2.out hb)
       replace HO58_0 := am (Kd.S_below HO58_0.out hb)
       replace HO58_1 := am (Kd.S_below HO58_1.out hb)
       replace HO65_0 := am (Kd.R_below HO65_0.out hb)
       replace HO85_0 := am (Kd.S_below HO85_0.out hb)
       replace HO85_1 := am (Kd.S_below HO85_1.out hb)
       replace HO87_0 := am (Kd.R_below HO87_0.out hb)
       replace BKgb1 := am (blk_below BKgb1.out hb)
       replace BKgb3 := am (blk_below BKgb3.out hb)
       replace BKgb39 := am (blk_below BKgb39.out hb)
       replace BKgb43 := am (blk_below BKgb43.out hb)
       replace BKgb47 := am (blk_below BKgb47.out hb)
       replace BKgb51 := am (blk_below BKgb51.out hb)
       have BKgb93 := am (hbox)
       replace HB := am (below_step HB.out hb)
       replace HZ := am (ngb93)
       clear hb hbox hg ngb93
       refine hK.out _ _ ⟨bc BKgb1.out 0, bc BKgb1.out 1, bc BKgb3.out 0, bc BKgb3.out 1, bc BKgb3.out 2, bc BKgb39.out 0, bc BKgb39.out 1, bc BKgb39.out 2, bc BKgb39.out 3, bc BKgb39.out 4, bc BKgb39.out 5, bc BKgb43.out 0, bc BKgb43.out 1, bc BKgb47.out 0, bc BKgb47.out 1, bc BKgb47.out 2, bc BKgb51.out 0, bc BKgb51.out 1, bc BKgb51.out 2, bc BKgb51.out 3, bc BKgb51.out 4, bc BKgb51.out 5⟩ (fun hHeld => ?_)
       clear hK K
       refine norm_ (a' := ?_) ?_ ?_
       rotate_left
       ·show Act.put _ (some 13) _ = _; simp only [Act.put, sa_, s0_, ss_, i64_w, i32_w]; rfl
       refine one_ (i := 4) (N := some 79) #[true, true, true, true, true, true, false] rfl rfl (by kernel_rfl) (by decide) (fun K hK => ?_)
       refine gs_ Try.func27 #[.agg #[.slice Ao85_0 t85_0.length co85_0, .slice Ao85_1 t85_1.length co85_1], .agg #[.slice Ao87_0 t87_0.length co87_0, .int .i64 t87_1, .int .i64 t87_2]] ?_
       (with_reducible refine (impl_UndoForth.calls k _ _ t85_0 _ _ t85_1 _ _ t87_0 t87_1 t87_2 t89_0 t89_1 t89_2 t89_3 t89_4 t89_5 _ ?s0 ?s1 ?s2 ?s3 ?s4 ?s5 A89.out).mono ?_)
       (case s0 => exact (Kd.S_reads' HO85_0.out).2.2)
       (case s1 => exact (Kd.S_reads' HO85_0.out).2.1)
       (case s2 => exact (Kd.S_reads' HO85_1.out).2.2)
       (case s3 => exact (Kd.S_reads' HO85_1.out).2.1)
       (case s4 => exact (Kd.R_reads' HO87_0.out).2.2)
       (case s5 => exact (Kd.R_reads' HO87_0.out).2.1)
       rintro e w96 ⟨v95_0, v95_1, v95_2, rfl, ho0, ho1, ho2, hb⟩
       refine ⟨_, rfl, ?_⟩
       obtain ⟨na95, nb95, ha_, hz_, hab95⟩ := nxt_ hb
       have hn95 : (gb93 + 1) ≤ na95 := (by rw [ha_]; exact HZ.out)
       replace HOj38_1_0 := am (Kd.S_below HOj38_1_0.out hb)
       replace HOj38_1_1 := am (Kd.S_below HOj38_1_1.out hb)
       replace HOj38_3_0 := am (Kd.R_below HOj38_3_0.out hb)
       replace HOj38_4_0 := am (Kd.T_below HOj38_4_0.out hb)
       replace HOj38_4_1 := am (Kd.S_below HOj38_4_1.out hb)
       replace HOj38_4_2 := am (Kd.R_below HOj38_4_2.out hb)
       replace HO41_0 := am (Kd.S_below HO41_0.out hb)
       replace HO41_1 := am (Kd.S_below HO41_1.out hb)
       replace HO45_0 := am (Kd.R_below HO45_0.out hb)
       replace HO49_0 := am (Kd.T_below HO49_0.out hb)
       replace HO49_1 := am (Kd.T_below HO49_1.out hb)
       replace HO49_2 := am (Kd.R_below HO49_2.out hb)
       replace HO58_0 := am (Kd.S_below HO58_0.out hb)
       replace HO58_1 := am (Kd.S_below HO58_1.out hb)
       replace HO65_0 := am (Kd.R_below HO65_0.out hb)
       replace HO85_0 := am (Kd.S_below HO85_0.out hb)
       replace HO85_1 := am (Kd.S_below HO85_1.out hb)
       replace HO87_0 := am (Kd.R_below HO87_0.out hb)
       replace BKgb1 := am (blk_below BKgb1.out hb)
       replace BKgb3 := am (blk_below BKgb3.out hb)
       replace BKgb39 := am (blk_below BKgb39.out hb)
       replace BKgb43 := am (blk_below BKgb43.out hb)
       replace BKgb47 := am (blk_below BKgb47.out hb)
       replace BKgb51 := am (blk_below BKgb51.out hb)
       replace BKgb93 := am (blk_below BKgb93.out hb)
       have HO95_0 := am (T_rg ha_ hz_ (below_size HB.out) ho0)
       have HO95_1 := am (S_rg ha_ hz_ (below_size HB.out) ho1)
       have HO95_2 := am (R_rg ha_ hz_ (below_size HB.out) ho2)
       replace HB := am (below_step HB.out hb)
       replace HZ := am (Nat.le_of_eq hz_)
       clear hb ha_ hz_ ho0 ho1 ho2
       obtain ⟨Ao95_0, co95_0, eo95_0, _⟩ := Kd.T_slice HO95_0.out
       subst eo95_0
       obtain ⟨Ao95_1, co95_1, eo95_1⟩ := Kd.S_slice HO95_1.out
       subst eo95_1
       obtain ⟨Ao95_2, co95_2, eo95_2⟩ := Kd.R_slice HO95_2.out
       subst eo95_2
       refine hK.out _ _ ⟨bc BKgb1.out 0, bc BKgb1.out 1, bc BKgb3.out 0, bc BKgb3.out 1, bc BKgb3.out 2, bc BKgb39.out 0, bc BKgb39.out 1, bc BKgb39.out 2, bc BKgb39.out 3, bc BKgb39.out 4, bc BKgb39.out 5, bc BKgb43.out 0, bc BKgb43.out 1, bc BKgb47.out 0, bc BKgb47.out 1, bc BKgb47.out 2, bc BKgb51.out 0, bc BKgb51.out 1, bc BKgb51.out 2, bc BKgb51.out 3, bc BKgb51.out 4, bc BKgb51.out 5⟩ (fun hHeld => ?_)
       clear hK K
       refine norm_ (a' := ?_) ?_ ?_
       rotate_left
       ·show Act.put _ (some 79) _ = _; simp only [Act.put, sa_, s0_, ss_, i64_w, i32_w]; rfl
       exact norm_ (by first | (simp only [putAll, Act.put, sa_, s0_, ss_]; done) | (simp only [putAll, Act.put, sa_, s0_, ss_]; rfl)) (hJ (.slice Ao85_0 t85_0.length co85_0, .slice Ao85_1 t85_1.length co85_1, .slice Ao87_0 t87_0.length co87_0, .slice Ao95_0 t89_0.length co95_0, .slice Ao95_1 t89_1.length co95_1, .slice Ao95_2 t89_2.length co95_2, gb93, na85, nb85, na87, nb87, na95, nb95, nb95) _ ⟨hHeld, ⟨_, HOj38_1_0.out⟩, ⟨_, HOj38_1_1.out⟩, ⟨_, HOj38_3_0.out⟩, ⟨_, HOj38_4_0.out⟩, ⟨_, HOj38_4_1.out⟩, ⟨_, HOj38_4_2.out⟩, ⟨_, HO41_0.out⟩, ⟨_, HO41_1.out⟩, ⟨_, HO45_0.out⟩, ⟨_, HO49_0.out⟩, ⟨_, HO49_1.out⟩, ⟨_, HO49_2.out⟩, ⟨_, HO58_0.out⟩, ⟨_, HO58_1.out⟩, ⟨_, HO65_0.out⟩, ⟨_, HO85_0.out⟩, ⟨_, HO85_1.out⟩, ⟨_, HO87_0.out⟩, ⟨_, HO95_0.out⟩, ⟨_, HO95_1.out⟩, ⟨_, HO95_2.out⟩, BKgb1.out, BKgb3.out, BKgb39.out, BKgb43.out, BKgb47.out, BKgb51.out, BKgb93.out, HB.out, HZ.out, GEgb93, (by (try dsimp only); omega), (by (try dsimp only); omega), (by (try dsimp only); omega), (by (try dsimp only); omega), (by (try dsimp only); omega)⟩)
     ·skip
      refine box_step ?hg (N := 13) ?hd (cs := #[.slice none 0 0, .slice none 0 0, .slice none 0 0, .int .i64 0, .int .i64 0, .int .i64 0]) (t := 33) ?hr ?_
      (case hd => rfl)
      (case hg => rfl)
      (case hr => first | (go_simp; done) | (go_simp; rfl))
      intro gb97 hg w98 hbox hb
      have GEgb97 : w.heap.size ≤ gb97 := (by rw [hg]; exact below_size HB.out)
      have hn97 : nb85 ≤ gb97 := (by rw [hg]; exact HZ.out)
      have ngb97 : gb97 + 1 ≤ w98.heap.size := blk_lt hbox
      replace HOj38_1_0 := am (Kd.S_below HOj38_1_0.out hb)
      replace HOj38_1_1 := am (Kd.S_below HOj38_1_1.out hb)
      replace HOj38_3_0 := am (Kd.R_below HOj38_3_0.out hb)
      replace HOj38_4_0 := am (Kd.T_below HOj38_4_0.out hb)
      replace HOj38_4_1 := am (Kd.S_below HOj38_4_1.out hb)
      replace HOj38_4_2 := am (Kd.R_below HOj38_4_2.out hb)
      replace HO41_0 := am (Kd.S_below HO41_0.out hb)
      replace HO41_1 := am (Kd.S_below HO41_1.out hb)
      replace HO45_0 := am (Kd.R_below HO45_0.out hb)
      replace HO49_0 := am (Kd.T_below HO49_0.out hb)
      replace HO49_1 := am (Kd.T_below HO49_1.out hb)
      replace HO49_2 := am (Kd.R_below HO49_2.out hb)
      replace HO58_0 := am (Kd.S_below HO58_0.out hb)
      replace HO58_1 := am (Kd.S_below HO58_1.out hb)
      replace HO65_0 := am (Kd.R_below HO65_0.out hb)
      replace HO85_0 := am (Kd.S_below HO85_0.out hb)
      replace HO85_1 := am (Kd.S_below HO85_1.out hb)
      replace BKgb1 := am (blk_below BKgb1.out hb)
      replace BKgb3 := am (blk_below BKgb3.out hb)
      replace BKgb39 := am (blk_below BKgb39.out hb)
      replace BKgb43 := am (blk_below BKgb43.out hb)
      replace BKgb47 := am (blk_below BKgb47.out hb)
      replace BKgb51 := am (blk_below BKgb51.out hb)
      have BKgb97 := am (hbox)
      replace HB := am (below_step HB.out hb)
      replace HZ := am (ngb97)
      clear hb hbox hg ngb97
      refine hK.out _ _ ⟨bc BKgb1.out 0, bc BKgb1.out 1, bc BKgb3.out 0, bc BKgb3.out 1, bc BKgb3.out 2, bc BKgb39.out 0, bc BKgb39.out 1, bc BKgb39.out 2, bc BKgb39.out 3, bc BKgb39.out 4, bc BKgb39.out 5, bc BKgb43.out 0, bc BKgb43.out 1, bc BKgb47.out 0, bc BKgb47.out 1, bc BKgb47.out 2, bc BKgb51.out 0, bc BKgb51.out 1, bc BKgb51.out 2, bc BKgb51.out 3, bc BKgb51.out 4, bc BKgb51.out 5⟩ (fun hHeld => ?_)
      clear hK K
      refine norm_ (a' := ?_) ?_ ?_
      rotate_left
      ·show Act.put _ (some 13) _ = _; simp only [Act.put, sa_, s0_, ss_, i64_w, i32_w]; rfl
      refine one_ (i := 3) (N := some 78) #[true, true, true, true, false, true, false] rfl rfl (by kernel_rfl) (by decide) (fun K hK => ?_)
      refine gs_ Try.func9 #[.agg #[.slice A1_0 l1_0.length c1_0, .int .i64 a1_1, .int .i64 a1_2]] ?_
      (with_reducible refine (laws_toBuf.calls k _ _ l1_0 a1_1 a1_2 t87_0 t87_1 t87_2 _ ?s0 ?s1 A87.out).mono ?_)
      (case s0 => exact (Kd.C_below HR1_0.out HB.out))
      (case s1 => exact HC1_0.out)
      rintro e w100 ⟨v99_0, rfl, ho0, hb⟩
      refine ⟨_, rfl, ?_⟩
      obtain ⟨na99, nb99, ha_, hz_, hab99⟩ := nxt_ hb
      have hn99 : (gb97 + 1) ≤ na99 := (by rw [ha_]; exact HZ.out)
      replace HOj38_1_0 := am (Kd.S_below HOj38_1_0.out hb)
      replace HOj38_1_1 := am (Kd.S_below HOj38_1_1.out hb)
      replace HOj38_3_0 := am (Kd.R_below HOj38_3_0.out hb)
      replace HOj38_4_0 := am (Kd.T_below HOj38_4_0.out hb)
      replace HOj38_4_1 := am (Kd.S_below HOj38_4_1.out hb)
      replace HOj38_4_2 := am (Kd.R_below HOj38_4_2.out hb)
      replace HO41_0 := am (Kd.S_below HO41_0.out hb)
      replace HO41_1 := am (Kd.S_below HO41_1.out hb)
      replace HO45_0 := am (Kd.R_below HO45_0.out hb)
      replace HO49_0 := am (Kd.T_below HO49_0.out hb)
      replace HO49_1 := am (Kd.T_below HO49_1.out hb)
      replace HO49_2 := am (Kd.R_below HO49_2.out hb)
      replace HO58_0 := am (Kd.S_below HO58_0.out hb)
      replace HO58_1 := am (Kd.S_below HO58_1.out hb)
      replace HO65_0 := am (Kd.R_below HO65_0.out hb)
      replace HO85_0 := am (Kd.S_below HO85_0.out hb)
      replace HO85_1 := am (Kd.S_below HO85_1.out hb)
      replace BKgb1 := am (blk_below BKgb1.out hb)
      replace BKgb3 := am (blk_below BKgb3.out hb)
      replace BKgb39 := am (blk_below BKgb39.out hb)
      replace BKgb43 := am (blk_below BKgb43.out hb)
      replace BKgb47 := am (blk_below BKgb47.out hb)
      replace BKgb51 := am (blk_below BKgb51.out hb)
      replace BKgb97 := am (blk_below BKgb97.out hb)
      have HO99_0 := am (R_rg ha_ hz_ (below_size HB.out) ho0)
      replace HB := am (below_step HB.out hb)
      replace HZ := am (Nat.le_of_eq hz_)
      clear hb ha_ hz_ ho0
      obtain ⟨Ao99_0, co99_0, eo99_0⟩ := Kd.R_slice HO99_0.out
      subst eo99_0
      refine hK.out _ _ ⟨bc BKgb1.out 0, bc BKgb1.out 1, bc BKgb3.out 0, bc BKgb3.out 1, bc BKgb3.out 2, bc BKgb39.out 0, bc BKgb39.out 1, bc BKgb39.out 2, bc BKgb39.out 3, bc BKgb39.out 4, bc BKgb39.out 5, bc BKgb43.out 0, bc BKgb43.out 1, bc BKgb47.out 0, bc BKgb47.out 1, bc BKgb47.out 2, bc BKgb51.out 0, bc BKgb51.out 1, bc BKgb51.out 2, bc BKgb51.out 3, bc BKgb51.out 4, bc BKgb51.out 5⟩ (fun hHeld => ?_)
      clear hK K
      refine norm_ (a' := ?_) ?_ ?_
      rotate_left
      ·show Act.put _ (some 78) _ = _; simp only [Act.put, sa_, s0_, ss_, i64_w, i32_w]; rfl
      refine one_ (i := 4) (N := some 79) #[true, true, true, true, true, true, false] rfl rfl (by kernel_rfl) (by decide) (fun K hK => ?_)
      refine gs_ Try.func27 #[.agg #[.slice Ao85_0 t85_0.length co85_0, .slice Ao85_1 t85_1.length co85_1], .agg #[.slice Ao99_0 t87_0.length co99_0, .int .i64 t87_1, .int .i64 t87_2]] ?_
      (with_reducible refine (impl_UndoForth.calls k _ _ t85_0 _ _ t85_1 _ _ t87_0 t87_1 t87_2 t89_0 t89_1 t89_2 t89_3 t89_4 t89_5 _ ?s0 ?s1 ?s2 ?s3 ?s4 ?s5 A89.out).mono ?_)
      (case s0 => exact (Kd.S_reads' HO85_0.out).2.2)
      (case s1 => exact (Kd.S_reads' HO85_0.out).2.1)
      (case s2 => exact (Kd.S_reads' HO85_1.out).2.2)
      (case s3 => exact (Kd.S_reads' HO85_1.out).2.1)
      (case s4 => exact (Kd.R_reads' HO99_0.out).2.2)
      (case s5 => exact (Kd.R_reads' HO99_0.out).2.1)
      rintro e w102 ⟨v101_0, v101_1, v101_2, rfl, ho0, ho1, ho2, hb⟩
      refine ⟨_, rfl, ?_⟩
      obtain ⟨na101, nb101, ha_, hz_, hab101⟩ := nxt_ hb
      have hn101 : nb99 ≤ na101 := (by rw [ha_]; exact HZ.out)
      replace HOj38_1_0 := am (Kd.S_below HOj38_1_0.out hb)
      replace HOj38_1_1 := am (Kd.S_below HOj38_1_1.out hb)
      replace HOj38_3_0 := am (Kd.R_below HOj38_3_0.out hb)
      replace HOj38_4_0 := am (Kd.T_below HOj38_4_0.out hb)
      replace HOj38_4_1 := am (Kd.S_below HOj38_4_1.out hb)
      replace HOj38_4_2 := am (Kd.R_below HOj38_4_2.out hb)
      replace HO41_0 := am (Kd.S_below HO41_0.out hb)
      replace HO41_1 := am (Kd.S_below HO41_1.out hb)
      replace HO45_0 := am (Kd.R_below HO45_0.out hb)
      replace HO49_0 := am (Kd.T_below HO49_0.out hb)
      replace HO49_1 := am (Kd.T_below HO49_1.out hb)
      replace HO49_2 := am (Kd.R_below HO49_2.out hb)
      replace HO58_0 := am (Kd.S_below HO58_0.out hb)
      replace HO58_1 := am (Kd.S_below HO58_1.out hb)
      replace HO65_0 := am (Kd.R_below HO65_0.out hb)
      replace HO85_0 := am (Kd.S_below HO85_0.out hb)
      replace HO85_1 := am (Kd.S_below HO85_1.out hb)
      replace HO99_0 := am (Kd.R_below HO99_0.out hb)
      replace BKgb1 := am (blk_below BKgb1.out hb)
      replace BKgb3 := am (blk_below BKgb3.out hb)
      replace BKgb39 := am (blk_below BKgb39.out hb)
      replace BKgb43 := am (blk_below BKgb43.out hb)
      replace BKgb47 := am (blk_below BKgb47.out hb)
      replace BKgb51 := am (blk_below BKgb51.out hb)
      replace BKgb97 := am (blk_below BKgb97.out hb)
      have HO101_0 := am (T_rg ha_ hz_ (below_size HB.out) ho0)
      have HO101_1 := am (S_rg ha_ hz_ (below_size HB.out) ho1)
      have HO101_2 := am (R_rg ha_ hz_ (below_size HB.out) ho2)
      replace HB := am (below_step HB.out hb)
      replace HZ := am (Nat.le_of_eq hz_)
      clear hb ha_ hz_ ho0 ho1 ho2
      obtain ⟨Ao101_0, co101_0, eo101_0, _⟩ := Kd.T_slice HO101_0.out
      subst eo101_0
      obtain ⟨Ao101_1, co101_1, eo101_1⟩ := Kd.S_slice HO101_1.out
      subst eo101_1
      obtain ⟨Ao101_2, co101_2, eo101_2⟩ := Kd.R_slice HO101_2.out
      subst eo101_2
      refine hK.out _ _ ⟨bc BKgb1.out 0, bc BKgb1.out 1, bc BKgb3.out 0, bc BKgb3.out 1, bc BKgb3.out 2, bc BKgb39.out 0, bc BKgb39.out 1, bc BKgb39.out 2, bc BKgb39.out 3, bc BKgb39.out 4, bc BKgb39.out 5, bc BKgb43.out 0, bc BKgb43.out 1, bc BKgb47.out 0, bc BKgb47.out 1, bc BKgb47.out 2, bc BKgb51.out 0, bc BKgb51.out 1, bc BKgb51.out 2, bc BKgb51.out 3, bc BKgb51.out 4, bc BKgb51.out 5⟩ (fun hHeld => ?_)
      clear hK K
      refine norm_ (a' := ?_) ?_ ?_
      rotate_left
      ·show Act.put _ (some 79) _ = _; simp only [Act.put, sa_, s0_, ss_, i64_w, i32_w]; rfl
      exact norm_ (by first | (simp only [putAll, Act.put, sa_, s0_, ss_]; done) | (simp only [putAll, Act.put, sa_, s0_, ss_]; rfl)) (hJ (.slice Ao85_0 t85_0.length co85_0, .slice Ao85_1 t85_1.length co85_1, .slice Ao99_0 t87_0.length co99_0, .slice Ao101_0 t89_0.length co101_0, .slice Ao101_1 t89_1.length co101_1, .slice Ao101_2 t89_2.length co101_2, gb97, na85, nb85, na99, nb99, na101, nb101, nb101) _ ⟨hHeld, ⟨_, HOj38_1_0.out⟩, ⟨_, HOj38_1_1.out⟩, ⟨_, HOj38_3_0.out⟩, ⟨_, HOj38_4_0.out⟩, ⟨_, HOj38_4_1.out⟩, ⟨_, HOj38_4_2.out⟩, ⟨_, HO41_0.out⟩, ⟨_, HO41_1.out⟩, ⟨_, HO45_0.out⟩, ⟨_, HO49_0.out⟩, ⟨_, HO49_1.out⟩, ⟨_, HO49_2.out⟩, ⟨_, HO58_0.out⟩, ⟨_, HO58_1.out⟩, ⟨_, HO65_0.out⟩, ⟨_, HO85_0.out⟩, ⟨_, HO85_1.out⟩, ⟨_, HO99_0.out⟩, ⟨_, HO101_0.out⟩, ⟨_, HO101_1.out⟩, ⟨_, HO101_2.out⟩, BKgb1.out, BKgb3.out, BKgb39.out, BKgb43.out, BKgb47.out, BKgb51.out, BKgb97.out, HB.out, HZ.out, GEgb97, (by (try dsimp only); omega), (by (try dsimp only); omega), (by (try dsimp only); omega), (by (try dsimp only); omega), (by (try dsimp only); omega)⟩)
    ·skip
     refine box_step ?hg (N := 13) ?hd (cs := #[.slice none 0 0, .slice none 0 0, .slice none 0 0, .int .i64 0, .int .i64 0, .int .i64 0]) (t := 33) ?hr ?_
     (case hd => rfl)
     (case hg => rfl)
     (case hr => first | (go_simp; done) | (go_simp; rfl))
     intro gb103 hg w104 hbox hb
     have GEgb103 : w.heap.size ≤ gb103 := (by rw [hg]; exact below_size HB.out)
     have hn103 : nb80 ≤ gb103 := (by rw [hg]; exact HZ.out)
     have ngb103 : gb103 + 1 ≤ w104.heap.size := blk_lt hbox
     replace HOj38_1_0 := am (Kd.S_below HOj38_1_0.out hb)
     replace HOj38_1_1 := am (Kd.S_below HOj38_1_1.out hb)
     replace HOj38_3_0 := am (Kd.R_below HOj38_3_0.out hb)
     replace HOj38_4_0 := am (Kd.T_below HOj38_4_0.out hb)
     replace HOj38_4_1 := am (Kd.S_below HOj38_4_1.out hb)
     replace HOj38_4_2 := am (Kd.R_below HOj38_4_2.out hb)
     replace HO41_0 := am (Kd.S_below HO41_0.out hb)
     replace HO41_1 := am (Kd.S_below HO41_1.out hb)
     replace HO45_0 := am (Kd.R_below HO45_0.out hb)
     replace HO49_0 := am (Kd.T_below HO49_0.out hb)
     replace HO49_1 := am (Kd.T_below HO49_1.out hb)
     replace HO49_2 := am (Kd.R_below HO49_2.out hb)
     replace HO58_0 := am (Kd.S_below HO58_0.out hb)
     replace HO58_1 := am (Kd.S_below HO58_1.out hb)
     replace HO65_0 := am (Kd.R_below HO65_0.out hb)
     replace BKgb1 := am (blk_below BKgb1.out hb)
     replace BKgb3 := am (blk_below BKgb3.out hb)
     replace BKgb39 := am (blk_below BKgb39.out hb)
     replace BKgb43 := am (blk_below BKgb43.out hb)
     replace BKgb47 := am (blk_below BKgb47.out hb)
     replace BKgb51 := am (blk_below BKgb51.out hb)
     have BKgb103 := am (hbox)
     replace HB := am (below_step HB.out hb)
     replace HZ := am (ngb103)
     clear hb hbox hg ngb103
     refine hK.out _ _ ⟨bc BKgb1.out 0, bc BKgb1.out 1, bc BKgb3.out 0, bc BKgb3.out 1, bc BKgb3.out 2, bc BKgb39.out 0, bc BKgb39.out 1, bc BKgb39.out 2, bc BKgb39.out 3, bc BKgb39.out 4, bc BKgb39.out 5, bc BKgb43.out 0, bc BKgb43.out 1, bc BKgb47.out 0, bc BKgb47.out 1, bc BKgb47.out 2, bc BKgb51.out 0, bc BKgb51.out 1, bc BKgb51.out 2, bc BKgb51.out 3, bc BKgb51.out 4, bc BKgb51.out 5⟩ (fun hHeld => ?_)
     clear hK K
     refine norm_ (a' := ?_) ?_ ?_
     rotate_left
     ·show Act.put _ (some 13) _ = _; simp only [Act.put, sa_, s0_, ss_, i64_w, i32_w]; rfl
     refine one_ (i := 1) (N := some 76) #[true, true, true, false, false, true, false] rfl rfl (by kernel_rfl) (by decide) (fun K hK => ?_)
     refine gs_ Try.func21 #[.agg #[.slice A0_0 l0_0.length c0_0, .slice A0_1 l0_1.length c0_1]] ?_
     (with_reducible refine (laws_toUndo.calls k _ _ l0_0 _ _ l0_1 t85_0 t85_1 _ ?s0 ?s1 ?s2 ?s3 A85.out).mono ?_)
     (case s0 => exact (Kd.C_below HR0_0.out HB.out))
     (case s1 => exact HC0_0.out)
     (case s2 => exact (Kd.C_below HR0_1.out HB.out))
     (case s3 => exact HC0_1.out)
     rintro e w106 ⟨v105_0, v105_1, rfl, ho0, ho1, hb⟩
     refine ⟨_, rfl, ?_⟩
     obtain ⟨na105, nb105, ha_, hz_, hab105⟩ := nxt_ hb
     have hn105 : (gb103 + 1) ≤ na105 := (by rw [ha_]; exact HZ.out)
     replace HOj38_1_0 := am (Kd.S_below HOj38_1_0.out hb)
     replace HOj38_1_1 := am (Kd.S_below HOj38_1_1.out hb)
     replace HOj38_3_0 := am (Kd.R_below HOj38_3_0.out hb)
     replace HOj38_4_0 := am (Kd.T_below HOj38_4_0.out hb)
     replace HOj38_4_1 := am (Kd.S_below HOj38_4_1.out hb)
     replace HOj38_4_2 := am (Kd.R_below HOj38_4_2.out hb)
     replace HO41_0 := am (Kd.S_below HO41_0.out hb)
     replace HO41_1 := am (Kd.S_below HO41_1.out hb)
     replace HO45_0 := am (Kd.R_below HO45_0.out hb)
     replace HO49_0 := am (Kd.T_below HO49_0.out hb)
     replace HO49_1 := am (Kd.T_below HO49_1.out hb)
     replace HO49_2 := am (Kd.R_below HO49_2.out hb)
     replace HO58_0 := am (Kd.S_below HO58_0.out hb)
     replace HO58_1 := am (Kd.S_below HO58_1.out hb)
     replace HO65_0 := am (Kd.R_below HO65_0.out hb)
     replace BKgb1 := am (blk_below BKgb1.out hb)
     replace BKgb3 := am (blk_below BKgb3.out hb)
     replace BKgb39 := am (blk_below BKgb39.out hb)
     replace BKgb43 := am (blk_below BKgb43.out hb)
     replace BKgb47 := am (blk_below BKgb47.out hb)
     replace BKgb51 := am (blk_below BKgb51.out hb)
     replace BKgb103 := am (blk_below BKgb103.out hb)
     have HO105_0 := am (S_rg ha_ hz_ (below_size HB.out) ho0)
     have HO105_1 := am (S_rg ha_ hz_ (below_size HB.out) ho1)
     replace HB := am (below_step HB.out hb)
     replace HZ := am (Nat.le_of_eq hz_)
     clear hb ha_ hz_ ho0 ho1
     obtain ⟨Ao105_0, co105_0, eo105_0⟩ := Kd.S_slice HO105_0.out
     subst eo105_0
     obtain ⟨Ao105_1, co105_1, eo105_1⟩ := Kd.S_slice HO105_1.out
     subst eo105_1
     refine hK.out _ _ ⟨bc BKgb1.out 0, bc BKgb1.out 1, bc BKgb3.out 0, bc BKgb3.out 1, bc BKgb3.out 2, bc BKgb39.out 0, bc BKgb39.out 1, bc BKgb39.out 2, bc BKgb39.out 3, bc BKgb39.out 4, bc BKgb39.out 5, bc BKgb43.out 0, bc BKgb43.out 1, bc BKgb47.out 0, bc BKgb47.out 1, bc BKgb47.out 2, bc BKgb51.out 0, bc BKgb51.out 1, bc BKgb51.out 2, bc BKgb51.out 3, bc BKgb51.out 4, bc BKgb51.out 5⟩ (fun hHeld => ?_)
     clear hK K
     refine norm_ (a' := ?_) ?_ ?_
     rotate_left
     ·show Act.put _ (some 76) _ = _; simp only [Act.put, sa_, s0_, ss_, i64_w, i32_w]; rfl
     refine one_ (i := 3) (N := some 78) #[true, true, true, true, false, true, false] rfl rfl (by kernel_rfl) (by decide) (fun K hK => ?_)
     refine gs_ Try.func9 #[.agg #[.slice A1_0 l1_0.length c1_0, .int .i64 a1_1, .int .i64 a1_2]] ?_
     (with_reducible refine (laws_toBuf.calls k _ _ l1_0 a1_1 a1_2 t87_0 t87_1 t87_2 _ ?s0 ?s1 A87.out).mono ?_)
     (case s0 => exact (Kd.C_below HR1_0.out HB.out))
     (case s1 => exact HC1_0.out)
     rintro e w108 ⟨v107_0, rfl, ho0, hb⟩
     refine ⟨_, rfl, ?_⟩
     obtain ⟨na107, nb107, ha_, hz_, hab107⟩ := nxt_ hb
     have hn107 : nb105 ≤ na107 := (by rw [ha_]; exact HZ.out)
     replace HOj38_1_0 := am (Kd.S_below HOj38_1_0.out hb)
     replace HOj38_1_1 := am (Kd.S_below HOj38_1_1.out hb)
     replace HOj38_3_0 := am (Kd.R_below HOj38_3_0.out hb)
     replace HOj38_4_0 := am (Kd.T_below HOj38_4_0.out hb)
     replace HOj38_4_1 := am (Kd.S_below HOj38_4_1.out hb)
     replace HOj38_4_2 := am (Kd.R_below HOj38_4_2.out hb)
     replace HO41_0 := am (Kd.S_below HO41_0.out hb)
     replace HO41_1 := am (Kd.S_below HO41_1.out hb)
     replace HO45_0 := am (Kd.R_below HO45_0.out hb)
     replace HO49_0 := am (Kd.T_below HO49_0.out hb)
     replace HO49_1 := am (Kd.T_below HO49_1.out hb)
     replace HO49_2 := am (Kd.R_below HO49_2.out hb)
     replace HO58_0 := am (Kd.S_below HO58_0.out hb)
     replace HO58_1 := am (Kd.S_below HO58_1.out hb)
     replace HO65_0 := am (Kd.R_below HO65_0.out hb)
     replace HO105_0 := am (Kd.S_below HO105_0.out hb)
     replace HO105_1 := am (Kd.S_below HO105_1.out hb)
     replace BKgb1 := am (blk_below BKgb1.out hb)
     replace BKgb3 := am (blk_below BKgb3.out hb)
     replace BKgb39 := am (blk_below BKgb39.out hb)
     replace BKgb43 := am (blk_below BKgb43.out hb)
     replace BKgb47 := am (blk_below BKgb47.out hb)
     replace BKgb51 := am (blk_below BKgb51.out hb)
     replace BKgb103 := am (blk_below BKgb103.out hb)
     have HO107_0 := am (R_rg ha_ hz_ (below_size HB.out) ho0)
     replace HB := am (below_step HB.out hb)
     replace HZ := am (Nat.le_of_eq hz_)
     clear hb ha_ hz_ ho0
     obtain ⟨Ao107_0, co107_0, eo107_0⟩ := Kd.R_slice HO107_0.out
     subst eo107_0
     refine hK.out _ _ ⟨bc BKgb1.out 0, bc BKgb1.out 1, bc BKgb3.out 0, bc BKgb3.out 1, bc BKgb3.out 2, bc BKgb39.out 0, bc BKgb39.out 1, bc BKgb39.out 2, bc BKgb39.out 3, bc BKgb39.out 4, bc BKgb39.out 5, bc BKgb43.out 0, bc BKgb43.out 1, bc BKgb47.out 0, bc BKgb47.out 1, bc BKgb47.out 2, bc BKgb51.out 0, bc BKgb51.out 1, bc BKgb51.out 2, bc BKgb51.out 3, bc BKgb51.out 4, bc BKgb51.out 5⟩ (fun hHeld => ?_)
     clear hK K
     refine norm_ (a' := ?_) ?_ ?_
     rotate_left
     ·show Act.put _ (some 78) _ = _; simp only [Act.put, sa_, s0_, ss_, i64_w, i32_w]; rfl
     refine one_ (i := 4) (N := some 79) #[true, true, true, true, true, true, false] rfl rfl (by kernel_rfl) (by decide) (fun K hK => ?_)
     refine gs_ Try.func27 #[.agg #[.slice Ao105_0 t85_0.length co105_0, .slice Ao105_1 t85_1.length co105_1], .agg #[.slice Ao107_0 t87_0.length co107_0, .int .i64 t87_1, .int .i64 t87_2]] ?_
     (with_reducible refine (impl_UndoForth.calls k _ _ t85_0 _ _ t85_1 _ _ t87_0 t87_1 t87_2 t89_0 t89_1 t89_2 t89_3 t89_4 t89_5 _ ?s0 ?s1 ?s2 ?s3 ?s4 ?s5 A89.out).mono ?_)
     (case s0 => exact (Kd.S_reads' HO105_0.out).2.2)
     (case s1 => exact (Kd.S_reads' HO105_0.out).2.1)
     (case s2 => exact (Kd.S_reads' HO105_1.out).2.2)
     (case s3 => exact (Kd.S_reads' HO105_1.out).2.1)
     (case s4 => exact (Kd.R_reads' HO107_0.out).2.2)
     (case s5 => exact (Kd.R_reads' HO107_0.out).2.1)
     rintro e w110 ⟨v109_0, v109_1, v109_2, rfl, ho0, ho1, ho2, hb⟩
     refine ⟨_, rfl, ?_⟩
     obtain ⟨na109, nb109, ha_, hz_, hab109⟩ := nxt_ hb
     have hn109 : nb107 ≤ na109 := (by rw [ha_]; exact HZ.out)
     replace HOj38_1_0 := am (Kd.S_below HOj38_1_0.out hb)
     replace HOj38_1_1 := am (Kd.S_below HOj38_1_1.out hb)
     replace HOj38_3_0 := am (Kd.R_below HOj38_3_0.out hb)
     replace HOj38_4_0 := am (Kd.T_below HOj38_4_0.out hb)
     replace HOj38_4_1 := am (Kd.S_below HOj38_4_1.out hb)
     replace HOj38_4_2 := am (Kd.R_below HOj38_4_2.out hb)
     replace HO41_0 := am (Kd.S_below HO41_0.out hb)
     replace HO41_1 := am (Kd.S_below HO41_1.out hb)
     replace HO45_0 := am (Kd.R_below HO45_0.out hb)
     replace HO49_0 := am (Kd.T_below HO49_0.out hb)
     replace HO49_1 := am (Kd.T_below HO49_1.out hb)
     replace HO49_2 := am (Kd.R_below HO49_2.out hb)
     replace HO58_0 := am (Kd.S_below HO58_0.out hb)
     replace HO58_1 := am (Kd.S_below HO58_1.out hb)
     replace HO65_0 := am (Kd.R_below HO65_0.out hb)
     replace HO105_0 := am (Kd.S_below HO105_0.out hb)
     replace HO105_1 := am (Kd.S_below HO105_1.out hb)
     replace HO107_0 := am (Kd.R_below HO107_0.out hb)
     replace BKgb1 := am (blk_below BKgb1.out hb)
     replace BKgb3 := am (blk_below BKgb3.out hb)
     replace BKgb39 := am (blk_below BKgb39.out hb)
     replace BKgb43 := am (blk_below BKgb43.out hb)
     replace BKgb47 := am (blk_below BKgb47.out hb)
     replace BKgb51 := am (blk_below BKgb51.out hb)
     replace BKgb103 := am (blk_below BKgb103.out hb)
     have HO109_0 := am (T_rg ha_ hz_ (below_size HB.out) ho0)
     have HO109_1 := am (S_rg ha_ hz_ (below_size HB.out) ho1)
     have HO109_2 := am (R_rg ha_ hz_ (below_size HB.out) ho2)
     replace HB := am (below_step HB.out hb)
     replace HZ := am (Nat.le_of_eq hz_)
     clear hb ha_ hz_ ho0 ho1 ho2
     obtain ⟨Ao109_0, co109_0, eo109_0, _⟩ := Kd.T_slice HO109_0.out
     subst eo109_0
     obtain ⟨Ao109_1, co109_1, eo109_1⟩ := Kd.S_slice HO109_1.out
     subst eo109_1
     obtain ⟨Ao109_2, co109_2, eo109_2⟩ := Kd.R_slice HO109_2.out
     subst eo109_2
     refine hK.out _ _ ⟨bc BKgb1.out 0, bc BKgb1.out 1, bc BKgb3.out 0, bc BKgb3.out 1, bc BKgb3.out 2, bc BKgb39.out 0, bc BKgb39.out 1, bc BKgb39.out 2, bc BKgb39.out 3, bc BKgb39.out 4, bc BKgb39.out 5, bc BKgb43.out 0, bc BKgb43.out 1, bc BKgb47.out 0, bc BKgb47.out 1, bc BKgb47.out 2, bc BKgb51.out 0, bc BKgb51.out 1, bc BKgb51.out 2, bc BKgb51.out 3, bc BKgb51.out 4, bc BKgb51.out 5⟩ (fun hHeld => ?_)
     clear hK K
     refine norm_ (a' := ?_) ?_ ?_
     rotate_left
     ·show Act.put _ (some 79) _ = _; simp only [Act.put, sa_, s0_, ss_, i64_w, i32_w]; rfl
     exact norm_ (by first | (simp only [putAll, Act.put, sa_, s0_, ss_]; done) | (simp only [putAll, Act.put, sa_, s0_, ss_]; rfl)) (hJ (.slice Ao105_0 t85_0.length co105_0, .slice Ao105_1 t85_1.length co105_1, .slice Ao107_0 t87_0.length co107_0, .slice Ao109_0 t89_0.length co109_0, .slice Ao109_1 t89_1.length co109_1, .slice Ao109_2 t89_2.length co109_2, gb103, na105, nb105, na107, nb107, na109, nb109, nb109) _ ⟨hHeld, ⟨_, HOj38_1_0.out⟩, ⟨_, HOj38_1_1.out⟩, ⟨_, HOj38_3_0.out⟩, ⟨_, HOj38_4_0.out⟩, ⟨_, HOj38_4_1.out⟩, ⟨_, HOj38_4_2.out⟩, ⟨_, HO41_0.out⟩, ⟨_, HO41_1.out⟩, ⟨_, HO45_0.out⟩, ⟨_, HO49_0.out⟩, ⟨_, HO49_1.out⟩, ⟨_, HO49_2.out⟩, ⟨_, HO58_0.out⟩, ⟨_, HO58_1.out⟩, ⟨_, HO65_0.out⟩, ⟨_, HO105_0.out⟩, ⟨_, HO105_1.out⟩, ⟨_, HO107_0.out⟩, ⟨_, HO109_0.out⟩, ⟨_, HO109_1.out⟩, ⟨_, HO109_2.out⟩, BKgb1.out, BKgb3.out, BKgb39.out, BKgb43.out, BKgb47.out, BKgb51.out, BKgb103.out, HB.out, HZ.out, GEgb103, (by (try dsimp only); omega), (by (try dsimp only); omega), (by (try dsimp only); omega), (by (try dsimp only); omega), (by (try dsimp only); omega)⟩)
   rintro ⟨vj111_0_0, vj111_0_1, vj111_1_0, vj111_2_0, vj111_2_1, vj111_2_2, gb112, nj111_0, mj111_0, nj111_1, mj111_1, nj111_2, mj111_2, nl111⟩ w113 ⟨hS_, ⟨T111_0, h0_⟩, ⟨T111_1, h1_⟩, ⟨T111_2, h2_⟩, ⟨T111_3, h3_⟩, ⟨T111_4, h4_⟩, ⟨T111_5, h5_⟩, ⟨T111_6, h6_⟩, ⟨T111_7, h7_⟩, ⟨T111_8, h8_⟩, ⟨T111_9, h9_⟩, ⟨T111_10, h10_⟩, ⟨T111_11, h11_⟩, ⟨T111_12, h12_⟩, ⟨T111_13, h13_⟩, ⟨T111_14, h14_⟩, ⟨T111_15, h15_⟩, ⟨T111_16, h16_⟩, ⟨T111_17, h17_⟩, ⟨T111_18, h18_⟩, ⟨T111_19, h19_⟩, ⟨T111_20, h20_⟩, h21_, h22_, h23_, h24_, h25_, h26_, h27_, h28_, h29_, h30_, h31_, h32_, h33_, h34_, h35_⟩
   replace HOj38_1_0 : Aside0 (Kd.S k31 31 w113 w.heap.size (fun k_ => Rg nj38_0 mj38_0 k_ ∧ T111_0 k_) (.slice Aoj38_1_0 t12_0.length coj38_1_0) t12_0) := ⟨h0_⟩
   replace HOj38_1_1 : Aside0 (Kd.S k31 31 w113 w.heap.size (fun k_ => Rg nj38_0 mj38_0 k_ ∧ T111_1 k_) (.slice Aoj38_1_1 t12_1.length coj38_1_1) t12_1) := ⟨h1_⟩
   replace HOj38_3_0 : Aside0 (Kd.R (Kd.int .i64) 2 w113 w.heap.size (fun k_ => Rg nj38_1 mj38_1 k_ ∧ T111_2 k_) (.slice Aoj38_3_0 t14_0.length coj38_3_0) t14_0) := ⟨h2_⟩
   replace HOj38_4_0 : Aside0 (Kd.T k31 31 w113 w.heap.size (fun k_ => Rg nj38_2 mj38_2 k_ ∧ T111_3 k_) (.slice Aoj38_4_0 t16_0.length coj38_4_0) t16_0) := ⟨h3_⟩
   replace HOj38_4_1 : Aside0 (Kd.S k31 31 w113 w.heap.size (fun k_ => Rg nj38_2 mj38_2 k_ ∧ T111_4 k_) (.slice Aoj38_4_1 t16_1.length coj38_4_1) t16_1) := ⟨h4_⟩
   replace HOj38_4_2 : Aside0 (Kd.R (Kd.int .i64) 2 w113 w.heap.size (fun k_ => Rg nj38_2 mj38_2 k_ ∧ T111_5 k_) (.slice Aoj38_4_2 t16_2.length coj38_4_2) t16_2) := ⟨h5_⟩
   replace HO41_0 : Aside0 (Kd.S k31 31 w113 w.heap.size (fun k_ => Rg na41 mq41_1 k_ ∧ T111_6 k_) (.slice Ao41_0 t41_0.length co41_0) t70_0) := ⟨h6_⟩
   replace HO41_1 : Aside0 (Kd.S k31 31 w113 w.heap.size (fun k_ => Rg mq41_1 nb41 k_ ∧ T111_7 k_) (.slice Ao41_1 t41_1.length co41_1) t70_1) := ⟨h7_⟩
   replace HO45_0 : Aside0 (Kd.R (Kd.int .i64) 2 w113 w.heap.size (fun k_ => Rg na45 nb45 k_ ∧ T111_8 k_) (.slice Ao45_0 t45_0.length co45_0) t72_0) := ⟨h8_⟩
   replace HO49_0 : Aside0 (Kd.T k31 31 w113 w.heap.size (fun k_ => Rg mq49_1 mq49_2 k_ ∧ T111_9 k_) (.slice Ao49_0 t49_0.length co49_0) t78_0) := ⟨h9_⟩
   replace HO49_1 : Aside0 (Kd.T k31 31 w113 w.heap.size (fun k_ => Rg na49 mq49_1 k_ ∧ T111_10 k_) (.slice Ao49_1 t49_1.length co49_1) t78_1) := ⟨h10_⟩
   replace HO49_2 : Aside0 (Kd.R (Kd.int .i64) 2 w113 w.heap.size (fun k_ => Rg mq49_2 nb49 k_ ∧ T111_11 k_) (.slice Ao49_2 t49_2.length co49_2) t78_2) := ⟨h11_⟩
   replace HO58_0 : Aside0 (Kd.S k31 31 w113 w.heap.size (fun k_ => Rg na58 mq58_1 k_ ∧ T111_12 k_) (.slice Ao58_0 t58_0.length co58_0) t58_0) := ⟨h12_⟩
   replace HO58_1 : Aside0 (Kd.S k31 31 w113 w.heap.size (fun k_ => Rg mq58_1 nb58 k_ ∧ T111_13 k_) (.slice Ao58_1 t58_1.length co58_1) t58_1) := ⟨h13_⟩
   replace HO65_0 : Aside0 (Kd.R (Kd.int .i64) 2 w113 w.heap.size (fun k_ => Rg na65 nb65 k_ ∧ T111_14 k_) (.slice Ao65_0 t65_0.length co65_0) t65_0) := ⟨h14_⟩
   have HOj111_1_0 : Aside0 (Kd.S k31 31 w113 w.heap.size (fun k_ => Rg nj111_0 mj111_0 k_ ∧ T111_15 k_) vj111_0_0 t85_0) := ⟨h15_⟩
   have HOj111_1_1 : Aside0 (Kd.S k31 31 w113 w.heap.size (fun k_ => Rg nj111_0 mj111_0 k_ ∧ T111_16 k_) vj111_0_1 t85_1) := ⟨h16_⟩
   have HOj111_3_0 : Aside0 (Kd.R (Kd.int .i64) 2 w113 w.heap.size (fun k_ => Rg nj111_1 mj111_1 k_ ∧ T111_17 k_) vj111_1_0 t87_0) := ⟨h17_⟩
   have HOj111_4_0 : Aside0 (Kd.T k31 31 w113 w.heap.size (fun k_ => Rg nj111_2 mj111_2 k_ ∧ T111_18 k_) vj111_2_0 t89_0) := ⟨h18_⟩
   have HOj111_4_1 : Aside0 (Kd.S k31 31 w113 w.heap.size (fun k_ => Rg nj111_2 mj111_2 k_ ∧ T111_19 k_) vj111_2_1 t89_1) := ⟨h19_⟩
   have HOj111_4_2 : Aside0 (Kd.R (Kd.int .i64) 2 w113 w.heap.size (fun k_ => Rg nj111_2 mj111_2 k_ ∧ T111_20 k_) vj111_2_2 t89_2) := ⟨h20_⟩
   replace BKgb1 : Aside0 (w113.heap[gb1]? = some (.cells #[.slice A0_0 l0_0.length c0_0, .slice A0_1 l0_1.length c0_1] 45 (0, 0))) := ⟨h21_⟩
   replace BKgb3 : Aside0 (w113.heap[gb3]? = some (.cells #[.slice A1_0 l1_0.length c1_0, .int .i64 a1_1, .int .i64 a1_2] 24 (0, 0))) := ⟨h22_⟩
   replace BKgb39 : Aside0 (w113.heap[gb39]? = some (.cells #[.slice Aoj38_4_0 t16_0.length coj38_4_0, .slice Aoj38_4_1 t16_1.length coj38_4_1, .slice Aoj38_4_2 t16_2.length coj38_4_2, .int .i64 t16_3, .int .i64 t16_4, .int .i64 t16_5] 33 (0, 0))) := ⟨h23_⟩
   replace BKgb43 : Aside0 (w113.heap[gb43]? = some (.cells #[.slice Ao41_0 t41_0.length co41_0, .slice Ao41_1 t41_1.length co41_1] 30 (0, 0))) := ⟨h24_⟩
   replace BKgb47 : Aside0 (w113.heap[gb47]? = some (.cells #[.slice Ao45_0 t45_0.length co45_0, .int .i64 t45_1, .int .i64 t45_2] 31 (0, 0))) := ⟨h25_⟩
   replace BKgb51 : Aside0 (w113.heap[gb51]? = some (.cells #[.slice Ao49_0 t49_0.length co49_0, .slice Ao49_1 t49_1.length co49_1, .slice Ao49_2 t49_2.length co49_2, .int .i64 t49_3, .int .i64 t49_4, .int .i64 t49_5] 33 (0, 0))) := ⟨h26_⟩
   have BKgb112 : Aside0 (w113.heap[gb112]? = some (.cells #[.slice none 0 0, .slice none 0 0, .slice none 0 0, .int .i64 0, .int .i64 0, .int .i64 0] 33 (0, 0))) := ⟨h27_⟩
   replace HB : Aside0 (Below w.heap.size w w113) := ⟨h28_⟩
   replace HZ : Aside0 (nl111 ≤ w113.heap.size) := ⟨h29_⟩
   have GEgb112 : w.heap.size ≤ gb112 := h30_
   have hq111_31 : nb80 ≤ gb112 ∧ gb112 < nl111 := h31_
   have hq111_32 : nb80 ≤ nj111_0 ∧ nj111_0 ≤ mj111_0 ∧ (gb112 < nj111_0 ∨ mj111_0 ≤ gb112) := h32_
   have hq111_33 : mj111_0 ≤ nj111_1 ∧ nj111_1 ≤ mj111_1 ∧ (gb112 < nj111_1 ∨ mj111_1 ≤ gb112) := h33_
   have hq111_34 : mj111_1 ≤ nj111_2 ∧ nj111_2 ≤ mj111_2 ∧ (gb112 < nj111_2 ∨ mj111_2 ≤ gb112) := h34_
   have hq111_35 : mj111_2 ≤ nl111 := h35_
   have hHeld2 : w113.cell? ⟨gb1, 0, none⟩ = some (.slice A0_0 l0_0.length c0_0) ∧ w113.cell? ⟨gb1, 1, none⟩ = some (.slice A0_1 l0_1.length c0_1) ∧ w113.cell? ⟨gb3, 0, none⟩ = some (.slice A1_0 l1_0.length c1_0) ∧ w113.cell? ⟨gb3, 1, none⟩ = some (.int .i64 a1_1) ∧ w113.cell? ⟨gb3, 2, none⟩ = some (.int .i64 a1_2) ∧ w113.cell? ⟨gb39, 0, none⟩ = some (.slice Aoj38_4_0 t16_0.length coj38_4_0) ∧ w113.cell? ⟨gb39, 1, none⟩ = some (.slice Aoj38_4_1 t16_1.length coj38_4_1) ∧ w113.cell? ⟨gb39, 2, none⟩ = some (.slice Aoj38_4_2 t16_2.length coj38_4_2) ∧ w113.cell? ⟨gb39, 3, none⟩ = some (.int .i64 t16_3) ∧ w113.cell? ⟨gb39, 4, none⟩ = some (.int .i64 t16_4) ∧ w113.cell? ⟨gb39, 5, none⟩ = some (.int .i64 t16_5) ∧ w113.cell? ⟨gb43, 0, none⟩ = some (.slice Ao41_0 t41_0.length co41_0) ∧ w113.cell? ⟨gb43, 1, none⟩ = some (.slice Ao41_1 t41_1.length co41_1) ∧ w113.cell? ⟨gb47, 0, none⟩ = some (.slice Ao45_0 t45_0.length co45_0) ∧ w113.cell? ⟨gb47, 1, none⟩ = some (.int .i64 t45_1) ∧ w113.cell? ⟨gb47, 2, none⟩ = some (.int .i64 t45_2) ∧ w113.cell? ⟨gb51, 0, none⟩ = some (.slice Ao49_0 t49_0.length co49_0) ∧ w113.cell? ⟨gb51, 1, none⟩ = some (.slice Ao49_1 t49_1.length co49_1) ∧ w113.cell? ⟨gb51, 2, none⟩ = some (.slice Ao49_2 t49_2.length co49_2) ∧ w113.cell? ⟨gb51, 3, none⟩ = some (.int .i64 t49_3) ∧ w113.cell? ⟨gb51, 4, none⟩ = some (.int .i64 t49_4) ∧ w113.cell? ⟨gb51, 5, none⟩ = some (.int .i64 t49_5) := hS_
   clear hS_ hHeld h0_ h1_ h2_ h3_ h4_ h5_ h6_ h7_ h8_ h9_ h10_ h11_ h12_ h13_ h14_ h15_ h16_ h17_ h18_ h19_ h20_ h21_ h22_ h23_ h24_ h25_ h26_ h27_ h28_ h29_ h30_ h31_ h32_ h33_ h34_ h35_
   have hHeld := hHeld2
   clear hHeld2
   obtain ⟨Aoj111_1_0, coj111_1_0, eoj111_1_0⟩ := Kd.S_slice HOj111_1_0.out
   subst eoj111_1_0
   obtain ⟨Aoj111_1_1, coj111_1_1, eoj111_1_1⟩ := Kd.S_slice HOj111_1_1.out
   subst eoj111_1_1
   obtain ⟨Aoj111_3_0, coj111_3_0, eoj111_3_0⟩ := Kd.R_slice HOj111_3_0.out
   subst eoj111_3_0
   obtain ⟨Aoj111_4_0, coj111_4_0, eoj111_4_0, _⟩ := Kd.T_slice HOj111_4_0.out
   subst eoj111_4_0
   obtain ⟨Aoj111_4_1, coj111_4_1, eoj111_4_1⟩ := Kd.S_slice HOj111_4_1.out
   subst eoj111_4_1
   obtain ⟨Aoj111_4_2, coj111_4_2, eoj111_4_2⟩ := Kd.R_slice HOj111_4_2.out
   subst eoj111_4_2
   clear hcgb1_0 hfgb1_0 hcgb1_1 hfgb1_1 hcgb3_0 hfgb3_0 hcgb3_1 hfgb3_1 hcgb3_2 hfgb3_2 hcgb39_0 hfgb39_0 hcgb39_1 hfgb39_1 hcgb39_2 hfgb39_2 hcgb39_3 hfgb39_3 hcgb39_4 hfgb39_4 hcgb39_5 hfgb39_5 hcgb43_0 hfgb43_0 hcgb43_1 hfgb43_1 hcgb47_0 hfgb47_0 hcgb47_1 hfgb47_1 hcgb47_2 hfgb47_2 hcgb51_0 hfgb51_0 hcgb51_1 hfgb51_1 hcgb51_2 hfgb51_2 hcgb51_3 hfgb51_3 hcgb51_4 hfgb51_4 hcgb51_5 hfgb51_5
   have hcgb1_0 : w113.cell? ⟨gb1, 0, none⟩ = some (.slice A0_0 l0_0.length c0_0) := bc BKgb1.out 0
   have hfgb1_0 := blk_frozen BKgb1.out 0
   have hcgb1_1 : w113.cell? ⟨gb1, 1, none⟩ = some (.slice A0_1 l0_1.length c0_1) := bc BKgb1.out 1
   have hfgb1_1 := blk_frozen BKgb1.out 1
   have hcgb3_0 : w113.cell? ⟨gb3, 0, none⟩ = some (.slice A1_0 l1_0.length c1_0) := bc BKgb3.out 0
   have hfgb3_0 := blk_frozen BKgb3.out 0
   have hcgb3_1 : w113.cell? ⟨gb3, 1, none⟩ = some (.int .i64 a1_1) := bc BKgb3.out 1
   have hfgb3_1 := blk_frozen BKgb3.out 1
   have hcgb3_2 : w113.cell? ⟨gb3, 2, none⟩ = some (.int .i64 a1_2) := bc BKgb3.out 2
   have hfgb3_2 := blk_frozen BKgb3.out 2
   have hcgb39_0 : w113.cell? ⟨gb39, 0, none⟩ = some (.slice Aoj38_4_0 t16_0.length coj38_4_0) := bc BKgb39.out 0
   have hfgb39_0 := blk_frozen BKgb39.out 0
   have hcgb39_1 : w113.cell? ⟨gb39, 1, none⟩ = some (.slice Aoj38_4_1 t16_1.length coj38_4_1) := bc BKgb39.out 1
   have hfgb39_1 := blk_frozen BKgb39.out 1
   have hcgb39_2 : w113.cell? ⟨gb39, 2, none⟩ = some (.slice Aoj38_4_2 t16_2.length coj38_4_2) := bc BKgb39.out 2
   have hfgb39_2 := blk_frozen BKgb39.out 2
   have hcgb39_3 : w113.cell? ⟨gb39, 3, none⟩ = some (.int .i64 t16_3) := bc BKgb39.out 3
   have hfgb39_3 := blk_frozen BKgb39.out 3
   have hcgb39_4 : w113.cell? ⟨gb39, 4, none⟩ = some (.int .i64 t16_4) := bc BKgb39.out 4
   have hfgb39_4 := blk_frozen BKgb39.out 4
   have hcgb39_5 : w113.cell? ⟨gb39, 5, none⟩ = some (.int .i64 t16_5) := bc BKgb39.out 5
   have hfgb39_5 := blk_frozen BKgb39.out 5
   have hcgb43_0 : w113.cell? ⟨gb43, 0, none⟩ = some (.slice Ao41_0 t41_0.length co41_0) := bc BKgb43.out 0
   have hfgb43_0 := blk_frozen BKgb43.out 0
   have hcgb43_1 : w113.cell? ⟨gb43, 1, none⟩ = some (.slice Ao41_1 t41_1.length co41_1) := bc BKgb43.out 1
   have hfgb43_1 := blk_frozen BKgb43.out 1
   have hcgb47_0 : w113.cell? ⟨gb47, 0, none⟩ = some (.slice Ao45_0 t45_0.length co45_0) := bc BKgb47.out 0
   have hfgb47_0 := blk_frozen BKgb47.out 0
   have hcgb47_1 : w113.cell? ⟨gb47, 1, none⟩ = some (.int .i64 t45_1) := bc BKgb47.out 1
   have hfgb47_1 := blk_frozen BKgb47.out 1
   have hcgb47_2 : w113.cell? ⟨gb47, 2, none⟩ = some (.int .i64 t45_2) := bc BKgb47.out 2
   have hfgb47_2 := blk_frozen BKgb47.out 2
   have hcgb51_0 : w113.cell? ⟨gb51, 0, none⟩ = some (.slice Ao49_0 t49_0.length co49_0) := bc BKgb51.out 0
   have hfgb51_0 := blk_frozen BKgb51.out 0
   have hcgb51_1 : w113.cell? ⟨gb51, 1, none⟩ = some (.slice Ao49_1 t49_1.length co49_1) := bc BKgb51.out 1
   have hfgb51_1 := blk_frozen BKgb51.out 1
   have hcgb51_2 : w113.cell? ⟨gb51, 2, none⟩ = some (.slice Ao49_2 t49_2.length co49_2) := bc BKgb51.out 2
   have hfgb51_2 := blk_frozen BKgb51.out 2
   have hcgb51_3 : w113.cell? ⟨gb51, 3, none⟩ = some (.int .i64 t49_3) := bc BKgb51.out 3
   have hfgb51_3 := blk_frozen BKgb51.out 3
   have hcgb51_4 : w113.cell? ⟨gb51, 4, none⟩ = some (.int .i64 t49_4) := bc BKgb51.out 4
   have hfgb51_4 := blk_frozen BKgb51.out 4
   have hcgb51_5 : w113.cell? ⟨gb51, 5, none⟩ = some (.int .i64 t49_5) := bc BKgb51.out 5
   have hfgb51_5 := blk_frozen BKgb51.out 5
   have hcgb112_0 : w113.cell? ⟨gb112, 0, none⟩ = some (.slice none 0 0) := bc BKgb112.out 0
   have hfgb112_0 := blk_frozen BKgb112.out 0
   have hcgb112_1 : w113.cell? ⟨gb112, 1, none⟩ = some (.slice none 0 0) := bc BKgb112.out 1
   have hfgb112_1 := blk_frozen BKgb112.out 1
   have hcgb112_2 : w113.cell? ⟨gb112, 2, none⟩ = some (.slice none 0 0) := bc BKgb112.out 2
   have hfgb112_2 := blk_frozen BKgb112.out 2
   have hcgb112_3 : w113.cell? ⟨gb112, 3, none⟩ = some (.int .i64 0) := bc BKgb112.out 3
   have hfgb112_3 := blk_frozen BKgb112.out 3
   have hcgb112_4 : w113.cell? ⟨gb112, 4, none⟩ = some (.int .i64 0) := bc BKgb112.out 4
   have hfgb112_4 := blk_frozen BKgb112.out 4
   have hcgb112_5 : w113.cell? ⟨gb112, 5, none⟩ = some (.int .i64 0) := bc BKgb112.out 5
   have hfgb112_5 := blk_frozen BKgb112.out 5
   have hxgb112_gb1 : gb112 ≠ gb1 := (by omega)
   have hygb112_gb1 : gb1 ≠ gb112 := (by omega)
   have hxgb112_gb3 : gb112 ≠ gb3 := (by omega)
   have hygb112_gb3 : gb3 ≠ gb112 := (by omega)
   have hxgb112_gb39 : gb112 ≠ gb39 := (by omega)
   have hygb112_gb39 : gb39 ≠ gb112 := (by omega)
   have hxgb112_gb43 : gb112 ≠ gb43 := (by omega)
   have hygb112_gb43 : gb43 ≠ gb112 := (by omega)
   have hxgb112_gb47 : gb112 ≠ gb47 := (by omega)
   have hygb112_gb47 : gb47 ≠ gb112 := (by omega)
   have hxgb112_gb51 : gb112 ≠ gb51 := (by omega)
   have hygb112_gb51 : gb51 ≠ gb112 := (by omega)
   refine norm_ (a' := ?_) ?_ ?_
   rotate_left
   ·simp only [putAll, Act.put, sa_, s0_, ss_]; rfl
   refine one_ (i := 6) (N := none) #[true, true, true, true, true, true, true] rfl rfl (by kernel_rfl) (by decide) (fun K hK => ?_)
   refine skip_ (w1 := ?_) (by rfl) rfl ?_ ?_
   rotate_left
   ·go_simp; rfl
   refine hK.out _ _ ⟨((cell_far (p := ⟨gb112, _, none⟩) hygb112_gb1 _).trans ((cell_far (p := ⟨gb112, _, none⟩) hygb112_gb1 _).trans ((cell_far (p := ⟨gb112, _, none⟩) hygb112_gb1 _).trans ((cell_far (p := ⟨gb112, _, none⟩) hygb112_gb1 _).trans ((cell_far (p := ⟨gb112, _, none⟩) hygb112_gb1 _).trans ((cell_far (p := ⟨gb112, _, none⟩) hygb112_gb1 _).trans (hHeld.1))))))), ((cell_far (p := ⟨gb112, _, none⟩) hygb112_gb1 _).trans ((cell_far (p := ⟨gb112, _, none⟩) hygb112_gb1 _).trans ((cell_far (p := ⟨gb112, _, none⟩) hygb112_gb1 _).trans ((cell_far (p := ⟨gb112, _, none⟩) hygb112_gb1 _).trans ((cell_far (p := ⟨gb112, _, none⟩) hygb112_gb1 _).trans ((cell_far (p := ⟨gb112, _, none⟩) hygb112_gb1 _).trans (hHeld.2.1))))))), ((cell_far (p := ⟨gb112, _, none⟩) hygb112_gb3 _).trans ((cell_far (p := ⟨gb112, _, none⟩) hygb112_gb3 _).trans ((cell_far (p := ⟨gb112, _, none⟩) hygb112_gb3 _).trans ((cell_far (p := ⟨gb112, _, none⟩) hygb112_gb3 _).trans ((cell_far (p := ⟨gb112, _, none⟩) hygb112_gb3 _).trans ((cell_far (p := ⟨gb112, _, none⟩) hygb112_gb3 _).trans (hHeld.2.2.1))))))), ((cell_far (p := ⟨gb112, _, none⟩) hygb112_gb3 _).trans ((cell_far (p := ⟨gb112, _, none⟩) hygb112_gb3 _).trans ((cell_far (p := ⟨gb112, _, none⟩) hygb112_gb3 _).trans ((cell_far (p := ⟨gb112, _, none⟩) hygb112_gb3 _).trans ((cell_far (p := ⟨gb112, _, none⟩) hygb112_gb3 _).trans ((cell_far (p := ⟨gb112, _, none⟩) hygb112_gb3 _).trans (hHeld.2.2.2.1))))))), ((cell_far (p := ⟨gb112, _, none⟩) hygb112_gb3 _).trans ((cell_far (p := ⟨gb112, _, none⟩) hygb112_gb3 _).trans ((cell_far (p := ⟨gb112, _, none⟩) hygb112_gb3 _).trans ((cell_far (p := ⟨gb112, _, none⟩) hygb112_gb3 _).trans ((cell_far (p := ⟨gb112, _, none⟩) hygb112_gb3 _).trans ((cell_far (p := ⟨gb112, _, none⟩) hygb112_gb3 _).trans (hHeld.2.2.2.2.1))))))), ((cell_far (p := ⟨gb112, _, none⟩) hygb112_gb39 _).trans ((cell_far (p := ⟨gb112, _, none⟩) hygb112_gb39 _).trans ((cell_far (p := ⟨gb112, _, none⟩) hygb112_gb39 _).trans ((cell_far (p := ⟨gb112, _, none⟩) hygb112_gb39 _).trans ((cell_far (p := ⟨gb112, _, none⟩) hygb112_gb39 _).trans ((cell_far (p := ⟨gb112, _, none⟩) hygb112_gb39 _).trans (hHeld.2.2.2.2.2.1))))))), ((cell_far (p := ⟨gb112, _, none⟩) hygb112_gb39 _).trans ((cell_far (p := ⟨gb112, _, none⟩) hygb112_gb39 _).trans ((cell_far (p := ⟨gb112, _, none⟩) hygb112_gb39 _).trans ((cell_far (p := ⟨gb112, _, none⟩) hygb112_gb39 _).trans ((cell_far (p := ⟨gb112, _, none⟩) hygb112_gb39 _).trans ((cell_far (p := ⟨gb112, _, none⟩) hygb112_gb39 _).trans (hHeld.2.2.2.2.2.2.1))))))), ((cell_far (p := ⟨gb112, _, none⟩) hygb112_gb39 _).trans ((cell_far (p := ⟨gb112, _, none⟩) hygb112_gb39 _).trans ((cell_far (p := ⟨gb112, _, none⟩) hygb112_gb39 _).trans ((cell_far (p := ⟨gb112, _, none⟩) hygb112_gb39 _).trans ((cell_far (p := ⟨gb112, _, none⟩) hygb112_gb39 _).trans ((cell_far (p := ⟨gb112, _, none⟩) hygb112_gb39 _).trans (hHeld.2.2.2.2.2.2.2.1))))))), ((cell_far (p := ⟨gb112, _, none⟩) hygb112_gb39 _).trans ((cell_far (p := ⟨gb112, _, none⟩) hygb112_gb39 _).trans ((cell_far (p := ⟨gb112, _, none⟩) hygb112_gb39 _).trans ((cell_far (p := ⟨gb112, _, none⟩) hygb112_gb39 _).trans ((cell_far (p := ⟨gb112, _, none⟩) hygb112_gb39 _).trans ((cell_far (p := ⟨gb112, _, none⟩) hygb112_gb39 _).trans (hHeld.2.2.2.2.2.2.2.2.1))))))), ((cell_far (p := ⟨gb112, _, none⟩) hygb112_gb39 _).trans ((cell_far (p := ⟨gb112, _, none⟩) hygb112_gb39 _).trans ((cell_far (p := ⟨gb112, _, none⟩) hygb112_gb39 _).trans ((cell_far (p := ⟨gb112, _, none⟩) hygb112_gb39 _).trans ((cell_far (p := ⟨gb112, _, none⟩) hygb112_gb39 _).trans ((cell_far (p := ⟨gb112, _, none⟩) hygb112_gb39 _).trans (hHeld.2.2.2.2.2.2.2.2.2.1))))))), ((cell_far (p := ⟨gb112, _, none⟩) hygb112_gb39 _).trans ((cell_far (p := ⟨gb112, _, none⟩) hygb112_gb39 _).trans ((cell_far (p := ⟨gb112, _, none⟩) hygb112_gb39 _).trans ((cell_far (p := ⟨gb112, _, none⟩) hygb112_gb39 _).trans ((cell_far (p := ⟨gb112, _, none⟩) hygb112_gb39 _).trans ((cell_far (p := ⟨gb112, _, none⟩) hygb112_gb39 _).trans (hHeld.2.2.2.2.2.2.2.2.2.2.1))))))), ((cell_far (p := ⟨gb112, _, none⟩) hygb112_gb43 _).trans ((cell_far (p := ⟨gb112, _, none⟩) hygb112_gb43 _).trans ((cell_far (p := ⟨gb112, _, none⟩) hygb112_gb43 _).trans ((cell_far (p := ⟨gb112, _, none⟩) hygb112_gb43 _).trans ((cell_far (p := ⟨gb112, _, none⟩) hygb112_gb43 _).trans ((cell_far (p := ⟨gb112, _, none⟩) hygb112_gb43 _).trans (hHeld.2.2.2.2.2.2.2.2.2.2.2.1))))))), ((cell_far (p := ⟨gb112, _, none⟩) hygb112_gb43 _).trans ((cell_far (p := ⟨gb112, _, none⟩) hygb112_gb43 _).trans ((cell_far (p := ⟨gb112, _, none⟩) hygb112_gb43 _).trans ((cell_far (p := ⟨gb112, _, none⟩) hygb112_gb43 _).trans ((cell_far (p := ⟨gb112, _, none⟩) hygb112_gb43 _).trans ((cell_far (p := ⟨gb112, _, none⟩) hygb112_gb43 _).trans (hHeld.2.2.2.2.2.2.2.2.2.2.2.2.1))))))), ((cell_far (p := ⟨gb112, _, none⟩) hygb112_gb47 _).trans ((cell_far (p := ⟨gb112, _, none⟩) hygb112_gb47 _).trans ((cell_far (p := ⟨gb112, _, none⟩) hygb112_gb47 _).trans ((cell_far (p := ⟨gb112, _, none⟩) hygb112_gb47 _).trans ((cell_far (p := ⟨gb112, _, none⟩) hygb112_gb47 _).trans ((cell_far (p := ⟨gb112, _, none⟩) hygb112_gb47 _).trans (hHeld.2.2.2.2.2.2.2.2.2.2.2.2.2.1))))))), ((cell_far (p := ⟨gb112, _, none⟩) hygb112_gb47 _).trans ((cell_far (p := ⟨gb112, _, none⟩) hygb112_gb47 _).trans ((cell_far (p := ⟨gb112, _, none⟩) hygb112_gb47 _).trans ((cell_far (p := ⟨gb112, _, none⟩) hygb112_gb47 _).trans ((cell_far (p := ⟨gb112, _, none⟩) hygb112_gb47 _).trans ((cell_far (p := ⟨gb112, _, none⟩) hygb112_gb47 _).trans (hHeld.2.2.2.2.2.2.2.2.2.2.2.2.2.2.1))))))), ((cell_far (p := ⟨gb112, _, none⟩) hygb112_gb47 _).trans ((cell_far (p := ⟨gb112, _, none⟩) hygb112_gb47 _).trans ((cell_far (p := ⟨gb112, _, none⟩) hygb112_gb47 _).trans ((cell_far (p := ⟨gb112, _, none⟩) hygb112_gb47 _).trans ((cell_far (p := ⟨gb112, _, none⟩) hygb112_gb47 _).trans ((cell_far (p := ⟨gb112, _, none⟩) hygb112_gb47 _).trans (hHeld.2.2.2.2.2.2.2.2.2.2.2.2.2.2.2.1))))))), ((cell_far (p := ⟨gb112, _, none⟩) hygb112_gb51 _).trans ((cell_far (p := ⟨gb112, _, none⟩) hygb112_gb51 _).trans ((cell_far (p := ⟨gb112, _, none⟩) hygb112_gb51 _).trans ((cell_far (p := ⟨gb112, _, none⟩) hygb112_gb51 _).trans ((cell_far (p := ⟨gb112, _, none⟩) hygb112_gb51 _).trans ((cell_far (p := ⟨gb112, _, none⟩) hygb112_gb51 _).trans (hHeld.2.2.2.2.2.2.2.2.2.2.2.2.2.2.2.2.1))))))), ((cell_far (p := ⟨gb112, _, none⟩) hygb112_gb51 _).trans ((cell_far (p := ⟨gb112, _, none⟩) hygb112_gb51 _).trans ((cell_far (p := ⟨gb112, _, none⟩) hygb112_gb51 _).trans ((cell_far (p := ⟨gb112, _, none⟩) hygb112_gb51 _).trans ((cell_far (p := ⟨gb112, _, none⟩) hygb112_gb51 _).trans ((cell_far (p := ⟨gb112, _, none⟩) hygb112_gb51 _).trans (hHeld.2.2.2.2.2.2.2.2.2.2.2.2.2.2.2.2.2.1))))))), ((cell_far (p := ⟨gb112, _, none⟩) hygb112_gb51 _).trans ((cell_far (p := ⟨gb112, _, none⟩) hygb112_gb51 _).trans ((cell_far (p := ⟨gb112, _, none⟩) hygb112_gb51 _).trans ((cell_far (p := ⟨gb112, _, none⟩) hygb112_gb51 _).trans ((cell_far (p := ⟨gb112, _, none⟩) hygb112_gb51 _).trans ((cell_far (p := ⟨gb112, _, none⟩) hygb112_gb51 _).trans (hHeld.2.2.2.2.2.2.2.2.2.2.2.2.2.2.2.2.2.2.1))))))), ((cell_far (p := ⟨gb112, _, none⟩) hygb112_gb51 _).trans ((cell_far (p := ⟨gb112, _, none⟩) hygb112_gb51 _).trans ((cell_far (p := ⟨gb112, _, none⟩) hygb112_gb51 _).trans ((cell_far (p := ⟨gb112, _, none⟩) hygb112_gb51 _).trans ((cell_far (p := ⟨gb112, _, none⟩) hygb112_gb51 _).trans ((cell_far (p := ⟨gb112, _, none⟩) hygb112_gb51 _).trans (hHeld.2.2.2.2.2.2.2.2.2.2.2.2.2.2.2.2.2.2.2.1))))))), ((cell_far (p := ⟨gb112, _, none⟩) hygb112_gb51 _).trans ((cell_far (p := ⟨gb112, _, none⟩) hygb112_gb51 _).trans ((cell_far (p := ⟨gb112, _, none⟩) hygb112_gb51 _).trans ((cell_far (p := ⟨gb112, _, none⟩) hygb112_gb51 _).trans ((cell_far (p := ⟨gb112, _, none⟩) hygb112_gb51 _).trans ((cell_far (p := ⟨gb112, _, none⟩) hygb112_gb51 _).trans (hHeld.2.2.2.2.2.2.2.2.2.2.2.2.2.2.2.2.2.2.2.2.1))))))), ((cell_far (p := ⟨gb112, _, none⟩) hygb112_gb51 _).trans ((cell_far (p := ⟨gb112, _, none⟩) hygb112_gb51 _).trans ((cell_far (p := ⟨gb112, _, none⟩) hygb112_gb51 _).trans ((cell_far (p := ⟨gb112, _, none⟩) hygb112_gb51 _).trans ((cell_far (p := ⟨gb112, _, none⟩) hygb112_gb51 _).trans ((cell_far (p := ⟨gb112, _, none⟩) hygb112_gb51 _).trans (hHeld.2.2.2.2.2.2.2.2.2.2.2.2.2.2.2.2.2.2.2.2.2)))))))⟩ (fun hHeld => ?_)
   clear hK K
   refine done_ (by kernel_rfl) ?_
   go_wp2_with (first | ((with_reducible refine gate_callee (f := 12) rfl ?_); refine gl (some 82) Try.func12 #[.agg #[.slice Aoj111_4_0 t89_0.length coj111_4_0, .slice Aoj111_4_1 t89_1.length coj111_4_1, .slice Aoj111_4_2 t89_2.length coj111_4_2, .int .i64 t89_3, .int .i64 t89_4, .int .i64 t89_5], .agg #[.slice Aoj38_4_0 t16_0.length coj38_4_0, .slice Aoj38_4_1 t16_1.length coj38_4_1, .slice Aoj38_4_2 t16_2.length coj38_4_2, .int .i64 t16_3, .int .i64 t16_4, .int .i64 t16_5]] ?_; (with_reducible refine (laws_eqUndoOut.calls k _ _ t89_0 _ _ t89_1 _ _ t89_2 t89_3 t89_4 t89_5 _ _ t16_0 _ _ t16_1 _ _ t16_2 t16_3 t16_4 t16_5 true _ ?s0 ?s1 ?s2 ?s3 ?s4 ?s5 ?s6 ?s7 ?s8 ?s9 ?s10 ?s11 A114.out).mono ?_); (case s0 => exact (Kd.T_reads' (T_farR (g := gb112) (T_farR (g := gb112) (T_farR (g := gb112) (T_farR (g := gb112) (T_farR (g := gb112) (T_farR (g := gb112) HOj111_4_0.out (by omega) _) (by omega) _) (by omega) _) (by omega) _) (by omega) _) (by omega) _)).2.2); (case s1 => exact (Kd.T_reads' HOj111_4_0.out).2.1); (case s2 => exact (Kd.S_reads' (S_farR (g := gb112) (S_farR (g := gb112) (S_farR (g := gb112) (S_farR (g := gb112) (S_farR (g := gb112) (S_farR (g := gb112) HOj111_4_1.out (by omega) _) (by omega) _) (by omega) _) (by omega) _) (by omega) _) (by omega) _)).2.2); (case s3 => exact (Kd.S_reads' HOj111_4_1.out).2.1); (case s4 => exact (Kd.R_reads' (R_farR (g := gb112) (R_farR (g := gb112) (R_farR (g := gb112) (R_farR (g := gb112) (R_farR (g := gb112) (R_farR (g := gb112) HOj111_4_2.out (by omega) _) (by omega) _) (by omega) _) (by omega) _) (by omega) _) (by omega) _)).2.2); (case s5 => exact (Kd.R_reads' HOj111_4_2.out).2.1); (case s6 => exact (Kd.T_reads' (T_farR (g := gb112) (T_farR (g := gb112) (T_farR (g := gb112) (T_farR (g := gb112) (T_farR (g := gb112) (T_farR (g := gb112) HOj38_4_0.out (by omega) _) (by omega) _) (by omega) _) (by omega) _) (by omega) _) (by omega) _)).2.2); (case s7 => exact (Kd.T_reads' HOj38_4_0.out).2.1); (case s8 => exact (Kd.S_reads' (S_farR (g := gb112) (S_farR (g := gb112) (S_farR (g := gb112) (S_farR (g := gb112) (S_farR (g := gb112) (S_farR (g := gb112) HOj38_4_1.out (by omega) _) (by omega) _) (by omega) _) (by omega) _) (by omega) _) (by omega) _)).2.2); (case s9 => exact (Kd.S_reads' HOj38_4_1.out).2.1); (case s10 => exact (Kd.R_reads' (R_farR (g := gb112) (R_farR (g := gb112) (R_farR (g := gb112) (R_farR (g := gb112) (R_farR (g := gb112) (R_farR (g := gb112) HOj38_4_2.out (by omega) _) (by omega) _) (by omega) _) (by omega) _) (by omega) _) (by omega) _)).2.2); (case s11 => exact (Kd.R_reads' HOj38_4_2.out).2.1); rintro e w115 ⟨rfl, hb⟩; refine ⟨_, rfl, ?_⟩; obtain ⟨na114, nb114, ha_, hz_, hab114⟩ := nxt_ hb; have hn114 : nl111 ≤ na114 := (by rw [ha_]; exact (sz_set (sz_set (sz_set (sz_set (sz_set (sz_set HZ.out))))))); replace HOj38_1_0 := am (Kd.S_below (S_farR (g := gb112) (S_farR (g := gb112) (S_farR (g := gb112) (S_farR (g := gb112) (S_farR (g := gb112) (S_farR (g := gb112) HOj38_1_0.out (by omega) _) (by omega) _) (by omega) _) (by omega) _) (by omega) _) (by omega) _) hb); replace HOj38_1_1 := am (Kd.S_below (S_farR (g := gb112) (S_farR (g := gb112) (S_farR (g := gb112) (S_farR (g := gb112) (S_farR (g := gb112) (S_farR (g := gb112) HOj38_1_1.out (by omega) _) (by omega) _) (by omega) _) (by omega) _) (by omega) _) (by omega) _) hb); replace HOj38_3_0 := am (Kd.R_below (R_farR (g := gb112) (R_farR (g := gb112) (R_farR (g := gb112) (R_farR (g := gb112) (R_farR (g := gb112) (R_farR (g := gb112) HOj38_3_0.out (by omega) _) (by omega) _) (by omega) _) (by omega) _) (by omega) _) (by omega) _) hb); replace HOj38_4_0 := am (Kd.T_below (T_farR (g := gb112) (T_farR (g := gb112) (T_farR (g := gb112) (T_farR (g := gb112) (T_farR (g := gb112) (T_farR (g := gb112) HOj38_4_0.out (by omega) _) (by omega) _) (by omega) _) (by omega) _) (by omega) _) (by omega) _) hb); replace HOj38_4_1 := am (Kd.S_below (S_farR (g := gb112) (S_farR (g := gb112) (S_farR (g := gb112) (S_farR (g := gb112) (S_farR (g := gb112) (S_farR (g := gb112) HOj38_4_1.out (by omega) _) (by omega) _) (by omega) _) (by omega) _) (by omega) _) (by omega) _) hb); replace HOj38_4_2 := am (Kd.R_below (R_farR (g := gb112) (R_farR (g := gb112) (R_farR (g := gb112) (R_farR (g := gb112) (R_farR (g := gb112) (R_farR (g := gb112) HOj38_4_2.out (by omega) _) (by omega) _) (by omega) _) (by omega) _) (by omega) _) (by omega) _) hb); replace HO41_0 := am (Kd.S_below (S_farR (g := gb112) (S_farR (g := gb112) (S_farR (g := gb112) (S_farR (g := gb112) (S_farR (g := gb112) (S_farR (g := gb112) HO41_0.out (by omega) _) (by omega) _) (by omega) _) (by omega) _) (by omega) _) (by omega) _) hb); replace HO41_1 := am (Kd.S_below (S_farR (g := gb112) (S_farR (g := gb112) (S_farR (g := gb112) (S_farR (g := gb112) (S_farR (g := gb112) (S_farR (g := gb112) HO41_1.out (by omega) _) (by omega) _) (by omega) _) (by omega) _) (by omega) _) (by omega) _) hb); replace HO45_0 := am (Kd.R_below (R_farR (g := gb112) (R_farR (g := gb112) (R_farR (g := gb112) (R_farR (g := gb112) (R_farR (g := gb112) (R_farR (g := gb112) HO45_0.out (by omega) _) (by omega) _) (by omega) _) (by omega) _) (by omega) _) (by omega) _) hb); replace HO49_0 := am (Kd.T_below (T_farR (g := gb112) (T_farR (g := gb112) (T_farR (g := gb112) (T_farR (g := gb112) (T_farR (g := gb112) (T_farR (g := gb112) HO49_0.out (by omega) _) (by omega) _) (by omega) _) (by omega) _) (by omega) _) (by omega) _) hb); replace HO49_1 := am (Kd.T_below (T_farR (g := gb112) (T_farR (g := gb112) (T_farR (g := gb112) (T_farR (g := gb112) (T_farR (g := gb112) (T_farR (g := gb112) HO49_1.out (by omega) _) (by omega) _) (by omega) _) (by omega) _) (by omega) _) (by omega) _) hb); replace HO49_2 := am (Kd.R_below (R_farR (g := gb112) (R_farR (g := gb112) (R_farR (g := gb112) (R_farR (g := gb112) (R_farR (g := gb112) (R_farR (g := gb112) HO49_2.out (by omega) _) (by omega) _) (by omega) _) (by omega) _) (by omega) _) (by omega) _) hb); replace HO58_0 := am (Kd.S_below (S_farR (g := gb112) (S_farR (g := gb112) (S_farR (g := gb112) (S_farR (g := gb112) (S_farR (g := gb112) (S_farR (g := gb112) HO58_0.out (by omega) _) (by omega) _) (by omega) _) (by omega) _) (by omega) _) (by omega) _) hb); replace HO58_1 := am (Kd.S_below (S_farR (g := gb112) (S_farR (g := gb112) (S_farR (g := gb112) (S_farR (g := gb112) (S_farR (g := gb112) (S_farR (g := gb112) HO58_1.out (by omega) _) (by omega) _) (by omega) _) (by omega) _) (by omega) _) (by omega) _) hb); replace HO65_0 := am (Kd.R_below (R_farR (g := gb112) (R_farR (g := gb112) (R_farR (g := gb112) (R_farR (g := gb112) (R_farR (g := gb112) (R_farR (g := gb112) HO65_0.out (by omega) _) (by omega) _) (by omega) _) (by omega) _) (by omega) _) (by omega) _) hb); replace HOj111_1_0 := am (Kd.S_below (S_farR (g := gb112) (S_farR (g := gb112) (S_farR (g := gb112) (S_farR (g := gb112) (S_farR (g := gb112) (S_farR (g := gb112) HOj111_1_0.out (by omega) _) (by omega) _) (by omega) _) (by omega) _) (by omega) _) (by omega) _) hb); replace HOj111_1_1 := am (Kd.S_below (S_farR (g := gb112) (S_farR (g := gb112) (S_farR (g := gb112) (S_farR (g := gb112) (S_farR (g := gb112) (S_farR (g := gb112) HOj111_1_1.out (by omega) _) (by omega) _) (by omega) _) (by omega) _) (by omega) _) (by omega) _) hb); replace HOj111_3_0 := am (Kd.R_below (R_farR (g := gb112) (R_farR (g := gb112) (R_farR (g := gb112) (R_farR (g := gb112) (R_farR (g := gb112) (R_farR (g := gb112) HOj111_3_0.out (by omega) _) (by omega) _) (by omega) _) (by omega) _) (by omega) _) (by omega) _) hb); replace HOj111_4_0 := am (Kd.T_below (T_farR (g := gb112) (T_farR (g := gb112) (T_farR (g := gb112) (T_farR (g := gb112) (T_farR (g := gb112) (T_farR (g := gb112) HOj111_4_0.out (by omega) _) (by omega) _) (by omega) _) (by omega) _) (by omega) _) (by omega) _) hb); replace HOj111_4_1 := am (Kd.S_below (S_farR (g := gb112) (S_farR (g := gb112) (S_farR (g := gb112) (S_farR (g := gb112) (S_farR (g := gb112) (S_farR (g := gb112) HOj111_4_1.out (by omega) _) (by omega) _) (by omega) _) (by omega) _) (by omega) _) (by omega) _) hb); replace HOj111_4_2 := am (Kd.R_below (R_farR (g := gb112) (R_farR (g := gb112) (R_farR (g := gb112) (R_farR (g := gb112) (R_farR (g := gb112) (R_farR (g := gb112) HOj111_4_2.out (by omega) _) (by omega) _) (by omega) _) (by omega) _) (by omega) _) (by omega) _) hb); replace BKgb1 := am (blk_below (g := gb1) (o := .cells #[.slice A0_0 l0_0.length c0_0, .slice A0_1 l0_1.length c0_1] 45 (0, 0)) (by refine pk ?_; refine blk_far ?_ (show gb1 ≠ gb112 by omega) _; refine pk ?_; refine blk_far ?_ (show gb1 ≠ gb112 by omega) _; refine pk ?_; refine blk_far ?_ (show gb1 ≠ gb112 by omega) _; refine pk ?_; refine blk_far ?_ (show gb1 ≠ gb112 by omega) _; refine pk ?_; refine blk_far ?_ (show gb1 ≠ gb112 by omega) _; refine pk ?_; refine blk_far ?_ (show gb1 ≠ gb112 by omega) _; refine pk ?_; exact BKgb1.out) hb); replace BKgb3 := am (blk_below (g := gb3) (o := .cells #[.slice A1_0 l1_0.length c1_0, .int .i64 a1_1, .int .i64 a1_2] 24 (0, 0)) (by refine pk ?_; refine blk_far ?_ (show gb3 ≠ gb112 by omega) _; refine pk ?_; refine blk_far ?_ (show gb3 ≠ gb112 by omega) _; refine pk ?_; refine blk_far ?_ (show gb3 ≠ gb112 by omega) _; refine pk ?_; refine blk_far ?_ (show gb3 ≠ gb112 by omega) _; refine pk ?_; refine blk_far ?_ (show gb3 ≠ gb112 by omega) _; refine pk ?_; refine blk_far ?_ (show gb3 ≠ gb112 by omega) _; refine pk ?_; exact BKgb3.out) hb); replace BKgb39 := am (blk_below (g := gb39) (o := .cells #[.slice Aoj38_4_0 t16_0.length coj38_4_0, .slice Aoj38_4_1 t16_1.length coj38_4_1, .slice Aoj38_4_2 t16_2.length coj38_4_2, .int .i64 t16_3, .int .i64 t16_4, .int .i64 t16_5] 33 (0, 0)) (by refine pk ?_; refine blk_far ?_ (show gb39 ≠ gb112 by omega) _; refine pk ?_; refine blk_far ?_ (show gb39 ≠ gb112 by omega) _; refine pk ?_; refine blk_far ?_ (show gb39 ≠ gb112 by omega) _; refine pk ?_; refine blk_far ?_ (show gb39 ≠ gb112 by omega) _; refine pk ?_; refine blk_far ?_ (show gb39 ≠ gb112 by omega) _; refine pk ?_; refine blk_far ?_ (show gb39 ≠ gb112 by omega) _; refine pk ?_; exact BKgb39.out) hb); replace BKgb43 := am (blk_below (g := gb43) (o := .cells #[.slice Ao41_0 t41_0.length co41_0, .slice Ao41_1 t41_1.length co41_1] 30 (0, 0)) (by refine pk ?_; refine blk_far ?_ (show gb43 ≠ gb112 by omega) _; refine pk ?_; refine blk_far ?_ (show gb43 ≠ gb112 by omega) _; refine pk ?_; refine blk_far ?_ (show gb43 ≠ gb112 by omega) _; refine pk ?_; refine blk_far ?_ (show gb43 ≠ gb112 by omega) _; refine pk ?_; refine blk_far ?_ (show gb43 ≠ gb112 by omega) _; refine pk ?_; refine blk_far ?_ (show gb43 ≠ gb112 by omega) _; refine pk ?_; exact BKgb43.out) hb); replace BKgb47 := am (blk_below (g := gb47) (o := .cells #[.slice Ao45_0 t45_0.length co45_0, .int .i64 t45_1, .int .i64 t45_2] 31 (0, 0)) (by refine pk ?_; refine blk_far ?_ (show gb47 ≠ gb112 by omega) _; refine pk ?_; refine blk_far ?_ (show gb47 ≠ gb112 by omega) _; refine pk ?_; refine blk_far ?_ (show gb47 ≠ gb112 by omega) _; refine pk ?_; refine blk_far ?_ (show gb47 ≠ gb112 by omega) _; refine pk ?_; refine blk_far ?_ (show gb47 ≠ gb112 by omega) _; refine pk ?_; refine blk_far ?_ (show gb47 ≠ gb112 by omega) _; refine pk ?_; exact BKgb47.out) hb); replace BKgb51 := am (blk_below (g := gb51) (o := .cells #[.slice Ao49_0 t49_0.length co49_0, .slice Ao49_1 t49_1.length co49_1, .slice Ao49_2 t49_2.length co49_2, .int .i64 t49_3, .int .i64 t49_4, .int .i64 t49_5] 33 (0, 0)) (by refine pk ?_; refine blk_far ?_ (show gb51 ≠ gb112 by omega) _; refine pk ?_; refine blk_far ?_ (show gb51 ≠ gb112 by omega) _; refine pk ?_; refine blk_far ?_ (show gb51 ≠ gb112 by omega) _; refine pk ?_; refine blk_far ?_ (show gb51 ≠ gb112 by omega) _; refine pk ?_; refine blk_far ?_ (show gb51 ≠ gb112 by omega) _; refine pk ?_; refine blk_far ?_ (show gb51 ≠ gb112 by omega) _; refine pk ?_; exact BKgb51.out) hb); replace BKgb112 := am (blk_below (g := gb112) (o := .cells #[.slice Aoj111_4_0 t89_0.length coj111_4_0, .slice Aoj111_4_1 t89_1.length coj111_4_1, .slice Aoj111_4_2 t89_2.length coj111_4_2, .int .i64 t89_3, .int .i64 t89_4, .int .i64 t89_5] 33 (0, 0)) (by refine pk ?_; refine blk_put (cs := #[.slice Aoj111_4_0 t89_0.length coj111_4_0, .slice Aoj111_4_1 t89_1.length coj111_4_1, .slice Aoj111_4_2 t89_2.length coj111_4_2, .int .i64 t89_3, .int .i64 t89_4, .int .i64 0]) ?_ 5 _ rfl; refine pk ?_; refine blk_put (cs := #[.slice Aoj111_4_0 t89_0.length coj111_4_0, .slice Aoj111_4_1 t89_1.length coj111_4_1, .slice Aoj111_4_2 t89_2.length coj111_4_2, .int .i64 t89_3, .int .i64 0, .int .i64 0]) ?_ 4 _ rfl; refine pk ?_; refine blk_put (cs := #[.slice Aoj111_4_0 t89_0.length coj111_4_0, .slice Aoj111_4_1 t89_1.length coj111_4_1, .slice Aoj111_4_2 t89_2.length coj111_4_2, .int .i64 0, .int .i64 0, .int .i64 0]) ?_ 3 _ rfl; refine pk ?_; refine blk_put (cs := #[.slice Aoj111_4_0 t89_0.length coj111_4_0, .slice Aoj111_4_1 t89_1.length coj111_4_1, .slice none 0 0, .int .i64 0, .int .i64 0, .int .i64 0]) ?_ 2 _ rfl; refine pk ?_; refine blk_put (cs := #[.slice Aoj111_4_0 t89_0.length coj111_4_0, .slice none 0 0, .slice none 0 0, .int .i64 0, .int .i64 0, .int .i64 0]) ?_ 1 _ rfl; refine pk ?_; refine blk_put (cs := #[.slice none 0 0, .slice none 0 0, .slice none 0 0, .int .i64 0, .int .i64 0, .int .i64 0]) ?_ 0 _ rfl; refine pk ?_; exact BKgb112.out) hb); replace HB := am (below_step (below_set (below_set (below_set (below_set (below_set (below_set HB.out GEgb112) GEgb112) GEgb112) GEgb112) GEgb112) GEgb112) hb); replace HZ := am (Nat.le_of_eq hz_); clear hb ha_ hz_ ; clear hcgb1_0 hfgb1_0 hcgb1_1 hfgb1_1 hcgb3_0 hfgb3_0 hcgb3_1 hfgb3_1 hcgb3_2 hfgb3_2 hcgb39_0 hfgb39_0 hcgb39_1 hfgb39_1 hcgb39_2 hfgb39_2 hcgb39_3 hfgb39_3 hcgb39_4 hfgb39_4 hcgb39_5 hfgb39_5 hcgb43_0 hfgb43_0 hcgb43_1 hfgb43_1 hcgb47_0 hfgb47_0 hcgb47_1 hfgb47_1 hcgb47_2 hfgb47_2 hcgb51_0 hfgb51_0 hcgb51_1 hfgb51_1 hcgb51_2 hfgb51_2 hcgb51_3 hfgb51_3 hcgb51_4 hfgb51_4 hcgb51_5 hfgb51_5 hcgb112_0 hfgb112_0 hcgb112_1 hfgb112_1 hcgb112_2 hfgb112_2 hcgb112_3 hfgb112_3 hcgb112_4 hfgb112_4 hcgb112_5 hfgb112_5; have hcgb1_0 : w115.cell? ⟨gb1, 0, none⟩ = some (.slice A0_0 l0_0.length c0_0) := bc BKgb1.out 0; have hfgb1_0 := blk_frozen BKgb1.out 0; have hcgb1_1 : w115.cell? ⟨gb1, 1, none⟩ = some (.slice A0_1 l0_1.length c0_1) := bc BKgb1.out 1; have hfgb1_1 := blk_frozen BKgb1.out 1; have hcgb3_0 : w115.cell? ⟨gb3, 0, none⟩ = some (.slice A1_0 l1_0.length c1_0) := bc BKgb3.out 0; have hfgb3_0 := blk_frozen BKgb3.out 0; have hcgb3_1 : w115.cell? ⟨gb3, 1, none⟩ = some (.int .i64 a1_1) := bc BKgb3.out 1; have hfgb3_1 := blk_frozen BKgb3.out 1; have hcgb3_2 : w115.cell? ⟨gb3, 2, none⟩ = some (.int .i64 a1_2) := bc BKgb3.out 2; have hfgb3_2 := blk_frozen BKgb3.out 2; have hcgb39_0 : w115.cell? ⟨gb39, 0, none⟩ = some (.slice Aoj38_4_0 t16_0.length coj38_4_0) := bc BKgb39.out 0; have hfgb39_0 := blk_frozen BKgb39.out 0; have hcgb39_1 : w115.cell? ⟨gb39, 1, none⟩ = some (.slice Aoj38_4_1 t16_1.length coj38_4_1) := bc BKgb39.out 1; have hfgb39_1 := blk_frozen BKgb39.out 1; have hcgb39_2 : w115.cell? ⟨gb39, 2, none⟩ = some (.slice Aoj38_4_2 t16_2.length coj38_4_2) := bc BKgb39.out 2; have hfgb39_2 := blk_frozen BKgb39.out 2; have hcgb39_3 : w115.cell? ⟨gb39, 3, none⟩ = some (.int .i64 t16_3) := bc BKgb39.out 3; have hfgb39_3 := blk_frozen BKgb39.out 3; have hcgb39_4 : w115.cell? ⟨gb39, 4, none⟩ = some (.int .i64 t16_4) := bc BKgb39.out 4; have hfgb39_4 := blk_frozen BKgb39.out 4; have hcgb39_5 : w115.cell? ⟨gb39, 5, none⟩ = some (.int .i64 t16_5) := bc BKgb39.out 5; have hfgb39_5 := blk_frozen BKgb39.out 5; have hcgb43_0 : w115.cell? ⟨gb43, 0, none⟩ = some (.slice Ao41_0 t41_0.length co41_0) := bc BKgb43.out 0; have hfgb43_0 := blk_frozen BKgb43.out 0; have hcgb43_1 : w115.cell? ⟨gb43, 1, none⟩ = some (.slice Ao41_1 t41_1.length co41_1) := bc BKgb43.out 1; have hfgb43_1 := blk_frozen BKgb43.out 1; have hcgb47_0 : w115.cell? ⟨gb47, 0, none⟩ = some (.slice Ao45_0 t45_0.length co45_0) := bc BKgb47.out 0; have hfgb47_0 := blk_frozen BKgb47.out 0; have hcgb47_1 : w115.cell? ⟨gb47, 1, none⟩ = some (.int .i64 t45_1) := bc BKgb47.out 1; have hfgb47_1 := blk_frozen BKgb47.out 1; have hcgb47_2 : w115.cell? ⟨gb47, 2, none⟩ = some (.int .i64 t45_2) := bc BKgb47.out 2; have hfgb47_2 := blk_frozen BKgb47.out 2; have hcgb51_0 : w115.cell? ⟨gb51, 0, none⟩ = some (.slice Ao49_0 t49_0.length co49_0) := bc BKgb51.out 0; have hfgb51_0 := blk_frozen BKgb51.out 0; have hcgb51_1 : w115.cell? ⟨gb51, 1, none⟩ = some (.slice Ao49_1 t49_1.length co49_1) := bc BKgb51.out 1; have hfgb51_1 := blk_frozen BKgb51.out 1; have hcgb51_2 : w115.cell? ⟨gb51, 2, none⟩ = some (.slice Ao49_2 t49_2.length co49_2) := bc BKgb51.out 2; have hfgb51_2 := blk_frozen BKgb51.out 2; have hcgb51_3 : w115.cell? ⟨gb51, 3, none⟩ = some (.int .i64 t49_3) := bc BKgb51.out 3; have hfgb51_3 := blk_frozen BKgb51.out 3; have hcgb51_4 : w115.cell? ⟨gb51, 4, none⟩ = some (.int .i64 t49_4) := bc BKgb51.out 4; have hfgb51_4 := blk_frozen BKgb51.out 4; have hcgb51_5 : w115.cell? ⟨gb51, 5, none⟩ = some (.int .i64 t49_5) := bc BKgb51.out 5; have hfgb51_5 := blk_frozen BKgb51.out 5; have hcgb112_0 : w115.cell? ⟨gb112, 0, none⟩ = some (.slice Aoj111_4_0 t89_0.length coj111_4_0) := bc BKgb112.out 0; have hfgb112_0 := blk_frozen BKgb112.out 0; have hcgb112_1 : w115.cell? ⟨gb112, 1, none⟩ = some (.slice Aoj111_4_1 t89_1.length coj111_4_1) := bc BKgb112.out 1; have hfgb112_1 := blk_frozen BKgb112.out 1; have hcgb112_2 : w115.cell? ⟨gb112, 2, none⟩ = some (.slice Aoj111_4_2 t89_2.length coj111_4_2) := bc BKgb112.out 2; have hfgb112_2 := blk_frozen BKgb112.out 2; have hcgb112_3 : w115.cell? ⟨gb112, 3, none⟩ = some (.int .i64 t89_3) := bc BKgb112.out 3; have hfgb112_3 := blk_frozen BKgb112.out 3; have hcgb112_4 : w115.cell? ⟨gb112, 4, none⟩ = some (.int .i64 t89_4) := bc BKgb112.out 4; have hfgb112_4 := blk_frozen BKgb112.out 4; have hcgb112_5 : w115.cell? ⟨gb112, 5, none⟩ = some (.int .i64 t89_5) := bc BKgb112.out 5; have hfgb112_5 := blk_frozen BKgb112.out 5) | ((with_reducible refine gate_callee (f := 18) rfl ?_); refine gl (some 86) Try.func18 #[.agg #[.slice Ao49_0 t49_0.length co49_0, .slice Ao49_1 t49_1.length co49_1, .slice Ao49_2 t49_2.length co49_2, .int .i64 t49_3, .int .i64 t49_4, .int .i64 t49_5], .int .i64 1] ?_; refine calls_of_args (args' := #[.agg #[.slice Ao49_0 t78_0.length co49_0, .slice Ao49_1 t78_1.length co49_1, .slice Ao49_2 t78_2.length co49_2, .int .i64 t49_3, .int .i64 t49_4, .int .i64 t49_5], .int .i64 1]) (by simp only [HL78_0.out, HL78_1.out, HL78_2.out]) ?_; (with_reducible refine (laws_heldUndoOut.calls k _ _ t78_0 _ _ t78_1 _ _ t78_2 t49_3 t49_4 t49_5 1 t117 _ ?s0 ?s1 ?s2 ?s3 ?s4 ?s5 A117.out).mono ?_); (case s0 => exact (Kd.T_reads' HO49_0.out).2.2); (case s1 => exact (fun h_ => h_.1 ▸ h_.2.1) (Kd.T_reads' HO49_0.out)); (case s2 => exact (Kd.T_reads' HO49_1.out).2.2); (case s3 => exact (fun h_ => h_.1 ▸ h_.2.1) (Kd.T_reads' HO49_1.out)); (case s4 => exact (Kd.R_reads' HO49_2.out).2.2); (case s5 => exact (fun h_ => h_.1 ▸ h_.2.1) (Kd.R_reads' HO49_2.out)); rintro e w118 ⟨rfl, hb⟩; refine ⟨_, rfl, ?_⟩; obtain ⟨na117, nb117, ha_, hz_, hab117⟩ := nxt_ hb; have hn117 : nb114 ≤ na117 := (by rw [ha_]; exact HZ.out); replace HOj38_1_0 := am (Kd.S_below HOj38_1_0.out hb); replace HOj38_1_1 := am (Kd.S_below HOj38_1_1.out hb); replace HOj38_3_0 := am (Kd.R_below HOj38_3_0.out hb); replace HOj38_4_0 := am (Kd.T_below HOj38_4_0.out hb); replace HOj38_4_1 := am (Kd.S_below HOj38_4_1.out hb); replace HOj38_4_2 := am (Kd.R_below HOj38_4_2.out hb); replace HO41_0 := am (Kd.S_below HO41_0.out hb); replace HO41_1 := am (Kd.S_below HO41_1.out hb); replace HO45_0 := am (Kd.R_below HO45_0.out hb); replace HO49_0 := am (Kd.T_below HO49_0.out hb); replace HO49_1 := am (Kd.T_below HO49_1.out hb); replace HO49_2 := am (Kd.R_below HO49_2.out hb); replace HO58_0 := am (Kd.S_below HO58_0.out hb); replace HO58_1 := am (Kd.S_below HO58_1.out hb); replace HO65_0 := am (Kd.R_below HO65_0.out hb); replace HOj111_1_0 := am (Kd.S_below HOj111_1_0.out hb); replace HOj111_1_1 := am (Kd.S_below HOj111_1_1.out hb); replace HOj111_3_0 := am (Kd.R_below HOj111_3_0.out hb); replace HOj111_4_0 := am (Kd.T_below HOj111_4_0.out hb); replace HOj111_4_1 := am (Kd.S_below HOj111_4_1.out hb); replace HOj111_4_2 := am (Kd.R_below HOj111_4_2.out hb); replace BKgb1 := am (blk_below BKgb1.out hb); replace BKgb3 := am (blk_below BKgb3.out hb); replace BKgb39 := am (blk_below BKgb39.out hb); replace BKgb43 := am (blk_below BKgb43.out hb); replace BKgb47 := am (blk_below BKgb47.out hb); replace BKgb51 := am (blk_below BKgb51.out hb); replace BKgb112 := am (blk_below BKgb112.out hb); replace HB := am (below_step HB.out hb); replace HZ := am (Nat.le_of_eq hz_); clear hb ha_ hz_ ; clear hcgb1_0 hfgb1_0 hcgb1_1 hfgb1_1 hcgb3_0 hfgb3_0 hcgb3_1 hfgb3_1 hcgb3_2 hfgb3_2 hcgb39_0 hfgb39_0 hcgb39_1 hfgb39_1 hcgb39_2 hfgb39_2 hcgb39_3 hfgb39_3 hcgb39_4 hfgb39_4 hcgb39_5 hfgb39_5 hcgb43_0 hfgb43_0 hcgb43_1 hfgb43_1 hcgb47_0 hfgb47_0 hcgb47_1 hfgb47_1 hcgb47_2 hfgb47_2 hcgb51_0 hfgb51_0 hcgb51_1 hfgb51_1 hcgb51_2 hfgb51_2 hcgb51_3 hfgb51_3 hcgb51_4 hfgb51_4 hcgb51_5 hfgb51_5 hcgb112_0 hfgb112_0 hcgb112_1 hfgb112_1 hcgb112_2 hfgb112_2 hcgb112_3 hfgb112_3 hcgb112_4 hfgb112_4 hcgb112_5 hfgb112_5; have hcgb1_0 : w118.cell? ⟨gb1, 0, none⟩ = some (.slice A0_0 l0_0.length c0_0) := bc BKgb1.out 0; have hfgb1_0 := blk_frozen BKgb1.out 0; have hcgb1_1 : w118.cell? ⟨gb1, 1, none⟩ = some (.slice A0_1 l0_1.length c0_1) := bc BKgb1.out 1; have hfgb1_1 := blk_frozen BKgb1.out 1; have hcgb3_0 : w118.cell? ⟨gb3, 0, none⟩ = some (.slice A1_0 l1_0.length c1_0) := bc BKgb3.out 0; have hfgb3_0 := blk_frozen BKgb3.out 0; have hcgb3_1 : w118.cell? ⟨gb3, 1, none⟩ = some (.int .i64 a1_1) := bc BKgb3.out 1; have hfgb3_1 := blk_frozen BKgb3.out 1; have hcgb3_2 : w118.cell? ⟨gb3, 2, none⟩ = some (.int .i64 a1_2) := bc BKgb3.out 2; have hfgb3_2 := blk_frozen BKgb3.out 2; have hcgb39_0 : w118.cell? ⟨gb39, 0, none⟩ = some (.slice Aoj38_4_0 t16_0.length coj38_4_0) := bc BKgb39.out 0; have hfgb39_0 := blk_frozen BKgb39.out 0; have hcgb39_1 : w118.cell? ⟨gb39, 1, none⟩ = some (.slice Aoj38_4_1 t16_1.length coj38_4_1) := bc BKgb39.out 1; have hfgb39_1 := blk_frozen BKgb39.out 1; have hcgb39_2 : w118.cell? ⟨gb39, 2, none⟩ = some (.slice Aoj38_4_2 t16_2.length coj38_4_2) := bc BKgb39.out 2; have hfgb39_2 := blk_frozen BKgb39.out 2; have hcgb39_3 : w118.cell? ⟨gb39, 3, none⟩ = some (.int .i64 t16_3) := bc BKgb39.out 3; have hfgb39_3 := blk_frozen BKgb39.out 3; have hcgb39_4 : w118.cell? ⟨gb39, 4, none⟩ = some (.int .i64 t16_4) := bc BKgb39.out 4; have hfgb39_4 := blk_frozen BKgb39.out 4; have hcgb39_5 : w118.cell? ⟨gb39, 5, none⟩ = some (.int .i64 t16_5) := bc BKgb39.out 5; have hfgb39_5 := blk_frozen BKgb39.out 5; have hcgb43_0 : w118.cell? ⟨gb43, 0, none⟩ = some (.slice Ao41_0 t41_0.length co41_0) := bc BKgb43.out 0; have hfgb43_0 := blk_frozen BKgb43.out 0; have hcgb43_1 : w118.cell? ⟨gb43, 1, none⟩ = some (.slice Ao41_1 t41_1.length co41_1) := bc BKgb43.out 1; have hfgb43_1 := blk_frozen BKgb43.out 1; have hcgb47_0 : w118.cell? ⟨gb47, 0, none⟩ = some (.slice Ao45_0 t45_0.length co45_0) := bc BKgb47.out 0; have hfgb47_0 := blk_frozen BKgb47.out 0; have hcgb47_1 : w118.cell? ⟨gb47, 1, none⟩ = some (.int .i64 t45_1) := bc BKgb47.out 1; have hfgb47_1 := blk_frozen BKgb47.out 1; have hcgb47_2 : w118.cell? ⟨gb47, 2, none⟩ = some (.int .i64 t45_2) := bc BKgb47.out 2; have hfgb47_2 := blk_frozen BKgb47.out 2; have hcgb51_0 : w118.cell? ⟨gb51, 0, none⟩ = some (.slice Ao49_0 t49_0.length co49_0) := bc BKgb51.out 0; have hfgb51_0 := blk_frozen BKgb51.out 0; have hcgb51_1 : w118.cell? ⟨gb51, 1, none⟩ = some (.slice Ao49_1 t49_1.length co49_1) := bc BKgb51.out 1; have hfgb51_1 := blk_frozen BKgb51.out 1; have hcgb51_2 : w118.cell? ⟨gb51, 2, none⟩ = some (.slice Ao49_2 t49_2.length co49_2) := bc BKgb51.out 2; have hfgb51_2 := blk_frozen BKgb51.out 2; have hcgb51_3 : w118.cell? ⟨gb51, 3, none⟩ = some (.int .i64 t49_3) := bc BKgb51.out 3; have hfgb51_3 := blk_frozen BKgb51.out 3; have hcgb51_4 : w118.cell? ⟨gb51, 4, none⟩ = some (.int .i64 t49_4) := bc BKgb51.out 4; have hfgb51_4 := blk_frozen BKgb51.out 4; have hcgb51_5 : w118.cell? ⟨gb51, 5, none⟩ = some (.int .i64 t49_5) := bc BKgb51.out 5; have hfgb51_5 := blk_frozen BKgb51.out 5; have hcgb112_0 : w118.cell? ⟨gb112, 0, none⟩ = some (.slice Aoj111_4_0 t89_0.length coj111_4_0) := bc BKgb112.out 0; have hfgb112_0 := blk_frozen BKgb112.out 0; have hcgb112_1 : w118.cell? ⟨gb112, 1, none⟩ = some (.slice Aoj111_4_1 t89_1.length coj111_4_1) := bc BKgb112.out 1; have hfgb112_1 := blk_frozen BKgb112.out 1; have hcgb112_2 : w118.cell? ⟨gb112, 2, none⟩ = some (.slice Aoj111_4_2 t89_2.length coj111_4_2) := bc BKgb112.out 2; have hfgb112_2 := blk_frozen BKgb112.out 2; have hcgb112_3 : w118.cell? ⟨gb112, 3, none⟩ = some (.int .i64 t89_3) := bc BKgb112.out 3; have hfgb112_3 := blk_frozen BKgb112.out 3; have hcgb112_4 : w118.cell? ⟨gb112, 4, none⟩ = some (.int .i64 t89_4) := bc BKgb112.out 4; have hfgb112_4 := blk_frozen BKgb112.out 4; have hcgb112_5 : w118.cell? ⟨gb112, 5, none⟩ = some (.int .i64 t89_5) := bc BKgb112.out 5; have hfgb112_5 := blk_frozen BKgb112.out 5))
   go_ret
   exact ⟨by first | rfl | (simp [*]; done), HB.out⟩

/-- THE ONE PURE STATEMENT of laws_FnExactUndoForth. -/
def laws_FnExactUndoForth.Pure : Prop := ∀ (l0_0 : List (S24)) (l0_1 : List (S24)) (l1_0 : List Int) (a1_1 : Int) (a1_2 : Int), ((l0_0.length ≤ maxLen ∧ ∀ y0_ ∈ l0_0, ((y0_.f0.length ≤ maxLen ∧ ∀ y1_ ∈ y0_.f0, (Lit.int .i64 y1_).wf = true) ∧ (Lit.int .i64 y0_.f1).wf = true ∧ (Lit.int .i64 y0_.f2).wf = true)) ∧ (l0_1.length ≤ maxLen ∧ ∀ y2_ ∈ l0_1, ((y2_.f0.length ≤ maxLen ∧ ∀ y3_ ∈ y2_.f0, (Lit.int .i64 y3_).wf = true) ∧ (Lit.int .i64 y2_.f1).wf = true ∧ (Lit.int .i64 y2_.f2).wf = true))) → ((l1_0.length ≤ maxLen ∧ ∀ y4_ ∈ l1_0, (Lit.int .i64 y4_).wf = true) ∧ (Lit.int .i64 a1_1).wf = true ∧ (Lit.int .i64 a1_2).wf = true) → ∃ k, laws_FnExactUndoForth.f k l0_0 l0_1 l1_0 a1_1 a1_2 = some true

end Go.Proofs.Ytkplopkhdejleaa.PFnExactUndoForth
