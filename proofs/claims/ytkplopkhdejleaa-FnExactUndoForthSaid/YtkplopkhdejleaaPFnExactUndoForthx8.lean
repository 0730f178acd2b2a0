-- Written by xprint.py (this claim's own program, over the kit's printer); Lean checks it.
import Derived.Test.YtkplopkhdejleaaPFnExactUndoForthx0
import Derived.Test.YtkplopkhdejleaaPFnExactUndoForthx7
namespace Go.Proofs.Ytkplopkhdejleaa.PFnExactUndoForth
open Go.RowKit Go.Proofs.YtkplopkhdejleaaW.PrintWords Go.Proofs.YtkplopkhdejleaaW.PrintLast Go.Proofs.YtkplopkhdejleaaW.PrintMore
attribute [local go_sem] max2_int min2_int max_two min_two max_three min_three max_four min_four   -- for this text's walks alone
set_option linter.unusedVariables false
set_option linter.unusedSimpArgs false   -- squeezed
set_option maxHeartbeats 8000000
set_option maxRecDepth 100000

/-! ### impl_UndoRight: function 51 -/
def impl_UndoRight.f (k : Nat) (l0_0 : List (S31)) (l0_1 : List (S31)) : Option (Bool) := (impl_areBufs.f k l0_0).bind fun t272 => (if t272 = true then ((impl_areBufs.f k l0_1).bind fun t273 => (some t273)) else (some false))
theorem impl_UndoRight.mono : ∀ a0 a1 k, LeO (impl_UndoRight.f k a0 a1) (impl_UndoRight.f (k + 1) a0 a1) := by
 intro a0 a1 k
 unfold impl_UndoRight.f
 repeat' first
   | (with_reducible exact impl_areBufs.mono _ _)
   | (with_reducible exact LeO.refl _)
   | (with_reducible exact LeO.none _)
   | (with_reducible refine LeO.ite ?_ ?_)
   | (with_reducible refine LeO.bind ?_ (fun _ => ?_))
   | exact impl_areBufs.mono _ _
   | refine LeO.bind ?_ (fun _ => ?_)
theorem impl_UndoRight.calls (k : Nat) (A0_0 : Option Addr) (c0_0 : Nat) (l0_0 : List (S31)) (A0_1 : Option Addr) (c0_1 : Nat) (l0_1 : List (S31)) (r : Bool) (w : World) (hr0_0 : Kd.C k31 w A0_0 l0_0.length l0_0) (hc0_0 : l0_0.length ≤ c0_0) (hr0_1 : Kd.C k31 w A0_1 l0_1.length l0_1) (hc0_1 : l0_1.length ≤ c0_1) (h : impl_UndoRight.f k l0_0 l0_1 = some r) :
  Calls Try.prog 51 #[.agg #[.slice A0_0 l0_0.length c0_0, .slice A0_1 l0_1.length c0_1]] w fun e w' => e = .returned (.bool r) ∧ Below w.heap.size w w' := by
 have hu30 := Try.underlying30
 have HR0_0 := am hr0_0
 have HC0_0 := am hc0_0
 clear hr0_0 hc0_0
 have HR0_1 := am hr0_1
 have HC0_1 := am hc0_1
 clear hr0_1 hc0_1
 have HB := am (Below.refl w.heap.size w)
 have H : ((impl_areBufs.f k l0_0).bind fun t272 => (if t272 = true then ((impl_areBufs.f k l0_1).bind fun t273 => (some t273)) else (some false))) = some r := h
 clear h
 replace H := Option.bind_eq_some_iff.mp H
 obtain ⟨t272, A20, H⟩ := H
 replace H : (if t272 = true then ((impl_areBufs.f k l0_1).bind fun t273 => (some t273)) else (some false)) = some r := H
 have A2 := Aside0.mk A20
 clear A20
 by_cases c3 : t272 = true
 ·subst c3
  have H1 : ((impl_areBufs.f k l0_1).bind fun t273 => (some t273)) = some r := by rw [if_pos rfl] at H; exact H
  clear H
  have H := H1
  clear H1
  replace H := Option.bind_eq_some_iff.mp H
  obtain ⟨t273, A40, H⟩ := H
  replace H : (some t273) = some r := H
  have A4 := Aside0.mk A40
  clear A40
  obtain rfl := Option.some.inj H
  go_enter Try.func51, Try.ntmps51
  go_wp2_with (first | ((with_reducible refine gate_dst (N := 1) rfl ?_); refine box_event ?hg (N := 1) ?hd (cs := #[.slice A0_0 l0_0.length c0_0, .slice A0_1 l0_1.length c0_1]) (t := 30) ?hr ?_; (case hd => rfl); (case hg => rfl); (case hr => first | (go_simp; done) | (go_simp; rfl)); intro gb271 hg w5 hbox hb; have BK271 := am (hbox); have GW271 := am ((by rw [hg]; exact (below_size (bl HB.out)) : w.heap.size ≤ gb271)); have GE271 := GW271; replace HB := am (below_step (bl HB.out) hb); clear hb hbox hg; have hcz6_0 : w5.cell? ⟨gb271, 0, none⟩ = some (.slice A0_0 l0_0.length c0_0) := bc BK271.out 0; have hcz6_1 : w5.cell? ⟨gb271, 1, none⟩ = some (.slice A0_1 l0_1.length c0_1) := bc BK271.out 1) | ((with_reducible refine gate_callee (f := 73) rfl ?_); refine gl (some 5) Try.func73 #[.slice A0_0 l0_0.length c0_0] ?_; (with_reducible refine (impl_areBufs.calls k _ _ l0_0 true _ ?side1 ?side2 A2.out).mono ?_); (case side1 => repeat (first | exact (Kd.C_below HR0_0.out HB.out) | (with_reducible refine Kd.C_alloc ?_ _) | (with_reducible refine Kd.C_drewN ?_ _) | (with_reducible refine Kd.C_drew ?_))); (case side2 => exact HC0_0.out); rintro e w7 ⟨rfl, hb⟩; refine ⟨_, rfl, ?_⟩; replace BK271 := am (blk_below (pk BK271.out) hb); replace HB := am (below_step (bl HB.out) hb); (try clear hb); (try clear hb2); (try clear hk); (try clear hi); have hcz8_0 : w7.cell? ⟨gb271, 0, none⟩ = some (.slice A0_0 l0_0.length c0_0) := bc BK271.out 0; have hcz8_1 : w7.cell? ⟨gb271, 1, none⟩ = some (.slice A0_1 l0_1.length c0_1) := bc BK271.out 1) | (go_at_call 73; (with_reducible refine (impl_areBufs.calls k _ _ l0_1 t273 _ ?side1 ?side2 A4.out).mono ?_); (case side1 => repeat (first | exact (Kd.C_below HR0_1.out HB.out) | (with_reducible refine Kd.C_alloc ?_ _) | (with_reducible refine Kd.C_drewN ?_ _) | (with_reducible refine Kd.C_drew ?_))); (case side2 => exact HC0_1.out); rintro e w9 ⟨rfl, hb⟩; replace BK271 := am (blk_below (pk BK271.out) hb); replace HB := am (below_step (bl HB.out) hb); (try clear hb); (try clear hb2); (try clear hk); (try clear hi)))
  go_ret
  exact ⟨by first | rfl | (simp [errW_none, errW_some] <;> rfl) | (simp [*, errW_none, errW_some] <;> rfl), by repeat (first | (with_reducible first | exact HB.out | apply below_alloc | apply pw_below_drewN | apply below_drew1 | refine below_set ?_ GE271.out) | exact HB.out)⟩
 ·replace c3 := Bool.eq_false_iff.mpr c3
  subst c3
  have H1 : (some false) = some r := by rw [if_neg (show ¬ (false = true) by decide)] at H; exact H
  clear H
  have H := H1
  clear H1
  obtain rfl := Option.some.inj H
  go_enter Try.func51, Try.ntmps51
  go_wp2_with (first | ((with_reducible refine gate_dst (N := 1) rfl ?_); refine box_event ?hg (N := 1) ?hd (cs := #[.slice A0_0 l0_0.length c0_0, .slice A0_1 l0_1.length c0_1]) (t := 30) ?hr ?_; (case hd => rfl); (case hg => rfl); (case hr => first | (go_simp; done) | (go_simp; rfl)); intro gb271 hg w10 hbox hb; have BK271 := am (hbox); have GW271 := am ((by rw [hg]; exact (below_size (bl HB.out)) : w.heap.size ≤ gb271)); have GE271 := GW271; replace HB := am (below_step (bl HB.out) hb); clear hb hbox hg; have hcz11_0 : w10.cell? ⟨gb271, 0, none⟩ = some (.slice A0_0 l0_0.length c0_0) := bc BK271.out 0; have hcz11_1 : w10.cell? ⟨gb271, 1, none⟩ = some (.slice A0_1 l0_1.length c0_1) := bc BK271.out 1) | ((with_reducible refine gate_callee (f := 73) rfl ?_); refine gl (some 5) Try.func73 #[.slice A0_0 l0_0.length c0_0] ?_; (with_reducible refine (impl_areBufs.calls k _ _ l0_0 false _ ?side1 ?side2 A2.out).mono ?_); (case side1 => repeat (first | exact (Kd.C_below HR0_0.out HB.out) | (with_reducible refine Kd.C_alloc ?_ _) | (with_reducible refine Kd.C_drewN ?_ _) | (with_reducible refine Kd.C_drew ?_))); (case side2 => exact HC0_0.out); rintro e w12 ⟨rfl, hb⟩; refine ⟨_, rfl, ?_⟩; replace BK271 := am (blk_below (pk BK271.out) hb); replace HB := am (below_step (bl HB.out) hb); (try clear hb); (try clear hb2); (try clear hk); (try clear hi)))
  go_ret
  exact ⟨by first | rfl | (simp [errW_none, errW_some] <;> rfl) | (simp [*, errW_none, errW_some] <;> rfl), by repeat (first | (with_reducible first | exact HB.out | apply below_alloc | apply pw_below_drewN | apply below_drew1 | refine below_set ?_ GE271.out) | exact HB.out)⟩

/-! ### impl_ownBufs: function 67 -/
def impl_ownBufs.l0 : Nat → List (S31) → List (S31) → Int → Int → Option ((List (S31)))
 | 0, _, _, _, _ => none
 | k + 1, x3, x7, x8, x9 => if x9 < x8 then (if 0 ≤ x9 then (if x9 < (x7.length : Int) then ((impl_ownBuf.f ((rd_T31 x7 x9).f0) ((rd_T31 x7 x9).f1) ((rd_T31 x7 x9).f2)).bind fun bt279 => (if x3.length < 3518437208883 then (impl_ownBufs.l0 k (x3 ++ [(⟨bt279.1, bt279.2.1, bt279.2.2⟩ : S31)]) x7 x8 (wrap64 (x9 + 1))) else (none))) else (none)) else (none)) else (some x3)
def impl_ownBufs.f (k : Nat) (l0 : List (S31)) : Option ((List (S31))) := impl_ownBufs.l0 k (([] : List (S31))) l0 (l0.length : Int) 0
theorem impl_ownBufs.mono_l : ∀ k, (∀ y0 y1 y2 y3, LeO (impl_ownBufs.l0 k y0 y1 y2 y3) (impl_ownBufs.l0 (k + 1) y0 y1 y2 y3))
 | 0 => fun _ _ _ _ r h => by simp [impl_ownBufs.l0] at h
 | k + 1 => by
  have ih0 := impl_ownBufs.mono_l k
  ·intro y0 y1 y2 y3
   unfold impl_ownBufs.l0
   repeat' first
   | (with_reducible exact ih0 _ _ _ _)
   | (with_reducible exact LeO.refl _)
   | (with_reducible exact LeO.none _)
   | (with_reducible refine LeO.ite ?_ ?_)
   | (with_reducible refine LeO.bind ?_ (fun _ => ?_))
   | exact ih0 _ _ _ _
   | refine LeO.bind ?_ (fun _ => ?_)
theorem impl_ownBufs.mono : ∀ a0 k, LeO (impl_ownBufs.f k a0) (impl_ownBufs.f (k + 1) a0) := by
 intro a0 k
 have ih0 := impl_ownBufs.mono_l k
 unfold impl_ownBufs.f
 repeat' first
   | (with_reducible exact ih0 _ _ _ _)
   | (with_reducible exact LeO.refl _)
   | (with_reducible exact LeO.none _)
   | (with_reducible refine LeO.ite ?_ ?_)
   | (with_reducible refine LeO.bind ?_ (fun _ => ?_))
   | exact ih0 _ _ _ _
   | refine LeO.bind ?_ (fun _ => ?_)
theorem impl_ownBufs.calls (k : Nat) (A0 : Option Addr) (c0 : Nat) (l0 : List (S31)) (r : List (S31)) (w : World) (hr0 : Kd.C k31 w A0 l0.length l0) (hc0 : l0.length ≤ c0) (h : impl_ownBufs.f k l0 = some r) :
  Calls Try.prog 67 #[.slice A0 l0.length c0] w fun e w' => ∃ v0_ : Value, e = .returned (v0_) ∧ Kd.S k31 31 w' w.heap.size (fun _ => True) v0_ r ∧ Below w.heap.size w w' := by
 have hu31 := Try.underlying31
 have HR0 := am hr0
 have HC0 := am hc0
 clear hr0 hc0
 have HB := am (Below.refl w.heap.size w)
 have H : (impl_ownBufs.l0 k (([] : List (S31))) l0 (l0.length : Int) 0) = some r := h
 clear h
 obtain ⟨y274, hy274⟩ : ∃ y_ : List (S31), y_ = (([] : List (S31))) := ⟨_, rfl⟩
 replace H : (impl_ownBufs.l0 k y274 l0 (l0.length : Int) 0) = some r := by first | (rw [hy274]; with_reducible exact H) | (have H2_ := (Option.bind_some _ _).symm.trans H; rw [hy274]; with_reducible exact H2_) | (have H2_ := (Option.bind_some _ _).symm.trans H; with_reducible exact H2_) | with_reducible exact H | (rw [hy274]; exact H) | exact H
 have Ny274 := am hy274
 clear hy274
 have H' := Aside0.mk H
 clear H
 go_enter Try.func67, Try.ntmps67
 go_wp2_with (first | ((with_reducible refine gate_dst (N := 6) rfl ?_); refine Kd.S_lit k31 _ 31 ?hg (N := 6) ?hd (xs := ([] : List (S31))) (inner := []) (ok := fun _ => True) (okp := fun _ => True) ?hr ?hp (fun _ hk => hk) trivial (Below.refl _ _) (Nat.le_refl _) (by simp) ?_; (case hd => rfl); (case hg => rfl); (case hr => first | (go_simp; done) | (go_simp; rfl)); (case hp => exact (Reps.none _ _)); intro v275 w2 ho3 hb hg_ hnew_; clear hg_ hnew_; (first | rw [← Ny274.out] at ho3 | (simp only [Int.reduceToNat] at ho3; rw [← Ny274.out] at ho3)); have HO276 := am (Kd.S_lower ho3 (below_size (bl HB.out))); replace HB := am (below_step (bl HB.out) hb); clear hb ho3))
 go_loopg [3, 9] k (fun kq v3 v9 w' => ∃ (x3_1 : List (S31)) (x9_1 : Int), v9 = .int .i64 x9_1 ∧ Aside0 (impl_ownBufs.l0 kq x3_1 l0 (l0.length : Int) x9_1 = some r) ∧ Aside0 (kq ≤ k) ∧ Aside0 (Kd.S k31 31 w' w.heap.size (fun _ => True) v3 x3_1) ∧ Aside0 (Below w.heap.size w w'))
 case atStart => exact ⟨(y274), (0), (by first | rfl | (simp; done) | (simp [*]; done)), H', ⟨Nat.le_refl _⟩, ⟨ks HO276.out⟩, ⟨by repeat (first | (with_reducible first | exact HB.out | apply below_alloc | apply pw_below_drewN | apply below_drew1) | exact HB.out)⟩⟩
 case round =>
  clear H'
  try clear p2
  obtain ⟨x3_1, x9_1, rfl, HA, HK1, HO_3, HB⟩ := hrel
  cases gk with
  | zero => exact absurd HA.out (by simp [impl_ownBufs.l0])
  | succ k1 =>
   have H := HA.out
   clear HA
   simp only [impl_ownBufs.l0] at H
   by_cases c4 : x9_1 < (l0.length : Int)
   ·rw [if_pos c4] at H
    have c4b0 : decide (x9_1 < (l0.length : Int)) = true := decide_eq_true c4
    clear c4
    by_cases c5 : 0 ≤ x9_1
    ·rw [if_pos c5] at H
     have c5b0 : decide (0 ≤ x9_1) = true := decide_eq_true c5
     clear c5
     by_cases c6 : x9_1 < (l0.length : Int)
     ·rw [if_pos c6] at H
      have c6b0 : decide (x9_1 < (l0.length : Int)) = true := decide_eq_true c6
      clear c6
      replace H := Option.bind_eq_some_iff.mp H
      obtain ⟨⟨t279, t282, t283⟩, A70, H⟩ := H
      replace H : (if x3_1.length < 3518437208883 then (impl_ownBufs.l0 k1 (x3_1 ++ [(⟨t279, t282, t283⟩ : S31)]) l0 (l0.length : Int) (wrap64 (x9_1 + 1))) else (none)) = some r := H
      have A7 := Aside0.mk A70
      clear A70
      by_cases c8 : x3_1.length < 3518437208883
      ·rw [if_pos c8] at H
       have LMc8 := Aside0.mk c8
       clear c8
       obtain ⟨y284, hy284⟩ : ∃ y_ : List (S31), y_ = (x3_1 ++ [(⟨t279, t282, t283⟩ : S31)]) := ⟨_, rfl⟩
       replace H : (impl_ownBufs.l0 k1 y284 l0 (l0.length : Int) (wrap64 (x9_1 + 1))) = some r := by first | (rw [hy284]; with_reducible exact H) | (have H2_ := (Option.bind_some _ _).symm.trans H; rw [hy284]; with_reducible exact H2_) | (have H2_ := (Option.bind_some _ _).symm.trans H; with_reducible exact H2_) | with_reducible exact H | (rw [hy284]; exact H) | exact H
       have Ny284 := am hy284
       clear hy284
       have H' := Aside0.mk H
       clear H
       have p277 : 0 ≤ (x9_1 : Int) := of_decide_eq_true (by first | (with_reducible assumption) | assumption)
       have q277 : x9_1 < (l0.length : Int) := of_decide_eq_true (by first | (with_reducible assumption) | assumption)
       obtain ⟨ad277, A277_0, c277_0, e277, hx277_0, hx277_1, hx277_2, hl277_0, hi277_0⟩ := at_T31 HR0.out x9_1 p277 q277
       cases e277
       have hxw277_0 := hx277_0
       replace hx277_0 := (HB.out.cell (World.block_lt_of_cell? w _ hx277_0)).trans hx277_0
       have hxw277_1 := hx277_1
       replace hx277_1 := (HB.out.cell (World.block_lt_of_cell? w _ hx277_1)).trans hx277_1
       have hxw277_2 := hx277_2
       replace hx277_2 := (HB.out.cell (World.block_lt_of_cell? w _ hx277_2)).trans hx277_2
       have HR277_0 := am hi277_0
       have HC277_0 := am hl277_0
       clear hi277_0 hl277_0
       replace p277 := eq_true p277
       replace q277 := eq_true q277
       go_wp2_with (first | ((with_reducible refine gate_dst (N := 5) rfl ?_); refine box_event ?hg (N := 5) ?hd (cs := #[.slice none 0 0, .int .i64 0, .int .i64 0]) (t := 31) ?hr ?_; (case hd => rfl); (case hg => rfl); (case hr => first | (go_simp; done) | (go_simp; rfl)); intro gb278 hg w9 hbox hb; replace HO_3 := am (Kd.S_below (Kd.S_elderB (ks HO_3.out) gb278 (Nat.le_of_eq hg.symm)) hb); have BK278 := am (hbox); have GW278 := am ((by rw [hg]; exact (below_size (bl HB.out)) : w.heap.size ≤ gb278)); have GE278 := GW278; replace HB := am (below_step (bl HB.out) hb); clear hb hbox hg; have hcz10_0 : w9.cell? ⟨gb278, 0, none⟩ = some (.slice none 0 0) := bc BK278.out 0; have hcz10_1 : w9.cell? ⟨gb278, 1, none⟩ = some (.int .i64 0) := bc BK278.out 1; have hcz10_2 : w9.cell? ⟨gb278, 2, none⟩ = some (.int .i64 0) := bc BK278.out 2; have hfz10_0 := blk_frozen BK278.out 0; have hfz10_1 := blk_frozen BK278.out 1; have hfz10_2 := blk_frozen BK278.out 2) | ((with_reducible refine gate_callee (f := 40) rfl ?_); refine gl (some 15) Try.func40 #[.agg #[.slice A277_0 ((rd_T31 l0 x9_1).f0).length c277_0, .int .i64 ((rd_T31 l0 x9_1).f1), .int .i64 ((rd_T31 l0 x9_1).f2)]] ?_; (with_reducible refine (impl_ownBuf.calls _ _ ((rd_T31 l0 x9_1).f0) ((rd_T31 l0 x9_1).f1) ((rd_T31 l0 x9_1).f2) t279 t282 t283 _ ?side1 ?side2 A7.out).mono ?_); (case side1 => exact Kd.C_below HR277_0.out (bl HB.out)); (case side2 => exact HC277_0.out); rintro e w11 ⟨v280, rfl, ho0, hb⟩; refine ⟨_, rfl, ?_⟩; replace HO_3 := am (Kd.S_elder' (ks ((Kd.S_mono (Kd.S_far (p := ⟨gb278, 2, none⟩) (Kd.S_far (p := ⟨gb278, 1, none⟩) (Kd.S_far (p := ⟨gb278, 0, none⟩) (Kd.S_mono HO_3.out (fun k_ hk => (⟨hk, hk.2⟩ : _ ∧ k_ ≠ gb278))) (fun _ hk => hk.2) (.slice A277_0 ((rd_T31 l0 x9_1).f0).length c277_0)) (fun _ hk => hk.2) (.int .i64 ((rd_T31 l0 x9_1).f1))) (fun _ hk => hk.2) (.int .i64 ((rd_T31 l0 x9_1).f2))) (fun _ h_ => h_.1)))) (Kd.R_base ho0) hb); have HO281 := am (Kd.R_lower ho0 (below_size (bl HB.out))); replace BK278 := am (blk_below (g := gb278) (o := .cells #[.slice A277_0 ((rd_T31 l0 x9_1).f0).length c277_0, .int .i64 ((rd_T31 l0 x9_1).f1), .int .i64 ((rd_T31 l0 x9_1).f2)] 31 (0, 0)) (by refine pk ?_; refine blk_put (cs := #[.slice A277_0 ((rd_T31 l0 x9_1).f0).length c277_0, .int .i64 ((rd_T31 l0 x9_1).f1), .int .i64 0]) ?_ 2 _ rfl; refine pk ?_; refine blk_put (cs := #[.slice A277_0 ((rd_T31 l0 x9_1).f0).length c277_0, .int .i64 0, .int .i64 0]) ?_ 1 _ rfl; refine pk ?_; refine blk_put (cs := #[.slice none 0 0, .int .i64 0, .int .i64 0]) ?_ 0 _ rfl; refine pk ?_; exact BK278.out) hb); replace HB := am (below_step (bl HB.out) hb); (try clear hb); (try clear hb2); (try clear hk); (try clear hi); (try clear ho0); obtain ⟨Ao13, co13, eo13⟩ := Kd.R_slice HO281.out; subst eo13) | ((with_reducible refine gate_builtin (b := .append) (xs := #[.tmp 13, .tmp 16]) rfl ?_); at_builtin; refine Kd.S_append k31 (w0 := w) w.heap.size rfl (.tmp 13) (.tmp 16) 28 31 (.agg #[(.slice none 0 0), (.int .i64 0), (.int .i64 0)]) 40 rfl Try.underlying28 info31 rfl (by decide) (by omega) u3 x3_1 (⟨t279, t282, t283⟩ : S31) [.slice Ao13 t279.length co13, .int .i64 t282, .int .i64 t283] (fun k_ => k_ ≠ gb278) (fun k_ => some k_ = (.slice Ao13 t279.length co13 : Value).ownBlock) rfl rfl ?aP (fun k_ hk_ => ((Kd.R_mono (ok' := fun k_ => ((fun k_ => k_ ≠ gb278)) k_ ∧ some k_ ≠ (u3 : Value).ownBlock) (Kd.R_types (Kd.R_apart' (HO281.out) (Kd.S_typed HO_3.out) (by decide)) BK278.out (by decide)) (fun k_ hk => ⟨hk.2, hk.1.2⟩))).1 k_ hk_.symm) ?aF ?aO ?aB ?aS ?aL ?_; (case aP => exact k31_mkM _ _ _ (⟨t279, t282, t283⟩ : S31) (Kd.R_mono (Kd.R_tight rfl (Kd.R_mono (ok' := fun k_ => ((fun k_ => k_ ≠ gb278)) k_ ∧ some k_ ≠ (u3 : Value).ownBlock) (Kd.R_types (Kd.R_apart' (HO281.out) (Kd.S_typed HO_3.out) (by decide)) BK278.out (by decide)) (fun k_ hk => ⟨hk.2, hk.1.2⟩))) (fun _ h_ => h_))); (case aB => exact (bl HB.out)); (case aF => exact (fun k_ hk => Kd.freshB (g := gb278) (o := .cells #[.slice A277_0 ((rd_T31 l0 x9_1).f0).length c277_0, .int .i64 ((rd_T31 l0 x9_1).f1), .int .i64 ((rd_T31 l0 x9_1).f2)] 31 (0, 0)) (pk BK278.out) k_ hk)); (case aO => exact (ks (Kd.S_mono HO_3.out (fun k_ hk => ⟨hk.1.2, fun e_ => hk.2 e_⟩)))); (case aS => exact (below_size (bl HB.out))); (case aL => have := LMc8.out; omega); intro v285 w12 ho hb hg hat; rw [← Ny284.out] at ho; replace BK278 := am (blk_grown (g := gb278) (o := .cells #[.slice A277_0 ((rd_T31 l0 x9_1).f0).length c277_0, .int .i64 ((rd_T31 l0 x9_1).f1), .int .i64 ((rd_T31 l0 x9_1).f2)] 31 (0, 0)) (pk BK278.out) hg (Kd.S_away HO_3.out (fun _ hk => hk.1.2))); replace HB := am (hb); have HO286 := am (ho); clear HO_3 HO281; clear ho hb hg hat))
       go_roundg k1
       case measure => have := HK1.out; omega
       case rel => exact ⟨(y284), (wrap64 (x9_1 + 1)), (by first | rfl | (simp; done) | (simp [*]; done)), H', ⟨by have := HK1.out; omega⟩, ⟨ks (Kd.S_mono HO286.out (fun _ hk => trivial))⟩, ⟨by repeat (first | (with_reducible first | exact HB.out | apply below_alloc | apply pw_below_drewN | apply below_drew1 | refine below_set ?_ GE278.out) | exact HB.out)⟩⟩
      ·rw [if_neg c8] at H
       exact absurd H (by simp)
     ·rw [if_neg c6] at H
      exact absurd H (by simp)
    ·rw [if_neg c5] at H
     exact absurd H (by simp)
   ·rw [if_neg c4] at H
    have c4b0 : decide (x9_1 < (l0.length : Int)) = false := decide_eq_false c4
    clear c4
    obtain rfl := Option.some.inj H
    go_wp2
    go_ret
    exact ⟨_, by first | rfl | (simp [errW_none, errW_some] <;> rfl) | (simp [*, errW_none, errW_some] <;> rfl), ks HO_3.out, by repeat (first | (with_reducible first | exact HB.out | apply below_alloc | apply pw_below_drewN | apply below_drew1) | exact HB.out)⟩

/-! ### impl_behindBufs: function 53 -/
def impl_behindBufs.f (k : Nat) (l0 : List (S31)) (l1_0 : List Int) (a1_1 : Int) (a1_2 : Int) : Option ((List (S31))) := (impl_ownBufs.f k l0).bind fun t288 => ((impl_ownBuf.f l1_0 a1_1 a1_2).bind fun bt291 => (if t288.length < 3518437208883 then ((some (t288 ++ [(⟨bt291.1, bt291.2.1, bt291.2.2⟩ : S31)] : List (S31))).bind fun y296 => (if 0 ≤ (mx (wrap64 ((y296.length : Int) - 20)) 0) then (if (mx (wrap64 ((y296.length : Int) - 20)) 0) ≤ (y296.length : Int) then (some (y296.drop ((mx (wrap64 ((y296.length : Int) - 20)) 0) : Int).toNat)) else (none)) else (none))) else (none)))
theorem impl_behindBufs.mono : ∀ a0 a1 a2 a3 k, LeO (impl_behindBufs.f k a0 a1 a2 a3) (impl_behindBufs.f (k + 1) a0 a1 a2 a3) := by
 intro a0 a1 a2 a3 k
 unfold impl_behindBufs.f
 repeat' first
   | (with_reducible exact impl_ownBufs.mono _ _)
   | (with_reducible exact LeO.refl _)
   | (with_reducible exact LeO.none _)
   | (with_reducible refine LeO.ite ?_ ?_)
   | (with_reducible refine LeO.bind ?_ (fun _ => ?_))
   | exact impl_ownBufs.mono _ _
   | refine LeO.bind ?_ (fun _ => ?_)
theorem impl_behindBufs.calls (k : Nat) (A0 : Option Addr) (c0 : Nat) (l0 : List (S31)) (A1_0 : Option Addr) (c1_0 : Nat) (l1_0 : List Int) (a1_1 : Int) (a1_2 : Int) (r : List (S31)) (w : World) (hr0 : Kd.C k31 w A0 l0.length l0) (hc0 : l0.length ≤ c0) (hr1_0 : Kd.C (Kd.int .i64) w A1_0 l1_0.length l1_0) (hc1_0 : l1_0.length ≤ c1_0) (h : impl_behindBufs.f k l0 l1_0 a1_1 a1_2 = some r) :
  Calls Try.prog 53 #[.slice A0 l0.length c0, .agg #[.slice A1_0 l1_0.length c1_0, .int .i64 a1_1, .int .i64 a1_2]] w fun e w' => ∃ v0_ : Value, e = .returned (v0_) ∧ Kd.T k31 31 w' w.heap.size (fun _ => True) v0_ r ∧ Below w.heap.size w w' := by
 have hu31 := Try.underlying31
 have HR0 := am hr0
 have HC0 := am hc0
 clear hr0 hc0
 have HR1_0 := am hr1_0
 have HC1_0 := am hc1_0
 clear hr1_0 hc1_0
 have HB := am (Below.refl w.heap.size w)
 have H : ((impl_ownBufs.f k l0).bind fun t288 => ((impl_ownBuf.f l1_0 a1_1 a1_2).bind fun bt291 => (if t288.length < 3518437208883 then ((some (t288 ++ [(⟨bt291.1, bt291.2.1, bt291.2.2⟩ : S31)] : List (S31))).bind fun y296 => (if 0 ≤ (mx (wrap64 ((y296.length : Int) - 20)) 0) then (if (mx (wrap64 ((y296.length : Int) - 20)) 0) ≤ (y296.length : Int) then (some (y296.drop ((mx (wrap64 ((y296.length : Int) - 20)) 0) : Int).toNat)) else (none)) else (none))) else (none)))) = some r := h
 clear h
 replace H := Option.bind_eq_some_iff.mp H
 obtain ⟨t288, A30, H⟩ := H
 replace H : ((impl_ownBuf.f l1_0 a1_1 a1_2).bind fun bt291 => (if t288.length < 3518437208883 then ((some (t288 ++ [(⟨bt291.1, bt291.2.1, bt291.2.2⟩ : S31)] : List (S31))).bind fun y296 => (if 0 ≤ (mx (wrap64 ((y296.length : Int) - 20)) 0) then (if (mx (wrap64 ((y296.length : Int) - 20)) 0) ≤ (y296.length : Int) then (some (y296.drop ((mx (wrap64 ((y296.length : Int) - 20)) 0) : Int).toNat)) else (none)) else (none))) else (none))) = some r := H
 have A3 := Aside0.mk A30
 clear A30
 replace H := Option.bind_eq_some_iff.mp H
 obtain ⟨⟨t291, t294, t295⟩, A40, H⟩ := H
 replace H : (if t288.length < 3518437208883 then ((some (t288 ++ [(⟨t291, t294, t295⟩ : S31)] : List (S31))).bind fun y296 => (if 0 ≤ (mx (wrap64 ((y296.length : Int) - 20)) 0) then (if (mx (wrap64 ((y296.length : Int) - 20)) 0) ≤ (y296.length : Int) then (some (y296.drop ((mx (wrap64 ((y296.length : Int) - 20)) 0) : Int).toNat)) else (none)) else (none))) else (none)) = some r := H
 have A4 := Aside0.mk A40
 clear A40
 by_cases c5 : t288.length < 3518437208883
 ·rw [if_pos c5] at H
  have LMc5 := Aside0.mk c5
  clear c5
  obtain ⟨y296, hy296⟩ : ∃ y_ : List (S31), y_ = (t288 ++ [(⟨t291, t294, t295⟩ : S31)]) := ⟨_, rfl⟩
  replace H : (if 0 ≤ (mx (wrap64 ((y296.length : Int) - 20)) 0) then (if (mx (wrap64 ((y296.length : Int) - 20)) 0) ≤ (y296.length : Int) then (some (y296.drop ((mx (wrap64 ((y296.length : Int) - 20)) 0) : Int).toNat)) else (none)) else (none)) = some r := by first | (rw [hy296]; with_reducible exact H) | (have H2_ := (Option.bind_some _ _).symm.trans H; rw [hy296]; with_reducible exact H2_) | (have H2_ := (Option.bind_some _ _).symm.trans H; with_reducible exact H2_) | with_reducible exact H | (rw [hy296]; exact H) | exact H
  have Ny296 := am hy296
  clear hy296
  obtain ⟨ji6, hji6⟩ : ∃ j_ : Int, (mx (wrap64 ((y296.length : Int) - 20)) 0) = j_ := ⟨_, rfl⟩
  replace H : (if 0 ≤ (ji6) then (if (ji6) ≤ (y296.length : Int) then (some (y296.drop ((ji6) : Int).toNat)) else (none)) else (none)) = some r := by first | (rw [hji6] at H; exact H) | (simp only [hji6] at H ⊢; exact H)
  (try rw [hji6] at A3)
  (try rw [hji6] at A4)
  (try (have hji6l : 0 ≤ ji6 := by (rw [← hji6]; unfold mx; (repeat' split) <;> omega)))
  (try (have hji6m : 0 ≤ ji6 := by omega))
  have hji6_ : (if (wrap64 ((y296.length : Int) - 20)) < 0 then 0 else (wrap64 ((y296.length : Int) - 20))) = ji6 := hji6
  by_cases c7 : 0 ≤ (ji6)
  ·rw [if_pos c7] at H
   have c7b0 := eq_true c7
   have c7b1 : decide (0 ≤ (ji6)) = true := decide_eq_true c7
   clear c7
   by_cases c8 : (ji6) ≤ (y296.length : Int)
   ·rw [if_pos c8] at H
    have c8b0 := eq_true c8
    have c8b1 : decide ((ji6) ≤ (y296.length : Int)) = true := decide_eq_true c8
    clear c8
    obtain ⟨y299, hy299⟩ : ∃ y_ : List (S31), y_ = (y296.drop ((ji6) : Int).toNat) := ⟨_, rfl⟩
    replace H : (some y299) = some r := by first | (rw [hy299]; with_reducible exact H) | (have H2_ := (Option.bind_some _ _).symm.trans H; rw [hy299]; with_reducible exact H2_) | (have H2_ := (Option.bind_some _ _).symm.trans H; with_reducible exact H2_) | with_reducible exact H | (rw [hy299]; exact H) | exact H
    have Ny299 := am hy299
    clear hy299
    obtain rfl := Option.some.inj H
    go_enter Try.func53, Try.ntmps53
    try go_wp2_with (first | ((with_reducible refine gate_dst (N := 3) rfl ?_); refine box_event ?hg (N := 3) ?hd (cs := #[.slice A1_0 l1_0.length c1_0, .int .i64 a1_1, .int .i64 a1_2]) (t := 31) ?hr ?_; (case hd => rfl); (case hg => rfl); (case hr => first | (go_simp; done) | (go_simp; rfl)); intro gb287 hg w9 hbox hb; have BK287 := am (hbox); have GW287 := am ((by rw [hg]; exact (below_size (bl HB.out)) : w.heap.size ≤ gb287)); have GE287 := GW287; replace HB := am (below_step (bl HB.out) hb); clear hb hbox hg))
    replace BK287 := am (blk_drew BK287.out)
    replace HB := am (below_drew1 HB.out)
    refine start_ (n := 7) (S := fun w' => w'.cell? ⟨gb287, 0, none⟩ = some (.slice A1_0 l1_0.length c1_0) ∧ w'.cell? ⟨gb287, 1, none⟩ = some (.int .i64 a1_1) ∧ w'.cell? ⟨gb287, 2, none⟩ = some (.int .i64 a1_2)) (ds := []) #[false, false, false, false, false, false, false] (by kernel_rfl) rfl rfl ⟨bc BK287.out 0, bc BK287.out 1, bc BK287.out 2⟩ (fun hHeld => ?_)
    generalize w9.drew = w10 at BK287 HB hHeld ⊢
    refine pure_ (i := 0) (N := some 6) (v := ?_) (a' := ?_) #[true, false, false, false, false, false, false] rfl rfl (by kernel_rfl) (fun _ _ _ h => h) (Or.inl ⟨by rfl, ?_⟩) ?_ ?_; rotate_left
    ·intro w'; go_simp; with_reducible rfl
    rotate_left
    ·simp only [Act.put, sa_, s0_, ss_, i64_w, i32_w]; rfl
    refine take_ (i := 2) (N := some 8) (v := ?_) (a' := ?_) #[true, false, true, false, false, false, false] rfl rfl (by kernel_rfl) (fun _ _ _ h => h) (Or.inl ⟨by rfl, ?_⟩) hHeld ?_ ?_; rotate_left
    ·rintro w' ⟨s0, s1, s2⟩; go_simp; with_reducible rfl
    rotate_left
    ·simp only [Act.put, sa_, s0_, ss_, i64_w, i32_w]; rfl
    refine one_ (i := 1) (N := some 7) #[true, true, true, false, false, false, false] rfl rfl (by kernel_rfl) (by decide) (fun K hK => ?_)
    refine gs_ Try.func67 #[.slice A0 l0.length c0] ?_
    with_reducible refine (impl_ownBufs.calls k _ _ l0 t288 _ ?side1 ?side2 A3.out).mono ?_
    (case side1 => repeat (first | exact (Kd.C_below HR0.out HB.out) | (with_reducible refine Kd.C_alloc ?_ _) | (with_reducible refine Kd.C_drewN ?_ _) | (with_reducible refine Kd.C_drew ?_)))
    (case side2 => exact HC0.out)
    rintro e w11 ⟨v289, rfl, ho0, hb⟩
    refine ⟨_, rfl, ?_⟩
    have HO290 := am (Kd.S_lower (Kd.S_newB ho0 (g := gb287) (o := .cells #[.slice A1_0 l1_0.length c1_0, .int .i64 a1_1, .int .i64 a1_2] 31 (0, 0)) (pk BK287.out)) (below_size (bl HB.out)))
    replace BK287 := am (blk_below (pk BK287.out) hb)
    replace HB := am (below_step (bl HB.out) hb)
    (try clear hb)
    (try clear hb2)
    (try clear hk)
    (try clear hi)
    (try clear ho0)
    refine hK.out _ _ ⟨bc BK287.out 0, bc BK287.out 1, bc BK287.out 2⟩ (fun hHeld => ?_)
    clear hK K
    refine norm_ (a' := ?_) ?_ ?_
    rotate_left
    ·show Act.put _ (some 7) _ = _
     simp only [Act.put, sa_, s0_, ss_, i64_w, i32_w]
     rfl
    refine one_ (i := 3) (N := some 9) #[true, true, true, true, false, false, false] rfl rfl (by kernel_rfl) (by decide) (fun K hK => ?_)
    refine gs_ Try.func40 #[.agg #[.slice A1_0 l1_0.length c1_0, .int .i64 a1_1, .int .i64 a1_2]] ?_
    with_reducible refine (impl_ownBuf.calls _ _ l1_0 a1_1 a1_2 t291 t294 t295 _ ?side1 ?side2 A4.out).mono ?_
    (case side1 => repeat (first | exact (Kd.C_below HR1_0.out HB.out) | (with_reducible refine Kd.C_alloc ?_ _) | (with_reducible refine Kd.C_drewN ?_ _) | (with_reducible refine Kd.C_drew ?_)))
    (case side2 => exact HC1_0.out)
    rintro e w12 ⟨v292, rfl, ho0, hb⟩
    refine ⟨_, rfl, ?_⟩
    replace HO290 := am (Kd.S_elder' (ks HO290.out) (Kd.R_base ho0) hb)
    have HO293 := am (Kd.R_lower ho0 (below_size (bl HB.out)))
    replace BK287 := am (blk_below (pk BK287.out) hb)
    replace HB := am (below_step (bl HB.out) hb)
    (try clear hb)
    (try clear hb2)
    (try clear hk)
    (try clear hi)
    (try clear ho0)
    obtain ⟨Ao14, co14, eo14⟩ := Kd.R_slice HO293.out
    (first | subst eo14 | (injection eo14 with f1_ f2_ f3_; have f4_ := f1_.symm; have f5_ := f3_.symm; clear f1_ f2_ f3_; subst f4_; subst f5_))
    refine hK.out _ _ ⟨bc BK287.out 0, bc BK287.out 1, bc BK287.out 2⟩ (fun hHeld => ?_)
    clear hK K
    refine norm_ (a' := ?_) ?_ ?_
    rotate_left
    ·show Act.put _ (some 9) _ = _
     simp only [Act.put, sa_, s0_, ss_, i64_w, i32_w]
     rfl
    refine one_ (i := 4) (N := some 10) #[true, true, true, true, true, false, false] rfl rfl (by kernel_rfl) (by decide) (fun K hK => ?_)
    refine value_ (w1 := ?_) (v := ?_) (by rfl) rfl ?_ ?_
    rotate_left 2
    ·go_simp
     constructor
     ·rfl
     ·rfl
    refine hK.out _ _ ⟨(blk_cell (blk_alloc BK287.out _) 0).trans rfl, (blk_cell (blk_alloc BK287.out _) 1).trans rfl, (blk_cell (blk_alloc BK287.out _) 2).trans rfl⟩ (fun hHeld => ?_)
    clear hK K
    refine norm_ (a' := ?_) ?_ ?_
    rotate_left
    ·show Act.put _ (some 10) _ = _
     simp only [Act.put, sa_, s0_, ss_, i64_w, i32_w]
     rfl
    refine one_ (i := 5) (N := some 11) #[true, true, true, true, true, true, false] rfl rfl (by kernel_rfl) (by decide) (fun K hK => ?_)
    refine Kd.S_append_step k31 (w0 := w) w.heap.size (by rfl) (.tmp 7) (.tmp 10) 28 31 (.agg #[(.slice none 0 0), (.int .i64 0), (.int .i64 0)]) 40 rfl Try.underlying28 info31 rfl (by decide) (by omega) v289 t288 (⟨t291, t294, t295⟩ : S31) [.slice Ao14 t291.length co14, .int .i64 t294, .int .i64 t295] (fun k_ => k_ ≠ gb287) (fun k_ => some k_ = (.slice Ao14 t291.length co14 : Value).ownBlock) rfl rfl ?aP (fun k_ hk_ => ((Kd.R_mono (ok' := fun k_ => ((fun k_ => k_ ≠ gb287)) k_ ∧ some k_ ≠ (v289 : Value).ownBlock) (Kd.R_types (Kd.R_apart' (HO293.out) (Kd.S_typed HO290.out) (by decide)) BK287.out (by decide)) (fun k_ hk => ⟨hk.2, hk.1.2⟩))).1 k_ hk_.symm) ?aF ?aO ?aB ?aS ?aL ?_
    (case aP => exact k31_mkM _ _ _ (⟨t291, t294, t295⟩ : S31) (Kd.R_mono (Kd.R_tight rfl (Kd.R_mono (ok' := fun k_ => ((fun k_ => k_ ≠ gb287)) k_ ∧ some k_ ≠ (v289 : Value).ownBlock) (Kd.R_types (Kd.R_apart' (HO293.out) (Kd.S_typed HO290.out) (by decide)) BK287.out (by decide)) (fun k_ hk => ⟨hk.2, hk.1.2⟩))) (fun _ h_ => h_)))
    (case aB => exact (bl HB.out))
    (case aF => exact (fun k_ hk => Kd.freshB (g := gb287) (o := .cells #[.slice A1_0 l1_0.length c1_0, .int .i64 a1_1, .int .i64 a1_2] 31 (0, 0)) (pk BK287.out) k_ hk))
    (case aO => exact (ks (Kd.S_mono HO290.out (fun k_ hk => ⟨hk.1.2, fun e_ => hk.2 e_⟩))))
    (case aS => exact (below_size (bl HB.out)))
    (case aL => have := LMc5.out; omega)
    intro v297 w13 ho hb hg hat
    rw [← Ny296.out] at ho
    replace BK287 := am (blk_grown (g := gb287) (o := .cells #[.slice A1_0 l1_0.length c1_0, .int .i64 a1_1, .int .i64 a1_2] 31 (0, 0)) (pk BK287.out) hg (Kd.S_away HO290.out (fun _ hk => hk.1.2)))
    replace HB := am (hb)
    have HO298 := am (ho)
    clear HO290 HO293 ho hb hg hat
    refine hK.out _ _ ⟨bc BK287.out 0, bc BK287.out 1, bc BK287.out 2⟩ (fun hHeld => ?_)
    clear hK K
    refine norm_ (a' := ?_) ?_ ?_
    rotate_left
    ·show Act.put _ (some 11) _ = _
     simp only [Act.put, sa_, s0_, ss_, i64_w, i32_w]
     rfl
    refine pure_ (i := 6) (N := some 5) (v := ?_) (a' := ?_) #[true, true, true, true, true, true, true] rfl rfl (by kernel_rfl) (fun _ _ _ h => h) (Or.inl ⟨by rfl, ?_⟩) ?_ ?_; rotate_left
    ·intro w'; go_simp; with_reducible rfl
    rotate_left
    ·simp only [Act.put, sa_, s0_, ss_, i64_w, i32_w]; rfl
    refine done_ (by kernel_rfl) ?_
    obtain ⟨Ao15, co15, eo15⟩ := Kd.S_slice HO298.out
    subst eo15
    have q16 : ((ji6) : Int) ≤ ((y296.length : Int) : Int) := of_decide_eq_true (by first | (with_reducible assumption) | assumption)
    obtain ⟨i016, hi016, _, hsz16, _⟩ := info_parts info31
    have hcut16 := cut_from (P := Try.prog) 28 31 .i64 Try.underlying28 hi016 3 hsz16 Ao15 y296.length co15 (ji6) (of_decide_eq_true (by first | (with_reducible assumption) | assumption)) q16
    have hr16 := Kd.T_drop (k := ((ji6) : Int).toNat) (Kd.T_of_S HO298.out) (by omega)
    obtain ⟨A16, hA16⟩ : ∃ A1, A1 = (if co15 = ((ji6) : Int).toNat then Ao15 else (Ao15 : Option Addr).map (·.add (((ji6) : Int).toNat * 3))) := ⟨_, rfl⟩
    obtain ⟨c16, hc16⟩ : ∃ c1, c1 = co15 - ((ji6) : Int).toNat := ⟨_, rfl⟩
    have hy16 : y299.length = y296.length - ((ji6) : Int).toNat := (by rw [Ny299.out, List.length_drop])
    rw [← Ny299.out] at hr16
    rw [← hy16, ← hA16, ← hc16] at hcut16
    replace hr16 : Kd.T k31 31 w13 w.heap.size (fun k_ => k_ ≠ gb287) (.slice A16 y299.length c16) y299 := (by rw [hA16, hc16, hy16]; exact hr16)
    have HE16 : Aside0 ((Value.slice A16 y299.length c16).ownBlock = (.slice Ao15 y296.length co15 : Value).ownBlock) := ⟨by rw [hA16]; split <;> (cases (Ao15 : Option Addr) <;> first | rfl | (simp only [Value.ownBlock, Option.map_some, Addr.add]; split <;> rfl))⟩
    clear hy16 hi016 hsz16 HO298 hA16 hc16
    have HO301 := am hr16
    clear hr16
    replace q16 := eq_true q16
    try go_wp2
    go_ret
    exact ⟨_, by first | rfl | (simp [errW_none, errW_some] <;> rfl) | (simp only [← hji6]; first | rfl | (simp [errW_none, errW_some] <;> rfl)) | (simp [*, errW_none, errW_some] <;> rfl), by (with_reducible repeat (first | apply Kd.T_alloc | apply Kd.T_drewN | apply Kd.T_drew)); exact Kd.T_mono HO301.out (fun _ hk => trivial), by repeat (first | (with_reducible first | exact HB.out | apply below_alloc | apply pw_below_drewN | apply below_drew1 | refine below_set ?_ GE287.out) | exact HB.out)⟩
   ·rw [if_neg c8] at H
    exact absurd H (by simp)
  ·rw [if_neg c7] at H
   exact absurd H (by simp)
 ·rw [if_neg c5] at H
  exact absurd H (by simp)

end Go.Proofs.Ytkplopkhdejleaa.PFnExactUndoForth
