-- Written by xprint.py (this claim's own program, over the kit's printer); Lean checks it.
import Derived.Test.YtkplopkhdejleaaPFnExactUndoForthx0
import Derived.Test.YtkplopkhdejleaaPFnExactUndoForthx4
namespace Go.Proofs.Ytkplopkhdejleaa.PFnExactUndoForth
open Go.RowKit Go.Proofs.YtkplopkhdejleaaW.PrintWords Go.Proofs.YtkplopkhdejleaaW.PrintLast Go.Proofs.YtkplopkhdejleaaW.PrintMore
attribute [local go_sem] max2_int min2_int max_two min_two max_three min_three max_four min_four   -- for this text's walks alone
set_option linter.unusedVariables false
set_option linter.unusedSimpArgs false   -- squeezed
set_option maxHeartbeats 8000000
set_option maxRecDepth 100000

/-! ### spec_UndoRight: function 47 -/
def spec_UndoRight.f (k : Nat) (l0_0 : List (S31)) (l0_1 : List (S31)) : Option (Bool) := (spec_l05Bufs.f k l0_0).bind fun t190 => (if t190 = true then ((spec_l05Bufs.f k l0_1).bind fun t191 => (some t191)) else (some false))
theorem spec_UndoRight.mono : ∀ a0 a1 k, LeO (spec_UndoRight.f k a0 a1) (spec_UndoRight.f (k + 1) a0 a1) := by
 intro a0 a1 k
 unfold spec_UndoRight.f
 repeat' first
   | (with_reducible exact spec_l05Bufs.mono _ _)
   | (with_reducible exact LeO.refl _)
   | (with_reducible exact LeO.none _)
   | (with_reducible refine LeO.ite ?_ ?_)
   | (with_reducible refine LeO.bind ?_ (fun _ => ?_))
   | exact spec_l05Bufs.mono _ _
   | refine LeO.bind ?_ (fun _ => ?_)
theorem spec_UndoRight.calls (k : Nat) (A0_0 : Option Addr) (c0_0 : Nat) (l0_0 : List (S31)) (A0_1 : Option Addr) (c0_1 : Nat) (l0_1 : List (S31)) (r : Bool) (w : World) (hr0_0 : Kd.C k31 w A0_0 l0_0.length l0_0) (hc0_0 : l0_0.length ≤ c0_0) (hr0_1 : Kd.C k31 w A0_1 l0_1.length l0_1) (hc0_1 : l0_1.length ≤ c0_1) (h : spec_UndoRight.f k l0_0 l0_1 = some r) :
  Calls Try.prog 47 #[.agg #[.slice A0_0 l0_0.length c0_0, .slice A0_1 l0_1.length c0_1]] w fun e w' => e = .returned (.bool r) ∧ Below w.heap.size w w' := by
 have hu30 := Try.underlying30
 have HR0_0 := am hr0_0
 have HC0_0 := am hc0_0
 clear hr0_0 hc0_0
 have HR0_1 := am hr0_1
 have HC0_1 := am hc0_1
 clear hr0_1 hc0_1
 have HB := am (Below.refl w.heap.size w)
 have H : ((spec_l05Bufs.f k l0_0).bind fun t190 => (if t190 = true then ((spec_l05Bufs.f k l0_1).bind fun t191 => (some t191)) else (some false))) = some r := h
 clear h
 replace H := Option.bind_eq_some_iff.mp H
 obtain ⟨t190, A20, H⟩ := H
 replace H : (if t190 = true then ((spec_l05Bufs.f k l0_1).bind fun t191 => (some t191)) else (some false)) = some r := H
 have A2 := Aside0.mk A20
 clear A20
 by_cases c3 : t190 = true
 ·subst c3
  have H1 : ((spec_l05Bufs.f k l0_1).bind fun t191 => (some t191)) = some r := by rw [if_pos rfl] at H; exact H
  clear H
  have H := H1
  clear H1
  replace H := Option.bind_eq_some_iff.mp H
  obtain ⟨t191, A40, H⟩ := H
  replace H : (some t191) = some r := H
  have A4 := Aside0.mk A40
  clear A40
  obtain rfl := Option.some.inj H
  go_enter Try.func47, Try.ntmps47
  go_wp2_with (first | ((with_reducible refine gate_dst (N := 1) rfl ?_); refine box_event ?hg (N := 1) ?hd (cs := #[.slice A0_0 l0_0.length c0_0, .slice A0_1 l0_1.length c0_1]) (t := 30) ?hr ?_; (case hd => rfl); (case hg => rfl); (case hr => first | (go_simp; done) | (go_simp; rfl)); intro gb189 hg w5 hbox hb; have BK189 := am (hbox); have GW189 := am ((by rw [hg]; exact (below_size (bl HB.out)) : w.heap.size ≤ gb189)); have GE189 := GW189; replace HB := am (below_step (bl HB.out) hb); clear hb hbox hg; have hcz6_0 : w5.cell? ⟨gb189, 0, none⟩ = some (.slice A0_0 l0_0.length c0_0) := bc BK189.out 0; have hcz6_1 : w5.cell? ⟨gb189, 1, none⟩ = some (.slice A0_1 l0_1.length c0_1) := bc BK189.out 1) | ((with_reducible refine gate_callee (f := 72) rfl ?_); refine gl (some 5) Try.func72 #[.slice A0_0 l0_0.length c0_0] ?_; (with_reducible refine (spec_l05Bufs.calls k _ _ l0_0 true _ ?side1 ?side2 A2.out).mono ?_); (case side1 => repeat (first | exact (Kd.C_below HR0_0.out HB.out) | (with_reducible refine Kd.C_alloc ?_ _) | (with_reducible refine Kd.C_drewN ?_ _) | (with_reducible refine Kd.C_drew ?_))); (case side2 => exact HC0_0.out); rintro e w7 ⟨rfl, hb⟩; refine ⟨_, rfl, ?_⟩; replace BK189 := am (blk_below (pk BK189.out) hb); replace HB := am (below_step (bl HB.out) hb); (try clear hb); (try clear hb2); (try clear hk); (try clear hi); have hcz8_0 : w7.cell? ⟨gb189, 0, none⟩ = some (.slice A0_0 l0_0.length c0_0) := bc BK189.out 0; have hcz8_1 : w7.cell? ⟨gb189, 1, none⟩ = some (.slice A0_1 l0_1.length c0_1) := bc BK189.out 1) | (go_at_call 72; (with_reducible refine (spec_l05Bufs.calls k _ _ l0_1 t191 _ ?side1 ?side2 A4.out).mono ?_); (case side1 => repeat (first | exact (Kd.C_below HR0_1.out HB.out) | (with_reducible refine Kd.C_alloc ?_ _) | (with_reducible refine Kd.C_drewN ?_ _) | (with_reducible refine Kd.C_drew ?_))); (case side2 => exact HC0_1.out); rintro e w9 ⟨rfl, hb⟩; replace BK189 := am (blk_below (pk BK189.out) hb); replace HB := am (below_step (bl HB.out) hb); (try clear hb); (try clear hb2); (try clear hk); (try clear hi)))
  go_ret
  exact ⟨by first | rfl | (simp [errW_none, errW_some] <;> rfl) | (simp [*, errW_none, errW_some] <;> rfl), by repeat (first | (with_reducible first | exact HB.out | apply below_alloc | apply pw_below_drewN | apply below_drew1 | refine below_set ?_ GE189.out) | exact HB.out)⟩
 ·replace c3 := Bool.eq_false_iff.mpr c3
  subst c3
  have H1 : (some false) = some r := by rw [if_neg (show ¬ (false = true) by decide)] at H; exact H
  clear H
  have H := H1
  clear H1
  obtain rfl := Option.some.inj H
  go_enter Try.func47, Try.ntmps47
  go_wp2_with (first | ((with_reducible refine gate_dst (N := 1) rfl ?_); refine box_event ?hg (N := 1) ?hd (cs := #[.slice A0_0 l0_0.length c0_0, .slice A0_1 l0_1.length c0_1]) (t := 30) ?hr ?_; (case hd => rfl); (case hg => rfl); (case hr => first | (go_simp; done) | (go_simp; rfl)); intro gb189 hg w10 hbox hb; have BK189 := am (hbox); have GW189 := am ((by rw [hg]; exact (below_size (bl HB.out)) : w.heap.size ≤ gb189)); have GE189 := GW189; replace HB := am (below_step (bl HB.out) hb); clear hb hbox hg; have hcz11_0 : w10.cell? ⟨gb189, 0, none⟩ = some (.slice A0_0 l0_0.length c0_0) := bc BK189.out 0; have hcz11_1 : w10.cell? ⟨gb189, 1, none⟩ = some (.slice A0_1 l0_1.length c0_1) := bc BK189.out 1) | ((with_reducible refine gate_callee (f := 72) rfl ?_); refine gl (some 5) Try.func72 #[.slice A0_0 l0_0.length c0_0] ?_; (with_reducible refine (spec_l05Bufs.calls k _ _ l0_0 false _ ?side1 ?side2 A2.out).mono ?_); (case side1 => repeat (first | exact (Kd.C_below HR0_0.out HB.out) | (with_reducible refine Kd.C_alloc ?_ _) | (with_reducible refine Kd.C_drewN ?_ _) | (with_reducible refine Kd.C_drew ?_))); (case side2 => exact HC0_0.out); rintro e w12 ⟨rfl, hb⟩; refine ⟨_, rfl, ?_⟩; replace BK189 := am (blk_below (pk BK189.out) hb); replace HB := am (below_step (bl HB.out) hb); (try clear hb); (try clear hb2); (try clear hk); (try clear hi)))
  go_ret
  exact ⟨by first | rfl | (simp [errW_none, errW_some] <;> rfl) | (simp [*, errW_none, errW_some] <;> rfl), by repeat (first | (with_reducible first | exact HB.out | apply below_alloc | apply pw_below_drewN | apply below_drew1 | refine below_set ?_ GE189.out) | exact HB.out)⟩

/-! ### spec_l05CopyBufs: function 57 -/
def spec_l05CopyBufs.l0 : Nat → List (S31) → List (S31) → Int → Option ((List (S31)))
 | 0, _, _, _ => none
 | k + 1, x0, x3, x4 => if x4 < (x0.length : Int) then (if 0 ≤ x4 then ((spec_l02Copy.f ((rd_T31 x0 x4).f0) ((rd_T31 x0 x4).f1) ((rd_T31 x0 x4).f2)).bind fun bt196 => (if x3.length < 3518437208883 then (spec_l05CopyBufs.l0 k x0 (x3 ++ [(⟨bt196.1, bt196.2.1, bt196.2.2⟩ : S31)]) (wrap64 (x4 + 1))) else (none))) else (none)) else (some x3)
def spec_l05CopyBufs.f (k : Nat) (l0 : List (S31)) : Option ((List (S31))) := spec_l05CopyBufs.l0 k l0 (([] : List (S31))) 0
theorem spec_l05CopyBufs.mono_l : ∀ k, (∀ y0 y1 y2, LeO (spec_l05CopyBufs.l0 k y0 y1 y2) (spec_l05CopyBufs.l0 (k + 1) y0 y1 y2))
 | 0 => fun _ _ _ r h => by simp [spec_l05CopyBufs.l0] at h
 | k + 1 => by
  have ih0 := spec_l05CopyBufs.mono_l k
  ·intro y0 y1 y2
   unfold spec_l05CopyBufs.l0
   repeat' first
   | (with_reducible exact ih0 _ _ _)
   | (with_reducible exact LeO.refl _)
   | (with_reducible exact LeO.none _)
   | (with_reducible refine LeO.ite ?_ ?_)
   | (with_reducible refine LeO.bind ?_ (fun _ => ?_))
   | exact ih0 _ _ _
   | refine LeO.bind ?_ (fun _ => ?_)
theorem spec_l05CopyBufs.mono : ∀ a0 k, LeO (spec_l05CopyBufs.f k a0) (spec_l05CopyBufs.f (k + 1) a0) := by
 intro a0 k
 have ih0 := spec_l05CopyBufs.mono_l k
 unfold spec_l05CopyBufs.f
 repeat' first
   | (with_reducible exact ih0 _ _ _)
   | (with_reducible exact LeO.refl _)
   | (with_reducible exact LeO.none _)
   | (with_reducible refine LeO.ite ?_ ?_)
   | (with_reducible refine LeO.bind ?_ (fun _ => ?_))
   | exact ih0 _ _ _
   | refine LeO.bind ?_ (fun _ => ?_)
theorem spec_l05CopyBufs.calls (k : Nat) (A0 : Option Addr) (c0 : Nat) (l0 : List (S31)) (r : List (S31)) (w : World) (hr0 : Kd.C k31 w A0 l0.length l0) (hc0 : l0.length ≤ c0) (h : spec_l05CopyBufs.f k l0 = some r) :
  Calls Try.prog 57 #[.slice A0 l0.length c0] w fun e w' => ∃ v0_ : Value, e = .returned (v0_) ∧ Kd.S k31 31 w' w.heap.size (fun _ => True) v0_ r ∧ Below w.heap.size w w' := by
 have hu31 := Try.underlying31
 have HR0 := am hr0
 have HC0 := am hc0
 clear hr0 hc0
 have HB := am (Below.refl w.heap.size w)
 have H : (spec_l05CopyBufs.l0 k l0 (([] : List (S31))) 0) = some r := h
 clear h
 obtain ⟨y192, hy192⟩ : ∃ y_ : List (S31), y_ = (([] : List (S31))) := ⟨_, rfl⟩
 replace H : (spec_l05CopyBufs.l0 k l0 y192 0) = some r := by first | (rw [hy192]; with_reducible exact H) | (have H2_ := (Option.bind_some _ _).symm.trans H; rw [hy192]; with_reducible exact H2_) | (have H2_ := (Option.bind_some _ _).symm.trans H; with_reducible exact H2_) | with_reducible exact H | (rw [hy192]; exact H) | exact H
 have Ny192 := am hy192
 clear hy192
 have H' := Aside0.mk H
 clear H
 go_enter Try.func57, Try.ntmps57
 go_wp2_with (first | ((with_reducible refine gate_dst (N := 5) rfl ?_); refine Kd.S_lit k31 _ 31 ?hg (N := 5) ?hd (xs := ([] : List (S31))) (inner := []) (ok := fun _ => True) (okp := fun _ => True) ?hr ?hp (fun _ hk => hk) trivial (Below.refl _ _) (Nat.le_refl _) (by simp) ?_; (case hd => rfl); (case hg => rfl); (case hr => first | (go_simp; done) | (go_simp; rfl)); (case hp => exact (Reps.none _ _)); intro v193 w2 ho3 hb hg_ hnew_; clear hg_ hnew_; (first | rw [← Ny192.out] at ho3 | (simp only [Int.reduceToNat] at ho3; rw [← Ny192.out] at ho3)); have HO194 := am (Kd.S_lower ho3 (below_size (bl HB.out))); replace HB := am (below_step (bl HB.out) hb); clear hb ho3))
 go_loopg [3, 4] k (fun kq v3 v4 w' => ∃ (x3_1 : List (S31)) (x4_1 : Int), v4 = .int .i64 x4_1 ∧ Aside0 (spec_l05CopyBufs.l0 kq l0 x3_1 x4_1 = some r) ∧ Aside0 (kq ≤ k) ∧ Aside0 (Kd.S k31 31 w' w.heap.size (fun _ => True) v3 x3_1) ∧ Aside0 (Below w.heap.size w w'))
 case atStart => exact ⟨(y192), (0), (by first | rfl | (simp; done) | (simp [*]; done)), H', ⟨Nat.le_refl _⟩, ⟨ks HO194.out⟩, ⟨by repeat (first | (with_reducible first | exact HB.out | apply below_alloc | apply pw_below_drewN | apply below_drew1) | exact HB.out)⟩⟩
 case round =>
  clear H'
  try clear p2
  obtain ⟨x3_1, x4_1, rfl, HA, HK1, HO_3, HB⟩ := hrel
  cases gk with
  | zero => exact absurd HA.out (by simp [spec_l05CopyBufs.l0])
  | succ k1 =>
   have H := HA.out
   clear HA
   simp only [spec_l05CopyBufs.l0] at H
   by_cases c4 : x4_1 < (l0.length : Int)
   ·rw [if_pos c4] at H
    have c4b0 : decide (x4_1 < (l0.length : Int)) = true := decide_eq_true c4
    clear c4
    by_cases c5 : 0 ≤ x4_1
    ·rw [if_pos c5] at H
     have c5b0 : decide (0 ≤ x4_1) = true := decide_eq_true c5
     clear c5
     replace H := Option.bind_eq_some_iff.mp H
     obtain ⟨⟨t196, t199, t200⟩, A60, H⟩ := H
     replace H : (if x3_1.length < 3518437208883 then (spec_l05CopyBufs.l0 k1 l0 (x3_1 ++ [(⟨t196, t199, t200⟩ : S31)]) (wrap64 (x4_1 + 1))) else (none)) = some r := H
     have A6 := Aside0.mk A60
     clear A60
     by_cases c7 : x3_1.length < 3518437208883
     ·rw [if_pos c7] at H
      have LMc7 := Aside0.mk c7
      clear c7
      obtain ⟨y201, hy201⟩ : ∃ y_ : List (S31), y_ = (x3_1 ++ [(⟨t196, t199, t200⟩ : S31)]) := ⟨_, rfl⟩
      replace H : (spec_l05CopyBufs.l0 k1 l0 y201 (wrap64 (x4_1 + 1))) = some r := by first | (rw [hy201]; with_reducible exact H) | (have H2_ := (Option.bind_some _ _).symm.trans H; rw [hy201]; with_reducible exact H2_) | (have H2_ := (Option.bind_some _ _).symm.trans H; with_reducible exact H2_) | with_reducible exact H | (rw [hy201]; exact H) | exact H
      have Ny201 := am hy201
      clear hy201
      have H' := Aside0.mk H
      clear H
      have p195 : 0 ≤ (x4_1 : Int) := of_decide_eq_true (by first | (with_reducible assumption) | assumption)
      have q195 : x4_1 < (l0.length : Int) := of_decide_eq_true (by first | (with_reducible assumption) | assumption)
      obtain ⟨ad195, A195_0, c195_0, e195, hx195_0, hx195_1, hx195_2, hl195_0, hi195_0⟩ := at_T31 HR0.out x4_1 p195 q195
      cases e195
      have hxw195_0 := hx195_0
      replace hx195_0 := (HB.out.cell (World.block_lt_of_cell? w _ hx195_0)).trans hx195_0
      have hxw195_1 := hx195_1
      replace hx195_1 := (HB.out.cell (World.block_lt_of_cell? w _ hx195_1)).trans hx195_1
      have hxw195_2 := hx195_2
      replace hx195_2 := (HB.out.cell (World.block_lt_of_cell? w _ hx195_2)).trans hx195_2
      have HR195_0 := am hi195_0
      have HC195_0 := am hl195_0
      clear hi195_0 hl195_0
      replace p195 := eq_true p195
      replace q195 := eq_true q195
      go_wp2_with (first | ((with_reducible refine gate_callee (f := 31) rfl ?_); refine gl (some 17) Try.func31 #[.agg #[.slice A195_0 ((rd_T31 l0 x4_1).f0).length c195_0, .int .i64 ((rd_T31 l0 x4_1).f1), .int .i64 ((rd_T31 l0 x4_1).f2)]] ?_; (with_reducible refine (spec_l02Copy.calls _ _ ((rd_T31 l0 x4_1).f0) ((rd_T31 l0 x4_1).f1) ((rd_T31 l0 x4_1).f2) t196 t199 t200 _ ?side1 ?side2 A6.out).mono ?_); (case side1 => repeat (first | exact (Kd.C_below HR195_0.out HB.out) | (with_reducible refine Kd.C_alloc ?_ _) | (with_reducible refine Kd.C_drewN ?_ _) | (with_reducible refine Kd.C_drew ?_))); (case side2 => exact HC195_0.out); rintro e w8 ⟨v197, rfl, ho0, hb⟩; refine ⟨_, rfl, ?_⟩; replace HO_3 := am (Kd.S_elder' (ks HO_3.out) (Kd.R_base ho0) hb); have HO198 := am (Kd.R_lower ho0 (below_size (bl HB.out))); replace HB := am (below_step (bl HB.out) hb); (try clear hb); (try clear hb2); (try clear hk); (try clear hi); (try clear ho0); obtain ⟨Ao10, co10, eo10⟩ := Kd.R_slice HO198.out; subst eo10) | ((with_reducible refine gate_builtin (b := .append) (xs := #[.tmp 12, .tmp 18]) rfl ?_); at_builtin; refine Kd.S_append k31 (w0 := w) w.heap.size rfl (.tmp 12) (.tmp 18) 28 31 (.agg #[(.slice none 0 0), (.int .i64 0), (.int .i64 0)]) 40 rfl Try.underlying28 info31 rfl (by decide) (by omega) u3 x3_1 (⟨t196, t199, t200⟩ : S31) [.slice Ao10 t196.length co10, .int .i64 t199, .int .i64 t200] (fun _ => True) (fun k_ => some k_ = (.slice Ao10 t196.length co10 : Value).ownBlock) rfl rfl ?aP (fun k_ hk_ => ((Kd.R_mono (ok' := fun k_ => ((fun _ => True)) k_ ∧ some k_ ≠ (u3 : Value).ownBlock) (Kd.R_apart' (HO198.out) (Kd.S_typed HO_3.out) (by decide)) (fun k_ hk => ⟨trivial, hk.2⟩))).1 k_ hk_.symm) ?aF ?aO ?aB ?aS ?aL ?_; (case aP => exact k31_mkM _ _ _ (⟨t196, t199, t200⟩ : S31) (Kd.R_mono (Kd.R_tight rfl (Kd.R_mono (ok' := fun k_ => ((fun _ => True)) k_ ∧ some k_ ≠ (u3 : Value).ownBlock) (Kd.R_apart' (HO198.out) (Kd.S_typed HO_3.out) (by decide)) (fun k_ hk => ⟨trivial, hk.2⟩))) (fun _ h_ => h_))); (case aB => exact (bl HB.out)); (case aF => exact (fun _ _ => trivial)); (case aO => exact (ks (Kd.S_mono HO_3.out (fun k_ hk => ⟨trivial, fun e_ => hk.2 e_⟩)))); (case aS => exact (below_size (bl HB.out))); (case aL => have := LMc7.out; omega); intro v202 w9 ho hb hg hat; rw [← Ny201.out] at ho; replace HB := am (hb); have HO203 := am (ho); clear HO_3 HO198; clear ho hb hg hat))
      go_roundg k1
      case measure => have := HK1.out; omega
      case rel => exact ⟨(y201), (wrap64 (x4_1 + 1)), (by first | rfl | (simp; done) | (simp [*]; done)), H', ⟨by have := HK1.out; omega⟩, ⟨ks HO203.out⟩, ⟨by repeat (first | (with_reducible first | exact HB.out | apply below_alloc | apply pw_below_drewN | apply below_drew1) | exact HB.out)⟩⟩
     ·rw [if_neg c7] at H
      exact absurd H (by simp)
    ·rw [if_neg c5] at H
     exact absurd H (by simp)
   ·rw [if_neg c4] at H
    have c4b0 : decide (x4_1 < (l0.length : Int)) = false := decide_eq_false c4
    clear c4
    obtain rfl := Option.some.inj H
    go_wp2
    go_ret
    exact ⟨_, by first | rfl | (simp [errW_none, errW_some] <;> rfl) | (simp [*, errW_none, errW_some] <;> rfl), ks HO_3.out, by repeat (first | (with_reducible first | exact HB.out | apply below_alloc | apply pw_below_drewN | apply below_drew1) | exact HB.out)⟩

/-! ### spec_l05Put: function 49 -/
@[reducible] def b49_0 : Array Bool := (br true [0, 7]).toArray
@[reducible] def b49_1 : Array Bool := (br true [1, 6]).toArray
@[reducible] def b49_2 : Array Bool := (br true [1, 1, 1, 4]).toArray
@[reducible] def b49_3 : Array Bool := (br true [3, 4]).toArray
@[reducible] def b49_4 : Array Bool := (br true [4, 3]).toArray
@[reducible] def b49_5 : Array Bool := (br true [5, 2]).toArray
@[reducible] def b49_6 : Array Bool := (br true [6, 1]).toArray
@[reducible] def b49_7 : Array Bool := (br true [7]).toArray
def spec_l05Put.f (k : Nat) (l0 : List (S31)) (l1_0 : List Int) (a1_1 : Int) (a1_2 : Int) : Option ((List (S31))) := (spec_l05CopyBufs.f k l0).bind fun t205 => ((spec_l02Copy.f l1_0 a1_1 a1_2).bind fun bt208 => (if t205.length < 3518437208883 then ((some (t205 ++ [(⟨bt208.1, bt208.2.1, bt208.2.2⟩ : S31)] : List (S31))).bind fun y213 => (if (y213.length : Int) > 20 then (if 1 ≤ (y213.length : Int) then (some (y213.drop (1 : Int).toNat)) else (none)) else (some y213))) else (none)))
theorem spec_l05Put.mono : ∀ a0 a1 a2 a3 k, LeO (spec_l05Put.f k a0 a1 a2 a3) (spec_l05Put.f (k + 1) a0 a1 a2 a3) := by
 intro a0 a1 a2 a3 k
 unfold spec_l05Put.f
 repeat' first
   | (with_reducible exact spec_l05CopyBufs.mono _ _)
   | (with_reducible exact LeO.refl _)
   | (with_reducible exact LeO.none _)
   | (with_reducible refine LeO.ite ?_ ?_)
   | (with_reducible refine LeO.bind ?_ (fun _ => ?_))
   | exact spec_l05CopyBufs.mono _ _
   | refine LeO.bind ?_ (fun _ => ?_)
theorem spec_l05Put.calls (k : Nat) (A0 : Option Addr) (c0 : Nat) (l0 : List (S31)) (A1_0 : Option Addr) (c1_0 : Nat) (l1_0 : List Int) (a1_1 : Int) (a1_2 : Int) (r : List (S31)) (w : World) (hr0 : Kd.C k31 w A0 l0.length l0) (hc0 : l0.length ≤ c0) (hr1_0 : Kd.C (Kd.int .i64) w A1_0 l1_0.length l1_0) (hc1_0 : l1_0.length ≤ c1_0) (h : spec_l05Put.f k l0 l1_0 a1_1 a1_2 = some r) :
  Calls Try.prog 49 #[.slice A0 l0.length c0, .agg #[.slice A1_0 l1_0.length c1_0, .int .i64 a1_1, .int .i64 a1_2]] w fun e w' => ∃ v0_ : Value, e = .returned (v0_) ∧ Kd.T k31 31 w' w.heap.size (fun _ => True) v0_ r ∧ Below w.heap.size w w' := by
 have hu31 := Try.underlying31
 have HR0 := am hr0
 have HC0 := am hc0
 clear hr0 hc0
 have HR1_0 := am hr1_0
 have HC1_0 := am hc1_0
 clear hr1_0 hc1_0
 have HB := am (Below.refl w.heap.size w)
 have H : ((spec_l05CopyBufs.f k l0).bind fun t205 => ((spec_l02Copy.f l1_0 a1_1 a1_2).bind fun bt208 => (if t205.length < 3518437208883 then ((some (t205 ++ [(⟨bt208.1, bt208.2.1, bt208.2.2⟩ : S31)] : List (S31))).bind fun y213 => (if (y213.length : Int) > 20 then (if 1 ≤ (y213.length : Int) then (some (y213.drop (1 : Int).toNat)) else (none)) else (some y213))) else (none)))) = some r := h
 clear h
 replace H := Option.bind_eq_some_iff.mp H
 obtain ⟨t205, A30, H⟩ := H
 replace H : ((spec_l02Copy.f l1_0 a1_1 a1_2).bind fun bt208 => (if t205.length < 3518437208883 then ((some (t205 ++ [(⟨bt208.1, bt208.2.1, bt208.2.2⟩ : S31)] : List (S31))).bind fun y213 => (if (y213.length : Int) > 20 then (if 1 ≤ (y213.length : Int) then (some (y213.drop (1 : Int).toNat)) else (none)) else (some y213))) else (none))) = some r := H
 have A3 := Aside0.mk A30
 clear A30
 replace H := Option.bind_eq_some_iff.mp H
 obtain ⟨⟨t208, t211, t212⟩, A40, H⟩ := H
 replace H : (if t205.length < 3518437208883 then ((some (t205 ++ [(⟨t208, t211, t212⟩ : S31)] : List (S31))).bind fun y213 => (if (y213.length : Int) > 20 then (if 1 ≤ (y213.length : Int) then (some (y213.drop (1 : Int).toNat)) else (none)) else (some y213))) else (none)) = some r := H
 have A4 := Aside0.mk A40
 clear A40
 by_cases c5 : t205.length < 3518437208883
 ·rw [if_pos c5] at H
  have LMc5 := Aside0.mk c5
  clear c5
  obtain ⟨y213, hy213⟩ : ∃ y_ : List (S31), y_ = (t205 ++ [(⟨t208, t211, t212⟩ : S31)]) := ⟨_, rfl⟩
  replace H : (if (y213.length : Int) > 20 then (if 1 ≤ (y213.length : Int) then (some (y213.drop (1 : Int).toNat)) else (none)) else (some y213)) = some r := by first | (rw [hy213]; with_reducible exact H) | (have H2_ := (Option.bind_some _ _).symm.trans H; rw [hy213]; with_reducible exact H2_) | (have H2_ := (Option.bind_some _ _).symm.trans H; with_reducible exact H2_) | with_reducible exact H | (rw [hy213]; exact H) | exact H
  have Ny213 := am hy213
  clear hy213
  by_cases c6 : (y213.length : Int) > 20
  ·rw [if_pos c6] at H
   have c6b0 : decide (20 < (y213.length : Int)) = true := decide_eq_true c6
   have c6b1 : decide (20 < y213.length) = true := decide_eq_true (by omega)
   clear c6
   by_cases c7 : 1 ≤ (y213.length : Int)
   ·rw [if_pos c7] at H
    have c7b0 := eq_true c7
    have c7b1 : decide (1 ≤ (y213.length : Int)) = true := decide_eq_true c7
    clear c7
    obtain ⟨y216, hy216⟩ : ∃ y_ : List (S31), y_ = (y213.drop (1 : Int).toNat) := ⟨_, rfl⟩
    replace H : (some y216) = some r := by first | (rw [hy216]; with_reducible exact H) | (have H2_ := (Option.bind_some _ _).symm.trans H; rw [hy216]; with_reducible exact H2_) | (have H2_ := (Option.bind_some _ _).symm.trans H; with_reducible exact H2_) | with_reducible exact H | (rw [hy216]; exact H) | exact H
    have Ny216 := am hy216
    clear hy216
    obtain rfl := Option.some.inj H
    go_enter Try.func49, Try.ntmps49
    try go_wp2_with (first | ((with_reducible refine gate_dst (N := 3) rfl ?_); refine box_event ?hg (N := 3) ?hd (cs := #[.slice A1_0 l1_0.length c1_0, .int .i64 a1_1, .int .i64 a1_2]) (t := 31) ?hr ?_; (case hd => rfl); (case hg => rfl); (case hr => first | (go_simp; done) | (go_simp; rfl)); intro gb204 hg w8 hbox hb; have BK204 := am (hbox); have GW204 := am ((by rw [hg]; exact (below_size (bl HB.out)) : w.heap.size ≤ gb204)); have GE204 := GW204; replace HB := am (below_step (bl HB.out) hb); clear hb hbox hg))
    replace BK204 := am (blk_drew BK204.out)
    replace HB := am (below_drew1 HB.out)
    refine start_ (n := 7) (S := fun w' => w'.cell? ⟨gb204, 0, none⟩ = some (.slice A1_0 l1_0.length c1_0) ∧ w'.cell? ⟨gb204, 1, none⟩ = some (.int .i64 a1_1) ∧ w'.cell? ⟨gb204, 2, none⟩ = some (.int .i64 a1_2)) (ds := []) b49_0 (by kernel_rfl) rfl rfl ⟨bc BK204.out 0, bc BK204.out 1, bc BK204.out 2⟩ (fun hHeld => ?_)
    generalize w8.drew = w9 at BK204 HB hHeld ⊢
    refine pure_ (i := 0) (N := some 6) (v := ?_) (a' := ?_) b49_1 rfl rfl (by kernel_rfl) (fun _ _ _ h => h) (Or.inl ⟨by rfl, ?_⟩) ?_ ?_; rotate_left
    ·intro w'; go_simp; with_reducible rfl
    rotate_left
    ·simp only [Act.put, sa_, s0_, ss_, i64_w, i32_w]; rfl
    refine take_ (i := 2) (N := some 8) (v := ?_) (a' := ?_) b49_2 rfl rfl (by kernel_rfl) (fun _ _ _ h => h) (Or.inl ⟨by rfl, ?_⟩) hHeld ?_ ?_; rotate_left
    ·rintro w' ⟨s0, s1, s2⟩; go_simp; with_reducible rfl
    rotate_left
    ·simp only [Act.put, sa_, s0_, ss_, i64_w, i32_w]; rfl
    refine one_ (i := 1) (N := some 7) b49_3 rfl rfl (by kernel_rfl) (by decide) (fun K hK => ?_)
    refine gs_ Try.func57 #[.slice A0 l0.length c0] ?_
    with_reducible refine (spec_l05CopyBufs.calls k _ _ l0 t205 _ ?side1 ?side2 A3.out).mono ?_
    (case side1 => repeat (first | exact (Kd.C_below HR0.out HB.out) | (with_reducible refine Kd.C_alloc ?_ _) | (with_reducible refine Kd.C_drewN ?_ _) | (with_reducible refine Kd.C_drew ?_)))
    (case side2 => exact HC0.out)
    rintro e w10 ⟨v206, rfl, ho0, hb⟩
    refine ⟨_, rfl, ?_⟩
    have HO207 := am (Kd.S_lower (Kd.S_newB ho0 (g := gb204) (o := .cells #[.slice A1_0 l1_0.length c1_0, .int .i64 a1_1, .int .i64 a1_2] 31 (0, 0)) (pk BK204.out)) (below_size (bl HB.out)))
    replace BK204 := am (blk_below (pk BK204.out) hb)
    replace HB := am (below_step (bl HB.out) hb)
    (try clear hb)
    (try clear hb2)
    (try clear hk)
    (try clear hi)
    (try clear ho0)
    refine hK.out _ _ ⟨bc BK204.out 0, bc BK204.out 1, bc BK204.out 2⟩ (fun hHeld => ?_)
    clear hK K
    refine norm_ (a' := ?_) ?_ ?_
    rotate_left
    ·show Act.put _ (some 7) _ = _
     simp only [Act.put, sa_, s0_, ss_, i64_w, i32_w]
     rfl
    refine one_ (i := 3) (N := some 9) b49_4 rfl rfl (by kernel_rfl) (by decide) (fun K hK => ?_)
    refine gs_ Try.func31 #[.agg #[.slice A1_0 l1_0.length c1_0, .int .i64 a1_1, .int .i64 a1_2]] ?_
    with_reducible refine (spec_l02Copy.calls _ _ l1_0 a1_1 a1_2 t208 t211 t212 _ ?side1 ?side2 A4.out).mono ?_
    (case side1 => repeat (first | exact (Kd.C_below HR1_0.out HB.out) | (with_reducible refine Kd.C_alloc ?_ _) | (with_reducible refine Kd.C_drewN ?_ _) | (with_reducible refine Kd.C_drew ?_)))
    (case side2 => exact HC1_0.out)
    rintro e w11 ⟨v209, rfl, ho0, hb⟩
    refine ⟨_, rfl, ?_⟩
    replace HO207 := am (Kd.S_elder' (ks HO207.out) (Kd.R_base ho0) hb)
    have HO210 := am (Kd.R_lower ho0 (below_size (bl HB.out)))
    replace BK204 := am (blk_below (pk BK204.out) hb)
    replace HB := am (below_step (bl HB.out) hb)
    (try clear hb)
    (try clear hb2)
    (try clear hk)
    (try clear hi)
    (try clear ho0)
    obtain ⟨Ao13, co13, eo13⟩ := Kd.R_slice HO210.out
    (first | subst eo13 | (injection eo13 with f1_ f2_ f3_; have f4_ := f1_.symm; have f5_ := f3_.symm; clear f1_ f2_ f3_; subst f4_; subst f5_))
    refine hK.out _ _ ⟨bc BK204.out 0, bc BK204.out 1, bc BK204.out 2⟩ (fun hHeld => ?_)
    clear hK K
    refine norm_ (a' := ?_) ?_ ?_
    rotate_left
    ·show Act.put _ (some 9) _ = _
     simp only [Act.put, sa_, s0_, ss_, i64_w, i32_w]
     rfl
    refine one_ (i := 4) (N := some 10) b49_5 rfl rfl (by kernel_rfl) (by decide) (fun K hK => ?_)
    refine value_ (w1 := ?_) (v := ?_) (by rfl) rfl ?_ ?_
    rotate_left 2
    ·go_simp
     constructor
     ·rfl
     ·rfl
    refine hK.out _ _ ⟨(blk_cell (blk_alloc BK204.out _) 0).trans rfl, (blk_cell (blk_alloc BK204.out _) 1).trans rfl, (blk_cell (blk_alloc BK204.out _) 2).trans rfl⟩ (fun hHeld => ?_)
    clear hK K
    refine norm_ (a' := ?_) ?_ ?_
    rotate_left
    ·show Act.put _ (some 10) _ = _
     simp only [Act.put, sa_, s0_, ss_, i64_w, i32_w]
     rfl
    refine one_ (i := 5) (N := some 11) b49_6 rfl rfl (by kernel_rfl) (by decide) (fun K hK => ?_)
    refine Kd.S_append_step k31 (w0 := w) w.heap.size (by rfl) (.tmp 7) (.tmp 10) 28 31 (.agg #[(.slice none 0 0), (.int .i64 0), (.int .i64 0)]) 40 rfl Try.underlying28 info31 rfl (by decide) (by omega) v206 t205 (⟨t208, t211, t212⟩ : S31) [.slice Ao13 t208.length co13, .int .i64 t211, .int .i64 t212] (fun k_ => k_ ≠ gb204) (fun k_ => some k_ = (.slice Ao13 t208.length co13 : Value).ownBlock) rfl rfl ?aP (fun k_ hk_ => ((Kd.R_mono (ok' := fun k_ => ((fun k_ => k_ ≠ gb204)) k_ ∧ some k_ ≠ (v206 : Value).ownBlock) (Kd.R_types (Kd.R_apart' (HO210.out) (Kd.S_typed HO207.out) (by decide)) BK204.out (by decide)) (fun k_ hk => ⟨hk.2, hk.1.2⟩))).1 k_ hk_.symm) ?aF ?aO ?aB ?aS ?aL ?_
    (case aP => exact k31_mkM _ _ _ (⟨t208, t211, t212⟩ : S31) (Kd.R_mono (Kd.R_tight rfl (Kd.R_mono (ok' := fun k_ => ((fun k_ => k_ ≠ gb204)) k_ ∧ some k_ ≠ (v206 : Value).ownBlock) (Kd.R_types (Kd.R_apart' (HO210.out) (Kd.S_typed HO207.out) (by decide)) BK204.out (by decide)) (fun k_ hk => ⟨hk.2, hk.1.2⟩))) (fun _ h_ => h_)))
    (case aB => exact (bl HB.out))
    (case aF => exact (fun k_ hk => Kd.freshB (g := gb204) (o := .cells #[.slice A1_0 l1_0.length c1_0, .int .i64 a1_1, .int .i64 a1_2] 31 (0, 0)) (pk BK204.out) k_ hk))
    (case aO => exact (ks (Kd.S_mono HO207.out (fun k_ hk => ⟨hk.1.2, fun e_ => hk.2 e_⟩))))
    (case aS => exact (below_size (bl HB.out)))
    (case aL => have := LMc5.out; omega)
    intro v214 w12 ho hb hg hat
    rw [← Ny213.out] at ho
    replace BK204 := am (blk_grown (g := gb204) (o := .cells #[.slice A1_0 l1_0.length c1_0, .int .i64 a1_1, .int .i64 a1_2] 31 (0, 0)) (pk BK204.out) hg (Kd.S_away HO207.out (fun _ hk => hk.1.2)))
    replace HB := am (hb)
    have HO215 := am (ho)
    clear HO207 HO210 ho hb hg hat
    refine hK.out _ _ ⟨bc BK204.out 0, bc BK204.out 1, bc BK204.out 2⟩ (fun hHeld => ?_)
    clear hK K
    refine norm_ (a' := ?_) ?_ ?_
    rotate_left
    ·show Act.put _ (some 11) _ = _
     simp only [Act.put, sa_, s0_, ss_, i64_w, i32_w]
     rfl
    refine pure_ (i := 6) (N := some 5) (v := ?_) (a' := ?_) b49_7 rfl rfl (by kernel_rfl) (fun _ _ _ h => h) (Or.inl ⟨by rfl, ?_⟩) ?_ ?_; rotate_left
    ·intro w'; go_simp; with_reducible rfl
    rotate_left
    ·simp only [Act.put, sa_, s0_, ss_, i64_w, i32_w]; rfl
    refine done_ (by kernel_rfl) ?_
    obtain ⟨Ao14, co14, eo14⟩ := Kd.S_slice HO215.out
    subst eo14
    have q15 : (1 : Int) ≤ ((y213.length : Int) : Int) := of_decide_eq_true (by first | (with_reducible assumption) | assumption)
    obtain ⟨i015, hi015, _, hsz15, _⟩ := info_parts info31
    have hcut15 := cut_from (P := Try.prog) 28 31 .i64 Try.underlying28 hi015 3 hsz15 Ao14 y213.length co14 1 (by omega) q15
    have hr15 := Kd.T_drop (k := (1 : Int).toNat) (Kd.T_of_S HO215.out) (by omega)
    obtain ⟨A15, hA15⟩ : ∃ A1, A1 = (if co14 = (1 : Int).toNat then Ao14 else (Ao14 : Option Addr).map (·.add ((1 : Int).toNat * 3))) := ⟨_, rfl⟩
    obtain ⟨c15, hc15⟩ : ∃ c1, c1 = co14 - (1 : Int).toNat := ⟨_, rfl⟩
    have hy15 : y216.length = y213.length - (1 : Int).toNat := (by rw [Ny216.out, List.length_drop])
    rw [← Ny216.out] at hr15
    rw [← hy15, ← hA15, ← hc15] at hcut15
    replace hr15 : Kd.T k31 31 w12 w.heap.size (fun k_ => k_ ≠ gb204) (.slice A15 y216.length c15) y216 := (by rw [hA15, hc15, hy15]; exact hr15)
    have HE15 : Aside0 ((Value.slice A15 y216.length c15).ownBlock = (.slice Ao14 y213.length co14 : Value).ownBlock) := ⟨by rw [hA15]; split <;> (cases (Ao14 : Option Addr) <;> first | rfl | (simp only [Value.ownBlock, Option.map_some, Addr.add]; split <;> rfl))⟩
    clear hy15 hi015 hsz15 HO215 hA15 hc15
    have HO218 := am hr15
    clear hr15
    replace q15 := eq_true q15
    try go_wp2
    go_ret
    exact ⟨_, by first | rfl | (simp [errW_none, errW_some] <;> rfl) | (simp [*, errW_none, errW_some] <;> rfl), by (with_reducible repeat (first | apply Kd.T_alloc | apply Kd.T_drewN | apply Kd.T_drew)); exact Kd.T_mono HO218.out (fun _ hk => trivial), by repeat (first | (with_reducible first | exact HB.out | apply below_alloc | apply pw_below_drewN | apply below_drew1 | refine below_set ?_ GE204.out) | exact HB.out)⟩
   ·rw [if_neg c7] at H
    exact absurd H (by simp)
  ·rw [if_neg c6] at H
   have c6b0 : decide (20 < (y213.length : Int)) = false := decide_eq_false c6
   have c6b1 : decide (20 < y213.length) = false := decide_eq_false (by omega)
   clear c6
   obtain rfl := Option.some.inj H
   go_enter Try.func49, Try.ntmps49
   try go_wp2_with (first | ((with_reducible refine gate_dst (N := 3) rfl ?_); refine box_event ?hg (N := 3) ?hd (cs := #[.slice A1_0 l1_0.length c1_0, .int .i64 a1_1, .int .i64 a1_2]) (t := 31) ?hr ?_; (case hd => rfl); (case hg => rfl); (case hr => first | (go_simp; done) | (go_simp; rfl)); intro gb204 hg w16 hbox hb; have BK204 := am (hbox); have GW204 := am ((by rw [hg]; exact (below_size (bl HB.out)) : w.heap.size ≤ gb204)); have GE204 := GW204; replace HB := am (below_step (bl HB.out) hb); clear hb hbox hg))
   replace BK204 := am (blk_drew BK204.out)
   replace HB := am (below_drew1 HB.out)
   refine start_ (n := 7) (S := fun w' => w'.cell? ⟨gb204, 0, none⟩ = some (.slice A1_0 l1_0.length c1_0) ∧ w'.cell? ⟨gb204, 1, none⟩ = some (.int .i64 a1_1) ∧ w'.cell? ⟨gb204, 2, none⟩ = some (.int .i64 a1_2)) (ds := []) b49_0 (by kernel_rfl) rfl rfl ⟨bc BK204.out 0, bc BK204.out 1, bc BK204.out 2⟩ (fun hHeld => ?_)
   generalize w16.drew = w17 at BK204 HB hHeld ⊢
   refine pure_ (i := 0) (N := some 6) (v := ?_) (a' := ?_) b49_1 rfl rfl (by kernel_rfl) (fun _ _ _ h => h) (Or.inl ⟨by rfl, ?_⟩) ?_ ?_; rotate_left
   ·intro w'; go_simp; with_reducible rfl
   rotate_left
   ·simp only [Act.put, sa_, s0_, ss_, i64_w, i32_w]; rfl
   refine take_ (i := 2) (N := some 8) (v := ?_) (a' := ?_) b49_2 rfl rfl (by kernel_rfl) (fun _ _ _ h => h) (Or.inl ⟨by rfl, ?_⟩) hHeld ?_ ?_; rotate_left
   ·rintro w' ⟨s0, s1, s2⟩; go_simp; with_reducible rfl
   rotate_left
   ·simp only [Act.put, sa_, s0_, ss_, i64_w, i32_w]; rfl
   refine one_ (i := 1) (N := some 7) b49_3 rfl rfl (by kernel_rfl) (by decide) (fun K hK => ?_)
   refine gs_ Try.func57 #[.slice A0 l0.length c0] ?_
   with_reducible refine (spec_l05CopyBufs.calls k _ _ l0 t205 _ ?side1 ?side2 A3.out).mono ?_
   (case side1 => repeat (first | exact (Kd.C_below HR0.out HB.out) | (with_reducible refine Kd.C_alloc ?_ _) | (with_reducible refine Kd.C_drewN ?_ _) | (with_reducible refine Kd.C_drew ?_)))
   (case side2 => exact HC0.out)
   rintro e w18 ⟨v206, rfl, ho0, hb⟩
   refine ⟨_, rfl, ?_⟩
   have HO207 := am (Kd.S_lower (Kd.S_newB ho0 (g := gb204) (o := .cells #[.slice A1_0 l1_0.length c1_0, .int .i64 a1_1, .int .i64 a1_2] 31 (0, 0)) (pk BK204.out)) (below_size (bl HB.out)))
   replace BK204 := am (blk_below (pk BK204.out) hb)
   replace HB := am (below_step (bl HB.out) hb)
   (try clear hb)
   (try clear hb2)
   (try clear hk)
   (try clear hi)
   (try clear ho0)
   refine hK.out _ _ ⟨bc BK204.out 0, bc BK204.out 1, bc BK204.out 2⟩ (fun hHeld => ?_)
   clear hK K
   refine norm_ (a' := ?_) ?_ ?_
   rotate_left
   ·show Act.put _ (some 7) _ = _
    simp only [Act.put, sa_, s0_, ss_, i64_w, i32_w]
    rfl
   refine one_ (i := 3) (N := some 9) b49_4 rfl rfl (by kernel_rfl) (by decide) (fun K hK => ?_)
   refine gs_ Try.func31 #[.agg #[.slice A1_0 l1_0.length c1_0, .int .i64 a1_1, .int .i64 a1_2]] ?_
   with_reducible refine (spec_l02Copy.calls _ _ l1_0 a1_1 a1_2 t208 t211 t212 _ ?side1 ?side2 A4.out).mono ?_
   (case side1 => repeat (first | exact (Kd.C_below HR1_0.out HB.out) | (with_reducible refine Kd.C_alloc ?_ _) | (with_reducible refine Kd.C_drewN ?_ _) | (with_reducible refine Kd.C_drew ?_)))
   (case side2 => exact HC1_0.out)
   rintro e w19 ⟨v209, rfl, ho0, hb⟩
   refine ⟨_, rfl, ?_⟩
   replace HO207 := am (Kd.S_elder' (ks HO207.out) (Kd.R_base ho0) hb)
   have HO210 := am (Kd.R_lower ho0 (below_size (bl HB.out)))
   replace BK204 := am (blk_below (pk BK204.out) hb)
   replace HB := am (below_step (bl HB.out) hb)
   (try clear hb)
   (try clear hb2)
   (try clear hk)
   (try clear hi)
   (try clear ho0)
   obtain ⟨Ao21, co21, eo21⟩ := Kd.R_slice HO210.out
   (first | subst eo21 | (injection eo21 with f1_ f2_ f3_; have f4_ := f1_.symm; have f5_ := f3_.symm; clear f1_ f2_ f3_; subst f4_; subst f5_))
   refine hK.out _ _ ⟨bc BK204.out 0, bc BK204.out 1, bc BK204.out 2⟩ (fun hHeld => ?_)
   clear hK K
   refine norm_ (a' := ?_) ?_ ?_
   rotate_left
   ·show Act.put _ (some 9) _ = _
    simp only [Act.put, sa_, s0_, ss_, i64_w, i32_w]
    rfl
   refine one_ (i := 4) (N := some 10) b49_5 rfl rfl (by kernel_rfl) (by decide) (fun K hK => ?_)
   refine value_ (w1 := ?_) (v := ?_) (by rfl) rfl ?_ ?_
   rotate_left 2
   ·go_simp
    constructor
    ·rfl
    ·rfl
   refine hK.out _ _ ⟨(blk_cell (blk_alloc BK204.out _) 0).trans rfl, (blk_cell (blk_alloc BK204.out _) 1).trans rfl, (blk_cell (blk_alloc BK204.out _) 2).trans rfl⟩ (fun hHeld => ?_)
   clear hK K
   refine norm_ (a' := ?_) ?_ ?_
   rotate_left
   ·show Act.put _ (some 10) _ = _
    simp only [Act.put, sa_, s0_, ss_, i64_w, i32_w]
    rfl
   refine one_ (i := 5) (N := some 11) b49_6 rfl rfl (by kernel_rfl) (by decide) (fun K hK => ?_)
   refine Kd.S_append_step k31 (w0 := w) w.heap.size (by rfl) (.tmp 7) (.tmp 10) 28 31 (.agg #[(.slice none 0 0), (.int .i64 0), (.int .i64 0)]) 40 rfl Try.underlying28 info31 rfl (by decide) (by omega) v206 t205 (⟨t208, t211, t212⟩ : S31) [.slice Ao21 t208.length co21, .int .i64 t211, .int .i64 t212] (fun k_ => k_ ≠ gb204) (fun k_ => some k_ = (.slice Ao21 t208.length co21 : Value).ownBlock) rfl rfl ?aP (fun k_ hk_ => ((Kd.R_mono (ok' := fun k_ => ((fun k_ => k_ ≠ gb204)) k_ ∧ some k_ ≠ (v206 : Value).ownBlock) (Kd.R_types (Kd.R_apart' (HO210.out) (Kd.S_typed HO207.out) (by decide)) BK204.out (by decide)) (fun k_ hk => ⟨hk.2, hk.1.2⟩))).1 k_ hk_.symm) ?aF ?aO ?aB ?aS ?aL ?_
   (case aP => exact k31_mkM _ _ _ (⟨t208, t211, t212⟩ : S31) (Kd.R_mono (Kd.R_tight rfl (Kd.R_mono (ok' := fun k_ => ((fun k_ => k_ ≠ gb204)) k_ ∧ some k_ ≠ (v206 : Value).ownBlock) (Kd.R_types (Kd.R_apart' (HO210.out) (Kd.S_typed HO207.out) (by decide)) BK204.out (by decide)) (fun k_ hk => ⟨hk.2, hk.1.2⟩))) (fun _ h_ => h_)))
   (case aB => exact (bl HB.out))
   (case aF => exact (fun k_ hk => Kd.freshB (g := gb204) (o := .cells #[.slice A1_0 l1_0.length c1_0, .int .i64 a1_1, .int .i64 a1_2] 31 (0, 0)) (pk BK204.out) k_ hk))
   (case aO => exact (ks (Kd.S_mono HO207.out (fun k_ hk => ⟨hk.1.2, fun e_ => hk.2 e_⟩))))
   (case aS => exact (below_size (bl HB.out)))
   (case aL => have := LMc5.out; omega)
   intro v214 w20 ho hb hg hat
   rw [← Ny213.out] at ho
   replace BK204 := am (blk_grown (g := gb204) (o := .cells #[.slice A1_0 l1_0.length c1_0, .int .i64 a1_1, .int .i64 a1_2] 31 (0, 0)) (pk BK204.out) hg (Kd.S_away HO207.out (fun _ hk => hk.1.2)))
   replace HB := am (hb)
   have HO215 := am (ho)
   clear HO207 HO210 ho hb hg hat
   refine hK.out _ _ ⟨bc BK204.out 0, bc BK204.out 1, bc BK204.out 2⟩ (fun hHeld => ?_)
   clear hK K
   refine norm_ (a' := ?_) ?_ ?_
   rotate_left
   ·show Act.put _ (some 11) _ = _
    simp only [Act.put, sa_, s0_, ss_, i64_w, i32_w]
    rfl
   refine pure_ (i := 6) (N := some 5) (v := ?_) (a' := ?_) b49_7 rfl rfl (by kernel_rfl) (fun _ _ _ h => h) (Or.inl ⟨by rfl, ?_⟩) ?_ ?_; rotate_left
   ·intro w'; go_simp; with_reducible rfl
   rotate_left
   ·simp only [Act.put, sa_, s0_, ss_, i64_w, i32_w]; rfl
   refine done_ (by kernel_rfl) ?_
   obtain ⟨Ao22, co22, eo22⟩ := Kd.S_slice HO215.out
   subst eo22
   try go_wp2
   go_ret
   exact ⟨_, by first | rfl | (simp [errW_none, errW_some] <;> rfl) | (simp [*, errW_none, errW_some] <;> rfl), Kd.T_of_S (ks (Kd.S_mono HO215.out (fun _ hk => trivial))), by repeat (first | (with_reducible first | exact HB.out | apply below_alloc | apply pw_below_drewN | apply below_drew1 | refine below_set ?_ GE204.out) | exact HB.out)⟩
 ·rw [if_neg c5] at H
  exact absurd H (by simp)

end Go.Proofs.Ytkplopkhdejleaa.PFnExactUndoForth
