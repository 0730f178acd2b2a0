-- Written by xprint.py (this claim's own program, over the kit's printer); Lean checks it.
import Derived.Test.YtkplopkhdejleaaPFnExactUndoNotex0
import Derived.Test.YtkplopkhdejleaaPFnExactUndoNotex3
import Derived.Test.YtkplopkhdejleaaPFnExactUndoNotex4
namespace Go.Proofs.Ytkplopkhdejleaa.PFnExactUndoNote
open Go.RowKit Go.Proofs.YtkplopkhdejleaaW.PrintWords Go.Proofs.YtkplopkhdejleaaW.PrintLast Go.Proofs.YtkplopkhdejleaaW.PrintMore
attribute [local go_sem] max2_int min2_int max_two min_two max_three min_three max_four min_four   -- for this text's walks alone
set_option linter.unusedVariables false
set_option linter.unusedSimpArgs false   -- squeezed
set_option maxHeartbeats 8000000
set_option maxRecDepth 100000

/-! ### impl_ownBufs: function 67 -/
def impl_ownBufs.l0 : Nat → List (S31) → List (S31) → Int → Int → Option ((List (S31)))
 | 0, _, _, _, _ => none
 | k + 1, x3, x7, x8, x9 => if x9 < x8 then (if 0 ≤ x9 then (if x9 < (x7.length : Int) then ((impl_ownBuf.f ((rd_T31 x7 x9).f0) ((rd_T31 x7 x9).f1) ((rd_T31 x7 x9).f2)).bind fun bt255 => (if x3.length < 3518437208883 then (impl_ownBufs.l0 k (x3 ++ [(⟨bt255.1, bt255.2.1, bt255.2.2⟩ : S31)]) x7 x8 (wrap64 (x9 + 1))) else (none))) else (none)) else (none)) else (some x3)
def impl_ownBufs.f (k : Nat) (l0 : List (S31)) : Option ((List (S31))) := impl_ownBufs.l0 k (([] : List (S31))) l0 (l0.length : Int) 0
theorem impl_ownBufs.mono_l : ∀ k, (∀ y0 y1 y2 y3, LeO (impl_ownBufs.l0 k y0 y1 y2 y3) (impl_ownBufs.l0 (k + 1) y0 y1 y2 y3))
 | 0 => fun _ _ _ _ r h => by simp [impl_ownBufs.l0] at h
 | k + 1 => by
  have ih0 := impl_ownBufs.mono_l k
  ·intro y0 y1 y2 y3
   unfold impl_ownBufs.l0
   repeat' first
   | (with_reducible exact ih0 _ _ _ _)
   | (with_reducible exact LeO.refl _)
   | (with_reducible exact LeO.none _)
   | (with_reducible refine LeO.ite ?_ ?_)
   | (with_reducible refine LeO.bind ?_ (fun _ => ?_))
   | exact ih0 _ _ _ _
   | refine LeO.bind ?_ (fun _ => ?_)
theorem impl_ownBufs.mono : ∀ a0 k, LeO (impl_ownBufs.f k a0) (impl_ownBufs.f (k + 1) a0) := by
 intro a0 k
 have ih0 := impl_ownBufs.mono_l k
 unfold impl_ownBufs.f
 repeat' first
   | (with_reducible exact ih0 _ _ _ _)
   | (with_reducible exact LeO.refl _)
   | (with_reducible exact LeO.none _)
   | (with_reducible refine LeO.ite ?_ ?_)
   | (with_reducible refine LeO.bind ?_ (fun _ => ?_))
   | exact ih0 _ _ _ _
   | refine LeO.bind ?_ (fun _ => ?_)
theorem impl_ownBufs.calls (k : Nat) (A0 : Option Addr) (c0 : Nat) (l0 : List (S31)) (r : List (S31)) (w : World) (hr0 : Kd.C k31 w A0 l0.length l0) (hc0 : l0.length ≤ c0) (h : impl_ownBufs.f k l0 = some r) :
  Calls Try.prog 67 #[.slice A0 l0.length c0] w fun e w' => ∃ v0_ : Value, e = .returned (v0_) ∧ Kd.S k31 31 w' w.heap.size (fun _ => True) v0_ r ∧ Below w.heap.size w w' := by
 have hu31 := Try.underlying31
 have HR0 := am hr0
 have HC0 := am hc0
 clear hr0 hc0
 have HB := am (Below.refl w.heap.size w)
 have H : (impl_ownBufs.l0 k (([] : List (S31))) l0 (l0.length : Int) 0) = some r := h
 clear h
 obtain ⟨y250, hy250⟩ : ∃ y_ : List (S31), y_ = (([] : List (S31))) := ⟨_, rfl⟩
 replace H : (impl_ownBufs.l0 k y250 l0 (l0.length : Int) 0) = some r := by first | (rw [hy250]; with_reducible exact H) | (have H2_ := (Option.bind_some _ _).symm.trans H; rw [hy250]; with_reducible exact H2_) | (have H2_ := (Option.bind_some _ _).symm.trans H; with_reducible exact H2_) | with_reducible exact H | (rw [hy250]; exact H) | exact H
 have Ny250 := am hy250
 clear hy250
 have H' := Aside0.mk H
 clear H
 go_enter Try.func67, Try.ntmps67
 go_wp2_with (first | ((with_reducible refine gate_dst (N := 6) rfl ?_); refine Kd.S_lit k31 _ 31 ?hg (N := 6) ?hd (xs := ([] : List (S31))) (inner := []) (ok := fun _ => True) (okp := fun _ => True) ?hr ?hp (fun _ hk => hk) trivial (Below.refl _ _) (Nat.le_refl _) (by simp) ?_; (case hd => rfl); (case hg => rfl); (case hr => first | (go_simp; done) | (go_simp; rfl)); (case hp => exact (Reps.none _ _)); intro v251 w2 ho3 hb hg_ hnew_; clear hg_ hnew_; (first | rw [← Ny250.out] at ho3 | (simp only [Int.reduceToNat] at ho3; rw [← Ny250.out] at ho3)); have HO252 := am (Kd.S_lower ho3 (below_size (bl HB.out))); replace HB := am (below_step (bl HB.out) hb); clear hb ho3))
 go_loopg [3, 9] k (fun kq v3 v9 w' => ∃ (x3_1 : List (S31)) (x9_1 : Int), v9 = .int .i64 x9_1 ∧ Aside0 (impl_ownBufs.l0 kq x3_1 l0 (l0.length : Int) x9_1 = some r) ∧ Aside0 (kq ≤ k) ∧ Aside0 (Kd.S k31 31 w' w.heap.size (fun _ => True) v3 x3_1) ∧ Aside0 (Below w.heap.size w w'))
 case atStart => exact ⟨(y250), (0), (by first | rfl | (simp; done) | (simp [*]; done)), H', ⟨Nat.le_refl _⟩, ⟨ks HO252.out⟩, ⟨by repeat (first | (with_reducible first | exact HB.out | apply below_alloc | apply pw_below_drewN | apply below_drew1) | exact HB.out)⟩⟩
 case round =>
  clear H'
  try clear p2
  obtain ⟨x3_1, x9_1, rfl, HA, HK1, HO_3, HB⟩ := hrel
  cases gk with
  | zero => exact absurd HA.out (by simp [impl_ownBufs.l0])
  | succ k1 =>
   have H := HA.out
   clear HA
   simp only [impl_ownBufs.l0] at H
   by_cases c4 : x9_1 < (l0.length : Int)
   ·rw [if_pos c4] at H
    have c4b0 : decide (x9_1 < (l0.length : Int)) = true := decide_eq_true c4
    clear c4
    by_cases c5 : 0 ≤ x9_1
    ·rw [if_pos c5] at H
     have c5b0 : decide (0 ≤ x9_1) = true := decide_eq_true c5
     clear c5
     by_cases c6 : x9_1 < (l0.length : Int)
     ·rw [if_pos c6] at H
      have c6b0 : decide (x9_1 < (l0.length : Int)) = true := decide_eq_true c6
      clear c6
      replace H := Option.bind_eq_some_iff.mp H
      obtain ⟨⟨t255, t258, t259⟩, A70, H⟩ := H
      replace H : (if x3_1.length < 3518437208883 then (impl_ownBufs.l0 k1 (x3_1 ++ [(⟨t255, t258, t259⟩ : S31)]) l0 (l0.length : Int) (wrap64 (x9_1 + 1))) else (none)) = some r := H
      have A7 := Aside0.mk A70
      clear A70
      by_cases c8 : x3_1.length < 3518437208883
      ·rw [if_pos c8] at H
       have LMc8 := Aside0.mk c8
       clear c8
       obtain ⟨y260, hy260⟩ : ∃ y_ : List (S31), y_ = (x3_1 ++ [(⟨t255, t258, t259⟩ : S31)]) := ⟨_, rfl⟩
       replace H : (impl_ownBufs.l0 k1 y260 l0 (l0.length : Int) (wrap64 (x9_1 + 1))) = some r := by first | (rw [hy260]; with_reducible exact H) | (have H2_ := (Option.bind_some _ _).symm.trans H; rw [hy260]; with_reducible exact H2_) | (have H2_ := (Option.bind_some _ _).symm.trans H; with_reducible exact H2_) | with_reducible exact H | (rw [hy260]; exact H) | exact H
       have Ny260 := am hy260
       clear hy260
       have H' := Aside0.mk H
       clear H
       have p253 : 0 ≤ (x9_1 : Int) := of_decide_eq_true (by first | (with_reducible assumption) | assumption)
       have q253 : x9_1 < (l0.length : Int) := of_decide_eq_true (by first | (with_reducible assumption) | assumption)
       obtain ⟨ad253, A253_0, c253_0, e253, hx253_0, hx253_1, hx253_2, hl253_0, hi253_0⟩ := at_T31 HR0.out x9_1 p253 q253
       cases e253
       have hxw253_0 := hx253_0
       replace hx253_0 := (HB.out.cell (World.block_lt_of_cell? w _ hx253_0)).trans hx253_0
       have hxw253_1 := hx253_1
       replace hx253_1 := (HB.out.cell (World.block_lt_of_cell? w _ hx253_1)).trans hx253_1
       have hxw253_2 := hx253_2
       replace hx253_2 := (HB.out.cell (World.block_lt_of_cell? w _ hx253_2)).trans hx253_2
       have HR253_0 := am hi253_0
       have HC253_0 := am hl253_0
       clear hi253_0 hl253_0
       replace p253 := eq_true p253
       replace q253 := eq_true q253
       go_wp2_with (first | ((with_reducible refine gate_dst (N := 5) rfl ?_); refine box_event ?hg (N := 5) ?hd (cs := #[.slice none 0 0, .int .i64 0, .int .i64 0]) (t := 31) ?hr ?_; (case hd => rfl); (case hg => rfl); (case hr => first | (go_simp; done) | (go_simp; rfl)); intro gb254 hg w9 hbox hb; replace HO_3 := am (Kd.S_below (Kd.S_elderB (ks HO_3.out) gb254 (Nat.le_of_eq hg.symm)) hb); have BK254 := am (hbox); have GW254 := am ((by rw [hg]; exact (below_size (bl HB.out)) : w.heap.size ≤ gb254)); have GE254 := GW254; replace HB := am (below_step (bl HB.out) hb); clear hb hbox hg; have hcz10_0 : w9.cell? ⟨gb254, 0, none⟩ = some (.slice none 0 0) := bc BK254.out 0; have hcz10_1 : w9.cell? ⟨gb254, 1, none⟩ = some (.int .i64 0) := bc BK254.out 1; have hcz10_2 : w9.cell? ⟨gb254, 2, none⟩ = some (.int .i64 0) := bc BK254.out 2; have hfz10_0 := blk_frozen BK254.out 0; have hfz10_1 := blk_frozen BK254.out 1; have hfz10_2 := blk_frozen BK254.out 2) | ((with_reducible refine gate_callee (f := 40) rfl ?_); refine gl (some 15) Try.func40 #[.agg #[.slice A253_0 ((rd_T31 l0 x9_1).f0).length c253_0, .int .i64 ((rd_T31 l0 x9_1).f1), .int .i64 ((rd_T31 l0 x9_1).f2)]] ?_; (with_reducible refine (impl_ownBuf.calls _ _ ((rd_T31 l0 x9_1).f0) ((rd_T31 l0 x9_1).f1) ((rd_T31 l0 x9_1).f2) t255 t258 t259 _ ?side1 ?side2 A7.out).mono ?_); (case side1 => exact Kd.C_below HR253_0.out (bl HB.out)); (case side2 => exact HC253_0.out); rintro e w11 ⟨v256, rfl, ho0, hb⟩; refine ⟨_, rfl, ?_⟩; replace HO_3 := am (Kd.S_elder' (ks ((Kd.S_mono (Kd.S_far (p := ⟨gb254, 2, none⟩) (Kd.S_far (p := ⟨gb254, 1, none⟩) (Kd.S_far (p := ⟨gb254, 0, none⟩) (Kd.S_mono HO_3.out (fun k_ hk => (⟨hk, hk.2⟩ : _ ∧ k_ ≠ gb254))) (fun _ hk => hk.2) (.slice A253_0 ((rd_T31 l0 x9_1).f0).length c253_0)) (fun _ hk => hk.2) (.int .i64 ((rd_T31 l0 x9_1).f1))) (fun _ hk => hk.2) (.int .i64 ((rd_T31 l0 x9_1).f2))) (fun _ h_ => h_.1)))) (Kd.R_base ho0) hb); have HO257 := am (Kd.R_lower ho0 (below_size (bl HB.out))); replace BK254 := am (blk_below (g := gb254) (o := .cells #[.slice A253_0 ((rd_T31 l0 x9_1).f0).length c253_0, .int .i64 ((rd_T31 l0 x9_1).f1), .int .i64 ((rd_T31 l0 x9_1).f2)] 31 (0, 0)) (by refine pk ?_; refine blk_put (cs := #[.slice A253_0 ((rd_T31 l0 x9_1).f0).length c253_0, .int .i64 ((rd_T31 l0 x9_1).f1), .int .i64 0]) ?_ 2 _ rfl; refine pk ?_; refine blk_put (cs := #[.slice A253_0 ((rd_T31 l0 x9_1).f0).length c253_0, .int .i64 0, .int .i64 0]) ?_ 1 _ rfl; refine pk ?_; refine blk_put (cs := #[.slice none 0 0, .int .i64 0, .int .i64 0]) ?_ 0 _ rfl; refine pk ?_; exact BK254.out) hb); replace HB := am (below_step (bl HB.out) hb); (try clear hb); (try clear hb2); (try clear hk); (try clear hi); (try clear ho0); obtain ⟨Ao13, co13, eo13⟩ := Kd.R_slice HO257.out; subst eo13) | ((with_reducible refine gate_builtin (b := .append) (xs := #[.tmp 13, .tmp 16]) rfl ?_); at_builtin; refine Kd.S_append k31 (w0 := w) w.heap.size rfl (.tmp 13) (.tmp 16) 28 31 (.agg #[(.slice none 0 0), (.int .i64 0), (.int .i64 0)]) 40 rfl Try.underlying28 info31 rfl (by decide) (by omega) u3 x3_1 (⟨t255, t258, t259⟩ : S31) [.slice Ao13 t255.length co13, .int .i64 t258, .int .i64 t259] (fun k_ => k_ ≠ gb254) (fun k_ => some k_ = (.slice Ao13 t255.length co13 : Value).ownBlock) rfl rfl ?aP (fun k_ hk_ => ((Kd.R_mono (ok' := fun k_ => ((fun k_ => k_ ≠ gb254)) k_ ∧ some k_ ≠ (u3 : Value).ownBlock) (Kd.R_types (Kd.R_apart' (HO257.out) (Kd.S_typed HO_3.out) (by decide)) BK254.out (by decide)) (fun k_ hk => ⟨hk.2, hk.1.2⟩))).1 k_ hk_.symm) ?aF ?aO ?aB ?aS ?aL ?_; (case aP => exact k31_mkM _ _ _ (⟨t255, t258, t259⟩ : S31) (Kd.R_mono (Kd.R_tight rfl (Kd.R_mono (ok' := fun k_ => ((fun k_ => k_ ≠ gb254)) k_ ∧ some k_ ≠ (u3 : Value).ownBlock) (Kd.R_types (Kd.R_apart' (HO257.out) (Kd.S_typed HO_3.out) (by decide)) BK254.out (by decide)) (fun k_ hk => ⟨hk.2, hk.1.2⟩))) (fun _ h_ => h_))); (case aB => exact (bl HB.out)); (case aF => exact (fun k_ hk => Kd.freshB (g := gb254) (o := .cells #[.slice A253_0 ((rd_T31 l0 x9_1).f0).length c253_0, .int .i64 ((rd_T31 l0 x9_1).f1), .int .i64 ((rd_T31 l0 x9_1).f2)] 31 (0, 0)) (pk BK254.out) k_ hk)); (case aO => exact (ks (Kd.S_mono HO_3.out (fun k_ hk => ⟨hk.1.2, fun e_ => hk.2 e_⟩)))); (case aS => exact (below_size (bl HB.out))); (case aL => have := LMc8.out; omega); intro v261 w12 ho hb hg hat; rw [← Ny260.out] at ho; replace BK254 := am (blk_grown (g := gb254) (o := .cells #[.slice A253_0 ((rd_T31 l0 x9_1).f0).length c253_0, .int .i64 ((rd_T31 l0 x9_1).f1), .int .i64 ((rd_T31 l0 x9_1).f2)] 31 (0, 0)) (pk BK254.out) hg (Kd.S_away HO_3.out (fun _ hk => hk.1.2))); replace HB := am (hb); have HO262 := am (ho); clear HO_3 HO257; clear ho hb hg hat))
       go_roundg k1
       case measure => have := HK1.out; omega
       case rel => exact ⟨(y260), (wrap64 (x9_1 + 1)), (by first | rfl | (simp; done) | (simp [*]; done)), H', ⟨by have := HK1.out; omega⟩, ⟨ks (Kd.S_mono HO262.out (fun _ hk => trivial))⟩, ⟨by repeat (first | (with_reducible first | exact HB.out | apply below_alloc | apply pw_below_drewN | apply below_drew1 | refine below_set ?_ GE254.out) | exact HB.out)⟩⟩
      ·rw [if_neg c8] at H
       exact absurd H (by simp)
     ·rw [if_neg c6] at H
      exact absurd H (by simp)
    ·rw [if_neg c5] at H
     exact absurd H (by simp)
   ·rw [if_neg c4] at H
    have c4b0 : decide (x9_1 < (l0.length : Int)) = false := decide_eq_false c4
    clear c4
    obtain rfl := Option.some.inj H
    go_wp2
    go_ret
    exact ⟨_, by first | rfl | (simp [errW_none, errW_some] <;> rfl) | (simp [*, errW_none, errW_some] <;> rfl), ks HO_3.out, by repeat (first | (with_reducible first | exact HB.out | apply below_alloc | apply pw_below_drewN | apply below_drew1) | exact HB.out)⟩

/-! ### impl_ownUndo: function 52 -/
def impl_ownUndo.f (k : Nat) (l0_0 : List (S31)) (l0_1 : List (S31)) : Option ((List (S31)) × (List (S31))) := (impl_ownBufs.f k l0_0).bind fun t265 => ((impl_ownBufs.f k l0_1).bind fun t268 => (some (t265, t268)))
theorem impl_ownUndo.mono : ∀ a0 a1 k, LeO (impl_ownUndo.f k a0 a1) (impl_ownUndo.f (k + 1) a0 a1) := by
 intro a0 a1 k
 unfold impl_ownUndo.f
 repeat' first
   | (with_reducible exact impl_ownBufs.mono _ _)
   | (with_reducible exact LeO.refl _)
   | (with_reducible exact LeO.none _)
   | (with_reducible refine LeO.ite ?_ ?_)
   | (with_reducible refine LeO.bind ?_ (fun _ => ?_))
   | exact impl_ownBufs.mono _ _
   | refine LeO.bind ?_ (fun _ => ?_)
def impl_ownUndo.T1 : Bool × List (List Nat × List Nat) := (true, [([], []), ([0], [0]), ([1], [1]), ([], []), ([3], [3]), ([4, 2], [4]), ([2, 5], [2, 5]), ([6, 5, 0, 1, 2, 3, 4, 5, 6], [6])])
def impl_ownUndo.B1 : List Nat := [0, 1, 3, 0, 8, 31, 63, 127]
theorem impl_ownUndo.tab1 : rtab .any (opsOf Try.f52 1) = impl_ownUndo.T1 := by kernel_rfl
theorem impl_ownUndo.bits1 : waitsOk impl_ownUndo.T1.2 impl_ownUndo.B1 = true := by kernel_rfl
theorem impl_ownUndo.callsA (k : Nat) (A0_0 : Option Addr) (c0_0 : Nat) (l0_0 : List (S31)) (A0_1 : Option Addr) (c0_1 : Nat) (l0_1 : List (S31)) (r1 : List (S31)) (r2 : List (S31)) (w : World) (hr0_0 : Kd.C k31 w A0_0 l0_0.length l0_0) (hc0_0 : l0_0.length ≤ c0_0) (hr0_1 : Kd.C k31 w A0_1 l0_1.length l0_1) (hc0_1 : l0_1.length ≤ c0_1) (h : impl_ownUndo.f k l0_0 l0_1 = some (r1, r2)) :
  Calls Try.prog 52 #[.agg #[.slice A0_0 l0_0.length c0_0, .slice A0_1 l0_1.length c0_1]] w fun e w' => ∃ m1_ : Nat, (w.heap.size ≤ m1_ ∧ m1_ ≤ w'.heap.size) ∧ ∃ v0_ v1_ : Value, e = .returned (.agg #[v0_, v1_]) ∧ Kd.S k31 31 w' w.heap.size (fun k_ => k_ < m1_) v0_ r1 ∧ Kd.S k31 31 w' w.heap.size (fun k_ => m1_ ≤ k_) v1_ r2 ∧ Below w.heap.size w w' := by
 have hu30 := Try.underlying30
 have HR0_0 := am hr0_0
 have HC0_0 := am hc0_0
 clear hr0_0 hc0_0
 have HR0_1 := am hr0_1
 have HC0_1 := am hc0_1
 clear hr0_1 hc0_1
 have HB := am (Below.refl w.heap.size w)
 have H : ((impl_ownBufs.f k l0_0).bind fun t265 => ((impl_ownBufs.f k l0_1).bind fun t268 => (some (t265, t268)))) = some (r1, r2) := h
 clear h
 replace H := Option.bind_eq_some_iff.mp H
 obtain ⟨t265, A20, H⟩ := H
 replace H : ((impl_ownBufs.f k l0_1).bind fun t268 => (some (t265, t268))) = some (r1, r2) := H
 have A2 := Aside0.mk A20
 clear A20
 replace H := Option.bind_eq_some_iff.mp H
 obtain ⟨t268, A30, H⟩ := H
 replace H : (some (t265, t268)) = some (r1, r2) := H
 have A3 := Aside0.mk A30
 clear A30
 simp only [Option.some.injEq, Prod.mk.injEq] at H
 obtain ⟨rfl, rfl⟩ := H
 go_enter Try.func52, Try.ntmps52
 try go_wp2_with (first | ((with_reducible refine gate_dst (N := 1) rfl ?_); refine box_event ?hg (N := 1) ?hd (cs := #[.slice A0_0 l0_0.length c0_0, .slice A0_1 l0_1.length c0_1]) (t := 30) ?hr ?_; (case hd => rfl); (case hg => rfl); (case hr => first | (go_simp; done) | (go_simp; rfl)); intro gb263 hg w4 hbox hb; have BK263 := am (hbox); have GW263 := am ((by rw [hg]; exact (below_size (bl HB.out)) : w.heap.size ≤ gb263)); have GE263 := GW263; replace HB := am (below_step (bl HB.out) hb); clear hb hbox hg) | ((with_reducible refine gate_dst (N := 2) rfl ?_); refine box_event ?hg (N := 2) ?hd (cs := #[.slice none 0 0, .slice none 0 0]) (t := 30) ?hr ?_; (case hd => rfl); (case hg => rfl); (case hr => first | (go_simp; done) | (go_simp; rfl)); intro gb264 hg w5 hbox hb; have BK264 := am (hbox); have GW264 := am ((by rw [hg]; exact (below_size (bl HB.out)) : w.heap.size ≤ gb264)); have GE264 := GW264; replace HB := am (below_step (bl HB.out) hb); have NB263_264 := am ((by rw [hg]; exact Nat.ne_of_lt (blk_lt (pk BK263.out)) : gb263 ≠ gb264)); have NB264_263 := am ((by rw [hg]; exact Nat.ne_of_gt (blk_lt (pk BK263.out)) : gb264 ≠ gb263)); replace BK263 := am (blk_below (pk BK263.out) hb); clear hb hbox hg))
 replace BK263 := am (blk_drew BK263.out)
 replace BK264 := am (blk_drew BK264.out)
 replace HB := am (below_drew1 HB.out)
 refine start_ (n := 8) (S := fun w' => w'.cell? ⟨gb263, 0, none⟩ = some (.slice A0_0 l0_0.length c0_0) ∧ w'.cell? ⟨gb263, 1, none⟩ = some (.slice A0_1 l0_1.length c0_1)) (ds := []) #[false, false, false, false, false, false, false, false] (by kernel_rfl) rfl rfl ⟨bc BK263.out 0, bc BK263.out 1⟩ (fun hHeld => ?_); refine with_tabW impl_ownUndo.tab1 impl_ownUndo.bits1 (fun HT_ HW_ => ?_)
 generalize w5.drew = w6 at BK263 BK264 HB hHeld ⊢
 refine pure_ (i := 0) (N := some 3) (v := ?_) (a' := ?_) #[true, false, false, false, false, false, false, false] rfl rfl (any_of HT_.out (by kernel_rfl)) (fun _ _ _ h => h) (Or.inl ⟨by rfl, ?_⟩) ?_ ?_; rotate_left
 ·intro w'; go_simp; with_reducible rfl
 rotate_left
 ·simp only [Act.put, sa_, s0_, ss_, i64_w, i32_w]; rfl
 refine pure_ (i := 3) (N := some 6) (v := ?_) (a' := ?_) #[true, false, false, true, false, false, false, false] rfl rfl (any_of HT_.out (by kernel_rfl)) (fun _ _ _ h => h) (Or.inl ⟨by rfl, ?_⟩) ?_ ?_; rotate_left
 ·intro w'; go_simp; with_reducible rfl
 rotate_left
 ·simp only [Act.put, sa_, s0_, ss_, i64_w, i32_w]; rfl
 refine take_ (i := 1) (N := some 4) (v := ?_) (a' := ?_) #[true, true, false, true, false, false, false, false] rfl rfl (take_ofW HT_.out HW_.out (by kernel_rfl)) (fun _ _ _ h => h) (Or.inl ⟨by rfl, ?_⟩) hHeld ?_ ?_; rotate_left
 ·rintro w' ⟨s0, s1⟩; go_simp; with_reducible rfl
 rotate_left
 ·simp only [Act.put, sa_, s0_, ss_, i64_w, i32_w]; rfl
 refine take_ (i := 4) (N := some 7) (v := ?_) (a' := ?_) #[true, true, false, true, true, false, false, false] rfl rfl (take_ofW HT_.out HW_.out (by kernel_rfl)) (fun _ _ _ h => h) (Or.inl ⟨by rfl, ?_⟩) hHeld ?_ ?_; rotate_left
 ·rintro w' ⟨s0, s1⟩; go_simp; with_reducible rfl
 rotate_left
 ·simp only [Act.put, sa_, s0_, ss_, i64_w, i32_w]; rfl
 refine one_ (i := 2) (N := some 5) #[true, true, true, true, true, false, false, false] rfl rfl (one_of HT_.out (by kernel_rfl)) (by decide) (fun K hK => ?_)
 refine gs_ Try.func67 #[.slice A0_0 l0_0.length c0_0] ?_
 with_reducible refine (impl_ownBufs.calls k _ _ l0_0 t265 _ ?side1 ?side2 A2.out).mono ?_
 (case side1 => repeat (first | exact (Kd.C_below HR0_0.out HB.out) | (with_reducible refine Kd.C_alloc ?_ _) | (with_reducible refine Kd.C_drewN ?_ _) | (with_reducible refine Kd.C_drew ?_)))
 (case side2 => exact HC0_0.out)
 rintro e w7 ⟨v266, rfl, ho0, hb⟩
 refine ⟨_, rfl, ?_⟩
 have HO267 := am (Kd.S_lower ho0 (below_size (bl HB.out)))
 replace BK263 := am (blk_below (pk BK263.out) hb)
 replace BK264 := am (blk_below (pk BK264.out) hb)
 replace HB := am (below_step (bl HB.out) hb)
 (try clear hb)
 (try clear hb2)
 (try clear hk)
 (try clear hi)
 (try clear ho0)
 refine hK.out _ _ ⟨bc BK263.out 0, bc BK263.out 1⟩ (fun hHeld => ?_)
 clear hK K
 refine norm_ (a' := ?_) ?_ ?_
 rotate_left
 ·show Act.put _ (some 5) _ = _
  simp only [Act.put, sa_, s0_, ss_, i64_w, i32_w]
  rfl
 refine one_ (i := 5) (N := some 8) #[true, true, true, true, true, true, false, false] rfl rfl (one_of HT_.out (by kernel_rfl)) (by decide) (fun K hK => ?_)
 refine gs_ Try.func67 #[.slice A0_1 l0_1.length c0_1] ?_
 with_reducible refine (impl_ownBufs.calls k _ _ l0_1 t268 _ ?side1 ?side2 A3.out).mono ?_
 (case side1 => repeat (first | exact (Kd.C_below HR0_1.out HB.out) | (with_reducible refine Kd.C_alloc ?_ _) | (with_reducible refine Kd.C_drewN ?_ _) | (with_reducible refine Kd.C_drew ?_)))
 (case side2 => exact HC0_1.out)
 rintro e w8 ⟨v269, rfl, ho0, hb⟩
 obtain ⟨m1_, mb1_, ha1_, hz1_, hc1_⟩ := nxt_ hb
 have hw1_ : w.heap.size ≤ m1_ := (by rw [ha1_]; exact below_size (bl HB.out))
 refine ⟨_, rfl, ?_⟩
 have HO270 := am (Kd.S_mono (ok' := fun k_ => m1_ ≤ k_) (Kd.S_lower (Kd.S_new' (Kd.S_bound ho0) (Kd.S_lt (ks HO267.out))) (below_size (bl HB.out))) (fun _ hk => by rw [ha1_]; exact hk.1.2.1))
 replace HO267 := am (Kd.S_mono (ok' := fun k_ => k_ < m1_) (Kd.S_elder' (Kd.S_bound (ks HO267.out)) (Kd.S_base ho0) hb) (fun _ hk => by rw [ha1_]; exact hk.1.2.2.1))
 replace BK263 := am (blk_below (pk BK263.out) hb)
 replace BK264 := am (blk_below (pk BK264.out) hb)
 replace HB := am (below_step (bl HB.out) hb)
 (try clear hb)
 (try clear hb2)
 (try clear hk)
 (try clear hi)
 (try clear ho0)
 obtain ⟨Ao9, co9, eo9⟩ := Kd.S_slice HO270.out
 (first | subst eo9 | (injection eo9 with f1_ f2_ f3_; have f4_ := f1_.symm; have f5_ := f3_.symm; clear f1_ f2_ f3_; subst f4_; subst f5_))
 obtain ⟨Ao10, co10, eo10⟩ := Kd.S_slice HO267.out
 (first | subst eo10 | (injection eo10 with f1_ f2_ f3_; have f4_ := f1_.symm; have f5_ := f3_.symm; clear f1_ f2_ f3_; subst f4_; subst f5_))
 refine hK.out _ _ ⟨bc BK263.out 0, bc BK263.out 1⟩ (fun hHeld => ?_)
 clear hK K
 refine norm_ (a' := ?_) ?_ ?_
 rotate_left
 ·show Act.put _ (some 8) _ = _
  simp only [Act.put, sa_, s0_, ss_, i64_w, i32_w]
  rfl
 refine pure_ (i := 6) (N := some 9) (v := ?_) (a' := ?_) #[true, true, true, true, true, true, true, false] rfl rfl (any_of HT_.out (by kernel_rfl)) (fun _ _ _ h => h) (Or.inl ⟨by rfl, ?_⟩) ?_ ?_; rotate_left
 ·intro w'; go_simp; with_reducible rfl
 rotate_left
 ·simp only [Act.put, sa_, s0_, ss_, i64_w, i32_w]; rfl
 refine one_ (i := 7) (N := none) #[true, true, true, true, true, true, true, true] rfl rfl (one_of HT_.out (by kernel_rfl)) (by decide) (fun K hK => ?_)
 have hs11 : w8.cell? ⟨gb264, 0, none⟩ = some (.slice none 0 0) := bc BK264.out 0
 have hfs11 := blk_frozen BK264.out 0
 have hns11_0 := NB263_264.out
 have hms11_0 := NB264_263.out
 have hs12 : w8.cell? ⟨gb264, 1, none⟩ = some (.slice none 0 0) := bc BK264.out 1
 have hfs12 := blk_frozen BK264.out 1
 refine skip_ (w1 := ?_) (by rfl) rfl ?_ ?_
 rotate_left
 ·go_simp
  rfl
 refine hK.out _ _ ⟨((cell_far (p := ⟨gb264, _, none⟩) NB263_264.out _).trans (((cell_far (p := ⟨gb264, _, none⟩) NB263_264.out _).trans (hHeld.1)))), ((cell_far (p := ⟨gb264, _, none⟩) NB263_264.out _).trans (((cell_far (p := ⟨gb264, _, none⟩) NB263_264.out _).trans (hHeld.2))))⟩ (fun hHeld => ?_)
 clear hK K
 refine done_ (done_of HT_.out (by kernel_rfl)) ?_
 try go_wp2
 refine bodyPost_ret (results_cell_row rfl _ _ gb264 30 #[.slice Ao10 t265.length co10, .slice Ao9 t268.length co9] (0, 0) _ rfl (by refine pk ?_; refine blk_put (cs := #[.slice Ao10 t265.length co10, .slice none 0 0]) ?_ 1 _ rfl; refine pk ?_; refine blk_put (cs := #[.slice none 0 0, .slice none 0 0]) ?_ 0 _ rfl; refine pk ?_; exact BK264.out) Try.underlying30 rfl (by kernel_rfl)) rfl ?_
 exact ⟨m1_, ⟨hw1_, (by (try simp only [World.size_setCell]); omega)⟩, _, _, by first | rfl | (simp [errW_none, errW_some] <;> rfl) | (simp [*, errW_none, errW_some] <;> rfl), ks (Kd.S_mono (Kd.S_far (p := ⟨gb264, 1, none⟩) (Kd.S_far (p := ⟨gb264, 0, none⟩) (Kd.S_types HO267.out BK264.out (by decide)) (fun _ hk => hk.2) (.slice Ao10 t265.length co10)) (fun _ hk => hk.2) (.slice Ao9 t268.length co9)) (fun _ hk => hk.1)), ks (Kd.S_mono (Kd.S_far (p := ⟨gb264, 1, none⟩) (Kd.S_far (p := ⟨gb264, 0, none⟩) (Kd.S_types HO270.out BK264.out (by decide)) (fun _ hk => hk.2) (.slice Ao10 t265.length co10)) (fun _ hk => hk.2) (.slice Ao9 t268.length co9)) (fun _ hk => hk.1)), by repeat (first | (with_reducible first | exact HB.out | apply below_alloc | apply pw_below_drewN | apply below_drew1 | refine below_set ?_ GE263.out | refine below_set ?_ GE264.out) | exact HB.out)⟩
theorem impl_ownUndo.calls (k : Nat) (A0_0 : Option Addr) (c0_0 : Nat) (l0_0 : List (S31)) (A0_1 : Option Addr) (c0_1 : Nat) (l0_1 : List (S31)) (r1 : List (S31)) (r2 : List (S31)) (w : World) (hr0_0 : Kd.C k31 w A0_0 l0_0.length l0_0) (hc0_0 : l0_0.length ≤ c0_0) (hr0_1 : Kd.C k31 w A0_1 l0_1.length l0_1) (hc0_1 : l0_1.length ≤ c0_1) (h : impl_ownUndo.f k l0_0 l0_1 = some (r1, r2)) :
  Calls Try.prog 52 #[.agg #[.slice A0_0 l0_0.length c0_0, .slice A0_1 l0_1.length c0_1]] w fun e w' => ∃ v0_ v1_ : Value, e = .returned (.agg #[v0_, v1_]) ∧ Kd.S k31 31 w' w.heap.size (fun k_ => some k_ ≠ (v1_ : Value).ownBlock) v0_ r1 ∧ Kd.S k31 31 w' w.heap.size (fun k_ => some k_ ≠ (v0_ : Value).ownBlock) v1_ r2 ∧ Below w.heap.size w w' := by
 refine (impl_ownUndo.callsA k A0_0 c0_0 l0_0 A0_1 c0_1 l0_1 r1 r2 w hr0_0 hc0_0 hr0_1 hc0_1 h).mono ?_
 rintro e w' ⟨m1_, _, v0_, v1_, he_, h0_, h1_, hb_⟩
 exact ⟨v0_, v1_, he_, Kd.S_mono h0_ (fun k_ hk_ => (fun e_ => by have z_ : (fun k_ => m1_ ≤ k_) k_ := Kd.S_own h1_ k_ e_.symm; have y_ : (fun k_ => k_ < m1_) k_ := hk_; dsimp only at z_ y_; omega)), Kd.S_mono h1_ (fun k_ hk_ => (fun e_ => by have z_ : (fun k_ => k_ < m1_) k_ := Kd.S_own h0_ k_ e_.symm; have y_ : (fun k_ => m1_ ≤ k_) k_ := hk_; dsimp only at z_ y_; omega)), hb_⟩


/-! ### impl_behindBufs: function 53 -/
def impl_behindBufs.f (k : Nat) (l0 : List (S31)) (l1_0 : List Int) (a1_1 : Int) (a1_2 : Int) : Option ((List (S31))) := (impl_ownBufs.f k l0).bind fun t272 => ((impl_ownBuf.f l1_0 a1_1 a1_2).bind fun bt275 => (if t272.length < 3518437208883 then ((some (t272 ++ [(⟨bt275.1, bt275.2.1, bt275.2.2⟩ : S31)] : List (S31))).bind fun y280 => (if 0 ≤ (mx (wrap64 ((y280.length : Int) - 20)) 0) then (if (mx (wrap64 ((y280.length : Int) - 20)) 0) ≤ (y280.length : Int) then (some (y280.drop ((mx (wrap64 ((y280.length : Int) - 20)) 0) : Int).toNat)) else (none)) else (none))) else (none)))
theorem impl_behindBufs.mono : ∀ a0 a1 a2 a3 k, LeO (impl_behindBufs.f k a0 a1 a2 a3) (impl_behindBufs.f (k + 1) a0 a1 a2 a3) := by
 intro a0 a1 a2 a3 k
 unfold impl_behindBufs.f
 repeat' first
   | (with_reducible exact impl_ownBufs.mono _ _)
   | (with_reducible exact LeO.refl _)
   | (with_reducible exact LeO.none _)
   | (with_reducible refine LeO.ite ?_ ?_)
   | (with_reducible refine LeO.bind ?_ (fun _ => ?_))
   | exact impl_ownBufs.mono _ _
   | refine LeO.bind ?_ (fun _ => ?_)
theorem impl_behindBufs.calls (k : Nat) (A0 : Option Addr) (c0 : Nat) (l0 : List (S31)) (A1_0 : Option Addr) (c1_0 : Nat) (l1_0 : List Int) (a1_1 : Int) (a1_2 : Int) (r : List (S31)) (w : World) (hr0 : Kd.C k31 w A0 l0.length l0) (hc0 : l0.length ≤ c0) (hr1_0 : Kd.C (Kd.int .i64) w A1_0 l1_0.length l1_0) (hc1_0 : l1_0.length ≤ c1_0) (h : impl_behindBufs.f k l0 l1_0 a1_1 a1_2 = some r) :
  Calls Try.prog 53 #[.slice A0 l0.length c0, .agg #[.slice A1_0 l1_0.length c1_0, .int .i64 a1_1, .int .i64 a1_2]] w fun e w' => ∃ v0_ : Value, e = .returned (v0_) ∧ Kd.T k31 31 w' w.heap.size (fun _ => True) v0_ r ∧ Below w.heap.size w w' := by
 have hu31 := Try.underlying31
 have HR0 := am hr0
 have HC0 := am hc0
 clear hr0 hc0
 have HR1_0 := am hr1_0
 have HC1_0 := am hc1_0
 clear hr1_0 hc1_0
 have HB := am (Below.refl w.heap.size w)
 have H : ((impl_ownBufs.f k l0).bind fun t272 => ((impl_ownBuf.f l1_0 a1_1 a1_2).bind fun bt275 => (if t272.length < 3518437208883 then ((some (t272 ++ [(⟨bt275.1, bt275.2.1, bt275.2.2⟩ : S31)] : List (S31))).bind fun y280 => (if 0 ≤ (mx (wrap64 ((y280.length : Int) - 20)) 0) then (if (mx (wrap64 ((y280.length : Int) - 20)) 0) ≤ (y280.length : Int) then (some (y280.drop ((mx (wrap64 ((y280.length : Int) - 20)) 0) : Int).toNat)) else (none)) else (none))) else (none)))) = some r := h
 clear h
 replace H := Option.bind_eq_some_iff.mp H
 obtain ⟨t272, A30, H⟩ := H
 replace H : ((impl_ownBuf.f l1_0 a1_1 a1_2).bind fun bt275 => (if t272.length < 3518437208883 then ((some (t272 ++ [(⟨bt275.1, bt275.2.1, bt275.2.2⟩ : S31)] : List (S31))).bind fun y280 => (if 0 ≤ (mx (wrap64 ((y280.length : Int) - 20)) 0) then (if (mx (wrap64 ((y280.length : Int) - 20)) 0) ≤ (y280.length : Int) then (some (y280.drop ((mx (wrap64 ((y280.length : Int) - 20)) 0) : Int).toNat)) else (none)) else (none))) else (none))) = some r := H
 have A3 := Aside0.mk A30
 clear A30
 replace H := Option.bind_eq_some_iff.mp H
 obtain ⟨⟨t275, t278, t279⟩, A40, H⟩ := H
 replace H : (if t272.length < 3518437208883 then ((some (t272 ++ [(⟨t275, t278, t279⟩ : S31)] : List (S31))).bind fun y280 => (if 0 ≤ (mx (wrap64 ((y280.length : Int) - 20)) 0) then (if (mx (wrap64 ((y280.length : Int) - 20)) 0) ≤ (y280.length : Int) then (some (y280.drop ((mx (wrap64 ((y280.length : Int) - 20)) 0) : Int).toNat)) else (none)) else (none))) else (none)) = some r := H
 have A4 := Aside0.mk A40
 clear A40
 by_cases c5 : t272.length < 3518437208883
 ·rw [if_pos c5] at H
  have LMc5 := Aside0.mk c5
  clear c5
  obtain ⟨y280, hy280⟩ : ∃ y_ : List (S31), y_ = (t272 ++ [(⟨t275, t278, t279⟩ : S31)]) := ⟨_, rfl⟩
  replace H : (if 0 ≤ (mx (wrap64 ((y280.length : Int) - 20)) 0) then (if (mx (wrap64 ((y280.length : Int) - 20)) 0) ≤ (y280.length : Int) then (some (y280.drop ((mx (wrap64 ((y280.length : Int) - 20)) 0) : Int).toNat)) else (none)) else (none)) = some r := by first | (rw [hy280]; with_reducible exact H) | (have H2_ := (Option.bind_some _ _).symm.trans H; rw [hy280]; with_reducible exact H2_) | (have H2_ := (Option.bind_some _ _).symm.trans H; with_reducible exact H2_) | with_reducible exact H | (rw [hy280]; exact H) | exact H
  have Ny280 := am hy280
  clear hy280
  obtain ⟨ji6, hji6⟩ : ∃ j_ : Int, (mx (wrap64 ((y280.length : Int) - 20)) 0) = j_ := ⟨_, rfl⟩
  replace H : (if 0 ≤ (ji6) then (if (ji6) ≤ (y280.length : Int) then (some (y280.drop ((ji6) : Int).toNat)) else (none)) else (none)) = some r := by first | (rw [hji6] at H; exact H) | (simp only [hji6] at H ⊢; exact H)
  (try rw [hji6] at A3)
  (try rw [hji6] at A4)
  (try (have hji6l : 0 ≤ ji6 := by (rw [← hji6]; unfold mx; (repeat' split) <;> omega)))
  (try (have hji6m : 0 ≤ ji6 := by omega))
  have hji6_ : (if (wrap64 ((y280.length : Int) - 20)) < 0 then 0 else (wrap64 ((y280.length : Int) - 20))) = ji6 := hji6
  by_cases c7 : 0 ≤ (ji6)
  ·rw [if_pos c7] at H
   have c7b0 := eq_true c7
   have c7b1 : decide (0 ≤ (ji6)) = true := decide_eq_true c7
   clear c7
   by_cases c8 : (ji6) ≤ (y280.length : Int)
   ·rw [if_pos c8] at H
    have c8b0 := eq_true c8
    have c8b1 : decide ((ji6) ≤ (y280.length : Int)) = true := decide_eq_true c8
    clear c8
    obtain ⟨y283, hy283⟩ : ∃ y_ : List (S31), y_ = (y280.drop ((ji6) : Int).toNat) := ⟨_, rfl⟩
    replace H : (some y283) = some r := by first | (rw [hy283]; with_reducible exact H) | (have H2_ := (Option.bind_some _ _).symm.trans H; rw [hy283]; with_reducible exact H2_) | (have H2_ := (Option.bind_some _ _).symm.trans H; with_reducible exact H2_) | with_reducible exact H | (rw [hy283]; exact H) | exact H
    have Ny283 := am hy283
    clear hy283
    obtain rfl := Option.some.inj H
    go_enter Try.func53, Try.ntmps53
    try go_wp2_with (first | ((with_reducible refine gate_dst (N := 3) rfl ?_); refine box_event ?hg (N := 3) ?hd (cs := #[.slice A1_0 l1_0.length c1_0, .int .i64 a1_1, .int .i64 a1_2]) (t := 31) ?hr ?_; (case hd => rfl); (case hg => rfl); (case hr => first | (go_simp; done) | (go_simp; rfl)); intro gb271 hg w9 hbox hb; have BK271 := am (hbox); have GW271 := am ((by rw [hg]; exact (below_size (bl HB.out)) : w.heap.size ≤ gb271)); have GE271 := GW271; replace HB := am (below_step (bl HB.out) hb); clear hb hbox hg))
    replace BK271 := am (blk_drew BK271.out)
    replace HB := am (below_drew1 HB.out)
    refine start_ (n := 7) (S := fun w' => w'.cell? ⟨gb271, 0, none⟩ = some (.slice A1_0 l1_0.length c1_0) ∧ w'.cell? ⟨gb271, 1, none⟩ = some (.int .i64 a1_1) ∧ w'.cell? ⟨gb271, 2, none⟩ = some (.int .i64 a1_2)) (ds := []) #[false, false, false, false, false, false, false] (by kernel_rfl) rfl rfl ⟨bc BK271.out 0, bc BK271.out 1, bc BK271.out 2⟩ (fun hHeld => ?_)
    generalize w9.drew = w10 at BK271 HB hHeld ⊢
    refine pure_ (i := 0) (N := some 6) (v := ?_) (a' := ?_) #[true, false, false, false, false, false, false] rfl rfl (by kernel_rfl) (fun _ _ _ h => h) (Or.inl ⟨by rfl, ?_⟩) ?_ ?_; rotate_left
    ·intro w'; go_simp; with_reducible rfl
    rotate_left
    ·simp only [Act.put, sa_, s0_, ss_, i64_w, i32_w]; rfl
    refine take_ (i := 2) (N := some 8) (v := ?_) (a' := ?_) #[true, false, true, false, false, false, false] rfl rfl (by kernel_rfl) (fun _ _ _ h => h) (Or.inl ⟨by rfl, ?_⟩) hHeld ?_ ?_; rotate_left
    ·rintro w' ⟨s0, s1, s2⟩; go_simp; with_reducible rfl
    rotate_left
    ·simp only [Act.put, sa_, s0_, ss_, i64_w, i32_w]; rfl
    refine one_ (i := 1) (N := some 7) #[true, true, true, false, false, false, false] rfl rfl (by kernel_rfl) (by decide) (fun K hK => ?_)
    refine gs_ Try.func67 #[.slice A0 l0.length c0] ?_
    with_reducible refine (impl_ownBufs.calls k _ _ l0 t272 _ ?side1 ?side2 A3.out).mono ?_
    (case side1 => repeat (first | exact (Kd.C_below HR0.out HB.out) | (with_reducible refine Kd.C_alloc ?_ _) | (with_reducible refine Kd.C_drewN ?_ _) | (with_reducible refine Kd.C_drew ?_)))
    (case side2 => exact HC0.out)
    rintro e w11 ⟨v273, rfl, ho0, hb⟩
    refine ⟨_, rfl, ?_⟩
    have HO274 := am (Kd.S_lower (Kd.S_newB ho0 (g := gb271) (o := .cells #[.slice A1_0 l1_0.length c1_0, .int .i64 a1_1, .int .i64 a1_2] 31 (0, 0)) (pk BK271.out)) (below_size (bl HB.out)))
    replace BK271 := am (blk_below (pk BK271.out) hb)
    replace HB := am (below_step (bl HB.out) hb)
    (try clear hb)
    (try clear hb2)
    (try clear hk)
    (try clear hi)
    (try clear ho0)
    refine hK.out _ _ ⟨bc BK271.out 0, bc BK271.out 1, bc BK271.out 2⟩ (fun hHeld => ?_)
    clear hK K
    refine norm_ (a' := ?_) ?_ ?_
    rotate_left
    ·show Act.put _ (some 7) _ = _
     simp only [Act.put, sa_, s0_, ss_, i64_w, i32_w]
     rfl
    refine one_ (i := 3) (N := some 9) #[true, true, true, true, false, false, false] rfl rfl (by kernel_rfl) (by decide) (fun K hK => ?_)
    refine gs_ Try.func40 #[.agg #[.slice A1_0 l1_0.length c1_0, .int .i64 a1_1, .int .i64 a1_2]] ?_
    with_reducible refine (impl_ownBuf.calls _ _ l1_0 a1_1 a1_2 t275 t278 t279 _ ?side1 ?side2 A4.out).mono ?_
    (case side1 => repeat (first | exact (Kd.C_below HR1_0.out HB.out) | (with_reducible refine Kd.C_alloc ?_ _) | (with_reducible refine Kd.C_drewN ?_ _) | (with_reducible refine Kd.C_drew ?_)))
    (case side2 => exact HC1_0.out)
    rintro e w12 ⟨v276, rfl, ho0, hb⟩
    refine ⟨_, rfl, ?_⟩
    replace HO274 := am (Kd.S_elder' (ks HO274.out) (Kd.R_base ho0) hb)
    have HO277 := am (Kd.R_lower ho0 (below_size (bl HB.out)))
    replace BK271 := am (blk_below (pk BK271.out) hb)
    replace HB := am (below_step (bl HB.out) hb)
    (try clear hb)
    (try clear hb2)
    (try clear hk)
    (try clear hi)
    (try clear ho0)
    obtain ⟨Ao14, co14, eo14⟩ := Kd.R_slice HO277.out
    (first | subst eo14 | (injection eo14 with f1_ f2_ f3_; have f4_ := f1_.symm; have f5_ := f3_.symm; clear f1_ f2_ f3_; subst f4_; subst f5_))
    refine hK.out _ _ ⟨bc BK271.out 0, bc BK271.out 1, bc BK271.out 2⟩ (fun hHeld => ?_)
    clear hK K
    refine norm_ (a' := ?_) ?_ ?_
    rotate_left
    ·show Act.put _ (some 9) _ = _
     simp only [Act.put, sa_, s0_, ss_, i64_w, i32_w]
     rfl
    refine one_ (i := 4) (N := some 10) #[true, true, true, true, true, false, false] rfl rfl (by kernel_rfl) (by decide) (fun K hK => ?_)
    refine value_ (w1 := ?_) (v := ?_) (by rfl) rfl ?_ ?_
    rotate_left 2
    ·go_simp
     constructor
     ·rfl
     ·rfl
    refine hK.out _ _ ⟨(blk_cell (blk_alloc BK271.out _) 0).trans rfl, (blk_cell (blk_alloc BK271.out _) 1).trans rfl, (blk_cell (blk_alloc BK271.out _) 2).trans rfl⟩ (fun hHeld => ?_)
    clear hK K
    refine norm_ (a' := ?_) ?_ ?_
    rotate_left
    ·show Act.put _ (some 10) _ = _
     simp only [Act.put, sa_, s0_, ss_, i64_w, i32_w]
     rfl
    refine one_ (i := 5) (N := some 11) #[true, true, true, true, true, true, false] rfl rfl (by kernel_rfl) (by decide) (fun K hK => ?_)
    refine Kd.S_append_step k31 (w0 := w) w.heap.size (by rfl) (.tmp 7) (.tmp 10) 28 31 (.agg #[(.slice none 0 0), (.int .i64 0), (.int .i64 0)]) 40 rfl Try.underlying28 info31 rfl (by decide) (by omega) v273 t272 (⟨t275, t278, t279⟩ : S31) [.slice Ao14 t275.length co14, .int .i64 t278, .int .i64 t279] (fun k_ => k_ ≠ gb271) (fun k_ => some k_ = (.slice Ao14 t275.length co14 : Value).ownBlock) rfl rfl ?aP (fun k_ hk_ => ((Kd.R_mono (ok' := fun k_ => ((fun k_ => k_ ≠ gb271)) k_ ∧ some k_ ≠ (v273 : Value).ownBlock) (Kd.R_types (Kd.R_apart' (HO277.out) (Kd.S_typed HO274.out) (by decide)) BK271.out (by decide)) (fun k_ hk => ⟨hk.2, hk.1.2⟩))).1 k_ hk_.symm) ?aF ?aO ?aB ?aS ?aL ?_
    (case aP => exact k31_mkM _ _ _ (⟨t275, t278, t279⟩ : S31) (Kd.R_mono (Kd.R_tight rfl (Kd.R_mono (ok' := fun k_ => ((fun k_ => k_ ≠ gb271)) k_ ∧ some k_ ≠ (v273 : Value).ownBlock) (Kd.R_types (Kd.R_apart' (HO277.out) (Kd.S_typed HO274.out) (by decide)) BK271.out (by decide)) (fun k_ hk => ⟨hk.2, hk.1.2⟩))) (fun _ h_ => h_)))
    (case aB => exact (bl HB.out))
    (case aF => exact (fun k_ hk => Kd.freshB (g := gb271) (o := .cells #[.slice A1_0 l1_0.length c1_0, .int .i64 a1_1, .int .i64 a1_2] 31 (0, 0)) (pk BK271.out) k_ hk))
    (case aO => exact (ks (Kd.S_mono HO274.out (fun k_ hk => ⟨hk.1.2, fun e_ => hk.2 e_⟩))))
    (case aS => exact (below_size (bl HB.out)))
    (case aL => have := LMc5.out; omega)
    intro v281 w13 ho hb hg hat
    rw [← Ny280.out] at ho
    replace BK271 := am (blk_grown (g := gb271) (o := .cells #[.slice A1_0 l1_0.length c1_0, .int .i64 a1_1, .int .i64 a1_2] 31 (0, 0)) (pk BK271.out) hg (Kd.S_away HO274.out (fun _ hk => hk.1.2)))
    replace HB := am (hb)
    have HO282 := am (ho)
    clear HO274 HO277 ho hb hg hat
    refine hK.out _ _ ⟨bc BK271.out 0, bc BK271.out 1, bc BK271.out 2⟩ (fun hHeld => ?_)
    clear hK K
    refine norm_ (a' := ?_) ?_ ?_
    rotate_left
    ·show Act.put _ (some 11) _ = _
     simp only [Act.put, sa_, s0_, ss_, i64_w, i32_w]
     rfl
    refine pure_ (i := 6) (N := some 5) (v := ?_) (a' := ?_) #[true, true, true, true, true, true, true] rfl rfl (by kernel_rfl) (fun _ _ _ h => h) (Or.inl ⟨by rfl, ?_⟩) ?_ ?_; rotate_left
    ·intro w'; go_simp; with_reducible rfl
    rotate_left
    ·simp only [Act.put, sa_, s0_, ss_, i64_w, i32_w]; rfl
    refine done_ (by kernel_rfl) ?_
    obtain ⟨Ao15, co15, eo15⟩ := Kd.S_slice HO282.out
    subst eo15
    have q16 : ((ji6) : Int) ≤ ((y280.length : Int) : Int) := of_decide_eq_true (by first | (with_reducible assumption) | assumption)
    obtain ⟨i016, hi016, _, hsz16, _⟩ := info_parts info31
    have hcut16 := cut_from (P := Try.prog) 28 31 .i64 Try.underlying28 hi016 3 hsz16 Ao15 y280.length co15 (ji6) (of_decide_eq_true (by first | (with_reducible assumption) | assumption)) q16
    have hr16 := Kd.T_drop (k := ((ji6) : Int).toNat) (Kd.T_of_S HO282.out) (by omega)
    obtain ⟨A16, hA16⟩ : ∃ A1, A1 = (if co15 = ((ji6) : Int).toNat then Ao15 else (Ao15 : Option Addr).map (·.add (((ji6) : Int).toNat * 3))) := ⟨_, rfl⟩
    obtain ⟨c16, hc16⟩ : ∃ c1, c1 = co15 - ((ji6) : Int).toNat := ⟨_, rfl⟩
    have hy16 : y283.length = y280.length - ((ji6) : Int).toNat := (by rw [Ny283.out, List.length_drop])
    rw [← Ny283.out] at hr16
    rw [← hy16, ← hA16, ← hc16] at hcut16
    replace hr16 : Kd.T k31 31 w13 w.heap.size (fun k_ => k_ ≠ gb271) (.slice A16 y283.length c16) y283 := (by rw [hA16, hc16, hy16]; exact hr16)
    have HE16 : Aside0 ((Value.slice A16 y283.length c16).ownBlock = (.slice Ao15 y280.length co15 : Value).ownBlock) := ⟨by rw [hA16]; split <;> (cases (Ao15 : Option Addr) <;> first | rfl | (simp only [Value.ownBlock, Option.map_some, Addr.add]; split <;> rfl))⟩
    clear hy16 hi016 hsz16 HO282 hA16 hc16
    have HO285 := am hr16
    clear hr16
    replace q16 := eq_true q16
    try go_wp2
    go_ret
    exact ⟨_, by first | rfl | (simp [errW_none, errW_some] <;> rfl) | (simp only [← hji6]; first | rfl | (simp [errW_none, errW_some] <;> rfl)) | (simp [*, errW_none, errW_some] <;> rfl), by (with_reducible repeat (first | apply Kd.T_alloc | apply Kd.T_drewN | apply Kd.T_drew)); exact Kd.T_mono HO285.out (fun _ hk => trivial), by repeat (first | (with_reducible first | exact HB.out | apply below_alloc | apply pw_below_drewN | apply below_drew1 | refine below_set ?_ GE271.out) | exact HB.out)⟩
   ·rw [if_neg c8] at H
    exact absurd H (by simp)
  ·rw [if_neg c7] at H
   exact absurd H (by simp)
 ·rw [if_neg c5] at H
  exact absurd H (by simp)

/-! ### impl_UndoNote: function 22 -/
def impl_UndoNote.j0 : Nat → Bool → List (S31) → List (S31) → List Int → Int → Int → Option ((List (S31)) × (List (S31)))
 | 0, _, _, _, _, _, _ => none
 | k + 1, x12, x287000, x287001, x288000, x288001, x288002 => if x12 = true then ((impl_ownUndo.f k x287000 x287001).bind fun bt291 => (some (bt291.1, bt291.2))) else ((impl_behindBufs.f k x287000 x288000 x288001 x288002).bind fun t297 => (some (t297, ([] : List (S31)))))
def impl_UndoNote.f (k : Nat) (l0_0 : List (S31)) (l0_1 : List (S31)) (l1_0 : List Int) (a1_1 : Int) (a1_2 : Int) : Option ((List (S31)) × (List (S31))) := (impl_UndoRight.f k l0_0 l0_1).bind fun t289 => (if t289 = true then ((impl_BufRight.f k l1_0 a1_1 a1_2).bind fun t290 => (impl_UndoNote.j0 k (!t290) l0_0 l0_1 l1_0 a1_1 a1_2)) else (impl_UndoNote.j0 k true l0_0 l0_1 l1_0 a1_1 a1_2))
theorem impl_UndoNote.mono_l : ∀ k, (∀ y0 y1 y2 y3 y4 y5, LeO (impl_UndoNote.j0 k y0 y1 y2 y3 y4 y5) (impl_UndoNote.j0 (k + 1) y0 y1 y2 y3 y4 y5))
 | 0 => fun _ _ _ _ _ _ r h => by simp [impl_UndoNote.j0] at h
 | k + 1 => by
  have ih0 := impl_UndoNote.mono_l k
  ·intro y0 y1 y2 y3 y4 y5
   unfold impl_UndoNote.j0
   repeat' first
   | (with_reducible exact ih0 _ _ _ _ _ _)
   | (with_reducible exact impl_BufRight.mono _ _ _ _)
   | (with_reducible exact impl_UndoRight.mono _ _ _)
   | (with_reducible exact impl_behindBufs.mono _ _ _ _ _)
   | (with_reducible exact impl_ownUndo.mono _ _ _)
   | (with_reducible exact LeO.refl _)
   | (with_reducible exact LeO.none _)
   | (with_reducible refine LeO.ite ?_ ?_)
   | (with_reducible refine LeO.bind ?_ (fun _ => ?_))
   | exact ih0 _ _ _ _ _ _
   | exact impl_BufRight.mono _ _ _ _
   | exact impl_UndoRight.mono _ _ _
   | exact impl_behindBufs.mono _ _ _ _ _
   | exact impl_ownUndo.mono _ _ _
   | refine LeO.bind ?_ (fun _ => ?_)
theorem impl_UndoNote.mono : ∀ a0 a1 a2 a3 a4 k, LeO (impl_UndoNote.f k a0 a1 a2 a3 a4) (impl_UndoNote.f (k + 1) a0 a1 a2 a3 a4) := by
 intro a0 a1 a2 a3 a4 k
 have ih0 := impl_UndoNote.mono_l k
 unfold impl_UndoNote.f
 repeat' first
   | (with_reducible exact ih0 _ _ _ _ _ _)
   | (with_reducible exact impl_BufRight.mono _ _ _ _)
   | (with_reducible exact impl_UndoRight.mono _ _ _)
   | (with_reducible exact impl_behindBufs.mono _ _ _ _ _)
   | (with_reducible exact impl_ownUndo.mono _ _ _)
   | (with_reducible exact LeO.refl _)
   | (with_reducible exact LeO.none _)
   | (with_reducible refine LeO.ite ?_ ?_)
   | (with_reducible refine LeO.bind ?_ (fun _ => ?_))
   | exact ih0 _ _ _ _ _ _
   | exact impl_BufRight.mono _ _ _ _
   | exact impl_UndoRight.mono _ _ _
   | exact impl_behindBufs.mono _ _ _ _ _
   | exact impl_ownUndo.mono _ _ _
   | refine LeO.bind ?_ (fun _ => ?_)
theorem impl_UndoNote.callsA (k : Nat) (A0_0 : Option Addr) (c0_0 : Nat) (l0_0 : List (S31)) (A0_1 : Option Addr) (c0_1 : Nat) (l0_1 : List (S31)) (A1_0 : Option Addr) (c1_0 : Nat) (l1_0 : List Int) (a1_1 : Int) (a1_2 : Int) (r1 : List (S31)) (r2 : List (S31)) (w : World) (hr0_0 : Kd.C k31 w A0_0 l0_0.length l0_0) (hc0_0 : l0_0.length ≤ c0_0) (hr0_1 : Kd.C k31 w A0_1 l0_1.length l0_1) (hc0_1 : l0_1.length ≤ c0_1) (hr1_0 : Kd.C (Kd.int .i64) w A1_0 l1_0.length l1_0) (hc1_0 : l1_0.length ≤ c1_0) (h : impl_UndoNote.f k l0_0 l0_1 l1_0 a1_1 a1_2 = some (r1, r2)) :
  Calls Try.prog 22 #[.agg #[.slice A0_0 l0_0.length c0_0, .slice A0_1 l0_1.length c0_1], .agg #[.slice A1_0 l1_0.length c1_0, .int .i64 a1_1, .int .i64 a1_2]] w fun e w' => ∃ m1_ : Nat, (w.heap.size ≤ m1_ ∧ m1_ ≤ w'.heap.size) ∧ ∃ v0_ v1_ : Value, e = .returned (.agg #[v0_, v1_]) ∧ Kd.T k31 31 w' w.heap.size (fun k_ => k_ < m1_) v0_ r1 ∧ Kd.S k31 31 w' w.heap.size (fun k_ => m1_ ≤ k_) v1_ r2 ∧ Below w.heap.size w w' := by
 have hu30 := Try.underlying30
 have hu31 := Try.underlying31
 have HR0_0 := am hr0_0
 have HC0_0 := am hc0_0
 clear hr0_0 hc0_0
 have HR0_1 := am hr0_1
 have HC0_1 := am hc0_1
 clear hr0_1 hc0_1
 have HR1_0 := am hr1_0
 have HC1_0 := am hc1_0
 clear hr1_0 hc1_0
 have HB := am (Below.refl w.heap.size w)
 have H : ((impl_UndoRight.f k l0_0 l0_1).bind fun t289 => (if t289 = true then ((impl_BufRight.f k l1_0 a1_1 a1_2).bind fun t290 => (impl_UndoNote.j0 k (!t290) l0_0 l0_1 l1_0 a1_1 a1_2)) else (impl_UndoNote.j0 k true l0_0 l0_1 l1_0 a1_1 a1_2))) = some (r1, r2) := h
 clear h
 have HC3 := Aside0.mk H
 clear H
 go_enter Try.func22, Try.ntmps22
 go_upto_region 1 with (first | ((with_reducible refine gate_dst (N := 2) rfl ?_); refine box_event ?hg (N := 2) ?hd (cs := #[.slice A0_0 l0_0.length c0_0, .slice A0_1 l0_1.length c0_1]) (t := 30) ?hr ?_; (case hd => rfl); (case hg => rfl); (case hr => first | (go_simp; done) | (go_simp; rfl)); intro gb286 hg w4 hbox hb; have BK286 := am (hbox); have GW286 := am ((by rw [hg]; exact (below_size (bl HB.out)) : w.heap.size ≤ gb286)); have GE286 := GW286; replace HB := am (below_step (bl HB.out) hb); clear hb hbox hg) | ((with_reducible refine gate_dst (N := 3) rfl ?_); refine box_event ?hg (N := 3) ?hd (cs := #[.slice A1_0 l1_0.length c1_0, .int .i64 a1_1, .int .i64 a1_2]) (t := 31) ?hr ?_; (case hd => rfl); (case hg => rfl); (case hr => first | (go_simp; done) | (go_simp; rfl)); intro gb287 hg w5 hbox hb; have BK287 := am (hbox); have GW287 := am ((by rw [hg]; exact (below_size (bl HB.out)) : w.heap.size ≤ gb287)); have GE287 := GW287; replace HB := am (below_step (bl HB.out) hb); have NB286_287 := am ((by rw [hg]; exact Nat.ne_of_lt (blk_lt (pk BK286.out)) : gb286 ≠ gb287)); have NB287_286 := am ((by rw [hg]; exact Nat.ne_of_gt (blk_lt (pk BK286.out)) : gb287 ≠ gb286)); replace BK286 := am (blk_below (pk BK286.out) hb); clear hb hbox hg) | ((with_reducible refine gate_dst (N := 4) rfl ?_); refine box_event ?hg (N := 4) ?hd (cs := #[.slice none 0 0, .slice none 0 0]) (t := 30) ?hr ?_; (case hd => rfl); (case hg => rfl); (case hr => first | (go_simp; done) | (go_simp; rfl)); intro gb288 hg w6 hbox hb; have BK288 := am (hbox); have GW288 := am ((by rw [hg]; exact (below_size (bl HB.out)) : w.heap.size ≤ gb288)); have GE288 := GW288; replace HB := am (below_step (bl HB.out) hb); have NB286_288 := am ((by rw [hg]; exact Nat.ne_of_lt (blk_lt (pk BK286.out)) : gb286 ≠ gb288)); have NB288_286 := am ((by rw [hg]; exact Nat.ne_of_gt (blk_lt (pk BK286.out)) : gb288 ≠ gb286)); replace BK286 := am (blk_below (pk BK286.out) hb); have NB287_288 := am ((by rw [hg]; exact Nat.ne_of_lt (blk_lt (pk BK287.out)) : gb287 ≠ gb288)); have NB288_287 := am ((by rw [hg]; exact Nat.ne_of_gt (blk_lt (pk BK287.out)) : gb288 ≠ gb287)); replace BK287 := am (blk_below (pk BK287.out) hb); clear hb hbox hg))
 (try simp only [Act.put, sa_, s0_, ss_])
 go_cut [12] (fun v12 wc => ∃ (kq : Nat) (x12_2 : Bool), v12 = .bool x12_2 ∧ Aside0 (impl_UndoNote.j0 kq x12_2 l0_0 l0_1 l1_0 a1_1 a1_2 = some (r1, r2)) ∧ Aside0 (kq ≤ k) ∧ Aside0 (wc.heap[gb286]? = some (.cells #[(.slice A0_0 l0_0.length c0_0), (.slice A0_1 l0_1.length c0_1)] 30 (0, 0))) ∧ Aside0 (wc.heap[gb287]? = some (.cells #[(.slice A1_0 l1_0.length c1_0), .int .i64 a1_1, .int .i64 a1_2] 31 (0, 0))) ∧ Aside0 (wc.heap[gb288]? = some (.cells #[(.slice none 0 0), (.slice none 0 0)] 30 (0, 0))) ∧ Aside0 (Below w.heap.size w wc))
 case first =>
  have H := HC3.out
  clear HC3
  replace H := Option.bind_eq_some_iff.mp H
  obtain ⟨t289, A70, H⟩ := H
  replace H : (if t289 = true then ((impl_BufRight.f k l1_0 a1_1 a1_2).bind fun t290 => (impl_UndoNote.j0 k (!t290) l0_0 l0_1 l1_0 a1_1 a1_2)) else (impl_UndoNote.j0 k true l0_0 l0_1 l1_0 a1_1 a1_2)) = some (r1, r2) := H
  have A7 := Aside0.mk A70
  clear A70
  by_cases c8 : t289 = true
  ·subst c8
   have H1 : ((impl_BufRight.f k l1_0 a1_1 a1_2).bind fun t290 => (impl_UndoNote.j0 k (!t290) l0_0 l0_1 l1_0 a1_1 a1_2)) = some (r1, r2) := by rw [if_pos rfl] at H; exact H
   clear H
   have H := H1
   clear H1
   replace H := Option.bind_eq_some_iff.mp H
   obtain ⟨t290, A90, H⟩ := H
   replace H : (impl_UndoNote.j0 k (!t290) l0_0 l0_1 l1_0 a1_1 a1_2) = some (r1, r2) := H
   have A9 := Aside0.mk A90
   clear A90
   have H' := Aside0.mk H
   clear H
   have hnb10 := NB286_287.out
   have hnc10 := NB287_286.out
   have hnb11 := NB286_288.out
   have hnc11 := NB288_286.out
   have hcz12_0 : w6.cell? ⟨gb286, 0, none⟩ = some (.slice A0_0 l0_0.length c0_0) := bc BK286.out 0
   have hcz12_1 : w6.cell? ⟨gb286, 1, none⟩ = some (.slice A0_1 l0_1.length c0_1) := bc BK286.out 1
   have hfz12_0 := blk_frozen BK286.out 0
   have hfz12_1 := blk_frozen BK286.out 1
   go_wp2_with (first | ((with_reducible refine gate_callee (f := 51) rfl ?_); refine gl (some 6) Try.func51 #[.agg #[.slice A0_0 l0_0.length c0_0, .slice A0_1 l0_1.length c0_1]] ?_; (with_reducible refine (impl_UndoRight.calls k _ _ l0_0 _ _ l0_1 true _ ?side1 ?side2 ?side3 ?side4 A7.out).mono ?_); (case side1 => repeat (first | exact (Kd.C_below HR0_0.out HB.out) | (with_reducible refine Kd.C_alloc ?_ _) | (with_reducible refine Kd.C_drewN ?_ _) | (with_reducible refine Kd.C_drew ?_))); (case side2 => exact HC0_0.out); (case side3 => repeat (first | exact (Kd.C_below HR0_1.out HB.out) | (with_reducible refine Kd.C_alloc ?_ _) | (with_reducible refine Kd.C_drewN ?_ _) | (with_reducible refine Kd.C_drew ?_))); (case side4 => exact HC0_1.out); rintro e w13 ⟨rfl, hb⟩; refine ⟨_, rfl, ?_⟩; replace BK286 := am (blk_below (pk BK286.out) hb); replace BK287 := am (blk_below (pk BK287.out) hb); replace BK288 := am (blk_below (pk BK288.out) hb); replace HB := am (below_step (bl HB.out) hb); (try clear hb); (try clear hb2); (try clear hk); (try clear hi); have hnb14 := NB287_288.out; have hnc14 := NB288_287.out; have hcz15_0 : w13.cell? ⟨gb287, 0, none⟩ = some (.slice A1_0 l1_0.length c1_0) := bc BK287.out 0; have hcz15_1 : w13.cell? ⟨gb287, 1, none⟩ = some (.int .i64 a1_1) := bc BK287.out 1; have hcz15_2 : w13.cell? ⟨gb287, 2, none⟩ = some (.int .i64 a1_2) := bc BK287.out 2; have hfz15_0 := blk_frozen BK287.out 0; have hfz15_1 := blk_frozen BK287.out 1; have hfz15_2 := blk_frozen BK287.out 2) | (go_at_call 36; (with_reducible refine (impl_BufRight.calls k _ _ l1_0 a1_1 a1_2 t290 _ ?side1 ?side2 A9.out).mono ?_); (case side1 => repeat (first | exact (Kd.C_below HR1_0.out HB.out) | (with_reducible refine Kd.C_alloc ?_ _) | (with_reducible refine Kd.C_drewN ?_ _) | (with_reducible refine Kd.C_drew ?_))); (case side2 => exact HC1_0.out); rintro e w16 ⟨rfl, hb⟩; replace BK286 := am (blk_below (pk BK286.out) hb); replace BK287 := am (blk_below (pk BK287.out) hb); replace BK288 := am (blk_below (pk BK288.out) hb); replace HB := am (below_step (bl HB.out) hb); (try clear hb); (try clear hb2); (try clear hk); (try clear hi)))
   go_meet
   case rel => exact ⟨_, (!t290), (by first | rfl | (simp; done) | (simp [*]; done)), H', ⟨by first | omega | exact Nat.le_refl _⟩, ⟨pk BK286.out⟩, ⟨pk BK287.out⟩, ⟨pk BK288.out⟩, ⟨by repeat (first | (with_reducible first | exact HB.out | apply below_alloc | apply pw_below_drewN | apply below_drew1 | refine below_set ?_ GE286.out | refine below_set ?_ GE287.out | refine below_set ?_ GE288.out) | exact HB.out)⟩⟩
  ·replace c8 := Bool.eq_false_iff.mpr c8
   subst c8
   have H1 : (impl_UndoNote.j0 k true l0_0 l0_1 l1_0 a1_1 a1_2) = some (r1, r2) := by rw [if_neg (show ¬ (false = true) by decide)] at H; exact H
   clear H
   have H := H1
   clear H1
   have H' := Aside0.mk H
   clear H
   have hnb17 := NB286_287.out
   have hnc17 := NB287_286.out
   have hnb18 := NB286_288.out
   have hnc18 := NB288_286.out
   have hcz19_0 : w6.cell? ⟨gb286, 0, none⟩ = some (.slice A0_0 l0_0.length c0_0) := bc BK286.out 0
   have hcz19_1 : w6.cell? ⟨gb286, 1, none⟩ = some (.slice A0_1 l0_1.length c0_1) := bc BK286.out 1
   have hfz19_0 := blk_frozen BK286.out 0
   have hfz19_1 := blk_frozen BK286.out 1
   go_wp2_with (first | ((with_reducible refine gate_callee (f := 51) rfl ?_); refine gl (some 6) Try.func51 #[.agg #[.slice A0_0 l0_0.length c0_0, .slice A0_1 l0_1.length c0_1]] ?_; (with_reducible refine (impl_UndoRight.calls k _ _ l0_0 _ _ l0_1 false _ ?side1 ?side2 ?side3 ?side4 A7.out).mono ?_); (case side1 => repeat (first | exact (Kd.C_below HR0_0.out HB.out) | (with_reducible refine Kd.C_alloc ?_ _) | (with_reducible refine Kd.C_drewN ?_ _) | (with_reducible refine Kd.C_drew ?_))); (case side2 => exact HC0_0.out); (case side3 => repeat (first | exact (Kd.C_below HR0_1.out HB.out) | (with_reducible refine Kd.C_alloc ?_ _) | (with_reducible refine Kd.C_drewN ?_ _) | (with_reducible refine Kd.C_drew ?_))); (case side4 => exact HC0_1.out); rintro e w20 ⟨rfl, hb⟩; refine ⟨_, rfl, ?_⟩; replace BK286 := am (blk_below (pk BK286.out) hb); replace BK287 := am (blk_below (pk BK287.out) hb); replace BK288 := am (blk_below (pk BK288.out) hb); replace HB := am (below_step (bl HB.out) hb); (try clear hb); (try clear hb2); (try clear hk); (try clear hi)))
   go_meet
   case rel => exact ⟨_, (true), (by first | rfl | (simp; done) | (simp [*]; done)), H', ⟨by first | omega | exact Nat.le_refl _⟩, ⟨pk BK286.out⟩, ⟨pk BK287.out⟩, ⟨pk BK288.out⟩, ⟨by repeat (first | (with_reducible first | exact HB.out | apply below_alloc | apply pw_below_drewN | apply below_drew1 | refine below_set ?_ GE286.out | refine below_set ?_ GE287.out | refine below_set ?_ GE288.out) | exact HB.out)⟩⟩
 case rest =>
  clear HC3
  try clear c1
  try clear c2
  try clear p2
  try clear c5
  try clear c8
  try clear c10
  try clear c11
  try clear c14
  try clear c17
  try clear c18
  try clear hcz12_0
  try clear hcz12_1
  try clear hcz15_0
  try clear hcz15_1
  try clear hcz15_2
  try clear hcz19_0
  try clear hcz19_1
  try clear hfz12_0
  try clear hfz12_1
  try clear hfz15_0
  try clear hfz15_1
  try clear hfz15_2
  try clear hfz19_0
  try clear hfz19_1
  obtain ⟨kq, x12_2, rfl, HA, HJ2, BK286, BK287, BK288, HB⟩ := hcut
  cases kq with
  | zero => exact absurd HA.out (by simp [impl_UndoNote.j0])
  | succ kj2 =>
   have H := HA.out
   clear HA
   simp only [impl_UndoNote.j0] at H
   by_cases c21 : x12_2 = true
   ·subst c21
    have H1 : ((impl_ownUndo.f kj2 l0_0 l0_1).bind fun bt291 => (some (bt291.1, bt291.2))) = some (r1, r2) := by rw [if_pos rfl] at H; exact H
    clear H
    have H := H1
    clear H1
    replace H := Option.bind_eq_some_iff.mp H
    obtain ⟨⟨t291, t294⟩, A220, H⟩ := H
    replace H : (some (t291, t294)) = some (r1, r2) := H
    have A22 := Aside0.mk A220
    clear A220
    simp only [Option.some.injEq, Prod.mk.injEq] at H
    obtain ⟨rfl, rfl⟩ := H
    have hnb23 := NB286_287.out
    have hnc23 := NB287_286.out
    have hnb24 := NB286_288.out
    have hnc24 := NB288_286.out
    have hcz25_0 : wc.cell? ⟨gb286, 0, none⟩ = some (.slice A0_0 l0_0.length c0_0) := bc BK286.out 0
    have hcz25_1 : wc.cell? ⟨gb286, 1, none⟩ = some (.slice A0_1 l0_1.length c0_1) := bc BK286.out 1
    have hfz25_0 := blk_frozen BK286.out 0
    have hfz25_1 := blk_frozen BK286.out 1
    go_wp2_with (first | ((with_reducible refine gate_callee (f := 52) rfl ?_); refine gl (some 14) Try.func52 #[.agg #[.slice A0_0 l0_0.length c0_0, .slice A0_1 l0_1.length c0_1]] ?_; (with_reducible refine (impl_ownUndo.callsA kj2 _ _ l0_0 _ _ l0_1 t291 t294 _ ?side1 ?side2 ?side3 ?side4 A22.out).mono ?_); (case side1 => repeat (first | exact (Kd.C_below HR0_0.out HB.out) | (with_reducible refine Kd.C_alloc ?_ _) | (with_reducible refine Kd.C_drewN ?_ _) | (with_reducible refine Kd.C_drew ?_))); (case side2 => exact HC0_0.out); (case side3 => repeat (first | exact (Kd.C_below HR0_1.out HB.out) | (with_reducible refine Kd.C_alloc ?_ _) | (with_reducible refine Kd.C_drewN ?_ _) | (with_reducible refine Kd.C_drew ?_))); (case side4 => exact HC0_1.out); rintro e w26 ⟨m1_, ⟨hsa_, hsb_⟩, v292, v295, rfl, ho0, ho1, hb⟩; have hw1_ : w.heap.size ≤ m1_ := (Nat.le_trans (below_size (bl HB.out)) hsa_); refine ⟨_, rfl, ?_⟩; have HO293 := am (Kd.S_lower (Kd.S_newB ho0 (g := gb287) (o := .cells #[.slice A1_0 l1_0.length c1_0, .int .i64 a1_1, .int .i64 a1_2] 31 (0, 0)) (pk BK287.out)) (below_size (bl HB.out))); have HO296 := am (Kd.S_lower (Kd.S_newB ho1 (g := gb287) (o := .cells #[.slice A1_0 l1_0.length c1_0, .int .i64 a1_1, .int .i64 a1_2] 31 (0, 0)) (pk BK287.out)) (below_size (bl HB.out))); replace BK286 := am (blk_below (pk BK286.out) hb); replace BK287 := am (blk_below (pk BK287.out) hb); replace BK288 := am (blk_below (pk BK288.out) hb); replace HB := am (below_step (bl HB.out) hb); (try clear hb); (try clear hb2); (try clear hk); (try clear hi); (try clear ho0); (try clear ho1); obtain ⟨Ao27, co27, eo27⟩ := Kd.S_slice HO293.out; subst eo27; have hnb28 := NB288_287.out; have hnc28 := NB287_288.out; have hcz29_0 : w26.cell? ⟨gb288, 0, none⟩ = some (.slice none 0 0) := bc BK288.out 0; have hcz29_1 : w26.cell? ⟨gb288, 1, none⟩ = some (.slice none 0 0) := bc BK288.out 1; have hfz29_0 := blk_frozen BK288.out 0; have hfz29_1 := blk_frozen BK288.out 1; obtain ⟨Ao30, co30, eo30⟩ := Kd.S_slice HO296.out; subst eo30))
    refine bodyPost_ret (results_cell_row rfl _ _ gb288 30 #[.slice Ao27 t291.length co27, .slice Ao30 t294.length co30] (0, 0) _ rfl (by refine pk ?_; refine blk_put (cs := #[.slice Ao27 t291.length co27, .slice none 0 0]) ?_ 1 _ rfl; refine pk ?_; refine blk_put (cs := #[.slice none 0 0, .slice none 0 0]) ?_ 0 _ rfl; refine pk ?_; exact BK288.out) Try.underlying30 rfl (by kernel_rfl)) rfl ?_
    exact ⟨m1_, ⟨hw1_, (by (try simp only [World.size_setCell]); exact hsb_)⟩, _, _, by first | rfl | (simp [errW_none, errW_some] <;> rfl) | (simp [*, errW_none, errW_some] <;> rfl), Kd.T_of_S (ks (Kd.S_mono (Kd.S_far (p := ⟨gb288, 1, none⟩) (Kd.S_far (p := ⟨gb288, 0, none⟩) (Kd.S_types HO293.out BK288.out (by decide)) (fun _ hk => hk.2) (.slice Ao27 t291.length co27)) (fun _ hk => hk.2) (.slice Ao30 t294.length co30)) (fun _ hk => hk.1.1))), ks (Kd.S_mono (Kd.S_far (p := ⟨gb288, 1, none⟩) (Kd.S_far (p := ⟨gb288, 0, none⟩) (Kd.S_types HO296.out BK288.out (by decide)) (fun _ hk => hk.2) (.slice Ao27 t291.length co27)) (fun _ hk => hk.2) (.slice Ao30 t294.length co30)) (fun _ hk => hk.1.1)), by repeat (first | (with_reducible first | exact HB.out | apply below_alloc | apply pw_below_drewN | apply below_drew1 | refine below_set ?_ GE286.out | refine below_set ?_ GE287.out | refine below_set ?_ GE288.out) | exact HB.out)⟩
   ·replace c21 := Bool.eq_false_iff.mpr c21
    subst c21
    have H1 : ((impl_behindBufs.f kj2 l0_0 l1_0 a1_1 a1_2).bind fun t297 => (some (t297, ([] : List (S31))))) = some (r1, r2) := by rw [if_neg (show ¬ (false = true) by decide)] at H; exact H
    clear H
    have H := H1
    clear H1
    replace H := Option.bind_eq_some_iff.mp H
    obtain ⟨t297, A310, H⟩ := H
    replace H : (some (t297, ([] : List (S31)))) = some (r1, r2) := H
    have A31 := Aside0.mk A310
    clear A310
    simp only [Option.some.injEq, Prod.mk.injEq] at H
    obtain ⟨rfl, rfl⟩ := H
    have hnb32 := NB286_287.out
    have hnc32 := NB287_286.out
    have hnb33 := NB286_288.out
    have hnc33 := NB288_286.out
    have hcz34_0 : wc.cell? ⟨gb286, 0, none⟩ = some (.slice A0_0 l0_0.length c0_0) := bc BK286.out 0
    have hcz34_1 : wc.cell? ⟨gb286, 1, none⟩ = some (.slice A0_1 l0_1.length c0_1) := bc BK286.out 1
    have hfz34_0 := blk_frozen BK286.out 0
    have hfz34_1 := blk_frozen BK286.out 1
    have hnb35 := NB287_288.out
    have hnc35 := NB288_287.out
    have hcz36_0 : wc.cell? ⟨gb287, 0, none⟩ = some (.slice A1_0 l1_0.length c1_0) := bc BK287.out 0
    have hcz36_1 : wc.cell? ⟨gb287, 1, none⟩ = some (.int .i64 a1_1) := bc BK287.out 1
    have hcz36_2 : wc.cell? ⟨gb287, 2, none⟩ = some (.int .i64 a1_2) := bc BK287.out 2
    have hfz36_0 := blk_frozen BK287.out 0
    have hfz36_1 := blk_frozen BK287.out 1
    have hfz36_2 := blk_frozen BK287.out 2
    go_wp2_with (first | ((with_reducible refine gate_callee (f := 53) rfl ?_); refine gl (some 18) Try.func53 #[.slice A0_0 l0_0.length c0_0, .agg #[.slice A1_0 l1_0.length c1_0, .int .i64 a1_1, .int .i64 a1_2]] ?_; (with_reducible refine (impl_behindBufs.calls kj2 _ _ l0_0 _ _ l1_0 a1_1 a1_2 t297 _ ?side1 ?side2 ?side3 ?side4 A31.out).mono ?_); (case side1 => repeat (first | exact (Kd.C_below HR0_0.out HB.out) | (with_reducible refine Kd.C_alloc ?_ _) | (with_reducible refine Kd.C_drewN ?_ _) | (with_reducible refine Kd.C_drew ?_))); (case side2 => exact HC0_0.out); (case side3 => repeat (first | exact (Kd.C_below HR1_0.out HB.out) | (with_reducible refine Kd.C_alloc ?_ _) | (with_reducible refine Kd.C_drewN ?_ _) | (with_reducible refine Kd.C_drew ?_))); (case side4 => exact HC1_0.out); rintro e w37 ⟨v298, rfl, ho0, hb⟩; refine ⟨_, rfl, ?_⟩; have HO299 := am (Kd.T_lower (Kd.T_newB ho0 (g := gb287) (o := .cells #[.slice A1_0 l1_0.length c1_0, .int .i64 a1_1, .int .i64 a1_2] 31 (0, 0)) (pk BK287.out)) (below_size (bl HB.out))); replace BK286 := am (blk_below (pk BK286.out) hb); replace BK287 := am (blk_below (pk BK287.out) hb); replace BK288 := am (blk_below (pk BK288.out) hb); replace HB := am (below_step (bl HB.out) hb); (try clear hb); (try clear hb2); (try clear hk); (try clear hi); (try clear ho0); obtain ⟨Ao38, co38, eo38, _⟩ := Kd.T_slice HO299.out; subst eo38; have hcz39_0 : w37.cell? ⟨gb288, 0, none⟩ = some (.slice none 0 0) := bc BK288.out 0; have hcz39_1 : w37.cell? ⟨gb288, 1, none⟩ = some (.slice none 0 0) := bc BK288.out 1; have hfz39_0 := blk_frozen BK288.out 0; have hfz39_1 := blk_frozen BK288.out 1))
    refine bodyPost_ret (results_cell_row rfl _ _ gb288 30 #[.slice Ao38 t297.length co38, .slice none 0 0] (0, 0) _ rfl (by refine pk ?_; refine blk_put (cs := #[.slice Ao38 t297.length co38, .slice none 0 0]) ?_ 1 _ rfl; refine pk ?_; refine blk_put (cs := #[.slice none 0 0, .slice none 0 0]) ?_ 0 _ rfl; refine pk ?_; exact BK288.out) Try.underlying30 rfl (by kernel_rfl)) rfl ?_
    exact ⟨_, ⟨below_size (bl HB.out), Nat.le_refl _⟩, _, _, by first | rfl | (simp [errW_none, errW_some] <;> rfl) | (simp [*, errW_none, errW_some] <;> rfl), by (with_reducible repeat (first | apply Kd.T_alloc | apply Kd.T_drewN | apply Kd.T_drew)); exact Kd.T_mono (Kd.T_bound (Kd.T_far (p := ⟨gb288, 1, none⟩) (Kd.T_far (p := ⟨gb288, 0, none⟩) (Kd.T_types HO299.out BK288.out (by decide)) (fun _ hk => hk.2) (.slice Ao38 t297.length co38)) (fun _ hk => hk.2) (.slice none 0 0))) (fun _ hk => hk.2.2.1), by first | exact Kd.S_nil _ _ _ _ _ | exact Kd.N_nil _ _ _ _ _ | exact Kd.V_nil _ _ _ _ _ | exact Kd.T_nil _ _ _ _ _ | exact Kd.R_nil _ _ _ _ _, by repeat (first | (with_reducible first | exact HB.out | apply below_alloc | apply pw_below_drewN | apply below_drew1 | refine below_set ?_ GE286.out | refine below_set ?_ GE287.out | refine below_set ?_ GE288.out) | exact HB.out)⟩
theorem impl_UndoNote.calls (k : Nat) (A0_0 : Option Addr) (c0_0 : Nat) (l0_0 : List (S31)) (A0_1 : Option Addr) (c0_1 : Nat) (l0_1 : List (S31)) (A1_0 : Option Addr) (c1_0 : Nat) (l1_0 : List Int) (a1_1 : Int) (a1_2 : Int) (r1 : List (S31)) (r2 : List (S31)) (w : World) (hr0_0 : Kd.C k31 w A0_0 l0_0.length l0_0) (hc0_0 : l0_0.length ≤ c0_0) (hr0_1 : Kd.C k31 w A0_1 l0_1.length l0_1) (hc0_1 : l0_1.length ≤ c0_1) (hr1_0 : Kd.C (Kd.int .i64) w A1_0 l1_0.length l1_0) (hc1_0 : l1_0.length ≤ c1_0) (h : impl_UndoNote.f k l0_0 l0_1 l1_0 a1_1 a1_2 = some (r1, r2)) :
  Calls Try.prog 22 #[.agg #[.slice A0_0 l0_0.length c0_0, .slice A0_1 l0_1.length c0_1], .agg #[.slice A1_0 l1_0.length c1_0, .int .i64 a1_1, .int .i64 a1_2]] w fun e w' => ∃ v0_ v1_ : Value, e = .returned (.agg #[v0_, v1_]) ∧ Kd.T k31 31 w' w.heap.size (fun k_ => some k_ ≠ (v1_ : Value).ownBlock) v0_ r1 ∧ Kd.S k31 31 w' w.heap.size (fun k_ => some k_ ≠ (v0_ : Value).ownBlock) v1_ r2 ∧ Below w.heap.size w w' := by
 refine (impl_UndoNote.callsA k A0_0 c0_0 l0_0 A0_1 c0_1 l0_1 A1_0 c1_0 l1_0 a1_1 a1_2 r1 r2 w hr0_0 hc0_0 hr0_1 hc0_1 hr1_0 hc1_0 h).mono ?_
 rintro e w' ⟨m1_, _, v0_, v1_, he_, h0_, h1_, hb_⟩
 exact ⟨v0_, v1_, he_, Kd.T_mono h0_ (fun k_ hk_ => (fun e_ => by have z_ : (fun k_ => m1_ ≤ k_) k_ := Kd.S_own h1_ k_ e_.symm; have y_ : (fun k_ => k_ < m1_) k_ := hk_; dsimp only at z_ y_; omega)), Kd.S_mono h1_ (fun k_ hk_ => (fun e_ => by have z_ : (fun k_ => k_ < m1_) k_ := Kd.T_own h0_ k_ e_.symm; have y_ : (fun k_ => m1_ ≤ k_) k_ := hk_; dsimp only at z_ y_; omega)), hb_⟩


end Go.Proofs.Ytkplopkhdejleaa.PFnExactUndoNote
