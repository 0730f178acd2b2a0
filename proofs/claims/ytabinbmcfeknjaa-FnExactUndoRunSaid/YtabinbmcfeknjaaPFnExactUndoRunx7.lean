-- Written by xprint.py (this claim's own program, over the kit's printer); Lean checks it.
import Derived.Test.YtabinbmcfeknjaaPFnExactUndoRunx0
import Derived.Test.YtabinbmcfeknjaaPFnExactUndoRunx4
import Derived.Test.YtabinbmcfeknjaaPFnExactUndoRunx5
import Derived.Test.YtabinbmcfeknjaaPFnExactUndoRunx6
namespace Go.Proofs.Ytabinbmcfeknjaa.PFnExactUndoRun
open Go.RowKit Go.Proofs.YtabinbmcfeknjaaW.PrintWords Go.Proofs.YtabinbmcfeknjaaW.PrintLast Go.Proofs.YtabinbmcfeknjaaW.PrintMore
attribute [local go_sem] max2_int min2_int max_two min_two max_three min_three max_four min_four   -- for this text's walks alone
set_option linter.unusedVariables false
set_option linter.unusedSimpArgs false   -- squeezed
set_option maxHeartbeats 8000000
set_option maxRecDepth 100000

/-! ### impl_behindBufs: function 55 -/
def impl_behindBufs.f (k : Nat) (l0 : List (S31)) (l1_0 : List Int) (a1_1 : Int) (a1_2 : Int) : Option ((List (S31))) := (impl_ownBufs.f k l0).bind fun t281 => ((impl_ownBuf.f l1_0 a1_1 a1_2).bind fun bt284 => (if t281.length < 3518437208883 then ((some (t281 ++ [(⟨bt284.1, bt284.2.1, bt284.2.2⟩ : S31)] : List (S31))).bind fun y289 => (if 0 ≤ (mx (wrap64 ((y289.length : Int) - 20)) 0) then (if (mx (wrap64 ((y289.length : Int) - 20)) 0) ≤ (y289.length : Int) then (some (y289.drop ((mx (wrap64 ((y289.length : Int) - 20)) 0) : Int).toNat)) else (none)) else (none))) else (none)))
theorem impl_behindBufs.calls (k : Nat) (A0 : Option Addr) (c0 : Nat) (l0 : List (S31)) (A1_0 : Option Addr) (c1_0 : Nat) (l1_0 : List Int) (a1_1 : Int) (a1_2 : Int) (r : List (S31)) (w : World) (hr0 : Kd.C k31 w A0 l0.length l0) (hc0 : l0.length ≤ c0) (hr1_0 : Kd.C (Kd.int .i64) w A1_0 l1_0.length l1_0) (hc1_0 : l1_0.length ≤ c1_0) (h : impl_behindBufs.f k l0 l1_0 a1_1 a1_2 = some r) :
  Calls Try.prog 55 #[.slice A0 l0.length c0, .agg #[.slice A1_0 l1_0.length c1_0, .int .i64 a1_1, .int .i64 a1_2]] w fun e w' => ∃ v0_ : Value, e = .returned (v0_) ∧ Kd.T k31 31 w' w.heap.size (fun _ => True) v0_ r ∧ Below w.heap.size w w' := by
 have hu31 := Try.underlying31
 have HR0 := am hr0
 have HC0 := am hc0
 clear hr0 hc0
 have HR1_0 := am hr1_0
 have HC1_0 := am hc1_0
 clear hr1_0 hc1_0
 have HB := am (Below.refl w.heap.size w)
 have H : ((impl_ownBufs.f k l0).bind fun t281 => ((impl_ownBuf.f l1_0 a1_1 a1_2).bind fun bt284 => (if t281.length < 3518437208883 then ((some (t281 ++ [(⟨bt284.1, bt284.2.1, bt284.2.2⟩ : S31)] : List (S31))).bind fun y289 => (if 0 ≤ (mx (wrap64 ((y289.length : Int) - 20)) 0) then (if (mx (wrap64 ((y289.length : Int) - 20)) 0) ≤ (y289.length : Int) then (some (y289.drop ((mx (wrap64 ((y289.length : Int) - 20)) 0) : Int).toNat)) else (none)) else (none))) else (none)))) = some r := h
 clear h
 replace H := Option.bind_eq_some_iff.mp H
 obtain ⟨t281, A30, H⟩ := H
 replace H : ((impl_ownBuf.f l1_0 a1_1 a1_2).bind fun bt284 => (if t281.length < 3518437208883 then ((some (t281 ++ [(⟨bt284.1, bt284.2.1, bt284.2.2⟩ : S31)] : List (S31))).bind fun y289 => (if 0 ≤ (mx (wrap64 ((y289.length : Int) - 20)) 0) then (if (mx (wrap64 ((y289.length : Int) - 20)) 0) ≤ (y289.length : Int) then (some (y289.drop ((mx (wrap64 ((y289.length : Int) - 20)) 0) : Int).toNat)) else (none)) else (none))) else (none))) = some r := H
 have A3 := Aside0.mk A30
 clear A30
 replace H := Option.bind_eq_some_iff.mp H
 obtain ⟨⟨t284, t287, t288⟩, A40, H⟩ := H
 replace H : (if t281.length < 3518437208883 then ((some (t281 ++ [(⟨t284, t287, t288⟩ : S31)] : List (S31))).bind fun y289 => (if 0 ≤ (mx (wrap64 ((y289.length : Int) - 20)) 0) then (if (mx (wrap64 ((y289.length : Int) - 20)) 0) ≤ (y289.length : Int) then (some (y289.drop ((mx (wrap64 ((y289.length : Int) - 20)) 0) : Int).toNat)) else (none)) else (none))) else (none)) = some r := H
 have A4 := Aside0.mk A40
 clear A40
 by_cases c5 : t281.length < 3518437208883
 ·rw [if_pos c5] at H
  have LMc5 := Aside0.mk c5
  clear c5
  obtain ⟨y289, hy289⟩ : ∃ y_ : List (S31), y_ = (t281 ++ [(⟨t284, t287, t288⟩ : S31)]) := ⟨_, rfl⟩
  replace H : (if 0 ≤ (mx (wrap64 ((y289.length : Int) - 20)) 0) then (if (mx (wrap64 ((y289.length : Int) - 20)) 0) ≤ (y289.length : Int) then (some (y289.drop ((mx (wrap64 ((y289.length : Int) - 20)) 0) : Int).toNat)) else (none)) else (none)) = some r := by first | (rw [hy289]; with_reducible exact H) | (have H2_ := (Option.bind_some _ _).symm.trans H; rw [hy289]; with_reducible exact H2_) | (have H2_ := (Option.bind_some _ _).symm.trans H; with_reducible exact H2_) | with_reducible exact H | (rw [hy289]; exact H) | exact H
  have Ny289 := am hy289
  clear hy289
  obtain ⟨ji6, hji6⟩ : ∃ j_ : Int, (mx (wrap64 ((y289.length : Int) - 20)) 0) = j_ := ⟨_, rfl⟩
  replace H : (if 0 ≤ (ji6) then (if (ji6) ≤ (y289.length : Int) then (some (y289.drop ((ji6) : Int).toNat)) else (none)) else (none)) = some r := by first | (rw [hji6] at H; exact H) | (simp only [hji6] at H ⊢; exact H)
  (try rw [hji6] at A3)
  (try rw [hji6] at A4)
  (try (have hji6l : 0 ≤ ji6 := by (rw [← hji6]; unfold mx; (repeat' split) <;> omega)))
  (try (have hji6m : 0 ≤ ji6 := by omega))
  have hji6_ : (if (wrap64 ((y289.length : Int) - 20)) < 0 then 0 else (wrap64 ((y289.length : Int) - 20))) = ji6 := hji6
  by_cases c7 : 0 ≤ (ji6)
  ·rw [if_pos c7] at H
   have c7b0 := eq_true c7
   have c7b1 : decide (0 ≤ (ji6)) = true := decide_eq_true c7
   clear c7
   by_cases c8 : (ji6) ≤ (y289.length : Int)
   ·rw [if_pos c8] at H
    have c8b0 := eq_true c8
    have c8b1 : decide ((ji6) ≤ (y289.length : Int)) = true := decide_eq_true c8
    clear c8
    obtain ⟨y292, hy292⟩ : ∃ y_ : List (S31), y_ = (y289.drop ((ji6) : Int).toNat) := ⟨_, rfl⟩
    replace H : (some y292) = some r := by first | (rw [hy292]; with_reducible exact H) | (have H2_ := (Option.bind_some _ _).symm.trans H; rw [hy292]; with_reducible exact H2_) | (have H2_ := (Option.bind_some _ _).symm.trans H; with_reducible exact H2_) | with_reducible exact H | (rw [hy292]; exact H) | exact H
    have Ny292 := am hy292
    clear hy292
    obtain rfl := Option.some.inj H
    go_enter Try.func55, Try.ntmps55
    try go_wp2_with (first | ((with_reducible refine gate_dst (N := 3) rfl ?_); refine box_event ?hg (N := 3) ?hd (cs := #[.slice A1_0 l1_0.length c1_0, .int .i64 a1_1, .int .i64 a1_2]) (t := 31) ?hr ?_; (case hd => rfl); (case hg => rfl); (case hr => first | (go_simp; done) | (go_simp; rfl)); intro gb280 hg w9 hbox hb; have BK280 := am (hbox); have GW280 := am ((by rw [hg]; exact (below_size (bl HB.out)) : w.heap.size ≤ gb280)); have GE280 := GW280; replace HB := am (below_step (bl HB.out) hb); clear hb hbox hg))
    replace BK280 := am (blk_drew BK280.out)
    replace HB := am (below_drew1 HB.out)
    refine start_ (n := 7) (S := fun w' => w'.cell? ⟨gb280, 0, none⟩ = some (.slice A1_0 l1_0.length c1_0) ∧ w'.cell? ⟨gb280, 1, none⟩ = some (.int .i64 a1_1) ∧ w'.cell? ⟨gb280, 2, none⟩ = some (.int .i64 a1_2)) (ds := []) #[false, false, false, false, false, false, false] (by kernel_rfl) rfl rfl ⟨bc BK280.out 0, bc BK280.out 1, bc BK280.out 2⟩ (fun hHeld => ?_)
    generalize w9.drew = w10 at BK280 HB hHeld ⊢
    refine pure_ (i := 0) (N := some 6) (v := ?_) (a' := ?_) #[true, false, false, false, false, false, false] rfl rfl (by kernel_rfl) (fun _ _ _ h => h) (Or.inl ⟨by rfl, ?_⟩) ?_ ?_; rotate_left
    ·intro w'; go_simp; with_reducible rfl
    rotate_left
    ·simp only [Act.put, sa_, s0_, ss_, i64_w, i32_w]; rfl
    refine take_ (i := 2) (N := some 8) (v := ?_) (a' := ?_) #[true, false, true, false, false, false, false] rfl rfl (by kernel_rfl) (fun _ _ _ h => h) (Or.inl ⟨by rfl, ?_⟩) hHeld ?_ ?_; rotate_left
    ·rintro w' ⟨s0, s1, s2⟩; go_simp; with_reducible rfl
    rotate_left
    ·simp only [Act.put, sa_, s0_, ss_, i64_w, i32_w]; rfl
    refine one_ (i := 1) (N := some 7) #[true, true, true, false, false, false, false] rfl rfl (by kernel_rfl) (by decide) (fun K hK => ?_)
    refine gs_ Try.func54 #[.slice A0 l0.length c0] ?_
    with_reducible refine (impl_ownBufs.calls k _ _ l0 t281 _ ?side1 ?side2 A3.out).mono ?_
    (case side1 => repeat (first | exact (Kd.C_below HR0.out HB.out) | (with_reducible refine Kd.C_alloc ?_ _) | (with_reducible refine Kd.C_drewN ?_ _) | (with_reducible refine Kd.C_drew ?_)))
    (case side2 => exact HC0.out)
    rintro e w11 ⟨v282, rfl, ho0, hb⟩
    refine ⟨_, rfl, ?_⟩
    have HO283 := am (Kd.S_lower (Kd.S_newB ho0 (g := gb280) (o := .cells #[.slice A1_0 l1_0.length c1_0, .int .i64 a1_1, .int .i64 a1_2] 31 (0, 0)) (pk BK280.out)) (below_size (bl HB.out)))
    replace BK280 := am (blk_below (pk BK280.out) hb)
    replace HB := am (below_step (bl HB.out) hb)
    (try clear hb)
    (try clear hb2)
    (try clear hk)
    (try clear hi)
    (try clear ho0)
    refine hK.out _ _ ⟨bc BK280.out 0, bc BK280.out 1, bc BK280.out 2⟩ (fun hHeld => ?_)
    clear hK K
    refine norm_ (a' := ?_) ?_ ?_
    rotate_left
    ·show Act.put _ (some 7) _ = _
     simp only [Act.put, sa_, s0_, ss_, i64_w, i32_w]
     rfl
    refine one_ (i := 3) (N := some 9) #[true, true, true, true, false, false, false] rfl rfl (by kernel_rfl) (by decide) (fun K hK => ?_)
    refine gs_ Try.func30 #[.agg #[.slice A1_0 l1_0.length c1_0, .int .i64 a1_1, .int .i64 a1_2]] ?_
    with_reducible refine (impl_ownBuf.calls _ _ l1_0 a1_1 a1_2 t284 t287 t288 _ ?side1 ?side2 A4.out).mono ?_
    (case side1 => repeat (first | exact (Kd.C_below HR1_0.out HB.out) | (with_reducible refine Kd.C_alloc ?_ _) | (with_reducible refine Kd.C_drewN ?_ _) | (with_reducible refine Kd.C_drew ?_)))
    (case side2 => exact HC1_0.out)
    rintro e w12 ⟨v285, rfl, ho0, hb⟩
    refine ⟨_, rfl, ?_⟩
    replace HO283 := am (Kd.S_elder' (ks HO283.out) (Kd.R_base ho0) hb)
    have HO286 := am (Kd.R_lower ho0 (below_size (bl HB.out)))
    replace BK280 := am (blk_below (pk BK280.out) hb)
    replace HB := am (below_step (bl HB.out) hb)
    (try clear hb)
    (try clear hb2)
    (try clear hk)
    (try clear hi)
    (try clear ho0)
    obtain ⟨Ao14, co14, eo14⟩ := Kd.R_slice HO286.out
    (first | subst eo14 | (injection eo14 with f1_ f2_ f3_; have f4_ := f1_.symm; have f5_ := f3_.symm; clear f1_ f2_ f3_; subst f4_; subst f5_))
    refine hK.out _ _ ⟨bc BK280.out 0, bc BK280.out 1, bc BK280.out 2⟩ (fun hHeld => ?_)
    clear hK K
    refine norm_ (a' := ?_) ?_ ?_
    rotate_left
    ·show Act.put _ (some 9) _ = _
     simp only [Act.put, sa_, s0_, ss_, i64_w, i32_w]
     rfl
    refine one_ (i := 4) (N := some 10) #[true, true, true, true, true, false, false] rfl rfl (by kernel_rfl) (by decide) (fun K hK => ?_)
    refine value_ (w1 := ?_) (v := ?_) (by rfl) rfl ?_ ?_
    rotate_left 2
    ·go_simp
     constructor
     ·rfl
     ·rfl
    refine hK.out _ _ ⟨(blk_cell (blk_alloc BK280.out _) 0).trans rfl, (blk_cell (blk_alloc BK280.out _) 1).trans rfl, (blk_cell (blk_alloc BK280.out _) 2).trans rfl⟩ (fun hHeld => ?_)
    clear hK K
    refine norm_ (a' := ?_) ?_ ?_
    rotate_left
    ·show Act.put _ (some 10) _ = _
     simp only [Act.put, sa_, s0_, ss_, i64_w, i32_w]
     rfl
    refine one_ (i := 5) (N := some 11) #[true, true, true, true, true, true, false] rfl rfl (by kernel_rfl) (by decide) (fun K hK => ?_)
    refine Kd.S_append_step k31 (w0 := w) w.heap.size (by rfl) (.tmp 7) (.tmp 10) 28 31 (.agg #[(.slice none 0 0), (.int .i64 0), (.int .i64 0)]) 40 rfl Try.underlying28 info31 rfl (by decide) (by omega) v282 t281 (⟨t284, t287, t288⟩ : S31) [.slice Ao14 t284.length co14, .int .i64 t287, .int .i64 t288] (fun k_ => k_ ≠ gb280) (fun k_ => some k_ = (.slice Ao14 t284.length co14 : Value).ownBlock) rfl rfl ?aP (fun k_ hk_ => ((Kd.R_mono (ok' := fun k_ => ((fun k_ => k_ ≠ gb280)) k_ ∧ some k_ ≠ (v282 : Value).ownBlock) (Kd.R_types (Kd.R_apart' (HO286.out) (Kd.S_typed HO283.out) (by decide)) BK280.out (by decide)) (fun k_ hk => ⟨hk.2, hk.1.2⟩))).1 k_ hk_.symm) ?aF ?aO ?aB ?aS ?aL ?_
    (case aP => exact k31_mkM _ _ _ (⟨t284, t287, t288⟩ : S31) (Kd.R_mono (Kd.R_tight rfl (Kd.R_mono (ok' := fun k_ => ((fun k_ => k_ ≠ gb280)) k_ ∧ some k_ ≠ (v282 : Value).ownBlock) (Kd.R_types (Kd.R_apart' (HO286.out) (Kd.S_typed HO283.out) (by decide)) BK280.out (by decide)) (fun k_ hk => ⟨hk.2, hk.1.2⟩))) (fun _ h_ => h_)))
    (case aB => exact (bl HB.out))
    (case aF => exact (fun k_ hk => Kd.freshB (g := gb280) (o := .cells #[.slice A1_0 l1_0.length c1_0, .int .i64 a1_1, .int .i64 a1_2] 31 (0, 0)) (pk BK280.out) k_ hk))
    (case aO => exact (ks (Kd.S_mono HO283.out (fun k_ hk => ⟨hk.1.2, fun e_ => hk.2 e_⟩))))
    (case aS => exact (below_size (bl HB.out)))
    (case aL => have := LMc5.out; omega)
    intro v290 w13 ho hb hg hat
    rw [← Ny289.out] at ho
    replace BK280 := am (blk_grown (g := gb280) (o := .cells #[.slice A1_0 l1_0.length c1_0, .int .i64 a1_1, .int .i64 a1_2] 31 (0, 0)) (pk BK280.out) hg (Kd.S_away HO283.out (fun _ hk => hk.1.2)))
    replace HB := am (hb)
    have HO291 := am (ho)
    clear HO283 HO286 ho hb hg hat
    refine hK.out _ _ ⟨bc BK280.out 0, bc BK280.out 1, bc BK280.out 2⟩ (fun hHeld => ?_)
    clear hK K
    refine norm_ (a' := ?_) ?_ ?_
    rotate_left
    ·show Act.put _ (some 11) _ = _
     simp only [Act.put, sa_, s0_, ss_, i64_w, i32_w]
     rfl
    refine pure_ (i := 6) (N := some 5) (v := ?_) (a' := ?_) #[true, true, true, true, true, true, true] rfl rfl (by kernel_rfl) (fun _ _ _ h => h) (Or.inl ⟨by rfl, ?_⟩) ?_ ?_; rotate_left
    ·intro w'; go_simp; with_reducible rfl
    rotate_left
    ·simp only [Act.put, sa_, s0_, ss_, i64_w, i32_w]; rfl
    refine done_ (by kernel_rfl) ?_
    obtain ⟨Ao15, co15, eo15⟩ := Kd.S_slice HO291.out
    subst eo15
    have q16 : ((ji6) : Int) ≤ ((y289.length : Int) : Int) := of_decide_eq_true (by first | (with_reducible assumption) | assumption)
    obtain ⟨i016, hi016, _, hsz16, _⟩ := info_parts info31
    have hcut16 := cut_from (P := Try.prog) 28 31 .i64 Try.underlying28 hi016 3 hsz16 Ao15 y289.length co15 (ji6) (of_decide_eq_true (by first | (with_reducible assumption) | assumption)) q16
    have hr16 := Kd.T_drop (k := ((ji6) : Int).toNat) (Kd.T_of_S HO291.out) (by omega)
    obtain ⟨A16, hA16⟩ : ∃ A1, A1 = (if co15 = ((ji6) : Int).toNat then Ao15 else (Ao15 : Option Addr).map (·.add (((ji6) : Int).toNat * 3))) := ⟨_, rfl⟩
    obtain ⟨c16, hc16⟩ : ∃ c1, c1 = co15 - ((ji6) : Int).toNat := ⟨_, rfl⟩
    have hy16 : y292.length = y289.length - ((ji6) : Int).toNat := (by rw [Ny292.out, List.length_drop])
    rw [← Ny292.out] at hr16
    rw [← hy16, ← hA16, ← hc16] at hcut16
    replace hr16 : Kd.T k31 31 w13 w.heap.size (fun k_ => k_ ≠ gb280) (.slice A16 y292.length c16) y292 := (by rw [hA16, hc16, hy16]; exact hr16)
    have HE16 : Aside0 ((Value.slice A16 y292.length c16).ownBlock = (.slice Ao15 y289.length co15 : Value).ownBlock) := ⟨by rw [hA16]; split <;> (cases (Ao15 : Option Addr) <;> first | rfl | (simp only [Value.ownBlock, Option.map_some, Addr.add]; split <;> rfl))⟩
    clear hy16 hi016 hsz16 HO291 hA16 hc16
    have HO294 := am hr16
    clear hr16
    replace q16 := eq_true q16
    try go_wp2
    go_ret
    exact ⟨_, by first | rfl | (simp [errW_none, errW_some] <;> rfl) | (simp only [← hji6]; first | rfl | (simp [errW_none, errW_some] <;> rfl)) | (simp [*, errW_none, errW_some] <;> rfl), by (with_reducible repeat (first | apply Kd.T_alloc | apply Kd.T_drewN | apply Kd.T_drew)); exact Kd.T_mono HO294.out (fun _ hk => trivial), by repeat (first | (with_reducible first | exact HB.out | apply below_alloc | apply pw_below_drewN | apply below_drew1 | refine below_set ?_ GE280.out) | exact HB.out)⟩
   ·rw [if_neg c8] at H
    exact absurd H (by simp)
  ·rw [if_neg c7] at H
   exact absurd H (by simp)
 ·rw [if_neg c5] at H
  exact absurd H (by simp)

/-! ### impl_UndoBack: function 31 -/
def impl_UndoBack.j0 : Nat → Int → Bool → List (S31) → List (S31) → List Int → Int → Int → Option ((List (S31)) × (List (S31)) × List Int × Int × Int × Int)
 | 0, _, _, _, _, _, _, _ => none
 | k + 1, x5, x10, x296000, x296001, x297000, x297001, x297002 => if x10 = true then (some (([] : List (S31)), ([] : List (S31)), ([] : List Int), 0, 0, 1)) else (if x5 < 0 then (some (([] : List (S31)), ([] : List (S31)), ([] : List Int), 0, 0, 4)) else (if 0 ≤ x5 then (if x5 ≤ (x296000.length : Int) then ((impl_ownBufs.f k (x296000.take (x5 : Int).toNat)).bind fun t304 => ((impl_behindBufs.f k x296001 x297000 x297001 x297002).bind fun t307 => (if x5 < (x296000.length : Int) then ((impl_ownBuf.f ((rd_T31 x296000 x5).f0) ((rd_T31 x296000 x5).f1) ((rd_T31 x296000 x5).f2)).bind fun bt311 => (some (t304, t307, bt311.1, bt311.2.1, bt311.2.2, 0))) else (none)))) else (none)) else (none)))
def impl_UndoBack.f (k : Nat) (l0_0 : List (S31)) (l0_1 : List (S31)) (l1_0 : List Int) (a1_1 : Int) (a1_2 : Int) : Option ((List (S31)) × (List (S31)) × List Int × Int × Int × Int) := (impl_UndoRight.f k l0_0 l0_1).bind fun t298 => (if t298 = true then ((impl_BufRight.f k l1_0 a1_1 a1_2).bind fun t299 => (impl_UndoBack.j0 k (wrap64 ((l0_0.length : Int) - 1)) (!t299) l0_0 l0_1 l1_0 a1_1 a1_2)) else (impl_UndoBack.j0 k (wrap64 ((l0_0.length : Int) - 1)) true l0_0 l0_1 l1_0 a1_1 a1_2))
def impl_UndoBack.T6 : Bool × List (List Nat × List Nat) := (true, [([], []), ([0], [0]), ([], []), ([1, 2], [1, 2]), ([3], [3]), ([], []), ([5], [5]), ([], []), ([6, 7, 4], [6, 7]), ([4, 8], [4, 8]), ([], []), ([10], [10]), ([], []), ([11, 12], [11, 12]), ([13], [13]), ([14, 8], [14]), ([9, 15], [9, 15]), ([16, 15, 0, 1, 2, 3, 4, 5, 6, 7, 8, 9, 10, 11, 12, 13, 14, 15, 16], [16])])
def impl_UndoBack.B6 : List Nat := [0, 1, 0, 7, 15, 0, 32, 0, 255, 511, 0, 1024, 0, 7168, 15360, 32255, 65535, 131071]
theorem impl_UndoBack.tab6 : rtab .any (opsOf Try.f31 6) = impl_UndoBack.T6 := by kernel_rfl
theorem impl_UndoBack.bits6 : waitsOk impl_UndoBack.T6.2 impl_UndoBack.B6 = true := by kernel_rfl
theorem impl_UndoBack.callsA (k : Nat) (A0_0 : Option Addr) (c0_0 : Nat) (l0_0 : List (S31)) (A0_1 : Option Addr) (c0_1 : Nat) (l0_1 : List (S31)) (A1_0 : Option Addr) (c1_0 : Nat) (l1_0 : List Int) (a1_1 : Int) (a1_2 : Int) (r1 : List (S31)) (r2 : List (S31)) (r3 : List Int) (r4 : Int) (r5 : Int) (r6 : Int) (w : World) (hr0_0 : Kd.C k31 w A0_0 l0_0.length l0_0) (hc0_0 : l0_0.length ≤ c0_0) (hr0_1 : Kd.C k31 w A0_1 l0_1.length l0_1) (hc0_1 : l0_1.length ≤ c0_1) (hr1_0 : Kd.C (Kd.int .i64) w A1_0 l1_0.length l1_0) (hc1_0 : l1_0.length ≤ c1_0) (h : impl_UndoBack.f k l0_0 l0_1 l1_0 a1_1 a1_2 = some (r1, r2, r3, r4, r5, r6)) :
  Calls Try.prog 31 #[.agg #[.slice A0_0 l0_0.length c0_0, .slice A0_1 l0_1.length c0_1], .agg #[.slice A1_0 l1_0.length c1_0, .int .i64 a1_1, .int .i64 a1_2]] w fun e w' => ∃ m1_ m2_ : Nat, (w.heap.size ≤ m1_ ∧ m1_ ≤ m2_ ∧ m2_ ≤ w'.heap.size) ∧ ∃ v0_ v1_ v2_ : Value, e = .returned (.agg #[v0_, v1_, v2_, .int .i64 r4, .int .i64 r5, .int .i64 r6]) ∧ Kd.S k31 31 w' w.heap.size (fun k_ => k_ < m1_) v0_ r1 ∧ Kd.T k31 31 w' w.heap.size (fun k_ => m1_ ≤ k_ ∧ k_ < m2_) v1_ r2 ∧ Kd.R (Kd.int .i64) 2 w' w.heap.size (fun k_ => m2_ ≤ k_) v2_ r3 ∧ Below w.heap.size w w' := by
 have hu30 := Try.underlying30
 have hu31 := Try.underlying31
 have hu33 := Try.underlying33
 have HR0_0 := am hr0_0
 have HC0_0 := am hc0_0
 clear hr0_0 hc0_0
 have HR0_1 := am hr0_1
 have HC0_1 := am hc0_1
 clear hr0_1 hc0_1
 have HR1_0 := am hr1_0
 have HC1_0 := am hc1_0
 clear hr1_0 hc1_0
 have HB := am (Below.refl w.heap.size w)
 have H : ((impl_UndoRight.f k l0_0 l0_1).bind fun t298 => (if t298 = true then ((impl_BufRight.f k l1_0 a1_1 a1_2).bind fun t299 => (impl_UndoBack.j0 k (wrap64 ((l0_0.length : Int) - 1)) (!t299) l0_0 l0_1 l1_0 a1_1 a1_2)) else (impl_UndoBack.j0 k (wrap64 ((l0_0.length : Int) - 1)) true l0_0 l0_1 l1_0 a1_1 a1_2))) = some (r1, r2, r3, r4, r5, r6) := h
 clear h
 have HC3 := Aside0.mk H
 clear H
 go_enter Try.func31, Try.ntmps31
 go_upto_region 2 with (first | ((with_reducible refine gate_dst (N := 2) rfl ?_); refine box_event ?hg (N := 2) ?hd (cs := #[.slice A0_0 l0_0.length c0_0, .slice A0_1 l0_1.length c0_1]) (t := 30) ?hr ?_; (case hd => rfl); (case hg => rfl); (case hr => first | (go_simp; done) | (go_simp; rfl)); intro gb295 hg w4 hbox hb; have BK295 := am (hbox); have GW295 := am ((by rw [hg]; exact (below_size (bl HB.out)) : w.heap.size ≤ gb295)); have GE295 := GW295; replace HB := am (below_step (bl HB.out) hb); clear hb hbox hg) | ((with_reducible refine gate_dst (N := 3) rfl ?_); refine box_event ?hg (N := 3) ?hd (cs := #[.slice A1_0 l1_0.length c1_0, .int .i64 a1_1, .int .i64 a1_2]) (t := 31) ?hr ?_; (case hd => rfl); (case hg => rfl); (case hr => first | (go_simp; done) | (go_simp; rfl)); intro gb296 hg w5 hbox hb; have BK296 := am (hbox); have GW296 := am ((by rw [hg]; exact (below_size (bl HB.out)) : w.heap.size ≤ gb296)); have GE296 := GW296; replace HB := am (below_step (bl HB.out) hb); have NB295_296 := am ((by rw [hg]; exact Nat.ne_of_lt (blk_lt (pk BK295.out)) : gb295 ≠ gb296)); have NB296_295 := am ((by rw [hg]; exact Nat.ne_of_gt (blk_lt (pk BK295.out)) : gb296 ≠ gb295)); replace BK295 := am (blk_below (pk BK295.out) hb); clear hb hbox hg) | ((with_reducible refine gate_dst (N := 4) rfl ?_); refine box_event ?hg (N := 4) ?hd (cs := #[.slice none 0 0, .slice none 0 0, .slice none 0 0, .int .i64 0, .int .i64 0, .int .i64 0]) (t := 33) ?hr ?_; (case hd => rfl); (case hg => rfl); (case hr => first | (go_simp; done) | (go_simp; rfl)); intro gb297 hg w6 hbox hb; have BK297 := am (hbox); have GW297 := am ((by rw [hg]; exact (below_size (bl HB.out)) : w.heap.size ≤ gb297)); have GE297 := GW297; replace HB := am (below_step (bl HB.out) hb); have NB295_297 := am ((by rw [hg]; exact Nat.ne_of_lt (blk_lt (pk BK295.out)) : gb295 ≠ gb297)); have NB297_295 := am ((by rw [hg]; exact Nat.ne_of_gt (blk_lt (pk BK295.out)) : gb297 ≠ gb295)); replace BK295 := am (blk_below (pk BK295.out) hb); have NB296_297 := am ((by rw [hg]; exact Nat.ne_of_lt (blk_lt (pk BK296.out)) : gb296 ≠ gb297)); have NB297_296 := am ((by rw [hg]; exact Nat.ne_of_gt (blk_lt (pk BK296.out)) : gb297 ≠ gb296)); replace BK296 := am (blk_below (pk BK296.out) hb); clear hb hbox hg; have hnb7 := NB295_296.out; have hnc7 := NB296_295.out; have hnb8 := NB295_297.out; have hnc8 := NB297_295.out; have hcz9_0 : w6.cell? ⟨gb295, 0, none⟩ = some (.slice A0_0 l0_0.length c0_0) := bc BK295.out 0; have hcz9_1 : w6.cell? ⟨gb295, 1, none⟩ = some (.slice A0_1 l0_1.length c0_1) := bc BK295.out 1; have hfz9_0 := blk_frozen BK295.out 0; have hfz9_1 := blk_frozen BK295.out 1))
 (try simp only [Act.put, sa_, s0_, ss_])
 go_cut [10] (fun v10 wc => ∃ (kq : Nat) (x10_2 : Bool), v10 = .bool x10_2 ∧ Aside0 (impl_UndoBack.j0 kq (wrap64 ((l0_0.length : Int) - 1)) x10_2 l0_0 l0_1 l1_0 a1_1 a1_2 = some (r1, r2, r3, r4, r5, r6)) ∧ Aside0 (kq ≤ k) ∧ Aside0 (wc.heap[gb295]? = some (.cells #[(.slice A0_0 l0_0.length c0_0), (.slice A0_1 l0_1.length c0_1)] 30 (0, 0))) ∧ Aside0 (wc.heap[gb296]? = some (.cells #[(.slice A1_0 l1_0.length c1_0), .int .i64 a1_1, .int .i64 a1_2] 31 (0, 0))) ∧ Aside0 (wc.heap[gb297]? = some (.cells #[(.slice none 0 0), (.slice none 0 0), (.slice none 0 0), .int .i64 0, .int .i64 0, .int .i64 0] 33 (0, 0))) ∧ Aside0 (Below w.heap.size w wc))
 case first =>
  have H := HC3.out
  clear HC3
  replace H := Option.bind_eq_some_iff.mp H
  obtain ⟨t298, A100, H⟩ := H
  replace H : (if t298 = true then ((impl_BufRight.f k l1_0 a1_1 a1_2).bind fun t299 => (impl_UndoBack.j0 k (wrap64 ((l0_0.length : Int) - 1)) (!t299) l0_0 l0_1 l1_0 a1_1 a1_2)) else (impl_UndoBack.j0 k (wrap64 ((l0_0.length : Int) - 1)) true l0_0 l0_1 l1_0 a1_1 a1_2)) = some (r1, r2, r3, r4, r5, r6) := H
  have A10 := Aside0.mk A100
  clear A100
  by_cases c11 : t298 = true
  ·subst c11
   have H1 : ((impl_BufRight.f k l1_0 a1_1 a1_2).bind fun t299 => (impl_UndoBack.j0 k (wrap64 ((l0_0.length : Int) - 1)) (!t299) l0_0 l0_1 l1_0 a1_1 a1_2)) = some (r1, r2, r3, r4, r5, r6) := by rw [if_pos rfl] at H; exact H
   clear H
   have H := H1
   clear H1
   replace H := Option.bind_eq_some_iff.mp H
   obtain ⟨t299, A120, H⟩ := H
   replace H : (impl_UndoBack.j0 k (wrap64 ((l0_0.length : Int) - 1)) (!t299) l0_0 l0_1 l1_0 a1_1 a1_2) = some (r1, r2, r3, r4, r5, r6) := H
   have A12 := Aside0.mk A120
   clear A120
   have H' := Aside0.mk H
   clear H
   have hnb13 := NB295_296.out
   have hnc13 := NB296_295.out
   have hnb14 := NB295_297.out
   have hnc14 := NB297_295.out
   have hcz15_0 : w6.cell? ⟨gb295, 0, none⟩ = some (.slice A0_0 l0_0.length c0_0) := bc BK295.out 0
   have hcz15_1 : w6.cell? ⟨gb295, 1, none⟩ = some (.slice A0_1 l0_1.length c0_1) := bc BK295.out 1
   have hfz15_0 := blk_frozen BK295.out 0
   have hfz15_1 := blk_frozen BK295.out 1
   go_wp2_with (first | ((with_reducible refine gate_callee (f := 53) rfl ?_); refine gl (some 12) Try.func53 #[.agg #[.slice A0_0 l0_0.length c0_0, .slice A0_1 l0_1.length c0_1]] ?_; (with_reducible refine (impl_UndoRight.calls k _ _ l0_0 _ _ l0_1 true _ ?side1 ?side2 ?side3 ?side4 A10.out).mono ?_); (case side1 => repeat (first | exact (Kd.C_below HR0_0.out HB.out) | (with_reducible refine Kd.C_alloc ?_ _) | (with_reducible refine Kd.C_drewN ?_ _) | (with_reducible refine Kd.C_drew ?_))); (case side2 => exact HC0_0.out); (case side3 => repeat (first | exact (Kd.C_below HR0_1.out HB.out) | (with_reducible refine Kd.C_alloc ?_ _) | (with_reducible refine Kd.C_drewN ?_ _) | (with_reducible refine Kd.C_drew ?_))); (case side4 => exact HC0_1.out); rintro e w16 ⟨rfl, hb⟩; refine ⟨_, rfl, ?_⟩; replace BK295 := am (blk_below (pk BK295.out) hb); replace BK296 := am (blk_below (pk BK296.out) hb); replace BK297 := am (blk_below (pk BK297.out) hb); replace HB := am (below_step (bl HB.out) hb); (try clear hb); (try clear hb2); (try clear hk); (try clear hi); have hnb17 := NB296_297.out; have hnc17 := NB297_296.out; have hcz18_0 : w16.cell? ⟨gb296, 0, none⟩ = some (.slice A1_0 l1_0.length c1_0) := bc BK296.out 0; have hcz18_1 : w16.cell? ⟨gb296, 1, none⟩ = some (.int .i64 a1_1) := bc BK296.out 1; have hcz18_2 : w16.cell? ⟨gb296, 2, none⟩ = some (.int .i64 a1_2) := bc BK296.out 2; have hfz18_0 := blk_frozen BK296.out 0; have hfz18_1 := blk_frozen BK296.out 1; have hfz18_2 := blk_frozen BK296.out 2) | (go_at_call 26; (with_reducible refine (impl_BufRight.calls k _ _ l1_0 a1_1 a1_2 t299 _ ?side1 ?side2 A12.out).mono ?_); (case side1 => repeat (first | exact (Kd.C_below HR1_0.out HB.out) | (with_reducible refine Kd.C_alloc ?_ _) | (with_reducible refine Kd.C_drewN ?_ _) | (with_reducible refine Kd.C_drew ?_))); (case side2 => exact HC1_0.out); rintro e w19 ⟨rfl, hb⟩; replace BK295 := am (blk_below (pk BK295.out) hb); replace BK296 := am (blk_below (pk BK296.out) hb); replace BK297 := am (blk_below (pk BK297.out) hb); replace HB := am (below_step (bl HB.out) hb); (try clear hb); (try clear hb2); (try clear hk); (try clear hi)))
   go_meet
   case rel => exact ⟨_, (!t299), (by first | rfl | (simp; done) | (simp [*]; done)), H', ⟨by first | omega | exact Nat.le_refl _⟩, ⟨pk BK295.out⟩, ⟨pk BK296.out⟩, ⟨pk BK297.out⟩, ⟨by repeat (first | (with_reducible first | exact HB.out | apply below_alloc | apply pw_below_drewN | apply below_drew1 | refine below_set ?_ GE295.out | refine below_set ?_ GE296.out | refine below_set ?_ GE297.out) | exact HB.out)⟩⟩
  ·replace c11 := Bool.eq_false_iff.mpr c11
   subst c11
   have H1 : (impl_UndoBack.j0 k (wrap64 ((l0_0.length : Int) - 1)) true l0_0 l0_1 l1_0 a1_1 a1_2) = some (r1, r2, r3, r4, r5, r6) := by rw [if_neg (show ¬ (false = true) by decide)] at H; exact H
   clear H
   have H := H1
   clear H1
   have H' := Aside0.mk H
   clear H
   have hnb20 := NB295_296.out
   have hnc20 := NB296_295.out
   have hnb21 := NB295_297.out
   have hnc21 := NB297_295.out
   have hcz22_0 : w6.cell? ⟨gb295, 0, none⟩ = some (.slice A0_0 l0_0.length c0_0) := bc BK295.out 0
   have hcz22_1 : w6.cell? ⟨gb295, 1, none⟩ = some (.slice A0_1 l0_1.length c0_1) := bc BK295.out 1
   have hfz22_0 := blk_frozen BK295.out 0
   have hfz22_1 := blk_frozen BK295.out 1
   go_wp2_with (first | ((with_reducible refine gate_callee (f := 53) rfl ?_); refine gl (some 12) Try.func53 #[.agg #[.slice A0_0 l0_0.length c0_0, .slice A0_1 l0_1.length c0_1]] ?_; (with_reducible refine (impl_UndoRight.calls k _ _ l0_0 _ _ l0_1 false _ ?side1 ?side2 ?side3 ?side4 A10.out).mono ?_); (case side1 => repeat (first | exact (Kd.C_below HR0_0.out HB.out) | (with_reducible refine Kd.C_alloc ?_ _) | (with_reducible refine Kd.C_drewN ?_ _) | (with_reducible refine Kd.C_drew ?_))); (case side2 => exact HC0_0.out); (case side3 => repeat (first | exact (Kd.C_below HR0_1.out HB.out) | (with_reducible refine Kd.C_alloc ?_ _) | (with_reducible refine Kd.C_drewN ?_ _) | (with_reducible refine Kd.C_drew ?_))); (case side4 => exact HC0_1.out); rintro e w23 ⟨rfl, hb⟩; refine ⟨_, rfl, ?_⟩; replace BK295 := am (blk_below (pk BK295.out) hb); replace BK296 := am (blk_below (pk BK296.out) hb); replace BK297 := am (blk_below (pk BK297.out) hb); replace HB := am (below_step (bl HB.out) hb); (try clear hb); (try clear hb2); (try clear hk); (try clear hi)))
   go_meet
   case rel => exact ⟨_, (true), (by first | rfl | (simp; done) | (simp [*]; done)), H', ⟨by first | omega | exact Nat.le_refl _⟩, ⟨pk BK295.out⟩, ⟨pk BK296.out⟩, ⟨pk BK297.out⟩, ⟨by repeat (first | (with_reducible first | exact HB.out | apply below_alloc | apply pw_below_drewN | apply below_drew1 | refine below_set ?_ GE295.out | refine below_set ?_ GE296.out | refine below_set ?_ GE297.out) | exact HB.out)⟩⟩
 case rest =>
  clear HC3
  try clear c1
  try clear c2
  try clear p2
  try clear c3
  try clear c5
  try clear p6
  try clear c7
  try clear c8
  try clear c11
  try clear c13
  try clear c14
  try clear c17
  try clear c20
  try clear c21
  try clear hcz15_0
  try clear hcz15_1
  try clear hcz18_0
  try clear hcz18_1
  try clear hcz18_2
  try clear hcz22_0
  try clear hcz22_1
  try clear hcz9_0
  try clear hcz9_1
  try clear hfz15_0
  try clear hfz15_1
  try clear hfz18_0
  try clear hfz18_1
  try clear hfz18_2
  try clear hfz22_0
  try clear hfz22_1
  try clear hfz9_0
  try clear hfz9_1
  obtain ⟨kq, x10_2, rfl, HA, HJ2, BK295, BK296, BK297, HB⟩ := hcut
  cases kq with
  | zero => exact absurd HA.out (by simp [impl_UndoBack.j0])
  | succ kj2 =>
   have H := HA.out
   clear HA
   simp only [impl_UndoBack.j0] at H
   by_cases c24 : x10_2 = true
   ·subst c24
    have H1 : (some (([] : List (S31)), ([] : List (S31)), ([] : List Int), 0, 0, 1)) = some (r1, r2, r3, r4, r5, r6) := by rw [if_pos rfl] at H; exact H
    clear H
    have H := H1
    clear H1
    simp only [Option.some.injEq, Prod.mk.injEq] at H
    obtain ⟨rfl, rfl, rfl, rfl, rfl, rfl⟩ := H
    have hnb25 := NB297_295.out
    have hnc25 := NB295_297.out
    have hnb26 := NB297_296.out
    have hnc26 := NB296_297.out
    have hcz27_0 : wc.cell? ⟨gb297, 0, none⟩ = some (.slice none 0 0) := bc BK297.out 0
    have hcz27_1 : wc.cell? ⟨gb297, 1, none⟩ = some (.slice none 0 0) := bc BK297.out 1
    have hcz27_2 : wc.cell? ⟨gb297, 2, none⟩ = some (.slice none 0 0) := bc BK297.out 2
    have hcz27_3 : wc.cell? ⟨gb297, 3, none⟩ = some (.int .i64 0) := bc BK297.out 3
    have hcz27_4 : wc.cell? ⟨gb297, 4, none⟩ = some (.int .i64 0) := bc BK297.out 4
    have hcz27_5 : wc.cell? ⟨gb297, 5, none⟩ = some (.int .i64 0) := bc BK297.out 5
    have hfz27_0 := blk_frozen BK297.out 0
    have hfz27_1 := blk_frozen BK297.out 1
    have hfz27_2 := blk_frozen BK297.out 2
    have hfz27_3 := blk_frozen BK297.out 3
    have hfz27_4 := blk_frozen BK297.out 4
    have hfz27_5 := blk_frozen BK297.out 5
    go_wp2
    refine bodyPost_ret (results_cell_row rfl _ _ gb297 33 #[.slice none 0 0, .slice none 0 0, .slice none 0 0, .int .i64 0, .int .i64 0, .int .i64 1] (0, 0) _ rfl (by refine pk ?_; refine blk_put (cs := #[.slice none 0 0, .slice none 0 0, .slice none 0 0, .int .i64 0, .int .i64 0, .int .i64 0]) ?_ 5 _ rfl; refine pk ?_; refine blk_put (cs := #[.slice none 0 0, .slice none 0 0, .slice none 0 0, .int .i64 0, .int .i64 0, .int .i64 0]) ?_ 4 _ rfl; refine pk ?_; refine blk_put (cs := #[.slice none 0 0, .slice none 0 0, .slice none 0 0, .int .i64 0, .int .i64 0, .int .i64 0]) ?_ 3 _ rfl; refine pk ?_; refine blk_put (cs := #[.slice none 0 0, .slice none 0 0, .slice none 0 0, .int .i64 0, .int .i64 0, .int .i64 0]) ?_ 2 _ rfl; refine pk ?_; refine blk_put (cs := #[.slice none 0 0, .slice none 0 0, .slice none 0 0, .int .i64 0, .int .i64 0, .int .i64 0]) ?_ 1 _ rfl; refine pk ?_; refine blk_put (cs := #[.slice none 0 0, .slice none 0 0, .slice none 0 0, .int .i64 0, .int .i64 0, .int .i64 0]) ?_ 0 _ rfl; refine pk ?_; exact BK297.out) Try.underlying33 rfl (by kernel_rfl)) rfl ?_
    exact ⟨w.heap.size, w.heap.size, ⟨Nat.le_refl _, Nat.le_refl _, below_size (bl HB.out)⟩, _, _, _, by first | rfl | (simp [errW_none, errW_some] <;> rfl) | (simp [*, errW_none, errW_some] <;> rfl), by first | exact Kd.S_nil _ _ _ _ _ | exact Kd.N_nil _ _ _ _ _ | exact Kd.V_nil _ _ _ _ _ | exact Kd.T_nil _ _ _ _ _ | exact Kd.R_nil _ _ _ _ _, Kd.T_of_S (by first | exact Kd.S_nil _ _ _ _ _ | exact Kd.N_nil _ _ _ _ _ | exact Kd.V_nil _ _ _ _ _ | exact Kd.T_nil _ _ _ _ _ | exact Kd.R_nil _ _ _ _ _), by first | exact Kd.R_nil _ _ _ _ _ | exact Kd.N_nil _ _ _ _ _ | exact Kd.V_nil _ _ _ _ _ | exact Kd.T_nil _ _ _ _ _ | exact Kd.S_nil _ _ _ _ _, by repeat (first | (with_reducible first | exact HB.out | apply below_alloc | apply pw_below_drewN | apply below_drew1 | refine below_set ?_ GE295.out | refine below_set ?_ GE296.out | refine below_set ?_ GE297.out) | exact HB.out)⟩
   ·replace c24 := Bool.eq_false_iff.mpr c24
    subst c24
    have H1 : (if (wrap64 ((l0_0.length : Int) - 1)) < 0 then (some (([] : List (S31)), ([] : List (S31)), ([] : List Int), 0, 0, 4)) else (if 0 ≤ (wrap64 ((l0_0.length : Int) - 1)) then (if (wrap64 ((l0_0.length : Int) - 1)) ≤ (l0_0.length : Int) then ((impl_ownBufs.f kj2 (l0_0.take ((wrap64 ((l0_0.length : Int) - 1)) : Int).toNat)).bind fun t304 => ((impl_behindBufs.f kj2 l0_1 l1_0 a1_1 a1_2).bind fun t307 => (if (wrap64 ((l0_0.length : Int) - 1)) < (l0_0.length : Int) then ((impl_ownBuf.f ((rd_T31 l0_0 (wrap64 ((l0_0.length : Int) - 1))).f0) ((rd_T31 l0_0 (wrap64 ((l0_0.length : Int) - 1))).f1) ((rd_T31 l0_0 (wrap64 ((l0_0.length : Int) - 1))).f2)).bind fun bt311 => (some (t304, t307, bt311.1, bt311.2.1, bt311.2.2, 0))) else (none)))) else (none)) else (none))) = some (r1, r2, r3, r4, r5, r6) := by rw [if_neg (show ¬ (false = true) by decide)] at H; exact H
    clear H
    have H := H1
    clear H1
    by_cases c28 : (wrap64 ((l0_0.length : Int) - 1)) < 0
    ·rw [if_pos c28] at H
     have c28b0 : decide ((wrap64 ((l0_0.length : Int) - 1)) < 0) = true := decide_eq_true c28
     clear c28
     simp only [Option.some.injEq, Prod.mk.injEq] at H
     obtain ⟨rfl, rfl, rfl, rfl, rfl, rfl⟩ := H
     have hnb29 := NB297_295.out
     have hnc29 := NB295_297.out
     have hnb30 := NB297_296.out
     have hnc30 := NB296_297.out
     have hcz31_0 : wc.cell? ⟨gb297, 0, none⟩ = some (.slice none 0 0) := bc BK297.out 0
     have hcz31_1 : wc.cell? ⟨gb297, 1, none⟩ = some (.slice none 0 0) := bc BK297.out 1
     have hcz31_2 : wc.cell? ⟨gb297, 2, none⟩ = some (.slice none 0 0) := bc BK297.out 2
     have hcz31_3 : wc.cell? ⟨gb297, 3, none⟩ = some (.int .i64 0) := bc BK297.out 3
     have hcz31_4 : wc.cell? ⟨gb297, 4, none⟩ = some (.int .i64 0) := bc BK297.out 4
     have hcz31_5 : wc.cell? ⟨gb297, 5, none⟩ = some (.int .i64 0) := bc BK297.out 5
     have hfz31_0 := blk_frozen BK297.out 0
     have hfz31_1 := blk_frozen BK297.out 1
     have hfz31_2 := blk_frozen BK297.out 2
     have hfz31_3 := blk_frozen BK297.out 3
     have hfz31_4 := blk_frozen BK297.out 4
     have hfz31_5 := blk_frozen BK297.out 5
     go_wp2
     refine bodyPost_ret (results_cell_row rfl _ _ gb297 33 #[.slice none 0 0, .slice none 0 0, .slice none 0 0, .int .i64 0, .int .i64 0, .int .i64 4] (0, 0) _ rfl (by refine pk ?_; refine blk_put (cs := #[.slice none 0 0, .slice none 0 0, .slice none 0 0, .int .i64 0, .int .i64 0, .int .i64 0]) ?_ 5 _ rfl; refine pk ?_; refine blk_put (cs := #[.slice none 0 0, .slice none 0 0, .slice none 0 0, .int .i64 0, .int .i64 0, .int .i64 0]) ?_ 4 _ rfl; refine pk ?_; refine blk_put (cs := #[.slice none 0 0, .slice none 0 0, .slice none 0 0, .int .i64 0, .int .i64 0, .int .i64 0]) ?_ 3 _ rfl; refine pk ?_; refine blk_put (cs := #[.slice none 0 0, .slice none 0 0, .slice none 0 0, .int .i64 0, .int .i64 0, .int .i64 0]) ?_ 2 _ rfl; refine pk ?_; refine blk_put (cs := #[.slice none 0 0, .slice none 0 0, .slice none 0 0, .int .i64 0, .int .i64 0, .int .i64 0]) ?_ 1 _ rfl; refine pk ?_; refine blk_put (cs := #[.slice none 0 0, .slice none 0 0, .slice none 0 0, .int .i64 0, .int .i64 0, .int .i64 0]) ?_ 0 _ rfl; refine pk ?_; exact BK297.out) Try.underlying33 rfl (by kernel_rfl)) rfl ?_
     exact ⟨w.heap.size, w.heap.size, ⟨Nat.le_refl _, Nat.le_refl _, below_size (bl HB.out)⟩, _, _, _, by first | rfl | (simp [errW_none, errW_some] <;> rfl) | (simp [*, errW_none, errW_some] <;> rfl), by first | exact Kd.S_nil _ _ _ _ _ | exact Kd.N_nil _ _ _ _ _ | exact Kd.V_nil _ _ _ _ _ | exact Kd.T_nil _ _ _ _ _ | exact Kd.R_nil _ _ _ _ _, Kd.T_of_S (by first | exact Kd.S_nil _ _ _ _ _ | exact Kd.N_nil _ _ _ _ _ | exact Kd.V_nil _ _ _ _ _ | exact Kd.T_nil _ _ _ _ _ | exact Kd.R_nil _ _ _ _ _), by first | exact Kd.R_nil _ _ _ _ _ | exact Kd.N_nil _ _ _ _ _ | exact Kd.V_nil _ _ _ _ _ | exact Kd.T_nil _ _ _ _ _ | exact Kd.S_nil _ _ _ _ _, by repeat (first | (with_reducible first | exact HB.out | apply below_alloc | apply pw_below_drewN | apply below_drew1 | refine below_set ?_ GE295.out | refine below_set ?_ GE296.out | refine below_set ?_ GE297.out) | exact HB.out)⟩
    ·rw [if_neg c28] at H
     have c28b0 : decide ((wrap64 ((l0_0.length : Int) - 1)) < 0) = false := decide_eq_false c28
     clear c28
     obtain ⟨ji32, hji32⟩ : ∃ j_ : Int, (wrap64 ((l0_0.length : Int) - 1)) = j_ := ⟨_, rfl⟩
     replace H : (if 0 ≤ (ji32) then (if (ji32) ≤ (l0_0.length : Int) then ((impl_ownBufs.f kj2 (l0_0.take ((ji32) : Int).toNat)).bind fun t304 => ((impl_behindBufs.f kj2 l0_1 l1_0 a1_1 a1_2).bind fun t307 => (if (ji32) < (l0_0.length : Int) then ((impl_ownBuf.f ((rd_T31 l0_0 (ji32)).f0) ((rd_T31 l0_0 (ji32)).f1) ((rd_T31 l0_0 (ji32)).f2)).bind fun bt311 => (some (t304, t307, bt311.1, bt311.2.1, bt311.2.2, 0))) else (none)))) else (none)) else (none)) = some (r1, r2, r3, r4, r5, r6) := by first | (rw [hji32] at H; exact H) | (simp only [hji32] at H ⊢; exact H)
     (try rw [hji32] at c28b0)
     have hji32w : (IntKind.i64.wrap ((l0_0.length : Int) - 1)) = ji32 := (i64_w _).trans hji32
     by_cases c33 : 0 ≤ (ji32)
     ·rw [if_pos c33] at H
      have c33b0 := eq_true c33
      have c33b1 : decide (0 ≤ (ji32)) = true := decide_eq_true c33
      clear c33
      by_cases c34 : (ji32) ≤ (l0_0.length : Int)
      ·rw [if_pos c34] at H
       have c34b0 := eq_true c34
       have c34b1 : decide ((ji32) ≤ (l0_0.length : Int)) = true := decide_eq_true c34
       clear c34
       obtain ⟨y300, hy300⟩ : ∃ y_ : List (S31), y_ = (l0_0.take ((ji32) : Int).toNat) := ⟨_, rfl⟩
       replace H : ((impl_ownBufs.f kj2 y300).bind fun t304 => ((impl_behindBufs.f kj2 l0_1 l1_0 a1_1 a1_2).bind fun t307 => (if (ji32) < (l0_0.length : Int) then ((impl_ownBuf.f ((rd_T31 l0_0 (ji32)).f0) ((rd_T31 l0_0 (ji32)).f1) ((rd_T31 l0_0 (ji32)).f2)).bind fun bt311 => (some (t304, t307, bt311.1, bt311.2.1, bt311.2.2, 0))) else (none)))) = some (r1, r2, r3, r4, r5, r6) := by first | (rw [hy300]; with_reducible exact H) | (have H2_ := (Option.bind_some _ _).symm.trans H; rw [hy300]; with_reducible exact H2_) | (have H2_ := (Option.bind_some _ _).symm.trans H; with_reducible exact H2_) | with_reducible exact H | (rw [hy300]; exact H) | exact H
       have Ny300 := am hy300
       clear hy300
       replace H := Option.bind_eq_some_iff.mp H
       obtain ⟨t304, A350, H⟩ := H
       replace H : ((impl_behindBufs.f kj2 l0_1 l1_0 a1_1 a1_2).bind fun t307 => (if (ji32) < (l0_0.length : Int) then ((impl_ownBuf.f ((rd_T31 l0_0 (ji32)).f0) ((rd_T31 l0_0 (ji32)).f1) ((rd_T31 l0_0 (ji32)).f2)).bind fun bt311 => (some (t304, t307, bt311.1, bt311.2.1, bt311.2.2, 0))) else (none))) = some (r1, r2, r3, r4, r5, r6) := H
       have A35 := Aside0.mk A350
       clear A350
       replace H := Option.bind_eq_some_iff.mp H
       obtain ⟨t307, A360, H⟩ := H
       replace H : (if (ji32) < (l0_0.length : Int) then ((impl_ownBuf.f ((rd_T31 l0_0 (ji32)).f0) ((rd_T31 l0_0 (ji32)).f1) ((rd_T31 l0_0 (ji32)).f2)).bind fun bt311 => (some (t304, t307, bt311.1, bt311.2.1, bt311.2.2, 0))) else (none)) = some (r1, r2, r3, r4, r5, r6) := H
       have A36 := Aside0.mk A360
       clear A360
       by_cases c37 : (ji32) < (l0_0.length : Int)
       ·rw [if_pos c37] at H
        have c37b0 : decide ((ji32) < (l0_0.length : Int)) = true := decide_eq_true c37
        clear c37
        replace H := Option.bind_eq_some_iff.mp H
        obtain ⟨⟨t311, t314, t315⟩, A380, H⟩ := H
        replace H : (some (t304, t307, t311, t314, t315, 0)) = some (r1, r2, r3, r4, r5, r6) := H
        have A38 := Aside0.mk A380
        clear A380
        simp only [Option.some.injEq, Prod.mk.injEq] at H
        obtain ⟨rfl, rfl, rfl, rfl, rfl, rfl⟩ := H
        try go_wp2
        replace BK295 := am (blk_drew BK295.out)
        replace BK296 := am (blk_drew BK296.out)
        replace BK297 := am (blk_drew BK297.out)
        replace HB := am (below_drew1 HB.out)
        have q40 : ((ji32) : Int) ≤ ((l0_0.length : Int) : Int) := of_decide_eq_true (by first | (with_reducible assumption) | assumption)
        obtain ⟨i040, hi040, _, hsz40, _⟩ := info_parts info31
        have hroom40 : l0_0.length ≤ c0_0 := HC0_0.out
        have hC40 : Kd.C k31 _ A0_0 l0_0.length l0_0 := HR0_0.out
        have hcut40 := cut_to (P := Try.prog) 28 31 .i64 Try.underlying28 hi040 A0_0 l0_0.length c0_0 (ji32) (of_decide_eq_true (by first | (with_reducible assumption) | assumption)) q40 hroom40
        have hr40 := Kd.C_take (m := ((ji32) : Int).toNat) hC40 (by omega)
        have hy40 : y300.length = ((ji32) : Int).toNat := (by rw [Ny300.out, List.length_take]; omega)
        rw [← Ny300.out] at hr40
        rw [← hy40] at hcut40
        have HR303 := am hr40
        have HC303 := am (show y300.length ≤ c0_0 from by omega)
        clear hr40 hC40 hroom40 hi040 hsz40
        have KY40 := am hy40
        clear hy40
        replace q40 := eq_true q40
        have p310 : 0 ≤ ((ji32) : Int) := of_decide_eq_true (by first | (with_reducible assumption) | assumption)
        have q310 : (ji32) < (l0_0.length : Int) := of_decide_eq_true (by first | (with_reducible assumption) | assumption)
        obtain ⟨ad310, A310_0, c310_0, e310, hx310_0, hx310_1, hx310_2, hl310_0, hi310_0⟩ := at_T31 HR0_0.out (ji32) p310 q310
        have hw310_2 := hx310_2
        have hw310_1 := hx310_1
        have hw310_0 := hx310_0
        cases e310
        have hxw310_0 := hx310_0
        replace hx310_0 := (HB.out.cell (World.block_lt_of_cell? w _ hx310_0)).trans hx310_0
        have hxw310_1 := hx310_1
        replace hx310_1 := (HB.out.cell (World.block_lt_of_cell? w _ hx310_1)).trans hx310_1
        have hxw310_2 := hx310_2
        replace hx310_2 := (HB.out.cell (World.block_lt_of_cell? w _ hx310_2)).trans hx310_2
        have HR310_0 := am hi310_0
        have HC310_0 := am hl310_0
        clear hi310_0 hl310_0
        replace p310 := eq_true p310
        replace q310 := eq_true q310
        refine start_ (n := 18) (S := fun w' => w'.cell? ⟨gb295, 0, none⟩ = some (.slice (some ad310) l0_0.length c0_0) ∧ w'.cell? ⟨gb295, 1, none⟩ = some (.slice A0_1 l0_1.length c0_1) ∧ w'.cell? ⟨gb296, 0, none⟩ = some (.slice A1_0 l1_0.length c1_0) ∧ w'.cell? ⟨gb296, 1, none⟩ = some (.int .i64 a1_1) ∧ w'.cell? ⟨gb296, 2, none⟩ = some (.int .i64 a1_2) ∧ w'.cell? (ad310.add (((ji32)).toNat * 3)) = some (.slice A310_0 ((rd_T31 l0_0 (ji32)).f0).length c310_0) ∧ w'.cell? ⟨(ad310.add (((ji32)).toNat * 3)).block, (ad310.add (((ji32)).toNat * 3)).off + 1, none⟩ = some (.int .i64 ((rd_T31 l0_0 (ji32)).f1)) ∧ w'.cell? ⟨(ad310.add (((ji32)).toNat * 3)).block, (ad310.add (((ji32)).toNat * 3)).off + 2, none⟩ = some (.int .i64 ((rd_T31 l0_0 (ji32)).f2))) (ds := []) #[false, false, false, false, false, false, false, false, false, false, false, false, false, false, false, false, false, false] (by kernel_rfl) rfl rfl ⟨bc BK295.out 0, bc BK295.out 1, bc BK296.out 0, bc BK296.out 1, bc BK296.out 2, ((HB.out.cell (World.block_lt_of_cell? _ _ hw310_0)).trans hw310_0), ((HB.out.cell (World.block_lt_of_cell? _ _ hw310_1)).trans hw310_1), ((HB.out.cell (World.block_lt_of_cell? _ _ hw310_2)).trans hw310_2)⟩ (fun hHeld => ?_); refine with_tabW impl_UndoBack.tab6 impl_UndoBack.bits6 (fun HT_ HW_ => ?_)
        generalize wc.drew = w39 at BK295 BK296 BK297 HB HR303 HR310_0 hx310_0 hx310_1 hx310_2 hHeld ⊢
        refine pure_ (i := 0) (N := some 24) (v := ?_) (a' := ?_) #[true, false, false, false, false, false, false, false, false, false, false, false, false, false, false, false, false, false] rfl rfl (any_of HT_.out (by kernel_rfl)) (fun _ _ _ h => h) (Or.inl ⟨by rfl, ?_⟩) ?_ ?_; rotate_left
        ·intro w'; go_simp; with_reducible rfl
        rotate_left
        ·simp only [Act.put, sa_, s0_, ss_, i64_w, i32_w]; rfl
        refine pure_ (i := 2) (N := some 26) (v := ?_) (a' := ?_) #[true, false, true, false, false, false, false, false, false, false, false, false, false, false, false, false, false, false] rfl rfl (any_of HT_.out (by kernel_rfl)) (fun _ _ _ h => h) (Or.inl ⟨by rfl, ?_⟩) ?_ ?_; rotate_left
        ·intro w'; go_simp; with_reducible rfl
        rotate_left
        ·simp only [Act.put, sa_, s0_, ss_, i64_w, i32_w]; rfl
        refine pure_ (i := 5) (N := some 29) (v := ?_) (a' := ?_) #[true, false, true, false, false, true, false, false, false, false, false, false, false, false, false, false, false, false] rfl rfl (any_of HT_.out (by kernel_rfl)) (fun _ _ _ h => h) (Or.inl ⟨by rfl, ?_⟩) ?_ ?_; rotate_left
        ·intro w'; go_simp; with_reducible rfl
        rotate_left
        ·simp only [Act.put, sa_, s0_, ss_, i64_w, i32_w]; rfl
        refine pure_ (i := 10) (N := some 34) (v := ?_) (a' := ?_) #[true, false, true, false, false, true, false, false, false, false, true, false, false, false, false, false, false, false] rfl rfl (any_of HT_.out (by kernel_rfl)) (fun _ _ _ h => h) (Or.inl ⟨by rfl, ?_⟩) ?_ ?_; rotate_left
        ·intro w'; go_simp; with_reducible rfl
        rotate_left
        ·simp only [Act.put, sa_, s0_, ss_, i64_w, i32_w]; rfl
        refine pure_ (i := 12) (N := some 36) (v := ?_) (a' := ?_) #[true, false, true, false, false, true, false, false, false, false, true, false, true, false, false, false, false, false] rfl rfl (any_of HT_.out (by kernel_rfl)) (fun _ _ _ h => h) (Or.inl ⟨by rfl, ?_⟩) ?_ ?_; rotate_left
        ·intro w'; go_simp; with_reducible rfl
        rotate_left
        ·simp only [Act.put, sa_, s0_, ss_, i64_w, i32_w]; rfl
        refine take_ (i := 1) (N := some 25) (v := ?_) (a' := ?_) #[true, true, true, false, false, true, false, false, false, false, true, false, true, false, false, false, false, false] rfl rfl (take_ofW HT_.out HW_.out (by kernel_rfl)) (fun _ _ _ h => h) (Or.inl ⟨by rfl, ?_⟩) hHeld ?_ ?_; rotate_left
        ·rintro w' ⟨s0, s1, s2, s3, s4, s5, s6, s7⟩; go_simp; with_reducible rfl
        rotate_left
        ·simp only [Act.put, sa_, s0_, ss_, i64_w, i32_w]; rfl
        refine pure_ (i := 3) (N := some 27) (v := ?_) (a' := ?_) #[true, true, true, true, false, true, false, false, false, false, true, false, true, false, false, false, false, false] rfl rfl (any_of HT_.out (by kernel_rfl)) (fun _ _ _ h => h) (Or.inl ⟨by rfl, ?_⟩) ?_ ?_; rotate_left
        ·intro w'; go_simp; with_reducible rfl
        rotate_left
        ·simp only [Act.put, sa_, s0_, ss_, i64_w, i32_w]; rfl
        refine take_ (i := 6) (N := some 30) (v := ?_) (a' := ?_) #[true, true, true, true, false, true, true, false, false, false, true, false, true, false, false, false, false, false] rfl rfl (take_ofW HT_.out HW_.out (by kernel_rfl)) (fun _ _ _ h => h) (Or.inl ⟨by rfl, ?_⟩) hHeld ?_ ?_; rotate_left
        ·rintro w' ⟨s0, s1, s2, s3, s4, s5, s6, s7⟩; go_simp; with_reducible rfl
        rotate_left
        ·simp only [Act.put, sa_, s0_, ss_, i64_w, i32_w]; rfl
        refine take_ (i := 7) (N := some 31) (v := ?_) (a' := ?_) #[true, true, true, true, false, true, true, true, false, false, true, false, true, false, false, false, false, false] rfl rfl (take_ofW HT_.out HW_.out (by kernel_rfl)) (fun _ _ _ h => h) (Or.inl ⟨by rfl, ?_⟩) hHeld ?_ ?_; rotate_left
        ·rintro w' ⟨s0, s1, s2, s3, s4, s5, s6, s7⟩; go_simp; with_reducible rfl
        rotate_left
        ·simp only [Act.put, sa_, s0_, ss_, i64_w, i32_w]; rfl
        refine take_ (i := 11) (N := some 35) (v := ?_) (a' := ?_) #[true, true, true, true, false, true, true, true, false, false, true, true, true, false, false, false, false, false] rfl rfl (take_ofW HT_.out HW_.out (by kernel_rfl)) (fun _ _ _ h => h) (Or.inl ⟨by rfl, ?_⟩) hHeld ?_ ?_; rotate_left
        ·rintro w' ⟨s0, s1, s2, s3, s4, s5, s6, s7⟩; go_simp; with_reducible rfl
        rotate_left
        ·simp only [Act.put, sa_, s0_, ss_, i64_w, i32_w]; rfl
        refine pure_ (i := 13) (N := some 37) (v := ?_) (a' := ?_) #[true, true, true, true, false, true, true, true, false, false, true, true, true, true, false, false, false, false] rfl rfl (any_of HT_.out (by kernel_rfl)) (fun _ _ _ h => h) (Or.inl ⟨by rfl, ?_⟩) ?_ ?_; rotate_left
        ·intro w'; go_simp; with_reducible rfl
        rotate_left
        ·simp only [Act.put, sa_, s0_, ss_, i64_w, i32_w]; rfl
        refine take_ (i := 14) (N := some 38) (v := ?_) (a' := ?_) #[true, true, true, true, false, true, true, true, false, false, true, true, true, true, true, false, false, false] rfl rfl (take_ofW HT_.out HW_.out (by kernel_rfl)) (fun _ _ _ h => h) (Or.inl ⟨by rfl, ?_⟩) hHeld ?_ ?_; rotate_left
        ·rintro w' ⟨s0, s1, s2, s3, s4, s5, s6, s7⟩; go_simp; with_reducible rfl
        rotate_left
        ·simp only [Act.put, sa_, s0_, ss_, i64_w, i32_w]; rfl
        refine one_ (i := 4) (N := some 28) #[true, true, true, true, true, true, true, true, false, false, true, true, true, true, true, false, false, false] rfl rfl (one_of HT_.out (by kernel_rfl)) (by decide) (fun K hK => ?_)
        refine gs_ Try.func54 #[.slice (some ad310) y300.length c0_0] ?_
        with_reducible refine (impl_ownBufs.calls kj2 _ _ y300 t304 _ ?side1 ?side2 A35.out).mono ?_
        (case side1 => repeat (first | exact (Kd.C_below HR303.out HB.out) | (with_reducible refine Kd.C_alloc ?_ _) | (with_reducible refine Kd.C_drewN ?_ _) | (with_reducible refine Kd.C_drew ?_)))
        (case side2 => exact HC303.out)
        rintro e w41 ⟨v305, rfl, ho0, hb⟩
        refine ⟨_, rfl, ?_⟩
        have HO306 := am (Kd.S_lower (Kd.S_newB ho0 (g := gb296) (o := .cells #[.slice A1_0 l1_0.length c1_0, .int .i64 a1_1, .int .i64 a1_2] 31 (0, 0)) (pk BK296.out)) (below_size (bl HB.out)))
        replace BK295 := am (blk_below (pk BK295.out) hb)
        replace BK296 := am (blk_below (pk BK296.out) hb)
        replace BK297 := am (blk_below (pk BK297.out) hb)
        replace HB := am (below_step (bl HB.out) hb)
        (try clear hb)
        (try clear hb2)
        (try clear hk)
        (try clear hi)
        (try clear ho0)
        refine hK.out _ _ ⟨bc BK295.out 0, bc BK295.out 1, bc BK296.out 0, bc BK296.out 1, bc BK296.out 2, ((HB.out.cell (World.block_lt_of_cell? _ _ hw310_0)).trans hw310_0), ((HB.out.cell (World.block_lt_of_cell? _ _ hw310_1)).trans hw310_1), ((HB.out.cell (World.block_lt_of_cell? _ _ hw310_2)).trans hw310_2)⟩ (fun hHeld => ?_)
        clear hK K
        refine norm_ (a' := ?_) ?_ ?_
        rotate_left
        ·show Act.put _ (some 28) _ = _
         simp only [Act.put, sa_, s0_, ss_, i64_w, i32_w]
         rfl
        refine one_ (i := 8) (N := some 32) #[true, true, true, true, true, true, true, true, true, false, true, true, true, true, true, false, false, false] rfl rfl (one_of HT_.out (by kernel_rfl)) (by decide) (fun K hK => ?_)
        refine gs_ Try.func55 #[.slice A0_1 l0_1.length c0_1, .agg #[.slice A1_0 l1_0.length c1_0, .int .i64 a1_1, .int .i64 a1_2]] ?_
        with_reducible refine (impl_behindBufs.calls kj2 _ _ l0_1 _ _ l1_0 a1_1 a1_2 t307 _ ?side1 ?side2 ?side3 ?side4 A36.out).mono ?_
        (case side1 => repeat (first | exact (Kd.C_below HR0_1.out HB.out) | (with_reducible refine Kd.C_alloc ?_ _) | (with_reducible refine Kd.C_drewN ?_ _) | (with_reducible refine Kd.C_drew ?_)))
        (case side2 => exact HC0_1.out)
        (case side3 => repeat (first | exact (Kd.C_below HR1_0.out HB.out) | (with_reducible refine Kd.C_alloc ?_ _) | (with_reducible refine Kd.C_drewN ?_ _) | (with_reducible refine Kd.C_drew ?_)))
        (case side4 => exact HC1_0.out)
        rintro e w42 ⟨v308, rfl, ho0, hb⟩
        obtain ⟨m1_, mb1_, ha1_, hz1_, hc1_⟩ := nxt_ hb
        have hw1_ : w.heap.size ≤ m1_ := (by rw [ha1_]; exact below_size (bl HB.out))
        refine ⟨_, rfl, ?_⟩
        have HO309 := am (Kd.T_mono (ok' := fun k_ => m1_ ≤ k_) (Kd.T_lower (Kd.T_newB (Kd.T_new' (Kd.T_bound ho0) (Kd.S_lt (ks HO306.out))) (g := gb296) (o := .cells #[.slice A1_0 l1_0.length c1_0, .int .i64 a1_1, .int .i64 a1_2] 31 (0, 0)) (pk BK296.out)) (below_size (bl HB.out))) (fun _ hk => by rw [ha1_]; exact hk.1.1.2.1))
        replace HO306 := am (Kd.S_mono (ok' := fun k_ => k_ < m1_) (Kd.S_elder' (Kd.S_bound (ks HO306.out)) (Kd.T_base ho0) hb) (fun _ hk => by rw [ha1_]; exact hk.1.2.2.1))
        replace BK295 := am (blk_below (pk BK295.out) hb)
        replace BK296 := am (blk_below (pk BK296.out) hb)
        replace BK297 := am (blk_below (pk BK297.out) hb)
        replace HB := am (below_step (bl HB.out) hb)
        (try clear hb)
        (try clear hb2)
        (try clear hk)
        (try clear hi)
        (try clear ho0)
        obtain ⟨Ao43, co43, eo43, _⟩ := Kd.T_slice HO309.out
        (first | subst eo43 | (injection eo43 with f1_ f2_ f3_; have f4_ := f1_.symm; have f5_ := f3_.symm; clear f1_ f2_ f3_; subst f4_; subst f5_))
        obtain ⟨Ao44, co44, eo44⟩ := Kd.S_slice HO306.out
        (first | subst eo44 | (injection eo44 with f1_ f2_ f3_; have f4_ := f1_.symm; have f5_ := f3_.symm; clear f1_ f2_ f3_; subst f4_; subst f5_))
        refine hK.out _ _ ⟨bc BK295.out 0, bc BK295.out 1, bc BK296.out 0, bc BK296.out 1, bc BK296.out 2, ((HB.out.cell (World.block_lt_of_cell? _ _ hw310_0)).trans hw310_0), ((HB.out.cell (World.block_lt_of_cell? _ _ hw310_1)).trans hw310_1), ((HB.out.cell (World.block_lt_of_cell? _ _ hw310_2)).trans hw310_2)⟩ (fun hHeld => ?_)
        clear hK K
        refine norm_ (a' := ?_) ?_ ?_
        rotate_left
        ·show Act.put _ (some 32) _ = _
         simp only [Act.put, sa_, s0_, ss_, i64_w, i32_w]
         rfl
        refine pure_ (i := 9) (N := some 33) (v := ?_) (a' := ?_) #[true, true, true, true, true, true, true, true, true, true, true, true, true, true, true, false, false, false] rfl rfl (any_of HT_.out (by kernel_rfl)) (fun _ _ _ h => h) (Or.inl ⟨by rfl, ?_⟩) ?_ ?_; rotate_left
        ·intro w'; go_simp; with_reducible rfl
        rotate_left
        ·simp only [Act.put, sa_, s0_, ss_, i64_w, i32_w]; rfl
        refine one_ (i := 15) (N := some 39) #[true, true, true, true, true, true, true, true, true, true, true, true, true, true, true, true, false, false] rfl rfl (one_of HT_.out (by kernel_rfl)) (by decide) (fun K hK => ?_)
        refine goes_ Try.func30 (by kernel_rfl) rfl #[.agg #[.slice A310_0 ((rd_T31 l0_0 (ji32)).f0).length c310_0, .int .i64 ((rd_T31 l0_0 (ji32)).f1), .int .i64 ((rd_T31 l0_0 (ji32)).f2)]] (by rfl) rfl rfl (by (try simp only [List.map_toArray, List.map_cons, List.map_nil]); first | done | (simp only [hji32]; rfl) | rfl | (simp only [List.length_drop, List.length_take]; rfl)) ?_
        with_reducible refine (impl_ownBuf.calls _ _ ((rd_T31 l0_0 (ji32)).f0) ((rd_T31 l0_0 (ji32)).f1) ((rd_T31 l0_0 (ji32)).f2) t311 t314 t315 _ ?side1 ?side2 A38.out).mono ?_
        (case side1 => repeat (first | exact (Kd.C_below HR310_0.out HB.out) | (with_reducible refine Kd.C_alloc ?_ _) | (with_reducible refine Kd.C_drewN ?_ _) | (with_reducible refine Kd.C_drew ?_)))
        (case side2 => exact HC310_0.out)
        rintro e w45 ⟨v312, rfl, ho0, hb⟩
        obtain ⟨m2_, mb2_, ha2_, hz2_, hc2_⟩ := nxt_ hb
        refine ⟨_, rfl, ?_⟩
        replace HO306 := am (Kd.S_mono (ok' := fun k_ => k_ < m1_) (Kd.S_elder' (ks HO306.out) (Kd.R_base ho0) hb) (fun _ hk => hk.1))
        replace HO309 := am (Kd.T_mono (ok' := fun k_ => m1_ ≤ k_ ∧ k_ < m2_) (Kd.T_elder' (Kd.T_bound (by (with_reducible repeat (first | apply Kd.T_alloc | apply Kd.T_drewN | apply Kd.T_drew)); exact HO309.out)) (Kd.R_base ho0) hb) (fun _ hk => ⟨hk.1.1, by rw [ha2_]; exact hk.1.2.2.1⟩))
        have HO313 := am (Kd.R_mono (ok' := fun k_ => m2_ ≤ k_) (Kd.R_lower (Kd.R_bound ho0) (below_size (bl HB.out))) (fun _ hk => by rw [ha2_]; exact hk.2.1))
        replace BK295 := am (blk_below (pk BK295.out) hb)
        replace BK296 := am (blk_below (pk BK296.out) hb)
        replace BK297 := am (blk_below (pk BK297.out) hb)
        replace HB := am (below_step (bl HB.out) hb)
        (try clear hb)
        (try clear hb2)
        (try clear hk)
        (try clear hi)
        (try clear ho0)
        obtain ⟨Ao46, co46, eo46⟩ := Kd.R_slice HO313.out
        (first | subst eo46 | (injection eo46 with f1_ f2_ f3_; have f4_ := f1_.symm; have f5_ := f3_.symm; clear f1_ f2_ f3_; subst f4_; subst f5_))
        refine hK.out _ _ ⟨bc BK295.out 0, bc BK295.out 1, bc BK296.out 0, bc BK296.out 1, bc BK296.out 2, ((HB.out.cell (World.block_lt_of_cell? _ _ hw310_0)).trans hw310_0), ((HB.out.cell (World.block_lt_of_cell? _ _ hw310_1)).trans hw310_1), ((HB.out.cell (World.block_lt_of_cell? _ _ hw310_2)).trans hw310_2)⟩ (fun hHeld => ?_)
        clear hK K
        refine norm_ (a' := ?_) ?_ ?_
        rotate_left
        ·show Act.put _ (some 39) _ = _
         simp only [Act.put, sa_, s0_, ss_, i64_w, i32_w]
         rfl
        refine pure_ (i := 16) (N := some 40) (v := ?_) (a' := ?_) #[true, true, true, true, true, true, true, true, true, true, true, true, true, true, true, true, true, false] rfl rfl (any_of HT_.out (by kernel_rfl)) (fun _ _ _ h => h) (Or.inl ⟨by rfl, ?_⟩) ?_ ?_; rotate_left
        ·intro w'; go_simp; with_reducible rfl
        rotate_left
        ·simp only [Act.put, sa_, s0_, ss_, i64_w, i32_w]; rfl
        refine one_ (i := 17) (N := none) #[true, true, true, true, true, true, true, true, true, true, true, true, true, true, true, true, true, true] rfl rfl (one_of HT_.out (by kernel_rfl)) (by decide) (fun K hK => ?_)
        have hs47 : w45.cell? ⟨gb297, 0, none⟩ = some (.slice none 0 0) := bc BK297.out 0
        have hfs47 := blk_frozen BK297.out 0
        have hns47_0 := NB295_297.out
        have hns47_1 := NB296_297.out
        have hms47_0 := NB297_295.out
        have hms47_1 := NB297_296.out
        have hs48 : w45.cell? ⟨gb297, 1, none⟩ = some (.slice none 0 0) := bc BK297.out 1
        have hfs48 := blk_frozen BK297.out 1
        have hs49 : w45.cell? ⟨gb297, 2, none⟩ = some (.slice none 0 0) := bc BK297.out 2
        have hfs49 := blk_frozen BK297.out 2
        have hs50 : w45.cell? ⟨gb297, 3, none⟩ = some (.int .i64 0) := bc BK297.out 3
        have hfs50 := blk_frozen BK297.out 3
        have hs51 : w45.cell? ⟨gb297, 4, none⟩ = some (.int .i64 0) := bc BK297.out 4
        have hfs51 := blk_frozen BK297.out 4
        have hs52 : w45.cell? ⟨gb297, 5, none⟩ = some (.int .i64 0) := bc BK297.out 5
        have hfs52 := blk_frozen BK297.out 5
        refine skip_ (w1 := ?_) (by rfl) rfl ?_ ?_
        rotate_left
        ·go_simp
         rfl
        refine hK.out _ _ ⟨((cell_far (p := ⟨gb297, _, none⟩) NB295_297.out _).trans (((cell_far (p := ⟨gb297, _, none⟩) NB295_297.out _).trans (((cell_far (p := ⟨gb297, _, none⟩) NB295_297.out _).trans (((cell_far (p := ⟨gb297, _, none⟩) NB295_297.out _).trans (((cell_far (p := ⟨gb297, _, none⟩) NB295_297.out _).trans (((cell_far (p := ⟨gb297, _, none⟩) NB295_297.out _).trans (hHeld.1)))))))))))), ((cell_far (p := ⟨gb297, _, none⟩) NB295_297.out _).trans (((cell_far (p := ⟨gb297, _, none⟩) NB295_297.out _).trans (((cell_far (p := ⟨gb297, _, none⟩) NB295_297.out _).trans (((cell_far (p := ⟨gb297, _, none⟩) NB295_297.out _).trans (((cell_far (p := ⟨gb297, _, none⟩) NB295_297.out _).trans (((cell_far (p := ⟨gb297, _, none⟩) NB295_297.out _).trans (hHeld.2.1)))))))))))), ((cell_far (p := ⟨gb297, _, none⟩) NB296_297.out _).trans (((cell_far (p := ⟨gb297, _, none⟩) NB296_297.out _).trans (((cell_far (p := ⟨gb297, _, none⟩) NB296_297.out _).trans (((cell_far (p := ⟨gb297, _, none⟩) NB296_297.out _).trans (((cell_far (p := ⟨gb297, _, none⟩) NB296_297.out _).trans (((cell_far (p := ⟨gb297, _, none⟩) NB296_297.out _).trans (hHeld.2.2.1)))))))))))), ((cell_far (p := ⟨gb297, _, none⟩) NB296_297.out _).trans (((cell_far (p := ⟨gb297, _, none⟩) NB296_297.out _).trans (((cell_far (p := ⟨gb297, _, none⟩) NB296_297.out _).trans (((cell_far (p := ⟨gb297, _, none⟩) NB296_297.out _).trans (((cell_far (p := ⟨gb297, _, none⟩) NB296_297.out _).trans (((cell_far (p := ⟨gb297, _, none⟩) NB296_297.out _).trans (hHeld.2.2.2.1)))))))))))), ((cell_far (p := ⟨gb297, _, none⟩) NB296_297.out _).trans (((cell_far (p := ⟨gb297, _, none⟩) NB296_297.out _).trans (((cell_far (p := ⟨gb297, _, none⟩) NB296_297.out _).trans (((cell_far (p := ⟨gb297, _, none⟩) NB296_297.out _).trans (((cell_far (p := ⟨gb297, _, none⟩) NB296_297.out _).trans (((cell_far (p := ⟨gb297, _, none⟩) NB296_297.out _).trans (hHeld.2.2.2.2.1)))))))))))), ((cell_far (p := ⟨gb297, _, none⟩) (by first | exact Nat.ne_of_lt (Nat.lt_of_lt_of_le (by have := World.block_lt_of_cell? _ _ hw310_0; first | rwa [add_block] at this | exact this) GW297.out) | (rw [add_block]; exact Nat.ne_of_lt (Nat.lt_of_lt_of_le (by have := World.block_lt_of_cell? _ _ hw310_0; first | rwa [add_block] at this | exact this) GW297.out)) | (show (Addr.add _ _).block ≠ _; rw [add_block]; exact Nat.ne_of_lt (Nat.lt_of_lt_of_le (by have := World.block_lt_of_cell? _ _ hw310_0; first | rwa [add_block] at this | exact this) GW297.out)) | (dsimp only; exact Nat.ne_of_lt (Nat.lt_of_lt_of_le (by have := World.block_lt_of_cell? _ _ hw310_0; first | rwa [add_block] at this | exact this) GW297.out))) _).trans (((cell_far (p := ⟨gb297, _, none⟩) (by first | exact Nat.ne_of_lt (Nat.lt_of_lt_of_le (by have := World.block_lt_of_cell? _ _ hw310_0; first | rwa [add_block] at this | exact this) GW297.out) | (rw [add_block]; exact Nat.ne_of_lt (Nat.lt_of_lt_of_le (by have := World.block_lt_of_cell? _ _ hw310_0; first | rwa [add_block] at this | exact this) GW297.out)) | (show (Addr.add _ _).block ≠ _; rw [add_block]; exact Nat.ne_of_lt (Nat.lt_of_lt_of_le (by have := World.block_lt_of_cell? _ _ hw310_0; first | rwa [add_block] at this | exact this) GW297.out)) | (dsimp only; exact Nat.ne_of_lt (Nat.lt_of_lt_of_le (by have := World.block_lt_of_cell? _ _ hw310_0; first | rwa [add_block] at this | exact this) GW297.out))) _).trans (((cell_far (p := ⟨gb297, _, none⟩) (by first | exact Nat.ne_of_lt (Nat.lt_of_lt_of_le (by have := World.block_lt_of_cell? _ _ hw310_0; first | rwa [add_block] at this | exact this) GW297.out) | (rw [add_block]; exact Nat.ne_of_lt (Nat.lt_of_lt_of_le (by have := World.block_lt_of_cell? _ _ hw310_0; first | rwa [add_block] at this | exact this) GW297.out)) | (show (Addr.add _ _).block ≠ _; rw [add_block]; exact Nat.ne_of_lt (Nat.lt_of_lt_of_le (by have := World.block_lt_of_cell? _ _ hw310_0; first | rwa [add_block] at this | exact this) GW297.out)) | (dsimp only; exact Nat.ne_of_lt (Nat.lt_of_lt_of_le (by have := World.block_lt_of_cell? _ _ hw310_0; first | rwa [add_block] at this | exact this) GW297.out))) _).trans (((cell_far (p := ⟨gb297, _, none⟩) (by first | exact Nat.ne_of_lt (Nat.lt_of_lt_of_le (by have := World.block_lt_of_cell? _ _ hw310_0; first | rwa [add_block] at this | exact this) GW297.out) | (rw [add_block]; exact Nat.ne_of_lt (Nat.lt_of_lt_of_le (by have := World.block_lt_of_cell? _ _ hw310_0; first | rwa [add_block] at this | exact this) GW297.out)) | (show (Addr.add _ _).block ≠ _; rw [add_block]; exact Nat.ne_of_lt (Nat.lt_of_lt_of_le (by have := World.block_lt_of_cell? _ _ hw310_0; first | rwa [add_block] at this | exact this) GW297.out)) | (dsimp only; exact Nat.ne_of_lt (Nat.lt_of_lt_of_le (by have := World.block_lt_of_cell? _ _ hw310_0; first | rwa [add_block] at this | exact this) GW297.out))) _).trans (((cell_far (p := ⟨gb297, _, none⟩) (by first | exact Nat.ne_of_lt (Nat.lt_of_lt_of_le (by have := World.block_lt_of_cell? _ _ hw310_0; first | rwa [add_block] at this | exact this) GW297.out) | (rw [add_block]; exact Nat.ne_of_lt (Nat.lt_of_lt_of_le (by have := World.block_lt_of_cell? _ _ hw310_0; first | rwa [add_block] at this | exact this) GW297.out)) | (show (Addr.add _ _).block ≠ _; rw [add_block]; exact Nat.ne_of_lt (Nat.lt_of_lt_of_le (by have := World.block_lt_of_cell? _ _ hw310_0; first | rwa [add_block] at this | exact this) GW297.out)) | (dsimp only; exact Nat.ne_of_lt (Nat.lt_of_lt_of_le (by have := World.block_lt_of_cell? _ _ hw310_0; first | rwa [add_block] at this | exact this) GW297.out))) _).trans (((cell_far (p := ⟨gb297, _, none⟩) (by first | exact Nat.ne_of_lt (Nat.lt_of_lt_of_le (by have := World.block_lt_of_cell? _ _ hw310_0; first | rwa [add_block] at this | exact this) GW297.out) | (rw [add_block]; exact Nat.ne_of_lt (Nat.lt_of_lt_of_le (by have := World.block_lt_of_cell? _ _ hw310_0; first | rwa [add_block] at this | exact this) GW297.out)) | (show (Addr.add _ _).block ≠ _; rw [add_block]; exact Nat.ne_of_lt (Nat.lt_of_lt_of_le (by have := World.block_lt_of_cell? _ _ hw310_0; first | rwa [add_block] at this | exact this) GW297.out)) | (dsimp only; exact Nat.ne_of_lt (Nat.lt_of_lt_of_le (by have := World.block_lt_of_cell? _ _ hw310_0; first | rwa [add_block] at this | exact this) GW297.out))) _).trans (hHeld.2.2.2.2.2.1)))))))))))), ((cell_far (p := ⟨gb297, _, none⟩) (by first | exact Nat.ne_of_lt (Nat.lt_of_lt_of_le (by have := World.block_lt_of_cell? _ _ hw310_1; first | rwa [add_block] at this | exact this) GW297.out) | (rw [add_block]; exact Nat.ne_of_lt (Nat.lt_of_lt_of_le (by have := World.block_lt_of_cell? _ _ hw310_1; first | rwa [add_block] at this | exact this) GW297.out)) | (show (Addr.add _ _).block ≠ _; rw [add_block]; exact Nat.ne_of_lt (Nat.lt_of_lt_of_le (by have := World.block_lt_of_cell? _ _ hw310_1; first | rwa [add_block] at this | exact this) GW297.out)) | (dsimp only; exact Nat.ne_of_lt (Nat.lt_of_lt_of_le (by have := World.block_lt_of_cell? _ _ hw310_1; first | rwa [add_block] at this | exact this) GW297.out))) _).trans (((cell_far (p := ⟨gb297, _, none⟩) (by first | exact Nat.ne_of_lt (Nat.lt_of_lt_of_le (by have := World.block_lt_of_cell? _ _ hw310_1; first | rwa [add_block] at this | exact this) GW297.out) | (rw [add_block]; exact Nat.ne_of_lt (Nat.lt_of_lt_of_le (by have := World.block_lt_of_cell? _ _ hw310_1; first | rwa [add_block] at this | exact this) GW297.out)) | (show (Addr.add _ _).block ≠ _; rw [add_block]; exact Nat.ne_of_lt (Nat.lt_of_lt_of_le (by have := World.block_lt_of_cell? _ _ hw310_1; first | rwa [add_block] at this | exact this) GW297.out)) | (dsimp only; exact Nat.ne_of_lt (Nat.lt_of_lt_of_le (by have := World.block_lt_of_cell? _ _ hw310_1; first | rwa [add_block] at this | exact this) GW297.out))) _).trans (((cell_far (p := ⟨gb297, _, none⟩) (by first | exact Nat.ne_of_lt (Nat.lt_of_lt_of_le (by have := World.block_lt_of_cell? _ _ hw310_1; first | rwa [add_block] at this | exact this) GW297.out) | (rw [add_block]; exact Nat.ne_of_lt (Nat.lt_of_lt_of_le (by have := World.block_lt_of_cell? _ _ hw310_1; first | rwa [add_block] at this | exact this) GW297.out)) | (show (Addr.add _ _).block ≠ _; rw [add_block]; exact Nat.ne_of_lt (Nat.lt_of_lt_of_le (by have := World.block_lt_of_cell? _ _ hw310_1; first | rwa [add_block] at this | exact this) GW297.out)) | (dsimp only; exact Nat.ne_of_lt (Nat.lt_of_lt_of_le (by have := World.block_lt_of_cell? _ _ hw310_1; first | rwa [add_block] at this | exact this) GW297.out))) _).trans (((cell_far (p := ⟨gb297, _, none⟩) (by first | exact Nat.ne_of_lt (Nat.lt_of_lt_of_le (by have := World.block_lt_of_cell? _ _ hw310_1; first | rwa [add_block] at this | exact this) GW297.out) | (rw [add_block]; exact Nat.ne_of_lt (Nat.lt_of_lt_of_le (by have := World.block_lt_of_cell? _ _ hw310_1; first | rwa [add_block] at this | exact this) GW297.out)) | (show (Addr.add _ _).block ≠ _; rw [add_block]; exact Nat.ne_of_lt (Nat.lt_of_lt_of_le (by have := World.block_lt_of_cell? _ _ hw310_1; first | rwa [add_block] at this | exact this) GW297.out)) | (dsimp only; exact Nat.ne_of_lt (Nat.lt_of_lt_of_le (by have := World.block_lt_of_cell? _ _ hw310_1; first | rwa [add_block] at this | exact this) GW297.out))) _).trans (((cell_far (p := ⟨gb297, _, none⟩) (by first | exact Nat.ne_of_lt (Nat.lt_of_lt_of_le (by have := World.block_lt_of_cell? _ _ hw310_1; first | rwa [add_block] at this | exact this) GW297.out) | (rw [add_block]; exact Nat.ne_of_lt (Nat.lt_of_lt_of_le (by have := World.block_lt_of_cell? _ _ hw310_1; first | rwa [add_block] at this | exact this) GW297.out)) | (show (Addr.add _ _).block ≠ _; rw [add_block]; exact Nat.ne_of_lt (Nat.lt_of_lt_of_le (by have := World.block_lt_of_cell? _ _ hw310_1; first | rwa [add_block] at this | exact this) GW297.out)) | (dsimp only; exact Nat.ne_of_lt (Nat.lt_of_lt_of_le (by have := World.block_lt_of_cell? _ _ hw310_1; first | rwa [add_block] at this | exact this) GW297.out))) _).trans (((cell_far (p := ⟨gb297, _, none⟩) (by first | exact Nat.ne_of_lt (Nat.lt_of_lt_of_le (by have := World.block_lt_of_cell? _ _ hw310_1; first | rwa [add_block] at this | exact this) GW297.out) | (rw [add_block]; exact Nat.ne_of_lt (Nat.lt_of_lt_of_le (by have := World.block_lt_of_cell? _ _ hw310_1; first | rwa [add_block] at this | exact this) GW297.out)) | (show (Addr.add _ _).block ≠ _; rw [add_block]; exact Nat.ne_of_lt (Nat.lt_of_lt_of_le (by have := World.block_lt_of_cell? _ _ hw310_1; first | rwa [add_block] at this | exact this) GW297.out)) | (dsimp only; exact Nat.ne_of_lt (Nat.lt_of_lt_of_le (by have := World.block_lt_of_cell? _ _ hw310_1; first | rwa [add_block] at this | exact this) GW297.out))) _).trans (hHeld.2.2.2.2.2.2.1)))))))))))), ((cell_far (p := ⟨gb297, _, none⟩) (by first | exact Nat.ne_of_lt (Nat.lt_of_lt_of_le (by have := World.block_lt_of_cell? _ _ hw310_2; first | rwa [add_block] at this | exact this) GW297.out) | (rw [add_block]; exact Nat.ne_of_lt (Nat.lt_of_lt_of_le (by have := World.block_lt_of_cell? _ _ hw310_2; first | rwa [add_block] at this | exact this) GW297.out)) | (show (Addr.add _ _).block ≠ _; rw [add_block]; exact Nat.ne_of_lt (Nat.lt_of_lt_of_le (by have := World.block_lt_of_cell? _ _ hw310_2; first | rwa [add_block] at this | exact this) GW297.out)) | (dsimp only; exact Nat.ne_of_lt (Nat.lt_of_lt_of_le (by have := World.block_lt_of_cell? _ _ hw310_2; first | rwa [add_block] at this | exact this) GW297.out))) _).trans (((cell_far (p := ⟨gb297, _, none⟩) (by first | exact Nat.ne_of_lt (Nat.lt_of_lt_of_le (by have := World.block_lt_of_cell? _ _ hw310_2; first | rwa [add_block] at this | exact this) GW297.out) | (rw [add_block]; exact Nat.ne_of_lt (Nat.lt_of_lt_of_le (by have := World.block_lt_of_cell? _ _ hw310_2; first | rwa [add_block] at this | exact this) GW297.out)) | (show (Addr.add _ _).block ≠ _; rw [add_block]; exact Nat.ne_of_lt (Nat.lt_of_lt_of_le (by have := World.block_lt_of_cell? _ _ hw310_2; first | rwa [add_block] at this | exact this) GW297.out)) | (dsimp only; exact Nat.ne_of_lt (Nat.lt_of_lt_of_le (by have := World.block_lt_of_cell? _ _ hw310_2; first | rwa [add_block] at this | exact this) GW297.out))) _).trans (((cell_far (p := ⟨gb297, _, none⟩) (by first | exact Nat.ne_of_lt (Nat.lt_of_lt_of_le (by have := World.block_lt_of_cell? _ _ hw310_2; first | rwa [add_block] at this | exact this) GW297.out) | (rw [add_block]; exact Nat.ne_of_lt (Nat.lt_of_lt_of_le (by have := World.block_lt_of_cell? _ _ hw310_2; first | rwa [add_block] at this | exact this) GW297.out)) | (show (Addr.add _ _).block ≠ _; rw [add_block]; exact Nat.ne_of_lt (Nat.lt_of_lt_of_le (by have := World.block_lt_of_cell? _ _ hw310_2; first | rwa [add_block] at this | exact this) GW297.out)) | (dsimp only; exact Nat.ne_of_lt (Nat.lt_of_lt_of_le (by have := World.block_lt_of_cell? _ _ hw310_2; first | rwa [add_block] at this | exact this) GW297.out))) _).trans (((cell_far (p := ⟨gb297, _, none⟩) (by first | exact Nat.ne_of_lt (Nat.lt_of_lt_of_le (by have := World.block_lt_of_cell? _ _ hw310_2; first | rwa [add_block] at this | exact this) GW297.out) | (rw [add_block]; exact Nat.ne_of_lt (Nat.lt_of_lt_of_le (by have := World.block_lt_of_cell? _ _ hw310_2; first | rwa [add_block] at this | exact this) GW297.out)) | (show (Addr.add _ _).block ≠ _; rw [add_block]; exact Nat.ne_of_lt (Nat.lt_of_lt_of_le (by have := World.block_lt_of_cell? _ _ hw310_2; first | rwa [add_block] at this | exact this) GW297.out)) | (dsimp only; exact Nat.ne_of_lt (Nat.lt_of_lt_of_le (by have := World.block_lt_of_cell? _ _ hw310_2; first | rwa [add_block] at this | exact this) GW297.out))) _).trans (((cell_far (p := ⟨gb297, _, none⟩) (by first | exact Nat.ne_of_lt (Nat.lt_of_lt_of_le (by have := World.block_lt_of_cell? _ _ hw310_2; first | rwa [add_block] at this | exact this) GW297.out) | (rw [add_block]; exact Nat.ne_of_lt (Nat.lt_of_lt_of_le (by have := World.block_lt_of_cell? _ _ hw310_2; first | rwa [add_block] at this | exact this) GW297.out)) | (show (Addr.add _ _).block ≠ _; rw [add_block]; exact Nat.ne_of_lt (Nat.lt_of_lt_of_le (by have := World.block_lt_of_cell? _ _ hw310_2; first | rwa [add_block] at this | exact this) GW297.out)) | (dsimp only; exact Nat.ne_of_lt (Nat.lt_of_lt_of_le (by have := World.block_lt_of_cell? _ _ hw310_2; first | rwa [add_block] at this | exact this) GW297.out))) _).trans (((cell_far (p := ⟨gb297, _, none⟩) (by first | exact Nat.ne_of_lt (Nat.lt_of_lt_of_le (by have := World.block_lt_of_cell? _ _ hw310_2; first | rwa [add_block] at this | exact this) GW297.out) | (rw [add_block]; exact Nat.ne_of_lt (Nat.lt_of_lt_of_le (by have := World.block_lt_of_cell? _ _ hw310_2; first | rwa [add_block] at this | exact this) GW297.out)) | (show (Addr.add _ _).block ≠ _; rw [add_block]; exact Nat.ne_of_lt (Nat.lt_of_lt_of_le (by have := World.block_lt_of_cell? _ _ hw310_2; first | rwa [add_block] at this | exact this) GW297.out)) | (dsimp only; exact Nat.ne_of_lt (Nat.lt_of_lt_of_le (by have := World.block_lt_of_cell? _ _ hw310_2; first | rwa [add_block] at this | exact this) GW297.out))) _).trans (hHeld.2.2.2.2.2.2.2))))))))))))⟩ (fun hHeld => ?_)
        clear hK K
        refine done_ (done_of HT_.out (by kernel_rfl)) ?_
        try go_wp2
        refine bodyPost_ret (results_cell_row rfl _ _ gb297 33 #[.slice Ao44 t304.length co44, .slice Ao43 t307.length co43, .slice Ao46 t311.length co46, .int .i64 t314, .int .i64 t315, .int .i64 0] (0, 0) _ rfl (by refine pk ?_; refine blk_put (cs := #[.slice Ao44 t304.length co44, .slice Ao43 t307.length co43, .slice Ao46 t311.length co46, .int .i64 t314, .int .i64 t315, .int .i64 0]) ?_ 5 _ rfl; refine pk ?_; refine blk_put (cs := #[.slice Ao44 t304.length co44, .slice Ao43 t307.length co43, .slice Ao46 t311.length co46, .int .i64 t314, .int .i64 0, .int .i64 0]) ?_ 4 _ rfl; refine pk ?_; refine blk_put (cs := #[.slice Ao44 t304.length co44, .slice Ao43 t307.length co43, .slice Ao46 t311.length co46, .int .i64 0, .int .i64 0, .int .i64 0]) ?_ 3 _ rfl; refine pk ?_; refine blk_put (cs := #[.slice Ao44 t304.length co44, .slice Ao43 t307.length co43, .slice none 0 0, .int .i64 0, .int .i64 0, .int .i64 0]) ?_ 2 _ rfl; refine pk ?_; refine blk_put (cs := #[.slice Ao44 t304.length co44, .slice none 0 0, .slice none 0 0, .int .i64 0, .int .i64 0, .int .i64 0]) ?_ 1 _ rfl; refine pk ?_; refine blk_put (cs := #[.slice none 0 0, .slice none 0 0, .slice none 0 0, .int .i64 0, .int .i64 0, .int .i64 0]) ?_ 0 _ rfl; refine pk ?_; exact BK297.out) Try.underlying33 rfl (by kernel_rfl)) rfl ?_
        exact ⟨m1_, m2_, ⟨hw1_, (by omega), (by (try simp only [World.size_setCell]); omega)⟩, _, _, _, by first | rfl | (simp [errW_none, errW_some] <;> rfl) | (simp only [← hji32]; first | rfl | (simp [errW_none, errW_some] <;> rfl)) | (simp [*, errW_none, errW_some] <;> rfl), ks (Kd.S_mono (Kd.S_far (p := ⟨gb297, 5, none⟩) (Kd.S_far (p := ⟨gb297, 4, none⟩) (Kd.S_far (p := ⟨gb297, 3, none⟩) (Kd.S_far (p := ⟨gb297, 2, none⟩) (Kd.S_far (p := ⟨gb297, 1, none⟩) (Kd.S_far (p := ⟨gb297, 0, none⟩) (Kd.S_types HO306.out BK297.out (by decide)) (fun _ hk => hk.2) (.slice Ao44 t304.length co44)) (fun _ hk => hk.2) (.slice Ao43 t307.length co43)) (fun _ hk => hk.2) (.slice Ao46 t311.length co46)) (fun _ hk => hk.2) (.int .i64 t314)) (fun _ hk => hk.2) (.int .i64 t315)) (fun _ hk => hk.2) (.int .i64 0)) (fun _ hk => hk.1)), by (with_reducible repeat (first | apply Kd.T_alloc | apply Kd.T_drewN | apply Kd.T_drew)); exact Kd.T_mono (Kd.T_far (p := ⟨gb297, 5, none⟩) (Kd.T_far (p := ⟨gb297, 4, none⟩) (Kd.T_far (p := ⟨gb297, 3, none⟩) (Kd.T_far (p := ⟨gb297, 2, none⟩) (Kd.T_far (p := ⟨gb297, 1, none⟩) (Kd.T_far (p := ⟨gb297, 0, none⟩) (Kd.T_types HO309.out BK297.out (by decide)) (fun _ hk => hk.2) (.slice Ao44 t304.length co44)) (fun _ hk => hk.2) (.slice Ao43 t307.length co43)) (fun _ hk => hk.2) (.slice Ao46 t311.length co46)) (fun _ hk => hk.2) (.int .i64 t314)) (fun _ hk => hk.2) (.int .i64 t315)) (fun _ hk => hk.2) (.int .i64 0)) (fun _ hk => hk.1), kr (Kd.R_mono (Kd.R_far (p := ⟨gb297, 5, none⟩) (Kd.R_far (p := ⟨gb297, 4, none⟩) (Kd.R_far (p := ⟨gb297, 3, none⟩) (Kd.R_far (p := ⟨gb297, 2, none⟩) (Kd.R_far (p := ⟨gb297, 1, none⟩) (Kd.R_far (p := ⟨gb297, 0, none⟩) (Kd.R_types HO313.out BK297.out (by decide)) (fun _ hk => hk.2) (.slice Ao44 t304.length co44)) (fun _ hk => hk.2) (.slice Ao43 t307.length co43)) (fun _ hk => hk.2) (.slice Ao46 t311.length co46)) (fun _ hk => hk.2) (.int .i64 t314)) (fun _ hk => hk.2) (.int .i64 t315)) (fun _ hk => hk.2) (.int .i64 0)) (fun _ hk => hk.1)), by repeat (first | (with_reducible first | exact HB.out | apply below_alloc | apply pw_below_drewN | apply below_drew1 | refine below_set ?_ GE295.out | refine below_set ?_ GE296.out | refine below_set ?_ GE297.out) | exact HB.out)⟩
       ·rw [if_neg c37] at H
        exact absurd H (by simp)
      ·rw [if_neg c34] at H
       exact absurd H (by simp)
     ·rw [if_neg c33] at H
      exact absurd H (by simp)
/-! ### impl_replace_1: function 57 -/
def impl_replace_1.f (a0 x1 x2 x3 : Int) : Option Int := if a0 ≤ x1 then some a0 else (if a0 < x2 then some x1 else some (wrap64 (a0 + x3)))
theorem impl_replace_1.calls (a0 : Int) (p1 : Addr) (x1 : Int) (p2 : Addr) (x2 : Int) (p3 : Addr) (x3 : Int) (r1 : Int) (w : World) (hp1 : AtP w p1 0 [.int .i64 x1]) (hp2 : AtP w p2 0 [.int .i64 x2]) (hp3 : AtP w p3 0 [.int .i64 x3]) (h : impl_replace_1.f a0 x1 x2 x3 = some r1) :
  Calls Try.prog 57 #[.int .i64 a0, .pointer (some p1), .pointer (some p2), .pointer (some p3)] w fun e w' => e = .returned (.int .i64 r1) ∧ Drawn0 w w' := by
 have hc1 : w.cell? p1 = some (.int .i64 x1) := hp1.1
 have hc2 : w.cell? p2 = some (.int .i64 x2) := hp2.1
 have hc3 : w.cell? p3 = some (.int .i64 x3) := hp3.1
 unfold impl_replace_1.f at h
 by_cases c1 : a0 ≤ x1
 ·rw [if_pos c1] at h
  obtain rfl := Option.some.inj h
  have c1b : decide (a0 ≤ x1) = true := decide_eq_true c1
  go_enter Try.func57, Try.ntmps57
  go_wp2
  go_ret
  exact ⟨rfl, Drawn0.refl _⟩
 ·rw [if_neg c1] at h
  have c1b : decide (a0 ≤ x1) = false := decide_eq_false c1
  by_cases c2 : a0 < x2
  ·rw [if_pos c2] at h
   obtain rfl := Option.some.inj h
   have c2b : decide (a0 < x2) = true := decide_eq_true c2
   go_enter Try.func57, Try.ntmps57
   go_wp2
   go_ret
   exact ⟨rfl, Drawn0.refl _⟩
  ·rw [if_neg c2] at h
   obtain rfl := Option.some.inj h
   have c2b : decide (a0 < x2) = false := decide_eq_false c2
   go_enter Try.func57, Try.ntmps57
   go_wp2
   try go_ret
   exact ⟨by first | rfl | simp, Drawn0.refl _⟩

end Go.Proofs.Ytabinbmcfeknjaa.PFnExactUndoRun
