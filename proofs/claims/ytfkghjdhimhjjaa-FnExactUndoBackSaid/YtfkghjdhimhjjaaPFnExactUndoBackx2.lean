-- Written by xprint.py (this claim's own program, over the kit's printer); Lean checks it.
import Derived.Test.YtfkghjdhimhjjaaPFnExactUndoBackx0
import Derived.Test.YtfkghjdhimhjjaaPFnExactUndoBackx1
namespace Go.Proofs.Ytfkghjdhimhjjaa.PFnExactUndoBack
open Go.RowKit Go.Proofs.YtfkghjdhimhjjaaW.PrintWords Go.Proofs.YtfkghjdhimhjjaaW.PrintLast Go.Proofs.YtfkghjdhimhjjaaW.PrintMore
attribute [local go_sem] max2_int min2_int max_two min_two max_three min_three max_four min_four   -- for this text's walks alone
set_option linter.unusedVariables false
set_option linter.unusedSimpArgs false   -- squeezed

/-! ### spec_l05Put: function 61 -/
@[reducible] def b61_0 : Array Bool := (br true [0, 7]).toArray
@[reducible] def b61_1 : Array Bool := (br true [1, 6]).toArray
@[reducible] def b61_2 : Array Bool := (br true [1, 1, 1, 4]).toArray
@[reducible] def b61_3 : Array Bool := (br true [3, 4]).toArray
@[reducible] def b61_4 : Array Bool := (br true [4, 3]).toArray
@[reducible] def b61_5 : Array Bool := (br true [5, 2]).toArray
@[reducible] def b61_6 : Array Bool := (br true [6, 1]).toArray
@[reducible] def b61_7 : Array Bool := (br true [7]).toArray
def spec_l05Put.f (k : Nat) (l0 : List (S39)) (l1_0 : List Int) (a1_1 : Int) (a1_2 : Int) : Option ((List (S39))) := (spec_l05CopyBufs.f k l0).bind fun t134 => ((spec_l02Copy.f l1_0 a1_1 a1_2).bind fun bt137 => (if t134.length < 3518437208883 then ((some (t134 ++ [(⟨bt137.1, bt137.2.1, bt137.2.2⟩ : S39)] : List (S39))).bind fun y142 => (if (y142.length : Int) > 20 then (if 1 ≤ (y142.length : Int) then (some (y142.drop (1 : Int).toNat)) else (none)) else (some y142))) else (none)))
theorem spec_l05Put.mono : ∀ a0 a1 a2 a3 k, LeO (spec_l05Put.f k a0 a1 a2 a3) (spec_l05Put.f (k + 1) a0 a1 a2 a3) := by
 intro a0 a1 a2 a3 k
 unfold spec_l05Put.f
 repeat' first
   | (with_reducible exact spec_l05CopyBufs.mono _ _)
   | (with_reducible exact LeO.refl _)
   | (with_reducible exact LeO.none _)
   | (with_reducible refine LeO.ite ?_ ?_)
   | (with_reducible refine LeO.bind ?_ (fun _ => ?_))
   | exact spec_l05CopyBufs.mono _ _
   | refine LeO.bind ?_ (fun _ => ?_)
set_option maxHeartbeats 8000000 in
set_option maxRecDepth 100000 in
theorem spec_l05Put.calls (k : Nat) (A0 : Option Addr) (c0 : Nat) (l0 : List (S39)) (A1_0 : Option Addr) (c1_0 : Nat) (l1_0 : List Int) (a1_1 : Int) (a1_2 : Int) (r : List (S39)) (w : World) (hr0 : Kd.C k39 w A0 l0.length l0) (hc0 : l0.length ≤ c0) (hr1_0 : Kd.C (Kd.int .i64) w A1_0 l1_0.length l1_0) (hc1_0 : l1_0.length ≤ c1_0) (h : spec_l05Put.f k l0 l1_0 a1_1 a1_2 = some r) :
  Calls Try.prog 61 #[.slice A0 l0.length c0, .agg #[.slice A1_0 l1_0.length c1_0, .int .i64 a1_1, .int .i64 a1_2]] w fun e w' => ∃ v0_ : Value, e = .returned (v0_) ∧ Kd.T k39 39 w' w.heap.size (fun _ => True) v0_ r ∧ Below w.heap.size w w' := by
 have hu39 := Try.underlying39
 have HR0 := am hr0
 have HC0 := am hc0
 clear hr0 hc0
 have HR1_0 := am hr1_0
 have HC1_0 := am hc1_0
 clear hr1_0 hc1_0
 have HB := am (Below.refl w.heap.size w)
 have H : ((spec_l05CopyBufs.f k l0).bind fun t134 => ((spec_l02Copy.f l1_0 a1_1 a1_2).bind fun bt137 => (if t134.length < 3518437208883 then ((some (t134 ++ [(⟨bt137.1, bt137.2.1, bt137.2.2⟩ : S39)] : List (S39))).bind fun y142 => (if (y142.length : Int) > 20 then (if 1 ≤ (y142.length : Int) then (some (y142.drop (1 : Int).toNat)) else (none)) else (some y142))) else (none)))) = some r := h
 clear h
 replace H := Option.bind_eq_some_iff.mp H
 obtain ⟨t134, A30, H⟩ := H
 replace H : ((spec_l02Copy.f l1_0 a1_1 a1_2).bind fun bt137 => (if t134.length < 3518437208883 then ((some (t134 ++ [(⟨bt137.1, bt137.2.1, bt137.2.2⟩ : S39)] : List (S39))).bind fun y142 => (if (y142.length : Int) > 20 then (if 1 ≤ (y142.length : Int) then (some (y142.drop (1 : Int).toNat)) else (none)) else (some y142))) else (none))) = some r := H
 have A3 := Aside0.mk A30
 clear A30
 replace H := Option.bind_eq_some_iff.mp H
 obtain ⟨⟨t137, t140, t141⟩, A40, H⟩ := H
 replace H : (if t134.length < 3518437208883 then ((some (t134 ++ [(⟨t137, t140, t141⟩ : S39)] : List (S39))).bind fun y142 => (if (y142.length : Int) > 20 then (if 1 ≤ (y142.length : Int) then (some (y142.drop (1 : Int).toNat)) else (none)) else (some y142))) else (none)) = some r := H
 have A4 := Aside0.mk A40
 clear A40
 by_cases c5 : t134.length < 3518437208883
 ·rw [if_pos c5] at H
  have LMc5 := Aside0.mk c5
  clear c5
  obtain ⟨y142, hy142⟩ : ∃ y_ : List (S39), y_ = (t134 ++ [(⟨t137, t140, t141⟩ : S39)]) := ⟨_, rfl⟩
  replace H : (if (y142.length : Int) > 20 then (if 1 ≤ (y142.length : Int) then (some (y142.drop (1 : Int).toNat)) else (none)) else (some y142)) = some r := by first | (rw [hy142]; with_reducible exact H) | (have H2_ := (Option.bind_some _ _).symm.trans H; rw [hy142]; with_reducible exact H2_) | (have H2_ := (Option.bind_some _ _).symm.trans H; with_reducible exact H2_) | with_reducible exact H | (rw [hy142]; exact H) | exact H
  have Ny142 := am hy142
  clear hy142
  by_cases c6 : (y142.length : Int) > 20
  ·rw [if_pos c6] at H
   have c6b0 : decide (20 < (y142.length : Int)) = true := decide_eq_true c6
   have c6b1 : decide (20 < y142.length) = true := decide_eq_true (by omega)
   clear c6
   by_cases c7 : 1 ≤ (y142.length : Int)
   ·rw [if_pos c7] at H
    have c7b0 := eq_true c7
    have c7b1 : decide (1 ≤ (y142.length : Int)) = true := decide_eq_true c7
    clear c7
    obtain ⟨y145, hy145⟩ : ∃ y_ : List (S39), y_ = (y142.drop (1 : Int).toNat) := ⟨_, rfl⟩
    replace H : (some y145) = some r := by first | (rw [hy145]; with_reducible exact H) | (have H2_ := (Option.bind_some _ _).symm.trans H; rw [hy145]; with_reducible exact H2_) | (have H2_ := (Option.bind_some _ _).symm.trans H; with_reducible exact H2_) | with_reducible exact H | (rw [hy145]; exact H) | exact H
    have Ny145 := am hy145
    clear hy145
    obtain rfl := Option.some.inj H
    go_enter Try.func61, Try.ntmps61
    try go_wp2_with (first | ((with_reducible refine gate_dst (N := 3) rfl ?_); refine box_event ?hg (N := 3) ?hd (cs := #[.slice A1_0 l1_0.length c1_0, .int .i64 a1_1, .int .i64 a1_2]) (t := 39) ?hr ?_; (case hd => rfl); (case hg => rfl); (case hr => first | (go_simp; done) | (go_simp; rfl)); intro gb133 hg w8 hbox hb; have BK133 := am (hbox); have GW133 := am ((by rw [hg]; exact (below_size (bl HB.out)) : w.heap.size ≤ gb133)); have GE133 := GW133; replace HB := am (below_step (bl HB.out) hb); clear hb hbox hg))
    replace BK133 := am (blk_drew BK133.out)
    replace HB := am (below_drew1 HB.out)
    refine start_ (n := 7) (S := fun w' => w'.cell? ⟨gb133, 0, none⟩ = some (.slice A1_0 l1_0.length c1_0) ∧ w'.cell? ⟨gb133, 1, none⟩ = some (.int .i64 a1_1) ∧ w'.cell? ⟨gb133, 2, none⟩ = some (.int .i64 a1_2)) (ds := []) b61_0 (by kernel_rfl) rfl rfl ⟨bc BK133.out 0, bc BK133.out 1, bc BK133.out 2⟩ (fun hHeld => ?_)
    generalize w8.drew = w9 at BK133 HB hHeld ⊢
    refine pure_ (i := 0) (N := some 6) (v := ?_) (a' := ?_) b61_1 rfl rfl (by kernel_rfl) (fun _ _ _ h => h) (Or.inl ⟨by rfl, ?_⟩) ?_ ?_; rotate_left
    ·intro w'; go_simp; with_reducible rfl
    rotate_left
    ·simp only [Act.put, sa_, s0_, ss_, i64_w, i32_w]; rfl
    refine take_ (i := 2) (N := some 8) (v := ?_) (a' := ?_) b61_2 rfl rfl (by kernel_rfl) (fun _ _ _ h => h) (Or.inl ⟨by rfl, ?_⟩) hHeld ?_ ?_; rotate_left
    ·rintro w' ⟨s0, s1, s2⟩; go_simp; with_reducible rfl
    rotate_left
    ·simp only [Act.put, sa_, s0_, ss_, i64_w, i32_w]; rfl
    refine one_ (i := 1) (N := some 7) b61_3 rfl rfl (by kernel_rfl) (by decide) (fun K hK => ?_)
    refine gs_ Try.func60 #[.slice A0 l0.length c0] ?_
    with_reducible refine (spec_l05CopyBufs.calls k _ _ l0 t134 _ ?side1 ?side2 A3.out).mono ?_
    (case side1 => repeat (first | exact (Kd.C_below HR0.out HB.out) | (with_reducible refine Kd.C_alloc ?_ _) | (with_reducible refine Kd.C_drewN ?_ _) | (with_reducible refine Kd.C_drew ?_)))
    (case side2 => exact HC0.out)
    rintro e w10 ⟨v135, rfl, ho0, hb⟩
    refine ⟨_, rfl, ?_⟩
    have HO136 := am (Kd.S_lower (Kd.S_newB ho0 (g := gb133) (o := .cells #[.slice A1_0 l1_0.length c1_0, .int .i64 a1_1, .int .i64 a1_2] 39 (0, 0)) (pk BK133.out)) (below_size (bl HB.out)))
    replace BK133 := am (blk_below (pk BK133.out) hb)
    replace HB := am (below_step (bl HB.out) hb)
    (try clear hb)
    (try clear hb2)
    (try clear hk)
    (try clear hi)
    (try clear ho0)
    refine hK.out _ _ ⟨bc BK133.out 0, bc BK133.out 1, bc BK133.out 2⟩ (fun hHeld => ?_)
    clear hK K
    refine norm_ (a' := ?_) ?_ ?_
    rotate_left
    ·show Act.put _ (some 7) _ = _
     simp only [Act.put, sa_, s0_, ss_, i64_w, i32_w]
     rfl
    refine one_ (i := 3) (N := some 9) b61_4 rfl rfl (by kernel_rfl) (by decide) (fun K hK => ?_)
    refine gs_ Try.func62 #[.agg #[.slice A1_0 l1_0.length c1_0, .int .i64 a1_1, .int .i64 a1_2]] ?_
    with_reducible refine (spec_l02Copy.calls _ _ l1_0 a1_1 a1_2 t137 t140 t141 _ ?side1 ?side2 A4.out).mono ?_
    (case side1 => repeat (first | exact (Kd.C_below HR1_0.out HB.out) | (with_reducible refine Kd.C_alloc ?_ _) | (with_reducible refine Kd.C_drewN ?_ _) | (with_reducible refine Kd.C_drew ?_)))
    (case side2 => exact HC1_0.out)
    rintro e w11 ⟨v138, rfl, ho0, hb⟩
    refine ⟨_, rfl, ?_⟩
    replace HO136 := am (Kd.S_elder' (ks HO136.out) (Kd.R_base ho0) hb)
    have HO139 := am (Kd.R_lower ho0 (below_size (bl HB.out)))
    replace BK133 := am (blk_below (pk BK133.out) hb)
    replace HB := am (below_step (bl HB.out) hb)
    (try clear hb)
    (try clear hb2)
    (try clear hk)
    (try clear hi)
    (try clear ho0)
    obtain ⟨Ao13, co13, eo13⟩ := Kd.R_slice HO139.out
    (first | subst eo13 | (injection eo13 with f1_ f2_ f3_; have f4_ := f1_.symm; have f5_ := f3_.symm; clear f1_ f2_ f3_; subst f4_; subst f5_))
    refine hK.out _ _ ⟨bc BK133.out 0, bc BK133.out 1, bc BK133.out 2⟩ (fun hHeld => ?_)
    clear hK K
    refine norm_ (a' := ?_) ?_ ?_
    rotate_left
    ·show Act.put _ (some 9) _ = _
     simp only [Act.put, sa_, s0_, ss_, i64_w, i32_w]
     rfl
    refine one_ (i := 4) (N := some 10) b61_5 rfl rfl (by kernel_rfl) (by decide) (fun K hK => ?_)
    refine value_ (w1 := ?_) (v := ?_) (by rfl) rfl ?_ ?_
    rotate_left 2
    ·go_simp
     constructor
     ·rfl
     ·rfl
    refine hK.out _ _ ⟨(blk_cell (blk_alloc BK133.out _) 0).trans rfl, (blk_cell (blk_alloc BK133.out _) 1).trans rfl, (blk_cell (blk_alloc BK133.out _) 2).trans rfl⟩ (fun hHeld => ?_)
    clear hK K
    refine norm_ (a' := ?_) ?_ ?_
    rotate_left
    ·show Act.put _ (some 10) _ = _
     simp only [Act.put, sa_, s0_, ss_, i64_w, i32_w]
     rfl
    refine one_ (i := 5) (N := some 11) b61_6 rfl rfl (by kernel_rfl) (by decide) (fun K hK => ?_)
    refine Kd.S_append_step k39 (w0 := w) w.heap.size (by rfl) (.tmp 7) (.tmp 10) 34 39 (.agg #[(.slice none 0 0), (.int .i64 0), (.int .i64 0)]) 40 rfl Try.underlying34 info39 rfl (by decide) (by omega) v135 t134 (⟨t137, t140, t141⟩ : S39) [.slice Ao13 t137.length co13, .int .i64 t140, .int .i64 t141] (fun k_ => k_ ≠ gb133) (fun k_ => some k_ = (.slice Ao13 t137.length co13 : Value).ownBlock) rfl rfl ?aP (fun k_ hk_ => ((Kd.R_mono (ok' := fun k_ => ((fun k_ => k_ ≠ gb133)) k_ ∧ some k_ ≠ (v135 : Value).ownBlock) (Kd.R_types (Kd.R_apart' (HO139.out) (Kd.S_typed HO136.out) (by decide)) BK133.out (by decide)) (fun k_ hk => ⟨hk.2, hk.1.2⟩))).1 k_ hk_.symm) ?aF ?aO ?aB ?aS ?aL ?_
    (case aP => exact k39_mkM _ _ _ (⟨t137, t140, t141⟩ : S39) (Kd.R_mono (Kd.R_tight rfl (Kd.R_mono (ok' := fun k_ => ((fun k_ => k_ ≠ gb133)) k_ ∧ some k_ ≠ (v135 : Value).ownBlock) (Kd.R_types (Kd.R_apart' (HO139.out) (Kd.S_typed HO136.out) (by decide)) BK133.out (by decide)) (fun k_ hk => ⟨hk.2, hk.1.2⟩))) (fun _ h_ => h_)))
    (case aB => exact (bl HB.out))
    (case aF => exact (fun k_ hk => Kd.freshB (g := gb133) (o := .cells #[.slice A1_0 l1_0.length c1_0, .int .i64 a1_1, .int .i64 a1_2] 39 (0, 0)) (pk BK133.out) k_ hk))
    (case aO => exact (ks (Kd.S_mono HO136.out (fun k_ hk => ⟨hk.1.2, fun e_ => hk.2 e_⟩))))
    (case aS => exact (below_size (bl HB.out)))
    (case aL => have := LMc5.out; omega)
    intro v143 w12 ho hb hg hat
    rw [← Ny142.out] at ho
    replace BK133 := am (blk_grown (g := gb133) (o := .cells #[.slice A1_0 l1_0.length c1_0, .int .i64 a1_1, .int .i64 a1_2] 39 (0, 0)) (pk BK133.out) hg (Kd.S_away HO136.out (fun _ hk => hk.1.2)))
    replace HB := am (hb)
    have HO144 := am (ho)
    clear HO136 HO139 ho hb hg hat
    refine hK.out _ _ ⟨bc BK133.out 0, bc BK133.out 1, bc BK133.out 2⟩ (fun hHeld => ?_)
    clear hK K
    refine norm_ (a' := ?_) ?_ ?_
    rotate_left
    ·show Act.put _ (some 11) _ = _
     simp only [Act.put, sa_, s0_, ss_, i64_w, i32_w]
     rfl
    refine pure_ (i := 6) (N := some 5) (v := ?_) (a' := ?_) b61_7 rfl rfl (by kernel_rfl) (fun _ _ _ h => h) (Or.inl ⟨by rfl, ?_⟩) ?_ ?_; rotate_left
    ·intro w'; go_simp; with_reducible rfl
    rotate_left
    ·simp only [Act.put, sa_, s0_, ss_, i64_w, i32_w]; rfl
    refine done_ (by kernel_rfl) ?_
    obtain ⟨Ao14, co14, eo14⟩ := Kd.S_slice HO144.out
    subst eo14
    have q15 : (1 : Int) ≤ ((y142.length : Int) : Int) := of_decide_eq_true (by first | (with_reducible assumption) | assumption)
    obtain ⟨i015, hi015, _, hsz15, _⟩ := info_parts info39
    have hcut15 := cut_from (P := Try.prog) 34 39 .i64 Try.underlying34 hi015 3 hsz15 Ao14 y142.length co14 1 (by omega) q15
    have hr15 := Kd.T_drop (k := (1 : Int).toNat) (Kd.T_of_S HO144.out) (by omega)
    obtain ⟨A15, hA15⟩ : ∃ A1, A1 = (if co14 = (1 : Int).toNat then Ao14 else (Ao14 : Option Addr).map (·.add ((1 : Int).toNat * 3))) := ⟨_, rfl⟩
    obtain ⟨c15, hc15⟩ : ∃ c1, c1 = co14 - (1 : Int).toNat := ⟨_, rfl⟩
    have hy15 : y145.length = y142.length - (1 : Int).toNat := (by rw [Ny145.out, List.length_drop])
    rw [← Ny145.out] at hr15
    rw [← hy15, ← hA15, ← hc15] at hcut15
    replace hr15 : Kd.T k39 39 w12 w.heap.size (fun k_ => k_ ≠ gb133) (.slice A15 y145.length c15) y145 := (by rw [hA15, hc15, hy15]; exact hr15)
    have HE15 : Aside0 ((Value.slice A15 y145.length c15).ownBlock = (.slice Ao14 y142.length co14 : Value).ownBlock) := ⟨by rw [hA15]; split <;> (cases (Ao14 : Option Addr) <;> first | rfl | (simp only [Value.ownBlock, Option.map_some, Addr.add]; split <;> rfl))⟩
    clear hy15 hi015 hsz15 HO144 hA15 hc15
    have HO147 := am hr15
    clear hr15
    replace q15 := eq_true q15
    try go_wp2
    go_ret
    exact ⟨_, by first | rfl | (simp [errW_none, errW_some] <;> rfl) | (simp [*, errW_none, errW_some] <;> rfl), by (with_reducible repeat (first | apply Kd.T_alloc | apply Kd.T_drewN | apply Kd.T_drew)); exact Kd.T_mono HO147.out (fun _ hk => trivial), by repeat (first | (with_reducible first | exact HB.out | apply below_alloc | apply pw_below_drewN | apply below_drew1 | refine below_set ?_ GE133.out) | exact HB.out)⟩
   ·rw [if_neg c7] at H
    exact absurd H (by simp)
  ·rw [if_neg c6] at H
   have c6b0 : decide (20 < (y142.length : Int)) = false := decide_eq_false c6
   have c6b1 : decide (20 < y142.length) = false := decide_eq_false (by omega)
   clear c6
   obtain rfl := Option.some.inj H
   go_enter Try.func61, Try.ntmps61
   try go_wp2_with (first | ((with_reducible refine gate_dst (N := 3) rfl ?_); refine box_event ?hg (N := 3) ?hd (cs := #[.slice A1_0 l1_0.length c1_0, .int .i64 a1_1, .int .i64 a1_2]) (t := 39) ?hr ?_; (case hd => rfl); (case hg => rfl); (case hr => first | (go_simp; done) | (go_simp; rfl)); intro gb133 hg w16 hbox hb; have BK133 := am (hbox); have GW133 := am ((by rw [hg]; exact (below_size (bl HB.out)) : w.heap.size ≤ gb133)); have GE133 := GW133; replace HB := am (below_step (bl HB.out) hb); clear hb hbox hg))
   replace BK133 := am (blk_drew BK133.out)
   replace HB := am (below_drew1 HB.out)
   refine start_ (n := 7) (S := fun w' => w'.cell? ⟨gb133, 0, none⟩ = some (.slice A1_0 l1_0.length c1_0) ∧ w'.cell? ⟨gb133, 1, none⟩ = some (.int .i64 a1_1) ∧ w'.cell? ⟨gb133, 2, none⟩ = some (.int .i64 a1_2)) (ds := []) b61_0 (by kernel_rfl) rfl rfl ⟨bc BK133.out 0, bc BK133.out 1, bc BK133.out 2⟩ (fun hHeld => ?_)
   generalize w16.drew = w17 at BK133 HB hHeld ⊢
   refine pure_ (i := 0) (N := some 6) (v := ?_) (a' := ?_) b61_1 rfl rfl (by kernel_rfl) (fun _ _ _ h => h) (Or.inl ⟨by rfl, ?_⟩) ?_ ?_; rotate_left
   ·intro w'; go_simp; with_reducible rfl
   rotate_left
   ·simp only [Act.put, sa_, s0_, ss_, i64_w, i32_w]; rfl
   refine take_ (i := 2) (N := some 8) (v := ?_) (a' := ?_) b61_2 rfl rfl (by kernel_rfl) (fun _ _ _ h => h) (Or.inl ⟨by rfl, ?_⟩) hHeld ?_ ?_; rotate_left
   ·rintro w' ⟨s0, s1, s2⟩; go_simp; with_reducible rfl
   rotate_left
   ·simp only [Act.put, sa_, s0_, ss_, i64_w, i32_w]; rfl
   refine one_ (i := 1) (N := some 7) b61_3 rfl rfl (by kernel_rfl) (by decide) (fun K hK => ?_)
   refine gs_ Try.func60 #[.slice A0 l0.length c0] ?_
   with_reducible refine (spec_l05CopyBufs.calls k _ _ l0 t134 _ ?side1 ?side2 A3.out).mono ?_
   (case side1 => repeat (first | exact (Kd.C_below HR0.out HB.out) | (with_reducible refine Kd.C_alloc ?_ _) | (with_reducible refine Kd.C_drewN ?_ _) | (with_reducible refine Kd.C_drew ?_)))
   (case side2 => exact HC0.out)
   rintro e w18 ⟨v135, rfl, ho0, hb⟩
   refine ⟨_, rfl, ?_⟩
   have HO136 := am (Kd.S_lower (Kd.S_newB ho0 (g := gb133) (o := .cells #[.slice A1_0 l1_0.length c1_0, .int .i64 a1_1, .int .i64 a1_2] 39 (0, 0)) (pk BK133.out)) (below_size (bl HB.out)))
   replace BK133 := am (blk_below (pk BK133.out) hb)
   replace HB := am (below_step (bl HB.out) hb)
   (try clear hb)
   (try clear hb2)
   (try clear hk)
   (try clear hi)
   (try clear ho0)
   refine hK.out _ _ ⟨bc BK133.out 0, bc BK133.out 1, bc BK133.out 2⟩ (fun hHeld => ?_)
   clear hK K
   refine norm_ (a' := ?_) ?_ ?_
   rotate_left
   ·show Act.put _ (some 7) _ = _
    simp only [Act.put, sa_, s0_, ss_, i64_w, i32_w]
    rfl
   refine one_ (i := 3) (N := some 9) b61_4 rfl rfl (by kernel_rfl) (by decide) (fun K hK => ?_)
   refine gs_ Try.func62 #[.agg #[.slice A1_0 l1_0.length c1_0, .int .i64 a1_1, .int .i64 a1_2]] ?_
   with_reducible refine (spec_l02Copy.calls _ _ l1_0 a1_1 a1_2 t137 t140 t141 _ ?side1 ?side2 A4.out).mono ?_
   (case side1 => repeat (first | exact (Kd.C_below HR1_0.out HB.out) | (with_reducible refine Kd.C_alloc ?_ _) | (with_reducible refine Kd.C_drewN ?_ _) | (with_reducible refine Kd.C_drew ?_)))
   (case side2 => exact HC1_0.out)
   rintro e w19 ⟨v138, rfl, ho0, hb⟩
   refine ⟨_, rfl, ?_⟩
   replace HO136 := am (Kd.S_elder' (ks HO136.out) (Kd.R_base ho0) hb)
   have HO139 := am (Kd.R_lower ho0 (below_size (bl HB.out)))
   replace BK133 := am (blk_below (pk BK133.out) hb)
   replace HB := am (below_step (bl HB.out) hb)
   (try clear hb)
   (try clear hb2)
   (try clear hk)
   (try clear hi)
   (try clear ho0)
   obtain ⟨Ao21, co21, eo21⟩ := Kd.R_slice HO139.out
   (first | subst eo21 | (injection eo21 with f1_ f2_ f3_; have f4_ := f1_.symm; have f5_ := f3_.symm; clear f1_ f2_ f3_; subst f4_; subst f5_))
   refine hK.out _ _ ⟨bc BK133.out 0, bc BK133.out 1, bc BK133.out 2⟩ (fun hHeld => ?_)
   clear hK K
   refine norm_ (a' := ?_) ?_ ?_
   rotate_left
   ·show Act.put _ (some 9) _ = _
    simp only [Act.put, sa_, s0_, ss_, i64_w, i32_w]
    rfl
   refine one_ (i := 4) (N := some 10) b61_5 rfl rfl (by kernel_rfl) (by decide) (fun K hK => ?_)
   refine value_ (w1 := ?_) (v := ?_) (by rfl) rfl ?_ ?_
   rotate_left 2
   ·go_simp
    constructor
    ·rfl
    ·rfl
   refine hK.out _ _ ⟨(blk_cell (blk_alloc BK133.out _) 0).trans rfl, (blk_cell (blk_alloc BK133.out _) 1).trans rfl, (blk_cell (blk_alloc BK133.out _) 2).trans rfl⟩ (fun hHeld => ?_)
   clear hK K
   refine norm_ (a' := ?_) ?_ ?_
   rotate_left
   ·show Act.put _ (some 10) _ = _
    simp only [Act.put, sa_, s0_, ss_, i64_w, i32_w]
    rfl
   refine one_ (i := 5) (N := some 11) b61_6 rfl rfl (by kernel_rfl) (by decide) (fun K hK => ?_)
   refine Kd.S_append_step k39 (w0 := w) w.heap.size (by rfl) (.tmp 7) (.tmp 10) 34 39 (.agg #[(.slice none 0 0), (.int .i64 0), (.int .i64 0)]) 40 rfl Try.underlying34 info39 rfl (by decide) (by omega) v135 t134 (⟨t137, t140, t141⟩ : S39) [.slice Ao21 t137.length co21, .int .i64 t140, .int .i64 t141] (fun k_ => k_ ≠ gb133) (fun k_ => some k_ = (.slice Ao21 t137.length co21 : Value).ownBlock) rfl rfl ?aP (fun k_ hk_ => ((Kd.R_mono (ok' := fun k_ => ((fun k_ => k_ ≠ gb133)) k_ ∧ some k_ ≠ (v135 : Value).ownBlock) (Kd.R_types (Kd.R_apart' (HO139.out) (Kd.S_typed HO136.out) (by decide)) BK133.out (by decide)) (fun k_ hk => ⟨hk.2, hk.1.2⟩))).1 k_ hk_.symm) ?aF ?aO ?aB ?aS ?aL ?_
   (case aP => exact k39_mkM _ _ _ (⟨t137, t140, t141⟩ : S39) (Kd.R_mono (Kd.R_tight rfl (Kd.R_mono (ok' := fun k_ => ((fun k_ => k_ ≠ gb133)) k_ ∧ some k_ ≠ (v135 : Value).ownBlock) (Kd.R_types (Kd.R_apart' (HO139.out) (Kd.S_typed HO136.out) (by decide)) BK133.out (by decide)) (fun k_ hk => ⟨hk.2, hk.1.2⟩))) (fun _ h_ => h_)))
   (case aB => exact (bl HB.out))
   (case aF => exact (fun k_ hk => Kd.freshB (g := gb133) (o := .cells #[.slice A1_0 l1_0.length c1_0, .int .i64 a1_1, .int .i64 a1_2] 39 (0, 0)) (pk BK133.out) k_ hk))
   (case aO => exact (ks (Kd.S_mono HO136.out (fun k_ hk => ⟨hk.1.2, fun e_ => hk.2 e_⟩))))
   (case aS => exact (below_size (bl HB.out)))
   (case aL => have := LMc5.out; omega)
   intro v143 w20 ho hb hg hat
   rw [← Ny142.out] at ho
   replace BK133 := am (blk_grown (g := gb133) (o := .cells #[.slice A1_0 l1_0.length c1_0, .int .i64 a1_1, .int .i64 a1_2] 39 (0, 0)) (pk BK133.out) hg (Kd.S_away HO136.out (fun _ hk => hk.1.2)))
   replace HB := am (hb)
   have HO144 := am (ho)
   clear HO136 HO139 ho hb hg hat
   refine hK.out _ _ ⟨bc BK133.out 0, bc BK133.out 1, bc BK133.out 2⟩ (fun hHeld => ?_)
   clear hK K
   refine norm_ (a' := ?_) ?_ ?_
   rotate_left
   ·show Act.put _ (some 11) _ = _
    simp only [Act.put, sa_, s0_, ss_, i64_w, i32_w]
    rfl
   refine pure_ (i := 6) (N := some 5) (v := ?_) (a' := ?_) b61_7 rfl rfl (by kernel_rfl) (fun _ _ _ h => h) (Or.inl ⟨by rfl, ?_⟩) ?_ ?_; rotate_left
   ·intro w'; go_simp; with_reducible rfl
   rotate_left
   ·simp only [Act.put, sa_, s0_, ss_, i64_w, i32_w]; rfl
   refine done_ (by kernel_rfl) ?_
   obtain ⟨Ao22, co22, eo22⟩ := Kd.S_slice HO144.out
   subst eo22
   try go_wp2
   go_ret
   exact ⟨_, by first | rfl | (simp [errW_none, errW_some] <;> rfl) | (simp [*, errW_none, errW_some] <;> rfl), Kd.T_of_S (ks (Kd.S_mono HO144.out (fun _ hk => trivial))), by repeat (first | (with_reducible first | exact HB.out | apply below_alloc | apply pw_below_drewN | apply below_drew1 | refine below_set ?_ GE133.out) | exact HB.out)⟩
 ·rw [if_neg c5] at H
  exact absurd H (by simp)

end Go.Proofs.Ytfkghjdhimhjjaa.PFnExactUndoBack
