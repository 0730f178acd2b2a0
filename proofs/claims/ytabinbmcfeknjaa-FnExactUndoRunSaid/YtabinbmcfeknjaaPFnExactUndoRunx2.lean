-- Written by xprint.py (this claim's own program, over the kit's printer); Lean checks it.
import Derived.Test.YtabinbmcfeknjaaPFnExactUndoRunx0
import Derived.Test.YtabinbmcfeknjaaPFnExactUndoRunx1
namespace Go.Proofs.Ytabinbmcfeknjaa.PFnExactUndoRun
open Go.RowKit Go.Proofs.YtabinbmcfeknjaaW.PrintWords Go.Proofs.YtabinbmcfeknjaaW.PrintLast Go.Proofs.YtabinbmcfeknjaaW.PrintMore
attribute [local go_sem] max2_int min2_int max_two min_two max_three min_three max_four min_four   -- for this text's walks alone
set_option linter.unusedVariables false
set_option linter.unusedSimpArgs false   -- squeezed
set_option maxHeartbeats 8000000
set_option maxRecDepth 100000

/-! ### spec_l05Put: function 44 -/
@[reducible] def b44_0 : Array Bool := (br true [0, 7]).toArray
@[reducible] def b44_1 : Array Bool := (br true [1, 6]).toArray
@[reducible] def b44_2 : Array Bool := (br true [1, 1, 1, 4]).toArray
@[reducible] def b44_3 : Array Bool := (br true [3, 4]).toArray
@[reducible] def b44_4 : Array Bool := (br true [4, 3]).toArray
@[reducible] def b44_5 : Array Bool := (br true [5, 2]).toArray
@[reducible] def b44_6 : Array Bool := (br true [6, 1]).toArray
@[reducible] def b44_7 : Array Bool := (br true [7]).toArray
def spec_l05Put.f (k : Nat) (l0 : List (S31)) (l1_0 : List Int) (a1_1 : Int) (a1_2 : Int) : Option ((List (S31))) := (spec_l05CopyBufs.f k l0).bind fun t138 => ((spec_l02Copy.f l1_0 a1_1 a1_2).bind fun bt141 => (if t138.length < 3518437208883 then ((some (t138 ++ [(⟨bt141.1, bt141.2.1, bt141.2.2⟩ : S31)] : List (S31))).bind fun y146 => (if (y146.length : Int) > 20 then (if 1 ≤ (y146.length : Int) then (some (y146.drop (1 : Int).toNat)) else (none)) else (some y146))) else (none)))
theorem spec_l05Put.calls (k : Nat) (A0 : Option Addr) (c0 : Nat) (l0 : List (S31)) (A1_0 : Option Addr) (c1_0 : Nat) (l1_0 : List Int) (a1_1 : Int) (a1_2 : Int) (r : List (S31)) (w : World) (hr0 : Kd.C k31 w A0 l0.length l0) (hc0 : l0.length ≤ c0) (hr1_0 : Kd.C (Kd.int .i64) w A1_0 l1_0.length l1_0) (hc1_0 : l1_0.length ≤ c1_0) (h : spec_l05Put.f k l0 l1_0 a1_1 a1_2 = some r) :
  Calls Try.prog 44 #[.slice A0 l0.length c0, .agg #[.slice A1_0 l1_0.length c1_0, .int .i64 a1_1, .int .i64 a1_2]] w fun e w' => ∃ v0_ : Value, e = .returned (v0_) ∧ Kd.T k31 31 w' w.heap.size (fun _ => True) v0_ r ∧ Below w.heap.size w w' := by
 have hu31 := Try.underlying31
 have HR0 := am hr0
 have HC0 := am hc0
 clear hr0 hc0
 have HR1_0 := am hr1_0
 have HC1_0 := am hc1_0
 clear hr1_0 hc1_0
 have HB := am (Below.refl w.heap.size w)
 have H : ((spec_l05CopyBufs.f k l0).bind fun t138 => ((spec_l02Copy.f l1_0 a1_1 a1_2).bind fun bt141 => (if t138.length < 3518437208883 then ((some (t138 ++ [(⟨bt141.1, bt141.2.1, bt141.2.2⟩ : S31)] : List (S31))).bind fun y146 => (if (y146.length : Int) > 20 then (if 1 ≤ (y146.length : Int) then (some (y146.drop (1 : Int).toNat)) else (none)) else (some y146))) else (none)))) = some r := h
 clear h
 replace H := Option.bind_eq_some_iff.mp H
 obtain ⟨t138, A30, H⟩ := H
 replace H : ((spec_l02Copy.f l1_0 a1_1 a1_2).bind fun bt141 => (if t138.length < 3518437208883 then ((some (t138 ++ [(⟨bt141.1, bt141.2.1, bt141.2.2⟩ : S31)] : List (S31))).bind fun y146 => (if (y146.length : Int) > 20 then (if 1 ≤ (y146.length : Int) then (some (y146.drop (1 : Int).toNat)) else (none)) else (some y146))) else (none))) = some r := H
 have A3 := Aside0.mk A30
 clear A30
 replace H := Option.bind_eq_some_iff.mp H
 obtain ⟨⟨t141, t144, t145⟩, A40, H⟩ := H
 replace H : (if t138.length < 3518437208883 then ((some (t138 ++ [(⟨t141, t144, t145⟩ : S31)] : List (S31))).bind fun y146 => (if (y146.length : Int) > 20 then (if 1 ≤ (y146.length : Int) then (some (y146.drop (1 : Int).toNat)) else (none)) else (some y146))) else (none)) = some r := H
 have A4 := Aside0.mk A40
 clear A40
 by_cases c5 : t138.length < 3518437208883
 ·rw [if_pos c5] at H
  have LMc5 := Aside0.mk c5
  clear c5
  obtain ⟨y146, hy146⟩ : ∃ y_ : List (S31), y_ = (t138 ++ [(⟨t141, t144, t145⟩ : S31)]) := ⟨_, rfl⟩
  replace H : (if (y146.length : Int) > 20 then (if 1 ≤ (y146.length : Int) then (some (y146.drop (1 : Int).toNat)) else (none)) else (some y146)) = some r := by first | (rw [hy146]; with_reducible exact H) | (have H2_ := (Option.bind_some _ _).symm.trans H; rw [hy146]; with_reducible exact H2_) | (have H2_ := (Option.bind_some _ _).symm.trans H; with_reducible exact H2_) | with_reducible exact H | (rw [hy146]; exact H) | exact H
  have Ny146 := am hy146
  clear hy146
  by_cases c6 : (y146.length : Int) > 20
  ·rw [if_pos c6] at H
   have c6b0 : decide (20 < (y146.length : Int)) = true := decide_eq_true c6
   have c6b1 : decide (20 < y146.length) = true := decide_eq_true (by omega)
   clear c6
   by_cases c7 : 1 ≤ (y146.length : Int)
   ·rw [if_pos c7] at H
    have c7b0 := eq_true c7
    have c7b1 : decide (1 ≤ (y146.length : Int)) = true := decide_eq_true c7
    clear c7
    obtain ⟨y149, hy149⟩ : ∃ y_ : List (S31), y_ = (y146.drop (1 : Int).toNat) := ⟨_, rfl⟩
    replace H : (some y149) = some r := by first | (rw [hy149]; with_reducible exact H) | (have H2_ := (Option.bind_some _ _).symm.trans H; rw [hy149]; with_reducible exact H2_) | (have H2_ := (Option.bind_some _ _).symm.trans H; with_reducible exact H2_) | with_reducible exact H | (rw [hy149]; exact H) | exact H
    have Ny149 := am hy149
    clear hy149
    obtain rfl := Option.some.inj H
    go_enter Try.func44, Try.ntmps44
    try go_wp2_with (first | ((with_reducible refine gate_dst (N := 3) rfl ?_); refine box_event ?hg (N := 3) ?hd (cs := #[.slice A1_0 l1_0.length c1_0, .int .i64 a1_1, .int .i64 a1_2]) (t := 31) ?hr ?_; (case hd => rfl); (case hg => rfl); (case hr => first | (go_simp; done) | (go_simp; rfl)); intro gb137 hg w8 hbox hb; have BK137 := am (hbox); have GW137 := am ((by rw [hg]; exact (below_size (bl HB.out)) : w.heap.size ≤ gb137)); have GE137 := GW137; replace HB := am (below_step (bl HB.out) hb); clear hb hbox hg))
    replace BK137 := am (blk_drew BK137.out)
    replace HB := am (below_drew1 HB.out)
    refine start_ (n := 7) (S := fun w' => w'.cell? ⟨gb137, 0, none⟩ = some (.slice A1_0 l1_0.length c1_0) ∧ w'.cell? ⟨gb137, 1, none⟩ = some (.int .i64 a1_1) ∧ w'.cell? ⟨gb137, 2, none⟩ = some (.int .i64 a1_2)) (ds := []) b44_0 (by kernel_rfl) rfl rfl ⟨bc BK137.out 0, bc BK137.out 1, bc BK137.out 2⟩ (fun hHeld => ?_)
    generalize w8.drew = w9 at BK137 HB hHeld ⊢
    refine pure_ (i := 0) (N := some 6) (v := ?_) (a' := ?_) b44_1 rfl rfl (by kernel_rfl) (fun _ _ _ h => h) (Or.inl ⟨by rfl, ?_⟩) ?_ ?_; rotate_left
    ·intro w'; go_simp; with_reducible rfl
    rotate_left
    ·simp only [Act.put, sa_, s0_, ss_, i64_w, i32_w]; rfl
    refine take_ (i := 2) (N := some 8) (v := ?_) (a' := ?_) b44_2 rfl rfl (by kernel_rfl) (fun _ _ _ h => h) (Or.inl ⟨by rfl, ?_⟩) hHeld ?_ ?_; rotate_left
    ·rintro w' ⟨s0, s1, s2⟩; go_simp; with_reducible rfl
    rotate_left
    ·simp only [Act.put, sa_, s0_, ss_, i64_w, i32_w]; rfl
    refine one_ (i := 1) (N := some 7) b44_3 rfl rfl (by kernel_rfl) (by decide) (fun K hK => ?_)
    refine gs_ Try.func43 #[.slice A0 l0.length c0] ?_
    with_reducible refine (spec_l05CopyBufs.calls k _ _ l0 t138 _ ?side1 ?side2 A3.out).mono ?_
    (case side1 => repeat (first | exact (Kd.C_below HR0.out HB.out) | (with_reducible refine Kd.C_alloc ?_ _) | (with_reducible refine Kd.C_drewN ?_ _) | (with_reducible refine Kd.C_drew ?_)))
    (case side2 => exact HC0.out)
    rintro e w10 ⟨v139, rfl, ho0, hb⟩
    refine ⟨_, rfl, ?_⟩
    have HO140 := am (Kd.S_lower (Kd.S_newB ho0 (g := gb137) (o := .cells #[.slice A1_0 l1_0.length c1_0, .int .i64 a1_1, .int .i64 a1_2] 31 (0, 0)) (pk BK137.out)) (below_size (bl HB.out)))
    replace BK137 := am (blk_below (pk BK137.out) hb)
    replace HB := am (below_step (bl HB.out) hb)
    (try clear hb)
    (try clear hb2)
    (try clear hk)
    (try clear hi)
    (try clear ho0)
    refine hK.out _ _ ⟨bc BK137.out 0, bc BK137.out 1, bc BK137.out 2⟩ (fun hHeld => ?_)
    clear hK K
    refine norm_ (a' := ?_) ?_ ?_
    rotate_left
    ·show Act.put _ (some 7) _ = _
     simp only [Act.put, sa_, s0_, ss_, i64_w, i32_w]
     rfl
    refine one_ (i := 3) (N := some 9) b44_4 rfl rfl (by kernel_rfl) (by decide) (fun K hK => ?_)
    refine gs_ Try.func20 #[.agg #[.slice A1_0 l1_0.length c1_0, .int .i64 a1_1, .int .i64 a1_2]] ?_
    with_reducible refine (spec_l02Copy.calls _ _ l1_0 a1_1 a1_2 t141 t144 t145 _ ?side1 ?side2 A4.out).mono ?_
    (case side1 => repeat (first | exact (Kd.C_below HR1_0.out HB.out) | (with_reducible refine Kd.C_alloc ?_ _) | (with_reducible refine Kd.C_drewN ?_ _) | (with_reducible refine Kd.C_drew ?_)))
    (case side2 => exact HC1_0.out)
    rintro e w11 ⟨v142, rfl, ho0, hb⟩
    refine ⟨_, rfl, ?_⟩
    replace HO140 := am (Kd.S_elder' (ks HO140.out) (Kd.R_base ho0) hb)
    have HO143 := am (Kd.R_lower ho0 (below_size (bl HB.out)))
    replace BK137 := am (blk_below (pk BK137.out) hb)
    replace HB := am (below_step (bl HB.out) hb)
    (try clear hb)
    (try clear hb2)
    (try clear hk)
    (try clear hi)
    (try clear ho0)
    obtain ⟨Ao13, co13, eo13⟩ := Kd.R_slice HO143.out
    (first | subst eo13 | (injection eo13 with f1_ f2_ f3_; have f4_ := f1_.symm; have f5_ := f3_.symm; clear f1_ f2_ f3_; subst f4_; subst f5_))
    refine hK.out _ _ ⟨bc BK137.out 0, bc BK137.out 1, bc BK137.out 2⟩ (fun hHeld => ?_)
    clear hK K
    refine norm_ (a' := ?_) ?_ ?_
    rotate_left
    ·show Act.put _ (some 9) _ = _
     simp only [Act.put, sa_, s0_, ss_, i64_w, i32_w]
     rfl
    refine one_ (i := 4) (N := some 10) b44_5 rfl rfl (by kernel_rfl) (by decide) (fun K hK => ?_)
    refine value_ (w1 := ?_) (v := ?_) (by rfl) rfl ?_ ?_
    rotate_left 2
    ·go_simp
     constructor
     ·rfl
     ·rfl
    refine hK.out _ _ ⟨(blk_cell (blk_alloc BK137.out _) 0).trans rfl, (blk_cell (blk_alloc BK137.out _) 1).trans rfl, (blk_cell (blk_alloc BK137.out _) 2).trans rfl⟩ (fun hHeld => ?_)
    clear hK K
    refine norm_ (a' := ?_) ?_ ?_
    rotate_left
    ·show Act.put _ (some 10) _ = _
     simp only [Act.put, sa_, s0_, ss_, i64_w, i32_w]
     rfl
    refine one_ (i := 5) (N := some 11) b44_6 rfl rfl (by kernel_rfl) (by decide) (fun K hK => ?_)
    refine Kd.S_append_step k31 (w0 := w) w.heap.size (by rfl) (.tmp 7) (.tmp 10) 28 31 (.agg #[(.slice none 0 0), (.int .i64 0), (.int .i64 0)]) 40 rfl Try.underlying28 info31 rfl (by decide) (by omega) v139 t138 (⟨t141, t144, t145⟩ : S31) [.slice Ao13 t141.length co13, .int .i64 t144, .int .i64 t145] (fun k_ => k_ ≠ gb137) (fun k_ => some k_ = (.slice Ao13 t141.length co13 : Value).ownBlock) rfl rfl ?aP (fun k_ hk_ => ((Kd.R_mono (ok' := fun k_ => ((fun k_ => k_ ≠ gb137)) k_ ∧ some k_ ≠ (v139 : Value).ownBlock) (Kd.R_types (Kd.R_apart' (HO143.out) (Kd.S_typed HO140.out) (by decide)) BK137.out (by decide)) (fun k_ hk => ⟨hk.2, hk.1.2⟩))).1 k_ hk_.symm) ?aF ?aO ?aB ?aS ?aL ?_
    (case aP => exact k31_mkM _ _ _ (⟨t141, t144, t145⟩ : S31) (Kd.R_mono (Kd.R_tight rfl (Kd.R_mono (ok' := fun k_ => ((fun k_ => k_ ≠ gb137)) k_ ∧ some k_ ≠ (v139 : Value).ownBlock) (Kd.R_types (Kd.R_apart' (HO143.out) (Kd.S_typed HO140.out) (by decide)) BK137.out (by decide)) (fun k_ hk => ⟨hk.2, hk.1.2⟩))) (fun _ h_ => h_)))
    (case aB => exact (bl HB.out))
    (case aF => exact (fun k_ hk => Kd.freshB (g := gb137) (o := .cells #[.slice A1_0 l1_0.length c1_0, .int .i64 a1_1, .int .i64 a1_2] 31 (0, 0)) (pk BK137.out) k_ hk))
    (case aO => exact (ks (Kd.S_mono HO140.out (fun k_ hk => ⟨hk.1.2, fun e_ => hk.2 e_⟩))))
    (case aS => exact (below_size (bl HB.out)))
    (case aL => have := LMc5.out; omega)
    intro v147 w12 ho hb hg hat
    rw [← Ny146.out] at ho
    replace BK137 := am (blk_grown (g := gb137) (o := .cells #[.slice A1_0 l1_0.length c1_0, .int .i64 a1_1, .int .i64 a1_2] 31 (0, 0)) (pk BK137.out) hg (Kd.S_away HO140.out (fun _ hk => hk.1.2)))
    replace HB := am (hb)
    have HO148 := am (ho)
    clear HO140 HO143 ho hb hg hat
    refine hK.out _ _ ⟨bc BK137.out 0, bc BK137.out 1, bc BK137.out 2⟩ (fun hHeld => ?_)
    clear hK K
    refine norm_ (a' := ?_) ?_ ?_
    rotate_left
    ·show Act.put _ (some 11) _ = _
     simp only [Act.put, sa_, s0_, ss_, i64_w, i32_w]
     rfl
    refine pure_ (i := 6) (N := some 5) (v := ?_) (a' := ?_) b44_7 rfl rfl (by kernel_rfl) (fun _ _ _ h => h) (Or.inl ⟨by rfl, ?_⟩) ?_ ?_; rotate_left
    ·intro w'; go_simp; with_reducible rfl
    rotate_left
    ·simp only [Act.put, sa_, s0_, ss_, i64_w, i32_w]; rfl
    refine done_ (by kernel_rfl) ?_
    obtain ⟨Ao14, co14, eo14⟩ := Kd.S_slice HO148.out
    subst eo14
    have q15 : (1 : Int) ≤ ((y146.length : Int) : Int) := of_decide_eq_true (by first | (with_reducible assumption) | assumption)
    obtain ⟨i015, hi015, _, hsz15, _⟩ := info_parts info31
    have hcut15 := cut_from (P := Try.prog) 28 31 .i64 Try.underlying28 hi015 3 hsz15 Ao14 y146.length co14 1 (by omega) q15
    have hr15 := Kd.T_drop (k := (1 : Int).toNat) (Kd.T_of_S HO148.out) (by omega)
    obtain ⟨A15, hA15⟩ : ∃ A1, A1 = (if co14 = (1 : Int).toNat then Ao14 else (Ao14 : Option Addr).map (·.add ((1 : Int).toNat * 3))) := ⟨_, rfl⟩
    obtain ⟨c15, hc15⟩ : ∃ c1, c1 = co14 - (1 : Int).toNat := ⟨_, rfl⟩
    have hy15 : y149.length = y146.length - (1 : Int).toNat := (by rw [Ny149.out, List.length_drop])
    rw [← Ny149.out] at hr15
    rw [← hy15, ← hA15, ← hc15] at hcut15
    replace hr15 : Kd.T k31 31 w12 w.heap.size (fun k_ => k_ ≠ gb137) (.slice A15 y149.length c15) y149 := (by rw [hA15, hc15, hy15]; exact hr15)
    have HE15 : Aside0 ((Value.slice A15 y149.length c15).ownBlock = (.slice Ao14 y146.length co14 : Value).ownBlock) := ⟨by rw [hA15]; split <;> (cases (Ao14 : Option Addr) <;> first | rfl | (simp only [Value.ownBlock, Option.map_some, Addr.add]; split <;> rfl))⟩
    clear hy15 hi015 hsz15 HO148 hA15 hc15
    have HO151 := am hr15
    clear hr15
    replace q15 := eq_true q15
    try go_wp2
    go_ret
    exact ⟨_, by first | rfl | (simp [errW_none, errW_some] <;> rfl) | (simp [*, errW_none, errW_some] <;> rfl), by (with_reducible repeat (first | apply Kd.T_alloc | apply Kd.T_drewN | apply Kd.T_drew)); exact Kd.T_mono HO151.out (fun _ hk => trivial), by repeat (first | (with_reducible first | exact HB.out | apply below_alloc | apply pw_below_drewN | apply below_drew1 | refine below_set ?_ GE137.out) | exact HB.out)⟩
   ·rw [if_neg c7] at H
    exact absurd H (by simp)
  ·rw [if_neg c6] at H
   have c6b0 : decide (20 < (y146.length : Int)) = false := decide_eq_false c6
   have c6b1 : decide (20 < y146.length) = false := decide_eq_false (by omega)
   clear c6
   obtain rfl := Option.some.inj H
   go_enter Try.func44, Try.ntmps44
   try go_wp2_with (first | ((with_reducible refine gate_dst (N := 3) rfl ?_); refine box_event ?hg (N := 3) ?hd (cs := #[.slice A1_0 l1_0.length c1_0, .int .i64 a1_1, .int .i64 a1_2]) (t := 31) ?hr ?_; (case hd => rfl); (case hg => rfl); (case hr => first | (go_simp; done) | (go_simp; rfl)); intro gb137 hg w16 hbox hb; have BK137 := am (hbox); have GW137 := am ((by rw [hg]; exact (below_size (bl HB.out)) : w.heap.size ≤ gb137)); have GE137 := GW137; replace HB := am (below_step (bl HB.out) hb); clear hb hbox hg))
   replace BK137 := am (blk_drew BK137.out)
   replace HB := am (below_drew1 HB.out)
   refine start_ (n := 7) (S := fun w' => w'.cell? ⟨gb137, 0, none⟩ = some (.slice A1_0 l1_0.length c1_0) ∧ w'.cell? ⟨gb137, 1, none⟩ = some (.int .i64 a1_1) ∧ w'.cell? ⟨gb137, 2, none⟩ = some (.int .i64 a1_2)) (ds := []) b44_0 (by kernel_rfl) rfl rfl ⟨bc BK137.out 0, bc BK137.out 1, bc BK137.out 2⟩ (fun hHeld => ?_)
   generalize w16.drew = w17 at BK137 HB hHeld ⊢
   refine pure_ (i := 0) (N := some 6) (v := ?_) (a' := ?_) b44_1 rfl rfl (by kernel_rfl) (fun _ _ _ h => h) (Or.inl ⟨by rfl, ?_⟩) ?_ ?_; rotate_left
   ·intro w'; go_simp; with_reducible rfl
   rotate_left
   ·simp only [Act.put, sa_, s0_, ss_, i64_w, i32_w]; rfl
   refine take_ (i := 2) (N := some 8) (v := ?_) (a' := ?_) b44_2 rfl rfl (by kernel_rfl) (fun _ _ _ h => h) (Or.inl ⟨by rfl, ?_⟩) hHeld ?_ ?_; rotate_left
   ·rintro w' ⟨s0, s1, s2⟩; go_simp; with_reducible rfl
   rotate_left
   ·simp only [Act.put, sa_, s0_, ss_, i64_w, i32_w]; rfl
   refine one_ (i := 1) (N := some 7) b44_3 rfl rfl (by kernel_rfl) (by decide) (fun K hK => ?_)
   refine gs_ Try.func43 #[.slice A0 l0.length c0] ?_
   with_reducible refine (spec_l05CopyBufs.calls k _ _ l0 t138 _ ?side1 ?side2 A3.out).mono ?_
   (case side1 => repeat (first | exact (Kd.C_below HR0.out HB.out) | (with_reducible refine Kd.C_alloc ?_ _) | (with_reducible refine Kd.C_drewN ?_ _) | (with_reducible refine Kd.C_drew ?_)))
   (case side2 => exact HC0.out)
   rintro e w18 ⟨v139, rfl, ho0, hb⟩
   refine ⟨_, rfl, ?_⟩
   have HO140 := am (Kd.S_lower (Kd.S_newB ho0 (g := gb137) (o := .cells #[.slice A1_0 l1_0.length c1_0, .int .i64 a1_1, .int .i64 a1_2] 31 (0, 0)) (pk BK137.out)) (below_size (bl HB.out)))
   replace BK137 := am (blk_below (pk BK137.out) hb)
   replace HB := am (below_step (bl HB.out) hb)
   (try clear hb)
   (try clear hb2)
   (try clear hk)
   (try clear hi)
   (try clear ho0)
   refine hK.out _ _ ⟨bc BK137.out 0, bc BK137.out 1, bc BK137.out 2⟩ (fun hHeld => ?_)
   clear hK K
   refine norm_ (a' := ?_) ?_ ?_
   rotate_left
   ·show Act.put _ (some 7) _ = _
    simp only [Act.put, sa_, s0_, ss_, i64_w, i32_w]
    rfl
   refine one_ (i := 3) (N := some 9) b44_4 rfl rfl (by kernel_rfl) (by decide) (fun K hK => ?_)
   refine gs_ Try.func20 #[.agg #[.slice A1_0 l1_0.length c1_0, .int .i64 a1_1, .int .i64 a1_2]] ?_
   with_reducible refine (spec_l02Copy.calls _ _ l1_0 a1_1 a1_2 t141 t144 t145 _ ?side1 ?side2 A4.out).mono ?_
   (case side1 => repeat (first | exact (Kd.C_below HR1_0.out HB.out) | (with_reducible refine Kd.C_alloc ?_ _) | (with_reducible refine Kd.C_drewN ?_ _) | (with_reducible refine Kd.C_drew ?_)))
   (case side2 => exact HC1_0.out)
   rintro e w19 ⟨v142, rfl, ho0, hb⟩
   refine ⟨_, rfl, ?_⟩
   replace HO140 := am (Kd.S_elder' (ks HO140.out) (Kd.R_base ho0) hb)
   have HO143 := am (Kd.R_lower ho0 (below_size (bl HB.out)))
   replace BK137 := am (blk_below (pk BK137.out) hb)
   replace HB := am (below_step (bl HB.out) hb)
   (try clear hb)
   (try clear hb2)
   (try clear hk)
   (try clear hi)
   (try clear ho0)
   obtain ⟨Ao21, co21, eo21⟩ := Kd.R_slice HO143.out
   (first | subst eo21 | (injection eo21 with f1_ f2_ f3_; have f4_ := f1_.symm; have f5_ := f3_.symm; clear f1_ f2_ f3_; subst f4_; subst f5_))
   refine hK.out _ _ ⟨bc BK137.out 0, bc BK137.out 1, bc BK137.out 2⟩ (fun hHeld => ?_)
   clear hK K
   refine norm_ (a' := ?_) ?_ ?_
   rotate_left
   ·show Act.put _ (some 9) _ = _
    simp only [Act.put, sa_, s0_, ss_, i64_w, i32_w]
    rfl
   refine one_ (i := 4) (N := some 10) b44_5 rfl rfl (by kernel_rfl) (by decide) (fun K hK => ?_)
   refine value_ (w1 := ?_) (v := ?_) (by rfl) rfl ?_ ?_
   rotate_left 2
   ·go_simp
    constructor
    ·rfl
    ·rfl
   refine hK.out _ _ ⟨(blk_cell (blk_alloc BK137.out _) 0).trans rfl, (blk_cell (blk_alloc BK137.out _) 1).trans rfl, (blk_cell (blk_alloc BK137.out _) 2).trans rfl⟩ (fun hHeld => ?_)
   clear hK K
   refine norm_ (a' := ?_) ?_ ?_
   rotate_left
   ·show Act.put _ (some 10) _ = _
    simp only [Act.put, sa_, s0_, ss_, i64_w, i32_w]
    rfl
   refine one_ (i := 5) (N := some 11) b44_6 rfl rfl (by kernel_rfl) (by decide) (fun K hK => ?_)
   refine Kd.S_append_step k31 (w0 := w) w.heap.size (by rfl) (.tmp 7) (.tmp 10) 28 31 (.agg #[(.slice none 0 0), (.int .i64 0), (.int .i64 0)]) 40 rfl Try.underlying28 info31 rfl (by decide) (by omega) v139 t138 (⟨t141, t144, t145⟩ : S31) [.slice Ao21 t141.length co21, .int .i64 t144, .int .i64 t145] (fun k_ => k_ ≠ gb137) (fun k_ => some k_ = (.slice Ao21 t141.length co21 : Value).ownBlock) rfl rfl ?aP (fun k_ hk_ => ((Kd.R_mono (ok' := fun k_ => ((fun k_ => k_ ≠ gb137)) k_ ∧ some k_ ≠ (v139 : Value).ownBlock) (Kd.R_types (Kd.R_apart' (HO143.out) (Kd.S_typed HO140.out) (by decide)) BK137.out (by decide)) (fun k_ hk => ⟨hk.2, hk.1.2⟩))).1 k_ hk_.symm) ?aF ?aO ?aB ?aS ?aL ?_
   (case aP => exact k31_mkM _ _ _ (⟨t141, t144, t145⟩ : S31) (Kd.R_mono (Kd.R_tight rfl (Kd.R_mono (ok' := fun k_ => ((fun k_ => k_ ≠ gb137)) k_ ∧ some k_ ≠ (v139 : Value).ownBlock) (Kd.R_types (Kd.R_apart' (HO143.out) (Kd.S_typed HO140.out) (by decide)) BK137.out (by decide)) (fun k_ hk => ⟨hk.2, hk.1.2⟩))) (fun _ h_ => h_)))
   (case aB => exact (bl HB.out))
   (case aF => exact (fun k_ hk => Kd.freshB (g := gb137) (o := .cells #[.slice A1_0 l1_0.length c1_0, .int .i64 a1_1, .int .i64 a1_2] 31 (0, 0)) (pk BK137.out) k_ hk))
   (case aO => exact (ks (Kd.S_mono HO140.out (fun k_ hk => ⟨hk.1.2, fun e_ => hk.2 e_⟩))))
   (case aS => exact (below_size (bl HB.out)))
   (case aL => have := LMc5.out; omega)
   intro v147 w20 ho hb hg hat
   rw [← Ny146.out] at ho
   replace BK137 := am (blk_grown (g := gb137) (o := .cells #[.slice A1_0 l1_0.length c1_0, .int .i64 a1_1, .int .i64 a1_2] 31 (0, 0)) (pk BK137.out) hg (Kd.S_away HO140.out (fun _ hk => hk.1.2)))
   replace HB := am (hb)
   have HO148 := am (ho)
   clear HO140 HO143 ho hb hg hat
   refine hK.out _ _ ⟨bc BK137.out 0, bc BK137.out 1, bc BK137.out 2⟩ (fun hHeld => ?_)
   clear hK K
   refine norm_ (a' := ?_) ?_ ?_
   rotate_left
   ·show Act.put _ (some 11) _ = _
    simp only [Act.put, sa_, s0_, ss_, i64_w, i32_w]
    rfl
   refine pure_ (i := 6) (N := some 5) (v := ?_) (a' := ?_) b44_7 rfl rfl (by kernel_rfl) (fun _ _ _ h => h) (Or.inl ⟨by rfl, ?_⟩) ?_ ?_; rotate_left
   ·intro w'; go_simp; with_reducible rfl
   rotate_left
   ·simp only [Act.put, sa_, s0_, ss_, i64_w, i32_w]; rfl
   refine done_ (by kernel_rfl) ?_
   obtain ⟨Ao22, co22, eo22⟩ := Kd.S_slice HO148.out
   subst eo22
   try go_wp2
   go_ret
   exact ⟨_, by first | rfl | (simp [errW_none, errW_some] <;> rfl) | (simp [*, errW_none, errW_some] <;> rfl), Kd.T_of_S (ks (Kd.S_mono HO148.out (fun _ hk => trivial))), by repeat (first | (with_reducible first | exact HB.out | apply below_alloc | apply pw_below_drewN | apply below_drew1 | refine below_set ?_ GE137.out) | exact HB.out)⟩
 ·rw [if_neg c5] at H
  exact absurd H (by simp)

/-! ### spec_UndoBack: function 21 -/
def spec_UndoBack.j0 : Nat → Bool → List (S31) → List (S31) → List Int → Int → Int → Option ((List (S31)) × (List (S31)) × List Int × Int × Int × Int)
 | 0, _, _, _, _, _, _ => none
 | k + 1, x14, x153000, x153001, x154000, x154001, x154002 => if x14 = true then (some (([] : List (S31)), ([] : List (S31)), ([] : List Int), 0, 0, 1)) else (if (x153000.length : Int) = 0 then (some (([] : List (S31)), ([] : List (S31)), ([] : List Int), 0, 0, 4)) else (if 0 ≤ (wrap64 ((x153000.length : Int) - 1)) then (if (wrap64 ((x153000.length : Int) - 1)) ≤ (x153000.length : Int) then ((spec_l05CopyBufs.f k (x153000.take ((wrap64 ((x153000.length : Int) - 1)) : Int).toNat)).bind fun t161 => ((spec_l05Put.f k x153001 x154000 x154001 x154002).bind fun t164 => (if (wrap64 ((x153000.length : Int) - 1)) < (x153000.length : Int) then ((spec_l02Copy.f ((rd_T31 x153000 (wrap64 ((x153000.length : Int) - 1))).f0) ((rd_T31 x153000 (wrap64 ((x153000.length : Int) - 1))).f1) ((rd_T31 x153000 (wrap64 ((x153000.length : Int) - 1))).f2)).bind fun bt169 => (some (t161, t164, bt169.1, bt169.2.1, bt169.2.2, 0))) else (none)))) else (none)) else (none)))
def spec_UndoBack.f (k : Nat) (l0_0 : List (S31)) (l0_1 : List (S31)) (l1_0 : List Int) (a1_1 : Int) (a1_2 : Int) : Option ((List (S31)) × (List (S31)) × List Int × Int × Int × Int) := (spec_UndoRight.f k l0_0 l0_1).bind fun t155 => (if t155 = true then ((spec_BufRight.f k l1_0 a1_1 a1_2).bind fun t156 => (spec_UndoBack.j0 k (!t156) l0_0 l0_1 l1_0 a1_1 a1_2)) else (spec_UndoBack.j0 k true l0_0 l0_1 l1_0 a1_1 a1_2))
def ub6.T : Bool × List (List Nat × List Nat) := (true, [([], []), ([0], [0]), ([], []), ([2], [2]), ([1, 3], [1, 3]), ([4], [4]), ([], []), ([6], [6]), ([], []), ([7, 8, 5], [7, 8]), ([5, 9], [5, 9]), ([], []), ([11, 10, 9, 0, 1, 2, 3, 4, 5, 6, 7, 8, 9, 10, 11], [10, 11])])
def ub6.B : List Nat := [0, 1, 0, 4, 15, 31, 0, 64, 0, 511, 1023, 0, 4095]
theorem ub6.tab : rtab .any (opsOf Try.f21 6) = ub6.T := by kernel_rfl
theorem ub6.bits : waitsOk ub6.T.2 ub6.B = true := by kernel_rfl
@[reducible] def ub6.a0 : Array Bool := (br true [0, 13]).toArray
@[reducible] def ub6.a1 : Array Bool := (br true [1, 12]).toArray
@[reducible] def ub6.a2 : Array Bool := (br true [1, 1, 1, 10]).toArray
@[reducible] def ub6.a3 : Array Bool := (br true [1, 1, 2, 9]).toArray
@[reducible] def ub6.a4 : Array Bool := (br true [1, 1, 2, 2, 1, 6]).toArray
@[reducible] def ub6.a5 : Array Bool := (br true [4, 2, 1, 6]).toArray
@[reducible] def ub6.a6 : Array Bool := (br true [4, 2, 2, 5]).toArray
@[reducible] def ub6.a7 : Array Bool := (br true [4, 2, 3, 4]).toArray
@[reducible] def ub6.a8 : Array Bool := (br true [5, 1, 3, 4]).toArray
@[reducible] def ub6.a9 : Array Bool := (br true [9, 4]).toArray
@[reducible] def ub6.a10 : Array Bool := (br true [5, 1, 3, 2, 1, 1]).toArray
@[reducible] def ub6.a11 : Array Bool := (br true [10, 3]).toArray
@[reducible] def ub6.a12 : Array Bool := (br true [9, 2, 1, 1]).toArray
@[reducible] def ub6.a13 : Array Bool := (br true [11, 2]).toArray
@[reducible] def ub6.a14 : Array Bool := (br true [12, 1]).toArray
@[reducible] def ub6.a15 : Array Bool := (br true [10, 1, 1, 1]).toArray
@[reducible] def ub6.a16 : Array Bool := (br true [13]).toArray
def ub7.T : Bool × List (List Nat × List Nat) := (true, [([], []), ([], []), ([1], [1]), ([], []), ([3], [3]), ([2, 4], [2, 4]), ([5], [5]), ([6], [6]), ([0, 7], [0, 7]), ([8, 7, 0, 1, 2, 3, 4, 5, 6, 7, 8], [8])])
def ub7.B : List Nat := [0, 0, 2, 0, 8, 30, 62, 126, 255, 511]
theorem ub7.tab : rtab .any (opsOf Try.f21 7) = ub7.T := by kernel_rfl
theorem ub7.bits : waitsOk ub7.T.2 ub7.B = true := by kernel_rfl
@[reducible] def ub7.a0 : Array Bool := (br true [0, 10]).toArray
@[reducible] def ub7.a1 : Array Bool := (br true [0, 1, 1, 8]).toArray
@[reducible] def ub7.a2 : Array Bool := (br true [0, 1, 1, 1, 1, 6]).toArray
@[reducible] def ub7.a3 : Array Bool := (br true [0, 1, 1, 1, 2, 5]).toArray
@[reducible] def ub7.a4 : Array Bool := (br true [2, 1, 2, 5]).toArray
@[reducible] def ub7.a5 : Array Bool := (br true [5, 5]).toArray
@[reducible] def ub7.a6 : Array Bool := (br true [6, 4]).toArray
@[reducible] def ub7.a7 : Array Bool := (br true [7, 3]).toArray
@[reducible] def ub7.a8 : Array Bool := (br true [8, 2]).toArray
@[reducible] def ub7.a9 : Array Bool := (br true [9, 1]).toArray
@[reducible] def ub7.a10 : Array Bool := (br true [10]).toArray
theorem spec_UndoBack.callsL (k : Nat) (A0_0 : Option Addr) (c0_0 : Nat) (l0_0 : List (S31)) (A0_1 : Option Addr) (c0_1 : Nat) (l0_1 : List (S31)) (A1_0 : Option Addr) (c1_0 : Nat) (l1_0 : List Int) (a1_1 : Int) (a1_2 : Int) (r1 : List (S31)) (r2 : List (S31)) (r3 : List Int) (r4 : Int) (r5 : Int) (r6 : Int) (w : World) (hr0_0 : Kd.C k31 w A0_0 l0_0.length l0_0) (hc0_0 : l0_0.length ≤ c0_0) (hr0_1 : Kd.C k31 w A0_1 l0_1.length l0_1) (hc0_1 : l0_1.length ≤ c0_1) (hr1_0 : Kd.C (Kd.int .i64) w A1_0 l1_0.length l1_0) (hc1_0 : l1_0.length ≤ c1_0) (h : spec_UndoBack.f k l0_0 l0_1 l1_0 a1_1 a1_2 = some (r1, r2, r3, r4, r5, r6)) :
 Calls Try.prog 21 #[.agg #[.slice A0_0 l0_0.length c0_0, .slice A0_1 l0_1.length c0_1], .agg #[.slice A1_0 l1_0.length c1_0, .int .i64 a1_1, .int .i64 a1_2]] w fun e w' => ∃ v0_ v1_ v2_ : Value, e = .returned (.agg #[v0_, v1_, v2_, .int .i64 r4, .int .i64 r5, .int .i64 r6]) ∧ Lw w [.T k31 31 v0_ r1, .T k31 31 v1_ r2, .R (Kd.int .i64) 2 v2_ r3] w' := by
 have hu30 := Try.underlying30
 have hu31 := Try.underlying31
 have hu33 := Try.underlying33
 have HR0 := am hr0_0
 have HC0 := am hc0_0
 have HR1 := am hr0_1
 have HC1 := am hc0_1
 have HR2 := am hr1_0
 have HC2 := am hc1_0
 clear hr0_0 hc0_0 hr0_1 hc0_1 hr1_0 hc1_0
 have HL := am (Lw.nil w)
 unfold spec_UndoBack.f at h
 replace h := Option.bind_eq_some_iff.mp h
 obtain ⟨t, E, H⟩ := h
 have A4 := am E
 clear E
 have key : ∀ b : Bool, (∃ k', k' + 1 = k) ∨ spec_UndoBack.j0 k b l0_0 l0_1 l1_0 a1_1 a1_2 = none := fun b => by
  cases k with
  | zero => exact .inr (by simp [spec_UndoBack.j0])
  | succ k => exact .inl ⟨k, rfl⟩
 cases t with
 | false =>
  rw [if_neg Bool.false_ne_true] at H
  rcases key true with ⟨k', rfl⟩ | e_
  rotate_left
  · rw [e_] at H; cases H
  clear key
  rw [spec_UndoBack.j0, if_pos rfl] at H
  simp only [Option.some.injEq, Prod.mk.injEq] at H
  obtain ⟨rfl, rfl, rfl, rfl, rfl, rfl⟩ := H
  go_enter Try.func21, Try.ntmps21
  go_wp2_with (first | ((with_reducible refine gate_dst (N := 2) rfl ?_); refine box_event ?hg (N := 2) ?hd (cs := #[.slice A0_0 l0_0.length c0_0, .slice A0_1 l0_1.length c0_1]) (t := 30) ?hr ?_; (case hd => rfl); (case hg => rfl); (case hr => first | (go_simp; done) | (go_simp; rfl)); intro B2 hg w1 hbox hb; replace HL := am (HL.out.addBox hg hbox hb); clear hb hbox hg) | ((with_reducible refine gate_dst (N := 3) rfl ?_); refine box_event ?hg (N := 3) ?hd (cs := #[.slice A1_0 l1_0.length c1_0, .int .i64 a1_1, .int .i64 a1_2]) (t := 31) ?hr ?_; (case hd => rfl); (case hg => rfl); (case hr => first | (go_simp; done) | (go_simp; rfl)); intro B3 hg w2 hbox hb; replace HL := am (HL.out.addBox hg hbox hb); clear hb hbox hg) | ((with_reducible refine gate_dst (N := 4) rfl ?_); refine box_event ?hg (N := 4) ?hd (cs := #[.slice none 0 0, .slice none 0 0, .slice none 0 0, .int .i64 0, .int .i64 0, .int .i64 0]) (t := 33) ?hr ?_; (case hd => rfl); (case hg => rfl); (case hr => first | (go_simp; done) | (go_simp; rfl)); intro B4 hg w3 hbox hb; replace HL := am (HL.out.addBox hg hbox hb); clear hb hbox hg; obtain ⟨hB4_0, fB4_0, hB4_1, fB4_1, hB4_2, fB4_2, hB4_3, fB4_3, hB4_4, fB4_4, hB4_5, fB4_5⟩ := cells6 (HL.out.bx 0); obtain ⟨hB2_0, fB2_0, hB2_1, fB2_1⟩ := cells2 (HL.out.bx 2); obtain ⟨hB3_0, fB3_0, hB3_1, fB3_1, hB3_2, fB3_2⟩ := cells3 (HL.out.bx 1)) | ((with_reducible refine gate_callee (f := 42) rfl ?_); refine gl (some 8) Try.func42 #[.agg #[.slice A0_0 l0_0.length c0_0, .slice A0_1 l0_1.length c0_1]] ?_; (with_reducible refine (spec_UndoRight.calls _ _ _ l0_0 _ _ l0_1 false _ ?s0 ?s1 ?s2 ?s3 A4.out).mono ?_); (case s0 => exact (Kd.C_below HR0.out HL.out.bel)); (case s1 => exact HC0.out); (case s2 => exact (Kd.C_below HR1.out HL.out.bel)); (case s3 => exact HC1.out); rintro e w4 ⟨rfl, hb⟩; refine ⟨_, rfl, ?_⟩; replace HL := am (HL.out.step hb); clear hb; clear hB4_0 fB4_0 hB4_1 fB4_1 hB4_2 fB4_2 hB4_3 fB4_3 hB4_4 fB4_4 hB4_5 fB4_5 hB2_0 fB2_0 hB2_1 fB2_1 hB3_0 fB3_0 hB3_1 fB3_1 hB3_2 fB3_2; obtain ⟨hB4_0, fB4_0, hB4_1, fB4_1, hB4_2, fB4_2, hB4_3, fB4_3, hB4_4, fB4_4, hB4_5, fB4_5⟩ := cells6 (HL.out.bx 0); obtain ⟨hB2_0, fB2_0, hB2_1, fB2_1⟩ := cells2 (HL.out.bx 2); obtain ⟨hB3_0, fB3_0, hB3_1, fB3_1, hB3_2, fB3_2⟩ := cells3 (HL.out.bx 1)) | ((with_reducible refine gate_store (t := 33) (p := 4) rfl ?_); refine store_event (t := 33) (p := 4) (v := .tmp 15) (w1 := putc w4 B4 0 [.slice none 0 0, .slice none 0 0, .slice none 0 0, .int .i64 0, .int .i64 0, .int .i64 1]) ?hg ?ho ?hn ?hr ?_; (case ho => rfl); (case hg => rfl); (case hn => rfl); (case hr => first | (go_simp; done) | (go_simp; rfl)); intro w5 hw; replace HL := am (HL.out.fil0 [.slice none 0 0, .slice none 0 0, .slice none 0 0, .int .i64 0, .int .i64 0, .int .i64 1] hw); clear hw; clear hB4_0 fB4_0 hB4_1 fB4_1 hB4_2 fB4_2 hB4_3 fB4_3 hB4_4 fB4_4 hB4_5 fB4_5 hB2_0 fB2_0 hB2_1 fB2_1 hB3_0 fB3_0 hB3_1 fB3_1 hB3_2 fB3_2))
  refine bodyPost_ret (results_cell_row rfl _ _ B4 33 #[.slice none 0 0, .slice none 0 0, .slice none 0 0, .int .i64 0, .int .i64 0, .int .i64 1] (0, 0) _ rfl (HL.out.bx 0) Try.underlying33 rfl (by kernel_rfl)) rfl ?_
  exact ⟨_, _, _, by first | rfl | (simp; done), (((HL.out.pick [] (L' := [])).nilR (Kd.int .i64) 2).nilT k31 31).nilT k31 31⟩
 | true =>
 rw [if_pos rfl] at H
 replace H := Option.bind_eq_some_iff.mp H
 obtain ⟨t, E, H⟩ := H
 have A5 := am E
 clear E
 rcases key (!t) with ⟨k', rfl⟩ | e_
 rotate_left
 · rw [e_] at H; cases H
 clear key
 rw [spec_UndoBack.j0] at H
 cases t with
 | false =>
  rw [if_pos (show (!false) = true from rfl)] at H
  simp only [Option.some.injEq, Prod.mk.injEq] at H
  obtain ⟨rfl, rfl, rfl, rfl, rfl, rfl⟩ := H
  go_enter Try.func21, Try.ntmps21
  go_wp2_with (first | ((with_reducible refine gate_dst (N := 2) rfl ?_); refine box_event ?hg (N := 2) ?hd (cs := #[.slice A0_0 l0_0.length c0_0, .slice A0_1 l0_1.length c0_1]) (t := 30) ?hr ?_; (case hd => rfl); (case hg => rfl); (case hr => first | (go_simp; done) | (go_simp; rfl)); intro B2 hg w1 hbox hb; replace HL := am (HL.out.addBox hg hbox hb); clear hb hbox hg) | ((with_reducible refine gate_dst (N := 3) rfl ?_); refine box_event ?hg (N := 3) ?hd (cs := #[.slice A1_0 l1_0.length c1_0, .int .i64 a1_1, .int .i64 a1_2]) (t := 31) ?hr ?_; (case hd => rfl); (case hg => rfl); (case hr => first | (go_simp; done) | (go_simp; rfl)); intro B3 hg w2 hbox hb; replace HL := am (HL.out.addBox hg hbox hb); clear hb hbox hg) | ((with_reducible refine gate_dst (N := 4) rfl ?_); refine box_event ?hg (N := 4) ?hd (cs := #[.slice none 0 0, .slice none 0 0, .slice none 0 0, .int .i64 0, .int .i64 0, .int .i64 0]) (t := 33) ?hr ?_; (case hd => rfl); (case hg => rfl); (case hr => first | (go_simp; done) | (go_simp; rfl)); intro B4 hg w3 hbox hb; replace HL := am (HL.out.addBox hg hbox hb); clear hb hbox hg; obtain ⟨hB4_0, fB4_0, hB4_1, fB4_1, hB4_2, fB4_2, hB4_3, fB4_3, hB4_4, fB4_4, hB4_5, fB4_5⟩ := cells6 (HL.out.bx 0); obtain ⟨hB2_0, fB2_0, hB2_1, fB2_1⟩ := cells2 (HL.out.bx 2); obtain ⟨hB3_0, fB3_0, hB3_1, fB3_1, hB3_2, fB3_2⟩ := cells3 (HL.out.bx 1)) | ((with_reducible refine gate_callee (f := 42) rfl ?_); refine gl (some 8) Try.func42 #[.agg #[.slice A0_0 l0_0.length c0_0, .slice A0_1 l0_1.length c0_1]] ?_; (with_reducible refine (spec_UndoRight.calls _ _ _ l0_0 _ _ l0_1 true _ ?s0 ?s1 ?s2 ?s3 A4.out).mono ?_); (case s0 => exact (Kd.C_below HR0.out HL.out.bel)); (case s1 => exact HC0.out); (case s2 => exact (Kd.C_below HR1.out HL.out.bel)); (case s3 => exact HC1.out); rintro e w4 ⟨rfl, hb⟩; refine ⟨_, rfl, ?_⟩; replace HL := am (HL.out.step hb); clear hb; clear hB4_0 fB4_0 hB4_1 fB4_1 hB4_2 fB4_2 hB4_3 fB4_3 hB4_4 fB4_4 hB4_5 fB4_5 hB2_0 fB2_0 hB2_1 fB2_1 hB3_0 fB3_0 hB3_1 fB3_1 hB3_2 fB3_2; obtain ⟨hB4_0, fB4_0, hB4_1, fB4_1, hB4_2, fB4_2, hB4_3, fB4_3, hB4_4, fB4_4, hB4_5, fB4_5⟩ := cells6 (HL.out.bx 0); obtain ⟨hB2_0, fB2_0, hB2_1, fB2_1⟩ := cells2 (HL.out.bx 2); obtain ⟨hB3_0, fB3_0, hB3_1, fB3_1, hB3_2, fB3_2⟩ := cells3 (HL.out.bx 1)) | ((with_reducible refine gate_store (t := 33) (p := 4) rfl ?_); refine store_event (t := 33) (p := 4) (v := .tmp 15) (w1 := putc w5 B4 0 [.slice none 0 0, .slice none 0 0, .slice none 0 0, .int .i64 0, .int .i64 0, .int .i64 1]) ?hg ?ho ?hn ?hr ?_; (case ho => rfl); (case hg => rfl); (case hn => rfl); (case hr => first | (go_simp; done) | (go_simp; rfl)); intro w6 hw; replace HL := am (HL.out.fil0 [.slice none 0 0, .slice none 0 0, .slice none 0 0, .int .i64 0, .int .i64 0, .int .i64 1] hw); clear hw; clear hB4_0 fB4_0 hB4_1 fB4_1 hB4_2 fB4_2 hB4_3 fB4_3 hB4_4 fB4_4 hB4_5 fB4_5 hB2_0 fB2_0 hB2_1 fB2_1) | (go_at_call 18; (with_reducible refine (spec_BufRight.calls _ _ _ l1_0 a1_1 a1_2 false _ ?s0 ?s1 A5.out).mono ?_); (case s0 => exact (Kd.C_below HR2.out HL.out.bel)); (case s1 => exact HC2.out); rintro e w5 ⟨rfl, hb⟩; replace HL := am (HL.out.step hb); clear hb; clear hB4_0 fB4_0 hB4_1 fB4_1 hB4_2 fB4_2 hB4_3 fB4_3 hB4_4 fB4_4 hB4_5 fB4_5 hB2_0 fB2_0 hB2_1 fB2_1 hB3_0 fB3_0 hB3_1 fB3_1 hB3_2 fB3_2; obtain ⟨hB4_0, fB4_0, hB4_1, fB4_1, hB4_2, fB4_2, hB4_3, fB4_3, hB4_4, fB4_4, hB4_5, fB4_5⟩ := cells6 (HL.out.bx 0); obtain ⟨hB2_0, fB2_0, hB2_1, fB2_1⟩ := cells2 (HL.out.bx 2)))
  refine bodyPost_ret (results_cell_row rfl _ _ B4 33 #[.slice none 0 0, .slice none 0 0, .slice none 0 0, .int .i64 0, .int .i64 0, .int .i64 1] (0, 0) _ rfl (HL.out.bx 0) Try.underlying33 rfl (by kernel_rfl)) rfl ?_
  exact ⟨_, _, _, by first | rfl | (simp; done), (((HL.out.pick [] (L' := [])).nilR (Kd.int .i64) 2).nilT k31 31).nilT k31 31⟩
 | true =>
 rw [if_neg (show ¬ (!true) = true by decide)] at H
 by_cases c1 : (l0_0.length : Int) = 0
 · rw [if_pos c1] at H
   have c1b : ((l0_0.length : Int) == 0) = true := beq_iff_eq.mpr c1
   clear c1
   simp only [Option.some.injEq, Prod.mk.injEq] at H
   obtain ⟨rfl, rfl, rfl, rfl, rfl, rfl⟩ := H
   go_enter Try.func21, Try.ntmps21
   go_wp2_with (first | ((with_reducible refine gate_dst (N := 2) rfl ?_); refine box_event ?hg (N := 2) ?hd (cs := #[.slice A0_0 l0_0.length c0_0, .slice A0_1 l0_1.length c0_1]) (t := 30) ?hr ?_; (case hd => rfl); (case hg => rfl); (case hr => first | (go_simp; done) | (go_simp; rfl)); intro B2 hg w1 hbox hb; replace HL := am (HL.out.addBox hg hbox hb); clear hb hbox hg) | ((with_reducible refine gate_dst (N := 3) rfl ?_); refine box_event ?hg (N := 3) ?hd (cs := #[.slice A1_0 l1_0.length c1_0, .int .i64 a1_1, .int .i64 a1_2]) (t := 31) ?hr ?_; (case hd => rfl); (case hg => rfl); (case hr => first | (go_simp; done) | (go_simp; rfl)); intro B3 hg w2 hbox hb; replace HL := am (HL.out.addBox hg hbox hb); clear hb hbox hg) | ((with_reducible refine gate_dst (N := 4) rfl ?_); refine box_event ?hg (N := 4) ?hd (cs := #[.slice none 0 0, .slice none 0 0, .slice none 0 0, .int .i64 0, .int .i64 0, .int .i64 0]) (t := 33) ?hr ?_; (case hd => rfl); (case hg => rfl); (case hr => first | (go_simp; done) | (go_simp; rfl)); intro B4 hg w3 hbox hb; replace HL := am (HL.out.addBox hg hbox hb); clear hb hbox hg; obtain ⟨hB4_0, fB4_0, hB4_1, fB4_1, hB4_2, fB4_2, hB4_3, fB4_3, hB4_4, fB4_4, hB4_5, fB4_5⟩ := cells6 (HL.out.bx 0); obtain ⟨hB2_0, fB2_0, hB2_1, fB2_1⟩ := cells2 (HL.out.bx 2); obtain ⟨hB3_0, fB3_0, hB3_1, fB3_1, hB3_2, fB3_2⟩ := cells3 (HL.out.bx 1)) | ((with_reducible refine gate_callee (f := 42) rfl ?_); refine gl (some 8) Try.func42 #[.agg #[.slice A0_0 l0_0.length c0_0, .slice A0_1 l0_1.length c0_1]] ?_; (with_reducible refine (spec_UndoRight.calls _ _ _ l0_0 _ _ l0_1 true _ ?s0 ?s1 ?s2 ?s3 A4.out).mono ?_); (case s0 => exact (Kd.C_below HR0.out HL.out.bel)); (case s1 => exact HC0.out); (case s2 => exact (Kd.C_below HR1.out HL.out.bel)); (case s3 => exact HC1.out); rintro e w4 ⟨rfl, hb⟩; refine ⟨_, rfl, ?_⟩; replace HL := am (HL.out.step hb); clear hb; clear hB4_0 fB4_0 hB4_1 fB4_1 hB4_2 fB4_2 hB4_3 fB4_3 hB4_4 fB4_4 hB4_5 fB4_5 hB2_0 fB2_0 hB2_1 fB2_1 hB3_0 fB3_0 hB3_1 fB3_1 hB3_2 fB3_2; obtain ⟨hB4_0, fB4_0, hB4_1, fB4_1, hB4_2, fB4_2, hB4_3, fB4_3, hB4_4, fB4_4, hB4_5, fB4_5⟩ := cells6 (HL.out.bx 0); obtain ⟨hB2_0, fB2_0, hB2_1, fB2_1⟩ := cells2 (HL.out.bx 2); obtain ⟨hB3_0, fB3_0, hB3_1, fB3_1, hB3_2, fB3_2⟩ := cells3 (HL.out.bx 1)) | ((with_reducible refine gate_store (t := 33) (p := 4) rfl ?_); refine store_event (t := 33) (p := 4) (v := .tmp 21) (w1 := putc w5 B4 0 [.slice none 0 0, .slice none 0 0, .slice none 0 0, .int .i64 0, .int .i64 0, .int .i64 4]) ?hg ?ho ?hn ?hr ?_; (case ho => rfl); (case hg => rfl); (case hn => rfl); (case hr => first | (go_simp; done) | (go_simp; rfl)); intro w6 hw; replace HL := am (HL.out.fil0 [.slice none 0 0, .slice none 0 0, .slice none 0 0, .int .i64 0, .int .i64 0, .int .i64 4] hw); clear hw; clear hB4_0 fB4_0 hB4_1 fB4_1 hB4_2 fB4_2 hB4_3 fB4_3 hB4_4 fB4_4 hB4_5 fB4_5 hB2_0 fB2_0 hB2_1 fB2_1) | (go_at_call 18; (with_reducible refine (spec_BufRight.calls _ _ _ l1_0 a1_1 a1_2 true _ ?s0 ?s1 A5.out).mono ?_); (case s0 => exact (Kd.C_below HR2.out HL.out.bel)); (case s1 => exact HC2.out); rintro e w5 ⟨rfl, hb⟩; replace HL := am (HL.out.step hb); clear hb; clear hB4_0 fB4_0 hB4_1 fB4_1 hB4_2 fB4_2 hB4_3 fB4_3 hB4_4 fB4_4 hB4_5 fB4_5 hB2_0 fB2_0 hB2_1 fB2_1 hB3_0 fB3_0 hB3_1 fB3_1 hB3_2 fB3_2; obtain ⟨hB4_0, fB4_0, hB4_1, fB4_1, hB4_2, fB4_2, hB4_3, fB4_3, hB4_4, fB4_4, hB4_5, fB4_5⟩ := cells6 (HL.out.bx 0); obtain ⟨hB2_0, fB2_0, hB2_1, fB2_1⟩ := cells2 (HL.out.bx 2)))
   refine bodyPost_ret (results_cell_row rfl _ _ B4 33 #[.slice none 0 0, .slice none 0 0, .slice none 0 0, .int .i64 0, .int .i64 0, .int .i64 4] (0, 0) _ rfl (HL.out.bx 0) Try.underlying33 rfl (by kernel_rfl)) rfl ?_
   exact ⟨_, _, _, by first | rfl | (simp; done), (((HL.out.pick [] (L' := [])).nilR (Kd.int .i64) 2).nilT k31 31).nilT k31 31⟩
 rw [if_neg c1] at H
 have c1b : ((l0_0.length : Int) == 0) = false := beq_eq_false_iff_ne.mpr c1
 clear c1
 by_cases q0 : 0 ≤ (wrap64 ((l0_0.length : Int) - 1))
 rotate_left
 · rw [if_neg q0] at H; cases H
 rw [if_pos q0] at H
 by_cases q1 : (wrap64 ((l0_0.length : Int) - 1)) ≤ (l0_0.length : Int)
 rotate_left
 · rw [if_neg q1] at H; cases H
 rw [if_pos q1] at H
 go_enter Try.func21, Try.ntmps21
 go_wp2_with (first | ((with_reducible refine gate_dst (N := 2) rfl ?_); refine box_event ?hg (N := 2) ?hd (cs := #[.slice A0_0 l0_0.length c0_0, .slice A0_1 l0_1.length c0_1]) (t := 30) ?hr ?_; (case hd => rfl); (case hg => rfl); (case hr => first | (go_simp; done) | (go_simp; rfl)); intro B2 hg w1 hbox hb; replace HL := am (HL.out.addBox hg hbox hb); clear hb hbox hg) | ((with_reducible refine gate_dst (N := 3) rfl ?_); refine box_event ?hg (N := 3) ?hd (cs := #[.slice A1_0 l1_0.length c1_0, .int .i64 a1_1, .int .i64 a1_2]) (t := 31) ?hr ?_; (case hd => rfl); (case hg => rfl); (case hr => first | (go_simp; done) | (go_simp; rfl)); intro B3 hg w2 hbox hb; replace HL := am (HL.out.addBox hg hbox hb); clear hb hbox hg) | ((with_reducible refine gate_dst (N := 4) rfl ?_); refine box_event ?hg (N := 4) ?hd (cs := #[.slice none 0 0, .slice none 0 0, .slice none 0 0, .int .i64 0, .int .i64 0, .int .i64 0]) (t := 33) ?hr ?_; (case hd => rfl); (case hg => rfl); (case hr => first | (go_simp; done) | (go_simp; rfl)); intro B4 hg w3 hbox hb; replace HL := am (HL.out.addBox hg hbox hb); clear hb hbox hg; obtain ⟨hB4_0, fB4_0, hB4_1, fB4_1, hB4_2, fB4_2, hB4_3, fB4_3, hB4_4, fB4_4, hB4_5, fB4_5⟩ := cells6 (HL.out.bx 0); obtain ⟨hB2_0, fB2_0, hB2_1, fB2_1⟩ := cells2 (HL.out.bx 2); obtain ⟨hB3_0, fB3_0, hB3_1, fB3_1, hB3_2, fB3_2⟩ := cells3 (HL.out.bx 1)) | ((with_reducible refine gate_callee (f := 42) rfl ?_); refine gl (some 8) Try.func42 #[.agg #[.slice A0_0 l0_0.length c0_0, .slice A0_1 l0_1.length c0_1]] ?_; (with_reducible refine (spec_UndoRight.calls _ _ _ l0_0 _ _ l0_1 true _ ?s0 ?s1 ?s2 ?s3 A4.out).mono ?_); (case s0 => exact (Kd.C_below HR0.out HL.out.bel)); (case s1 => exact HC0.out); (case s2 => exact (Kd.C_below HR1.out HL.out.bel)); (case s3 => exact HC1.out); rintro e w4 ⟨rfl, hb⟩; refine ⟨_, rfl, ?_⟩; replace HL := am (HL.out.step hb); clear hb; clear hB4_0 fB4_0 hB4_1 fB4_1 hB4_2 fB4_2 hB4_3 fB4_3 hB4_4 fB4_4 hB4_5 fB4_5 hB2_0 fB2_0 hB2_1 fB2_1 hB3_0 fB3_0 hB3_1 fB3_1 hB3_2 fB3_2; obtain ⟨hB4_0, fB4_0, hB4_1, fB4_1, hB4_2, fB4_2, hB4_3, fB4_3, hB4_4, fB4_4, hB4_5, fB4_5⟩ := cells6 (HL.out.bx 0); obtain ⟨hB2_0, fB2_0, hB2_1, fB2_1⟩ := cells2 (HL.out.bx 2); obtain ⟨hB3_0, fB3_0, hB3_1, fB3_1, hB3_2, fB3_2⟩ := cells3 (HL.out.bx 1)) | (go_at_call 18; (with_reducible refine (spec_BufRight.calls _ _ _ l1_0 a1_1 a1_2 true _ ?s0 ?s1 A5.out).mono ?_); (case s0 => exact (Kd.C_below HR2.out HL.out.bel)); (case s1 => exact HC2.out); rintro e w5 ⟨rfl, hb⟩; replace HL := am (HL.out.step hb); clear hb; clear hB4_0 fB4_0 hB4_1 fB4_1 hB4_2 fB4_2 hB4_3 fB4_3 hB4_4 fB4_4 hB4_5 fB4_5 hB2_0 fB2_0 hB2_1 fB2_1 hB3_0 fB3_0 hB3_1 fB3_1 hB3_2 fB3_2; obtain ⟨hB4_0, fB4_0, hB4_1, fB4_1, hB4_2, fB4_2, hB4_3, fB4_3, hB4_4, fB4_4, hB4_5, fB4_5⟩ := cells6 (HL.out.bx 0); obtain ⟨hB2_0, fB2_0, hB2_1, fB2_1⟩ := cells2 (HL.out.bx 2)))
 clear hB4_0 fB4_0 hB4_1 fB4_1 hB4_2 fB4_2 hB4_3 fB4_3 hB4_4 fB4_4 hB4_5 fB4_5 hB2_0 fB2_0 hB2_1 fB2_1
 replace H := Option.bind_eq_some_iff.mp H
 obtain ⟨x0, E, H⟩ := H
 have Ac := am E
 clear E
 replace H := Option.bind_eq_some_iff.mp H
 obtain ⟨x1, E, H⟩ := H
 have Ap := am E
 clear E
 by_cases q2 : (wrap64 ((l0_0.length : Int) - 1)) < (l0_0.length : Int)
 rotate_left
 · rw [if_neg q2] at H; cases H
 rw [if_pos q2] at H
 replace H := Option.bind_eq_some_iff.mp H
 obtain ⟨⟨x2, x3, x4⟩, E, H⟩ := H
 have Ab := am E
 clear E
 dsimp only at H
 simp only [Option.some.injEq, Prod.mk.injEq] at H
 obtain ⟨rfl, rfl, rfl, rfl, rfl, rfl⟩ := H
 replace HL := am HL.out.drew
 obtain ⟨i0, hi0, _, hsz, _⟩ := info_parts info31
 obtain ⟨y1, hy1⟩ : ∃ y : List S31, y = l0_0.take (wrap64 ((l0_0.length : Int) - 1)).toNat := ⟨_, rfl⟩
 rw [← hy1] at Ac
 have hl1 : y1.length = (wrap64 ((l0_0.length : Int) - 1)).toNat := by rw [hy1, List.length_take]; omega
 have hcut1 := cut_to (P := Try.prog) 28 31 .i64 Try.underlying28 hi0 A0_0 l0_0.length c0_0 (wrap64 ((l0_0.length : Int) - 1)) q0 q1 HC0.out
 rw [← hl1] at hcut1
 have HY1 : Aside0 (Kd.C k31 w A0_0 y1.length y1) := ⟨by rw [hy1]; exact Kd.C_take HR0.out (by omega)⟩
 have hcc := HC0.out
 have HD1 : Aside0 (y1.length ≤ c0_0) := ⟨by omega⟩
 have Q0 := am q0
 have Q2 := am q2
 clear hy1 hl1 hi0 hsz hcc
 have v0 := eq_true q0
 have v1 := eq_true q1
 clear q0 q1 q2
 refine start_ (n := 13) (S := fun w' => w'.cell? ⟨B2, 0, none⟩ = some (.slice A0_0 l0_0.length c0_0) ∧ w'.cell? ⟨B2, 1, none⟩ = some (.slice A0_1 l0_1.length c0_1) ∧ w'.cell? ⟨B3, 0, none⟩ = some (.slice A1_0 l1_0.length c1_0) ∧ w'.cell? ⟨B3, 1, none⟩ = some (.int .i64 a1_1) ∧ w'.cell? ⟨B3, 2, none⟩ = some (.int .i64 a1_2)) (ds := []) ub6.a0 (by kernel_rfl) rfl rfl ⟨bc (HL.out.bx 2) 0, bc (HL.out.bx 2) 1, bc (HL.out.bx 1) 0, bc (HL.out.bx 1) 1, bc (HL.out.bx 1) 2⟩ (fun hHeld => ?_); refine with_tabW ub6.tab ub6.bits (fun HT_ HW_ => ?_)
 generalize w5.drew = w6 at HL hHeld ⊢
 refine pu_ 0 (some 22) ?_ ub6.a1 rfl rfl HT_.out (by kernel_rfl) (fun _ _ _ h => h) (Or.inl ⟨by rfl, ?_⟩) ?_ ?_ ?_; rotate_left
 ·intro w'; go_simp; with_reducible rfl
 rotate_left
 ·simp only [Act.put, sa_, s0_, ss_, i64_w, i32_w]; rfl
 refine pu_ 2 (some 24) ?_ ub6.a2 rfl rfl HT_.out (by kernel_rfl) (fun _ _ _ h => h) (Or.inl ⟨by rfl, ?_⟩) ?_ ?_ ?_; rotate_left
 ·intro w'; go_simp; with_reducible rfl
 rotate_left
 ·simp only [Act.put, sa_, s0_, ss_, i64_w, i32_w]; rfl
 refine pu_ 3 (some 25) ?_ ub6.a3 rfl rfl HT_.out (by kernel_rfl) (fun _ _ _ h => h) (Or.inl ⟨by rfl, ?_⟩) ?_ ?_ ?_; rotate_left
 ·intro w'; go_simp; with_reducible rfl
 rotate_left
 ·simp only [Act.put, sa_, s0_, ss_, i64_w, i32_w]; rfl
 refine pu_ 6 (some 28) ?_ ub6.a4 rfl rfl HT_.out (by kernel_rfl) (fun _ _ _ h => h) (Or.inl ⟨by rfl, ?_⟩) ?_ ?_ ?_; rotate_left
 ·intro w'; go_simp; with_reducible rfl
 rotate_left
 ·simp only [Act.put, sa_, s0_, ss_, i64_w, i32_w]; rfl
 refine tk_ 1 (some 23) ?_ ub6.a5 rfl rfl HT_.out HW_.out (by kernel_rfl) (fun _ _ _ h => h) (Or.inl ⟨by rfl, ?_⟩) hHeld ?_ ?_ ?_; rotate_left
 ·rintro w' ⟨s0, s1, s2, s3, s4⟩; go_simp; with_reducible rfl
 rotate_left
 ·simp only [Act.put, sa_, s0_, ss_, i64_w, i32_w]; rfl
 refine tk_ 7 (some 29) ?_ ub6.a6 rfl rfl HT_.out HW_.out (by kernel_rfl) (fun _ _ _ h => h) (Or.inl ⟨by rfl, ?_⟩) hHeld ?_ ?_ ?_; rotate_left
 ·rintro w' ⟨s0, s1, s2, s3, s4⟩; go_simp; with_reducible rfl
 rotate_left
 ·simp only [Act.put, sa_, s0_, ss_, i64_w, i32_w]; rfl
 refine tk_ 8 (some 30) ?_ ub6.a7 rfl rfl HT_.out HW_.out (by kernel_rfl) (fun _ _ _ h => h) (Or.inl ⟨by rfl, ?_⟩) hHeld ?_ ?_ ?_; rotate_left
 ·rintro w' ⟨s0, s1, s2, s3, s4⟩; go_simp; with_reducible rfl
 rotate_left
 ·simp only [Act.put, sa_, s0_, ss_, i64_w, i32_w]; rfl
 refine pu_ 4 (some 26) ?_ ub6.a8 rfl rfl HT_.out (by kernel_rfl) (fun _ _ _ h => h) (Or.inl ⟨by rfl, ?_⟩) ?_ ?_ ?_; rotate_left
 ·intro w'; go_simp; with_reducible rfl
 rotate_left
 ·simp only [Act.put, sa_, s0_, ss_, i64_w, i32_w]; rfl
 refine join_ (σ := Option Addr × Nat × Option Addr × Nat × Nat) 1 ub6.a14 (fun s_ => [(27, .slice s_.1 x0.length s_.2.1), (31, .slice s_.2.2.1 x1.length s_.2.2.2.1), (32, .agg #[.slice s_.1 x0.length s_.2.1, .slice s_.2.2.1 x1.length s_.2.2.2.1]), (6, .pointer (some ⟨s_.2.2.2.2, 0, none⟩))]) (fun s_ w' => (w'.cell? ⟨B2, 0, none⟩ = some (.slice A0_0 l0_0.length c0_0) ∧ w'.cell? ⟨B2, 1, none⟩ = some (.slice A0_1 l0_1.length c0_1) ∧ w'.cell? ⟨B3, 0, none⟩ = some (.slice A1_0 l1_0.length c1_0) ∧ w'.cell? ⟨B3, 1, none⟩ = some (.int .i64 a1_1) ∧ w'.cell? ⟨B3, 2, none⟩ = some (.int .i64 a1_2)) ∧ Lw w (.box s_.2.2.2.2 #[.slice none 0 0, .slice none 0 0] 30 :: .T k31 31 (.slice s_.2.2.1 x1.length s_.2.2.2.1) x1 :: .T k31 31 (.slice s_.1 x0.length s_.2.1) x0 :: [.box B4 #[.slice none 0 0, .slice none 0 0, .slice none 0 0, .int .i64 0, .int .i64 0, .int .i64 0] 33, .box B3 #[.slice A1_0 l1_0.length c1_0, .int .i64 a1_1, .int .i64 a1_2] 31, .box B2 #[.slice A0_0 l0_0.length c0_0, .slice A0_1 l0_1.length c0_1] 30]) w') ?_ ?_
 rotate_left
 ·intro hCont
  refine two_ (i := 5) (j := 11) (Ni := some 27) (Nj := some 6) ub6.a9 ub6.a10 rfl rfl rfl rfl (two_of HT_.out (by kernel_rfl)) (by decide) (by decide) (fun K hK => ?_) (fun K hK => ?_)
  ·skip
   refine gs_ Try.func43 #[.slice A0_0 y1.length c0_0] ?_
   (with_reducible refine (spec_l05CopyBufs.calls _ _ _ y1 x0 _ ?q3s0 ?q3s1 Ac.out).mono ?_)
   (case q3s0 => exact (Kd.C_below HY1.out HL.out.bel))
   (case q3s1 => exact HD1.out)
   rintro e w7 ⟨v0, rfl, ho, hb⟩
   refine ⟨_, rfl, ?_⟩
   replace HL := am (HL.out.addT0 hb ho)
   clear hb ho
   obtain ⟨Ax0, cx0, ee_, -⟩ := Kd.T_slice (HL.out.gT 0)
   subst ee_
   refine hK.out _ _ ⟨bc (HL.out.bx 3) 0, bc (HL.out.bx 3) 1, bc (HL.out.bx 2) 0, bc (HL.out.bx 2) 1, bc (HL.out.bx 2) 2⟩ (fun hHeld => ?_)
   clear hK K
   refine norm_ (a' := ?_) ?_ ?_
   rotate_left
   ·show Act.put _ (some 27) _ = _
    simp only [Act.put, sa_, s0_, ss_, i64_w, i32_w]
    rfl
   refine two_ (i := 9) (j := 11) (Ni := some 31) (Nj := some 6) ub6.a11 ub6.a12 rfl rfl rfl rfl (two_of HT_.out (by kernel_rfl)) (by decide) (by decide) (fun K hK => ?_) (fun K hK => ?_)
   ·skip
    refine gs_ Try.func44 #[.slice A0_1 l0_1.length c0_1, .agg #[.slice A1_0 l1_0.length c1_0, .int .i64 a1_1, .int .i64 a1_2]] ?_
    (with_reducible refine (spec_l05Put.calls _ _ _ l0_1 _ _ l1_0 a1_1 a1_2 x1 _ ?q4s0 ?q4s1 ?q4s2 ?q4s3 Ap.out).mono ?_)
    (case q4s0 => exact (Kd.C_below HR1.out HL.out.bel))
    (case q4s1 => exact HC1.out)
    (case q4s2 => exact (Kd.C_below HR2.out HL.out.bel))
    (case q4s3 => exact HC2.out)
    rintro e w8 ⟨v1, rfl, ho, hb⟩
    refine ⟨_, rfl, ?_⟩
    replace HL := am (HL.out.addT hb ho)
    clear hb ho
    obtain ⟨Ax1, cx1, ee_, -⟩ := Kd.T_slice (HL.out.gT 0)
    subst ee_
    refine hK.out _ _ ⟨bc (HL.out.bx 4) 0, bc (HL.out.bx 4) 1, bc (HL.out.bx 3) 0, bc (HL.out.bx 3) 1, bc (HL.out.bx 3) 2⟩ (fun hHeld => ?_)
    clear hK K
    refine norm_ (a' := ?_) ?_ ?_
    rotate_left
    ·show Act.put _ (some 31) _ = _
     simp only [Act.put, sa_, s0_, ss_, i64_w, i32_w]
     rfl
    refine pu_ 10 (some 32) ?_ ub6.a13 rfl rfl HT_.out (by kernel_rfl) (fun _ _ _ h => h) (Or.inl ⟨by rfl, ?_⟩) ?_ ?_ ?_; rotate_left
    ·intro w'; go_simp; with_reducible rfl
    rotate_left
    ·simp only [Act.put, sa_, s0_, ss_, i64_w, i32_w]; rfl
    refine one_ (i := 11) (N := some 6) ub6.a14 rfl rfl (one_of HT_.out (by kernel_rfl)) (by decide) (fun K hK => ?_)
    refine box_step ?hg (N := 6) ?hd (cs := #[.slice none 0 0, .slice none 0 0]) (t := 30) ?hr ?_; (case hd => rfl); (case hg => rfl); (case hr => first | (go_simp; done) | (go_simp; rfl))
    intro B6 hg w9 hbox hb
    replace HL := am (HL.out.addBox hg hbox hb)
    clear hb hbox hg
    refine hK.out _ _ ⟨bc (HL.out.bx 5) 0, bc (HL.out.bx 5) 1, bc (HL.out.bx 4) 0, bc (HL.out.bx 4) 1, bc (HL.out.bx 4) 2⟩ (fun hHeld => ?_)
    clear hK K
    refine norm_ (a' := ?_) ?_ ?_
    rotate_left
    ·show Act.put _ (some 6) _ = _
     simp only [Act.put, sa_, s0_, ss_, i64_w, i32_w]
     rfl
    exact norm_ (by simp only [putAll, Act.put, sa_, s0_, ss_]) (hCont (Ax0, cx0, Ax1, cx1, B6) _ ⟨hHeld, (HL.out.pick [0, 1, 2, 3, 4, 5])⟩)
   ·skip
    refine box_step ?hg (N := 6) ?hd (cs := #[.slice none 0 0, .slice none 0 0]) (t := 30) ?hr ?_; (case hd => rfl); (case hg => rfl); (case hr => first | (go_simp; done) | (go_simp; rfl))
    intro B6 hg w8 hbox hb
    replace HL := am (HL.out.addBox hg hbox hb)
    clear hb hbox hg
    refine hK.out _ _ ⟨bc (HL.out.bx 4) 0, bc (HL.out.bx 4) 1, bc (HL.out.bx 3) 0, bc (HL.out.bx 3) 1, bc (HL.out.bx 3) 2⟩ (fun hHeld => ?_)
    clear hK K
    refine norm_ (a' := ?_) ?_ ?_
    rotate_left
    ·show Act.put _ (some 6) _ = _
     simp only [Act.put, sa_, s0_, ss_, i64_w, i32_w]
     rfl
    refine one_ (i := 9) (N := some 31) ub6.a15 rfl rfl (one_of HT_.out (by kernel_rfl)) (by decide) (fun K hK => ?_)
    refine gs_ Try.func44 #[.slice A0_1 l0_1.length c0_1, .agg #[.slice A1_0 l1_0.length c1_0, .int .i64 a1_1, .int .i64 a1_2]] ?_
    (with_reducible refine (spec_l05Put.calls _ _ _ l0_1 _ _ l1_0 a1_1 a1_2 x1 _ ?q5s0 ?q5s1 ?q5s2 ?q5s3 Ap.out).mono ?_)
    (case q5s0 => exact (Kd.C_below HR1.out HL.out.bel))
    (case q5s1 => exact HC1.out)
    (case q5s2 => exact (Kd.C_below HR2.out HL.out.bel))
    (case q5s3 => exact HC2.out)
    rintro e w9 ⟨v1, rfl, ho, hb⟩
    refine ⟨_, rfl, ?_⟩
    replace HL := am (HL.out.addT hb ho)
    clear hb ho
    obtain ⟨Ax1, cx1, ee_, -⟩ := Kd.T_slice (HL.out.gT 0)
    subst ee_
    refine hK.out _ _ ⟨bc (HL.out.bx 5) 0, bc (HL.out.bx 5) 1, bc (HL.out.bx 4) 0, bc (HL.out.bx 4) 1, bc (HL.out.bx 4) 2⟩ (fun hHeld => ?_)
    clear hK K
    refine norm_ (a' := ?_) ?_ ?_
    rotate_left
    ·show Act.put _ (some 31) _ = _
     simp only [Act.put, sa_, s0_, ss_, i64_w, i32_w]
     rfl
    refine pu_ 10 (some 32) ?_ ub6.a14 rfl rfl HT_.out (by kernel_rfl) (fun _ _ _ h => h) (Or.inl ⟨by rfl, ?_⟩) ?_ ?_ ?_; rotate_left
    ·intro w'; go_simp; with_reducible rfl
    rotate_left
    ·simp only [Act.put, sa_, s0_, ss_, i64_w, i32_w]; rfl
    exact norm_ (by simp only [putAll, Act.put, sa_, s0_, ss_]) (hCont (Ax0, cx0, Ax1, cx1, B6) _ ⟨hHeld, (HL.out.pick [1, 0, 2, 3, 4, 5])⟩)
  ·skip
   refine box_step ?hg (N := 6) ?hd (cs := #[.slice none 0 0, .slice none 0 0]) (t := 30) ?hr ?_; (case hd => rfl); (case hg => rfl); (case hr => first | (go_simp; done) | (go_simp; rfl))
   intro B6 hg w7 hbox hb
   replace HL := am (HL.out.addBox hg hbox hb)
   clear hb hbox hg
   refine hK.out _ _ ⟨bc (HL.out.bx 3) 0, bc (HL.out.bx 3) 1, bc (HL.out.bx 2) 0, bc (HL.out.bx 2) 1, bc (HL.out.bx 2) 2⟩ (fun hHeld => ?_)
   clear hK K
   refine norm_ (a' := ?_) ?_ ?_
   rotate_left
   ·show Act.put _ (some 6) _ = _
    simp only [Act.put, sa_, s0_, ss_, i64_w, i32_w]
    rfl
   refine one_ (i := 5) (N := some 27) ub6.a12 rfl rfl (one_of HT_.out (by kernel_rfl)) (by decide) (fun K hK => ?_)
   refine gs_ Try.func43 #[.slice A0_0 y1.length c0_0] ?_
   (with_reducible refine (spec_l05CopyBufs.calls _ _ _ y1 x0 _ ?q6s0 ?q6s1 Ac.out).mono ?_)
   (case q6s0 => exact (Kd.C_below HY1.out HL.out.bel))
   (case q6s1 => exact HD1.out)
   rintro e w8 ⟨v0, rfl, ho, hb⟩
   refine ⟨_, rfl, ?_⟩
   replace HL := am (HL.out.addT0 hb ho)
   clear hb ho
   obtain ⟨Ax0, cx0, ee_, -⟩ := Kd.T_slice (HL.out.gT 0)
   subst ee_
   refine hK.out _ _ ⟨bc (HL.out.bx 4) 0, bc (HL.out.bx 4) 1, bc (HL.out.bx 3) 0, bc (HL.out.bx 3) 1, bc (HL.out.bx 3) 2⟩ (fun hHeld => ?_)
   clear hK K
   refine norm_ (a' := ?_) ?_ ?_
   rotate_left
   ·show Act.put _ (some 27) _ = _
    simp only [Act.put, sa_, s0_, ss_, i64_w, i32_w]
    rfl
   refine one_ (i := 9) (N := some 31) ub6.a15 rfl rfl (one_of HT_.out (by kernel_rfl)) (by decide) (fun K hK => ?_)
   refine gs_ Try.func44 #[.slice A0_1 l0_1.length c0_1, .agg #[.slice A1_0 l1_0.length c1_0, .int .i64 a1_1, .int .i64 a1_2]] ?_
   (with_reducible refine (spec_l05Put.calls _ _ _ l0_1 _ _ l1_0 a1_1 a1_2 x1 _ ?q7s0 ?q7s1 ?q7s2 ?q7s3 Ap.out).mono ?_)
   (case q7s0 => exact (Kd.C_below HR1.out HL.out.bel))
   (case q7s1 => exact HC1.out)
   (case q7s2 => exact (Kd.C_below HR2.out HL.out.bel))
   (case q7s3 => exact HC2.out)
   rintro e w9 ⟨v1, rfl, ho, hb⟩
   refine ⟨_, rfl, ?_⟩
   replace HL := am (HL.out.addT hb ho)
   clear hb ho
   obtain ⟨Ax1, cx1, ee_, -⟩ := Kd.T_slice (HL.out.gT 0)
   subst ee_
   refine hK.out _ _ ⟨bc (HL.out.bx 5) 0, bc (HL.out.bx 5) 1, bc (HL.out.bx 4) 0, bc (HL.out.bx 4) 1, bc (HL.out.bx 4) 2⟩ (fun hHeld => ?_)
   clear hK K
   refine norm_ (a' := ?_) ?_ ?_
   rotate_left
   ·show Act.put _ (some 31) _ = _
    simp only [Act.put, sa_, s0_, ss_, i64_w, i32_w]
    rfl
   refine pu_ 10 (some 32) ?_ ub6.a14 rfl rfl HT_.out (by kernel_rfl) (fun _ _ _ h => h) (Or.inl ⟨by rfl, ?_⟩) ?_ ?_ ?_; rotate_left
   ·intro w'; go_simp; with_reducible rfl
   rotate_left
   ·simp only [Act.put, sa_, s0_, ss_, i64_w, i32_w]; rfl
   exact norm_ (by simp only [putAll, Act.put, sa_, s0_, ss_]) (hCont (Ax0, cx0, Ax1, cx1, B6) _ ⟨hHeld, (HL.out.pick [2, 0, 1, 3, 4, 5])⟩)
 rintro ⟨Ax0, cx0, Ax1, cx1, B6⟩ w40 ⟨hHeld, hl⟩
 dsimp only at hl ⊢
 replace HL := am hl
 clear hl
 refine norm_ (a' := ?_) ?_ ?_
 rotate_left
 ·simp only [putAll, Act.put, sa_, s0_, ss_, i64_w, i32_w]
  rfl
 refine one_ (i := 12) (N := none) ub6.a16 rfl rfl (one_of HT_.out (by kernel_rfl)) (by decide) (fun K hK => ?_)
 obtain ⟨y_0, z_0, y_1, z_1⟩ := cells2 (HL.out.bx 0)
 refine skip_ (w1 := putc w40 B6 0 [.slice Ax0 x0.length cx0, .slice Ax1 x1.length cx1]) (by rfl) rfl (by go_simp; rfl) ?_
 replace HL := am (HL.out.fil0 [.slice Ax0 x0.length cx0, .slice Ax1 x1.length cx1] rfl)
 clear y_0 z_0 y_1 z_1
 refine hK.out _ _ ⟨bc (HL.out.bx 5) 0, bc (HL.out.bx 5) 1, bc (HL.out.bx 4) 0, bc (HL.out.bx 4) 1, bc (HL.out.bx 4) 2⟩ (fun hHeld => ?_)
 clear hK K
 generalize putc w40 B6 0 [.slice Ax0 x0.length cx0, .slice Ax1 x1.length cx1] = w41 at HL hHeld ⊢
 refine done_ (done_of HT_.out (by kernel_rfl)) ?_
 go_wp2
 replace HL := am HL.out.drew
 obtain ⟨ad, Ae, ce, eA, hx0, hx1, hx2, hle, hie⟩ := at_T31 HR0.out (wrap64 ((l0_0.length : Int) - 1)) Q0.out Q2.out
 cases eA
 have HX0 := am hx0
 have HX1 := am hx1
 have HX2 := am hx2
 have HRe := am hie
 have HCe := am hle
 clear hx0 hx1 hx2 hie hle
 have v2 := eq_true Q2.out
 refine start_ (n := 10) (S := fun w' => w'.cell? ⟨B6, 0, none⟩ = some (.slice Ax0 x0.length cx0) ∧ w'.cell? ⟨B6, 1, none⟩ = some (.slice Ax1 x1.length cx1) ∧ w'.cell? ⟨B2, 0, none⟩ = some (.slice (some ad) l0_0.length c0_0) ∧ w'.cell? (ad.add ((wrap64 ((l0_0.length : Int) - 1)).toNat * 3)) = some (.slice Ae (rd_T31 l0_0 (wrap64 ((l0_0.length : Int) - 1))).f0.length ce) ∧ w'.cell? ⟨(ad.add ((wrap64 ((l0_0.length : Int) - 1)).toNat * 3)).block, (ad.add ((wrap64 ((l0_0.length : Int) - 1)).toNat * 3)).off + 1, none⟩ = some (.int .i64 (rd_T31 l0_0 (wrap64 ((l0_0.length : Int) - 1))).f1) ∧ w'.cell? ⟨(ad.add ((wrap64 ((l0_0.length : Int) - 1)).toNat * 3)).block, (ad.add ((wrap64 ((l0_0.length : Int) - 1)).toNat * 3)).off + 2, none⟩ = some (.int .i64 (rd_T31 l0_0 (wrap64 ((l0_0.length : Int) - 1))).f2)) (ds := []) ub7.a0 (by kernel_rfl) rfl rfl ⟨bc (HL.out.bx 0) 0, bc (HL.out.bx 0) 1, bc (HL.out.bx 5) 0, HL.out.cel HX0.out, HL.out.cel HX1.out, HL.out.cel HX2.out⟩ (fun hHeld => ?_); refine with_tabW ub7.tab ub7.bits (fun HT_ HW_ => ?_)
 generalize w41.drew = w42 at HL hHeld ⊢
 refine pu_ 1 (some 34) ?_ ub7.a1 rfl rfl HT_.out (by kernel_rfl) (fun _ _ _ h => h) (Or.inl ⟨by rfl, ?_⟩) ?_ ?_ ?_; rotate_left
 ·intro w'; go_simp; with_reducible rfl
 rotate_left
 ·simp only [Act.put, sa_, s0_, ss_, i64_w, i32_w]; rfl
 refine pu_ 3 (some 36) ?_ ub7.a2 rfl rfl HT_.out (by kernel_rfl) (fun _ _ _ h => h) (Or.inl ⟨by rfl, ?_⟩) ?_ ?_ ?_; rotate_left
 ·intro w'; go_simp; with_reducible rfl
 rotate_left
 ·simp only [Act.put, sa_, s0_, ss_, i64_w, i32_w]; rfl
 refine pu_ 4 (some 37) ?_ ub7.a3 rfl rfl HT_.out (by kernel_rfl) (fun _ _ _ h => h) (Or.inl ⟨by rfl, ?_⟩) ?_ ?_ ?_; rotate_left
 ·intro w'; go_simp; with_reducible rfl
 rotate_left
 ·simp only [Act.put, sa_, s0_, ss_, i64_w, i32_w]; rfl
 refine tk_ 0 (some 33) ?_ ub7.a4 rfl rfl HT_.out HW_.out (by kernel_rfl) (fun _ _ _ h => h) (Or.inl ⟨by rfl, ?_⟩) hHeld ?_ ?_ ?_; rotate_left
 ·rintro w' ⟨s0, s1, s2, s3, s4, s5⟩; go_simp; with_reducible rfl
 rotate_left
 ·simp only [Act.put, sa_, s0_, ss_, i64_w, i32_w]; rfl
 refine tk_ 2 (some 35) ?_ ub7.a5 rfl rfl HT_.out HW_.out (by kernel_rfl) (fun _ _ _ h => h) (Or.inl ⟨by rfl, ?_⟩) hHeld ?_ ?_ ?_; rotate_left
 ·rintro w' ⟨s0, s1, s2, s3, s4, s5⟩; go_simp; with_reducible rfl
 rotate_left
 ·simp only [Act.put, sa_, s0_, ss_, i64_w, i32_w]; rfl
 refine pu_ 5 (some 38) ?_ ub7.a6 rfl rfl HT_.out (by kernel_rfl) (fun _ _ _ h => h) (Or.inl ⟨by rfl, ?_⟩) ?_ ?_ ?_; rotate_left
 ·intro w'; go_simp; with_reducible rfl
 rotate_left
 ·simp only [Act.put, sa_, s0_, ss_, i64_w, i32_w]; rfl
 refine tk_ 6 (some 39) ?_ ub7.a7 rfl rfl HT_.out HW_.out (by kernel_rfl) (fun _ _ _ h => h) (Or.inl ⟨by rfl, ?_⟩) hHeld ?_ ?_ ?_; rotate_left
 ·rintro w' ⟨s0, s1, s2, s3, s4, s5⟩; go_simp; with_reducible rfl
 rotate_left
 ·simp only [Act.put, sa_, s0_, ss_, i64_w, i32_w]; rfl
 refine one_ (i := 7) (N := some 40) ub7.a8 rfl rfl (one_of HT_.out (by kernel_rfl)) (by decide) (fun K hK => ?_)
 refine gs_ Try.func20 #[.agg #[.slice Ae (rd_T31 l0_0 (wrap64 ((l0_0.length : Int) - 1))).f0.length ce, .int .i64 (rd_T31 l0_0 (wrap64 ((l0_0.length : Int) - 1))).f1, .int .i64 (rd_T31 l0_0 (wrap64 ((l0_0.length : Int) - 1))).f2]] ?_
 (with_reducible refine (spec_l02Copy.calls _ _ _ _ _ x2 x3 x4 _ ?q8s0 ?q8s1 Ab.out).mono ?_)
 (case q8s0 => exact (Kd.C_below HRe.out HL.out.bel))
 (case q8s1 => exact HCe.out)
 rintro e w43 ⟨v2_, rfl, ho, hb⟩
 refine ⟨_, rfl, ?_⟩
 replace HL := am (HL.out.addR hb ho)
 clear hb ho
 obtain ⟨Ax2, cx2, ee_⟩ := Kd.R_slice (HL.out.gR 0)
 subst ee_
 refine hK.out _ _ ⟨bc (HL.out.bx 1) 0, bc (HL.out.bx 1) 1, bc (HL.out.bx 6) 0, HL.out.cel HX0.out, HL.out.cel HX1.out, HL.out.cel HX2.out⟩ (fun hHeld => ?_)
 clear hK K
 refine norm_ (a' := ?_) ?_ ?_
 rotate_left
 ·show Act.put _ (some 40) _ = _
  simp only [Act.put, sa_, s0_, ss_, i64_w, i32_w]
  rfl
 refine pu_ 8 (some 41) ?_ ub7.a9 rfl rfl HT_.out (by kernel_rfl) (fun _ _ _ h => h) (Or.inl ⟨by rfl, ?_⟩) ?_ ?_ ?_; rotate_left
 ·intro w'; go_simp; with_reducible rfl
 rotate_left
 ·simp only [Act.put, sa_, s0_, ss_, i64_w, i32_w]; rfl
 refine one_ (i := 9) (N := none) ub7.a10 rfl rfl (one_of HT_.out (by kernel_rfl)) (by decide) (fun K hK => ?_)
 obtain ⟨y_0, z_0, y_1, z_1, y_2, z_2, y_3, z_3, y_4, z_4, y_5, z_5⟩ := cells6 (HL.out.bx 4)
 refine skip_ (w1 := putc w43 B4 0 [.slice Ax0 x0.length cx0, .slice Ax1 x1.length cx1, .slice Ax2 x2.length cx2, .int .i64 x3, .int .i64 x4, .int .i64 0]) (by rfl) rfl (by go_simp; rfl) ?_
 replace HL := am (HL.out.fil 4 0 [.slice Ax0 x0.length cx0, .slice Ax1 x1.length cx1, .slice Ax2 x2.length cx2, .int .i64 x3, .int .i64 x4, .int .i64 0] rfl)
 clear y_0 z_0 y_1 z_1 y_2 z_2 y_3 z_3 y_4 z_4 y_5 z_5
 refine hK.out _ _ ⟨bc (HL.out.bx 1) 0, bc (HL.out.bx 1) 1, bc (HL.out.bx 6) 0, HL.out.cel HX0.out, HL.out.cel HX1.out, HL.out.cel HX2.out⟩ (fun hHeld => ?_)
 clear hK K
 generalize putc w43 B4 0 [.slice Ax0 x0.length cx0, .slice Ax1 x1.length cx1, .slice Ax2 x2.length cx2, .int .i64 x3, .int .i64 x4, .int .i64 0] = w44 at HL hHeld ⊢
 refine done_ (done_of HT_.out (by kernel_rfl)) ?_
 go_wp2
 refine bodyPost_ret (results_cell_row rfl _ _ B4 33 #[.slice Ax0 x0.length cx0, .slice Ax1 x1.length cx1, .slice Ax2 x2.length cx2, .int .i64 x3, .int .i64 x4, .int .i64 0] (0, 0) _ rfl (HL.out.bx 4) Try.underlying33 rfl (by kernel_rfl)) rfl ?_
 exact ⟨_, _, _, by first | rfl | (simp; done), (HL.out.pick [3, 2, 0])⟩

/-! ### spec_l02Moved: function 65 -/
def spec_l02Moved.f (a0 : Int) (a1 : Int) (a2 : Int) (a3 : Int) : Option (Int) := if a0 ≤ a1 then (some a0) else (if a0 < a2 then (some a1) else (some (wrap64 (a0 + a3))))
theorem spec_l02Moved.calls (a0 : Int) (a1 : Int) (a2 : Int) (a3 : Int) (r : Int) (w : World) (h : spec_l02Moved.f a0 a1 a2 a3 = some r) :
  Calls Try.prog 65 #[.int .i64 a0, .int .i64 a1, .int .i64 a2, .int .i64 a3] w fun e w' => e = .returned (.int .i64 r) ∧ Drawn0 w w' := by
 have H : (if a0 ≤ a1 then (some a0) else (if a0 < a2 then (some a1) else (some (wrap64 (a0 + a3))))) = some r := h
 clear h
 by_cases c5 : a0 ≤ a1
 ·rw [if_pos c5] at H
  have c5b0 : decide (a0 ≤ a1) = true := decide_eq_true c5
  clear c5
  obtain rfl := Option.some.inj H
  go_enter Try.func65, Try.ntmps65
  go_wp2
  go_ret
  exact ⟨by first | rfl | (simp; done) | (simp [*]; done), by repeat (first | exact Drawn0.refl _ | apply Drawn0.step)⟩
 ·rw [if_neg c5] at H
  have c5b0 : decide (a0 ≤ a1) = false := decide_eq_false c5
  clear c5
  by_cases c6 : a0 < a2
  ·rw [if_pos c6] at H
   have c6b0 : decide (a0 < a2) = true := decide_eq_true c6
   clear c6
   obtain rfl := Option.some.inj H
   go_enter Try.func65, Try.ntmps65
   go_wp2
   go_ret
   exact ⟨by first | rfl | (simp; done) | (simp [*]; done), by repeat (first | exact Drawn0.refl _ | apply Drawn0.step)⟩
  ·rw [if_neg c6] at H
   have c6b0 : decide (a0 < a2) = false := decide_eq_false c6
   clear c6
   obtain rfl := Option.some.inj H
   go_enter Try.func65, Try.ntmps65
   go_wp2
   go_ret
   exact ⟨by first | rfl | (simp; done) | (simp [*]; done), by repeat (first | exact Drawn0.refl _ | apply Drawn0.step)⟩

end Go.Proofs.Ytabinbmcfeknjaa.PFnExactUndoRun
