-- Written by xprint.py (this claim's own program, over the kit's printer); Lean checks it.
import Derived.Test.YtabinbmcfeknjaaPFnExactUndoRunx0
import Derived.Test.YtabinbmcfeknjaaPFnExactUndoRunx1
import Derived.Test.YtabinbmcfeknjaaPFnExactUndoRunx2
import Derived.Test.YtabinbmcfeknjaaPFnExactUndoRunx3
namespace Go.Proofs.Ytabinbmcfeknjaa.PFnExactUndoRun
open Go.RowKit Go.Proofs.YtabinbmcfeknjaaW.PrintWords Go.Proofs.YtabinbmcfeknjaaW.PrintLast Go.Proofs.YtabinbmcfeknjaaW.PrintMore
attribute [local go_sem] max2_int min2_int max_two min_two max_three min_three max_four min_four   -- for this text's walks alone
set_option linter.unusedVariables false
set_option linter.unusedSimpArgs false   -- squeezed
set_option maxHeartbeats 8000000
set_option maxRecDepth 100000

/-! ### spec_BufInsert: function 22 -/
def spec_BufInsert.f (k : Nat) (l0_0 : List Int) (a0_1 : Int) (a0_2 : Int) (l1 : List Int) : Option (List Int × Int × Int × List Int × Int) := (spec_BufReplace.f k l0_0 a0_1 a0_2 a0_1 a0_1 l1).bind fun bt180 => (some (bt180.1, bt180.2.1, bt180.2.2.1, bt180.2.2.2.1, bt180.2.2.2.2))
theorem spec_BufInsert.calls (k : Nat) (A0_0 : Option Addr) (c0_0 : Nat) (l0_0 : List Int) (a0_1 : Int) (a0_2 : Int) (A1 : Option Addr) (c1 : Nat) (l1 : List Int) (r1 : List Int) (r2 : Int) (r3 : Int) (r4 : List Int) (r5 : Int) (w : World) (hr0_0 : Kd.C (Kd.int .i64) w A0_0 l0_0.length l0_0) (hc0_0 : l0_0.length ≤ c0_0) (hr1 : Kd.C (Kd.int .i64) w A1 l1.length l1) (hc1 : l1.length ≤ c1) (h : spec_BufInsert.f k l0_0 a0_1 a0_2 l1 = some (r1, r2, r3, r4, r5)) :
  Calls Try.prog 22 #[.agg #[.slice A0_0 l0_0.length c0_0, .int .i64 a0_1, .int .i64 a0_2], .slice A1 l1.length c1] w fun e w' => ∃ v0_ v3_ : Value, e = .returned (.agg #[v0_, .int .i64 r2, .int .i64 r3, v3_, .int .i64 r5]) ∧ Kd.R (Kd.int .i64) 2 w' w.heap.size (fun k_ => some k_ ≠ (v3_ : Value).ownBlock) v0_ r1 ∧ Kd.R (Kd.int .i64) 2 w' w.heap.size (fun k_ => some k_ ≠ (v0_ : Value).ownBlock) v3_ r4 ∧ Below w.heap.size w w' := by
 have hu31 := Try.underlying31
 have hu49 := Try.underlying49
 have HR0_0 := am hr0_0
 have HC0_0 := am hc0_0
 clear hr0_0 hc0_0
 have HR1 := am hr1
 have HC1 := am hc1
 clear hr1 hc1
 have HB := am (Below.refl w.heap.size w)
 have H : ((spec_BufReplace.f k l0_0 a0_1 a0_2 a0_1 a0_1 l1).bind fun bt180 => (some (bt180.1, bt180.2.1, bt180.2.2.1, bt180.2.2.2.1, bt180.2.2.2.2))) = some (r1, r2, r3, r4, r5) := h
 clear h
 replace H := Option.bind_eq_some_iff.mp H
 obtain ⟨⟨t180, t183, t184, t185, t188⟩, A30, H⟩ := H
 replace H : (some (t180, t183, t184, t185, t188)) = some (r1, r2, r3, r4, r5) := H
 have A3 := Aside0.mk A30
 clear A30
 simp only [Option.some.injEq, Prod.mk.injEq] at H
 obtain ⟨rfl, rfl, rfl, rfl, rfl⟩ := H
 go_enter Try.func22, Try.ntmps22
 go_wp2_with (first | ((with_reducible refine gate_dst (N := 2) rfl ?_); refine box_event ?hg (N := 2) ?hd (cs := #[.slice A0_0 l0_0.length c0_0, .int .i64 a0_1, .int .i64 a0_2]) (t := 31) ?hr ?_; (case hd => rfl); (case hg => rfl); (case hr => first | (go_simp; done) | (go_simp; rfl)); intro gb178 hg w4 hbox hb; have BK178 := am (hbox); have GW178 := am ((by rw [hg]; exact (below_size (bl HB.out)) : w.heap.size ≤ gb178)); have GE178 := GW178; replace HB := am (below_step (bl HB.out) hb); clear hb hbox hg) | ((with_reducible refine gate_dst (N := 4) rfl ?_); refine box_event ?hg (N := 4) ?hd (cs := #[.slice none 0 0, .int .i64 0, .int .i64 0, .slice none 0 0, .int .i64 0]) (t := 49) ?hr ?_; (case hd => rfl); (case hg => rfl); (case hr => first | (go_simp; done) | (go_simp; rfl)); intro gb179 hg w5 hbox hb; have BK179 := am (hbox); have GW179 := am ((by rw [hg]; exact (below_size (bl HB.out)) : w.heap.size ≤ gb179)); have GE179 := GW179; replace HB := am (below_step (bl HB.out) hb); have NB178_179 := am ((by rw [hg]; exact Nat.ne_of_lt (blk_lt (pk BK178.out)) : gb178 ≠ gb179)); have NB179_178 := am ((by rw [hg]; exact Nat.ne_of_gt (blk_lt (pk BK178.out)) : gb179 ≠ gb178)); replace BK178 := am (blk_below (pk BK178.out) hb); clear hb hbox hg; have hnb6 := NB178_179.out; have hnc6 := NB179_178.out; have hcz7_0 : w5.cell? ⟨gb178, 0, none⟩ = some (.slice A0_0 l0_0.length c0_0) := bc BK178.out 0; have hcz7_1 : w5.cell? ⟨gb178, 1, none⟩ = some (.int .i64 a0_1) := bc BK178.out 1; have hcz7_2 : w5.cell? ⟨gb178, 2, none⟩ = some (.int .i64 a0_2) := bc BK178.out 2; have hfz7_0 := blk_frozen BK178.out 0; have hfz7_1 := blk_frozen BK178.out 1; have hfz7_2 := blk_frozen BK178.out 2) | ((with_reducible refine gate_callee (f := 45) rfl ?_); refine gl (some 11) Try.func45 #[.agg #[.slice A0_0 l0_0.length c0_0, .int .i64 a0_1, .int .i64 a0_2], .int .i64 a0_1, .int .i64 a0_1, .slice A1 l1.length c1] ?_; (with_reducible refine (spec_BufReplace.calls k _ _ l0_0 a0_1 a0_2 a0_1 a0_1 _ _ l1 t180 t183 t184 t185 t188 _ ?side1 ?side2 ?side3 ?side4 A3.out).mono ?_); (case side1 => repeat (first | exact (Kd.C_below HR0_0.out HB.out) | (with_reducible refine Kd.C_alloc ?_ _) | (with_reducible refine Kd.C_drewN ?_ _) | (with_reducible refine Kd.C_drew ?_))); (case side2 => exact HC0_0.out); (case side3 => repeat (first | exact (Kd.C_below HR1.out HB.out) | (with_reducible refine Kd.C_alloc ?_ _) | (with_reducible refine Kd.C_drewN ?_ _) | (with_reducible refine Kd.C_drew ?_))); (case side4 => exact HC1.out); rintro e w8 ⟨v181, v186, rfl, ho0, ho1, hb⟩; refine ⟨_, rfl, ?_⟩; have HO182 := am (Kd.R_lower ho0 (below_size (bl HB.out))); have HO187 := am (Kd.R_lower ho1 (below_size (bl HB.out))); replace BK178 := am (blk_below (pk BK178.out) hb); replace BK179 := am (blk_below (pk BK179.out) hb); replace HB := am (below_step (bl HB.out) hb); (try clear hb); (try clear hb2); (try clear hk); (try clear hi); (try clear ho0); (try clear ho1); obtain ⟨Ao9, co9, eo9⟩ := Kd.R_slice HO182.out; subst eo9; have hcz10_0 : w8.cell? ⟨gb179, 0, none⟩ = some (.slice none 0 0) := bc BK179.out 0; have hcz10_1 : w8.cell? ⟨gb179, 1, none⟩ = some (.int .i64 0) := bc BK179.out 1; have hcz10_2 : w8.cell? ⟨gb179, 2, none⟩ = some (.int .i64 0) := bc BK179.out 2; have hcz10_3 : w8.cell? ⟨gb179, 3, none⟩ = some (.slice none 0 0) := bc BK179.out 3; have hcz10_4 : w8.cell? ⟨gb179, 4, none⟩ = some (.int .i64 0) := bc BK179.out 4; have hfz10_0 := blk_frozen BK179.out 0; have hfz10_1 := blk_frozen BK179.out 1; have hfz10_2 := blk_frozen BK179.out 2; have hfz10_3 := blk_frozen BK179.out 3; have hfz10_4 := blk_frozen BK179.out 4; obtain ⟨Ao11, co11, eo11⟩ := Kd.R_slice HO187.out; subst eo11))
 refine bodyPost_ret (results_cell_row rfl _ _ gb179 49 #[.slice Ao9 t180.length co9, .int .i64 t183, .int .i64 t184, .slice Ao11 t185.length co11, .int .i64 t188] (0, 0) _ rfl (by refine pk ?_; refine blk_put (cs := #[.slice Ao9 t180.length co9, .int .i64 t183, .int .i64 t184, .slice Ao11 t185.length co11, .int .i64 0]) ?_ 4 _ rfl; refine pk ?_; refine blk_put (cs := #[.slice Ao9 t180.length co9, .int .i64 t183, .int .i64 t184, .slice none 0 0, .int .i64 0]) ?_ 3 _ rfl; refine pk ?_; refine blk_put (cs := #[.slice Ao9 t180.length co9, .int .i64 t183, .int .i64 0, .slice none 0 0, .int .i64 0]) ?_ 2 _ rfl; refine pk ?_; refine blk_put (cs := #[.slice Ao9 t180.length co9, .int .i64 0, .int .i64 0, .slice none 0 0, .int .i64 0]) ?_ 1 _ rfl; refine pk ?_; refine blk_put (cs := #[.slice none 0 0, .int .i64 0, .int .i64 0, .slice none 0 0, .int .i64 0]) ?_ 0 _ rfl; refine pk ?_; exact BK179.out) Try.underlying49 rfl (by kernel_rfl)) rfl ?_
 exact ⟨_, _, by first | rfl | (simp [errW_none, errW_some] <;> rfl) | (simp [*, errW_none, errW_some] <;> rfl), kr (Kd.R_mono (Kd.R_far (p := ⟨gb179, 4, none⟩) (Kd.R_far (p := ⟨gb179, 3, none⟩) (Kd.R_far (p := ⟨gb179, 2, none⟩) (Kd.R_far (p := ⟨gb179, 1, none⟩) (Kd.R_far (p := ⟨gb179, 0, none⟩) (Kd.R_types HO182.out BK179.out (by decide)) (fun _ hk => hk.2) (.slice Ao9 t180.length co9)) (fun _ hk => hk.2) (.int .i64 t183)) (fun _ hk => hk.2) (.int .i64 t184)) (fun _ hk => hk.2) (.slice Ao11 t185.length co11)) (fun _ hk => hk.2) (.int .i64 t188)) (fun _ hk => hk.1)), kr (Kd.R_mono (Kd.R_far (p := ⟨gb179, 4, none⟩) (Kd.R_far (p := ⟨gb179, 3, none⟩) (Kd.R_far (p := ⟨gb179, 2, none⟩) (Kd.R_far (p := ⟨gb179, 1, none⟩) (Kd.R_far (p := ⟨gb179, 0, none⟩) (Kd.R_types HO187.out BK179.out (by decide)) (fun _ hk => hk.2) (.slice Ao9 t180.length co9)) (fun _ hk => hk.2) (.int .i64 t183)) (fun _ hk => hk.2) (.int .i64 t184)) (fun _ hk => hk.2) (.slice Ao11 t185.length co11)) (fun _ hk => hk.2) (.int .i64 t188)) (fun _ hk => hk.1)), by repeat (first | (with_reducible first | exact HB.out | apply below_alloc | apply pw_below_drewN | apply below_drew1 | refine below_set ?_ GE178.out | refine below_set ?_ GE179.out) | exact HB.out)⟩

/-! ### spec_l05Copy: function 46 -/
section
variable {α : Type} {d : Kd α} {e : Nat} {w w1 w2 W : World} {base a b c b' : Nat} {ok T S : Nat → Prop} {v : Value} {xs : List α}
theorem nxt_ (h : Below w.heap.size w w2) : ∃ a b : Nat, a = w.heap.size ∧ b = w2.heap.size ∧ a ≤ b := ⟨_, _, rfl, rfl, h.size⟩
end
def spec_l05Copy.f (k : Nat) (l0_0 : List (S31)) (l0_1 : List (S31)) : Option ((List (S31)) × (List (S31))) := (spec_l05CopyBufs.f k l0_0).bind fun t191 => ((spec_l05CopyBufs.f k l0_1).bind fun t194 => (some (t191, t194)))
def spec_l05Copy.T1 : Bool × List (List Nat × List Nat) := (true, [([], []), ([0], [0]), ([1], [1]), ([], []), ([3], [3]), ([4, 2], [4]), ([2, 5], [2, 5]), ([6, 5, 0, 1, 2, 3, 4, 5, 6], [6])])
def spec_l05Copy.B1 : List Nat := [0, 1, 3, 0, 8, 31, 63, 127]
theorem spec_l05Copy.tab1 : rtab .any (opsOf Try.f46 1) = spec_l05Copy.T1 := by kernel_rfl
theorem spec_l05Copy.bits1 : waitsOk spec_l05Copy.T1.2 spec_l05Copy.B1 = true := by kernel_rfl
theorem spec_l05Copy.callsA (k : Nat) (A0_0 : Option Addr) (c0_0 : Nat) (l0_0 : List (S31)) (A0_1 : Option Addr) (c0_1 : Nat) (l0_1 : List (S31)) (r1 : List (S31)) (r2 : List (S31)) (w : World) (hr0_0 : Kd.C k31 w A0_0 l0_0.length l0_0) (hc0_0 : l0_0.length ≤ c0_0) (hr0_1 : Kd.C k31 w A0_1 l0_1.length l0_1) (hc0_1 : l0_1.length ≤ c0_1) (h : spec_l05Copy.f k l0_0 l0_1 = some (r1, r2)) :
  Calls Try.prog 46 #[.agg #[.slice A0_0 l0_0.length c0_0, .slice A0_1 l0_1.length c0_1]] w fun e w' => ∃ m1_ : Nat, (w.heap.size ≤ m1_ ∧ m1_ ≤ w'.heap.size) ∧ ∃ v0_ v1_ : Value, e = .returned (.agg #[v0_, v1_]) ∧ Kd.S k31 31 w' w.heap.size (fun k_ => k_ < m1_) v0_ r1 ∧ Kd.S k31 31 w' w.heap.size (fun k_ => m1_ ≤ k_) v1_ r2 ∧ Below w.heap.size w w' := by
 have hu30 := Try.underlying30
 have HR0_0 := am hr0_0
 have HC0_0 := am hc0_0
 clear hr0_0 hc0_0
 have HR0_1 := am hr0_1
 have HC0_1 := am hc0_1
 clear hr0_1 hc0_1
 have HB := am (Below.refl w.heap.size w)
 have H : ((spec_l05CopyBufs.f k l0_0).bind fun t191 => ((spec_l05CopyBufs.f k l0_1).bind fun t194 => (some (t191, t194)))) = some (r1, r2) := h
 clear h
 replace H := Option.bind_eq_some_iff.mp H
 obtain ⟨t191, A20, H⟩ := H
 replace H : ((spec_l05CopyBufs.f k l0_1).bind fun t194 => (some (t191, t194))) = some (r1, r2) := H
 have A2 := Aside0.mk A20
 clear A20
 replace H := Option.bind_eq_some_iff.mp H
 obtain ⟨t194, A30, H⟩ := H
 replace H : (some (t191, t194)) = some (r1, r2) := H
 have A3 := Aside0.mk A30
 clear A30
 simp only [Option.some.injEq, Prod.mk.injEq] at H
 obtain ⟨rfl, rfl⟩ := H
 go_enter Try.func46, Try.ntmps46
 try go_wp2_with (first | ((with_reducible refine gate_dst (N := 1) rfl ?_); refine box_event ?hg (N := 1) ?hd (cs := #[.slice A0_0 l0_0.length c0_0, .slice A0_1 l0_1.length c0_1]) (t := 30) ?hr ?_; (case hd => rfl); (case hg => rfl); (case hr => first | (go_simp; done) | (go_simp; rfl)); intro gb189 hg w4 hbox hb; have BK189 := am (hbox); have GW189 := am ((by rw [hg]; exact (below_size (bl HB.out)) : w.heap.size ≤ gb189)); have GE189 := GW189; replace HB := am (below_step (bl HB.out) hb); clear hb hbox hg) | ((with_reducible refine gate_dst (N := 2) rfl ?_); refine box_event ?hg (N := 2) ?hd (cs := #[.slice none 0 0, .slice none 0 0]) (t := 30) ?hr ?_; (case hd => rfl); (case hg => rfl); (case hr => first | (go_simp; done) | (go_simp; rfl)); intro gb190 hg w5 hbox hb; have BK190 := am (hbox); have GW190 := am ((by rw [hg]; exact (below_size (bl HB.out)) : w.heap.size ≤ gb190)); have GE190 := GW190; replace HB := am (below_step (bl HB.out) hb); have NB189_190 := am ((by rw [hg]; exact Nat.ne_of_lt (blk_lt (pk BK189.out)) : gb189 ≠ gb190)); have NB190_189 := am ((by rw [hg]; exact Nat.ne_of_gt (blk_lt (pk BK189.out)) : gb190 ≠ gb189)); replace BK189 := am (blk_below (pk BK189.out) hb); clear hb hbox hg))
 replace BK189 := am (blk_drew BK189.out)
 replace BK190 := am (blk_drew BK190.out)
 replace HB := am (below_drew1 HB.out)
 refine start_ (n := 8) (S := fun w' => w'.cell? ⟨gb189, 0, none⟩ = some (.slice A0_0 l0_0.length c0_0) ∧ w'.cell? ⟨gb189, 1, none⟩ = some (.slice A0_1 l0_1.length c0_1)) (ds := []) #[false, false, false, false, false, false, false, false] (by kernel_rfl) rfl rfl ⟨bc BK189.out 0, bc BK189.out 1⟩ (fun hHeld => ?_); refine with_tabW spec_l05Copy.tab1 spec_l05Copy.bits1 (fun HT_ HW_ => ?_)
 generalize w5.drew = w6 at BK189 BK190 HB hHeld ⊢
 refine pure_ (i := 0) (N := some 3) (v := ?_) (a' := ?_) #[true, false, false, false, false, false, false, false] rfl rfl (any_of HT_.out (by kernel_rfl)) (fun _ _ _ h => h) (Or.inl ⟨by rfl, ?_⟩) ?_ ?_; rotate_left
 ·intro w'; go_simp; with_reducible rfl
 rotate_left
 ·simp only [Act.put, sa_, s0_, ss_, i64_w, i32_w]; rfl
 refine pure_ (i := 3) (N := some 6) (v := ?_) (a' := ?_) #[true, false, false, true, false, false, false, false] rfl rfl (any_of HT_.out (by kernel_rfl)) (fun _ _ _ h => h) (Or.inl ⟨by rfl, ?_⟩) ?_ ?_; rotate_left
 ·intro w'; go_simp; with_reducible rfl
 rotate_left
 ·simp only [Act.put, sa_, s0_, ss_, i64_w, i32_w]; rfl
 refine take_ (i := 1) (N := some 4) (v := ?_) (a' := ?_) #[true, true, false, true, false, false, false, false] rfl rfl (take_ofW HT_.out HW_.out (by kernel_rfl)) (fun _ _ _ h => h) (Or.inl ⟨by rfl, ?_⟩) hHeld ?_ ?_; rotate_left
 ·rintro w' ⟨s0, s1⟩; go_simp; with_reducible rfl
 rotate_left
 ·simp only [Act.put, sa_, s0_, ss_, i64_w, i32_w]; rfl
 refine take_ (i := 4) (N := some 7) (v := ?_) (a' := ?_) #[true, true, false, true, true, false, false, false] rfl rfl (take_ofW HT_.out HW_.out (by kernel_rfl)) (fun _ _ _ h => h) (Or.inl ⟨by rfl, ?_⟩) hHeld ?_ ?_; rotate_left
 ·rintro w' ⟨s0, s1⟩; go_simp; with_reducible rfl
 rotate_left
 ·simp only [Act.put, sa_, s0_, ss_, i64_w, i32_w]; rfl
 refine one_ (i := 2) (N := some 5) #[true, true, true, true, true, false, false, false] rfl rfl (one_of HT_.out (by kernel_rfl)) (by decide) (fun K hK => ?_)
 refine gs_ Try.func43 #[.slice A0_0 l0_0.length c0_0] ?_
 with_reducible refine (spec_l05CopyBufs.calls k _ _ l0_0 t191 _ ?side1 ?side2 A2.out).mono ?_
 (case side1 => repeat (first | exact (Kd.C_below HR0_0.out HB.out) | (with_reducible refine Kd.C_alloc ?_ _) | (with_reducible refine Kd.C_drewN ?_ _) | (with_reducible refine Kd.C_drew ?_)))
 (case side2 => exact HC0_0.out)
 rintro e w7 ⟨v192, rfl, ho0, hb⟩
 refine ⟨_, rfl, ?_⟩
 have HO193 := am (Kd.S_lower ho0 (below_size (bl HB.out)))
 replace BK189 := am (blk_below (pk BK189.out) hb)
 replace BK190 := am (blk_below (pk BK190.out) hb)
 replace HB := am (below_step (bl HB.out) hb)
 (try clear hb)
 (try clear hb2)
 (try clear hk)
 (try clear hi)
 (try clear ho0)
 refine hK.out _ _ ⟨bc BK189.out 0, bc BK189.out 1⟩ (fun hHeld => ?_)
 clear hK K
 refine norm_ (a' := ?_) ?_ ?_
 rotate_left
 ·show Act.put _ (some 5) _ = _
  simp only [Act.put, sa_, s0_, ss_, i64_w, i32_w]
  rfl
 refine one_ (i := 5) (N := some 8) #[true, true, true, true, true, true, false, false] rfl rfl (one_of HT_.out (by kernel_rfl)) (by decide) (fun K hK => ?_)
 refine gs_ Try.func43 #[.slice A0_1 l0_1.length c0_1] ?_
 with_reducible refine (spec_l05CopyBufs.calls k _ _ l0_1 t194 _ ?side1 ?side2 A3.out).mono ?_
 (case side1 => repeat (first | exact (Kd.C_below HR0_1.out HB.out) | (with_reducible refine Kd.C_alloc ?_ _) | (with_reducible refine Kd.C_drewN ?_ _) | (with_reducible refine Kd.C_drew ?_)))
 (case side2 => exact HC0_1.out)
 rintro e w8 ⟨v195, rfl, ho0, hb⟩
 obtain ⟨m1_, mb1_, ha1_, hz1_, hc1_⟩ := nxt_ hb
 have hw1_ : w.heap.size ≤ m1_ := (by rw [ha1_]; exact below_size (bl HB.out))
 refine ⟨_, rfl, ?_⟩
 have HO196 := am (Kd.S_mono (ok' := fun k_ => m1_ ≤ k_) (Kd.S_lower (Kd.S_new' (Kd.S_bound ho0) (Kd.S_lt (ks HO193.out))) (below_size (bl HB.out))) (fun _ hk => by rw [ha1_]; exact hk.1.2.1))
 replace HO193 := am (Kd.S_mono (ok' := fun k_ => k_ < m1_) (Kd.S_elder' (Kd.S_bound (ks HO193.out)) (Kd.S_base ho0) hb) (fun _ hk => by rw [ha1_]; exact hk.1.2.2.1))
 replace BK189 := am (blk_below (pk BK189.out) hb)
 replace BK190 := am (blk_below (pk BK190.out) hb)
 replace HB := am (below_step (bl HB.out) hb)
 (try clear hb)
 (try clear hb2)
 (try clear hk)
 (try clear hi)
 (try clear ho0)
 obtain ⟨Ao9, co9, eo9⟩ := Kd.S_slice HO196.out
 (first | subst eo9 | (injection eo9 with f1_ f2_ f3_; have f4_ := f1_.symm; have f5_ := f3_.symm; clear f1_ f2_ f3_; subst f4_; subst f5_))
 obtain ⟨Ao10, co10, eo10⟩ := Kd.S_slice HO193.out
 (first | subst eo10 | (injection eo10 with f1_ f2_ f3_; have f4_ := f1_.symm; have f5_ := f3_.symm; clear f1_ f2_ f3_; subst f4_; subst f5_))
 refine hK.out _ _ ⟨bc BK189.out 0, bc BK189.out 1⟩ (fun hHeld => ?_)
 clear hK K
 refine norm_ (a' := ?_) ?_ ?_
 rotate_left
 ·show Act.put _ (some 8) _ = _
  simp only [Act.put, sa_, s0_, ss_, i64_w, i32_w]
  rfl
 refine pure_ (i := 6) (N := some 9) (v := ?_) (a' := ?_) #[true, true, true, true, true, true, true, false] rfl rfl (any_of HT_.out (by kernel_rfl)) (fun _ _ _ h => h) (Or.inl ⟨by rfl, ?_⟩) ?_ ?_; rotate_left
 ·intro w'; go_simp; with_reducible rfl
 rotate_left
 ·simp only [Act.put, sa_, s0_, ss_, i64_w, i32_w]; rfl
 refine one_ (i := 7) (N := none) #[true, true, true, true, true, true, true, true] rfl rfl (one_of HT_.out (by kernel_rfl)) (by decide) (fun K hK => ?_)
 have hs11 : w8.cell? ⟨gb190, 0, none⟩ = some (.slice none 0 0) := bc BK190.out 0
 have hfs11 := blk_frozen BK190.out 0
 have hns11_0 := NB189_190.out
 have hms11_0 := NB190_189.out
 have hs12 : w8.cell? ⟨gb190, 1, none⟩ = some (.slice none 0 0) := bc BK190.out 1
 have hfs12 := blk_frozen BK190.out 1
 refine skip_ (w1 := ?_) (by rfl) rfl ?_ ?_
 rotate_left
 ·go_simp
  rfl
 refine hK.out _ _ ⟨((cell_far (p := ⟨gb190, _, none⟩) NB189_190.out _).trans (((cell_far (p := ⟨gb190, _, none⟩) NB189_190.out _).trans (hHeld.1)))), ((cell_far (p := ⟨gb190, _, none⟩) NB189_190.out _).trans (((cell_far (p := ⟨gb190, _, none⟩) NB189_190.out _).trans (hHeld.2))))⟩ (fun hHeld => ?_)
 clear hK K
 refine done_ (done_of HT_.out (by kernel_rfl)) ?_
 try go_wp2
 refine bodyPost_ret (results_cell_row rfl _ _ gb190 30 #[.slice Ao10 t191.length co10, .slice Ao9 t194.length co9] (0, 0) _ rfl (by refine pk ?_; refine blk_put (cs := #[.slice Ao10 t191.length co10, .slice none 0 0]) ?_ 1 _ rfl; refine pk ?_; refine blk_put (cs := #[.slice none 0 0, .slice none 0 0]) ?_ 0 _ rfl; refine pk ?_; exact BK190.out) Try.underlying30 rfl (by kernel_rfl)) rfl ?_
 exact ⟨m1_, ⟨hw1_, (by (try simp only [World.size_setCell]); omega)⟩, _, _, by first | rfl | (simp [errW_none, errW_some] <;> rfl) | (simp [*, errW_none, errW_some] <;> rfl), ks (Kd.S_mono (Kd.S_far (p := ⟨gb190, 1, none⟩) (Kd.S_far (p := ⟨gb190, 0, none⟩) (Kd.S_types HO193.out BK190.out (by decide)) (fun _ hk => hk.2) (.slice Ao10 t191.length co10)) (fun _ hk => hk.2) (.slice Ao9 t194.length co9)) (fun _ hk => hk.1)), ks (Kd.S_mono (Kd.S_far (p := ⟨gb190, 1, none⟩) (Kd.S_far (p := ⟨gb190, 0, none⟩) (Kd.S_types HO196.out BK190.out (by decide)) (fun _ hk => hk.2) (.slice Ao10 t191.length co10)) (fun _ hk => hk.2) (.slice Ao9 t194.length co9)) (fun _ hk => hk.1)), by repeat (first | (with_reducible first | exact HB.out | apply below_alloc | apply pw_below_drewN | apply below_drew1 | refine below_set ?_ GE189.out | refine below_set ?_ GE190.out) | exact HB.out)⟩
/-! ### spec_UndoNote: function 23 -/
def spec_UndoNote.j0 : Nat → Bool → List (S31) → List (S31) → List Int → Int → Int → Option ((List (S31)) × (List (S31)))
 | 0, _, _, _, _, _, _ => none
 | k + 1, x12, x198000, x198001, x199000, x199001, x199002 => if x12 = true then ((spec_l05Copy.f k x198000 x198001).bind fun bt202 => (some (bt202.1, bt202.2))) else ((spec_l05Put.f k x198000 x199000 x199001 x199002).bind fun t208 => (some (t208, ([] : List (S31)))))
def spec_UndoNote.f (k : Nat) (l0_0 : List (S31)) (l0_1 : List (S31)) (l1_0 : List Int) (a1_1 : Int) (a1_2 : Int) : Option ((List (S31)) × (List (S31))) := (spec_UndoRight.f k l0_0 l0_1).bind fun t200 => (if t200 = true then ((spec_BufRight.f k l1_0 a1_1 a1_2).bind fun t201 => (spec_UndoNote.j0 k (!t201) l0_0 l0_1 l1_0 a1_1 a1_2)) else (spec_UndoNote.j0 k true l0_0 l0_1 l1_0 a1_1 a1_2))
theorem spec_UndoNote.callsA (k : Nat) (A0_0 : Option Addr) (c0_0 : Nat) (l0_0 : List (S31)) (A0_1 : Option Addr) (c0_1 : Nat) (l0_1 : List (S31)) (A1_0 : Option Addr) (c1_0 : Nat) (l1_0 : List Int) (a1_1 : Int) (a1_2 : Int) (r1 : List (S31)) (r2 : List (S31)) (w : World) (hr0_0 : Kd.C k31 w A0_0 l0_0.length l0_0) (hc0_0 : l0_0.length ≤ c0_0) (hr0_1 : Kd.C k31 w A0_1 l0_1.length l0_1) (hc0_1 : l0_1.length ≤ c0_1) (hr1_0 : Kd.C (Kd.int .i64) w A1_0 l1_0.length l1_0) (hc1_0 : l1_0.length ≤ c1_0) (h : spec_UndoNote.f k l0_0 l0_1 l1_0 a1_1 a1_2 = some (r1, r2)) :
  Calls Try.prog 23 #[.agg #[.slice A0_0 l0_0.length c0_0, .slice A0_1 l0_1.length c0_1], .agg #[.slice A1_0 l1_0.length c1_0, .int .i64 a1_1, .int .i64 a1_2]] w fun e w' => ∃ m1_ : Nat, (w.heap.size ≤ m1_ ∧ m1_ ≤ w'.heap.size) ∧ ∃ v0_ v1_ : Value, e = .returned (.agg #[v0_, v1_]) ∧ Kd.T k31 31 w' w.heap.size (fun k_ => k_ < m1_) v0_ r1 ∧ Kd.S k31 31 w' w.heap.size (fun k_ => m1_ ≤ k_) v1_ r2 ∧ Below w.heap.size w w' := by
 have hu30 := Try.underlying30
 have hu31 := Try.underlying31
 have HR0_0 := am hr0_0
 have HC0_0 := am hc0_0
 clear hr0_0 hc0_0
 have HR0_1 := am hr0_1
 have HC0_1 := am hc0_1
 clear hr0_1 hc0_1
 have HR1_0 := am hr1_0
 have HC1_0 := am hc1_0
 clear hr1_0 hc1_0
 have HB := am (Below.refl w.heap.size w)
 have H : ((spec_UndoRight.f k l0_0 l0_1).bind fun t200 => (if t200 = true then ((spec_BufRight.f k l1_0 a1_1 a1_2).bind fun t201 => (spec_UndoNote.j0 k (!t201) l0_0 l0_1 l1_0 a1_1 a1_2)) else (spec_UndoNote.j0 k true l0_0 l0_1 l1_0 a1_1 a1_2))) = some (r1, r2) := h
 clear h
 have HC3 := Aside0.mk H
 clear H
 go_enter Try.func23, Try.ntmps23
 go_upto_region 1 with (first | ((with_reducible refine gate_dst (N := 2) rfl ?_); refine box_event ?hg (N := 2) ?hd (cs := #[.slice A0_0 l0_0.length c0_0, .slice A0_1 l0_1.length c0_1]) (t := 30) ?hr ?_; (case hd => rfl); (case hg => rfl); (case hr => first | (go_simp; done) | (go_simp; rfl)); intro gb197 hg w4 hbox hb; have BK197 := am (hbox); have GW197 := am ((by rw [hg]; exact (below_size (bl HB.out)) : w.heap.size ≤ gb197)); have GE197 := GW197; replace HB := am (below_step (bl HB.out) hb); clear hb hbox hg) | ((with_reducible refine gate_dst (N := 3) rfl ?_); refine box_event ?hg (N := 3) ?hd (cs := #[.slice A1_0 l1_0.length c1_0, .int .i64 a1_1, .int .i64 a1_2]) (t := 31) ?hr ?_; (case hd => rfl); (case hg => rfl); (case hr => first | (go_simp; done) | (go_simp; rfl)); intro gb198 hg w5 hbox hb; have BK198 := am (hbox); have GW198 := am ((by rw [hg]; exact (below_size (bl HB.out)) : w.heap.size ≤ gb198)); have GE198 := GW198; replace HB := am (below_step (bl HB.out) hb); have NB197_198 := am ((by rw [hg]; exact Nat.ne_of_lt (blk_lt (pk BK197.out)) : gb197 ≠ gb198)); have NB198_197 := am ((by rw [hg]; exact Nat.ne_of_gt (blk_lt (pk BK197.out)) : gb198 ≠ gb197)); replace BK197 := am (blk_below (pk BK197.out) hb); clear hb hbox hg) | ((with_reducible refine gate_dst (N := 4) rfl ?_); refine box_event ?hg (N := 4) ?hd (cs := #[.slice none 0 0, .slice none 0 0]) (t := 30) ?hr ?_; (case hd => rfl); (case hg => rfl); (case hr => first | (go_simp; done) | (go_simp; rfl)); intro gb199 hg w6 hbox hb; have BK199 := am (hbox); have GW199 := am ((by rw [hg]; exact (below_size (bl HB.out)) : w.heap.size ≤ gb199)); have GE199 := GW199; replace HB := am (below_step (bl HB.out) hb); have NB197_199 := am ((by rw [hg]; exact Nat.ne_of_lt (blk_lt (pk BK197.out)) : gb197 ≠ gb199)); have NB199_197 := am ((by rw [hg]; exact Nat.ne_of_gt (blk_lt (pk BK197.out)) : gb199 ≠ gb197)); replace BK197 := am (blk_below (pk BK197.out) hb); have NB198_199 := am ((by rw [hg]; exact Nat.ne_of_lt (blk_lt (pk BK198.out)) : gb198 ≠ gb199)); have NB199_198 := am ((by rw [hg]; exact Nat.ne_of_gt (blk_lt (pk BK198.out)) : gb199 ≠ gb198)); replace BK198 := am (blk_below (pk BK198.out) hb); clear hb hbox hg))
 (try simp only [Act.put, sa_, s0_, ss_])
 go_cut [12] (fun v12 wc => ∃ (kq : Nat) (x12_2 : Bool), v12 = .bool x12_2 ∧ Aside0 (spec_UndoNote.j0 kq x12_2 l0_0 l0_1 l1_0 a1_1 a1_2 = some (r1, r2)) ∧ Aside0 (kq ≤ k) ∧ Aside0 (wc.heap[gb197]? = some (.cells #[(.slice A0_0 l0_0.length c0_0), (.slice A0_1 l0_1.length c0_1)] 30 (0, 0))) ∧ Aside0 (wc.heap[gb198]? = some (.cells #[(.slice A1_0 l1_0.length c1_0), .int .i64 a1_1, .int .i64 a1_2] 31 (0, 0))) ∧ Aside0 (wc.heap[gb199]? = some (.cells #[(.slice none 0 0), (.slice none 0 0)] 30 (0, 0))) ∧ Aside0 (Below w.heap.size w wc))
 case first =>
  have H := HC3.out
  clear HC3
  replace H := Option.bind_eq_some_iff.mp H
  obtain ⟨t200, A70, H⟩ := H
  replace H : (if t200 = true then ((spec_BufRight.f k l1_0 a1_1 a1_2).bind fun t201 => (spec_UndoNote.j0 k (!t201) l0_0 l0_1 l1_0 a1_1 a1_2)) else (spec_UndoNote.j0 k true l0_0 l0_1 l1_0 a1_1 a1_2)) = some (r1, r2) := H
  have A7 := Aside0.mk A70
  clear A70
  by_cases c8 : t200 = true
  ·subst c8
   have H1 : ((spec_BufRight.f k l1_0 a1_1 a1_2).bind fun t201 => (spec_UndoNote.j0 k (!t201) l0_0 l0_1 l1_0 a1_1 a1_2)) = some (r1, r2) := by rw [if_pos rfl] at H; exact H
   clear H
   have H := H1
   clear H1
   replace H := Option.bind_eq_some_iff.mp H
   obtain ⟨t201, A90, H⟩ := H
   replace H : (spec_UndoNote.j0 k (!t201) l0_0 l0_1 l1_0 a1_1 a1_2) = some (r1, r2) := H
   have A9 := Aside0.mk A90
   clear A90
   have H' := Aside0.mk H
   clear H
   have hnb10 := NB197_198.out
   have hnc10 := NB198_197.out
   have hnb11 := NB197_199.out
   have hnc11 := NB199_197.out
   have hcz12_0 : w6.cell? ⟨gb197, 0, none⟩ = some (.slice A0_0 l0_0.length c0_0) := bc BK197.out 0
   have hcz12_1 : w6.cell? ⟨gb197, 1, none⟩ = some (.slice A0_1 l0_1.length c0_1) := bc BK197.out 1
   have hfz12_0 := blk_frozen BK197.out 0
   have hfz12_1 := blk_frozen BK197.out 1
   go_wp2_with (first | ((with_reducible refine gate_callee (f := 42) rfl ?_); refine gl (some 6) Try.func42 #[.agg #[.slice A0_0 l0_0.length c0_0, .slice A0_1 l0_1.length c0_1]] ?_; (with_reducible refine (spec_UndoRight.calls k _ _ l0_0 _ _ l0_1 true _ ?side1 ?side2 ?side3 ?side4 A7.out).mono ?_); (case side1 => repeat (first | exact (Kd.C_below HR0_0.out HB.out) | (with_reducible refine Kd.C_alloc ?_ _) | (with_reducible refine Kd.C_drewN ?_ _) | (with_reducible refine Kd.C_drew ?_))); (case side2 => exact HC0_0.out); (case side3 => repeat (first | exact (Kd.C_below HR0_1.out HB.out) | (with_reducible refine Kd.C_alloc ?_ _) | (with_reducible refine Kd.C_drewN ?_ _) | (with_reducible refine Kd.C_drew ?_))); (case side4 => exact HC0_1.out); rintro e w13 ⟨rfl, hb⟩; refine ⟨_, rfl, ?_⟩; replace BK197 := am (blk_below (pk BK197.out) hb); replace BK198 := am (blk_below (pk BK198.out) hb); replace BK199 := am (blk_below (pk BK199.out) hb); replace HB := am (below_step (bl HB.out) hb); (try clear hb); (try clear hb2); (try clear hk); (try clear hi); have hnb14 := NB198_199.out; have hnc14 := NB199_198.out; have hcz15_0 : w13.cell? ⟨gb198, 0, none⟩ = some (.slice A1_0 l1_0.length c1_0) := bc BK198.out 0; have hcz15_1 : w13.cell? ⟨gb198, 1, none⟩ = some (.int .i64 a1_1) := bc BK198.out 1; have hcz15_2 : w13.cell? ⟨gb198, 2, none⟩ = some (.int .i64 a1_2) := bc BK198.out 2; have hfz15_0 := blk_frozen BK198.out 0; have hfz15_1 := blk_frozen BK198.out 1; have hfz15_2 := blk_frozen BK198.out 2) | (go_at_call 18; (with_reducible refine (spec_BufRight.calls k _ _ l1_0 a1_1 a1_2 t201 _ ?side1 ?side2 A9.out).mono ?_); (case side1 => repeat (first | exact (Kd.C_below HR1_0.out HB.out) | (with_reducible refine Kd.C_alloc ?_ _) | (with_reducible refine Kd.C_drewN ?_ _) | (with_reducible refine Kd.C_drew ?_))); (case side2 => exact HC1_0.out); rintro e w16 ⟨rfl, hb⟩; replace BK197 := am (blk_below (pk BK197.out) hb); replace BK198 := am (blk_below (pk BK198.out) hb); replace BK199 := am (blk_below (pk BK199.out) hb); replace HB := am (below_step (bl HB.out) hb); (try clear hb); (try clear hb2); (try clear hk); (try clear hi)))
   go_meet
   case rel => exact ⟨_, (!t201), (by first | rfl | (simp; done) | (simp [*]; done)), H', ⟨by first | omega | exact Nat.le_refl _⟩, ⟨pk BK197.out⟩, ⟨pk BK198.out⟩, ⟨pk BK199.out⟩, ⟨by repeat (first | (with_reducible first | exact HB.out | apply below_alloc | apply pw_below_drewN | apply below_drew1 | refine below_set ?_ GE197.out | refine below_set ?_ GE198.out | refine below_set ?_ GE199.out) | exact HB.out)⟩⟩
  ·replace c8 := Bool.eq_false_iff.mpr c8
   subst c8
   have H1 : (spec_UndoNote.j0 k true l0_0 l0_1 l1_0 a1_1 a1_2) = some (r1, r2) := by rw [if_neg (show ¬ (false = true) by decide)] at H; exact H
   clear H
   have H := H1
   clear H1
   have H' := Aside0.mk H
   clear H
   have hnb17 := NB197_198.out
   have hnc17 := NB198_197.out
   have hnb18 := NB197_199.out
   have hnc18 := NB199_197.out
   have hcz19_0 : w6.cell? ⟨gb197, 0, none⟩ = some (.slice A0_0 l0_0.length c0_0) := bc BK197.out 0
   have hcz19_1 : w6.cell? ⟨gb197, 1, none⟩ = some (.slice A0_1 l0_1.length c0_1) := bc BK197.out 1
   have hfz19_0 := blk_frozen BK197.out 0
   have hfz19_1 := blk_frozen BK197.out 1
   go_wp2_with (first | ((with_reducible refine gate_callee (f := 42) rfl ?_); refine gl (some 6) Try.func42 #[.agg #[.slice A0_0 l0_0.length c0_0, .slice A0_1 l0_1.length c0_1]] ?_; (with_reducible refine (spec_UndoRight.calls k _ _ l0_0 _ _ l0_1 false _ ?side1 ?side2 ?side3 ?side4 A7.out).mono ?_); (case side1 => repeat (first | exact (Kd.C_below HR0_0.out HB.out) | (with_reducible refine Kd.C_alloc ?_ _) | (with_reducible refine Kd.C_drewN ?_ _) | (with_reducible refine Kd.C_drew ?_))); (case side2 => exact HC0_0.out); (case side3 => repeat (first | exact (Kd.C_below HR0_1.out HB.out) | (with_reducible refine Kd.C_alloc ?_ _) | (with_reducible refine Kd.C_drewN ?_ _) | (with_reducible refine Kd.C_drew ?_))); (case side4 => exact HC0_1.out); rintro e w20 ⟨rfl, hb⟩; refine ⟨_, rfl, ?_⟩; replace BK197 := am (blk_below (pk BK197.out) hb); replace BK198 := am (blk_below (pk BK198.out) hb); replace BK199 := am (blk_below (pk BK199.out) hb); replace HB := am (below_step (bl HB.out) hb); (try clear hb); (try clear hb2); (try clear hk); (try clear hi)))
   go_meet
   case rel => exact ⟨_, (true), (by first | rfl | (simp; done) | (simp [*]; done)), H', ⟨by first | omega | exact Nat.le_refl _⟩, ⟨pk BK197.out⟩, ⟨pk BK198.out⟩, ⟨pk BK199.out⟩, ⟨by repeat (first | (with_reducible first | exact HB.out | apply below_alloc | apply pw_below_drewN | apply below_drew1 | refine below_set ?_ GE197.out | refine below_set ?_ GE198.out | refine below_set ?_ GE199.out) | exact HB.out)⟩⟩
 case rest =>
  clear HC3
  try clear c1
  try clear c2
  try clear p2
  try clear c4
  try clear c8
  try clear c10
  try clear c11
  try clear c14
  try clear c17
  try clear c18
  try clear hcz12_0
  try clear hcz12_1
  try clear hcz15_0
  try clear hcz15_1
  try clear hcz15_2
  try clear hcz19_0
  try clear hcz19_1
  try clear hfz12_0
  try clear hfz12_1
  try clear hfz15_0
  try clear hfz15_1
  try clear hfz15_2
  try clear hfz19_0
  try clear hfz19_1
  obtain ⟨kq, x12_2, rfl, HA, HJ2, BK197, BK198, BK199, HB⟩ := hcut
  cases kq with
  | zero => exact absurd HA.out (by simp [spec_UndoNote.j0])
  | succ kj2 =>
   have H := HA.out
   clear HA
   simp only [spec_UndoNote.j0] at H
   by_cases c21 : x12_2 = true
   ·subst c21
    have H1 : ((spec_l05Copy.f kj2 l0_0 l0_1).bind fun bt202 => (some (bt202.1, bt202.2))) = some (r1, r2) := by rw [if_pos rfl] at H; exact H
    clear H
    have H := H1
    clear H1
    replace H := Option.bind_eq_some_iff.mp H
    obtain ⟨⟨t202, t205⟩, A220, H⟩ := H
    replace H : (some (t202, t205)) = some (r1, r2) := H
    have A22 := Aside0.mk A220
    clear A220
    simp only [Option.some.injEq, Prod.mk.injEq] at H
    obtain ⟨rfl, rfl⟩ := H
    have hnb23 := NB197_198.out
    have hnc23 := NB198_197.out
    have hnb24 := NB197_199.out
    have hnc24 := NB199_197.out
    have hcz25_0 : wc.cell? ⟨gb197, 0, none⟩ = some (.slice A0_0 l0_0.length c0_0) := bc BK197.out 0
    have hcz25_1 : wc.cell? ⟨gb197, 1, none⟩ = some (.slice A0_1 l0_1.length c0_1) := bc BK197.out 1
    have hfz25_0 := blk_frozen BK197.out 0
    have hfz25_1 := blk_frozen BK197.out 1
    go_wp2_with (first | ((with_reducible refine gate_callee (f := 46) rfl ?_); refine gl (some 14) Try.func46 #[.agg #[.slice A0_0 l0_0.length c0_0, .slice A0_1 l0_1.length c0_1]] ?_; (with_reducible refine (spec_l05Copy.callsA kj2 _ _ l0_0 _ _ l0_1 t202 t205 _ ?side1 ?side2 ?side3 ?side4 A22.out).mono ?_); (case side1 => repeat (first | exact (Kd.C_below HR0_0.out HB.out) | (with_reducible refine Kd.C_alloc ?_ _) | (with_reducible refine Kd.C_drewN ?_ _) | (with_reducible refine Kd.C_drew ?_))); (case side2 => exact HC0_0.out); (case side3 => repeat (first | exact (Kd.C_below HR0_1.out HB.out) | (with_reducible refine Kd.C_alloc ?_ _) | (with_reducible refine Kd.C_drewN ?_ _) | (with_reducible refine Kd.C_drew ?_))); (case side4 => exact HC0_1.out); rintro e w26 ⟨m1_, ⟨hsa_, hsb_⟩, v203, v206, rfl, ho0, ho1, hb⟩; have hw1_ : w.heap.size ≤ m1_ := (Nat.le_trans (below_size (bl HB.out)) hsa_); refine ⟨_, rfl, ?_⟩; have HO204 := am (Kd.S_lower (Kd.S_newB ho0 (g := gb198) (o := .cells #[.slice A1_0 l1_0.length c1_0, .int .i64 a1_1, .int .i64 a1_2] 31 (0, 0)) (pk BK198.out)) (below_size (bl HB.out))); have HO207 := am (Kd.S_lower (Kd.S_newB ho1 (g := gb198) (o := .cells #[.slice A1_0 l1_0.length c1_0, .int .i64 a1_1, .int .i64 a1_2] 31 (0, 0)) (pk BK198.out)) (below_size (bl HB.out))); replace BK197 := am (blk_below (pk BK197.out) hb); replace BK198 := am (blk_below (pk BK198.out) hb); replace BK199 := am (blk_below (pk BK199.out) hb); replace HB := am (below_step (bl HB.out) hb); (try clear hb); (try clear hb2); (try clear hk); (try clear hi); (try clear ho0); (try clear ho1); obtain ⟨Ao27, co27, eo27⟩ := Kd.S_slice HO204.out; subst eo27; have hnb28 := NB199_198.out; have hnc28 := NB198_199.out; have hcz29_0 : w26.cell? ⟨gb199, 0, none⟩ = some (.slice none 0 0) := bc BK199.out 0; have hcz29_1 : w26.cell? ⟨gb199, 1, none⟩ = some (.slice none 0 0) := bc BK199.out 1; have hfz29_0 := blk_frozen BK199.out 0; have hfz29_1 := blk_frozen BK199.out 1; obtain ⟨Ao30, co30, eo30⟩ := Kd.S_slice HO207.out; subst eo30))
    refine bodyPost_ret (results_cell_row rfl _ _ gb199 30 #[.slice Ao27 t202.length co27, .slice Ao30 t205.length co30] (0, 0) _ rfl (by refine pk ?_; refine blk_put (cs := #[.slice Ao27 t202.length co27, .slice none 0 0]) ?_ 1 _ rfl; refine pk ?_; refine blk_put (cs := #[.slice none 0 0, .slice none 0 0]) ?_ 0 _ rfl; refine pk ?_; exact BK199.out) Try.underlying30 rfl (by kernel_rfl)) rfl ?_
    exact ⟨m1_, ⟨hw1_, (by (try simp only [World.size_setCell]); exact hsb_)⟩, _, _, by first | rfl | (simp [errW_none, errW_some] <;> rfl) | (simp [*, errW_none, errW_some] <;> rfl), Kd.T_of_S (ks (Kd.S_mono (Kd.S_far (p := ⟨gb199, 1, none⟩) (Kd.S_far (p := ⟨gb199, 0, none⟩) (Kd.S_types HO204.out BK199.out (by decide)) (fun _ hk => hk.2) (.slice Ao27 t202.length co27)) (fun _ hk => hk.2) (.slice Ao30 t205.length co30)) (fun _ hk => hk.1.1))), ks (Kd.S_mono (Kd.S_far (p := ⟨gb199, 1, none⟩) (Kd.S_far (p := ⟨gb199, 0, none⟩) (Kd.S_types HO207.out BK199.out (by decide)) (fun _ hk => hk.2) (.slice Ao27 t202.length co27)) (fun _ hk => hk.2) (.slice Ao30 t205.length co30)) (fun _ hk => hk.1.1)), by repeat (first | (with_reducible first | exact HB.out | apply below_alloc | apply pw_below_drewN | apply below_drew1 | refine below_set ?_ GE197.out | refine below_set ?_ GE198.out | refine below_set ?_ GE199.out) | exact HB.out)⟩
   ·replace c21 := Bool.eq_false_iff.mpr c21
    subst c21
    have H1 : ((spec_l05Put.f kj2 l0_0 l1_0 a1_1 a1_2).bind fun t208 => (some (t208, ([] : List (S31))))) = some (r1, r2) := by rw [if_neg (show ¬ (false = true) by decide)] at H; exact H
    clear H
    have H := H1
    clear H1
    replace H := Option.bind_eq_some_iff.mp H
    obtain ⟨t208, A310, H⟩ := H
    replace H : (some (t208, ([] : List (S31)))) = some (r1, r2) := H
    have A31 := Aside0.mk A310
    clear A310
    simp only [Option.some.injEq, Prod.mk.injEq] at H
    obtain ⟨rfl, rfl⟩ := H
    have hnb32 := NB197_198.out
    have hnc32 := NB198_197.out
    have hnb33 := NB197_199.out
    have hnc33 := NB199_197.out
    have hcz34_0 : wc.cell? ⟨gb197, 0, none⟩ = some (.slice A0_0 l0_0.length c0_0) := bc BK197.out 0
    have hcz34_1 : wc.cell? ⟨gb197, 1, none⟩ = some (.slice A0_1 l0_1.length c0_1) := bc BK197.out 1
    have hfz34_0 := blk_frozen BK197.out 0
    have hfz34_1 := blk_frozen BK197.out 1
    have hnb35 := NB198_199.out
    have hnc35 := NB199_198.out
    have hcz36_0 : wc.cell? ⟨gb198, 0, none⟩ = some (.slice A1_0 l1_0.length c1_0) := bc BK198.out 0
    have hcz36_1 : wc.cell? ⟨gb198, 1, none⟩ = some (.int .i64 a1_1) := bc BK198.out 1
    have hcz36_2 : wc.cell? ⟨gb198, 2, none⟩ = some (.int .i64 a1_2) := bc BK198.out 2
    have hfz36_0 := blk_frozen BK198.out 0
    have hfz36_1 := blk_frozen BK198.out 1
    have hfz36_2 := blk_frozen BK198.out 2
    go_wp2_with (first | ((with_reducible refine gate_callee (f := 44) rfl ?_); refine gl (some 18) Try.func44 #[.slice A0_0 l0_0.length c0_0, .agg #[.slice A1_0 l1_0.length c1_0, .int .i64 a1_1, .int .i64 a1_2]] ?_; (with_reducible refine (spec_l05Put.calls kj2 _ _ l0_0 _ _ l1_0 a1_1 a1_2 t208 _ ?side1 ?side2 ?side3 ?side4 A31.out).mono ?_); (case side1 => repeat (first | exact (Kd.C_below HR0_0.out HB.out) | (with_reducible refine Kd.C_alloc ?_ _) | (with_reducible refine Kd.C_drewN ?_ _) | (with_reducible refine Kd.C_drew ?_))); (case side2 => exact HC0_0.out); (case side3 => repeat (first | exact (Kd.C_below HR1_0.out HB.out) | (with_reducible refine Kd.C_alloc ?_ _) | (with_reducible refine Kd.C_drewN ?_ _) | (with_reducible refine Kd.C_drew ?_))); (case side4 => exact HC1_0.out); rintro e w37 ⟨v209, rfl, ho0, hb⟩; refine ⟨_, rfl, ?_⟩; have HO210 := am (Kd.T_lower (Kd.T_newB ho0 (g := gb198) (o := .cells #[.slice A1_0 l1_0.length c1_0, .int .i64 a1_1, .int .i64 a1_2] 31 (0, 0)) (pk BK198.out)) (below_size (bl HB.out))); replace BK197 := am (blk_below (pk BK197.out) hb); replace BK198 := am (blk_below (pk BK198.out) hb); replace BK199 := am (blk_below (pk BK199.out) hb); replace HB := am (below_step (bl HB.out) hb); (try clear hb); (try clear hb2); (try clear hk); (try clear hi); (try clear ho0); obtain ⟨Ao38, co38, eo38, _⟩ := Kd.T_slice HO210.out; subst eo38; have hcz39_0 : w37.cell? ⟨gb199, 0, none⟩ = some (.slice none 0 0) := bc BK199.out 0; have hcz39_1 : w37.cell? ⟨gb199, 1, none⟩ = some (.slice none 0 0) := bc BK199.out 1; have hfz39_0 := blk_frozen BK199.out 0; have hfz39_1 := blk_frozen BK199.out 1))
    refine bodyPost_ret (results_cell_row rfl _ _ gb199 30 #[.slice Ao38 t208.length co38, .slice none 0 0] (0, 0) _ rfl (by refine pk ?_; refine blk_put (cs := #[.slice Ao38 t208.length co38, .slice none 0 0]) ?_ 1 _ rfl; refine pk ?_; refine blk_put (cs := #[.slice none 0 0, .slice none 0 0]) ?_ 0 _ rfl; refine pk ?_; exact BK199.out) Try.underlying30 rfl (by kernel_rfl)) rfl ?_
    exact ⟨_, ⟨below_size (bl HB.out), Nat.le_refl _⟩, _, _, by first | rfl | (simp [errW_none, errW_some] <;> rfl) | (simp [*, errW_none, errW_some] <;> rfl), by (with_reducible repeat (first | apply Kd.T_alloc | apply Kd.T_drewN | apply Kd.T_drew)); exact Kd.T_mono (Kd.T_bound (Kd.T_far (p := ⟨gb199, 1, none⟩) (Kd.T_far (p := ⟨gb199, 0, none⟩) (Kd.T_types HO210.out BK199.out (by decide)) (fun _ hk => hk.2) (.slice Ao38 t208.length co38)) (fun _ hk => hk.2) (.slice none 0 0))) (fun _ hk => hk.2.2.1), by first | exact Kd.S_nil _ _ _ _ _ | exact Kd.N_nil _ _ _ _ _ | exact Kd.V_nil _ _ _ _ _ | exact Kd.T_nil _ _ _ _ _ | exact Kd.R_nil _ _ _ _ _, by repeat (first | (with_reducible first | exact HB.out | apply below_alloc | apply pw_below_drewN | apply below_drew1 | refine below_set ?_ GE197.out | refine below_set ?_ GE198.out | refine below_set ?_ GE199.out) | exact HB.out)⟩
/-! ### spec_UndoRun: function 6 -/
mutual
def spec_UndoRun.l0 : Nat → List (List Int) → Int → List Int → Int → Int → Option ((List (S31)) × (List (S31)) × List Int × Int × Int × Int)
 | 0, _, _, _, _, _ => none
 | k + 1, x1, x5, x234000, x234001, x234002 => if x5 < (x1.length : Int) then (if 0 ≤ x5 then ((spec_PointsRight.f k (rd_L1 x1 x5)).bind fun t237 => (if t237 = true then (spec_UndoRun.l0 k x1 (wrap64 (x5 + 1)) x234000 x234001 x234002) else (some (([] : List (S31)), ([] : List (S31)), ([] : List Int), 0, 0, 1)))) else (none)) else ((spec_l02Copy.f x234000 x234001 x234002).bind fun bt238 => (spec_UndoRun.l1 k x1 0 ([] : List (S31)) ([] : List (S31)) bt238.1 bt238.2.1 bt238.2.2 0))
def spec_UndoRun.l1 : Nat → List (List Int) → Int → List (S31) → List (S31) → List Int → Int → Int → Int → Option ((List (S31)) × (List (S31)) × List Int × Int × Int × Int)
 | 0, _, _, _, _, _, _, _, _ => none
 | k + 1, x1, x7, x244000, x244001, x244002, x244003, x244004, x244005 => if x7 < (x1.length : Int) then (if 0 ≤ x7 then (if ((rd_L1 x1 x7).length : Int) = 0 then ((spec_UndoBack.f k x244000 x244001 x244002 x244003 x244004).bind fun bt245 => (if bt245.2.2.2.2.2 = 0 then (spec_UndoRun.l1 k x1 (wrap64 (x7 + 1)) bt245.1 bt245.2.1 bt245.2.2.1 bt245.2.2.2.1 bt245.2.2.2.2.1 bt245.2.2.2.2.2) else (spec_UndoRun.l1 k x1 (wrap64 (x7 + 1)) x244000 x244001 x244002 x244003 x244004 x244005))) else ((spec_BufInsert.f k x244002 x244003 x244004 (rd_L1 x1 x7)).bind fun bt259 => (if bt259.2.2.2.2 = 0 then ((spec_UndoNote.f k x244000 x244001 x244002 x244003 x244004).bind fun bt269 => (spec_UndoRun.l1 k x1 (wrap64 (x7 + 1)) bt269.1 bt269.2 bt259.1 bt259.2.1 bt259.2.2.1 x244005)) else (spec_UndoRun.l1 k x1 (wrap64 (x7 + 1)) x244000 x244001 x244002 x244003 x244004 x244005)))) else (none)) else (some (x244000, x244001, x244002, x244003, x244004, x244005))
end
def spec_UndoRun.f (k : Nat) (l0_0 : List Int) (a0_1 : Int) (a0_2 : Int) (l1 : List (List Int)) : Option ((List (S31)) × (List (S31)) × List Int × Int × Int × Int) := if (l1.length : Int) > 400 then (some (([] : List (S31)), ([] : List (S31)), ([] : List Int), 0, 0, 2)) else ((spec_BufRight.f k l0_0 a0_1 a0_2).bind fun t235 => (if t235 = true then (spec_UndoRun.l0 k l1 0 l0_0 a0_1 a0_2) else (some (([] : List (S31)), ([] : List (S31)), ([] : List Int), 0, 0, 1))))
def ur18.T : Bool × List (List Nat × List Nat) := (true, [([], []), ([0], [0]), ([], []), ([], []), ([2, 3], [2, 3]), ([4], [4]), ([1, 5], [1, 5]), ([], []), ([7, 6, 6, 0, 1, 2, 3, 4, 5, 6, 7], [6, 7])])
def ur18.B : List Nat := [0, 1, 0, 0, 12, 28, 63, 0, 255]
theorem ur18.tab : rtab .any (opsOf Try.f6 18) = ur18.T := by kernel_rfl
theorem ur18.bits : waitsOk ur18.T.2 ur18.B = true := by kernel_rfl
@[reducible] def ur18.a0 : Array Bool := (br true [0, 9]).toArray
@[reducible] def ur18.a1 : Array Bool := (br true [1, 8]).toArray
@[reducible] def ur18.a2 : Array Bool := (br true [1, 1, 1, 6]).toArray
@[reducible] def ur18.a3 : Array Bool := (br true [1, 1, 2, 5]).toArray
@[reducible] def ur18.a4 : Array Bool := (br true [1, 1, 3, 4]).toArray
@[reducible] def ur18.a5 : Array Bool := (br true [5, 4]).toArray
@[reducible] def ur18.a6 : Array Bool := (br true [6, 3]).toArray
@[reducible] def ur18.a7 : Array Bool := (br true [8, 1]).toArray
@[reducible] def ur18.a8 : Array Bool := (br true [7, 2]).toArray
@[reducible] def ur18.a9 : Array Bool := (br true [6, 1, 1, 1]).toArray
@[reducible] def ur18.a10 : Array Bool := (br true [9]).toArray
theorem spec_UndoRun.callsL (k : Nat) (A0_0 : Option Addr) (c0_0 : Nat) (l0_0 : List Int) (a0_1 : Int) (a0_2 : Int) (A1 : Option Addr) (c1 : Nat) (l1 : List (List Int)) (r1 : List (S31)) (r2 : List (S31)) (r3 : List Int) (r4 : Int) (r5 : Int) (r6 : Int) (w : World) (hr0_0 : Kd.C (Kd.int .i64) w A0_0 l0_0.length l0_0) (hc0_0 : l0_0.length ≤ c0_0) (hr1 : Kd.C (Kd.slice 2 (Kd.int .i64)) w A1 l1.length l1) (hc1 : l1.length ≤ c1) (h : spec_UndoRun.f k l0_0 a0_1 a0_2 l1 = some (r1, r2, r3, r4, r5, r6)) :
 Calls Try.prog 6 #[.agg #[.slice A0_0 l0_0.length c0_0, .int .i64 a0_1, .int .i64 a0_2], .slice A1 l1.length c1] w fun e w' => ∃ v0_ v1_ v2_ : Value, e = .returned (.agg #[v0_, v1_, v2_, .int .i64 r4, .int .i64 r5, .int .i64 r6]) ∧ Lw w [.T k31 31 v0_ r1, .T k31 31 v1_ r2, .R (Kd.int .i64) 2 v2_ r3] w' := by
 have hu31 := Try.underlying31
 have hu33 := Try.underlying33
 have hu30 := Try.underlying30
 have hu49 := Try.underlying49
 have HR0 := am hr0_0
 have HC0 := am hc0_0
 have HR1 := am hr1
 have HC1 := am hc1
 clear hr0_0 hc0_0 hr1 hc1
 have HL := am (Lw.nil w)
 unfold spec_UndoRun.f at h
 have H := h
 clear h
 by_cases c1 : (l1.length : Int) > 400
 · rw [if_pos c1] at H
   have c1b : decide ((l1.length : Int) > 400) = true := decide_eq_true c1
   have c1c : decide (400 < (l1.length : Int)) = true := decide_eq_true c1
   clear c1
   simp only [Option.some.injEq, Prod.mk.injEq] at H
   obtain ⟨rfl, rfl, rfl, rfl, rfl, rfl⟩ := H
   go_enter Try.func6, Try.ntmps6
   go_wp2_with (first | ((with_reducible refine gate_dst (N := 2) rfl ?_); refine box_event ?hg (N := 2) ?hd (cs := #[.slice A0_0 l0_0.length c0_0, .int .i64 a0_1, .int .i64 a0_2]) (t := 31) ?hr ?_; (case hd => rfl); (case hg => rfl); (case hr => first | (go_simp; done) | (go_simp; rfl)); intro B2 hg w1 hbox hb; replace HL := am (HL.out.addBox hg hbox hb); clear hb hbox hg) | ((with_reducible refine gate_dst (N := 4) rfl ?_); refine box_event ?hg (N := 4) ?hd (cs := #[.slice none 0 0, .slice none 0 0, .slice none 0 0, .int .i64 0, .int .i64 0, .int .i64 0]) (t := 33) ?hr ?_; (case hd => rfl); (case hg => rfl); (case hr => first | (go_simp; done) | (go_simp; rfl)); intro B4 hg w2 hbox hb; replace HL := am (HL.out.addBox hg hbox hb); clear hb hbox hg; obtain ⟨hB4_0, fB4_0, hB4_1, fB4_1, hB4_2, fB4_2, hB4_3, fB4_3, hB4_4, fB4_4, hB4_5, fB4_5⟩ := cells6 (HL.out.bx 0); obtain ⟨hB2_0, fB2_0, hB2_1, fB2_1, hB2_2, fB2_2⟩ := cells3 (HL.out.bx 1)) | ((with_reducible refine gate_store (t := 33) (p := 4) rfl ?_); refine store_event (t := 33) (p := 4) (v := .tmp 13) (w1 := putc w2 B4 0 [.slice none 0 0, .slice none 0 0, .slice none 0 0, .int .i64 0, .int .i64 0, .int .i64 2]) ?hg ?ho ?hn ?hr ?_; (case ho => rfl); (case hg => rfl); (case hn => rfl); (case hr => first | (go_simp; done) | (go_simp; rfl)); intro w3 hw; replace HL := am (HL.out.fil0 [.slice none 0 0, .slice none 0 0, .slice none 0 0, .int .i64 0, .int .i64 0, .int .i64 2] hw); clear hw; clear hB4_0 fB4_0 hB4_1 fB4_1 hB4_2 fB4_2 hB4_3 fB4_3 hB4_4 fB4_4 hB4_5 fB4_5 hB2_0 fB2_0 hB2_1 fB2_1 hB2_2 fB2_2))
   refine bodyPost_ret (results_cell_row rfl _ _ B4 33 #[.slice none 0 0, .slice none 0 0, .slice none 0 0, .int .i64 0, .int .i64 0, .int .i64 2] (0, 0) _ rfl (HL.out.bx 0) Try.underlying33 rfl (by kernel_rfl)) rfl ?_
   exact ⟨_, _, _, by first | rfl | (simp; done), (((HL.out.pick [] (L' := [])).nilR (Kd.int .i64) 2).nilT k31 31).nilT k31 31⟩
 rw [if_neg c1] at H
 have c1b : decide ((l1.length : Int) > 400) = false := decide_eq_false c1
 have c1c : decide (400 < (l1.length : Int)) = false := decide_eq_false c1
 clear c1
 replace H := Option.bind_eq_some_iff.mp H
 obtain ⟨t, E, H⟩ := H
 have A4 := am E
 clear E
 cases t with
 | false =>
  rw [if_neg Bool.false_ne_true] at H
  simp only [Option.some.injEq, Prod.mk.injEq] at H
  obtain ⟨rfl, rfl, rfl, rfl, rfl, rfl⟩ := H
  go_enter Try.func6, Try.ntmps6
  go_wp2_with (first | ((with_reducible refine gate_dst (N := 2) rfl ?_); refine box_event ?hg (N := 2) ?hd (cs := #[.slice A0_0 l0_0.length c0_0, .int .i64 a0_1, .int .i64 a0_2]) (t := 31) ?hr ?_; (case hd => rfl); (case hg => rfl); (case hr => first | (go_simp; done) | (go_simp; rfl)); intro B2 hg w1 hbox hb; replace HL := am (HL.out.addBox hg hbox hb); clear hb hbox hg) | ((with_reducible refine gate_dst (N := 4) rfl ?_); refine box_event ?hg (N := 4) ?hd (cs := #[.slice none 0 0, .slice none 0 0, .slice none 0 0, .int .i64 0, .int .i64 0, .int .i64 0]) (t := 33) ?hr ?_; (case hd => rfl); (case hg => rfl); (case hr => first | (go_simp; done) | (go_simp; rfl)); intro B4 hg w2 hbox hb; replace HL := am (HL.out.addBox hg hbox hb); clear hb hbox hg; obtain ⟨hB4_0, fB4_0, hB4_1, fB4_1, hB4_2, fB4_2, hB4_3, fB4_3, hB4_4, fB4_4, hB4_5, fB4_5⟩ := cells6 (HL.out.bx 0); obtain ⟨hB2_0, fB2_0, hB2_1, fB2_1, hB2_2, fB2_2⟩ := cells3 (HL.out.bx 1)) | ((with_reducible refine gate_callee (f := 18) rfl ?_); refine gl (some 15) Try.func18 #[.agg #[.slice A0_0 l0_0.length c0_0, .int .i64 a0_1, .int .i64 a0_2]] ?_; (with_reducible refine (spec_BufRight.calls k _ _ l0_0 a0_1 a0_2 false _ ?s0 ?s1 A4.out).mono ?_); (case s0 => exact (Kd.C_below HR0.out HL.out.bel)); (case s1 => exact HC0.out); rintro e w3 ⟨rfl, hb⟩; refine ⟨_, rfl, ?_⟩; replace HL := am (HL.out.step hb); clear hb; clear hB4_0 fB4_0 hB4_1 fB4_1 hB4_2 fB4_2 hB4_3 fB4_3 hB4_4 fB4_4 hB4_5 fB4_5 hB2_0 fB2_0 hB2_1 fB2_1 hB2_2 fB2_2; obtain ⟨hB2_0, fB2_0, hB2_1, fB2_1, hB2_2, fB2_2⟩ := cells3 (HL.out.bx 1); obtain ⟨hB4_0, fB4_0, hB4_1, fB4_1, hB4_2, fB4_2, hB4_3, fB4_3, hB4_4, fB4_4, hB4_5, fB4_5⟩ := cells6 (HL.out.bx 0)) | ((with_reducible refine gate_store (t := 33) (p := 4) rfl ?_); refine store_event (t := 33) (p := 4) (v := .tmp 17) (w1 := putc w3 B4 0 [.slice none 0 0, .slice none 0 0, .slice none 0 0, .int .i64 0, .int .i64 0, .int .i64 1]) ?hg ?ho ?hn ?hr ?_; (case ho => rfl); (case hg => rfl); (case hn => rfl); (case hr => first | (go_simp; done) | (go_simp; rfl)); intro w4 hw; replace HL := am (HL.out.fil0 [.slice none 0 0, .slice none 0 0, .slice none 0 0, .int .i64 0, .int .i64 0, .int .i64 1] hw); clear hw; clear hB2_0 fB2_0 hB2_1 fB2_1 hB2_2 fB2_2 hB4_0 fB4_0 hB4_1 fB4_1 hB4_2 fB4_2 hB4_3 fB4_3 hB4_4 fB4_4 hB4_5 fB4_5))
  refine bodyPost_ret (results_cell_row rfl _ _ B4 33 #[.slice none 0 0, .slice none 0 0, .slice none 0 0, .int .i64 0, .int .i64 0, .int .i64 1] (0, 0) _ rfl (HL.out.bx 0) Try.underlying33 rfl (by kernel_rfl)) rfl ?_
  exact ⟨_, _, _, by first | rfl | (simp; done), (((HL.out.pick [] (L' := [])).nilR (Kd.int .i64) 2).nilT k31 31).nilT k31 31⟩
 | true =>
 rw [if_pos rfl] at H
 go_enter Try.func6, Try.ntmps6
 go_wp2_with (first | ((with_reducible refine gate_dst (N := 2) rfl ?_); refine box_event ?hg (N := 2) ?hd (cs := #[.slice A0_0 l0_0.length c0_0, .int .i64 a0_1, .int .i64 a0_2]) (t := 31) ?hr ?_; (case hd => rfl); (case hg => rfl); (case hr => first | (go_simp; done) | (go_simp; rfl)); intro B2 hg w1 hbox hb; replace HL := am (HL.out.addBox hg hbox hb); clear hb hbox hg) | ((with_reducible refine gate_dst (N := 4) rfl ?_); refine box_event ?hg (N := 4) ?hd (cs := #[.slice none 0 0, .slice none 0 0, .slice none 0 0, .int .i64 0, .int .i64 0, .int .i64 0]) (t := 33) ?hr ?_; (case hd => rfl); (case hg => rfl); (case hr => first | (go_simp; done) | (go_simp; rfl)); intro B4 hg w2 hbox hb; replace HL := am (HL.out.addBox hg hbox hb); clear hb hbox hg; obtain ⟨hB4_0, fB4_0, hB4_1, fB4_1, hB4_2, fB4_2, hB4_3, fB4_3, hB4_4, fB4_4, hB4_5, fB4_5⟩ := cells6 (HL.out.bx 0); obtain ⟨hB2_0, fB2_0, hB2_1, fB2_1, hB2_2, fB2_2⟩ := cells3 (HL.out.bx 1)) | ((with_reducible refine gate_callee (f := 18) rfl ?_); refine gl (some 15) Try.func18 #[.agg #[.slice A0_0 l0_0.length c0_0, .int .i64 a0_1, .int .i64 a0_2]] ?_; (with_reducible refine (spec_BufRight.calls k _ _ l0_0 a0_1 a0_2 true _ ?s0 ?s1 A4.out).mono ?_); (case s0 => exact (Kd.C_below HR0.out HL.out.bel)); (case s1 => exact HC0.out); rintro e w3 ⟨rfl, hb⟩; refine ⟨_, rfl, ?_⟩; replace HL := am (HL.out.step hb); clear hb; clear hB4_0 fB4_0 hB4_1 fB4_1 hB4_2 fB4_2 hB4_3 fB4_3 hB4_4 fB4_4 hB4_5 fB4_5 hB2_0 fB2_0 hB2_1 fB2_1 hB2_2 fB2_2; obtain ⟨hB2_0, fB2_0, hB2_1, fB2_1, hB2_2, fB2_2⟩ := cells3 (HL.out.bx 1); obtain ⟨hB4_0, fB4_0, hB4_1, fB4_1, hB4_2, fB4_2, hB4_3, fB4_3, hB4_4, fB4_4, hB4_5, fB4_5⟩ := cells6 (HL.out.bx 0)))
 clear hB2_0 fB2_0 hB2_1 fB2_1 hB2_2 fB2_2 hB4_0 fB4_0 hB4_1 fB4_1 hB4_2 fB4_2 hB4_3 fB4_3 hB4_4 fB4_4 hB4_5 fB4_5
 have H' := am H
 clear H
 go_loopg [5] k (fun kq v5 w' => ∃ (i : Int), v5 = .int .i64 i ∧ Aside0 (spec_UndoRun.l0 kq l1 i l0_0 a0_1 a0_2 = some (r1, r2, r3, r4, r5, r6)) ∧ Aside0 (kq ≤ k) ∧ Aside0 (Lw w [.box B4 #[.slice none 0 0, .slice none 0 0, .slice none 0 0, .int .i64 0, .int .i64 0, .int .i64 0] 33, .box B2 #[.slice A0_0 l0_0.length c0_0, .int .i64 a0_1, .int .i64 a0_2] 31] w'))
 case atStart => exact ⟨0, (by first | rfl | (simp; done)), H', ⟨Nat.le_refl _⟩, (by first | exact ⟨(HL.out.pick [0, 1])⟩ | exact ⟨Lw.drewN (HL.out.pick [0, 1]) _⟩)⟩
 case round =>
  clear H' HL
  obtain ⟨i, rfl, HA, HK, HL⟩ := hrel
  cases gk with
  | zero => exact absurd HA.out (by simp [spec_UndoRun.l0])
  | succ k2 =>
   have H := HA.out
   clear HA
   rw [spec_UndoRun.l0] at H
   by_cases c1 : i < (l1.length : Int)
   · rw [if_pos c1] at H
     have c1b : decide (i < (l1.length : Int)) = true := decide_eq_true c1
     by_cases c2 : 0 ≤ i
     rotate_left
     · rw [if_neg c2] at H; cases H
     rw [if_pos c2] at H
     obtain ⟨ad, Ae, ce, eA, hx, hl, hi⟩ := at_L1 HR1.out i c2 c1
     cases eA
     obtain ⟨pt, hpt⟩ : ∃ p, p = rd_L1 l1 i := ⟨_, rfl⟩
     rw [← hpt] at H hx hl hi
     have HR2 := am hi
     have HC2 := am hl
     have HX := am hx
     replace hx := HL.out.cel hx
     have u1 := eq_true c1
     have u2 := eq_true c2
     clear c1 c2 hi hl hpt
     replace H := Option.bind_eq_some_iff.mp H
     obtain ⟨t, E, H⟩ := H
     have A5 := am E
     clear E
     cases t with
     | true =>
      rw [if_pos rfl] at H
      have H' := am H
      go_wp2_with (first | ((with_reducible refine gate_callee (f := 19) rfl ?_); refine gl (some 28) Try.func19 #[.slice Ae pt.length ce] ?_; (with_reducible refine (spec_PointsRight.calls k2 _ _ pt true _ ?s0 ?s1 A5.out).mono ?_); (case s0 => exact (Kd.C_below HR2.out HL.out.bel)); (case s1 => exact HC2.out); rintro e w21 ⟨rfl, hd⟩; refine ⟨_, rfl, ?_⟩; replace HL := am (HL.out.drawn hd); clear hd; obtain ⟨hB4_0, fB4_0, hB4_1, fB4_1, hB4_2, fB4_2, hB4_3, fB4_3, hB4_4, fB4_4, hB4_5, fB4_5⟩ := cells6 (HL.out.bx 0)))
      go_roundg k2
      case measure => have := HK.out; omega
      case rel => exact ⟨wrap64 (i + 1), (by first | rfl | (simp; done)), H', ⟨by have := HK.out; omega⟩, (by first | exact ⟨(HL.out.pick [0, 1])⟩ | exact ⟨Lw.drewN (HL.out.pick [0, 1]) _⟩)⟩
     | false =>
      rw [if_neg Bool.false_ne_true] at H
      simp only [Option.some.injEq, Prod.mk.injEq] at H
      obtain ⟨rfl, rfl, rfl, rfl, rfl, rfl⟩ := H
      go_wp2_with (first | ((with_reducible refine gate_callee (f := 19) rfl ?_); refine gl (some 28) Try.func19 #[.slice Ae pt.length ce] ?_; (with_reducible refine (spec_PointsRight.calls k2 _ _ pt false _ ?s0 ?s1 A5.out).mono ?_); (case s0 => exact (Kd.C_below HR2.out HL.out.bel)); (case s1 => exact HC2.out); rintro e w21 ⟨rfl, hd⟩; refine ⟨_, rfl, ?_⟩; replace HL := am (HL.out.drawn hd); clear hd; obtain ⟨hB4_0, fB4_0, hB4_1, fB4_1, hB4_2, fB4_2, hB4_3, fB4_3, hB4_4, fB4_4, hB4_5, fB4_5⟩ := cells6 (HL.out.bx 0)) | ((with_reducible refine gate_store (t := 33) (p := 4) rfl ?_); refine store_event (t := 33) (p := 4) (v := .tmp 30) (w1 := putc w21 B4 0 [.slice none 0 0, .slice none 0 0, .slice none 0 0, .int .i64 0, .int .i64 0, .int .i64 1]) ?hg ?ho ?hn ?hr ?_; (case ho => rfl); (case hg => rfl); (case hn => rfl); (case hr => first | (go_simp; done) | (go_simp; rfl)); intro w22 hw; replace HL := am (HL.out.fil0 [.slice none 0 0, .slice none 0 0, .slice none 0 0, .int .i64 0, .int .i64 0, .int .i64 1] hw); clear hw; clear hB4_0 fB4_0 hB4_1 fB4_1 hB4_2 fB4_2 hB4_3 fB4_3 hB4_4 fB4_4 hB4_5 fB4_5))
      refine bodyPost_ret (results_cell_row rfl _ _ B4 33 #[.slice none 0 0, .slice none 0 0, .slice none 0 0, .int .i64 0, .int .i64 0, .int .i64 1] (0, 0) _ rfl (HL.out.bx 0) Try.underlying33 rfl (by kernel_rfl)) rfl ?_
      exact ⟨_, _, _, by first | rfl | (simp; done), (((HL.out.pick [] (L' := [])).nilR (Kd.int .i64) 2).nilT k31 31).nilT k31 31⟩
   · rw [if_neg c1] at H
     have c1b : decide (i < (l1.length : Int)) = false := decide_eq_false c1
     clear c1
     replace H := Option.bind_eq_some_iff.mp H
     obtain ⟨⟨b1, b2, b3⟩, E, H⟩ := H
     have A6 := am E
     clear E
     dsimp only at H
     have H' := am H
     clear H
     obtain ⟨hB2_0, fB2_0, hB2_1, fB2_1, hB2_2, fB2_2⟩ := cells3 (HL.out.bx 1)
     go_wp2_with (first | ((with_reducible refine gate_callee (f := 20) rfl ?_); refine gl (some 32) Try.func20 #[.agg #[.slice A0_0 l0_0.length c0_0, .int .i64 a0_1, .int .i64 a0_2]] ?_; (with_reducible refine (spec_l02Copy.calls _ _ l0_0 a0_1 a0_2 b1 b2 b3 _ ?s0 ?s1 A6.out).mono ?_); (case s0 => exact (Kd.C_below HR0.out HL.out.bel)); (case s1 => exact HC0.out); rintro e w21 ⟨vn, rfl, ho, hb⟩; refine ⟨_, rfl, ?_⟩; replace HL := am (HL.out.addR hb ho); clear hb ho; obtain ⟨An, cn, ee_⟩ := Kd.R_slice (HL.out.gR 0); subst ee_; clear hB2_0 fB2_0 hB2_1 fB2_1 hB2_2 fB2_2) | ((with_reducible refine gate_dst (N := 6) rfl ?_); refine box_event ?hg (N := 6) ?hd (cs := #[.slice none 0 0, .slice none 0 0, .slice none 0 0, .int .i64 0, .int .i64 0, .int .i64 0]) (t := 33) ?hr ?_; (case hd => rfl); (case hg => rfl); (case hr => first | (go_simp; done) | (go_simp; rfl)); intro B6 hg w22 hbox hb; replace HL := am (HL.out.addBox hg hbox hb); clear hb hbox hg; obtain ⟨hB6_0, fB6_0, hB6_1, fB6_1, hB6_2, fB6_2, hB6_3, fB6_3, hB6_4, fB6_4, hB6_5, fB6_5⟩ := cells6 (HL.out.bx 0)) | ((with_reducible refine gate_store (t := 33) (p := 6) rfl ?_); refine store_event (t := 33) (p := 6) (v := .tmp 33) (w1 := putc w22 B6 0 [.slice none 0 0, .slice none 0 0, .slice An b1.length cn, .int .i64 b2, .int .i64 b3, .int .i64 0]) ?hg ?ho ?hn ?hr ?_; (case ho => rfl); (case hg => rfl); (case hn => rfl); (case hr => first | (go_simp; done) | (go_simp; rfl)); intro w23 hw; replace HL := am (HL.out.fil0 [.slice none 0 0, .slice none 0 0, .slice An b1.length cn, .int .i64 b2, .int .i64 b3, .int .i64 0] hw); clear hw; clear hB6_0 fB6_0 hB6_1 fB6_1 hB6_2 fB6_2 hB6_3 fB6_3 hB6_4 fB6_4 hB6_5 fB6_5))
     clear c1b
     replace HL := am ((HL.out.nilT k31 31).nilT k31 31)
     go_loopg [7] k2 (fun kq v7 w' => ∃ (i : Int) (ps nx : List S31) (np : List Int) (n1 n2 n3 : Int) (Ap Aq An : Option Addr) (cp cq cn : Nat), v7 = .int .i64 i ∧ Aside0 (spec_UndoRun.l1 kq l1 i ps nx np n1 n2 n3 = some (r1, r2, r3, r4, r5, r6)) ∧ Aside0 (kq ≤ k2) ∧ Aside0 (Lw w [.R (Kd.int .i64) 2 (.slice An np.length cn) np, .T k31 31 (.slice Aq nx.length cq) nx, .T k31 31 (.slice Ap ps.length cp) ps, .box B6 #[.slice Ap ps.length cp, .slice Aq nx.length cq, .slice An np.length cn, .int .i64 n1, .int .i64 n2, .int .i64 n3] 33, .box B4 #[.slice none 0 0, .slice none 0 0, .slice none 0 0, .int .i64 0, .int .i64 0, .int .i64 0] 33] w'))
     case atStart => exact ⟨0, [], [], b1, b2, b3, 0, none, none, An, 0, 0, cn, (by first | rfl | (simp; done)), H', ⟨Nat.le_refl _⟩, (by first | exact ⟨(HL.out.pick [3, 0, 1, 2, 4])⟩ | exact ⟨Lw.drewN (HL.out.pick [3, 0, 1, 2, 4]) _⟩)⟩
     case round =>
      clear H' HL
      obtain ⟨i, ps, nx, np, n1, n2, n3, Ap, Aq, An, cp, cq, cn, rfl, HA, HK2, HL⟩ := hrel
      cases gk with
      | zero => exact absurd HA.out (by simp [spec_UndoRun.l1])
      | succ k3 =>
       have H := HA.out
       clear HA
       rw [spec_UndoRun.l1] at H
       by_cases c1 : i < (l1.length : Int)
       rotate_left
       · rw [if_neg c1] at H
         simp only [Option.some.injEq, Prod.mk.injEq] at H
         obtain ⟨rfl, rfl, rfl, rfl, rfl, rfl⟩ := H
         have c1b : decide (i < (l1.length : Int)) = false := decide_eq_false c1
         clear c1
         obtain ⟨hB6_0, fB6_0, hB6_1, fB6_1, hB6_2, fB6_2, hB6_3, fB6_3, hB6_4, fB6_4, hB6_5, fB6_5⟩ := cells6 (HL.out.bx 3)
         obtain ⟨hB4_0, fB4_0, hB4_1, fB4_1, hB4_2, fB4_2, hB4_3, fB4_3, hB4_4, fB4_4, hB4_5, fB4_5⟩ := cells6 (HL.out.bx 4)
         go_wp2_with (first | ((with_reducible refine gate_store (t := 33) (p := 4) rfl ?_); refine store_event (t := 33) (p := 4) (v := .tmp 74) (w1 := putc wr B4 0 [.slice Ap ps.length cp, .slice Aq nx.length cq, .slice An np.length cn, .int .i64 n1, .int .i64 n2, .int .i64 n3]) ?hg ?ho ?hn ?hr ?_; (case ho => rfl); (case hg => rfl); (case hn => rfl); (case hr => first | (go_simp; done) | (go_simp; rfl)); intro w31 hw; replace HL := am (HL.out.fil 4 0 [.slice Ap ps.length cp, .slice Aq nx.length cq, .slice An np.length cn, .int .i64 n1, .int .i64 n2, .int .i64 n3] hw); clear hw; clear hB6_0 fB6_0 hB6_1 fB6_1 hB6_2 fB6_2 hB6_3 fB6_3 hB6_4 fB6_4 hB6_5 fB6_5 hB4_0 fB4_0 hB4_1 fB4_1 hB4_2 fB4_2 hB4_3 fB4_3 hB4_4 fB4_4 hB4_5 fB4_5))
         refine bodyPost_ret (results_cell_row rfl _ _ B4 33 #[.slice Ap ps.length cp, .slice Aq nx.length cq, .slice An np.length cn, .int .i64 n1, .int .i64 n2, .int .i64 n3] (0, 0) _ rfl (HL.out.bx 4) Try.underlying33 rfl (by kernel_rfl)) rfl ?_
         exact ⟨_, _, _, by first | rfl | (simp; done), (HL.out.pick [2, 1, 0])⟩
       rw [if_pos c1] at H
       have c1b : decide (i < (l1.length : Int)) = true := decide_eq_true c1
       by_cases c2 : 0 ≤ i
       rotate_left
       · rw [if_neg c2] at H; cases H
       rw [if_pos c2] at H
       obtain ⟨ad, Ae, ce, eA, hx, hl, hi⟩ := at_L1 HR1.out i c2 c1
       cases eA
       obtain ⟨pt, hpt⟩ : ∃ p, p = rd_L1 l1 i := ⟨_, rfl⟩
       rw [← hpt] at H hx hl hi
       have HR2 := am hi
       have HC2 := am hl
       have HX := am hx
       replace hx := HL.out.cel hx
       have u1 := eq_true c1
       have u2 := eq_true c2
       clear c1 c2 hi hl hpt
       by_cases c3 : (pt.length : Int) = 0
       · rw [if_pos c3] at H
         have c3b : ((pt.length : Int) == 0) = true := beq_iff_eq.mpr c3
         clear c3
         replace H := Option.bind_eq_some_iff.mp H
         obtain ⟨⟨x0, x1, x2, x3, x4, x5⟩, E, H⟩ := H
         have A7 := am E
         clear E
         dsimp only at H
         obtain ⟨hB6_0, fB6_0, hB6_1, fB6_1, hB6_2, fB6_2, hB6_3, fB6_3, hB6_4, fB6_4, hB6_5, fB6_5⟩ := cells6 (HL.out.bx 3)
         by_cases c4 : x5 = 0
         · rw [if_pos c4] at H
           have c4b : (x5 == 0) = true := beq_iff_eq.mpr c4
           clear c4
           have H' := am H
           go_wp2_with (first | ((with_reducible refine gate_callee (f := 21) rfl ?_); refine gl (some 50) Try.func21 #[.agg #[.slice Ap ps.length cp, .slice Aq nx.length cq], .agg #[.slice An np.length cn, .int .i64 n1, .int .i64 n2]] ?_; (with_reducible refine (spec_UndoBack.callsL k3 _ _ ps _ _ nx _ _ np n1 n2 x0 x1 x2 x3 x4 x5 _ ?s0 ?s1 ?s2 ?s3 ?s4 ?s5 A7.out).mono ?_); (case s0 => exact (HL.out.rT 2)); (case s1 => exact (HL.out.cT 2)); (case s2 => exact (HL.out.rT 1)); (case s3 => exact (HL.out.cT 1)); (case s4 => exact (HL.out.rR 0)); (case s5 => exact (HL.out.cR 0)); rintro e w31 ⟨v0, v1, v2, rfl, ho⟩; refine ⟨_, rfl, ?_⟩; replace HL := am (HL.out.app ho); clear ho; obtain ⟨Ax0, cx0, ee_, -⟩ := Kd.T_slice (HL.out.gT 0); subst ee_; obtain ⟨Ax1, cx1, ee_, -⟩ := Kd.T_slice (HL.out.gT 1); subst ee_; obtain ⟨Ax2, cx2, ee_⟩ := Kd.R_slice (HL.out.gR 2); subst ee_; clear hB6_0 fB6_0 hB6_1 fB6_1 hB6_2 fB6_2 hB6_3 fB6_3 hB6_4 fB6_4 hB6_5 fB6_5) | ((with_reducible refine gate_dst (N := 8) rfl ?_); refine box_event ?hg (N := 8) ?hd (cs := #[.slice none 0 0, .slice none 0 0, .slice none 0 0, .int .i64 0, .int .i64 0, .int .i64 0]) (t := 33) ?hr ?_; (case hd => rfl); (case hg => rfl); (case hr => first | (go_simp; done) | (go_simp; rfl)); intro B8 hg w32 hbox hb; replace HL := am (HL.out.addBox hg hbox hb); clear hb hbox hg; obtain ⟨hB8_0, fB8_0, hB8_1, fB8_1, hB8_2, fB8_2, hB8_3, fB8_3, hB8_4, fB8_4, hB8_5, fB8_5⟩ := cells6 (HL.out.bx 0)) | ((with_reducible refine gate_store (t := 33) (p := 8) rfl ?_); refine store_event (t := 33) (p := 8) (v := .tmp 50) (w1 := putc w32 B8 0 [.slice Ax0 x0.length cx0, .slice Ax1 x1.length cx1, .slice Ax2 x2.length cx2, .int .i64 x3, .int .i64 x4, .int .i64 x5]) ?hg ?ho ?hn ?hr ?_; (case ho => rfl); (case hg => rfl); (case hn => rfl); (case hr => first | (go_simp; done) | (go_simp; rfl)); intro w33 hw; replace HL := am (HL.out.fil0 [.slice Ax0 x0.length cx0, .slice Ax1 x1.length cx1, .slice Ax2 x2.length cx2, .int .i64 x3, .int .i64 x4, .int .i64 x5] hw); clear hw; clear hB8_0 fB8_0 hB8_1 fB8_1 hB8_2 fB8_2 hB8_3 fB8_3 hB8_4 fB8_4 hB8_5 fB8_5; obtain ⟨hB8_0, fB8_0, hB8_1, fB8_1, hB8_2, fB8_2, hB8_3, fB8_3, hB8_4, fB8_4, hB8_5, fB8_5⟩ := cells6 (HL.out.bx 0); obtain ⟨hB6_0, fB6_0, hB6_1, fB6_1, hB6_2, fB6_2, hB6_3, fB6_3, hB6_4, fB6_4, hB6_5, fB6_5⟩ := cells6 (HL.out.bx 7)) | ((with_reducible refine gate_store (t := 33) (p := 6) rfl ?_); refine store_event (t := 33) (p := 6) (v := .tmp 54) (w1 := putc w33 B6 0 [.slice Ax0 x0.length cx0, .slice Ax1 x1.length cx1, .slice Ax2 x2.length cx2, .int .i64 x3, .int .i64 x4, .int .i64 x5]) ?hg ?ho ?hn ?hr ?_; (case ho => rfl); (case hg => rfl); (case hn => rfl); (case hr => first | (go_simp; done) | (go_simp; rfl)); intro w34 hw; replace HL := am (HL.out.fil 7 0 [.slice Ax0 x0.length cx0, .slice Ax1 x1.length cx1, .slice Ax2 x2.length cx2, .int .i64 x3, .int .i64 x4, .int .i64 x5] hw); clear hw; clear hB8_0 fB8_0 hB8_1 fB8_1 hB8_2 fB8_2 hB8_3 fB8_3 hB8_4 fB8_4 hB8_5 fB8_5 hB6_0 fB6_0 hB6_1 fB6_1 hB6_2 fB6_2 hB6_3 fB6_3 hB6_4 fB6_4 hB6_5 fB6_5))
           go_wp2
           go_roundg k3
           case measure => have := HK2.out; omega
           case rel => exact ⟨wrap64 (i + 1), x0, x1, x2, x3, x4, x5, Ax0, Ax1, Ax2, cx0, cx1, cx2, (by first | rfl | (simp; done)), H', ⟨by have := HK2.out; omega⟩, (by first | exact ⟨(HL.out.pick [3, 2, 1, 7, 8])⟩ | exact ⟨Lw.drewN (HL.out.pick [3, 2, 1, 7, 8]) _⟩)⟩
         · rw [if_neg c4] at H
           have c4b : (x5 == 0) = false := beq_eq_false_iff_ne.mpr c4
           clear c4
           have H' := am H
           go_wp2_with (first | ((with_reducible refine gate_callee (f := 21) rfl ?_); refine gl (some 50) Try.func21 #[.agg #[.slice Ap ps.length cp, .slice Aq nx.length cq], .agg #[.slice An np.length cn, .int .i64 n1, .int .i64 n2]] ?_; (with_reducible refine (spec_UndoBack.callsL k3 _ _ ps _ _ nx _ _ np n1 n2 x0 x1 x2 x3 x4 x5 _ ?s0 ?s1 ?s2 ?s3 ?s4 ?s5 A7.out).mono ?_); (case s0 => exact (HL.out.rT 2)); (case s1 => exact (HL.out.cT 2)); (case s2 => exact (HL.out.rT 1)); (case s3 => exact (HL.out.cT 1)); (case s4 => exact (HL.out.rR 0)); (case s5 => exact (HL.out.cR 0)); rintro e w31 ⟨v0, v1, v2, rfl, ho⟩; refine ⟨_, rfl, ?_⟩; replace HL := am (HL.out.app ho); clear ho; obtain ⟨Ax0, cx0, ee_, -⟩ := Kd.T_slice (HL.out.gT 0); subst ee_; obtain ⟨Ax1, cx1, ee_, -⟩ := Kd.T_slice (HL.out.gT 1); subst ee_; obtain ⟨Ax2, cx2, ee_⟩ := Kd.R_slice (HL.out.gR 2); subst ee_; clear hB6_0 fB6_0 hB6_1 fB6_1 hB6_2 fB6_2 hB6_3 fB6_3 hB6_4 fB6_4 hB6_5 fB6_5) | ((with_reducible refine gate_dst (N := 8) rfl ?_); refine box_event ?hg (N := 8) ?hd (cs := #[.slice none 0 0, .slice none 0 0, .slice none 0 0, .int .i64 0, .int .i64 0, .int .i64 0]) (t := 33) ?hr ?_; (case hd => rfl); (case hg => rfl); (case hr => first | (go_simp; done) | (go_simp; rfl)); intro B8 hg w32 hbox hb; replace HL := am (HL.out.addBox hg hbox hb); clear hb hbox hg; obtain ⟨hB8_0, fB8_0, hB8_1, fB8_1, hB8_2, fB8_2, hB8_3, fB8_3, hB8_4, fB8_4, hB8_5, fB8_5⟩ := cells6 (HL.out.bx 0)) | ((with_reducible refine gate_store (t := 33) (p := 8) rfl ?_); refine store_event (t := 33) (p := 8) (v := .tmp 50) (w1 := putc w32 B8 0 [.slice Ax0 x0.length cx0, .slice Ax1 x1.length cx1, .slice Ax2 x2.length cx2, .int .i64 x3, .int .i64 x4, .int .i64 x5]) ?hg ?ho ?hn ?hr ?_; (case ho => rfl); (case hg => rfl); (case hn => rfl); (case hr => first | (go_simp; done) | (go_simp; rfl)); intro w33 hw; replace HL := am (HL.out.fil0 [.slice Ax0 x0.length cx0, .slice Ax1 x1.length cx1, .slice Ax2 x2.length cx2, .int .i64 x3, .int .i64 x4, .int .i64 x5] hw); clear hw; clear hB8_0 fB8_0 hB8_1 fB8_1 hB8_2 fB8_2 hB8_3 fB8_3 hB8_4 fB8_4 hB8_5 fB8_5; obtain ⟨hB8_0, fB8_0, hB8_1, fB8_1, hB8_2, fB8_2, hB8_3, fB8_3, hB8_4, fB8_4, hB8_5, fB8_5⟩ := cells6 (HL.out.bx 0); obtain ⟨hB6_0, fB6_0, hB6_1, fB6_1, hB6_2, fB6_2, hB6_3, fB6_3, hB6_4, fB6_4, hB6_5, fB6_5⟩ := cells6 (HL.out.bx 7)))
           go_wp2
           go_roundg k3
           case measure => have := HK2.out; omega
           case rel => exact ⟨wrap64 (i + 1), ps, nx, np, n1, n2, n3, Ap, Aq, An, cp, cq, cn, (by first | rfl | (simp; done)), H', ⟨by have := HK2.out; omega⟩, (by first | exact ⟨(HL.out.pick [4, 5, 6, 7, 8])⟩ | exact ⟨Lw.drewN (HL.out.pick [4, 5, 6, 7, 8]) _⟩)⟩
       · rw [if_neg c3] at H
         have c3b : ((pt.length : Int) == 0) = false := beq_eq_false_iff_ne.mpr c3
         clear c3
         replace H := Option.bind_eq_some_iff.mp H
         obtain ⟨⟨y0, y1, y2, y3, y4⟩, E, H⟩ := H
         have A7 := am E
         clear E
         dsimp only at H
         have H0 := am H
         clear H
         go_wp2
         replace HL := am HL.out.drew
         refine start_ (n := 9) (S := fun w' => w'.cell? ⟨B6, 2, none⟩ = some (.slice An np.length cn) ∧ w'.cell? ⟨B6, 3, none⟩ = some (.int .i64 n1) ∧ w'.cell? ⟨B6, 4, none⟩ = some (.int .i64 n2) ∧ w'.cell? (ad.add i.toNat) = some (.slice Ae pt.length ce)) (ds := []) ur18.a0 (by kernel_rfl) rfl rfl ⟨bc (HL.out.bx 3) 2, bc (HL.out.bx 3) 3, bc (HL.out.bx 3) 4, HL.out.cel HX.out⟩ (fun hHeld => ?_); refine with_tabW ur18.tab ur18.bits (fun HT_ HW_ => ?_)
         generalize wr.drew = ws at HL hHeld ⊢
         refine pu_ 0 (some 55) ?_ ur18.a1 rfl rfl HT_.out (by kernel_rfl) (fun _ _ _ h => h) (Or.inl ⟨by rfl, ?_⟩) ?_ ?_ ?_; rotate_left
         ·intro w'; go_simp; with_reducible rfl
         rotate_left
         ·simp only [Act.put, sa_, s0_, ss_, i64_w, i32_w]; rfl
         refine pu_ 2 (some 57) ?_ ur18.a2 rfl rfl HT_.out (by kernel_rfl) (fun _ _ _ h => h) (Or.inl ⟨by rfl, ?_⟩) ?_ ?_ ?_; rotate_left
         ·intro w'; go_simp; with_reducible rfl
         rotate_left
         ·simp only [Act.put, sa_, s0_, ss_, i64_w, i32_w]; rfl
         refine pu_ 3 (some 58) ?_ ur18.a3 rfl rfl HT_.out (by kernel_rfl) (fun _ _ _ h => h) (Or.inl ⟨by rfl, ?_⟩) ?_ ?_ ?_; rotate_left
         ·intro w'; go_simp; with_reducible rfl
         rotate_left
         ·simp only [Act.put, sa_, s0_, ss_, i64_w, i32_w]; rfl
         refine pu_ 4 (some 59) ?_ ur18.a4 rfl rfl HT_.out (by kernel_rfl) (fun _ _ _ h => h) (Or.inl ⟨by rfl, ?_⟩) ?_ ?_ ?_; rotate_left
         ·intro w'; go_simp; with_reducible rfl
         rotate_left
         ·simp only [Act.put, sa_, s0_, ss_, i64_w, i32_w]; rfl
         refine tk_ 1 (some 56) ?_ ur18.a5 rfl rfl HT_.out HW_.out (by kernel_rfl) (fun _ _ _ h => h) (Or.inl ⟨by rfl, ?_⟩) hHeld ?_ ?_ ?_; rotate_left
         ·rintro w' ⟨t0, t1, t2, t3⟩; go_simp; with_reducible rfl
         rotate_left
         ·simp only [Act.put, sa_, s0_, ss_, i64_w, i32_w]; rfl
         refine tk_ 5 (some 60) ?_ ur18.a6 rfl rfl HT_.out HW_.out (by kernel_rfl) (fun _ _ _ h => h) (Or.inl ⟨by rfl, ?_⟩) hHeld ?_ ?_ ?_; rotate_left
         ·rintro w' ⟨t0, t1, t2, t3⟩; go_simp; with_reducible rfl
         rotate_left
         ·simp only [Act.put, sa_, s0_, ss_, i64_w, i32_w]; rfl
         refine join_ (σ := Value × Value × Nat) 1 ur18.a7 (fun s_ => [(61, .agg #[s_.1, .int .i64 y1, .int .i64 y2, s_.2.1, .int .i64 y4]), (9, .pointer (some ⟨s_.2.2, 0, none⟩))]) (fun s_ w' => (w'.cell? ⟨B6, 2, none⟩ = some (.slice An np.length cn) ∧ w'.cell? ⟨B6, 3, none⟩ = some (.int .i64 n1) ∧ w'.cell? ⟨B6, 4, none⟩ = some (.int .i64 n2) ∧ w'.cell? (ad.add i.toNat) = some (.slice Ae pt.length ce)) ∧ (∃ A c, s_.2.1 = .slice A y3.length c) ∧ Lw w (.box s_.2.2 #[.slice none 0 0, .int .i64 0, .int .i64 0, .slice none 0 0, .int .i64 0] 49 :: .R (Kd.int .i64) 2 s_.1 y0 :: [.R (Kd.int .i64) 2 (.slice An np.length cn) np, .T k31 31 (.slice Aq nx.length cq) nx, .T k31 31 (.slice Ap ps.length cp) ps, .box B6 #[.slice Ap ps.length cp, .slice Aq nx.length cq, .slice An np.length cn, .int .i64 n1, .int .i64 n2, .int .i64 n3] 33, .box B4 #[.slice none 0 0, .slice none 0 0, .slice none 0 0, .int .i64 0, .int .i64 0, .int .i64 0] 33]) w') ?_ ?_
         rotate_left
         ·intro hCont
          refine two_ (i := 6) (j := 7) (Ni := some 61) (Nj := some 9) ur18.a8 ur18.a9 rfl rfl rfl rfl (two_of HT_.out (by kernel_rfl)) (by decide) (by decide) (fun K hK => ?_) (fun K hK => ?_)
          ·skip
           refine gs_ Try.func22 #[.agg #[.slice An np.length cn, .int .i64 n1, .int .i64 n2], .slice Ae pt.length ce] ?_
           (with_reducible refine (spec_BufInsert.calls k3 _ _ np n1 n2 _ _ pt y0 y1 y2 y3 y4 _ ?q5s0 ?q5s1 ?q5s2 ?q5s3 A7.out).mono ?_)
           (case q5s0 => exact (HL.out.rR 0))
           (case q5s1 => exact (HL.out.cR 0))
           (case q5s2 => exact (Kd.C_below HR2.out HL.out.bel))
           (case q5s3 => exact HC2.out)
           rintro e w31 ⟨v0, v3, rfl, ho, ho3, hb⟩
           refine ⟨_, rfl, ?_⟩
           have HV := am (Kd.R_slice ho3)
           replace HL := am (HL.out.addR hb ho)
           clear hb ho ho3
           refine hK.out _ _ ⟨bc (HL.out.bx 4) 2, bc (HL.out.bx 4) 3, bc (HL.out.bx 4) 4, HL.out.cel HX.out⟩ (fun hHeld => ?_)
           clear hK K
           refine norm_ (a' := ?_) ?_ ?_
           rotate_left
           ·show Act.put _ (some 61) _ = _
            simp only [Act.put, sa_, s0_, ss_, i64_w, i32_w]
            rfl
           refine one_ (i := 7) (N := some 9) ur18.a7 rfl rfl (one_of HT_.out (by kernel_rfl)) (by decide) (fun K hK => ?_)
           refine box_step ?hg (N := 9) ?hd (cs := #[.slice none 0 0, .int .i64 0, .int .i64 0, .slice none 0 0, .int .i64 0]) (t := 49) ?hr ?_; (case hd => rfl); (case hg => rfl); (case hr => first | (go_simp; done) | (go_simp; rfl))
           intro B9 hg w32 hbox hb
           replace HL := am (HL.out.addBox hg hbox hb)
           clear hb hbox hg
           refine hK.out _ _ ⟨bc (HL.out.bx 5) 2, bc (HL.out.bx 5) 3, bc (HL.out.bx 5) 4, HL.out.cel HX.out⟩ (fun hHeld => ?_)
           clear hK K
           refine norm_ (a' := ?_) ?_ ?_
           rotate_left
           ·show Act.put _ (some 9) _ = _
            simp only [Act.put, sa_, s0_, ss_, i64_w, i32_w]
            rfl
           exact norm_ (by simp only [putAll, Act.put, sa_, s0_, ss_]) (hCont (v0, v3, B9) _ ⟨hHeld, HV.out, (HL.out.pick [0, 1, 2, 3, 4, 5, 6])⟩)
          ·skip
           refine box_step ?hg (N := 9) ?hd (cs := #[.slice none 0 0, .int .i64 0, .int .i64 0, .slice none 0 0, .int .i64 0]) (t := 49) ?hr ?_; (case hd => rfl); (case hg => rfl); (case hr => first | (go_simp; done) | (go_simp; rfl))
           intro B9 hg w31 hbox hb
           replace HL := am (HL.out.addBox hg hbox hb)
           clear hb hbox hg
           refine hK.out _ _ ⟨bc (HL.out.bx 4) 2, bc (HL.out.bx 4) 3, bc (HL.out.bx 4) 4, HL.out.cel HX.out⟩ (fun hHeld => ?_)
           clear hK K
           refine norm_ (a' := ?_) ?_ ?_
           rotate_left
           ·show Act.put _ (some 9) _ = _
            simp only [Act.put, sa_, s0_, ss_, i64_w, i32_w]
            rfl
           refine one_ (i := 6) (N := some 61) ur18.a7 rfl rfl (one_of HT_.out (by kernel_rfl)) (by decide) (fun K hK => ?_)
           refine gs_ Try.func22 #[.agg #[.slice An np.length cn, .int .i64 n1, .int .i64 n2], .slice Ae pt.length ce] ?_
           (with_reducible refine (spec_BufInsert.calls k3 _ _ np n1 n2 _ _ pt y0 y1 y2 y3 y4 _ ?q6s0 ?q6s1 ?q6s2 ?q6s3 A7.out).mono ?_)
           (case q6s0 => exact (HL.out.rR 1))
           (case q6s1 => exact (HL.out.cR 1))
           (case q6s2 => exact (Kd.C_below HR2.out HL.out.bel))
           (case q6s3 => exact HC2.out)
           rintro e w32 ⟨v0, v3, rfl, ho, ho3, hb⟩
           refine ⟨_, rfl, ?_⟩
           have HV := am (Kd.R_slice ho3)
           replace HL := am (HL.out.addR hb ho)
           clear hb ho ho3
           refine hK.out _ _ ⟨bc (HL.out.bx 5) 2, bc (HL.out.bx 5) 3, bc (HL.out.bx 5) 4, HL.out.cel HX.out⟩ (fun hHeld => ?_)
           clear hK K
           refine norm_ (a' := ?_) ?_ ?_
           rotate_left
           ·show Act.put _ (some 61) _ = _
            simp only [Act.put, sa_, s0_, ss_, i64_w, i32_w]
            rfl
           exact norm_ (by simp only [putAll, Act.put, sa_, s0_, ss_]) (hCont (v0, v3, B9) _ ⟨hHeld, HV.out, (HL.out.pick [1, 0, 2, 3, 4, 5, 6])⟩)
         rintro ⟨v0, v3, B9⟩ w50 ⟨hHeld, ⟨Ay3, cy3, e3⟩, hl⟩
         dsimp only at e3 hl ⊢
         subst e3
         replace HL := am hl
         clear hl
         obtain ⟨Ay0, cy0, ee_⟩ := Kd.R_slice (HL.out.gR 1)
         subst ee_
         refine norm_ (a' := ?_) ?_ ?_
         rotate_left
         ·simp only [putAll, Act.put, sa_, s0_, ss_, i64_w, i32_w]
          rfl
         refine one_ (i := 8) (N := none) ur18.a10 rfl rfl (one_of HT_.out (by kernel_rfl)) (by decide) (fun K hK => ?_)
         obtain ⟨y_0, z_0, y_1, z_1, y_2, z_2, y_3, z_3, y_4, z_4⟩ := cells5 (HL.out.bx 0)
         refine skip_ (w1 := putc w50 B9 0 [.slice Ay0 y0.length cy0, .int .i64 y1, .int .i64 y2, .slice Ay3 y3.length cy3, .int .i64 y4]) (by rfl) rfl (by go_simp; rfl) ?_
         replace HL := am (HL.out.fil0 [.slice Ay0 y0.length cy0, .int .i64 y1, .int .i64 y2, .slice Ay3 y3.length cy3, .int .i64 y4] rfl)
         clear y_0 z_0 y_1 z_1 y_2 z_2 y_3 z_3 y_4 z_4
         refine hK.out _ _ ⟨bc (HL.out.bx 5) 2, bc (HL.out.bx 5) 3, bc (HL.out.bx 5) 4, HL.out.cel HX.out⟩ (fun hHeld => ?_)
         clear hK K
         generalize putc w50 B9 0 [.slice Ay0 y0.length cy0, .int .i64 y1, .int .i64 y2, .slice Ay3 y3.length cy3, .int .i64 y4] = w51 at HL hHeld ⊢
         refine done_ (done_of HT_.out (by kernel_rfl)) ?_
         have H := H0.out
         clear H0
         obtain ⟨hB9_0, fB9_0, hB9_1, fB9_1, hB9_2, fB9_2, hB9_3, fB9_3, hB9_4, fB9_4⟩ := cells5 (HL.out.bx 0)
         obtain ⟨hB6_0, fB6_0, hB6_1, fB6_1, hB6_2, fB6_2, hB6_3, fB6_3, hB6_4, fB6_4, hB6_5, fB6_5⟩ := cells6 (HL.out.bx 5)
         by_cases c4 : y4 = 0
         · rw [if_pos c4] at H
           have c4b : (y4 == 0) = true := beq_iff_eq.mpr c4
           clear c4
           replace H := Option.bind_eq_some_iff.mp H
           obtain ⟨⟨x0, x1⟩, E, H⟩ := H
           have A8 := am E
           clear E
           dsimp only at H
           have H' := am H
           go_wp2_with (first | ((with_reducible refine gate_callee (f := 23) rfl ?_); refine gl (some 69) Try.func23 #[.agg #[.slice Ap ps.length cp, .slice Aq nx.length cq], .agg #[.slice An np.length cn, .int .i64 n1, .int .i64 n2]] ?_; (with_reducible refine (spec_UndoNote.callsA k3 _ _ ps _ _ nx _ _ np n1 n2 x0 x1 _ ?s0 ?s1 ?s2 ?s3 ?s4 ?s5 A8.out).mono ?_); (case s0 => exact (HL.out.rT 4)); (case s1 => exact (HL.out.cT 4)); (case s2 => exact (HL.out.rT 3)); (case s3 => exact (HL.out.cT 3)); (case s4 => exact (HL.out.rR 2)); (case s5 => exact (HL.out.cR 2)); rintro e w52 ⟨m1, hs, v0, v1, rfl, ho0, ho1, hb⟩; refine ⟨_, rfl, ?_⟩; replace HL := am (HL.out.add2 hs ho0 ho1 hb); clear hs ho0 ho1 hb; obtain ⟨Ax1, cx1, ee_, -⟩ := Kd.T_slice (HL.out.gT 0); subst ee_; obtain ⟨Ax0, cx0, ee_, -⟩ := Kd.T_slice (HL.out.gT 1); subst ee_; clear hB9_0 fB9_0 hB9_1 fB9_1 hB9_2 fB9_2 hB9_3 fB9_3 hB9_4 fB9_4 hB6_0 fB6_0 hB6_1 fB6_1 hB6_2 fB6_2 hB6_3 fB6_3 hB6_4 fB6_4 hB6_5 fB6_5; obtain ⟨hB6_0, fB6_0, hB6_1, fB6_1, hB6_2, fB6_2, hB6_3, fB6_3, hB6_4, fB6_4, hB6_5, fB6_5⟩ := cells6 (HL.out.bx 7)) | ((with_reducible refine gate_store (t := 30) (p := 70) rfl ?_); refine store_event (t := 30) (p := 70) (v := .tmp 69) (w1 := putc w52 B6 0 [.slice Ax0 x0.length cx0, .slice Ax1 x1.length cx1]) ?hg ?ho ?hn ?hr ?_; (case ho => rfl); (case hg => rfl); (case hn => rfl); (case hr => first | (go_simp; done) | (go_simp; rfl)); intro w53 hw; replace HL := am (HL.out.fil 7 0 [.slice Ax0 x0.length cx0, .slice Ax1 x1.length cx1] hw); clear hw; clear hB6_0 fB6_0 hB6_1 fB6_1 hB6_2 fB6_2 hB6_3 fB6_3 hB6_4 fB6_4 hB6_5 fB6_5; obtain ⟨hB9_0, fB9_0, hB9_1, fB9_1, hB9_2, fB9_2, hB9_3, fB9_3, hB9_4, fB9_4⟩ := cells5 (HL.out.bx 2); obtain ⟨hB6_0, fB6_0, hB6_1, fB6_1, hB6_2, fB6_2, hB6_3, fB6_3, hB6_4, fB6_4, hB6_5, fB6_5⟩ := cells6 (HL.out.bx 7)) | ((with_reducible refine gate_store (t := 31) (p := 73) rfl ?_); refine store_event (t := 31) (p := 73) (v := .tmp 72) (w1 := putc w53 B6 2 [.slice Ay0 y0.length cy0, .int .i64 y1, .int .i64 y2]) ?hg ?ho ?hn ?hr ?_; (case ho => rfl); (case hg => rfl); (case hn => rfl); (case hr => first | (go_simp; done) | (go_simp; rfl)); intro w54 hw; replace HL := am (HL.out.fil 7 2 [.slice Ay0 y0.length cy0, .int .i64 y1, .int .i64 y2] hw); clear hw; clear hB9_0 fB9_0 hB9_1 fB9_1 hB9_2 fB9_2 hB9_3 fB9_3 hB9_4 fB9_4 hB6_0 fB6_0 hB6_1 fB6_1 hB6_2 fB6_2 hB6_3 fB6_3 hB6_4 fB6_4 hB6_5 fB6_5))
           go_wp2
           go_roundg k3
           case measure => have := HK2.out; omega
           case rel => exact ⟨wrap64 (i + 1), x0, x1, y0, y1, y2, n3, Ax0, Ax1, Ay0, cx0, cx1, cy0, (by first | rfl | (simp; done)), H', ⟨by have := HK2.out; omega⟩, (by first | exact ⟨(HL.out.pick [3, 0, 1, 7, 8])⟩ | exact ⟨Lw.drewN (HL.out.pick [3, 0, 1, 7, 8]) _⟩)⟩
         · rw [if_neg c4] at H
           have c4b : (y4 == 0) = false := beq_eq_false_iff_ne.mpr c4
           clear c4
           have H' := am H
           go_wp2
           go_roundg k3
           case measure => have := HK2.out; omega
           case rel => exact ⟨wrap64 (i + 1), ps, nx, np, n1, n2, n3, Ap, Aq, An, cp, cq, cn, (by first | rfl | (simp; done)), H', ⟨by have := HK2.out; omega⟩, (by first | exact ⟨(HL.out.pick [2, 3, 4, 5, 6])⟩ | exact ⟨Lw.drewN (HL.out.pick [2, 3, 4, 5, 6]) _⟩)⟩

end Go.Proofs.Ytabinbmcfeknjaa.PFnExactUndoRun
