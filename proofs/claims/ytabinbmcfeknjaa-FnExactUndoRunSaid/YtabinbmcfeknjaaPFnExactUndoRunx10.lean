-- Written by xprint.py (this claim's own program, over the kit's printer); Lean checks it.
import Derived.Test.YtabinbmcfeknjaaPFnExactUndoRunx0
import Derived.Test.YtabinbmcfeknjaaPFnExactUndoRunx4
import Derived.Test.YtabinbmcfeknjaaPFnExactUndoRunx5
import Derived.Test.YtabinbmcfeknjaaPFnExactUndoRunx6
import Derived.Test.YtabinbmcfeknjaaPFnExactUndoRunx7
import Derived.Test.YtabinbmcfeknjaaPFnExactUndoRunx9
namespace Go.Proofs.Ytabinbmcfeknjaa.PFnExactUndoRun
open Go.RowKit Go.Proofs.YtabinbmcfeknjaaW.PrintWords Go.Proofs.YtabinbmcfeknjaaW.PrintLast Go.Proofs.YtabinbmcfeknjaaW.PrintMore
attribute [local go_sem] max2_int min2_int max_two min_two max_three min_three max_four min_four   -- for this text's walks alone
set_option linter.unusedVariables false
set_option linter.unusedSimpArgs false   -- squeezed
set_option maxHeartbeats 8000000
set_option maxRecDepth 100000

/-! ### impl_ownUndo: function 59 -/
def impl_ownUndo.f (k : Nat) (l0_0 : List (S31)) (l0_1 : List (S31)) : Option ((List (S31)) × (List (S31))) := (impl_ownBufs.f k l0_0).bind fun t326 => ((impl_ownBufs.f k l0_1).bind fun t329 => (some (t326, t329)))
def impl_ownUndo.T1 : Bool × List (List Nat × List Nat) := (true, [([], []), ([0], [0]), ([1], [1]), ([], []), ([3], [3]), ([4, 2], [4]), ([2, 5], [2, 5]), ([6, 5, 0, 1, 2, 3, 4, 5, 6], [6])])
def impl_ownUndo.B1 : List Nat := [0, 1, 3, 0, 8, 31, 63, 127]
theorem impl_ownUndo.tab1 : rtab .any (opsOf Try.f59 1) = impl_ownUndo.T1 := by kernel_rfl
theorem impl_ownUndo.bits1 : waitsOk impl_ownUndo.T1.2 impl_ownUndo.B1 = true := by kernel_rfl
theorem impl_ownUndo.callsA (k : Nat) (A0_0 : Option Addr) (c0_0 : Nat) (l0_0 : List (S31)) (A0_1 : Option Addr) (c0_1 : Nat) (l0_1 : List (S31)) (r1 : List (S31)) (r2 : List (S31)) (w : World) (hr0_0 : Kd.C k31 w A0_0 l0_0.length l0_0) (hc0_0 : l0_0.length ≤ c0_0) (hr0_1 : Kd.C k31 w A0_1 l0_1.length l0_1) (hc0_1 : l0_1.length ≤ c0_1) (h : impl_ownUndo.f k l0_0 l0_1 = some (r1, r2)) :
  Calls Try.prog 59 #[.agg #[.slice A0_0 l0_0.length c0_0, .slice A0_1 l0_1.length c0_1]] w fun e w' => ∃ m1_ : Nat, (w.heap.size ≤ m1_ ∧ m1_ ≤ w'.heap.size) ∧ ∃ v0_ v1_ : Value, e = .returned (.agg #[v0_, v1_]) ∧ Kd.S k31 31 w' w.heap.size (fun k_ => k_ < m1_) v0_ r1 ∧ Kd.S k31 31 w' w.heap.size (fun k_ => m1_ ≤ k_) v1_ r2 ∧ Below w.heap.size w w' := by
 have hu30 := Try.underlying30
 have HR0_0 := am hr0_0
 have HC0_0 := am hc0_0
 clear hr0_0 hc0_0
 have HR0_1 := am hr0_1
 have HC0_1 := am hc0_1
 clear hr0_1 hc0_1
 have HB := am (Below.refl w.heap.size w)
 have H : ((impl_ownBufs.f k l0_0).bind fun t326 => ((impl_ownBufs.f k l0_1).bind fun t329 => (some (t326, t329)))) = some (r1, r2) := h
 clear h
 replace H := Option.bind_eq_some_iff.mp H
 obtain ⟨t326, A20, H⟩ := H
 replace H : ((impl_ownBufs.f k l0_1).bind fun t329 => (some (t326, t329))) = some (r1, r2) := H
 have A2 := Aside0.mk A20
 clear A20
 replace H := Option.bind_eq_some_iff.mp H
 obtain ⟨t329, A30, H⟩ := H
 replace H : (some (t326, t329)) = some (r1, r2) := H
 have A3 := Aside0.mk A30
 clear A30
 simp only [Option.some.injEq, Prod.mk.injEq] at H
 obtain ⟨rfl, rfl⟩ := H
 go_enter Try.func59, Try.ntmps59
 try go_wp2_with (first | ((with_reducible refine gate_dst (N := 1) rfl ?_); refine box_event ?hg (N := 1) ?hd (cs := #[.slice A0_0 l0_0.length c0_0, .slice A0_1 l0_1.length c0_1]) (t := 30) ?hr ?_; (case hd => rfl); (case hg => rfl); (case hr => first | (go_simp; done) | (go_simp; rfl)); intro gb324 hg w4 hbox hb; have BK324 := am (hbox); have GW324 := am ((by rw [hg]; exact (below_size (bl HB.out)) : w.heap.size ≤ gb324)); have GE324 := GW324; replace HB := am (below_step (bl HB.out) hb); clear hb hbox hg) | ((with_reducible refine gate_dst (N := 2) rfl ?_); refine box_event ?hg (N := 2) ?hd (cs := #[.slice none 0 0, .slice none 0 0]) (t := 30) ?hr ?_; (case hd => rfl); (case hg => rfl); (case hr => first | (go_simp; done) | (go_simp; rfl)); intro gb325 hg w5 hbox hb; have BK325 := am (hbox); have GW325 := am ((by rw [hg]; exact (below_size (bl HB.out)) : w.heap.size ≤ gb325)); have GE325 := GW325; replace HB := am (below_step (bl HB.out) hb); have NB324_325 := am ((by rw [hg]; exact Nat.ne_of_lt (blk_lt (pk BK324.out)) : gb324 ≠ gb325)); have NB325_324 := am ((by rw [hg]; exact Nat.ne_of_gt (blk_lt (pk BK324.out)) : gb325 ≠ gb324)); replace BK324 := am (blk_below (pk BK324.out) hb); clear hb hbox hg))
 replace BK324 := am (blk_drew BK324.out)
 replace BK325 := am (blk_drew BK325.out)
 replace HB := am (below_drew1 HB.out)
 refine start_ (n := 8) (S := fun w' => w'.cell? ⟨gb324, 0, none⟩ = some (.slice A0_0 l0_0.length c0_0) ∧ w'.cell? ⟨gb324, 1, none⟩ = some (.slice A0_1 l0_1.length c0_1)) (ds := []) #[false, false, false, false, false, false, false, false] (by kernel_rfl) rfl rfl ⟨bc BK324.out 0, bc BK324.out 1⟩ (fun hHeld => ?_); refine with_tabW impl_ownUndo.tab1 impl_ownUndo.bits1 (fun HT_ HW_ => ?_)
 generalize w5.drew = w6 at BK324 BK325 HB hHeld ⊢
 refine pure_ (i := 0) (N := some 3) (v := ?_) (a' := ?_) #[true, false, false, false, false, false, false, false] rfl rfl (any_of HT_.out (by kernel_rfl)) (fun _ _ _ h => h) (Or.inl ⟨by rfl, ?_⟩) ?_ ?_; rotate_left
 ·intro w'; go_simp; with_reducible rfl
 rotate_left
 ·simp only [Act.put, sa_, s0_, ss_, i64_w, i32_w]; rfl
 refine pure_ (i := 3) (N := some 6) (v := ?_) (a' := ?_) #[true, false, false, true, false, false, false, false] rfl rfl (any_of HT_.out (by kernel_rfl)) (fun _ _ _ h => h) (Or.inl ⟨by rfl, ?_⟩) ?_ ?_; rotate_left
 ·intro w'; go_simp; with_reducible rfl
 rotate_left
 ·simp only [Act.put, sa_, s0_, ss_, i64_w, i32_w]; rfl
 refine take_ (i := 1) (N := some 4) (v := ?_) (a' := ?_) #[true, true, false, true, false, false, false, false] rfl rfl (take_ofW HT_.out HW_.out (by kernel_rfl)) (fun _ _ _ h => h) (Or.inl ⟨by rfl, ?_⟩) hHeld ?_ ?_; rotate_left
 ·rintro w' ⟨s0, s1⟩; go_simp; with_reducible rfl
 rotate_left
 ·simp only [Act.put, sa_, s0_, ss_, i64_w, i32_w]; rfl
 refine take_ (i := 4) (N := some 7) (v := ?_) (a' := ?_) #[true, true, false, true, true, false, false, false] rfl rfl (take_ofW HT_.out HW_.out (by kernel_rfl)) (fun _ _ _ h => h) (Or.inl ⟨by rfl, ?_⟩) hHeld ?_ ?_; rotate_left
 ·rintro w' ⟨s0, s1⟩; go_simp; with_reducible rfl
 rotate_left
 ·simp only [Act.put, sa_, s0_, ss_, i64_w, i32_w]; rfl
 refine one_ (i := 2) (N := some 5) #[true, true, true, true, true, false, false, false] rfl rfl (one_of HT_.out (by kernel_rfl)) (by decide) (fun K hK => ?_)
 refine gs_ Try.func54 #[.slice A0_0 l0_0.length c0_0] ?_
 with_reducible refine (impl_ownBufs.calls k _ _ l0_0 t326 _ ?side1 ?side2 A2.out).mono ?_
 (case side1 => repeat (first | exact (Kd.C_below HR0_0.out HB.out) | (with_reducible refine Kd.C_alloc ?_ _) | (with_reducible refine Kd.C_drewN ?_ _) | (with_reducible refine Kd.C_drew ?_)))
 (case side2 => exact HC0_0.out)
 rintro e w7 ⟨v327, rfl, ho0, hb⟩
 refine ⟨_, rfl, ?_⟩
 have HO328 := am (Kd.S_lower ho0 (below_size (bl HB.out)))
 replace BK324 := am (blk_below (pk BK324.out) hb)
 replace BK325 := am (blk_below (pk BK325.out) hb)
 replace HB := am (below_step (bl HB.out) hb)
 (try clear hb)
 (try clear hb2)
 (try clear hk)
 (try clear hi)
 (try clear ho0)
 refine hK.out _ _ ⟨bc BK324.out 0, bc BK324.out 1⟩ (fun hHeld => ?_)
 clear hK K
 refine norm_ (a' := ?_) ?_ ?_
 rotate_left
 ·show Act.put _ (some 5) _ = _
  simp only [Act.put, sa_, s0_, ss_, i64_w, i32_w]
  rfl
 refine one_ (i := 5) (N := some 8) #[true, true, true, true, true, true, false, false] rfl rfl (one_of HT_.out (by kernel_rfl)) (by decide) (fun K hK => ?_)
 refine gs_ Try.func54 #[.slice A0_1 l0_1.length c0_1] ?_
 with_reducible refine (impl_ownBufs.calls k _ _ l0_1 t329 _ ?side1 ?side2 A3.out).mono ?_
 (case side1 => repeat (first | exact (Kd.C_below HR0_1.out HB.out) | (with_reducible refine Kd.C_alloc ?_ _) | (with_reducible refine Kd.C_drewN ?_ _) | (with_reducible refine Kd.C_drew ?_)))
 (case side2 => exact HC0_1.out)
 rintro e w8 ⟨v330, rfl, ho0, hb⟩
 obtain ⟨m1_, mb1_, ha1_, hz1_, hc1_⟩ := nxt_ hb
 have hw1_ : w.heap.size ≤ m1_ := (by rw [ha1_]; exact below_size (bl HB.out))
 refine ⟨_, rfl, ?_⟩
 have HO331 := am (Kd.S_mono (ok' := fun k_ => m1_ ≤ k_) (Kd.S_lower (Kd.S_new' (Kd.S_bound ho0) (Kd.S_lt (ks HO328.out))) (below_size (bl HB.out))) (fun _ hk => by rw [ha1_]; exact hk.1.2.1))
 replace HO328 := am (Kd.S_mono (ok' := fun k_ => k_ < m1_) (Kd.S_elder' (Kd.S_bound (ks HO328.out)) (Kd.S_base ho0) hb) (fun _ hk => by rw [ha1_]; exact hk.1.2.2.1))
 replace BK324 := am (blk_below (pk BK324.out) hb)
 replace BK325 := am (blk_below (pk BK325.out) hb)
 replace HB := am (below_step (bl HB.out) hb)
 (try clear hb)
 (try clear hb2)
 (try clear hk)
 (try clear hi)
 (try clear ho0)
 obtain ⟨Ao9, co9, eo9⟩ := Kd.S_slice HO331.out
 (first | subst eo9 | (injection eo9 with f1_ f2_ f3_; have f4_ := f1_.symm; have f5_ := f3_.symm; clear f1_ f2_ f3_; subst f4_; subst f5_))
 obtain ⟨Ao10, co10, eo10⟩ := Kd.S_slice HO328.out
 (first | subst eo10 | (injection eo10 with f1_ f2_ f3_; have f4_ := f1_.symm; have f5_ := f3_.symm; clear f1_ f2_ f3_; subst f4_; subst f5_))
 refine hK.out _ _ ⟨bc BK324.out 0, bc BK324.out 1⟩ (fun hHeld => ?_)
 clear hK K
 refine norm_ (a' := ?_) ?_ ?_
 rotate_left
 ·show Act.put _ (some 8) _ = _
  simp only [Act.put, sa_, s0_, ss_, i64_w, i32_w]
  rfl
 refine pure_ (i := 6) (N := some 9) (v := ?_) (a' := ?_) #[true, true, true, true, true, true, true, false] rfl rfl (any_of HT_.out (by kernel_rfl)) (fun _ _ _ h => h) (Or.inl ⟨by rfl, ?_⟩) ?_ ?_; rotate_left
 ·intro w'; go_simp; with_reducible rfl
 rotate_left
 ·simp only [Act.put, sa_, s0_, ss_, i64_w, i32_w]; rfl
 refine one_ (i := 7) (N := none) #[true, true, true, true, true, true, true, true] rfl rfl (one_of HT_.out (by kernel_rfl)) (by decide) (fun K hK => ?_)
 have hs11 : w8.cell? ⟨gb325, 0, none⟩ = some (.slice none 0 0) := bc BK325.out 0
 have hfs11 := blk_frozen BK325.out 0
 have hns11_0 := NB324_325.out
 have hms11_0 := NB325_324.out
 have hs12 : w8.cell? ⟨gb325, 1, none⟩ = some (.slice none 0 0) := bc BK325.out 1
 have hfs12 := blk_frozen BK325.out 1
 refine skip_ (w1 := ?_) (by rfl) rfl ?_ ?_
 rotate_left
 ·go_simp
  rfl
 refine hK.out _ _ ⟨((cell_far (p := ⟨gb325, _, none⟩) NB324_325.out _).trans (((cell_far (p := ⟨gb325, _, none⟩) NB324_325.out _).trans (hHeld.1)))), ((cell_far (p := ⟨gb325, _, none⟩) NB324_325.out _).trans (((cell_far (p := ⟨gb325, _, none⟩) NB324_325.out _).trans (hHeld.2))))⟩ (fun hHeld => ?_)
 clear hK K
 refine done_ (done_of HT_.out (by kernel_rfl)) ?_
 try go_wp2
 refine bodyPost_ret (results_cell_row rfl _ _ gb325 30 #[.slice Ao10 t326.length co10, .slice Ao9 t329.length co9] (0, 0) _ rfl (by refine pk ?_; refine blk_put (cs := #[.slice Ao10 t326.length co10, .slice none 0 0]) ?_ 1 _ rfl; refine pk ?_; refine blk_put (cs := #[.slice none 0 0, .slice none 0 0]) ?_ 0 _ rfl; refine pk ?_; exact BK325.out) Try.underlying30 rfl (by kernel_rfl)) rfl ?_
 exact ⟨m1_, ⟨hw1_, (by (try simp only [World.size_setCell]); omega)⟩, _, _, by first | rfl | (simp [errW_none, errW_some] <;> rfl) | (simp [*, errW_none, errW_some] <;> rfl), ks (Kd.S_mono (Kd.S_far (p := ⟨gb325, 1, none⟩) (Kd.S_far (p := ⟨gb325, 0, none⟩) (Kd.S_types HO328.out BK325.out (by decide)) (fun _ hk => hk.2) (.slice Ao10 t326.length co10)) (fun _ hk => hk.2) (.slice Ao9 t329.length co9)) (fun _ hk => hk.1)), ks (Kd.S_mono (Kd.S_far (p := ⟨gb325, 1, none⟩) (Kd.S_far (p := ⟨gb325, 0, none⟩) (Kd.S_types HO331.out BK325.out (by decide)) (fun _ hk => hk.2) (.slice Ao10 t326.length co10)) (fun _ hk => hk.2) (.slice Ao9 t329.length co9)) (fun _ hk => hk.1)), by repeat (first | (with_reducible first | exact HB.out | apply below_alloc | apply pw_below_drewN | apply below_drew1 | refine below_set ?_ GE324.out | refine below_set ?_ GE325.out) | exact HB.out)⟩
/-! ### impl_UndoNote: function 33 -/
def impl_UndoNote.j0 : Nat → Bool → List (S31) → List (S31) → List Int → Int → Int → Option ((List (S31)) × (List (S31)))
 | 0, _, _, _, _, _, _ => none
 | k + 1, x12, x333000, x333001, x334000, x334001, x334002 => if x12 = true then ((impl_ownUndo.f k x333000 x333001).bind fun bt337 => (some (bt337.1, bt337.2))) else ((impl_behindBufs.f k x333000 x334000 x334001 x334002).bind fun t343 => (some (t343, ([] : List (S31)))))
def impl_UndoNote.f (k : Nat) (l0_0 : List (S31)) (l0_1 : List (S31)) (l1_0 : List Int) (a1_1 : Int) (a1_2 : Int) : Option ((List (S31)) × (List (S31))) := (impl_UndoRight.f k l0_0 l0_1).bind fun t335 => (if t335 = true then ((impl_BufRight.f k l1_0 a1_1 a1_2).bind fun t336 => (impl_UndoNote.j0 k (!t336) l0_0 l0_1 l1_0 a1_1 a1_2)) else (impl_UndoNote.j0 k true l0_0 l0_1 l1_0 a1_1 a1_2))
theorem impl_UndoNote.callsA (k : Nat) (A0_0 : Option Addr) (c0_0 : Nat) (l0_0 : List (S31)) (A0_1 : Option Addr) (c0_1 : Nat) (l0_1 : List (S31)) (A1_0 : Option Addr) (c1_0 : Nat) (l1_0 : List Int) (a1_1 : Int) (a1_2 : Int) (r1 : List (S31)) (r2 : List (S31)) (w : World) (hr0_0 : Kd.C k31 w A0_0 l0_0.length l0_0) (hc0_0 : l0_0.length ≤ c0_0) (hr0_1 : Kd.C k31 w A0_1 l0_1.length l0_1) (hc0_1 : l0_1.length ≤ c0_1) (hr1_0 : Kd.C (Kd.int .i64) w A1_0 l1_0.length l1_0) (hc1_0 : l1_0.length ≤ c1_0) (h : impl_UndoNote.f k l0_0 l0_1 l1_0 a1_1 a1_2 = some (r1, r2)) :
  Calls Try.prog 33 #[.agg #[.slice A0_0 l0_0.length c0_0, .slice A0_1 l0_1.length c0_1], .agg #[.slice A1_0 l1_0.length c1_0, .int .i64 a1_1, .int .i64 a1_2]] w fun e w' => ∃ m1_ : Nat, (w.heap.size ≤ m1_ ∧ m1_ ≤ w'.heap.size) ∧ ∃ v0_ v1_ : Value, e = .returned (.agg #[v0_, v1_]) ∧ Kd.T k31 31 w' w.heap.size (fun k_ => k_ < m1_) v0_ r1 ∧ Kd.S k31 31 w' w.heap.size (fun k_ => m1_ ≤ k_) v1_ r2 ∧ Below w.heap.size w w' := by
 have hu30 := Try.underlying30
 have hu31 := Try.underlying31
 have HR0_0 := am hr0_0
 have HC0_0 := am hc0_0
 clear hr0_0 hc0_0
 have HR0_1 := am hr0_1
 have HC0_1 := am hc0_1
 clear hr0_1 hc0_1
 have HR1_0 := am hr1_0
 have HC1_0 := am hc1_0
 clear hr1_0 hc1_0
 have HB := am (Below.refl w.heap.size w)
 have H : ((impl_UndoRight.f k l0_0 l0_1).bind fun t335 => (if t335 = true then ((impl_BufRight.f k l1_0 a1_1 a1_2).bind fun t336 => (impl_UndoNote.j0 k (!t336) l0_0 l0_1 l1_0 a1_1 a1_2)) else (impl_UndoNote.j0 k true l0_0 l0_1 l1_0 a1_1 a1_2))) = some (r1, r2) := h
 clear h
 have HC3 := Aside0.mk H
 clear H
 go_enter Try.func33, Try.ntmps33
 go_upto_region 1 with (first | ((with_reducible refine gate_dst (N := 2) rfl ?_); refine box_event ?hg (N := 2) ?hd (cs := #[.slice A0_0 l0_0.length c0_0, .slice A0_1 l0_1.length c0_1]) (t := 30) ?hr ?_; (case hd => rfl); (case hg => rfl); (case hr => first | (go_simp; done) | (go_simp; rfl)); intro gb332 hg w4 hbox hb; have BK332 := am (hbox); have GW332 := am ((by rw [hg]; exact (below_size (bl HB.out)) : w.heap.size ≤ gb332)); have GE332 := GW332; replace HB := am (below_step (bl HB.out) hb); clear hb hbox hg) | ((with_reducible refine gate_dst (N := 3) rfl ?_); refine box_event ?hg (N := 3) ?hd (cs := #[.slice A1_0 l1_0.length c1_0, .int .i64 a1_1, .int .i64 a1_2]) (t := 31) ?hr ?_; (case hd => rfl); (case hg => rfl); (case hr => first | (go_simp; done) | (go_simp; rfl)); intro gb333 hg w5 hbox hb; have BK333 := am (hbox); have GW333 := am ((by rw [hg]; exact (below_size (bl HB.out)) : w.heap.size ≤ gb333)); have GE333 := GW333; replace HB := am (below_step (bl HB.out) hb); have NB332_333 := am ((by rw [hg]; exact Nat.ne_of_lt (blk_lt (pk BK332.out)) : gb332 ≠ gb333)); have NB333_332 := am ((by rw [hg]; exact Nat.ne_of_gt (blk_lt (pk BK332.out)) : gb333 ≠ gb332)); replace BK332 := am (blk_below (pk BK332.out) hb); clear hb hbox hg) | ((with_reducible refine gate_dst (N := 4) rfl ?_); refine box_event ?hg (N := 4) ?hd (cs := #[.slice none 0 0, .slice none 0 0]) (t := 30) ?hr ?_; (case hd => rfl); (case hg => rfl); (case hr => first | (go_simp; done) | (go_simp; rfl)); intro gb334 hg w6 hbox hb; have BK334 := am (hbox); have GW334 := am ((by rw [hg]; exact (below_size (bl HB.out)) : w.heap.size ≤ gb334)); have GE334 := GW334; replace HB := am (below_step (bl HB.out) hb); have NB332_334 := am ((by rw [hg]; exact Nat.ne_of_lt (blk_lt (pk BK332.out)) : gb332 ≠ gb334)); have NB334_332 := am ((by rw [hg]; exact Nat.ne_of_gt (blk_lt (pk BK332.out)) : gb334 ≠ gb332)); replace BK332 := am (blk_below (pk BK332.out) hb); have NB333_334 := am ((by rw [hg]; exact Nat.ne_of_lt (blk_lt (pk BK333.out)) : gb333 ≠ gb334)); have NB334_333 := am ((by rw [hg]; exact Nat.ne_of_gt (blk_lt (pk BK333.out)) : gb334 ≠ gb333)); replace BK333 := am (blk_below (pk BK333.out) hb); clear hb hbox hg))
 (try simp only [Act.put, sa_, s0_, ss_])
 go_cut [12] (fun v12 wc => ∃ (kq : Nat) (x12_2 : Bool), v12 = .bool x12_2 ∧ Aside0 (impl_UndoNote.j0 kq x12_2 l0_0 l0_1 l1_0 a1_1 a1_2 = some (r1, r2)) ∧ Aside0 (kq ≤ k) ∧ Aside0 (wc.heap[gb332]? = some (.cells #[(.slice A0_0 l0_0.length c0_0), (.slice A0_1 l0_1.length c0_1)] 30 (0, 0))) ∧ Aside0 (wc.heap[gb333]? = some (.cells #[(.slice A1_0 l1_0.length c1_0), .int .i64 a1_1, .int .i64 a1_2] 31 (0, 0))) ∧ Aside0 (wc.heap[gb334]? = some (.cells #[(.slice none 0 0), (.slice none 0 0)] 30 (0, 0))) ∧ Aside0 (Below w.heap.size w wc))
 case first =>
  have H := HC3.out
  clear HC3
  replace H := Option.bind_eq_some_iff.mp H
  obtain ⟨t335, A70, H⟩ := H
  replace H : (if t335 = true then ((impl_BufRight.f k l1_0 a1_1 a1_2).bind fun t336 => (impl_UndoNote.j0 k (!t336) l0_0 l0_1 l1_0 a1_1 a1_2)) else (impl_UndoNote.j0 k true l0_0 l0_1 l1_0 a1_1 a1_2)) = some (r1, r2) := H
  have A7 := Aside0.mk A70
  clear A70
  by_cases c8 : t335 = true
  ·subst c8
   have H1 : ((impl_BufRight.f k l1_0 a1_1 a1_2).bind fun t336 => (impl_UndoNote.j0 k (!t336) l0_0 l0_1 l1_0 a1_1 a1_2)) = some (r1, r2) := by rw [if_pos rfl] at H; exact H
   clear H
   have H := H1
   clear H1
   replace H := Option.bind_eq_some_iff.mp H
   obtain ⟨t336, A90, H⟩ := H
   replace H : (impl_UndoNote.j0 k (!t336) l0_0 l0_1 l1_0 a1_1 a1_2) = some (r1, r2) := H
   have A9 := Aside0.mk A90
   clear A90
   have H' := Aside0.mk H
   clear H
   have hnb10 := NB332_333.out
   have hnc10 := NB333_332.out
   have hnb11 := NB332_334.out
   have hnc11 := NB334_332.out
   have hcz12_0 : w6.cell? ⟨gb332, 0, none⟩ = some (.slice A0_0 l0_0.length c0_0) := bc BK332.out 0
   have hcz12_1 : w6.cell? ⟨gb332, 1, none⟩ = some (.slice A0_1 l0_1.length c0_1) := bc BK332.out 1
   have hfz12_0 := blk_frozen BK332.out 0
   have hfz12_1 := blk_frozen BK332.out 1
   go_wp2_with (first | ((with_reducible refine gate_callee (f := 53) rfl ?_); refine gl (some 6) Try.func53 #[.agg #[.slice A0_0 l0_0.length c0_0, .slice A0_1 l0_1.length c0_1]] ?_; (with_reducible refine (impl_UndoRight.calls k _ _ l0_0 _ _ l0_1 true _ ?side1 ?side2 ?side3 ?side4 A7.out).mono ?_); (case side1 => repeat (first | exact (Kd.C_below HR0_0.out HB.out) | (with_reducible refine Kd.C_alloc ?_ _) | (with_reducible refine Kd.C_drewN ?_ _) | (with_reducible refine Kd.C_drew ?_))); (case side2 => exact HC0_0.out); (case side3 => repeat (first | exact (Kd.C_below HR0_1.out HB.out) | (with_reducible refine Kd.C_alloc ?_ _) | (with_reducible refine Kd.C_drewN ?_ _) | (with_reducible refine Kd.C_drew ?_))); (case side4 => exact HC0_1.out); rintro e w13 ⟨rfl, hb⟩; refine ⟨_, rfl, ?_⟩; replace BK332 := am (blk_below (pk BK332.out) hb); replace BK333 := am (blk_below (pk BK333.out) hb); replace BK334 := am (blk_below (pk BK334.out) hb); replace HB := am (below_step (bl HB.out) hb); (try clear hb); (try clear hb2); (try clear hk); (try clear hi); have hnb14 := NB333_334.out; have hnc14 := NB334_333.out; have hcz15_0 : w13.cell? ⟨gb333, 0, none⟩ = some (.slice A1_0 l1_0.length c1_0) := bc BK333.out 0; have hcz15_1 : w13.cell? ⟨gb333, 1, none⟩ = some (.int .i64 a1_1) := bc BK333.out 1; have hcz15_2 : w13.cell? ⟨gb333, 2, none⟩ = some (.int .i64 a1_2) := bc BK333.out 2; have hfz15_0 := blk_frozen BK333.out 0; have hfz15_1 := blk_frozen BK333.out 1; have hfz15_2 := blk_frozen BK333.out 2) | (go_at_call 26; (with_reducible refine (impl_BufRight.calls k _ _ l1_0 a1_1 a1_2 t336 _ ?side1 ?side2 A9.out).mono ?_); (case side1 => repeat (first | exact (Kd.C_below HR1_0.out HB.out) | (with_reducible refine Kd.C_alloc ?_ _) | (with_reducible refine Kd.C_drewN ?_ _) | (with_reducible refine Kd.C_drew ?_))); (case side2 => exact HC1_0.out); rintro e w16 ⟨rfl, hb⟩; replace BK332 := am (blk_below (pk BK332.out) hb); replace BK333 := am (blk_below (pk BK333.out) hb); replace BK334 := am (blk_below (pk BK334.out) hb); replace HB := am (below_step (bl HB.out) hb); (try clear hb); (try clear hb2); (try clear hk); (try clear hi)))
   go_meet
   case rel => exact ⟨_, (!t336), (by first | rfl | (simp; done) | (simp [*]; done)), H', ⟨by first | omega | exact Nat.le_refl _⟩, ⟨pk BK332.out⟩, ⟨pk BK333.out⟩, ⟨pk BK334.out⟩, ⟨by repeat (first | (with_reducible first | exact HB.out | apply below_alloc | apply pw_below_drewN | apply below_drew1 | refine below_set ?_ GE332.out | refine below_set ?_ GE333.out | refine below_set ?_ GE334.out) | exact HB.out)⟩⟩
  ·replace c8 := Bool.eq_false_iff.mpr c8
   subst c8
   have H1 : (impl_UndoNote.j0 k true l0_0 l0_1 l1_0 a1_1 a1_2) = some (r1, r2) := by rw [if_neg (show ¬ (false = true) by decide)] at H; exact H
   clear H
   have H := H1
   clear H1
   have H' := Aside0.mk H
   clear H
   have hnb17 := NB332_333.out
   have hnc17 := NB333_332.out
   have hnb18 := NB332_334.out
   have hnc18 := NB334_332.out
   have hcz19_0 : w6.cell? ⟨gb332, 0, none⟩ = some (.slice A0_0 l0_0.length c0_0) := bc BK332.out 0
   have hcz19_1 : w6.cell? ⟨gb332, 1, none⟩ = some (.slice A0_1 l0_1.length c0_1) := bc BK332.out 1
   have hfz19_0 := blk_frozen BK332.out 0
   have hfz19_1 := blk_frozen BK332.out 1
   go_wp2_with (first | ((with_reducible refine gate_callee (f := 53) rfl ?_); refine gl (some 6) Try.func53 #[.agg #[.slice A0_0 l0_0.length c0_0, .slice A0_1 l0_1.length c0_1]] ?_; (with_reducible refine (impl_UndoRight.calls k _ _ l0_0 _ _ l0_1 false _ ?side1 ?side2 ?side3 ?side4 A7.out).mono ?_); (case side1 => repeat (first | exact (Kd.C_below HR0_0.out HB.out) | (with_reducible refine Kd.C_alloc ?_ _) | (with_reducible refine Kd.C_drewN ?_ _) | (with_reducible refine Kd.C_drew ?_))); (case side2 => exact HC0_0.out); (case side3 => repeat (first | exact (Kd.C_below HR0_1.out HB.out) | (with_reducible refine Kd.C_alloc ?_ _) | (with_reducible refine Kd.C_drewN ?_ _) | (with_reducible refine Kd.C_drew ?_))); (case side4 => exact HC0_1.out); rintro e w20 ⟨rfl, hb⟩; refine ⟨_, rfl, ?_⟩; replace BK332 := am (blk_below (pk BK332.out) hb); replace BK333 := am (blk_below (pk BK333.out) hb); replace BK334 := am (blk_below (pk BK334.out) hb); replace HB := am (below_step (bl HB.out) hb); (try clear hb); (try clear hb2); (try clear hk); (try clear hi)))
   go_meet
   case rel => exact ⟨_, (true), (by first | rfl | (simp; done) | (simp [*]; done)), H', ⟨by first | omega | exact Nat.le_refl _⟩, ⟨pk BK332.out⟩, ⟨pk BK333.out⟩, ⟨pk BK334.out⟩, ⟨by repeat (first | (with_reducible first | exact HB.out | apply below_alloc | apply pw_below_drewN | apply below_drew1 | refine below_set ?_ GE332.out | refine below_set ?_ GE333.out | refine below_set ?_ GE334.out) | exact HB.out)⟩⟩
 case rest =>
  clear HC3
  try clear c1
  try clear p2
  try clear c3
  try clear c5
  try clear c8
  try clear c10
  try clear c11
  try clear c14
  try clear c17
  try clear c18
  try clear hcz12_0
  try clear hcz12_1
  try clear hcz15_0
  try clear hcz15_1
  try clear hcz15_2
  try clear hcz19_0
  try clear hcz19_1
  try clear hfz12_0
  try clear hfz12_1
  try clear hfz15_0
  try clear hfz15_1
  try clear hfz15_2
  try clear hfz19_0
  try clear hfz19_1
  obtain ⟨kq, x12_2, rfl, HA, HJ2, BK332, BK333, BK334, HB⟩ := hcut
  cases kq with
  | zero => exact absurd HA.out (by simp [impl_UndoNote.j0])
  | succ kj2 =>
   have H := HA.out
   clear HA
   simp only [impl_UndoNote.j0] at H
   by_cases c21 : x12_2 = true
   ·subst c21
    have H1 : ((impl_ownUndo.f kj2 l0_0 l0_1).bind fun bt337 => (some (bt337.1, bt337.2))) = some (r1, r2) := by rw [if_pos rfl] at H; exact H
    clear H
    have H := H1
    clear H1
    replace H := Option.bind_eq_some_iff.mp H
    obtain ⟨⟨t337, t340⟩, A220, H⟩ := H
    replace H : (some (t337, t340)) = some (r1, r2) := H
    have A22 := Aside0.mk A220
    clear A220
    simp only [Option.some.injEq, Prod.mk.injEq] at H
    obtain ⟨rfl, rfl⟩ := H
    have hnb23 := NB332_333.out
    have hnc23 := NB333_332.out
    have hnb24 := NB332_334.out
    have hnc24 := NB334_332.out
    have hcz25_0 : wc.cell? ⟨gb332, 0, none⟩ = some (.slice A0_0 l0_0.length c0_0) := bc BK332.out 0
    have hcz25_1 : wc.cell? ⟨gb332, 1, none⟩ = some (.slice A0_1 l0_1.length c0_1) := bc BK332.out 1
    have hfz25_0 := blk_frozen BK332.out 0
    have hfz25_1 := blk_frozen BK332.out 1
    go_wp2_with (first | ((with_reducible refine gate_callee (f := 59) rfl ?_); refine gl (some 14) Try.func59 #[.agg #[.slice A0_0 l0_0.length c0_0, .slice A0_1 l0_1.length c0_1]] ?_; (with_reducible refine (impl_ownUndo.callsA kj2 _ _ l0_0 _ _ l0_1 t337 t340 _ ?side1 ?side2 ?side3 ?side4 A22.out).mono ?_); (case side1 => repeat (first | exact (Kd.C_below HR0_0.out HB.out) | (with_reducible refine Kd.C_alloc ?_ _) | (with_reducible refine Kd.C_drewN ?_ _) | (with_reducible refine Kd.C_drew ?_))); (case side2 => exact HC0_0.out); (case side3 => repeat (first | exact (Kd.C_below HR0_1.out HB.out) | (with_reducible refine Kd.C_alloc ?_ _) | (with_reducible refine Kd.C_drewN ?_ _) | (with_reducible refine Kd.C_drew ?_))); (case side4 => exact HC0_1.out); rintro e w26 ⟨m1_, ⟨hsa_, hsb_⟩, v338, v341, rfl, ho0, ho1, hb⟩; have hw1_ : w.heap.size ≤ m1_ := (Nat.le_trans (below_size (bl HB.out)) hsa_); refine ⟨_, rfl, ?_⟩; have HO339 := am (Kd.S_lower (Kd.S_newB ho0 (g := gb333) (o := .cells #[.slice A1_0 l1_0.length c1_0, .int .i64 a1_1, .int .i64 a1_2] 31 (0, 0)) (pk BK333.out)) (below_size (bl HB.out))); have HO342 := am (Kd.S_lower (Kd.S_newB ho1 (g := gb333) (o := .cells #[.slice A1_0 l1_0.length c1_0, .int .i64 a1_1, .int .i64 a1_2] 31 (0, 0)) (pk BK333.out)) (below_size (bl HB.out))); replace BK332 := am (blk_below (pk BK332.out) hb); replace BK333 := am (blk_below (pk BK333.out) hb); replace BK334 := am (blk_below (pk BK334.out) hb); replace HB := am (below_step (bl HB.out) hb); (try clear hb); (try clear hb2); (try clear hk); (try clear hi); (try clear ho0); (try clear ho1); obtain ⟨Ao27, co27, eo27⟩ := Kd.S_slice HO339.out; subst eo27; have hnb28 := NB334_333.out; have hnc28 := NB333_334.out; have hcz29_0 : w26.cell? ⟨gb334, 0, none⟩ = some (.slice none 0 0) := bc BK334.out 0; have hcz29_1 : w26.cell? ⟨gb334, 1, none⟩ = some (.slice none 0 0) := bc BK334.out 1; have hfz29_0 := blk_frozen BK334.out 0; have hfz29_1 := blk_frozen BK334.out 1; obtain ⟨Ao30, co30, eo30⟩ := Kd.S_slice HO342.out; subst eo30))
    refine bodyPost_ret (results_cell_row rfl _ _ gb334 30 #[.slice Ao27 t337.length co27, .slice Ao30 t340.length co30] (0, 0) _ rfl (by refine pk ?_; refine blk_put (cs := #[.slice Ao27 t337.length co27, .slice none 0 0]) ?_ 1 _ rfl; refine pk ?_; refine blk_put (cs := #[.slice none 0 0, .slice none 0 0]) ?_ 0 _ rfl; refine pk ?_; exact BK334.out) Try.underlying30 rfl (by kernel_rfl)) rfl ?_
    exact ⟨m1_, ⟨hw1_, (by (try simp only [World.size_setCell]); exact hsb_)⟩, _, _, by first | rfl | (simp [errW_none, errW_some] <;> rfl) | (simp [*, errW_none, errW_some] <;> rfl), Kd.T_of_S (ks (Kd.S_mono (Kd.S_far (p := ⟨gb334, 1, none⟩) (Kd.S_far (p := ⟨gb334, 0, none⟩) (Kd.S_types HO339.out BK334.out (by decide)) (fun _ hk => hk.2) (.slice Ao27 t337.length co27)) (fun _ hk => hk.2) (.slice Ao30 t340.length co30)) (fun _ hk => hk.1.1))), ks (Kd.S_mono (Kd.S_far (p := ⟨gb334, 1, none⟩) (Kd.S_far (p := ⟨gb334, 0, none⟩) (Kd.S_types HO342.out BK334.out (by decide)) (fun _ hk => hk.2) (.slice Ao27 t337.length co27)) (fun _ hk => hk.2) (.slice Ao30 t340.length co30)) (fun _ hk => hk.1.1)), by repeat (first | (with_reducible first | exact HB.out | apply below_alloc | apply pw_below_drewN | apply below_drew1 | refine below_set ?_ GE332.out | refine below_set ?_ GE333.out | refine below_set ?_ GE334.out) | exact HB.out)⟩
   ·replace c21 := Bool.eq_false_iff.mpr c21
    subst c21
    have H1 : ((impl_behindBufs.f kj2 l0_0 l1_0 a1_1 a1_2).bind fun t343 => (some (t343, ([] : List (S31))))) = some (r1, r2) := by rw [if_neg (show ¬ (false = true) by decide)] at H; exact H
    clear H
    have H := H1
    clear H1
    replace H := Option.bind_eq_some_iff.mp H
    obtain ⟨t343, A310, H⟩ := H
    replace H : (some (t343, ([] : List (S31)))) = some (r1, r2) := H
    have A31 := Aside0.mk A310
    clear A310
    simp only [Option.some.injEq, Prod.mk.injEq] at H
    obtain ⟨rfl, rfl⟩ := H
    have hnb32 := NB332_333.out
    have hnc32 := NB333_332.out
    have hnb33 := NB332_334.out
    have hnc33 := NB334_332.out
    have hcz34_0 : wc.cell? ⟨gb332, 0, none⟩ = some (.slice A0_0 l0_0.length c0_0) := bc BK332.out 0
    have hcz34_1 : wc.cell? ⟨gb332, 1, none⟩ = some (.slice A0_1 l0_1.length c0_1) := bc BK332.out 1
    have hfz34_0 := blk_frozen BK332.out 0
    have hfz34_1 := blk_frozen BK332.out 1
    have hnb35 := NB333_334.out
    have hnc35 := NB334_333.out
    have hcz36_0 : wc.cell? ⟨gb333, 0, none⟩ = some (.slice A1_0 l1_0.length c1_0) := bc BK333.out 0
    have hcz36_1 : wc.cell? ⟨gb333, 1, none⟩ = some (.int .i64 a1_1) := bc BK333.out 1
    have hcz36_2 : wc.cell? ⟨gb333, 2, none⟩ = some (.int .i64 a1_2) := bc BK333.out 2
    have hfz36_0 := blk_frozen BK333.out 0
    have hfz36_1 := blk_frozen BK333.out 1
    have hfz36_2 := blk_frozen BK333.out 2
    go_wp2_with (first | ((with_reducible refine gate_callee (f := 55) rfl ?_); refine gl (some 18) Try.func55 #[.slice A0_0 l0_0.length c0_0, .agg #[.slice A1_0 l1_0.length c1_0, .int .i64 a1_1, .int .i64 a1_2]] ?_; (with_reducible refine (impl_behindBufs.calls kj2 _ _ l0_0 _ _ l1_0 a1_1 a1_2 t343 _ ?side1 ?side2 ?side3 ?side4 A31.out).mono ?_); (case side1 => repeat (first | exact (Kd.C_below HR0_0.out HB.out) | (with_reducible refine Kd.C_alloc ?_ _) | (with_reducible refine Kd.C_drewN ?_ _) | (with_reducible refine Kd.C_drew ?_))); (case side2 => exact HC0_0.out); (case side3 => repeat (first | exact (Kd.C_below HR1_0.out HB.out) | (with_reducible refine Kd.C_alloc ?_ _) | (with_reducible refine Kd.C_drewN ?_ _) | (with_reducible refine Kd.C_drew ?_))); (case side4 => exact HC1_0.out); rintro e w37 ⟨v344, rfl, ho0, hb⟩; refine ⟨_, rfl, ?_⟩; have HO345 := am (Kd.T_lower (Kd.T_newB ho0 (g := gb333) (o := .cells #[.slice A1_0 l1_0.length c1_0, .int .i64 a1_1, .int .i64 a1_2] 31 (0, 0)) (pk BK333.out)) (below_size (bl HB.out))); replace BK332 := am (blk_below (pk BK332.out) hb); replace BK333 := am (blk_below (pk BK333.out) hb); replace BK334 := am (blk_below (pk BK334.out) hb); replace HB := am (below_step (bl HB.out) hb); (try clear hb); (try clear hb2); (try clear hk); (try clear hi); (try clear ho0); obtain ⟨Ao38, co38, eo38, _⟩ := Kd.T_slice HO345.out; subst eo38; have hcz39_0 : w37.cell? ⟨gb334, 0, none⟩ = some (.slice none 0 0) := bc BK334.out 0; have hcz39_1 : w37.cell? ⟨gb334, 1, none⟩ = some (.slice none 0 0) := bc BK334.out 1; have hfz39_0 := blk_frozen BK334.out 0; have hfz39_1 := blk_frozen BK334.out 1))
    refine bodyPost_ret (results_cell_row rfl _ _ gb334 30 #[.slice Ao38 t343.length co38, .slice none 0 0] (0, 0) _ rfl (by refine pk ?_; refine blk_put (cs := #[.slice Ao38 t343.length co38, .slice none 0 0]) ?_ 1 _ rfl; refine pk ?_; refine blk_put (cs := #[.slice none 0 0, .slice none 0 0]) ?_ 0 _ rfl; refine pk ?_; exact BK334.out) Try.underlying30 rfl (by kernel_rfl)) rfl ?_
    exact ⟨_, ⟨below_size (bl HB.out), Nat.le_refl _⟩, _, _, by first | rfl | (simp [errW_none, errW_some] <;> rfl) | (simp [*, errW_none, errW_some] <;> rfl), by (with_reducible repeat (first | apply Kd.T_alloc | apply Kd.T_drewN | apply Kd.T_drew)); exact Kd.T_mono (Kd.T_bound (Kd.T_far (p := ⟨gb334, 1, none⟩) (Kd.T_far (p := ⟨gb334, 0, none⟩) (Kd.T_types HO345.out BK334.out (by decide)) (fun _ hk => hk.2) (.slice Ao38 t343.length co38)) (fun _ hk => hk.2) (.slice none 0 0))) (fun _ hk => hk.2.2.1), by first | exact Kd.S_nil _ _ _ _ _ | exact Kd.N_nil _ _ _ _ _ | exact Kd.V_nil _ _ _ _ _ | exact Kd.T_nil _ _ _ _ _ | exact Kd.R_nil _ _ _ _ _, by repeat (first | (with_reducible first | exact HB.out | apply below_alloc | apply pw_below_drewN | apply below_drew1 | refine below_set ?_ GE332.out | refine below_set ?_ GE333.out | refine below_set ?_ GE334.out) | exact HB.out)⟩
/-! ### impl_UndoRun: function 9 -/
mutual
def impl_UndoRun.j0 : Nat → List (List Int) → Bool → List Int → Int → Int → Option ((List (S31)) × (List (S31)) × List Int × Int × Int × Int)
 | 0, _, _, _, _, _ => none
 | k + 1, x1, x21, x447000, x447001, x447002 => if x21 = true then (some (([] : List (S31)), ([] : List (S31)), ([] : List Int), 0, 0, 1)) else ((impl_ownBuf.f x447000 x447001 x447002).bind fun bt451 => (impl_UndoRun.l0 k x1 (x1.length : Int) 0 ([] : List (S31)) ([] : List (S31)) bt451.1 bt451.2.1 bt451.2.2))
def impl_UndoRun.l0 : Nat → List (List Int) → Int → Int → List (S31) → List (S31) → List Int → Int → Int → Option ((List (S31)) × (List (S31)) × List Int × Int × Int × Int)
 | 0, _, _, _, _, _, _, _, _ => none
 | k + 1, x26, x27, x28, x457000, x457001, x458000, x458001, x458002 => if x28 < x27 then (if 0 ≤ x28 then (if x28 < (x26.length : Int) then (if ((rd_L1 x26 x28).length : Int) = 0 then ((impl_UndoBack.f k x457000 x457001 x458000 x458001 x458002).bind fun bt459 => (if bt459.2.2.2.2.2 = 0 then (impl_UndoRun.l0 k x26 x27 (wrap64 (x28 + 1)) bt459.1 bt459.2.1 bt459.2.2.1 bt459.2.2.2.1 bt459.2.2.2.2.1) else (impl_UndoRun.l0 k x26 x27 (wrap64 (x28 + 1)) x457000 x457001 x458000 x458001 x458002))) else ((impl_replace.f k x458000 x458001 x458002 x458001 x458001 (rd_L1 x26 x28)).bind fun bt472 => (if bt472.2.2.2.2 = 0 then ((impl_UndoNote.f k x457000 x457001 x458000 x458001 x458002).bind fun bt482 => (impl_UndoRun.l0 k x26 x27 (wrap64 (x28 + 1)) bt482.1 bt482.2 bt472.1 bt472.2.1 bt472.2.2.1)) else (impl_UndoRun.l0 k x26 x27 (wrap64 (x28 + 1)) x457000 x457001 x458000 x458001 x458002)))) else (none)) else (none)) else (some (x457000, x457001, x458000, x458001, x458002, 0))
end
def impl_UndoRun.f (k : Nat) (l0_0 : List Int) (a0_1 : Int) (a0_2 : Int) (l1 : List (List Int)) : Option ((List (S31)) × (List (S31)) × List Int × Int × Int × Int) := (impl_isMany.f (l1.length : Int)).bind fun t448 => (if t448 = true then (some (([] : List (S31)), ([] : List (S31)), ([] : List Int), 0, 0, 2)) else ((impl_BufRight.f k l0_0 a0_1 a0_2).bind fun t449 => (if t449 = true then ((slices_ContainsFunc_ssint64_sint64.f k l1).bind fun t450 => (impl_UndoRun.j0 k l1 t450 l0_0 a0_1 a0_2)) else (impl_UndoRun.j0 k l1 true l0_0 a0_1 a0_2))))
def ur12.T : Bool × List (List Nat × List Nat) := (true, [([], []), ([0], [0]), ([], []), ([2], [2]), ([1, 0, 1], [1]), ([3, 4, 0, 1, 2, 3, 4], [3])])
def ur12.B : List Nat := [0, 1, 0, 4, 3, 31]
theorem ur12.tab : rtab .any (opsOf Try.f9 12) = ur12.T := by kernel_rfl
theorem ur12.bits : waitsOk ur12.T.2 ur12.B = true := by kernel_rfl
@[reducible] def ur12.a0 : Array Bool := (br true [0, 6]).toArray
@[reducible] def ur12.a1 : Array Bool := (br true [1, 5]).toArray
@[reducible] def ur12.a2 : Array Bool := (br true [1, 1, 1, 3]).toArray
@[reducible] def ur12.a3 : Array Bool := (br true [3, 3]).toArray
@[reducible] def ur12.a4 : Array Bool := (br true [4, 2]).toArray
@[reducible] def ur12.a5 : Array Bool := (br true [5, 1]).toArray
@[reducible] def ur12.a6 : Array Bool := (br true [6]).toArray
theorem impl_UndoRun.callsL (k : Nat) (A0_0 : Option Addr) (c0_0 : Nat) (l0_0 : List Int) (a0_1 : Int) (a0_2 : Int) (A1 : Option Addr) (c1 : Nat) (l1 : List (List Int)) (r1 : List (S31)) (r2 : List (S31)) (r3 : List Int) (r4 : Int) (r5 : Int) (r6 : Int) (w : World) (hr0_0 : Kd.C (Kd.int .i64) w A0_0 l0_0.length l0_0) (hc0_0 : l0_0.length ≤ c0_0) (hr1 : Kd.C (Kd.slice 2 (Kd.int .i64)) w A1 l1.length l1) (hc1 : l1.length ≤ c1) (h : impl_UndoRun.f k l0_0 a0_1 a0_2 l1 = some (r1, r2, r3, r4, r5, r6)) :
 Calls Try.prog 9 #[.agg #[.slice A0_0 l0_0.length c0_0, .int .i64 a0_1, .int .i64 a0_2], .slice A1 l1.length c1] w fun e w' => ∃ v0_ v1_ v2_ : Value, e = .returned (.agg #[v0_, v1_, v2_, .int .i64 r4, .int .i64 r5, .int .i64 r6]) ∧ Lw w [.T k31 31 v0_ r1, .T k31 31 v1_ r2, .R (Kd.int .i64) 2 v2_ r3] w' := by
 have hu31 := Try.underlying31
 have hu33 := Try.underlying33
 have hu30 := Try.underlying30
 have hu49 := Try.underlying49
 have HR0 := am hr0_0
 have HC0 := am hc0_0
 have HR1 := am hr1
 have HC1 := am hc1
 clear hr0_0 hc0_0 hr1 hc1
 have HL := am (Lw.nil w)
 unfold impl_UndoRun.f at h
 replace h := Option.bind_eq_some_iff.mp h
 obtain ⟨t, E, H⟩ := h
 have A3 := am E
 clear E
 cases t with
 | true =>
  rw [if_pos rfl] at H
  simp only [Option.some.injEq, Prod.mk.injEq] at H
  obtain ⟨rfl, rfl, rfl, rfl, rfl, rfl⟩ := H
  go_enter Try.func9, Try.ntmps9
  go_wp2_with (first | ((with_reducible refine gate_dst (N := 2) rfl ?_); refine box_event ?hg (N := 2) ?hd (cs := #[.slice A0_0 l0_0.length c0_0, .int .i64 a0_1, .int .i64 a0_2]) (t := 31) ?hr ?_; (case hd => rfl); (case hg => rfl); (case hr => first | (go_simp; done) | (go_simp; rfl)); intro B2 hg w1 hbox hb; replace HL := am (HL.out.addBox hg hbox hb); clear hb hbox hg) | ((with_reducible refine gate_dst (N := 4) rfl ?_); refine box_event ?hg (N := 4) ?hd (cs := #[.slice none 0 0, .slice none 0 0, .slice none 0 0, .int .i64 0, .int .i64 0, .int .i64 0]) (t := 33) ?hr ?_; (case hd => rfl); (case hg => rfl); (case hr => first | (go_simp; done) | (go_simp; rfl)); intro B4 hg w2 hbox hb; replace HL := am (HL.out.addBox hg hbox hb); clear hb hbox hg; obtain ⟨hB4_0, fB4_0, hB4_1, fB4_1, hB4_2, fB4_2, hB4_3, fB4_3, hB4_4, fB4_4, hB4_5, fB4_5⟩ := cells6 (HL.out.bx 0)) | ((with_reducible refine gate_callee (f := 25) rfl ?_); refine gl (some 13) Try.func25 #[.int .i64 (l1.length : Int)] ?_; (with_reducible refine (impl_isMany.calls _ true _ A3.out).mono ?_); rintro e w3 ⟨rfl, hd⟩; refine ⟨_, rfl, ?_⟩; replace HL := am (HL.out.drawn hd); clear hd; clear hB4_0 fB4_0 hB4_1 fB4_1 hB4_2 fB4_2 hB4_3 fB4_3 hB4_4 fB4_4 hB4_5 fB4_5; obtain ⟨hB2_0, fB2_0, hB2_1, fB2_1, hB2_2, fB2_2⟩ := cells3 (HL.out.bx 1); obtain ⟨hB4_0, fB4_0, hB4_1, fB4_1, hB4_2, fB4_2, hB4_3, fB4_3, hB4_4, fB4_4, hB4_5, fB4_5⟩ := cells6 (HL.out.bx 0)) | ((with_reducible refine gate_store (t := 33) (p := 4) rfl ?_); refine store_event (t := 33) (p := 4) (v := .tmp 14) (w1 := putc w3 B4 0 [.slice none 0 0, .slice none 0 0, .slice none 0 0, .int .i64 0, .int .i64 0, .int .i64 2]) ?hg ?ho ?hn ?hr ?_; (case ho => rfl); (case hg => rfl); (case hn => rfl); (case hr => first | (go_simp; done) | (go_simp; rfl)); intro w4 hw; replace HL := am (HL.out.fil0 [.slice none 0 0, .slice none 0 0, .slice none 0 0, .int .i64 0, .int .i64 0, .int .i64 2] hw); clear hw; clear hB2_0 fB2_0 hB2_1 fB2_1 hB2_2 fB2_2 hB4_0 fB4_0 hB4_1 fB4_1 hB4_2 fB4_2 hB4_3 fB4_3 hB4_4 fB4_4 hB4_5 fB4_5))
  refine bodyPost_ret (results_cell_row rfl _ _ B4 33 #[.slice none 0 0, .slice none 0 0, .slice none 0 0, .int .i64 0, .int .i64 0, .int .i64 2] (0, 0) _ rfl (HL.out.bx 0) Try.underlying33 rfl (by kernel_rfl)) rfl ?_
  exact ⟨_, _, _, by first | rfl | (simp; done), (((HL.out.pick [] (L' := [])).nilR (Kd.int .i64) 2).nilT k31 31).nilT k31 31⟩
 | false =>
 rw [if_neg Bool.false_ne_true] at H
 replace H := Option.bind_eq_some_iff.mp H
 obtain ⟨t, E, H⟩ := H
 have A4 := am E
 clear E
 have key : ∀ b : Bool, (∃ k', k' + 1 = k) ∨ impl_UndoRun.j0 k l1 b l0_0 a0_1 a0_2 = none := fun b => by
  cases k with
  | zero => exact .inr (by simp [impl_UndoRun.j0])
  | succ k => exact .inl ⟨k, rfl⟩
 cases t with
 | false =>
  rw [if_neg Bool.false_ne_true] at H
  rcases key true with ⟨k', rfl⟩ | e_
  rotate_left
  · rw [e_] at H; cases H
  clear key
  rw [impl_UndoRun.j0, if_pos rfl] at H
  simp only [Option.some.injEq, Prod.mk.injEq] at H
  obtain ⟨rfl, rfl, rfl, rfl, rfl, rfl⟩ := H
  go_enter Try.func9, Try.ntmps9
  go_wp2_with (first | ((with_reducible refine gate_dst (N := 2) rfl ?_); refine box_event ?hg (N := 2) ?hd (cs := #[.slice A0_0 l0_0.length c0_0, .int .i64 a0_1, .int .i64 a0_2]) (t := 31) ?hr ?_; (case hd => rfl); (case hg => rfl); (case hr => first | (go_simp; done) | (go_simp; rfl)); intro B2 hg w1 hbox hb; replace HL := am (HL.out.addBox hg hbox hb); clear hb hbox hg) | ((with_reducible refine gate_dst (N := 4) rfl ?_); refine box_event ?hg (N := 4) ?hd (cs := #[.slice none 0 0, .slice none 0 0, .slice none 0 0, .int .i64 0, .int .i64 0, .int .i64 0]) (t := 33) ?hr ?_; (case hd => rfl); (case hg => rfl); (case hr => first | (go_simp; done) | (go_simp; rfl)); intro B4 hg w2 hbox hb; replace HL := am (HL.out.addBox hg hbox hb); clear hb hbox hg; obtain ⟨hB4_0, fB4_0, hB4_1, fB4_1, hB4_2, fB4_2, hB4_3, fB4_3, hB4_4, fB4_4, hB4_5, fB4_5⟩ := cells6 (HL.out.bx 0)) | ((with_reducible refine gate_callee (f := 25) rfl ?_); refine gl (some 13) Try.func25 #[.int .i64 (l1.length : Int)] ?_; (with_reducible refine (impl_isMany.calls _ false _ A3.out).mono ?_); rintro e w3 ⟨rfl, hd⟩; refine ⟨_, rfl, ?_⟩; replace HL := am (HL.out.drawn hd); clear hd; clear hB4_0 fB4_0 hB4_1 fB4_1 hB4_2 fB4_2 hB4_3 fB4_3 hB4_4 fB4_4 hB4_5 fB4_5; obtain ⟨hB2_0, fB2_0, hB2_1, fB2_1, hB2_2, fB2_2⟩ := cells3 (HL.out.bx 1); obtain ⟨hB4_0, fB4_0, hB4_1, fB4_1, hB4_2, fB4_2, hB4_3, fB4_3, hB4_4, fB4_4, hB4_5, fB4_5⟩ := cells6 (HL.out.bx 0)) | ((with_reducible refine gate_callee (f := 26) rfl ?_); refine gl (some 16) Try.func26 #[.agg #[.slice A0_0 l0_0.length c0_0, .int .i64 a0_1, .int .i64 a0_2]] ?_; (with_reducible refine (impl_BufRight.calls _ _ _ l0_0 a0_1 a0_2 false _ ?s0 ?s1 A4.out).mono ?_); (case s0 => exact (Kd.C_below HR0.out HL.out.bel)); (case s1 => exact HC0.out); rintro e w4 ⟨rfl, hb⟩; refine ⟨_, rfl, ?_⟩; replace HL := am (HL.out.step hb); clear hb; clear hB2_0 fB2_0 hB2_1 fB2_1 hB2_2 fB2_2 hB4_0 fB4_0 hB4_1 fB4_1 hB4_2 fB4_2 hB4_3 fB4_3 hB4_4 fB4_4 hB4_5 fB4_5; obtain ⟨hB2_0, fB2_0, hB2_1, fB2_1, hB2_2, fB2_2⟩ := cells3 (HL.out.bx 1); obtain ⟨hB4_0, fB4_0, hB4_1, fB4_1, hB4_2, fB4_2, hB4_3, fB4_3, hB4_4, fB4_4, hB4_5, fB4_5⟩ := cells6 (HL.out.bx 0)) | ((with_reducible refine gate_store (t := 33) (p := 4) rfl ?_); refine store_event (t := 33) (p := 4) (v := .tmp 22) (w1 := putc w4 B4 0 [.slice none 0 0, .slice none 0 0, .slice none 0 0, .int .i64 0, .int .i64 0, .int .i64 1]) ?hg ?ho ?hn ?hr ?_; (case ho => rfl); (case hg => rfl); (case hn => rfl); (case hr => first | (go_simp; done) | (go_simp; rfl)); intro w5 hw; replace HL := am (HL.out.fil0 [.slice none 0 0, .slice none 0 0, .slice none 0 0, .int .i64 0, .int .i64 0, .int .i64 1] hw); clear hw; clear hB2_0 fB2_0 hB2_1 fB2_1 hB2_2 fB2_2 hB4_0 fB4_0 hB4_1 fB4_1 hB4_2 fB4_2 hB4_3 fB4_3 hB4_4 fB4_4 hB4_5 fB4_5))
  refine bodyPost_ret (results_cell_row rfl _ _ B4 33 #[.slice none 0 0, .slice none 0 0, .slice none 0 0, .int .i64 0, .int .i64 0, .int .i64 1] (0, 0) _ rfl (HL.out.bx 0) Try.underlying33 rfl (by kernel_rfl)) rfl ?_
  exact ⟨_, _, _, by first | rfl | (simp; done), (((HL.out.pick [] (L' := [])).nilR (Kd.int .i64) 2).nilT k31 31).nilT k31 31⟩
 | true =>
 rw [if_pos rfl] at H
 replace H := Option.bind_eq_some_iff.mp H
 obtain ⟨t, E, H⟩ := H
 have A5 := am E
 clear E
 rcases key t with ⟨k', rfl⟩ | e_
 rotate_left
 · rw [e_] at H; cases H
 clear key
 rw [impl_UndoRun.j0] at H
 cases t with
 | true =>
  rw [if_pos rfl] at H
  simp only [Option.some.injEq, Prod.mk.injEq] at H
  obtain ⟨rfl, rfl, rfl, rfl, rfl, rfl⟩ := H
  go_enter Try.func9, Try.ntmps9
  go_wp2_with (first | ((with_reducible refine gate_dst (N := 2) rfl ?_); refine box_event ?hg (N := 2) ?hd (cs := #[.slice A0_0 l0_0.length c0_0, .int .i64 a0_1, .int .i64 a0_2]) (t := 31) ?hr ?_; (case hd => rfl); (case hg => rfl); (case hr => first | (go_simp; done) | (go_simp; rfl)); intro B2 hg w1 hbox hb; replace HL := am (HL.out.addBox hg hbox hb); clear hb hbox hg) | ((with_reducible refine gate_dst (N := 4) rfl ?_); refine box_event ?hg (N := 4) ?hd (cs := #[.slice none 0 0, .slice none 0 0, .slice none 0 0, .int .i64 0, .int .i64 0, .int .i64 0]) (t := 33) ?hr ?_; (case hd => rfl); (case hg => rfl); (case hr => first | (go_simp; done) | (go_simp; rfl)); intro B4 hg w2 hbox hb; replace HL := am (HL.out.addBox hg hbox hb); clear hb hbox hg; obtain ⟨hB4_0, fB4_0, hB4_1, fB4_1, hB4_2, fB4_2, hB4_3, fB4_3, hB4_4, fB4_4, hB4_5, fB4_5⟩ := cells6 (HL.out.bx 0)) | ((with_reducible refine gate_callee (f := 25) rfl ?_); refine gl (some 13) Try.func25 #[.int .i64 (l1.length : Int)] ?_; (with_reducible refine (impl_isMany.calls _ false _ A3.out).mono ?_); rintro e w3 ⟨rfl, hd⟩; refine ⟨_, rfl, ?_⟩; replace HL := am (HL.out.drawn hd); clear hd; clear hB4_0 fB4_0 hB4_1 fB4_1 hB4_2 fB4_2 hB4_3 fB4_3 hB4_4 fB4_4 hB4_5 fB4_5; obtain ⟨hB2_0, fB2_0, hB2_1, fB2_1, hB2_2, fB2_2⟩ := cells3 (HL.out.bx 1); obtain ⟨hB4_0, fB4_0, hB4_1, fB4_1, hB4_2, fB4_2, hB4_3, fB4_3, hB4_4, fB4_4, hB4_5, fB4_5⟩ := cells6 (HL.out.bx 0)) | ((with_reducible refine gate_callee (f := 26) rfl ?_); refine gl (some 16) Try.func26 #[.agg #[.slice A0_0 l0_0.length c0_0, .int .i64 a0_1, .int .i64 a0_2]] ?_; (with_reducible refine (impl_BufRight.calls _ _ _ l0_0 a0_1 a0_2 true _ ?s0 ?s1 A4.out).mono ?_); (case s0 => exact (Kd.C_below HR0.out HL.out.bel)); (case s1 => exact HC0.out); rintro e w4 ⟨rfl, hb⟩; refine ⟨_, rfl, ?_⟩; replace HL := am (HL.out.step hb); clear hb; clear hB2_0 fB2_0 hB2_1 fB2_1 hB2_2 fB2_2 hB4_0 fB4_0 hB4_1 fB4_1 hB4_2 fB4_2 hB4_3 fB4_3 hB4_4 fB4_4 hB4_5 fB4_5; obtain ⟨hB2_0, fB2_0, hB2_1, fB2_1, hB2_2, fB2_2⟩ := cells3 (HL.out.bx 1); obtain ⟨hB4_0, fB4_0, hB4_1, fB4_1, hB4_2, fB4_2, hB4_3, fB4_3, hB4_4, fB4_4, hB4_5, fB4_5⟩ := cells6 (HL.out.bx 0)) | ((with_reducible refine gate_store (t := 33) (p := 4) rfl ?_); refine store_event (t := 33) (p := 4) (v := .tmp 22) (w1 := putc w5 B4 0 [.slice none 0 0, .slice none 0 0, .slice none 0 0, .int .i64 0, .int .i64 0, .int .i64 1]) ?hg ?ho ?hn ?hr ?_; (case ho => rfl); (case hg => rfl); (case hn => rfl); (case hr => first | (go_simp; done) | (go_simp; rfl)); intro w6 hw; replace HL := am (HL.out.fil0 [.slice none 0 0, .slice none 0 0, .slice none 0 0, .int .i64 0, .int .i64 0, .int .i64 1] hw); clear hw; clear hB2_0 fB2_0 hB2_1 fB2_1 hB2_2 fB2_2 hB4_0 fB4_0 hB4_1 fB4_1 hB4_2 fB4_2 hB4_3 fB4_3 hB4_4 fB4_4 hB4_5 fB4_5) | (go_at_call 27; (with_reducible refine (slices_ContainsFunc_ssint64_sint64.calls _ _ _ l1 true _ ?s0 ?s1 A5.out).mono ?_); (case s0 => exact (Kd.C_below HR1.out HL.out.bel)); (case s1 => exact HC1.out); rintro e w5 ⟨rfl, hd⟩; replace HL := am (HL.out.drawn hd); clear hd; clear hB2_0 fB2_0 hB2_1 fB2_1 hB2_2 fB2_2 hB4_0 fB4_0 hB4_1 fB4_1 hB4_2 fB4_2 hB4_3 fB4_3 hB4_4 fB4_4 hB4_5 fB4_5; obtain ⟨hB2_0, fB2_0, hB2_1, fB2_1, hB2_2, fB2_2⟩ := cells3 (HL.out.bx 1); obtain ⟨hB4_0, fB4_0, hB4_1, fB4_1, hB4_2, fB4_2, hB4_3, fB4_3, hB4_4, fB4_4, hB4_5, fB4_5⟩ := cells6 (HL.out.bx 0)))
  refine bodyPost_ret (results_cell_row rfl _ _ B4 33 #[.slice none 0 0, .slice none 0 0, .slice none 0 0, .int .i64 0, .int .i64 0, .int .i64 1] (0, 0) _ rfl (HL.out.bx 0) Try.underlying33 rfl (by kernel_rfl)) rfl ?_
  exact ⟨_, _, _, by first | rfl | (simp; done), (((HL.out.pick [] (L' := [])).nilR (Kd.int .i64) 2).nilT k31 31).nilT k31 31⟩
 | false =>
 rw [if_neg Bool.false_ne_true] at H
 replace H := Option.bind_eq_some_iff.mp H
 obtain ⟨⟨b1, b2, b3⟩, E, H⟩ := H
 have A6 := am E
 clear E
 dsimp only at H
 have H' := am H
 clear H
 go_enter Try.func9, Try.ntmps9
 go_wp2_with (first | ((with_reducible refine gate_dst (N := 2) rfl ?_); refine box_event ?hg (N := 2) ?hd (cs := #[.slice A0_0 l0_0.length c0_0, .int .i64 a0_1, .int .i64 a0_2]) (t := 31) ?hr ?_; (case hd => rfl); (case hg => rfl); (case hr => first | (go_simp; done) | (go_simp; rfl)); intro B2 hg w1 hbox hb; replace HL := am (HL.out.addBox hg hbox hb); clear hb hbox hg) | ((with_reducible refine gate_dst (N := 4) rfl ?_); refine box_event ?hg (N := 4) ?hd (cs := #[.slice none 0 0, .slice none 0 0, .slice none 0 0, .int .i64 0, .int .i64 0, .int .i64 0]) (t := 33) ?hr ?_; (case hd => rfl); (case hg => rfl); (case hr => first | (go_simp; done) | (go_simp; rfl)); intro B4 hg w2 hbox hb; replace HL := am (HL.out.addBox hg hbox hb); clear hb hbox hg; obtain ⟨hB4_0, fB4_0, hB4_1, fB4_1, hB4_2, fB4_2, hB4_3, fB4_3, hB4_4, fB4_4, hB4_5, fB4_5⟩ := cells6 (HL.out.bx 0)) | ((with_reducible refine gate_callee (f := 25) rfl ?_); refine gl (some 13) Try.func25 #[.int .i64 (l1.length : Int)] ?_; (with_reducible refine (impl_isMany.calls _ false _ A3.out).mono ?_); rintro e w3 ⟨rfl, hd⟩; refine ⟨_, rfl, ?_⟩; replace HL := am (HL.out.drawn hd); clear hd; clear hB4_0 fB4_0 hB4_1 fB4_1 hB4_2 fB4_2 hB4_3 fB4_3 hB4_4 fB4_4 hB4_5 fB4_5; obtain ⟨hB2_0, fB2_0, hB2_1, fB2_1, hB2_2, fB2_2⟩ := cells3 (HL.out.bx 1); obtain ⟨hB4_0, fB4_0, hB4_1, fB4_1, hB4_2, fB4_2, hB4_3, fB4_3, hB4_4, fB4_4, hB4_5, fB4_5⟩ := cells6 (HL.out.bx 0)) | ((with_reducible refine gate_callee (f := 26) rfl ?_); refine gl (some 16) Try.func26 #[.agg #[.slice A0_0 l0_0.length c0_0, .int .i64 a0_1, .int .i64 a0_2]] ?_; (with_reducible refine (impl_BufRight.calls _ _ _ l0_0 a0_1 a0_2 true _ ?s0 ?s1 A4.out).mono ?_); (case s0 => exact (Kd.C_below HR0.out HL.out.bel)); (case s1 => exact HC0.out); rintro e w4 ⟨rfl, hb⟩; refine ⟨_, rfl, ?_⟩; replace HL := am (HL.out.step hb); clear hb; clear hB2_0 fB2_0 hB2_1 fB2_1 hB2_2 fB2_2 hB4_0 fB4_0 hB4_1 fB4_1 hB4_2 fB4_2 hB4_3 fB4_3 hB4_4 fB4_4 hB4_5 fB4_5; obtain ⟨hB2_0, fB2_0, hB2_1, fB2_1, hB2_2, fB2_2⟩ := cells3 (HL.out.bx 1); obtain ⟨hB4_0, fB4_0, hB4_1, fB4_1, hB4_2, fB4_2, hB4_3, fB4_3, hB4_4, fB4_4, hB4_5, fB4_5⟩ := cells6 (HL.out.bx 0)) | ((with_reducible refine gate_callee (f := 30) rfl ?_); refine gl (some 25) Try.func30 #[.agg #[.slice A0_0 l0_0.length c0_0, .int .i64 a0_1, .int .i64 a0_2]] ?_; (with_reducible refine (impl_ownBuf.calls _ _ l0_0 a0_1 a0_2 b1 b2 b3 _ ?s0 ?s1 A6.out).mono ?_); (case s0 => exact (Kd.C_below HR0.out HL.out.bel)); (case s1 => exact HC0.out); rintro e w6 ⟨vn, rfl, ho, hb⟩; refine ⟨_, rfl, ?_⟩; replace HL := am (HL.out.addR hb ho); clear hb ho; obtain ⟨An, cn, ee_⟩ := Kd.R_slice (HL.out.gR 0); subst ee_; clear hB2_0 fB2_0 hB2_1 fB2_1 hB2_2 fB2_2 hB4_0 fB4_0 hB4_1 fB4_1 hB4_2 fB4_2 hB4_3 fB4_3 hB4_4 fB4_4 hB4_5 fB4_5) | ((with_reducible refine gate_dst (N := 5) rfl ?_); refine box_event ?hg (N := 5) ?hd (cs := #[.slice none 0 0, .slice none 0 0]) (t := 30) ?hr ?_; (case hd => rfl); (case hg => rfl); (case hr => first | (go_simp; done) | (go_simp; rfl)); intro B5 hg w7 hbox hb; replace HL := am (HL.out.addBox hg hbox hb); clear hb hbox hg) | ((with_reducible refine gate_dst (N := 6) rfl ?_); refine box_event ?hg (N := 6) ?hd (cs := #[.slice none 0 0, .int .i64 0, .int .i64 0]) (t := 31) ?hr ?_; (case hd => rfl); (case hg => rfl); (case hr => first | (go_simp; done) | (go_simp; rfl)); intro B6 hg w8 hbox hb; replace HL := am (HL.out.addBox hg hbox hb); clear hb hbox hg; obtain ⟨hB5_0, fB5_0, hB5_1, fB5_1⟩ := cells2 (HL.out.bx 1); obtain ⟨hB6_0, fB6_0, hB6_1, fB6_1, hB6_2, fB6_2⟩ := cells3 (HL.out.bx 0)) | ((with_reducible refine gate_store (t := 30) (p := 5) rfl ?_); refine store_event (t := 30) (p := 5) (v := .tmp 23) (w1 := putc w8 B5 0 [.slice none 0 0, .slice none 0 0]) ?hg ?ho ?hn ?hr ?_; (case ho => rfl); (case hg => rfl); (case hn => rfl); (case hr => first | (go_simp; done) | (go_simp; rfl)); intro w9 hw; replace HL := am (HL.out.fil 1 0 [.slice none 0 0, .slice none 0 0] hw); clear hw; clear hB5_0 fB5_0 hB5_1 fB5_1 hB6_0 fB6_0 hB6_1 fB6_1 hB6_2 fB6_2; obtain ⟨hB6_0, fB6_0, hB6_1, fB6_1, hB6_2, fB6_2⟩ := cells3 (HL.out.bx 0)) | ((with_reducible refine gate_store (t := 31) (p := 6) rfl ?_); refine store_event (t := 31) (p := 6) (v := .tmp 25) (w1 := putc w9 B6 0 [.slice An b1.length cn, .int .i64 b2, .int .i64 b3]) ?hg ?ho ?hn ?hr ?_; (case ho => rfl); (case hg => rfl); (case hn => rfl); (case hr => first | (go_simp; done) | (go_simp; rfl)); intro w10 hw; replace HL := am (HL.out.fil0 [.slice An b1.length cn, .int .i64 b2, .int .i64 b3] hw); clear hw; clear hB6_0 fB6_0 hB6_1 fB6_1 hB6_2 fB6_2) | (go_at_call 27; (with_reducible refine (slices_ContainsFunc_ssint64_sint64.calls _ _ _ l1 false _ ?s0 ?s1 A5.out).mono ?_); (case s0 => exact (Kd.C_below HR1.out HL.out.bel)); (case s1 => exact HC1.out); rintro e w5 ⟨rfl, hd⟩; replace HL := am (HL.out.drawn hd); clear hd; clear hB2_0 fB2_0 hB2_1 fB2_1 hB2_2 fB2_2 hB4_0 fB4_0 hB4_1 fB4_1 hB4_2 fB4_2 hB4_3 fB4_3 hB4_4 fB4_4 hB4_5 fB4_5; obtain ⟨hB2_0, fB2_0, hB2_1, fB2_1, hB2_2, fB2_2⟩ := cells3 (HL.out.bx 1); obtain ⟨hB4_0, fB4_0, hB4_1, fB4_1, hB4_2, fB4_2, hB4_3, fB4_3, hB4_4, fB4_4, hB4_5, fB4_5⟩ := cells6 (HL.out.bx 0)))
 replace HL := am ((HL.out.nilT k31 31).nilT k31 31)
 go_loopg [28] k' (fun kq v28 w' => ∃ (i : Int) (ps nx : List S31) (np : List Int) (n1 n2 : Int) (Ap Aq An : Option Addr) (cp cq cn : Nat), v28 = .int .i64 i ∧ Aside0 (impl_UndoRun.l0 kq l1 (l1.length : Int) i ps nx np n1 n2 = some (r1, r2, r3, r4, r5, r6)) ∧ Aside0 (kq ≤ k') ∧ Aside0 (Lw w [.R (Kd.int .i64) 2 (.slice An np.length cn) np, .T k31 31 (.slice Aq nx.length cq) nx, .T k31 31 (.slice Ap ps.length cp) ps, .box B6 #[.slice An np.length cn, .int .i64 n1, .int .i64 n2] 31, .box B5 #[.slice Ap ps.length cp, .slice Aq nx.length cq] 30, .box B4 #[.slice none 0 0, .slice none 0 0, .slice none 0 0, .int .i64 0, .int .i64 0, .int .i64 0] 33] w'))
 case atStart => exact ⟨0, [], [], b1, b2, b3, none, none, An, 0, 0, cn, (by first | rfl | (simp; done)), H', ⟨Nat.le_refl _⟩, (by first | exact ⟨(HL.out.pick [4, 0, 1, 2, 3, 5])⟩ | exact ⟨Lw.drewN (HL.out.pick [4, 0, 1, 2, 3, 5]) _⟩)⟩
 case round =>
  clear H' HL
  obtain ⟨i, ps, nx, np, n1, n2, Ap, Aq, An, cp, cq, cn, rfl, HA, HK, HL⟩ := hrel
  cases gk with
  | zero => exact absurd HA.out (by simp [impl_UndoRun.l0])
  | succ k2 =>
   have H := HA.out
   clear HA
   rw [impl_UndoRun.l0] at H
   by_cases c1 : i < (l1.length : Int)
   rotate_left
   · rw [if_neg c1] at H
     simp only [Option.some.injEq, Prod.mk.injEq] at H
     obtain ⟨rfl, rfl, rfl, rfl, rfl, rfl⟩ := H
     have c1b : decide (i < (l1.length : Int)) = false := decide_eq_false c1
     clear c1
     obtain ⟨hB5_0, fB5_0, hB5_1, fB5_1⟩ := cells2 (HL.out.bx 4)
     obtain ⟨hB6_0, fB6_0, hB6_1, fB6_1, hB6_2, fB6_2⟩ := cells3 (HL.out.bx 3)
     obtain ⟨hB4_0, fB4_0, hB4_1, fB4_1, hB4_2, fB4_2, hB4_3, fB4_3, hB4_4, fB4_4, hB4_5, fB4_5⟩ := cells6 (HL.out.bx 5)
     go_wp2_with (first | ((with_reducible refine gate_store (t := 33) (p := 4) rfl ?_); refine store_event (t := 33) (p := 4) (v := .tmp 63) (w1 := putc wr B4 0 [.slice Ap ps.length cp, .slice Aq nx.length cq, .slice An np.length cn, .int .i64 n1, .int .i64 n2, .int .i64 0]) ?hg ?ho ?hn ?hr ?_; (case ho => rfl); (case hg => rfl); (case hn => rfl); (case hr => first | (go_simp; done) | (go_simp; rfl)); intro w21 hw; replace HL := am (HL.out.fil 5 0 [.slice Ap ps.length cp, .slice Aq nx.length cq, .slice An np.length cn, .int .i64 n1, .int .i64 n2, .int .i64 0] hw); clear hw; clear hB5_0 fB5_0 hB5_1 fB5_1 hB6_0 fB6_0 hB6_1 fB6_1 hB6_2 fB6_2 hB4_0 fB4_0 hB4_1 fB4_1 hB4_2 fB4_2 hB4_3 fB4_3 hB4_4 fB4_4 hB4_5 fB4_5))
     refine bodyPost_ret (results_cell_row rfl _ _ B4 33 #[.slice Ap ps.length cp, .slice Aq nx.length cq, .slice An np.length cn, .int .i64 n1, .int .i64 n2, .int .i64 0] (0, 0) _ rfl (HL.out.bx 5) Try.underlying33 rfl (by kernel_rfl)) rfl ?_
     exact ⟨_, _, _, by first | rfl | (simp; done), (HL.out.pick [2, 1, 0])⟩
   rw [if_pos c1] at H
   have c1b : decide (i < (l1.length : Int)) = true := decide_eq_true c1
   by_cases c2 : 0 ≤ i
   rotate_left
   · rw [if_neg c2] at H; cases H
   rw [if_pos c2, if_pos c1] at H
   obtain ⟨ad, Ae, ce, eA, hx, hl, hi⟩ := at_L1 (Kd.C_below HR1.out HL.out.bel) i c2 c1
   cases eA
   obtain ⟨pt, hpt⟩ : ∃ p, p = rd_L1 l1 i := ⟨_, rfl⟩
   rw [← hpt] at H hx hl hi
   have HR2 := am hi
   have HC2 := am hl
   have HX := am hx
   have u1 := eq_true c1
   have u2 := eq_true c2
   clear c1 c2 hi hl hpt
   by_cases c3 : (pt.length : Int) = 0
   · rw [if_pos c3] at H
     have c3b : ((pt.length : Int) == 0) = true := beq_iff_eq.mpr c3
     clear c3
     obtain ⟨⟨x0, x1, x2, x3, x4, x5⟩, E, H⟩ := Option.bind_eq_some_iff.mp H
     have A7 := am E
     clear E
     dsimp only at H
     obtain ⟨hB5_0, fB5_0, hB5_1, fB5_1⟩ := cells2 (HL.out.bx 4)
     obtain ⟨hB6_0, fB6_0, hB6_1, fB6_1, hB6_2, fB6_2⟩ := cells3 (HL.out.bx 3)
     by_cases c4 : x5 = 0
     · rw [if_pos c4] at H
       have c4b : (x5 == 0) = true := beq_iff_eq.mpr c4
       clear c4
       have H' := am H
       go_wp2_with (first | ((with_reducible refine gate_callee (f := 31) rfl ?_); refine gl (some 37) Try.func31 #[.agg #[.slice Ap ps.length cp, .slice Aq nx.length cq], .agg #[.slice An np.length cn, .int .i64 n1, .int .i64 n2]] ?_; (with_reducible refine (impl_UndoBack.callsA k2 _ _ ps _ _ nx _ _ np n1 n2 x0 x1 x2 x3 x4 x5 _ ?s0 ?s1 ?s2 ?s3 ?s4 ?s5 A7.out).mono ?_); (case s0 => exact (HL.out.rT 2)); (case s1 => exact (HL.out.cT 2)); (case s2 => exact (HL.out.rT 1)); (case s3 => exact (HL.out.cT 1)); (case s4 => exact (HL.out.rR 0)); (case s5 => exact (HL.out.cR 0)); rintro e w21 ⟨m1, m2, hs, v0, v1, v2, rfl, ho0, ho1, ho2, hb⟩; refine ⟨_, rfl, ?_⟩; replace HL := am (HL.out.add3 hs ho0 ho1 ho2 hb); clear hs ho0 ho1 ho2 hb; obtain ⟨Ax2, cx2, ee_⟩ := Kd.R_slice (HL.out.gR 0); subst ee_; obtain ⟨Ax1, cx1, ee_, -⟩ := Kd.T_slice (HL.out.gT 1); subst ee_; obtain ⟨Ax0, cx0, ee_, -⟩ := Kd.T_slice (HL.out.gT 2); subst ee_; clear hB5_0 fB5_0 hB5_1 fB5_1 hB6_0 fB6_0 hB6_1 fB6_1 hB6_2 fB6_2) | ((with_reducible refine gate_dst (N := 9) rfl ?_); refine box_event ?hg (N := 9) ?hd (cs := #[.slice none 0 0, .slice none 0 0, .slice none 0 0, .int .i64 0, .int .i64 0, .int .i64 0]) (t := 33) ?hr ?_; (case hd => rfl); (case hg => rfl); (case hr => first | (go_simp; done) | (go_simp; rfl)); intro B9 hg w22 hbox hb; replace HL := am (HL.out.addBox hg hbox hb); clear hb hbox hg; obtain ⟨hB9_0, fB9_0, hB9_1, fB9_1, hB9_2, fB9_2, hB9_3, fB9_3, hB9_4, fB9_4, hB9_5, fB9_5⟩ := cells6 (HL.out.bx 0)) | ((with_reducible refine gate_store (t := 33) (p := 9) rfl ?_); refine store_event (t := 33) (p := 9) (v := .tmp 37) (w1 := putc w22 B9 0 [.slice Ax0 x0.length cx0, .slice Ax1 x1.length cx1, .slice Ax2 x2.length cx2, .int .i64 x3, .int .i64 x4, .int .i64 x5]) ?hg ?ho ?hn ?hr ?_; (case ho => rfl); (case hg => rfl); (case hn => rfl); (case hr => first | (go_simp; done) | (go_simp; rfl)); intro w23 hw; replace HL := am (HL.out.fil0 [.slice Ax0 x0.length cx0, .slice Ax1 x1.length cx1, .slice Ax2 x2.length cx2, .int .i64 x3, .int .i64 x4, .int .i64 x5] hw); clear hw; clear hB9_0 fB9_0 hB9_1 fB9_1 hB9_2 fB9_2 hB9_3 fB9_3 hB9_4 fB9_4 hB9_5 fB9_5; obtain ⟨hB9_0, fB9_0, hB9_1, fB9_1, hB9_2, fB9_2, hB9_3, fB9_3, hB9_4, fB9_4, hB9_5, fB9_5⟩ := cells6 (HL.out.bx 0)))
       replace HL := am HL.out.drew
       clear hB9_0 fB9_0 hB9_1 fB9_1 hB9_2 fB9_2 hB9_3 fB9_3 hB9_4 fB9_4 hB9_5 fB9_5
       refine start_ (n := 6) (S := fun w' => w'.cell? ⟨B9, 0, none⟩ = some (.slice Ax0 x0.length cx0) ∧ w'.cell? ⟨B9, 1, none⟩ = some (.slice Ax1 x1.length cx1) ∧ w'.cell? ⟨B9, 2, none⟩ = some (.slice Ax2 x2.length cx2) ∧ w'.cell? ⟨B9, 3, none⟩ = some (.int .i64 x3) ∧ w'.cell? ⟨B9, 4, none⟩ = some (.int .i64 x4)) (ds := []) ur12.a0 (by kernel_rfl) rfl rfl ⟨bc (HL.out.bx 0) 0, bc (HL.out.bx 0) 1, bc (HL.out.bx 0) 2, bc (HL.out.bx 0) 3, bc (HL.out.bx 0) 4⟩ (fun hHeld => ?_); refine with_tabW ur12.tab ur12.bits (fun HT_ HW_ => ?_)
       generalize w23.drew = w40 at HL hHeld ⊢
       refine pu_ 0 (some 41) ?_ ur12.a1 rfl rfl HT_.out (by kernel_rfl) (fun _ _ _ h => h) (Or.inl ⟨by rfl, ?_⟩) ?_ ?_ ?_; rotate_left
       ·intro w'; go_simp; with_reducible rfl
       rotate_left
       ·simp only [Act.put, sa_, s0_, ss_, i64_w, i32_w]; rfl
       refine pu_ 2 (some 43) ?_ ur12.a2 rfl rfl HT_.out (by kernel_rfl) (fun _ _ _ h => h) (Or.inl ⟨by rfl, ?_⟩) ?_ ?_ ?_; rotate_left
       ·intro w'; go_simp; with_reducible rfl
       rotate_left
       ·simp only [Act.put, sa_, s0_, ss_, i64_w, i32_w]; rfl
       refine tk_ 1 (some 42) ?_ ur12.a3 rfl rfl HT_.out HW_.out (by kernel_rfl) (fun _ _ _ h => h) (Or.inl ⟨by rfl, ?_⟩) hHeld ?_ ?_ ?_; rotate_left
       ·rintro w' ⟨s0, s1, s2, s3, s4⟩; go_simp; with_reducible rfl
       rotate_left
       ·simp only [Act.put, sa_, s0_, ss_, i64_w, i32_w]; rfl
       refine tk_ 3 (some 44) ?_ ur12.a4 rfl rfl HT_.out HW_.out (by kernel_rfl) (fun _ _ _ h => h) (Or.inl ⟨by rfl, ?_⟩) hHeld ?_ ?_ ?_; rotate_left
       ·rintro w' ⟨s0, s1, s2, s3, s4⟩; go_simp; with_reducible rfl
       rotate_left
       ·simp only [Act.put, sa_, s0_, ss_, i64_w, i32_w]; rfl
       refine one_ (i := 4) (N := none) ur12.a5 rfl rfl (one_of HT_.out (by kernel_rfl)) (by decide) (fun K hK => ?_)
       obtain ⟨y0, z0, y1, z1⟩ := cells2 (HL.out.bx 8)
       refine skip_ (w1 := putc w40 B5 0 [.slice Ax0 x0.length cx0, .slice Ax1 x1.length cx1]) (by rfl) rfl (by go_simp; rfl) ?_
       replace HL := am (HL.out.fil 8 0 [.slice Ax0 x0.length cx0, .slice Ax1 x1.length cx1] rfl)
       clear y0 z0 y1 z1
       refine hK.out _ _ ⟨bc (HL.out.bx 0) 0, bc (HL.out.bx 0) 1, bc (HL.out.bx 0) 2, bc (HL.out.bx 0) 3, bc (HL.out.bx 0) 4⟩ (fun hHeld => ?_)
       clear hK K
       generalize putc w40 B5 0 [.slice Ax0 x0.length cx0, .slice Ax1 x1.length cx1] = w41 at HL hHeld ⊢
       refine one_ (i := 5) (N := none) ur12.a6 rfl rfl (one_of HT_.out (by kernel_rfl)) (by decide) (fun K hK => ?_)
       obtain ⟨y0, z0, y1, z1, y2, z2⟩ := cells3 (HL.out.bx 7)
       refine skip_ (w1 := putc w41 B6 0 [.slice Ax2 x2.length cx2, .int .i64 x3, .int .i64 x4]) (by rfl) rfl (by go_simp; rfl) ?_
       replace HL := am (HL.out.fil 7 0 [.slice Ax2 x2.length cx2, .int .i64 x3, .int .i64 x4] rfl)
       clear y0 z0 y1 z1 y2 z2
       refine hK.out _ _ ⟨bc (HL.out.bx 0) 0, bc (HL.out.bx 0) 1, bc (HL.out.bx 0) 2, bc (HL.out.bx 0) 3, bc (HL.out.bx 0) 4⟩ (fun hHeld => ?_)
       clear hK K
       generalize putc w41 B6 0 [.slice Ax2 x2.length cx2, .int .i64 x3, .int .i64 x4] = w42 at HL hHeld ⊢
       refine done_ (done_of HT_.out (by kernel_rfl)) ?_
       go_wp2
       go_roundg k2
       case measure => have := HK.out; omega
       case rel => exact ⟨wrap64 (i + 1), x0, x1, x2, x3, x4, Ax0, Ax1, Ax2, cx0, cx1, cx2, (by first | rfl | (simp; done)), H', ⟨by have := HK.out; omega⟩, (by first | exact ⟨(HL.out.pick [1, 2, 3, 7, 8, 9])⟩ | exact ⟨Lw.drewN (HL.out.pick [1, 2, 3, 7, 8, 9]) _⟩)⟩
     · rw [if_neg c4] at H
       have c4b : (x5 == 0) = false := beq_eq_false_iff_ne.mpr c4
       clear c4
       have H' := am H
       go_wp2_with (first | ((with_reducible refine gate_callee (f := 31) rfl ?_); refine gl (some 37) Try.func31 #[.agg #[.slice Ap ps.length cp, .slice Aq nx.length cq], .agg #[.slice An np.length cn, .int .i64 n1, .int .i64 n2]] ?_; (with_reducible refine (impl_UndoBack.callsA k2 _ _ ps _ _ nx _ _ np n1 n2 x0 x1 x2 x3 x4 x5 _ ?s0 ?s1 ?s2 ?s3 ?s4 ?s5 A7.out).mono ?_); (case s0 => exact (HL.out.rT 2)); (case s1 => exact (HL.out.cT 2)); (case s2 => exact (HL.out.rT 1)); (case s3 => exact (HL.out.cT 1)); (case s4 => exact (HL.out.rR 0)); (case s5 => exact (HL.out.cR 0)); rintro e w21 ⟨m1, m2, hs, v0, v1, v2, rfl, ho0, ho1, ho2, hb⟩; refine ⟨_, rfl, ?_⟩; replace HL := am (HL.out.add3 hs ho0 ho1 ho2 hb); clear hs ho0 ho1 ho2 hb; obtain ⟨Ax2, cx2, ee_⟩ := Kd.R_slice (HL.out.gR 0); subst ee_; obtain ⟨Ax1, cx1, ee_, -⟩ := Kd.T_slice (HL.out.gT 1); subst ee_; obtain ⟨Ax0, cx0, ee_, -⟩ := Kd.T_slice (HL.out.gT 2); subst ee_; clear hB5_0 fB5_0 hB5_1 fB5_1 hB6_0 fB6_0 hB6_1 fB6_1 hB6_2 fB6_2) | ((with_reducible refine gate_dst (N := 9) rfl ?_); refine box_event ?hg (N := 9) ?hd (cs := #[.slice none 0 0, .slice none 0 0, .slice none 0 0, .int .i64 0, .int .i64 0, .int .i64 0]) (t := 33) ?hr ?_; (case hd => rfl); (case hg => rfl); (case hr => first | (go_simp; done) | (go_simp; rfl)); intro B9 hg w22 hbox hb; replace HL := am (HL.out.addBox hg hbox hb); clear hb hbox hg; obtain ⟨hB9_0, fB9_0, hB9_1, fB9_1, hB9_2, fB9_2, hB9_3, fB9_3, hB9_4, fB9_4, hB9_5, fB9_5⟩ := cells6 (HL.out.bx 0)) | ((with_reducible refine gate_store (t := 33) (p := 9) rfl ?_); refine store_event (t := 33) (p := 9) (v := .tmp 37) (w1 := putc w22 B9 0 [.slice Ax0 x0.length cx0, .slice Ax1 x1.length cx1, .slice Ax2 x2.length cx2, .int .i64 x3, .int .i64 x4, .int .i64 x5]) ?hg ?ho ?hn ?hr ?_; (case ho => rfl); (case hg => rfl); (case hn => rfl); (case hr => first | (go_simp; done) | (go_simp; rfl)); intro w23 hw; replace HL := am (HL.out.fil0 [.slice Ax0 x0.length cx0, .slice Ax1 x1.length cx1, .slice Ax2 x2.length cx2, .int .i64 x3, .int .i64 x4, .int .i64 x5] hw); clear hw; clear hB9_0 fB9_0 hB9_1 fB9_1 hB9_2 fB9_2 hB9_3 fB9_3 hB9_4 fB9_4 hB9_5 fB9_5; obtain ⟨hB9_0, fB9_0, hB9_1, fB9_1, hB9_2, fB9_2, hB9_3, fB9_3, hB9_4, fB9_4, hB9_5, fB9_5⟩ := cells6 (HL.out.bx 0)))
       go_wp2
       go_roundg k2
       case measure => have := HK.out; omega
       case rel => exact ⟨wrap64 (i + 1), ps, nx, np, n1, n2, Ap, Aq, An, cp, cq, cn, (by first | rfl | (simp; done)), H', ⟨by have := HK.out; omega⟩, (by first | exact ⟨(HL.out.pick [4, 5, 6, 7, 8, 9])⟩ | exact ⟨Lw.drewN (HL.out.pick [4, 5, 6, 7, 8, 9]) _⟩)⟩
   · rw [if_neg c3] at H
     have c3b : ((pt.length : Int) == 0) = false := beq_eq_false_iff_ne.mpr c3
     clear c3
     obtain ⟨⟨y0, y1, y2, y3, y4⟩, E, H⟩ := Option.bind_eq_some_iff.mp H
     have A7 := am E
     clear E
     dsimp only at H
     obtain ⟨hB6_0, fB6_0, hB6_1, fB6_1, hB6_2, fB6_2⟩ := cells3 (HL.out.bx 3)
     by_cases c4 : y4 = 0
     · rw [if_pos c4] at H
       have c4b : (y4 == 0) = true := beq_iff_eq.mpr c4
       clear c4
       obtain ⟨⟨x0, x1⟩, E, H⟩ := Option.bind_eq_some_iff.mp H
       have A8 := am E
       clear E
       dsimp only at H
       have H' := am H
       go_wp2_with (first | ((with_reducible refine gate_callee (f := 32) rfl ?_); refine gl (some 51) Try.func32 #[.agg #[.slice An np.length cn, .int .i64 n1, .int .i64 n2], .int .i64 n1, .int .i64 n1, .slice Ae pt.length ce] ?_; (with_reducible refine (impl_replace.callsL k2 _ _ np n1 n2 n1 n1 _ _ pt y0 y1 y2 y3 y4 _ ?s0 ?s1 ?s2 ?s3 A7.out).mono ?_); (case s0 => exact (HL.out.rR 0)); (case s1 => exact (HL.out.cR 0)); (case s2 => exact HR2.out); (case s3 => exact HC2.out); rintro e w21 ⟨v0, v3, rfl, ho⟩; refine ⟨_, rfl, ?_⟩; replace HL := am (HL.out.app ho); clear ho; obtain ⟨Ay0, cy0, ee_⟩ := Kd.R_slice (HL.out.gR 0); subst ee_; obtain ⟨Ay3, cy3, ee_⟩ := Kd.R_slice (HL.out.gR 1); subst ee_; clear hB6_0 fB6_0 hB6_1 fB6_1 hB6_2 fB6_2) | ((with_reducible refine gate_dst (N := 10) rfl ?_); refine box_event ?hg (N := 10) ?hd (cs := #[.slice none 0 0, .int .i64 0, .int .i64 0, .slice none 0 0, .int .i64 0]) (t := 49) ?hr ?_; (case hd => rfl); (case hg => rfl); (case hr => first | (go_simp; done) | (go_simp; rfl)); intro B10 hg w22 hbox hb; replace HL := am (HL.out.addBox hg hbox hb); clear hb hbox hg; obtain ⟨hB10_0, fB10_0, hB10_1, fB10_1, hB10_2, fB10_2, hB10_3, fB10_3, hB10_4, fB10_4⟩ := cells5 (HL.out.bx 0)) | ((with_reducible refine gate_store (t := 49) (p := 10) rfl ?_); refine store_event (t := 49) (p := 10) (v := .tmp 51) (w1 := putc w22 B10 0 [.slice Ay0 y0.length cy0, .int .i64 y1, .int .i64 y2, .slice Ay3 y3.length cy3, .int .i64 y4]) ?hg ?ho ?hn ?hr ?_; (case ho => rfl); (case hg => rfl); (case hn => rfl); (case hr => first | (go_simp; done) | (go_simp; rfl)); intro w23 hw; replace HL := am (HL.out.fil0 [.slice Ay0 y0.length cy0, .int .i64 y1, .int .i64 y2, .slice Ay3 y3.length cy3, .int .i64 y4] hw); clear hw; clear hB10_0 fB10_0 hB10_1 fB10_1 hB10_2 fB10_2 hB10_3 fB10_3 hB10_4 fB10_4; obtain ⟨hB10_0, fB10_0, hB10_1, fB10_1, hB10_2, fB10_2, hB10_3, fB10_3, hB10_4, fB10_4⟩ := cells5 (HL.out.bx 0); obtain ⟨hB5_0, fB5_0, hB5_1, fB5_1⟩ := cells2 (HL.out.bx 7); obtain ⟨hB6_0, fB6_0, hB6_1, fB6_1, hB6_2, fB6_2⟩ := cells3 (HL.out.bx 6)) | ((with_reducible refine gate_callee (f := 33) rfl ?_); refine gl (some 57) Try.func33 #[.agg #[.slice Ap ps.length cp, .slice Aq nx.length cq], .agg #[.slice An np.length cn, .int .i64 n1, .int .i64 n2]] ?_; (with_reducible refine (impl_UndoNote.callsA k2 _ _ ps _ _ nx _ _ np n1 n2 x0 x1 _ ?s0 ?s1 ?s2 ?s3 ?s4 ?s5 A8.out).mono ?_); (case s0 => exact (HL.out.rT 5)); (case s1 => exact (HL.out.cT 5)); (case s2 => exact (HL.out.rT 4)); (case s3 => exact (HL.out.cT 4)); (case s4 => exact (HL.out.rR 3)); (case s5 => exact (HL.out.cR 3)); rintro e w24 ⟨m1, hs, v0, v1, rfl, ho0, ho1, hb⟩; refine ⟨_, rfl, ?_⟩; replace HL := am (HL.out.add2 hs ho0 ho1 hb); clear hs ho0 ho1 hb; obtain ⟨Ax1, cx1, ee_, -⟩ := Kd.T_slice (HL.out.gT 0); subst ee_; obtain ⟨Ax0, cx0, ee_, -⟩ := Kd.T_slice (HL.out.gT 1); subst ee_; clear hB10_0 fB10_0 hB10_1 fB10_1 hB10_2 fB10_2 hB10_3 fB10_3 hB10_4 fB10_4 hB5_0 fB5_0 hB5_1 fB5_1 hB6_0 fB6_0 hB6_1 fB6_1 hB6_2 fB6_2; obtain ⟨hB5_0, fB5_0, hB5_1, fB5_1⟩ := cells2 (HL.out.bx 9)) | ((with_reducible refine gate_store (t := 30) (p := 5) rfl ?_); refine store_event (t := 30) (p := 5) (v := .tmp 57) (w1 := putc w24 B5 0 [.slice Ax0 x0.length cx0, .slice Ax1 x1.length cx1]) ?hg ?ho ?hn ?hr ?_; (case ho => rfl); (case hg => rfl); (case hn => rfl); (case hr => first | (go_simp; done) | (go_simp; rfl)); intro w25 hw; replace HL := am (HL.out.fil 9 0 [.slice Ax0 x0.length cx0, .slice Ax1 x1.length cx1] hw); clear hw; clear hB5_0 fB5_0 hB5_1 fB5_1; obtain ⟨hB10_0, fB10_0, hB10_1, fB10_1, hB10_2, fB10_2, hB10_3, fB10_3, hB10_4, fB10_4⟩ := cells5 (HL.out.bx 2); obtain ⟨hB6_0, fB6_0, hB6_1, fB6_1, hB6_2, fB6_2⟩ := cells3 (HL.out.bx 8)) | ((with_reducible refine gate_store (t := 31) (p := 6) rfl ?_); refine store_event (t := 31) (p := 6) (v := .tmp 59) (w1 := putc w25 B6 0 [.slice Ay0 y0.length cy0, .int .i64 y1, .int .i64 y2]) ?hg ?ho ?hn ?hr ?_; (case ho => rfl); (case hg => rfl); (case hn => rfl); (case hr => first | (go_simp; done) | (go_simp; rfl)); intro w26 hw; replace HL := am (HL.out.fil 8 0 [.slice Ay0 y0.length cy0, .int .i64 y1, .int .i64 y2] hw); clear hw; clear hB10_0 fB10_0 hB10_1 fB10_1 hB10_2 fB10_2 hB10_3 fB10_3 hB10_4 fB10_4 hB6_0 fB6_0 hB6_1 fB6_1 hB6_2 fB6_2))
       go_wp2
       go_roundg k2
       case measure => have := HK.out; omega
       case rel => exact ⟨wrap64 (i + 1), x0, x1, y0, y1, y2, Ax0, Ax1, Ay0, cx0, cx1, cy0, (by first | rfl | (simp; done)), H', ⟨by have := HK.out; omega⟩, (by first | exact ⟨(HL.out.pick [3, 0, 1, 8, 9, 10])⟩ | exact ⟨Lw.drewN (HL.out.pick [3, 0, 1, 8, 9, 10]) _⟩)⟩
     · rw [if_neg c4] at H
       have c4b : (y4 == 0) = false := beq_eq_false_iff_ne.mpr c4
       clear c4
       have H' := am H
       go_wp2_with (first | ((with_reducible refine gate_callee (f := 32) rfl ?_); refine gl (some 51) Try.func32 #[.agg #[.slice An np.length cn, .int .i64 n1, .int .i64 n2], .int .i64 n1, .int .i64 n1, .slice Ae pt.length ce] ?_; (with_reducible refine (impl_replace.callsL k2 _ _ np n1 n2 n1 n1 _ _ pt y0 y1 y2 y3 y4 _ ?s0 ?s1 ?s2 ?s3 A7.out).mono ?_); (case s0 => exact (HL.out.rR 0)); (case s1 => exact (HL.out.cR 0)); (case s2 => exact HR2.out); (case s3 => exact HC2.out); rintro e w21 ⟨v0, v3, rfl, ho⟩; refine ⟨_, rfl, ?_⟩; replace HL := am (HL.out.app ho); clear ho; obtain ⟨Ay0, cy0, ee_⟩ := Kd.R_slice (HL.out.gR 0); subst ee_; obtain ⟨Ay3, cy3, ee_⟩ := Kd.R_slice (HL.out.gR 1); subst ee_; clear hB6_0 fB6_0 hB6_1 fB6_1 hB6_2 fB6_2) | ((with_reducible refine gate_dst (N := 10) rfl ?_); refine box_event ?hg (N := 10) ?hd (cs := #[.slice none 0 0, .int .i64 0, .int .i64 0, .slice none 0 0, .int .i64 0]) (t := 49) ?hr ?_; (case hd => rfl); (case hg => rfl); (case hr => first | (go_simp; done) | (go_simp; rfl)); intro B10 hg w22 hbox hb; replace HL := am (HL.out.addBox hg hbox hb); clear hb hbox hg; obtain ⟨hB10_0, fB10_0, hB10_1, fB10_1, hB10_2, fB10_2, hB10_3, fB10_3, hB10_4, fB10_4⟩ := cells5 (HL.out.bx 0)) | ((with_reducible refine gate_store (t := 49) (p := 10) rfl ?_); refine store_event (t := 49) (p := 10) (v := .tmp 51) (w1 := putc w22 B10 0 [.slice Ay0 y0.length cy0, .int .i64 y1, .int .i64 y2, .slice Ay3 y3.length cy3, .int .i64 y4]) ?hg ?ho ?hn ?hr ?_; (case ho => rfl); (case hg => rfl); (case hn => rfl); (case hr => first | (go_simp; done) | (go_simp; rfl)); intro w23 hw; replace HL := am (HL.out.fil0 [.slice Ay0 y0.length cy0, .int .i64 y1, .int .i64 y2, .slice Ay3 y3.length cy3, .int .i64 y4] hw); clear hw; clear hB10_0 fB10_0 hB10_1 fB10_1 hB10_2 fB10_2 hB10_3 fB10_3 hB10_4 fB10_4; obtain ⟨hB10_0, fB10_0, hB10_1, fB10_1, hB10_2, fB10_2, hB10_3, fB10_3, hB10_4, fB10_4⟩ := cells5 (HL.out.bx 0); obtain ⟨hB5_0, fB5_0, hB5_1, fB5_1⟩ := cells2 (HL.out.bx 7); obtain ⟨hB6_0, fB6_0, hB6_1, fB6_1, hB6_2, fB6_2⟩ := cells3 (HL.out.bx 6)))
       go_wp2
       go_roundg k2
       case measure => have := HK.out; omega
       case rel => exact ⟨wrap64 (i + 1), ps, nx, np, n1, n2, Ap, Aq, An, cp, cq, cn, (by first | rfl | (simp; done)), H', ⟨by have := HK.out; omega⟩, (by first | exact ⟨(HL.out.pick [3, 4, 5, 6, 7, 8])⟩ | exact ⟨Lw.drewN (HL.out.pick [3, 4, 5, 6, 7, 8]) _⟩)⟩

/-! ### laws_eqInt64S: function 35 -/
def laws_eqInt64S.l0 : Nat → List Int → List Int → Int → Option (Bool)
 | 0, _, _, _ => none
 | k + 1, x0, x1, x5 => if x5 < (x0.length : Int) then (if 0 ≤ x5 then (if x5 < (x1.length : Int) then (if (rd x0 x5) = (rd x1 x5) then (laws_eqInt64S.l0 k x0 x1 (wrap64 (x5 + 1))) else (some false)) else (none)) else (none)) else (some true)
def laws_eqInt64S.f (k : Nat) (l0 : List Int) (l1 : List Int) : Option (Bool) := if (l0.length : Int) = (l1.length : Int) then (laws_eqInt64S.l0 k l0 l1 0) else (some false)
theorem laws_eqInt64S.calls (k : Nat) (A0 : Option Addr) (c0 : Nat) (l0 : List Int) (A1 : Option Addr) (c1 : Nat) (l1 : List Int) (r : Bool) (w : World) (hr0 : Kd.C (Kd.int .i64) w A0 l0.length l0) (hc0 : l0.length ≤ c0) (hr1 : Kd.C (Kd.int .i64) w A1 l1.length l1) (hc1 : l1.length ≤ c1) (h : laws_eqInt64S.f k l0 l1 = some r) :
  Calls Try.prog 35 #[.slice A0 l0.length c0, .slice A1 l1.length c1] w fun e w' => e = .returned (.bool r) ∧ Drawn0 w w' := by
 have HR0 := am hr0
 have HC0 := am hc0
 clear hr0 hc0
 have HR1 := am hr1
 have HC1 := am hc1
 clear hr1 hc1
 have H : (if (l0.length : Int) = (l1.length : Int) then (laws_eqInt64S.l0 k l0 l1 0) else (some false)) = some r := h
 clear h
 by_cases c3 : (l0.length : Int) = (l1.length : Int)
 ·rw [if_pos c3] at H
  have c3b0 : ((l0.length : Int) == (l1.length : Int)) = true := beq_iff_eq.mpr c3
  have c3b1 : ((l0.length : Int) != (l1.length : Int)) = false := bne_eq_false_iff_eq.mpr c3
  have c3b2 : (l0.length == l1.length) = true := by first | simpa using c3 | (simp at c3 ⊢; omega)
  clear c3
  have H' := Aside0.mk H
  clear H
  go_enter Try.func35, Try.ntmps35
  go_wp2
  repeat (go_quiet (fail); try go_wp2)
  go_loopg [5] k (fun kq v5 w' => ∃ (x5_1 : Int), v5 = .int .i64 x5_1 ∧ Aside0 (laws_eqInt64S.l0 kq l0 l1 x5_1 = some r) ∧ Aside0 (kq ≤ k) ∧ Drawn0 w w')
  case atStart => exact ⟨(0), (by first | rfl | (simp; done) | (simp [*]; done)), H', ⟨Nat.le_refl _⟩, by repeat (first | exact Drawn0.refl _ | apply Drawn0.step)⟩
  case round =>
   clear H'
   try clear c1
   try clear p2
   try clear c3
   try clear c3b0
   try clear c3b1
   try clear c3b2
   obtain ⟨x5_1, rfl, HA, HK1, ⟨m1, rfl⟩⟩ := hrel
   cases gk with
   | zero => exact absurd HA.out (by simp [laws_eqInt64S.l0])
   | succ k1 =>
    have H := HA.out
    clear HA
    simp only [laws_eqInt64S.l0] at H
    by_cases c4 : x5_1 < (l0.length : Int)
    ·rw [if_pos c4] at H
     have c4b0 : decide (x5_1 < (l0.length : Int)) = true := decide_eq_true c4
     clear c4
     by_cases c5 : 0 ≤ x5_1
     ·rw [if_pos c5] at H
      have c5b0 : decide (0 ≤ x5_1) = true := decide_eq_true c5
      clear c5
      by_cases c6 : x5_1 < (l1.length : Int)
      ·rw [if_pos c6] at H
       have c6b0 : decide (x5_1 < (l1.length : Int)) = true := decide_eq_true c6
       clear c6
       by_cases c7 : (rd l0 x5_1) = (rd l1 x5_1)
       ·rw [if_pos c7] at H
        have c7b0 : ((rd l0 x5_1) == (rd l1 x5_1)) = true := beq_iff_eq.mpr c7
        have c7b1 : ((rd l0 x5_1) != (rd l1 x5_1)) = false := bne_eq_false_iff_eq.mpr c7
        clear c7
        have H' := Aside0.mk H
        clear H
        have p346 : 0 ≤ (x5_1 : Int) := of_decide_eq_true (by first | (with_reducible assumption) | assumption)
        have q346 : x5_1 < (l0.length : Int) := of_decide_eq_true (by first | (with_reducible assumption) | assumption)
        obtain ⟨ad346, e346, hx346_0⟩ := Kd.at_int HR0.out x5_1 p346 q346
        cases e346
        replace p346 := eq_true p346
        replace q346 := eq_true q346
        have p347 : 0 ≤ (x5_1 : Int) := of_decide_eq_true (by first | (with_reducible assumption) | assumption)
        have q347 : x5_1 < (l1.length : Int) := of_decide_eq_true (by first | (with_reducible assumption) | assumption)
        obtain ⟨ad347, e347, hx347_0⟩ := Kd.at_int HR1.out x5_1 p347 q347
        cases e347
        replace p347 := eq_true p347
        replace q347 := eq_true q347
        go_wp2
        repeat (go_quiet (fail); try go_wp2)
        go_roundg k1
        case measure => have := HK1.out; omega
        case rel => exact ⟨(wrap64 (x5_1 + 1)), (by first | rfl | (simp; done) | (simp [*]; done)), H', ⟨by have := HK1.out; omega⟩, by repeat (first | exact Drawn0.refl _ | apply Drawn0.step)⟩
       ·rw [if_neg c7] at H
        have c7b0 : ((rd l0 x5_1) == (rd l1 x5_1)) = false := beq_eq_false_iff_ne.mpr c7
        have c7b1 : ((rd l0 x5_1) != (rd l1 x5_1)) = true := bne_iff_ne.mpr c7
        obtain rfl := Option.some.inj H
        have p346 : 0 ≤ (x5_1 : Int) := of_decide_eq_true (by first | (with_reducible assumption) | assumption)
        have q346 : x5_1 < (l0.length : Int) := of_decide_eq_true (by first | (with_reducible assumption) | assumption)
        obtain ⟨ad346, e346, hx346_0⟩ := Kd.at_int HR0.out x5_1 p346 q346
        cases e346
        replace p346 := eq_true p346
        replace q346 := eq_true q346
        have p347 : 0 ≤ (x5_1 : Int) := of_decide_eq_true (by first | (with_reducible assumption) | assumption)
        have q347 : x5_1 < (l1.length : Int) := of_decide_eq_true (by first | (with_reducible assumption) | assumption)
        obtain ⟨ad347, e347, hx347_0⟩ := Kd.at_int HR1.out x5_1 p347 q347
        cases e347
        replace p347 := eq_true p347
        replace q347 := eq_true q347
        go_wp2
        repeat (go_quiet (fail); try go_wp2)
        go_ret
        exact ⟨by first | rfl | (simp; done) | (simp [*]; done), by repeat (first | exact Drawn0.refl _ | apply Drawn0.step)⟩
      ·rw [if_neg c6] at H
       exact absurd H (by simp)
     ·rw [if_neg c5] at H
      exact absurd H (by simp)
    ·rw [if_neg c4] at H
     have c4b0 : decide (x5_1 < (l0.length : Int)) = false := decide_eq_false c4
     clear c4
     obtain rfl := Option.some.inj H
     go_wp2
     repeat (go_quiet (fail); try go_wp2)
     go_ret
     exact ⟨by first | rfl | (simp; done) | (simp [*]; done), by repeat (first | exact Drawn0.refl _ | apply Drawn0.step)⟩
 ·rw [if_neg c3] at H
  have c3b0 : ((l0.length : Int) == (l1.length : Int)) = false := beq_eq_false_iff_ne.mpr c3
  have c3b1 : ((l0.length : Int) != (l1.length : Int)) = true := bne_iff_ne.mpr c3
  have c3b2 : (l0.length == l1.length) = false := by first | simpa using c3 | (simp at c3 ⊢; omega)
  obtain rfl := Option.some.inj H
  go_enter Try.func35, Try.ntmps35
  go_wp2
  repeat (go_quiet (fail); try go_wp2)
  go_ret
  exact ⟨by first | rfl | (simp; done) | (simp [*]; done), by repeat (first | exact Drawn0.refl _ | apply Drawn0.step)⟩

/-! ### laws_eqBuf: function 11 -/
def laws_eqBuf.f (k : Nat) (l0_0 : List Int) (a0_1 : Int) (a0_2 : Int) (l1_0 : List Int) (a1_1 : Int) (a1_2 : Int) : Option (Bool) := (laws_eqInt64S.f k l0_0 l1_0).bind fun t350 => (if t350 = true then (if a0_1 = a1_1 then (if a0_2 = a1_2 then (some true) else (some false)) else (some false)) else (some false))
theorem laws_eqBuf.calls (k : Nat) (A0_0 : Option Addr) (c0_0 : Nat) (l0_0 : List Int) (a0_1 : Int) (a0_2 : Int) (A1_0 : Option Addr) (c1_0 : Nat) (l1_0 : List Int) (a1_1 : Int) (a1_2 : Int) (r : Bool) (w : World) (hr0_0 : Kd.C (Kd.int .i64) w A0_0 l0_0.length l0_0) (hc0_0 : l0_0.length ≤ c0_0) (hr1_0 : Kd.C (Kd.int .i64) w A1_0 l1_0.length l1_0) (hc1_0 : l1_0.length ≤ c1_0) (h : laws_eqBuf.f k l0_0 a0_1 a0_2 l1_0 a1_1 a1_2 = some r) :
  Calls Try.prog 11 #[.agg #[.slice A0_0 l0_0.length c0_0, .int .i64 a0_1, .int .i64 a0_2], .agg #[.slice A1_0 l1_0.length c1_0, .int .i64 a1_1, .int .i64 a1_2]] w fun e w' => e = .returned (.bool r) ∧ Below w.heap.size w w' := by
 have hu31 := Try.underlying31
 have HR0_0 := am hr0_0
 have HC0_0 := am hc0_0
 clear hr0_0 hc0_0
 have HR1_0 := am hr1_0
 have HC1_0 := am hc1_0
 clear hr1_0 hc1_0
 have HB := am (Below.refl w.heap.size w)
 have H : ((laws_eqInt64S.f k l0_0 l1_0).bind fun t350 => (if t350 = true then (if a0_1 = a1_1 then (if a0_2 = a1_2 then (some true) else (some false)) else (some false)) else (some false))) = some r := h
 clear h
 replace H := Option.bind_eq_some_iff.mp H
 obtain ⟨t350, A30, H⟩ := H
 replace H : (if t350 = true then (if a0_1 = a1_1 then (if a0_2 = a1_2 then (some true) else (some false)) else (some false)) else (some false)) = some r := H
 have A3 := Aside0.mk A30
 clear A30
 by_cases c4 : t350 = true
 ·subst c4
  have H1 : (if a0_1 = a1_1 then (if a0_2 = a1_2 then (some true) else (some false)) else (some false)) = some r := by rw [if_pos rfl] at H; exact H
  clear H
  have H := H1
  clear H1
  by_cases c5 : a0_1 = a1_1
  ·rw [if_pos c5] at H
   have c5b0 : (a0_1 == a1_1) = true := beq_iff_eq.mpr c5
   have c5b1 : (a0_1 != a1_1) = false := bne_eq_false_iff_eq.mpr c5
   clear c5
   by_cases c6 : a0_2 = a1_2
   ·rw [if_pos c6] at H
    have c6b0 : (a0_2 == a1_2) = true := beq_iff_eq.mpr c6
    have c6b1 : (a0_2 != a1_2) = false := bne_eq_false_iff_eq.mpr c6
    clear c6
    obtain rfl := Option.some.inj H
    go_enter Try.func11, Try.ntmps11
    go_wp2_with (first | ((with_reducible refine gate_dst (N := 2) rfl ?_); refine box_event ?hg (N := 2) ?hd (cs := #[.slice A0_0 l0_0.length c0_0, .int .i64 a0_1, .int .i64 a0_2]) (t := 31) ?hr ?_; (case hd => rfl); (case hg => rfl); (case hr => first | (go_simp; done) | (go_simp; rfl)); intro gb348 hg w7 hbox hb; have BK348 := am (hbox); have GW348 := am ((by rw [hg]; exact (below_size (bl HB.out)) : w.heap.size ≤ gb348)); have GE348 := GW348; replace HB := am (below_step (bl HB.out) hb); clear hb hbox hg) | ((with_reducible refine gate_dst (N := 3) rfl ?_); refine box_event ?hg (N := 3) ?hd (cs := #[.slice A1_0 l1_0.length c1_0, .int .i64 a1_1, .int .i64 a1_2]) (t := 31) ?hr ?_; (case hd => rfl); (case hg => rfl); (case hr => first | (go_simp; done) | (go_simp; rfl)); intro gb349 hg w8 hbox hb; have BK349 := am (hbox); have GW349 := am ((by rw [hg]; exact (below_size (bl HB.out)) : w.heap.size ≤ gb349)); have GE349 := GW349; replace HB := am (below_step (bl HB.out) hb); have NB348_349 := am ((by rw [hg]; exact Nat.ne_of_lt (blk_lt (pk BK348.out)) : gb348 ≠ gb349)); have NB349_348 := am ((by rw [hg]; exact Nat.ne_of_gt (blk_lt (pk BK348.out)) : gb349 ≠ gb348)); replace BK348 := am (blk_below (pk BK348.out) hb); clear hb hbox hg; have hnb9 := NB348_349.out; have hnc9 := NB349_348.out; have hcz10_0 : w8.cell? ⟨gb348, 0, none⟩ = some (.slice A0_0 l0_0.length c0_0) := bc BK348.out 0; have hcz10_1 : w8.cell? ⟨gb348, 1, none⟩ = some (.int .i64 a0_1) := bc BK348.out 1; have hcz10_2 : w8.cell? ⟨gb348, 2, none⟩ = some (.int .i64 a0_2) := bc BK348.out 2; have hcz11_0 : w8.cell? ⟨gb349, 0, none⟩ = some (.slice A1_0 l1_0.length c1_0) := bc BK349.out 0; have hcz11_1 : w8.cell? ⟨gb349, 1, none⟩ = some (.int .i64 a1_1) := bc BK349.out 1; have hcz11_2 : w8.cell? ⟨gb349, 2, none⟩ = some (.int .i64 a1_2) := bc BK349.out 2) | ((with_reducible refine gate_callee (f := 35) rfl ?_); refine gl (some 9) Try.func35 #[.slice A0_0 l0_0.length c0_0, .slice A1_0 l1_0.length c1_0] ?_; (with_reducible refine (laws_eqInt64S.calls k _ _ l0_0 _ _ l1_0 true _ ?side1 ?side2 ?side3 ?side4 A3.out).mono ?_); (case side1 => repeat (first | exact (Kd.C_below HR0_0.out HB.out) | (with_reducible refine Kd.C_alloc ?_ _) | (with_reducible refine Kd.C_drewN ?_ _) | (with_reducible refine Kd.C_drew ?_))); (case side2 => exact HC0_0.out); (case side3 => repeat (first | exact (Kd.C_below HR1_0.out HB.out) | (with_reducible refine Kd.C_alloc ?_ _) | (with_reducible refine Kd.C_drewN ?_ _) | (with_reducible refine Kd.C_drew ?_))); (case side4 => exact HC1_0.out); rintro e w' ⟨rfl, ⟨nd, rfl⟩⟩; refine ⟨_, rfl, ?_⟩))
    go_ret
    exact ⟨by first | rfl | (simp [errW_none, errW_some] <;> rfl) | (simp [*, errW_none, errW_some] <;> rfl), by repeat (first | (with_reducible first | exact HB.out | apply below_alloc | apply pw_below_drewN | apply below_drew1 | refine below_set ?_ GE348.out | refine below_set ?_ GE349.out) | exact HB.out)⟩
   ·rw [if_neg c6] at H
    have c6b0 : (a0_2 == a1_2) = false := beq_eq_false_iff_ne.mpr c6
    have c6b1 : (a0_2 != a1_2) = true := bne_iff_ne.mpr c6
    obtain rfl := Option.some.inj H
    go_enter Try.func11, Try.ntmps11
    go_wp2_with (first | ((with_reducible refine gate_dst (N := 2) rfl ?_); refine box_event ?hg (N := 2) ?hd (cs := #[.slice A0_0 l0_0.length c0_0, .int .i64 a0_1, .int .i64 a0_2]) (t := 31) ?hr ?_; (case hd => rfl); (case hg => rfl); (case hr => first | (go_simp; done) | (go_simp; rfl)); intro gb348 hg w12 hbox hb; have BK348 := am (hbox); have GW348 := am ((by rw [hg]; exact (below_size (bl HB.out)) : w.heap.size ≤ gb348)); have GE348 := GW348; replace HB := am (below_step (bl HB.out) hb); clear hb hbox hg) | ((with_reducible refine gate_dst (N := 3) rfl ?_); refine box_event ?hg (N := 3) ?hd (cs := #[.slice A1_0 l1_0.length c1_0, .int .i64 a1_1, .int .i64 a1_2]) (t := 31) ?hr ?_; (case hd => rfl); (case hg => rfl); (case hr => first | (go_simp; done) | (go_simp; rfl)); intro gb349 hg w13 hbox hb; have BK349 := am (hbox); have GW349 := am ((by rw [hg]; exact (below_size (bl HB.out)) : w.heap.size ≤ gb349)); have GE349 := GW349; replace HB := am (below_step (bl HB.out) hb); have NB348_349 := am ((by rw [hg]; exact Nat.ne_of_lt (blk_lt (pk BK348.out)) : gb348 ≠ gb349)); have NB349_348 := am ((by rw [hg]; exact Nat.ne_of_gt (blk_lt (pk BK348.out)) : gb349 ≠ gb348)); replace BK348 := am (blk_below (pk BK348.out) hb); clear hb hbox hg; have hnb14 := NB348_349.out; have hnc14 := NB349_348.out; have hcz15_0 : w13.cell? ⟨gb348, 0, none⟩ = some (.slice A0_0 l0_0.length c0_0) := bc BK348.out 0; have hcz15_1 : w13.cell? ⟨gb348, 1, none⟩ = some (.int .i64 a0_1) := bc BK348.out 1; have hcz15_2 : w13.cell? ⟨gb348, 2, none⟩ = some (.int .i64 a0_2) := bc BK348.out 2; have hcz16_0 : w13.cell? ⟨gb349, 0, none⟩ = some (.slice A1_0 l1_0.length c1_0) := bc BK349.out 0; have hcz16_1 : w13.cell? ⟨gb349, 1, none⟩ = some (.int .i64 a1_1) := bc BK349.out 1; have hcz16_2 : w13.cell? ⟨gb349, 2, none⟩ = some (.int .i64 a1_2) := bc BK349.out 2) | ((with_reducible refine gate_callee (f := 35) rfl ?_); refine gl (some 9) Try.func35 #[.slice A0_0 l0_0.length c0_0, .slice A1_0 l1_0.length c1_0] ?_; (with_reducible refine (laws_eqInt64S.calls k _ _ l0_0 _ _ l1_0 true _ ?side1 ?side2 ?side3 ?side4 A3.out).mono ?_); (case side1 => repeat (first | exact (Kd.C_below HR0_0.out HB.out) | (with_reducible refine Kd.C_alloc ?_ _) | (with_reducible refine Kd.C_drewN ?_ _) | (with_reducible refine Kd.C_drew ?_))); (case side2 => exact HC0_0.out); (case side3 => repeat (first | exact (Kd.C_below HR1_0.out HB.out) | (with_reducible refine Kd.C_alloc ?_ _) | (with_reducible refine Kd.C_drewN ?_ _) | (with_reducible refine Kd.C_drew ?_))); (case side4 => exact HC1_0.out); rintro e w' ⟨rfl, ⟨nd, rfl⟩⟩; refine ⟨_, rfl, ?_⟩))
    go_ret
    exact ⟨by first | rfl | (simp [errW_none, errW_some] <;> rfl) | (simp [*, errW_none, errW_some] <;> rfl), by repeat (first | (with_reducible first | exact HB.out | apply below_alloc | apply pw_below_drewN | apply below_drew1 | refine below_set ?_ GE348.out | refine below_set ?_ GE349.out) | exact HB.out)⟩
  ·rw [if_neg c5] at H
   have c5b0 : (a0_1 == a1_1) = false := beq_eq_false_iff_ne.mpr c5
   have c5b1 : (a0_1 != a1_1) = true := bne_iff_ne.mpr c5
   obtain rfl := Option.some.inj H
   go_enter Try.func11, Try.ntmps11
   go_wp2_with (first | ((with_reducible refine gate_dst (N := 2) rfl ?_); refine box_event ?hg (N := 2) ?hd (cs := #[.slice A0_0 l0_0.length c0_0, .int .i64 a0_1, .int .i64 a0_2]) (t := 31) ?hr ?_; (case hd => rfl); (case hg => rfl); (case hr => first | (go_simp; done) | (go_simp; rfl)); intro gb348 hg w17 hbox hb; have BK348 := am (hbox); have GW348 := am ((by rw [hg]; exact (below_size (bl HB.out)) : w.heap.size ≤ gb348)); have GE348 := GW348; replace HB := am (below_step (bl HB.out) hb); clear hb hbox hg) | ((with_reducible refine gate_dst (N := 3) rfl ?_); refine box_event ?hg (N := 3) ?hd (cs := #[.slice A1_0 l1_0.length c1_0, .int .i64 a1_1, .int .i64 a1_2]) (t := 31) ?hr ?_; (case hd => rfl); (case hg => rfl); (case hr => first | (go_simp; done) | (go_simp; rfl)); intro gb349 hg w18 hbox hb; have BK349 := am (hbox); have GW349 := am ((by rw [hg]; exact (below_size (bl HB.out)) : w.heap.size ≤ gb349)); have GE349 := GW349; replace HB := am (below_step (bl HB.out) hb); have NB348_349 := am ((by rw [hg]; exact Nat.ne_of_lt (blk_lt (pk BK348.out)) : gb348 ≠ gb349)); have NB349_348 := am ((by rw [hg]; exact Nat.ne_of_gt (blk_lt (pk BK348.out)) : gb349 ≠ gb348)); replace BK348 := am (blk_below (pk BK348.out) hb); clear hb hbox hg; have hnb19 := NB348_349.out; have hnc19 := NB349_348.out; have hcz20_0 : w18.cell? ⟨gb348, 0, none⟩ = some (.slice A0_0 l0_0.length c0_0) := bc BK348.out 0; have hcz20_1 : w18.cell? ⟨gb348, 1, none⟩ = some (.int .i64 a0_1) := bc BK348.out 1; have hcz20_2 : w18.cell? ⟨gb348, 2, none⟩ = some (.int .i64 a0_2) := bc BK348.out 2; have hcz21_0 : w18.cell? ⟨gb349, 0, none⟩ = some (.slice A1_0 l1_0.length c1_0) := bc BK349.out 0; have hcz21_1 : w18.cell? ⟨gb349, 1, none⟩ = some (.int .i64 a1_1) := bc BK349.out 1; have hcz21_2 : w18.cell? ⟨gb349, 2, none⟩ = some (.int .i64 a1_2) := bc BK349.out 2) | ((with_reducible refine gate_callee (f := 35) rfl ?_); refine gl (some 9) Try.func35 #[.slice A0_0 l0_0.length c0_0, .slice A1_0 l1_0.length c1_0] ?_; (with_reducible refine (laws_eqInt64S.calls k _ _ l0_0 _ _ l1_0 true _ ?side1 ?side2 ?side3 ?side4 A3.out).mono ?_); (case side1 => repeat (first | exact (Kd.C_below HR0_0.out HB.out) | (with_reducible refine Kd.C_alloc ?_ _) | (with_reducible refine Kd.C_drewN ?_ _) | (with_reducible refine Kd.C_drew ?_))); (case side2 => exact HC0_0.out); (case side3 => repeat (first | exact (Kd.C_below HR1_0.out HB.out) | (with_reducible refine Kd.C_alloc ?_ _) | (with_reducible refine Kd.C_drewN ?_ _) | (with_reducible refine Kd.C_drew ?_))); (case side4 => exact HC1_0.out); rintro e w' ⟨rfl, ⟨nd, rfl⟩⟩; refine ⟨_, rfl, ?_⟩))
   go_ret
   exact ⟨by first | rfl | (simp [errW_none, errW_some] <;> rfl) | (simp [*, errW_none, errW_some] <;> rfl), by repeat (first | (with_reducible first | exact HB.out | apply below_alloc | apply pw_below_drewN | apply below_drew1 | refine below_set ?_ GE348.out | refine below_set ?_ GE349.out) | exact HB.out)⟩
 ·replace c4 := Bool.eq_false_iff.mpr c4
  subst c4
  have H1 : (some false) = some r := by rw [if_neg (show ¬ (false = true) by decide)] at H; exact H
  clear H
  have H := H1
  clear H1
  obtain rfl := Option.some.inj H
  go_enter Try.func11, Try.ntmps11
  go_wp2_with (first | ((with_reducible refine gate_dst (N := 2) rfl ?_); refine box_event ?hg (N := 2) ?hd (cs := #[.slice A0_0 l0_0.length c0_0, .int .i64 a0_1, .int .i64 a0_2]) (t := 31) ?hr ?_; (case hd => rfl); (case hg => rfl); (case hr => first | (go_simp; done) | (go_simp; rfl)); intro gb348 hg w22 hbox hb; have BK348 := am (hbox); have GW348 := am ((by rw [hg]; exact (below_size (bl HB.out)) : w.heap.size ≤ gb348)); have GE348 := GW348; replace HB := am (below_step (bl HB.out) hb); clear hb hbox hg) | ((with_reducible refine gate_dst (N := 3) rfl ?_); refine box_event ?hg (N := 3) ?hd (cs := #[.slice A1_0 l1_0.length c1_0, .int .i64 a1_1, .int .i64 a1_2]) (t := 31) ?hr ?_; (case hd => rfl); (case hg => rfl); (case hr => first | (go_simp; done) | (go_simp; rfl)); intro gb349 hg w23 hbox hb; have BK349 := am (hbox); have GW349 := am ((by rw [hg]; exact (below_size (bl HB.out)) : w.heap.size ≤ gb349)); have GE349 := GW349; replace HB := am (below_step (bl HB.out) hb); have NB348_349 := am ((by rw [hg]; exact Nat.ne_of_lt (blk_lt (pk BK348.out)) : gb348 ≠ gb349)); have NB349_348 := am ((by rw [hg]; exact Nat.ne_of_gt (blk_lt (pk BK348.out)) : gb349 ≠ gb348)); replace BK348 := am (blk_below (pk BK348.out) hb); clear hb hbox hg; have hnb24 := NB348_349.out; have hnc24 := NB349_348.out; have hcz25_0 : w23.cell? ⟨gb348, 0, none⟩ = some (.slice A0_0 l0_0.length c0_0) := bc BK348.out 0; have hcz25_1 : w23.cell? ⟨gb348, 1, none⟩ = some (.int .i64 a0_1) := bc BK348.out 1; have hcz25_2 : w23.cell? ⟨gb348, 2, none⟩ = some (.int .i64 a0_2) := bc BK348.out 2; have hcz26_0 : w23.cell? ⟨gb349, 0, none⟩ = some (.slice A1_0 l1_0.length c1_0) := bc BK349.out 0; have hcz26_1 : w23.cell? ⟨gb349, 1, none⟩ = some (.int .i64 a1_1) := bc BK349.out 1; have hcz26_2 : w23.cell? ⟨gb349, 2, none⟩ = some (.int .i64 a1_2) := bc BK349.out 2) | ((with_reducible refine gate_callee (f := 35) rfl ?_); refine gl (some 9) Try.func35 #[.slice A0_0 l0_0.length c0_0, .slice A1_0 l1_0.length c1_0] ?_; (with_reducible refine (laws_eqInt64S.calls k _ _ l0_0 _ _ l1_0 false _ ?side1 ?side2 ?side3 ?side4 A3.out).mono ?_); (case side1 => repeat (first | exact (Kd.C_below HR0_0.out HB.out) | (with_reducible refine Kd.C_alloc ?_ _) | (with_reducible refine Kd.C_drewN ?_ _) | (with_reducible refine Kd.C_drew ?_))); (case side2 => exact HC0_0.out); (case side3 => repeat (first | exact (Kd.C_below HR1_0.out HB.out) | (with_reducible refine Kd.C_alloc ?_ _) | (with_reducible refine Kd.C_drewN ?_ _) | (with_reducible refine Kd.C_drew ?_))); (case side4 => exact HC1_0.out); rintro e w' ⟨rfl, ⟨nd, rfl⟩⟩; refine ⟨_, rfl, ?_⟩))
  go_ret
  exact ⟨by first | rfl | (simp [errW_none, errW_some] <;> rfl) | (simp [*, errW_none, errW_some] <;> rfl), by repeat (first | (with_reducible first | exact HB.out | apply below_alloc | apply pw_below_drewN | apply below_drew1 | refine below_set ?_ GE348.out | refine below_set ?_ GE349.out) | exact HB.out)⟩

end Go.Proofs.Ytabinbmcfeknjaa.PFnExactUndoRun
