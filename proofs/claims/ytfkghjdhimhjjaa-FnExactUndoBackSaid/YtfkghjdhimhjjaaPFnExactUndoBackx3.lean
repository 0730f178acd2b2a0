-- Written by xprint.py (this claim's own program, over the kit's printer); Lean checks it.
import Derived.Test.YtfkghjdhimhjjaaPFnExactUndoBackx0
import Derived.Test.YtfkghjdhimhjjaaPFnExactUndoBackx1
import Derived.Test.YtfkghjdhimhjjaaPFnExactUndoBackx2
namespace Go.Proofs.Ytfkghjdhimhjjaa.PFnExactUndoBack
open Go.RowKit Go.Proofs.YtfkghjdhimhjjaaW.PrintWords Go.Proofs.YtfkghjdhimhjjaaW.PrintLast Go.Proofs.YtfkghjdhimhjjaaW.PrintMore
attribute [local go_sem] max2_int min2_int max_two min_two max_three min_three max_four min_four   -- for this text's walks alone
set_option linter.unusedVariables false
set_option linter.unusedSimpArgs false   -- squeezed

/-! ### spec_UndoBack: function 15 -/
@[reducible] def b15_0 : Array Bool := (br true [12, 1]).toArray
@[reducible] def b15_1 : Array Bool := (br true [9, 2, 1, 1]).toArray
@[reducible] def b15_2 : Array Bool := (br true [10, 1, 1, 1]).toArray
def spec_UndoBack.j0 : Nat → Bool → List (S39) → List (S39) → List Int → Int → Int → Option ((List (S39)) × (List (S39)) × List Int × Int × Int × Int)
 | 0, _, _, _, _, _, _ => none
 | k + 1, x14, x149000, x149001, x150000, x150001, x150002 => if x14 = true then (some (([] : List (S39)), ([] : List (S39)), ([] : List Int), 0, 0, 1)) else (if (x149000.length : Int) = 0 then (some (([] : List (S39)), ([] : List (S39)), ([] : List Int), 0, 0, 4)) else (if 0 ≤ (wrap64 ((x149000.length : Int) - 1)) then (if (wrap64 ((x149000.length : Int) - 1)) ≤ (x149000.length : Int) then ((spec_l05CopyBufs.f k (x149000.take ((wrap64 ((x149000.length : Int) - 1)) : Int).toNat)).bind fun t157 => ((spec_l05Put.f k x149001 x150000 x150001 x150002).bind fun t160 => (if (wrap64 ((x149000.length : Int) - 1)) < (x149000.length : Int) then ((spec_l02Copy.f ((rd_T39 x149000 (wrap64 ((x149000.length : Int) - 1))).f0) ((rd_T39 x149000 (wrap64 ((x149000.length : Int) - 1))).f1) ((rd_T39 x149000 (wrap64 ((x149000.length : Int) - 1))).f2)).bind fun bt165 => (some (t157, t160, bt165.1, bt165.2.1, bt165.2.2, 0))) else (none)))) else (none)) else (none)))
def spec_UndoBack.f (k : Nat) (l0_0 : List (S39)) (l0_1 : List (S39)) (l1_0 : List Int) (a1_1 : Int) (a1_2 : Int) : Option ((List (S39)) × (List (S39)) × List Int × Int × Int × Int) := (spec_UndoRight.f k l0_0 l0_1).bind fun t151 => (if t151 = true then ((spec_BufRight.f k l1_0 a1_1 a1_2).bind fun t152 => (spec_UndoBack.j0 k (!t152) l0_0 l0_1 l1_0 a1_1 a1_2)) else (spec_UndoBack.j0 k true l0_0 l0_1 l1_0 a1_1 a1_2))
theorem spec_UndoBack.mono_l : ∀ k, (∀ y0 y1 y2 y3 y4 y5, LeO (spec_UndoBack.j0 k y0 y1 y2 y3 y4 y5) (spec_UndoBack.j0 (k + 1) y0 y1 y2 y3 y4 y5))
 | 0 => fun _ _ _ _ _ _ r h => by simp [spec_UndoBack.j0] at h
 | k + 1 => by
  have ih0 := spec_UndoBack.mono_l k
  ·intro y0 y1 y2 y3 y4 y5
   unfold spec_UndoBack.j0
   repeat' first
   | (with_reducible exact ih0 _ _ _ _ _ _)
   | (with_reducible exact spec_BufRight.mono _ _ _ _)
   | (with_reducible exact spec_UndoRight.mono _ _ _)
   | (with_reducible exact spec_l05CopyBufs.mono _ _)
   | (with_reducible exact spec_l05Put.mono _ _ _ _ _)
   | (with_reducible exact LeO.refl _)
   | (with_reducible exact LeO.none _)
   | (with_reducible refine LeO.ite ?_ ?_)
   | (with_reducible refine LeO.bind ?_ (fun _ => ?_))
   | exact ih0 _ _ _ _ _ _
   | exact spec_BufRight.mono _ _ _ _
   | exact spec_UndoRight.mono _ _ _
   | exact spec_l05CopyBufs.mono _ _
   | exact spec_l05Put.mono _ _ _ _ _
   | refine LeO.bind ?_ (fun _ => ?_)
theorem spec_UndoBack.mono : ∀ a0 a1 a2 a3 a4 k, LeO (spec_UndoBack.f k a0 a1 a2 a3 a4) (spec_UndoBack.f (k + 1) a0 a1 a2 a3 a4) := by
 intro a0 a1 a2 a3 a4 k
 have ih0 := spec_UndoBack.mono_l k
 unfold spec_UndoBack.f
 repeat' first
   | (with_reducible exact ih0 _ _ _ _ _ _)
   | (with_reducible exact spec_BufRight.mono _ _ _ _)
   | (with_reducible exact spec_UndoRight.mono _ _ _)
   | (with_reducible exact spec_l05CopyBufs.mono _ _)
   | (with_reducible exact spec_l05Put.mono _ _ _ _ _)
   | (with_reducible exact LeO.refl _)
   | (with_reducible exact LeO.none _)
   | (with_reducible refine LeO.ite ?_ ?_)
   | (with_reducible refine LeO.bind ?_ (fun _ => ?_))
   | exact ih0 _ _ _ _ _ _
   | exact spec_BufRight.mono _ _ _ _
   | exact spec_UndoRight.mono _ _ _
   | exact spec_l05CopyBufs.mono _ _
   | exact spec_l05Put.mono _ _ _ _ _
   | refine LeO.bind ?_ (fun _ => ?_)
def spec_UndoBack.T6 : Bool × List (List Nat × List Nat) := (true, [([], []), ([0], [0]), ([], []), ([2], [2]), ([1, 3], [1, 3]), ([4], [4]), ([], []), ([6], [6]), ([], []), ([7, 8, 5], [7, 8]), ([5, 9], [5, 9]), ([], []), ([11, 10, 9, 0, 1, 2, 3, 4, 5, 6, 7, 8, 9, 10, 11], [10, 11])])
def spec_UndoBack.B6 : List Nat := [0, 1, 0, 4, 15, 31, 0, 64, 0, 511, 1023, 0, 4095]
theorem spec_UndoBack.tab6 : rtab .any (opsOf Try.f15 6) = spec_UndoBack.T6 := by kernel_rfl
theorem spec_UndoBack.bits6 : waitsOk spec_UndoBack.T6.2 spec_UndoBack.B6 = true := by kernel_rfl
def spec_UndoBack.T7 : Bool × List (List Nat × List Nat) := (true, [([], []), ([], []), ([1], [1]), ([], []), ([3], [3]), ([2, 4], [2, 4]), ([5], [5]), ([6], [6]), ([0, 7], [0, 7]), ([8, 7, 0, 1, 2, 3, 4, 5, 6, 7, 8], [8])])
def spec_UndoBack.B7 : List Nat := [0, 0, 2, 0, 8, 30, 62, 126, 255, 511]
theorem spec_UndoBack.tab7 : rtab .any (opsOf Try.f15 7) = spec_UndoBack.T7 := by kernel_rfl
theorem spec_UndoBack.bits7 : waitsOk spec_UndoBack.T7.2 spec_UndoBack.B7 = true := by kernel_rfl
set_option maxHeartbeats 8000000 in
set_option maxRecDepth 100000 in
theorem spec_UndoBack.calls (k : Nat) (A0_0 : Option Addr) (c0_0 : Nat) (l0_0 : List (S39)) (A0_1 : Option Addr) (c0_1 : Nat) (l0_1 : List (S39)) (A1_0 : Option Addr) (c1_0 : Nat) (l1_0 : List Int) (a1_1 : Int) (a1_2 : Int) (r1 : List (S39)) (r2 : List (S39)) (r3 : List Int) (r4 : Int) (r5 : Int) (r6 : Int) (w : World) (hr0_0 : Kd.C k39 w A0_0 l0_0.length l0_0) (hc0_0 : l0_0.length ≤ c0_0) (hr0_1 : Kd.C k39 w A0_1 l0_1.length l0_1) (hc0_1 : l0_1.length ≤ c0_1) (hr1_0 : Kd.C (Kd.int .i64) w A1_0 l1_0.length l1_0) (hc1_0 : l1_0.length ≤ c1_0) (h : spec_UndoBack.f k l0_0 l0_1 l1_0 a1_1 a1_2 = some (r1, r2, r3, r4, r5, r6)) :
  Calls Try.prog 15 #[.agg #[.slice A0_0 l0_0.length c0_0, .slice A0_1 l0_1.length c0_1], .agg #[.slice A1_0 l1_0.length c1_0, .int .i64 a1_1, .int .i64 a1_2]] w fun e w' => ∃ v0_ v1_ v2_ : Value, e = .returned (.agg #[v0_, v1_, v2_, .int .i64 r4, .int .i64 r5, .int .i64 r6]) ∧ Kd.S k39 39 w' w.heap.size (fun k_ => some k_ ≠ (v1_ : Value).ownBlock ∧ some k_ ≠ (v2_ : Value).ownBlock) v0_ r1 ∧ Kd.T k39 39 w' w.heap.size (fun k_ => some k_ ≠ (v0_ : Value).ownBlock ∧ some k_ ≠ (v2_ : Value).ownBlock) v1_ r2 ∧ Kd.R (Kd.int .i64) 2 w' w.heap.size (fun _ => True) v2_ r3 ∧ Below w.heap.size w w' := by
 have hu36 := Try.underlying36
 have hu39 := Try.underlying39
 have hu43 := Try.underlying43
 have HR0_0 := am hr0_0
 have HC0_0 := am hc0_0
 clear hr0_0 hc0_0
 have HR0_1 := am hr0_1
 have HC0_1 := am hc0_1
 clear hr0_1 hc0_1
 have HR1_0 := am hr1_0
 have HC1_0 := am hc1_0
 clear hr1_0 hc1_0
 have HB := am (Below.refl w.heap.size w)
 have H : ((spec_UndoRight.f k l0_0 l0_1).bind fun t151 => (if t151 = true then ((spec_BufRight.f k l1_0 a1_1 a1_2).bind fun t152 => (spec_UndoBack.j0 k (!t152) l0_0 l0_1 l1_0 a1_1 a1_2)) else (spec_UndoBack.j0 k true l0_0 l0_1 l1_0 a1_1 a1_2))) = some (r1, r2, r3, r4, r5, r6) := h
 clear h
 have HC3 := Aside0.mk H
 clear H
 go_enter Try.func15, Try.ntmps15
 go_upto_region 1 with (first | ((with_reducible refine gate_dst (N := 2) rfl ?_); refine box_event ?hg (N := 2) ?hd (cs := #[.slice A0_0 l0_0.length c0_0, .slice A0_1 l0_1.length c0_1]) (t := 36) ?hr ?_; (case hd => rfl); (case hg => rfl); (case hr => first | (go_simp; done) | (go_simp; rfl)); intro gb148 hg w4 hbox hb; have BK148 := am (hbox); have GW148 := am ((by rw [hg]; exact (below_size (bl HB.out)) : w.heap.size ≤ gb148)); have GE148 := GW148; replace HB := am (below_step (bl HB.out) hb); clear hb hbox hg) | ((with_reducible refine gate_dst (N := 3) rfl ?_); refine box_event ?hg (N := 3) ?hd (cs := #[.slice A1_0 l1_0.length c1_0, .int .i64 a1_1, .int .i64 a1_2]) (t := 39) ?hr ?_; (case hd => rfl); (case hg => rfl); (case hr => first | (go_simp; done) | (go_simp; rfl)); intro gb149 hg w5 hbox hb; have BK149 := am (hbox); have GW149 := am ((by rw [hg]; exact (below_size (bl HB.out)) : w.heap.size ≤ gb149)); have GE149 := GW149; replace HB := am (below_step (bl HB.out) hb); have NB148_149 := am ((by rw [hg]; exact Nat.ne_of_lt (blk_lt (pk BK148.out)) : gb148 ≠ gb149)); have NB149_148 := am ((by rw [hg]; exact Nat.ne_of_gt (blk_lt (pk BK148.out)) : gb149 ≠ gb148)); replace BK148 := am (blk_below (pk BK148.out) hb); clear hb hbox hg) | ((with_reducible refine gate_dst (N := 4) rfl ?_); refine box_event ?hg (N := 4) ?hd (cs := #[.slice none 0 0, .slice none 0 0, .slice none 0 0, .int .i64 0, .int .i64 0, .int .i64 0]) (t := 43) ?hr ?_; (case hd => rfl); (case hg => rfl); (case hr => first | (go_simp; done) | (go_simp; rfl)); intro gb150 hg w6 hbox hb; have BK150 := am (hbox); have GW150 := am ((by rw [hg]; exact (below_size (bl HB.out)) : w.heap.size ≤ gb150)); have GE150 := GW150; replace HB := am (below_step (bl HB.out) hb); have NB148_150 := am ((by rw [hg]; exact Nat.ne_of_lt (blk_lt (pk BK148.out)) : gb148 ≠ gb150)); have NB150_148 := am ((by rw [hg]; exact Nat.ne_of_gt (blk_lt (pk BK148.out)) : gb150 ≠ gb148)); replace BK148 := am (blk_below (pk BK148.out) hb); have NB149_150 := am ((by rw [hg]; exact Nat.ne_of_lt (blk_lt (pk BK149.out)) : gb149 ≠ gb150)); have NB150_149 := am ((by rw [hg]; exact Nat.ne_of_gt (blk_lt (pk BK149.out)) : gb150 ≠ gb149)); replace BK149 := am (blk_below (pk BK149.out) hb); clear hb hbox hg))
 (try simp only [Act.put, sa_, s0_, ss_])
 go_cut [14] (fun v14 wc => ∃ (kq : Nat) (x14_2 : Bool), v14 = .bool x14_2 ∧ Aside0 (spec_UndoBack.j0 kq x14_2 l0_0 l0_1 l1_0 a1_1 a1_2 = some (r1, r2, r3, r4, r5, r6)) ∧ Aside0 (kq ≤ k) ∧ Aside0 (wc.heap[gb148]? = some (.cells #[(.slice A0_0 l0_0.length c0_0), (.slice A0_1 l0_1.length c0_1)] 36 (0, 0))) ∧ Aside0 (wc.heap[gb149]? = some (.cells #[(.slice A1_0 l1_0.length c1_0), .int .i64 a1_1, .int .i64 a1_2] 39 (0, 0))) ∧ Aside0 (wc.heap[gb150]? = some (.cells #[(.slice none 0 0), (.slice none 0 0), (.slice none 0 0), .int .i64 0, .int .i64 0, .int .i64 0] 43 (0, 0))) ∧ Aside0 (Below w.heap.size w wc))
 case first =>
  have H := HC3.out
  clear HC3
  replace H := Option.bind_eq_some_iff.mp H
  obtain ⟨t151, A70, H⟩ := H
  replace H : (if t151 = true then ((spec_BufRight.f k l1_0 a1_1 a1_2).bind fun t152 => (spec_UndoBack.j0 k (!t152) l0_0 l0_1 l1_0 a1_1 a1_2)) else (spec_UndoBack.j0 k true l0_0 l0_1 l1_0 a1_1 a1_2)) = some (r1, r2, r3, r4, r5, r6) := H
  have A7 := Aside0.mk A70
  clear A70
  by_cases c8 : t151 = true
  ·subst c8
   have H1 : ((spec_BufRight.f k l1_0 a1_1 a1_2).bind fun t152 => (spec_UndoBack.j0 k (!t152) l0_0 l0_1 l1_0 a1_1 a1_2)) = some (r1, r2, r3, r4, r5, r6) := by rw [if_pos rfl] at H; exact H
   clear H
   have H := H1
   clear H1
   replace H := Option.bind_eq_some_iff.mp H
   obtain ⟨t152, A90, H⟩ := H
   replace H : (spec_UndoBack.j0 k (!t152) l0_0 l0_1 l1_0 a1_1 a1_2) = some (r1, r2, r3, r4, r5, r6) := H
   have A9 := Aside0.mk A90
   clear A90
   have H' := Aside0.mk H
   clear H
   have hnb10 := NB148_149.out
   have hnc10 := NB149_148.out
   have hnb11 := NB148_150.out
   have hnc11 := NB150_148.out
   have hcz12_0 : w6.cell? ⟨gb148, 0, none⟩ = some (.slice A0_0 l0_0.length c0_0) := bc BK148.out 0
   have hcz12_1 : w6.cell? ⟨gb148, 1, none⟩ = some (.slice A0_1 l0_1.length c0_1) := bc BK148.out 1
   have hfz12_0 := blk_frozen BK148.out 0
   have hfz12_1 := blk_frozen BK148.out 1
   go_wp2_with (first | ((with_reducible refine gate_callee (f := 58) rfl ?_); refine gl (some 8) Try.func58 #[.agg #[.slice A0_0 l0_0.length c0_0, .slice A0_1 l0_1.length c0_1]] ?_; (with_reducible refine (spec_UndoRight.calls k _ _ l0_0 _ _ l0_1 true _ ?side1 ?side2 ?side3 ?side4 A7.out).mono ?_); (case side1 => repeat (first | exact (Kd.C_below HR0_0.out HB.out) | (with_reducible refine Kd.C_alloc ?_ _) | (with_reducible refine Kd.C_drewN ?_ _) | (with_reducible refine Kd.C_drew ?_))); (case side2 => exact HC0_0.out); (case side3 => repeat (first | exact (Kd.C_below HR0_1.out HB.out) | (with_reducible refine Kd.C_alloc ?_ _) | (with_reducible refine Kd.C_drewN ?_ _) | (with_reducible refine Kd.C_drew ?_))); (case side4 => exact HC0_1.out); rintro e w13 ⟨rfl, hb⟩; refine ⟨_, rfl, ?_⟩; replace BK148 := am (blk_below (pk BK148.out) hb); replace BK149 := am (blk_below (pk BK149.out) hb); replace BK150 := am (blk_below (pk BK150.out) hb); replace HB := am (below_step (bl HB.out) hb); (try clear hb); (try clear hb2); (try clear hk); (try clear hi); have hnb14 := NB149_150.out; have hnc14 := NB150_149.out; have hcz15_0 : w13.cell? ⟨gb149, 0, none⟩ = some (.slice A1_0 l1_0.length c1_0) := bc BK149.out 0; have hcz15_1 : w13.cell? ⟨gb149, 1, none⟩ = some (.int .i64 a1_1) := bc BK149.out 1; have hcz15_2 : w13.cell? ⟨gb149, 2, none⟩ = some (.int .i64 a1_2) := bc BK149.out 2; have hfz15_0 := blk_frozen BK149.out 0; have hfz15_1 := blk_frozen BK149.out 1; have hfz15_2 := blk_frozen BK149.out 2) | (go_at_call 59; (with_reducible refine (spec_BufRight.calls k _ _ l1_0 a1_1 a1_2 t152 _ ?side1 ?side2 A9.out).mono ?_); (case side1 => repeat (first | exact (Kd.C_below HR1_0.out HB.out) | (with_reducible refine Kd.C_alloc ?_ _) | (with_reducible refine Kd.C_drewN ?_ _) | (with_reducible refine Kd.C_drew ?_))); (case side2 => exact HC1_0.out); rintro e w16 ⟨rfl, hb⟩; replace BK148 := am (blk_below (pk BK148.out) hb); replace BK149 := am (blk_below (pk BK149.out) hb); replace BK150 := am (blk_below (pk BK150.out) hb); replace HB := am (below_step (bl HB.out) hb); (try clear hb); (try clear hb2); (try clear hk); (try clear hi)))
   go_meet
   case rel => exact ⟨_, (!t152), (by first | rfl | (simp; done) | (simp [*]; done)), H', ⟨by first | omega | exact Nat.le_refl _⟩, ⟨pk BK148.out⟩, ⟨pk BK149.out⟩, ⟨pk BK150.out⟩, ⟨by repeat (first | (with_reducible first | exact HB.out | apply below_alloc | apply pw_below_drewN | apply below_drew1 | refine below_set ?_ GE148.out | refine below_set ?_ GE149.out | refine below_set ?_ GE150.out) | exact HB.out)⟩⟩
  ·replace c8 := Bool.eq_false_iff.mpr c8
   subst c8
   have H1 : (spec_UndoBack.j0 k true l0_0 l0_1 l1_0 a1_1 a1_2) = some (r1, r2, r3, r4, r5, r6) := by rw [if_neg (show ¬ (false = true) by decide)] at H; exact H
   clear H
   have H := H1
   clear H1
   have H' := Aside0.mk H
   clear H
   have hnb17 := NB148_149.out
   have hnc17 := NB149_148.out
   have hnb18 := NB148_150.out
   have hnc18 := NB150_148.out
   have hcz19_0 : w6.cell? ⟨gb148, 0, none⟩ = some (.slice A0_0 l0_0.length c0_0) := bc BK148.out 0
   have hcz19_1 : w6.cell? ⟨gb148, 1, none⟩ = some (.slice A0_1 l0_1.length c0_1) := bc BK148.out 1
   have hfz19_0 := blk_frozen BK148.out 0
   have hfz19_1 := blk_frozen BK148.out 1
   go_wp2_with (first | ((with_reducible refine gate_callee (f := 58) rfl ?_); refine gl (some 8) Try.func58 #[.agg #[.slice A0_0 l0_0.length c0_0, .slice A0_1 l0_1.length c0_1]] ?_; (with_reducible refine (spec_UndoRight.calls k _ _ l0_0 _ _ l0_1 false _ ?side1 ?side2 ?side3 ?side4 A7.out).mono ?_); (case side1 => repeat (first | exact (Kd.C_below HR0_0.out HB.out) | (with_reducible refine Kd.C_alloc ?_ _) | (with_reducible refine Kd.C_drewN ?_ _) | (with_reducible refine Kd.C_drew ?_))); (case side2 => exact HC0_0.out); (case side3 => repeat (first | exact (Kd.C_below HR0_1.out HB.out) | (with_reducible refine Kd.C_alloc ?_ _) | (with_reducible refine Kd.C_drewN ?_ _) | (with_reducible refine Kd.C_drew ?_))); (case side4 => exact HC0_1.out); rintro e w20 ⟨rfl, hb⟩; refine ⟨_, rfl, ?_⟩; replace BK148 := am (blk_below (pk BK148.out) hb); replace BK149 := am (blk_below (pk BK149.out) hb); replace BK150 := am (blk_below (pk BK150.out) hb); replace HB := am (below_step (bl HB.out) hb); (try clear hb); (try clear hb2); (try clear hk); (try clear hi)))
   go_meet
   case rel => exact ⟨_, (true), (by first | rfl | (simp; done) | (simp [*]; done)), H', ⟨by first | omega | exact Nat.le_refl _⟩, ⟨pk BK148.out⟩, ⟨pk BK149.out⟩, ⟨pk BK150.out⟩, ⟨by repeat (first | (with_reducible first | exact HB.out | apply below_alloc | apply pw_below_drewN | apply below_drew1 | refine below_set ?_ GE148.out | refine below_set ?_ GE149.out | refine below_set ?_ GE150.out) | exact HB.out)⟩⟩
 case rest =>
  clear HC3
  try clear c1
  try clear p2
  try clear c5
  try clear c8
  try clear c10
  try clear c11
  try clear c14
  try clear c15
  try clear c17
  try clear c18
  try clear hcz12_0
  try clear hcz12_1
  try clear hcz15_0
  try clear hcz15_1
  try clear hcz15_2
  try clear hcz19_0
  try clear hcz19_1
  try clear hfz12_0
  try clear hfz12_1
  try clear hfz15_0
  try clear hfz15_1
  try clear hfz15_2
  try clear hfz19_0
  try clear hfz19_1
  obtain ⟨kq, x14_2, rfl, HA, HJ2, BK148, BK149, BK150, HB⟩ := hcut
  cases kq with
  | zero => exact absurd HA.out (by simp [spec_UndoBack.j0])
  | succ kj2 =>
   have H := HA.out
   clear HA
   simp only [spec_UndoBack.j0] at H
   by_cases c21 : x14_2 = true
   ·subst c21
    have H1 : (some (([] : List (S39)), ([] : List (S39)), ([] : List Int), 0, 0, 1)) = some (r1, r2, r3, r4, r5, r6) := by rw [if_pos rfl] at H; exact H
    clear H
    have H := H1
    clear H1
    simp only [Option.some.injEq, Prod.mk.injEq] at H
    obtain ⟨rfl, rfl, rfl, rfl, rfl, rfl⟩ := H
    have hnb22 := NB150_148.out
    have hnc22 := NB148_150.out
    have hnb23 := NB150_149.out
    have hnc23 := NB149_150.out
    have hcz24_0 : wc.cell? ⟨gb150, 0, none⟩ = some (.slice none 0 0) := bc BK150.out 0
    have hcz24_1 : wc.cell? ⟨gb150, 1, none⟩ = some (.slice none 0 0) := bc BK150.out 1
    have hcz24_2 : wc.cell? ⟨gb150, 2, none⟩ = some (.slice none 0 0) := bc BK150.out 2
    have hcz24_3 : wc.cell? ⟨gb150, 3, none⟩ = some (.int .i64 0) := bc BK150.out 3
    have hcz24_4 : wc.cell? ⟨gb150, 4, none⟩ = some (.int .i64 0) := bc BK150.out 4
    have hcz24_5 : wc.cell? ⟨gb150, 5, none⟩ = some (.int .i64 0) := bc BK150.out 5
    have hfz24_0 := blk_frozen BK150.out 0
    have hfz24_1 := blk_frozen BK150.out 1
    have hfz24_2 := blk_frozen BK150.out 2
    have hfz24_3 := blk_frozen BK150.out 3
    have hfz24_4 := blk_frozen BK150.out 4
    have hfz24_5 := blk_frozen BK150.out 5
    go_wp2
    refine bodyPost_ret (results_cell_row rfl _ _ gb150 43 #[.slice none 0 0, .slice none 0 0, .slice none 0 0, .int .i64 0, .int .i64 0, .int .i64 1] (0, 0) _ rfl (by refine pk ?_; refine blk_put (cs := #[.slice none 0 0, .slice none 0 0, .slice none 0 0, .int .i64 0, .int .i64 0, .int .i64 0]) ?_ 5 _ rfl; refine pk ?_; refine blk_put (cs := #[.slice none 0 0, .slice none 0 0, .slice none 0 0, .int .i64 0, .int .i64 0, .int .i64 0]) ?_ 4 _ rfl; refine pk ?_; refine blk_put (cs := #[.slice none 0 0, .slice none 0 0, .slice none 0 0, .int .i64 0, .int .i64 0, .int .i64 0]) ?_ 3 _ rfl; refine pk ?_; refine blk_put (cs := #[.slice none 0 0, .slice none 0 0, .slice none 0 0, .int .i64 0, .int .i64 0, .int .i64 0]) ?_ 2 _ rfl; refine pk ?_; refine blk_put (cs := #[.slice none 0 0, .slice none 0 0, .slice none 0 0, .int .i64 0, .int .i64 0, .int .i64 0]) ?_ 1 _ rfl; refine pk ?_; refine blk_put (cs := #[.slice none 0 0, .slice none 0 0, .slice none 0 0, .int .i64 0, .int .i64 0, .int .i64 0]) ?_ 0 _ rfl; refine pk ?_; exact BK150.out) Try.underlying43 rfl (by kernel_rfl)) rfl ?_
    exact ⟨_, _, _, by first | rfl | (simp [errW_none, errW_some] <;> rfl) | (simp [*, errW_none, errW_some] <;> rfl), by first | exact Kd.S_nil _ _ _ _ _ | exact Kd.N_nil _ _ _ _ _ | exact Kd.V_nil _ _ _ _ _ | exact Kd.T_nil _ _ _ _ _ | exact Kd.R_nil _ _ _ _ _, Kd.T_of_S (by first | exact Kd.S_nil _ _ _ _ _ | exact Kd.N_nil _ _ _ _ _ | exact Kd.V_nil _ _ _ _ _ | exact Kd.T_nil _ _ _ _ _ | exact Kd.R_nil _ _ _ _ _), by first | exact Kd.R_nil _ _ _ _ _ | exact Kd.N_nil _ _ _ _ _ | exact Kd.V_nil _ _ _ _ _ | exact Kd.T_nil _ _ _ _ _ | exact Kd.S_nil _ _ _ _ _, by repeat (first | (with_reducible first | exact HB.out | apply below_alloc | apply pw_below_drewN | apply below_drew1 | refine below_set ?_ GE148.out | refine below_set ?_ GE149.out | refine below_set ?_ GE150.out) | exact HB.out)⟩
   ·replace c21 := Bool.eq_false_iff.mpr c21
    subst c21
    have H1 : (if (l0_0.length : Int) = 0 then (some (([] : List (S39)), ([] : List (S39)), ([] : List Int), 0, 0, 4)) else (if 0 ≤ (wrap64 ((l0_0.length : Int) - 1)) then (if (wrap64 ((l0_0.length : Int) - 1)) ≤ (l0_0.length : Int) then ((spec_l05CopyBufs.f kj2 (l0_0.take ((wrap64 ((l0_0.length : Int) - 1)) : Int).toNat)).bind fun t157 => ((spec_l05Put.f kj2 l0_1 l1_0 a1_1 a1_2).bind fun t160 => (if (wrap64 ((l0_0.length : Int) - 1)) < (l0_0.length : Int) then ((spec_l02Copy.f ((rd_T39 l0_0 (wrap64 ((l0_0.length : Int) - 1))).f0) ((rd_T39 l0_0 (wrap64 ((l0_0.length : Int) - 1))).f1) ((rd_T39 l0_0 (wrap64 ((l0_0.length : Int) - 1))).f2)).bind fun bt165 => (some (t157, t160, bt165.1, bt165.2.1, bt165.2.2, 0))) else (none)))) else (none)) else (none))) = some (r1, r2, r3, r4, r5, r6) := by rw [if_neg (show ¬ (false = true) by decide)] at H; exact H
    clear H
    have H := H1
    clear H1
    by_cases c25 : (l0_0.length : Int) = 0
    ·rw [if_pos c25] at H
     have c25b0 : ((l0_0.length : Int) == 0) = true := beq_iff_eq.mpr c25
     have c25b1 : ((l0_0.length : Int) != 0) = false := bne_eq_false_iff_eq.mpr c25
     clear c25
     simp only [Option.some.injEq, Prod.mk.injEq] at H
     obtain ⟨rfl, rfl, rfl, rfl, rfl, rfl⟩ := H
     have hnb26 := NB148_149.out
     have hnc26 := NB149_148.out
     have hnb27 := NB148_150.out
     have hnc27 := NB150_148.out
     have hcz28_0 : wc.cell? ⟨gb148, 0, none⟩ = some (.slice A0_0 l0_0.length c0_0) := bc BK148.out 0
     have hcz28_1 : wc.cell? ⟨gb148, 1, none⟩ = some (.slice A0_1 l0_1.length c0_1) := bc BK148.out 1
     have hfz28_0 := blk_frozen BK148.out 0
     have hfz28_1 := blk_frozen BK148.out 1
     have hnb29 := NB150_149.out
     have hnc29 := NB149_150.out
     have hcz30_0 : wc.cell? ⟨gb150, 0, none⟩ = some (.slice none 0 0) := bc BK150.out 0
     have hcz30_1 : wc.cell? ⟨gb150, 1, none⟩ = some (.slice none 0 0) := bc BK150.out 1
     have hcz30_2 : wc.cell? ⟨gb150, 2, none⟩ = some (.slice none 0 0) := bc BK150.out 2
     have hcz30_3 : wc.cell? ⟨gb150, 3, none⟩ = some (.int .i64 0) := bc BK150.out 3
     have hcz30_4 : wc.cell? ⟨gb150, 4, none⟩ = some (.int .i64 0) := bc BK150.out 4
     have hcz30_5 : wc.cell? ⟨gb150, 5, none⟩ = some (.int .i64 0) := bc BK150.out 5
     have hfz30_0 := blk_frozen BK150.out 0
     have hfz30_1 := blk_frozen BK150.out 1
     have hfz30_2 := blk_frozen BK150.out 2
     have hfz30_3 := blk_frozen BK150.out 3
     have hfz30_4 := blk_frozen BK150.out 4
     have hfz30_5 := blk_frozen BK150.out 5
     go_wp2
     refine bodyPost_ret (results_cell_row rfl _ _ gb150 43 #[.slice none 0 0, .slice none 0 0, .slice none 0 0, .int .i64 0, .int .i64 0, .int .i64 4] (0, 0) _ rfl (by refine pk ?_; refine blk_put (cs := #[.slice none 0 0, .slice none 0 0, .slice none 0 0, .int .i64 0, .int .i64 0, .int .i64 0]) ?_ 5 _ rfl; refine pk ?_; refine blk_put (cs := #[.slice none 0 0, .slice none 0 0, .slice none 0 0, .int .i64 0, .int .i64 0, .int .i64 0]) ?_ 4 _ rfl; refine pk ?_; refine blk_put (cs := #[.slice none 0 0, .slice none 0 0, .slice none 0 0, .int .i64 0, .int .i64 0, .int .i64 0]) ?_ 3 _ rfl; refine pk ?_; refine blk_put (cs := #[.slice none 0 0, .slice none 0 0, .slice none 0 0, .int .i64 0, .int .i64 0, .int .i64 0]) ?_ 2 _ rfl; refine pk ?_; refine blk_put (cs := #[.slice none 0 0, .slice none 0 0, .slice none 0 0, .int .i64 0, .int .i64 0, .int .i64 0]) ?_ 1 _ rfl; refine pk ?_; refine blk_put (cs := #[.slice none 0 0, .slice none 0 0, .slice none 0 0, .int .i64 0, .int .i64 0, .int .i64 0]) ?_ 0 _ rfl; refine pk ?_; exact BK150.out) Try.underlying43 rfl (by kernel_rfl)) rfl ?_
     exact ⟨_, _, _, by first | rfl | (simp [errW_none, errW_some] <;> rfl) | (simp [*, errW_none, errW_some] <;> rfl), by first | exact Kd.S_nil _ _ _ _ _ | exact Kd.N_nil _ _ _ _ _ | exact Kd.V_nil _ _ _ _ _ | exact Kd.T_nil _ _ _ _ _ | exact Kd.R_nil _ _ _ _ _, Kd.T_of_S (by first | exact Kd.S_nil _ _ _ _ _ | exact Kd.N_nil _ _ _ _ _ | exact Kd.V_nil _ _ _ _ _ | exact Kd.T_nil _ _ _ _ _ | exact Kd.R_nil _ _ _ _ _), by first | exact Kd.R_nil _ _ _ _ _ | exact Kd.N_nil _ _ _ _ _ | exact Kd.V_nil _ _ _ _ _ | exact Kd.T_nil _ _ _ _ _ | exact Kd.S_nil _ _ _ _ _, by repeat (first | (with_reducible first | exact HB.out | apply below_alloc | apply pw_below_drewN | apply below_drew1 | refine below_set ?_ GE148.out | refine below_set ?_ GE149.out | refine below_set ?_ GE150.out) | exact HB.out)⟩
    ·rw [if_neg c25] at H
     have c25b0 : ((l0_0.length : Int) == 0) = false := beq_eq_false_iff_ne.mpr c25
     have c25b1 : ((l0_0.length : Int) != 0) = true := bne_iff_ne.mpr c25
     have c25b2 : ¬ (l0_0 = []) := fun h_ => c25 (by rw [h_]; rfl)
     obtain ⟨ji31, hji31⟩ : ∃ j_ : Int, (wrap64 ((l0_0.length : Int) - 1)) = j_ := ⟨_, rfl⟩
     replace H : (if 0 ≤ (ji31) then (if (ji31) ≤ (l0_0.length : Int) then ((spec_l05CopyBufs.f kj2 (l0_0.take ((ji31) : Int).toNat)).bind fun t157 => ((spec_l05Put.f kj2 l0_1 l1_0 a1_1 a1_2).bind fun t160 => (if (ji31) < (l0_0.length : Int) then ((spec_l02Copy.f ((rd_T39 l0_0 (ji31)).f0) ((rd_T39 l0_0 (ji31)).f1) ((rd_T39 l0_0 (ji31)).f2)).bind fun bt165 => (some (t157, t160, bt165.1, bt165.2.1, bt165.2.2, 0))) else (none)))) else (none)) else (none)) = some (r1, r2, r3, r4, r5, r6) := by first | (rw [hji31] at H; exact H) | (simp only [hji31] at H ⊢; exact H)
     have hji31w : (IntKind.i64.wrap ((l0_0.length : Int) - 1)) = ji31 := (i64_w _).trans hji31
     by_cases c32 : 0 ≤ (ji31)
     ·rw [if_pos c32] at H
      have c32b0 := eq_true c32
      have c32b1 : decide (0 ≤ (ji31)) = true := decide_eq_true c32
      clear c32
      by_cases c33 : (ji31) ≤ (l0_0.length : Int)
      ·rw [if_pos c33] at H
       have c33b0 := eq_true c33
       have c33b1 : decide ((ji31) ≤ (l0_0.length : Int)) = true := decide_eq_true c33
       clear c33
       obtain ⟨y153, hy153⟩ : ∃ y_ : List (S39), y_ = (l0_0.take ((ji31) : Int).toNat) := ⟨_, rfl⟩
       replace H : ((spec_l05CopyBufs.f kj2 y153).bind fun t157 => ((spec_l05Put.f kj2 l0_1 l1_0 a1_1 a1_2).bind fun t160 => (if (ji31) < (l0_0.length : Int) then ((spec_l02Copy.f ((rd_T39 l0_0 (ji31)).f0) ((rd_T39 l0_0 (ji31)).f1) ((rd_T39 l0_0 (ji31)).f2)).bind fun bt165 => (some (t157, t160, bt165.1, bt165.2.1, bt165.2.2, 0))) else (none)))) = some (r1, r2, r3, r4, r5, r6) := by first | (rw [hy153]; with_reducible exact H) | (have H2_ := (Option.bind_some _ _).symm.trans H; rw [hy153]; with_reducible exact H2_) | (have H2_ := (Option.bind_some _ _).symm.trans H; with_reducible exact H2_) | with_reducible exact H | (rw [hy153]; exact H) | exact H
       have Ny153 := am hy153
       clear hy153
       replace H := Option.bind_eq_some_iff.mp H
       obtain ⟨t157, A340, H⟩ := H
       replace H : ((spec_l05Put.f kj2 l0_1 l1_0 a1_1 a1_2).bind fun t160 => (if (ji31) < (l0_0.length : Int) then ((spec_l02Copy.f ((rd_T39 l0_0 (ji31)).f0) ((rd_T39 l0_0 (ji31)).f1) ((rd_T39 l0_0 (ji31)).f2)).bind fun bt165 => (some (t157, t160, bt165.1, bt165.2.1, bt165.2.2, 0))) else (none))) = some (r1, r2, r3, r4, r5, r6) := H
       have A34 := Aside0.mk A340
       clear A340
       replace H := Option.bind_eq_some_iff.mp H
       obtain ⟨t160, A350, H⟩ := H
       replace H : (if (ji31) < (l0_0.length : Int) then ((spec_l02Copy.f ((rd_T39 l0_0 (ji31)).f0) ((rd_T39 l0_0 (ji31)).f1) ((rd_T39 l0_0 (ji31)).f2)).bind fun bt165 => (some (t157, t160, bt165.1, bt165.2.1, bt165.2.2, 0))) else (none)) = some (r1, r2, r3, r4, r5, r6) := H
       have A35 := Aside0.mk A350
       clear A350
       by_cases c36 : (ji31) < (l0_0.length : Int)
       ·rw [if_pos c36] at H
        have c36b0 : decide ((ji31) < (l0_0.length : Int)) = true := decide_eq_true c36
        clear c36
        replace H := Option.bind_eq_some_iff.mp H
        obtain ⟨⟨t165, t168, t169⟩, A370, H⟩ := H
        replace H : (some (t157, t160, t165, t168, t169, 0)) = some (r1, r2, r3, r4, r5, r6) := H
        have A37 := Aside0.mk A370
        clear A370
        simp only [Option.some.injEq, Prod.mk.injEq] at H
        obtain ⟨rfl, rfl, rfl, rfl, rfl, rfl⟩ := H
        have hnb38 := NB148_149.out
        have hnc38 := NB149_148.out
        have hnb39 := NB148_150.out
        have hnc39 := NB150_148.out
        have hcz40_0 : wc.cell? ⟨gb148, 0, none⟩ = some (.slice A0_0 l0_0.length c0_0) := bc BK148.out 0
        have hcz40_1 : wc.cell? ⟨gb148, 1, none⟩ = some (.slice A0_1 l0_1.length c0_1) := bc BK148.out 1
        have hfz40_0 := blk_frozen BK148.out 0
        have hfz40_1 := blk_frozen BK148.out 1
        try go_wp2
        replace BK148 := am (blk_drew BK148.out)
        replace BK149 := am (blk_drew BK149.out)
        replace BK150 := am (blk_drew BK150.out)
        replace HB := am (below_drew1 HB.out)
        have q42 : ((ji31) : Int) ≤ ((l0_0.length : Int) : Int) := of_decide_eq_true (by first | (with_reducible assumption) | assumption)
        obtain ⟨i042, hi042, _, hsz42, _⟩ := info_parts info39
        have hroom42 : l0_0.length ≤ c0_0 := HC0_0.out
        have hC42 : Kd.C k39 _ A0_0 l0_0.length l0_0 := HR0_0.out
        have hcut42 := cut_to (P := Try.prog) 34 39 .i64 Try.underlying34 hi042 A0_0 l0_0.length c0_0 (ji31) (of_decide_eq_true (by first | (with_reducible assumption) | assumption)) q42 hroom42
        have hr42 := Kd.C_take (m := ((ji31) : Int).toNat) hC42 (by omega)
        have hy42 : y153.length = ((ji31) : Int).toNat := (by rw [Ny153.out, List.length_take]; omega)
        rw [← Ny153.out] at hr42
        rw [← hy42] at hcut42
        have HR156 := am hr42
        have HC156 := am (show y153.length ≤ c0_0 from by omega)
        clear hr42 hC42 hroom42 hi042 hsz42
        have KY42 := am hy42
        clear hy42
        replace q42 := eq_true q42
        refine start_ (n := 13) (S := fun w' => w'.cell? ⟨gb148, 0, none⟩ = some (.slice A0_0 l0_0.length c0_0) ∧ w'.cell? ⟨gb148, 1, none⟩ = some (.slice A0_1 l0_1.length c0_1) ∧ w'.cell? ⟨gb149, 0, none⟩ = some (.slice A1_0 l1_0.length c1_0) ∧ w'.cell? ⟨gb149, 1, none⟩ = some (.int .i64 a1_1) ∧ w'.cell? ⟨gb149, 2, none⟩ = some (.int .i64 a1_2)) (ds := []) #[false, false, false, false, false, false, false, false, false, false, false, false, false] (by kernel_rfl) rfl rfl ⟨bc BK148.out 0, bc BK148.out 1, bc BK149.out 0, bc BK149.out 1, bc BK149.out 2⟩ (fun hHeld => ?_); refine with_tabW spec_UndoBack.tab6 spec_UndoBack.bits6 (fun HT_ HW_ => ?_)
        generalize wc.drew = w41 at BK148 BK149 BK150 HB HR156 hHeld ⊢
        refine pure_ (i := 0) (N := some 22) (v := ?_) (a' := ?_) #[true, false, false, false, false, false, false, false, false, false, false, false, false] rfl rfl (any_of HT_.out (by kernel_rfl)) (fun _ _ _ h => h) (Or.inl ⟨by rfl, ?_⟩) ?_ ?_; rotate_left
        ·intro w'; go_simp; with_reducible rfl
        rotate_left
        ·simp only [Act.put, sa_, s0_, ss_, i64_w, i32_w]; rfl
        refine pure_ (i := 2) (N := some 24) (v := ?_) (a' := ?_) #[true, false, true, false, false, false, false, false, false, false, false, false, false] rfl rfl (any_of HT_.out (by kernel_rfl)) (fun _ _ _ h => h) (Or.inl ⟨by rfl, ?_⟩) ?_ ?_; rotate_left
        ·intro w'; go_simp; with_reducible rfl
        rotate_left
        ·simp only [Act.put, sa_, s0_, ss_, i64_w, i32_w]; rfl
        refine pure_ (i := 3) (N := some 25) (v := ?_) (a' := ?_) #[true, false, true, true, false, false, false, false, false, false, false, false, false] rfl rfl (any_of HT_.out (by kernel_rfl)) (fun _ _ _ h => h) (Or.inl ⟨by rfl, ?_⟩) ?_ ?_; rotate_left
        ·intro w'; go_simp; with_reducible rfl
        rotate_left
        ·simp only [Act.put, sa_, s0_, ss_, i64_w, i32_w]; rfl
        refine pure_ (i := 6) (N := some 28) (v := ?_) (a' := ?_) #[true, false, true, true, false, false, true, false, false, false, false, false, false] rfl rfl (any_of HT_.out (by kernel_rfl)) (fun _ _ _ h => h) (Or.inl ⟨by rfl, ?_⟩) ?_ ?_; rotate_left
        ·intro w'; go_simp; with_reducible rfl
        rotate_left
        ·simp only [Act.put, sa_, s0_, ss_, i64_w, i32_w]; rfl
        refine take_ (i := 1) (N := some 23) (v := ?_) (a' := ?_) #[true, true, true, true, false, false, true, false, false, false, false, false, false] rfl rfl (take_ofW HT_.out HW_.out (by kernel_rfl)) (fun _ _ _ h => h) (Or.inl ⟨by rfl, ?_⟩) hHeld ?_ ?_; rotate_left
        ·rintro w' ⟨s0, s1, s2, s3, s4⟩; go_simp; with_reducible rfl
        rotate_left
        ·simp only [Act.put, sa_, s0_, ss_, i64_w, i32_w]; rfl
        refine pure_ (i := 4) (N := some 26) (v := ?_) (a' := ?_) #[true, true, true, true, true, false, true, false, false, false, false, false, false] rfl rfl (any_of HT_.out (by kernel_rfl)) (fun _ _ _ h => h) (Or.inl ⟨by rfl, ?_⟩) ?_ ?_; rotate_left
        ·intro w'; go_simp; with_reducible rfl
        rotate_left
        ·simp only [Act.put, sa_, s0_, ss_, i64_w, i32_w]; rfl
        refine take_ (i := 7) (N := some 29) (v := ?_) (a' := ?_) #[true, true, true, true, true, false, true, true, false, false, false, false, false] rfl rfl (take_ofW HT_.out HW_.out (by kernel_rfl)) (fun _ _ _ h => h) (Or.inl ⟨by rfl, ?_⟩) hHeld ?_ ?_; rotate_left
        ·rintro w' ⟨s0, s1, s2, s3, s4⟩; go_simp; with_reducible rfl
        rotate_left
        ·simp only [Act.put, sa_, s0_, ss_, i64_w, i32_w]; rfl
        refine take_ (i := 8) (N := some 30) (v := ?_) (a' := ?_) #[true, true, true, true, true, false, true, true, true, false, false, false, false] rfl rfl (take_ofW HT_.out HW_.out (by kernel_rfl)) (fun _ _ _ h => h) (Or.inl ⟨by rfl, ?_⟩) hHeld ?_ ?_; rotate_left
        ·rintro w' ⟨s0, s1, s2, s3, s4⟩; go_simp; with_reducible rfl
        rotate_left
        ·simp only [Act.put, sa_, s0_, ss_, i64_w, i32_w]; rfl
        refine join_ (σ := Value × Value × Nat) 1 b15_0 (fun s_ => [(27, s_.1), (31, s_.2.1), (6, .pointer (some ⟨s_.2.2, 0, none⟩)), (32, .agg #[s_.1, s_.2.1])]) (fun s_ w' => (w'.cell? ⟨gb148, 0, none⟩ = some (.slice A0_0 l0_0.length c0_0) ∧ w'.cell? ⟨gb148, 1, none⟩ = some (.slice A0_1 l0_1.length c0_1) ∧ w'.cell? ⟨gb149, 0, none⟩ = some (.slice A1_0 l1_0.length c1_0) ∧ w'.cell? ⟨gb149, 1, none⟩ = some (.int .i64 a1_1) ∧ w'.cell? ⟨gb149, 2, none⟩ = some (.int .i64 a1_2)) ∧ (Kd.S k39 39 w' w.heap.size (fun k_ => some k_ ≠ (s_.2.1 : Value).ownBlock ∧ k_ ≠ gb149) s_.1 t157) ∧ (Kd.T k39 39 w' w.heap.size (fun k_ => some k_ ≠ (s_.1 : Value).ownBlock ∧ k_ ≠ gb149) s_.2.1 t160) ∧ (w'.heap[gb148]? = some (.cells #[.slice A0_0 l0_0.length c0_0, .slice A0_1 l0_1.length c0_1] 36 (0, 0))) ∧ (w'.heap[gb149]? = some (.cells #[.slice A1_0 l1_0.length c1_0, .int .i64 a1_1, .int .i64 a1_2] 39 (0, 0))) ∧ (w'.heap[gb150]? = some (.cells #[.slice none 0 0, .slice none 0 0, .slice none 0 0, .int .i64 0, .int .i64 0, .int .i64 0] 43 (0, 0))) ∧ (w'.heap[s_.2.2]? = some (.cells #[.slice none 0 0, .slice none 0 0] 36 (0, 0))) ∧ (w.heap.size ≤ s_.2.2) ∧ (w.heap.size ≤ s_.2.2) ∧ (gb148 ≠ s_.2.2) ∧ (s_.2.2 ≠ gb148) ∧ (gb149 ≠ s_.2.2) ∧ (s_.2.2 ≠ gb149) ∧ (gb150 ≠ s_.2.2) ∧ (s_.2.2 ≠ gb150) ∧ (Below w.heap.size w w')) ?_ ?_
        rotate_left
        ·intro hCont
         refine two_ (i := 5) (j := 11) (Ni := some 27) (Nj := some 6) #[true, true, true, true, true, true, true, true, true, false, false, false, false] #[true, true, true, true, true, false, true, true, true, false, false, true, false] rfl rfl rfl rfl (two_of HT_.out (by kernel_rfl)) (by decide) (by decide) (fun K hK => ?_) (fun K hK => ?_)
         ·skip
          refine gs_ Try.func60 #[.slice A0_0 y153.length c0_0] ?_
          with_reducible refine (spec_l05CopyBufs.calls kj2 _ _ y153 t157 _ ?side1 ?side2 A34.out).mono ?_
          (case side1 => repeat (first | exact (Kd.C_below HR156.out HB.out) | (with_reducible refine Kd.C_alloc ?_ _) | (with_reducible refine Kd.C_drewN ?_ _) | (with_reducible refine Kd.C_drew ?_)))
          (case side2 => exact HC156.out)
          rintro e w43 ⟨v158, rfl, ho0, hb⟩
          refine ⟨_, rfl, ?_⟩
          have HO159 := am (Kd.S_lower (Kd.S_newB ho0 (g := gb149) (o := .cells #[.slice A1_0 l1_0.length c1_0, .int .i64 a1_1, .int .i64 a1_2] 39 (0, 0)) (pk BK149.out)) (below_size (bl HB.out)))
          replace BK148 := am (blk_below (pk BK148.out) hb)
          replace BK149 := am (blk_below (pk BK149.out) hb)
          replace BK150 := am (blk_below (pk BK150.out) hb)
          replace HB := am (below_step (bl HB.out) hb)
          (try clear hb)
          (try clear hb2)
          (try clear hk)
          (try clear hi)
          (try clear ho0)
          refine hK.out _ _ ⟨bc BK148.out 0, bc BK148.out 1, bc BK149.out 0, bc BK149.out 1, bc BK149.out 2⟩ (fun hHeld => ?_)
          clear hK K
          refine norm_ (a' := ?_) ?_ ?_
          rotate_left
          ·show Act.put _ (some 27) _ = _
           simp only [Act.put, sa_, s0_, ss_, i64_w, i32_w]
           rfl
          refine two_ (i := 9) (j := 11) (Ni := some 31) (Nj := some 6) #[true, true, true, true, true, true, true, true, true, true, false, false, false] b15_1 rfl rfl rfl rfl (two_of HT_.out (by kernel_rfl)) (by decide) (by decide) (fun K hK => ?_) (fun K hK => ?_)
          ·skip
           refine gs_ Try.func61 #[.slice A0_1 l0_1.length c0_1, .agg #[.slice A1_0 l1_0.length c1_0, .int .i64 a1_1, .int .i64 a1_2]] ?_
           with_reducible refine (spec_l05Put.calls kj2 _ _ l0_1 _ _ l1_0 a1_1 a1_2 t160 _ ?side1 ?side2 ?side3 ?side4 A35.out).mono ?_
           (case side1 => repeat (first | exact (Kd.C_below HR0_1.out HB.out) | (with_reducible refine Kd.C_alloc ?_ _) | (with_reducible refine Kd.C_drewN ?_ _) | (with_reducible refine Kd.C_drew ?_)))
           (case side2 => exact HC0_1.out)
           (case side3 => repeat (first | exact (Kd.C_below HR1_0.out HB.out) | (with_reducible refine Kd.C_alloc ?_ _) | (with_reducible refine Kd.C_drewN ?_ _) | (with_reducible refine Kd.C_drew ?_)))
           (case side4 => exact HC1_0.out)
           rintro e w44 ⟨v161, rfl, ho0, hb⟩
           refine ⟨_, rfl, ?_⟩
           have HO162 := am (Kd.T_lower (Kd.T_newB (Kd.T_new' ho0 (Kd.S_lt (ks HO159.out))) (g := gb149) (o := .cells #[.slice A1_0 l1_0.length c1_0, .int .i64 a1_1, .int .i64 a1_2] 39 (0, 0)) (pk BK149.out)) (below_size (bl HB.out)))
           replace HO159 := am (Kd.S_elder' (ks HO159.out) (Kd.T_base ho0) hb)
           replace BK148 := am (blk_below (pk BK148.out) hb)
           replace BK149 := am (blk_below (pk BK149.out) hb)
           replace BK150 := am (blk_below (pk BK150.out) hb)
           replace HB := am (below_step (bl HB.out) hb)
           (try clear hb)
           (try clear hb2)
           (try clear hk)
           (try clear hi)
           (try clear ho0)
           obtain ⟨Ao45, co45, eo45, _⟩ := Kd.T_slice HO162.out
           (first | subst eo45 | (injection eo45 with f1_ f2_ f3_; have f4_ := f1_.symm; have f5_ := f3_.symm; clear f1_ f2_ f3_; subst f4_; subst f5_))
           obtain ⟨Ao46, co46, eo46⟩ := Kd.S_slice HO159.out
           (first | subst eo46 | (injection eo46 with f1_ f2_ f3_; have f4_ := f1_.symm; have f5_ := f3_.symm; clear f1_ f2_ f3_; subst f4_; subst f5_))
           refine hK.out _ _ ⟨bc BK148.out 0, bc BK148.out 1, bc BK149.out 0, bc BK149.out 1, bc BK149.out 2⟩ (fun hHeld => ?_)
           clear hK K
           refine norm_ (a' := ?_) ?_ ?_
           rotate_left
           ·show Act.put _ (some 31) _ = _
            simp only [Act.put, sa_, s0_, ss_, i64_w, i32_w]
            rfl
           refine pure_ (i := 10) (N := some 32) (v := ?_) (a' := ?_) #[true, true, true, true, true, true, true, true, true, true, true, false, false] rfl rfl (any_of HT_.out (by kernel_rfl)) (fun _ _ _ h => h) (Or.inl ⟨by rfl, ?_⟩) ?_ ?_; rotate_left
           ·intro w'; go_simp; with_reducible rfl
           rotate_left
           ·simp only [Act.put, sa_, s0_, ss_, i64_w, i32_w]; rfl
           refine one_ (i := 11) (N := some 6) b15_0 rfl rfl (one_of HT_.out (by kernel_rfl)) (by decide) (fun K hK => ?_)
           refine box_step ?hg (N := 6) ?hd (cs := #[.slice none 0 0, .slice none 0 0]) (t := 36) ?hr ?_; (case hd => rfl); (case hg => rfl); (case hr => first | (go_simp; done) | (go_simp; rfl))
           intro gb163 hg w47 hbox hb
           replace HO159 := am (Kd.S_below (ks HO159.out) hb)
           replace HO162 := am (Kd.T_below (by (with_reducible repeat (first | apply Kd.T_alloc | apply Kd.T_drewN | apply Kd.T_drew)); exact HO162.out) hb)
           have BK163 := am (hbox)
           have GW163 := am ((by rw [hg]; exact (below_size (bl HB.out)) : w.heap.size ≤ gb163))
           have GE163 := GW163
           replace HB := am (below_step (bl HB.out) hb)
           have NB148_163 := am ((by rw [hg]; exact Nat.ne_of_lt (blk_lt (pk BK148.out)) : gb148 ≠ gb163))
           have NB163_148 := am ((by rw [hg]; exact Nat.ne_of_gt (blk_lt (pk BK148.out)) : gb163 ≠ gb148))
           replace BK148 := am (blk_below (pk BK148.out) hb)
           have NB149_163 := am ((by rw [hg]; exact Nat.ne_of_lt (blk_lt (pk BK149.out)) : gb149 ≠ gb163))
           have NB163_149 := am ((by rw [hg]; exact Nat.ne_of_gt (blk_lt (pk BK149.out)) : gb163 ≠ gb149))
           replace BK149 := am (blk_below (pk BK149.out) hb)
           have NB150_163 := am ((by rw [hg]; exact Nat.ne_of_lt (blk_lt (pk BK150.out)) : gb150 ≠ gb163))
           have NB163_150 := am ((by rw [hg]; exact Nat.ne_of_gt (blk_lt (pk BK150.out)) : gb163 ≠ gb150))
           replace BK150 := am (blk_below (pk BK150.out) hb)
           clear hb hbox hg
           refine hK.out _ _ ⟨bc BK148.out 0, bc BK148.out 1, bc BK149.out 0, bc BK149.out 1, bc BK149.out 2⟩ (fun hHeld => ?_)
           clear hK K
           refine norm_ (a' := ?_) ?_ ?_
           rotate_left
           ·show Act.put _ (some 6) _ = _
            simp only [Act.put, sa_, s0_, ss_, i64_w, i32_w]
            rfl
           exact norm_ (by simp only [putAll, Act.put, sa_, s0_, ss_]) (hCont (.slice Ao46 t157.length co46, .slice Ao45 t160.length co45, gb163) _ ⟨hHeld, (ks (Kd.S_mono HO159.out (fun _ hk => ⟨hk.2, hk.1.2⟩))), (by (with_reducible repeat (first | apply Kd.T_alloc | apply Kd.T_drewN | apply Kd.T_drew)); exact Kd.T_mono HO162.out (fun _ hk => ⟨hk.1.2, hk.2⟩)), (pk BK148.out), (pk BK149.out), (pk BK150.out), (pk BK163.out), GW163.out, GE163.out, NB148_163.out, NB163_148.out, NB149_163.out, NB163_149.out, NB150_163.out, NB163_150.out, (bl HB.out)⟩)
          ·skip
           refine box_step ?hg (N := 6) ?hd (cs := #[.slice none 0 0, .slice none 0 0]) (t := 36) ?hr ?_; (case hd => rfl); (case hg => rfl); (case hr => first | (go_simp; done) | (go_simp; rfl))
           intro gb163 hg w44 hbox hb
           replace HO159 := am (Kd.S_below (ks HO159.out) hb)
           have BK163 := am (hbox)
           have GW163 := am ((by rw [hg]; exact (below_size (bl HB.out)) : w.heap.size ≤ gb163))
           have GE163 := GW163
           replace HB := am (below_step (bl HB.out) hb)
           have NB148_163 := am ((by rw [hg]; exact Nat.ne_of_lt (blk_lt (pk BK148.out)) : gb148 ≠ gb163))
           have NB163_148 := am ((by rw [hg]; exact Nat.ne_of_gt (blk_lt (pk BK148.out)) : gb163 ≠ gb148))
           replace BK148 := am (blk_below (pk BK148.out) hb)
           have NB149_163 := am ((by rw [hg]; exact Nat.ne_of_lt (blk_lt (pk BK149.out)) : gb149 ≠ gb163))
           have NB163_149 := am ((by rw [hg]; exact Nat.ne_of_gt (blk_lt (pk BK149.out)) : gb163 ≠ gb149))
           replace BK149 := am (blk_below (pk BK149.out) hb)
           have NB150_163 := am ((by rw [hg]; exact Nat.ne_of_lt (blk_lt (pk BK150.out)) : gb150 ≠ gb163))
           have NB163_150 := am ((by rw [hg]; exact Nat.ne_of_gt (blk_lt (pk BK150.out)) : gb163 ≠ gb150))
           replace BK150 := am (blk_below (pk BK150.out) hb)
           clear hb hbox hg
           refine hK.out _ _ ⟨bc BK148.out 0, bc BK148.out 1, bc BK149.out 0, bc BK149.out 1, bc BK149.out 2⟩ (fun hHeld => ?_)
           clear hK K
           refine norm_ (a' := ?_) ?_ ?_
           rotate_left
           ·show Act.put _ (some 6) _ = _
            simp only [Act.put, sa_, s0_, ss_, i64_w, i32_w]
            rfl
           refine one_ (i := 9) (N := some 31) b15_2 rfl rfl (one_of HT_.out (by kernel_rfl)) (by decide) (fun K hK => ?_)
           refine gs_ Try.func61 #[.slice A0_1 l0_1.length c0_1, .agg #[.slice A1_0 l1_0.length c1_0, .int .i64 a1_1, .int .i64 a1_2]] ?_
           with_reducible refine (spec_l05Put.calls kj2 _ _ l0_1 _ _ l1_0 a1_1 a1_2 t160 _ ?side1 ?side2 ?side3 ?side4 A35.out).mono ?_
           (case side1 => repeat (first | exact (Kd.C_below HR0_1.out HB.out) | (with_reducible refine Kd.C_alloc ?_ _) | (with_reducible refine Kd.C_drewN ?_ _) | (with_reducible refine Kd.C_drew ?_)))
           (case side2 => exact HC0_1.out)
           (case side3 => repeat (first | exact (Kd.C_below HR1_0.out HB.out) | (with_reducible refine Kd.C_alloc ?_ _) | (with_reducible refine Kd.C_drewN ?_ _) | (with_reducible refine Kd.C_drew ?_)))
           (case side4 => exact HC1_0.out)
           rintro e w45 ⟨v161, rfl, ho0, hb⟩
           refine ⟨_, rfl, ?_⟩
           have HO162 := am (Kd.T_lower (Kd.T_newB (Kd.T_new' ho0 (Kd.S_lt (ks HO159.out))) (g := gb149) (o := .cells #[.slice A1_0 l1_0.length c1_0, .int .i64 a1_1, .int .i64 a1_2] 39 (0, 0)) (pk BK149.out)) (below_size (bl HB.out)))
           replace HO159 := am (Kd.S_elder' (ks HO159.out) (Kd.T_base ho0) hb)
           replace BK148 := am (blk_below (pk BK148.out) hb)
           replace BK149 := am (blk_below (pk BK149.out) hb)
           replace BK150 := am (blk_below (pk BK150.out) hb)
           replace BK163 := am (blk_below (pk BK163.out) hb)
           replace HB := am (below_step (bl HB.out) hb)
           (try clear hb)
           (try clear hb2)
           (try clear hk)
           (try clear hi)
           (try clear ho0)
           obtain ⟨Ao46, co46, eo46, _⟩ := Kd.T_slice HO162.out
           (first | subst eo46 | (injection eo46 with f1_ f2_ f3_; have f4_ := f1_.symm; have f5_ := f3_.symm; clear f1_ f2_ f3_; subst f4_; subst f5_))
           obtain ⟨Ao47, co47, eo47⟩ := Kd.S_slice HO159.out
           (first | subst eo47 | (injection eo47 with f1_ f2_ f3_; have f4_ := f1_.symm; have f5_ := f3_.symm; clear f1_ f2_ f3_; subst f4_; subst f5_))
           refine hK.out _ _ ⟨bc BK148.out 0, bc BK148.out 1, bc BK149.out 0, bc BK149.out 1, bc BK149.out 2⟩ (fun hHeld => ?_)
           clear hK K
           refine norm_ (a' := ?_) ?_ ?_
           rotate_left
           ·show Act.put _ (some 31) _ = _
            simp only [Act.put, sa_, s0_, ss_, i64_w, i32_w]
            rfl
           refine pu_ 10 (some 32) ?_ b15_0 rfl rfl HT_.out (by kernel_rfl) (fun _ _ _ h => h) (Or.inl ⟨by rfl, ?_⟩) ?_ ?_ ?_; rotate_left
           ·intro w'; go_simp; with_reducible rfl
           rotate_left
           ·simp only [Act.put, sa_, s0_, ss_, i64_w, i32_w]; rfl
           exact norm_ (by simp only [putAll, Act.put, sa_, s0_, ss_]) (hCont (.slice Ao47 t157.length co47, .slice Ao46 t160.length co46, gb163) _ ⟨hHeld, (ks (Kd.S_mono HO159.out (fun _ hk => ⟨hk.2, hk.1.2⟩))), (by (with_reducible repeat (first | apply Kd.T_alloc | apply Kd.T_drewN | apply Kd.T_drew)); exact Kd.T_mono HO162.out (fun _ hk => ⟨hk.1.2, hk.2⟩)), (pk BK148.out), (pk BK149.out), (pk BK150.out), (pk BK163.out), GW163.out, GE163.out, NB148_163.out, NB163_148.out, NB149_163.out, NB163_149.out, NB150_163.out, NB163_150.out, (bl HB.out)⟩)
         ·skip
          refine box_step ?hg (N := 6) ?hd (cs := #[.slice none 0 0, .slice none 0 0]) (t := 36) ?hr ?_; (case hd => rfl); (case hg => rfl); (case hr => first | (go_simp; done) | (go_simp; rfl))
          intro gb163 hg w43 hbox hb
          have BK163 := am (hbox)
          have GW163 := am ((by rw [hg]; exact (below_size (bl HB.out)) : w.heap.size ≤ gb163))
          have GE163 := GW163
          replace HB := am (below_step (bl HB.out) hb)
          have NB148_163 := am ((by rw [hg]; exact Nat.ne_of_lt (blk_lt (pk BK148.out)) : gb148 ≠ gb163))
          have NB163_148 := am ((by rw [hg]; exact Nat.ne_of_gt (blk_lt (pk BK148.out)) : gb163 ≠ gb148))
          replace BK148 := am (blk_below (pk BK148.out) hb)
          have NB149_163 := am ((by rw [hg]; exact Nat.ne_of_lt (blk_lt (pk BK149.out)) : gb149 ≠ gb163))
          have NB163_149 := am ((by rw [hg]; exact Nat.ne_of_gt (blk_lt (pk BK149.out)) : gb163 ≠ gb149))
          replace BK149 := am (blk_below (pk BK149.out) hb)
          have NB150_163 := am ((by rw [hg]; exact Nat.ne_of_lt (blk_lt (pk BK150.out)) : gb150 ≠ gb163))
          have NB163_150 := am ((by rw [hg]; exact Nat.ne_of_gt (blk_lt (pk BK150.out)) : gb163 ≠ gb150))
          replace BK150 := am (blk_below (pk BK150.out) hb)
          clear hb hbox hg
          refine hK.out _ _ ⟨bc BK148.out 0, bc BK148.out 1, bc BK149.out 0, bc BK149.out 1, bc BK149.out 2⟩ (fun hHeld => ?_)
          clear hK K
          refine norm_ (a' := ?_) ?_ ?_
          rotate_left
          ·show Act.put _ (some 6) _ = _
           simp only [Act.put, sa_, s0_, ss_, i64_w, i32_w]
           rfl
          refine one_ (i := 5) (N := some 27) b15_1 rfl rfl (one_of HT_.out (by kernel_rfl)) (by decide) (fun K hK => ?_)
          refine gs_ Try.func60 #[.slice A0_0 y153.length c0_0] ?_
          with_reducible refine (spec_l05CopyBufs.calls kj2 _ _ y153 t157 _ ?side1 ?side2 A34.out).mono ?_
          (case side1 => repeat (first | exact (Kd.C_below HR156.out HB.out) | (with_reducible refine Kd.C_alloc ?_ _) | (with_reducible refine Kd.C_drewN ?_ _) | (with_reducible refine Kd.C_drew ?_)))
          (case side2 => exact HC156.out)
          rintro e w44 ⟨v158, rfl, ho0, hb⟩
          refine ⟨_, rfl, ?_⟩
          have HO159 := am (Kd.S_lower (Kd.S_newB ho0 (g := gb149) (o := .cells #[.slice A1_0 l1_0.length c1_0, .int .i64 a1_1, .int .i64 a1_2] 39 (0, 0)) (pk BK149.out)) (below_size (bl HB.out)))
          replace BK148 := am (blk_below (pk BK148.out) hb)
          replace BK149 := am (blk_below (pk BK149.out) hb)
          replace BK150 := am (blk_below (pk BK150.out) hb)
          replace BK163 := am (blk_below (pk BK163.out) hb)
          replace HB := am (below_step (bl HB.out) hb)
          (try clear hb)
          (try clear hb2)
          (try clear hk)
          (try clear hi)
          (try clear ho0)
          refine hK.out _ _ ⟨bc BK148.out 0, bc BK148.out 1, bc BK149.out 0, bc BK149.out 1, bc BK149.out 2⟩ (fun hHeld => ?_)
          clear hK K
          refine norm_ (a' := ?_) ?_ ?_
          rotate_left
          ·show Act.put _ (some 27) _ = _
           simp only [Act.put, sa_, s0_, ss_, i64_w, i32_w]
           rfl
          refine one_ (i := 9) (N := some 31) b15_2 rfl rfl (one_of HT_.out (by kernel_rfl)) (by decide) (fun K hK => ?_)
          refine gs_ Try.func61 #[.slice A0_1 l0_1.length c0_1, .agg #[.slice A1_0 l1_0.length c1_0, .int .i64 a1_1, .int .i64 a1_2]] ?_
          with_reducible refine (spec_l05Put.calls kj2 _ _ l0_1 _ _ l1_0 a1_1 a1_2 t160 _ ?side1 ?side2 ?side3 ?side4 A35.out).mono ?_
          (case side1 => repeat (first | exact (Kd.C_below HR0_1.out HB.out) | (with_reducible refine Kd.C_alloc ?_ _) | (with_reducible refine Kd.C_drewN ?_ _) | (with_reducible refine Kd.C_drew ?_)))
          (case side2 => exact HC0_1.out)
          (case side3 => repeat (first | exact (Kd.C_below HR1_0.out HB.out) | (with_reducible refine Kd.C_alloc ?_ _) | (with_reducible refine Kd.C_drewN ?_ _) | (with_reducible refine Kd.C_drew ?_)))
          (case side4 => exact HC1_0.out)
          rintro e w45 ⟨v161, rfl, ho0, hb⟩
          refine ⟨_, rfl, ?_⟩
          have HO162 := am (Kd.T_lower (Kd.T_newB (Kd.T_new' ho0 (Kd.S_lt (ks HO159.out))) (g := gb149) (o := .cells #[.slice A1_0 l1_0.length c1_0, .int .i64 a1_1, .int .i64 a1_2] 39 (0, 0)) (pk BK149.out)) (below_size (bl HB.out)))
          replace HO159 := am (Kd.S_elder' (ks HO159.out) (Kd.T_base ho0) hb)
          replace BK148 := am (blk_below (pk BK148.out) hb)
          replace BK149 := am (blk_below (pk BK149.out) hb)
          replace BK150 := am (blk_below (pk BK150.out) hb)
          replace BK163 := am (blk_below (pk BK163.out) hb)
          replace HB := am (below_step (bl HB.out) hb)
          (try clear hb)
          (try clear hb2)
          (try clear hk)
          (try clear hi)
          (try clear ho0)
          obtain ⟨Ao46, co46, eo46, _⟩ := Kd.T_slice HO162.out
          (first | subst eo46 | (injection eo46 with f1_ f2_ f3_; have f4_ := f1_.symm; have f5_ := f3_.symm; clear f1_ f2_ f3_; subst f4_; subst f5_))
          obtain ⟨Ao47, co47, eo47⟩ := Kd.S_slice HO159.out
          (first | subst eo47 | (injection eo47 with f1_ f2_ f3_; have f4_ := f1_.symm; have f5_ := f3_.symm; clear f1_ f2_ f3_; subst f4_; subst f5_))
          refine hK.out _ _ ⟨bc BK148.out 0, bc BK148.out 1, bc BK149.out 0, bc BK149.out 1, bc BK149.out 2⟩ (fun hHeld => ?_)
          clear hK K
          refine norm_ (a' := ?_) ?_ ?_
          rotate_left
          ·show Act.put _ (some 31) _ = _
           simp only [Act.put, sa_, s0_, ss_, i64_w, i32_w]
           rfl
          refine pu_ 10 (some 32) ?_ b15_0 rfl rfl HT_.out (by kernel_rfl) (fun _ _ _ h => h) (Or.inl ⟨by rfl, ?_⟩) ?_ ?_ ?_; rotate_left
          ·intro w'; go_simp; with_reducible rfl
          rotate_left
          ·simp only [Act.put, sa_, s0_, ss_, i64_w, i32_w]; rfl
          exact norm_ (by simp only [putAll, Act.put, sa_, s0_, ss_]) (hCont (.slice Ao47 t157.length co47, .slice Ao46 t160.length co46, gb163) _ ⟨hHeld, (ks (Kd.S_mono HO159.out (fun _ hk => ⟨hk.2, hk.1.2⟩))), (by (with_reducible repeat (first | apply Kd.T_alloc | apply Kd.T_drewN | apply Kd.T_drew)); exact Kd.T_mono HO162.out (fun _ hk => ⟨hk.1.2, hk.2⟩)), (pk BK148.out), (pk BK149.out), (pk BK150.out), (pk BK163.out), GW163.out, GE163.out, NB148_163.out, NB163_148.out, NB149_163.out, NB163_149.out, NB150_163.out, NB163_150.out, (bl HB.out)⟩)
        rintro ⟨v158, v161, gb163⟩ w48 ⟨hS_, h0_, h1_, h2_, h3_, h4_, h5_, h6_, h7_, h8_, h9_, h10_, h11_, h12_, h13_, h14_⟩
        have HO159 : Aside0 (Kd.S k39 39 w48 w.heap.size (fun k_ => some k_ ≠ (v161 : Value).ownBlock ∧ k_ ≠ gb149) v158 t157) := ⟨h0_⟩
        have HO162 : Aside0 (Kd.T k39 39 w48 w.heap.size (fun k_ => some k_ ≠ (v158 : Value).ownBlock ∧ k_ ≠ gb149) v161 t160) := ⟨h1_⟩
        replace BK148 : Aside0 (w48.heap[gb148]? = some (.cells #[.slice A0_0 l0_0.length c0_0, .slice A0_1 l0_1.length c0_1] 36 (0, 0))) := ⟨h2_⟩
        replace BK149 : Aside0 (w48.heap[gb149]? = some (.cells #[.slice A1_0 l1_0.length c1_0, .int .i64 a1_1, .int .i64 a1_2] 39 (0, 0))) := ⟨h3_⟩
        replace BK150 : Aside0 (w48.heap[gb150]? = some (.cells #[.slice none 0 0, .slice none 0 0, .slice none 0 0, .int .i64 0, .int .i64 0, .int .i64 0] 43 (0, 0))) := ⟨h4_⟩
        have BK163 : Aside0 (w48.heap[gb163]? = some (.cells #[.slice none 0 0, .slice none 0 0] 36 (0, 0))) := ⟨h5_⟩
        have GW163 : Aside0 (w.heap.size ≤ gb163) := ⟨h6_⟩
        have GE163 : Aside0 (w.heap.size ≤ gb163) := ⟨h7_⟩
        have NB148_163 : Aside0 (gb148 ≠ gb163) := ⟨h8_⟩
        have NB163_148 : Aside0 (gb163 ≠ gb148) := ⟨h9_⟩
        have NB149_163 : Aside0 (gb149 ≠ gb163) := ⟨h10_⟩
        have NB163_149 : Aside0 (gb163 ≠ gb149) := ⟨h11_⟩
        have NB150_163 : Aside0 (gb150 ≠ gb163) := ⟨h12_⟩
        have NB163_150 : Aside0 (gb163 ≠ gb150) := ⟨h13_⟩
        replace HB : Aside0 (Below w.heap.size w w48) := ⟨h14_⟩
        clear h0_ h1_ h2_ h3_ h4_ h5_ h6_ h7_ h8_ h9_ h10_ h11_ h12_ h13_ h14_
        have hHeld : w48.cell? ⟨gb148, 0, none⟩ = some (.slice A0_0 l0_0.length c0_0) ∧ w48.cell? ⟨gb148, 1, none⟩ = some (.slice A0_1 l0_1.length c0_1) ∧ w48.cell? ⟨gb149, 0, none⟩ = some (.slice A1_0 l1_0.length c1_0) ∧ w48.cell? ⟨gb149, 1, none⟩ = some (.int .i64 a1_1) ∧ w48.cell? ⟨gb149, 2, none⟩ = some (.int .i64 a1_2) := hS_
        obtain ⟨Ao49, co49, eo49, _⟩ := Kd.T_slice HO162.out
        (first | subst eo49 | (injection eo49 with f1_ f2_ f3_; have f4_ := f1_.symm; have f5_ := f3_.symm; clear f1_ f2_ f3_; subst f4_; subst f5_))
        obtain ⟨Ao50, co50, eo50⟩ := Kd.S_slice HO159.out
        (first | subst eo50 | (injection eo50 with f1_ f2_ f3_; have f4_ := f1_.symm; have f5_ := f3_.symm; clear f1_ f2_ f3_; subst f4_; subst f5_))
        refine norm_ (a' := ?_) ?_ ?_
        rotate_left
        ·simp only [putAll, Act.put, sa_, s0_, ss_]
         rfl
        refine one_ (i := 12) (N := none) #[true, true, true, true, true, true, true, true, true, true, true, true, true] rfl rfl (one_of HT_.out (by kernel_rfl)) (by decide) (fun K hK => ?_)
        have hs51 : w48.cell? ⟨gb163, 0, none⟩ = some (.slice none 0 0) := bc BK163.out 0
        have hfs51 := blk_frozen BK163.out 0
        have hns51_0 := NB148_163.out
        have hns51_1 := NB149_163.out
        have hns51_2 := NB150_163.out
        have hms51_0 := NB163_148.out
        have hms51_1 := NB163_149.out
        have hms51_2 := NB163_150.out
        have hs52 : w48.cell? ⟨gb163, 1, none⟩ = some (.slice none 0 0) := bc BK163.out 1
        have hfs52 := blk_frozen BK163.out 1
        refine skip_ (w1 := ?_) (by rfl) rfl ?_ ?_
        rotate_left
        ·go_simp
         rfl
        refine hK.out _ _ ⟨((cell_far (p := ⟨gb163, _, none⟩) NB148_163.out _).trans (((cell_far (p := ⟨gb163, _, none⟩) NB148_163.out _).trans (hHeld.1)))), ((cell_far (p := ⟨gb163, _, none⟩) NB148_163.out _).trans (((cell_far (p := ⟨gb163, _, none⟩) NB148_163.out _).trans (hHeld.2.1)))), ((cell_far (p := ⟨gb163, _, none⟩) NB149_163.out _).trans (((cell_far (p := ⟨gb163, _, none⟩) NB149_163.out _).trans (hHeld.2.2.1)))), ((cell_far (p := ⟨gb163, _, none⟩) NB149_163.out _).trans (((cell_far (p := ⟨gb163, _, none⟩) NB149_163.out _).trans (hHeld.2.2.2.1)))), ((cell_far (p := ⟨gb163, _, none⟩) NB149_163.out _).trans (((cell_far (p := ⟨gb163, _, none⟩) NB149_163.out _).trans (hHeld.2.2.2.2))))⟩ (fun hHeld => ?_)
        clear hK K
        refine done_ (done_of HT_.out (by kernel_rfl)) ?_
        try go_wp2
        have n0_ : Aside0 (Kd.S k39 39 ((w48.setCell ⟨gb163, 0, none⟩ (.slice Ao50 t157.length co50)).setCell ⟨gb163, 1, none⟩ (.slice Ao49 t160.length co49)) w.heap.size (fun k_ => some k_ ≠ (.slice Ao49 t160.length co49 : Value).ownBlock ∧ k_ ≠ gb149) (.slice Ao50 t157.length co50) t157) := ⟨ks (Kd.S_mono (Kd.S_far (p := ⟨gb163, 1, none⟩) (Kd.S_far (p := ⟨gb163, 0, none⟩) (Kd.S_types HO159.out BK163.out (by decide)) (fun _ hk => hk.2) (.slice Ao50 t157.length co50)) (fun _ hk => hk.2) (.slice Ao49 t160.length co49)) (fun _ hk => ⟨hk.1.1, hk.1.2⟩))⟩
        have n1_ : Aside0 (Kd.T k39 39 ((w48.setCell ⟨gb163, 0, none⟩ (.slice Ao50 t157.length co50)).setCell ⟨gb163, 1, none⟩ (.slice Ao49 t160.length co49)) w.heap.size (fun k_ => some k_ ≠ (.slice Ao50 t157.length co50 : Value).ownBlock ∧ k_ ≠ gb149) (.slice Ao49 t160.length co49) t160) := ⟨by (with_reducible repeat (first | apply Kd.T_alloc | apply Kd.T_drewN | apply Kd.T_drew)); exact Kd.T_mono (Kd.T_far (p := ⟨gb163, 1, none⟩) (Kd.T_far (p := ⟨gb163, 0, none⟩) (Kd.T_types HO162.out BK163.out (by decide)) (fun _ hk => hk.2) (.slice Ao50 t157.length co50)) (fun _ hk => hk.2) (.slice Ao49 t160.length co49)) (fun _ hk => ⟨hk.1.1, hk.1.2⟩)⟩
        have n2_ : Aside0 (((w48.setCell ⟨gb163, 0, none⟩ (.slice Ao50 t157.length co50)).setCell ⟨gb163, 1, none⟩ (.slice Ao49 t160.length co49)).heap[gb148]? = some (.cells #[.slice A0_0 l0_0.length c0_0, .slice A0_1 l0_1.length c0_1] 36 (0, 0))) := ⟨by refine pk ?_; refine blk_far ?_ NB148_163.out _; refine pk ?_; refine blk_far ?_ NB148_163.out _; refine pk ?_; exact BK148.out⟩
        have n3_ : Aside0 (((w48.setCell ⟨gb163, 0, none⟩ (.slice Ao50 t157.length co50)).setCell ⟨gb163, 1, none⟩ (.slice Ao49 t160.length co49)).heap[gb149]? = some (.cells #[.slice A1_0 l1_0.length c1_0, .int .i64 a1_1, .int .i64 a1_2] 39 (0, 0))) := ⟨by refine pk ?_; refine blk_far ?_ NB149_163.out _; refine pk ?_; refine blk_far ?_ NB149_163.out _; refine pk ?_; exact BK149.out⟩
        have n4_ : Aside0 (((w48.setCell ⟨gb163, 0, none⟩ (.slice Ao50 t157.length co50)).setCell ⟨gb163, 1, none⟩ (.slice Ao49 t160.length co49)).heap[gb150]? = some (.cells #[.slice none 0 0, .slice none 0 0, .slice none 0 0, .int .i64 0, .int .i64 0, .int .i64 0] 43 (0, 0))) := ⟨by refine pk ?_; refine blk_far ?_ NB150_163.out _; refine pk ?_; refine blk_far ?_ NB150_163.out _; refine pk ?_; exact BK150.out⟩
        have n5_ : Aside0 (((w48.setCell ⟨gb163, 0, none⟩ (.slice Ao50 t157.length co50)).setCell ⟨gb163, 1, none⟩ (.slice Ao49 t160.length co49)).heap[gb163]? = some (.cells #[.slice Ao50 t157.length co50, .slice Ao49 t160.length co49] 36 (0, 0))) := ⟨by refine pk ?_; refine blk_put (cs := #[.slice Ao50 t157.length co50, .slice none 0 0]) ?_ 1 _ rfl; refine pk ?_; refine blk_put (cs := #[.slice none 0 0, .slice none 0 0]) ?_ 0 _ rfl; refine pk ?_; exact BK163.out⟩
        have n6_ : Aside0 (Below w.heap.size w ((w48.setCell ⟨gb163, 0, none⟩ (.slice Ao50 t157.length co50)).setCell ⟨gb163, 1, none⟩ (.slice Ao49 t160.length co49))) := ⟨by repeat (first | (with_reducible first | exact HB.out | apply below_alloc | apply pw_below_drewN | apply below_drew1 | refine below_set ?_ GE148.out | refine below_set ?_ GE149.out | refine below_set ?_ GE150.out | refine below_set ?_ GE163.out) | exact HB.out)⟩
        (try clear HO159)
        (try clear HO162)
        (try clear BK148)
        (try clear BK149)
        (try clear BK150)
        (try clear BK163)
        (try clear HB)
        generalize ((w48.setCell ⟨gb163, 0, none⟩ (.slice Ao50 t157.length co50)).setCell ⟨gb163, 1, none⟩ (.slice Ao49 t160.length co49)) = w53 at n0_ n1_ n2_ n3_ n4_ n5_ n6_ ⊢
        have HO159 := n0_
        have HO162 := n1_
        have BK148 := n2_
        have BK149 := n3_
        have BK150 := n4_
        have BK163 := n5_
        have HB := n6_
        clear n0_ n1_ n2_ n3_ n4_ n5_ n6_
        replace HO159 := am (Kd.S_drew HO159.out)
        replace HO162 := am (Kd.T_drew HO162.out)
        replace BK148 := am (blk_drew BK148.out)
        replace BK149 := am (blk_drew BK149.out)
        replace BK150 := am (blk_drew BK150.out)
        replace BK163 := am (blk_drew BK163.out)
        replace HB := am (below_drew1 HB.out)
        have p164 : 0 ≤ ((ji31) : Int) := of_decide_eq_true (by first | (with_reducible assumption) | assumption)
        have q164 : (ji31) < (l0_0.length : Int) := of_decide_eq_true (by first | (with_reducible assumption) | assumption)
        obtain ⟨ad164, A164_0, c164_0, e164, hx164_0, hx164_1, hx164_2, hl164_0, hi164_0⟩ := at_T39 HR0_0.out (ji31) p164 q164
        have hw164_2 := hx164_2
        have hw164_1 := hx164_1
        have hw164_0 := hx164_0
        cases e164
        have hxw164_0 := hx164_0
        replace hx164_0 := (HB.out.cell (World.block_lt_of_cell? w _ hx164_0)).trans hx164_0
        have hxw164_1 := hx164_1
        replace hx164_1 := (HB.out.cell (World.block_lt_of_cell? w _ hx164_1)).trans hx164_1
        have hxw164_2 := hx164_2
        replace hx164_2 := (HB.out.cell (World.block_lt_of_cell? w _ hx164_2)).trans hx164_2
        have HR164_0 := am hi164_0
        have HC164_0 := am hl164_0
        clear hi164_0 hl164_0
        replace p164 := eq_true p164
        replace q164 := eq_true q164
        refine start_ (n := 10) (S := fun w' => w'.cell? ⟨gb163, 0, none⟩ = some (.slice Ao50 t157.length co50) ∧ w'.cell? ⟨gb163, 1, none⟩ = some (.slice Ao49 t160.length co49) ∧ w'.cell? ⟨gb148, 0, none⟩ = some (.slice (some ad164) l0_0.length c0_0) ∧ w'.cell? ⟨gb148, 1, none⟩ = some (.slice A0_1 l0_1.length c0_1) ∧ w'.cell? (ad164.add (((ji31)).toNat * 3)) = some (.slice A164_0 ((rd_T39 l0_0 (ji31)).f0).length c164_0) ∧ w'.cell? ⟨(ad164.add (((ji31)).toNat * 3)).block, (ad164.add (((ji31)).toNat * 3)).off + 1, none⟩ = some (.int .i64 ((rd_T39 l0_0 (ji31)).f1)) ∧ w'.cell? ⟨(ad164.add (((ji31)).toNat * 3)).block, (ad164.add (((ji31)).toNat * 3)).off + 2, none⟩ = some (.int .i64 ((rd_T39 l0_0 (ji31)).f2))) (ds := []) #[false, false, false, false, false, false, false, false, false, false] (by kernel_rfl) rfl rfl ⟨bc BK163.out 0, bc BK163.out 1, bc BK148.out 0, bc BK148.out 1, ((HB.out.cell (World.block_lt_of_cell? _ _ hw164_0)).trans hw164_0), ((HB.out.cell (World.block_lt_of_cell? _ _ hw164_1)).trans hw164_1), ((HB.out.cell (World.block_lt_of_cell? _ _ hw164_2)).trans hw164_2)⟩ (fun hHeld => ?_); refine with_tabW spec_UndoBack.tab7 spec_UndoBack.bits7 (fun HT_ HW_ => ?_)
        generalize w53.drew = w54 at HO159 HO162 BK148 BK149 BK150 BK163 HB HR164_0 hx164_0 hx164_1 hx164_2 hHeld ⊢
        refine pure_ (i := 1) (N := some 34) (v := ?_) (a' := ?_) #[false, true, false, false, false, false, false, false, false, false] rfl rfl (any_of HT_.out (by kernel_rfl)) (fun _ _ _ h => h) (Or.inl ⟨by rfl, ?_⟩) ?_ ?_; rotate_left
        ·intro w'; go_simp; with_reducible rfl
        rotate_left
        ·simp only [Act.put, sa_, s0_, ss_, i64_w, i32_w]; rfl
        refine pure_ (i := 3) (N := some 36) (v := ?_) (a' := ?_) #[false, true, false, true, false, false, false, false, false, false] rfl rfl (any_of HT_.out (by kernel_rfl)) (fun _ _ _ h => h) (Or.inl ⟨by rfl, ?_⟩) ?_ ?_; rotate_left
        ·intro w'; go_simp; with_reducible rfl
        rotate_left
        ·simp only [Act.put, sa_, s0_, ss_, i64_w, i32_w]; rfl
        refine pure_ (i := 4) (N := some 37) (v := ?_) (a' := ?_) #[false, true, false, true, true, false, false, false, false, false] rfl rfl (any_of HT_.out (by kernel_rfl)) (fun _ _ _ h => h) (Or.inl ⟨by rfl, ?_⟩) ?_ ?_; rotate_left
        ·intro w'; go_simp; with_reducible rfl
        rotate_left
        ·simp only [Act.put, sa_, s0_, ss_, i64_w, i32_w]; rfl
        refine take_ (i := 0) (N := some 33) (v := ?_) (a' := ?_) #[true, true, false, true, true, false, false, false, false, false] rfl rfl (take_ofW HT_.out HW_.out (by kernel_rfl)) (fun _ _ _ h => h) (Or.inl ⟨by rfl, ?_⟩) hHeld ?_ ?_; rotate_left
        ·rintro w' ⟨s0, s1, s2, s3, s4, s5, s6⟩; go_simp; with_reducible rfl
        rotate_left
        ·simp only [Act.put, sa_, s0_, ss_, i64_w, i32_w]; rfl
        refine take_ (i := 2) (N := some 35) (v := ?_) (a' := ?_) #[true, true, true, true, true, false, false, false, false, false] rfl rfl (take_ofW HT_.out HW_.out (by kernel_rfl)) (fun _ _ _ h => h) (Or.inl ⟨by rfl, ?_⟩) hHeld ?_ ?_; rotate_left
        ·rintro w' ⟨s0, s1, s2, s3, s4, s5, s6⟩; go_simp; with_reducible rfl
        rotate_left
        ·simp only [Act.put, sa_, s0_, ss_, i64_w, i32_w]; rfl
        refine pure_ (i := 5) (N := some 38) (v := ?_) (a' := ?_) #[true, true, true, true, true, true, false, false, false, false] rfl rfl (any_of HT_.out (by kernel_rfl)) (fun _ _ _ h => h) (Or.inl ⟨by rfl, ?_⟩) ?_ ?_; rotate_left
        ·intro w'; go_simp; with_reducible rfl
        rotate_left
        ·simp only [Act.put, sa_, s0_, ss_, i64_w, i32_w]; rfl
        refine take_ (i := 6) (N := some 39) (v := ?_) (a' := ?_) #[true, true, true, true, true, true, true, false, false, false] rfl rfl (take_ofW HT_.out HW_.out (by kernel_rfl)) (fun _ _ _ h => h) (Or.inl ⟨by rfl, ?_⟩) hHeld ?_ ?_; rotate_left
        ·rintro w' ⟨s0, s1, s2, s3, s4, s5, s6⟩; go_simp; with_reducible rfl
        rotate_left
        ·simp only [Act.put, sa_, s0_, ss_, i64_w, i32_w]; rfl
        refine one_ (i := 7) (N := some 40) #[true, true, true, true, true, true, true, true, false, false] rfl rfl (one_of HT_.out (by kernel_rfl)) (by decide) (fun K hK => ?_)
        refine goes_ Try.func62 (by kernel_rfl) rfl #[.agg #[.slice A164_0 ((rd_T39 l0_0 (ji31)).f0).length c164_0, .int .i64 ((rd_T39 l0_0 (ji31)).f1), .int .i64 ((rd_T39 l0_0 (ji31)).f2)]] (by rfl) rfl rfl (by (try simp only [List.map_toArray, List.map_cons, List.map_nil]); first | done | (simp only [hji31]; rfl) | rfl | (simp only [List.length_drop, List.length_take]; rfl)) ?_
        with_reducible refine (spec_l02Copy.calls _ _ ((rd_T39 l0_0 (ji31)).f0) ((rd_T39 l0_0 (ji31)).f1) ((rd_T39 l0_0 (ji31)).f2) t165 t168 t169 _ ?side1 ?side2 A37.out).mono ?_
        (case side1 => repeat (first | exact (Kd.C_below HR164_0.out HB.out) | (with_reducible refine Kd.C_alloc ?_ _) | (with_reducible refine Kd.C_drewN ?_ _) | (with_reducible refine Kd.C_drew ?_)))
        (case side2 => exact HC164_0.out)
        rintro e w55 ⟨v166, rfl, ho0, hb⟩
        refine ⟨_, rfl, ?_⟩
        replace HO159 := am (Kd.S_elder' (ks HO159.out) (Kd.R_base ho0) hb)
        replace HO162 := am (Kd.T_elder' (by (with_reducible repeat (first | apply Kd.T_alloc | apply Kd.T_drewN | apply Kd.T_drew)); exact HO162.out) (Kd.R_base ho0) hb)
        have HO167 := am (Kd.R_lower ho0 (below_size (bl HB.out)))
        replace BK148 := am (blk_below (pk BK148.out) hb)
        replace BK149 := am (blk_below (pk BK149.out) hb)
        replace BK150 := am (blk_below (pk BK150.out) hb)
        replace BK163 := am (blk_below (pk BK163.out) hb)
        replace HB := am (below_step (bl HB.out) hb)
        (try clear hb)
        (try clear hb2)
        (try clear hk)
        (try clear hi)
        (try clear ho0)
        obtain ⟨Ao56, co56, eo56⟩ := Kd.R_slice HO167.out
        (first | subst eo56 | (injection eo56 with f1_ f2_ f3_; have f4_ := f1_.symm; have f5_ := f3_.symm; clear f1_ f2_ f3_; subst f4_; subst f5_))
        refine hK.out _ _ ⟨bc BK163.out 0, bc BK163.out 1, bc BK148.out 0, bc BK148.out 1, ((HB.out.cell (World.block_lt_of_cell? _ _ hw164_0)).trans hw164_0), ((HB.out.cell (World.block_lt_of_cell? _ _ hw164_1)).trans hw164_1), ((HB.out.cell (World.block_lt_of_cell? _ _ hw164_2)).trans hw164_2)⟩ (fun hHeld => ?_)
        clear hK K
        refine norm_ (a' := ?_) ?_ ?_
        rotate_left
        ·show Act.put _ (some 40) _ = _
         simp only [Act.put, sa_, s0_, ss_, i64_w, i32_w]
         rfl
        refine pure_ (i := 8) (N := some 41) (v := ?_) (a' := ?_) #[true, true, true, true, true, true, true, true, true, false] rfl rfl (any_of HT_.out (by kernel_rfl)) (fun _ _ _ h => h) (Or.inl ⟨by rfl, ?_⟩) ?_ ?_; rotate_left
        ·intro w'; go_simp; with_reducible rfl
        rotate_left
        ·simp only [Act.put, sa_, s0_, ss_, i64_w, i32_w]; rfl
        refine one_ (i := 9) (N := none) #[true, true, true, true, true, true, true, true, true, true] rfl rfl (one_of HT_.out (by kernel_rfl)) (by decide) (fun K hK => ?_)
        have hs57 : w55.cell? ⟨gb150, 0, none⟩ = some (.slice none 0 0) := bc BK150.out 0
        have hfs57 := blk_frozen BK150.out 0
        have hns57_0 := NB148_150.out
        have hns57_1 := NB149_150.out
        have hns57_3 := NB163_150.out
        have hms57_0 := NB150_148.out
        have hms57_1 := NB150_149.out
        have hms57_3 := NB150_163.out
        have hs58 : w55.cell? ⟨gb150, 1, none⟩ = some (.slice none 0 0) := bc BK150.out 1
        have hfs58 := blk_frozen BK150.out 1
        have hs59 : w55.cell? ⟨gb150, 2, none⟩ = some (.slice none 0 0) := bc BK150.out 2
        have hfs59 := blk_frozen BK150.out 2
        have hs60 : w55.cell? ⟨gb150, 3, none⟩ = some (.int .i64 0) := bc BK150.out 3
        have hfs60 := blk_frozen BK150.out 3
        have hs61 : w55.cell? ⟨gb150, 4, none⟩ = some (.int .i64 0) := bc BK150.out 4
        have hfs61 := blk_frozen BK150.out 4
        have hs62 : w55.cell? ⟨gb150, 5, none⟩ = some (.int .i64 0) := bc BK150.out 5
        have hfs62 := blk_frozen BK150.out 5
        refine skip_ (w1 := ?_) (by rfl) rfl ?_ ?_
        rotate_left
        ·go_simp
         rfl
        refine hK.out _ _ ⟨((cell_far (p := ⟨gb150, _, none⟩) NB163_150.out _).trans (((cell_far (p := ⟨gb150, _, none⟩) NB163_150.out _).trans (((cell_far (p := ⟨gb150, _, none⟩) NB163_150.out _).trans (((cell_far (p := ⟨gb150, _, none⟩) NB163_150.out _).trans (((cell_far (p := ⟨gb150, _, none⟩) NB163_150.out _).trans (((cell_far (p := ⟨gb150, _, none⟩) NB163_150.out _).trans (hHeld.1)))))))))))), ((cell_far (p := ⟨gb150, _, none⟩) NB163_150.out _).trans (((cell_far (p := ⟨gb150, _, none⟩) NB163_150.out _).trans (((cell_far (p := ⟨gb150, _, none⟩) NB163_150.out _).trans (((cell_far (p := ⟨gb150, _, none⟩) NB163_150.out _).trans (((cell_far (p := ⟨gb150, _, none⟩) NB163_150.out _).trans (((cell_far (p := ⟨gb150, _, none⟩) NB163_150.out _).trans (hHeld.2.1)))))))))))), ((cell_far (p := ⟨gb150, _, none⟩) NB148_150.out _).trans (((cell_far (p := ⟨gb150, _, none⟩) NB148_150.out _).trans (((cell_far (p := ⟨gb150, _, none⟩) NB148_150.out _).trans (((cell_far (p := ⟨gb150, _, none⟩) NB148_150.out _).trans (((cell_far (p := ⟨gb150, _, none⟩) NB148_150.out _).trans (((cell_far (p := ⟨gb150, _, none⟩) NB148_150.out _).trans (hHeld.2.2.1)))))))))))), ((cell_far (p := ⟨gb150, _, none⟩) NB148_150.out _).trans (((cell_far (p := ⟨gb150, _, none⟩) NB148_150.out _).trans (((cell_far (p := ⟨gb150, _, none⟩) NB148_150.out _).trans (((cell_far (p := ⟨gb150, _, none⟩) NB148_150.out _).trans (((cell_far (p := ⟨gb150, _, none⟩) NB148_150.out _).trans (((cell_far (p := ⟨gb150, _, none⟩) NB148_150.out _).trans (hHeld.2.2.2.1)))))))))))), ((cell_far (p := ⟨gb150, _, none⟩) (by first | exact Nat.ne_of_lt (Nat.lt_of_lt_of_le (by have := World.block_lt_of_cell? _ _ hw164_0; first | rwa [add_block] at this | exact this) GW150.out) | (rw [add_block]; exact Nat.ne_of_lt (Nat.lt_of_lt_of_le (by have := World.block_lt_of_cell? _ _ hw164_0; first | rwa [add_block] at this | exact this) GW150.out)) | (show (Addr.add _ _).block ≠ _; rw [add_block]; exact Nat.ne_of_lt (Nat.lt_of_lt_of_le (by have := World.block_lt_of_cell? _ _ hw164_0; first | rwa [add_block] at this | exact this) GW150.out)) | (dsimp only; exact Nat.ne_of_lt (Nat.lt_of_lt_of_le (by have := World.block_lt_of_cell? _ _ hw164_0; first | rwa [add_block] at this | exact this) GW150.out))) _).trans (((cell_far (p := ⟨gb150, _, none⟩) (by first | exact Nat.ne_of_lt (Nat.lt_of_lt_of_le (by have := World.block_lt_of_cell? _ _ hw164_0; first | rwa [add_block] at this | exact this) GW150.out) | (rw [add_block]; exact Nat.ne_of_lt (Nat.lt_of_lt_of_le (by have := World.block_lt_of_cell? _ _ hw164_0; first | rwa [add_block] at this | exact this) GW150.out)) | (show (Addr.add _ _).block ≠ _; rw [add_block]; exact Nat.ne_of_lt (Nat.lt_of_lt_of_le (by have := World.block_lt_of_cell? _ _ hw164_0; first | rwa [add_block] at this | exact this) GW150.out)) | (dsimp only; exact Nat.ne_of_lt (Nat.lt_of_lt_of_le (by have := World.block_lt_of_cell? _ _ hw164_0; first | rwa [add_block] at this | exact this) GW150.out))) _).trans (((cell_far (p := ⟨gb150, _, none⟩) (by first | exact Nat.ne_of_lt (Nat.lt_of_lt_of_le (by have := World.block_lt_of_cell? _ _ hw164_0; first | rwa [add_block] at this | exact this) GW150.out) | (rw [add_block]; exact Nat.ne_of_lt (Nat.lt_of_lt_of_le (by have := World.block_lt_of_cell? _ _ hw164_0; first | rwa [add_block] at this | exact this) GW150.out)) | (show (Addr.add _ _).block ≠ _; rw [add_block]; exact Nat.ne_of_lt (Nat.lt_of_lt_of_le (by have := World.block_lt_of_cell? _ _ hw164_0; first | rwa [add_block] at this | exact this) GW150.out)) | (dsimp only; exact Nat.ne_of_lt (Nat.lt_of_lt_of_le (by have := World.block_lt_of_cell? _ _ hw164_0; first | rwa [add_block] at this | exact this) GW150.out))) _).trans (((cell_far (p := ⟨gb150, _, none⟩) (by first | exact Nat.ne_of_lt (Nat.lt_of_lt_of_le (by have := World.block_lt_of_cell? _ _ hw164_0; first | rwa [add_block] at this | exact this) GW150.out) | (rw [add_block]; exact Nat.ne_of_lt (Nat.lt_of_lt_of_le (by have := World.block_lt_of_cell? _ _ hw164_0; first | rwa [add_block] at this | exact this) GW150.out)) | (show (Addr.add _ _).block ≠ _; rw [add_block]; exact Nat.ne_of_lt (Nat.lt_of_lt_of_le (by have := World.block_lt_of_cell? _ _ hw164_0; first | rwa [add_block] at this | exact this) GW150.out)) | (dsimp only; exact Nat.ne_of_lt (Nat.lt_of_lt_of_le (by have := World.block_lt_of_cell? _ _ hw164_0; first | rwa [add_block] at this | exact this) GW150.out))) _).trans (((cell_far (p := ⟨gb150, _, none⟩) (by first | exact Nat.ne_of_lt (Nat.lt_of_lt_of_le (by have := World.block_lt_of_cell? _ _ hw164_0; first | rwa [add_block] at this | exact this) GW150.out) | (rw [add_block]; exact Nat.ne_of_lt (Nat.lt_of_lt_of_le (by have := World.block_lt_of_cell? _ _ hw164_0; first | rwa [add_block] at this | exact this) GW150.out)) | (show (Addr.add _ _).block ≠ _; rw [add_block]; exact Nat.ne_of_lt (Nat.lt_of_lt_of_le (by have := World.block_lt_of_cell? _ _ hw164_0; first | rwa [add_block] at this | exact this) GW150.out)) | (dsimp only; exact Nat.ne_of_lt (Nat.lt_of_lt_of_le (by have := World.block_lt_of_cell? _ _ hw164_0; first | rwa [add_block] at this | exact this) GW150.out))) _).trans (((cell_far (p := ⟨gb150, _, none⟩) (by first | exact Nat.ne_of_lt (Nat.lt_of_lt_of_le (by have := World.block_lt_of_cell? _ _ hw164_0; first | rwa [add_block] at this | exact this) GW150.out) | (rw [add_block]; exact Nat.ne_of_lt (Nat.lt_of_lt_of_le (by have := World.block_lt_of_cell? _ _ hw164_0; first | rwa [add_block] at this | exact this) GW150.out)) | (show (Addr.add _ _).block ≠ _; rw [add_block]; exact Nat.ne_of_lt (Nat.lt_of_lt_of_le (by have := World.block_lt_of_cell? _ _ hw164_0; first | rwa [add_block] at this | exact this) GW150.out)) | (dsimp only; exact Nat.ne_of_lt (Nat.lt_of_lt_of_le (by have := World.block_lt_of_cell? _ _ hw164_0; first | rwa [add_block] at this | exact this) GW150.out))) _).trans (hHeld.2.2.2.2.1)))))))))))), ((cell_far (p := ⟨gb150, _, none⟩) (by first | exact Nat.ne_of_lt (Nat.lt_of_lt_of_le (by have := World.block_lt_of_cell? _ _ hw164_1; first | rwa [add_block] at this | exact this) GW150.out) | (rw [add_block]; exact Nat.ne_of_lt (Nat.lt_of_lt_of_le (by have := World.block_lt_of_cell? _ _ hw164_1; first | rwa [add_block] at this | exact this) GW150.out)) | (show (Addr.add _ _).block ≠ _; rw [add_block]; exact Nat.ne_of_lt (Nat.lt_of_lt_of_le (by have := World.block_lt_of_cell? _ _ hw164_1; first | rwa [add_block] at this | exact this) GW150.out)) | (dsimp only; exact Nat.ne_of_lt (Nat.lt_of_lt_of_le (by have := World.block_lt_of_cell? _ _ hw164_1; first | rwa [add_block] at this | exact this) GW150.out))) _).trans (((cell_far (p := ⟨gb150, _, none⟩) (by first | exact Nat.ne_of_lt (Nat.lt_of_lt_of_le (by have := World.block_lt_of_cell? _ _ hw164_1; first | rwa [add_block] at this | exact this) GW150.out) | (rw [add_block]; exact Nat.ne_of_lt (Nat.lt_of_lt_of_le (by have := World.block_lt_of_cell? _ _ hw164_1; first | rwa [add_block] at this | exact this) GW150.out)) | (show (Addr.add _ _).block ≠ _; rw [add_block]; exact Nat.ne_of_lt (Nat.lt_of_lt_of_le (by have := World.block_lt_of_cell? _ _ hw164_1; first | rwa [add_block] at this | exact this) GW150.out)) | (dsimp only; exact Nat.ne_of_lt (Nat.lt_of_lt_of_le (by have := World.block_lt_of_cell? _ _ hw164_1; first | rwa [add_block] at this | exact this) GW150.out))) _).trans (((cell_far (p := ⟨gb150, _, none⟩) (by first | exact Nat.ne_of_lt (Nat.lt_of_lt_of_le (by have := World.block_lt_of_cell? _ _ hw164_1; first | rwa [add_block] at this | exact this) GW150.out) | (rw [add_block]; exact Nat.ne_of_lt (Nat.lt_of_lt_of_le (by have := World.block_lt_of_cell? _ _ hw164_1; first | rwa [add_block] at this | exact this) GW150.out)) | (show (Addr.add _ _).block ≠ _; rw [add_block]; exact Nat.ne_of_lt (Nat.lt_of_lt_of_le (by have := World.block_lt_of_cell? _ _ hw164_1; first | rwa [add_block] at this | exact this) GW150.out)) | (dsimp only; exact Nat.ne_of_lt (Nat.lt_of_lt_of_le (by have := World.block_lt_of_cell? _ _ hw164_1; first | rwa [add_block] at this | exact this) GW150.out))) _).trans (((cell_far (p := ⟨gb150, _, none⟩) (by first | exact Nat.ne_of_lt (Nat.lt_of_lt_of_le (by have := World.block_lt_of_cell? _ _ hw164_1; first | rwa [add_block] at this | exact this) GW150.out) | (rw [add_block]; exact Nat.ne_of_lt (Nat.lt_of_lt_of_le (by have := World.block_lt_of_cell? _ _ hw164_1; first | rwa [add_block] at this | exact this) GW150.out)) | (show (Addr.add _ _).block ≠ _; rw [add_block]; exact Nat.ne_of_lt (Nat.lt_of_lt_of_le (by have := World.block_lt_of_cell? _ _ hw164_1; first | rwa [add_block] at this | exact this) GW150.out)) | (dsimp only; exact Nat.ne_of_lt (Nat.lt_of_lt_of_le (by have := World.block_lt_of_cell? _ _ hw164_1; first | rwa [add_block] at this | exact this) GW150.out))) _).trans (((cell_far (p := ⟨gb150, _, none⟩) (by first | exact Nat.ne_of_lt (Nat.lt_of_lt_of_le (by have := World.block_lt_of_cell? _ _ hw164_1; first | rwa [add_block] at this | exact this) GW150.out) | (rw [add_block]; exact Nat.ne_of_lt (Nat.lt_of_lt_of_le (by have := World.block_lt_of_cell? _ _ hw164_1; first | rwa [add_block] at this | exact this) GW150.out)) | (show (Addr.add _ _).block ≠ _; rw [add_block]; exact Nat.ne_of_lt (Nat.lt_of_lt_of_le (by have := World.block_lt_of_cell? _ _ hw164_1; first | rwa [add_block] at this | exact this) GW150.out)) | (dsimp only; exact Nat.ne_of_lt (Nat.lt_of_lt_of_le (by have := World.block_lt_of_cell? _ _ hw164_1; first | rwa [add_block] at this | exact this) GW150.out))) _).trans (((cell_far (p := ⟨gb150, _, none⟩) (by first | exact Nat.ne_of_lt (Nat.lt_of_lt_of_le (by have := World.block_lt_of_cell? _ _ hw164_1; first | rwa [add_block] at this | exact this) GW150.out) | (rw [add_block]; exact Nat.ne_of_lt (Nat.lt_of_lt_of_le (by have := World.block_lt_of_cell? _ _ hw164_1; first | rwa [add_block] at this | exact this) GW150.out)) | (show (Addr.add _ _).block ≠ _; rw [add_block]; exact Nat.ne_of_lt (Nat.lt_of_lt_of_le (by have := World.block_lt_of_cell? _ _ hw164_1; first | rwa [add_block] at this | exact this) GW150.out)) | (dsimp only; exact Nat.ne_of_lt (Nat.lt_of_lt_of_le (by have := World.block_lt_of_cell? _ _ hw164_1; first | rwa [add_block] at this | exact this) GW150.out))) _).trans (hHeld.2.2.2.2.2.1)))))))))))), ((cell_far (p := ⟨gb150, _, none⟩) (by first | exact Nat.ne_of_lt (Nat.lt_of_lt_of_le (by have := World.block_lt_of_cell? _ _ hw164_2; first | rwa [add_block] at this | exact this) GW150.out) | (rw [add_block]; exact Nat.ne_of_lt (Nat.lt_of_lt_of_le (by have := World.block_lt_of_cell? _ _ hw164_2; first | rwa [add_block] at this | exact this) GW150.out)) | (show (Addr.add _ _).block ≠ _; rw [add_block]; exact Nat.ne_of_lt (Nat.lt_of_lt_of_le (by have := World.block_lt_of_cell? _ _ hw164_2; first | rwa [add_block] at this | exact this) GW150.out)) | (dsimp only; exact Nat.ne_of_lt (Nat.lt_of_lt_of_le (by have := World.block_lt_of_cell? _ _ hw164_2; first | rwa [add_block] at this | exact this) GW150.out))) _).trans (((cell_far (p := ⟨gb150, _, none⟩) (by first | exact Nat.ne_of_lt (Nat.lt_of_lt_of_le (by have := World.block_lt_of_cell? _ _ hw164_2; first | rwa [add_block] at this | exact this) GW150.out) | (rw [add_block]; exact Nat.ne_of_lt (Nat.lt_of_lt_of_le (by have := World.block_lt_of_cell? _ _ hw164_2; first | rwa [add_block] at this | exact this) GW150.out)) | (show (Addr.add _ _).block ≠ _; rw [add_block]; exact Nat.ne_of_lt (Nat.lt_of_lt_of_le (by have := World.block_lt_of_cell? _ _ hw164_2; first | rwa [add_block] at this | exact this) GW150.out)) | (dsimp only; exact Nat.ne_of_lt (Nat.lt_of_lt_of_le (by have := World.block_lt_of_cell? _ _ hw164_2; first | rwa [add_block] at this | exact this) GW150.out))) _).trans (((cell_far (p := ⟨gb150, _, none⟩) (by first | exact Nat.ne_of_lt (Nat.lt_of_lt_of_le (by have := World.block_lt_of_cell? _ _ hw164_2; first | rwa [add_block] at this | exact this) GW150.out) | (rw [add_block]; exact Nat.ne_of_lt (Nat.lt_of_lt_of_le (by have := World.block_lt_of_cell? _ _ hw164_2; first | rwa [add_block] at this | exact this) GW150.out)) | (show (Addr.add _ _).block ≠ _; rw [add_block]; exact Nat.ne_of_lt (Nat.lt_of_lt_of_le (by have := World.block_lt_of_cell? _ _ hw164_2; first | rwa [add_block] at this | exact this) GW150.out)) | (dsimp only; exact Nat.ne_of_lt (Nat.lt_of_lt_of_le (by have := World.block_lt_of_cell? _ _ hw164_2; first | rwa [add_block] at this | exact this) GW150.out))) _).trans (((cell_far (p := ⟨gb150, _, none⟩) (by first | exact Nat.ne_of_lt (Nat.lt_of_lt_of_le (by have := World.block_lt_of_cell? _ _ hw164_2; first | rwa [add_block] at this | exact this) GW150.out) | (rw [add_block]; exact Nat.ne_of_lt (Nat.lt_of_lt_of_le (by have := World.block_lt_of_cell? _ _ hw164_2; first | rwa [add_block] at this | exact this) GW150.out)) | (show (Addr.add _ _).block ≠ _; rw [add_block]; exact Nat.ne_of_lt (Nat.lt_of_lt_of_le (by have := World.block_lt_of_cell? _ _ hw164_2; first | rwa [add_block] at this | exact this) GW150.out)) | (dsimp only; exact Nat.ne_of_lt (Nat.lt_of_lt_of_le (by have := World.block_lt_of_cell? _ _ hw164_2; first | rwa [add_block] at this | exact this) GW150.out))) _).trans (((cell_far (p := ⟨gb150, _, none⟩) (by first | exact Nat.ne_of_lt (Nat.lt_of_lt_of_le (by have := World.block_lt_of_cell? _ _ hw164_2; first | rwa [add_block] at this | exact this) GW150.out) | (rw [add_block]; exact Nat.ne_of_lt (Nat.lt_of_lt_of_le (by have := World.block_lt_of_cell? _ _ hw164_2; first | rwa [add_block] at this | exact this) GW150.out)) | (show (Addr.add _ _).block ≠ _; rw [add_block]; exact Nat.ne_of_lt (Nat.lt_of_lt_of_le (by have := World.block_lt_of_cell? _ _ hw164_2; first | rwa [add_block] at this | exact this) GW150.out)) | (dsimp only; exact Nat.ne_of_lt (Nat.lt_of_lt_of_le (by have := World.block_lt_of_cell? _ _ hw164_2; first | rwa [add_block] at this | exact this) GW150.out))) _).trans (((cell_far (p := ⟨gb150, _, none⟩) (by first | exact Nat.ne_of_lt (Nat.lt_of_lt_of_le (by have := World.block_lt_of_cell? _ _ hw164_2; first | rwa [add_block] at this | exact this) GW150.out) | (rw [add_block]; exact Nat.ne_of_lt (Nat.lt_of_lt_of_le (by have := World.block_lt_of_cell? _ _ hw164_2; first | rwa [add_block] at this | exact this) GW150.out)) | (show (Addr.add _ _).block ≠ _; rw [add_block]; exact Nat.ne_of_lt (Nat.lt_of_lt_of_le (by have := World.block_lt_of_cell? _ _ hw164_2; first | rwa [add_block] at this | exact this) GW150.out)) | (dsimp only; exact Nat.ne_of_lt (Nat.lt_of_lt_of_le (by have := World.block_lt_of_cell? _ _ hw164_2; first | rwa [add_block] at this | exact this) GW150.out))) _).trans (hHeld.2.2.2.2.2.2))))))))))))⟩ (fun hHeld => ?_)
        clear hK K
        refine done_ (done_of HT_.out (by kernel_rfl)) ?_
        try go_wp2
        refine bodyPost_ret (results_cell_row rfl _ _ gb150 43 #[.slice Ao50 t157.length co50, .slice Ao49 t160.length co49, .slice Ao56 t165.length co56, .int .i64 t168, .int .i64 t169, .int .i64 0] (0, 0) _ rfl (by refine pk ?_; refine blk_put (cs := #[.slice Ao50 t157.length co50, .slice Ao49 t160.length co49, .slice Ao56 t165.length co56, .int .i64 t168, .int .i64 t169, .int .i64 0]) ?_ 5 _ rfl; refine pk ?_; refine blk_put (cs := #[.slice Ao50 t157.length co50, .slice Ao49 t160.length co49, .slice Ao56 t165.length co56, .int .i64 t168, .int .i64 0, .int .i64 0]) ?_ 4 _ rfl; refine pk ?_; refine blk_put (cs := #[.slice Ao50 t157.length co50, .slice Ao49 t160.length co49, .slice Ao56 t165.length co56, .int .i64 0, .int .i64 0, .int .i64 0]) ?_ 3 _ rfl; refine pk ?_; refine blk_put (cs := #[.slice Ao50 t157.length co50, .slice Ao49 t160.length co49, .slice none 0 0, .int .i64 0, .int .i64 0, .int .i64 0]) ?_ 2 _ rfl; refine pk ?_; refine blk_put (cs := #[.slice Ao50 t157.length co50, .slice none 0 0, .slice none 0 0, .int .i64 0, .int .i64 0, .int .i64 0]) ?_ 1 _ rfl; refine pk ?_; refine blk_put (cs := #[.slice none 0 0, .slice none 0 0, .slice none 0 0, .int .i64 0, .int .i64 0, .int .i64 0]) ?_ 0 _ rfl; refine pk ?_; exact BK150.out) Try.underlying43 rfl (by kernel_rfl)) rfl ?_
        exact ⟨_, _, _, by first | rfl | (simp [errW_none, errW_some] <;> rfl) | (simp only [← hji31]; first | rfl | (simp [errW_none, errW_some] <;> rfl)) | (simp [*, errW_none, errW_some] <;> rfl), ks (Kd.S_mono (Kd.S_far (p := ⟨gb150, 5, none⟩) (Kd.S_far (p := ⟨gb150, 4, none⟩) (Kd.S_far (p := ⟨gb150, 3, none⟩) (Kd.S_far (p := ⟨gb150, 2, none⟩) (Kd.S_far (p := ⟨gb150, 1, none⟩) (Kd.S_far (p := ⟨gb150, 0, none⟩) (Kd.S_types HO159.out BK150.out (by decide)) (fun _ hk => hk.2) (.slice Ao50 t157.length co50)) (fun _ hk => hk.2) (.slice Ao49 t160.length co49)) (fun _ hk => hk.2) (.slice Ao56 t165.length co56)) (fun _ hk => hk.2) (.int .i64 t168)) (fun _ hk => hk.2) (.int .i64 t169)) (fun _ hk => hk.2) (.int .i64 0)) (fun _ hk => ⟨hk.1.1.1, hk.1.2⟩)), by (with_reducible repeat (first | apply Kd.T_alloc | apply Kd.T_drewN | apply Kd.T_drew)); exact Kd.T_mono (Kd.T_far (p := ⟨gb150, 5, none⟩) (Kd.T_far (p := ⟨gb150, 4, none⟩) (Kd.T_far (p := ⟨gb150, 3, none⟩) (Kd.T_far (p := ⟨gb150, 2, none⟩) (Kd.T_far (p := ⟨gb150, 1, none⟩) (Kd.T_far (p := ⟨gb150, 0, none⟩) (Kd.T_types HO162.out BK150.out (by decide)) (fun _ hk => hk.2) (.slice Ao50 t157.length co50)) (fun _ hk => hk.2) (.slice Ao49 t160.length co49)) (fun _ hk => hk.2) (.slice Ao56 t165.length co56)) (fun _ hk => hk.2) (.int .i64 t168)) (fun _ hk => hk.2) (.int .i64 t169)) (fun _ hk => hk.2) (.int .i64 0)) (fun _ hk => ⟨hk.1.1.1, hk.1.2⟩), kr (Kd.R_mono (Kd.R_far (p := ⟨gb150, 5, none⟩) (Kd.R_far (p := ⟨gb150, 4, none⟩) (Kd.R_far (p := ⟨gb150, 3, none⟩) (Kd.R_far (p := ⟨gb150, 2, none⟩) (Kd.R_far (p := ⟨gb150, 1, none⟩) (Kd.R_far (p := ⟨gb150, 0, none⟩) (Kd.R_types HO167.out BK150.out (by decide)) (fun _ hk => hk.2) (.slice Ao50 t157.length co50)) (fun _ hk => hk.2) (.slice Ao49 t160.length co49)) (fun _ hk => hk.2) (.slice Ao56 t165.length co56)) (fun _ hk => hk.2) (.int .i64 t168)) (fun _ hk => hk.2) (.int .i64 t169)) (fun _ hk => hk.2) (.int .i64 0)) (fun _ hk => trivial)), by repeat (first | (with_reducible first | exact HB.out | apply below_alloc | apply pw_below_drewN | apply below_drew1 | refine below_set ?_ GE148.out | refine below_set ?_ GE149.out | refine below_set ?_ GE150.out | refine below_set ?_ GE163.out) | exact HB.out)⟩
       ·rw [if_neg c36] at H
        exact absurd H (by simp)
      ·rw [if_neg c33] at H
       exact absurd H (by simp)
     ·rw [if_neg c32] at H
      exact absurd H (by simp)

end Go.Proofs.Ytfkghjdhimhjjaa.PFnExactUndoBack
