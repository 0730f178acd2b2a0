-- Written by xprint.py (this claim's own program, over the kit's printer); Lean checks it.
import Derived.Test.YtpllahncpjpfmaaPFnExactKeyBindx0
import Derived.Test.YtpllahncpjpfmaaPFnExactKeyBindx6
namespace Go.Proofs.Ytpllahncpjpfmaa.PFnExactKeyBind
open Go.RowKit Go.Proofs.YtpllahncpjpfmaaW.PrintWords Go.Proofs.YtpllahncpjpfmaaW.PrintLast Go.Proofs.YtpllahncpjpfmaaW.PrintMore
attribute [local go_sem] max2_int min2_int max_two min_two max_three min_three max_four min_four   -- for this text's walks alone
set_option linter.unusedVariables false
set_option linter.unusedSimpArgs false   -- squeezed

/-! ### slices_BinarySearchFunc_simpl_Key_impl_Key_impl_Key: function 27 -/
@[reducible] def b27_0 : Array Bool := (br true [0, 8]).toArray
@[reducible] def b27_1 : Array Bool := (br true [1, 7]).toArray
@[reducible] def b27_2 : Array Bool := (br true [2, 6]).toArray
@[reducible] def b27_3 : Array Bool := (br true [3, 5]).toArray
@[reducible] def b27_4 : Array Bool := (br true [4, 4]).toArray
@[reducible] def b27_5 : Array Bool := (br true [5, 3]).toArray
@[reducible] def b27_6 : Array Bool := (br true [6, 2]).toArray
@[reducible] def b27_7 : Array Bool := (br true [7, 1]).toArray
@[reducible] def b27_8 : Array Bool := (br true [8]).toArray
@[reducible] def b27_9 : Array Bool := (br true [0, 16]).toArray
@[reducible] def b27_10 : Array Bool := (br true [1, 15]).toArray
@[reducible] def b27_11 : Array Bool := (br true [2, 14]).toArray
@[reducible] def b27_12 : Array Bool := (br true [3, 13]).toArray
@[reducible] def b27_13 : Array Bool := (br true [4, 12]).toArray
@[reducible] def b27_14 : Array Bool := (br true [5, 11]).toArray
@[reducible] def b27_15 : Array Bool := (br true [6, 10]).toArray
@[reducible] def b27_16 : Array Bool := (br true [7, 9]).toArray
@[reducible] def b27_17 : Array Bool := (br true [8, 8]).toArray
@[reducible] def b27_18 : Array Bool := (br true [9, 7]).toArray
@[reducible] def b27_19 : Array Bool := (br true [10, 6]).toArray
@[reducible] def b27_20 : Array Bool := (br true [11, 5]).toArray
@[reducible] def b27_21 : Array Bool := (br true [12, 4]).toArray
@[reducible] def b27_22 : Array Bool := (br true [13, 3]).toArray
@[reducible] def b27_23 : Array Bool := (br true [14, 2]).toArray
@[reducible] def b27_24 : Array Bool := (br true [15, 1]).toArray
@[reducible] def b27_25 : Array Bool := (br true [16]).toArray
def slices_BinarySearchFunc_simpl_Key_impl_Key_impl_Key.l0 : Nat → List (S34) → Int → Int → Int → Int → ByteArray → ByteArray → Option (Int × Bool)
 | 0, _, _, _, _, _, _, _ => none
 | k + 1, x0, x8, x9, x10, x213000, x213001, x213002 => if x9 < x10 then (if 0 ≤ (wrap64 ((IntKind.u64.wrap (wrap64 (x9 + x10))) / 2)) then (if (wrap64 ((IntKind.u64.wrap (wrap64 (x9 + x10))) / 2)) < (x0.length : Int) then ((impl_compareKeys.f k ((rd_T34 x0 (wrap64 ((IntKind.u64.wrap (wrap64 (x9 + x10))) / 2))).f0) ((rd_T34 x0 (wrap64 ((IntKind.u64.wrap (wrap64 (x9 + x10))) / 2))).f1) ((rd_T34 x0 (wrap64 ((IntKind.u64.wrap (wrap64 (x9 + x10))) / 2))).f2) x213000 x213001 x213002).bind fun t214 => (if t214 < 0 then (slices_BinarySearchFunc_simpl_Key_impl_Key_impl_Key.l0 k x0 x8 (wrap64 ((wrap64 ((IntKind.u64.wrap (wrap64 (x9 + x10))) / 2)) + 1)) x10 x213000 x213001 x213002) else (slices_BinarySearchFunc_simpl_Key_impl_Key_impl_Key.l0 k x0 x8 x9 (wrap64 ((IntKind.u64.wrap (wrap64 (x9 + x10))) / 2)) x213000 x213001 x213002))) else (none)) else (none)) else (if x9 < x8 then (if 0 ≤ x9 then (if x9 < (x0.length : Int) then ((impl_compareKeys.f k ((rd_T34 x0 x9).f0) ((rd_T34 x0 x9).f1) ((rd_T34 x0 x9).f2) x213000 x213001 x213002).bind fun t216 => (some (x9, (t216 == 0)))) else (none)) else (none)) else (some (x9, false)))
def slices_BinarySearchFunc_simpl_Key_impl_Key_impl_Key.f (k : Nat) (l0 : List (S34)) (a1_0 : Int) (a1_1 : ByteArray) (a1_2 : ByteArray)  : Option (Int × Bool) := slices_BinarySearchFunc_simpl_Key_impl_Key_impl_Key.l0 k l0 (l0.length : Int) 0 (l0.length : Int) a1_0 a1_1 a1_2
theorem slices_BinarySearchFunc_simpl_Key_impl_Key_impl_Key.mono_l : ∀ k, (∀ y0 y1 y2 y3 y4 y5 y6, LeO (slices_BinarySearchFunc_simpl_Key_impl_Key_impl_Key.l0 k y0 y1 y2 y3 y4 y5 y6) (slices_BinarySearchFunc_simpl_Key_impl_Key_impl_Key.l0 (k + 1) y0 y1 y2 y3 y4 y5 y6))
 | 0 => fun _ _ _ _ _ _ _ r h => by simp [slices_BinarySearchFunc_simpl_Key_impl_Key_impl_Key.l0] at h
 | k + 1 => by
  have ih0 := slices_BinarySearchFunc_simpl_Key_impl_Key_impl_Key.mono_l k
  ·intro y0 y1 y2 y3 y4 y5 y6
   unfold slices_BinarySearchFunc_simpl_Key_impl_Key_impl_Key.l0
   repeat' first
   | (with_reducible exact ih0 _ _ _ _ _ _ _)
   | (with_reducible exact impl_compareKeys.mono _ _ _ _ _ _ _)
   | (with_reducible exact LeO.refl _)
   | (with_reducible exact LeO.none _)
   | (with_reducible refine LeO.ite ?_ ?_)
   | (with_reducible refine LeO.bind ?_ (fun _ => ?_))
   | exact ih0 _ _ _ _ _ _ _
   | exact impl_compareKeys.mono _ _ _ _ _ _ _
   | refine LeO.bind ?_ (fun _ => ?_)
theorem slices_BinarySearchFunc_simpl_Key_impl_Key_impl_Key.mono : ∀ a0 a1 a2 a3 k, LeO (slices_BinarySearchFunc_simpl_Key_impl_Key_impl_Key.f k a0 a1 a2 a3) (slices_BinarySearchFunc_simpl_Key_impl_Key_impl_Key.f (k + 1) a0 a1 a2 a3) := by
 intro a0 a1 a2 a3 k
 have ih0 := slices_BinarySearchFunc_simpl_Key_impl_Key_impl_Key.mono_l k
 unfold slices_BinarySearchFunc_simpl_Key_impl_Key_impl_Key.f
 repeat' first
   | (with_reducible exact ih0 _ _ _ _ _ _ _)
   | (with_reducible exact impl_compareKeys.mono _ _ _ _ _ _ _)
   | (with_reducible exact LeO.refl _)
   | (with_reducible exact LeO.none _)
   | (with_reducible refine LeO.ite ?_ ?_)
   | (with_reducible refine LeO.bind ?_ (fun _ => ?_))
   | exact ih0 _ _ _ _ _ _ _
   | exact impl_compareKeys.mono _ _ _ _ _ _ _
   | refine LeO.bind ?_ (fun _ => ?_)
def slices_BinarySearchFunc_simpl_Key_impl_Key_impl_Key.T5 : Bool × List (List Nat × List Nat) := (true, [([], []), ([], []), ([], []), ([1, 2], [1, 2]), ([3], [3]), ([], []), ([0, 4, 5], [0, 4, 5]), ([6], [6])])
def slices_BinarySearchFunc_simpl_Key_impl_Key_impl_Key.B5 : List Nat := [0, 0, 0, 6, 14, 0, 63, 127]
theorem slices_BinarySearchFunc_simpl_Key_impl_Key_impl_Key.tab5 : rtab .any (opsOf Try.f27 5) = slices_BinarySearchFunc_simpl_Key_impl_Key_impl_Key.T5 := by kernel_rfl
theorem slices_BinarySearchFunc_simpl_Key_impl_Key_impl_Key.bits5 : waitsOk slices_BinarySearchFunc_simpl_Key_impl_Key_impl_Key.T5.2 slices_BinarySearchFunc_simpl_Key_impl_Key_impl_Key.B5 = true := by kernel_rfl
def slices_BinarySearchFunc_simpl_Key_impl_Key_impl_Key.T8 : Bool × List (List Nat × List Nat) := (true, [([], []), ([], []), ([], []), ([1, 2], [1, 2]), ([3], [3]), ([4], [4]), ([4], [4]), ([4], [4]), ([6, 7, 4], [4, 6, 7]), ([8, 4], [4, 8]), ([4], [4]), ([5, 9, 10, 4, 4], [4, 5, 9, 10]), ([11, 4], [4, 11]), ([4, 12], [4, 12]), ([0, 11, 0], [0]), ([13, 14, 0, 1, 2, 3, 4, 5, 6, 7, 8, 9, 10, 11, 12, 13, 14], [13])])
def slices_BinarySearchFunc_simpl_Key_impl_Key_impl_Key.B8 : List Nat := [0, 0, 0, 6, 14, 30, 30, 30, 222, 478, 30, 2046, 4094, 8190, 4095, 32767]
theorem slices_BinarySearchFunc_simpl_Key_impl_Key_impl_Key.tab8 : rtab .any (opsOf Try.f27 8) = slices_BinarySearchFunc_simpl_Key_impl_Key_impl_Key.T8 := by kernel_rfl
theorem slices_BinarySearchFunc_simpl_Key_impl_Key_impl_Key.bits8 : waitsOk slices_BinarySearchFunc_simpl_Key_impl_Key_impl_Key.T8.2 slices_BinarySearchFunc_simpl_Key_impl_Key_impl_Key.B8 = true := by kernel_rfl
set_option maxHeartbeats 8000000 in
set_option maxRecDepth 100000 in
theorem slices_BinarySearchFunc_simpl_Key_impl_Key_impl_Key.calls (k : Nat) (A0 : Option Addr) (c0 : Nat) (l0 : List (S34)) (a1_0 : Int) (a1_1 : ByteArray) (a1_2 : ByteArray)  (r1 : Int) (r2 : Bool) (w : World) (hr0 : Kd.C k34 w A0 l0.length l0) (hc0 : l0.length ≤ c0) (h : slices_BinarySearchFunc_simpl_Key_impl_Key_impl_Key.f k l0 a1_0 a1_1 a1_2 = some (r1, r2)) :
  Calls Try.prog 27 #[.slice A0 l0.length c0, .agg #[.int .i64 a1_0, .string a1_1, .string a1_2], .func (.func 28) #[] #[]] w fun e w' => e = .returned (.tuple #[.int .i64 r1, .bool r2]) ∧ Below w.heap.size w w' := by
 have hu34 := Try.underlying34
 have HR0 := am hr0
 have HC0 := am hc0
 clear hr0 hc0
 have HB := am (Below.refl w.heap.size w)
 have H : (slices_BinarySearchFunc_simpl_Key_impl_Key_impl_Key.l0 k l0 (l0.length : Int) 0 (l0.length : Int) a1_0 a1_1 a1_2) = some (r1, r2) := h
 clear h
 have H' := Aside0.mk H
 clear H
 go_enter Try.func27, Try.ntmps27
 go_wp2_with (first | ((with_reducible refine gate_dst (N := 4) rfl ?_); refine box_event ?hg (N := 4) ?hd (cs := #[.int .i64 a1_0, .string a1_1, .string a1_2]) (t := 34) ?hr ?_; (case hd => rfl); (case hg => rfl); (case hr => first | (go_simp; done) | (go_simp; rfl)); intro gb212 hg w4 hbox hb; have BK212 := am (hbox); have GW212 := am ((by rw [hg]; exact (below_size (bl HB.out)) : w.heap.size ≤ gb212)); have GE212 := GW212; replace HB := am (below_step (bl HB.out) hb); clear hb hbox hg))
 go_loopg [9, 10] k (fun kq v9 v10 w' => ∃ (x9_1 : Int) (x10_1 : Int), v9 = .int .i64 x9_1 ∧ v10 = .int .i64 x10_1 ∧ Aside0 (slices_BinarySearchFunc_simpl_Key_impl_Key_impl_Key.l0 kq l0 (l0.length : Int) x9_1 x10_1 a1_0 a1_1 a1_2 = some (r1, r2)) ∧ Aside0 (kq ≤ k) ∧ Aside0 (w'.heap[gb212]? = some (.cells #[.int .i64 a1_0, .string a1_1, .string a1_2] 34 (0, 0))) ∧ Aside0 (Below w.heap.size w w'))
 case atStart => exact ⟨(0), ((l0.length : Int)), (by first | rfl | (simp; done) | (simp [*]; done)), (by first | rfl | (simp; done) | (simp [*]; done)), H', ⟨Nat.le_refl _⟩, ⟨pk BK212.out⟩, ⟨by repeat (first | (with_reducible first | exact HB.out | apply below_alloc | apply pw_below_drewN | apply below_drew1 | refine below_set ?_ GE212.out) | exact HB.out)⟩⟩
 case round =>
  clear H'
  try clear c2
  try clear p2
  obtain ⟨x9_1, x10_1, rfl, rfl, HA, HK1, BK212, HB⟩ := hrel
  cases gk with
  | zero => exact absurd HA.out (by simp [slices_BinarySearchFunc_simpl_Key_impl_Key_impl_Key.l0])
  | succ k1 =>
   have H := HA.out
   clear HA
   simp only [slices_BinarySearchFunc_simpl_Key_impl_Key_impl_Key.l0] at H
   by_cases c5 : x9_1 < x10_1
   ·rw [if_pos c5] at H
    have c5b0 : decide (x9_1 < x10_1) = true := decide_eq_true c5
    clear c5
    obtain ⟨ji6, hji6⟩ : ∃ j_ : Int, (wrap64 ((IntKind.u64.wrap (wrap64 (x9_1 + x10_1))) / 2)) = j_ := ⟨_, rfl⟩
    replace H : (if 0 ≤ (ji6) then (if (ji6) < (l0.length : Int) then ((impl_compareKeys.f k1 ((rd_T34 l0 (ji6)).f0) ((rd_T34 l0 (ji6)).f1) ((rd_T34 l0 (ji6)).f2) a1_0 a1_1 a1_2).bind fun t214 => (if t214 < 0 then (slices_BinarySearchFunc_simpl_Key_impl_Key_impl_Key.l0 k1 l0 (l0.length : Int) (wrap64 ((ji6) + 1)) x10_1 a1_0 a1_1 a1_2) else (slices_BinarySearchFunc_simpl_Key_impl_Key_impl_Key.l0 k1 l0 (l0.length : Int) x9_1 ji6 a1_0 a1_1 a1_2))) else (none)) else (none)) = some (r1, r2) := by first | (rw [hji6] at H; exact H) | (simp only [hji6] at H ⊢; exact H)
    have hji6w : (IntKind.i64.wrap ((IntKind.u64.wrap (wrap64 (x9_1 + x10_1))) / 2)) = ji6 := (i64_w _).trans hji6
    by_cases c7 : 0 ≤ (ji6)
    ·rw [if_pos c7] at H
     have c7b0 : decide (0 ≤ (ji6)) = true := decide_eq_true c7
     clear c7
     by_cases c8 : (ji6) < (l0.length : Int)
     ·rw [if_pos c8] at H
      have c8b0 : decide ((ji6) < (l0.length : Int)) = true := decide_eq_true c8
      clear c8
      replace H := Option.bind_eq_some_iff.mp H
      obtain ⟨t214, A90, H⟩ := H
      replace H : (if t214 < 0 then (slices_BinarySearchFunc_simpl_Key_impl_Key_impl_Key.l0 k1 l0 (l0.length : Int) (wrap64 ((ji6) + 1)) x10_1 a1_0 a1_1 a1_2) else (slices_BinarySearchFunc_simpl_Key_impl_Key_impl_Key.l0 k1 l0 (l0.length : Int) x9_1 ji6 a1_0 a1_1 a1_2)) = some (r1, r2) := H
      have A9 := Aside0.mk A90
      clear A90
      by_cases c10 : t214 < 0
      ·rw [if_pos c10] at H
       have c10b0 : decide (t214 < 0) = true := decide_eq_true c10
       clear c10
       have H' := Aside0.mk H
       clear H
       try go_wp2
       replace BK212 := am (blk_drew BK212.out)
       replace HB := am (below_drew1 HB.out)
       have p213 : 0 ≤ ((ji6) : Int) := of_decide_eq_true (by first | (with_reducible assumption) | assumption)
       have q213 : (ji6) < (l0.length : Int) := of_decide_eq_true (by first | (with_reducible assumption) | assumption)
       obtain ⟨ad213, e213, hx213_0, hx213_1, hx213_2⟩ := at_T34 HR0.out (ji6) p213 q213
       have hw213_2 := hx213_2
       have hw213_1 := hx213_1
       have hw213_0 := hx213_0
       cases e213
       replace hx213_0 := (HB.out.cell (World.block_lt_of_cell? w _ hx213_0)).trans hx213_0
       replace hx213_1 := (HB.out.cell (World.block_lt_of_cell? w _ hx213_1)).trans hx213_1
       replace hx213_2 := (HB.out.cell (World.block_lt_of_cell? w _ hx213_2)).trans hx213_2
       replace p213 := eq_true p213
       replace q213 := eq_true q213
       refine start_ (n := 8) (S := fun w' => w'.cell? ⟨gb212, 0, none⟩ = some (.int .i64 a1_0) ∧ w'.cell? ⟨gb212, 1, none⟩ = some (.string a1_1) ∧ w'.cell? ⟨gb212, 2, none⟩ = some (.string a1_2) ∧ w'.cell? (ad213.add (((ji6)).toNat * 3)) = some (.int .i64 ((rd_T34 l0 (ji6)).f0)) ∧ w'.cell? ⟨(ad213.add (((ji6)).toNat * 3)).block, (ad213.add (((ji6)).toNat * 3)).off + 1, none⟩ = some (.string ((rd_T34 l0 (ji6)).f1)) ∧ w'.cell? ⟨(ad213.add (((ji6)).toNat * 3)).block, (ad213.add (((ji6)).toNat * 3)).off + 2, none⟩ = some (.string ((rd_T34 l0 (ji6)).f2))) (ds := []) b27_0 (by kernel_rfl) rfl rfl ⟨bc BK212.out 0, bc BK212.out 1, bc BK212.out 2, ((HB.out.cell (World.block_lt_of_cell? _ _ hw213_0)).trans hw213_0), ((HB.out.cell (World.block_lt_of_cell? _ _ hw213_1)).trans hw213_1), ((HB.out.cell (World.block_lt_of_cell? _ _ hw213_2)).trans hw213_2)⟩ (fun hHeld => ?_); refine with_tabW slices_BinarySearchFunc_simpl_Key_impl_Key_impl_Key.tab5 slices_BinarySearchFunc_simpl_Key_impl_Key_impl_Key.bits5 (fun HT_ HW_ => ?_)
       generalize wr.drew = w11 at BK212 HB hx213_0 hx213_1 hx213_2 hHeld ⊢
       refine pu_ 0 (some 24) ?_ b27_1 rfl rfl HT_.out (by kernel_rfl) (fun _ _ _ h => h) (Or.inl ⟨by rfl, ?_⟩) ?_ ?_ ?_; rotate_left
       ·intro w'; go_simp; with_reducible rfl
       rotate_left
       ·simp only [Act.put, sa_, s0_, ss_, i64_w, i32_w]; rfl
       refine pu_ 1 (some 25) ?_ b27_2 rfl rfl HT_.out (by kernel_rfl) (fun _ _ _ h => h) (Or.inl ⟨by rfl, ?_⟩) ?_ ?_ ?_; rotate_left
       ·intro w'; go_simp; with_reducible rfl
       rotate_left
       ·simp only [Act.put, sa_, s0_, ss_, i64_w, i32_w]; rfl
       refine pu_ 2 (some 26) ?_ b27_3 rfl rfl HT_.out (by kernel_rfl) (fun _ _ _ h => h) (Or.inl ⟨by rfl, ?_⟩) ?_ ?_ ?_; rotate_left
       ·intro w'; go_simp; with_reducible rfl
       rotate_left
       ·simp only [Act.put, sa_, s0_, ss_, i64_w, i32_w]; rfl
       refine pu_ 3 (some 27) ?_ b27_4 rfl rfl HT_.out (by kernel_rfl) (fun _ _ _ h => h) (Or.inl ⟨by rfl, ?_⟩) ?_ ?_ ?_; rotate_left
       ·intro w'; go_simp; with_reducible rfl
       rotate_left
       ·simp only [Act.put, sa_, s0_, ss_, i64_w, i32_w]; rfl
       refine tk_ 4 (some 28) ?_ b27_5 rfl rfl HT_.out HW_.out (by kernel_rfl) (fun _ _ _ h => h) (Or.inl ⟨by rfl, ?_⟩) hHeld ?_ ?_ ?_; rotate_left
       ·rintro w' ⟨s0, s1, s2, s3, s4, s5⟩; go_simp; with_reducible rfl
       rotate_left
       ·simp only [Act.put, sa_, s0_, ss_, i64_w, i32_w]; rfl
       refine tk_ 5 (some 29) ?_ b27_6 rfl rfl HT_.out HW_.out (by kernel_rfl) (fun _ _ _ h => h) (Or.inl ⟨by rfl, ?_⟩) hHeld ?_ ?_ ?_; rotate_left
       ·rintro w' ⟨s0, s1, s2, s3, s4, s5⟩; go_simp; with_reducible rfl
       rotate_left
       ·simp only [Act.put, sa_, s0_, ss_, i64_w, i32_w]; rfl
       refine one_ (i := 6) (N := some 30) b27_7 rfl rfl (one_of HT_.out (by kernel_rfl)) (by decide) (fun K hK => ?_)
       refine goesC_ Try.func28 (by kernel_rfl) rfl #[.agg #[.int .i64 ((rd_T34 l0 (ji6)).f0), .string ((rd_T34 l0 (ji6)).f1), .string ((rd_T34 l0 (ji6)).f2)], .agg #[.int .i64 a1_0, .string a1_1, .string a1_2]] (by rfl) rfl rfl rfl (by (try simp only [Array.append_empty, List.map_toArray, List.map_cons, List.map_nil]); first | done | (simp only [hji6]; rfl) | rfl | (simp only [List.length_drop, List.length_take]; rfl)) ?_
       with_reducible refine (impl_compareKeys.calls k1 ((rd_T34 l0 (ji6)).f0) ((rd_T34 l0 (ji6)).f1) ((rd_T34 l0 (ji6)).f2) a1_0 a1_1 a1_2 t214 _ A9.out).mono ?_
       rintro e w12 ⟨rfl, hb⟩
       refine ⟨_, rfl, ?_⟩
       replace BK212 := am (blk_below (pk BK212.out) hb)
       replace HB := am (below_step (bl HB.out) hb)
       (try clear hb)
       (try clear hb2)
       (try clear hk)
       (try clear hi)
       refine hK.out _ _ ⟨bc BK212.out 0, bc BK212.out 1, bc BK212.out 2, ((HB.out.cell (World.block_lt_of_cell? _ _ hw213_0)).trans hw213_0), ((HB.out.cell (World.block_lt_of_cell? _ _ hw213_1)).trans hw213_1), ((HB.out.cell (World.block_lt_of_cell? _ _ hw213_2)).trans hw213_2)⟩ (fun hHeld => ?_)
       clear hK K
       refine norm_ (a' := ?_) ?_ ?_
       rotate_left
       ·show Act.put _ (some 30) _ = _
        simp only [Act.put, sa_, s0_, ss_, i64_w, i32_w]
        rfl
       refine pu_ 7 (some 31) ?_ b27_8 rfl rfl HT_.out (by kernel_rfl) (fun _ _ _ h => h) (Or.inl ⟨by rfl, ?_⟩) ?_ ?_ ?_; rotate_left
       ·intro w'; go_simp; with_reducible rfl
       rotate_left
       ·simp only [Act.put, sa_, s0_, ss_, i64_w, i32_w]; rfl
       refine done_ (done_of HT_.out (by kernel_rfl)) ?_
       try go_wp2
       go_roundg k1
       case measure => have := HK1.out; omega
       case rel => exact ⟨(wrap64 ((ji6) + 1)), (x10_1), (by first | rfl | (simp; done) | (simp only [← hji6] <;> (first | rfl | simp)) | (simp [*]; done)), (by first | rfl | (simp; done) | (simp [*]; done)), H', ⟨by have := HK1.out; omega⟩, ⟨pk BK212.out⟩, ⟨by repeat (first | (with_reducible first | exact HB.out | apply below_alloc | apply pw_below_drewN | apply below_drew1 | refine below_set ?_ GE212.out) | exact HB.out)⟩⟩
      ·rw [if_neg c10] at H
       have c10b0 : decide (t214 < 0) = false := decide_eq_false c10
       clear c10
       have H' := Aside0.mk H
       clear H
       try go_wp2
       replace BK212 := am (blk_drew BK212.out)
       replace HB := am (below_drew1 HB.out)
       have p213 : 0 ≤ ((ji6) : Int) := of_decide_eq_true (by first | (with_reducible assumption) | assumption)
       have q213 : (ji6) < (l0.length : Int) := of_decide_eq_true (by first | (with_reducible assumption) | assumption)
       obtain ⟨ad213, e213, hx213_0, hx213_1, hx213_2⟩ := at_T34 HR0.out (ji6) p213 q213
       have hw213_2 := hx213_2
       have hw213_1 := hx213_1
       have hw213_0 := hx213_0
       cases e213
       replace hx213_0 := (HB.out.cell (World.block_lt_of_cell? w _ hx213_0)).trans hx213_0
       replace hx213_1 := (HB.out.cell (World.block_lt_of_cell? w _ hx213_1)).trans hx213_1
       replace hx213_2 := (HB.out.cell (World.block_lt_of_cell? w _ hx213_2)).trans hx213_2
       replace p213 := eq_true p213
       replace q213 := eq_true q213
       refine start_ (n := 8) (S := fun w' => w'.cell? ⟨gb212, 0, none⟩ = some (.int .i64 a1_0) ∧ w'.cell? ⟨gb212, 1, none⟩ = some (.string a1_1) ∧ w'.cell? ⟨gb212, 2, none⟩ = some (.string a1_2) ∧ w'.cell? (ad213.add (((ji6)).toNat * 3)) = some (.int .i64 ((rd_T34 l0 (ji6)).f0)) ∧ w'.cell? ⟨(ad213.add (((ji6)).toNat * 3)).block, (ad213.add (((ji6)).toNat * 3)).off + 1, none⟩ = some (.string ((rd_T34 l0 (ji6)).f1)) ∧ w'.cell? ⟨(ad213.add (((ji6)).toNat * 3)).block, (ad213.add (((ji6)).toNat * 3)).off + 2, none⟩ = some (.string ((rd_T34 l0 (ji6)).f2))) (ds := []) b27_0 (by kernel_rfl) rfl rfl ⟨bc BK212.out 0, bc BK212.out 1, bc BK212.out 2, ((HB.out.cell (World.block_lt_of_cell? _ _ hw213_0)).trans hw213_0), ((HB.out.cell (World.block_lt_of_cell? _ _ hw213_1)).trans hw213_1), ((HB.out.cell (World.block_lt_of_cell? _ _ hw213_2)).trans hw213_2)⟩ (fun hHeld => ?_); refine with_tabW slices_BinarySearchFunc_simpl_Key_impl_Key_impl_Key.tab5 slices_BinarySearchFunc_simpl_Key_impl_Key_impl_Key.bits5 (fun HT_ HW_ => ?_)
       generalize wr.drew = w13 at BK212 HB hx213_0 hx213_1 hx213_2 hHeld ⊢
       refine pu_ 0 (some 24) ?_ b27_1 rfl rfl HT_.out (by kernel_rfl) (fun _ _ _ h => h) (Or.inl ⟨by rfl, ?_⟩) ?_ ?_ ?_; rotate_left
       ·intro w'; go_simp; with_reducible rfl
       rotate_left
       ·simp only [Act.put, sa_, s0_, ss_, i64_w, i32_w]; rfl
       refine pu_ 1 (some 25) ?_ b27_2 rfl rfl HT_.out (by kernel_rfl) (fun _ _ _ h => h) (Or.inl ⟨by rfl, ?_⟩) ?_ ?_ ?_; rotate_left
       ·intro w'; go_simp; with_reducible rfl
       rotate_left
       ·simp only [Act.put, sa_, s0_, ss_, i64_w, i32_w]; rfl
       refine pu_ 2 (some 26) ?_ b27_3 rfl rfl HT_.out (by kernel_rfl) (fun _ _ _ h => h) (Or.inl ⟨by rfl, ?_⟩) ?_ ?_ ?_; rotate_left
       ·intro w'; go_simp; with_reducible rfl
       rotate_left
       ·simp only [Act.put, sa_, s0_, ss_, i64_w, i32_w]; rfl
       refine pu_ 3 (some 27) ?_ b27_4 rfl rfl HT_.out (by kernel_rfl) (fun _ _ _ h => h) (Or.inl ⟨by rfl, ?_⟩) ?_ ?_ ?_; rotate_left
       ·intro w'; go_simp; with_reducible rfl
       rotate_left
       ·simp only [Act.put, sa_, s0_, ss_, i64_w, i32_w]; rfl
       refine tk_ 4 (some 28) ?_ b27_5 rfl rfl HT_.out HW_.out (by kernel_rfl) (fun _ _ _ h => h) (Or.inl ⟨by rfl, ?_⟩) hHeld ?_ ?_ ?_; rotate_left
       ·rintro w' ⟨s0, s1, s2, s3, s4, s5⟩; go_simp; with_reducible rfl
       rotate_left
       ·simp only [Act.put, sa_, s0_, ss_, i64_w, i32_w]; rfl
       refine tk_ 5 (some 29) ?_ b27_6 rfl rfl HT_.out HW_.out (by kernel_rfl) (fun _ _ _ h => h) (Or.inl ⟨by rfl, ?_⟩) hHeld ?_ ?_ ?_; rotate_left
       ·rintro w' ⟨s0, s1, s2, s3, s4, s5⟩; go_simp; with_reducible rfl
       rotate_left
       ·simp only [Act.put, sa_, s0_, ss_, i64_w, i32_w]; rfl
       refine one_ (i := 6) (N := some 30) b27_7 rfl rfl (one_of HT_.out (by kernel_rfl)) (by decide) (fun K hK => ?_)
       refine goesC_ Try.func28 (by kernel_rfl) rfl #[.agg #[.int .i64 ((rd_T34 l0 (ji6)).f0), .string ((rd_T34 l0 (ji6)).f1), .string ((rd_T34 l0 (ji6)).f2)], .agg #[.int .i64 a1_0, .string a1_1, .string a1_2]] (by rfl) rfl rfl rfl (by (try simp only [Array.append_empty, List.map_toArray, List.map_cons, List.map_nil]); first | done | (simp only [hji6]; rfl) | rfl | (simp only [List.length_drop, List.length_take]; rfl)) ?_
       with_reducible refine (impl_compareKeys.calls k1 ((rd_T34 l0 (ji6)).f0) ((rd_T34 l0 (ji6)).f1) ((rd_T34 l0 (ji6)).f2) a1_0 a1_1 a1_2 t214 _ A9.out).mono ?_
       rintro e w14 ⟨rfl, hb⟩
       refine ⟨_, rfl, ?_⟩
       replace BK212 := am (blk_below (pk BK212.out) hb)
       replace HB := am (below_step (bl HB.out) hb)
       (try clear hb)
       (try clear hb2)
       (try clear hk)
       (try clear hi)
       refine hK.out _ _ ⟨bc BK212.out 0, bc BK212.out 1, bc BK212.out 2, ((HB.out.cell (World.block_lt_of_cell? _ _ hw213_0)).trans hw213_0), ((HB.out.cell (World.block_lt_of_cell? _ _ hw213_1)).trans hw213_1), ((HB.out.cell (World.block_lt_of_cell? _ _ hw213_2)).trans hw213_2)⟩ (fun hHeld => ?_)
       clear hK K
       refine norm_ (a' := ?_) ?_ ?_
       rotate_left
       ·show Act.put _ (some 30) _ = _
        simp only [Act.put, sa_, s0_, ss_, i64_w, i32_w]
        rfl
       refine pu_ 7 (some 31) ?_ b27_8 rfl rfl HT_.out (by kernel_rfl) (fun _ _ _ h => h) (Or.inl ⟨by rfl, ?_⟩) ?_ ?_ ?_; rotate_left
       ·intro w'; go_simp; with_reducible rfl
       rotate_left
       ·simp only [Act.put, sa_, s0_, ss_, i64_w, i32_w]; rfl
       refine done_ (done_of HT_.out (by kernel_rfl)) ?_
       try go_wp2
       go_roundg k1
       case measure => have := HK1.out; omega
       case rel => exact ⟨(x9_1), (ji6), (by first | rfl | (simp; done) | (simp [*]; done)), (by first | rfl | (simp; done) | (simp only [← hji6] <;> (first | rfl | simp)) | (simp [*]; done)), H', ⟨by have := HK1.out; omega⟩, ⟨pk BK212.out⟩, ⟨by repeat (first | (with_reducible first | exact HB.out | apply below_alloc | apply pw_below_drewN | apply below_drew1 | refine below_set ?_ GE212.out) | exact HB.out)⟩⟩
     ·rw [if_neg c8] at H
      exact absurd H (by simp)
    ·rw [if_neg c7] at H
     exact absurd H (by simp)
   ·rw [if_neg c5] at H
    have c5b0 : decide (x9_1 < x10_1) = false := decide_eq_false c5
    clear c5
    by_cases c15 : x9_1 < (l0.length : Int)
    ·rw [if_pos c15] at H
     have c15b0 : decide (x9_1 < (l0.length : Int)) = true := decide_eq_true c15
     clear c15
     by_cases c16 : 0 ≤ x9_1
     ·rw [if_pos c16] at H
      have c16b0 : decide (0 ≤ x9_1) = true := decide_eq_true c16
      clear c16
      by_cases c17 : x9_1 < (l0.length : Int)
      ·rw [if_pos c17] at H
       have c17b0 : decide (x9_1 < (l0.length : Int)) = true := decide_eq_true c17
       clear c17
       replace H := Option.bind_eq_some_iff.mp H
       obtain ⟨t216, A180, H⟩ := H
       replace H : (some (x9_1, (t216 == 0))) = some (r1, r2) := H
       have A18 := Aside0.mk A180
       clear A180
       simp only [Option.some.injEq, Prod.mk.injEq] at H
       obtain ⟨rfl, rfl⟩ := H
       try go_wp2
       replace BK212 := am (blk_drew BK212.out)
       replace HB := am (below_drew1 HB.out)
       have p215 : 0 ≤ (x9_1 : Int) := of_decide_eq_true (by first | (with_reducible assumption) | assumption)
       have q215 : x9_1 < (l0.length : Int) := of_decide_eq_true (by first | (with_reducible assumption) | assumption)
       obtain ⟨ad215, e215, hx215_0, hx215_1, hx215_2⟩ := at_T34 HR0.out x9_1 p215 q215
       have hw215_2 := hx215_2
       have hw215_1 := hx215_1
       have hw215_0 := hx215_0
       cases e215
       replace hx215_0 := (HB.out.cell (World.block_lt_of_cell? w _ hx215_0)).trans hx215_0
       replace hx215_1 := (HB.out.cell (World.block_lt_of_cell? w _ hx215_1)).trans hx215_1
       replace hx215_2 := (HB.out.cell (World.block_lt_of_cell? w _ hx215_2)).trans hx215_2
       replace p215 := eq_true p215
       replace q215 := eq_true q215
       refine start_ (n := 16) (S := fun w' => w'.cell? ⟨gb212, 0, none⟩ = some (.int .i64 a1_0) ∧ w'.cell? ⟨gb212, 1, none⟩ = some (.string a1_1) ∧ w'.cell? ⟨gb212, 2, none⟩ = some (.string a1_2) ∧ w'.cell? (ad215.add ((x9_1).toNat * 3)) = some (.int .i64 ((rd_T34 l0 x9_1).f0)) ∧ w'.cell? ⟨(ad215.add ((x9_1).toNat * 3)).block, (ad215.add ((x9_1).toNat * 3)).off + 1, none⟩ = some (.string ((rd_T34 l0 x9_1).f1)) ∧ w'.cell? ⟨(ad215.add ((x9_1).toNat * 3)).block, (ad215.add ((x9_1).toNat * 3)).off + 2, none⟩ = some (.string ((rd_T34 l0 x9_1).f2))) (ds := []) b27_9 (by kernel_rfl) rfl rfl ⟨bc BK212.out 0, bc BK212.out 1, bc BK212.out 2, ((HB.out.cell (World.block_lt_of_cell? _ _ hw215_0)).trans hw215_0), ((HB.out.cell (World.block_lt_of_cell? _ _ hw215_1)).trans hw215_1), ((HB.out.cell (World.block_lt_of_cell? _ _ hw215_2)).trans hw215_2)⟩ (fun hHeld => ?_); refine with_tabW slices_BinarySearchFunc_simpl_Key_impl_Key_impl_Key.tab8 slices_BinarySearchFunc_simpl_Key_impl_Key_impl_Key.bits8 (fun HT_ HW_ => ?_)
       generalize wr.drew = w19 at BK212 HB hx215_0 hx215_1 hx215_2 hHeld ⊢
       refine pu_ 0 (some 35) ?_ b27_10 rfl rfl HT_.out (by kernel_rfl) (fun _ _ _ h => h) (Or.inl ⟨by rfl, ?_⟩) ?_ ?_ ?_; rotate_left
       ·intro w'; go_simp; with_reducible rfl
       rotate_left
       ·simp only [Act.put, sa_, s0_, ss_, i64_w, i32_w]; rfl
       refine pu_ 1 (some 36) ?_ b27_11 rfl rfl HT_.out (by kernel_rfl) (fun _ _ _ h => h) (Or.inl ⟨by rfl, ?_⟩) ?_ ?_ ?_; rotate_left
       ·intro w'; go_simp; with_reducible rfl
       rotate_left
       ·simp only [Act.put, sa_, s0_, ss_, i64_w, i32_w]; rfl
       refine pu_ 2 (some 37) ?_ b27_12 rfl rfl HT_.out (by kernel_rfl) (fun _ _ _ h => h) (Or.inl ⟨by rfl, ?_⟩) ?_ ?_ ?_; rotate_left
       ·intro w'; go_simp; with_reducible rfl
       rotate_left
       ·simp only [Act.put, sa_, s0_, ss_, i64_w, i32_w]; rfl
       refine pu_ 3 (some 38) ?_ b27_13 rfl rfl HT_.out (by kernel_rfl) (fun _ _ _ h => h) (Or.inl ⟨by rfl, ?_⟩) ?_ ?_ ?_; rotate_left
       ·intro w'; go_simp; with_reducible rfl
       rotate_left
       ·simp only [Act.put, sa_, s0_, ss_, i64_w, i32_w]; rfl
       refine pu_ 4 (some 39) ?_ b27_14 rfl rfl HT_.out (by kernel_rfl) (fun _ _ _ h => h) (Or.inl ⟨by rfl, ?_⟩) ?_ ?_ ?_; rotate_left
       ·intro w'; go_simp; with_reducible rfl
       rotate_left
       ·simp only [Act.put, sa_, s0_, ss_, i64_w, i32_w]; rfl
       refine pu_ 5 (some 40) ?_ b27_15 rfl rfl HT_.out (by kernel_rfl) (fun _ _ _ h => h) (Or.inl ⟨by rfl, ?_⟩) ?_ ?_ ?_; rotate_left
       ·intro w'; go_simp; with_reducible rfl
       rotate_left
       ·simp only [Act.put, sa_, s0_, ss_, i64_w, i32_w]; rfl
       refine pu_ 6 (some 41) ?_ b27_16 rfl rfl HT_.out (by kernel_rfl) (fun _ _ _ h => h) (Or.inl ⟨by rfl, ?_⟩) ?_ ?_ ?_; rotate_left
       ·intro w'; go_simp; with_reducible rfl
       rotate_left
       ·simp only [Act.put, sa_, s0_, ss_, i64_w, i32_w]; rfl
       refine pu_ 7 (some 42) ?_ b27_17 rfl rfl HT_.out (by kernel_rfl) (fun _ _ _ h => h) (Or.inl ⟨by rfl, ?_⟩) ?_ ?_ ?_; rotate_left
       ·intro w'; go_simp; with_reducible rfl
       rotate_left
       ·simp only [Act.put, sa_, s0_, ss_, i64_w, i32_w]; rfl
       refine pu_ 8 (some 43) ?_ b27_18 rfl rfl HT_.out (by kernel_rfl) (fun _ _ _ h => h) (Or.inl ⟨by rfl, ?_⟩) ?_ ?_ ?_; rotate_left
       ·intro w'; go_simp; with_reducible rfl
       rotate_left
       ·simp only [Act.put, sa_, s0_, ss_, i64_w, i32_w]; rfl
       refine tk_ 9 (some 44) ?_ b27_19 rfl rfl HT_.out HW_.out (by kernel_rfl) (fun _ _ _ h => h) (Or.inl ⟨by rfl, ?_⟩) hHeld ?_ ?_ ?_; rotate_left
       ·rintro w' ⟨s0, s1, s2, s3, s4, s5⟩; go_simp; with_reducible rfl
       rotate_left
       ·simp only [Act.put, sa_, s0_, ss_, i64_w, i32_w]; rfl
       refine tk_ 10 (some 45) ?_ b27_20 rfl rfl HT_.out HW_.out (by kernel_rfl) (fun _ _ _ h => h) (Or.inl ⟨by rfl, ?_⟩) hHeld ?_ ?_ ?_; rotate_left
       ·rintro w' ⟨s0, s1, s2, s3, s4, s5⟩; go_simp; with_reducible rfl
       rotate_left
       ·simp only [Act.put, sa_, s0_, ss_, i64_w, i32_w]; rfl
       refine one_ (i := 11) (N := some 46) b27_21 rfl rfl (one_of HT_.out (by kernel_rfl)) (by decide) (fun K hK => ?_)
       refine goesC_ Try.func28 (by kernel_rfl) rfl #[.agg #[.int .i64 ((rd_T34 l0 x9_1).f0), .string ((rd_T34 l0 x9_1).f1), .string ((rd_T34 l0 x9_1).f2)], .agg #[.int .i64 a1_0, .string a1_1, .string a1_2]] (by rfl) rfl rfl rfl (by (try simp only [Array.append_empty, List.map_toArray, List.map_cons, List.map_nil]); first | done | rfl | (simp only [List.length_drop, List.length_take]; rfl)) ?_
       with_reducible refine (impl_compareKeys.calls k1 ((rd_T34 l0 x9_1).f0) ((rd_T34 l0 x9_1).f1) ((rd_T34 l0 x9_1).f2) a1_0 a1_1 a1_2 t216 _ A18.out).mono ?_
       rintro e w20 ⟨rfl, hb⟩
       refine ⟨_, rfl, ?_⟩
       replace BK212 := am (blk_below (pk BK212.out) hb)
       replace HB := am (below_step (bl HB.out) hb)
       (try clear hb)
       (try clear hb2)
       (try clear hk)
       (try clear hi)
       refine hK.out _ _ ⟨bc BK212.out 0, bc BK212.out 1, bc BK212.out 2, ((HB.out.cell (World.block_lt_of_cell? _ _ hw215_0)).trans hw215_0), ((HB.out.cell (World.block_lt_of_cell? _ _ hw215_1)).trans hw215_1), ((HB.out.cell (World.block_lt_of_cell? _ _ hw215_2)).trans hw215_2)⟩ (fun hHeld => ?_)
       clear hK K
       refine norm_ (a' := ?_) ?_ ?_
       rotate_left
       ·show Act.put _ (some 46) _ = _
        simp only [Act.put, sa_, s0_, ss_, i64_w, i32_w]
        rfl
       refine pu_ 12 (some 47) ?_ b27_22 rfl rfl HT_.out (by kernel_rfl) (fun _ _ _ h => h) (Or.inl ⟨by rfl, ?_⟩) ?_ ?_ ?_; rotate_left
       ·intro w'; go_simp; with_reducible rfl
       rotate_left
       ·simp only [Act.put, sa_, s0_, ss_, i64_w, i32_w]; rfl
       refine pu_ 13 (some 48) ?_ b27_23 rfl rfl HT_.out (by kernel_rfl) (fun _ _ _ h => h) (Or.inl ⟨by rfl, ?_⟩) ?_ ?_ ?_; rotate_left
       ·intro w'; go_simp; with_reducible rfl
       rotate_left
       ·simp only [Act.put, sa_, s0_, ss_, i64_w, i32_w]; rfl
       refine pu_ 14 (some 6) ?_ b27_24 rfl rfl HT_.out (by kernel_rfl) (fun _ _ _ h => h) (Or.inl ⟨by rfl, ?_⟩) ?_ ?_ ?_; rotate_left
       ·intro w'; go_simp; with_reducible rfl
       rotate_left
       ·simp only [Act.put, sa_, s0_, ss_, i64_w, i32_w]; rfl
       refine pu_ 15 (some 7) ?_ b27_25 rfl rfl HT_.out (by kernel_rfl) (fun _ _ _ h => h) (Or.inl ⟨by rfl, ?_⟩) ?_ ?_ ?_; rotate_left
       ·intro w'; go_simp; with_reducible rfl
       rotate_left
       ·simp only [Act.put, sa_, s0_, ss_, i64_w, i32_w]; rfl
       refine done_ (done_of HT_.out (by kernel_rfl)) ?_
       try go_wp2
       go_ret2
       exact ⟨by first | rfl | (simp [errW_none, errW_some] <;> rfl) | (simp [*, errW_none, errW_some] <;> rfl), by repeat (first | (with_reducible first | exact HB.out | apply below_alloc | apply pw_below_drewN | apply below_drew1 | refine below_set ?_ GE212.out) | exact HB.out)⟩
      ·rw [if_neg c17] at H
       exact absurd H (by simp)
     ·rw [if_neg c16] at H
      exact absurd H (by simp)
    ·rw [if_neg c15] at H
     have c15b0 : decide (x9_1 < (l0.length : Int)) = false := decide_eq_false c15
     clear c15
     simp only [Option.some.injEq, Prod.mk.injEq] at H
     obtain ⟨rfl, rfl⟩ := H
     try go_wp2
     replace BK212 := am (blk_drew BK212.out)
     replace HB := am (below_drew1 HB.out)
     refine start_ (n := 16) (S := fun w' => True) (ds := []) b27_9 (by kernel_rfl) rfl rfl trivial (fun hHeld => ?_); refine with_tabW slices_BinarySearchFunc_simpl_Key_impl_Key_impl_Key.tab8 slices_BinarySearchFunc_simpl_Key_impl_Key_impl_Key.bits8 (fun HT_ HW_ => ?_)
     generalize wr.drew = w21 at BK212 HB hHeld ⊢
     refine pu_ 0 (some 35) ?_ b27_10 rfl rfl HT_.out (by kernel_rfl) (fun _ _ _ h => h) (Or.inl ⟨by rfl, ?_⟩) ?_ ?_ ?_; rotate_left
     ·intro w'; go_simp; with_reducible rfl
     rotate_left
     ·simp only [Act.put, sa_, s0_, ss_, i64_w, i32_w]; rfl
     refine pu_ 1 (some 36) ?_ b27_11 rfl rfl HT_.out (by kernel_rfl) (fun _ _ _ h => h) (Or.inl ⟨by rfl, ?_⟩) ?_ ?_ ?_; rotate_left
     ·intro w'; go_simp; with_reducible rfl
     rotate_left
     ·simp only [Act.put, sa_, s0_, ss_, i64_w, i32_w]; rfl
     refine pu_ 2 (some 37) ?_ b27_12 rfl rfl HT_.out (by kernel_rfl) (fun _ _ _ h => h) (Or.inl ⟨by rfl, ?_⟩) ?_ ?_ ?_; rotate_left
     ·intro w'; go_simp; with_reducible rfl
     rotate_left
     ·simp only [Act.put, sa_, s0_, ss_, i64_w, i32_w]; rfl
     refine pu_ 3 (some 38) ?_ b27_13 rfl rfl HT_.out (by kernel_rfl) (fun _ _ _ h => h) (Or.inl ⟨by rfl, ?_⟩) ?_ ?_ ?_; rotate_left
     ·intro w'; go_simp; with_reducible rfl
     rotate_left
     ·simp only [Act.put, sa_, s0_, ss_, i64_w, i32_w]; rfl
     refine pu_ 4 (some 39) ?_ b27_14 rfl rfl HT_.out (by kernel_rfl) (fun _ _ _ h => h) (Or.inl ⟨by rfl, ?_⟩) ?_ ?_ ?_; rotate_left
     ·intro w'; go_simp; with_reducible rfl
     rotate_left
     ·simp only [Act.put, sa_, s0_, ss_, i64_w, i32_w]; rfl
     refine pu_ 5 (some 40) undef b27_15 rfl rfl HT_.out (by kernel_rfl) (fun _ _ _ h => h) (Or.inr ⟨by rfl, rfl⟩) ?_ ?_ ?_; rotate_left
     ·simp only [Act.put, sa_, s0_, ss_, i64_w, i32_w]; rfl
     refine pu_ 6 (some 41) undef b27_16 rfl rfl HT_.out (by kernel_rfl) (fun _ _ _ h => h) (Or.inr ⟨by rfl, rfl⟩) ?_ ?_ ?_; rotate_left
     ·simp only [Act.put, sa_, s0_, ss_, i64_w, i32_w]; rfl
     refine pu_ 7 (some 42) undef b27_17 rfl rfl HT_.out (by kernel_rfl) (fun _ _ _ h => h) (Or.inr ⟨by rfl, rfl⟩) ?_ ?_ ?_; rotate_left
     ·simp only [Act.put, sa_, s0_, ss_, i64_w, i32_w]; rfl
     refine pu_ 8 (some 43) undef b27_18 rfl rfl HT_.out (by kernel_rfl) (fun _ _ _ h => h) (Or.inr ⟨by rfl, rfl⟩) ?_ ?_ ?_; rotate_left
     ·simp only [Act.put, sa_, s0_, ss_, i64_w, i32_w]; rfl
     refine pu_ 9 (some 44) undef b27_19 rfl rfl HT_.out (by kernel_rfl) (fun _ _ _ h => h) (Or.inr ⟨by rfl, rfl⟩) ?_ ?_ ?_; rotate_left
     ·simp only [Act.put, sa_, s0_, ss_, i64_w, i32_w]; rfl
     refine pu_ 10 (some 45) undef b27_20 rfl rfl HT_.out (by kernel_rfl) (fun _ _ _ h => h) (Or.inr ⟨by rfl, rfl⟩) ?_ ?_ ?_; rotate_left
     ·simp only [Act.put, sa_, s0_, ss_, i64_w, i32_w]; rfl
     refine pu_ 11 (some 46) undef b27_21 rfl rfl HT_.out (by kernel_rfl) (fun _ _ _ h => h) (Or.inr ⟨by rfl, rfl⟩) ?_ ?_ ?_; rotate_left
     ·simp only [Act.put, sa_, s0_, ss_, i64_w, i32_w]; rfl
     refine pu_ 12 (some 47) undef b27_22 rfl rfl HT_.out (by kernel_rfl) (fun _ _ _ h => h) (Or.inr ⟨by rfl, rfl⟩) ?_ ?_ ?_; rotate_left
     ·simp only [Act.put, sa_, s0_, ss_, i64_w, i32_w]; rfl
     refine pu_ 13 (some 48) ?_ b27_23 rfl rfl HT_.out (by kernel_rfl) (fun _ _ _ h => h) (Or.inl ⟨by rfl, ?_⟩) ?_ ?_ ?_; rotate_left
     ·intro w'; go_simp; with_reducible rfl
     rotate_left
     ·simp only [Act.put, sa_, s0_, ss_, i64_w, i32_w]; rfl
     refine pu_ 14 (some 6) ?_ b27_24 rfl rfl HT_.out (by kernel_rfl) (fun _ _ _ h => h) (Or.inl ⟨by rfl, ?_⟩) ?_ ?_ ?_; rotate_left
     ·intro w'; go_simp; with_reducible rfl
     rotate_left
     ·simp only [Act.put, sa_, s0_, ss_, i64_w, i32_w]; rfl
     refine pu_ 15 (some 7) ?_ b27_25 rfl rfl HT_.out (by kernel_rfl) (fun _ _ _ h => h) (Or.inl ⟨by rfl, ?_⟩) ?_ ?_ ?_; rotate_left
     ·intro w'; go_simp; with_reducible rfl
     rotate_left
     ·simp only [Act.put, sa_, s0_, ss_, i64_w, i32_w]; rfl
     refine done_ (done_of HT_.out (by kernel_rfl)) ?_
     try go_wp2
     go_ret2
     exact ⟨by first | rfl | (simp [errW_none, errW_some] <;> rfl) | (simp [*, errW_none, errW_some] <;> rfl), by repeat (first | (with_reducible first | exact HB.out | apply below_alloc | apply pw_below_drewN | apply below_drew1 | refine below_set ?_ GE212.out) | exact HB.out)⟩

-- NOT PRINTED: function 39 (slices_overlaps_impl_Key)

-- NOT PRINTED: function 46 (slices_Reverse_simpl_Key_impl_Key)

-- NOT PRINTED: function 44 (slices_rotateLeft_impl_Key)

-- NOT PRINTED: function 40 (slices_rotateRight_impl_Key)

-- NOT PRINTED: function 29 (slices_Insert_simpl_Key_impl_Key)

end Go.Proofs.Ytpllahncpjpfmaa.PFnExactKeyBind
