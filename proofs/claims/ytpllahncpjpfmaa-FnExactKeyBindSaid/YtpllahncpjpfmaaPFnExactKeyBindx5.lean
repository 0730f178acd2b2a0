-- Written by xprint.py (this claim's own program, over the kit's printer); Lean checks it.
import Derived.Test.YtpllahncpjpfmaaPFnExactKeyBindx0
import Derived.Test.YtpllahncpjpfmaaPFnExactKeyBindx2
import Derived.Test.YtpllahncpjpfmaaPFnExactKeyBindx4
namespace Go.Proofs.Ytpllahncpjpfmaa.PFnExactKeyBind
open Go.RowKit Go.Proofs.YtpllahncpjpfmaaW.PrintWords Go.Proofs.YtpllahncpjpfmaaW.PrintLast Go.Proofs.YtpllahncpjpfmaaW.PrintMore
attribute [local go_sem] max2_int min2_int max_two min_two max_three min_three max_four min_four   -- for this text's walks alone
set_option linter.unusedVariables false
set_option linter.unusedSimpArgs false   -- squeezed

/-! ### spec_KeyBind: function 13 -/
@[reducible] def b13_0 : Array Bool := (br true [0, 11]).toArray
@[reducible] def b13_1 : Array Bool := (br true [1, 10]).toArray
@[reducible] def b13_2 : Array Bool := (br true [2, 9]).toArray
@[reducible] def b13_3 : Array Bool := (br true [3, 8]).toArray
@[reducible] def b13_4 : Array Bool := (br true [4, 7]).toArray
@[reducible] def b13_5 : Array Bool := (br true [5, 6]).toArray
@[reducible] def b13_6 : Array Bool := (br true [6, 5]).toArray
@[reducible] def b13_7 : Array Bool := (br true [7, 4]).toArray
@[reducible] def b13_8 : Array Bool := (br true [8, 3]).toArray
@[reducible] def b13_9 : Array Bool := (br true [9, 2]).toArray
@[reducible] def b13_10 : Array Bool := (br true [10, 1]).toArray
@[reducible] def b13_11 : Array Bool := (br true [11]).toArray
@[reducible] def b13_12 : Array Bool := (br true [0, 18]).toArray
@[reducible] def b13_13 : Array Bool := (br true [1, 17]).toArray
@[reducible] def b13_14 : Array Bool := (br true [2, 16]).toArray
@[reducible] def b13_15 : Array Bool := (br true [3, 15]).toArray
@[reducible] def b13_16 : Array Bool := (br true [4, 14]).toArray
@[reducible] def b13_17 : Array Bool := (br true [4, 1, 1, 12]).toArray
@[reducible] def b13_18 : Array Bool := (br true [6, 12]).toArray
@[reducible] def b13_19 : Array Bool := (br true [7, 11]).toArray
@[reducible] def b13_20 : Array Bool := (br true [8, 10]).toArray
@[reducible] def b13_21 : Array Bool := (br true [9, 9]).toArray
@[reducible] def b13_22 : Array Bool := (br true [10, 8]).toArray
@[reducible] def b13_23 : Array Bool := (br true [11, 7]).toArray
@[reducible] def b13_24 : Array Bool := (br true [12, 6]).toArray
@[reducible] def b13_25 : Array Bool := (br true [13, 5]).toArray
@[reducible] def b13_26 : Array Bool := (br true [13, 1, 1, 3]).toArray
@[reducible] def b13_27 : Array Bool := (br true [15, 3]).toArray
@[reducible] def b13_28 : Array Bool := (br true [16, 2]).toArray
@[reducible] def b13_29 : Array Bool := (br true [17, 1]).toArray
@[reducible] def b13_30 : Array Bool := (br true [18]).toArray
@[reducible] def b13_31 : Array Bool := (br true [14, 4]).toArray
mutual
def spec_KeyBind.l0 : Nat → List (S34) → List (S34) → List (S34) → Bool → Int → Int → ByteArray → ByteArray → Option ((List (S34)))
 | 0, _, _, _, _, _, _, _, _ => none
 | k + 1, x0, x5, x6, x7, x8, x141000, x141001, x141002 => if x8 < (x0.length : Int) then (if x7 = true then (spec_KeyBind.j1 k x0 x5 x6 x7 x8 false x141000 x141001 x141002) else (if 0 ≤ x8 then ((spec_l07Before.f ((rd_T34 x0 x8).f0) ((rd_T34 x0 x8).f1) ((rd_T34 x0 x8).f2) x141000 x141001 x141002).bind fun t155 => (spec_KeyBind.j1 k x0 x5 x6 x7 x8 (!t155) x141000 x141001 x141002)) else (none))) else (if x7 = true then ((spec_KeysRight.f k x6).bind fun t179 => (if t179 = true then (some x6) else (some x5))) else (if x6.length < 3518437208883 then ((some (x6 ++ [(⟨x141000, x141001, x141002⟩ : S34)] : List (S34))).bind fun y180 => ((spec_KeysRight.f k y180).bind fun t183 => (if t183 = true then (some y180) else (some x5)))) else (none)))
def spec_KeyBind.j1 : Nat → List (S34) → List (S34) → List (S34) → Bool → Int → Bool → Int → ByteArray → ByteArray → Option ((List (S34)))
 | 0, _, _, _, _, _, _, _, _, _ => none
 | k + 1, x0, x5, x6, x7, x8, x37, x141000, x141001, x141002 => if x37 = true then (if x6.length < 3518437208883 then ((some (x6 ++ [(⟨x141000, x141001, x141002⟩ : S34)] : List (S34))).bind fun y156 => (if 0 ≤ x8 then (if x8 < (x0.length : Int) then (if ((rd_T34 x0 x8).f0) = x141000 then (if ((rd_T34 x0 x8).f1).toList = x141001.toList then (spec_KeyBind.l0 k x0 x5 y156 true (wrap64 (x8 + 1)) x141000 x141001 x141002) else (if y156.length < 3518437208883 then (spec_KeyBind.l0 k x0 x5 (y156 ++ [(⟨(rd_T34 x0 x8).f0, (rd_T34 x0 x8).f1, (rd_T34 x0 x8).f2⟩ : S34)]) true (wrap64 (x8 + 1)) x141000 x141001 x141002) else (none))) else (if y156.length < 3518437208883 then (spec_KeyBind.l0 k x0 x5 (y156 ++ [(⟨(rd_T34 x0 x8).f0, (rd_T34 x0 x8).f1, (rd_T34 x0 x8).f2⟩ : S34)]) true (wrap64 (x8 + 1)) x141000 x141001 x141002) else (none))) else (none)) else (none))) else (none)) else (if 0 ≤ x8 then (if x8 < (x0.length : Int) then (if ((rd_T34 x0 x8).f0) = x141000 then (if ((rd_T34 x0 x8).f1).toList = x141001.toList then (spec_KeyBind.l0 k x0 x5 x6 x7 (wrap64 (x8 + 1)) x141000 x141001 x141002) else (if x6.length < 3518437208883 then (spec_KeyBind.l0 k x0 x5 (x6 ++ [(⟨(rd_T34 x0 x8).f0, (rd_T34 x0 x8).f1, (rd_T34 x0 x8).f2⟩ : S34)]) x7 (wrap64 (x8 + 1)) x141000 x141001 x141002) else (none))) else (if x6.length < 3518437208883 then (spec_KeyBind.l0 k x0 x5 (x6 ++ [(⟨(rd_T34 x0 x8).f0, (rd_T34 x0 x8).f1, (rd_T34 x0 x8).f2⟩ : S34)]) x7 (wrap64 (x8 + 1)) x141000 x141001 x141002) else (none))) else (none)) else (none))
end
def spec_KeyBind.f (k : Nat) (l0 : List (S34)) (a1_0 : Int) (a1_1 : ByteArray) (a1_2 : ByteArray) : Option ((List (S34))) := if (l0.length : Int) > 400 then (some (([] : List (S34)))) else ((some (([] : List (S34)) : List (S34))).bind fun y144 => (if y144.length + l0.length < 3518437208883 then ((some (y144 ++ l0 : List (S34))).bind fun y147 => ((spec_KeysRight.f k l0).bind fun t150 => (if t150 = true then (spec_KeyBind.l0 k l0 y147 (([] : List (S34))) false 0 a1_0 a1_1 a1_2) else (some y147)))) else (none)))
theorem spec_KeyBind.mono_l : ∀ k, (∀ y0 y1 y2 y3 y4 y5 y6 y7, LeO (spec_KeyBind.l0 k y0 y1 y2 y3 y4 y5 y6 y7) (spec_KeyBind.l0 (k + 1) y0 y1 y2 y3 y4 y5 y6 y7)) ∧ (∀ y0 y1 y2 y3 y4 y5 y6 y7 y8, LeO (spec_KeyBind.j1 k y0 y1 y2 y3 y4 y5 y6 y7 y8) (spec_KeyBind.j1 (k + 1) y0 y1 y2 y3 y4 y5 y6 y7 y8))
 | 0 => ⟨fun _ _ _ _ _ _ _ _ r h => by simp [spec_KeyBind.l0] at h, fun _ _ _ _ _ _ _ _ _ r h => by simp [spec_KeyBind.j1] at h⟩
 | k + 1 => by
  obtain ⟨ih0, ih1⟩ := spec_KeyBind.mono_l k
  refine ⟨?_, ?_⟩
  ·intro y0 y1 y2 y3 y4 y5 y6 y7
   unfold spec_KeyBind.l0
   repeat' first
   | (with_reducible exact ih0 _ _ _ _ _ _ _ _)
   | (with_reducible exact ih1 _ _ _ _ _ _ _ _ _)
   | (with_reducible exact spec_KeysRight.mono _ _)
   | (with_reducible exact LeO.refl _)
   | (with_reducible exact LeO.none _)
   | (with_reducible refine LeO.ite ?_ ?_)
   | (with_reducible refine LeO.bind ?_ (fun _ => ?_))
   | exact ih0 _ _ _ _ _ _ _ _
   | exact ih1 _ _ _ _ _ _ _ _ _
   | exact spec_KeysRight.mono _ _
   | refine LeO.bind ?_ (fun _ => ?_)
  ·intro y0 y1 y2 y3 y4 y5 y6 y7 y8
   unfold spec_KeyBind.j1
   repeat' first
   | (with_reducible exact ih0 _ _ _ _ _ _ _ _)
   | (with_reducible exact ih1 _ _ _ _ _ _ _ _ _)
   | (with_reducible exact spec_KeysRight.mono _ _)
   | (with_reducible exact LeO.refl _)
   | (with_reducible exact LeO.none _)
   | (with_reducible refine LeO.ite ?_ ?_)
   | (with_reducible refine LeO.bind ?_ (fun _ => ?_))
   | exact ih0 _ _ _ _ _ _ _ _
   | exact ih1 _ _ _ _ _ _ _ _ _
   | exact spec_KeysRight.mono _ _
   | refine LeO.bind ?_ (fun _ => ?_)
theorem spec_KeyBind.mono : ∀ a0 a1 a2 a3 k, LeO (spec_KeyBind.f k a0 a1 a2 a3) (spec_KeyBind.f (k + 1) a0 a1 a2 a3) := by
 intro a0 a1 a2 a3 k
 obtain ⟨ih0, ih1⟩ := spec_KeyBind.mono_l k
 unfold spec_KeyBind.f
 repeat' first
   | (with_reducible exact ih0 _ _ _ _ _ _ _ _)
   | (with_reducible exact ih1 _ _ _ _ _ _ _ _ _)
   | (with_reducible exact spec_KeysRight.mono _ _)
   | (with_reducible exact LeO.refl _)
   | (with_reducible exact LeO.none _)
   | (with_reducible refine LeO.ite ?_ ?_)
   | (with_reducible refine LeO.bind ?_ (fun _ => ?_))
   | exact ih0 _ _ _ _ _ _ _ _
   | exact ih1 _ _ _ _ _ _ _ _ _
   | exact spec_KeysRight.mono _ _
   | refine LeO.bind ?_ (fun _ => ?_)
def spec_KeyBind.T11 : Bool × List (List Nat × List Nat) := (true, [([], []), ([0], [0]), ([1], [1]), ([2], [2]), ([2], [2]), ([3, 4, 2], [2, 3, 4]), ([5, 2], [2, 5]), ([2], [2]), ([6, 7, 2, 2], [2, 6, 7]), ([8, 2], [2, 8]), ([2, 9], [2, 9])])
def spec_KeyBind.B11 : List Nat := [0, 1, 3, 7, 7, 31, 63, 7, 255, 511, 1023]
theorem spec_KeyBind.tab11 : rtab .any (opsOf Try.f13 11) = spec_KeyBind.T11 := by kernel_rfl
theorem spec_KeyBind.bits11 : waitsOk spec_KeyBind.T11.2 spec_KeyBind.B11 = true := by kernel_rfl
def spec_KeyBind.T14 : Bool × List (List Nat × List Nat) := (true, [([], []), ([], []), ([0, 1], [0, 1]), ([2], [2]), ([3], [3]), ([], []), ([5], [5]), ([4, 6], [4, 6]), ([7], [7]), ([8], [8]), ([8], [8]), ([9, 10, 8], [8, 9, 10]), ([11, 8], [8, 11]), ([12, 8], [8, 12]), ([8], [8]), ([14, 8], [8, 14]), ([13, 15, 8], [8, 13, 15]), ([8, 16], [8, 16])])
def spec_KeyBind.B14 : List Nat := [0, 0, 3, 7, 15, 0, 32, 127, 255, 511, 511, 2047, 4095, 8191, 511, 16895, 65535, 131071]
theorem spec_KeyBind.tab14 : rtab .any (opsOf Try.f13 14) = spec_KeyBind.T14 := by kernel_rfl
theorem spec_KeyBind.bits14 : waitsOk spec_KeyBind.T14.2 spec_KeyBind.B14 = true := by kernel_rfl
set_option maxHeartbeats 8000000 in
set_option maxRecDepth 100000 in
theorem spec_KeyBind.calls (k : Nat) (A0 : Option Addr) (c0 : Nat) (l0 : List (S34)) (a1_0 : Int) (a1_1 : ByteArray) (a1_2 : ByteArray) (r : List (S34)) (w : World) (hr0 : Kd.C k34 w A0 l0.length l0) (hc0 : l0.length ≤ c0) (h : spec_KeyBind.f k l0 a1_0 a1_1 a1_2 = some r) :
  Calls Try.prog 13 #[.slice A0 l0.length c0, .agg #[.int .i64 a1_0, .string a1_1, .string a1_2]] w fun e w' => ∃ v0_ : Value, e = .returned (v0_) ∧ Kd.R k34 34 w' w.heap.size (fun _ => True) v0_ r ∧ Below w.heap.size w w' := by
 have hu34 := Try.underlying34
 have HR0 := am hr0
 have HC0 := am hc0
 clear hr0 hc0
 have HB := am (Below.refl w.heap.size w)
 have H : (if (l0.length : Int) > 400 then (some (([] : List (S34)))) else ((some (([] : List (S34)) : List (S34))).bind fun y144 => (if y144.length + l0.length < 3518437208883 then ((some (y144 ++ l0 : List (S34))).bind fun y147 => ((spec_KeysRight.f k l0).bind fun t150 => (if t150 = true then (spec_KeyBind.l0 k l0 y147 (([] : List (S34))) false 0 a1_0 a1_1 a1_2) else (some y147)))) else (none)))) = some r := h
 clear h
 by_cases c3 : (l0.length : Int) > 400
 ·rw [if_pos c3] at H
  have c3b0 : decide (400 < (l0.length : Int)) = true := decide_eq_true c3
  have c3b1 : decide (400 < l0.length) = true := decide_eq_true (by omega)
  clear c3
  obtain ⟨y141, hy141⟩ : ∃ y_ : List (S34), y_ = (([] : List (S34))) := ⟨_, rfl⟩
  replace H : (some y141) = some r := by first | (rw [hy141]; with_reducible exact H) | (have H2_ := (Option.bind_some _ _).symm.trans H; rw [hy141]; with_reducible exact H2_) | (have H2_ := (Option.bind_some _ _).symm.trans H; with_reducible exact H2_) | with_reducible exact H | (rw [hy141]; exact H) | exact H
  have Ny141 := am hy141
  clear hy141
  obtain rfl := Option.some.inj H
  go_enter Try.func13, Try.ntmps13
  go_wp2_with (first | ((with_reducible refine gate_dst (N := 3) rfl ?_); refine box_event ?hg (N := 3) ?hd (cs := #[.int .i64 a1_0, .string a1_1, .string a1_2]) (t := 34) ?hr ?_; (case hd => rfl); (case hg => rfl); (case hr => first | (go_simp; done) | (go_simp; rfl)); intro gb140 hg w4 hbox hb; have BK140 := am (hbox); have GW140 := am ((by rw [hg]; exact (below_size (bl HB.out)) : w.heap.size ≤ gb140)); have GE140 := GW140; replace HB := am (below_step (bl HB.out) hb); clear hb hbox hg) | ((with_reducible refine gate_dst (N := 12) rfl ?_); refine Kd.R_lit k34 _ 34 ?hg (N := 12) ?hd (xs := ([] : List (S34))) (inner := []) (ok := fun _ => True) (okp := fun _ => True) ?hr ?hp (fun _ hk => hk) trivial (Below.refl _ _) (Nat.le_refl _) (by simp) ?_; (case hd => rfl); (case hg => rfl); (case hr => first | (go_simp; done) | (go_simp; rfl)); (case hp => exact (Reps.none _ _)); intro v142 w5 ho6 hb hg_ hnew_; clear hg_ hnew_; (first | rw [← Ny141.out] at ho6 | (simp only [Int.reduceToNat] at ho6; rw [← Ny141.out] at ho6)); have HO143 := am (Kd.R_lower (Kd.R_newB ho6 (g := gb140) (o := .cells #[.int .i64 a1_0, .string a1_1, .string a1_2] 34 (0, 0)) (pk BK140.out)) (below_size (bl HB.out))); replace BK140 := am (blk_below (pk BK140.out) hb); replace HB := am (below_step (bl HB.out) hb); clear hb ho6))
  go_ret
  exact ⟨_, by first | rfl | (simp [errW_none, errW_some] <;> rfl) | (simp [*, errW_none, errW_some] <;> rfl), kr (Kd.R_mono HO143.out (fun _ hk => trivial)), by repeat (first | (with_reducible first | exact HB.out | apply below_alloc | apply pw_below_drewN | apply below_drew1 | refine below_set ?_ GE140.out) | exact HB.out)⟩
 ·rw [if_neg c3] at H
  have c3b0 : decide (400 < (l0.length : Int)) = false := decide_eq_false c3
  have c3b1 : decide (400 < l0.length) = false := decide_eq_false (by omega)
  clear c3
  obtain ⟨y144, hy144⟩ : ∃ y_ : List (S34), y_ = (([] : List (S34))) := ⟨_, rfl⟩
  replace H : (if y144.length + l0.length < 3518437208883 then ((some (y144 ++ l0 : List (S34))).bind fun y147 => ((spec_KeysRight.f k l0).bind fun t150 => (if t150 = true then (spec_KeyBind.l0 k l0 y147 (([] : List (S34))) false 0 a1_0 a1_1 a1_2) else (some y147)))) else (none)) = some r := by first | (rw [hy144]; with_reducible exact H) | (have H2_ := (Option.bind_some _ _).symm.trans H; rw [hy144]; with_reducible exact H2_) | (have H2_ := (Option.bind_some _ _).symm.trans H; with_reducible exact H2_) | with_reducible exact H | (rw [hy144]; exact H) | exact H
  have Ny144 := am hy144
  clear hy144
  by_cases c7 : y144.length + l0.length < 3518437208883
  ·rw [if_pos c7] at H
   have LMc7 := Aside0.mk c7
   clear c7
   obtain ⟨y147, hy147⟩ : ∃ y_ : List (S34), y_ = (y144 ++ l0) := ⟨_, rfl⟩
   replace H : ((spec_KeysRight.f k l0).bind fun t150 => (if t150 = true then (spec_KeyBind.l0 k l0 y147 (([] : List (S34))) false 0 a1_0 a1_1 a1_2) else (some y147))) = some r := by first | (rw [hy147]; with_reducible exact H) | (have H2_ := (Option.bind_some _ _).symm.trans H; rw [hy147]; with_reducible exact H2_) | (have H2_ := (Option.bind_some _ _).symm.trans H; with_reducible exact H2_) | with_reducible exact H | (rw [hy147]; exact H) | exact H
   have Ny147 := am hy147
   clear hy147
   replace H := Option.bind_eq_some_iff.mp H
   obtain ⟨t150, A80, H⟩ := H
   replace H : (if t150 = true then (spec_KeyBind.l0 k l0 y147 (([] : List (S34))) false 0 a1_0 a1_1 a1_2) else (some y147)) = some r := H
   have A8 := Aside0.mk A80
   clear A80
   by_cases c9 : t150 = true
   ·subst c9
    have H1 : (spec_KeyBind.l0 k l0 y147 (([] : List (S34))) false 0 a1_0 a1_1 a1_2) = some r := by rw [if_pos rfl] at H; exact H
    clear H
    have H := H1
    clear H1
    obtain ⟨y151, hy151⟩ : ∃ y_ : List (S34), y_ = (([] : List (S34))) := ⟨_, rfl⟩
    replace H : (spec_KeyBind.l0 k l0 y147 y151 false 0 a1_0 a1_1 a1_2) = some r := by first | (rw [hy151]; with_reducible exact H) | (have H2_ := (Option.bind_some _ _).symm.trans H; rw [hy151]; with_reducible exact H2_) | (have H2_ := (Option.bind_some _ _).symm.trans H; with_reducible exact H2_) | with_reducible exact H | (rw [hy151]; exact H) | exact H
    have Ny151 := am hy151
    clear hy151
    have H' := Aside0.mk H
    clear H
    go_enter Try.func13, Try.ntmps13
    go_wp2_with (first | ((with_reducible refine gate_dst (N := 3) rfl ?_); refine box_event ?hg (N := 3) ?hd (cs := #[.int .i64 a1_0, .string a1_1, .string a1_2]) (t := 34) ?hr ?_; (case hd => rfl); (case hg => rfl); (case hr => first | (go_simp; done) | (go_simp; rfl)); intro gb140 hg w10 hbox hb; have BK140 := am (hbox); have GW140 := am ((by rw [hg]; exact (below_size (bl HB.out)) : w.heap.size ≤ gb140)); have GE140 := GW140; replace HB := am (below_step (bl HB.out) hb); clear hb hbox hg) | ((with_reducible refine gate_dst (N := 13) rfl ?_); refine Kd.R_lit k34 _ 34 ?hg (N := 13) ?hd (xs := ([] : List (S34))) (inner := []) (ok := fun _ => True) (okp := fun _ => True) ?hr ?hp (fun _ hk => hk) trivial (Below.refl _ _) (Nat.le_refl _) (by simp) ?_; (case hd => rfl); (case hg => rfl); (case hr => first | (go_simp; done) | (go_simp; rfl)); (case hp => exact (Reps.none _ _)); intro v145 w11 ho12 hb hg_ hnew_; clear hg_ hnew_; (first | rw [← Ny144.out] at ho12 | (simp only [Int.reduceToNat] at ho12; rw [← Ny144.out] at ho12)); have HO146 := am (Kd.R_lower (Kd.R_newB ho12 (g := gb140) (o := .cells #[.int .i64 a1_0, .string a1_1, .string a1_2] 34 (0, 0)) (pk BK140.out)) (below_size (bl HB.out))); replace BK140 := am (blk_below (pk BK140.out) hb); replace HB := am (below_step (bl HB.out) hb); clear hb ho12) | ((with_reducible refine gate_builtin (b := .append) (xs := #[.tmp 13, .tmp 14]) rfl ?_); at_builtin; refine Kd.R_append_rows k34 (w0 := w) w.heap.size rfl (.tmp 13) (.tmp 14) 24 34 (.agg #[(.int .i64 0), (.string ⟨#[]⟩), (.string ⟨#[]⟩)]) 40 rfl Try.underlying24 info34 rfl (by decide) (by omega) v145 y144 l0 _ _ _ (fun k_ => k_ ≠ gb140) (fun _ => False) rfl rfl ?aO ?aR (fun _ _ h => h) (fun _ h => h.elim) ?aF ?aB ?aS ?aL ?_; (case aR => repeat (first | exact (Kd.C_below HR0.out HB.out) | (with_reducible refine Kd.C_alloc ?_ _) | (with_reducible refine Kd.C_drewN ?_ _) | (with_reducible refine Kd.C_drew ?_))); (case aB => exact (bl HB.out)); (case aF => exact (fun k_ hk => Kd.freshB (g := gb140) (o := .cells #[.int .i64 a1_0, .string a1_1, .string a1_2] 34 (0, 0)) (pk BK140.out) k_ hk)); (case aO => exact (kr (Kd.R_mono HO146.out (fun _ hk => hk.2)))); (case aS => exact (below_size (bl HB.out))); (case aL => have := LMc7.out; omega); intro v148 w13 ho hb hg hat; rw [← Ny147.out] at ho; replace BK140 := am (blk_grown (g := gb140) (o := .cells #[.int .i64 a1_0, .string a1_1, .string a1_2] 34 (0, 0)) (pk BK140.out) hg (Kd.R_away HO146.out (fun _ hk => hk.2))); replace HB := am (hb); have HO149 := am (ho); clear HO146; clear ho hb hg hat) | ((with_reducible refine gate_callee (f := 16) rfl ?_); refine gl (some 17) Try.func16 #[.slice A0 l0.length c0] ?_; (with_reducible refine (spec_KeysRight.calls k _ _ l0 true _ ?side1 ?side2 A8.out).mono ?_); (case side1 => repeat (first | exact (Kd.C_below HR0.out HB.out) | (with_reducible refine Kd.C_alloc ?_ _) | (with_reducible refine Kd.C_drewN ?_ _) | (with_reducible refine Kd.C_drew ?_))); (case side2 => exact HC0.out); rintro e w14 ⟨rfl, hb⟩; refine ⟨_, rfl, ?_⟩; replace HO149 := am (Kd.R_below (kr HO149.out) hb); replace BK140 := am (blk_below (pk BK140.out) hb); replace HB := am (below_step (bl HB.out) hb); (try clear hb); (try clear hb2); (try clear hk); (try clear hi)) | ((with_reducible refine gate_dst (N := 20) rfl ?_); refine Kd.R_lit k34 _ 34 ?hg (N := 20) ?hd (xs := ([] : List (S34))) (inner := []) (ok := fun _ => True) (okp := fun _ => True) ?hr ?hp (fun _ hk => hk) trivial (Below.refl _ _) (Nat.le_refl _) (by simp) ?_; (case hd => rfl); (case hg => rfl); (case hr => first | (go_simp; done) | (go_simp; rfl)); (case hp => exact (Reps.none _ _)); intro v152 w15 ho16 hb hg_ hnew_; clear hg_ hnew_; (first | rw [← Ny151.out] at ho16 | (simp only [Int.reduceToNat] at ho16; rw [← Ny151.out] at ho16)); have HO153 := am (Kd.R_lower (Kd.R_newB (Kd.R_new' ho16 (Kd.R_lt (kr HO149.out))) (g := gb140) (o := .cells #[.int .i64 a1_0, .string a1_1, .string a1_2] 34 (0, 0)) (pk BK140.out)) (below_size (bl HB.out))); replace HO149 := am (Kd.R_elder' (kr HO149.out) (Kd.R_base ho16) hb); replace BK140 := am (blk_below (pk BK140.out) hb); replace HB := am (below_step (bl HB.out) hb); clear hb ho16))
    go_loopg [6, 7, 8] k (fun kq v6 v7 v8 w' => ∃ (x6_1 : List (S34)) (x7_1 : Bool) (x8_1 : Int), v7 = .bool x7_1 ∧ v8 = .int .i64 x8_1 ∧ Aside0 (spec_KeyBind.l0 kq l0 y147 x6_1 x7_1 x8_1 a1_0 a1_1 a1_2 = some r) ∧ Aside0 (kq ≤ k) ∧ Aside0 (Kd.R k34 34 w' w.heap.size (fun k_ => some k_ ≠ (v6 : Value).ownBlock ∧ k_ ≠ gb140) v148 y147) ∧ Aside0 (Kd.R k34 34 w' w.heap.size (fun k_ => some k_ ≠ (v148 : Value).ownBlock ∧ k_ ≠ gb140) v6 x6_1) ∧ Aside0 (w'.heap[gb140]? = some (.cells #[.int .i64 a1_0, .string a1_1, .string a1_2] 34 (0, 0))) ∧ Aside0 (Below w.heap.size w w'))
    case atStart => exact ⟨(y151), (false), (0), (by first | rfl | (simp; done) | (simp [*]; done)), (by first | rfl | (simp; done) | (simp [*]; done)), H', ⟨Nat.le_refl _⟩, ⟨kr (Kd.R_mono HO149.out (fun _ hk => ⟨hk.2, hk.1⟩))⟩, ⟨kr (Kd.R_mono HO153.out (fun _ hk => ⟨hk.1.2, hk.2⟩))⟩, ⟨pk BK140.out⟩, ⟨by repeat (first | (with_reducible first | exact HB.out | apply below_alloc | apply pw_below_drewN | apply below_drew1 | refine below_set ?_ GE140.out) | exact HB.out)⟩⟩
    case round =>
     clear H'
     try clear c1
     try clear p2
     try clear c3
     try clear c3b0
     try clear c3b1
     try clear c7
     try clear c9
     try clear c13
     try clear c16
     obtain ⟨x6_1, x7_1, x8_1, rfl, rfl, HA, HK1, HO_5, HO_6, BK140, HB⟩ := hrel
     cases gk with
     | zero => exact absurd HA.out (by simp [spec_KeyBind.l0])
     | succ k1 =>
      have H := HA.out
      clear HA
      simp only [spec_KeyBind.l0] at H
      by_cases c17 : x8_1 < (l0.length : Int)
      ·rw [if_pos c17] at H
       have c17b0 : decide (x8_1 < (l0.length : Int)) = true := decide_eq_true c17
       clear c17
       have HC18 := Aside0.mk H
       clear H
       go_upto_region 11 with (fail)
       go_cut [37] (fun v37 wc => ∃ (kq : Nat) (x37_17 : Bool), v37 = .bool x37_17 ∧ Aside0 (spec_KeyBind.j1 kq l0 y147 x6_1 x7_1 x8_1 x37_17 a1_0 a1_1 a1_2 = some r) ∧ Aside0 (kq ≤ k1) ∧ Aside0 (Kd.R k34 34 wc w.heap.size (fun k_ => some k_ ≠ (u6 : Value).ownBlock ∧ k_ ≠ gb140) v148 y147) ∧ Aside0 (Kd.R k34 34 wc w.heap.size (fun k_ => some k_ ≠ (v148 : Value).ownBlock ∧ k_ ≠ gb140) u6 x6_1) ∧ Aside0 (wc.heap[gb140]? = some (.cells #[.int .i64 a1_0, .string a1_1, .string a1_2] 34 (0, 0))) ∧ Aside0 (Below w.heap.size w wc))
       case first =>
        have H := HC18.out
        clear HC18
        by_cases c19 : x7_1 = true
        ·subst c19
         have H1 : (spec_KeyBind.j1 k1 l0 y147 x6_1 true x8_1 false a1_0 a1_1 a1_2) = some r := by rw [if_pos rfl] at H; exact H
         clear H
         have H := H1
         clear H1
         have H' := Aside0.mk H
         clear H
         try go_wp2
         replace HO_5 := am (Kd.R_drew HO_5.out)
         replace HO_6 := am (Kd.R_drew HO_6.out)
         replace BK140 := am (blk_drew BK140.out)
         replace HB := am (below_drew1 HB.out)
         refine start_ (n := 11) (S := fun w' => True) (ds := []) b13_0 (by kernel_rfl) rfl rfl trivial (fun hHeld => ?_); refine with_tabW spec_KeyBind.tab11 spec_KeyBind.bits11 (fun HT_ HW_ => ?_)
         generalize wr.drew = w20 at HO_5 HO_6 BK140 HB hHeld ⊢
         refine pu_ 0 (some 27) ?_ b13_1 rfl rfl HT_.out (by kernel_rfl) (fun _ _ _ h => h) (Or.inl ⟨by rfl, ?_⟩) ?_ ?_ ?_; rotate_left
         ·intro w'; go_simp; with_reducible rfl
         rotate_left
         ·simp only [Act.put, sa_, s0_, ss_, i64_w, i32_w]; rfl
         refine pu_ 1 (some 28) ?_ b13_2 rfl rfl HT_.out (by kernel_rfl) (fun _ _ _ h => h) (Or.inl ⟨by rfl, ?_⟩) ?_ ?_ ?_; rotate_left
         ·intro w'; go_simp; with_reducible rfl
         rotate_left
         ·simp only [Act.put, sa_, s0_, ss_, i64_w, i32_w]; rfl
         refine pu_ 2 (some 29) ?_ b13_3 rfl rfl HT_.out (by kernel_rfl) (fun _ _ _ h => h) (Or.inl ⟨by rfl, ?_⟩) ?_ ?_ ?_; rotate_left
         ·intro w'; go_simp; with_reducible rfl
         rotate_left
         ·simp only [Act.put, sa_, s0_, ss_, i64_w, i32_w]; rfl
         refine pu_ 3 (some 30) undef b13_4 rfl rfl HT_.out (by kernel_rfl) (fun _ _ _ h => h) (Or.inr ⟨by rfl, rfl⟩) ?_ ?_ ?_; rotate_left
         ·simp only [Act.put, sa_, s0_, ss_, i64_w, i32_w]; rfl
         refine pu_ 4 (some 31) undef b13_5 rfl rfl HT_.out (by kernel_rfl) (fun _ _ _ h => h) (Or.inr ⟨by rfl, rfl⟩) ?_ ?_ ?_; rotate_left
         ·simp only [Act.put, sa_, s0_, ss_, i64_w, i32_w]; rfl
         refine pu_ 5 (some 32) undef b13_6 rfl rfl HT_.out (by kernel_rfl) (fun _ _ _ h => h) (Or.inr ⟨by rfl, rfl⟩) ?_ ?_ ?_; rotate_left
         ·simp only [Act.put, sa_, s0_, ss_, i64_w, i32_w]; rfl
         refine pu_ 6 (some 33) undef b13_7 rfl rfl HT_.out (by kernel_rfl) (fun _ _ _ h => h) (Or.inr ⟨by rfl, rfl⟩) ?_ ?_ ?_; rotate_left
         ·simp only [Act.put, sa_, s0_, ss_, i64_w, i32_w]; rfl
         refine pu_ 7 (some 34) undef b13_8 rfl rfl HT_.out (by kernel_rfl) (fun _ _ _ h => h) (Or.inr ⟨by rfl, rfl⟩) ?_ ?_ ?_; rotate_left
         ·simp only [Act.put, sa_, s0_, ss_, i64_w, i32_w]; rfl
         refine pu_ 8 (some 35) undef b13_9 rfl rfl HT_.out (by kernel_rfl) (fun _ _ _ h => h) (Or.inr ⟨by rfl, rfl⟩) ?_ ?_ ?_; rotate_left
         ·simp only [Act.put, sa_, s0_, ss_, i64_w, i32_w]; rfl
         refine pu_ 9 (some 36) undef b13_10 rfl rfl HT_.out (by kernel_rfl) (fun _ _ _ h => h) (Or.inr ⟨by rfl, rfl⟩) ?_ ?_ ?_; rotate_left
         ·simp only [Act.put, sa_, s0_, ss_, i64_w, i32_w]; rfl
         refine pu_ 10 (some 37) ?_ b13_11 rfl rfl HT_.out (by kernel_rfl) (fun _ _ _ h => h) (Or.inl ⟨by rfl, ?_⟩) ?_ ?_ ?_; rotate_left
         ·intro w'; go_simp; with_reducible rfl
         rotate_left
         ·simp only [Act.put, sa_, s0_, ss_, i64_w, i32_w]; rfl
         refine done_ (done_of HT_.out (by kernel_rfl)) ?_
         try go_wp2
         go_meet
         case rel => exact ⟨_, (false), (by first | rfl | (simp; done) | (simp [*]; done)), H', ⟨by have := HK1.out; first | omega | exact Nat.le_refl _⟩, ⟨kr HO_5.out⟩, ⟨kr HO_6.out⟩, ⟨pk BK140.out⟩, ⟨by repeat (first | (with_reducible first | exact HB.out | apply below_alloc | apply pw_below_drewN | apply below_drew1 | refine below_set ?_ GE140.out) | exact HB.out)⟩⟩
        ·replace c19 := Bool.eq_false_iff.mpr c19
         subst c19
         have H1 : (if 0 ≤ x8_1 then ((spec_l07Before.f ((rd_T34 l0 x8_1).f0) ((rd_T34 l0 x8_1).f1) ((rd_T34 l0 x8_1).f2) a1_0 a1_1 a1_2).bind fun t155 => (spec_KeyBind.j1 k1 l0 y147 x6_1 false x8_1 (!t155) a1_0 a1_1 a1_2)) else (none)) = some r := by rw [if_neg (show ¬ (false = true) by decide)] at H; exact H
         clear H
         have H := H1
         clear H1
         by_cases c21 : 0 ≤ x8_1
         ·rw [if_pos c21] at H
          have c21b0 : decide (0 ≤ x8_1) = true := decide_eq_true c21
          clear c21
          (first | rw [c21b0] | (simp only [i64_w, i32_w]; rw [c21b0]) | (have e9_ := c21b0; unfold bne at e9_; rw [e9_]) | skip)
          replace H := Option.bind_eq_some_iff.mp H
          obtain ⟨t155, A220, H⟩ := H
          replace H : (spec_KeyBind.j1 k1 l0 y147 x6_1 false x8_1 (!t155) a1_0 a1_1 a1_2) = some r := H
          have A22 := Aside0.mk A220
          clear A220
          have H' := Aside0.mk H
          clear H
          try go_wp2
          replace HO_5 := am (Kd.R_drew HO_5.out)
          replace HO_6 := am (Kd.R_drew HO_6.out)
          replace BK140 := am (blk_drew BK140.out)
          replace HB := am (below_drew1 HB.out)
          have p154 : 0 ≤ (x8_1 : Int) := of_decide_eq_true (by first | (with_reducible assumption) | assumption)
          have q154 : x8_1 < (l0.length : Int) := of_decide_eq_true (by first | (with_reducible assumption) | assumption)
          obtain ⟨ad154, e154, hx154_0, hx154_1, hx154_2⟩ := at_T34 HR0.out x8_1 p154 q154
          have hw154_2 := hx154_2
          have hw154_1 := hx154_1
          have hw154_0 := hx154_0
          cases e154
          replace hx154_0 := (HB.out.cell (World.block_lt_of_cell? w _ hx154_0)).trans hx154_0
          replace hx154_1 := (HB.out.cell (World.block_lt_of_cell? w _ hx154_1)).trans hx154_1
          replace hx154_2 := (HB.out.cell (World.block_lt_of_cell? w _ hx154_2)).trans hx154_2
          replace p154 := eq_true p154
          replace q154 := eq_true q154
          refine start_ (n := 11) (S := fun w' => w'.cell? ⟨gb140, 0, none⟩ = some (.int .i64 a1_0) ∧ w'.cell? ⟨gb140, 1, none⟩ = some (.string a1_1) ∧ w'.cell? ⟨gb140, 2, none⟩ = some (.string a1_2) ∧ w'.cell? (ad154.add ((x8_1).toNat * 3)) = some (.int .i64 ((rd_T34 l0 x8_1).f0)) ∧ w'.cell? ⟨(ad154.add ((x8_1).toNat * 3)).block, (ad154.add ((x8_1).toNat * 3)).off + 1, none⟩ = some (.string ((rd_T34 l0 x8_1).f1)) ∧ w'.cell? ⟨(ad154.add ((x8_1).toNat * 3)).block, (ad154.add ((x8_1).toNat * 3)).off + 2, none⟩ = some (.string ((rd_T34 l0 x8_1).f2))) (ds := []) b13_0 (by kernel_rfl) rfl rfl ⟨bc BK140.out 0, bc BK140.out 1, bc BK140.out 2, ((HB.out.cell (World.block_lt_of_cell? _ _ hw154_0)).trans hw154_0), ((HB.out.cell (World.block_lt_of_cell? _ _ hw154_1)).trans hw154_1), ((HB.out.cell (World.block_lt_of_cell? _ _ hw154_2)).trans hw154_2)⟩ (fun hHeld => ?_); refine with_tabW spec_KeyBind.tab11 spec_KeyBind.bits11 (fun HT_ HW_ => ?_)
          generalize wr.drew = w23 at HO_5 HO_6 BK140 HB hx154_0 hx154_1 hx154_2 hHeld ⊢
          refine pu_ 0 (some 27) ?_ b13_1 rfl rfl HT_.out (by kernel_rfl) (fun _ _ _ h => h) (Or.inl ⟨by rfl, ?_⟩) ?_ ?_ ?_; rotate_left
          ·intro w'; go_simp; with_reducible rfl
          rotate_left
          ·simp only [Act.put, sa_, s0_, ss_, i64_w, i32_w]; rfl
          refine pu_ 1 (some 28) ?_ b13_2 rfl rfl HT_.out (by kernel_rfl) (fun _ _ _ h => h) (Or.inl ⟨by rfl, ?_⟩) ?_ ?_ ?_; rotate_left
          ·intro w'; go_simp; with_reducible rfl
          rotate_left
          ·simp only [Act.put, sa_, s0_, ss_, i64_w, i32_w]; rfl
          refine pu_ 2 (some 29) ?_ b13_3 rfl rfl HT_.out (by kernel_rfl) (fun _ _ _ h => h) (Or.inl ⟨by rfl, ?_⟩) ?_ ?_ ?_; rotate_left
          ·intro w'; go_simp; with_reducible rfl
          rotate_left
          ·simp only [Act.put, sa_, s0_, ss_, i64_w, i32_w]; rfl
          refine pu_ 3 (some 30) ?_ b13_4 rfl rfl HT_.out (by kernel_rfl) (fun _ _ _ h => h) (Or.inl ⟨by rfl, ?_⟩) ?_ ?_ ?_; rotate_left
          ·intro w'; go_simp; with_reducible rfl
          rotate_left
          ·simp only [Act.put, sa_, s0_, ss_, i64_w, i32_w]; rfl
          refine pu_ 4 (some 31) ?_ b13_5 rfl rfl HT_.out (by kernel_rfl) (fun _ _ _ h => h) (Or.inl ⟨by rfl, ?_⟩) ?_ ?_ ?_; rotate_left
          ·intro w'; go_simp; with_reducible rfl
          rotate_left
          ·simp only [Act.put, sa_, s0_, ss_, i64_w, i32_w]; rfl
          refine pu_ 5 (some 32) ?_ b13_6 rfl rfl HT_.out (by kernel_rfl) (fun _ _ _ h => h) (Or.inl ⟨by rfl, ?_⟩) ?_ ?_ ?_; rotate_left
          ·intro w'; go_simp; with_reducible rfl
          rotate_left
          ·simp only [Act.put, sa_, s0_, ss_, i64_w, i32_w]; rfl
          refine tk_ 6 (some 33) ?_ b13_7 rfl rfl HT_.out HW_.out (by kernel_rfl) (fun _ _ _ h => h) (Or.inl ⟨by rfl, ?_⟩) hHeld ?_ ?_ ?_; rotate_left
          ·rintro w' ⟨s0, s1, s2, s3, s4, s5⟩; go_simp; with_reducible rfl
          rotate_left
          ·simp only [Act.put, sa_, s0_, ss_, i64_w, i32_w]; rfl
          refine tk_ 7 (some 34) ?_ b13_8 rfl rfl HT_.out HW_.out (by kernel_rfl) (fun _ _ _ h => h) (Or.inl ⟨by rfl, ?_⟩) hHeld ?_ ?_ ?_; rotate_left
          ·rintro w' ⟨s0, s1, s2, s3, s4, s5⟩; go_simp; with_reducible rfl
          rotate_left
          ·simp only [Act.put, sa_, s0_, ss_, i64_w, i32_w]; rfl
          refine one_ (i := 8) (N := some 35) b13_9 rfl rfl (one_of HT_.out (by kernel_rfl)) (by decide) (fun K hK => ?_)
          refine gs_ Try.func25 #[.agg #[.int .i64 ((rd_T34 l0 x8_1).f0), .string ((rd_T34 l0 x8_1).f1), .string ((rd_T34 l0 x8_1).f2)], .agg #[.int .i64 a1_0, .string a1_1, .string a1_2]] ?_
          with_reducible refine (spec_l07Before.calls ((rd_T34 l0 x8_1).f0) ((rd_T34 l0 x8_1).f1) ((rd_T34 l0 x8_1).f2) a1_0 a1_1 a1_2 t155 _ A22.out).mono ?_
          rintro e w24 ⟨rfl, hb⟩
          refine ⟨_, rfl, ?_⟩
          replace HO_5 := am (Kd.R_below (kr HO_5.out) hb)
          replace HO_6 := am (Kd.R_below (kr HO_6.out) hb)
          replace BK140 := am (blk_below (pk BK140.out) hb)
          replace HB := am (below_step (bl HB.out) hb)
          (try clear hb)
          (try clear hb2)
          (try clear hk)
          (try clear hi)
          refine hK.out _ _ ⟨bc BK140.out 0, bc BK140.out 1, bc BK140.out 2, ((HB.out.cell (World.block_lt_of_cell? _ _ hw154_0)).trans hw154_0), ((HB.out.cell (World.block_lt_of_cell? _ _ hw154_1)).trans hw154_1), ((HB.out.cell (World.block_lt_of_cell? _ _ hw154_2)).trans hw154_2)⟩ (fun hHeld => ?_)
          clear hK K
          refine norm_ (a' := ?_) ?_ ?_
          rotate_left
          ·show Act.put _ (some 35) _ = _
           simp only [Act.put, sa_, s0_, ss_, i64_w, i32_w]
           rfl
          refine pu_ 9 (some 36) ?_ b13_10 rfl rfl HT_.out (by kernel_rfl) (fun _ _ _ h => h) (Or.inl ⟨by rfl, ?_⟩) ?_ ?_ ?_; rotate_left
          ·intro w'; go_simp; with_reducible rfl
          rotate_left
          ·simp only [Act.put, sa_, s0_, ss_, i64_w, i32_w]; rfl
          refine pu_ 10 (some 37) ?_ b13_11 rfl rfl HT_.out (by kernel_rfl) (fun _ _ _ h => h) (Or.inl ⟨by rfl, ?_⟩) ?_ ?_ ?_; rotate_left
          ·intro w'; go_simp; with_reducible rfl
          rotate_left
          ·simp only [Act.put, sa_, s0_, ss_, i64_w, i32_w]; rfl
          refine done_ (done_of HT_.out (by kernel_rfl)) ?_
          try go_wp2
          go_meet
          case rel => exact ⟨_, (!t155), (by first | rfl | (simp; done) | (simp [*]; done)), H', ⟨by have := HK1.out; first | omega | exact Nat.le_refl _⟩, ⟨kr HO_5.out⟩, ⟨kr HO_6.out⟩, ⟨pk BK140.out⟩, ⟨by repeat (first | (with_reducible first | exact HB.out | apply below_alloc | apply pw_below_drewN | apply below_drew1 | refine below_set ?_ GE140.out) | exact HB.out)⟩⟩
         ·rw [if_neg c21] at H
          exact absurd H (by simp)
       case rest =>
        clear HC18
        try clear c1
        try clear p1
        try clear q1
        try clear hx1
        try clear c2
        try clear p2
        try clear c3
        try clear c3b0
        try clear c3b1
        try clear c7
        try clear c9
        try clear c13
        try clear p15
        try clear q15
        try clear hx15
        try clear c16
        try clear c17
        try clear c17b0
        try clear c19
        try clear c21
        try clear c21b0
        try clear hx154_0
        try clear hx154_1
        try clear hx154_2
        try clear p154
        try clear p2
        try clear q154
        obtain ⟨kq, x37_17, rfl, HA, HJ17, HO_5, HO_6, BK140, HB⟩ := hcut
        cases kq with
        | zero => exact absurd HA.out (by simp [spec_KeyBind.j1])
        | succ kj17 =>
         have H := HA.out
         clear HA
         simp only [spec_KeyBind.j1] at H
         by_cases c25 : x37_17 = true
         ·subst c25
          have H1 : (if x6_1.length < 3518437208883 then ((some (x6_1 ++ [(⟨a1_0, a1_1, a1_2⟩ : S34)] : List (S34))).bind fun y156 => (if 0 ≤ x8_1 then (if x8_1 < (l0.length : Int) then (if ((rd_T34 l0 x8_1).f0) = a1_0 then (if ((rd_T34 l0 x8_1).f1).toList = a1_1.toList then (spec_KeyBind.l0 kj17 l0 y147 y156 true (wrap64 (x8_1 + 1)) a1_0 a1_1 a1_2) else (if y156.length < 3518437208883 then (spec_KeyBind.l0 kj17 l0 y147 (y156 ++ [(⟨(rd_T34 l0 x8_1).f0, (rd_T34 l0 x8_1).f1, (rd_T34 l0 x8_1).f2⟩ : S34)]) true (wrap64 (x8_1 + 1)) a1_0 a1_1 a1_2) else (none))) else (if y156.length < 3518437208883 then (spec_KeyBind.l0 kj17 l0 y147 (y156 ++ [(⟨(rd_T34 l0 x8_1).f0, (rd_T34 l0 x8_1).f1, (rd_T34 l0 x8_1).f2⟩ : S34)]) true (wrap64 (x8_1 + 1)) a1_0 a1_1 a1_2) else (none))) else (none)) else (none))) else (none)) = some r := by rw [if_pos rfl] at H; exact H
          clear H
          have H := H1
          clear H1
          by_cases c26 : x6_1.length < 3518437208883
          ·rw [if_pos c26] at H
           have LMc26 := Aside0.mk c26
           clear c26
           obtain ⟨y156, hy156⟩ : ∃ y_ : List (S34), y_ = (x6_1 ++ [(⟨a1_0, a1_1, a1_2⟩ : S34)]) := ⟨_, rfl⟩
           replace H : (if 0 ≤ x8_1 then (if x8_1 < (l0.length : Int) then (if ((rd_T34 l0 x8_1).f0) = a1_0 then (if ((rd_T34 l0 x8_1).f1).toList = a1_1.toList then (spec_KeyBind.l0 kj17 l0 y147 y156 true (wrap64 (x8_1 + 1)) a1_0 a1_1 a1_2) else (if y156.length < 3518437208883 then (spec_KeyBind.l0 kj17 l0 y147 (y156 ++ [(⟨(rd_T34 l0 x8_1).f0, (rd_T34 l0 x8_1).f1, (rd_T34 l0 x8_1).f2⟩ : S34)]) true (wrap64 (x8_1 + 1)) a1_0 a1_1 a1_2) else (none))) else (if y156.length < 3518437208883 then (spec_KeyBind.l0 kj17 l0 y147 (y156 ++ [(⟨(rd_T34 l0 x8_1).f0, (rd_T34 l0 x8_1).f1, (rd_T34 l0 x8_1).f2⟩ : S34)]) true (wrap64 (x8_1 + 1)) a1_0 a1_1 a1_2) else (none))) else (none)) else (none)) = some r := by first | (rw [hy156]; with_reducible exact H) | (have H2_ := (Option.bind_some _ _).symm.trans H; rw [hy156]; with_reducible exact H2_) | (have H2_ := (Option.bind_some _ _).symm.trans H; with_reducible exact H2_) | with_reducible exact H | (rw [hy156]; exact H) | exact H
           have Ny156 := am hy156
           clear hy156
           by_cases c27 : 0 ≤ x8_1
           ·rw [if_pos c27] at H
            have c27b0 : decide (0 ≤ x8_1) = true := decide_eq_true c27
            clear c27
            by_cases c28 : x8_1 < (l0.length : Int)
            ·rw [if_pos c28] at H
             have c28b0 : decide (x8_1 < (l0.length : Int)) = true := decide_eq_true c28
             clear c28
             by_cases c29 : ((rd_T34 l0 x8_1).f0) = a1_0
             ·rw [if_pos c29] at H
              have c29b0 : (((rd_T34 l0 x8_1).f0) == a1_0) = true := beq_iff_eq.mpr c29
              have c29b1 : (((rd_T34 l0 x8_1).f0) != a1_0) = false := bne_eq_false_iff_eq.mpr c29
              clear c29
              by_cases c30 : ((rd_T34 l0 x8_1).f1).toList = a1_1.toList
              ·rw [if_pos c30] at H
               have c30b0 : (((rd_T34 l0 x8_1).f1).toList == a1_1.toList) = true := beq_iff_eq.mpr c30
               have c30b1 : (((rd_T34 l0 x8_1).f1).toList != a1_1.toList) = false := bne_eq_false_iff_eq.mpr c30
               clear c30
               have H' := Aside0.mk H
               clear H
               have hcz31_0 : wc.cell? ⟨gb140, 0, none⟩ = some (.int .i64 a1_0) := bc BK140.out 0
               have hcz31_1 : wc.cell? ⟨gb140, 1, none⟩ = some (.string a1_1) := bc BK140.out 1
               have hcz31_2 : wc.cell? ⟨gb140, 2, none⟩ = some (.string a1_2) := bc BK140.out 2
               try go_wp2_with (first | ((with_reducible refine gate_builtin (b := .append) (xs := #[.tmp 38, .tmp 40]) rfl ?_); at_builtin; refine Kd.R_append k34 (w0 := w) w.heap.size rfl (.tmp 38) (.tmp 40) 24 34 (.agg #[(.int .i64 0), (.string ⟨#[]⟩), (.string ⟨#[]⟩)]) 40 rfl Try.underlying24 info34 rfl (by decide) (by omega) u6 x6_1 (⟨a1_0, a1_1, a1_2⟩ : S34) [.int .i64 a1_0, .string a1_1, .string a1_2] (fun k_ => some k_ ≠ (v148 : Value).ownBlock ∧ k_ ≠ gb140) (fun _ => False) rfl rfl ?aP (fun _ hk => hk.elim) ?aF ?aO ?aB ?aS ?aL ?_; (case aP => exact k34_mkM _ _ _ (⟨a1_0, a1_1, a1_2⟩ : S34)); (case aB => exact (bl HB.out)); (case aF => exact (fun k_ hk => ⟨Kd.fresh' (Kd.R_lt (kr HO_5.out)) k_ hk, Kd.freshB (g := gb140) (o := .cells #[.int .i64 a1_0, .string a1_1, .string a1_2] 34 (0, 0)) (pk BK140.out) k_ hk⟩)); (case aO => exact (kr HO_6.out)); (case aS => exact (below_size (bl HB.out))); (case aL => have := LMc26.out; omega); intro v157 w32 ho hb hg hat; rw [← Ny156.out] at ho; replace HO_5 := am (Kd.R_after (ok := (fun k_ => k_ ≠ gb140)) (kr (Kd.R_mono HO_5.out (fun _ hk => ⟨hk.2, hk.1⟩))) hg hat); replace BK140 := am (blk_grown (g := gb140) (o := .cells #[.int .i64 a1_0, .string a1_1, .string a1_2] 34 (0, 0)) (pk BK140.out) hg (Kd.R_away HO_6.out (fun _ hk => hk.2))); replace HB := am (hb); have HO158 := am (ho); clear HO_6; clear ho hb hg hat))
               replace HO_5 := am (Kd.R_drew HO_5.out)
               replace HO158 := am (Kd.R_drew HO158.out)
               replace BK140 := am (blk_drew BK140.out)
               replace HB := am (below_drew1 HB.out)
               have p159 : 0 ≤ (x8_1 : Int) := of_decide_eq_true (by first | (with_reducible assumption) | assumption)
               have q159 : x8_1 < (l0.length : Int) := of_decide_eq_true (by first | (with_reducible assumption) | assumption)
               obtain ⟨ad159, e159, hx159_0, hx159_1, hx159_2⟩ := at_T34 HR0.out x8_1 p159 q159
               have hw159_2 := hx159_2
               have hw159_1 := hx159_1
               have hw159_0 := hx159_0
               cases e159
               replace hx159_0 := (HB.out.cell (World.block_lt_of_cell? w _ hx159_0)).trans hx159_0
               replace hx159_1 := (HB.out.cell (World.block_lt_of_cell? w _ hx159_1)).trans hx159_1
               replace hx159_2 := (HB.out.cell (World.block_lt_of_cell? w _ hx159_2)).trans hx159_2
               replace p159 := eq_true p159
               replace q159 := eq_true q159
               have p160 : 0 ≤ (x8_1 : Int) := of_decide_eq_true (by first | (with_reducible assumption) | assumption)
               have q160 : x8_1 < (l0.length : Int) := of_decide_eq_true (by first | (with_reducible assumption) | assumption)
               obtain ⟨ad160, e160, hx160_0, hx160_1, hx160_2⟩ := at_T34 HR0.out x8_1 p160 q160
               have hw160_2 := hx160_2
               have hw160_1 := hx160_1
               have hw160_0 := hx160_0
               obtain rfl : ad159 = ad160 := (by injection e160)
               replace hx160_0 := (HB.out.cell (World.block_lt_of_cell? w _ hx160_0)).trans hx160_0
               replace hx160_1 := (HB.out.cell (World.block_lt_of_cell? w _ hx160_1)).trans hx160_1
               replace hx160_2 := (HB.out.cell (World.block_lt_of_cell? w _ hx160_2)).trans hx160_2
               replace p160 := eq_true p160
               replace q160 := eq_true q160
               refine start_ (n := 18) (S := fun w' => w'.cell? ⟨gb140, 0, none⟩ = some (.int .i64 a1_0) ∧ w'.cell? ⟨gb140, 1, none⟩ = some (.string a1_1) ∧ w'.cell? ⟨gb140, 2, none⟩ = some (.string a1_2) ∧ w'.cell? (ad159.add ((x8_1).toNat * 3)) = some (.int .i64 ((rd_T34 l0 x8_1).f0)) ∧ w'.cell? ⟨(ad159.add ((x8_1).toNat * 3)).block, (ad159.add ((x8_1).toNat * 3)).off + 1, none⟩ = some (.string ((rd_T34 l0 x8_1).f1)) ∧ w'.cell? ⟨(ad159.add ((x8_1).toNat * 3)).block, (ad159.add ((x8_1).toNat * 3)).off + 2, none⟩ = some (.string ((rd_T34 l0 x8_1).f2)) ∧ w'.cell? (ad159.add ((x8_1).toNat * 3)) = some (.int .i64 ((rd_T34 l0 x8_1).f0)) ∧ w'.cell? ⟨(ad159.add ((x8_1).toNat * 3)).block, (ad159.add ((x8_1).toNat * 3)).off + 1, none⟩ = some (.string ((rd_T34 l0 x8_1).f1)) ∧ w'.cell? ⟨(ad159.add ((x8_1).toNat * 3)).block, (ad159.add ((x8_1).toNat * 3)).off + 2, none⟩ = some (.string ((rd_T34 l0 x8_1).f2))) (ds := []) b13_12 (by kernel_rfl) rfl rfl ⟨bc BK140.out 0, bc BK140.out 1, bc BK140.out 2, ((HB.out.cell (World.block_lt_of_cell? _ _ hw159_0)).trans hw159_0), ((HB.out.cell (World.block_lt_of_cell? _ _ hw159_1)).trans hw159_1), ((HB.out.cell (World.block_lt_of_cell? _ _ hw159_2)).trans hw159_2), ((HB.out.cell (World.block_lt_of_cell? _ _ hw160_0)).trans hw160_0), ((HB.out.cell (World.block_lt_of_cell? _ _ hw160_1)).trans hw160_1), ((HB.out.cell (World.block_lt_of_cell? _ _ hw160_2)).trans hw160_2)⟩ (fun hHeld => ?_); refine with_tabW spec_KeyBind.tab14 spec_KeyBind.bits14 (fun HT_ HW_ => ?_)
               generalize w32.drew = w33 at HO_5 HO158 BK140 HB hx159_0 hx159_1 hx159_2 hx160_0 hx160_1 hx160_2 hHeld ⊢
               refine pu_ 0 (some 42) ?_ b13_13 rfl rfl HT_.out (by kernel_rfl) (fun _ _ _ h => h) (Or.inl ⟨by rfl, ?_⟩) ?_ ?_ ?_; rotate_left
               ·intro w'; go_simp; with_reducible rfl
               rotate_left
               ·simp only [Act.put, sa_, s0_, ss_, i64_w, i32_w]; rfl
               refine pu_ 1 (some 43) ?_ b13_14 rfl rfl HT_.out (by kernel_rfl) (fun _ _ _ h => h) (Or.inl ⟨by rfl, ?_⟩) ?_ ?_ ?_; rotate_left
               ·intro w'; go_simp; with_reducible rfl
               rotate_left
               ·simp only [Act.put, sa_, s0_, ss_, i64_w, i32_w]; rfl
               refine pu_ 2 (some 44) ?_ b13_15 rfl rfl HT_.out (by kernel_rfl) (fun _ _ _ h => h) (Or.inl ⟨by rfl, ?_⟩) ?_ ?_ ?_; rotate_left
               ·intro w'; go_simp; with_reducible rfl
               rotate_left
               ·simp only [Act.put, sa_, s0_, ss_, i64_w, i32_w]; rfl
               refine pu_ 3 (some 45) ?_ b13_16 rfl rfl HT_.out (by kernel_rfl) (fun _ _ _ h => h) (Or.inl ⟨by rfl, ?_⟩) ?_ ?_ ?_; rotate_left
               ·intro w'; go_simp; with_reducible rfl
               rotate_left
               ·simp only [Act.put, sa_, s0_, ss_, i64_w, i32_w]; rfl
               refine pu_ 5 (some 47) ?_ b13_17 rfl rfl HT_.out (by kernel_rfl) (fun _ _ _ h => h) (Or.inl ⟨by rfl, ?_⟩) ?_ ?_ ?_; rotate_left
               ·intro w'; go_simp; with_reducible rfl
               rotate_left
               ·simp only [Act.put, sa_, s0_, ss_, i64_w, i32_w]; rfl
               refine tk_ 4 (some 46) ?_ b13_18 rfl rfl HT_.out HW_.out (by kernel_rfl) (fun _ _ _ h => h) (Or.inl ⟨by rfl, ?_⟩) hHeld ?_ ?_ ?_; rotate_left
               ·rintro w' ⟨s0, s1, s2, s3, s4, s5, s6, s7, s8⟩; go_simp; with_reducible rfl
               rotate_left
               ·simp only [Act.put, sa_, s0_, ss_, i64_w, i32_w]; rfl
               refine tk_ 6 (some 48) ?_ b13_19 rfl rfl HT_.out HW_.out (by kernel_rfl) (fun _ _ _ h => h) (Or.inl ⟨by rfl, ?_⟩) hHeld ?_ ?_ ?_; rotate_left
               ·rintro w' ⟨s0, s1, s2, s3, s4, s5, s6, s7, s8⟩; go_simp; with_reducible rfl
               rotate_left
               ·simp only [Act.put, sa_, s0_, ss_, i64_w, i32_w]; rfl
               refine pu_ 7 (some 49) ?_ b13_20 rfl rfl HT_.out (by kernel_rfl) (fun _ _ _ h => h) (Or.inl ⟨by rfl, ?_⟩) ?_ ?_ ?_; rotate_left
               ·intro w'; go_simp; with_reducible rfl
               rotate_left
               ·simp only [Act.put, sa_, s0_, ss_, i64_w, i32_w]; rfl
               refine pu_ 8 (some 50) ?_ b13_21 rfl rfl HT_.out (by kernel_rfl) (fun _ _ _ h => h) (Or.inl ⟨by rfl, ?_⟩) ?_ ?_ ?_; rotate_left
               ·intro w'; go_simp; with_reducible rfl
               rotate_left
               ·simp only [Act.put, sa_, s0_, ss_, i64_w, i32_w]; rfl
               refine pu_ 9 (some 51) ?_ b13_22 rfl rfl HT_.out (by kernel_rfl) (fun _ _ _ h => h) (Or.inl ⟨by rfl, ?_⟩) ?_ ?_ ?_; rotate_left
               ·intro w'; go_simp; with_reducible rfl
               rotate_left
               ·simp only [Act.put, sa_, s0_, ss_, i64_w, i32_w]; rfl
               refine pu_ 10 (some 52) ?_ b13_23 rfl rfl HT_.out (by kernel_rfl) (fun _ _ _ h => h) (Or.inl ⟨by rfl, ?_⟩) ?_ ?_ ?_; rotate_left
               ·intro w'; go_simp; with_reducible rfl
               rotate_left
               ·simp only [Act.put, sa_, s0_, ss_, i64_w, i32_w]; rfl
               refine pu_ 11 (some 53) ?_ b13_24 rfl rfl HT_.out (by kernel_rfl) (fun _ _ _ h => h) (Or.inl ⟨by rfl, ?_⟩) ?_ ?_ ?_; rotate_left
               ·intro w'; go_simp; with_reducible rfl
               rotate_left
               ·simp only [Act.put, sa_, s0_, ss_, i64_w, i32_w]; rfl
               refine pu_ 12 (some 54) ?_ b13_25 rfl rfl HT_.out (by kernel_rfl) (fun _ _ _ h => h) (Or.inl ⟨by rfl, ?_⟩) ?_ ?_ ?_; rotate_left
               ·intro w'; go_simp; with_reducible rfl
               rotate_left
               ·simp only [Act.put, sa_, s0_, ss_, i64_w, i32_w]; rfl
               refine pu_ 14 (some 56) ?_ b13_26 rfl rfl HT_.out (by kernel_rfl) (fun _ _ _ h => h) (Or.inl ⟨by rfl, ?_⟩) ?_ ?_ ?_; rotate_left
               ·intro w'; go_simp; with_reducible rfl
               rotate_left
               ·simp only [Act.put, sa_, s0_, ss_, i64_w, i32_w]; rfl
               refine tk_ 13 (some 55) ?_ b13_27 rfl rfl HT_.out HW_.out (by kernel_rfl) (fun _ _ _ h => h) (Or.inl ⟨by rfl, ?_⟩) hHeld ?_ ?_ ?_; rotate_left
               ·rintro w' ⟨s0, s1, s2, s3, s4, s5, s6, s7, s8⟩; go_simp; with_reducible rfl
               rotate_left
               ·simp only [Act.put, sa_, s0_, ss_, i64_w, i32_w]; rfl
               refine tk_ 15 (some 57) ?_ b13_28 rfl rfl HT_.out HW_.out (by kernel_rfl) (fun _ _ _ h => h) (Or.inl ⟨by rfl, ?_⟩) hHeld ?_ ?_ ?_; rotate_left
               ·rintro w' ⟨s0, s1, s2, s3, s4, s5, s6, s7, s8⟩; go_simp; with_reducible rfl
               rotate_left
               ·simp only [Act.put, sa_, s0_, ss_, i64_w, i32_w]; rfl
               refine pu_ 16 (some 58) ?_ b13_29 rfl rfl HT_.out (by kernel_rfl) (fun _ _ _ h => h) (Or.inl ⟨by rfl, ?_⟩) ?_ ?_ ?_; rotate_left
               ·intro w'; go_simp; with_reducible rfl
               rotate_left
               ·simp only [Act.put, sa_, s0_, ss_, i64_w, i32_w]; rfl
               refine pu_ 17 (some 59) ?_ b13_30 rfl rfl HT_.out (by kernel_rfl) (fun _ _ _ h => h) (Or.inl ⟨by rfl, ?_⟩) ?_ ?_ ?_; rotate_left
               ·intro w'; go_simp; with_reducible rfl
               rotate_left
               ·simp only [Act.put, sa_, s0_, ss_, i64_w, i32_w]; rfl
               refine done_ (done_of HT_.out (by kernel_rfl)) ?_
               try go_wp2
               go_roundg kj17
               case measure => have := HK1.out; have := HJ17.out; omega
               case rel => exact ⟨(y156), (true), (wrap64 (x8_1 + 1)), (by first | rfl | (simp; done) | (simp [*]; done)), (by first | rfl | (simp; done) | (simp [*]; done)), H', ⟨by have := HK1.out; have := HJ17.out; omega⟩, ⟨kr (Kd.R_mono HO_5.out (fun _ hk => ⟨hk.2, hk.1⟩))⟩, ⟨kr HO158.out⟩, ⟨pk BK140.out⟩, ⟨by repeat (first | (with_reducible first | exact HB.out | apply below_alloc | apply pw_below_drewN | apply below_drew1 | refine below_set ?_ GE140.out) | exact HB.out)⟩⟩
              ·rw [if_neg c30] at H
               have c30b0 : (((rd_T34 l0 x8_1).f1).toList == a1_1.toList) = false := beq_eq_false_iff_ne.mpr c30
               have c30b1 : (((rd_T34 l0 x8_1).f1).toList != a1_1.toList) = true := bne_iff_ne.mpr c30
               by_cases c34 : y156.length < 3518437208883
               ·rw [if_pos c34] at H
                have LMc34 := Aside0.mk c34
                clear c34
                obtain ⟨y162, hy162⟩ : ∃ y_ : List (S34), y_ = (y156 ++ [(⟨(rd_T34 l0 x8_1).f0, (rd_T34 l0 x8_1).f1, (rd_T34 l0 x8_1).f2⟩ : S34)]) := ⟨_, rfl⟩
                replace H : (spec_KeyBind.l0 kj17 l0 y147 y162 true (wrap64 (x8_1 + 1)) a1_0 a1_1 a1_2) = some r := by first | (rw [hy162]; with_reducible exact H) | (have H2_ := (Option.bind_some _ _).symm.trans H; rw [hy162]; with_reducible exact H2_) | (have H2_ := (Option.bind_some _ _).symm.trans H; with_reducible exact H2_) | with_reducible exact H | (rw [hy162]; exact H) | exact H
                have Ny162 := am hy162
                clear hy162
                have H' := Aside0.mk H
                clear H
                have hcz35_0 : wc.cell? ⟨gb140, 0, none⟩ = some (.int .i64 a1_0) := bc BK140.out 0
                have hcz35_1 : wc.cell? ⟨gb140, 1, none⟩ = some (.string a1_1) := bc BK140.out 1
                have hcz35_2 : wc.cell? ⟨gb140, 2, none⟩ = some (.string a1_2) := bc BK140.out 2
                try go_wp2_with (first | ((with_reducible refine gate_builtin (b := .append) (xs := #[.tmp 38, .tmp 40]) rfl ?_); at_builtin; refine Kd.R_append k34 (w0 := w) w.heap.size rfl (.tmp 38) (.tmp 40) 24 34 (.agg #[(.int .i64 0), (.string ⟨#[]⟩), (.string ⟨#[]⟩)]) 40 rfl Try.underlying24 info34 rfl (by decide) (by omega) u6 x6_1 (⟨a1_0, a1_1, a1_2⟩ : S34) [.int .i64 a1_0, .string a1_1, .string a1_2] (fun k_ => some k_ ≠ (v148 : Value).ownBlock ∧ k_ ≠ gb140) (fun _ => False) rfl rfl ?aP (fun _ hk => hk.elim) ?aF ?aO ?aB ?aS ?aL ?_; (case aP => exact k34_mkM _ _ _ (⟨a1_0, a1_1, a1_2⟩ : S34)); (case aB => exact (bl HB.out)); (case aF => exact (fun k_ hk => ⟨Kd.fresh' (Kd.R_lt (kr HO_5.out)) k_ hk, Kd.freshB (g := gb140) (o := .cells #[.int .i64 a1_0, .string a1_1, .string a1_2] 34 (0, 0)) (pk BK140.out) k_ hk⟩)); (case aO => exact (kr HO_6.out)); (case aS => exact (below_size (bl HB.out))); (case aL => have := LMc26.out; omega); intro v157 w36 ho hb hg hat; rw [← Ny156.out] at ho; replace HO_5 := am (Kd.R_after (ok := (fun k_ => k_ ≠ gb140)) (kr (Kd.R_mono HO_5.out (fun _ hk => ⟨hk.2, hk.1⟩))) hg hat); replace BK140 := am (blk_grown (g := gb140) (o := .cells #[.int .i64 a1_0, .string a1_1, .string a1_2] 34 (0, 0)) (pk BK140.out) hg (Kd.R_away HO_6.out (fun _ hk => hk.2))); replace HB := am (hb); have HO158 := am (ho); clear HO_6; clear ho hb hg hat))
                replace HO_5 := am (Kd.R_drew HO_5.out)
                replace HO158 := am (Kd.R_drew HO158.out)
                replace BK140 := am (blk_drew BK140.out)
                replace HB := am (below_drew1 HB.out)
                have p159 : 0 ≤ (x8_1 : Int) := of_decide_eq_true (by first | (with_reducible assumption) | assumption)
                have q159 : x8_1 < (l0.length : Int) := of_decide_eq_true (by first | (with_reducible assumption) | assumption)
                obtain ⟨ad159, e159, hx159_0, hx159_1, hx159_2⟩ := at_T34 HR0.out x8_1 p159 q159
                have hw159_2 := hx159_2
                have hw159_1 := hx159_1
                have hw159_0 := hx159_0
                cases e159
                replace hx159_0 := (HB.out.cell (World.block_lt_of_cell? w _ hx159_0)).trans hx159_0
                replace hx159_1 := (HB.out.cell (World.block_lt_of_cell? w _ hx159_1)).trans hx159_1
                replace hx159_2 := (HB.out.cell (World.block_lt_of_cell? w _ hx159_2)).trans hx159_2
                replace p159 := eq_true p159
                replace q159 := eq_true q159
                have p160 : 0 ≤ (x8_1 : Int) := of_decide_eq_true (by first | (with_reducible assumption) | assumption)
                have q160 : x8_1 < (l0.length : Int) := of_decide_eq_true (by first | (with_reducible assumption) | assumption)
                obtain ⟨ad160, e160, hx160_0, hx160_1, hx160_2⟩ := at_T34 HR0.out x8_1 p160 q160
                have hw160_2 := hx160_2
                have hw160_1 := hx160_1
                have hw160_0 := hx160_0
                obtain rfl : ad159 = ad160 := (by injection e160)
                replace hx160_0 := (HB.out.cell (World.block_lt_of_cell? w _ hx160_0)).trans hx160_0
                replace hx160_1 := (HB.out.cell (World.block_lt_of_cell? w _ hx160_1)).trans hx160_1
                replace hx160_2 := (HB.out.cell (World.block_lt_of_cell? w _ hx160_2)).trans hx160_2
                replace p160 := eq_true p160
                replace q160 := eq_true q160
                refine start_ (n := 18) (S := fun w' => w'.cell? ⟨gb140, 0, none⟩ = some (.int .i64 a1_0) ∧ w'.cell? ⟨gb140, 1, none⟩ = some (.string a1_1) ∧ w'.cell? ⟨gb140, 2, none⟩ = some (.string a1_2) ∧ w'.cell? (ad159.add ((x8_1).toNat * 3)) = some (.int .i64 ((rd_T34 l0 x8_1).f0)) ∧ w'.cell? ⟨(ad159.add ((x8_1).toNat * 3)).block, (ad159.add ((x8_1).toNat * 3)).off + 1, none⟩ = some (.string ((rd_T34 l0 x8_1).f1)) ∧ w'.cell? ⟨(ad159.add ((x8_1).toNat * 3)).block, (ad159.add ((x8_1).toNat * 3)).off + 2, none⟩ = some (.string ((rd_T34 l0 x8_1).f2)) ∧ w'.cell? (ad159.add ((x8_1).toNat * 3)) = some (.int .i64 ((rd_T34 l0 x8_1).f0)) ∧ w'.cell? ⟨(ad159.add ((x8_1).toNat * 3)).block, (ad159.add ((x8_1).toNat * 3)).off + 1, none⟩ = some (.string ((rd_T34 l0 x8_1).f1)) ∧ w'.cell? ⟨(ad159.add ((x8_1).toNat * 3)).block, (ad159.add ((x8_1).toNat * 3)).off + 2, none⟩ = some (.string ((rd_T34 l0 x8_1).f2))) (ds := []) b13_12 (by kernel_rfl) rfl rfl ⟨bc BK140.out 0, bc BK140.out 1, bc BK140.out 2, ((HB.out.cell (World.block_lt_of_cell? _ _ hw159_0)).trans hw159_0), ((HB.out.cell (World.block_lt_of_cell? _ _ hw159_1)).trans hw159_1), ((HB.out.cell (World.block_lt_of_cell? _ _ hw159_2)).trans hw159_2), ((HB.out.cell (World.block_lt_of_cell? _ _ hw160_0)).trans hw160_0), ((HB.out.cell (World.block_lt_of_cell? _ _ hw160_1)).trans hw160_1), ((HB.out.cell (World.block_lt_of_cell? _ _ hw160_2)).trans hw160_2)⟩ (fun hHeld => ?_); refine with_tabW spec_KeyBind.tab14 spec_KeyBind.bits14 (fun HT_ HW_ => ?_)
                generalize w36.drew = w37 at HO_5 HO158 BK140 HB hx159_0 hx159_1 hx159_2 hx160_0 hx160_1 hx160_2 hHeld ⊢
                refine pu_ 0 (some 42) ?_ b13_13 rfl rfl HT_.out (by kernel_rfl) (fun _ _ _ h => h) (Or.inl ⟨by rfl, ?_⟩) ?_ ?_ ?_; rotate_left
                ·intro w'; go_simp; with_reducible rfl
                rotate_left
                ·simp only [Act.put, sa_, s0_, ss_, i64_w, i32_w]; rfl
                refine pu_ 1 (some 43) ?_ b13_14 rfl rfl HT_.out (by kernel_rfl) (fun _ _ _ h => h) (Or.inl ⟨by rfl, ?_⟩) ?_ ?_ ?_; rotate_left
                ·intro w'; go_simp; with_reducible rfl
                rotate_left
                ·simp only [Act.put, sa_, s0_, ss_, i64_w, i32_w]; rfl
                refine pu_ 2 (some 44) ?_ b13_15 rfl rfl HT_.out (by kernel_rfl) (fun _ _ _ h => h) (Or.inl ⟨by rfl, ?_⟩) ?_ ?_ ?_; rotate_left
                ·intro w'; go_simp; with_reducible rfl
                rotate_left
                ·simp only [Act.put, sa_, s0_, ss_, i64_w, i32_w]; rfl
                refine pu_ 3 (some 45) ?_ b13_16 rfl rfl HT_.out (by kernel_rfl) (fun _ _ _ h => h) (Or.inl ⟨by rfl, ?_⟩) ?_ ?_ ?_; rotate_left
                ·intro w'; go_simp; with_reducible rfl
                rotate_left
                ·simp only [Act.put, sa_, s0_, ss_, i64_w, i32_w]; rfl
                refine pu_ 5 (some 47) ?_ b13_17 rfl rfl HT_.out (by kernel_rfl) (fun _ _ _ h => h) (Or.inl ⟨by rfl, ?_⟩) ?_ ?_ ?_; rotate_left
                ·intro w'; go_simp; with_reducible rfl
                rotate_left
                ·simp only [Act.put, sa_, s0_, ss_, i64_w, i32_w]; rfl
                refine tk_ 4 (some 46) ?_ b13_18 rfl rfl HT_.out HW_.out (by kernel_rfl) (fun _ _ _ h => h) (Or.inl ⟨by rfl, ?_⟩) hHeld ?_ ?_ ?_; rotate_left
                ·rintro w' ⟨s0, s1, s2, s3, s4, s5, s6, s7, s8⟩; go_simp; with_reducible rfl
                rotate_left
                ·simp only [Act.put, sa_, s0_, ss_, i64_w, i32_w]; rfl
                refine tk_ 6 (some 48) ?_ b13_19 rfl rfl HT_.out HW_.out (by kernel_rfl) (fun _ _ _ h => h) (Or.inl ⟨by rfl, ?_⟩) hHeld ?_ ?_ ?_; rotate_left
                ·rintro w' ⟨s0, s1, s2, s3, s4, s5, s6, s7, s8⟩; go_simp; with_reducible rfl
                rotate_left
                ·simp only [Act.put, sa_, s0_, ss_, i64_w, i32_w]; rfl
                refine pu_ 7 (some 49) ?_ b13_20 rfl rfl HT_.out (by kernel_rfl) (fun _ _ _ h => h) (Or.inl ⟨by rfl, ?_⟩) ?_ ?_ ?_; rotate_left
                ·intro w'; go_simp; with_reducible rfl
                rotate_left
                ·simp only [Act.put, sa_, s0_, ss_, i64_w, i32_w]; rfl
                refine pu_ 8 (some 50) ?_ b13_21 rfl rfl HT_.out (by kernel_rfl) (fun _ _ _ h => h) (Or.inl ⟨by rfl, ?_⟩) ?_ ?_ ?_; rotate_left
                ·intro w'; go_simp; with_reducible rfl
                rotate_left
                ·simp only [Act.put, sa_, s0_, ss_, i64_w, i32_w]; rfl
                refine pu_ 9 (some 51) ?_ b13_22 rfl rfl HT_.out (by kernel_rfl) (fun _ _ _ h => h) (Or.inl ⟨by rfl, ?_⟩) ?_ ?_ ?_; rotate_left
                ·intro w'; go_simp; with_reducible rfl
                rotate_left
                ·simp only [Act.put, sa_, s0_, ss_, i64_w, i32_w]; rfl
                refine pu_ 10 (some 52) ?_ b13_23 rfl rfl HT_.out (by kernel_rfl) (fun _ _ _ h => h) (Or.inl ⟨by rfl, ?_⟩) ?_ ?_ ?_; rotate_left
                ·intro w'; go_simp; with_reducible rfl
                rotate_left
                ·simp only [Act.put, sa_, s0_, ss_, i64_w, i32_w]; rfl
                refine pu_ 11 (some 53) ?_ b13_24 rfl rfl HT_.out (by kernel_rfl) (fun _ _ _ h => h) (Or.inl ⟨by rfl, ?_⟩) ?_ ?_ ?_; rotate_left
                ·intro w'; go_simp; with_reducible rfl
                rotate_left
                ·simp only [Act.put, sa_, s0_, ss_, i64_w, i32_w]; rfl
                refine pu_ 12 (some 54) ?_ b13_25 rfl rfl HT_.out (by kernel_rfl) (fun _ _ _ h => h) (Or.inl ⟨by rfl, ?_⟩) ?_ ?_ ?_; rotate_left
                ·intro w'; go_simp; with_reducible rfl
                rotate_left
                ·simp only [Act.put, sa_, s0_, ss_, i64_w, i32_w]; rfl
                refine pu_ 14 (some 56) ?_ b13_26 rfl rfl HT_.out (by kernel_rfl) (fun _ _ _ h => h) (Or.inl ⟨by rfl, ?_⟩) ?_ ?_ ?_; rotate_left
                ·intro w'; go_simp; with_reducible rfl
                rotate_left
                ·simp only [Act.put, sa_, s0_, ss_, i64_w, i32_w]; rfl
                refine tk_ 13 (some 55) ?_ b13_27 rfl rfl HT_.out HW_.out (by kernel_rfl) (fun _ _ _ h => h) (Or.inl ⟨by rfl, ?_⟩) hHeld ?_ ?_ ?_; rotate_left
                ·rintro w' ⟨s0, s1, s2, s3, s4, s5, s6, s7, s8⟩; go_simp; with_reducible rfl
                rotate_left
                ·simp only [Act.put, sa_, s0_, ss_, i64_w, i32_w]; rfl
                refine tk_ 15 (some 57) ?_ b13_28 rfl rfl HT_.out HW_.out (by kernel_rfl) (fun _ _ _ h => h) (Or.inl ⟨by rfl, ?_⟩) hHeld ?_ ?_ ?_; rotate_left
                ·rintro w' ⟨s0, s1, s2, s3, s4, s5, s6, s7, s8⟩; go_simp; with_reducible rfl
                rotate_left
                ·simp only [Act.put, sa_, s0_, ss_, i64_w, i32_w]; rfl
                refine pu_ 16 (some 58) ?_ b13_29 rfl rfl HT_.out (by kernel_rfl) (fun _ _ _ h => h) (Or.inl ⟨by rfl, ?_⟩) ?_ ?_ ?_; rotate_left
                ·intro w'; go_simp; with_reducible rfl
                rotate_left
                ·simp only [Act.put, sa_, s0_, ss_, i64_w, i32_w]; rfl
                refine pu_ 17 (some 59) ?_ b13_30 rfl rfl HT_.out (by kernel_rfl) (fun _ _ _ h => h) (Or.inl ⟨by rfl, ?_⟩) ?_ ?_ ?_; rotate_left
                ·intro w'; go_simp; with_reducible rfl
                rotate_left
                ·simp only [Act.put, sa_, s0_, ss_, i64_w, i32_w]; rfl
                refine done_ (done_of HT_.out (by kernel_rfl)) ?_
                have p161 : 0 ≤ (x8_1 : Int) := of_decide_eq_true (by first | (with_reducible assumption) | assumption)
                have q161 : x8_1 < (l0.length : Int) := of_decide_eq_true (by first | (with_reducible assumption) | assumption)
                obtain ⟨ad161, e161, hx161_0, hx161_1, hx161_2⟩ := at_T34 HR0.out x8_1 p161 q161
                obtain rfl : ad159 = ad161 := (by injection e161)
                replace hx161_0 := (HB.out.cell (World.block_lt_of_cell? w _ hx161_0)).trans hx161_0
                replace hx161_1 := (HB.out.cell (World.block_lt_of_cell? w _ hx161_1)).trans hx161_1
                replace hx161_2 := (HB.out.cell (World.block_lt_of_cell? w _ hx161_2)).trans hx161_2
                replace p161 := eq_true p161
                replace q161 := eq_true q161
                try go_wp2_with (first | ((with_reducible refine gate_builtin (b := .append) (xs := #[.tmp 60, .tmp 65]) rfl ?_); at_builtin; refine Kd.R_append k34 (w0 := w) w.heap.size rfl (.tmp 60) (.tmp 65) 24 34 (.agg #[(.int .i64 0), (.string ⟨#[]⟩), (.string ⟨#[]⟩)]) 40 rfl Try.underlying24 info34 rfl (by decide) (by omega) v157 y156 (⟨(rd_T34 l0 x8_1).f0, (rd_T34 l0 x8_1).f1, (rd_T34 l0 x8_1).f2⟩ : S34) [.int .i64 ((rd_T34 l0 x8_1).f0), .string ((rd_T34 l0 x8_1).f1), .string ((rd_T34 l0 x8_1).f2)] (fun k_ => some k_ ≠ (v148 : Value).ownBlock ∧ k_ ≠ gb140) (fun _ => False) rfl rfl ?aP (fun _ hk => hk.elim) ?aF ?aO ?aB ?aS ?aL ?_; (case aP => exact k34_mkM _ _ _ (⟨(rd_T34 l0 x8_1).f0, (rd_T34 l0 x8_1).f1, (rd_T34 l0 x8_1).f2⟩ : S34)); (case aB => exact (bl HB.out)); (case aF => exact (fun k_ hk => ⟨Kd.fresh' (Kd.R_lt (kr HO_5.out)) k_ hk, Kd.freshB (g := gb140) (o := .cells #[.int .i64 a1_0, .string a1_1, .string a1_2] 34 (0, 0)) (pk BK140.out) k_ hk⟩)); (case aO => exact (kr HO158.out)); (case aS => exact (below_size (bl HB.out))); (case aL => have := LMc34.out; omega); intro v163 w38 ho hb hg hat; rw [← Ny162.out] at ho; replace HO_5 := am (Kd.R_after (ok := (fun k_ => k_ ≠ gb140)) (kr HO_5.out) hg hat); replace BK140 := am (blk_grown (g := gb140) (o := .cells #[.int .i64 a1_0, .string a1_1, .string a1_2] 34 (0, 0)) (pk BK140.out) hg (Kd.R_away HO158.out (fun _ hk => hk.2))); replace HB := am (hb); have HO164 := am (ho); clear HO158; clear ho hb hg hat))
                go_roundg kj17
                case measure => have := HK1.out; have := HJ17.out; omega
                case rel => exact ⟨(y162), (true), (wrap64 (x8_1 + 1)), (by first | rfl | (simp; done) | (simp [*]; done)), (by first | rfl | (simp; done) | (simp [*]; done)), H', ⟨by have := HK1.out; have := HJ17.out; omega⟩, ⟨kr (Kd.R_mono HO_5.out (fun _ hk => ⟨hk.2, hk.1⟩))⟩, ⟨kr HO164.out⟩, ⟨pk BK140.out⟩, ⟨by repeat (first | (with_reducible first | exact HB.out | apply below_alloc | apply pw_below_drewN | apply below_drew1 | refine below_set ?_ GE140.out) | exact HB.out)⟩⟩
               ·rw [if_neg c34] at H
                exact absurd H (by simp)
             ·rw [if_neg c29] at H
              have c29b0 : (((rd_T34 l0 x8_1).f0) == a1_0) = false := beq_eq_false_iff_ne.mpr c29
              have c29b1 : (((rd_T34 l0 x8_1).f0) != a1_0) = true := bne_iff_ne.mpr c29
              by_cases c39 : y156.length < 3518437208883
              ·rw [if_pos c39] at H
               have LMc39 := Aside0.mk c39
               clear c39
               obtain ⟨y166, hy166⟩ : ∃ y_ : List (S34), y_ = (y156 ++ [(⟨(rd_T34 l0 x8_1).f0, (rd_T34 l0 x8_1).f1, (rd_T34 l0 x8_1).f2⟩ : S34)]) := ⟨_, rfl⟩
               replace H : (spec_KeyBind.l0 kj17 l0 y147 y166 true (wrap64 (x8_1 + 1)) a1_0 a1_1 a1_2) = some r := by first | (rw [hy166]; with_reducible exact H) | (have H2_ := (Option.bind_some _ _).symm.trans H; rw [hy166]; with_reducible exact H2_) | (have H2_ := (Option.bind_some _ _).symm.trans H; with_reducible exact H2_) | with_reducible exact H | (rw [hy166]; exact H) | exact H
               have Ny166 := am hy166
               clear hy166
               have H' := Aside0.mk H
               clear H
               have hcz40_0 : wc.cell? ⟨gb140, 0, none⟩ = some (.int .i64 a1_0) := bc BK140.out 0
               have hcz40_1 : wc.cell? ⟨gb140, 1, none⟩ = some (.string a1_1) := bc BK140.out 1
               have hcz40_2 : wc.cell? ⟨gb140, 2, none⟩ = some (.string a1_2) := bc BK140.out 2
               try go_wp2_with (first | ((with_reducible refine gate_builtin (b := .append) (xs := #[.tmp 38, .tmp 40]) rfl ?_); at_builtin; refine Kd.R_append k34 (w0 := w) w.heap.size rfl (.tmp 38) (.tmp 40) 24 34 (.agg #[(.int .i64 0), (.string ⟨#[]⟩), (.string ⟨#[]⟩)]) 40 rfl Try.underlying24 info34 rfl (by decide) (by omega) u6 x6_1 (⟨a1_0, a1_1, a1_2⟩ : S34) [.int .i64 a1_0, .string a1_1, .string a1_2] (fun k_ => some k_ ≠ (v148 : Value).ownBlock ∧ k_ ≠ gb140) (fun _ => False) rfl rfl ?aP (fun _ hk => hk.elim) ?aF ?aO ?aB ?aS ?aL ?_; (case aP => exact k34_mkM _ _ _ (⟨a1_0, a1_1, a1_2⟩ : S34)); (case aB => exact (bl HB.out)); (case aF => exact (fun k_ hk => ⟨Kd.fresh' (Kd.R_lt (kr HO_5.out)) k_ hk, Kd.freshB (g := gb140) (o := .cells #[.int .i64 a1_0, .string a1_1, .string a1_2] 34 (0, 0)) (pk BK140.out) k_ hk⟩)); (case aO => exact (kr HO_6.out)); (case aS => exact (below_size (bl HB.out))); (case aL => have := LMc26.out; omega); intro v157 w41 ho hb hg hat; rw [← Ny156.out] at ho; replace HO_5 := am (Kd.R_after (ok := (fun k_ => k_ ≠ gb140)) (kr (Kd.R_mono HO_5.out (fun _ hk => ⟨hk.2, hk.1⟩))) hg hat); replace BK140 := am (blk_grown (g := gb140) (o := .cells #[.int .i64 a1_0, .string a1_1, .string a1_2] 34 (0, 0)) (pk BK140.out) hg (Kd.R_away HO_6.out (fun _ hk => hk.2))); replace HB := am (hb); have HO158 := am (ho); clear HO_6; clear ho hb hg hat))
               replace HO_5 := am (Kd.R_drew HO_5.out)
               replace HO158 := am (Kd.R_drew HO158.out)
               replace BK140 := am (blk_drew BK140.out)
               replace HB := am (below_drew1 HB.out)
               have p159 : 0 ≤ (x8_1 : Int) := of_decide_eq_true (by first | (with_reducible assumption) | assumption)
               have q159 : x8_1 < (l0.length : Int) := of_decide_eq_true (by first | (with_reducible assumption) | assumption)
               obtain ⟨ad159, e159, hx159_0, hx159_1, hx159_2⟩ := at_T34 HR0.out x8_1 p159 q159
               have hw159_2 := hx159_2
               have hw159_1 := hx159_1
               have hw159_0 := hx159_0
               cases e159
               replace hx159_0 := (HB.out.cell (World.block_lt_of_cell? w _ hx159_0)).trans hx159_0
               replace hx159_1 := (HB.out.cell (World.block_lt_of_cell? w _ hx159_1)).trans hx159_1
               replace hx159_2 := (HB.out.cell (World.block_lt_of_cell? w _ hx159_2)).trans hx159_2
               replace p159 := eq_true p159
               replace q159 := eq_true q159
               refine start_ (n := 18) (S := fun w' => w'.cell? ⟨gb140, 0, none⟩ = some (.int .i64 a1_0) ∧ w'.cell? ⟨gb140, 1, none⟩ = some (.string a1_1) ∧ w'.cell? ⟨gb140, 2, none⟩ = some (.string a1_2) ∧ w'.cell? (ad159.add ((x8_1).toNat * 3)) = some (.int .i64 ((rd_T34 l0 x8_1).f0)) ∧ w'.cell? ⟨(ad159.add ((x8_1).toNat * 3)).block, (ad159.add ((x8_1).toNat * 3)).off + 1, none⟩ = some (.string ((rd_T34 l0 x8_1).f1)) ∧ w'.cell? ⟨(ad159.add ((x8_1).toNat * 3)).block, (ad159.add ((x8_1).toNat * 3)).off + 2, none⟩ = some (.string ((rd_T34 l0 x8_1).f2))) (ds := []) b13_12 (by kernel_rfl) rfl rfl ⟨bc BK140.out 0, bc BK140.out 1, bc BK140.out 2, ((HB.out.cell (World.block_lt_of_cell? _ _ hw159_0)).trans hw159_0), ((HB.out.cell (World.block_lt_of_cell? _ _ hw159_1)).trans hw159_1), ((HB.out.cell (World.block_lt_of_cell? _ _ hw159_2)).trans hw159_2)⟩ (fun hHeld => ?_); refine with_tabW spec_KeyBind.tab14 spec_KeyBind.bits14 (fun HT_ HW_ => ?_)
               generalize w41.drew = w42 at HO_5 HO158 BK140 HB hx159_0 hx159_1 hx159_2 hHeld ⊢
               refine pu_ 0 (some 42) ?_ b13_13 rfl rfl HT_.out (by kernel_rfl) (fun _ _ _ h => h) (Or.inl ⟨by rfl, ?_⟩) ?_ ?_ ?_; rotate_left
               ·intro w'; go_simp; with_reducible rfl
               rotate_left
               ·simp only [Act.put, sa_, s0_, ss_, i64_w, i32_w]; rfl
               refine pu_ 1 (some 43) ?_ b13_14 rfl rfl HT_.out (by kernel_rfl) (fun _ _ _ h => h) (Or.inl ⟨by rfl, ?_⟩) ?_ ?_ ?_; rotate_left
               ·intro w'; go_simp; with_reducible rfl
               rotate_left
               ·simp only [Act.put, sa_, s0_, ss_, i64_w, i32_w]; rfl
               refine pu_ 2 (some 44) ?_ b13_15 rfl rfl HT_.out (by kernel_rfl) (fun _ _ _ h => h) (Or.inl ⟨by rfl, ?_⟩) ?_ ?_ ?_; rotate_left
               ·intro w'; go_simp; with_reducible rfl
               rotate_left
               ·simp only [Act.put, sa_, s0_, ss_, i64_w, i32_w]; rfl
               refine pu_ 3 (some 45) ?_ b13_16 rfl rfl HT_.out (by kernel_rfl) (fun _ _ _ h => h) (Or.inl ⟨by rfl, ?_⟩) ?_ ?_ ?_; rotate_left
               ·intro w'; go_simp; with_reducible rfl
               rotate_left
               ·simp only [Act.put, sa_, s0_, ss_, i64_w, i32_w]; rfl
               refine pu_ 5 (some 47) ?_ b13_17 rfl rfl HT_.out (by kernel_rfl) (fun _ _ _ h => h) (Or.inl ⟨by rfl, ?_⟩) ?_ ?_ ?_; rotate_left
               ·intro w'; go_simp; with_reducible rfl
               rotate_left
               ·simp only [Act.put, sa_, s0_, ss_, i64_w, i32_w]; rfl
               refine tk_ 4 (some 46) ?_ b13_18 rfl rfl HT_.out HW_.out (by kernel_rfl) (fun _ _ _ h => h) (Or.inl ⟨by rfl, ?_⟩) hHeld ?_ ?_ ?_; rotate_left
               ·rintro w' ⟨s0, s1, s2, s3, s4, s5⟩; go_simp; with_reducible rfl
               rotate_left
               ·simp only [Act.put, sa_, s0_, ss_, i64_w, i32_w]; rfl
               refine tk_ 6 (some 48) ?_ b13_19 rfl rfl HT_.out HW_.out (by kernel_rfl) (fun _ _ _ h => h) (Or.inl ⟨by rfl, ?_⟩) hHeld ?_ ?_ ?_; rotate_left
               ·rintro w' ⟨s0, s1, s2, s3, s4, s5⟩; go_simp; with_reducible rfl
               rotate_left
               ·simp only [Act.put, sa_, s0_, ss_, i64_w, i32_w]; rfl
               refine pu_ 7 (some 49) ?_ b13_20 rfl rfl HT_.out (by kernel_rfl) (fun _ _ _ h => h) (Or.inl ⟨by rfl, ?_⟩) ?_ ?_ ?_; rotate_left
               ·intro w'; go_simp; with_reducible rfl
               rotate_left
               ·simp only [Act.put, sa_, s0_, ss_, i64_w, i32_w]; rfl
               refine pu_ 8 (some 50) ?_ b13_21 rfl rfl HT_.out (by kernel_rfl) (fun _ _ _ h => h) (Or.inl ⟨by rfl, ?_⟩) ?_ ?_ ?_; rotate_left
               ·intro w'; go_simp; with_reducible rfl
               rotate_left
               ·simp only [Act.put, sa_, s0_, ss_, i64_w, i32_w]; rfl
               refine pu_ 9 (some 51) undef b13_22 rfl rfl HT_.out (by kernel_rfl) (fun _ _ _ h => h) (Or.inr ⟨by rfl, rfl⟩) ?_ ?_ ?_; rotate_left
               ·simp only [Act.put, sa_, s0_, ss_, i64_w, i32_w]; rfl
               refine pu_ 10 (some 52) undef b13_23 rfl rfl HT_.out (by kernel_rfl) (fun _ _ _ h => h) (Or.inr ⟨by rfl, rfl⟩) ?_ ?_ ?_; rotate_left
               ·simp only [Act.put, sa_, s0_, ss_, i64_w, i32_w]; rfl
               refine pu_ 11 (some 53) undef b13_24 rfl rfl HT_.out (by kernel_rfl) (fun _ _ _ h => h) (Or.inr ⟨by rfl, rfl⟩) ?_ ?_ ?_; rotate_left
               ·simp only [Act.put, sa_, s0_, ss_, i64_w, i32_w]; rfl
               refine pu_ 12 (some 54) undef b13_25 rfl rfl HT_.out (by kernel_rfl) (fun _ _ _ h => h) (Or.inr ⟨by rfl, rfl⟩) ?_ ?_ ?_; rotate_left
               ·simp only [Act.put, sa_, s0_, ss_, i64_w, i32_w]; rfl
               refine pu_ 13 (some 55) undef b13_31 rfl rfl HT_.out (by kernel_rfl) (fun _ _ _ h => h) (Or.inr ⟨by rfl, rfl⟩) ?_ ?_ ?_; rotate_left
               ·simp only [Act.put, sa_, s0_, ss_, i64_w, i32_w]; rfl
               refine pu_ 14 (some 56) undef b13_27 rfl rfl HT_.out (by kernel_rfl) (fun _ _ _ h => h) (Or.inr ⟨by rfl, rfl⟩) ?_ ?_ ?_; rotate_left
               ·simp only [Act.put, sa_, s0_, ss_, i64_w, i32_w]; rfl
               refine pu_ 15 (some 57) undef b13_28 rfl rfl HT_.out (by kernel_rfl) (fun _ _ _ h => h) (Or.inr ⟨by rfl, rfl⟩) ?_ ?_ ?_; rotate_left
               ·simp only [Act.put, sa_, s0_, ss_, i64_w, i32_w]; rfl
               refine pu_ 16 (some 58) undef b13_29 rfl rfl HT_.out (by kernel_rfl) (fun _ _ _ h => h) (Or.inr ⟨by rfl, rfl⟩) ?_ ?_ ?_; rotate_left
               ·simp only [Act.put, sa_, s0_, ss_, i64_w, i32_w]; rfl
               refine pu_ 17 (some 59) ?_ b13_30 rfl rfl HT_.out (by kernel_rfl) (fun _ _ _ h => h) (Or.inl ⟨by rfl, ?_⟩) ?_ ?_ ?_; rotate_left
               ·intro w'; go_simp; with_reducible rfl
               rotate_left
               ·simp only [Act.put, sa_, s0_, ss_, i64_w, i32_w]; rfl
               refine done_ (done_of HT_.out (by kernel_rfl)) ?_
               have p165 : 0 ≤ (x8_1 : Int) := of_decide_eq_true (by first | (with_reducible assumption) | assumption)
               have q165 : x8_1 < (l0.length : Int) := of_decide_eq_true (by first | (with_reducible assumption) | assumption)
               obtain ⟨ad165, e165, hx165_0, hx165_1, hx165_2⟩ := at_T34 HR0.out x8_1 p165 q165
               obtain rfl : ad159 = ad165 := (by injection e165)
               replace hx165_0 := (HB.out.cell (World.block_lt_of_cell? w _ hx165_0)).trans hx165_0
               replace hx165_1 := (HB.out.cell (World.block_lt_of_cell? w _ hx165_1)).trans hx165_1
               replace hx165_2 := (HB.out.cell (World.block_lt_of_cell? w _ hx165_2)).trans hx165_2
               replace p165 := eq_true p165
               replace q165 := eq_true q165
               try go_wp2_with (first | ((with_reducible refine gate_builtin (b := .append) (xs := #[.tmp 60, .tmp 65]) rfl ?_); at_builtin; refine Kd.R_append k34 (w0 := w) w.heap.size rfl (.tmp 60) (.tmp 65) 24 34 (.agg #[(.int .i64 0), (.string ⟨#[]⟩), (.string ⟨#[]⟩)]) 40 rfl Try.underlying24 info34 rfl (by decide) (by omega) v157 y156 (⟨(rd_T34 l0 x8_1).f0, (rd_T34 l0 x8_1).f1, (rd_T34 l0 x8_1).f2⟩ : S34) [.int .i64 ((rd_T34 l0 x8_1).f0), .string ((rd_T34 l0 x8_1).f1), .string ((rd_T34 l0 x8_1).f2)] (fun k_ => some k_ ≠ (v148 : Value).ownBlock ∧ k_ ≠ gb140) (fun _ => False) rfl rfl ?aP (fun _ hk => hk.elim) ?aF ?aO ?aB ?aS ?aL ?_; (case aP => exact k34_mkM _ _ _ (⟨(rd_T34 l0 x8_1).f0, (rd_T34 l0 x8_1).f1, (rd_T34 l0 x8_1).f2⟩ : S34)); (case aB => exact (bl HB.out)); (case aF => exact (fun k_ hk => ⟨Kd.fresh' (Kd.R_lt (kr HO_5.out)) k_ hk, Kd.freshB (g := gb140) (o := .cells #[.int .i64 a1_0, .string a1_1, .string a1_2] 34 (0, 0)) (pk BK140.out) k_ hk⟩)); (case aO => exact (kr HO158.out)); (case aS => exact (below_size (bl HB.out))); (case aL => have := LMc39.out; omega); intro v167 w43 ho hb hg hat; rw [← Ny166.out] at ho; replace HO_5 := am (Kd.R_after (ok := (fun k_ => k_ ≠ gb140)) (kr HO_5.out) hg hat); replace BK140 := am (blk_grown (g := gb140) (o := .cells #[.int .i64 a1_0, .string a1_1, .string a1_2] 34 (0, 0)) (pk BK140.out) hg (Kd.R_away HO158.out (fun _ hk => hk.2))); replace HB := am (hb); have HO168 := am (ho); clear HO158; clear ho hb hg hat))
               go_roundg kj17
               case measure => have := HK1.out; have := HJ17.out; omega
               case rel => exact ⟨(y166), (true), (wrap64 (x8_1 + 1)), (by first | rfl | (simp; done) | (simp [*]; done)), (by first | rfl | (simp; done) | (simp [*]; done)), H', ⟨by have := HK1.out; have := HJ17.out; omega⟩, ⟨kr (Kd.R_mono HO_5.out (fun _ hk => ⟨hk.2, hk.1⟩))⟩, ⟨kr HO168.out⟩, ⟨pk BK140.out⟩, ⟨by repeat (first | (with_reducible first | exact HB.out | apply below_alloc | apply pw_below_drewN | apply below_drew1 | refine below_set ?_ GE140.out) | exact HB.out)⟩⟩
              ·rw [if_neg c39] at H
               exact absurd H (by simp)
            ·rw [if_neg c28] at H
             exact absurd H (by simp)
           ·rw [if_neg c27] at H
            exact absurd H (by simp)
          ·rw [if_neg c26] at H
           exact absurd H (by simp)
         ·replace c25 := Bool.eq_false_iff.mpr c25
          subst c25
          have H1 : (if 0 ≤ x8_1 then (if x8_1 < (l0.length : Int) then (if ((rd_T34 l0 x8_1).f0) = a1_0 then (if ((rd_T34 l0 x8_1).f1).toList = a1_1.toList then (spec_KeyBind.l0 kj17 l0 y147 x6_1 x7_1 (wrap64 (x8_1 + 1)) a1_0 a1_1 a1_2) else (if x6_1.length < 3518437208883 then (spec_KeyBind.l0 kj17 l0 y147 (x6_1 ++ [(⟨(rd_T34 l0 x8_1).f0, (rd_T34 l0 x8_1).f1, (rd_T34 l0 x8_1).f2⟩ : S34)]) x7_1 (wrap64 (x8_1 + 1)) a1_0 a1_1 a1_2) else (none))) else (if x6_1.length < 3518437208883 then (spec_KeyBind.l0 kj17 l0 y147 (x6_1 ++ [(⟨(rd_T34 l0 x8_1).f0, (rd_T34 l0 x8_1).f1, (rd_T34 l0 x8_1).f2⟩ : S34)]) x7_1 (wrap64 (x8_1 + 1)) a1_0 a1_1 a1_2) else (none))) else (none)) else (none)) = some r := by rw [if_neg (show ¬ (false = true) by decide)] at H; exact H
          clear H
          have H := H1
          clear H1
          by_cases c44 : 0 ≤ x8_1
          ·rw [if_pos c44] at H
           have c44b0 : decide (0 ≤ x8_1) = true := decide_eq_true c44
           clear c44
           by_cases c45 : x8_1 < (l0.length : Int)
           ·rw [if_pos c45] at H
            have c45b0 : decide (x8_1 < (l0.length : Int)) = true := decide_eq_true c45
            clear c45
            by_cases c46 : ((rd_T34 l0 x8_1).f0) = a1_0
            ·rw [if_pos c46] at H
             have c46b0 : (((rd_T34 l0 x8_1).f0) == a1_0) = true := beq_iff_eq.mpr c46
             have c46b1 : (((rd_T34 l0 x8_1).f0) != a1_0) = false := bne_eq_false_iff_eq.mpr c46
             clear c46
             by_cases c47 : ((rd_T34 l0 x8_1).f1).toList = a1_1.toList
             ·rw [if_pos c47] at H
              have c47b0 : (((rd_T34 l0 x8_1).f1).toList == a1_1.toList) = true := beq_iff_eq.mpr c47
              have c47b1 : (((rd_T34 l0 x8_1).f1).toList != a1_1.toList) = false := bne_eq_false_iff_eq.mpr c47
              clear c47
              have H' := Aside0.mk H
              clear H
              try go_wp2
              replace HO_5 := am (Kd.R_drew HO_5.out)
              replace HO_6 := am (Kd.R_drew HO_6.out)
              replace BK140 := am (blk_drew BK140.out)
              replace HB := am (below_drew1 HB.out)
              have p169 : 0 ≤ (x8_1 : Int) := of_decide_eq_true (by first | (with_reducible assumption) | assumption)
              have q169 : x8_1 < (l0.length : Int) := of_decide_eq_true (by first | (with_reducible assumption) | assumption)
              obtain ⟨ad169, e169, hx169_0, hx169_1, hx169_2⟩ := at_T34 HR0.out x8_1 p169 q169
              have hw169_2 := hx169_2
              have hw169_1 := hx169_1
              have hw169_0 := hx169_0
              cases e169
              replace hx169_0 := (HB.out.cell (World.block_lt_of_cell? w _ hx169_0)).trans hx169_0
              replace hx169_1 := (HB.out.cell (World.block_lt_of_cell? w _ hx169_1)).trans hx169_1
              replace hx169_2 := (HB.out.cell (World.block_lt_of_cell? w _ hx169_2)).trans hx169_2
              replace p169 := eq_true p169
              replace q169 := eq_true q169
              have p170 : 0 ≤ (x8_1 : Int) := of_decide_eq_true (by first | (with_reducible assumption) | assumption)
              have q170 : x8_1 < (l0.length : Int) := of_decide_eq_true (by first | (with_reducible assumption) | assumption)
              obtain ⟨ad170, e170, hx170_0, hx170_1, hx170_2⟩ := at_T34 HR0.out x8_1 p170 q170
              have hw170_2 := hx170_2
              have hw170_1 := hx170_1
              have hw170_0 := hx170_0
              obtain rfl : ad169 = ad170 := (by injection e170)
              replace hx170_0 := (HB.out.cell (World.block_lt_of_cell? w _ hx170_0)).trans hx170_0
              replace hx170_1 := (HB.out.cell (World.block_lt_of_cell? w _ hx170_1)).trans hx170_1
              replace hx170_2 := (HB.out.cell (World.block_lt_of_cell? w _ hx170_2)).trans hx170_2
              replace p170 := eq_true p170
              replace q170 := eq_true q170
              refine start_ (n := 18) (S := fun w' => w'.cell? ⟨gb140, 0, none⟩ = some (.int .i64 a1_0) ∧ w'.cell? ⟨gb140, 1, none⟩ = some (.string a1_1) ∧ w'.cell? ⟨gb140, 2, none⟩ = some (.string a1_2) ∧ w'.cell? (ad169.add ((x8_1).toNat * 3)) = some (.int .i64 ((rd_T34 l0 x8_1).f0)) ∧ w'.cell? ⟨(ad169.add ((x8_1).toNat * 3)).block, (ad169.add ((x8_1).toNat * 3)).off + 1, none⟩ = some (.string ((rd_T34 l0 x8_1).f1)) ∧ w'.cell? ⟨(ad169.add ((x8_1).toNat * 3)).block, (ad169.add ((x8_1).toNat * 3)).off + 2, none⟩ = some (.string ((rd_T34 l0 x8_1).f2)) ∧ w'.cell? (ad169.add ((x8_1).toNat * 3)) = some (.int .i64 ((rd_T34 l0 x8_1).f0)) ∧ w'.cell? ⟨(ad169.add ((x8_1).toNat * 3)).block, (ad169.add ((x8_1).toNat * 3)).off + 1, none⟩ = some (.string ((rd_T34 l0 x8_1).f1)) ∧ w'.cell? ⟨(ad169.add ((x8_1).toNat * 3)).block, (ad169.add ((x8_1).toNat * 3)).off + 2, none⟩ = some (.string ((rd_T34 l0 x8_1).f2))) (ds := []) b13_12 (by kernel_rfl) rfl rfl ⟨bc BK140.out 0, bc BK140.out 1, bc BK140.out 2, ((HB.out.cell (World.block_lt_of_cell? _ _ hw169_0)).trans hw169_0), ((HB.out.cell (World.block_lt_of_cell? _ _ hw169_1)).trans hw169_1), ((HB.out.cell (World.block_lt_of_cell? _ _ hw169_2)).trans hw169_2), ((HB.out.cell (World.block_lt_of_cell? _ _ hw170_0)).trans hw170_0), ((HB.out.cell (World.block_lt_of_cell? _ _ hw170_1)).trans hw170_1), ((HB.out.cell (World.block_lt_of_cell? _ _ hw170_2)).trans hw170_2)⟩ (fun hHeld => ?_); refine with_tabW spec_KeyBind.tab14 spec_KeyBind.bits14 (fun HT_ HW_ => ?_)
              generalize wc.drew = w48 at HO_5 HO_6 BK140 HB hx169_0 hx169_1 hx169_2 hx170_0 hx170_1 hx170_2 hHeld ⊢
              refine pu_ 0 (some 42) ?_ b13_13 rfl rfl HT_.out (by kernel_rfl) (fun _ _ _ h => h) (Or.inl ⟨by rfl, ?_⟩) ?_ ?_ ?_; rotate_left
              ·intro w'; go_simp; with_reducible rfl
              rotate_left
              ·simp only [Act.put, sa_, s0_, ss_, i64_w, i32_w]; rfl
              refine pu_ 1 (some 43) ?_ b13_14 rfl rfl HT_.out (by kernel_rfl) (fun _ _ _ h => h) (Or.inl ⟨by rfl, ?_⟩) ?_ ?_ ?_; rotate_left
              ·intro w'; go_simp; with_reducible rfl
              rotate_left
              ·simp only [Act.put, sa_, s0_, ss_, i64_w, i32_w]; rfl
              refine pu_ 2 (some 44) ?_ b13_15 rfl rfl HT_.out (by kernel_rfl) (fun _ _ _ h => h) (Or.inl ⟨by rfl, ?_⟩) ?_ ?_ ?_; rotate_left
              ·intro w'; go_simp; with_reducible rfl
              rotate_left
              ·simp only [Act.put, sa_, s0_, ss_, i64_w, i32_w]; rfl
              refine pu_ 3 (some 45) ?_ b13_16 rfl rfl HT_.out (by kernel_rfl) (fun _ _ _ h => h) (Or.inl ⟨by rfl, ?_⟩) ?_ ?_ ?_; rotate_left
              ·intro w'; go_simp; with_reducible rfl
              rotate_left
              ·simp only [Act.put, sa_, s0_, ss_, i64_w, i32_w]; rfl
              refine pu_ 5 (some 47) ?_ b13_17 rfl rfl HT_.out (by kernel_rfl) (fun _ _ _ h => h) (Or.inl ⟨by rfl, ?_⟩) ?_ ?_ ?_; rotate_left
              ·intro w'; go_simp; with_reducible rfl
              rotate_left
              ·simp only [Act.put, sa_, s0_, ss_, i64_w, i32_w]; rfl
              refine tk_ 4 (some 46) ?_ b13_18 rfl rfl HT_.out HW_.out (by kernel_rfl) (fun _ _ _ h => h) (Or.inl ⟨by rfl, ?_⟩) hHeld ?_ ?_ ?_; rotate_left
              ·rintro w' ⟨s0, s1, s2, s3, s4, s5, s6, s7, s8⟩; go_simp; with_reducible rfl
              rotate_left
              ·simp only [Act.put, sa_, s0_, ss_, i64_w, i32_w]; rfl
              refine tk_ 6 (some 48) ?_ b13_19 rfl rfl HT_.out HW_.out (by kernel_rfl) (fun _ _ _ h => h) (Or.inl ⟨by rfl, ?_⟩) hHeld ?_ ?_ ?_; rotate_left
              ·rintro w' ⟨s0, s1, s2, s3, s4, s5, s6, s7, s8⟩; go_simp; with_reducible rfl
              rotate_left
              ·simp only [Act.put, sa_, s0_, ss_, i64_w, i32_w]; rfl
              refine pu_ 7 (some 49) ?_ b13_20 rfl rfl HT_.out (by kernel_rfl) (fun _ _ _ h => h) (Or.inl ⟨by rfl, ?_⟩) ?_ ?_ ?_; rotate_left
              ·intro w'; go_simp; with_reducible rfl
              rotate_left
              ·simp only [Act.put, sa_, s0_, ss_, i64_w, i32_w]; rfl
              refine pu_ 8 (some 50) ?_ b13_21 rfl rfl HT_.out (by kernel_rfl) (fun _ _ _ h => h) (Or.inl ⟨by rfl, ?_⟩) ?_ ?_ ?_; rotate_left
              ·intro w'; go_simp; with_reducible rfl
              rotate_left
              ·simp only [Act.put, sa_, s0_, ss_, i64_w, i32_w]; rfl
              refine pu_ 9 (some 51) ?_ b13_22 rfl rfl HT_.out (by kernel_rfl) (fun _ _ _ h => h) (Or.inl ⟨by rfl, ?_⟩) ?_ ?_ ?_; rotate_left
              ·intro w'; go_simp; with_reducible rfl
              rotate_left
              ·simp only [Act.put, sa_, s0_, ss_, i64_w, i32_w]; rfl
              refine pu_ 10 (some 52) ?_ b13_23 rfl rfl HT_.out (by kernel_rfl) (fun _ _ _ h => h) (Or.inl ⟨by rfl, ?_⟩) ?_ ?_ ?_; rotate_left
              ·intro w'; go_simp; with_reducible rfl
              rotate_left
              ·simp only [Act.put, sa_, s0_, ss_, i64_w, i32_w]; rfl
              refine pu_ 11 (some 53) ?_ b13_24 rfl rfl HT_.out (by kernel_rfl) (fun _ _ _ h => h) (Or.inl ⟨by rfl, ?_⟩) ?_ ?_ ?_; rotate_left
              ·intro w'; go_simp; with_reducible rfl
              rotate_left
              ·simp only [Act.put, sa_, s0_, ss_, i64_w, i32_w]; rfl
              refine pu_ 12 (some 54) ?_ b13_25 rfl rfl HT_.out (by kernel_rfl) (fun _ _ _ h => h) (Or.inl ⟨by rfl, ?_⟩) ?_ ?_ ?_; rotate_left
              ·intro w'; go_simp; with_reducible rfl
              rotate_left
              ·simp only [Act.put, sa_, s0_, ss_, i64_w, i32_w]; rfl
              refine pu_ 14 (some 56) ?_ b13_26 rfl rfl HT_.out (by kernel_rfl) (fun _ _ _ h => h) (Or.inl ⟨by rfl, ?_⟩) ?_ ?_ ?_; rotate_left
              ·intro w'; go_simp; with_reducible rfl
              rotate_left
              ·simp only [Act.put, sa_, s0_, ss_, i64_w, i32_w]; rfl
              refine tk_ 13 (some 55) ?_ b13_27 rfl rfl HT_.out HW_.out (by kernel_rfl) (fun _ _ _ h => h) (Or.inl ⟨by rfl, ?_⟩) hHeld ?_ ?_ ?_; rotate_left
              ·rintro w' ⟨s0, s1, s2, s3, s4, s5, s6, s7, s8⟩; go_simp; with_reducible rfl
              rotate_left
              ·simp only [Act.put, sa_, s0_, ss_, i64_w, i32_w]; rfl
              refine tk_ 15 (some 57) ?_ b13_28 rfl rfl HT_.out HW_.out (by kernel_rfl) (fun _ _ _ h => h) (Or.inl ⟨by rfl, ?_⟩) hHeld ?_ ?_ ?_; rotate_left
              ·rintro w' ⟨s0, s1, s2, s3, s4, s5, s6, s7, s8⟩; go_simp; with_reducible rfl
              rotate_left
              ·simp only [Act.put, sa_, s0_, ss_, i64_w, i32_w]; rfl
              refine pu_ 16 (some 58) ?_ b13_29 rfl rfl HT_.out (by kernel_rfl) (fun _ _ _ h => h) (Or.inl ⟨by rfl, ?_⟩) ?_ ?_ ?_; rotate_left
              ·intro w'; go_simp; with_reducible rfl
              rotate_left
              ·simp only [Act.put, sa_, s0_, ss_, i64_w, i32_w]; rfl
              refine pu_ 17 (some 59) ?_ b13_30 rfl rfl HT_.out (by kernel_rfl) (fun _ _ _ h => h) (Or.inl ⟨by rfl, ?_⟩) ?_ ?_ ?_; rotate_left
              ·intro w'; go_simp; with_reducible rfl
              rotate_left
              ·simp only [Act.put, sa_, s0_, ss_, i64_w, i32_w]; rfl
              refine done_ (done_of HT_.out (by kernel_rfl)) ?_
              try go_wp2
              go_roundg kj17
              case measure => have := HK1.out; have := HJ17.out; omega
              case rel => exact ⟨(x6_1), (x7_1), (wrap64 (x8_1 + 1)), (by first | rfl | (simp; done) | (simp [*]; done)), (by first | rfl | (simp; done) | (simp [*]; done)), H', ⟨by have := HK1.out; have := HJ17.out; omega⟩, ⟨kr HO_5.out⟩, ⟨kr HO_6.out⟩, ⟨pk BK140.out⟩, ⟨by repeat (first | (with_reducible first | exact HB.out | apply below_alloc | apply pw_below_drewN | apply below_drew1 | refine below_set ?_ GE140.out) | exact HB.out)⟩⟩
             ·rw [if_neg c47] at H
              have c47b0 : (((rd_T34 l0 x8_1).f1).toList == a1_1.toList) = false := beq_eq_false_iff_ne.mpr c47
              have c47b1 : (((rd_T34 l0 x8_1).f1).toList != a1_1.toList) = true := bne_iff_ne.mpr c47
              by_cases c49 : x6_1.length < 3518437208883
              ·rw [if_pos c49] at H
               have LMc49 := Aside0.mk c49
               clear c49
               obtain ⟨y172, hy172⟩ : ∃ y_ : List (S34), y_ = (x6_1 ++ [(⟨(rd_T34 l0 x8_1).f0, (rd_T34 l0 x8_1).f1, (rd_T34 l0 x8_1).f2⟩ : S34)]) := ⟨_, rfl⟩
               replace H : (spec_KeyBind.l0 kj17 l0 y147 y172 x7_1 (wrap64 (x8_1 + 1)) a1_0 a1_1 a1_2) = some r := by first | (rw [hy172]; with_reducible exact H) | (have H2_ := (Option.bind_some _ _).symm.trans H; rw [hy172]; with_reducible exact H2_) | (have H2_ := (Option.bind_some _ _).symm.trans H; with_reducible exact H2_) | with_reducible exact H | (rw [hy172]; exact H) | exact H
               have Ny172 := am hy172
               clear hy172
               have H' := Aside0.mk H
               clear H
               try go_wp2
               replace HO_5 := am (Kd.R_drew HO_5.out)
               replace HO_6 := am (Kd.R_drew HO_6.out)
               replace BK140 := am (blk_drew BK140.out)
               replace HB := am (below_drew1 HB.out)
               have p169 : 0 ≤ (x8_1 : Int) := of_decide_eq_true (by first | (with_reducible assumption) | assumption)
               have q169 : x8_1 < (l0.length : Int) := of_decide_eq_true (by first | (with_reducible assumption) | assumption)
               obtain ⟨ad169, e169, hx169_0, hx169_1, hx169_2⟩ := at_T34 HR0.out x8_1 p169 q169
               have hw169_2 := hx169_2
               have hw169_1 := hx169_1
               have hw169_0 := hx169_0
               cases e169
               replace hx169_0 := (HB.out.cell (World.block_lt_of_cell? w _ hx169_0)).trans hx169_0
               replace hx169_1 := (HB.out.cell (World.block_lt_of_cell? w _ hx169_1)).trans hx169_1
               replace hx169_2 := (HB.out.cell (World.block_lt_of_cell? w _ hx169_2)).trans hx169_2
               replace p169 := eq_true p169
               replace q169 := eq_true q169
               have p170 : 0 ≤ (x8_1 : Int) := of_decide_eq_true (by first | (with_reducible assumption) | assumption)
               have q170 : x8_1 < (l0.length : Int) := of_decide_eq_true (by first | (with_reducible assumption) | assumption)
               obtain ⟨ad170, e170, hx170_0, hx170_1, hx170_2⟩ := at_T34 HR0.out x8_1 p170 q170
               have hw170_2 := hx170_2
               have hw170_1 := hx170_1
               have hw170_0 := hx170_0
               obtain rfl : ad169 = ad170 := (by injection e170)
               replace hx170_0 := (HB.out.cell (World.block_lt_of_cell? w _ hx170_0)).trans hx170_0
               replace hx170_1 := (HB.out.cell (World.block_lt_of_cell? w _ hx170_1)).trans hx170_1
               replace hx170_2 := (HB.out.cell (World.block_lt_of_cell? w _ hx170_2)).trans hx170_2
               replace p170 := eq_true p170
               replace q170 := eq_true q170
               refine start_ (n := 18) (S := fun w' => w'.cell? ⟨gb140, 0, none⟩ = some (.int .i64 a1_0) ∧ w'.cell? ⟨gb140, 1, none⟩ = some (.string a1_1) ∧ w'.cell? ⟨gb140, 2, none⟩ = some (.string a1_2) ∧ w'.cell? (ad169.add ((x8_1).toNat * 3)) = some (.int .i64 ((rd_T34 l0 x8_1).f0)) ∧ w'.cell? ⟨(ad169.add ((x8_1).toNat * 3)).block, (ad169.add ((x8_1).toNat * 3)).off + 1, none⟩ = some (.string ((rd_T34 l0 x8_1).f1)) ∧ w'.cell? ⟨(ad169.add ((x8_1).toNat * 3)).block, (ad169.add ((x8_1).toNat * 3)).off + 2, none⟩ = some (.string ((rd_T34 l0 x8_1).f2)) ∧ w'.cell? (ad169.add ((x8_1).toNat * 3)) = some (.int .i64 ((rd_T34 l0 x8_1).f0)) ∧ w'.cell? ⟨(ad169.add ((x8_1).toNat * 3)).block, (ad169.add ((x8_1).toNat * 3)).off + 1, none⟩ = some (.string ((rd_T34 l0 x8_1).f1)) ∧ w'.cell? ⟨(ad169.add ((x8_1).toNat * 3)).block, (ad169.add ((x8_1).toNat * 3)).off + 2, none⟩ = some (.string ((rd_T34 l0 x8_1).f2))) (ds := []) b13_12 (by kernel_rfl) rfl rfl ⟨bc BK140.out 0, bc BK140.out 1, bc BK140.out 2, ((HB.out.cell (World.block_lt_of_cell? _ _ hw169_0)).trans hw169_0), ((HB.out.cell (World.block_lt_of_cell? _ _ hw169_1)).trans hw169_1), ((HB.out.cell (World.block_lt_of_cell? _ _ hw169_2)).trans hw169_2), ((HB.out.cell (World.block_lt_of_cell? _ _ hw170_0)).trans hw170_0), ((HB.out.cell (World.block_lt_of_cell? _ _ hw170_1)).trans hw170_1), ((HB.out.cell (World.block_lt_of_cell? _ _ hw170_2)).trans hw170_2)⟩ (fun hHeld => ?_); refine with_tabW spec_KeyBind.tab14 spec_KeyBind.bits14 (fun HT_ HW_ => ?_)
               generalize wc.drew = w50 at HO_5 HO_6 BK140 HB hx169_0 hx169_1 hx169_2 hx170_0 hx170_1 hx170_2 hHeld ⊢
               refine pu_ 0 (some 42) ?_ b13_13 rfl rfl HT_.out (by kernel_rfl) (fun _ _ _ h => h) (Or.inl ⟨by rfl, ?_⟩) ?_ ?_ ?_; rotate_left
               ·intro w'; go_simp; with_reducible rfl
               rotate_left
               ·simp only [Act.put, sa_, s0_, ss_, i64_w, i32_w]; rfl
               refine pu_ 1 (some 43) ?_ b13_14 rfl rfl HT_.out (by kernel_rfl) (fun _ _ _ h => h) (Or.inl ⟨by rfl, ?_⟩) ?_ ?_ ?_; rotate_left
               ·intro w'; go_simp; with_reducible rfl
               rotate_left
               ·simp only [Act.put, sa_, s0_, ss_, i64_w, i32_w]; rfl
               refine pu_ 2 (some 44) ?_ b13_15 rfl rfl HT_.out (by kernel_rfl) (fun _ _ _ h => h) (Or.inl ⟨by rfl, ?_⟩) ?_ ?_ ?_; rotate_left
               ·intro w'; go_simp; with_reducible rfl
               rotate_left
               ·simp only [Act.put, sa_, s0_, ss_, i64_w, i32_w]; rfl
               refine pu_ 3 (some 45) ?_ b13_16 rfl rfl HT_.out (by kernel_rfl) (fun _ _ _ h => h) (Or.inl ⟨by rfl, ?_⟩) ?_ ?_ ?_; rotate_left
               ·intro w'; go_simp; with_reducible rfl
               rotate_left
               ·simp only [Act.put, sa_, s0_, ss_, i64_w, i32_w]; rfl
               refine pu_ 5 (some 47) ?_ b13_17 rfl rfl HT_.out (by kernel_rfl) (fun _ _ _ h => h) (Or.inl ⟨by rfl, ?_⟩) ?_ ?_ ?_; rotate_left
               ·intro w'; go_simp; with_reducible rfl
               rotate_left
               ·simp only [Act.put, sa_, s0_, ss_, i64_w, i32_w]; rfl
               refine tk_ 4 (some 46) ?_ b13_18 rfl rfl HT_.out HW_.out (by kernel_rfl) (fun _ _ _ h => h) (Or.inl ⟨by rfl, ?_⟩) hHeld ?_ ?_ ?_; rotate_left
               ·rintro w' ⟨s0, s1, s2, s3, s4, s5, s6, s7, s8⟩; go_simp; with_reducible rfl
               rotate_left
               ·simp only [Act.put, sa_, s0_, ss_, i64_w, i32_w]; rfl
               refine tk_ 6 (some 48) ?_ b13_19 rfl rfl HT_.out HW_.out (by kernel_rfl) (fun _ _ _ h => h) (Or.inl ⟨by rfl, ?_⟩) hHeld ?_ ?_ ?_; rotate_left
               ·rintro w' ⟨s0, s1, s2, s3, s4, s5, s6, s7, s8⟩; go_simp; with_reducible rfl
               rotate_left
               ·simp only [Act.put, sa_, s0_, ss_, i64_w, i32_w]; rfl
               refine pu_ 7 (some 49) ?_ b13_20 rfl rfl HT_.out (by kernel_rfl) (fun _ _ _ h => h) (Or.inl ⟨by rfl, ?_⟩) ?_ ?_ ?_; rotate_left
               ·intro w'; go_simp; with_reducible rfl
               rotate_left
               ·simp only [Act.put, sa_, s0_, ss_, i64_w, i32_w]; rfl
               refine pu_ 8 (some 50) ?_ b13_21 rfl rfl HT_.out (by kernel_rfl) (fun _ _ _ h => h) (Or.inl ⟨by rfl, ?_⟩) ?_ ?_ ?_; rotate_left
               ·intro w'; go_simp; with_reducible rfl
               rotate_left
               ·simp only [Act.put, sa_, s0_, ss_, i64_w, i32_w]; rfl
               refine pu_ 9 (some 51) ?_ b13_22 rfl rfl HT_.out (by kernel_rfl) (fun _ _ _ h => h) (Or.inl ⟨by rfl, ?_⟩) ?_ ?_ ?_; rotate_left
               ·intro w'; go_simp; with_reducible rfl
               rotate_left
               ·simp only [Act.put, sa_, s0_, ss_, i64_w, i32_w]; rfl
               refine pu_ 10 (some 52) ?_ b13_23 rfl rfl HT_.out (by kernel_rfl) (fun _ _ _ h => h) (Or.inl ⟨by rfl, ?_⟩) ?_ ?_ ?_; rotate_left
               ·intro w'; go_simp; with_reducible rfl
               rotate_left
               ·simp only [Act.put, sa_, s0_, ss_, i64_w, i32_w]; rfl
               refine pu_ 11 (some 53) ?_ b13_24 rfl rfl HT_.out (by kernel_rfl) (fun _ _ _ h => h) (Or.inl ⟨by rfl, ?_⟩) ?_ ?_ ?_; rotate_left
               ·intro w'; go_simp; with_reducible rfl
               rotate_left
               ·simp only [Act.put, sa_, s0_, ss_, i64_w, i32_w]; rfl
               refine pu_ 12 (some 54) ?_ b13_25 rfl rfl HT_.out (by kernel_rfl) (fun _ _ _ h => h) (Or.inl ⟨by rfl, ?_⟩) ?_ ?_ ?_; rotate_left
               ·intro w'; go_simp; with_reducible rfl
               rotate_left
               ·simp only [Act.put, sa_, s0_, ss_, i64_w, i32_w]; rfl
               refine pu_ 14 (some 56) ?_ b13_26 rfl rfl HT_.out (by kernel_rfl) (fun _ _ _ h => h) (Or.inl ⟨by rfl, ?_⟩) ?_ ?_ ?_; rotate_left
               ·intro w'; go_simp; with_reducible rfl
               rotate_left
               ·simp only [Act.put, sa_, s0_, ss_, i64_w, i32_w]; rfl
               refine tk_ 13 (some 55) ?_ b13_27 rfl rfl HT_.out HW_.out (by kernel_rfl) (fun _ _ _ h => h) (Or.inl ⟨by rfl, ?_⟩) hHeld ?_ ?_ ?_; rotate_left
               ·rintro w' ⟨s0, s1, s2, s3, s4, s5, s6, s7, s8⟩; go_simp; with_reducible rfl
               rotate_left
               ·simp only [Act.put, sa_, s0_, ss_, i64_w, i32_w]; rfl
               refine tk_ 15 (some 57) ?_ b13_28 rfl rfl HT_.out HW_.out (by kernel_rfl) (fun _ _ _ h => h) (Or.inl ⟨by rfl, ?_⟩) hHeld ?_ ?_ ?_; rotate_left
               ·rintro w' ⟨s0, s1, s2, s3, s4, s5, s6, s7, s8⟩; go_simp; with_reducible rfl
               rotate_left
               ·simp only [Act.put, sa_, s0_, ss_, i64_w, i32_w]; rfl
               refine pu_ 16 (some 58) ?_ b13_29 rfl rfl HT_.out (by kernel_rfl) (fun _ _ _ h => h) (Or.inl ⟨by rfl, ?_⟩) ?_ ?_ ?_; rotate_left
               ·intro w'; go_simp; with_reducible rfl
               rotate_left
               ·simp only [Act.put, sa_, s0_, ss_, i64_w, i32_w]; rfl
               refine pu_ 17 (some 59) ?_ b13_30 rfl rfl HT_.out (by kernel_rfl) (fun _ _ _ h => h) (Or.inl ⟨by rfl, ?_⟩) ?_ ?_ ?_; rotate_left
               ·intro w'; go_simp; with_reducible rfl
               rotate_left
               ·simp only [Act.put, sa_, s0_, ss_, i64_w, i32_w]; rfl
               refine done_ (done_of HT_.out (by kernel_rfl)) ?_
               have p171 : 0 ≤ (x8_1 : Int) := of_decide_eq_true (by first | (with_reducible assumption) | assumption)
               have q171 : x8_1 < (l0.length : Int) := of_decide_eq_true (by first | (with_reducible assumption) | assumption)
               obtain ⟨ad171, e171, hx171_0, hx171_1, hx171_2⟩ := at_T34 HR0.out x8_1 p171 q171
               obtain rfl : ad169 = ad171 := (by injection e171)
               replace hx171_0 := (HB.out.cell (World.block_lt_of_cell? w _ hx171_0)).trans hx171_0
               replace hx171_1 := (HB.out.cell (World.block_lt_of_cell? w _ hx171_1)).trans hx171_1
               replace hx171_2 := (HB.out.cell (World.block_lt_of_cell? w _ hx171_2)).trans hx171_2
               replace p171 := eq_true p171
               replace q171 := eq_true q171
               try go_wp2_with (first | ((with_reducible refine gate_builtin (b := .append) (xs := #[.tmp 60, .tmp 65]) rfl ?_); at_builtin; refine Kd.R_append k34 (w0 := w) w.heap.size rfl (.tmp 60) (.tmp 65) 24 34 (.agg #[(.int .i64 0), (.string ⟨#[]⟩), (.string ⟨#[]⟩)]) 40 rfl Try.underlying24 info34 rfl (by decide) (by omega) u6 x6_1 (⟨(rd_T34 l0 x8_1).f0, (rd_T34 l0 x8_1).f1, (rd_T34 l0 x8_1).f2⟩ : S34) [.int .i64 ((rd_T34 l0 x8_1).f0), .string ((rd_T34 l0 x8_1).f1), .string ((rd_T34 l0 x8_1).f2)] (fun k_ => some k_ ≠ (v148 : Value).ownBlock ∧ k_ ≠ gb140) (fun _ => False) rfl rfl ?aP (fun _ hk => hk.elim) ?aF ?aO ?aB ?aS ?aL ?_; (case aP => exact k34_mkM _ _ _ (⟨(rd_T34 l0 x8_1).f0, (rd_T34 l0 x8_1).f1, (rd_T34 l0 x8_1).f2⟩ : S34)); (case aB => exact (bl HB.out)); (case aF => exact (fun k_ hk => ⟨Kd.fresh' (Kd.R_lt (kr HO_5.out)) k_ hk, Kd.freshB (g := gb140) (o := .cells #[.int .i64 a1_0, .string a1_1, .string a1_2] 34 (0, 0)) (pk BK140.out) k_ hk⟩)); (case aO => exact (kr HO_6.out)); (case aS => exact (below_size (bl HB.out))); (case aL => have := LMc49.out; omega); intro v173 w51 ho hb hg hat; rw [← Ny172.out] at ho; replace HO_5 := am (Kd.R_after (ok := (fun k_ => k_ ≠ gb140)) (kr (Kd.R_mono HO_5.out (fun _ hk => ⟨hk.2, hk.1⟩))) hg hat); replace BK140 := am (blk_grown (g := gb140) (o := .cells #[.int .i64 a1_0, .string a1_1, .string a1_2] 34 (0, 0)) (pk BK140.out) hg (Kd.R_away HO_6.out (fun _ hk => hk.2))); replace HB := am (hb); have HO174 := am (ho); clear HO_6; clear ho hb hg hat))
               go_roundg kj17
               case measure => have := HK1.out; have := HJ17.out; omega
               case rel => exact ⟨(y172), (x7_1), (wrap64 (x8_1 + 1)), (by first | rfl | (simp; done) | (simp [*]; done)), (by first | rfl | (simp; done) | (simp [*]; done)), H', ⟨by have := HK1.out; have := HJ17.out; omega⟩, ⟨kr (Kd.R_mono HO_5.out (fun _ hk => ⟨hk.2, hk.1⟩))⟩, ⟨kr HO174.out⟩, ⟨pk BK140.out⟩, ⟨by repeat (first | (with_reducible first | exact HB.out | apply below_alloc | apply pw_below_drewN | apply below_drew1 | refine below_set ?_ GE140.out) | exact HB.out)⟩⟩
              ·rw [if_neg c49] at H
               exact absurd H (by simp)
            ·rw [if_neg c46] at H
             have c46b0 : (((rd_T34 l0 x8_1).f0) == a1_0) = false := beq_eq_false_iff_ne.mpr c46
             have c46b1 : (((rd_T34 l0 x8_1).f0) != a1_0) = true := bne_iff_ne.mpr c46
             by_cases c52 : x6_1.length < 3518437208883
             ·rw [if_pos c52] at H
              have LMc52 := Aside0.mk c52
              clear c52
              obtain ⟨y176, hy176⟩ : ∃ y_ : List (S34), y_ = (x6_1 ++ [(⟨(rd_T34 l0 x8_1).f0, (rd_T34 l0 x8_1).f1, (rd_T34 l0 x8_1).f2⟩ : S34)]) := ⟨_, rfl⟩
              replace H : (spec_KeyBind.l0 kj17 l0 y147 y176 x7_1 (wrap64 (x8_1 + 1)) a1_0 a1_1 a1_2) = some r := by first | (rw [hy176]; with_reducible exact H) | (have H2_ := (Option.bind_some _ _).symm.trans H; rw [hy176]; with_reducible exact H2_) | (have H2_ := (Option.bind_some _ _).symm.trans H; with_reducible exact H2_) | with_reducible exact H | (rw [hy176]; exact H) | exact H
              have Ny176 := am hy176
              clear hy176
              have H' := Aside0.mk H
              clear H
              try go_wp2
              replace HO_5 := am (Kd.R_drew HO_5.out)
              replace HO_6 := am (Kd.R_drew HO_6.out)
              replace BK140 := am (blk_drew BK140.out)
              replace HB := am (below_drew1 HB.out)
              have p169 : 0 ≤ (x8_1 : Int) := of_decide_eq_true (by first | (with_reducible assumption) | assumption)
              have q169 : x8_1 < (l0.length : Int) := of_decide_eq_true (by first | (with_reducible assumption) | assumption)
              obtain ⟨ad169, e169, hx169_0, hx169_1, hx169_2⟩ := at_T34 HR0.out x8_1 p169 q169
              have hw169_2 := hx169_2
              have hw169_1 := hx169_1
              have hw169_0 := hx169_0
              cases e169
              replace hx169_0 := (HB.out.cell (World.block_lt_of_cell? w _ hx169_0)).trans hx169_0
              replace hx169_1 := (HB.out.cell (World.block_lt_of_cell? w _ hx169_1)).trans hx169_1
              replace hx169_2 := (HB.out.cell (World.block_lt_of_cell? w _ hx169_2)).trans hx169_2
              replace p169 := eq_true p169
              replace q169 := eq_true q169
              refine start_ (n := 18) (S := fun w' => w'.cell? ⟨gb140, 0, none⟩ = some (.int .i64 a1_0) ∧ w'.cell? ⟨gb140, 1, none⟩ = some (.string a1_1) ∧ w'.cell? ⟨gb140, 2, none⟩ = some (.string a1_2) ∧ w'.cell? (ad169.add ((x8_1).toNat * 3)) = some (.int .i64 ((rd_T34 l0 x8_1).f0)) ∧ w'.cell? ⟨(ad169.add ((x8_1).toNat * 3)).block, (ad169.add ((x8_1).toNat * 3)).off + 1, none⟩ = some (.string ((rd_T34 l0 x8_1).f1)) ∧ w'.cell? ⟨(ad169.add ((x8_1).toNat * 3)).block, (ad169.add ((x8_1).toNat * 3)).off + 2, none⟩ = some (.string ((rd_T34 l0 x8_1).f2))) (ds := []) b13_12 (by kernel_rfl) rfl rfl ⟨bc BK140.out 0, bc BK140.out 1, bc BK140.out 2, ((HB.out.cell (World.block_lt_of_cell? _ _ hw169_0)).trans hw169_0), ((HB.out.cell (World.block_lt_of_cell? _ _ hw169_1)).trans hw169_1), ((HB.out.cell (World.block_lt_of_cell? _ _ hw169_2)).trans hw169_2)⟩ (fun hHeld => ?_); refine with_tabW spec_KeyBind.tab14 spec_KeyBind.bits14 (fun HT_ HW_ => ?_)
              generalize wc.drew = w53 at HO_5 HO_6 BK140 HB hx169_0 hx169_1 hx169_2 hHeld ⊢
              refine pu_ 0 (some 42) ?_ b13_13 rfl rfl HT_.out (by kernel_rfl) (fun _ _ _ h => h) (Or.inl ⟨by rfl, ?_⟩) ?_ ?_ ?_; rotate_left
              ·intro w'; go_simp; with_reducible rfl
              rotate_left
              ·simp only [Act.put, sa_, s0_, ss_, i64_w, i32_w]; rfl
              refine pu_ 1 (some 43) ?_ b13_14 rfl rfl HT_.out (by kernel_rfl) (fun _ _ _ h => h) (Or.inl ⟨by rfl, ?_⟩) ?_ ?_ ?_; rotate_left
              ·intro w'; go_simp; with_reducible rfl
              rotate_left
              ·simp only [Act.put, sa_, s0_, ss_, i64_w, i32_w]; rfl
              refine pu_ 2 (some 44) ?_ b13_15 rfl rfl HT_.out (by kernel_rfl) (fun _ _ _ h => h) (Or.inl ⟨by rfl, ?_⟩) ?_ ?_ ?_; rotate_left
              ·intro w'; go_simp; with_reducible rfl
              rotate_left
              ·simp only [Act.put, sa_, s0_, ss_, i64_w, i32_w]; rfl
              refine pu_ 3 (some 45) ?_ b13_16 rfl rfl HT_.out (by kernel_rfl) (fun _ _ _ h => h) (Or.inl ⟨by rfl, ?_⟩) ?_ ?_ ?_; rotate_left
              ·intro w'; go_simp; with_reducible rfl
              rotate_left
              ·simp only [Act.put, sa_, s0_, ss_, i64_w, i32_w]; rfl
              refine pu_ 5 (some 47) ?_ b13_17 rfl rfl HT_.out (by kernel_rfl) (fun _ _ _ h => h) (Or.inl ⟨by rfl, ?_⟩) ?_ ?_ ?_; rotate_left
              ·intro w'; go_simp; with_reducible rfl
              rotate_left
              ·simp only [Act.put, sa_, s0_, ss_, i64_w, i32_w]; rfl
              refine tk_ 4 (some 46) ?_ b13_18 rfl rfl HT_.out HW_.out (by kernel_rfl) (fun _ _ _ h => h) (Or.inl ⟨by rfl, ?_⟩) hHeld ?_ ?_ ?_; rotate_left
              ·rintro w' ⟨s0, s1, s2, s3, s4, s5⟩; go_simp; with_reducible rfl
              rotate_left
              ·simp only [Act.put, sa_, s0_, ss_, i64_w, i32_w]; rfl
              refine tk_ 6 (some 48) ?_ b13_19 rfl rfl HT_.out HW_.out (by kernel_rfl) (fun _ _ _ h => h) (Or.inl ⟨by rfl, ?_⟩) hHeld ?_ ?_ ?_; rotate_left
              ·rintro w' ⟨s0, s1, s2, s3, s4, s5⟩; go_simp; with_reducible rfl
              rotate_left
              ·simp only [Act.put, sa_, s0_, ss_, i64_w, i32_w]; rfl
              refine pu_ 7 (some 49) ?_ b13_20 rfl rfl HT_.out (by kernel_rfl) (fun _ _ _ h => h) (Or.inl ⟨by rfl, ?_⟩) ?_ ?_ ?_; rotate_left
              ·intro w'; go_simp; with_reducible rfl
              rotate_left
              ·simp only [Act.put, sa_, s0_, ss_, i64_w, i32_w]; rfl
              refine pu_ 8 (some 50) ?_ b13_21 rfl rfl HT_.out (by kernel_rfl) (fun _ _ _ h => h) (Or.inl ⟨by rfl, ?_⟩) ?_ ?_ ?_; rotate_left
              ·intro w'; go_simp; with_reducible rfl
              rotate_left
              ·simp only [Act.put, sa_, s0_, ss_, i64_w, i32_w]; rfl
              refine pu_ 9 (some 51) undef b13_22 rfl rfl HT_.out (by kernel_rfl) (fun _ _ _ h => h) (Or.inr ⟨by rfl, rfl⟩) ?_ ?_ ?_; rotate_left
              ·simp only [Act.put, sa_, s0_, ss_, i64_w, i32_w]; rfl
              refine pu_ 10 (some 52) undef b13_23 rfl rfl HT_.out (by kernel_rfl) (fun _ _ _ h => h) (Or.inr ⟨by rfl, rfl⟩) ?_ ?_ ?_; rotate_left
              ·simp only [Act.put, sa_, s0_, ss_, i64_w, i32_w]; rfl
              refine pu_ 11 (some 53) undef b13_24 rfl rfl HT_.out (by kernel_rfl) (fun _ _ _ h => h) (Or.inr ⟨by rfl, rfl⟩) ?_ ?_ ?_; rotate_left
              ·simp only [Act.put, sa_, s0_, ss_, i64_w, i32_w]; rfl
              refine pu_ 12 (some 54) undef b13_25 rfl rfl HT_.out (by kernel_rfl) (fun _ _ _ h => h) (Or.inr ⟨by rfl, rfl⟩) ?_ ?_ ?_; rotate_left
              ·simp only [Act.put, sa_, s0_, ss_, i64_w, i32_w]; rfl
              refine pu_ 13 (some 55) undef b13_31 rfl rfl HT_.out (by kernel_rfl) (fun _ _ _ h => h) (Or.inr ⟨by rfl, rfl⟩) ?_ ?_ ?_; rotate_left
              ·simp only [Act.put, sa_, s0_, ss_, i64_w, i32_w]; rfl
              refine pu_ 14 (some 56) undef b13_27 rfl rfl HT_.out (by kernel_rfl) (fun _ _ _ h => h) (Or.inr ⟨by rfl, rfl⟩) ?_ ?_ ?_; rotate_left
              ·simp only [Act.put, sa_, s0_, ss_, i64_w, i32_w]; rfl
              refine pu_ 15 (some 57) undef b13_28 rfl rfl HT_.out (by kernel_rfl) (fun _ _ _ h => h) (Or.inr ⟨by rfl, rfl⟩) ?_ ?_ ?_; rotate_left
              ·simp only [Act.put, sa_, s0_, ss_, i64_w, i32_w]; rfl
              refine pu_ 16 (some 58) undef b13_29 rfl rfl HT_.out (by kernel_rfl) (fun _ _ _ h => h) (Or.inr ⟨by rfl, rfl⟩) ?_ ?_ ?_; rotate_left
              ·simp only [Act.put, sa_, s0_, ss_, i64_w, i32_w]; rfl
              refine pu_ 17 (some 59) ?_ b13_30 rfl rfl HT_.out (by kernel_rfl) (fun _ _ _ h => h) (Or.inl ⟨by rfl, ?_⟩) ?_ ?_ ?_; rotate_left
              ·intro w'; go_simp; with_reducible rfl
              rotate_left
              ·simp only [Act.put, sa_, s0_, ss_, i64_w, i32_w]; rfl
              refine done_ (done_of HT_.out (by kernel_rfl)) ?_
              have p175 : 0 ≤ (x8_1 : Int) := of_decide_eq_true (by first | (with_reducible assumption) | assumption)
              have q175 : x8_1 < (l0.length : Int) := of_decide_eq_true (by first | (with_reducible assumption) | assumption)
              obtain ⟨ad175, e175, hx175_0, hx175_1, hx175_2⟩ := at_T34 HR0.out x8_1 p175 q175
              obtain rfl : ad169 = ad175 := (by injection e175)
              replace hx175_0 := (HB.out.cell (World.block_lt_of_cell? w _ hx175_0)).trans hx175_0
              replace hx175_1 := (HB.out.cell (World.block_lt_of_cell? w _ hx175_1)).trans hx175_1
              replace hx175_2 := (HB.out.cell (World.block_lt_of_cell? w _ hx175_2)).trans hx175_2
              replace p175 := eq_true p175
              replace q175 := eq_true q175
              try go_wp2_with (first | ((with_reducible refine gate_builtin (b := .append) (xs := #[.tmp 60, .tmp 65]) rfl ?_); at_builtin; refine Kd.R_append k34 (w0 := w) w.heap.size rfl (.tmp 60) (.tmp 65) 24 34 (.agg #[(.int .i64 0), (.string ⟨#[]⟩), (.string ⟨#[]⟩)]) 40 rfl Try.underlying24 info34 rfl (by decide) (by omega) u6 x6_1 (⟨(rd_T34 l0 x8_1).f0, (rd_T34 l0 x8_1).f1, (rd_T34 l0 x8_1).f2⟩ : S34) [.int .i64 ((rd_T34 l0 x8_1).f0), .string ((rd_T34 l0 x8_1).f1), .string ((rd_T34 l0 x8_1).f2)] (fun k_ => some k_ ≠ (v148 : Value).ownBlock ∧ k_ ≠ gb140) (fun _ => False) rfl rfl ?aP (fun _ hk => hk.elim) ?aF ?aO ?aB ?aS ?aL ?_; (case aP => exact k34_mkM _ _ _ (⟨(rd_T34 l0 x8_1).f0, (rd_T34 l0 x8_1).f1, (rd_T34 l0 x8_1).f2⟩ : S34)); (case aB => exact (bl HB.out)); (case aF => exact (fun k_ hk => ⟨Kd.fresh' (Kd.R_lt (kr HO_5.out)) k_ hk, Kd.freshB (g := gb140) (o := .cells #[.int .i64 a1_0, .string a1_1, .string a1_2] 34 (0, 0)) (pk BK140.out) k_ hk⟩)); (case aO => exact (kr HO_6.out)); (case aS => exact (below_size (bl HB.out))); (case aL => have := LMc52.out; omega); intro v177 w54 ho hb hg hat; rw [← Ny176.out] at ho; replace HO_5 := am (Kd.R_after (ok := (fun k_ => k_ ≠ gb140)) (kr (Kd.R_mono HO_5.out (fun _ hk => ⟨hk.2, hk.1⟩))) hg hat); replace BK140 := am (blk_grown (g := gb140) (o := .cells #[.int .i64 a1_0, .string a1_1, .string a1_2] 34 (0, 0)) (pk BK140.out) hg (Kd.R_away HO_6.out (fun _ hk => hk.2))); replace HB := am (hb); have HO178 := am (ho); clear HO_6; clear ho hb hg hat))
              go_roundg kj17
              case measure => have := HK1.out; have := HJ17.out; omega
              case rel => exact ⟨(y176), (x7_1), (wrap64 (x8_1 + 1)), (by first | rfl | (simp; done) | (simp [*]; done)), (by first | rfl | (simp; done) | (simp [*]; done)), H', ⟨by have := HK1.out; have := HJ17.out; omega⟩, ⟨kr (Kd.R_mono HO_5.out (fun _ hk => ⟨hk.2, hk.1⟩))⟩, ⟨kr HO178.out⟩, ⟨pk BK140.out⟩, ⟨by repeat (first | (with_reducible first | exact HB.out | apply below_alloc | apply pw_below_drewN | apply below_drew1 | refine below_set ?_ GE140.out) | exact HB.out)⟩⟩
             ·rw [if_neg c52] at H
              exact absurd H (by simp)
           ·rw [if_neg c45] at H
            exact absurd H (by simp)
          ·rw [if_neg c44] at H
           exact absurd H (by simp)
      ·rw [if_neg c17] at H
       have c17b0 : decide (x8_1 < (l0.length : Int)) = false := decide_eq_false c17
       clear c17
       by_cases c55 : x7_1 = true
       ·subst c55
        have H1 : ((spec_KeysRight.f k1 x6_1).bind fun t179 => (if t179 = true then (some x6_1) else (some y147))) = some r := by rw [if_pos rfl] at H; exact H
        clear H
        have H := H1
        clear H1
        replace H := Option.bind_eq_some_iff.mp H
        obtain ⟨t179, A560, H⟩ := H
        replace H : (if t179 = true then (some x6_1) else (some y147)) = some r := H
        have A56 := Aside0.mk A560
        clear A560
        by_cases c57 : t179 = true
        ·subst c57
         have H1 : (some x6_1) = some r := by rw [if_pos rfl] at H; exact H
         clear H
         have H := H1
         clear H1
         obtain rfl := Option.some.inj H
         obtain ⟨Ao58, co58, eo58⟩ := Kd.R_slice HO_6.out
         subst eo58
         go_wp2_with (first | ((with_reducible refine gate_callee (f := 16) rfl ?_); refine gl (some 74) Try.func16 #[.slice Ao58 x6_1.length co58] ?_; (with_reducible refine (spec_KeysRight.calls k1 _ _ x6_1 true _ ?side1 ?side2 A56.out).mono ?_); (case side1 => repeat (first | exact (Kd.R_reads' HO_6.out).2.2 | (with_reducible refine Kd.C_alloc ?_ _) | (with_reducible refine Kd.C_drewN ?_ _) | (with_reducible refine Kd.C_drew ?_))); (case side2 => exact (Kd.R_reads' HO_6.out).2.1); rintro e w59 ⟨rfl, hb⟩; refine ⟨_, rfl, ?_⟩; replace HO_5 := am (Kd.R_below (kr HO_5.out) hb); replace HO_6 := am (Kd.R_below (kr HO_6.out) hb); replace BK140 := am (blk_below (pk BK140.out) hb); replace HB := am (below_step (bl HB.out) hb); (try clear hb); (try clear hb2); (try clear hk); (try clear hi)))
         go_ret
         exact ⟨_, by first | rfl | (simp [errW_none, errW_some] <;> rfl) | (simp [*, errW_none, errW_some] <;> rfl), kr (Kd.R_mono HO_6.out (fun _ hk => trivial)), by repeat (first | (with_reducible first | exact HB.out | apply below_alloc | apply pw_below_drewN | apply below_drew1 | refine below_set ?_ GE140.out) | exact HB.out)⟩
        ·replace c57 := Bool.eq_false_iff.mpr c57
         subst c57
         have H1 : (some y147) = some r := by rw [if_neg (show ¬ (false = true) by decide)] at H; exact H
         clear H
         have H := H1
         clear H1
         obtain rfl := Option.some.inj H
         obtain ⟨Ao60, co60, eo60⟩ := Kd.R_slice HO_6.out
         subst eo60
         go_wp2_with (first | ((with_reducible refine gate_callee (f := 16) rfl ?_); refine gl (some 74) Try.func16 #[.slice Ao60 x6_1.length co60] ?_; (with_reducible refine (spec_KeysRight.calls k1 _ _ x6_1 false _ ?side1 ?side2 A56.out).mono ?_); (case side1 => repeat (first | exact (Kd.R_reads' HO_6.out).2.2 | (with_reducible refine Kd.C_alloc ?_ _) | (with_reducible refine Kd.C_drewN ?_ _) | (with_reducible refine Kd.C_drew ?_))); (case side2 => exact (Kd.R_reads' HO_6.out).2.1); rintro e w61 ⟨rfl, hb⟩; refine ⟨_, rfl, ?_⟩; replace HO_5 := am (Kd.R_below (kr HO_5.out) hb); replace HO_6 := am (Kd.R_below (kr HO_6.out) hb); replace BK140 := am (blk_below (pk BK140.out) hb); replace HB := am (below_step (bl HB.out) hb); (try clear hb); (try clear hb2); (try clear hk); (try clear hi)))
         go_ret
         exact ⟨_, by first | rfl | (simp [errW_none, errW_some] <;> rfl) | (simp [*, errW_none, errW_some] <;> rfl), kr (Kd.R_mono HO_5.out (fun _ hk => trivial)), by repeat (first | (with_reducible first | exact HB.out | apply below_alloc | apply pw_below_drewN | apply below_drew1 | refine below_set ?_ GE140.out) | exact HB.out)⟩
       ·replace c55 := Bool.eq_false_iff.mpr c55
        subst c55
        have H1 : (if x6_1.length < 3518437208883 then ((some (x6_1 ++ [(⟨a1_0, a1_1, a1_2⟩ : S34)] : List (S34))).bind fun y180 => ((spec_KeysRight.f k1 y180).bind fun t183 => (if t183 = true then (some y180) else (some y147)))) else (none)) = some r := by rw [if_neg (show ¬ (false = true) by decide)] at H; exact H
        clear H
        have H := H1
        clear H1
        by_cases c62 : x6_1.length < 3518437208883
        ·rw [if_pos c62] at H
         have LMc62 := Aside0.mk c62
         clear c62
         obtain ⟨y180, hy180⟩ : ∃ y_ : List (S34), y_ = (x6_1 ++ [(⟨a1_0, a1_1, a1_2⟩ : S34)]) := ⟨_, rfl⟩
         replace H : ((spec_KeysRight.f k1 y180).bind fun t183 => (if t183 = true then (some y180) else (some y147))) = some r := by first | (rw [hy180]; with_reducible exact H) | (have H2_ := (Option.bind_some _ _).symm.trans H; rw [hy180]; with_reducible exact H2_) | (have H2_ := (Option.bind_some _ _).symm.trans H; with_reducible exact H2_) | with_reducible exact H | (rw [hy180]; exact H) | exact H
         have Ny180 := am hy180
         clear hy180
         replace H := Option.bind_eq_some_iff.mp H
         obtain ⟨t183, A630, H⟩ := H
         replace H : (if t183 = true then (some y180) else (some y147)) = some r := H
         have A63 := Aside0.mk A630
         clear A630
         by_cases c64 : t183 = true
         ·subst c64
          have H1 : (some y180) = some r := by rw [if_pos rfl] at H; exact H
          clear H
          have H := H1
          clear H1
          obtain rfl := Option.some.inj H
          have hcz65_0 : wr.cell? ⟨gb140, 0, none⟩ = some (.int .i64 a1_0) := bc BK140.out 0
          have hcz65_1 : wr.cell? ⟨gb140, 1, none⟩ = some (.string a1_1) := bc BK140.out 1
          have hcz65_2 : wr.cell? ⟨gb140, 2, none⟩ = some (.string a1_2) := bc BK140.out 2
          go_wp2_with (first | ((with_reducible refine gate_builtin (b := .append) (xs := #[.tmp 69, .tmp 71]) rfl ?_); at_builtin; refine Kd.R_append k34 (w0 := w) w.heap.size rfl (.tmp 69) (.tmp 71) 24 34 (.agg #[(.int .i64 0), (.string ⟨#[]⟩), (.string ⟨#[]⟩)]) 40 rfl Try.underlying24 info34 rfl (by decide) (by omega) u6 x6_1 (⟨a1_0, a1_1, a1_2⟩ : S34) [.int .i64 a1_0, .string a1_1, .string a1_2] (fun k_ => some k_ ≠ (v148 : Value).ownBlock ∧ k_ ≠ gb140) (fun _ => False) rfl rfl ?aP (fun _ hk => hk.elim) ?aF ?aO ?aB ?aS ?aL ?_; (case aP => exact k34_mkM _ _ _ (⟨a1_0, a1_1, a1_2⟩ : S34)); (case aB => exact (bl HB.out)); (case aF => exact (fun k_ hk => ⟨Kd.fresh' (Kd.R_lt (kr HO_5.out)) k_ hk, Kd.freshB (g := gb140) (o := .cells #[.int .i64 a1_0, .string a1_1, .string a1_2] 34 (0, 0)) (pk BK140.out) k_ hk⟩)); (case aO => exact (kr HO_6.out)); (case aS => exact (below_size (bl HB.out))); (case aL => have := LMc62.out; omega); intro v181 w66 ho hb hg hat; rw [← Ny180.out] at ho; replace HO_5 := am (Kd.R_after (ok := (fun k_ => k_ ≠ gb140)) (kr (Kd.R_mono HO_5.out (fun _ hk => ⟨hk.2, hk.1⟩))) hg hat); replace BK140 := am (blk_grown (g := gb140) (o := .cells #[.int .i64 a1_0, .string a1_1, .string a1_2] 34 (0, 0)) (pk BK140.out) hg (Kd.R_away HO_6.out (fun _ hk => hk.2))); replace HB := am (hb); have HO182 := am (ho); clear HO_6; clear ho hb hg hat; obtain ⟨Ao67, co67, eo67⟩ := Kd.R_slice HO182.out; subst eo67) | ((with_reducible refine gate_callee (f := 16) rfl ?_); refine gl (some 74) Try.func16 #[.slice Ao67 y180.length co67] ?_; (with_reducible refine (spec_KeysRight.calls k1 _ _ y180 true _ ?side1 ?side2 A63.out).mono ?_); (case side1 => repeat (first | exact (Kd.R_reads' HO182.out).2.2 | (with_reducible refine Kd.C_alloc ?_ _) | (with_reducible refine Kd.C_drewN ?_ _) | (with_reducible refine Kd.C_drew ?_))); (case side2 => exact (Kd.R_reads' HO182.out).2.1); rintro e w68 ⟨rfl, hb⟩; refine ⟨_, rfl, ?_⟩; replace HO_5 := am (Kd.R_below (kr HO_5.out) hb); replace HO182 := am (Kd.R_below (kr HO182.out) hb); replace BK140 := am (blk_below (pk BK140.out) hb); replace HB := am (below_step (bl HB.out) hb); (try clear hb); (try clear hb2); (try clear hk); (try clear hi)))
          go_ret
          exact ⟨_, by first | rfl | (simp [errW_none, errW_some] <;> rfl) | (simp [*, errW_none, errW_some] <;> rfl), kr (Kd.R_mono HO182.out (fun _ hk => trivial)), by repeat (first | (with_reducible first | exact HB.out | apply below_alloc | apply pw_below_drewN | apply below_drew1 | refine below_set ?_ GE140.out) | exact HB.out)⟩
         ·replace c64 := Bool.eq_false_iff.mpr c64
          subst c64
          have H1 : (some y147) = some r := by rw [if_neg (show ¬ (false = true) by decide)] at H; exact H
          clear H
          have H := H1
          clear H1
          obtain rfl := Option.some.inj H
          have hcz69_0 : wr.cell? ⟨gb140, 0, none⟩ = some (.int .i64 a1_0) := bc BK140.out 0
          have hcz69_1 : wr.cell? ⟨gb140, 1, none⟩ = some (.string a1_1) := bc BK140.out 1
          have hcz69_2 : wr.cell? ⟨gb140, 2, none⟩ = some (.string a1_2) := bc BK140.out 2
          go_wp2_with (first | ((with_reducible refine gate_builtin (b := .append) (xs := #[.tmp 69, .tmp 71]) rfl ?_); at_builtin; refine Kd.R_append k34 (w0 := w) w.heap.size rfl (.tmp 69) (.tmp 71) 24 34 (.agg #[(.int .i64 0), (.string ⟨#[]⟩), (.string ⟨#[]⟩)]) 40 rfl Try.underlying24 info34 rfl (by decide) (by omega) u6 x6_1 (⟨a1_0, a1_1, a1_2⟩ : S34) [.int .i64 a1_0, .string a1_1, .string a1_2] (fun k_ => some k_ ≠ (v148 : Value).ownBlock ∧ k_ ≠ gb140) (fun _ => False) rfl rfl ?aP (fun _ hk => hk.elim) ?aF ?aO ?aB ?aS ?aL ?_; (case aP => exact k34_mkM _ _ _ (⟨a1_0, a1_1, a1_2⟩ : S34)); (case aB => exact (bl HB.out)); (case aF => exact (fun k_ hk => ⟨Kd.fresh' (Kd.R_lt (kr HO_5.out)) k_ hk, Kd.freshB (g := gb140) (o := .cells #[.int .i64 a1_0, .string a1_1, .string a1_2] 34 (0, 0)) (pk BK140.out) k_ hk⟩)); (case aO => exact (kr HO_6.out)); (case aS => exact (below_size (bl HB.out))); (case aL => have := LMc62.out; omega); intro v181 w70 ho hb hg hat; rw [← Ny180.out] at ho; replace HO_5 := am (Kd.R_after (ok := (fun k_ => k_ ≠ gb140)) (kr (Kd.R_mono HO_5.out (fun _ hk => ⟨hk.2, hk.1⟩))) hg hat); replace BK140 := am (blk_grown (g := gb140) (o := .cells #[.int .i64 a1_0, .string a1_1, .string a1_2] 34 (0, 0)) (pk BK140.out) hg (Kd.R_away HO_6.out (fun _ hk => hk.2))); replace HB := am (hb); have HO182 := am (ho); clear HO_6; clear ho hb hg hat; obtain ⟨Ao71, co71, eo71⟩ := Kd.R_slice HO182.out; subst eo71) | ((with_reducible refine gate_callee (f := 16) rfl ?_); refine gl (some 74) Try.func16 #[.slice Ao71 y180.length co71] ?_; (with_reducible refine (spec_KeysRight.calls k1 _ _ y180 false _ ?side1 ?side2 A63.out).mono ?_); (case side1 => repeat (first | exact (Kd.R_reads' HO182.out).2.2 | (with_reducible refine Kd.C_alloc ?_ _) | (with_reducible refine Kd.C_drewN ?_ _) | (with_reducible refine Kd.C_drew ?_))); (case side2 => exact (Kd.R_reads' HO182.out).2.1); rintro e w72 ⟨rfl, hb⟩; refine ⟨_, rfl, ?_⟩; replace HO_5 := am (Kd.R_below (kr HO_5.out) hb); replace HO182 := am (Kd.R_below (kr HO182.out) hb); replace BK140 := am (blk_below (pk BK140.out) hb); replace HB := am (below_step (bl HB.out) hb); (try clear hb); (try clear hb2); (try clear hk); (try clear hi)))
          go_ret
          exact ⟨_, by first | rfl | (simp [errW_none, errW_some] <;> rfl) | (simp [*, errW_none, errW_some] <;> rfl), kr (Kd.R_mono HO_5.out (fun _ hk => trivial)), by repeat (first | (with_reducible first | exact HB.out | apply below_alloc | apply pw_below_drewN | apply below_drew1 | refine below_set ?_ GE140.out) | exact HB.out)⟩
        ·rw [if_neg c62] at H
         exact absurd H (by simp)
   ·replace c9 := Bool.eq_false_iff.mpr c9
    subst c9
    have H1 : (some y147) = some r := by rw [if_neg (show ¬ (false = true) by decide)] at H; exact H
    clear H
    have H := H1
    clear H1
    obtain rfl := Option.some.inj H
    go_enter Try.func13, Try.ntmps13
    go_wp2_with (first | ((with_reducible refine gate_dst (N := 3) rfl ?_); refine box_event ?hg (N := 3) ?hd (cs := #[.int .i64 a1_0, .string a1_1, .string a1_2]) (t := 34) ?hr ?_; (case hd => rfl); (case hg => rfl); (case hr => first | (go_simp; done) | (go_simp; rfl)); intro gb140 hg w73 hbox hb; have BK140 := am (hbox); have GW140 := am ((by rw [hg]; exact (below_size (bl HB.out)) : w.heap.size ≤ gb140)); have GE140 := GW140; replace HB := am (below_step (bl HB.out) hb); clear hb hbox hg) | ((with_reducible refine gate_dst (N := 13) rfl ?_); refine Kd.R_lit k34 _ 34 ?hg (N := 13) ?hd (xs := ([] : List (S34))) (inner := []) (ok := fun _ => True) (okp := fun _ => True) ?hr ?hp (fun _ hk => hk) trivial (Below.refl _ _) (Nat.le_refl _) (by simp) ?_; (case hd => rfl); (case hg => rfl); (case hr => first | (go_simp; done) | (go_simp; rfl)); (case hp => exact (Reps.none _ _)); intro v145 w74 ho75 hb hg_ hnew_; clear hg_ hnew_; (first | rw [← Ny144.out] at ho75 | (simp only [Int.reduceToNat] at ho75; rw [← Ny144.out] at ho75)); have HO146 := am (Kd.R_lower (Kd.R_newB ho75 (g := gb140) (o := .cells #[.int .i64 a1_0, .string a1_1, .string a1_2] 34 (0, 0)) (pk BK140.out)) (below_size (bl HB.out))); replace BK140 := am (blk_below (pk BK140.out) hb); replace HB := am (below_step (bl HB.out) hb); clear hb ho75) | ((with_reducible refine gate_builtin (b := .append) (xs := #[.tmp 13, .tmp 14]) rfl ?_); at_builtin; refine Kd.R_append_rows k34 (w0 := w) w.heap.size rfl (.tmp 13) (.tmp 14) 24 34 (.agg #[(.int .i64 0), (.string ⟨#[]⟩), (.string ⟨#[]⟩)]) 40 rfl Try.underlying24 info34 rfl (by decide) (by omega) v145 y144 l0 _ _ _ (fun k_ => k_ ≠ gb140) (fun _ => False) rfl rfl ?aO ?aR (fun _ _ h => h) (fun _ h => h.elim) ?aF ?aB ?aS ?aL ?_; (case aR => repeat (first | exact (Kd.C_below HR0.out HB.out) | (with_reducible refine Kd.C_alloc ?_ _) | (with_reducible refine Kd.C_drewN ?_ _) | (with_reducible refine Kd.C_drew ?_))); (case aB => exact (bl HB.out)); (case aF => exact (fun k_ hk => Kd.freshB (g := gb140) (o := .cells #[.int .i64 a1_0, .string a1_1, .string a1_2] 34 (0, 0)) (pk BK140.out) k_ hk)); (case aO => exact (kr (Kd.R_mono HO146.out (fun _ hk => hk.2)))); (case aS => exact (below_size (bl HB.out))); (case aL => have := LMc7.out; omega); intro v148 w76 ho hb hg hat; rw [← Ny147.out] at ho; replace BK140 := am (blk_grown (g := gb140) (o := .cells #[.int .i64 a1_0, .string a1_1, .string a1_2] 34 (0, 0)) (pk BK140.out) hg (Kd.R_away HO146.out (fun _ hk => hk.2))); replace HB := am (hb); have HO149 := am (ho); clear HO146; clear ho hb hg hat) | ((with_reducible refine gate_callee (f := 16) rfl ?_); refine gl (some 17) Try.func16 #[.slice A0 l0.length c0] ?_; (with_reducible refine (spec_KeysRight.calls k _ _ l0 false _ ?side1 ?side2 A8.out).mono ?_); (case side1 => repeat (first | exact (Kd.C_below HR0.out HB.out) | (with_reducible refine Kd.C_alloc ?_ _) | (with_reducible refine Kd.C_drewN ?_ _) | (with_reducible refine Kd.C_drew ?_))); (case side2 => exact HC0.out); rintro e w77 ⟨rfl, hb⟩; refine ⟨_, rfl, ?_⟩; replace HO149 := am (Kd.R_below (kr HO149.out) hb); replace BK140 := am (blk_below (pk BK140.out) hb); replace HB := am (below_step (bl HB.out) hb); (try clear hb); (try clear hb2); (try clear hk); (try clear hi)))
    go_ret
    exact ⟨_, by first | rfl | (simp [errW_none, errW_some] <;> rfl) | (simp [*, errW_none, errW_some] <;> rfl), kr (Kd.R_mono HO149.out (fun _ hk => trivial)), by repeat (first | (with_reducible first | exact HB.out | apply below_alloc | apply pw_below_drewN | apply below_drew1 | refine below_set ?_ GE140.out) | exact HB.out)⟩
  ·rw [if_neg c7] at H
   exact absurd H (by simp)

end Go.Proofs.Ytpllahncpjpfmaa.PFnExactKeyBind
