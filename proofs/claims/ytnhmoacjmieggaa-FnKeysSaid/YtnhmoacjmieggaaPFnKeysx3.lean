-- Written by xprint.py (this claim's own program, over the kit's printer); Lean checks it.
import Derived.Test.YtnhmoacjmieggaaPFnKeysx0
import Derived.Test.YtnhmoacjmieggaaPFnKeysx1
import Derived.Test.YtnhmoacjmieggaaPFnKeysx2
namespace Go.Proofs.Ytnhmoacjmieggaa.PFnKeys
open Go.RowKit Go.Proofs.YtnhmoacjmieggaaW.PrintWords Go.Proofs.YtnhmoacjmieggaaW.PrintLast Go.Proofs.YtnhmoacjmieggaaW.PrintMore
attribute [local go_sem] max2_int min2_int max_two min_two max_three min_three max_four min_four   -- for this text's walks alone
set_option linter.unusedVariables false
set_option linter.unusedSimpArgs false   -- squeezed

/-! ### spec_KeyBind: function 17 -/
@[reducible] def b17_0 : Array Bool := (br true [0, 11]).toArray
@[reducible] def b17_1 : Array Bool := (br true [1, 10]).toArray
@[reducible] def b17_2 : Array Bool := (br true [2, 9]).toArray
@[reducible] def b17_3 : Array Bool := (br true [3, 8]).toArray
@[reducible] def b17_4 : Array Bool := (br true [4, 7]).toArray
@[reducible] def b17_5 : Array Bool := (br true [5, 6]).toArray
@[reducible] def b17_6 : Array Bool := (br true [6, 5]).toArray
@[reducible] def b17_7 : Array Bool := (br true [7, 4]).toArray
@[reducible] def b17_8 : Array Bool := (br true [8, 3]).toArray
@[reducible] def b17_9 : Array Bool := (br true [9, 2]).toArray
@[reducible] def b17_10 : Array Bool := (br true [10, 1]).toArray
@[reducible] def b17_11 : Array Bool := (br true [11]).toArray
@[reducible] def b17_12 : Array Bool := (br true [0, 18]).toArray
@[reducible] def b17_13 : Array Bool := (br true [1, 17]).toArray
@[reducible] def b17_14 : Array Bool := (br true [2, 16]).toArray
@[reducible] def b17_15 : Array Bool := (br true [3, 15]).toArray
@[reducible] def b17_16 : Array Bool := (br true [4, 14]).toArray
@[reducible] def b17_17 : Array Bool := (br true [4, 1, 1, 12]).toArray
@[reducible] def b17_18 : Array Bool := (br true [6, 12]).toArray
@[reducible] def b17_19 : Array Bool := (br true [7, 11]).toArray
@[reducible] def b17_20 : Array Bool := (br true [8, 10]).toArray
@[reducible] def b17_21 : Array Bool := (br true [9, 9]).toArray
@[reducible] def b17_22 : Array Bool := (br true [10, 8]).toArray
@[reducible] def b17_23 : Array Bool := (br true [11, 7]).toArray
@[reducible] def b17_24 : Array Bool := (br true [12, 6]).toArray
@[reducible] def b17_25 : Array Bool := (br true [13, 5]).toArray
@[reducible] def b17_26 : Array Bool := (br true [13, 1, 1, 3]).toArray
@[reducible] def b17_27 : Array Bool := (br true [15, 3]).toArray
@[reducible] def b17_28 : Array Bool := (br true [16, 2]).toArray
@[reducible] def b17_29 : Array Bool := (br true [17, 1]).toArray
@[reducible] def b17_30 : Array Bool := (br true [18]).toArray
@[reducible] def b17_31 : Array Bool := (br true [14, 4]).toArray
mutual
def spec_KeyBind.l0 : Nat → List (S40) → List (S40) → List (S40) → Bool → Int → Int → ByteArray → ByteArray → Option ((List (S40)))
 | 0, _, _, _, _, _, _, _, _ => none
 | k + 1, x0, x5, x6, x7, x8, x111000, x111001, x111002 => if x8 < (x0.length : Int) then (if x7 = true then (spec_KeyBind.j1 k x0 x5 x6 x7 x8 false x111000 x111001 x111002) else (if 0 ≤ x8 then ((spec_l07Before.f ((rd_T40 x0 x8).f0) ((rd_T40 x0 x8).f1) ((rd_T40 x0 x8).f2) x111000 x111001 x111002).bind fun t125 => (spec_KeyBind.j1 k x0 x5 x6 x7 x8 (!t125) x111000 x111001 x111002)) else (none))) else (if x7 = true then ((spec_KeysRight.f k x6).bind fun t149 => (if t149 = true then (some x6) else (some x5))) else (if x6.length < 3518437208883 then ((some (x6 ++ [(⟨x111000, x111001, x111002⟩ : S40)] : List (S40))).bind fun y150 => ((spec_KeysRight.f k y150).bind fun t153 => (if t153 = true then (some y150) else (some x5)))) else (none)))
def spec_KeyBind.j1 : Nat → List (S40) → List (S40) → List (S40) → Bool → Int → Bool → Int → ByteArray → ByteArray → Option ((List (S40)))
 | 0, _, _, _, _, _, _, _, _, _ => none
 | k + 1, x0, x5, x6, x7, x8, x37, x111000, x111001, x111002 => if x37 = true then (if x6.length < 3518437208883 then ((some (x6 ++ [(⟨x111000, x111001, x111002⟩ : S40)] : List (S40))).bind fun y126 => (if 0 ≤ x8 then (if x8 < (x0.length : Int) then (if ((rd_T40 x0 x8).f0) = x111000 then (if ((rd_T40 x0 x8).f1).toList = x111001.toList then (spec_KeyBind.l0 k x0 x5 y126 true (wrap64 (x8 + 1)) x111000 x111001 x111002) else (if y126.length < 3518437208883 then (spec_KeyBind.l0 k x0 x5 (y126 ++ [(⟨(rd_T40 x0 x8).f0, (rd_T40 x0 x8).f1, (rd_T40 x0 x8).f2⟩ : S40)]) true (wrap64 (x8 + 1)) x111000 x111001 x111002) else (none))) else (if y126.length < 3518437208883 then (spec_KeyBind.l0 k x0 x5 (y126 ++ [(⟨(rd_T40 x0 x8).f0, (rd_T40 x0 x8).f1, (rd_T40 x0 x8).f2⟩ : S40)]) true (wrap64 (x8 + 1)) x111000 x111001 x111002) else (none))) else (none)) else (none))) else (none)) else (if 0 ≤ x8 then (if x8 < (x0.length : Int) then (if ((rd_T40 x0 x8).f0) = x111000 then (if ((rd_T40 x0 x8).f1).toList = x111001.toList then (spec_KeyBind.l0 k x0 x5 x6 x7 (wrap64 (x8 + 1)) x111000 x111001 x111002) else (if x6.length < 3518437208883 then (spec_KeyBind.l0 k x0 x5 (x6 ++ [(⟨(rd_T40 x0 x8).f0, (rd_T40 x0 x8).f1, (rd_T40 x0 x8).f2⟩ : S40)]) x7 (wrap64 (x8 + 1)) x111000 x111001 x111002) else (none))) else (if x6.length < 3518437208883 then (spec_KeyBind.l0 k x0 x5 (x6 ++ [(⟨(rd_T40 x0 x8).f0, (rd_T40 x0 x8).f1, (rd_T40 x0 x8).f2⟩ : S40)]) x7 (wrap64 (x8 + 1)) x111000 x111001 x111002) else (none))) else (none)) else (none))
end
def spec_KeyBind.f (k : Nat) (l0 : List (S40)) (a1_0 : Int) (a1_1 : ByteArray) (a1_2 : ByteArray) : Option ((List (S40))) := if (l0.length : Int) > 400 then (some (([] : List (S40)))) else ((some (([] : List (S40)) : List (S40))).bind fun y114 => (if y114.length + l0.length < 3518437208883 then ((some (y114 ++ l0 : List (S40))).bind fun y117 => ((spec_KeysRight.f k l0).bind fun t120 => (if t120 = true then (spec_KeyBind.l0 k l0 y117 (([] : List (S40))) false 0 a1_0 a1_1 a1_2) else (some y117)))) else (none)))
theorem spec_KeyBind.mono_l : ∀ k, (∀ y0 y1 y2 y3 y4 y5 y6 y7, LeO (spec_KeyBind.l0 k y0 y1 y2 y3 y4 y5 y6 y7) (spec_KeyBind.l0 (k + 1) y0 y1 y2 y3 y4 y5 y6 y7)) ∧ (∀ y0 y1 y2 y3 y4 y5 y6 y7 y8, LeO (spec_KeyBind.j1 k y0 y1 y2 y3 y4 y5 y6 y7 y8) (spec_KeyBind.j1 (k + 1) y0 y1 y2 y3 y4 y5 y6 y7 y8))
 | 0 => ⟨fun _ _ _ _ _ _ _ _ r h => by simp [spec_KeyBind.l0] at h, fun _ _ _ _ _ _ _ _ _ r h => by simp [spec_KeyBind.j1] at h⟩
 | k + 1 => by
  obtain ⟨ih0, ih1⟩ := spec_KeyBind.mono_l k
  refine ⟨?_, ?_⟩
  ·intro y0 y1 y2 y3 y4 y5 y6 y7
   unfold spec_KeyBind.l0
   repeat' first
   | (with_reducible exact ih0 _ _ _ _ _ _ _ _)
   | (with_reducible exact ih1 _ _ _ _ _ _ _ _ _)
   | (with_reducible exact spec_KeysRight.mono _ _)
   | (with_reducible exact LeO.refl _)
   | (with_reducible exact LeO.none _)
   | (with_reducible refine LeO.ite ?_ ?_)
   | (with_reducible refine LeO.bind ?_ (fun _ => ?_))
   | exact ih0 _ _ _ _ _ _ _ _
   | exact ih1 _ _ _ _ _ _ _ _ _
   | exact spec_KeysRight.mono _ _
   | refine LeO.bind ?_ (fun _ => ?_)
  ·intro y0 y1 y2 y3 y4 y5 y6 y7 y8
   unfold spec_KeyBind.j1
   repeat' first
   | (with_reducible exact ih0 _ _ _ _ _ _ _ _)
   | (with_reducible exact ih1 _ _ _ _ _ _ _ _ _)
   | (with_reducible exact spec_KeysRight.mono _ _)
   | (with_reducible exact LeO.refl _)
   | (with_reducible exact LeO.none _)
   | (with_reducible refine LeO.ite ?_ ?_)
   | (with_reducible refine LeO.bind ?_ (fun _ => ?_))
   | exact ih0 _ _ _ _ _ _ _ _
   | exact ih1 _ _ _ _ _ _ _ _ _
   | exact spec_KeysRight.mono _ _
   | refine LeO.bind ?_ (fun _ => ?_)
theorem spec_KeyBind.mono : ∀ a0 a1 a2 a3 k, LeO (spec_KeyBind.f k a0 a1 a2 a3) (spec_KeyBind.f (k + 1) a0 a1 a2 a3) := by
 intro a0 a1 a2 a3 k
 obtain ⟨ih0, ih1⟩ := spec_KeyBind.mono_l k
 unfold spec_KeyBind.f
 repeat' first
   | (with_reducible exact ih0 _ _ _ _ _ _ _ _)
   | (with_reducible exact ih1 _ _ _ _ _ _ _ _ _)
   | (with_reducible exact spec_KeysRight.mono _ _)
   | (with_reducible exact LeO.refl _)
   | (with_reducible exact LeO.none _)
   | (with_reducible refine LeO.ite ?_ ?_)
   | (with_reducible refine LeO.bind ?_ (fun _ => ?_))
   | exact ih0 _ _ _ _ _ _ _ _
   | exact ih1 _ _ _ _ _ _ _ _ _
   | exact spec_KeysRight.mono _ _
   | refine LeO.bind ?_ (fun _ => ?_)
def spec_KeyBind.T11 : Bool × List (List Nat × List Nat) := (true, [([], []), ([0], [0]), ([1], [1]), ([2], [2]), ([2], [2]), ([3, 4, 2], [2, 3, 4]), ([5, 2], [2, 5]), ([2], [2]), ([6, 7, 2, 2], [2, 6, 7]), ([8, 2], [2, 8]), ([2, 9], [2, 9])])
def spec_KeyBind.B11 : List Nat := [0, 1, 3, 7, 7, 31, 63, 7, 255, 511, 1023]
theorem spec_KeyBind.tab11 : rtab .any (opsOf Try.f17 11) = spec_KeyBind.T11 := by kernel_rfl
theorem spec_KeyBind.bits11 : waitsOk spec_KeyBind.T11.2 spec_KeyBind.B11 = true := by kernel_rfl
def spec_KeyBind.T14 : Bool × List (List Nat × List Nat) := (true, [([], []), ([], []), ([0, 1], [0, 1]), ([2], [2]), ([3], [3]), ([], []), ([5], [5]), ([4, 6], [4, 6]), ([7], [7]), ([8], [8]), ([8], [8]), ([9, 10, 8], [8, 9, 10]), ([11, 8], [8, 11]), ([12, 8], [8, 12]), ([8], [8]), ([14, 8], [8, 14]), ([13, 15, 8], [8, 13, 15]), ([8, 16], [8, 16])])
def spec_KeyBind.B14 : List Nat := [0, 0, 3, 7, 15, 0, 32, 127, 255, 511, 511, 2047, 4095, 8191, 511, 16895, 65535, 131071]
theorem spec_KeyBind.tab14 : rtab .any (opsOf Try.f17 14) = spec_KeyBind.T14 := by kernel_rfl
theorem spec_KeyBind.bits14 : waitsOk spec_KeyBind.T14.2 spec_KeyBind.B14 = true := by kernel_rfl
set_option maxHeartbeats 8000000 in
set_option maxRecDepth 100000 in
theorem spec_KeyBind.calls (k : Nat) (A0 : Option Addr) (c0 : Nat) (l0 : List (S40)) (a1_0 : Int) (a1_1 : ByteArray) (a1_2 : ByteArray) (r : List (S40)) (w : World) (hr0 : Kd.C k40 w A0 l0.length l0) (hc0 : l0.length ≤ c0) (h : spec_KeyBind.f k l0 a1_0 a1_1 a1_2 = some r) :
  Calls Try.prog 17 #[.slice A0 l0.length c0, .agg #[.int .i64 a1_0, .string a1_1, .string a1_2]] w fun e w' => ∃ v0_ : Value, e = .returned (v0_) ∧ Kd.R k40 40 w' w.heap.size (fun _ => True) v0_ r ∧ Below w.heap.size w w' := by
 have hu40 := Try.underlying40
 have HR0 := am hr0
 have HC0 := am hc0
 clear hr0 hc0
 have HB := am (Below.refl w.heap.size w)
 have H : (if (l0.length : Int) > 400 then (some (([] : List (S40)))) else ((some (([] : List (S40)) : List (S40))).bind fun y114 => (if y114.length + l0.length < 3518437208883 then ((some (y114 ++ l0 : List (S40))).bind fun y117 => ((spec_KeysRight.f k l0).bind fun t120 => (if t120 = true then (spec_KeyBind.l0 k l0 y117 (([] : List (S40))) false 0 a1_0 a1_1 a1_2) else (some y117)))) else (none)))) = some r := h
 clear h
 by_cases c3 : (l0.length : Int) > 400
 ·rw [if_pos c3] at H
  have c3b0 : decide (400 < (l0.length : Int)) = true := decide_eq_true c3
  have c3b1 : decide (400 < l0.length) = true := decide_eq_true (by omega)
  clear c3
  obtain ⟨y111, hy111⟩ : ∃ y_ : List (S40), y_ = (([] : List (S40))) := ⟨_, rfl⟩
  replace H : (some y111) = some r := by first | (rw [hy111]; with_reducible exact H) | (have H2_ := (Option.bind_some _ _).symm.trans H; rw [hy111]; with_reducible exact H2_) | (have H2_ := (Option.bind_some _ _).symm.trans H; with_reducible exact H2_) | with_reducible exact H | (rw [hy111]; exact H) | exact H
  have Ny111 := am hy111
  clear hy111
  obtain rfl := Option.some.inj H
  go_enter Try.func17, Try.ntmps17
  go_wp2_with (first | ((with_reducible refine gate_dst (N := 3) rfl ?_); refine box_event ?hg (N := 3) ?hd (cs := #[.int .i64 a1_0, .string a1_1, .string a1_2]) (t := 40) ?hr ?_; (case hd => rfl); (case hg => rfl); (case hr => first | (go_simp; done) | (go_simp; rfl)); intro gb110 hg w4 hbox hb; have BK110 := am (hbox); have GW110 := am ((by rw [hg]; exact (below_size (bl HB.out)) : w.heap.size ≤ gb110)); have GE110 := GW110; replace HB := am (below_step (bl HB.out) hb); clear hb hbox hg) | ((with_reducible refine gate_dst (N := 12) rfl ?_); refine Kd.R_lit k40 _ 40 ?hg (N := 12) ?hd (xs := ([] : List (S40))) (inner := []) (ok := fun _ => True) (okp := fun _ => True) ?hr ?hp (fun _ hk => hk) trivial (Below.refl _ _) (Nat.le_refl _) (by simp) ?_; (case hd => rfl); (case hg => rfl); (case hr => first | (go_simp; done) | (go_simp; rfl)); (case hp => exact (Reps.none _ _)); intro v112 w5 ho6 hb hg_ hnew_; clear hg_ hnew_; (first | rw [← Ny111.out] at ho6 | (simp only [Int.reduceToNat] at ho6; rw [← Ny111.out] at ho6)); have HO113 := am (Kd.R_lower (Kd.R_newB ho6 (g := gb110) (o := .cells #[.int .i64 a1_0, .string a1_1, .string a1_2] 40 (0, 0)) (pk BK110.out)) (below_size (bl HB.out))); replace BK110 := am (blk_below (pk BK110.out) hb); replace HB := am (below_step (bl HB.out) hb); clear hb ho6))
  go_ret
  exact ⟨_, by first | rfl | (simp [errW_none, errW_some] <;> rfl) | (simp [*, errW_none, errW_some] <;> rfl), kr (Kd.R_mono HO113.out (fun _ hk => trivial)), by repeat (first | (with_reducible first | exact HB.out | apply below_alloc | apply pw_below_drewN | apply below_drew1 | refine below_set ?_ GE110.out) | exact HB.out)⟩
 ·rw [if_neg c3] at H
  have c3b0 : decide (400 < (l0.length : Int)) = false := decide_eq_false c3
  have c3b1 : decide (400 < l0.length) = false := decide_eq_false (by omega)
  clear c3
  obtain ⟨y114, hy114⟩ : ∃ y_ : List (S40), y_ = (([] : List (S40))) := ⟨_, rfl⟩
  replace H : (if y114.length + l0.length < 3518437208883 then ((some (y114 ++ l0 : List (S40))).bind fun y117 => ((spec_KeysRight.f k l0).bind fun t120 => (if t120 = true then (spec_KeyBind.l0 k l0 y117 (([] : List (S40))) false 0 a1_0 a1_1 a1_2) else (some y117)))) else (none)) = some r := by first | (rw [hy114]; with_reducible exact H) | (have H2_ := (Option.bind_some _ _).symm.trans H; rw [hy114]; with_reducible exact H2_) | (have H2_ := (Option.bind_some _ _).symm.trans H; with_reducible exact H2_) | with_reducible exact H | (rw [hy114]; exact H) | exact H
  have Ny114 := am hy114
  clear hy114
  by_cases c7 : y114.length + l0.length < 3518437208883
  ·rw [if_pos c7] at H
   have LMc7 := Aside0.mk c7
   clear c7
   obtain ⟨y117, hy117⟩ : ∃ y_ : List (S40), y_ = (y114 ++ l0) := ⟨_, rfl⟩
   replace H : ((spec_KeysRight.f k l0).bind fun t120 => (if t120 = true then (spec_KeyBind.l0 k l0 y117 (([] : List (S40))) false 0 a1_0 a1_1 a1_2) else (some y117))) = some r := by first | (rw [hy117]; with_reducible exact H) | (have H2_ := (Option.bind_some _ _).symm.trans H; rw [hy117]; with_reducible exact H2_) | (have H2_ := (Option.bind_some _ _).symm.trans H; with_reducible exact H2_) | with_reducible exact H | (rw [hy117]; exact H) | exact H
   have Ny117 := am hy117
   clear hy117
   replace H := Option.bind_eq_some_iff.mp H
   obtain ⟨t120, A80, H⟩ := H
   replace H : (if t120 = true then (spec_KeyBind.l0 k l0 y117 (([] : List (S40))) false 0 a1_0 a1_1 a1_2) else (some y117)) = some r := H
   have A8 := Aside0.mk A80
   clear A80
   by_cases c9 : t120 = true
   ·subst c9
    have H1 : (spec_KeyBind.l0 k l0 y117 (([] : List (S40))) false 0 a1_0 a1_1 a1_2) = some r := by rw [if_pos rfl] at H; exact H
    clear H
    have H := H1
    clear H1
    obtain ⟨y121, hy121⟩ : ∃ y_ : List (S40), y_ = (([] : List (S40))) := ⟨_, rfl⟩
    replace H : (spec_KeyBind.l0 k l0 y117 y121 false 0 a1_0 a1_1 a1_2) = some r := by first | (rw [hy121]; with_reducible exact H) | (have H2_ := (Option.bind_some _ _).symm.trans H; rw [hy121]; with_reducible exact H2_) | (have H2_ := (Option.bind_some _ _).symm.trans H; with_reducible exact H2_) | with_reducible exact H | (rw [hy121]; exact H) | exact H
    have Ny121 := am hy121
    clear hy121
    have H' := Aside0.mk H
    clear H
    go_enter Try.func17, Try.ntmps17
    go_wp2_with (first | ((with_reducible refine gate_dst (N := 3) rfl ?_); refine box_event ?hg (N := 3) ?hd (cs := #[.int .i64 a1_0, .string a1_1, .string a1_2]) (t := 40) ?hr ?_; (case hd => rfl); (case hg => rfl); (case hr => first | (go_simp; done) | (go_simp; rfl)); intro gb110 hg w10 hbox hb; have BK110 := am (hbox); have GW110 := am ((by rw [hg]; exact (below_size (bl HB.out)) : w.heap.size ≤ gb110)); have GE110 := GW110; replace HB := am (below_step (bl HB.out) hb); clear hb hbox hg) | ((with_reducible refine gate_dst (N := 13) rfl ?_); refine Kd.R_lit k40 _ 40 ?hg (N := 13) ?hd (xs := ([] : List (S40))) (inner := []) (ok := fun _ => True) (okp := fun _ => True) ?hr ?hp (fun _ hk => hk) trivial (Below.refl _ _) (Nat.le_refl _) (by simp) ?_; (case hd => rfl); (case hg => rfl); (case hr => first | (go_simp; done) | (go_simp; rfl)); (case hp => exact (Reps.none _ _)); intro v115 w11 ho12 hb hg_ hnew_; clear hg_ hnew_; (first | rw [← Ny114.out] at ho12 | (simp only [Int.reduceToNat] at ho12; rw [← Ny114.out] at ho12)); have HO116 := am (Kd.R_lower (Kd.R_newB ho12 (g := gb110) (o := .cells #[.int .i64 a1_0, .string a1_1, .string a1_2] 40 (0, 0)) (pk BK110.out)) (below_size (bl HB.out))); replace BK110 := am (blk_below (pk BK110.out) hb); replace HB := am (below_step (bl HB.out) hb); clear hb ho12) | ((with_reducible refine gate_builtin (b := .append) (xs := #[.tmp 13, .tmp 14]) rfl ?_); at_builtin; refine Kd.R_append_rows k40 (w0 := w) w.heap.size rfl (.tmp 13) (.tmp 14) 24 40 (.agg #[(.int .i64 0), (.string ⟨#[]⟩), (.string ⟨#[]⟩)]) 40 rfl Try.underlying24 info40 rfl (by decide) (by omega) v115 y114 l0 _ _ _ (fun k_ => k_ ≠ gb110) (fun _ => False) rfl rfl ?aO ?aR (fun _ _ h => h) (fun _ h => h.elim) ?aF ?aB ?aS ?aL ?_; (case aR => repeat (first | exact (Kd.C_below HR0.out HB.out) | (with_reducible refine Kd.C_alloc ?_ _) | (with_reducible refine Kd.C_drewN ?_ _) | (with_reducible refine Kd.C_drew ?_))); (case aB => exact (bl HB.out)); (case aF => exact (fun k_ hk => Kd.freshB (g := gb110) (o := .cells #[.int .i64 a1_0, .string a1_1, .string a1_2] 40 (0, 0)) (pk BK110.out) k_ hk)); (case aO => exact (kr (Kd.R_mono HO116.out (fun _ hk => hk.2)))); (case aS => exact (below_size (bl HB.out))); (case aL => have := LMc7.out; omega); intro v118 w13 ho hb hg hat; rw [← Ny117.out] at ho; replace BK110 := am (blk_grown (g := gb110) (o := .cells #[.int .i64 a1_0, .string a1_1, .string a1_2] 40 (0, 0)) (pk BK110.out) hg (Kd.R_away HO116.out (fun _ hk => hk.2))); replace HB := am (hb); have HO119 := am (ho); clear HO116; clear ho hb hg hat) | ((with_reducible refine gate_callee (f := 20) rfl ?_); refine gl (some 17) Try.func20 #[.slice A0 l0.length c0] ?_; (with_reducible refine (spec_KeysRight.calls k _ _ l0 true _ ?side1 ?side2 A8.out).mono ?_); (case side1 => repeat (first | exact (Kd.C_below HR0.out HB.out) | (with_reducible refine Kd.C_alloc ?_ _) | (with_reducible refine Kd.C_drewN ?_ _) | (with_reducible refine Kd.C_drew ?_))); (case side2 => exact HC0.out); rintro e w14 ⟨rfl, hb⟩; refine ⟨_, rfl, ?_⟩; replace HO119 := am (Kd.R_below (kr HO119.out) hb); replace BK110 := am (blk_below (pk BK110.out) hb); replace HB := am (below_step (bl HB.out) hb); (try clear hb); (try clear hb2); (try clear hk); (try clear hi)) | ((with_reducible refine gate_dst (N := 20) rfl ?_); refine Kd.R_lit k40 _ 40 ?hg (N := 20) ?hd (xs := ([] : List (S40))) (inner := []) (ok := fun _ => True) (okp := fun _ => True) ?hr ?hp (fun _ hk => hk) trivial (Below.refl _ _) (Nat.le_refl _) (by simp) ?_; (case hd => rfl); (case hg => rfl); (case hr => first | (go_simp; done) | (go_simp; rfl)); (case hp => exact (Reps.none _ _)); intro v122 w15 ho16 hb hg_ hnew_; clear hg_ hnew_; (first | rw [← Ny121.out] at ho16 | (simp only [Int.reduceToNat] at ho16; rw [← Ny121.out] at ho16)); have HO123 := am (Kd.R_lower (Kd.R_newB (Kd.R_new' ho16 (Kd.R_lt (kr HO119.out))) (g := gb110) (o := .cells #[.int .i64 a1_0, .string a1_1, .string a1_2] 40 (0, 0)) (pk BK110.out)) (below_size (bl HB.out))); replace HO119 := am (Kd.R_elder' (kr HO119.out) (Kd.R_base ho16) hb); replace BK110 := am (blk_below (pk BK110.out) hb); replace HB := am (below_step (bl HB.out) hb); clear hb ho16))
    go_loopg [6, 7, 8] k (fun kq v6 v7 v8 w' => ∃ (x6_1 : List (S40)) (x7_1 : Bool) (x8_1 : Int), v7 = .bool x7_1 ∧ v8 = .int .i64 x8_1 ∧ Aside0 (spec_KeyBind.l0 kq l0 y117 x6_1 x7_1 x8_1 a1_0 a1_1 a1_2 = some r) ∧ Aside0 (kq ≤ k) ∧ Aside0 (Kd.R k40 40 w' w.heap.size (fun k_ => some k_ ≠ (v6 : Value).ownBlock ∧ k_ ≠ gb110) v118 y117) ∧ Aside0 (Kd.R k40 40 w' w.heap.size (fun k_ => some k_ ≠ (v118 : Value).ownBlock ∧ k_ ≠ gb110) v6 x6_1) ∧ Aside0 (w'.heap[gb110]? = some (.cells #[.int .i64 a1_0, .string a1_1, .string a1_2] 40 (0, 0))) ∧ Aside0 (Below w.heap.size w w'))
    case atStart => exact ⟨(y121), (false), (0), (by first | rfl | (simp; done) | (simp [*]; done)), (by first | rfl | (simp; done) | (simp [*]; done)), H', ⟨Nat.le_refl _⟩, ⟨kr (Kd.R_mono HO119.out (fun _ hk => ⟨hk.2, hk.1⟩))⟩, ⟨kr (Kd.R_mono HO123.out (fun _ hk => ⟨hk.1.2, hk.2⟩))⟩, ⟨pk BK110.out⟩, ⟨by repeat (first | (with_reducible first | exact HB.out | apply below_alloc | apply pw_below_drewN | apply below_drew1 | refine below_set ?_ GE110.out) | exact HB.out)⟩⟩
    case round =>
     clear H'
     try clear c1
     try clear c2
     try clear p2
     try clear c3
     try clear c3b0
     try clear c3b1
     try clear c7
     try clear c9
     obtain ⟨x6_1, x7_1, x8_1, rfl, rfl, HA, HK1, HO_5, HO_6, BK110, HB⟩ := hrel
     cases gk with
     | zero => exact absurd HA.out (by simp [spec_KeyBind.l0])
     | succ k1 =>
      have H := HA.out
      clear HA
      simp only [spec_KeyBind.l0] at H
      by_cases c17 : x8_1 < (l0.length : Int)
      ·rw [if_pos c17] at H
       have c17b0 : decide (x8_1 < (l0.length : Int)) = true := decide_eq_true c17
       clear c17
       have HC18 := Aside0.mk H
       clear H
       go_upto_region 11 with (fail)
       go_cut [37] (fun v37 wc => ∃ (kq : Nat) (x37_17 : Bool), v37 = .bool x37_17 ∧ Aside0 (spec_KeyBind.j1 kq l0 y117 x6_1 x7_1 x8_1 x37_17 a1_0 a1_1 a1_2 = some r) ∧ Aside0 (kq ≤ k1) ∧ Aside0 (Kd.R k40 40 wc w.heap.size (fun k_ => some k_ ≠ (u6 : Value).ownBlock ∧ k_ ≠ gb110) v118 y117) ∧ Aside0 (Kd.R k40 40 wc w.heap.size (fun k_ => some k_ ≠ (v118 : Value).ownBlock ∧ k_ ≠ gb110) u6 x6_1) ∧ Aside0 (wc.heap[gb110]? = some (.cells #[.int .i64 a1_0, .string a1_1, .string a1_2] 40 (0, 0))) ∧ Aside0 (Below w.heap.size w wc))
       case first =>
        have H := HC18.out
        clear HC18
        by_cases c19 : x7_1 = true
        ·subst c19
         have H1 : (spec_KeyBind.j1 k1 l0 y117 x6_1 true x8_1 false a1_0 a1_1 a1_2) = some r := by rw [if_pos rfl] at H; exact H
         clear H
         have H := H1
         clear H1
         have H' := Aside0.mk H
         clear H
         try go_wp2
         replace HO_5 := am (Kd.R_drew HO_5.out)
         replace HO_6 := am (Kd.R_drew HO_6.out)
         replace BK110 := am (blk_drew BK110.out)
         replace HB := am (below_drew1 HB.out)
         refine start_ (n := 11) (S := fun w' => True) (ds := []) b17_0 (by kernel_rfl) rfl rfl trivial (fun hHeld => ?_); refine with_tabW spec_KeyBind.tab11 spec_KeyBind.bits11 (fun HT_ HW_ => ?_)
         generalize wr.drew = w20 at HO_5 HO_6 BK110 HB hHeld ⊢
         refine pu_ 0 (some 27) ?_ b17_1 rfl rfl HT_.out (by kernel_rfl) (fun _ _ _ h => h) (Or.inl ⟨by rfl, ?_⟩) ?_ ?_ ?_; rotate_left
         ·intro w'; go_simp; with_reducible rfl
         rotate_left
         ·simp only [Act.put, sa_, s0_, ss_, i64_w, i32_w]; rfl
         refine pu_ 1 (some 28) ?_ b17_2 rfl rfl HT_.out (by kernel_rfl) (fun _ _ _ h => h) (Or.inl ⟨by rfl, ?_⟩) ?_ ?_ ?_; rotate_left
         ·intro w'; go_simp; with_reducible rfl
         rotate_left
         ·simp only [Act.put, sa_, s0_, ss_, i64_w, i32_w]; rfl
         refine pu_ 2 (some 29) ?_ b17_3 rfl rfl HT_.out (by kernel_rfl) (fun _ _ _ h => h) (Or.inl ⟨by rfl, ?_⟩) ?_ ?_ ?_; rotate_left
         ·intro w'; go_simp; with_reducible rfl
         rotate_left
         ·simp only [Act.put, sa_, s0_, ss_, i64_w, i32_w]; rfl
         refine pu_ 3 (some 30) undef b17_4 rfl rfl HT_.out (by kernel_rfl) (fun _ _ _ h => h) (Or.inr ⟨by rfl, rfl⟩) ?_ ?_ ?_; rotate_left
         ·simp only [Act.put, sa_, s0_, ss_, i64_w, i32_w]; rfl
         refine pu_ 4 (some 31) undef b17_5 rfl rfl HT_.out (by kernel_rfl) (fun _ _ _ h => h) (Or.inr ⟨by rfl, rfl⟩) ?_ ?_ ?_; rotate_left
         ·simp only [Act.put, sa_, s0_, ss_, i64_w, i32_w]; rfl
         refine pu_ 5 (some 32) undef b17_6 rfl rfl HT_.out (by kernel_rfl) (fun _ _ _ h => h) (Or.inr ⟨by rfl, rfl⟩) ?_ ?_ ?_; rotate_left
         ·simp only [Act.put, sa_, s0_, ss_, i64_w, i32_w]; rfl
         refine pu_ 6 (some 33) undef b17_7 rfl rfl HT_.out (by kernel_rfl) (fun _ _ _ h => h) (Or.inr ⟨by rfl, rfl⟩) ?_ ?_ ?_; rotate_left
         ·simp only [Act.put, sa_, s0_, ss_, i64_w, i32_w]; rfl
         refine pu_ 7 (some 34) undef b17_8 rfl rfl HT_.out (by kernel_rfl) (fun _ _ _ h => h) (Or.inr ⟨by rfl, rfl⟩) ?_ ?_ ?_; rotate_left
         ·simp only [Act.put, sa_, s0_, ss_, i64_w, i32_w]; rfl
         refine pu_ 8 (some 35) undef b17_9 rfl rfl HT_.out (by kernel_rfl) (fun _ _ _ h => h) (Or.inr ⟨by rfl, rfl⟩) ?_ ?_ ?_; rotate_left
         ·simp only [Act.put, sa_, s0_, ss_, i64_w, i32_w]; rfl
         refine pu_ 9 (some 36) undef b17_10 rfl rfl HT_.out (by kernel_rfl) (fun _ _ _ h => h) (Or.inr ⟨by rfl, rfl⟩) ?_ ?_ ?_; rotate_left
         ·simp only [Act.put, sa_, s0_, ss_, i64_w, i32_w]; rfl
         refine pu_ 10 (some 37) ?_ b17_11 rfl rfl HT_.out (by kernel_rfl) (fun _ _ _ h => h) (Or.inl ⟨by rfl, ?_⟩) ?_ ?_ ?_; rotate_left
         ·intro w'; go_simp; with_reducible rfl
         rotate_left
         ·simp only [Act.put, sa_, s0_, ss_, i64_w, i32_w]; rfl
         refine done_ (done_of HT_.out (by kernel_rfl)) ?_
         try go_wp2
         go_meet
         case rel => exact ⟨_, (false), (by first | rfl | (simp; done) | (simp [*]; done)), H', ⟨by have := HK1.out; first | omega | exact Nat.le_refl _⟩, ⟨kr HO_5.out⟩, ⟨kr HO_6.out⟩, ⟨pk BK110.out⟩, ⟨by repeat (first | (with_reducible first | exact HB.out | apply below_alloc | apply pw_below_drewN | apply below_drew1 | refine below_set ?_ GE110.out) | exact HB.out)⟩⟩
        ·replace c19 := Bool.eq_false_iff.mpr c19
         subst c19
         have H1 : (if 0 ≤ x8_1 then ((spec_l07Before.f ((rd_T40 l0 x8_1).f0) ((rd_T40 l0 x8_1).f1) ((rd_T40 l0 x8_1).f2) a1_0 a1_1 a1_2).bind fun t125 => (spec_KeyBind.j1 k1 l0 y117 x6_1 false x8_1 (!t125) a1_0 a1_1 a1_2)) else (none)) = some r := by rw [if_neg (show ¬ (false = true) by decide)] at H; exact H
         clear H
         have H := H1
         clear H1
         by_cases c21 : 0 ≤ x8_1
         ·rw [if_pos c21] at H
          have c21b0 : decide (0 ≤ x8_1) = true := decide_eq_true c21
          clear c21
          (first | rw [c21b0] | (simp only [i64_w, i32_w]; rw [c21b0]) | (have e9_ := c21b0; unfold bne at e9_; rw [e9_]) | skip)
          replace H := Option.bind_eq_some_iff.mp H
          obtain ⟨t125, A220, H⟩ := H
          replace H : (spec_KeyBind.j1 k1 l0 y117 x6_1 false x8_1 (!t125) a1_0 a1_1 a1_2) = some r := H
          have A22 := Aside0.mk A220
          clear A220
          have H' := Aside0.mk H
          clear H
          try go_wp2
          replace HO_5 := am (Kd.R_drew HO_5.out)
          replace HO_6 := am (Kd.R_drew HO_6.out)
          replace BK110 := am (blk_drew BK110.out)
          replace HB := am (below_drew1 HB.out)
          have p124 : 0 ≤ (x8_1 : Int) := of_decide_eq_true (by first | (with_reducible assumption) | assumption)
          have q124 : x8_1 < (l0.length : Int) := of_decide_eq_true (by first | (with_reducible assumption) | assumption)
          obtain ⟨ad124, e124, hx124_0, hx124_1, hx124_2⟩ := at_T40 HR0.out x8_1 p124 q124
          have hw124_2 := hx124_2
          have hw124_1 := hx124_1
          have hw124_0 := hx124_0
          cases e124
          replace hx124_0 := (HB.out.cell (World.block_lt_of_cell? w _ hx124_0)).trans hx124_0
          replace hx124_1 := (HB.out.cell (World.block_lt_of_cell? w _ hx124_1)).trans hx124_1
          replace hx124_2 := (HB.out.cell (World.block_lt_of_cell? w _ hx124_2)).trans hx124_2
          replace p124 := eq_true p124
          replace q124 := eq_true q124
          refine start_ (n := 11) (S := fun w' => w'.cell? ⟨gb110, 0, none⟩ = some (.int .i64 a1_0) ∧ w'.cell? ⟨gb110, 1, none⟩ = some (.string a1_1) ∧ w'.cell? ⟨gb110, 2, none⟩ = some (.string a1_2) ∧ w'.cell? (ad124.add ((x8_1).toNat * 3)) = some (.int .i64 ((rd_T40 l0 x8_1).f0)) ∧ w'.cell? ⟨(ad124.add ((x8_1).toNat * 3)).block, (ad124.add ((x8_1).toNat * 3)).off + 1, none⟩ = some (.string ((rd_T40 l0 x8_1).f1)) ∧ w'.cell? ⟨(ad124.add ((x8_1).toNat * 3)).block, (ad124.add ((x8_1).toNat * 3)).off + 2, none⟩ = some (.string ((rd_T40 l0 x8_1).f2))) (ds := []) b17_0 (by kernel_rfl) rfl rfl ⟨bc BK110.out 0, bc BK110.out 1, bc BK110.out 2, ((HB.out.cell (World.block_lt_of_cell? _ _ hw124_0)).trans hw124_0), ((HB.out.cell (World.block_lt_of_cell? _ _ hw124_1)).trans hw124_1), ((HB.out.cell (World.block_lt_of_cell? _ _ hw124_2)).trans hw124_2)⟩ (fun hHeld => ?_); refine with_tabW spec_KeyBind.tab11 spec_KeyBind.bits11 (fun HT_ HW_ => ?_)
          generalize wr.drew = w23 at HO_5 HO_6 BK110 HB hx124_0 hx124_1 hx124_2 hHeld ⊢
          refine pu_ 0 (some 27) ?_ b17_1 rfl rfl HT_.out (by kernel_rfl) (fun _ _ _ h => h) (Or.inl ⟨by rfl, ?_⟩) ?_ ?_ ?_; rotate_left
          ·intro w'; go_simp; with_reducible rfl
          rotate_left
          ·simp only [Act.put, sa_, s0_, ss_, i64_w, i32_w]; rfl
          refine pu_ 1 (some 28) ?_ b17_2 rfl rfl HT_.out (by kernel_rfl) (fun _ _ _ h => h) (Or.inl ⟨by rfl, ?_⟩) ?_ ?_ ?_; rotate_left
          ·intro w'; go_simp; with_reducible rfl
          rotate_left
          ·simp only [Act.put, sa_, s0_, ss_, i64_w, i32_w]; rfl
          refine pu_ 2 (some 29) ?_ b17_3 rfl rfl HT_.out (by kernel_rfl) (fun _ _ _ h => h) (Or.inl ⟨by rfl, ?_⟩) ?_ ?_ ?_; rotate_left
          ·intro w'; go_simp; with_reducible rfl
          rotate_left
          ·simp only [Act.put, sa_, s0_, ss_, i64_w, i32_w]; rfl
          refine pu_ 3 (some 30) ?_ b17_4 rfl rfl HT_.out (by kernel_rfl) (fun _ _ _ h => h) (Or.inl ⟨by rfl, ?_⟩) ?_ ?_ ?_; rotate_left
          ·intro w'; go_simp; with_reducible rfl
          rotate_left
          ·simp only [Act.put, sa_, s0_, ss_, i64_w, i32_w]; rfl
          refine pu_ 4 (some 31) ?_ b17_5 rfl rfl HT_.out (by kernel_rfl) (fun _ _ _ h => h) (Or.inl ⟨by rfl, ?_⟩) ?_ ?_ ?_; rotate_left
          ·intro w'; go_simp; with_reducible rfl
          rotate_left
          ·simp only [Act.put, sa_, s0_, ss_, i64_w, i32_w]; rfl
          refine pu_ 5 (some 32) ?_ b17_6 rfl rfl HT_.out (by kernel_rfl) (fun _ _ _ h => h) (Or.inl ⟨by rfl, ?_⟩) ?_ ?_ ?_; rotate_left
          ·intro w'; go_simp; with_reducible rfl
          rotate_left
          ·simp only [Act.put, sa_, s0_, ss_, i64_w, i32_w]; rfl
          refine tk_ 6 (some 33) ?_ b17_7 rfl rfl HT_.out HW_.out (by kernel_rfl) (fun _ _ _ h => h) (Or.inl ⟨by rfl, ?_⟩) hHeld ?_ ?_ ?_; rotate_left
          ·rintro w' ⟨s0, s1, s2, s3, s4, s5⟩; go_simp; with_reducible rfl
          rotate_left
          ·simp only [Act.put, sa_, s0_, ss_, i64_w, i32_w]; rfl
          refine tk_ 7 (some 34) ?_ b17_8 rfl rfl HT_.out HW_.out (by kernel_rfl) (fun _ _ _ h => h) (Or.inl ⟨by rfl, ?_⟩) hHeld ?_ ?_ ?_; rotate_left
          ·rintro w' ⟨s0, s1, s2, s3, s4, s5⟩; go_simp; with_reducible rfl
          rotate_left
          ·simp only [Act.put, sa_, s0_, ss_, i64_w, i32_w]; rfl
          refine one_ (i := 8) (N := some 35) b17_9 rfl rfl (one_of HT_.out (by kernel_rfl)) (by decide) (fun K hK => ?_)
          refine gs_ Try.func37 #[.agg #[.int .i64 ((rd_T40 l0 x8_1).f0), .string ((rd_T40 l0 x8_1).f1), .string ((rd_T40 l0 x8_1).f2)], .agg #[.int .i64 a1_0, .string a1_1, .string a1_2]] ?_
          with_reducible refine (spec_l07Before.calls ((rd_T40 l0 x8_1).f0) ((rd_T40 l0 x8_1).f1) ((rd_T40 l0 x8_1).f2) a1_0 a1_1 a1_2 t125 _ A22.out).mono ?_
          rintro e w24 ⟨rfl, hb⟩
          refine ⟨_, rfl, ?_⟩
          replace HO_5 := am (Kd.R_below (kr HO_5.out) hb)
          replace HO_6 := am (Kd.R_below (kr HO_6.out) hb)
          replace BK110 := am (blk_below (pk BK110.out) hb)
          replace HB := am (below_step (bl HB.out) hb)
          (try clear hb)
          (try clear hb2)
          (try clear hk)
          (try clear hi)
          refine hK.out _ _ ⟨bc BK110.out 0, bc BK110.out 1, bc BK110.out 2, ((HB.out.cell (World.block_lt_of_cell? _ _ hw124_0)).trans hw124_0), ((HB.out.cell (World.block_lt_of_cell? _ _ hw124_1)).trans hw124_1), ((HB.out.cell (World.block_lt_of_cell? _ _ hw124_2)).trans hw124_2)⟩ (fun hHeld => ?_)
          clear hK K
          refine norm_ (a' := ?_) ?_ ?_
          rotate_left
          ·show Act.put _ (some 35) _ = _
           simp only [Act.put, sa_, s0_, ss_, i64_w, i32_w]
           rfl
          refine pu_ 9 (some 36) ?_ b17_10 rfl rfl HT_.out (by kernel_rfl) (fun _ _ _ h => h) (Or.inl ⟨by rfl, ?_⟩) ?_ ?_ ?_; rotate_left
          ·intro w'; go_simp; with_reducible rfl
          rotate_left
          ·simp only [Act.put, sa_, s0_, ss_, i64_w, i32_w]; rfl
          refine pu_ 10 (some 37) ?_ b17_11 rfl rfl HT_.out (by kernel_rfl) (fun _ _ _ h => h) (Or.inl ⟨by rfl, ?_⟩) ?_ ?_ ?_; rotate_left
          ·intro w'; go_simp; with_reducible rfl
          rotate_left
          ·simp only [Act.put, sa_, s0_, ss_, i64_w, i32_w]; rfl
          refine done_ (done_of HT_.out (by kernel_rfl)) ?_
          try go_wp2
          go_meet
          case rel => exact ⟨_, (!t125), (by first | rfl | (simp; done) | (simp [*]; done)), H', ⟨by have := HK1.out; first | omega | exact Nat.le_refl _⟩, ⟨kr HO_5.out⟩, ⟨kr HO_6.out⟩, ⟨pk BK110.out⟩, ⟨by repeat (first | (with_reducible first | exact HB.out | apply below_alloc | apply pw_below_drewN | apply below_drew1 | refine below_set ?_ GE110.out) | exact HB.out)⟩⟩
         ·rw [if_neg c21] at H
          exact absurd H (by simp)
       case rest =>
        clear HC18
        try clear c1
        try clear p1
        try clear q1
        try clear hx1
        try clear c2
        try clear p2
        try clear c3
        try clear c3b0
        try clear c3b1
        try clear c7
        try clear c9
        try clear p12
        try clear q12
        try clear hx12
        try clear c17
        try clear c17b0
        try clear c19
        try clear c20
        try clear c21
        try clear c21b0
        try clear hx124_0
        try clear hx124_1
        try clear hx124_2
        try clear p124
        try clear p2
        try clear q124
        obtain ⟨kq, x37_17, rfl, HA, HJ17, HO_5, HO_6, BK110, HB⟩ := hcut
        cases kq with
        | zero => exact absurd HA.out (by simp [spec_KeyBind.j1])
        | succ kj17 =>
         have H := HA.out
         clear HA
         simp only [spec_KeyBind.j1] at H
         by_cases c25 : x37_17 = true
         ·subst c25
          have H1 : (if x6_1.length < 3518437208883 then ((some (x6_1 ++ [(⟨a1_0, a1_1, a1_2⟩ : S40)] : List (S40))).bind fun y126 => (if 0 ≤ x8_1 then (if x8_1 < (l0.length : Int) then (if ((rd_T40 l0 x8_1).f0) = a1_0 then (if ((rd_T40 l0 x8_1).f1).toList = a1_1.toList then (spec_KeyBind.l0 kj17 l0 y117 y126 true (wrap64 (x8_1 + 1)) a1_0 a1_1 a1_2) else (if y126.length < 3518437208883 then (spec_KeyBind.l0 kj17 l0 y117 (y126 ++ [(⟨(rd_T40 l0 x8_1).f0, (rd_T40 l0 x8_1).f1, (rd_T40 l0 x8_1).f2⟩ : S40)]) true (wrap64 (x8_1 + 1)) a1_0 a1_1 a1_2) else (none))) else (if y126.length < 3518437208883 then (spec_KeyBind.l0 kj17 l0 y117 (y126 ++ [(⟨(rd_T40 l0 x8_1).f0, (rd_T40 l0 x8_1).f1, (rd_T40 l0 x8_1).f2⟩ : S40)]) true (wrap64 (x8_1 + 1)) a1_0 a1_1 a1_2) else (none))) else (none)) else (none))) else (none)) = some r := by rw [if_pos rfl] at H; exact H
          clear H
          have H := H1
          clear H1
          by_cases c26 : x6_1.length < 3518437208883
          ·rw [if_pos c26] at H
           have LMc26 := Aside0.mk c26
           clear c26
           obtain ⟨y126, hy126⟩ : ∃ y_ : List (S40), y_ = (x6_1 ++ [(⟨a1_0, a1_1, a1_2⟩ : S40)]) := ⟨_, rfl⟩
           replace H : (if 0 ≤ x8_1 then (if x8_1 < (l0.length : Int) then (if ((rd_T40 l0 x8_1).f0) = a1_0 then (if ((rd_T40 l0 x8_1).f1).toList = a1_1.toList then (spec_KeyBind.l0 kj17 l0 y117 y126 true (wrap64 (x8_1 + 1)) a1_0 a1_1 a1_2) else (if y126.length < 3518437208883 then (spec_KeyBind.l0 kj17 l0 y117 (y126 ++ [(⟨(rd_T40 l0 x8_1).f0, (rd_T40 l0 x8_1).f1, (rd_T40 l0 x8_1).f2⟩ : S40)]) true (wrap64 (x8_1 + 1)) a1_0 a1_1 a1_2) else (none))) else (if y126.length < 3518437208883 then (spec_KeyBind.l0 kj17 l0 y117 (y126 ++ [(⟨(rd_T40 l0 x8_1).f0, (rd_T40 l0 x8_1).f1, (rd_T40 l0 x8_1).f2⟩ : S40)]) true (wrap64 (x8_1 + 1)) a1_0 a1_1 a1_2) else (none))) else (none)) else (none)) = some r := by first | (rw [hy126]; with_reducible exact H) | (have H2_ := (Option.bind_some _ _).symm.trans H; rw [hy126]; with_reducible exact H2_) | (have H2_ := (Option.bind_some _ _).symm.trans H; with_reducible exact H2_) | with_reducible exact H | (rw [hy126]; exact H) | exact H
           have Ny126 := am hy126
           clear hy126
           by_cases c27 : 0 ≤ x8_1
           ·rw [if_pos c27] at H
            have c27b0 : decide (0 ≤ x8_1) = true := decide_eq_true c27
            clear c27
            by_cases c28 : x8_1 < (l0.length : Int)
            ·rw [if_pos c28] at H
             have c28b0 : decide (x8_1 < (l0.length : Int)) = true := decide_eq_true c28
             clear c28
             by_cases c29 : ((rd_T40 l0 x8_1).f0) = a1_0
             ·rw [if_pos c29] at H
              have c29b0 : (((rd_T40 l0 x8_1).f0) == a1_0) = true := beq_iff_eq.mpr c29
              have c29b1 : (((rd_T40 l0 x8_1).f0) != a1_0) = false := bne_eq_false_iff_eq.mpr c29
              clear c29
              by_cases c30 : ((rd_T40 l0 x8_1).f1).toList = a1_1.toList
              ·rw [if_pos c30] at H
               have c30b0 : (((rd_T40 l0 x8_1).f1).toList == a1_1.toList) = true := beq_iff_eq.mpr c30
               have c30b1 : (((rd_T40 l0 x8_1).f1).toList != a1_1.toList) = false := bne_eq_false_iff_eq.mpr c30
               clear c30
               have H' := Aside0.mk H
               clear H
               have hcz31_0 : wc.cell? ⟨gb110, 0, none⟩ = some (.int .i64 a1_0) := bc BK110.out 0
               have hcz31_1 : wc.cell? ⟨gb110, 1, none⟩ = some (.string a1_1) := bc BK110.out 1
               have hcz31_2 : wc.cell? ⟨gb110, 2, none⟩ = some (.string a1_2) := bc BK110.out 2
               try go_wp2_with (first | ((with_reducible refine gate_builtin (b := .append) (xs := #[.tmp 38, .tmp 40]) rfl ?_); at_builtin; refine Kd.R_append k40 (w0 := w) w.heap.size rfl (.tmp 38) (.tmp 40) 24 40 (.agg #[(.int .i64 0), (.string ⟨#[]⟩), (.string ⟨#[]⟩)]) 40 rfl Try.underlying24 info40 rfl (by decide) (by omega) u6 x6_1 (⟨a1_0, a1_1, a1_2⟩ : S40) [.int .i64 a1_0, .string a1_1, .string a1_2] (fun k_ => some k_ ≠ (v118 : Value).ownBlock ∧ k_ ≠ gb110) (fun _ => False) rfl rfl ?aP (fun _ hk => hk.elim) ?aF ?aO ?aB ?aS ?aL ?_; (case aP => exact k40_mkM _ _ _ (⟨a1_0, a1_1, a1_2⟩ : S40)); (case aB => exact (bl HB.out)); (case aF => exact (fun k_ hk => ⟨Kd.fresh' (Kd.R_lt (kr HO_5.out)) k_ hk, Kd.freshB (g := gb110) (o := .cells #[.int .i64 a1_0, .string a1_1, .string a1_2] 40 (0, 0)) (pk BK110.out) k_ hk⟩)); (case aO => exact (kr HO_6.out)); (case aS => exact (below_size (bl HB.out))); (case aL => have := LMc26.out; omega); intro v127 w32 ho hb hg hat; rw [← Ny126.out] at ho; replace HO_5 := am (Kd.R_after (ok := (fun k_ => k_ ≠ gb110)) (kr (Kd.R_mono HO_5.out (fun _ hk => ⟨hk.2, hk.1⟩))) hg hat); replace BK110 := am (blk_grown (g := gb110) (o := .cells #[.int .i64 a1_0, .string a1_1, .string a1_2] 40 (0, 0)) (pk BK110.out) hg (Kd.R_away HO_6.out (fun _ hk => hk.2))); replace HB := am (hb); have HO128 := am (ho); clear HO_6; clear ho hb hg hat))
               replace HO_5 := am (Kd.R_drew HO_5.out)
               replace HO128 := am (Kd.R_drew HO128.out)
               replace BK110 := am (blk_drew BK110.out)
               replace HB := am (below_drew1 HB.out)
               have p129 : 0 ≤ (x8_1 : Int) := of_decide_eq_true (by first | (with_reducible assumption) | assumption)
               have q129 : x8_1 < (l0.length : Int) := of_decide_eq_true (by first | (with_reducible assumption) | assumption)
               obtain ⟨ad129, e129, hx129_0, hx129_1, hx129_2⟩ := at_T40 HR0.out x8_1 p129 q129
               have hw129_2 := hx129_2
               have hw129_1 := hx129_1
               have hw129_0 := hx129_0
               cases e129
               replace hx129_0 := (HB.out.cell (World.block_lt_of_cell? w _ hx129_0)).trans hx129_0
               replace hx129_1 := (HB.out.cell (World.block_lt_of_cell? w _ hx129_1)).trans hx129_1
               replace hx129_2 := (HB.out.cell (World.block_lt_of_cell? w _ hx129_2)).trans hx129_2
               replace p129 := eq_true p129
               replace q129 := eq_true q129
               have p130 : 0 ≤ (x8_1 : Int) := of_decide_eq_true (by first | (with_reducible assumption) | assumption)
               have q130 : x8_1 < (l0.length : Int) := of_decide_eq_true (by first | (with_reducible assumption) | assumption)
               obtain ⟨ad130, e130, hx130_0, hx130_1, hx130_2⟩ := at_T40 HR0.out x8_1 p130 q130
               have hw130_2 := hx130_2
               have hw130_1 := hx130_1
               have hw130_0 := hx130_0
               obtain rfl : ad129 = ad130 := (by injection e130)
               replace hx130_0 := (HB.out.cell (World.block_lt_of_cell? w _ hx130_0)).trans hx130_0
               replace hx130_1 := (HB.out.cell (World.block_lt_of_cell? w _ hx130_1)).trans hx130_1
               replace hx130_2 := (HB.out.cell (World.block_lt_of_cell? w _ hx130_2)).trans hx130_2
               replace p130 := eq_true p130
               replace q130 := eq_true q130
               refine start_ (n := 18) (S := fun w' => w'.cell? ⟨gb110, 0, none⟩ = some (.int .i64 a1_0) ∧ w'.cell? ⟨gb110, 1, none⟩ = some (.string a1_1) ∧ w'.cell? ⟨gb110, 2, none⟩ = some (.string a1_2) ∧ w'.cell? (ad129.add ((x8_1).toNat * 3)) = some (.int .i64 ((rd_T40 l0 x8_1).f0)) ∧ w'.cell? ⟨(ad129.add ((x8_1).toNat * 3)).block, (ad129.add ((x8_1).toNat * 3)).off + 1, none⟩ = some (.string ((rd_T40 l0 x8_1).f1)) ∧ w'.cell? ⟨(ad129.add ((x8_1).toNat * 3)).block, (ad129.add ((x8_1).toNat * 3)).off + 2, none⟩ = some (.string ((rd_T40 l0 x8_1).f2)) ∧ w'.cell? (ad129.add ((x8_1).toNat * 3)) = some (.int .i64 ((rd_T40 l0 x8_1).f0)) ∧ w'.cell? ⟨(ad129.add ((x8_1).toNat * 3)).block, (ad129.add ((x8_1).toNat * 3)).off + 1, none⟩ = some (.string ((rd_T40 l0 x8_1).f1)) ∧ w'.cell? ⟨(ad129.add ((x8_1).toNat * 3)).block, (ad129.add ((x8_1).toNat * 3)).off + 2, none⟩ = some (.string ((rd_T40 l0 x8_1).f2))) (ds := []) b17_12 (by kernel_rfl) rfl rfl ⟨bc BK110.out 0, bc BK110.out 1, bc BK110.out 2, ((HB.out.cell (World.block_lt_of_cell? _ _ hw129_0)).trans hw129_0), ((HB.out.cell (World.block_lt_of_cell? _ _ hw129_1)).trans hw129_1), ((HB.out.cell (World.block_lt_of_cell? _ _ hw129_2)).trans hw129_2), ((HB.out.cell (World.block_lt_of_cell? _ _ hw130_0)).trans hw130_0), ((HB.out.cell (World.block_lt_of_cell? _ _ hw130_1)).trans hw130_1), ((HB.out.cell (World.block_lt_of_cell? _ _ hw130_2)).trans hw130_2)⟩ (fun hHeld => ?_); refine with_tabW spec_KeyBind.tab14 spec_KeyBind.bits14 (fun HT_ HW_ => ?_)
               generalize w32.drew = w33 at HO_5 HO128 BK110 HB hx129_0 hx129_1 hx129_2 hx130_0 hx130_1 hx130_2 hHeld ⊢
               refine pu_ 0 (some 42) ?_ b17_13 rfl rfl HT_.out (by kernel_rfl) (fun _ _ _ h => h) (Or.inl ⟨by rfl, ?_⟩) ?_ ?_ ?_; rotate_left
               ·intro w'; go_simp; with_reducible rfl
               rotate_left
               ·simp only [Act.put, sa_, s0_, ss_, i64_w, i32_w]; rfl
               refine pu_ 1 (some 43) ?_ b17_14 rfl rfl HT_.out (by kernel_rfl) (fun _ _ _ h => h) (Or.inl ⟨by rfl, ?_⟩) ?_ ?_ ?_; rotate_left
               ·intro w'; go_simp; with_reducible rfl
               rotate_left
               ·simp only [Act.put, sa_, s0_, ss_, i64_w, i32_w]; rfl
               refine pu_ 2 (some 44) ?_ b17_15 rfl rfl HT_.out (by kernel_rfl) (fun _ _ _ h => h) (Or.inl ⟨by rfl, ?_⟩) ?_ ?_ ?_; rotate_left
               ·intro w'; go_simp; with_reducible rfl
               rotate_left
               ·simp only [Act.put, sa_, s0_, ss_, i64_w, i32_w]; rfl
               refine pu_ 3 (some 45) ?_ b17_16 rfl rfl HT_.out (by kernel_rfl) (fun _ _ _ h => h) (Or.inl ⟨by rfl, ?_⟩) ?_ ?_ ?_; rotate_left
               ·intro w'; go_simp; with_reducible rfl
               rotate_left
               ·simp only [Act.put, sa_, s0_, ss_, i64_w, i32_w]; rfl
               refine pu_ 5 (some 47) ?_ b17_17 rfl rfl HT_.out (by kernel_rfl) (fun _ _ _ h => h) (Or.inl ⟨by rfl, ?_⟩) ?_ ?_ ?_; rotate_left
               ·intro w'; go_simp; with_reducible rfl
               rotate_left
               ·simp only [Act.put, sa_, s0_, ss_, i64_w, i32_w]; rfl
               refine tk_ 4 (some 46) ?_ b17_18 rfl rfl HT_.out HW_.out (by kernel_rfl) (fun _ _ _ h => h) (Or.inl ⟨by rfl, ?_⟩) hHeld ?_ ?_ ?_; rotate_left
               ·rintro w' ⟨s0, s1, s2, s3, s4, s5, s6, s7, s8⟩; go_simp; with_reducible rfl
               rotate_left
               ·simp only [Act.put, sa_, s0_, ss_, i64_w, i32_w]; rfl
               refine tk_ 6 (some 48) ?_ b17_19 rfl rfl HT_.out HW_.out (by kernel_rfl) (fun _ _ _ h => h) (Or.inl ⟨by rfl, ?_⟩) hHeld ?_ ?_ ?_; rotate_left
               ·rintro w' ⟨s0, s1, s2, s3, s4, s5, s6, s7, s8⟩; go_simp; with_reducible rfl
               rotate_left
               ·simp only [Act.put, sa_, s0_, ss_, i64_w, i32_w]; rfl
               refine pu_ 7 (some 49) ?_ b17_20 rfl rfl HT_.out (by kernel_rfl) (fun _ _ _ h => h) (Or.inl ⟨by rfl, ?_⟩) ?_ ?_ ?_; rotate_left
               ·intro w'; go_simp; with_reducible rfl
               rotate_left
               ·simp only [Act.put, sa_, s0_, ss_, i64_w, i32_w]; rfl
               refine pu_ 8 (some 50) ?_ b17_21 rfl rfl HT_.out (by kernel_rfl) (fun _ _ _ h => h) (Or.inl ⟨by rfl, ?_⟩) ?_ ?_ ?_; rotate_left
               ·intro w'; go_simp; with_reducible rfl
               rotate_left
               ·simp only [Act.put, sa_, s0_, ss_, i64_w, i32_w]; rfl
               refine pu_ 9 (some 51) ?_ b17_22 rfl rfl HT_.out (by kernel_rfl) (fun _ _ _ h => h) (Or.inl ⟨by rfl, ?_⟩) ?_ ?_ ?_; rotate_left
               ·intro w'; go_simp; with_reducible rfl
               rotate_left
               ·simp only [Act.put, sa_, s0_, ss_, i64_w, i32_w]; rfl
               refine pu_ 10 (some 52) ?_ b17_23 rfl rfl HT_.out (by kernel_rfl) (fun _ _ _ h => h) (Or.inl ⟨by rfl, ?_⟩) ?_ ?_ ?_; rotate_left
               ·intro w'; go_simp; with_reducible rfl
               rotate_left
               ·simp only [Act.put, sa_, s0_, ss_, i64_w, i32_w]; rfl
               refine pu_ 11 (some 53) ?_ b17_24 rfl rfl HT_.out (by kernel_rfl) (fun _ _ _ h => h) (Or.inl ⟨by rfl, ?_⟩) ?_ ?_ ?_; rotate_left
               ·intro w'; go_simp; with_reducible rfl
               rotate_left
               ·simp only [Act.put, sa_, s0_, ss_, i64_w, i32_w]; rfl
               refine pu_ 12 (some 54) ?_ b17_25 rfl rfl HT_.out (by kernel_rfl) (fun _ _ _ h => h) (Or.inl ⟨by rfl, ?_⟩) ?_ ?_ ?_; rotate_left
               ·intro w'; go_simp; with_reducible rfl
               rotate_left
               ·simp only [Act.put, sa_, s0_, ss_, i64_w, i32_w]; rfl
               refine pu_ 14 (some 56) ?_ b17_26 rfl rfl HT_.out (by kernel_rfl) (fun _ _ _ h => h) (Or.inl ⟨by rfl, ?_⟩) ?_ ?_ ?_; rotate_left
               ·intro w'; go_simp; with_reducible rfl
               rotate_left
               ·simp only [Act.put, sa_, s0_, ss_, i64_w, i32_w]; rfl
               refine tk_ 13 (some 55) ?_ b17_27 rfl rfl HT_.out HW_.out (by kernel_rfl) (fun _ _ _ h => h) (Or.inl ⟨by rfl, ?_⟩) hHeld ?_ ?_ ?_; rotate_left
               ·rintro w' ⟨s0, s1, s2, s3, s4, s5, s6, s7, s8⟩; go_simp; with_reducible rfl
               rotate_left
               ·simp only [Act.put, sa_, s0_, ss_, i64_w, i32_w]; rfl
               refine tk_ 15 (some 57) ?_ b17_28 rfl rfl HT_.out HW_.out (by kernel_rfl) (fun _ _ _ h => h) (Or.inl ⟨by rfl, ?_⟩) hHeld ?_ ?_ ?_; rotate_left
               ·rintro w' ⟨s0, s1, s2, s3, s4, s5, s6, s7, s8⟩; go_simp; with_reducible rfl
               rotate_left
               ·simp only [Act.put, sa_, s0_, ss_, i64_w, i32_w]; rfl
               refine pu_ 16 (some 58) ?_ b17_29 rfl rfl HT_.out (by kernel_rfl) (fun _ _ _ h => h) (Or.inl ⟨by rfl, ?_⟩) ?_ ?_ ?_; rotate_left
               ·intro w'; go_simp; with_reducible rfl
               rotate_left
               ·simp only [Act.put, sa_, s0_, ss_, i64_w, i32_w]; rfl
               refine pu_ 17 (some 59) ?_ b17_30 rfl rfl HT_.out (by kernel_rfl) (fun _ _ _ h => h) (Or.inl ⟨by rfl, ?_⟩) ?_ ?_ ?_; rotate_left
               ·intro w'; go_simp; with_reducible rfl
               rotate_left
               ·simp only [Act.put, sa_, s0_, ss_, i64_w, i32_w]; rfl
               refine done_ (done_of HT_.out (by kernel_rfl)) ?_
               try go_wp2
               go_roundg kj17
               case measure => have := HK1.out; have := HJ17.out; omega
               case rel => exact ⟨(y126), (true), (wrap64 (x8_1 + 1)), (by first | rfl | (simp; done) | (simp [*]; done)), (by first | rfl | (simp; done) | (simp [*]; done)), H', ⟨by have := HK1.out; have := HJ17.out; omega⟩, ⟨kr (Kd.R_mono HO_5.out (fun _ hk => ⟨hk.2, hk.1⟩))⟩, ⟨kr HO128.out⟩, ⟨pk BK110.out⟩, ⟨by repeat (first | (with_reducible first | exact HB.out | apply below_alloc | apply pw_below_drewN | apply below_drew1 | refine below_set ?_ GE110.out) | exact HB.out)⟩⟩
              ·rw [if_neg c30] at H
               have c30b0 : (((rd_T40 l0 x8_1).f1).toList == a1_1.toList) = false := beq_eq_false_iff_ne.mpr c30
               have c30b1 : (((rd_T40 l0 x8_1).f1).toList != a1_1.toList) = true := bne_iff_ne.mpr c30
               by_cases c34 : y126.length < 3518437208883
               ·rw [if_pos c34] at H
                have LMc34 := Aside0.mk c34
                clear c34
                obtain ⟨y132, hy132⟩ : ∃ y_ : List (S40), y_ = (y126 ++ [(⟨(rd_T40 l0 x8_1).f0, (rd_T40 l0 x8_1).f1, (rd_T40 l0 x8_1).f2⟩ : S40)]) := ⟨_, rfl⟩
                replace H : (spec_KeyBind.l0 kj17 l0 y117 y132 true (wrap64 (x8_1 + 1)) a1_0 a1_1 a1_2) = some r := by first | (rw [hy132]; with_reducible exact H) | (have H2_ := (Option.bind_some _ _).symm.trans H; rw [hy132]; with_reducible exact H2_) | (have H2_ := (Option.bind_some _ _).symm.trans H; with_reducible exact H2_) | with_reducible exact H | (rw [hy132]; exact H) | exact H
                have Ny132 := am hy132
                clear hy132
                have H' := Aside0.mk H
                clear H
                have hcz35_0 : wc.cell? ⟨gb110, 0, none⟩ = some (.int .i64 a1_0) := bc BK110.out 0
                have hcz35_1 : wc.cell? ⟨gb110, 1, none⟩ = some (.string a1_1) := bc BK110.out 1
                have hcz35_2 : wc.cell? ⟨gb110, 2, none⟩ = some (.string a1_2) := bc BK110.out 2
                try go_wp2_with (first | ((with_reducible refine gate_builtin (b := .append) (xs := #[.tmp 38, .tmp 40]) rfl ?_); at_builtin; refine Kd.R_append k40 (w0 := w) w.heap.size rfl (.tmp 38) (.tmp 40) 24 40 (.agg #[(.int .i64 0), (.string ⟨#[]⟩), (.string ⟨#[]⟩)]) 40 rfl Try.underlying24 info40 rfl (by decide) (by omega) u6 x6_1 (⟨a1_0, a1_1, a1_2⟩ : S40) [.int .i64 a1_0, .string a1_1, .string a1_2] (fun k_ => some k_ ≠ (v118 : Value).ownBlock ∧ k_ ≠ gb110) (fun _ => False) rfl rfl ?aP (fun _ hk => hk.elim) ?aF ?aO ?aB ?aS ?aL ?_; (case aP => exact k40_mkM _ _ _ (⟨a1_0, a1_1, a1_2⟩ : S40)); (case aB => exact (bl HB.out)); (case aF => exact (fun k_ hk => ⟨Kd.fresh' (Kd.R_lt (kr HO_5.out)) k_ hk, Kd.freshB (g := gb110) (o := .cells #[.int .i64 a1_0, .string a1_1, .string a1_2] 40 (0, 0)) (pk BK110.out) k_ hk⟩)); (case aO => exact (kr HO_6.out)); (case aS => exact (below_size (bl HB.out))); (case aL => have := LMc26.out; omega); intro v127 w36 ho hb hg hat; rw [← Ny126.out] at ho; replace HO_5 := am (Kd.R_after (ok := (fun k_ => k_ ≠ gb110)) (kr (Kd.R_mono HO_5.out (fun _ hk => ⟨hk.2, hk.1⟩))) hg hat); replace BK110 := am (blk_grown (g := gb110) (o := .cells #[.int .i64 a1_0, .string a1_1, .string a1_2] 40 (0, 0)) (pk BK110.out) hg (Kd.R_away HO_6.out (fun _ hk => hk.2))); replace HB := am (hb); have HO128 := am (ho); clear HO_6; clear ho hb hg hat))
                replace HO_5 := am (Kd.R_drew HO_5.out)
                replace HO128 := am (Kd.R_drew HO128.out)
                replace BK110 := am (blk_drew BK110.out)
                replace HB := am (below_drew1 HB.out)
                have p129 : 0 ≤ (x8_1 : Int) := of_decide_eq_true (by first | (with_reducible assumption) | assumption)
                have q129 : x8_1 < (l0.length : Int) := of_decide_eq_true (by first | (with_reducible assumption) | assumption)
                obtain ⟨ad129, e129, hx129_0, hx129_1, hx129_2⟩ := at_T40 HR0.out x8_1 p129 q129
                have hw129_2 := hx129_2
                have hw129_1 := hx129_1
                have hw129_0 := hx129_0
                cases e129
                replace hx129_0 := (HB.out.cell (World.block_lt_of_cell? w _ hx129_0)).trans hx129_0
                replace hx129_1 := (HB.out.cell (World.block_lt_of_cell? w _ hx129_1)).trans hx129_1
                replace hx129_2 := (HB.out.cell (World.block_lt_of_cell? w _ hx129_2)).trans hx129_2
                replace p129 := eq_true p129
                replace q129 := eq_true q129
                have p130 : 0 ≤ (x8_1 : Int) := of_decide_eq_true (by first | (with_reducible assumption) | assumption)
                have q130 : x8_1 < (l0.length : Int) := of_decide_eq_true (by first | (with_reducible assumption) | assumption)
                obtain ⟨ad130, e130, hx130_0, hx130_1, hx130_2⟩ := at_T40 HR0.out x8_1 p130 q130
                have hw130_2 := hx130_2
                have hw130_1 := hx130_1
                have hw130_0 := hx130_0
                obtain rfl : ad129 = ad130 := (by injection e130)
                replace hx130_0 := (HB.out.cell (World.block_lt_of_cell? w _ hx130_0)).trans hx130_0
                replace hx130_1 := (HB.out.cell (World.block_lt_of_cell? w _ hx130_1)).trans hx130_1
                replace hx130_2 := (HB.out.cell (World.block_lt_of_cell? w _ hx130_2)).trans hx130_2
                replace p130 := eq_true p130
                replace q130 := eq_true q130
                refine start_ (n := 18) (S := fun w' => w'.cell? ⟨gb110, 0, none⟩ = some (.int .i64 a1_0) ∧ w'.cell? ⟨gb110, 1, none⟩ = some (.string a1_1) ∧ w'.cell? ⟨gb110, 2, none⟩ = some (.string a1_2) ∧ w'.cell? (ad129.add ((x8_1).toNat * 3)) = some (.int .i64 ((rd_T40 l0 x8_1).f0)) ∧ w'.cell? ⟨(ad129.add ((x8_1).toNat * 3)).block, (ad129.add ((x8_1).toNat * 3)).off + 1, none⟩ = some (.string ((rd_T40 l0 x8_1).f1)) ∧ w'.cell? ⟨(ad129.add ((x8_1).toNat * 3)).block, (ad129.add ((x8_1).toNat * 3)).off + 2, none⟩ = some (.string ((rd_T40 l0 x8_1).f2)) ∧ w'.cell? (ad129.add ((x8_1).toNat * 3)) = some (.int .i64 ((rd_T40 l0 x8_1).f0)) ∧ w'.cell? ⟨(ad129.add ((x8_1).toNat * 3)).block, (ad129.add ((x8_1).toNat * 3)).off + 1, none⟩ = some (.string ((rd_T40 l0 x8_1).f1)) ∧ w'.cell? ⟨(ad129.add ((x8_1).toNat * 3)).block, (ad129.add ((x8_1).toNat * 3)).off + 2, none⟩ = some (.string ((rd_T40 l0 x8_1).f2))) (ds := []) b17_12 (by kernel_rfl) rfl rfl ⟨bc BK110.out 0, bc BK110.out 1, bc BK110.out 2, ((HB.out.cell (World.block_lt_of_cell? _ _ hw129_0)).trans hw129_0), ((HB.out.cell (World.block_lt_of_cell? _ _ hw129_1)).trans hw129_1), ((HB.out.cell (World.block_lt_of_cell? _ _ hw129_2)).trans hw129_2), ((HB.out.cell (World.block_lt_of_cell? _ _ hw130_0)).trans hw130_0), ((HB.out.cell (World.block_lt_of_cell? _ _ hw130_1)).trans hw130_1), ((HB.out.cell (World.block_lt_of_cell? _ _ hw130_2)).trans hw130_2)⟩ (fun hHeld => ?_); refine with_tabW spec_KeyBind.tab14 spec_KeyBind.bits14 (fun HT_ HW_ => ?_)
                generalize w36.drew = w37 at HO_5 HO128 BK110 HB hx129_0 hx129_1 hx129_2 hx130_0 hx130_1 hx130_2 hHeld ⊢
                refine pu_ 0 (some 42) ?_ b17_13 rfl rfl HT_.out (by kernel_rfl) (fun _ _ _ h => h) (Or.inl ⟨by rfl, ?_⟩) ?_ ?_ ?_; rotate_left
                ·intro w'; go_simp; with_reducible rfl
                rotate_left
                ·simp only [Act.put, sa_, s0_, ss_, i64_w, i32_w]; rfl
                refine pu_ 1 (some 43) ?_ b17_14 rfl rfl HT_.out (by kernel_rfl) (fun _ _ _ h => h) (Or.inl ⟨by rfl, ?_⟩) ?_ ?_ ?_; rotate_left
                ·intro w'; go_simp; with_reducible rfl
                rotate_left
                ·simp only [Act.put, sa_, s0_, ss_, i64_w, i32_w]; rfl
                refine pu_ 2 (some 44) ?_ b17_15 rfl rfl HT_.out (by kernel_rfl) (fun _ _ _ h => h) (Or.inl ⟨by rfl, ?_⟩) ?_ ?_ ?_; rotate_left
                ·intro w'; go_simp; with_reducible rfl
                rotate_left
                ·simp only [Act.put, sa_, s0_, ss_, i64_w, i32_w]; rfl
                refine pu_ 3 (some 45) ?_ b17_16 rfl rfl HT_.out (by kernel_rfl) (fun _ _ _ h => h) (Or.inl ⟨by rfl, ?_⟩) ?_ ?_ ?_; rotate_left
                ·intro w'; go_simp; with_reducible rfl
                rotate_left
                ·simp only [Act.put, sa_, s0_, ss_, i64_w, i32_w]; rfl
                refine pu_ 5 (some 47) ?_ b17_17 rfl rfl HT_.out (by kernel_rfl) (fun _ _ _ h => h) (Or.inl ⟨by rfl, ?_⟩) ?_ ?_ ?_; rotate_left
                ·intro w'; go_simp; with_reducible rfl
                rotate_left
                ·simp only [Act.put, sa_, s0_, ss_, i64_w, i32_w]; rfl
                refine tk_ 4 (some 46) ?_ b17_18 rfl rfl HT_.out HW_.out (by kernel_rfl) (fun _ _ _ h => h) (Or.inl ⟨by rfl, ?_⟩) hHeld ?_ ?_ ?_; rotate_left
                ·rintro w' ⟨s0, s1, s2, s3, s4, s5, s6, s7, s8⟩; go_simp; with_reducible rfl
                rotate_left
                ·simp only [Act.put, sa_, s0_, ss_, i64_w, i32_w]; rfl
                refine tk_ 6 (some 48) ?_ b17_19 rfl rfl HT_.out HW_.out (by kernel_rfl) (fun _ _ _ h => h) (Or.inl ⟨by rfl, ?_⟩) hHeld ?_ ?_ ?_; rotate_left
                ·rintro w' ⟨s0, s1, s2, s3, s4, s5, s6, s7, s8⟩; go_simp; with_reducible rfl
                rotate_left
                ·simp only [Act.put, sa_, s0_, ss_, i64_w, i32_w]; rfl
                refine pu_ 7 (some 49) ?_ b17_20 rfl rfl HT_.out (by kernel_rfl) (fun _ _ _ h => h) (Or.inl ⟨by rfl, ?_⟩) ?_ ?_ ?_; rotate_left
                ·intro w'; go_simp; with_reducible rfl
                rotate_left
                ·simp only [Act.put, sa_, s0_, ss_, i64_w, i32_w]; rfl
                refine pu_ 8 (some 50) ?_ b17_21 rfl rfl HT_.out (by kernel_rfl) (fun _ _ _ h => h) (Or.inl ⟨by rfl, ?_⟩) ?_ ?_ ?_; rotate_left
                ·intro w'; go_simp; with_reducible rfl
                rotate_left
                ·simp only [Act.put, sa_, s0_, ss_, i64_w, i32_w]; rfl
                refine pu_ 9 (some 51) ?_ b17_22 rfl rfl HT_.out (by kernel_rfl) (fun _ _ _ h => h) (Or.inl ⟨by rfl, ?_⟩) ?_ ?_ ?_; rotate_left
                ·intro w'; go_simp; with_reducible rfl
                rotate_left
                ·simp only [Act.put, sa_, s0_, ss_, i64_w, i32_w]; rfl
                refine pu_ 10 (some 52) ?_ b17_23 rfl rfl HT_.out (by kernel_rfl) (fun _ _ _ h => h) (Or.inl ⟨by rfl, ?_⟩) ?_ ?_ ?_; rotate_left
                ·intro w'; go_simp; with_reducible rfl
                rotate_left
                ·simp only [Act.put, sa_, s0_, ss_, i64_w, i32_w]; rfl
                refine pu_ 11 (some 53) ?_ b17_24 rfl rfl HT_.out (by kernel_rfl) (fun _ _ _ h => h) (Or.inl ⟨by rfl, ?_⟩) ?_ ?_ ?_; rotate_left
                ·intro w'; go_simp; with_reducible rfl
                rotate_left
                ·simp only [Act.put, sa_, s0_, ss_, i64_w, i32_w]; rfl
                refine pu_ 12 (some 54) ?_ b17_25 rfl rfl HT_.out (by kernel_rfl) (fun _ _ _ h => h) (Or.inl ⟨by rfl, ?_⟩) ?_ ?_ ?_; rotate_left
                ·intro w'; go_simp; with_reducible rfl
                rotate_left
                ·simp only [Act.put, sa_, s0_, ss_, i64_w, i32_w]; rfl
                refine pu_ 14 (some 56) ?_ b17_26 rfl rfl HT_.out (by kernel_rfl) (fun _ _ _ h => h) (Or.inl ⟨by rfl, ?_⟩) ?_ ?_ ?_; rotate_left
                ·intro w'; go_simp; with_reducible rfl
                rotate_left
                ·simp only [Act.put, sa_, s0_, ss_, i64_w, i32_w]; rfl
                refine tk_ 13 (some 55) ?_ b17_27 rfl rfl HT_.out HW_.out (by kernel_rfl) (fun _ _ _ h => h) (Or.inl ⟨by rfl, ?_⟩) hHeld ?_ ?_ ?_; rotate_left
                ·rintro w' ⟨s0, s1, s2, s3, s4, s5, s6, s7, s8⟩; go_simp; with_reducible rfl
                rotate_left
                ·simp only [Act.put, sa_, s0_, ss_, i64_w, i32_w]; rfl
                refine tk_ 15 (some 57) ?_ b17_28 rfl rfl HT_.out HW_.out (by kernel_rfl) (fun _ _ _ h => h) (Or.inl ⟨by rfl, ?_⟩) hHeld ?_ ?_ ?_; rotate_left
                ·rintro w' ⟨s0, s1, s2, s3, s4, s5, s6, s7, s8⟩; go_simp; with_reducible rfl
                rotate_left
                ·simp only [Act.put, sa_, s0_, ss_, i64_w, i32_w]; rfl
                refine pu_ 16 (some 58) ?_ b17_29 rfl rfl HT_.out (by kernel_rfl) (fun _ _ _ h => h) (Or.inl ⟨by rfl, ?_⟩) ?_ ?_ ?_; rotate_left
                ·intro w'; go_simp; with_reducible rfl
                rotate_left
                ·simp only [Act.put, sa_, s0_, ss_, i64_w, i32_w]; rfl
                refine pu_ 17 (some 59) ?_ b17_30 rfl rfl HT_.out (by kernel_rfl) (fun _ _ _ h => h) (Or.inl ⟨by rfl, ?_⟩) ?_ ?_ ?_; rotate_left
                ·intro w'; go_simp; with_reducible rfl
                rotate_left
                ·simp only [Act.put, sa_, s0_, ss_, i64_w, i32_w]; rfl
                refine done_ (done_of HT_.out (by kernel_rfl)) ?_
                have p131 : 0 ≤ (x8_1 : Int) := of_decide_eq_true (by first | (with_reducible assumption) | assumption)
                have q131 : x8_1 < (l0.length : Int) := of_decide_eq_true (by first | (with_reducible assumption) | assumption)
                obtain ⟨ad131, e131, hx131_0, hx131_1, hx131_2⟩ := at_T40 HR0.out x8_1 p131 q131
                obtain rfl : ad129 = ad131 := (by injection e131)
                replace hx131_0 := (HB.out.cell (World.block_lt_of_cell? w _ hx131_0)).trans hx131_0
                replace hx131_1 := (HB.out.cell (World.block_lt_of_cell? w _ hx131_1)).trans hx131_1
                replace hx131_2 := (HB.out.cell (World.block_lt_of_cell? w _ hx131_2)).trans hx131_2
                replace p131 := eq_true p131
                replace q131 := eq_true q131
                try go_wp2_with (first | ((with_reducible refine gate_builtin (b := .append) (xs := #[.tmp 60, .tmp 65]) rfl ?_); at_builtin; refine Kd.R_append k40 (w0 := w) w.heap.size rfl (.tmp 60) (.tmp 65) 24 40 (.agg #[(.int .i64 0), (.string ⟨#[]⟩), (.string ⟨#[]⟩)]) 40 rfl Try.underlying24 info40 rfl (by decide) (by omega) v127 y126 (⟨(rd_T40 l0 x8_1).f0, (rd_T40 l0 x8_1).f1, (rd_T40 l0 x8_1).f2⟩ : S40) [.int .i64 ((rd_T40 l0 x8_1).f0), .string ((rd_T40 l0 x8_1).f1), .string ((rd_T40 l0 x8_1).f2)] (fun k_ => some k_ ≠ (v118 : Value).ownBlock ∧ k_ ≠ gb110) (fun _ => False) rfl rfl ?aP (fun _ hk => hk.elim) ?aF ?aO ?aB ?aS ?aL ?_; (case aP => exact k40_mkM _ _ _ (⟨(rd_T40 l0 x8_1).f0, (rd_T40 l0 x8_1).f1, (rd_T40 l0 x8_1).f2⟩ : S40)); (case aB => exact (bl HB.out)); (case aF => exact (fun k_ hk => ⟨Kd.fresh' (Kd.R_lt (kr HO_5.out)) k_ hk, Kd.freshB (g := gb110) (o := .cells #[.int .i64 a1_0, .string a1_1, .string a1_2] 40 (0, 0)) (pk BK110.out) k_ hk⟩)); (case aO => exact (kr HO128.out)); (case aS => exact (below_size (bl HB.out))); (case aL => have := LMc34.out; omega); intro v133 w38 ho hb hg hat; rw [← Ny132.out] at ho; replace HO_5 := am (Kd.R_after (ok := (fun k_ => k_ ≠ gb110)) (kr HO_5.out) hg hat); replace BK110 := am (blk_grown (g := gb110) (o := .cells #[.int .i64 a1_0, .string a1_1, .string a1_2] 40 (0, 0)) (pk BK110.out) hg (Kd.R_away HO128.out (fun _ hk => hk.2))); replace HB := am (hb); have HO134 := am (ho); clear HO128; clear ho hb hg hat))
                go_roundg kj17
                case measure => have := HK1.out; have := HJ17.out; omega
                case rel => exact ⟨(y132), (true), (wrap64 (x8_1 + 1)), (by first | rfl | (simp; done) | (simp [*]; done)), (by first | rfl | (simp; done) | (simp [*]; done)), H', ⟨by have := HK1.out; have := HJ17.out; omega⟩, ⟨kr (Kd.R_mono HO_5.out (fun _ hk => ⟨hk.2, hk.1⟩))⟩, ⟨kr HO134.out⟩, ⟨pk BK110.out⟩, ⟨by repeat (first | (with_reducible first | exact HB.out | apply below_alloc | apply pw_below_drewN | apply below_drew1 | refine below_set ?_ GE110.out) | exact HB.out)⟩⟩
               ·rw [if_neg c34] at H
                exact absurd H (by simp)
             ·rw [if_neg c29] at H
              have c29b0 : (((rd_T40 l0 x8_1).f0) == a1_0) = false := beq_eq_false_iff_ne.mpr c29
              have c29b1 : (((rd_T40 l0 x8_1).f0) != a1_0) = true := bne_iff_ne.mpr c29
              by_cases c39 : y126.length < 3518437208883
              ·rw [if_pos c39] at H
               have LMc39 := Aside0.mk c39
               clear c39
               obtain ⟨y136, hy136⟩ : ∃ y_ : List (S40), y_ = (y126 ++ [(⟨(rd_T40 l0 x8_1).f0, (rd_T40 l0 x8_1).f1, (rd_T40 l0 x8_1).f2⟩ : S40)]) := ⟨_, rfl⟩
               replace H : (spec_KeyBind.l0 kj17 l0 y117 y136 true (wrap64 (x8_1 + 1)) a1_0 a1_1 a1_2) = some r := by first | (rw [hy136]; with_reducible exact H) | (have H2_ := (Option.bind_some _ _).symm.trans H; rw [hy136]; with_reducible exact H2_) | (have H2_ := (Option.bind_some _ _).symm.trans H; with_reducible exact H2_) | with_reducible exact H | (rw [hy136]; exact H) | exact H
               have Ny136 := am hy136
               clear hy136
               have H' := Aside0.mk H
               clear H
               have hcz40_0 : wc.cell? ⟨gb110, 0, none⟩ = some (.int .i64 a1_0) := bc BK110.out 0
               have hcz40_1 : wc.cell? ⟨gb110, 1, none⟩ = some (.string a1_1) := bc BK110.out 1
               have hcz40_2 : wc.cell? ⟨gb110, 2, none⟩ = some (.string a1_2) := bc BK110.out 2
               try go_wp2_with (first | ((with_reducible refine gate_builtin (b := .append) (xs := #[.tmp 38, .tmp 40]) rfl ?_); at_builtin; refine Kd.R_append k40 (w0 := w) w.heap.size rfl (.tmp 38) (.tmp 40) 24 40 (.agg #[(.int .i64 0), (.string ⟨#[]⟩), (.string ⟨#[]⟩)]) 40 rfl Try.underlying24 info40 rfl (by decide) (by omega) u6 x6_1 (⟨a1_0, a1_1, a1_2⟩ : S40) [.int .i64 a1_0, .string a1_1, .string a1_2] (fun k_ => some k_ ≠ (v118 : Value).ownBlock ∧ k_ ≠ gb110) (fun _ => False) rfl rfl ?aP (fun _ hk => hk.elim) ?aF ?aO ?aB ?aS ?aL ?_; (case aP => exact k40_mkM _ _ _ (⟨a1_0, a1_1, a1_2⟩ : S40)); (case aB => exact (bl HB.out)); (case aF => exact (fun k_ hk => ⟨Kd.fresh' (Kd.R_lt (kr HO_5.out)) k_ hk, Kd.freshB (g := gb110) (o := .cells #[.int .i64 a1_0, .string a1_1, .string a1_2] 40 (0, 0)) (pk BK110.out) k_ hk⟩)); (case aO => exact (kr HO_6.out)); (case aS => exact (below_size (bl HB.out))); (case aL => have := LMc26.out; omega); intro v127 w41 ho hb hg hat; rw [← Ny126.out] at ho; replace HO_5 := am (Kd.R_after (ok := (fun k_ => k_ ≠ gb110)) (kr (Kd.R_mono HO_5.out (fun _ hk => ⟨hk.2, hk.1⟩))) hg hat); replace BK110 := am (blk_grown (g := gb110) (o := .cells #[.int .i64 a1_0, .string a1_1, .string a1_2] 40 (0, 0)) (pk BK110.out) hg (Kd.R_away HO_6.out (fun _ hk => hk.2))); replace HB := am (hb); have HO128 := am (ho); clear HO_6; clear ho hb hg hat))
               replace HO_5 := am (Kd.R_drew HO_5.out)
               replace HO128 := am (Kd.R_drew HO128.out)
               replace BK110 := am (blk_drew BK110.out)
               replace HB := am (below_drew1 HB.out)
               have p129 : 0 ≤ (x8_1 : Int) := of_decide_eq_true (by first | (with_reducible assumption) | assumption)
               have q129 : x8_1 < (l0.length : Int) := of_decide_eq_true (by first | (with_reducible assumption) | assumption)
               obtain ⟨ad129, e129, hx129_0, hx129_1, hx129_2⟩ := at_T40 HR0.out x8_1 p129 q129
               have hw129_2 := hx129_2
               have hw129_1 := hx129_1
               have hw129_0 := hx129_0
               cases e129
               replace hx129_0 := (HB.out.cell (World.block_lt_of_cell? w _ hx129_0)).trans hx129_0
               replace hx129_1 := (HB.out.cell (World.block_lt_of_cell? w _ hx129_1)).trans hx129_1
               replace hx129_2 := (HB.out.cell (World.block_lt_of_cell? w _ hx129_2)).trans hx129_2
               replace p129 := eq_true p129
               replace q129 := eq_true q129
               refine start_ (n := 18) (S := fun w' => w'.cell? ⟨gb110, 0, none⟩ = some (.int .i64 a1_0) ∧ w'.cell? ⟨gb110, 1, none⟩ = some (.string a1_1) ∧ w'.cell? ⟨gb110, 2, none⟩ = some (.string a1_2) ∧ w'.cell? (ad129.add ((x8_1).toNat * 3)) = some (.int .i64 ((rd_T40 l0 x8_1).f0)) ∧ w'.cell? ⟨(ad129.add ((x8_1).toNat * 3)).block, (ad129.add ((x8_1).toNat * 3)).off + 1, none⟩ = some (.string ((rd_T40 l0 x8_1).f1)) ∧ w'.cell? ⟨(ad129.add ((x8_1).toNat * 3)).block, (ad129.add ((x8_1).toNat * 3)).off + 2, none⟩ = some (.string ((rd_T40 l0 x8_1).f2))) (ds := []) b17_12 (by kernel_rfl) rfl rfl ⟨bc BK110.out 0, bc BK110.out 1, bc BK110.out 2, ((HB.out.cell (World.block_lt_of_cell? _ _ hw129_0)).trans hw129_0), ((HB.out.cell (World.block_lt_of_cell? _ _ hw129_1)).trans hw129_1), ((HB.out.cell (World.block_lt_of_cell? _ _ hw129_2)).trans hw129_2)⟩ (fun hHeld => ?_); refine with_tabW spec_KeyBind.tab14 spec_KeyBind.bits14 (fun HT_ HW_ => ?_)
               generalize w41.drew = w42 at HO_5 HO128 BK110 HB hx129_0 hx129_1 hx129_2 hHeld ⊢
               refine pu_ 0 (some 42) ?_ b17_13 rfl rfl HT_.out (by kernel_rfl) (fun _ _ _ h => h) (Or.inl ⟨by rfl, ?_⟩) ?_ ?_ ?_; rotate_left
               ·intro w'; go_simp; with_reducible rfl
               rotate_left
               ·simp only [Act.put, sa_, s0_, ss_, i64_w, i32_w]; rfl
               refine pu_ 1 (some 43) ?_ b17_14 rfl rfl HT_.out (by kernel_rfl) (fun _ _ _ h => h) (Or.inl ⟨by rfl, ?_⟩) ?_ ?_ ?_; rotate_left
               ·intro w'; go_simp; with_reducible rfl
               rotate_left
               ·simp only [Act.put, sa_, s0_, ss_, i64_w, i32_w]; rfl
               refine pu_ 2 (some 44) ?_ b17_15 rfl rfl HT_.out (by kernel_rfl) (fun _ _ _ h => h) (Or.inl ⟨by rfl, ?_⟩) ?_ ?_ ?_; rotate_left
               ·intro w'; go_simp; with_reducible rfl
               rotate_left
               ·simp only [Act.put, sa_, s0_, ss_, i64_w, i32_w]; rfl
               refine pu_ 3 (some 45) ?_ b17_16 rfl rfl HT_.out (by kernel_rfl) (fun _ _ _ h => h) (Or.inl ⟨by rfl, ?_⟩) ?_ ?_ ?_; rotate_left
               ·intro w'; go_simp; with_reducible rfl
               rotate_left
               ·simp only [Act.put, sa_, s0_, ss_, i64_w, i32_w]; rfl
               refine pu_ 5 (some 47) ?_ b17_17 rfl rfl HT_.out (by kernel_rfl) (fun _ _ _ h => h) (Or.inl ⟨by rfl, ?_⟩) ?_ ?_ ?_; rotate_left
               ·intro w'; go_simp; with_reducible rfl
               rotate_left
               ·simp only [Act.put, sa_, s0_, ss_, i64_w, i32_w]; rfl
               refine tk_ 4 (some 46) ?_ b17_18 rfl rfl HT_.out HW_.out (by kernel_rfl) (fun _ _ _ h => h) (Or.inl ⟨by rfl, ?_⟩) hHeld ?_ ?_ ?_; rotate_left
               ·rintro w' ⟨s0, s1, s2, s3, s4, s5⟩; go_simp; with_reducible rfl
               rotate_left
               ·simp only [Act.put, sa_, s0_, ss_, i64_w, i32_w]; rfl
               refine tk_ 6 (some 48) ?_ b17_19 rfl rfl HT_.out HW_.out (by kernel_rfl) (fun _ _ _ h => h) (Or.inl ⟨by rfl, ?_⟩) hHeld ?_ ?_ ?_; rotate_left
               ·rintro w' ⟨s0, s1, s2, s3, s4, s5⟩; go_simp; with_reducible rfl
               rotate_left
               ·simp only [Act.put, sa_, s0_, ss_, i64_w, i32_w]; rfl
               refine pu_ 7 (some 49) ?_ b17_20 rfl rfl HT_.out (by kernel_rfl) (fun _ _ _ h => h) (Or.inl ⟨by rfl, ?_⟩) ?_ ?_ ?_; rotate_left
               ·intro w'; go_simp; with_reducible rfl
               rotate_left
               ·simp only [Act.put, sa_, s0_, ss_, i64_w, i32_w]; rfl
               refine pu_ 8 (some 50) ?_ b17_21 rfl rfl HT_.out (by kernel_rfl) (fun _ _ _ h => h) (Or.inl ⟨by rfl, ?_⟩) ?_ ?_ ?_; rotate_left
               ·intro w'; go_simp; with_reducible rfl
               rotate_left
               ·simp only [Act.put, sa_, s0_, ss_, i64_w, i32_w]; rfl
               refine pu_ 9 (some 51) undef b17_22 rfl rfl HT_.out (by kernel_rfl) (fun _ _ _ h => h) (Or.inr ⟨by rfl, rfl⟩) ?_ ?_ ?_; rotate_left
               ·simp only [Act.put, sa_, s0_, ss_, i64_w, i32_w]; rfl
               refine pu_ 10 (some 52) undef b17_23 rfl rfl HT_.out (by kernel_rfl) (fun _ _ _ h => h) (Or.inr ⟨by rfl, rfl⟩) ?_ ?_ ?_; rotate_left
               ·simp only [Act.put, sa_, s0_, ss_, i64_w, i32_w]; rfl
               refine pu_ 11 (some 53) undef b17_24 rfl rfl HT_.out (by kernel_rfl) (fun _ _ _ h => h) (Or.inr ⟨by rfl, rfl⟩) ?_ ?_ ?_; rotate_left
               ·simp only [Act.put, sa_, s0_, ss_, i64_w, i32_w]; rfl
               refine pu_ 12 (some 54) undef b17_25 rfl rfl HT_.out (by kernel_rfl) (fun _ _ _ h => h) (Or.inr ⟨by rfl, rfl⟩) ?_ ?_ ?_; rotate_left
               ·simp only [Act.put, sa_, s0_, ss_, i64_w, i32_w]; rfl
               refine pu_ 13 (some 55) undef b17_31 rfl rfl HT_.out (by kernel_rfl) (fun _ _ _ h => h) (Or.inr ⟨by rfl, rfl⟩) ?_ ?_ ?_; rotate_left
               ·simp only [Act.put, sa_, s0_, ss_, i64_w, i32_w]; rfl
               refine pu_ 14 (some 56) undef b17_27 rfl rfl HT_.out (by kernel_rfl) (fun _ _ _ h => h) (Or.inr ⟨by rfl, rfl⟩) ?_ ?_ ?_; rotate_left
               ·simp only [Act.put, sa_, s0_, ss_, i64_w, i32_w]; rfl
               refine pu_ 15 (some 57) undef b17_28 rfl rfl HT_.out (by kernel_rfl) (fun _ _ _ h => h) (Or.inr ⟨by rfl, rfl⟩) ?_ ?_ ?_; rotate_left
               ·simp only [Act.put, sa_, s0_, ss_, i64_w, i32_w]; rfl
               refine pu_ 16 (some 58) undef b17_29 rfl rfl HT_.out (by kernel_rfl) (fun _ _ _ h => h) (Or.inr ⟨by rfl, rfl⟩) ?_ ?_ ?_; rotate_left
               ·simp only [Act.put, sa_, s0_, ss_, i64_w, i32_w]; rfl
               refine pu_ 17 (some 59) ?_ b17_30 rfl rfl HT_.out (by kernel_rfl) (fun _ _ _ h => h) (Or.inl ⟨by rfl, ?_⟩) ?_ ?_ ?_; rotate_left
               ·intro w'; go_simp; with_reducible rfl
               rotate_left
               ·simp only [Act.put, sa_, s0_, ss_, i64_w, i32_w]; rfl
               refine done_ (done_of HT_.out (by kernel_rfl)) ?_
               have p135 : 0 ≤ (x8_1 : Int) := of_decide_eq_true (by first | (with_reducible assumption) | assumption)
               have q135 : x8_1 < (l0.length : Int) := of_decide_eq_true (by first | (with_reducible assumption) | assumption)
               obtain ⟨ad135, e135, hx135_0, hx135_1, hx135_2⟩ := at_T40 HR0.out x8_1 p135 q135
               obtain rfl : ad129 = ad135 := (by injection e135)
               replace hx135_0 := (HB.out.cell (World.block_lt_of_cell? w _ hx135_0)).trans hx135_0
               replace hx135_1 := (HB.out.cell (World.block_lt_of_cell? w _ hx135_1)).trans hx135_1
               replace hx135_2 := (HB.out.cell (World.block_lt_of_cell? w _ hx135_2)).trans hx135_2
               replace p135 := eq_true p135
               replace q135 := eq_true q135
               try go_wp2_with (first | ((with_reducible refine gate_builtin (b := .append) (xs := #[.tmp 60, .tmp 65]) rfl ?_); at_builtin; refine Kd.R_append k40 (w0 := w) w.heap.size rfl (.tmp 60) (.tmp 65) 24 40 (.agg #[(.int .i64 0), (.string ⟨#[]⟩), (.string ⟨#[]⟩)]) 40 rfl Try.underlying24 info40 rfl (by decide) (by omega) v127 y126 (⟨(rd_T40 l0 x8_1).f0, (rd_T40 l0 x8_1).f1, (rd_T40 l0 x8_1).f2⟩ : S40) [.int .i64 ((rd_T40 l0 x8_1).f0), .string ((rd_T40 l0 x8_1).f1), .string ((rd_T40 l0 x8_1).f2)] (fun k_ => some k_ ≠ (v118 : Value).ownBlock ∧ k_ ≠ gb110) (fun _ => False) rfl rfl ?aP (fun _ hk => hk.elim) ?aF ?aO ?aB ?aS ?aL ?_; (case aP => exact k40_mkM _ _ _ (⟨(rd_T40 l0 x8_1).f0, (rd_T40 l0 x8_1).f1, (rd_T40 l0 x8_1).f2⟩ : S40)); (case aB => exact (bl HB.out)); (case aF => exact (fun k_ hk => ⟨Kd.fresh' (Kd.R_lt (kr HO_5.out)) k_ hk, Kd.freshB (g := gb110) (o := .cells #[.int .i64 a1_0, .string a1_1, .string a1_2] 40 (0, 0)) (pk BK110.out) k_ hk⟩)); (case aO => exact (kr HO128.out)); (case aS => exact (below_size (bl HB.out))); (case aL => have := LMc39.out; omega); intro v137 w43 ho hb hg hat; rw [← Ny136.out] at ho; replace HO_5 := am (Kd.R_after (ok := (fun k_ => k_ ≠ gb110)) (kr HO_5.out) hg hat); replace BK110 := am (blk_grown (g := gb110) (o := .cells #[.int .i64 a1_0, .string a1_1, .string a1_2] 40 (0, 0)) (pk BK110.out) hg (Kd.R_away HO128.out (fun _ hk => hk.2))); replace HB := am (hb); have HO138 := am (ho); clear HO128; clear ho hb hg hat))
               go_roundg kj17
               case measure => have := HK1.out; have := HJ17.out; omega
               case rel => exact ⟨(y136), (true), (wrap64 (x8_1 + 1)), (by first | rfl | (simp; done) | (simp [*]; done)), (by first | rfl | (simp; done) | (simp [*]; done)), H', ⟨by have := HK1.out; have := HJ17.out; omega⟩, ⟨kr (Kd.R_mono HO_5.out (fun _ hk => ⟨hk.2, hk.1⟩))⟩, ⟨kr HO138.out⟩, ⟨pk BK110.out⟩, ⟨by repeat (first | (with_reducible first | exact HB.out | apply below_alloc | apply pw_below_drewN | apply below_drew1 | refine below_set ?_ GE110.out) | exact HB.out)⟩⟩
              ·rw [if_neg c39] at H
               exact absurd H (by simp)
            ·rw [if_neg c28] at H
             exact absurd H (by simp)
           ·rw [if_neg c27] at H
            exact absurd H (by simp)
          ·rw [if_neg c26] at H
           exact absurd H (by simp)
         ·replace c25 := Bool.eq_false_iff.mpr c25
          subst c25
          have H1 : (if 0 ≤ x8_1 then (if x8_1 < (l0.length : Int) then (if ((rd_T40 l0 x8_1).f0) = a1_0 then (if ((rd_T40 l0 x8_1).f1).toList = a1_1.toList then (spec_KeyBind.l0 kj17 l0 y117 x6_1 x7_1 (wrap64 (x8_1 + 1)) a1_0 a1_1 a1_2) else (if x6_1.length < 3518437208883 then (spec_KeyBind.l0 kj17 l0 y117 (x6_1 ++ [(⟨(rd_T40 l0 x8_1).f0, (rd_T40 l0 x8_1).f1, (rd_T40 l0 x8_1).f2⟩ : S40)]) x7_1 (wrap64 (x8_1 + 1)) a1_0 a1_1 a1_2) else (none))) else (if x6_1.length < 3518437208883 then (spec_KeyBind.l0 kj17 l0 y117 (x6_1 ++ [(⟨(rd_T40 l0 x8_1).f0, (rd_T40 l0 x8_1).f1, (rd_T40 l0 x8_1).f2⟩ : S40)]) x7_1 (wrap64 (x8_1 + 1)) a1_0 a1_1 a1_2) else (none))) else (none)) else (none)) = some r := by rw [if_neg (show ¬ (false = true) by decide)] at H; exact H
          clear H
          have H := H1
          clear H1
          by_cases c44 : 0 ≤ x8_1
          ·rw [if_pos c44] at H
           have c44b0 : decide (0 ≤ x8_1) = true := decide_eq_true c44
           clear c44
           by_cases c45 : x8_1 < (l0.length : Int)
           ·rw [if_pos c45] at H
            have c45b0 : decide (x8_1 < (l0.length : Int)) = true := decide_eq_true c45
            clear c45
            by_cases c46 : ((rd_T40 l0 x8_1).f0) = a1_0
            ·rw [if_pos c46] at H
             have c46b0 : (((rd_T40 l0 x8_1).f0) == a1_0) = true := beq_iff_eq.mpr c46
             have c46b1 : (((rd_T40 l0 x8_1).f0) != a1_0) = false := bne_eq_false_iff_eq.mpr c46
             clear c46
             by_cases c47 : ((rd_T40 l0 x8_1).f1).toList = a1_1.toList
             ·rw [if_pos c47] at H
              have c47b0 : (((rd_T40 l0 x8_1).f1).toList == a1_1.toList) = true := beq_iff_eq.mpr c47
              have c47b1 : (((rd_T40 l0 x8_1).f1).toList != a1_1.toList) = false := bne_eq_false_iff_eq.mpr c47
              clear c47
              have H' := Aside0.mk H
              clear H
              try go_wp2
              replace HO_5 := am (Kd.R_drew HO_5.out)
              replace HO_6 := am (Kd.R_drew HO_6.out)
              replace BK110 := am (blk_drew BK110.out)
              replace HB := am (below_drew1 HB.out)
              have p139 : 0 ≤ (x8_1 : Int) := of_decide_eq_true (by first | (with_reducible assumption) | assumption)
              have q139 : x8_1 < (l0.length : Int) := of_decide_eq_true (by first | (with_reducible assumption) | assumption)
              obtain ⟨ad139, e139, hx139_0, hx139_1, hx139_2⟩ := at_T40 HR0.out x8_1 p139 q139
              have hw139_2 := hx139_2
              have hw139_1 := hx139_1
              have hw139_0 := hx139_0
              cases e139
              replace hx139_0 := (HB.out.cell (World.block_lt_of_cell? w _ hx139_0)).trans hx139_0
              replace hx139_1 := (HB.out.cell (World.block_lt_of_cell? w _ hx139_1)).trans hx139_1
              replace hx139_2 := (HB.out.cell (World.block_lt_of_cell? w _ hx139_2)).trans hx139_2
              replace p139 := eq_true p139
              replace q139 := eq_true q139
              have p140 : 0 ≤ (x8_1 : Int) := of_decide_eq_true (by first | (with_reducible assumption) | assumption)
              have q140 : x8_1 < (l0.length : Int) := of_decide_eq_true (by first | (with_reducible assumption) | assumption)
              obtain ⟨ad140, e140, hx140_0, hx140_1, hx140_2⟩ := at_T40 HR0.out x8_1 p140 q140
              have hw140_2 := hx140_2
              have hw140_1 := hx140_1
              have hw140_0 := hx140_0
              obtain rfl : ad139 = ad140 := (by injection e140)
              replace hx140_0 := (HB.out.cell (World.block_lt_of_cell? w _ hx140_0)).trans hx140_0
              replace hx140_1 := (HB.out.cell (World.block_lt_of_cell? w _ hx140_1)).trans hx140_1
              replace hx140_2 := (HB.out.cell (World.block_lt_of_cell? w _ hx140_2)).trans hx140_2
              replace p140 := eq_true p140
              replace q140 := eq_true q140
              refine start_ (n := 18) (S := fun w' => w'.cell? ⟨gb110, 0, none⟩ = some (.int .i64 a1_0) ∧ w'.cell? ⟨gb110, 1, none⟩ = some (.string a1_1) ∧ w'.cell? ⟨gb110, 2, none⟩ = some (.string a1_2) ∧ w'.cell? (ad139.add ((x8_1).toNat * 3)) = some (.int .i64 ((rd_T40 l0 x8_1).f0)) ∧ w'.cell? ⟨(ad139.add ((x8_1).toNat * 3)).block, (ad139.add ((x8_1).toNat * 3)).off + 1, none⟩ = some (.string ((rd_T40 l0 x8_1).f1)) ∧ w'.cell? ⟨(ad139.add ((x8_1).toNat * 3)).block, (ad139.add ((x8_1).toNat * 3)).off + 2, none⟩ = some (.string ((rd_T40 l0 x8_1).f2)) ∧ w'.cell? (ad139.add ((x8_1).toNat * 3)) = some (.int .i64 ((rd_T40 l0 x8_1).f0)) ∧ w'.cell? ⟨(ad139.add ((x8_1).toNat * 3)).block, (ad139.add ((x8_1).toNat * 3)).off + 1, none⟩ = some (.string ((rd_T40 l0 x8_1).f1)) ∧ w'.cell? ⟨(ad139.add ((x8_1).toNat * 3)).block, (ad139.add ((x8_1).toNat * 3)).off + 2, none⟩ = some (.string ((rd_T40 l0 x8_1).f2))) (ds := []) b17_12 (by kernel_rfl) rfl rfl ⟨bc BK110.out 0, bc BK110.out 1, bc BK110.out 2, ((HB.out.cell (World.block_lt_of_cell? _ _ hw139_0)).trans hw139_0), ((HB.out.cell (World.block_lt_of_cell? _ _ hw139_1)).trans hw139_1), ((HB.out.cell (World.block_lt_of_cell? _ _ hw139_2)).trans hw139_2), ((HB.out.cell (World.block_lt_of_cell? _ _ hw140_0)).trans hw140_0), ((HB.out.cell (World.block_lt_of_cell? _ _ hw140_1)).trans hw140_1), ((HB.out.cell (World.block_lt_of_cell? _ _ hw140_2)).trans hw140_2)⟩ (fun hHeld => ?_); refine with_tabW spec_KeyBind.tab14 spec_KeyBind.bits14 (fun HT_ HW_ => ?_)
              generalize wc.drew = w48 at HO_5 HO_6 BK110 HB hx139_0 hx139_1 hx139_2 hx140_0 hx140_1 hx140_2 hHeld ⊢
              refine pu_ 0 (some 42) ?_ b17_13 rfl rfl HT_.out (by kernel_rfl) (fun _ _ _ h => h) (Or.inl ⟨by rfl, ?_⟩) ?_ ?_ ?_; rotate_left
              ·intro w'; go_simp; with_reducible rfl
              rotate_left
              ·simp only [Act.put, sa_, s0_, ss_, i64_w, i32_w]; rfl
              refine pu_ 1 (some 43) ?_ b17_14 rfl rfl HT_.out (by kernel_rfl) (fun _ _ _ h => h) (Or.inl ⟨by rfl, ?_⟩) ?_ ?_ ?_; rotate_left
              ·intro w'; go_simp; with_reducible rfl
              rotate_left
              ·simp only [Act.put, sa_, s0_, ss_, i64_w, i32_w]; rfl
              refine pu_ 2 (some 44) ?_ b17_15 rfl rfl HT_.out (by kernel_rfl) (fun _ _ _ h => h) (Or.inl ⟨by rfl, ?_⟩) ?_ ?_ ?_; rotate_left
              ·intro w'; go_simp; with_reducible rfl
              rotate_left
              ·simp only [Act.put, sa_, s0_, ss_, i64_w, i32_w]; rfl
              refine pu_ 3 (some 45) ?_ b17_16 rfl rfl HT_.out (by kernel_rfl) (fun _ _ _ h => h) (Or.inl ⟨by rfl, ?_⟩) ?_ ?_ ?_; rotate_left
              ·intro w'; go_simp; with_reducible rfl
              rotate_left
              ·simp only [Act.put, sa_, s0_, ss_, i64_w, i32_w]; rfl
              refine pu_ 5 (some 47) ?_ b17_17 rfl rfl HT_.out (by kernel_rfl) (fun _ _ _ h => h) (Or.inl ⟨by rfl, ?_⟩) ?_ ?_ ?_; rotate_left
              ·intro w'; go_simp; with_reducible rfl
              rotate_left
              ·simp only [Act.put, sa_, s0_, ss_, i64_w, i32_w]; rfl
              refine tk_ 4 (some 46) ?_ b17_18 rfl rfl HT_.out HW_.out (by kernel_rfl) (fun _ _ _ h => h) (Or.inl ⟨by rfl, ?_⟩) hHeld ?_ ?_ ?_; rotate_left
              ·rintro w' ⟨s0, s1, s2, s3, s4, s5, s6, s7, s8⟩; go_simp; with_reducible rfl
              rotate_left
              ·simp only [Act.put, sa_, s0_, ss_, i64_w, i32_w]; rfl
              refine tk_ 6 (some 48) ?_ b17_19 rfl rfl HT_.out HW_.out (by kernel_rfl) (fun _ _ _ h => h) (Or.inl ⟨by rfl, ?_⟩) hHeld ?_ ?_ ?_; rotate_left
              ·rintro w' ⟨s0, s1, s2, s3, s4, s5, s6, s7, s8⟩; go_simp; with_reducible rfl
              rotate_left
              ·simp only [Act.put, sa_, s0_, ss_, i64_w, i32_w]; rfl
              refine pu_ 7 (some 49) ?_ b17_20 rfl rfl HT_.out (by kernel_rfl) (fun _ _ _ h => h) (Or.inl ⟨by rfl, ?_⟩) ?_ ?_ ?_; rotate_left
              ·intro w'; go_simp; with_reducible rfl
              rotate_left
              ·simp only [Act.put, sa_, s0_, ss_, i64_w, i32_w]; rfl
              refine pu_ 8 (some 50) ?_ b17_21 rfl rfl HT_.out (by kernel_rfl) (fun _ _ _ h => h) (Or.inl ⟨by rfl, ?_⟩) ?_ ?_ ?_; rotate_left
              ·intro w'; go_simp; with_reducible rfl
              rotate_left
              ·simp only [Act.put, sa_, s0_, ss_, i64_w, i32_w]; rfl
              refine pu_ 9 (some 51) ?_ b17_22 rfl rfl HT_.out (by kernel_rfl) (fun _ _ _ h => h) (Or.inl ⟨by rfl, ?_⟩) ?_ ?_ ?_; rotate_left
              ·intro w'; go_simp; with_reducible rfl
              rotate_left
              ·simp only [Act.put, sa_, s0_, ss_, i64_w, i32_w]; rfl
              refine pu_ 10 (some 52) ?_ b17_23 rfl rfl HT_.out (by kernel_rfl) (fun _ _ _ h => h) (Or.inl ⟨by rfl, ?_⟩) ?_ ?_ ?_; rotate_left
              ·intro w'; go_simp; with_reducible rfl
              rotate_left
              ·simp only [Act.put, sa_, s0_, ss_, i64_w, i32_w]; rfl
              refine pu_ 11 (some 53) ?_ b17_24 rfl rfl HT_.out (by kernel_rfl) (fun _ _ _ h => h) (Or.inl ⟨by rfl, ?_⟩) ?_ ?_ ?_; rotate_left
              ·intro w'; go_simp; with_reducible rfl
              rotate_left
              ·simp only [Act.put, sa_, s0_, ss_, i64_w, i32_w]; rfl
              refine pu_ 12 (some 54) ?_ b17_25 rfl rfl HT_.out (by kernel_rfl) (fun _ _ _ h => h) (Or.inl ⟨by rfl, ?_⟩) ?_ ?_ ?_; rotate_left
              ·intro w'; go_simp; with_reducible rfl
              rotate_left
              ·simp only [Act.put, sa_, s0_, ss_, i64_w, i32_w]; rfl
              refine pu_ 14 (some 56) ?_ b17_26 rfl rfl HT_.out (by kernel_rfl) (fun _ _ _ h => h) (Or.inl ⟨by rfl, ?_⟩) ?_ ?_ ?_; rotate_left
              ·intro w'; go_simp; with_reducible rfl
              rotate_left
              ·simp only [Act.put, sa_, s0_, ss_, i64_w, i32_w]; rfl
              refine tk_ 13 (some 55) ?_ b17_27 rfl rfl HT_.out HW_.out (by kernel_rfl) (fun _ _ _ h => h) (Or.inl ⟨by rfl, ?_⟩) hHeld ?_ ?_ ?_; rotate_left
              ·rintro w' ⟨s0, s1, s2, s3, s4, s5, s6, s7, s8⟩; go_simp; with_reducible rfl
              rotate_left
              ·simp only [Act.put, sa_, s0_, ss_, i64_w, i32_w]; rfl
              refine tk_ 15 (some 57) ?_ b17_28 rfl rfl HT_.out HW_.out (by kernel_rfl) (fun _ _ _ h => h) (Or.inl ⟨by rfl, ?_⟩) hHeld ?_ ?_ ?_; rotate_left
              ·rintro w' ⟨s0, s1, s2, s3, s4, s5, s6, s7, s8⟩; go_simp; with_reducible rfl
              rotate_left
              ·simp only [Act.put, sa_, s0_, ss_, i64_w, i32_w]; rfl
              refine pu_ 16 (some 58) ?_ b17_29 rfl rfl HT_.out (by kernel_rfl) (fun _ _ _ h => h) (Or.inl ⟨by rfl, ?_⟩) ?_ ?_ ?_; rotate_left
              ·intro w'; go_simp; with_reducible rfl
              rotate_left
              ·simp only [Act.put, sa_, s0_, ss_, i64_w, i32_w]; rfl
              refine pu_ 17 (some 59) ?_ b17_30 rfl rfl HT_.out (by kernel_rfl) (fun _ _ _ h => h) (Or.inl ⟨by rfl, ?_⟩) ?_ ?_ ?_; rotate_left
              ·intro w'; go_simp; with_reducible rfl
              rotate_left
              ·simp only [Act.put, sa_, s0_, ss_, i64_w, i32_w]; rfl
              refine done_ (done_of HT_.out (by kernel_rfl)) ?_
              try go_wp2
              go_roundg kj17
              case measure => have := HK1.out; have := HJ17.out; omega
              case rel => exact ⟨(x6_1), (x7_1), (wrap64 (x8_1 + 1)), (by first | rfl | (simp; done) | (simp [*]; done)), (by first | rfl | (simp; done) | (simp [*]; done)), H', ⟨by have := HK1.out; have := HJ17.out; omega⟩, ⟨kr HO_5.out⟩, ⟨kr HO_6.out⟩, ⟨pk BK110.out⟩, ⟨by repeat (first | (with_reducible first | exact HB.out | apply below_alloc | apply pw_below_drewN | apply below_drew1 | refine below_set ?_ GE110.out) | exact HB.out)⟩⟩
             ·rw [if_neg c47] at H
              have c47b0 : (((rd_T40 l0 x8_1).f1).toList == a1_1.toList) = false := beq_eq_false_iff_ne.mpr c47
              have c47b1 : (((rd_T40 l0 x8_1).f1).toList != a1_1.toList) = true := bne_iff_ne.mpr c47
              by_cases c49 : x6_1.length < 3518437208883
              ·rw [if_pos c49] at H
               have LMc49 := Aside0.mk c49
               clear c49
               obtain ⟨y142, hy142⟩ : ∃ y_ : List (S40), y_ = (x6_1 ++ [(⟨(rd_T40 l0 x8_1).f0, (rd_T40 l0 x8_1).f1, (rd_T40 l0 x8_1).f2⟩ : S40)]) := ⟨_, rfl⟩
               replace H : (spec_KeyBind.l0 kj17 l0 y117 y142 x7_1 (wrap64 (x8_1 + 1)) a1_0 a1_1 a1_2) = some r := by first | (rw [hy142]; with_reducible exact H) | (have H2_ := (Option.bind_some _ _).symm.trans H; rw [hy142]; with_reducible exact H2_) | (have H2_ := (Option.bind_some _ _).symm.trans H; with_reducible exact H2_) | with_reducible exact H | (rw [hy142]; exact H) | exact H
               have Ny142 := am hy142
               clear hy142
               have H' := Aside0.mk H
               clear H
               try go_wp2
               replace HO_5 := am (Kd.R_drew HO_5.out)
               replace HO_6 := am (Kd.R_drew HO_6.out)
               replace BK110 := am (blk_drew BK110.out)
               replace HB := am (below_drew1 HB.out)
               have p139 : 0 ≤ (x8_1 : Int) := of_decide_eq_true (by first | (with_reducible assumption) | assumption)
               have q139 : x8_1 < (l0.length : Int) := of_decide_eq_true (by first | (with_reducible assumption) | assumption)
               obtain ⟨ad139, e139, hx139_0, hx139_1, hx139_2⟩ := at_T40 HR0.out x8_1 p139 q139
               have hw139_2 := hx139_2
               have hw139_1 := hx139_1
               have hw139_0 := hx139_0
               cases e139
               replace hx139_0 := (HB.out.cell (World.block_lt_of_cell? w _ hx139_0)).trans hx139_0
               replace hx139_1 := (HB.out.cell (World.block_lt_of_cell? w _ hx139_1)).trans hx139_1
               replace hx139_2 := (HB.out.cell (World.block_lt_of_cell? w _ hx139_2)).trans hx139_2
               replace p139 := eq_true p139
               replace q139 := eq_true q139
               have p140 : 0 ≤ (x8_1 : Int) := of_decide_eq_true (by first | (with_reducible assumption) | assumption)
               have q140 : x8_1 < (l0.length : Int) := of_decide_eq_true (by first | (with_reducible assumption) | assumption)
               obtain ⟨ad140, e140, hx140_0, hx140_1, hx140_2⟩ := at_T40 HR0.out x8_1 p140 q140
               have hw140_2 := hx140_2
               have hw140_1 := hx140_1
               have hw140_0 := hx140_0
               obtain rfl : ad139 = ad140 := (by injection e140)
               replace hx140_0 := (HB.out.cell (World.block_lt_of_cell? w _ hx140_0)).trans hx140_0
               replace hx140_1 := (HB.out.cell (World.block_lt_of_cell? w _ hx140_1)).trans hx140_1
               replace hx140_2 := (HB.out.cell (World.block_lt_of_cell? w _ hx140_2)).trans hx140_2
               replace p140 := eq_true p140
               replace q140 := eq_true q140
               refine start_ (n := 18) (S := fun w' => w'.cell? ⟨gb110, 0, none⟩ = some (.int .i64 a1_0) ∧ w'.cell? ⟨gb110, 1, none⟩ = some (.string a1_1) ∧ w'.cell? ⟨gb110, 2, none⟩ = some (.string a1_2) ∧ w'.cell? (ad139.add ((x8_1).toNat * 3)) = some (.int .i64 ((rd_T40 l0 x8_1).f0)) ∧ w'.cell? ⟨(ad139.add ((x8_1).toNat * 3)).block, (ad139.add ((x8_1).toNat * 3)).off + 1, none⟩ = some (.string ((rd_T40 l0 x8_1).f1)) ∧ w'.cell? ⟨(ad139.add ((x8_1).toNat * 3)).block, (ad139.add ((x8_1).toNat * 3)).off + 2, none⟩ = some (.string ((rd_T40 l0 x8_1).f2)) ∧ w'.cell? (ad139.add ((x8_1).toNat * 3)) = some (.int .i64 ((rd_T40 l0 x8_1).f0)) ∧ w'.cell? ⟨(ad139.add ((x8_1).toNat * 3)).block, (ad139.add ((x8_1).toNat * 3)).off + 1, none⟩ = some (.string ((rd_T40 l0 x8_1).f1)) ∧ w'.cell? ⟨(ad139.add ((x8_1).toNat * 3)).block, (ad139.add ((x8_1).toNat * 3)).off + 2, none⟩ = some (.string ((rd_T40 l0 x8_1).f2))) (ds := []) b17_12 (by kernel_rfl) rfl rfl ⟨bc BK110.out 0, bc BK110.out 1, bc BK110.out 2, ((HB.out.cell (World.block_lt_of_cell? _ _ hw139_0)).trans hw139_0), ((HB.out.cell (World.block_lt_of_cell? _ _ hw139_1)).trans hw139_1), ((HB.out.cell (World.block_lt_of_cell? _ _ hw139_2)).trans hw139_2), ((HB.out.cell (World.block_lt_of_cell? _ _ hw140_0)).trans hw140_0), ((HB.out.cell (World.block_lt_of_cell? _ _ hw140_1)).trans hw140_1), ((HB.out.cell (World.block_lt_of_cell? _ _ hw140_2)).trans hw140_2)⟩ (fun hHeld => ?_); refine with_tabW spec_KeyBind.tab14 spec_KeyBind.bits14 (fun HT_ HW_ => ?_)
               generalize wc.drew = w50 at HO_5 HO_6 BK110 HB hx139_0 hx139_1 hx139_2 hx140_0 hx140_1 hx140_2 hHeld ⊢
               refine pu_ 0 (some 42) ?_ b17_13 rfl rfl HT_.out (by kernel_rfl) (fun _ _ _ h => h) (Or.inl ⟨by rfl, ?_⟩) ?_ ?_ ?_; rotate_left
               ·intro w'; go_simp; with_reducible rfl
               rotate_left
               ·simp only [Act.put, sa_, s0_, ss_, i64_w, i32_w]; rfl
               refine pu_ 1 (some 43) ?_ b17_14 rfl rfl HT_.out (by kernel_rfl) (fun _ _ _ h => h) (Or.inl ⟨by rfl, ?_⟩) ?_ ?_ ?_; rotate_left
               ·intro w'; go_simp; with_reducible rfl
               rotate_left
               ·simp only [Act.put, sa_, s0_, ss_, i64_w, i32_w]; rfl
               refine pu_ 2 (some 44) ?_ b17_15 rfl rfl HT_.out (by kernel_rfl) (fun _ _ _ h => h) (Or.inl ⟨by rfl, ?_⟩) ?_ ?_ ?_; rotate_left
               ·intro w'; go_simp; with_reducible rfl
               rotate_left
               ·simp only [Act.put, sa_, s0_, ss_, i64_w, i32_w]; rfl
               refine pu_ 3 (some 45) ?_ b17_16 rfl rfl HT_.out (by kernel_rfl) (fun _ _ _ h => h) (Or.inl ⟨by rfl, ?_⟩) ?_ ?_ ?_; rotate_left
               ·intro w'; go_simp; with_reducible rfl
               rotate_left
               ·simp only [Act.put, sa_, s0_, ss_, i64_w, i32_w]; rfl
               refine pu_ 5 (some 47) ?_ b17_17 rfl rfl HT_.out (by kernel_rfl) (fun _ _ _ h => h) (Or.inl ⟨by rfl, ?_⟩) ?_ ?_ ?_; rotate_left
               ·intro w'; go_simp; with_reducible rfl
               rotate_left
               ·simp only [Act.put, sa_, s0_, ss_, i64_w, i32_w]; rfl
               refine tk_ 4 (some 46) ?_ b17_18 rfl rfl HT_.out HW_.out (by kernel_rfl) (fun _ _ _ h => h) (Or.inl ⟨by rfl, ?_⟩) hHeld ?_ ?_ ?_; rotate_left
               ·rintro w' ⟨s0, s1, s2, s3, s4, s5, s6, s7, s8⟩; go_simp; with_reducible rfl
               rotate_left
               ·simp only [Act.put, sa_, s0_, ss_, i64_w, i32_w]; rfl
               refine tk_ 6 (some 48) ?_ b17_19 rfl rfl HT_.out HW_.out (by kernel_rfl) (fun _ _ _ h => h) (Or.inl ⟨by rfl, ?_⟩) hHeld ?_ ?_ ?_; rotate_left
               ·rintro w' ⟨s0, s1, s2, s3, s4, s5, s6, s7, s8⟩; go_simp; with_reducible rfl
               rotate_left
               ·simp only [Act.put, sa_, s0_, ss_, i64_w, i32_w]; rfl
               refine pu_ 7 (some 49) ?_ b17_20 rfl rfl HT_.out (by kernel_rfl) (fun _ _ _ h => h) (Or.inl ⟨by rfl, ?_⟩) ?_ ?_ ?_; rotate_left
               ·intro w'; go_simp; with_reducible rfl
               rotate_left
               ·simp only [Act.put, sa_, s0_, ss_, i64_w, i32_w]; rfl
               refine pu_ 8 (some 50) ?_ b17_21 rfl rfl HT_.out (by kernel_rfl) (fun _ _ _ h => h) (Or.inl ⟨by rfl, ?_⟩) ?_ ?_ ?_; rotate_left
               ·intro w'; go_simp; with_reducible rfl
               rotate_left
               ·simp only [Act.put, sa_, s0_, ss_, i64_w, i32_w]; rfl
               refine pu_ 9 (some 51) ?_ b17_22 rfl rfl HT_.out (by kernel_rfl) (fun _ _ _ h => h) (Or.inl ⟨by rfl, ?_⟩) ?_ ?_ ?_; rotate_left
               ·intro w'; go_simp; with_reducible rfl
               rotate_left
               ·simp only [Act.put, sa_, s0_, ss_, i64_w, i32_w]; rfl
               refine pu_ 10 (some 52) ?_ b17_23 rfl rfl HT_.out (by kernel_rfl) (fun _ _ _ h => h) (Or.inl ⟨by rfl, ?_⟩) ?_ ?_ ?_; rotate_left
               ·intro w'; go_simp; with_reducible rfl
               rotate_left
               ·simp only [Act.put, sa_, s0_, ss_, i64_w, i32_w]; rfl
               refine pu_ 11 (some 53) ?_ b17_24 rfl rfl HT_.out (by kernel_rfl) (fun _ _ _ h => h) (Or.inl ⟨by rfl, ?_⟩) ?_ ?_ ?_; rotate_left
               ·intro w'; go_simp; with_reducible rfl
               rotate_left
               ·simp only [Act.put, sa_, s0_, ss_, i64_w, i32_w]; rfl
               refine pu_ 12 (some 54) ?_ b17_25 rfl rfl HT_.out (by kernel_rfl) (fun _ _ _ h => h) (Or.inl ⟨by rfl, ?_⟩) ?_ ?_ ?_; rotate_left
               ·intro w'; go_simp; with_reducible rfl
               rotate_left
               ·simp only [Act.put, sa_, s0_, ss_, i64_w, i32_w]; rfl
               refine pu_ 14 (some 56) ?_ b17_26 rfl rfl HT_.out (by kernel_rfl) (fun _ _ _ h => h) (Or.inl ⟨by rfl, ?_⟩) ?_ ?_ ?_; rotate_left
               ·intro w'; go_simp; with_reducible rfl
               rotate_left
               ·simp only [Act.put, sa_, s0_, ss_, i64_w, i32_w]; rfl
               refine tk_ 13 (some 55) ?_ b17_27 rfl rfl HT_.out HW_.out (by kernel_rfl) (fun _ _ _ h => h) (Or.inl ⟨by rfl, ?_⟩) hHeld ?_ ?_ ?_; rotate_left
               ·rintro w' ⟨s0, s1, s2, s3, s4, s5, s6, s7, s8⟩; go_simp; with_reducible rfl
               rotate_left
               ·simp only [Act.put, sa_, s0_, ss_, i64_w, i32_w]; rfl
               refine tk_ 15 (some 57) ?_ b17_28 rfl rfl HT_.out HW_.out (by kernel_rfl) (fun _ _ _ h => h) (Or.inl ⟨by rfl, ?_⟩) hHeld ?_ ?_ ?_; rotate_left
               ·rintro w' ⟨s0, s1, s2, s3, s4, s5, s6, s7, s8⟩; go_simp; with_reducible rfl
               rotate_left
               ·simp only [Act.put, sa_, s0_, ss_, i64_w, i32_w]; rfl
               refine pu_ 16 (some 58) ?_ b17_29 rfl rfl HT_.out (by kernel_rfl) (fun _ _ _ h => h) (Or.inl ⟨by rfl, ?_⟩) ?_ ?_ ?_; rotate_left
               ·intro w'; go_simp; with_reducible rfl
               rotate_left
               ·simp only [Act.put, sa_, s0_, ss_, i64_w, i32_w]; rfl
               refine pu_ 17 (some 59) ?_ b17_30 rfl rfl HT_.out (by kernel_rfl) (fun _ _ _ h => h) (Or.inl ⟨by rfl, ?_⟩) ?_ ?_ ?_; rotate_left
               ·intro w'; go_simp; with_reducible rfl
               rotate_left
               ·simp only [Act.put, sa_, s0_, ss_, i64_w, i32_w]; rfl
               refine done_ (done_of HT_.out (by kernel_rfl)) ?_
               have p141 : 0 ≤ (x8_1 : Int) := of_decide_eq_true (by first | (with_reducible assumption) | assumption)
               have q141 : x8_1 < (l0.length : Int) := of_decide_eq_true (by first | (with_reducible assumption) | assumption)
               obtain ⟨ad141, e141, hx141_0, hx141_1, hx141_2⟩ := at_T40 HR0.out x8_1 p141 q141
               obtain rfl : ad139 = ad141 := (by injection e141)
               replace hx141_0 := (HB.out.cell (World.block_lt_of_cell? w _ hx141_0)).trans hx141_0
               replace hx141_1 := (HB.out.cell (World.block_lt_of_cell? w _ hx141_1)).trans hx141_1
               replace hx141_2 := (HB.out.cell (World.block_lt_of_cell? w _ hx141_2)).trans hx141_2
               replace p141 := eq_true p141
               replace q141 := eq_true q141
               try go_wp2_with (first | ((with_reducible refine gate_builtin (b := .append) (xs := #[.tmp 60, .tmp 65]) rfl ?_); at_builtin; refine Kd.R_append k40 (w0 := w) w.heap.size rfl (.tmp 60) (.tmp 65) 24 40 (.agg #[(.int .i64 0), (.string ⟨#[]⟩), (.string ⟨#[]⟩)]) 40 rfl Try.underlying24 info40 rfl (by decide) (by omega) u6 x6_1 (⟨(rd_T40 l0 x8_1).f0, (rd_T40 l0 x8_1).f1, (rd_T40 l0 x8_1).f2⟩ : S40) [.int .i64 ((rd_T40 l0 x8_1).f0), .string ((rd_T40 l0 x8_1).f1), .string ((rd_T40 l0 x8_1).f2)] (fun k_ => some k_ ≠ (v118 : Value).ownBlock ∧ k_ ≠ gb110) (fun _ => False) rfl rfl ?aP (fun _ hk => hk.elim) ?aF ?aO ?aB ?aS ?aL ?_; (case aP => exact k40_mkM _ _ _ (⟨(rd_T40 l0 x8_1).f0, (rd_T40 l0 x8_1).f1, (rd_T40 l0 x8_1).f2⟩ : S40)); (case aB => exact (bl HB.out)); (case aF => exact (fun k_ hk => ⟨Kd.fresh' (Kd.R_lt (kr HO_5.out)) k_ hk, Kd.freshB (g := gb110) (o := .cells #[.int .i64 a1_0, .string a1_1, .string a1_2] 40 (0, 0)) (pk BK110.out) k_ hk⟩)); (case aO => exact (kr HO_6.out)); (case aS => exact (below_size (bl HB.out))); (case aL => have := LMc49.out; omega); intro v143 w51 ho hb hg hat; rw [← Ny142.out] at ho; replace HO_5 := am (Kd.R_after (ok := (fun k_ => k_ ≠ gb110)) (kr (Kd.R_mono HO_5.out (fun _ hk => ⟨hk.2, hk.1⟩))) hg hat); replace BK110 := am (blk_grown (g := gb110) (o := .cells #[.int .i64 a1_0, .string a1_1, .string a1_2] 40 (0, 0)) (pk BK110.out) hg (Kd.R_away HO_6.out (fun _ hk => hk.2))); replace HB := am (hb); have HO144 := am (ho); clear HO_6; clear ho hb hg hat))
               go_roundg kj17
               case measure => have := HK1.out; have := HJ17.out; omega
               case rel => exact ⟨(y142), (x7_1), (wrap64 (x8_1 + 1)), (by first | rfl | (simp; done) | (simp [*]; done)), (by first | rfl | (simp; done) | (simp [*]; done)), H', ⟨by have := HK1.out; have := HJ17.out; omega⟩, ⟨kr (Kd.R_mono HO_5.out (fun _ hk => ⟨hk.2, hk.1⟩))⟩, ⟨kr HO144.out⟩, ⟨pk BK110.out⟩, ⟨by repeat (first | (with_reducible first | exact HB.out | apply below_alloc | apply pw_below_drewN | apply below_drew1 | refine below_set ?_ GE110.out) | exact HB.out)⟩⟩
              ·rw [if_neg c49] at H
               exact absurd H (by simp)
            ·rw [if_neg c46] at H
             have c46b0 : (((rd_T40 l0 x8_1).f0) == a1_0) = false := beq_eq_false_iff_ne.mpr c46
             have c46b1 : (((rd_T40 l0 x8_1).f0) != a1_0) = true := bne_iff_ne.mpr c46
             by_cases c52 : x6_1.length < 3518437208883
             ·rw [if_pos c52] at H
              have LMc52 := Aside0.mk c52
              clear c52
              obtain ⟨y146, hy146⟩ : ∃ y_ : List (S40), y_ = (x6_1 ++ [(⟨(rd_T40 l0 x8_1).f0, (rd_T40 l0 x8_1).f1, (rd_T40 l0 x8_1).f2⟩ : S40)]) := ⟨_, rfl⟩
              replace H : (spec_KeyBind.l0 kj17 l0 y117 y146 x7_1 (wrap64 (x8_1 + 1)) a1_0 a1_1 a1_2) = some r := by first | (rw [hy146]; with_reducible exact H) | (have H2_ := (Option.bind_some _ _).symm.trans H; rw [hy146]; with_reducible exact H2_) | (have H2_ := (Option.bind_some _ _).symm.trans H; with_reducible exact H2_) | with_reducible exact H | (rw [hy146]; exact H) | exact H
              have Ny146 := am hy146
              clear hy146
              have H' := Aside0.mk H
              clear H
              try go_wp2
              replace HO_5 := am (Kd.R_drew HO_5.out)
              replace HO_6 := am (Kd.R_drew HO_6.out)
              replace BK110 := am (blk_drew BK110.out)
              replace HB := am (below_drew1 HB.out)
              have p139 : 0 ≤ (x8_1 : Int) := of_decide_eq_true (by first | (with_reducible assumption) | assumption)
              have q139 : x8_1 < (l0.length : Int) := of_decide_eq_true (by first | (with_reducible assumption) | assumption)
              obtain ⟨ad139, e139, hx139_0, hx139_1, hx139_2⟩ := at_T40 HR0.out x8_1 p139 q139
              have hw139_2 := hx139_2
              have hw139_1 := hx139_1
              have hw139_0 := hx139_0
              cases e139
              replace hx139_0 := (HB.out.cell (World.block_lt_of_cell? w _ hx139_0)).trans hx139_0
              replace hx139_1 := (HB.out.cell (World.block_lt_of_cell? w _ hx139_1)).trans hx139_1
              replace hx139_2 := (HB.out.cell (World.block_lt_of_cell? w _ hx139_2)).trans hx139_2
              replace p139 := eq_true p139
              replace q139 := eq_true q139
              refine start_ (n := 18) (S := fun w' => w'.cell? ⟨gb110, 0, none⟩ = some (.int .i64 a1_0) ∧ w'.cell? ⟨gb110, 1, none⟩ = some (.string a1_1) ∧ w'.cell? ⟨gb110, 2, none⟩ = some (.string a1_2) ∧ w'.cell? (ad139.add ((x8_1).toNat * 3)) = some (.int .i64 ((rd_T40 l0 x8_1).f0)) ∧ w'.cell? ⟨(ad139.add ((x8_1).toNat * 3)).block, (ad139.add ((x8_1).toNat * 3)).off + 1, none⟩ = some (.string ((rd_T40 l0 x8_1).f1)) ∧ w'.cell? ⟨(ad139.add ((x8_1).toNat * 3)).block, (ad139.add ((x8_1).toNat * 3)).off + 2, none⟩ = some (.string ((rd_T40 l0 x8_1).f2))) (ds := []) b17_12 (by kernel_rfl) rfl rfl ⟨bc BK110.out 0, bc BK110.out 1, bc BK110.out 2, ((HB.out.cell (World.block_lt_of_cell? _ _ hw139_0)).trans hw139_0), ((HB.out.cell (World.block_lt_of_cell? _ _ hw139_1)).trans hw139_1), ((HB.out.cell (World.block_lt_of_cell? _ _ hw139_2)).trans hw139_2)⟩ (fun hHeld => ?_); refine with_tabW spec_KeyBind.tab14 spec_KeyBind.bits14 (fun HT_ HW_ => ?_)
              generalize wc.drew = w53 at HO_5 HO_6 BK110 HB hx139_0 hx139_1 hx139_2 hHeld ⊢
              refine pu_ 0 (some 42) ?_ b17_13 rfl rfl HT_.out (by kernel_rfl) (fun _ _ _ h => h) (Or.inl ⟨by rfl, ?_⟩) ?_ ?_ ?_; rotate_left
              ·intro w'; go_simp; with_reducible rfl
              rotate_left
              ·simp only [Act.put, sa_, s0_, ss_, i64_w, i32_w]; rfl
              refine pu_ 1 (some 43) ?_ b17_14 rfl rfl HT_.out (by kernel_rfl) (fun _ _ _ h => h) (Or.inl ⟨by rfl, ?_⟩) ?_ ?_ ?_; rotate_left
              ·intro w'; go_simp; with_reducible rfl
              rotate_left
              ·simp only [Act.put, sa_, s0_, ss_, i64_w, i32_w]; rfl
              refine pu_ 2 (some 44) ?_ b17_15 rfl rfl HT_.out (by kernel_rfl) (fun _ _ _ h => h) (Or.inl ⟨by rfl, ?_⟩) ?_ ?_ ?_; rotate_left
              ·intro w'; go_simp; with_reducible rfl
              rotate_left
              ·simp only [Act.put, sa_, s0_, ss_, i64_w, i32_w]; rfl
              refine pu_ 3 (some 45) ?_ b17_16 rfl rfl HT_.out (by kernel_rfl) (fun _ _ _ h => h) (Or.inl ⟨by rfl, ?_⟩) ?_ ?_ ?_; rotate_left
              ·intro w'; go_simp; with_reducible rfl
              rotate_left
              ·simp only [Act.put, sa_, s0_, ss_, i64_w, i32_w]; rfl
              refine pu_ 5 (some 47) ?_ b17_17 rfl rfl HT_.out (by kernel_rfl) (fun _ _ _ h => h) (Or.inl ⟨by rfl, ?_⟩) ?_ ?_ ?_; rotate_left
              ·intro w'; go_simp; with_reducible rfl
              rotate_left
              ·simp only [Act.put, sa_, s0_, ss_, i64_w, i32_w]; rfl
              refine tk_ 4 (some 46) ?_ b17_18 rfl rfl HT_.out HW_.out (by kernel_rfl) (fun _ _ _ h => h) (Or.inl ⟨by rfl, ?_⟩) hHeld ?_ ?_ ?_; rotate_left
              ·rintro w' ⟨s0, s1, s2, s3, s4, s5⟩; go_simp; with_reducible rfl
              rotate_left
              ·simp only [Act.put, sa_, s0_, ss_, i64_w, i32_w]; rfl
              refine tk_ 6 (some 48) ?_ b17_19 rfl rfl HT_.out HW_.out (by kernel_rfl) (fun _ _ _ h => h) (Or.inl ⟨by rfl, ?_⟩) hHeld ?_ ?_ ?_; rotate_left
              ·rintro w' ⟨s0, s1, s2, s3, s4, s5⟩; go_simp; with_reducible rfl
              rotate_left
              ·simp only [Act.put, sa_, s0_, ss_, i64_w, i32_w]; rfl
              refine pu_ 7 (some 49) ?_ b17_20 rfl rfl HT_.out (by kernel_rfl) (fun _ _ _ h => h) (Or.inl ⟨by rfl, ?_⟩) ?_ ?_ ?_; rotate_left
              ·intro w'; go_simp; with_reducible rfl
              rotate_left
              ·simp only [Act.put, sa_, s0_, ss_, i64_w, i32_w]; rfl
              refine pu_ 8 (some 50) ?_ b17_21 rfl rfl HT_.out (by kernel_rfl) (fun _ _ _ h => h) (Or.inl ⟨by rfl, ?_⟩) ?_ ?_ ?_; rotate_left
              ·intro w'; go_simp; with_reducible rfl
              rotate_left
              ·simp only [Act.put, sa_, s0_, ss_, i64_w, i32_w]; rfl
              refine pu_ 9 (some 51) undef b17_22 rfl rfl HT_.out (by kernel_rfl) (fun _ _ _ h => h) (Or.inr ⟨by rfl, rfl⟩) ?_ ?_ ?_; rotate_left
              ·simp only [Act.put, sa_, s0_, ss_, i64_w, i32_w]; rfl
              refine pu_ 10 (some 52) undef b17_23 rfl rfl HT_.out (by kernel_rfl) (fun _ _ _ h => h) (Or.inr ⟨by rfl, rfl⟩) ?_ ?_ ?_; rotate_left
              ·simp only [Act.put, sa_, s0_, ss_, i64_w, i32_w]; rfl
              refine pu_ 11 (some 53) undef b17_24 rfl rfl HT_.out (by kernel_rfl) (fun _ _ _ h => h) (Or.inr ⟨by rfl, rfl⟩) ?_ ?_ ?_; rotate_left
              ·simp only [Act.put, sa_, s0_, ss_, i64_w, i32_w]; rfl
              refine pu_ 12 (some 54) undef b17_25 rfl rfl HT_.out (by kernel_rfl) (fun _ _ _ h => h) (Or.inr ⟨by rfl, rfl⟩) ?_ ?_ ?_; rotate_left
              ·simp only [Act.put, sa_, s0_, ss_, i64_w, i32_w]; rfl
              refine pu_ 13 (some 55) undef b17_31 rfl rfl HT_.out (by kernel_rfl) (fun _ _ _ h => h) (Or.inr ⟨by rfl, rfl⟩) ?_ ?_ ?_; rotate_left
              ·simp only [Act.put, sa_, s0_, ss_, i64_w, i32_w]; rfl
              refine pu_ 14 (some 56) undef b17_27 rfl rfl HT_.out (by kernel_rfl) (fun _ _ _ h => h) (Or.inr ⟨by rfl, rfl⟩) ?_ ?_ ?_; rotate_left
              ·simp only [Act.put, sa_, s0_, ss_, i64_w, i32_w]; rfl
              refine pu_ 15 (some 57) undef b17_28 rfl rfl HT_.out (by kernel_rfl) (fun _ _ _ h => h) (Or.inr ⟨by rfl, rfl⟩) ?_ ?_ ?_; rotate_left
              ·simp only [Act.put, sa_, s0_, ss_, i64_w, i32_w]; rfl
              refine pu_ 16 (some 58) undef b17_29 rfl rfl HT_.out (by kernel_rfl) (fun _ _ _ h => h) (Or.inr ⟨by rfl, rfl⟩) ?_ ?_ ?_; rotate_left
              ·simp only [Act.put, sa_, s0_, ss_, i64_w, i32_w]; rfl
              refine pu_ 17 (some 59) ?_ b17_30 rfl rfl HT_.out (by kernel_rfl) (fun _ _ _ h => h) (Or.inl ⟨by rfl, ?_⟩) ?_ ?_ ?_; rotate_left
              ·intro w'; go_simp; with_reducible rfl
              rotate_left
              ·simp only [Act.put, sa_, s0_, ss_, i64_w, i32_w]; rfl
              refine done_ (done_of HT_.out (by kernel_rfl)) ?_
              have p145 : 0 ≤ (x8_1 : Int) := of_decide_eq_true (by first | (with_reducible assumption) | assumption)
              have q145 : x8_1 < (l0.length : Int) := of_decide_eq_true (by first | (with_reducible assumption) | assumption)
              obtain ⟨ad145, e145, hx145_0, hx145_1, hx145_2⟩ := at_T40 HR0.out x8_1 p145 q145
              obtain rfl : ad139 = ad145 := (by injection e145)
              replace hx145_0 := (HB.out.cell (World.block_lt_of_cell? w _ hx145_0)).trans hx145_0
              replace hx145_1 := (HB.out.cell (World.block_lt_of_cell? w _ hx145_1)).trans hx145_1
              replace hx145_2 := (HB.out.cell (World.block_lt_of_cell? w _ hx145_2)).trans hx145_2
              replace p145 := eq_true p145
              replace q145 := eq_true q145
              try go_wp2_with (first | ((with_reducible refine gate_builtin (b := .append) (xs := #[.tmp 60, .tmp 65]) rfl ?_); at_builtin; refine Kd.R_append k40 (w0 := w) w.heap.size rfl (.tmp 60) (.tmp 65) 24 40 (.agg #[(.int .i64 0), (.string ⟨#[]⟩), (.string ⟨#[]⟩)]) 40 rfl Try.underlying24 info40 rfl (by decide) (by omega) u6 x6_1 (⟨(rd_T40 l0 x8_1).f0, (rd_T40 l0 x8_1).f1, (rd_T40 l0 x8_1).f2⟩ : S40) [.int .i64 ((rd_T40 l0 x8_1).f0), .string ((rd_T40 l0 x8_1).f1), .string ((rd_T40 l0 x8_1).f2)] (fun k_ => some k_ ≠ (v118 : Value).ownBlock ∧ k_ ≠ gb110) (fun _ => False) rfl rfl ?aP (fun _ hk => hk.elim) ?aF ?aO ?aB ?aS ?aL ?_; (case aP => exact k40_mkM _ _ _ (⟨(rd_T40 l0 x8_1).f0, (rd_T40 l0 x8_1).f1, (rd_T40 l0 x8_1).f2⟩ : S40)); (case aB => exact (bl HB.out)); (case aF => exact (fun k_ hk => ⟨Kd.fresh' (Kd.R_lt (kr HO_5.out)) k_ hk, Kd.freshB (g := gb110) (o := .cells #[.int .i64 a1_0, .string a1_1, .string a1_2] 40 (0, 0)) (pk BK110.out) k_ hk⟩)); (case aO => exact (kr HO_6.out)); (case aS => exact (below_size (bl HB.out))); (case aL => have := LMc52.out; omega); intro v147 w54 ho hb hg hat; rw [← Ny146.out] at ho; replace HO_5 := am (Kd.R_after (ok := (fun k_ => k_ ≠ gb110)) (kr (Kd.R_mono HO_5.out (fun _ hk => ⟨hk.2, hk.1⟩))) hg hat); replace BK110 := am (blk_grown (g := gb110) (o := .cells #[.int .i64 a1_0, .string a1_1, .string a1_2] 40 (0, 0)) (pk BK110.out) hg (Kd.R_away HO_6.out (fun _ hk => hk.2))); replace HB := am (hb); have HO148 := am (ho); clear HO_6; clear ho hb hg hat))
              go_roundg kj17
              case measure => have := HK1.out; have := HJ17.out; omega
              case rel => exact ⟨(y146), (x7_1), (wrap64 (x8_1 + 1)), (by first | rfl | (simp; done) | (simp [*]; done)), (by first | rfl | (simp; done) | (simp [*]; done)), H', ⟨by have := HK1.out; have := HJ17.out; omega⟩, ⟨kr (Kd.R_mono HO_5.out (fun _ hk => ⟨hk.2, hk.1⟩))⟩, ⟨kr HO148.out⟩, ⟨pk BK110.out⟩, ⟨by repeat (first | (with_reducible first | exact HB.out | apply below_alloc | apply pw_below_drewN | apply below_drew1 | refine below_set ?_ GE110.out) | exact HB.out)⟩⟩
             ·rw [if_neg c52] at H
              exact absurd H (by simp)
           ·rw [if_neg c45] at H
            exact absurd H (by simp)
          ·rw [if_neg c44] at H
           exact absurd H (by simp)
      ·rw [if_neg c17] at H
       have c17b0 : decide (x8_1 < (l0.length : Int)) = false := decide_eq_false c17
       clear c17
       by_cases c55 : x7_1 = true
       ·subst c55
        have H1 : ((spec_KeysRight.f k1 x6_1).bind fun t149 => (if t149 = true then (some x6_1) else (some y117))) = some r := by rw [if_pos rfl] at H; exact H
        clear H
        have H := H1
        clear H1
        replace H := Option.bind_eq_some_iff.mp H
        obtain ⟨t149, A560, H⟩ := H
        replace H : (if t149 = true then (some x6_1) else (some y117)) = some r := H
        have A56 := Aside0.mk A560
        clear A560
        by_cases c57 : t149 = true
        ·subst c57
         have H1 : (some x6_1) = some r := by rw [if_pos rfl] at H; exact H
         clear H
         have H := H1
         clear H1
         obtain rfl := Option.some.inj H
         obtain ⟨Ao58, co58, eo58⟩ := Kd.R_slice HO_6.out
         subst eo58
         go_wp2_with (first | ((with_reducible refine gate_callee (f := 20) rfl ?_); refine gl (some 74) Try.func20 #[.slice Ao58 x6_1.length co58] ?_; (with_reducible refine (spec_KeysRight.calls k1 _ _ x6_1 true _ ?side1 ?side2 A56.out).mono ?_); (case side1 => repeat (first | exact (Kd.R_reads' HO_6.out).2.2 | (with_reducible refine Kd.C_alloc ?_ _) | (with_reducible refine Kd.C_drewN ?_ _) | (with_reducible refine Kd.C_drew ?_))); (case side2 => exact (Kd.R_reads' HO_6.out).2.1); rintro e w59 ⟨rfl, hb⟩; refine ⟨_, rfl, ?_⟩; replace HO_5 := am (Kd.R_below (kr HO_5.out) hb); replace HO_6 := am (Kd.R_below (kr HO_6.out) hb); replace BK110 := am (blk_below (pk BK110.out) hb); replace HB := am (below_step (bl HB.out) hb); (try clear hb); (try clear hb2); (try clear hk); (try clear hi)))
         go_ret
         exact ⟨_, by first | rfl | (simp [errW_none, errW_some] <;> rfl) | (simp [*, errW_none, errW_some] <;> rfl), kr (Kd.R_mono HO_6.out (fun _ hk => trivial)), by repeat (first | (with_reducible first | exact HB.out | apply below_alloc | apply pw_below_drewN | apply below_drew1 | refine below_set ?_ GE110.out) | exact HB.out)⟩
        ·replace c57 := Bool.eq_false_iff.mpr c57
         subst c57
         have H1 : (some y117) = some r := by rw [if_neg (show ¬ (false = true) by decide)] at H; exact H
         clear H
         have H := H1
         clear H1
         obtain rfl := Option.some.inj H
         obtain ⟨Ao60, co60, eo60⟩ := Kd.R_slice HO_6.out
         subst eo60
         go_wp2_with (first | ((with_reducible refine gate_callee (f := 20) rfl ?_); refine gl (some 74) Try.func20 #[.slice Ao60 x6_1.length co60] ?_; (with_reducible refine (spec_KeysRight.calls k1 _ _ x6_1 false _ ?side1 ?side2 A56.out).mono ?_); (case side1 => repeat (first | exact (Kd.R_reads' HO_6.out).2.2 | (with_reducible refine Kd.C_alloc ?_ _) | (with_reducible refine Kd.C_drewN ?_ _) | (with_reducible refine Kd.C_drew ?_))); (case side2 => exact (Kd.R_reads' HO_6.out).2.1); rintro e w61 ⟨rfl, hb⟩; refine ⟨_, rfl, ?_⟩; replace HO_5 := am (Kd.R_below (kr HO_5.out) hb); replace HO_6 := am (Kd.R_below (kr HO_6.out) hb); replace BK110 := am (blk_below (pk BK110.out) hb); replace HB := am (below_step (bl HB.out) hb); (try clear hb); (try clear hb2); (try clear hk); (try clear hi)))
         go_ret
         exact ⟨_, by first | rfl | (simp [errW_none, errW_some] <;> rfl) | (simp [*, errW_none, errW_some] <;> rfl), kr (Kd.R_mono HO_5.out (fun _ hk => trivial)), by repeat (first | (with_reducible first | exact HB.out | apply below_alloc | apply pw_below_drewN | apply below_drew1 | refine below_set ?_ GE110.out) | exact HB.out)⟩
       ·replace c55 := Bool.eq_false_iff.mpr c55
        subst c55
        have H1 : (if x6_1.length < 3518437208883 then ((some (x6_1 ++ [(⟨a1_0, a1_1, a1_2⟩ : S40)] : List (S40))).bind fun y150 => ((spec_KeysRight.f k1 y150).bind fun t153 => (if t153 = true then (some y150) else (some y117)))) else (none)) = some r := by rw [if_neg (show ¬ (false = true) by decide)] at H; exact H
        clear H
        have H := H1
        clear H1
        by_cases c62 : x6_1.length < 3518437208883
        ·rw [if_pos c62] at H
         have LMc62 := Aside0.mk c62
         clear c62
         obtain ⟨y150, hy150⟩ : ∃ y_ : List (S40), y_ = (x6_1 ++ [(⟨a1_0, a1_1, a1_2⟩ : S40)]) := ⟨_, rfl⟩
         replace H : ((spec_KeysRight.f k1 y150).bind fun t153 => (if t153 = true then (some y150) else (some y117))) = some r := by first | (rw [hy150]; with_reducible exact H) | (have H2_ := (Option.bind_some _ _).symm.trans H; rw [hy150]; with_reducible exact H2_) | (have H2_ := (Option.bind_some _ _).symm.trans H; with_reducible exact H2_) | with_reducible exact H | (rw [hy150]; exact H) | exact H
         have Ny150 := am hy150
         clear hy150
         replace H := Option.bind_eq_some_iff.mp H
         obtain ⟨t153, A630, H⟩ := H
         replace H : (if t153 = true then (some y150) else (some y117)) = some r := H
         have A63 := Aside0.mk A630
         clear A630
         by_cases c64 : t153 = true
         ·subst c64
          have H1 : (some y150) = some r := by rw [if_pos rfl] at H; exact H
          clear H
          have H := H1
          clear H1
          obtain rfl := Option.some.inj H
          have hcz65_0 : wr.cell? ⟨gb110, 0, none⟩ = some (.int .i64 a1_0) := bc BK110.out 0
          have hcz65_1 : wr.cell? ⟨gb110, 1, none⟩ = some (.string a1_1) := bc BK110.out 1
          have hcz65_2 : wr.cell? ⟨gb110, 2, none⟩ = some (.string a1_2) := bc BK110.out 2
          go_wp2_with (first | ((with_reducible refine gate_builtin (b := .append) (xs := #[.tmp 69, .tmp 71]) rfl ?_); at_builtin; refine Kd.R_append k40 (w0 := w) w.heap.size rfl (.tmp 69) (.tmp 71) 24 40 (.agg #[(.int .i64 0), (.string ⟨#[]⟩), (.string ⟨#[]⟩)]) 40 rfl Try.underlying24 info40 rfl (by decide) (by omega) u6 x6_1 (⟨a1_0, a1_1, a1_2⟩ : S40) [.int .i64 a1_0, .string a1_1, .string a1_2] (fun k_ => some k_ ≠ (v118 : Value).ownBlock ∧ k_ ≠ gb110) (fun _ => False) rfl rfl ?aP (fun _ hk => hk.elim) ?aF ?aO ?aB ?aS ?aL ?_; (case aP => exact k40_mkM _ _ _ (⟨a1_0, a1_1, a1_2⟩ : S40)); (case aB => exact (bl HB.out)); (case aF => exact (fun k_ hk => ⟨Kd.fresh' (Kd.R_lt (kr HO_5.out)) k_ hk, Kd.freshB (g := gb110) (o := .cells #[.int .i64 a1_0, .string a1_1, .string a1_2] 40 (0, 0)) (pk BK110.out) k_ hk⟩)); (case aO => exact (kr HO_6.out)); (case aS => exact (below_size (bl HB.out))); (case aL => have := LMc62.out; omega); intro v151 w66 ho hb hg hat; rw [← Ny150.out] at ho; replace HO_5 := am (Kd.R_after (ok := (fun k_ => k_ ≠ gb110)) (kr (Kd.R_mono HO_5.out (fun _ hk => ⟨hk.2, hk.1⟩))) hg hat); replace BK110 := am (blk_grown (g := gb110) (o := .cells #[.int .i64 a1_0, .string a1_1, .string a1_2] 40 (0, 0)) (pk BK110.out) hg (Kd.R_away HO_6.out (fun _ hk => hk.2))); replace HB := am (hb); have HO152 := am (ho); clear HO_6; clear ho hb hg hat; obtain ⟨Ao67, co67, eo67⟩ := Kd.R_slice HO152.out; subst eo67) | ((with_reducible refine gate_callee (f := 20) rfl ?_); refine gl (some 74) Try.func20 #[.slice Ao67 y150.length co67] ?_; (with_reducible refine (spec_KeysRight.calls k1 _ _ y150 true _ ?side1 ?side2 A63.out).mono ?_); (case side1 => repeat (first | exact (Kd.R_reads' HO152.out).2.2 | (with_reducible refine Kd.C_alloc ?_ _) | (with_reducible refine Kd.C_drewN ?_ _) | (with_reducible refine Kd.C_drew ?_))); (case side2 => exact (Kd.R_reads' HO152.out).2.1); rintro e w68 ⟨rfl, hb⟩; refine ⟨_, rfl, ?_⟩; replace HO_5 := am (Kd.R_below (kr HO_5.out) hb); replace HO152 := am (Kd.R_below (kr HO152.out) hb); replace BK110 := am (blk_below (pk BK110.out) hb); replace HB := am (below_step (bl HB.out) hb); (try clear hb); (try clear hb2); (try clear hk); (try clear hi)))
          go_ret
          exact ⟨_, by first | rfl | (simp [errW_none, errW_some] <;> rfl) | (simp [*, errW_none, errW_some] <;> rfl), kr (Kd.R_mono HO152.out (fun _ hk => trivial)), by repeat (first | (with_reducible first | exact HB.out | apply below_alloc | apply pw_below_drewN | apply below_drew1 | refine below_set ?_ GE110.out) | exact HB.out)⟩
         ·replace c64 := Bool.eq_false_iff.mpr c64
          subst c64
          have H1 : (some y117) = some r := by rw [if_neg (show ¬ (false = true) by decide)] at H; exact H
          clear H
          have H := H1
          clear H1
          obtain rfl := Option.some.inj H
          have hcz69_0 : wr.cell? ⟨gb110, 0, none⟩ = some (.int .i64 a1_0) := bc BK110.out 0
          have hcz69_1 : wr.cell? ⟨gb110, 1, none⟩ = some (.string a1_1) := bc BK110.out 1
          have hcz69_2 : wr.cell? ⟨gb110, 2, none⟩ = some (.string a1_2) := bc BK110.out 2
          go_wp2_with (first | ((with_reducible refine gate_builtin (b := .append) (xs := #[.tmp 69, .tmp 71]) rfl ?_); at_builtin; refine Kd.R_append k40 (w0 := w) w.heap.size rfl (.tmp 69) (.tmp 71) 24 40 (.agg #[(.int .i64 0), (.string ⟨#[]⟩), (.string ⟨#[]⟩)]) 40 rfl Try.underlying24 info40 rfl (by decide) (by omega) u6 x6_1 (⟨a1_0, a1_1, a1_2⟩ : S40) [.int .i64 a1_0, .string a1_1, .string a1_2] (fun k_ => some k_ ≠ (v118 : Value).ownBlock ∧ k_ ≠ gb110) (fun _ => False) rfl rfl ?aP (fun _ hk => hk.elim) ?aF ?aO ?aB ?aS ?aL ?_; (case aP => exact k40_mkM _ _ _ (⟨a1_0, a1_1, a1_2⟩ : S40)); (case aB => exact (bl HB.out)); (case aF => exact (fun k_ hk => ⟨Kd.fresh' (Kd.R_lt (kr HO_5.out)) k_ hk, Kd.freshB (g := gb110) (o := .cells #[.int .i64 a1_0, .string a1_1, .string a1_2] 40 (0, 0)) (pk BK110.out) k_ hk⟩)); (case aO => exact (kr HO_6.out)); (case aS => exact (below_size (bl HB.out))); (case aL => have := LMc62.out; omega); intro v151 w70 ho hb hg hat; rw [← Ny150.out] at ho; replace HO_5 := am (Kd.R_after (ok := (fun k_ => k_ ≠ gb110)) (kr (Kd.R_mono HO_5.out (fun _ hk => ⟨hk.2, hk.1⟩))) hg hat); replace BK110 := am (blk_grown (g := gb110) (o := .cells #[.int .i64 a1_0, .string a1_1, .string a1_2] 40 (0, 0)) (pk BK110.out) hg (Kd.R_away HO_6.out (fun _ hk => hk.2))); replace HB := am (hb); have HO152 := am (ho); clear HO_6; clear ho hb hg hat; obtain ⟨Ao71, co71, eo71⟩ := Kd.R_slice HO152.out; subst eo71) | ((with_reducible refine gate_callee (f := 20) rfl ?_); refine gl (some 74) Try.func20 #[.slice Ao71 y150.length co71] ?_; (with_reducible refine (spec_KeysRight.calls k1 _ _ y150 false _ ?side1 ?side2 A63.out).mono ?_); (case side1 => repeat (first | exact (Kd.R_reads' HO152.out).2.2 | (with_reducible refine Kd.C_alloc ?_ _) | (with_reducible refine Kd.C_drewN ?_ _) | (with_reducible refine Kd.C_drew ?_))); (case side2 => exact (Kd.R_reads' HO152.out).2.1); rintro e w72 ⟨rfl, hb⟩; refine ⟨_, rfl, ?_⟩; replace HO_5 := am (Kd.R_below (kr HO_5.out) hb); replace HO152 := am (Kd.R_below (kr HO152.out) hb); replace BK110 := am (blk_below (pk BK110.out) hb); replace HB := am (below_step (bl HB.out) hb); (try clear hb); (try clear hb2); (try clear hk); (try clear hi)))
          go_ret
          exact ⟨_, by first | rfl | (simp [errW_none, errW_some] <;> rfl) | (simp [*, errW_none, errW_some] <;> rfl), kr (Kd.R_mono HO_5.out (fun _ hk => trivial)), by repeat (first | (with_reducible first | exact HB.out | apply below_alloc | apply pw_below_drewN | apply below_drew1 | refine below_set ?_ GE110.out) | exact HB.out)⟩
        ·rw [if_neg c62] at H
         exact absurd H (by simp)
   ·replace c9 := Bool.eq_false_iff.mpr c9
    subst c9
    have H1 : (some y117) = some r := by rw [if_neg (show ¬ (false = true) by decide)] at H; exact H
    clear H
    have H := H1
    clear H1
    obtain rfl := Option.some.inj H
    go_enter Try.func17, Try.ntmps17
    go_wp2_with (first | ((with_reducible refine gate_dst (N := 3) rfl ?_); refine box_event ?hg (N := 3) ?hd (cs := #[.int .i64 a1_0, .string a1_1, .string a1_2]) (t := 40) ?hr ?_; (case hd => rfl); (case hg => rfl); (case hr => first | (go_simp; done) | (go_simp; rfl)); intro gb110 hg w73 hbox hb; have BK110 := am (hbox); have GW110 := am ((by rw [hg]; exact (below_size (bl HB.out)) : w.heap.size ≤ gb110)); have GE110 := GW110; replace HB := am (below_step (bl HB.out) hb); clear hb hbox hg) | ((with_reducible refine gate_dst (N := 13) rfl ?_); refine Kd.R_lit k40 _ 40 ?hg (N := 13) ?hd (xs := ([] : List (S40))) (inner := []) (ok := fun _ => True) (okp := fun _ => True) ?hr ?hp (fun _ hk => hk) trivial (Below.refl _ _) (Nat.le_refl _) (by simp) ?_; (case hd => rfl); (case hg => rfl); (case hr => first | (go_simp; done) | (go_simp; rfl)); (case hp => exact (Reps.none _ _)); intro v115 w74 ho75 hb hg_ hnew_; clear hg_ hnew_; (first | rw [← Ny114.out] at ho75 | (simp only [Int.reduceToNat] at ho75; rw [← Ny114.out] at ho75)); have HO116 := am (Kd.R_lower (Kd.R_newB ho75 (g := gb110) (o := .cells #[.int .i64 a1_0, .string a1_1, .string a1_2] 40 (0, 0)) (pk BK110.out)) (below_size (bl HB.out))); replace BK110 := am (blk_below (pk BK110.out) hb); replace HB := am (below_step (bl HB.out) hb); clear hb ho75) | ((with_reducible refine gate_builtin (b := .append) (xs := #[.tmp 13, .tmp 14]) rfl ?_); at_builtin; refine Kd.R_append_rows k40 (w0 := w) w.heap.size rfl (.tmp 13) (.tmp 14) 24 40 (.agg #[(.int .i64 0), (.string ⟨#[]⟩), (.string ⟨#[]⟩)]) 40 rfl Try.underlying24 info40 rfl (by decide) (by omega) v115 y114 l0 _ _ _ (fun k_ => k_ ≠ gb110) (fun _ => False) rfl rfl ?aO ?aR (fun _ _ h => h) (fun _ h => h.elim) ?aF ?aB ?aS ?aL ?_; (case aR => repeat (first | exact (Kd.C_below HR0.out HB.out) | (with_reducible refine Kd.C_alloc ?_ _) | (with_reducible refine Kd.C_drewN ?_ _) | (with_reducible refine Kd.C_drew ?_))); (case aB => exact (bl HB.out)); (case aF => exact (fun k_ hk => Kd.freshB (g := gb110) (o := .cells #[.int .i64 a1_0, .string a1_1, .string a1_2] 40 (0, 0)) (pk BK110.out) k_ hk)); (case aO => exact (kr (Kd.R_mono HO116.out (fun _ hk => hk.2)))); (case aS => exact (below_size (bl HB.out))); (case aL => have := LMc7.out; omega); intro v118 w76 ho hb hg hat; rw [← Ny117.out] at ho; replace BK110 := am (blk_grown (g := gb110) (o := .cells #[.int .i64 a1_0, .string a1_1, .string a1_2] 40 (0, 0)) (pk BK110.out) hg (Kd.R_away HO116.out (fun _ hk => hk.2))); replace HB := am (hb); have HO119 := am (ho); clear HO116; clear ho hb hg hat) | ((with_reducible refine gate_callee (f := 20) rfl ?_); refine gl (some 17) Try.func20 #[.slice A0 l0.length c0] ?_; (with_reducible refine (spec_KeysRight.calls k _ _ l0 false _ ?side1 ?side2 A8.out).mono ?_); (case side1 => repeat (first | exact (Kd.C_below HR0.out HB.out) | (with_reducible refine Kd.C_alloc ?_ _) | (with_reducible refine Kd.C_drewN ?_ _) | (with_reducible refine Kd.C_drew ?_))); (case side2 => exact HC0.out); rintro e w77 ⟨rfl, hb⟩; refine ⟨_, rfl, ?_⟩; replace HO119 := am (Kd.R_below (kr HO119.out) hb); replace BK110 := am (blk_below (pk BK110.out) hb); replace HB := am (below_step (bl HB.out) hb); (try clear hb); (try clear hb2); (try clear hk); (try clear hi)))
    go_ret
    exact ⟨_, by first | rfl | (simp [errW_none, errW_some] <;> rfl) | (simp [*, errW_none, errW_some] <;> rfl), kr (Kd.R_mono HO119.out (fun _ hk => trivial)), by repeat (first | (with_reducible first | exact HB.out | apply below_alloc | apply pw_below_drewN | apply below_drew1 | refine below_set ?_ GE110.out) | exact HB.out)⟩
  ·rw [if_neg c7] at H
   exact absurd H (by simp)

end Go.Proofs.Ytnhmoacjmieggaa.PFnKeys
