-- Written by xprint.py (this claim's own program, over the kit's printer); Lean checks it.
import Derived.Test.YtabinbmcfeknjaaPFnExactUndoRunx0
import Derived.Test.YtabinbmcfeknjaaPFnExactUndoRunx1
import Derived.Test.YtabinbmcfeknjaaPFnExactUndoRunx2
namespace Go.Proofs.Ytabinbmcfeknjaa.PFnExactUndoRun
open Go.RowKit Go.Proofs.YtabinbmcfeknjaaW.PrintWords Go.Proofs.YtabinbmcfeknjaaW.PrintLast Go.Proofs.YtabinbmcfeknjaaW.PrintMore
attribute [local go_sem] max2_int min2_int max_two min_two max_three min_three max_four min_four   -- for this text's walks alone
set_option linter.unusedVariables false
set_option linter.unusedSimpArgs false   -- squeezed

/-! ### spec_BufReplace: function 45 -/
@[reducible] def b45_0 : Array Bool := (br true [0, 15]).toArray
@[reducible] def b45_1 : Array Bool := (br true [1, 14]).toArray
@[reducible] def b45_2 : Array Bool := (br true [1, 1, 1, 12]).toArray
@[reducible] def b45_3 : Array Bool := (br true [1, 1, 2, 11]).toArray
@[reducible] def b45_4 : Array Bool := (br true [1, 1, 3, 10]).toArray
@[reducible] def b45_5 : Array Bool := (br true [1, 1, 3, 1, 1, 8]).toArray
@[reducible] def b45_6 : Array Bool := (br true [1, 1, 3, 1, 1, 1, 1, 6]).toArray
@[reducible] def b45_7 : Array Bool := (br true [1, 1, 3, 1, 1, 1, 2, 5]).toArray
@[reducible] def b45_8 : Array Bool := (br true [1, 1, 3, 1, 1, 1, 3, 4]).toArray
@[reducible] def b45_9 : Array Bool := (br true [5, 1, 1, 1, 3, 4]).toArray
@[reducible] def b45_10 : Array Bool := (br true [5, 1, 5, 4]).toArray
@[reducible] def b45_11 : Array Bool := (br true [14, 1]).toArray
@[reducible] def b45_12 : Array Bool := (br true [11, 4]).toArray
@[reducible] def b45_13 : Array Bool := (br true [5, 1, 5, 2, 1, 1]).toArray
@[reducible] def b45_14 : Array Bool := (br true [12, 3]).toArray
@[reducible] def b45_15 : Array Bool := (br true [11, 2, 1, 1]).toArray
@[reducible] def b45_16 : Array Bool := (br true [13, 2]).toArray
@[reducible] def b45_17 : Array Bool := (br true [12, 1, 1, 1]).toArray
@[reducible] def b45_18 : Array Bool := (br true [15]).toArray
@[reducible] def b45_19 : Array Bool := (br true [0, 14]).toArray
@[reducible] def b45_20 : Array Bool := (br true [1, 13]).toArray
@[reducible] def b45_21 : Array Bool := (br true [1, 1, 1, 11]).toArray
@[reducible] def b45_22 : Array Bool := (br true [1, 1, 1, 2, 1, 8]).toArray
@[reducible] def b45_23 : Array Bool := (br true [1, 1, 1, 2, 1, 1, 1, 6]).toArray
@[reducible] def b45_24 : Array Bool := (br true [1, 1, 1, 2, 1, 1, 1, 1, 1, 4]).toArray
@[reducible] def b45_25 : Array Bool := (br true [3, 2, 1, 1, 1, 1, 1, 4]).toArray
@[reducible] def b45_26 : Array Bool := (br true [4, 1, 1, 1, 1, 1, 1, 4]).toArray
@[reducible] def b45_27 : Array Bool := (br true [4, 1, 1, 1, 3, 4]).toArray
@[reducible] def b45_28 : Array Bool := (br true [4, 1, 1, 1, 4, 3]).toArray
@[reducible] def b45_29 : Array Bool := (br true [6, 1, 4, 3]).toArray
@[reducible] def b45_30 : Array Bool := (br true [11, 3]).toArray
@[reducible] def b45_31 : Array Bool := (br true [12, 2]).toArray
@[reducible] def b45_32 : Array Bool := (br true [13, 1]).toArray
@[reducible] def b45_33 : Array Bool := (br true [14]).toArray
@[reducible] def b45_34 : Array Bool := (br true [0, 9]).toArray
@[reducible] def b45_35 : Array Bool := (br true [0, 1, 1, 7]).toArray
@[reducible] def b45_36 : Array Bool := (br true [0, 1, 1, 1, 1, 5]).toArray
@[reducible] def b45_37 : Array Bool := (br true [0, 1, 1, 1, 2, 4]).toArray
@[reducible] def b45_38 : Array Bool := (br true [2, 1, 2, 4]).toArray
@[reducible] def b45_39 : Array Bool := (br true [5, 4]).toArray
@[reducible] def b45_40 : Array Bool := (br true [6, 3]).toArray
@[reducible] def b45_41 : Array Bool := (br true [7, 2]).toArray
@[reducible] def b45_42 : Array Bool := (br true [8, 1]).toArray
@[reducible] def b45_43 : Array Bool := (br true [9]).toArray
mutual
def spec_BufReplace.j0 : Nat → Int → Int → List Int → Bool → List Int → Int → Int → Option (List Int × Int × Int × List Int × Int)
 | 0, _, _, _, _, _, _, _ => none
 | k + 1, x1, x2, x3, x24, x153000, x153001, x153002 => if x24 = true then (some (([] : List Int), 0, 0, ([] : List Int), 1)) else (if x1 < 0 then (spec_BufReplace.j1 k x1 x2 x3 (x153000.length : Int) true x153000 x153001 x153002) else (if x1 > x2 then (spec_BufReplace.j1 k x1 x2 x3 (x153000.length : Int) true x153000 x153001 x153002) else (spec_BufReplace.j1 k x1 x2 x3 (x153000.length : Int) (decide (x2 > (x153000.length : Int))) x153000 x153001 x153002)))
def spec_BufReplace.j1 : Nat → Int → Int → List Int → Int → Bool → List Int → Int → Int → Option (List Int × Int × Int × List Int × Int)
 | 0, _, _, _, _, _, _, _, _ => none
 | k + 1, x1, x2, x3, x9, x40, x153000, x153001, x153002 => if x40 = true then (some (([] : List Int), 0, 0, ([] : List Int), 8)) else (if (wrap64 ((wrap64 (x9 - (wrap64 (x2 - x1)))) + (x3.length : Int))) > 300 then (some (([] : List Int), 0, 0, ([] : List Int), 5)) else ((spec_l02Moved.f x153001 x1 x2 (wrap64 ((x3.length : Int) - (wrap64 (x2 - x1))))).bind fun t156 => ((spec_l02Moved.f x153002 x1 x2 (wrap64 ((x3.length : Int) - (wrap64 (x2 - x1))))).bind fun t157 => (if 0 ≤ x1 then (if x1 ≤ (x153000.length : Int) then ((spec_l01Copy.f (x153000.take (x1 : Int).toNat)).bind fun t160 => (if t160.length + x3.length < 17592186044416 then ((some (t160 ++ x3 : List Int)).bind fun y163 => (if 0 ≤ x2 then (if x2 ≤ (x153000.length : Int) then (if y163.length + (x153000.drop (x2 : Int).toNat).length < 17592186044416 then ((some (y163 ++ (x153000.drop (x2 : Int).toNat) : List Int)).bind fun y167 => (if x1 = x2 then (if x153001 = x1 then (spec_BufReplace.j2 k x1 x2 x153000 x153001 x153002 y167 (wrap64 (x1 + (x3.length : Int))) t157) else (spec_BufReplace.j2 k x1 x2 x153000 x153001 x153002 y167 t156 t157)) else (if x1 ≤ x2 then ((spec_l01Copy.f ((x153000.take (x2 : Int).toNat).drop (x1 : Int).toNat)).bind fun t175 => (some (y167, t156, t157, t175, 0))) else (none)))) else (none)) else (none)) else (none))) else (none))) else (none)) else (none)))))
def spec_BufReplace.j2 : Nat → Int → Int → List Int → Int → Int → List Int → Int → Int → Option (List Int × Int × Int × List Int × Int)
 | 0, _, _, _, _, _, _, _, _ => none
 | k + 1, x1, x2, x153000, x153001, x153002, x159000, x159001, x159002 => if 0 ≤ x1 then (if x1 ≤ x2 then (if x2 ≤ (x153000.length : Int) then ((spec_l01Copy.f ((x153000.take (x2 : Int).toNat).drop (x1 : Int).toNat)).bind fun t171 => (some (x159000, x159001, x159002, t171, 0))) else (none)) else (none)) else (none)
end
def spec_BufReplace.f (k : Nat) (l0_0 : List Int) (a0_1 : Int) (a0_2 : Int) (a1 : Int) (a2 : Int) (l3 : List Int) : Option (List Int × Int × Int × List Int × Int) := if (l3.length : Int) > 400 then (some (([] : List Int), 0, 0, ([] : List Int), 2)) else ((spec_BufRight.f k l0_0 a0_1 a0_2).bind fun t154 => (if t154 = true then ((spec_PointsRight.f k l3).bind fun t155 => (spec_BufReplace.j0 k a1 a2 l3 (!t155) l0_0 a0_1 a0_2)) else (spec_BufReplace.j0 k a1 a2 l3 true l0_0 a0_1 a0_2)))
def spec_BufReplace.T12 : Bool × List (List Nat × List Nat) := (true, [([], []), ([0], [0]), ([], []), ([], []), ([], []), ([1, 2, 3, 4], [1, 2, 3, 4]), ([], []), ([6], [6]), ([], []), ([], []), ([], []), ([7, 8, 9, 10, 5], [7, 8, 9, 10]), ([5, 11], [5, 11]), ([], []), ([13, 12, 11, 0, 1, 2, 3, 4, 5, 6, 7, 8, 9, 10, 11, 12, 13], [12, 13])])
def spec_BufReplace.B12 : List Nat := [0, 1, 0, 0, 0, 31, 0, 64, 0, 0, 0, 2047, 4095, 0, 16383]
theorem spec_BufReplace.tab12 : rtab .any (opsOf Try.f45 12) = spec_BufReplace.T12 := by kernel_rfl
theorem spec_BufReplace.bits12 : waitsOk spec_BufReplace.T12.2 spec_BufReplace.B12 = true := by kernel_rfl
def spec_BufReplace.T13 : Bool × List (List Nat × List Nat) := (true, [([], []), ([0], [0]), ([], []), ([1, 2], [1, 2]), ([3], [3]), ([], []), ([4, 5, 4], [4, 5]), ([], []), ([7], [7]), ([], []), ([8, 9], [8, 9]), ([6, 10, 6], [6, 10]), ([0, 1, 2, 3, 4, 5, 6, 7, 8, 9, 10, 11], []), ([12, 11, 11, 0, 1, 2, 3, 4, 5, 6, 7, 8, 9, 10, 11], [11, 12])])
def spec_BufReplace.B13 : List Nat := [0, 1, 0, 7, 15, 0, 63, 0, 128, 0, 896, 2047, 4095, 8191]
theorem spec_BufReplace.tab13 : rtab .any (opsOf Try.f45 13) = spec_BufReplace.T13 := by kernel_rfl
theorem spec_BufReplace.bits13 : waitsOk spec_BufReplace.T13.2 spec_BufReplace.B13 = true := by kernel_rfl
def spec_BufReplace.T16 : Bool × List (List Nat × List Nat) := (true, [([], []), ([], []), ([1], [1]), ([], []), ([], []), ([2, 3, 4], [2, 3, 4]), ([5], [5]), ([0, 6], [0, 6]), ([7, 6, 0, 1, 2, 3, 4, 5, 6, 7], [7])])
def spec_BufReplace.B16 : List Nat := [0, 0, 2, 0, 0, 30, 62, 127, 255]
theorem spec_BufReplace.tab16 : rtab .any (opsOf Try.f45 16) = spec_BufReplace.T16 := by kernel_rfl
theorem spec_BufReplace.bits16 : waitsOk spec_BufReplace.T16.2 spec_BufReplace.B16 = true := by kernel_rfl
set_option maxHeartbeats 8000000 in
set_option maxRecDepth 100000 in
theorem spec_BufReplace.calls (k : Nat) (A0_0 : Option Addr) (c0_0 : Nat) (l0_0 : List Int) (a0_1 : Int) (a0_2 : Int) (a1 : Int) (a2 : Int) (A3 : Option Addr) (c3 : Nat) (l3 : List Int) (r1 : List Int) (r2 : Int) (r3 : Int) (r4 : List Int) (r5 : Int) (w : World) (hr0_0 : Kd.C (Kd.int .i64) w A0_0 l0_0.length l0_0) (hc0_0 : l0_0.length ≤ c0_0) (hr3 : Kd.C (Kd.int .i64) w A3 l3.length l3) (hc3 : l3.length ≤ c3) (h : spec_BufReplace.f k l0_0 a0_1 a0_2 a1 a2 l3 = some (r1, r2, r3, r4, r5)) :
  Calls Try.prog 45 #[.agg #[.slice A0_0 l0_0.length c0_0, .int .i64 a0_1, .int .i64 a0_2], .int .i64 a1, .int .i64 a2, .slice A3 l3.length c3] w fun e w' => ∃ v0_ v3_ : Value, e = .returned (.agg #[v0_, .int .i64 r2, .int .i64 r3, v3_, .int .i64 r5]) ∧ Kd.R (Kd.int .i64) 2 w' w.heap.size (fun k_ => some k_ ≠ (v3_ : Value).ownBlock) v0_ r1 ∧ Kd.R (Kd.int .i64) 2 w' w.heap.size (fun k_ => some k_ ≠ (v0_ : Value).ownBlock) v3_ r4 ∧ Below w.heap.size w w' := by
 have hu31 := Try.underlying31
 have hu49 := Try.underlying49
 have HR0_0 := am hr0_0
 have HC0_0 := am hc0_0
 clear hr0_0 hc0_0
 have HR3 := am hr3
 have HC3 := am hc3
 clear hr3 hc3
 have HB := am (Below.refl w.heap.size w)
 have H : (if (l3.length : Int) > 400 then (some (([] : List Int), 0, 0, ([] : List Int), 2)) else ((spec_BufRight.f k l0_0 a0_1 a0_2).bind fun t154 => (if t154 = true then ((spec_PointsRight.f k l3).bind fun t155 => (spec_BufReplace.j0 k a1 a2 l3 (!t155) l0_0 a0_1 a0_2)) else (spec_BufReplace.j0 k a1 a2 l3 true l0_0 a0_1 a0_2)))) = some (r1, r2, r3, r4, r5) := h
 clear h
 by_cases c5 : (l3.length : Int) > 400
 ·rw [if_pos c5] at H
  have c5b0 : decide (400 < (l3.length : Int)) = true := decide_eq_true c5
  have c5b1 : decide (400 < l3.length) = true := decide_eq_true (by omega)
  clear c5
  simp only [Option.some.injEq, Prod.mk.injEq] at H
  obtain ⟨rfl, rfl, rfl, rfl, rfl⟩ := H
  go_enter Try.func45, Try.ntmps45
  go_wp2_with (first | ((with_reducible refine gate_dst (N := 4) rfl ?_); refine box_event ?hg (N := 4) ?hd (cs := #[.slice A0_0 l0_0.length c0_0, .int .i64 a0_1, .int .i64 a0_2]) (t := 31) ?hr ?_; (case hd => rfl); (case hg => rfl); (case hr => first | (go_simp; done) | (go_simp; rfl)); intro gb152 hg w6 hbox hb; have BK152 := am (hbox); have GW152 := am ((by rw [hg]; exact (below_size (bl HB.out)) : w.heap.size ≤ gb152)); have GE152 := GW152; replace HB := am (below_step (bl HB.out) hb); clear hb hbox hg) | ((with_reducible refine gate_dst (N := 8) rfl ?_); refine box_event ?hg (N := 8) ?hd (cs := #[.slice none 0 0, .int .i64 0, .int .i64 0, .slice none 0 0, .int .i64 0]) (t := 49) ?hr ?_; (case hd => rfl); (case hg => rfl); (case hr => first | (go_simp; done) | (go_simp; rfl)); intro gb153 hg w7 hbox hb; have BK153 := am (hbox); have GW153 := am ((by rw [hg]; exact (below_size (bl HB.out)) : w.heap.size ≤ gb153)); have GE153 := GW153; replace HB := am (below_step (bl HB.out) hb); have NB152_153 := am ((by rw [hg]; exact Nat.ne_of_lt (blk_lt (pk BK152.out)) : gb152 ≠ gb153)); have NB153_152 := am ((by rw [hg]; exact Nat.ne_of_gt (blk_lt (pk BK152.out)) : gb153 ≠ gb152)); replace BK152 := am (blk_below (pk BK152.out) hb); clear hb hbox hg; have hnb8 := NB153_152.out; have hnc8 := NB152_153.out; have hcz9_0 : w7.cell? ⟨gb153, 0, none⟩ = some (.slice none 0 0) := bc BK153.out 0; have hcz9_1 : w7.cell? ⟨gb153, 1, none⟩ = some (.int .i64 0) := bc BK153.out 1; have hcz9_2 : w7.cell? ⟨gb153, 2, none⟩ = some (.int .i64 0) := bc BK153.out 2; have hcz9_3 : w7.cell? ⟨gb153, 3, none⟩ = some (.slice none 0 0) := bc BK153.out 3; have hcz9_4 : w7.cell? ⟨gb153, 4, none⟩ = some (.int .i64 0) := bc BK153.out 4; have hfz9_0 := blk_frozen BK153.out 0; have hfz9_1 := blk_frozen BK153.out 1; have hfz9_2 := blk_frozen BK153.out 2; have hfz9_3 := blk_frozen BK153.out 3; have hfz9_4 := blk_frozen BK153.out 4))
  refine bodyPost_ret (results_cell_row rfl _ _ gb153 49 #[.slice none 0 0, .int .i64 0, .int .i64 0, .slice none 0 0, .int .i64 2] (0, 0) _ rfl (by refine pk ?_; refine blk_put (cs := #[.slice none 0 0, .int .i64 0, .int .i64 0, .slice none 0 0, .int .i64 0]) ?_ 4 _ rfl; refine pk ?_; refine blk_put (cs := #[.slice none 0 0, .int .i64 0, .int .i64 0, .slice none 0 0, .int .i64 0]) ?_ 3 _ rfl; refine pk ?_; refine blk_put (cs := #[.slice none 0 0, .int .i64 0, .int .i64 0, .slice none 0 0, .int .i64 0]) ?_ 2 _ rfl; refine pk ?_; refine blk_put (cs := #[.slice none 0 0, .int .i64 0, .int .i64 0, .slice none 0 0, .int .i64 0]) ?_ 1 _ rfl; refine pk ?_; refine blk_put (cs := #[.slice none 0 0, .int .i64 0, .int .i64 0, .slice none 0 0, .int .i64 0]) ?_ 0 _ rfl; refine pk ?_; exact BK153.out) Try.underlying49 rfl (by kernel_rfl)) rfl ?_
  exact ⟨_, _, by first | rfl | (simp [errW_none, errW_some] <;> rfl) | (simp [*, errW_none, errW_some] <;> rfl), by first | exact Kd.R_nil _ _ _ _ _ | exact Kd.N_nil _ _ _ _ _ | exact Kd.V_nil _ _ _ _ _ | exact Kd.Q_nil _ _ _ _ _ | exact Kd.S_nil _ _ _ _ _, by first | exact Kd.R_nil _ _ _ _ _ | exact Kd.N_nil _ _ _ _ _ | exact Kd.V_nil _ _ _ _ _ | exact Kd.Q_nil _ _ _ _ _ | exact Kd.S_nil _ _ _ _ _, by repeat (first | (with_reducible first | exact HB.out | apply below_alloc | apply pw_below_drewN | apply below_drew1 | refine below_set ?_ GE152.out | refine below_set ?_ GE153.out) | exact HB.out)⟩
 ·rw [if_neg c5] at H
  have c5b0 : decide (400 < (l3.length : Int)) = false := decide_eq_false c5
  have c5b1 : decide (400 < l3.length) = false := decide_eq_false (by omega)
  clear c5
  have HC10 := Aside0.mk H
  clear H
  go_enter Try.func45, Try.ntmps45
  go_upto_region 3 with (first | ((with_reducible refine gate_dst (N := 4) rfl ?_); refine box_event ?hg (N := 4) ?hd (cs := #[.slice A0_0 l0_0.length c0_0, .int .i64 a0_1, .int .i64 a0_2]) (t := 31) ?hr ?_; (case hd => rfl); (case hg => rfl); (case hr => first | (go_simp; done) | (go_simp; rfl)); intro gb152 hg w11 hbox hb; have BK152 := am (hbox); have GW152 := am ((by rw [hg]; exact (below_size (bl HB.out)) : w.heap.size ≤ gb152)); have GE152 := GW152; replace HB := am (below_step (bl HB.out) hb); clear hb hbox hg) | ((with_reducible refine gate_dst (N := 8) rfl ?_); refine box_event ?hg (N := 8) ?hd (cs := #[.slice none 0 0, .int .i64 0, .int .i64 0, .slice none 0 0, .int .i64 0]) (t := 49) ?hr ?_; (case hd => rfl); (case hg => rfl); (case hr => first | (go_simp; done) | (go_simp; rfl)); intro gb153 hg w12 hbox hb; have BK153 := am (hbox); have GW153 := am ((by rw [hg]; exact (below_size (bl HB.out)) : w.heap.size ≤ gb153)); have GE153 := GW153; replace HB := am (below_step (bl HB.out) hb); have NB152_153 := am ((by rw [hg]; exact Nat.ne_of_lt (blk_lt (pk BK152.out)) : gb152 ≠ gb153)); have NB153_152 := am ((by rw [hg]; exact Nat.ne_of_gt (blk_lt (pk BK152.out)) : gb153 ≠ gb152)); replace BK152 := am (blk_below (pk BK152.out) hb); clear hb hbox hg))
  (try simp only [Act.put, sa_, s0_, ss_])
  go_cut [24] (fun v24 wc => ∃ (kq : Nat) (x24_9 : Bool), v24 = .bool x24_9 ∧ Aside0 (spec_BufReplace.j0 kq a1 a2 l3 x24_9 l0_0 a0_1 a0_2 = some (r1, r2, r3, r4, r5)) ∧ Aside0 (kq ≤ k) ∧ Aside0 (wc.heap[gb152]? = some (.cells #[(.slice A0_0 l0_0.length c0_0), .int .i64 a0_1, .int .i64 a0_2] 31 (0, 0))) ∧ Aside0 (wc.heap[gb153]? = some (.cells #[(.slice none 0 0), .int .i64 0, .int .i64 0, (.slice none 0 0), .int .i64 0] 49 (0, 0))) ∧ Aside0 (Below w.heap.size w wc))
  case first =>
   have H := HC10.out
   clear HC10
   replace H := Option.bind_eq_some_iff.mp H
   obtain ⟨t154, A130, H⟩ := H
   replace H : (if t154 = true then ((spec_PointsRight.f k l3).bind fun t155 => (spec_BufReplace.j0 k a1 a2 l3 (!t155) l0_0 a0_1 a0_2)) else (spec_BufReplace.j0 k a1 a2 l3 true l0_0 a0_1 a0_2)) = some (r1, r2, r3, r4, r5) := H
   have A13 := Aside0.mk A130
   clear A130
   by_cases c14 : t154 = true
   ·subst c14
    have H1 : ((spec_PointsRight.f k l3).bind fun t155 => (spec_BufReplace.j0 k a1 a2 l3 (!t155) l0_0 a0_1 a0_2)) = some (r1, r2, r3, r4, r5) := by rw [if_pos rfl] at H; exact H
    clear H
    have H := H1
    clear H1
    replace H := Option.bind_eq_some_iff.mp H
    obtain ⟨t155, A150, H⟩ := H
    replace H : (spec_BufReplace.j0 k a1 a2 l3 (!t155) l0_0 a0_1 a0_2) = some (r1, r2, r3, r4, r5) := H
    have A15 := Aside0.mk A150
    clear A150
    have H' := Aside0.mk H
    clear H
    have hnb16 := NB152_153.out
    have hnc16 := NB153_152.out
    have hcz17_0 : w12.cell? ⟨gb152, 0, none⟩ = some (.slice A0_0 l0_0.length c0_0) := bc BK152.out 0
    have hcz17_1 : w12.cell? ⟨gb152, 1, none⟩ = some (.int .i64 a0_1) := bc BK152.out 1
    have hcz17_2 : w12.cell? ⟨gb152, 2, none⟩ = some (.int .i64 a0_2) := bc BK152.out 2
    have hfz17_0 := blk_frozen BK152.out 0
    have hfz17_1 := blk_frozen BK152.out 1
    have hfz17_2 := blk_frozen BK152.out 2
    go_wp2_with (first | ((with_reducible refine gate_callee (f := 18) rfl ?_); refine gl (some 18) Try.func18 #[.agg #[.slice A0_0 l0_0.length c0_0, .int .i64 a0_1, .int .i64 a0_2]] ?_; (with_reducible refine (spec_BufRight.calls k _ _ l0_0 a0_1 a0_2 true _ ?side1 ?side2 A13.out).mono ?_); (case side1 => repeat (first | exact (Kd.C_below HR0_0.out HB.out) | (with_reducible refine Kd.C_alloc ?_ _) | (with_reducible refine Kd.C_drewN ?_ _) | (with_reducible refine Kd.C_drew ?_))); (case side2 => exact HC0_0.out); rintro e w18 ⟨rfl, hb⟩; refine ⟨_, rfl, ?_⟩; replace BK152 := am (blk_below (pk BK152.out) hb); replace BK153 := am (blk_below (pk BK153.out) hb); replace HB := am (below_step (bl HB.out) hb); (try clear hb); (try clear hb2); (try clear hk); (try clear hi)) | (go_at_call 19; (with_reducible refine (spec_PointsRight.calls k _ _ l3 t155 _ ?side1 ?side2 A15.out).mono ?_); (case side1 => repeat (first | exact (Kd.C_below HR3.out HB.out) | (with_reducible refine Kd.C_alloc ?_ _) | (with_reducible refine Kd.C_drewN ?_ _) | (with_reducible refine Kd.C_drew ?_))); (case side2 => exact HC3.out); rintro e w' ⟨rfl, ⟨nd, rfl⟩⟩))
    go_meet
    case rel => exact ⟨_, (!t155), (by first | rfl | (simp; done) | (simp [*]; done)), H', ⟨by first | omega | exact Nat.le_refl _⟩, ⟨pk BK152.out⟩, ⟨pk BK153.out⟩, ⟨by repeat (first | (with_reducible first | exact HB.out | apply below_alloc | apply pw_below_drewN | apply below_drew1 | refine below_set ?_ GE152.out | refine below_set ?_ GE153.out) | exact HB.out)⟩⟩
   ·replace c14 := Bool.eq_false_iff.mpr c14
    subst c14
    have H1 : (spec_BufReplace.j0 k a1 a2 l3 true l0_0 a0_1 a0_2) = some (r1, r2, r3, r4, r5) := by rw [if_neg (show ¬ (false = true) by decide)] at H; exact H
    clear H
    have H := H1
    clear H1
    have H' := Aside0.mk H
    clear H
    have hnb19 := NB152_153.out
    have hnc19 := NB153_152.out
    have hcz20_0 : w12.cell? ⟨gb152, 0, none⟩ = some (.slice A0_0 l0_0.length c0_0) := bc BK152.out 0
    have hcz20_1 : w12.cell? ⟨gb152, 1, none⟩ = some (.int .i64 a0_1) := bc BK152.out 1
    have hcz20_2 : w12.cell? ⟨gb152, 2, none⟩ = some (.int .i64 a0_2) := bc BK152.out 2
    have hfz20_0 := blk_frozen BK152.out 0
    have hfz20_1 := blk_frozen BK152.out 1
    have hfz20_2 := blk_frozen BK152.out 2
    go_wp2_with (first | ((with_reducible refine gate_callee (f := 18) rfl ?_); refine gl (some 18) Try.func18 #[.agg #[.slice A0_0 l0_0.length c0_0, .int .i64 a0_1, .int .i64 a0_2]] ?_; (with_reducible refine (spec_BufRight.calls k _ _ l0_0 a0_1 a0_2 false _ ?side1 ?side2 A13.out).mono ?_); (case side1 => repeat (first | exact (Kd.C_below HR0_0.out HB.out) | (with_reducible refine Kd.C_alloc ?_ _) | (with_reducible refine Kd.C_drewN ?_ _) | (with_reducible refine Kd.C_drew ?_))); (case side2 => exact HC0_0.out); rintro e w21 ⟨rfl, hb⟩; refine ⟨_, rfl, ?_⟩; replace BK152 := am (blk_below (pk BK152.out) hb); replace BK153 := am (blk_below (pk BK153.out) hb); replace HB := am (below_step (bl HB.out) hb); (try clear hb); (try clear hb2); (try clear hk); (try clear hi)))
    go_meet
    case rel => exact ⟨_, (true), (by first | rfl | (simp; done) | (simp [*]; done)), H', ⟨by first | omega | exact Nat.le_refl _⟩, ⟨pk BK152.out⟩, ⟨pk BK153.out⟩, ⟨by repeat (first | (with_reducible first | exact HB.out | apply below_alloc | apply pw_below_drewN | apply below_drew1 | refine below_set ?_ GE152.out | refine below_set ?_ GE153.out) | exact HB.out)⟩⟩
  case rest =>
   clear HC10
   try clear c1
   try clear p2
   try clear c3
   try clear c4
   try clear c5
   try clear c5b0
   try clear c5b1
   try clear c8
   try clear c14
   try clear c16
   try clear c18
   try clear c19
   try clear hcz17_0
   try clear hcz17_1
   try clear hcz17_2
   try clear hcz20_0
   try clear hcz20_1
   try clear hcz20_2
   try clear hcz9_0
   try clear hcz9_1
   try clear hcz9_2
   try clear hcz9_3
   try clear hcz9_4
   try clear hfz17_0
   try clear hfz17_1
   try clear hfz17_2
   try clear hfz20_0
   try clear hfz20_1
   try clear hfz20_2
   try clear hfz9_0
   try clear hfz9_1
   try clear hfz9_2
   try clear hfz9_3
   try clear hfz9_4
   obtain ⟨kq, x24_9, rfl, HA, HJ9, BK152, BK153, HB⟩ := hcut
   cases kq with
   | zero => exact absurd HA.out (by simp [spec_BufReplace.j0])
   | succ kj9 =>
    have H := HA.out
    clear HA
    simp only [spec_BufReplace.j0] at H
    by_cases c22 : x24_9 = true
    ·subst c22
     have H1 : (some (([] : List Int), 0, 0, ([] : List Int), 1)) = some (r1, r2, r3, r4, r5) := by rw [if_pos rfl] at H; exact H
     clear H
     have H := H1
     clear H1
     simp only [Option.some.injEq, Prod.mk.injEq] at H
     obtain ⟨rfl, rfl, rfl, rfl, rfl⟩ := H
     have hnb23 := NB153_152.out
     have hnc23 := NB152_153.out
     have hcz24_0 : wc.cell? ⟨gb153, 0, none⟩ = some (.slice none 0 0) := bc BK153.out 0
     have hcz24_1 : wc.cell? ⟨gb153, 1, none⟩ = some (.int .i64 0) := bc BK153.out 1
     have hcz24_2 : wc.cell? ⟨gb153, 2, none⟩ = some (.int .i64 0) := bc BK153.out 2
     have hcz24_3 : wc.cell? ⟨gb153, 3, none⟩ = some (.slice none 0 0) := bc BK153.out 3
     have hcz24_4 : wc.cell? ⟨gb153, 4, none⟩ = some (.int .i64 0) := bc BK153.out 4
     have hfz24_0 := blk_frozen BK153.out 0
     have hfz24_1 := blk_frozen BK153.out 1
     have hfz24_2 := blk_frozen BK153.out 2
     have hfz24_3 := blk_frozen BK153.out 3
     have hfz24_4 := blk_frozen BK153.out 4
     go_wp2
     refine bodyPost_ret (results_cell_row rfl _ _ gb153 49 #[.slice none 0 0, .int .i64 0, .int .i64 0, .slice none 0 0, .int .i64 1] (0, 0) _ rfl (by refine pk ?_; refine blk_put (cs := #[.slice none 0 0, .int .i64 0, .int .i64 0, .slice none 0 0, .int .i64 0]) ?_ 4 _ rfl; refine pk ?_; refine blk_put (cs := #[.slice none 0 0, .int .i64 0, .int .i64 0, .slice none 0 0, .int .i64 0]) ?_ 3 _ rfl; refine pk ?_; refine blk_put (cs := #[.slice none 0 0, .int .i64 0, .int .i64 0, .slice none 0 0, .int .i64 0]) ?_ 2 _ rfl; refine pk ?_; refine blk_put (cs := #[.slice none 0 0, .int .i64 0, .int .i64 0, .slice none 0 0, .int .i64 0]) ?_ 1 _ rfl; refine pk ?_; refine blk_put (cs := #[.slice none 0 0, .int .i64 0, .int .i64 0, .slice none 0 0, .int .i64 0]) ?_ 0 _ rfl; refine pk ?_; exact BK153.out) Try.underlying49 rfl (by kernel_rfl)) rfl ?_
     exact ⟨_, _, by first | rfl | (simp [errW_none, errW_some] <;> rfl) | (simp [*, errW_none, errW_some] <;> rfl), by first | exact Kd.R_nil _ _ _ _ _ | exact Kd.N_nil _ _ _ _ _ | exact Kd.V_nil _ _ _ _ _ | exact Kd.Q_nil _ _ _ _ _ | exact Kd.S_nil _ _ _ _ _, by first | exact Kd.R_nil _ _ _ _ _ | exact Kd.N_nil _ _ _ _ _ | exact Kd.V_nil _ _ _ _ _ | exact Kd.Q_nil _ _ _ _ _ | exact Kd.S_nil _ _ _ _ _, by repeat (first | (with_reducible first | exact HB.out | apply below_alloc | apply pw_below_drewN | apply below_drew1 | refine below_set ?_ GE152.out | refine below_set ?_ GE153.out) | exact HB.out)⟩
    ·replace c22 := Bool.eq_false_iff.mpr c22
     subst c22
     have H1 : (if a1 < 0 then (spec_BufReplace.j1 kj9 a1 a2 l3 (l0_0.length : Int) true l0_0 a0_1 a0_2) else (if a1 > a2 then (spec_BufReplace.j1 kj9 a1 a2 l3 (l0_0.length : Int) true l0_0 a0_1 a0_2) else (spec_BufReplace.j1 kj9 a1 a2 l3 (l0_0.length : Int) (decide (a2 > (l0_0.length : Int))) l0_0 a0_1 a0_2))) = some (r1, r2, r3, r4, r5) := by rw [if_neg (show ¬ (false = true) by decide)] at H; exact H
     clear H
     have H := H1
     clear H1
     have HC25 := Aside0.mk H
     clear H
     have hnb26 := NB152_153.out
     have hnc26 := NB153_152.out
     have hcz27_0 : wc.cell? ⟨gb152, 0, none⟩ = some (.slice A0_0 l0_0.length c0_0) := bc BK152.out 0
     have hcz27_1 : wc.cell? ⟨gb152, 1, none⟩ = some (.int .i64 a0_1) := bc BK152.out 1
     have hcz27_2 : wc.cell? ⟨gb152, 2, none⟩ = some (.int .i64 a0_2) := bc BK152.out 2
     have hfz27_0 := blk_frozen BK152.out 0
     have hfz27_1 := blk_frozen BK152.out 1
     have hfz27_2 := blk_frozen BK152.out 2
     go_upto_region 6 with (fail)
     go_cut [40] (fun v40 wc => ∃ (kq : Nat) (x40_24 : Bool), v40 = .bool x40_24 ∧ Aside0 (spec_BufReplace.j1 kq a1 a2 l3 (l0_0.length : Int) x40_24 l0_0 a0_1 a0_2 = some (r1, r2, r3, r4, r5)) ∧ Aside0 (kq ≤ kj9) ∧ Aside0 (wc.heap[gb152]? = some (.cells #[(.slice A0_0 l0_0.length c0_0), .int .i64 a0_1, .int .i64 a0_2] 31 (0, 0))) ∧ Aside0 (wc.heap[gb153]? = some (.cells #[(.slice none 0 0), .int .i64 0, .int .i64 0, (.slice none 0 0), .int .i64 0] 49 (0, 0))) ∧ Aside0 (Below w.heap.size w wc))
     case first =>
      have H := HC25.out
      clear HC25
      by_cases c28 : a1 < 0
      ·rw [if_pos c28] at H
       have c28b0 : decide (a1 < 0) = true := decide_eq_true c28
       clear c28
       (first | rw [c28b0] | (simp only [i64_w, i32_w]; rw [c28b0]) | (have e9_ := c28b0; unfold bne at e9_; rw [e9_]) | skip)
       have H' := Aside0.mk H
       clear H
       go_wp2
       go_meet
       case rel => exact ⟨_, (true), (by first | rfl | (simp; done) | (simp [*]; done)), H', ⟨by have := HJ9.out; first | omega | exact Nat.le_refl _⟩, ⟨pk BK152.out⟩, ⟨pk BK153.out⟩, ⟨by repeat (first | (with_reducible first | exact HB.out | apply below_alloc | apply pw_below_drewN | apply below_drew1 | refine below_set ?_ GE152.out | refine below_set ?_ GE153.out) | exact HB.out)⟩⟩
      ·rw [if_neg c28] at H
       have c28b0 : decide (a1 < 0) = false := decide_eq_false c28
       clear c28
       (first | rw [c28b0] | (simp only [i64_w, i32_w]; rw [c28b0]) | (have e9_ := c28b0; unfold bne at e9_; rw [e9_]) | skip)
       by_cases c29 : a1 > a2
       ·rw [if_pos c29] at H
        have c29b0 : decide (a2 < a1) = true := decide_eq_true c29
        clear c29
        have H' := Aside0.mk H
        clear H
        go_wp2
        go_meet
        case rel => exact ⟨_, (true), (by first | rfl | (simp; done) | (simp [*]; done)), H', ⟨by have := HJ9.out; first | omega | exact Nat.le_refl _⟩, ⟨pk BK152.out⟩, ⟨pk BK153.out⟩, ⟨by repeat (first | (with_reducible first | exact HB.out | apply below_alloc | apply pw_below_drewN | apply below_drew1 | refine below_set ?_ GE152.out | refine below_set ?_ GE153.out) | exact HB.out)⟩⟩
       ·rw [if_neg c29] at H
        have c29b0 : decide (a2 < a1) = false := decide_eq_false c29
        clear c29
        have H' := Aside0.mk H
        clear H
        go_wp2
        go_meet
        case rel => exact ⟨_, (decide (a2 > (l0_0.length : Int))), (by first | rfl | (simp; done) | (simp [*]; done)), H', ⟨by have := HJ9.out; first | omega | exact Nat.le_refl _⟩, ⟨pk BK152.out⟩, ⟨pk BK153.out⟩, ⟨by repeat (first | (with_reducible first | exact HB.out | apply below_alloc | apply pw_below_drewN | apply below_drew1 | refine below_set ?_ GE152.out | refine below_set ?_ GE153.out) | exact HB.out)⟩⟩
     case rest =>
      clear HC25
      try clear c1
      try clear c2
      try clear p2
      try clear c3
      try clear c4
      try clear c5
      try clear c5b0
      try clear c5b1
      try clear c8
      try clear c14
      try clear c16
      try clear c18
      try clear c19
      try clear c22
      try clear c23
      try clear c26
      try clear c28
      try clear c28b0
      try clear c29
      try clear c29b0
      try clear hcz17_0
      try clear hcz17_1
      try clear hcz17_2
      try clear hcz20_0
      try clear hcz20_1
      try clear hcz20_2
      try clear hcz24_0
      try clear hcz24_1
      try clear hcz24_2
      try clear hcz24_3
      try clear hcz24_4
      try clear hcz27_0
      try clear hcz27_1
      try clear hcz27_2
      try clear hcz9_0
      try clear hcz9_1
      try clear hcz9_2
      try clear hcz9_3
      try clear hcz9_4
      try clear hfz17_0
      try clear hfz17_1
      try clear hfz17_2
      try clear hfz20_0
      try clear hfz20_1
      try clear hfz20_2
      try clear hfz24_0
      try clear hfz24_1
      try clear hfz24_2
      try clear hfz24_3
      try clear hfz24_4
      try clear hfz27_0
      try clear hfz27_1
      try clear hfz27_2
      try clear hfz9_0
      try clear hfz9_1
      try clear hfz9_2
      try clear hfz9_3
      try clear hfz9_4
      try clear p2
      obtain ⟨kq, x40_24, rfl, HA, HJ24, BK152, BK153, HB⟩ := hcut
      cases kq with
      | zero => exact absurd HA.out (by simp [spec_BufReplace.j1])
      | succ kj24 =>
       have H := HA.out
       clear HA
       simp only [spec_BufReplace.j1] at H
       by_cases c30 : x40_24 = true
       ·subst c30
        have H1 : (some (([] : List Int), 0, 0, ([] : List Int), 8)) = some (r1, r2, r3, r4, r5) := by rw [if_pos rfl] at H; exact H
        clear H
        have H := H1
        clear H1
        simp only [Option.some.injEq, Prod.mk.injEq] at H
        obtain ⟨rfl, rfl, rfl, rfl, rfl⟩ := H
        have hnb31 := NB153_152.out
        have hnc31 := NB152_153.out
        have hcz32_0 : wc.cell? ⟨gb153, 0, none⟩ = some (.slice none 0 0) := bc BK153.out 0
        have hcz32_1 : wc.cell? ⟨gb153, 1, none⟩ = some (.int .i64 0) := bc BK153.out 1
        have hcz32_2 : wc.cell? ⟨gb153, 2, none⟩ = some (.int .i64 0) := bc BK153.out 2
        have hcz32_3 : wc.cell? ⟨gb153, 3, none⟩ = some (.slice none 0 0) := bc BK153.out 3
        have hcz32_4 : wc.cell? ⟨gb153, 4, none⟩ = some (.int .i64 0) := bc BK153.out 4
        have hfz32_0 := blk_frozen BK153.out 0
        have hfz32_1 := blk_frozen BK153.out 1
        have hfz32_2 := blk_frozen BK153.out 2
        have hfz32_3 := blk_frozen BK153.out 3
        have hfz32_4 := blk_frozen BK153.out 4
        go_wp2
        refine bodyPost_ret (results_cell_row rfl _ _ gb153 49 #[.slice none 0 0, .int .i64 0, .int .i64 0, .slice none 0 0, .int .i64 8] (0, 0) _ rfl (by refine pk ?_; refine blk_put (cs := #[.slice none 0 0, .int .i64 0, .int .i64 0, .slice none 0 0, .int .i64 0]) ?_ 4 _ rfl; refine pk ?_; refine blk_put (cs := #[.slice none 0 0, .int .i64 0, .int .i64 0, .slice none 0 0, .int .i64 0]) ?_ 3 _ rfl; refine pk ?_; refine blk_put (cs := #[.slice none 0 0, .int .i64 0, .int .i64 0, .slice none 0 0, .int .i64 0]) ?_ 2 _ rfl; refine pk ?_; refine blk_put (cs := #[.slice none 0 0, .int .i64 0, .int .i64 0, .slice none 0 0, .int .i64 0]) ?_ 1 _ rfl; refine pk ?_; refine blk_put (cs := #[.slice none 0 0, .int .i64 0, .int .i64 0, .slice none 0 0, .int .i64 0]) ?_ 0 _ rfl; refine pk ?_; exact BK153.out) Try.underlying49 rfl (by kernel_rfl)) rfl ?_
        exact ⟨_, _, by first | rfl | (simp [errW_none, errW_some] <;> rfl) | (simp [*, errW_none, errW_some] <;> rfl), by first | exact Kd.R_nil _ _ _ _ _ | exact Kd.N_nil _ _ _ _ _ | exact Kd.V_nil _ _ _ _ _ | exact Kd.Q_nil _ _ _ _ _ | exact Kd.S_nil _ _ _ _ _, by first | exact Kd.R_nil _ _ _ _ _ | exact Kd.N_nil _ _ _ _ _ | exact Kd.V_nil _ _ _ _ _ | exact Kd.Q_nil _ _ _ _ _ | exact Kd.S_nil _ _ _ _ _, by repeat (first | (with_reducible first | exact HB.out | apply below_alloc | apply pw_below_drewN | apply below_drew1 | refine below_set ?_ GE152.out | refine below_set ?_ GE153.out) | exact HB.out)⟩
       ·replace c30 := Bool.eq_false_iff.mpr c30
        subst c30
        have H1 : (if (wrap64 ((wrap64 ((l0_0.length : Int) - (wrap64 (a2 - a1)))) + (l3.length : Int))) > 300 then (some (([] : List Int), 0, 0, ([] : List Int), 5)) else ((spec_l02Moved.f a0_1 a1 a2 (wrap64 ((l3.length : Int) - (wrap64 (a2 - a1))))).bind fun t156 => ((spec_l02Moved.f a0_2 a1 a2 (wrap64 ((l3.length : Int) - (wrap64 (a2 - a1))))).bind fun t157 => (if 0 ≤ a1 then (if a1 ≤ (l0_0.length : Int) then ((spec_l01Copy.f (l0_0.take (a1 : Int).toNat)).bind fun t160 => (if t160.length + l3.length < 17592186044416 then ((some (t160 ++ l3 : List Int)).bind fun y163 => (if 0 ≤ a2 then (if a2 ≤ (l0_0.length : Int) then (if y163.length + (l0_0.drop (a2 : Int).toNat).length < 17592186044416 then ((some (y163 ++ (l0_0.drop (a2 : Int).toNat) : List Int)).bind fun y167 => (if a1 = a2 then (if a0_1 = a1 then (spec_BufReplace.j2 kj24 a1 a2 l0_0 a0_1 a0_2 y167 (wrap64 (a1 + (l3.length : Int))) t157) else (spec_BufReplace.j2 kj24 a1 a2 l0_0 a0_1 a0_2 y167 t156 t157)) else (if a1 ≤ a2 then ((spec_l01Copy.f ((l0_0.take (a2 : Int).toNat).drop (a1 : Int).toNat)).bind fun t175 => (some (y167, t156, t157, t175, 0))) else (none)))) else (none)) else (none)) else (none))) else (none))) else (none)) else (none))))) = some (r1, r2, r3, r4, r5) := by rw [if_neg (show ¬ (false = true) by decide)] at H; exact H
        clear H
        have H := H1
        clear H1
        by_cases c33 : (wrap64 ((wrap64 ((l0_0.length : Int) - (wrap64 (a2 - a1)))) + (l3.length : Int))) > 300
        ·rw [if_pos c33] at H
         have c33b0 : decide (300 < (wrap64 ((wrap64 ((l0_0.length : Int) - (wrap64 (a2 - a1)))) + (l3.length : Int)))) = true := decide_eq_true c33
         clear c33
         simp only [Option.some.injEq, Prod.mk.injEq] at H
         obtain ⟨rfl, rfl, rfl, rfl, rfl⟩ := H
         have hnb34 := NB153_152.out
         have hnc34 := NB152_153.out
         have hcz35_0 : wc.cell? ⟨gb153, 0, none⟩ = some (.slice none 0 0) := bc BK153.out 0
         have hcz35_1 : wc.cell? ⟨gb153, 1, none⟩ = some (.int .i64 0) := bc BK153.out 1
         have hcz35_2 : wc.cell? ⟨gb153, 2, none⟩ = some (.int .i64 0) := bc BK153.out 2
         have hcz35_3 : wc.cell? ⟨gb153, 3, none⟩ = some (.slice none 0 0) := bc BK153.out 3
         have hcz35_4 : wc.cell? ⟨gb153, 4, none⟩ = some (.int .i64 0) := bc BK153.out 4
         have hfz35_0 := blk_frozen BK153.out 0
         have hfz35_1 := blk_frozen BK153.out 1
         have hfz35_2 := blk_frozen BK153.out 2
         have hfz35_3 := blk_frozen BK153.out 3
         have hfz35_4 := blk_frozen BK153.out 4
         go_wp2
         refine bodyPost_ret (results_cell_row rfl _ _ gb153 49 #[.slice none 0 0, .int .i64 0, .int .i64 0, .slice none 0 0, .int .i64 5] (0, 0) _ rfl (by refine pk ?_; refine blk_put (cs := #[.slice none 0 0, .int .i64 0, .int .i64 0, .slice none 0 0, .int .i64 0]) ?_ 4 _ rfl; refine pk ?_; refine blk_put (cs := #[.slice none 0 0, .int .i64 0, .int .i64 0, .slice none 0 0, .int .i64 0]) ?_ 3 _ rfl; refine pk ?_; refine blk_put (cs := #[.slice none 0 0, .int .i64 0, .int .i64 0, .slice none 0 0, .int .i64 0]) ?_ 2 _ rfl; refine pk ?_; refine blk_put (cs := #[.slice none 0 0, .int .i64 0, .int .i64 0, .slice none 0 0, .int .i64 0]) ?_ 1 _ rfl; refine pk ?_; refine blk_put (cs := #[.slice none 0 0, .int .i64 0, .int .i64 0, .slice none 0 0, .int .i64 0]) ?_ 0 _ rfl; refine pk ?_; exact BK153.out) Try.underlying49 rfl (by kernel_rfl)) rfl ?_
         exact ⟨_, _, by first | rfl | (simp [errW_none, errW_some] <;> rfl) | (simp [*, errW_none, errW_some] <;> rfl), by first | exact Kd.R_nil _ _ _ _ _ | exact Kd.N_nil _ _ _ _ _ | exact Kd.V_nil _ _ _ _ _ | exact Kd.Q_nil _ _ _ _ _ | exact Kd.S_nil _ _ _ _ _, by first | exact Kd.R_nil _ _ _ _ _ | exact Kd.N_nil _ _ _ _ _ | exact Kd.V_nil _ _ _ _ _ | exact Kd.Q_nil _ _ _ _ _ | exact Kd.S_nil _ _ _ _ _, by repeat (first | (with_reducible first | exact HB.out | apply below_alloc | apply pw_below_drewN | apply below_drew1 | refine below_set ?_ GE152.out | refine below_set ?_ GE153.out) | exact HB.out)⟩
        ·rw [if_neg c33] at H
         have c33b0 : decide (300 < (wrap64 ((wrap64 ((l0_0.length : Int) - (wrap64 (a2 - a1)))) + (l3.length : Int)))) = false := decide_eq_false c33
         clear c33
         replace H := Option.bind_eq_some_iff.mp H
         obtain ⟨t156, A360, H⟩ := H
         replace H : ((spec_l02Moved.f a0_2 a1 a2 (wrap64 ((l3.length : Int) - (wrap64 (a2 - a1))))).bind fun t157 => (if 0 ≤ a1 then (if a1 ≤ (l0_0.length : Int) then ((spec_l01Copy.f (l0_0.take (a1 : Int).toNat)).bind fun t160 => (if t160.length + l3.length < 17592186044416 then ((some (t160 ++ l3 : List Int)).bind fun y163 => (if 0 ≤ a2 then (if a2 ≤ (l0_0.length : Int) then (if y163.length + (l0_0.drop (a2 : Int).toNat).length < 17592186044416 then ((some (y163 ++ (l0_0.drop (a2 : Int).toNat) : List Int)).bind fun y167 => (if a1 = a2 then (if a0_1 = a1 then (spec_BufReplace.j2 kj24 a1 a2 l0_0 a0_1 a0_2 y167 (wrap64 (a1 + (l3.length : Int))) t157) else (spec_BufReplace.j2 kj24 a1 a2 l0_0 a0_1 a0_2 y167 t156 t157)) else (if a1 ≤ a2 then ((spec_l01Copy.f ((l0_0.take (a2 : Int).toNat).drop (a1 : Int).toNat)).bind fun t175 => (some (y167, t156, t157, t175, 0))) else (none)))) else (none)) else (none)) else (none))) else (none))) else (none)) else (none))) = some (r1, r2, r3, r4, r5) := H
         have A36 := Aside0.mk A360
         clear A360
         replace H := Option.bind_eq_some_iff.mp H
         obtain ⟨t157, A370, H⟩ := H
         replace H : (if 0 ≤ a1 then (if a1 ≤ (l0_0.length : Int) then ((spec_l01Copy.f (l0_0.take (a1 : Int).toNat)).bind fun t160 => (if t160.length + l3.length < 17592186044416 then ((some (t160 ++ l3 : List Int)).bind fun y163 => (if 0 ≤ a2 then (if a2 ≤ (l0_0.length : Int) then (if y163.length + (l0_0.drop (a2 : Int).toNat).length < 17592186044416 then ((some (y163 ++ (l0_0.drop (a2 : Int).toNat) : List Int)).bind fun y167 => (if a1 = a2 then (if a0_1 = a1 then (spec_BufReplace.j2 kj24 a1 a2 l0_0 a0_1 a0_2 y167 (wrap64 (a1 + (l3.length : Int))) t157) else (spec_BufReplace.j2 kj24 a1 a2 l0_0 a0_1 a0_2 y167 t156 t157)) else (if a1 ≤ a2 then ((spec_l01Copy.f ((l0_0.take (a2 : Int).toNat).drop (a1 : Int).toNat)).bind fun t175 => (some (y167, t156, t157, t175, 0))) else (none)))) else (none)) else (none)) else (none))) else (none))) else (none)) else (none)) = some (r1, r2, r3, r4, r5) := H
         have A37 := Aside0.mk A370
         clear A370
         by_cases c38 : 0 ≤ a1
         ·rw [if_pos c38] at H
          have c38b0 := eq_true c38
          have c38b1 : decide (0 ≤ a1) = true := decide_eq_true c38
          clear c38
          by_cases c39 : a1 ≤ (l0_0.length : Int)
          ·rw [if_pos c39] at H
           have c39b0 := eq_true c39
           have c39b1 : decide (a1 ≤ (l0_0.length : Int)) = true := decide_eq_true c39
           clear c39
           replace H := Option.bind_eq_some_iff.mp H
           obtain ⟨t160, A400, H⟩ := H
           replace H : (if t160.length + l3.length < 17592186044416 then ((some (t160 ++ l3 : List Int)).bind fun y163 => (if 0 ≤ a2 then (if a2 ≤ (l0_0.length : Int) then (if y163.length + (l0_0.drop (a2 : Int).toNat).length < 17592186044416 then ((some (y163 ++ (l0_0.drop (a2 : Int).toNat) : List Int)).bind fun y167 => (if a1 = a2 then (if a0_1 = a1 then (spec_BufReplace.j2 kj24 a1 a2 l0_0 a0_1 a0_2 y167 (wrap64 (a1 + (l3.length : Int))) t157) else (spec_BufReplace.j2 kj24 a1 a2 l0_0 a0_1 a0_2 y167 t156 t157)) else (if a1 ≤ a2 then ((spec_l01Copy.f ((l0_0.take (a2 : Int).toNat).drop (a1 : Int).toNat)).bind fun t175 => (some (y167, t156, t157, t175, 0))) else (none)))) else (none)) else (none)) else (none))) else (none)) = some (r1, r2, r3, r4, r5) := H
           have A40 := Aside0.mk A400
           clear A400
           by_cases c41 : t160.length + l3.length < 17592186044416
           ·rw [if_pos c41] at H
            have LMc41 := Aside0.mk c41
            clear c41
            obtain ⟨y163, hy163⟩ : ∃ y_ : List Int, y_ = (t160 ++ l3) := ⟨_, rfl⟩
            replace H : (if 0 ≤ a2 then (if a2 ≤ (l0_0.length : Int) then (if y163.length + (l0_0.drop (a2 : Int).toNat).length < 17592186044416 then ((some (y163 ++ (l0_0.drop (a2 : Int).toNat) : List Int)).bind fun y167 => (if a1 = a2 then (if a0_1 = a1 then (spec_BufReplace.j2 kj24 a1 a2 l0_0 a0_1 a0_2 y167 (wrap64 (a1 + (l3.length : Int))) t157) else (spec_BufReplace.j2 kj24 a1 a2 l0_0 a0_1 a0_2 y167 t156 t157)) else (if a1 ≤ a2 then ((spec_l01Copy.f ((l0_0.take (a2 : Int).toNat).drop (a1 : Int).toNat)).bind fun t175 => (some (y167, t156, t157, t175, 0))) else (none)))) else (none)) else (none)) else (none)) = some (r1, r2, r3, r4, r5) := by first | (rw [hy163]; with_reducible exact H) | (have H2_ := (Option.bind_some _ _).symm.trans H; rw [hy163]; with_reducible exact H2_) | (have H2_ := (Option.bind_some _ _).symm.trans H; with_reducible exact H2_) | with_reducible exact H | (rw [hy163]; exact H) | exact H
            have Ny163 := am hy163
            clear hy163
            by_cases c42 : 0 ≤ a2
            ·rw [if_pos c42] at H
             have c42b0 := eq_true c42
             have c42b1 : decide (0 ≤ a2) = true := decide_eq_true c42
             clear c42
             by_cases c43 : a2 ≤ (l0_0.length : Int)
             ·rw [if_pos c43] at H
              have c43b0 := eq_true c43
              have c43b1 : decide (a2 ≤ (l0_0.length : Int)) = true := decide_eq_true c43
              clear c43
              by_cases c44 : y163.length + (l0_0.drop (a2 : Int).toNat).length < 17592186044416
              ·rw [if_pos c44] at H
               have LMc44 := Aside0.mk c44
               clear c44
               obtain ⟨y167, hy167⟩ : ∃ y_ : List Int, y_ = (y163 ++ (l0_0.drop (a2 : Int).toNat)) := ⟨_, rfl⟩
               replace H : (if a1 = a2 then (if a0_1 = a1 then (spec_BufReplace.j2 kj24 a1 a2 l0_0 a0_1 a0_2 y167 (wrap64 (a1 + (l3.length : Int))) t157) else (spec_BufReplace.j2 kj24 a1 a2 l0_0 a0_1 a0_2 y167 t156 t157)) else (if a1 ≤ a2 then ((spec_l01Copy.f ((l0_0.take (a2 : Int).toNat).drop (a1 : Int).toNat)).bind fun t175 => (some (y167, t156, t157, t175, 0))) else (none))) = some (r1, r2, r3, r4, r5) := by first | (rw [hy167]; with_reducible exact H) | (have H2_ := (Option.bind_some _ _).symm.trans H; rw [hy167]; with_reducible exact H2_) | (have H2_ := (Option.bind_some _ _).symm.trans H; with_reducible exact H2_) | with_reducible exact H | (rw [hy167]; exact H) | exact H
               have Ny167 := am hy167
               clear hy167
               by_cases c45 : a1 = a2
               ·rw [if_pos c45] at H
                have c45b0 : (a1 == a2) = true := beq_iff_eq.mpr c45
                have c45b1 : (a1 != a2) = false := bne_eq_false_iff_eq.mpr c45
                clear c45
                have HC46 := Aside0.mk H
                clear H
                try go_wp2
                replace BK152 := am (blk_drew BK152.out)
                replace BK153 := am (blk_drew BK153.out)
                replace HB := am (below_drew1 HB.out)
                refine start_ (n := 15) (S := fun w' => w'.cell? ⟨gb152, 0, none⟩ = some (.slice A0_0 l0_0.length c0_0) ∧ w'.cell? ⟨gb152, 1, none⟩ = some (.int .i64 a0_1) ∧ w'.cell? ⟨gb152, 2, none⟩ = some (.int .i64 a0_2)) (ds := []) b45_0 (by kernel_rfl) rfl rfl ⟨bc BK152.out 0, bc BK152.out 1, bc BK152.out 2⟩ (fun hHeld => ?_); refine with_tabW spec_BufReplace.tab12 spec_BufReplace.bits12 (fun HT_ HW_ => ?_)
                generalize wc.drew = w47 at BK152 BK153 HB hHeld ⊢
                refine pu_ 0 (some 58) ?_ b45_1 rfl rfl HT_.out (by kernel_rfl) (fun _ _ _ h => h) (Or.inl ⟨by rfl, ?_⟩) ?_ ?_ ?_; rotate_left
                ·intro w'; go_simp; with_reducible rfl
                rotate_left
                ·simp only [Act.put, sa_, s0_, ss_, i64_w, i32_w]; rfl
                refine pu_ 2 (some 60) ?_ b45_2 rfl rfl HT_.out (by kernel_rfl) (fun _ _ _ h => h) (Or.inl ⟨by rfl, ?_⟩) ?_ ?_ ?_; rotate_left
                ·intro w'; go_simp; with_reducible rfl
                rotate_left
                ·simp only [Act.put, sa_, s0_, ss_, i64_w, i32_w]; rfl
                refine pu_ 3 (some 61) ?_ b45_3 rfl rfl HT_.out (by kernel_rfl) (fun _ _ _ h => h) (Or.inl ⟨by rfl, ?_⟩) ?_ ?_ ?_; rotate_left
                ·intro w'; go_simp; with_reducible rfl
                rotate_left
                ·simp only [Act.put, sa_, s0_, ss_, i64_w, i32_w]; rfl
                refine pu_ 4 (some 62) ?_ b45_4 rfl rfl HT_.out (by kernel_rfl) (fun _ _ _ h => h) (Or.inl ⟨by rfl, ?_⟩) ?_ ?_ ?_; rotate_left
                ·intro w'; go_simp; with_reducible rfl
                rotate_left
                ·simp only [Act.put, sa_, s0_, ss_, i64_w, i32_w]; rfl
                refine pu_ 6 (some 64) ?_ b45_5 rfl rfl HT_.out (by kernel_rfl) (fun _ _ _ h => h) (Or.inl ⟨by rfl, ?_⟩) ?_ ?_ ?_; rotate_left
                ·intro w'; go_simp; with_reducible rfl
                rotate_left
                ·simp only [Act.put, sa_, s0_, ss_, i64_w, i32_w]; rfl
                refine pu_ 8 (some 66) ?_ b45_6 rfl rfl HT_.out (by kernel_rfl) (fun _ _ _ h => h) (Or.inl ⟨by rfl, ?_⟩) ?_ ?_ ?_; rotate_left
                ·intro w'; go_simp; with_reducible rfl
                rotate_left
                ·simp only [Act.put, sa_, s0_, ss_, i64_w, i32_w]; rfl
                refine pu_ 9 (some 67) ?_ b45_7 rfl rfl HT_.out (by kernel_rfl) (fun _ _ _ h => h) (Or.inl ⟨by rfl, ?_⟩) ?_ ?_ ?_; rotate_left
                ·intro w'; go_simp; with_reducible rfl
                rotate_left
                ·simp only [Act.put, sa_, s0_, ss_, i64_w, i32_w]; rfl
                refine pu_ 10 (some 68) ?_ b45_8 rfl rfl HT_.out (by kernel_rfl) (fun _ _ _ h => h) (Or.inl ⟨by rfl, ?_⟩) ?_ ?_ ?_; rotate_left
                ·intro w'; go_simp; with_reducible rfl
                rotate_left
                ·simp only [Act.put, sa_, s0_, ss_, i64_w, i32_w]; rfl
                refine tk_ 1 (some 59) ?_ b45_9 rfl rfl HT_.out HW_.out (by kernel_rfl) (fun _ _ _ h => h) (Or.inl ⟨by rfl, ?_⟩) hHeld ?_ ?_ ?_; rotate_left
                ·rintro w' ⟨s0, s1, s2⟩; go_simp; with_reducible rfl
                rotate_left
                ·simp only [Act.put, sa_, s0_, ss_, i64_w, i32_w]; rfl
                refine tk_ 7 (some 65) ?_ b45_10 rfl rfl HT_.out HW_.out (by kernel_rfl) (fun _ _ _ h => h) (Or.inl ⟨by rfl, ?_⟩) hHeld ?_ ?_ ?_; rotate_left
                ·rintro w' ⟨s0, s1, s2⟩; go_simp; with_reducible rfl
                rotate_left
                ·simp only [Act.put, sa_, s0_, ss_, i64_w, i32_w]; rfl
                refine join_ (σ := Nat) 1 b45_11 (fun s_ => [(63, .int .i64 t156), (69, .int .i64 t157), (12, .pointer (some ⟨s_, 0, none⟩)), (70, .agg #[.slice none 0 0, .int .i64 t156, .int .i64 t157])]) (fun s_ w' => (w'.cell? ⟨gb152, 0, none⟩ = some (.slice A0_0 l0_0.length c0_0) ∧ w'.cell? ⟨gb152, 1, none⟩ = some (.int .i64 a0_1) ∧ w'.cell? ⟨gb152, 2, none⟩ = some (.int .i64 a0_2)) ∧ (w'.heap[gb152]? = some (.cells #[.slice A0_0 l0_0.length c0_0, .int .i64 a0_1, .int .i64 a0_2] 31 (0, 0))) ∧ (w'.heap[gb153]? = some (.cells #[.slice none 0 0, .int .i64 0, .int .i64 0, .slice none 0 0, .int .i64 0] 49 (0, 0))) ∧ (w'.heap[s_]? = some (.cells #[.slice none 0 0, .int .i64 0, .int .i64 0] 31 (0, 0))) ∧ (w.heap.size ≤ s_) ∧ (w.heap.size ≤ s_) ∧ (gb152 ≠ s_) ∧ (s_ ≠ gb152) ∧ (gb153 ≠ s_) ∧ (s_ ≠ gb153) ∧ (Below w.heap.size w w')) ?_ ?_
                rotate_left
                ·intro hCont
                 refine two_ (i := 5) (j := 13) (Ni := some 63) (Nj := some 12) b45_12 b45_13 rfl rfl rfl rfl (two_of HT_.out (by kernel_rfl)) (by decide) (by decide) (fun K hK => ?_) (fun K hK => ?_)
                 ·skip
                  refine gs_ Try.func65 #[.int .i64 a0_1, .int .i64 a1, .int .i64 a2, .int .i64 (wrap64 ((l3.length : Int) - (wrap64 (a2 - a1))))] ?_
                  with_reducible refine (spec_l02Moved.calls a0_1 a1 a2 (wrap64 ((l3.length : Int) - (wrap64 (a2 - a1)))) t156 _ A36.out).mono ?_
                  rintro e w' ⟨rfl, ⟨nd, rfl⟩⟩
                  refine ⟨_, rfl, ?_⟩
                  refine hK.out _ _ ⟨bc BK152.out 0, bc BK152.out 1, bc BK152.out 2⟩ (fun hHeld => ?_)
                  clear hK K
                  refine norm_ (a' := ?_) ?_ ?_
                  rotate_left
                  ·show Act.put _ (some 63) _ = _
                   simp only [Act.put, sa_, s0_, ss_, i64_w, i32_w]
                   rfl
                  refine two_ (i := 11) (j := 13) (Ni := some 69) (Nj := some 12) b45_14 b45_15 rfl rfl rfl rfl (two_of HT_.out (by kernel_rfl)) (by decide) (by decide) (fun K hK => ?_) (fun K hK => ?_)
                  ·skip
                   refine gs_ Try.func65 #[.int .i64 a0_2, .int .i64 a1, .int .i64 a2, .int .i64 (wrap64 ((l3.length : Int) - (wrap64 (a2 - a1))))] ?_
                   with_reducible refine (spec_l02Moved.calls a0_2 a1 a2 (wrap64 ((l3.length : Int) - (wrap64 (a2 - a1)))) t157 _ A37.out).mono ?_
                   rintro e w' ⟨rfl, ⟨nd, rfl⟩⟩
                   refine ⟨_, rfl, ?_⟩
                   refine hK.out _ _ ⟨bc BK152.out 0, bc BK152.out 1, bc BK152.out 2⟩ (fun hHeld => ?_)
                   clear hK K
                   refine norm_ (a' := ?_) ?_ ?_
                   rotate_left
                   ·show Act.put _ (some 69) _ = _
                    simp only [Act.put, sa_, s0_, ss_, i64_w, i32_w]
                    rfl
                   refine pu_ 12 (some 70) ?_ b45_16 rfl rfl HT_.out (by kernel_rfl) (fun _ _ _ h => h) (Or.inl ⟨by rfl, ?_⟩) ?_ ?_ ?_; rotate_left
                   ·intro w'; go_simp; with_reducible rfl
                   rotate_left
                   ·simp only [Act.put, sa_, s0_, ss_, i64_w, i32_w]; rfl
                   refine one_ (i := 13) (N := some 12) b45_11 rfl rfl (one_of HT_.out (by kernel_rfl)) (by decide) (fun K hK => ?_)
                   refine box_step ?hg (N := 12) ?hd (cs := #[.slice none 0 0, .int .i64 0, .int .i64 0]) (t := 31) ?hr ?_; (case hd => rfl); (case hg => rfl); (case hr => first | (go_simp; done) | (go_simp; rfl))
                   intro gb158 hg w48 hbox hb
                   have BK158 := am (hbox)
                   have GW158 := am ((by rw [hg]; exact (below_size (bl HB.out)) : w.heap.size ≤ gb158))
                   have GE158 := GW158
                   replace HB := am (below_step (bl HB.out) hb)
                   have NB152_158 := am ((by rw [hg]; exact Nat.ne_of_lt (blk_lt (pk BK152.out)) : gb152 ≠ gb158))
                   have NB158_152 := am ((by rw [hg]; exact Nat.ne_of_gt (blk_lt (pk BK152.out)) : gb158 ≠ gb152))
                   replace BK152 := am (blk_below (pk BK152.out) hb)
                   have NB153_158 := am ((by rw [hg]; exact Nat.ne_of_lt (blk_lt (pk BK153.out)) : gb153 ≠ gb158))
                   have NB158_153 := am ((by rw [hg]; exact Nat.ne_of_gt (blk_lt (pk BK153.out)) : gb158 ≠ gb153))
                   replace BK153 := am (blk_below (pk BK153.out) hb)
                   clear hb hbox hg
                   refine hK.out _ _ ⟨bc BK152.out 0, bc BK152.out 1, bc BK152.out 2⟩ (fun hHeld => ?_)
                   clear hK K
                   refine norm_ (a' := ?_) ?_ ?_
                   rotate_left
                   ·show Act.put _ (some 12) _ = _
                    simp only [Act.put, sa_, s0_, ss_, i64_w, i32_w]
                    rfl
                   exact norm_ (by simp only [putAll, Act.put, sa_, s0_, ss_]) (hCont (gb158) _ ⟨hHeld, (pk BK152.out), (pk BK153.out), (pk BK158.out), GW158.out, GE158.out, NB152_158.out, NB158_152.out, NB153_158.out, NB158_153.out, (bl HB.out)⟩)
                  ·skip
                   refine box_step ?hg (N := 12) ?hd (cs := #[.slice none 0 0, .int .i64 0, .int .i64 0]) (t := 31) ?hr ?_; (case hd => rfl); (case hg => rfl); (case hr => first | (go_simp; done) | (go_simp; rfl))
                   intro gb158 hg w48 hbox hb
                   have BK158 := am (hbox)
                   have GW158 := am ((by rw [hg]; exact (below_size (bl HB.out)) : w.heap.size ≤ gb158))
                   have GE158 := GW158
                   replace HB := am (below_step (bl HB.out) hb)
                   have NB152_158 := am ((by rw [hg]; exact Nat.ne_of_lt (blk_lt (pk BK152.out)) : gb152 ≠ gb158))
                   have NB158_152 := am ((by rw [hg]; exact Nat.ne_of_gt (blk_lt (pk BK152.out)) : gb158 ≠ gb152))
                   replace BK152 := am (blk_below (pk BK152.out) hb)
                   have NB153_158 := am ((by rw [hg]; exact Nat.ne_of_lt (blk_lt (pk BK153.out)) : gb153 ≠ gb158))
                   have NB158_153 := am ((by rw [hg]; exact Nat.ne_of_gt (blk_lt (pk BK153.out)) : gb158 ≠ gb153))
                   replace BK153 := am (blk_below (pk BK153.out) hb)
                   clear hb hbox hg
                   refine hK.out _ _ ⟨bc BK152.out 0, bc BK152.out 1, bc BK152.out 2⟩ (fun hHeld => ?_)
                   clear hK K
                   refine norm_ (a' := ?_) ?_ ?_
                   rotate_left
                   ·show Act.put _ (some 12) _ = _
                    simp only [Act.put, sa_, s0_, ss_, i64_w, i32_w]
                    rfl
                   refine one_ (i := 11) (N := some 69) b45_17 rfl rfl (one_of HT_.out (by kernel_rfl)) (by decide) (fun K hK => ?_)
                   refine gs_ Try.func65 #[.int .i64 a0_2, .int .i64 a1, .int .i64 a2, .int .i64 (wrap64 ((l3.length : Int) - (wrap64 (a2 - a1))))] ?_
                   with_reducible refine (spec_l02Moved.calls a0_2 a1 a2 (wrap64 ((l3.length : Int) - (wrap64 (a2 - a1)))) t157 _ A37.out).mono ?_
                   rintro e w' ⟨rfl, ⟨nd, rfl⟩⟩
                   refine ⟨_, rfl, ?_⟩
                   refine hK.out _ _ ⟨bc BK152.out 0, bc BK152.out 1, bc BK152.out 2⟩ (fun hHeld => ?_)
                   clear hK K
                   refine norm_ (a' := ?_) ?_ ?_
                   rotate_left
                   ·show Act.put _ (some 69) _ = _
                    simp only [Act.put, sa_, s0_, ss_, i64_w, i32_w]
                    rfl
                   refine pu_ 12 (some 70) ?_ b45_11 rfl rfl HT_.out (by kernel_rfl) (fun _ _ _ h => h) (Or.inl ⟨by rfl, ?_⟩) ?_ ?_ ?_; rotate_left
                   ·intro w'; go_simp; with_reducible rfl
                   rotate_left
                   ·simp only [Act.put, sa_, s0_, ss_, i64_w, i32_w]; rfl
                   exact norm_ (by simp only [putAll, Act.put, sa_, s0_, ss_]) (hCont (gb158) _ ⟨hHeld, (pk BK152.out), (pk BK153.out), (pk BK158.out), GW158.out, GE158.out, NB152_158.out, NB158_152.out, NB153_158.out, NB158_153.out, (bl HB.out)⟩)
                 ·skip
                  refine box_step ?hg (N := 12) ?hd (cs := #[.slice none 0 0, .int .i64 0, .int .i64 0]) (t := 31) ?hr ?_; (case hd => rfl); (case hg => rfl); (case hr => first | (go_simp; done) | (go_simp; rfl))
                  intro gb158 hg w48 hbox hb
                  have BK158 := am (hbox)
                  have GW158 := am ((by rw [hg]; exact (below_size (bl HB.out)) : w.heap.size ≤ gb158))
                  have GE158 := GW158
                  replace HB := am (below_step (bl HB.out) hb)
                  have NB152_158 := am ((by rw [hg]; exact Nat.ne_of_lt (blk_lt (pk BK152.out)) : gb152 ≠ gb158))
                  have NB158_152 := am ((by rw [hg]; exact Nat.ne_of_gt (blk_lt (pk BK152.out)) : gb158 ≠ gb152))
                  replace BK152 := am (blk_below (pk BK152.out) hb)
                  have NB153_158 := am ((by rw [hg]; exact Nat.ne_of_lt (blk_lt (pk BK153.out)) : gb153 ≠ gb158))
                  have NB158_153 := am ((by rw [hg]; exact Nat.ne_of_gt (blk_lt (pk BK153.out)) : gb158 ≠ gb153))
                  replace BK153 := am (blk_below (pk BK153.out) hb)
                  clear hb hbox hg
                  refine hK.out _ _ ⟨bc BK152.out 0, bc BK152.out 1, bc BK152.out 2⟩ (fun hHeld => ?_)
                  clear hK K
                  refine norm_ (a' := ?_) ?_ ?_
                  rotate_left
                  ·show Act.put _ (some 12) _ = _
                   simp only [Act.put, sa_, s0_, ss_, i64_w, i32_w]
                   rfl
                  refine one_ (i := 5) (N := some 63) b45_15 rfl rfl (one_of HT_.out (by kernel_rfl)) (by decide) (fun K hK => ?_)
                  refine gs_ Try.func65 #[.int .i64 a0_1, .int .i64 a1, .int .i64 a2, .int .i64 (wrap64 ((l3.length : Int) - (wrap64 (a2 - a1))))] ?_
                  with_reducible refine (spec_l02Moved.calls a0_1 a1 a2 (wrap64 ((l3.length : Int) - (wrap64 (a2 - a1)))) t156 _ A36.out).mono ?_
                  rintro e w' ⟨rfl, ⟨nd, rfl⟩⟩
                  refine ⟨_, rfl, ?_⟩
                  refine hK.out _ _ ⟨bc BK152.out 0, bc BK152.out 1, bc BK152.out 2⟩ (fun hHeld => ?_)
                  clear hK K
                  refine norm_ (a' := ?_) ?_ ?_
                  rotate_left
                  ·show Act.put _ (some 63) _ = _
                   simp only [Act.put, sa_, s0_, ss_, i64_w, i32_w]
                   rfl
                  refine one_ (i := 11) (N := some 69) b45_17 rfl rfl (one_of HT_.out (by kernel_rfl)) (by decide) (fun K hK => ?_)
                  refine gs_ Try.func65 #[.int .i64 a0_2, .int .i64 a1, .int .i64 a2, .int .i64 (wrap64 ((l3.length : Int) - (wrap64 (a2 - a1))))] ?_
                  with_reducible refine (spec_l02Moved.calls a0_2 a1 a2 (wrap64 ((l3.length : Int) - (wrap64 (a2 - a1)))) t157 _ A37.out).mono ?_
                  rintro e w' ⟨rfl, ⟨nd, rfl⟩⟩
                  refine ⟨_, rfl, ?_⟩
                  refine hK.out _ _ ⟨bc BK152.out 0, bc BK152.out 1, bc BK152.out 2⟩ (fun hHeld => ?_)
                  clear hK K
                  refine norm_ (a' := ?_) ?_ ?_
                  rotate_left
                  ·show Act.put _ (some 69) _ = _
                   simp only [Act.put, sa_, s0_, ss_, i64_w, i32_w]
                   rfl
                  refine pu_ 12 (some 70) ?_ b45_11 rfl rfl HT_.out (by kernel_rfl) (fun _ _ _ h => h) (Or.inl ⟨by rfl, ?_⟩) ?_ ?_ ?_; rotate_left
                  ·intro w'; go_simp; with_reducible rfl
                  rotate_left
                  ·simp only [Act.put, sa_, s0_, ss_, i64_w, i32_w]; rfl
                  exact norm_ (by simp only [putAll, Act.put, sa_, s0_, ss_]) (hCont (gb158) _ ⟨hHeld, (pk BK152.out), (pk BK153.out), (pk BK158.out), GW158.out, GE158.out, NB152_158.out, NB158_152.out, NB153_158.out, NB158_153.out, (bl HB.out)⟩)
                rintro gb158 w49 ⟨hS_, h0_, h1_, h2_, h3_, h4_, h5_, h6_, h7_, h8_, h9_⟩
                replace BK152 : Aside0 (w49.heap[gb152]? = some (.cells #[.slice A0_0 l0_0.length c0_0, .int .i64 a0_1, .int .i64 a0_2] 31 (0, 0))) := ⟨h0_⟩
                replace BK153 : Aside0 (w49.heap[gb153]? = some (.cells #[.slice none 0 0, .int .i64 0, .int .i64 0, .slice none 0 0, .int .i64 0] 49 (0, 0))) := ⟨h1_⟩
                have BK158 : Aside0 (w49.heap[gb158]? = some (.cells #[.slice none 0 0, .int .i64 0, .int .i64 0] 31 (0, 0))) := ⟨h2_⟩
                have GW158 : Aside0 (w.heap.size ≤ gb158) := ⟨h3_⟩
                have GE158 : Aside0 (w.heap.size ≤ gb158) := ⟨h4_⟩
                have NB152_158 : Aside0 (gb152 ≠ gb158) := ⟨h5_⟩
                have NB158_152 : Aside0 (gb158 ≠ gb152) := ⟨h6_⟩
                have NB153_158 : Aside0 (gb153 ≠ gb158) := ⟨h7_⟩
                have NB158_153 : Aside0 (gb158 ≠ gb153) := ⟨h8_⟩
                replace HB : Aside0 (Below w.heap.size w w49) := ⟨h9_⟩
                clear h0_ h1_ h2_ h3_ h4_ h5_ h6_ h7_ h8_ h9_
                have hHeld : w49.cell? ⟨gb152, 0, none⟩ = some (.slice A0_0 l0_0.length c0_0) ∧ w49.cell? ⟨gb152, 1, none⟩ = some (.int .i64 a0_1) ∧ w49.cell? ⟨gb152, 2, none⟩ = some (.int .i64 a0_2) := hS_
                refine norm_ (a' := ?_) ?_ ?_
                rotate_left
                ·simp only [putAll, Act.put, sa_, s0_, ss_]
                 rfl
                refine one_ (i := 14) (N := none) b45_18 rfl rfl (one_of HT_.out (by kernel_rfl)) (by decide) (fun K hK => ?_)
                have hs50 : w49.cell? ⟨gb158, 0, none⟩ = some (.slice none 0 0) := bc BK158.out 0
                have hfs50 := blk_frozen BK158.out 0
                have hns50_0 := NB152_158.out
                have hns50_1 := NB153_158.out
                have hms50_0 := NB158_152.out
                have hms50_1 := NB158_153.out
                have hs51 : w49.cell? ⟨gb158, 1, none⟩ = some (.int .i64 0) := bc BK158.out 1
                have hfs51 := blk_frozen BK158.out 1
                have hs52 : w49.cell? ⟨gb158, 2, none⟩ = some (.int .i64 0) := bc BK158.out 2
                have hfs52 := blk_frozen BK158.out 2
                refine skip_ (w1 := ?_) (by rfl) rfl ?_ ?_
                rotate_left
                ·go_simp
                 rfl
                refine hK.out _ _ ⟨((cell_far (p := ⟨gb158, _, none⟩) NB152_158.out _).trans (((cell_far (p := ⟨gb158, _, none⟩) NB152_158.out _).trans (((cell_far (p := ⟨gb158, _, none⟩) NB152_158.out _).trans (hHeld.1)))))), ((cell_far (p := ⟨gb158, _, none⟩) NB152_158.out _).trans (((cell_far (p := ⟨gb158, _, none⟩) NB152_158.out _).trans (((cell_far (p := ⟨gb158, _, none⟩) NB152_158.out _).trans (hHeld.2.1)))))), ((cell_far (p := ⟨gb158, _, none⟩) NB152_158.out _).trans (((cell_far (p := ⟨gb158, _, none⟩) NB152_158.out _).trans (((cell_far (p := ⟨gb158, _, none⟩) NB152_158.out _).trans (hHeld.2.2))))))⟩ (fun hHeld => ?_)
                clear hK K
                refine done_ (done_of HT_.out (by kernel_rfl)) ?_
                (try (rw [drewN_self w49]; generalize hq_ : World.drewN w49 _ = w49; replace BK152 := am (blk_at hq_ BK152.out); replace BK153 := am (blk_at hq_ BK153.out); replace BK158 := am (blk_at hq_ BK158.out); replace HB := am (below_at hq_ HB.out); clear hq_))
                try go_wp2
                have n0_ : Aside0 ((((w49.setCell ⟨gb158, 0, none⟩ (.slice none 0 0)).setCell ⟨gb158, 1, none⟩ (.int .i64 t156)).setCell ⟨gb158, 2, none⟩ (.int .i64 t157)).heap[gb152]? = some (.cells #[.slice A0_0 l0_0.length c0_0, .int .i64 a0_1, .int .i64 a0_2] 31 (0, 0))) := ⟨by refine pk ?_; refine blk_far ?_ NB152_158.out _; refine pk ?_; refine blk_far ?_ NB152_158.out _; refine pk ?_; refine blk_far ?_ NB152_158.out _; refine pk ?_; exact BK152.out⟩
                have n1_ : Aside0 ((((w49.setCell ⟨gb158, 0, none⟩ (.slice none 0 0)).setCell ⟨gb158, 1, none⟩ (.int .i64 t156)).setCell ⟨gb158, 2, none⟩ (.int .i64 t157)).heap[gb153]? = some (.cells #[.slice none 0 0, .int .i64 0, .int .i64 0, .slice none 0 0, .int .i64 0] 49 (0, 0))) := ⟨by refine pk ?_; refine blk_far ?_ NB153_158.out _; refine pk ?_; refine blk_far ?_ NB153_158.out _; refine pk ?_; refine blk_far ?_ NB153_158.out _; refine pk ?_; exact BK153.out⟩
                have n2_ : Aside0 ((((w49.setCell ⟨gb158, 0, none⟩ (.slice none 0 0)).setCell ⟨gb158, 1, none⟩ (.int .i64 t156)).setCell ⟨gb158, 2, none⟩ (.int .i64 t157)).heap[gb158]? = some (.cells #[.slice none 0 0, .int .i64 t156, .int .i64 t157] 31 (0, 0))) := ⟨by refine pk ?_; refine blk_put (cs := #[.slice none 0 0, .int .i64 t156, .int .i64 0]) ?_ 2 _ rfl; refine pk ?_; refine blk_put (cs := #[.slice none 0 0, .int .i64 0, .int .i64 0]) ?_ 1 _ rfl; refine pk ?_; refine blk_put (cs := #[.slice none 0 0, .int .i64 0, .int .i64 0]) ?_ 0 _ rfl; refine pk ?_; exact BK158.out⟩
                have n3_ : Aside0 (Below w.heap.size w (((w49.setCell ⟨gb158, 0, none⟩ (.slice none 0 0)).setCell ⟨gb158, 1, none⟩ (.int .i64 t156)).setCell ⟨gb158, 2, none⟩ (.int .i64 t157))) := ⟨by repeat (first | (with_reducible first | exact HB.out | apply below_alloc | apply pw_below_drewN | apply below_drew1 | refine below_set ?_ GE152.out | refine below_set ?_ GE153.out | refine below_set ?_ GE158.out) | exact HB.out)⟩
                (try clear BK152)
                (try clear BK153)
                (try clear BK158)
                (try clear HB)
                generalize (((w49.setCell ⟨gb158, 0, none⟩ (.slice none 0 0)).setCell ⟨gb158, 1, none⟩ (.int .i64 t156)).setCell ⟨gb158, 2, none⟩ (.int .i64 t157)) = w53 at n0_ n1_ n2_ n3_ ⊢
                have BK152 := n0_
                have BK153 := n1_
                have BK158 := n2_
                have HB := n3_
                clear n0_ n1_ n2_ n3_
                replace BK152 := am (blk_drew BK152.out)
                replace BK153 := am (blk_drew BK153.out)
                replace BK158 := am (blk_drew BK158.out)
                replace HB := am (below_drew1 HB.out)
                obtain ⟨i055, hi055, _, hsz55, _⟩ := info_parts info2
                obtain ⟨hcut55, hA55, hC55⟩ := print_take_of (P := Try.prog) (Value.int .i64) 0 22 2 .i64 Try.underlying22 hi055 hsz55 A0_0 c0_0 l0_0 a1 (of_decide_eq_true (by first | (with_reducible assumption) | assumption)) (of_decide_eq_true (by first | (with_reducible assumption) | assumption)) HC0_0.out
                have HR159 := am (Kd.C_of_reads (h1 := fun _ => rfl) (hA55 _ (Kd.reads_of_C HR0_0.out)))
                have HC159 := am hC55
                clear hA55 hC55 hi055 hsz55
                obtain ⟨i056, hi056, _, hsz56, _⟩ := info_parts info2
                obtain ⟨A56, hcut56, hA56, hC56⟩ := print_drop_of (P := Try.prog) (Value.int .i64) 0 22 2 .i64 Try.underlying22 hi056 hsz56 A0_0 c0_0 l0_0 a2 (of_decide_eq_true (by first | (with_reducible assumption) | assumption)) (of_decide_eq_true (by first | (with_reducible assumption) | assumption)) HC0_0.out
                have HR166 := am (Kd.C_of_reads (h1 := fun _ => rfl) (hA56 _ (Kd.reads_of_C HR0_0.out)))
                have HC166 := am hC56
                clear hA56 hC56 hi056 hsz56
                refine start_ (n := 14) (S := fun w' => w'.cell? ⟨gb152, 0, none⟩ = some (.slice A0_0 l0_0.length c0_0) ∧ w'.cell? ⟨gb152, 1, none⟩ = some (.int .i64 a0_1) ∧ w'.cell? ⟨gb152, 2, none⟩ = some (.int .i64 a0_2)) (ds := []) b45_19 (by kernel_rfl) rfl rfl ⟨bc BK152.out 0, bc BK152.out 1, bc BK152.out 2⟩ (fun hHeld => ?_); refine with_tabW spec_BufReplace.tab13 spec_BufReplace.bits13 (fun HT_ HW_ => ?_)
                generalize w53.drew = w54 at BK152 BK153 BK158 HB HR159 HR166 hHeld ⊢
                refine pu_ 0 (some 71) ?_ b45_20 rfl rfl HT_.out (by kernel_rfl) (fun _ _ _ h => h) (Or.inl ⟨by rfl, ?_⟩) ?_ ?_ ?_; rotate_left
                ·intro w'; go_simp; with_reducible rfl
                rotate_left
                ·simp only [Act.put, sa_, s0_, ss_, i64_w, i32_w]; rfl
                refine pu_ 2 (some 73) ?_ b45_21 rfl rfl HT_.out (by kernel_rfl) (fun _ _ _ h => h) (Or.inl ⟨by rfl, ?_⟩) ?_ ?_ ?_; rotate_left
                ·intro w'; go_simp; with_reducible rfl
                rotate_left
                ·simp only [Act.put, sa_, s0_, ss_, i64_w, i32_w]; rfl
                refine pu_ 5 (some 76) ?_ b45_22 rfl rfl HT_.out (by kernel_rfl) (fun _ _ _ h => h) (Or.inl ⟨by rfl, ?_⟩) ?_ ?_ ?_; rotate_left
                ·intro w'; go_simp; with_reducible rfl
                rotate_left
                ·simp only [Act.put, sa_, s0_, ss_, i64_w, i32_w]; rfl
                refine pu_ 7 (some 78) ?_ b45_23 rfl rfl HT_.out (by kernel_rfl) (fun _ _ _ h => h) (Or.inl ⟨by rfl, ?_⟩) ?_ ?_ ?_; rotate_left
                ·intro w'; go_simp; with_reducible rfl
                rotate_left
                ·simp only [Act.put, sa_, s0_, ss_, i64_w, i32_w]; rfl
                refine pu_ 9 (some 80) ?_ b45_24 rfl rfl HT_.out (by kernel_rfl) (fun _ _ _ h => h) (Or.inl ⟨by rfl, ?_⟩) ?_ ?_ ?_; rotate_left
                ·intro w'; go_simp; with_reducible rfl
                rotate_left
                ·simp only [Act.put, sa_, s0_, ss_, i64_w, i32_w]; rfl
                refine tk_ 1 (some 72) ?_ b45_25 rfl rfl HT_.out HW_.out (by kernel_rfl) (fun _ _ _ h => h) (Or.inl ⟨by rfl, ?_⟩) hHeld ?_ ?_ ?_; rotate_left
                ·rintro w' ⟨s0, s1, s2⟩; go_simp; with_reducible rfl
                rotate_left
                ·simp only [Act.put, sa_, s0_, ss_, i64_w, i32_w]; rfl
                refine pu_ 3 (some 74) ?_ b45_26 rfl rfl HT_.out (by kernel_rfl) (fun _ _ _ h => h) (Or.inl ⟨by rfl, ?_⟩) ?_ ?_ ?_; rotate_left
                ·intro w'; go_simp; with_reducible rfl
                rotate_left
                ·simp only [Act.put, sa_, s0_, ss_, i64_w, i32_w]; rfl
                refine tk_ 8 (some 79) ?_ b45_27 rfl rfl HT_.out HW_.out (by kernel_rfl) (fun _ _ _ h => h) (Or.inl ⟨by rfl, ?_⟩) hHeld ?_ ?_ ?_; rotate_left
                ·rintro w' ⟨s0, s1, s2⟩; go_simp; with_reducible rfl
                rotate_left
                ·simp only [Act.put, sa_, s0_, ss_, i64_w, i32_w]; rfl
                refine pu_ 10 (some 81) ?_ b45_28 rfl rfl HT_.out (by kernel_rfl) (fun _ _ _ h => h) (Or.inl ⟨by rfl, ?_⟩) ?_ ?_ ?_; rotate_left
                ·intro w'; go_simp; with_reducible rfl
                rotate_left
                ·simp only [Act.put, sa_, s0_, ss_, i64_w, i32_w]; rfl
                refine one_ (i := 4) (N := some 75) b45_29 rfl rfl (one_of HT_.out (by kernel_rfl)) (by decide) (fun K hK => ?_)
                refine goes_ Try.func41 (by kernel_rfl) rfl #[.slice A0_0 (l0_0.take (a1 : Int).toNat).length c0_0] (by rfl) rfl rfl (by (try simp only [List.map_toArray, List.map_cons, List.map_nil]); first | done | (rw [show (l0_0.take (a1 : Int).toNat).length = a1.toNat from (by rw [List.length_take]; have h_ : (a1 : Int) ≤ (l0_0.length : Int) := of_decide_eq_true (by first | (with_reducible assumption) | assumption); omega)] <;> rfl) | rfl | (simp only [List.length_drop, List.length_take]; rfl)) ?_
                with_reducible refine (spec_l01Copy.calls _ _ (l0_0.take (a1 : Int).toNat) t160 _ ?side1 ?side2 A40.out).mono ?_
                (case side1 => repeat (first | exact (Kd.C_below HR159.out HB.out) | (with_reducible refine Kd.C_alloc ?_ _) | (with_reducible refine Kd.C_drewN ?_ _) | (with_reducible refine Kd.C_drew ?_)))
                (case side2 => exact HC159.out)
                rintro e w57 ⟨v161, rfl, ho0, hb⟩
                refine ⟨_, rfl, ?_⟩
                have HO162 := am (Kd.R_lower ho0 (below_size (bl HB.out)))
                replace BK152 := am (blk_below (pk BK152.out) hb)
                replace BK153 := am (blk_below (pk BK153.out) hb)
                replace BK158 := am (blk_below (pk BK158.out) hb)
                replace HB := am (below_step (bl HB.out) hb)
                (try clear hb)
                (try clear hb2)
                (try clear hk)
                (try clear hi)
                (try clear ho0)
                refine hK.out _ _ ⟨bc BK152.out 0, bc BK152.out 1, bc BK152.out 2⟩ (fun hHeld => ?_)
                clear hK K
                refine norm_ (a' := ?_) ?_ ?_
                rotate_left
                ·show Act.put _ (some 75) _ = _
                 simp only [Act.put, sa_, s0_, ss_, i64_w, i32_w]
                 rfl
                refine one_ (i := 6) (N := some 77) b45_30 rfl rfl (one_of HT_.out (by kernel_rfl)) (by decide) (fun K hK => ?_)
                refine Kd.R_append_rows_step (Kd.int .i64) (w0 := w) w.heap.size (by rfl) (.tmp 75) (.tmp 76) 22 2 (.int .i64 0) 8 rfl Try.underlying22 info2 rfl (by decide) (by omega) v161 t160 l3 _ _ _ (fun _ => True) (fun _ => False) rfl rfl ?aO ?aR (fun _ _ h => h) (fun _ h => h.elim) ?aF ?aB ?aS ?aL ?_
                (case aR => repeat (first | exact (Kd.C_below HR3.out HB.out) | (with_reducible refine Kd.C_alloc ?_ _) | (with_reducible refine Kd.C_drewN ?_ _) | (with_reducible refine Kd.C_drew ?_)))
                (case aB => exact (bl HB.out))
                (case aF => exact (fun _ _ => trivial))
                (case aO => exact (kr HO162.out))
                (case aS => exact (below_size (bl HB.out)))
                (case aL => have := LMc41.out; omega)
                intro v164 w58 ho hb hg hat
                rw [← Ny163.out] at ho
                replace BK152 := am (blk_grown (g := gb152) (o := .cells #[.slice A0_0 l0_0.length c0_0, .int .i64 a0_1, .int .i64 a0_2] 31 (0, 0)) (pk BK152.out) hg (Kd.R_ne HO162.out BK152.out (by decide)))
                replace BK153 := am (blk_grown (g := gb153) (o := .cells #[.slice none 0 0, .int .i64 0, .int .i64 0, .slice none 0 0, .int .i64 0] 49 (0, 0)) (pk BK153.out) hg (Kd.R_ne HO162.out BK153.out (by decide)))
                replace BK158 := am (blk_grown (g := gb158) (o := .cells #[.slice none 0 0, .int .i64 t156, .int .i64 t157] 31 (0, 0)) (pk BK158.out) hg (Kd.R_ne HO162.out BK158.out (by decide)))
                replace HB := am (hb)
                have HO165 := am (ho)
                clear HO162 ho hb hg hat
                refine hK.out _ _ ⟨bc BK152.out 0, bc BK152.out 1, bc BK152.out 2⟩ (fun hHeld => ?_)
                clear hK K
                refine norm_ (a' := ?_) ?_ ?_
                rotate_left
                ·show Act.put _ (some 77) _ = _
                 simp only [Act.put, sa_, s0_, ss_, i64_w, i32_w]
                 rfl
                refine one_ (i := 11) (N := some 82) b45_31 rfl rfl (one_of HT_.out (by kernel_rfl)) (by decide) (fun K hK => ?_)
                refine Kd.R_append_rows_step (Kd.int .i64) (w0 := w) w.heap.size (by rfl) (.tmp 77) (.tmp 81) 22 2 (.int .i64 0) 8 rfl Try.underlying22 info2 rfl (by decide) (by omega) v164 y163 (l0_0.drop (a2 : Int).toNat) _ _ _ (fun _ => True) (fun _ => False) rfl rfl ?aO ?aR (fun _ _ h => h) (fun _ h => h.elim) ?aF ?aB ?aS ?aL ?_
                (case aR => first | (rw [← show (l0_0.drop (a2 : Int).toNat).length = (l0_0.length - a2.toNat) from List.length_drop]; repeat (first | exact (Kd.C_below HR166.out HB.out) | (with_reducible refine Kd.C_alloc ?_ _) | (with_reducible refine Kd.C_drewN ?_ _) | (with_reducible refine Kd.C_drew ?_))) | (repeat (first | exact (Kd.C_below HR166.out HB.out) | (with_reducible refine Kd.C_alloc ?_ _) | (with_reducible refine Kd.C_drewN ?_ _) | (with_reducible refine Kd.C_drew ?_))))
                (case aB => exact (bl HB.out))
                (case aF => exact (fun _ _ => trivial))
                (case aO => exact (kr HO165.out))
                (case aS => exact (below_size (bl HB.out)))
                (case aL => have := LMc44.out; have hlx_ := (show (l0_0.drop (a2 : Int).toNat).length = (l0_0.length - a2.toNat) from List.length_drop); omega)
                intro v168 w59 ho hb hg hat
                rw [← Ny167.out] at ho
                replace BK152 := am (blk_grown (g := gb152) (o := .cells #[.slice A0_0 l0_0.length c0_0, .int .i64 a0_1, .int .i64 a0_2] 31 (0, 0)) (pk BK152.out) hg (Kd.R_ne HO165.out BK152.out (by decide)))
                replace BK153 := am (blk_grown (g := gb153) (o := .cells #[.slice none 0 0, .int .i64 0, .int .i64 0, .slice none 0 0, .int .i64 0] 49 (0, 0)) (pk BK153.out) hg (Kd.R_ne HO165.out BK153.out (by decide)))
                replace BK158 := am (blk_grown (g := gb158) (o := .cells #[.slice none 0 0, .int .i64 t156, .int .i64 t157] 31 (0, 0)) (pk BK158.out) hg (Kd.R_ne HO165.out BK158.out (by decide)))
                replace HB := am (hb)
                have HO169 := am (ho)
                clear HO165 ho hb hg hat
                obtain ⟨Ao60, co60, eo60⟩ := Kd.R_slice HO169.out
                (first | subst eo60 | (injection eo60 with f1_ f2_ f3_; have f4_ := f1_.symm; have f5_ := f3_.symm; clear f1_ f2_ f3_; subst f4_; subst f5_))
                refine hK.out _ _ ⟨bc BK152.out 0, bc BK152.out 1, bc BK152.out 2⟩ (fun hHeld => ?_)
                clear hK K
                refine norm_ (a' := ?_) ?_ ?_
                rotate_left
                ·show Act.put _ (some 82) _ = _
                 simp only [Act.put, sa_, s0_, ss_, i64_w, i32_w]
                 rfl
                refine pu_ 12 (some 83) ?_ b45_32 rfl rfl HT_.out (by kernel_rfl) (fun _ _ _ h => h) (Or.inl ⟨by rfl, ?_⟩) ?_ ?_ ?_; rotate_left
                ·intro w'; go_simp; with_reducible rfl
                rotate_left
                ·simp only [Act.put, sa_, s0_, ss_, i64_w, i32_w]; rfl
                refine one_ (i := 13) (N := none) b45_33 rfl rfl (one_of HT_.out (by kernel_rfl)) (by decide) (fun K hK => ?_)
                have hs61 : w59.cell? ⟨gb158, 0, none⟩ = some (.slice none 0 0) := bc BK158.out 0
                have hfs61 := blk_frozen BK158.out 0
                have hns61_0 := NB152_158.out
                have hns61_1 := NB153_158.out
                have hms61_0 := NB158_152.out
                have hms61_1 := NB158_153.out
                refine skip_ (w1 := ?_) (by rfl) rfl ?_ ?_
                rotate_left
                ·go_simp
                 rfl
                refine hK.out _ _ ⟨((cell_far (p := ⟨gb158, _, none⟩) NB152_158.out _).trans (hHeld.1)), ((cell_far (p := ⟨gb158, _, none⟩) NB152_158.out _).trans (hHeld.2.1)), ((cell_far (p := ⟨gb158, _, none⟩) NB152_158.out _).trans (hHeld.2.2))⟩ (fun hHeld => ?_)
                clear hK K
                refine done_ (done_of HT_.out (by kernel_rfl)) ?_
                have hnb62 := NB152_153.out
                have hnc62 := NB153_152.out
                have hnb63 := NB152_158.out
                have hnc63 := NB158_152.out
                have hcz64_0 : w59.cell? ⟨gb152, 0, none⟩ = some (.slice A0_0 l0_0.length c0_0) := bc BK152.out 0
                have hcz64_1 : w59.cell? ⟨gb152, 1, none⟩ = some (.int .i64 a0_1) := bc BK152.out 1
                have hcz64_2 : w59.cell? ⟨gb152, 2, none⟩ = some (.int .i64 a0_2) := bc BK152.out 2
                have hfz64_0 := blk_frozen BK152.out 0
                have hfz64_1 := blk_frozen BK152.out 1
                have hfz64_2 := blk_frozen BK152.out 2
                go_upto_if 92 with (fail)
                go_cut [] (fun wc => ∃ (kq : Nat) (x159001_45 : Int), Aside0 (spec_BufReplace.j2 kq a1 a2 l0_0 a0_1 a0_2 y167 x159001_45 t157 = some (r1, r2, r3, r4, r5)) ∧ Aside0 (kq ≤ kj24) ∧ Aside0 (Kd.R (Kd.int .i64) 2 wc w.heap.size (fun _ => True) (.slice Ao60 y167.length co60) y167) ∧ Aside0 (wc.heap[gb152]? = some (.cells #[(.slice A0_0 l0_0.length c0_0), .int .i64 a0_1, .int .i64 a0_2] 31 (0, 0))) ∧ Aside0 (wc.heap[gb153]? = some (.cells #[(.slice none 0 0), .int .i64 0, .int .i64 0, (.slice none 0 0), .int .i64 0] 49 (0, 0))) ∧ Aside0 (wc.heap[gb158]? = some (.cells #[(.slice Ao60 y167.length co60), .int .i64 x159001_45, .int .i64 t157] 31 (0, 0))) ∧ Aside0 (Below w.heap.size w wc))
                case first =>
                 have H := HC46.out
                 clear HC46
                 by_cases c65 : a0_1 = a1
                 ·rw [if_pos c65] at H
                  have c65b0 : (a0_1 == a1) = true := beq_iff_eq.mpr c65
                  have c65b1 : (a0_1 != a1) = false := bne_eq_false_iff_eq.mpr c65
                  clear c65
                  (first | rw [c65b0] | (simp only [i64_w, i32_w]; rw [c65b0]) | (have e9_ := c65b0; unfold bne at e9_; rw [e9_]) | skip)
                  have H' := Aside0.mk H
                  clear H
                  have hnb66 := NB158_152.out
                  have hnc66 := NB152_158.out
                  have hnb67 := NB158_153.out
                  have hnc67 := NB153_158.out
                  have hcz68_0 : w59.cell? ⟨gb158, 0, none⟩ = some (.slice none 0 0) := bc BK158.out 0
                  have hcz68_1 : w59.cell? ⟨gb158, 1, none⟩ = some (.int .i64 t156) := bc BK158.out 1
                  have hcz68_2 : w59.cell? ⟨gb158, 2, none⟩ = some (.int .i64 t157) := bc BK158.out 2
                  have hfz68_0 := blk_frozen BK158.out 0
                  have hfz68_1 := blk_frozen BK158.out 1
                  have hfz68_2 := blk_frozen BK158.out 2
                  go_wp2
                  go_meet
                  case rel => exact ⟨_, (wrap64 (a1 + (l3.length : Int))), H', ⟨by have := HJ9.out; have := HJ24.out; first | omega | exact Nat.le_refl _⟩, ⟨kr (Kd.R_mono (Kd.R_far (p := ⟨gb158, 1, none⟩) (Kd.R_far (p := ⟨gb158, 0, none⟩) (Kd.R_types HO169.out BK158.out (by decide)) (fun _ hk => hk.2) (.slice Ao60 y167.length co60)) (fun _ hk => hk.2) (.int .i64 (wrap64 (a1 + (l3.length : Int))))) (fun _ hk => trivial))⟩, ⟨by refine pk ?_; refine blk_far ?_ NB152_158.out _; refine pk ?_; refine blk_far ?_ NB152_158.out _; refine pk ?_; exact BK152.out⟩, ⟨by refine pk ?_; refine blk_far ?_ NB153_158.out _; refine pk ?_; refine blk_far ?_ NB153_158.out _; refine pk ?_; exact BK153.out⟩, ⟨by refine pk ?_; refine blk_put (cs := #[.slice Ao60 y167.length co60, .int .i64 t156, .int .i64 t157]) ?_ 1 _ rfl; refine pk ?_; refine blk_put (cs := #[.slice none 0 0, .int .i64 t156, .int .i64 t157]) ?_ 0 _ rfl; refine pk ?_; exact BK158.out⟩, ⟨by repeat (first | (with_reducible first | exact HB.out | apply below_alloc | apply pw_below_drewN | apply below_drew1 | refine below_set ?_ GE152.out | refine below_set ?_ GE153.out | refine below_set ?_ GE158.out) | exact HB.out)⟩⟩
                 ·rw [if_neg c65] at H
                  have c65b0 : (a0_1 == a1) = false := beq_eq_false_iff_ne.mpr c65
                  have c65b1 : (a0_1 != a1) = true := bne_iff_ne.mpr c65
                  (first | rw [c65b0] | (simp only [i64_w, i32_w]; rw [c65b0]) | (have e9_ := c65b0; unfold bne at e9_; rw [e9_]) | skip)
                  have H' := Aside0.mk H
                  clear H
                  go_wp2
                  go_meet
                  case rel => exact ⟨_, (t156), H', ⟨by have := HJ9.out; have := HJ24.out; first | omega | exact Nat.le_refl _⟩, ⟨kr (Kd.R_mono (Kd.R_far (p := ⟨gb158, 0, none⟩) (Kd.R_types HO169.out BK158.out (by decide)) (fun _ hk => hk.2) (.slice Ao60 y167.length co60)) (fun _ hk => trivial))⟩, ⟨by refine pk ?_; refine blk_far ?_ NB152_158.out _; refine pk ?_; exact BK152.out⟩, ⟨by refine pk ?_; refine blk_far ?_ NB153_158.out _; refine pk ?_; exact BK153.out⟩, ⟨by refine pk ?_; refine blk_put (cs := #[.slice none 0 0, .int .i64 t156, .int .i64 t157]) ?_ 0 _ rfl; refine pk ?_; exact BK158.out⟩, ⟨by repeat (first | (with_reducible first | exact HB.out | apply below_alloc | apply pw_below_drewN | apply below_drew1 | refine below_set ?_ GE152.out | refine below_set ?_ GE153.out | refine below_set ?_ GE158.out) | exact HB.out)⟩⟩
                case rest =>
                 clear HC46
                 try clear p2
                 try clear c4
                 try clear c6
                 try clear p6
                 try clear c41
                 try clear c44
                 try clear c62
                 try clear c63
                 try clear p64
                 try clear c65
                 try clear c65b0
                 try clear c65b1
                 try clear c66
                 try clear c67
                 try clear hcz64_0
                 try clear hcz64_1
                 try clear hcz64_2
                 try clear hcz68_0
                 try clear hcz68_1
                 try clear hcz68_2
                 try clear hfz64_0
                 try clear hfz64_1
                 try clear hfz64_2
                 try clear hfz68_0
                 try clear hfz68_1
                 try clear hfz68_2
                 obtain ⟨kq, x159001_45, HA, HJ45, HO_159000, BK152, BK153, BK158, HB⟩ := hcut
                 cases kq with
                 | zero => exact absurd HA.out (by simp [spec_BufReplace.j2])
                 | succ kj45 =>
                  have H := HA.out
                  clear HA
                  simp only [spec_BufReplace.j2] at H
                  by_cases c69 : 0 ≤ a1
                  ·rw [if_pos c69] at H
                   have c69b0 := eq_true c69
                   have c69b1 : decide (0 ≤ a1) = true := decide_eq_true c69
                   clear c69
                   by_cases c70 : a1 ≤ a2
                   ·rw [if_pos c70] at H
                    have c70b0 := eq_true c70
                    have c70b1 : decide (a1 ≤ a2) = true := decide_eq_true c70
                    clear c70
                    by_cases c71 : a2 ≤ (l0_0.length : Int)
                    ·rw [if_pos c71] at H
                     have c71b0 := eq_true c71
                     have c71b1 : decide (a2 ≤ (l0_0.length : Int)) = true := decide_eq_true c71
                     clear c71
                     replace H := Option.bind_eq_some_iff.mp H
                     obtain ⟨t171, A720, H⟩ := H
                     replace H : (some (y167, x159001_45, t157, t171, 0)) = some (r1, r2, r3, r4, r5) := H
                     have A72 := Aside0.mk A720
                     clear A720
                     simp only [Option.some.injEq, Prod.mk.injEq] at H
                     obtain ⟨rfl, rfl, rfl, rfl, rfl⟩ := H
                     try go_wp2
                     replace HO_159000 := am (Kd.R_drew HO_159000.out)
                     replace BK152 := am (blk_drew BK152.out)
                     replace BK153 := am (blk_drew BK153.out)
                     replace BK158 := am (blk_drew BK158.out)
                     replace HB := am (below_drew1 HB.out)
                     obtain ⟨i074, hi074, _, hsz74, _⟩ := info_parts info2
                     obtain ⟨A74, hcut74, hA74, hC74⟩ := print_mid_of (P := Try.prog) (Value.int .i64) 0 22 2 .i64 .i64 Try.underlying22 hi074 hsz74 A0_0 c0_0 l0_0 a1 a2 (of_decide_eq_true (by first | (with_reducible assumption) | assumption)) (by first | omega | exact of_decide_eq_true (by first | (with_reducible assumption) | assumption)) (of_decide_eq_true (by first | (with_reducible assumption) | assumption)) HC0_0.out
                     have HR170 := am (Kd.C_of_reads (h1 := fun _ => rfl) (hA74 _ (Kd.reads_of_C HR0_0.out)))
                     have HC170 := am hC74
                     clear hA74 hC74 hi074 hsz74
                     refine start_ (n := 9) (S := fun w' => w'.cell? ⟨gb158, 0, none⟩ = some (.slice Ao60 y167.length co60) ∧ w'.cell? ⟨gb158, 1, none⟩ = some (.int .i64 x159001_45) ∧ w'.cell? ⟨gb158, 2, none⟩ = some (.int .i64 t157) ∧ w'.cell? ⟨gb152, 0, none⟩ = some (.slice A0_0 l0_0.length c0_0) ∧ w'.cell? ⟨gb152, 1, none⟩ = some (.int .i64 a0_1) ∧ w'.cell? ⟨gb152, 2, none⟩ = some (.int .i64 a0_2)) (ds := []) b45_34 (by kernel_rfl) rfl rfl ⟨bc BK158.out 0, bc BK158.out 1, bc BK158.out 2, bc BK152.out 0, bc BK152.out 1, bc BK152.out 2⟩ (fun hHeld => ?_); refine with_tabW spec_BufReplace.tab16 spec_BufReplace.bits16 (fun HT_ HW_ => ?_)
                     generalize wc.drew = w73 at HO_159000 BK152 BK153 BK158 HB HR170 hHeld ⊢
                     refine pu_ 1 (some 98) ?_ b45_35 rfl rfl HT_.out (by kernel_rfl) (fun _ _ _ h => h) (Or.inl ⟨by rfl, ?_⟩) ?_ ?_ ?_; rotate_left
                     ·intro w'; go_simp; with_reducible rfl
                     rotate_left
                     ·simp only [Act.put, sa_, s0_, ss_, i64_w, i32_w]; rfl
                     refine pu_ 3 (some 100) ?_ b45_36 rfl rfl HT_.out (by kernel_rfl) (fun _ _ _ h => h) (Or.inl ⟨by rfl, ?_⟩) ?_ ?_ ?_; rotate_left
                     ·intro w'; go_simp; with_reducible rfl
                     rotate_left
                     ·simp only [Act.put, sa_, s0_, ss_, i64_w, i32_w]; rfl
                     refine pu_ 4 (some 101) ?_ b45_37 rfl rfl HT_.out (by kernel_rfl) (fun _ _ _ h => h) (Or.inl ⟨by rfl, ?_⟩) ?_ ?_ ?_; rotate_left
                     ·intro w'; go_simp; with_reducible rfl
                     rotate_left
                     ·simp only [Act.put, sa_, s0_, ss_, i64_w, i32_w]; rfl
                     refine tk_ 0 (some 97) ?_ b45_38 rfl rfl HT_.out HW_.out (by kernel_rfl) (fun _ _ _ h => h) (Or.inl ⟨by rfl, ?_⟩) hHeld ?_ ?_ ?_; rotate_left
                     ·rintro w' ⟨s0, s1, s2, s3, s4, s5⟩; go_simp; with_reducible rfl
                     rotate_left
                     ·simp only [Act.put, sa_, s0_, ss_, i64_w, i32_w]; rfl
                     refine tk_ 2 (some 99) ?_ b45_39 rfl rfl HT_.out HW_.out (by kernel_rfl) (fun _ _ _ h => h) (Or.inl ⟨by rfl, ?_⟩) hHeld ?_ ?_ ?_; rotate_left
                     ·rintro w' ⟨s0, s1, s2, s3, s4, s5⟩; go_simp; with_reducible rfl
                     rotate_left
                     ·simp only [Act.put, sa_, s0_, ss_, i64_w, i32_w]; rfl
                     refine pu_ 5 (some 102) ?_ b45_40 rfl rfl HT_.out (by kernel_rfl) (fun _ _ _ h => h) (Or.inl ⟨by rfl, ?_⟩) ?_ ?_ ?_; rotate_left
                     ·intro w'; go_simp; with_reducible rfl
                     rotate_left
                     ·simp only [Act.put, sa_, s0_, ss_, i64_w, i32_w]; rfl
                     refine one_ (i := 6) (N := some 103) b45_41 rfl rfl (one_of HT_.out (by kernel_rfl)) (by decide) (fun K hK => ?_)
                     refine goes_ Try.func41 (by kernel_rfl) rfl #[.slice A74 ((l0_0.take (a2 : Int).toNat).drop (a1 : Int).toNat).length (c0_0 - a1.toNat)] (by rfl) rfl rfl (by (try simp only [List.map_toArray, List.map_cons, List.map_nil]); first | done | (rw [show ((l0_0.take (a2 : Int).toNat).drop (a1 : Int).toNat).length = (a2.toNat - a1.toNat) from (by rw [List.length_drop, List.length_take]; have h_ : (a2 : Int) ≤ (l0_0.length : Int) := of_decide_eq_true (by first | (with_reducible assumption) | assumption); omega)] <;> rfl) | rfl | (simp only [List.length_drop, List.length_take]; rfl)) ?_
                     with_reducible refine (spec_l01Copy.calls _ _ ((l0_0.take (a2 : Int).toNat).drop (a1 : Int).toNat) t171 _ ?side1 ?side2 A72.out).mono ?_
                     (case side1 => repeat (first | exact (Kd.C_below HR170.out HB.out) | (with_reducible refine Kd.C_alloc ?_ _) | (with_reducible refine Kd.C_drewN ?_ _) | (with_reducible refine Kd.C_drew ?_)))
                     (case side2 => exact HC170.out)
                     rintro e w75 ⟨v172, rfl, ho0, hb⟩
                     refine ⟨_, rfl, ?_⟩
                     have HO173 := am (Kd.R_lower (Kd.R_new' ho0 (Kd.R_lt (kr HO_159000.out))) (below_size (bl HB.out)))
                     replace HO_159000 := am (Kd.R_elder' (kr HO_159000.out) (Kd.R_base ho0) hb)
                     replace BK152 := am (blk_below (pk BK152.out) hb)
                     replace BK153 := am (blk_below (pk BK153.out) hb)
                     replace BK158 := am (blk_below (pk BK158.out) hb)
                     replace HB := am (below_step (bl HB.out) hb)
                     (try clear hb)
                     (try clear hb2)
                     (try clear hk)
                     (try clear hi)
                     (try clear ho0)
                     obtain ⟨Ao76, co76, eo76⟩ := Kd.R_slice HO173.out
                     (first | subst eo76 | (injection eo76 with f1_ f2_ f3_; have f4_ := f1_.symm; have f5_ := f3_.symm; clear f1_ f2_ f3_; subst f4_; subst f5_))
                     refine hK.out _ _ ⟨bc BK158.out 0, bc BK158.out 1, bc BK158.out 2, bc BK152.out 0, bc BK152.out 1, bc BK152.out 2⟩ (fun hHeld => ?_)
                     clear hK K
                     refine norm_ (a' := ?_) ?_ ?_
                     rotate_left
                     ·show Act.put _ (some 103) _ = _
                      simp only [Act.put, sa_, s0_, ss_, i64_w, i32_w]
                      rfl
                     refine pu_ 7 (some 104) ?_ b45_42 rfl rfl HT_.out (by kernel_rfl) (fun _ _ _ h => h) (Or.inl ⟨by rfl, ?_⟩) ?_ ?_ ?_; rotate_left
                     ·intro w'; go_simp; with_reducible rfl
                     rotate_left
                     ·simp only [Act.put, sa_, s0_, ss_, i64_w, i32_w]; rfl
                     refine one_ (i := 8) (N := none) b45_43 rfl rfl (one_of HT_.out (by kernel_rfl)) (by decide) (fun K hK => ?_)
                     have hs77 : w75.cell? ⟨gb153, 0, none⟩ = some (.slice none 0 0) := bc BK153.out 0
                     have hfs77 := blk_frozen BK153.out 0
                     have hns77_0 := NB152_153.out
                     have hns77_2 := NB158_153.out
                     have hms77_0 := NB153_152.out
                     have hms77_2 := NB153_158.out
                     have hs78 : w75.cell? ⟨gb153, 1, none⟩ = some (.int .i64 0) := bc BK153.out 1
                     have hfs78 := blk_frozen BK153.out 1
                     have hs79 : w75.cell? ⟨gb153, 2, none⟩ = some (.int .i64 0) := bc BK153.out 2
                     have hfs79 := blk_frozen BK153.out 2
                     have hs80 : w75.cell? ⟨gb153, 3, none⟩ = some (.slice none 0 0) := bc BK153.out 3
                     have hfs80 := blk_frozen BK153.out 3
                     have hs81 : w75.cell? ⟨gb153, 4, none⟩ = some (.int .i64 0) := bc BK153.out 4
                     have hfs81 := blk_frozen BK153.out 4
                     refine skip_ (w1 := ?_) (by rfl) rfl ?_ ?_
                     rotate_left
                     ·go_simp
                      rfl
                     refine hK.out _ _ ⟨((cell_far (p := ⟨gb153, _, none⟩) NB158_153.out _).trans (((cell_far (p := ⟨gb153, _, none⟩) NB158_153.out _).trans (((cell_far (p := ⟨gb153, _, none⟩) NB158_153.out _).trans (((cell_far (p := ⟨gb153, _, none⟩) NB158_153.out _).trans (((cell_far (p := ⟨gb153, _, none⟩) NB158_153.out _).trans (hHeld.1)))))))))), ((cell_far (p := ⟨gb153, _, none⟩) NB158_153.out _).trans (((cell_far (p := ⟨gb153, _, none⟩) NB158_153.out _).trans (((cell_far (p := ⟨gb153, _, none⟩) NB158_153.out _).trans (((cell_far (p := ⟨gb153, _, none⟩) NB158_153.out _).trans (((cell_far (p := ⟨gb153, _, none⟩) NB158_153.out _).trans (hHeld.2.1)))))))))), ((cell_far (p := ⟨gb153, _, none⟩) NB158_153.out _).trans (((cell_far (p := ⟨gb153, _, none⟩) NB158_153.out _).trans (((cell_far (p := ⟨gb153, _, none⟩) NB158_153.out _).trans (((cell_far (p := ⟨gb153, _, none⟩) NB158_153.out _).trans (((cell_far (p := ⟨gb153, _, none⟩) NB158_153.out _).trans (hHeld.2.2.1)))))))))), ((cell_far (p := ⟨gb153, _, none⟩) NB152_153.out _).trans (((cell_far (p := ⟨gb153, _, none⟩) NB152_153.out _).trans (((cell_far (p := ⟨gb153, _, none⟩) NB152_153.out _).trans (((cell_far (p := ⟨gb153, _, none⟩) NB152_153.out _).trans (((cell_far (p := ⟨gb153, _, none⟩) NB152_153.out _).trans (hHeld.2.2.2.1)))))))))), ((cell_far (p := ⟨gb153, _, none⟩) NB152_153.out _).trans (((cell_far (p := ⟨gb153, _, none⟩) NB152_153.out _).trans (((cell_far (p := ⟨gb153, _, none⟩) NB152_153.out _).trans (((cell_far (p := ⟨gb153, _, none⟩) NB152_153.out _).trans (((cell_far (p := ⟨gb153, _, none⟩) NB152_153.out _).trans (hHeld.2.2.2.2.1)))))))))), ((cell_far (p := ⟨gb153, _, none⟩) NB152_153.out _).trans (((cell_far (p := ⟨gb153, _, none⟩) NB152_153.out _).trans (((cell_far (p := ⟨gb153, _, none⟩) NB152_153.out _).trans (((cell_far (p := ⟨gb153, _, none⟩) NB152_153.out _).trans (((cell_far (p := ⟨gb153, _, none⟩) NB152_153.out _).trans (hHeld.2.2.2.2.2))))))))))⟩ (fun hHeld => ?_)
                     clear hK K
                     refine done_ (done_of HT_.out (by kernel_rfl)) ?_
                     try go_wp2
                     refine bodyPost_ret (results_cell_row rfl _ _ gb153 49 #[.slice Ao60 y167.length co60, .int .i64 x159001_45, .int .i64 t157, .slice Ao76 t171.length co76, .int .i64 0] (0, 0) _ rfl (by refine pk ?_; refine blk_put (cs := #[.slice Ao60 y167.length co60, .int .i64 x159001_45, .int .i64 t157, .slice Ao76 t171.length co76, .int .i64 0]) ?_ 4 _ rfl; refine pk ?_; refine blk_put (cs := #[.slice Ao60 y167.length co60, .int .i64 x159001_45, .int .i64 t157, .slice none 0 0, .int .i64 0]) ?_ 3 _ rfl; refine pk ?_; refine blk_put (cs := #[.slice Ao60 y167.length co60, .int .i64 x159001_45, .int .i64 0, .slice none 0 0, .int .i64 0]) ?_ 2 _ rfl; refine pk ?_; refine blk_put (cs := #[.slice Ao60 y167.length co60, .int .i64 0, .int .i64 0, .slice none 0 0, .int .i64 0]) ?_ 1 _ rfl; refine pk ?_; refine blk_put (cs := #[.slice none 0 0, .int .i64 0, .int .i64 0, .slice none 0 0, .int .i64 0]) ?_ 0 _ rfl; refine pk ?_; exact BK153.out) Try.underlying49 rfl (by kernel_rfl)) rfl ?_
                     exact ⟨_, _, by first | rfl | (simp [errW_none, errW_some] <;> rfl) | (simp [*, errW_none, errW_some] <;> rfl), kr (Kd.R_mono (Kd.R_far (p := ⟨gb153, 4, none⟩) (Kd.R_far (p := ⟨gb153, 3, none⟩) (Kd.R_far (p := ⟨gb153, 2, none⟩) (Kd.R_far (p := ⟨gb153, 1, none⟩) (Kd.R_far (p := ⟨gb153, 0, none⟩) (Kd.R_types HO_159000.out BK153.out (by decide)) (fun _ hk => hk.2) (.slice Ao60 y167.length co60)) (fun _ hk => hk.2) (.int .i64 x159001_45)) (fun _ hk => hk.2) (.int .i64 t157)) (fun _ hk => hk.2) (.slice Ao76 t171.length co76)) (fun _ hk => hk.2) (.int .i64 0)) (fun _ hk => hk.1.2)), kr (Kd.R_mono (Kd.R_far (p := ⟨gb153, 4, none⟩) (Kd.R_far (p := ⟨gb153, 3, none⟩) (Kd.R_far (p := ⟨gb153, 2, none⟩) (Kd.R_far (p := ⟨gb153, 1, none⟩) (Kd.R_far (p := ⟨gb153, 0, none⟩) (Kd.R_types HO173.out BK153.out (by decide)) (fun _ hk => hk.2) (.slice Ao60 y167.length co60)) (fun _ hk => hk.2) (.int .i64 x159001_45)) (fun _ hk => hk.2) (.int .i64 t157)) (fun _ hk => hk.2) (.slice Ao76 t171.length co76)) (fun _ hk => hk.2) (.int .i64 0)) (fun _ hk => hk.1.2)), by repeat (first | (with_reducible first | exact HB.out | apply below_alloc | apply pw_below_drewN | apply below_drew1 | refine below_set ?_ GE152.out | refine below_set ?_ GE153.out | refine below_set ?_ GE158.out) | exact HB.out)⟩
                    ·rw [if_neg c71] at H
                     exact absurd H (by simp)
                   ·rw [if_neg c70] at H
                    exact absurd H (by simp)
                  ·rw [if_neg c69] at H
                   exact absurd H (by simp)
               ·rw [if_neg c45] at H
                have c45b0 : (a1 == a2) = false := beq_eq_false_iff_ne.mpr c45
                have c45b1 : (a1 != a2) = true := bne_iff_ne.mpr c45
                have c82b0 := eq_true (of_decide_eq_true (by first | (with_reducible assumption) | assumption) : 0 ≤ a1)
                by_cases c83 : a1 ≤ a2
                ·rw [if_pos c83] at H
                 have c83b0 := eq_true c83
                 have c83b1 : decide (a1 ≤ a2) = true := decide_eq_true c83
                 clear c83
                 have c84b0 := eq_true (of_decide_eq_true (by first | (with_reducible assumption) | assumption) : a2 ≤ (l0_0.length : Int))
                 replace H := Option.bind_eq_some_iff.mp H
                 obtain ⟨t175, A850, H⟩ := H
                 replace H : (some (y167, t156, t157, t175, 0)) = some (r1, r2, r3, r4, r5) := H
                 have A85 := Aside0.mk A850
                 clear A850
                 simp only [Option.some.injEq, Prod.mk.injEq] at H
                 obtain ⟨rfl, rfl, rfl, rfl, rfl⟩ := H
                 try go_wp2
                 replace BK152 := am (blk_drew BK152.out)
                 replace BK153 := am (blk_drew BK153.out)
                 replace HB := am (below_drew1 HB.out)
                 refine start_ (n := 15) (S := fun w' => w'.cell? ⟨gb152, 0, none⟩ = some (.slice A0_0 l0_0.length c0_0) ∧ w'.cell? ⟨gb152, 1, none⟩ = some (.int .i64 a0_1) ∧ w'.cell? ⟨gb152, 2, none⟩ = some (.int .i64 a0_2)) (ds := []) b45_0 (by kernel_rfl) rfl rfl ⟨bc BK152.out 0, bc BK152.out 1, bc BK152.out 2⟩ (fun hHeld => ?_); refine with_tabW spec_BufReplace.tab12 spec_BufReplace.bits12 (fun HT_ HW_ => ?_)
                 generalize wc.drew = w86 at BK152 BK153 HB hHeld ⊢
                 refine pu_ 0 (some 58) ?_ b45_1 rfl rfl HT_.out (by kernel_rfl) (fun _ _ _ h => h) (Or.inl ⟨by rfl, ?_⟩) ?_ ?_ ?_; rotate_left
                 ·intro w'; go_simp; with_reducible rfl
                 rotate_left
                 ·simp only [Act.put, sa_, s0_, ss_, i64_w, i32_w]; rfl
                 refine pu_ 2 (some 60) ?_ b45_2 rfl rfl HT_.out (by kernel_rfl) (fun _ _ _ h => h) (Or.inl ⟨by rfl, ?_⟩) ?_ ?_ ?_; rotate_left
                 ·intro w'; go_simp; with_reducible rfl
                 rotate_left
                 ·simp only [Act.put, sa_, s0_, ss_, i64_w, i32_w]; rfl
                 refine pu_ 3 (some 61) ?_ b45_3 rfl rfl HT_.out (by kernel_rfl) (fun _ _ _ h => h) (Or.inl ⟨by rfl, ?_⟩) ?_ ?_ ?_; rotate_left
                 ·intro w'; go_simp; with_reducible rfl
                 rotate_left
                 ·simp only [Act.put, sa_, s0_, ss_, i64_w, i32_w]; rfl
                 refine pu_ 4 (some 62) ?_ b45_4 rfl rfl HT_.out (by kernel_rfl) (fun _ _ _ h => h) (Or.inl ⟨by rfl, ?_⟩) ?_ ?_ ?_; rotate_left
                 ·intro w'; go_simp; with_reducible rfl
                 rotate_left
                 ·simp only [Act.put, sa_, s0_, ss_, i64_w, i32_w]; rfl
                 refine pu_ 6 (some 64) ?_ b45_5 rfl rfl HT_.out (by kernel_rfl) (fun _ _ _ h => h) (Or.inl ⟨by rfl, ?_⟩) ?_ ?_ ?_; rotate_left
                 ·intro w'; go_simp; with_reducible rfl
                 rotate_left
                 ·simp only [Act.put, sa_, s0_, ss_, i64_w, i32_w]; rfl
                 refine pu_ 8 (some 66) ?_ b45_6 rfl rfl HT_.out (by kernel_rfl) (fun _ _ _ h => h) (Or.inl ⟨by rfl, ?_⟩) ?_ ?_ ?_; rotate_left
                 ·intro w'; go_simp; with_reducible rfl
                 rotate_left
                 ·simp only [Act.put, sa_, s0_, ss_, i64_w, i32_w]; rfl
                 refine pu_ 9 (some 67) ?_ b45_7 rfl rfl HT_.out (by kernel_rfl) (fun _ _ _ h => h) (Or.inl ⟨by rfl, ?_⟩) ?_ ?_ ?_; rotate_left
                 ·intro w'; go_simp; with_reducible rfl
                 rotate_left
                 ·simp only [Act.put, sa_, s0_, ss_, i64_w, i32_w]; rfl
                 refine pu_ 10 (some 68) ?_ b45_8 rfl rfl HT_.out (by kernel_rfl) (fun _ _ _ h => h) (Or.inl ⟨by rfl, ?_⟩) ?_ ?_ ?_; rotate_left
                 ·intro w'; go_simp; with_reducible rfl
                 rotate_left
                 ·simp only [Act.put, sa_, s0_, ss_, i64_w, i32_w]; rfl
                 refine tk_ 1 (some 59) ?_ b45_9 rfl rfl HT_.out HW_.out (by kernel_rfl) (fun _ _ _ h => h) (Or.inl ⟨by rfl, ?_⟩) hHeld ?_ ?_ ?_; rotate_left
                 ·rintro w' ⟨s0, s1, s2⟩; go_simp; with_reducible rfl
                 rotate_left
                 ·simp only [Act.put, sa_, s0_, ss_, i64_w, i32_w]; rfl
                 refine tk_ 7 (some 65) ?_ b45_10 rfl rfl HT_.out HW_.out (by kernel_rfl) (fun _ _ _ h => h) (Or.inl ⟨by rfl, ?_⟩) hHeld ?_ ?_ ?_; rotate_left
                 ·rintro w' ⟨s0, s1, s2⟩; go_simp; with_reducible rfl
                 rotate_left
                 ·simp only [Act.put, sa_, s0_, ss_, i64_w, i32_w]; rfl
                 refine join_ (σ := Nat) 1 b45_11 (fun s_ => [(63, .int .i64 t156), (69, .int .i64 t157), (12, .pointer (some ⟨s_, 0, none⟩)), (70, .agg #[.slice none 0 0, .int .i64 t156, .int .i64 t157])]) (fun s_ w' => (w'.cell? ⟨gb152, 0, none⟩ = some (.slice A0_0 l0_0.length c0_0) ∧ w'.cell? ⟨gb152, 1, none⟩ = some (.int .i64 a0_1) ∧ w'.cell? ⟨gb152, 2, none⟩ = some (.int .i64 a0_2)) ∧ (w'.heap[gb152]? = some (.cells #[.slice A0_0 l0_0.length c0_0, .int .i64 a0_1, .int .i64 a0_2] 31 (0, 0))) ∧ (w'.heap[gb153]? = some (.cells #[.slice none 0 0, .int .i64 0, .int .i64 0, .slice none 0 0, .int .i64 0] 49 (0, 0))) ∧ (w'.heap[s_]? = some (.cells #[.slice none 0 0, .int .i64 0, .int .i64 0] 31 (0, 0))) ∧ (w.heap.size ≤ s_) ∧ (w.heap.size ≤ s_) ∧ (gb152 ≠ s_) ∧ (s_ ≠ gb152) ∧ (gb153 ≠ s_) ∧ (s_ ≠ gb153) ∧ (Below w.heap.size w w')) ?_ ?_
                 rotate_left
                 ·intro hCont
                  refine two_ (i := 5) (j := 13) (Ni := some 63) (Nj := some 12) b45_12 b45_13 rfl rfl rfl rfl (two_of HT_.out (by kernel_rfl)) (by decide) (by decide) (fun K hK => ?_) (fun K hK => ?_)
                  ·skip
                   refine gs_ Try.func65 #[.int .i64 a0_1, .int .i64 a1, .int .i64 a2, .int .i64 (wrap64 ((l3.length : Int) - (wrap64 (a2 - a1))))] ?_
                   with_reducible refine (spec_l02Moved.calls a0_1 a1 a2 (wrap64 ((l3.length : Int) - (wrap64 (a2 - a1)))) t156 _ A36.out).mono ?_
                   rintro e w' ⟨rfl, ⟨nd, rfl⟩⟩
                   refine ⟨_, rfl, ?_⟩
                   refine hK.out _ _ ⟨bc BK152.out 0, bc BK152.out 1, bc BK152.out 2⟩ (fun hHeld => ?_)
                   clear hK K
                   refine norm_ (a' := ?_) ?_ ?_
                   rotate_left
                   ·show Act.put _ (some 63) _ = _
                    simp only [Act.put, sa_, s0_, ss_, i64_w, i32_w]
                    rfl
                   refine two_ (i := 11) (j := 13) (Ni := some 69) (Nj := some 12) b45_14 b45_15 rfl rfl rfl rfl (two_of HT_.out (by kernel_rfl)) (by decide) (by decide) (fun K hK => ?_) (fun K hK => ?_)
                   ·skip
                    refine gs_ Try.func65 #[.int .i64 a0_2, .int .i64 a1, .int .i64 a2, .int .i64 (wrap64 ((l3.length : Int) - (wrap64 (a2 - a1))))] ?_
                    with_reducible refine (spec_l02Moved.calls a0_2 a1 a2 (wrap64 ((l3.length : Int) - (wrap64 (a2 - a1)))) t157 _ A37.out).mono ?_
                    rintro e w' ⟨rfl, ⟨nd, rfl⟩⟩
                    refine ⟨_, rfl, ?_⟩
                    refine hK.out _ _ ⟨bc BK152.out 0, bc BK152.out 1, bc BK152.out 2⟩ (fun hHeld => ?_)
                    clear hK K
                    refine norm_ (a' := ?_) ?_ ?_
                    rotate_left
                    ·show Act.put _ (some 69) _ = _
                     simp only [Act.put, sa_, s0_, ss_, i64_w, i32_w]
                     rfl
                    refine pu_ 12 (some 70) ?_ b45_16 rfl rfl HT_.out (by kernel_rfl) (fun _ _ _ h => h) (Or.inl ⟨by rfl, ?_⟩) ?_ ?_ ?_; rotate_left
                    ·intro w'; go_simp; with_reducible rfl
                    rotate_left
                    ·simp only [Act.put, sa_, s0_, ss_, i64_w, i32_w]; rfl
                    refine one_ (i := 13) (N := some 12) b45_11 rfl rfl (one_of HT_.out (by kernel_rfl)) (by decide) (fun K hK => ?_)
                    refine box_step ?hg (N := 12) ?hd (cs := #[.slice none 0 0, .int .i64 0, .int .i64 0]) (t := 31) ?hr ?_; (case hd => rfl); (case hg => rfl); (case hr => first | (go_simp; done) | (go_simp; rfl))
                    intro gb158 hg w87 hbox hb
                    have BK158 := am (hbox)
                    have GW158 := am ((by rw [hg]; exact (below_size (bl HB.out)) : w.heap.size ≤ gb158))
                    have GE158 := GW158
                    replace HB := am (below_step (bl HB.out) hb)
                    have NB152_158 := am ((by rw [hg]; exact Nat.ne_of_lt (blk_lt (pk BK152.out)) : gb152 ≠ gb158))
                    have NB158_152 := am ((by rw [hg]; exact Nat.ne_of_gt (blk_lt (pk BK152.out)) : gb158 ≠ gb152))
                    replace BK152 := am (blk_below (pk BK152.out) hb)
                    have NB153_158 := am ((by rw [hg]; exact Nat.ne_of_lt (blk_lt (pk BK153.out)) : gb153 ≠ gb158))
                    have NB158_153 := am ((by rw [hg]; exact Nat.ne_of_gt (blk_lt (pk BK153.out)) : gb158 ≠ gb153))
                    replace BK153 := am (blk_below (pk BK153.out) hb)
                    clear hb hbox hg
                    refine hK.out _ _ ⟨bc BK152.out 0, bc BK152.out 1, bc BK152.out 2⟩ (fun hHeld => ?_)
                    clear hK K
                    refine norm_ (a' := ?_) ?_ ?_
                    rotate_left
                    ·show Act.put _ (some 12) _ = _
                     simp only [Act.put, sa_, s0_, ss_, i64_w, i32_w]
                     rfl
                    exact norm_ (by simp only [putAll, Act.put, sa_, s0_, ss_]) (hCont (gb158) _ ⟨hHeld, (pk BK152.out), (pk BK153.out), (pk BK158.out), GW158.out, GE158.out, NB152_158.out, NB158_152.out, NB153_158.out, NB158_153.out, (bl HB.out)⟩)
                   ·skip
                    refine box_step ?hg (N := 12) ?hd (cs := #[.slice none 0 0, .int .i64 0, .int .i64 0]) (t := 31) ?hr ?_; (case hd => rfl); (case hg => rfl); (case hr => first | (go_simp; done) | (go_simp; rfl))
                    intro gb158 hg w87 hbox hb
                    have BK158 := am (hbox)
                    have GW158 := am ((by rw [hg]; exact (below_size (bl HB.out)) : w.heap.size ≤ gb158))
                    have GE158 := GW158
                    replace HB := am (below_step (bl HB.out) hb)
                    have NB152_158 := am ((by rw [hg]; exact Nat.ne_of_lt (blk_lt (pk BK152.out)) : gb152 ≠ gb158))
                    have NB158_152 := am ((by rw [hg]; exact Nat.ne_of_gt (blk_lt (pk BK152.out)) : gb158 ≠ gb152))
                    replace BK152 := am (blk_below (pk BK152.out) hb)
                    have NB153_158 := am ((by rw [hg]; exact Nat.ne_of_lt (blk_lt (pk BK153.out)) : gb153 ≠ gb158))
                    have NB158_153 := am ((by rw [hg]; exact Nat.ne_of_gt (blk_lt (pk BK153.out)) : gb158 ≠ gb153))
                    replace BK153 := am (blk_below (pk BK153.out) hb)
                    clear hb hbox hg
                    refine hK.out _ _ ⟨bc BK152.out 0, bc BK152.out 1, bc BK152.out 2⟩ (fun hHeld => ?_)
                    clear hK K
                    refine norm_ (a' := ?_) ?_ ?_
                    rotate_left
                    ·show Act.put _ (some 12) _ = _
                     simp only [Act.put, sa_, s0_, ss_, i64_w, i32_w]
                     rfl
                    refine one_ (i := 11) (N := some 69) b45_17 rfl rfl (one_of HT_.out (by kernel_rfl)) (by decide) (fun K hK => ?_)
                    refine gs_ Try.func65 #[.int .i64 a0_2, .int .i64 a1, .int .i64 a2, .int .i64 (wrap64 ((l3.length : Int) - (wrap64 (a2 - a1))))] ?_
                    with_reducible refine (spec_l02Moved.calls a0_2 a1 a2 (wrap64 ((l3.length : Int) - (wrap64 (a2 - a1)))) t157 _ A37.out).mono ?_
                    rintro e w' ⟨rfl, ⟨nd, rfl⟩⟩
                    refine ⟨_, rfl, ?_⟩
                    refine hK.out _ _ ⟨bc BK152.out 0, bc BK152.out 1, bc BK152.out 2⟩ (fun hHeld => ?_)
                    clear hK K
                    refine norm_ (a' := ?_) ?_ ?_
                    rotate_left
                    ·show Act.put _ (some 69) _ = _
                     simp only [Act.put, sa_, s0_, ss_, i64_w, i32_w]
                     rfl
                    refine pu_ 12 (some 70) ?_ b45_11 rfl rfl HT_.out (by kernel_rfl) (fun _ _ _ h => h) (Or.inl ⟨by rfl, ?_⟩) ?_ ?_ ?_; rotate_left
                    ·intro w'; go_simp; with_reducible rfl
                    rotate_left
                    ·simp only [Act.put, sa_, s0_, ss_, i64_w, i32_w]; rfl
                    exact norm_ (by simp only [putAll, Act.put, sa_, s0_, ss_]) (hCont (gb158) _ ⟨hHeld, (pk BK152.out), (pk BK153.out), (pk BK158.out), GW158.out, GE158.out, NB152_158.out, NB158_152.out, NB153_158.out, NB158_153.out, (bl HB.out)⟩)
                  ·skip
                   refine box_step ?hg (N := 12) ?hd (cs := #[.slice none 0 0, .int .i64 0, .int .i64 0]) (t := 31) ?hr ?_; (case hd => rfl); (case hg => rfl); (case hr => first | (go_simp; done) | (go_simp; rfl))
                   intro gb158 hg w87 hbox hb
                   have BK158 := am (hbox)
                   have GW158 := am ((by rw [hg]; exact (below_size (bl HB.out)) : w.heap.size ≤ gb158))
                   have GE158 := GW158
                   replace HB := am (below_step (bl HB.out) hb)
                   have NB152_158 := am ((by rw [hg]; exact Nat.ne_of_lt (blk_lt (pk BK152.out)) : gb152 ≠ gb158))
                   have NB158_152 := am ((by rw [hg]; exact Nat.ne_of_gt (blk_lt (pk BK152.out)) : gb158 ≠ gb152))
                   replace BK152 := am (blk_below (pk BK152.out) hb)
                   have NB153_158 := am ((by rw [hg]; exact Nat.ne_of_lt (blk_lt (pk BK153.out)) : gb153 ≠ gb158))
                   have NB158_153 := am ((by rw [hg]; exact Nat.ne_of_gt (blk_lt (pk BK153.out)) : gb158 ≠ gb153))
                   replace BK153 := am (blk_below (pk BK153.out) hb)
                   clear hb hbox hg
                   refine hK.out _ _ ⟨bc BK152.out 0, bc BK152.out 1, bc BK152.out 2⟩ (fun hHeld => ?_)
                   clear hK K
                   refine norm_ (a' := ?_) ?_ ?_
                   rotate_left
                   ·show Act.put _ (some 12) _ = _
                    simp only [Act.put, sa_, s0_, ss_, i64_w, i32_w]
                    rfl
                   refine one_ (i := 5) (N := some 63) b45_15 rfl rfl (one_of HT_.out (by kernel_rfl)) (by decide) (fun K hK => ?_)
                   refine gs_ Try.func65 #[.int .i64 a0_1, .int .i64 a1, .int .i64 a2, .int .i64 (wrap64 ((l3.length : Int) - (wrap64 (a2 - a1))))] ?_
                   with_reducible refine (spec_l02Moved.calls a0_1 a1 a2 (wrap64 ((l3.length : Int) - (wrap64 (a2 - a1)))) t156 _ A36.out).mono ?_
                   rintro e w' ⟨rfl, ⟨nd, rfl⟩⟩
                   refine ⟨_, rfl, ?_⟩
                   refine hK.out _ _ ⟨bc BK152.out 0, bc BK152.out 1, bc BK152.out 2⟩ (fun hHeld => ?_)
                   clear hK K
                   refine norm_ (a' := ?_) ?_ ?_
                   rotate_left
                   ·show Act.put _ (some 63) _ = _
                    simp only [Act.put, sa_, s0_, ss_, i64_w, i32_w]
                    rfl
                   refine one_ (i := 11) (N := some 69) b45_17 rfl rfl (one_of HT_.out (by kernel_rfl)) (by decide) (fun K hK => ?_)
                   refine gs_ Try.func65 #[.int .i64 a0_2, .int .i64 a1, .int .i64 a2, .int .i64 (wrap64 ((l3.length : Int) - (wrap64 (a2 - a1))))] ?_
                   with_reducible refine (spec_l02Moved.calls a0_2 a1 a2 (wrap64 ((l3.length : Int) - (wrap64 (a2 - a1)))) t157 _ A37.out).mono ?_
                   rintro e w' ⟨rfl, ⟨nd, rfl⟩⟩
                   refine ⟨_, rfl, ?_⟩
                   refine hK.out _ _ ⟨bc BK152.out 0, bc BK152.out 1, bc BK152.out 2⟩ (fun hHeld => ?_)
                   clear hK K
                   refine norm_ (a' := ?_) ?_ ?_
                   rotate_left
                   ·show Act.put _ (some 69) _ = _
                    simp only [Act.put, sa_, s0_, ss_, i64_w, i32_w]
                    rfl
                   refine pu_ 12 (some 70) ?_ b45_11 rfl rfl HT_.out (by kernel_rfl) (fun _ _ _ h => h) (Or.inl ⟨by rfl, ?_⟩) ?_ ?_ ?_; rotate_left
                   ·intro w'; go_simp; with_reducible rfl
                   rotate_left
                   ·simp only [Act.put, sa_, s0_, ss_, i64_w, i32_w]; rfl
                   exact norm_ (by simp only [putAll, Act.put, sa_, s0_, ss_]) (hCont (gb158) _ ⟨hHeld, (pk BK152.out), (pk BK153.out), (pk BK158.out), GW158.out, GE158.out, NB152_158.out, NB158_152.out, NB153_158.out, NB158_153.out, (bl HB.out)⟩)
                 rintro gb158 w88 ⟨hS_, h0_, h1_, h2_, h3_, h4_, h5_, h6_, h7_, h8_, h9_⟩
                 replace BK152 : Aside0 (w88.heap[gb152]? = some (.cells #[.slice A0_0 l0_0.length c0_0, .int .i64 a0_1, .int .i64 a0_2] 31 (0, 0))) := ⟨h0_⟩
                 replace BK153 : Aside0 (w88.heap[gb153]? = some (.cells #[.slice none 0 0, .int .i64 0, .int .i64 0, .slice none 0 0, .int .i64 0] 49 (0, 0))) := ⟨h1_⟩
                 have BK158 : Aside0 (w88.heap[gb158]? = some (.cells #[.slice none 0 0, .int .i64 0, .int .i64 0] 31 (0, 0))) := ⟨h2_⟩
                 have GW158 : Aside0 (w.heap.size ≤ gb158) := ⟨h3_⟩
                 have GE158 : Aside0 (w.heap.size ≤ gb158) := ⟨h4_⟩
                 have NB152_158 : Aside0 (gb152 ≠ gb158) := ⟨h5_⟩
                 have NB158_152 : Aside0 (gb158 ≠ gb152) := ⟨h6_⟩
                 have NB153_158 : Aside0 (gb153 ≠ gb158) := ⟨h7_⟩
                 have NB158_153 : Aside0 (gb158 ≠ gb153) := ⟨h8_⟩
                 replace HB : Aside0 (Below w.heap.size w w88) := ⟨h9_⟩
                 clear h0_ h1_ h2_ h3_ h4_ h5_ h6_ h7_ h8_ h9_
                 have hHeld : w88.cell? ⟨gb152, 0, none⟩ = some (.slice A0_0 l0_0.length c0_0) ∧ w88.cell? ⟨gb152, 1, none⟩ = some (.int .i64 a0_1) ∧ w88.cell? ⟨gb152, 2, none⟩ = some (.int .i64 a0_2) := hS_
                 refine norm_ (a' := ?_) ?_ ?_
                 rotate_left
                 ·simp only [putAll, Act.put, sa_, s0_, ss_]
                  rfl
                 refine one_ (i := 14) (N := none) b45_18 rfl rfl (one_of HT_.out (by kernel_rfl)) (by decide) (fun K hK => ?_)
                 have hs89 : w88.cell? ⟨gb158, 0, none⟩ = some (.slice none 0 0) := bc BK158.out 0
                 have hfs89 := blk_frozen BK158.out 0
                 have hns89_0 := NB152_158.out
                 have hns89_1 := NB153_158.out
                 have hms89_0 := NB158_152.out
                 have hms89_1 := NB158_153.out
                 have hs90 : w88.cell? ⟨gb158, 1, none⟩ = some (.int .i64 0) := bc BK158.out 1
                 have hfs90 := blk_frozen BK158.out 1
                 have hs91 : w88.cell? ⟨gb158, 2, none⟩ = some (.int .i64 0) := bc BK158.out 2
                 have hfs91 := blk_frozen BK158.out 2
                 refine skip_ (w1 := ?_) (by rfl) rfl ?_ ?_
                 rotate_left
                 ·go_simp
                  rfl
                 refine hK.out _ _ ⟨((cell_far (p := ⟨gb158, _, none⟩) NB152_158.out _).trans (((cell_far (p := ⟨gb158, _, none⟩) NB152_158.out _).trans (((cell_far (p := ⟨gb158, _, none⟩) NB152_158.out _).trans (hHeld.1)))))), ((cell_far (p := ⟨gb158, _, none⟩) NB152_158.out _).trans (((cell_far (p := ⟨gb158, _, none⟩) NB152_158.out _).trans (((cell_far (p := ⟨gb158, _, none⟩) NB152_158.out _).trans (hHeld.2.1)))))), ((cell_far (p := ⟨gb158, _, none⟩) NB152_158.out _).trans (((cell_far (p := ⟨gb158, _, none⟩) NB152_158.out _).trans (((cell_far (p := ⟨gb158, _, none⟩) NB152_158.out _).trans (hHeld.2.2))))))⟩ (fun hHeld => ?_)
                 clear hK K
                 refine done_ (done_of HT_.out (by kernel_rfl)) ?_
                 (try (rw [drewN_self w88]; generalize hq_ : World.drewN w88 _ = w88; replace BK152 := am (blk_at hq_ BK152.out); replace BK153 := am (blk_at hq_ BK153.out); replace BK158 := am (blk_at hq_ BK158.out); replace HB := am (below_at hq_ HB.out); clear hq_))
                 try go_wp2
                 have n0_ : Aside0 ((((w88.setCell ⟨gb158, 0, none⟩ (.slice none 0 0)).setCell ⟨gb158, 1, none⟩ (.int .i64 t156)).setCell ⟨gb158, 2, none⟩ (.int .i64 t157)).heap[gb152]? = some (.cells #[.slice A0_0 l0_0.length c0_0, .int .i64 a0_1, .int .i64 a0_2] 31 (0, 0))) := ⟨by refine pk ?_; refine blk_far ?_ NB152_158.out _; refine pk ?_; refine blk_far ?_ NB152_158.out _; refine pk ?_; refine blk_far ?_ NB152_158.out _; refine pk ?_; exact BK152.out⟩
                 have n1_ : Aside0 ((((w88.setCell ⟨gb158, 0, none⟩ (.slice none 0 0)).setCell ⟨gb158, 1, none⟩ (.int .i64 t156)).setCell ⟨gb158, 2, none⟩ (.int .i64 t157)).heap[gb153]? = some (.cells #[.slice none 0 0, .int .i64 0, .int .i64 0, .slice none 0 0, .int .i64 0] 49 (0, 0))) := ⟨by refine pk ?_; refine blk_far ?_ NB153_158.out _; refine pk ?_; refine blk_far ?_ NB153_158.out _; refine pk ?_; refine blk_far ?_ NB153_158.out _; refine pk ?_; exact BK153.out⟩
                 have n2_ : Aside0 ((((w88.setCell ⟨gb158, 0, none⟩ (.slice none 0 0)).setCell ⟨gb158, 1, none⟩ (.int .i64 t156)).setCell ⟨gb158, 2, none⟩ (.int .i64 t157)).heap[gb158]? = some (.cells #[.slice none 0 0, .int .i64 t156, .int .i64 t157] 31 (0, 0))) := ⟨by refine pk ?_; refine blk_put (cs := #[.slice none 0 0, .int .i64 t156, .int .i64 0]) ?_ 2 _ rfl; refine pk ?_; refine blk_put (cs := #[.slice none 0 0, .int .i64 0, .int .i64 0]) ?_ 1 _ rfl; refine pk ?_; refine blk_put (cs := #[.slice none 0 0, .int .i64 0, .int .i64 0]) ?_ 0 _ rfl; refine pk ?_; exact BK158.out⟩
                 have n3_ : Aside0 (Below w.heap.size w (((w88.setCell ⟨gb158, 0, none⟩ (.slice none 0 0)).setCell ⟨gb158, 1, none⟩ (.int .i64 t156)).setCell ⟨gb158, 2, none⟩ (.int .i64 t157))) := ⟨by repeat (first | (with_reducible first | exact HB.out | apply below_alloc | apply pw_below_drewN | apply below_drew1 | refine below_set ?_ GE152.out | refine below_set ?_ GE153.out | refine below_set ?_ GE158.out) | exact HB.out)⟩
                 (try clear BK152)
                 (try clear BK153)
                 (try clear BK158)
                 (try clear HB)
                 generalize (((w88.setCell ⟨gb158, 0, none⟩ (.slice none 0 0)).setCell ⟨gb158, 1, none⟩ (.int .i64 t156)).setCell ⟨gb158, 2, none⟩ (.int .i64 t157)) = w92 at n0_ n1_ n2_ n3_ ⊢
                 have BK152 := n0_
                 have BK153 := n1_
                 have BK158 := n2_
                 have HB := n3_
                 clear n0_ n1_ n2_ n3_
                 replace BK152 := am (blk_drew BK152.out)
                 replace BK153 := am (blk_drew BK153.out)
                 replace BK158 := am (blk_drew BK158.out)
                 replace HB := am (below_drew1 HB.out)
                 obtain ⟨i094, hi094, _, hsz94, _⟩ := info_parts info2
                 obtain ⟨hcut94, hA94, hC94⟩ := print_take_of (P := Try.prog) (Value.int .i64) 0 22 2 .i64 Try.underlying22 hi094 hsz94 A0_0 c0_0 l0_0 a1 (of_decide_eq_true (by first | (with_reducible assumption) | assumption)) (of_decide_eq_true (by first | (with_reducible assumption) | assumption)) HC0_0.out
                 have HR159 := am (Kd.C_of_reads (h1 := fun _ => rfl) (hA94 _ (Kd.reads_of_C HR0_0.out)))
                 have HC159 := am hC94
                 clear hA94 hC94 hi094 hsz94
                 obtain ⟨i095, hi095, _, hsz95, _⟩ := info_parts info2
                 obtain ⟨A95, hcut95, hA95, hC95⟩ := print_drop_of (P := Try.prog) (Value.int .i64) 0 22 2 .i64 Try.underlying22 hi095 hsz95 A0_0 c0_0 l0_0 a2 (of_decide_eq_true (by first | (with_reducible assumption) | assumption)) (of_decide_eq_true (by first | (with_reducible assumption) | assumption)) HC0_0.out
                 have HR166 := am (Kd.C_of_reads (h1 := fun _ => rfl) (hA95 _ (Kd.reads_of_C HR0_0.out)))
                 have HC166 := am hC95
                 clear hA95 hC95 hi095 hsz95
                 refine start_ (n := 14) (S := fun w' => w'.cell? ⟨gb152, 0, none⟩ = some (.slice A0_0 l0_0.length c0_0) ∧ w'.cell? ⟨gb152, 1, none⟩ = some (.int .i64 a0_1) ∧ w'.cell? ⟨gb152, 2, none⟩ = some (.int .i64 a0_2)) (ds := []) b45_19 (by kernel_rfl) rfl rfl ⟨bc BK152.out 0, bc BK152.out 1, bc BK152.out 2⟩ (fun hHeld => ?_); refine with_tabW spec_BufReplace.tab13 spec_BufReplace.bits13 (fun HT_ HW_ => ?_)
                 generalize w92.drew = w93 at BK152 BK153 BK158 HB HR159 HR166 hHeld ⊢
                 refine pu_ 0 (some 71) ?_ b45_20 rfl rfl HT_.out (by kernel_rfl) (fun _ _ _ h => h) (Or.inl ⟨by rfl, ?_⟩) ?_ ?_ ?_; rotate_left
                 ·intro w'; go_simp; with_reducible rfl
                 rotate_left
                 ·simp only [Act.put, sa_, s0_, ss_, i64_w, i32_w]; rfl
                 refine pu_ 2 (some 73) ?_ b45_21 rfl rfl HT_.out (by kernel_rfl) (fun _ _ _ h => h) (Or.inl ⟨by rfl, ?_⟩) ?_ ?_ ?_; rotate_left
                 ·intro w'; go_simp; with_reducible rfl
                 rotate_left
                 ·simp only [Act.put, sa_, s0_, ss_, i64_w, i32_w]; rfl
                 refine pu_ 5 (some 76) ?_ b45_22 rfl rfl HT_.out (by kernel_rfl) (fun _ _ _ h => h) (Or.inl ⟨by rfl, ?_⟩) ?_ ?_ ?_; rotate_left
                 ·intro w'; go_simp; with_reducible rfl
                 rotate_left
                 ·simp only [Act.put, sa_, s0_, ss_, i64_w, i32_w]; rfl
                 refine pu_ 7 (some 78) ?_ b45_23 rfl rfl HT_.out (by kernel_rfl) (fun _ _ _ h => h) (Or.inl ⟨by rfl, ?_⟩) ?_ ?_ ?_; rotate_left
                 ·intro w'; go_simp; with_reducible rfl
                 rotate_left
                 ·simp only [Act.put, sa_, s0_, ss_, i64_w, i32_w]; rfl
                 refine pu_ 9 (some 80) ?_ b45_24 rfl rfl HT_.out (by kernel_rfl) (fun _ _ _ h => h) (Or.inl ⟨by rfl, ?_⟩) ?_ ?_ ?_; rotate_left
                 ·intro w'; go_simp; with_reducible rfl
                 rotate_left
                 ·simp only [Act.put, sa_, s0_, ss_, i64_w, i32_w]; rfl
                 refine tk_ 1 (some 72) ?_ b45_25 rfl rfl HT_.out HW_.out (by kernel_rfl) (fun _ _ _ h => h) (Or.inl ⟨by rfl, ?_⟩) hHeld ?_ ?_ ?_; rotate_left
                 ·rintro w' ⟨s0, s1, s2⟩; go_simp; with_reducible rfl
                 rotate_left
                 ·simp only [Act.put, sa_, s0_, ss_, i64_w, i32_w]; rfl
                 refine pu_ 3 (some 74) ?_ b45_26 rfl rfl HT_.out (by kernel_rfl) (fun _ _ _ h => h) (Or.inl ⟨by rfl, ?_⟩) ?_ ?_ ?_; rotate_left
                 ·intro w'; go_simp; with_reducible rfl
                 rotate_left
                 ·simp only [Act.put, sa_, s0_, ss_, i64_w, i32_w]; rfl
                 refine tk_ 8 (some 79) ?_ b45_27 rfl rfl HT_.out HW_.out (by kernel_rfl) (fun _ _ _ h => h) (Or.inl ⟨by rfl, ?_⟩) hHeld ?_ ?_ ?_; rotate_left
                 ·rintro w' ⟨s0, s1, s2⟩; go_simp; with_reducible rfl
                 rotate_left
                 ·simp only [Act.put, sa_, s0_, ss_, i64_w, i32_w]; rfl
                 refine pu_ 10 (some 81) ?_ b45_28 rfl rfl HT_.out (by kernel_rfl) (fun _ _ _ h => h) (Or.inl ⟨by rfl, ?_⟩) ?_ ?_ ?_; rotate_left
                 ·intro w'; go_simp; with_reducible rfl
                 rotate_left
                 ·simp only [Act.put, sa_, s0_, ss_, i64_w, i32_w]; rfl
                 refine one_ (i := 4) (N := some 75) b45_29 rfl rfl (one_of HT_.out (by kernel_rfl)) (by decide) (fun K hK => ?_)
                 refine goes_ Try.func41 (by kernel_rfl) rfl #[.slice A0_0 (l0_0.take (a1 : Int).toNat).length c0_0] (by rfl) rfl rfl (by (try simp only [List.map_toArray, List.map_cons, List.map_nil]); first | done | (rw [show (l0_0.take (a1 : Int).toNat).length = a1.toNat from (by rw [List.length_take]; have h_ : (a1 : Int) ≤ (l0_0.length : Int) := of_decide_eq_true (by first | (with_reducible assumption) | assumption); omega)] <;> rfl) | rfl | (simp only [List.length_drop, List.length_take]; rfl)) ?_
                 with_reducible refine (spec_l01Copy.calls _ _ (l0_0.take (a1 : Int).toNat) t160 _ ?side1 ?side2 A40.out).mono ?_
                 (case side1 => repeat (first | exact (Kd.C_below HR159.out HB.out) | (with_reducible refine Kd.C_alloc ?_ _) | (with_reducible refine Kd.C_drewN ?_ _) | (with_reducible refine Kd.C_drew ?_)))
                 (case side2 => exact HC159.out)
                 rintro e w96 ⟨v161, rfl, ho0, hb⟩
                 refine ⟨_, rfl, ?_⟩
                 have HO162 := am (Kd.R_lower ho0 (below_size (bl HB.out)))
                 replace BK152 := am (blk_below (pk BK152.out) hb)
                 replace BK153 := am (blk_below (pk BK153.out) hb)
                 replace BK158 := am (blk_below (pk BK158.out) hb)
                 replace HB := am (below_step (bl HB.out) hb)
                 (try clear hb)
                 (try clear hb2)
                 (try clear hk)
                 (try clear hi)
                 (try clear ho0)
                 refine hK.out _ _ ⟨bc BK152.out 0, bc BK152.out 1, bc BK152.out 2⟩ (fun hHeld => ?_)
                 clear hK K
                 refine norm_ (a' := ?_) ?_ ?_
                 rotate_left
                 ·show Act.put _ (some 75) _ = _
                  simp only [Act.put, sa_, s0_, ss_, i64_w, i32_w]
                  rfl
                 refine one_ (i := 6) (N := some 77) b45_30 rfl rfl (one_of HT_.out (by kernel_rfl)) (by decide) (fun K hK => ?_)
                 refine Kd.R_append_rows_step (Kd.int .i64) (w0 := w) w.heap.size (by rfl) (.tmp 75) (.tmp 76) 22 2 (.int .i64 0) 8 rfl Try.underlying22 info2 rfl (by decide) (by omega) v161 t160 l3 _ _ _ (fun _ => True) (fun _ => False) rfl rfl ?aO ?aR (fun _ _ h => h) (fun _ h => h.elim) ?aF ?aB ?aS ?aL ?_
                 (case aR => repeat (first | exact (Kd.C_below HR3.out HB.out) | (with_reducible refine Kd.C_alloc ?_ _) | (with_reducible refine Kd.C_drewN ?_ _) | (with_reducible refine Kd.C_drew ?_)))
                 (case aB => exact (bl HB.out))
                 (case aF => exact (fun _ _ => trivial))
                 (case aO => exact (kr HO162.out))
                 (case aS => exact (below_size (bl HB.out)))
                 (case aL => have := LMc41.out; omega)
                 intro v164 w97 ho hb hg hat
                 rw [← Ny163.out] at ho
                 replace BK152 := am (blk_grown (g := gb152) (o := .cells #[.slice A0_0 l0_0.length c0_0, .int .i64 a0_1, .int .i64 a0_2] 31 (0, 0)) (pk BK152.out) hg (Kd.R_ne HO162.out BK152.out (by decide)))
                 replace BK153 := am (blk_grown (g := gb153) (o := .cells #[.slice none 0 0, .int .i64 0, .int .i64 0, .slice none 0 0, .int .i64 0] 49 (0, 0)) (pk BK153.out) hg (Kd.R_ne HO162.out BK153.out (by decide)))
                 replace BK158 := am (blk_grown (g := gb158) (o := .cells #[.slice none 0 0, .int .i64 t156, .int .i64 t157] 31 (0, 0)) (pk BK158.out) hg (Kd.R_ne HO162.out BK158.out (by decide)))
                 replace HB := am (hb)
                 have HO165 := am (ho)
                 clear HO162 ho hb hg hat
                 refine hK.out _ _ ⟨bc BK152.out 0, bc BK152.out 1, bc BK152.out 2⟩ (fun hHeld => ?_)
                 clear hK K
                 refine norm_ (a' := ?_) ?_ ?_
                 rotate_left
                 ·show Act.put _ (some 77) _ = _
                  simp only [Act.put, sa_, s0_, ss_, i64_w, i32_w]
                  rfl
                 refine one_ (i := 11) (N := some 82) b45_31 rfl rfl (one_of HT_.out (by kernel_rfl)) (by decide) (fun K hK => ?_)
                 refine Kd.R_append_rows_step (Kd.int .i64) (w0 := w) w.heap.size (by rfl) (.tmp 77) (.tmp 81) 22 2 (.int .i64 0) 8 rfl Try.underlying22 info2 rfl (by decide) (by omega) v164 y163 (l0_0.drop (a2 : Int).toNat) _ _ _ (fun _ => True) (fun _ => False) rfl rfl ?aO ?aR (fun _ _ h => h) (fun _ h => h.elim) ?aF ?aB ?aS ?aL ?_
                 (case aR => first | (rw [← show (l0_0.drop (a2 : Int).toNat).length = (l0_0.length - a2.toNat) from List.length_drop]; repeat (first | exact (Kd.C_below HR166.out HB.out) | (with_reducible refine Kd.C_alloc ?_ _) | (with_reducible refine Kd.C_drewN ?_ _) | (with_reducible refine Kd.C_drew ?_))) | (repeat (first | exact (Kd.C_below HR166.out HB.out) | (with_reducible refine Kd.C_alloc ?_ _) | (with_reducible refine Kd.C_drewN ?_ _) | (with_reducible refine Kd.C_drew ?_))))
                 (case aB => exact (bl HB.out))
                 (case aF => exact (fun _ _ => trivial))
                 (case aO => exact (kr HO165.out))
                 (case aS => exact (below_size (bl HB.out)))
                 (case aL => have := LMc44.out; have hlx_ := (show (l0_0.drop (a2 : Int).toNat).length = (l0_0.length - a2.toNat) from List.length_drop); omega)
                 intro v168 w98 ho hb hg hat
                 rw [← Ny167.out] at ho
                 replace BK152 := am (blk_grown (g := gb152) (o := .cells #[.slice A0_0 l0_0.length c0_0, .int .i64 a0_1, .int .i64 a0_2] 31 (0, 0)) (pk BK152.out) hg (Kd.R_ne HO165.out BK152.out (by decide)))
                 replace BK153 := am (blk_grown (g := gb153) (o := .cells #[.slice none 0 0, .int .i64 0, .int .i64 0, .slice none 0 0, .int .i64 0] 49 (0, 0)) (pk BK153.out) hg (Kd.R_ne HO165.out BK153.out (by decide)))
                 replace BK158 := am (blk_grown (g := gb158) (o := .cells #[.slice none 0 0, .int .i64 t156, .int .i64 t157] 31 (0, 0)) (pk BK158.out) hg (Kd.R_ne HO165.out BK158.out (by decide)))
                 replace HB := am (hb)
                 have HO169 := am (ho)
                 clear HO165 ho hb hg hat
                 obtain ⟨Ao99, co99, eo99⟩ := Kd.R_slice HO169.out
                 (first | subst eo99 | (injection eo99 with f1_ f2_ f3_; have f4_ := f1_.symm; have f5_ := f3_.symm; clear f1_ f2_ f3_; subst f4_; subst f5_))
                 refine hK.out _ _ ⟨bc BK152.out 0, bc BK152.out 1, bc BK152.out 2⟩ (fun hHeld => ?_)
                 clear hK K
                 refine norm_ (a' := ?_) ?_ ?_
                 rotate_left
                 ·show Act.put _ (some 82) _ = _
                  simp only [Act.put, sa_, s0_, ss_, i64_w, i32_w]
                  rfl
                 refine pu_ 12 (some 83) ?_ b45_32 rfl rfl HT_.out (by kernel_rfl) (fun _ _ _ h => h) (Or.inl ⟨by rfl, ?_⟩) ?_ ?_ ?_; rotate_left
                 ·intro w'; go_simp; with_reducible rfl
                 rotate_left
                 ·simp only [Act.put, sa_, s0_, ss_, i64_w, i32_w]; rfl
                 refine one_ (i := 13) (N := none) b45_33 rfl rfl (one_of HT_.out (by kernel_rfl)) (by decide) (fun K hK => ?_)
                 have hs100 : w98.cell? ⟨gb158, 0, none⟩ = some (.slice none 0 0) := bc BK158.out 0
                 have hfs100 := blk_frozen BK158.out 0
                 have hns100_0 := NB152_158.out
                 have hns100_1 := NB153_158.out
                 have hms100_0 := NB158_152.out
                 have hms100_1 := NB158_153.out
                 refine skip_ (w1 := ?_) (by rfl) rfl ?_ ?_
                 rotate_left
                 ·go_simp
                  rfl
                 refine hK.out _ _ ⟨((cell_far (p := ⟨gb158, _, none⟩) NB152_158.out _).trans (hHeld.1)), ((cell_far (p := ⟨gb158, _, none⟩) NB152_158.out _).trans (hHeld.2.1)), ((cell_far (p := ⟨gb158, _, none⟩) NB152_158.out _).trans (hHeld.2.2))⟩ (fun hHeld => ?_)
                 clear hK K
                 refine done_ (done_of HT_.out (by kernel_rfl)) ?_
                 try go_wp2
                 have n0_ : Aside0 (Kd.R (Kd.int .i64) 2 (w98.setCell ⟨gb158, 0, none⟩ (.slice Ao99 y167.length co99)) w.heap.size (fun _ => True) (.slice Ao99 y167.length co99) y167) := ⟨kr (Kd.R_mono (Kd.R_far (p := ⟨gb158, 0, none⟩) (Kd.R_types HO169.out BK158.out (by decide)) (fun _ hk => hk.2) (.slice Ao99 y167.length co99)) (fun _ hk => trivial))⟩
                 have n1_ : Aside0 ((w98.setCell ⟨gb158, 0, none⟩ (.slice Ao99 y167.length co99)).heap[gb152]? = some (.cells #[.slice A0_0 l0_0.length c0_0, .int .i64 a0_1, .int .i64 a0_2] 31 (0, 0))) := ⟨by refine pk ?_; refine blk_far ?_ NB152_158.out _; refine pk ?_; exact BK152.out⟩
                 have n2_ : Aside0 ((w98.setCell ⟨gb158, 0, none⟩ (.slice Ao99 y167.length co99)).heap[gb153]? = some (.cells #[.slice none 0 0, .int .i64 0, .int .i64 0, .slice none 0 0, .int .i64 0] 49 (0, 0))) := ⟨by refine pk ?_; refine blk_far ?_ NB153_158.out _; refine pk ?_; exact BK153.out⟩
                 have n3_ : Aside0 ((w98.setCell ⟨gb158, 0, none⟩ (.slice Ao99 y167.length co99)).heap[gb158]? = some (.cells #[.slice Ao99 y167.length co99, .int .i64 t156, .int .i64 t157] 31 (0, 0))) := ⟨by refine pk ?_; refine blk_put (cs := #[.slice none 0 0, .int .i64 t156, .int .i64 t157]) ?_ 0 _ rfl; refine pk ?_; exact BK158.out⟩
                 have n4_ : Aside0 (Below w.heap.size w (w98.setCell ⟨gb158, 0, none⟩ (.slice Ao99 y167.length co99))) := ⟨by repeat (first | (with_reducible first | exact HB.out | apply below_alloc | apply pw_below_drewN | apply below_drew1 | refine below_set ?_ GE152.out | refine below_set ?_ GE153.out | refine below_set ?_ GE158.out) | exact HB.out)⟩
                 (try clear HO169)
                 (try clear BK152)
                 (try clear BK153)
                 (try clear BK158)
                 (try clear HB)
                 generalize (w98.setCell ⟨gb158, 0, none⟩ (.slice Ao99 y167.length co99)) = w101 at n0_ n1_ n2_ n3_ n4_ ⊢
                 have HO169 := n0_
                 have BK152 := n1_
                 have BK153 := n2_
                 have BK158 := n3_
                 have HB := n4_
                 clear n0_ n1_ n2_ n3_ n4_
                 replace HO169 := am (Kd.R_drew HO169.out)
                 replace BK152 := am (blk_drew BK152.out)
                 replace BK153 := am (blk_drew BK153.out)
                 replace BK158 := am (blk_drew BK158.out)
                 replace HB := am (below_drew1 HB.out)
                 obtain ⟨i0103, hi0103, _, hsz103, _⟩ := info_parts info2
                 obtain ⟨A103, hcut103, hA103, hC103⟩ := print_mid_of (P := Try.prog) (Value.int .i64) 0 22 2 .i64 .i64 Try.underlying22 hi0103 hsz103 A0_0 c0_0 l0_0 a1 a2 (of_decide_eq_true (by first | (with_reducible assumption) | assumption)) (by first | omega | exact of_decide_eq_true (by first | (with_reducible assumption) | assumption)) (of_decide_eq_true (by first | (with_reducible assumption) | assumption)) HC0_0.out
                 have HR174 := am (Kd.C_of_reads (h1 := fun _ => rfl) (hA103 _ (Kd.reads_of_C HR0_0.out)))
                 have HC174 := am hC103
                 clear hA103 hC103 hi0103 hsz103
                 refine start_ (n := 9) (S := fun w' => w'.cell? ⟨gb158, 0, none⟩ = some (.slice Ao99 y167.length co99) ∧ w'.cell? ⟨gb158, 1, none⟩ = some (.int .i64 t156) ∧ w'.cell? ⟨gb158, 2, none⟩ = some (.int .i64 t157) ∧ w'.cell? ⟨gb152, 0, none⟩ = some (.slice A0_0 l0_0.length c0_0) ∧ w'.cell? ⟨gb152, 1, none⟩ = some (.int .i64 a0_1) ∧ w'.cell? ⟨gb152, 2, none⟩ = some (.int .i64 a0_2)) (ds := []) b45_34 (by kernel_rfl) rfl rfl ⟨bc BK158.out 0, bc BK158.out 1, bc BK158.out 2, bc BK152.out 0, bc BK152.out 1, bc BK152.out 2⟩ (fun hHeld => ?_); refine with_tabW spec_BufReplace.tab16 spec_BufReplace.bits16 (fun HT_ HW_ => ?_)
                 generalize w101.drew = w102 at HO169 BK152 BK153 BK158 HB HR174 hHeld ⊢
                 refine pu_ 1 (some 98) ?_ b45_35 rfl rfl HT_.out (by kernel_rfl) (fun _ _ _ h => h) (Or.inl ⟨by rfl, ?_⟩) ?_ ?_ ?_; rotate_left
                 ·intro w'; go_simp; with_reducible rfl
                 rotate_left
                 ·simp only [Act.put, sa_, s0_, ss_, i64_w, i32_w]; rfl
                 refine pu_ 3 (some 100) ?_ b45_36 rfl rfl HT_.out (by kernel_rfl) (fun _ _ _ h => h) (Or.inl ⟨by rfl, ?_⟩) ?_ ?_ ?_; rotate_left
                 ·intro w'; go_simp; with_reducible rfl
                 rotate_left
                 ·simp only [Act.put, sa_, s0_, ss_, i64_w, i32_w]; rfl
                 refine pu_ 4 (some 101) ?_ b45_37 rfl rfl HT_.out (by kernel_rfl) (fun _ _ _ h => h) (Or.inl ⟨by rfl, ?_⟩) ?_ ?_ ?_; rotate_left
                 ·intro w'; go_simp; with_reducible rfl
                 rotate_left
                 ·simp only [Act.put, sa_, s0_, ss_, i64_w, i32_w]; rfl
                 refine tk_ 0 (some 97) ?_ b45_38 rfl rfl HT_.out HW_.out (by kernel_rfl) (fun _ _ _ h => h) (Or.inl ⟨by rfl, ?_⟩) hHeld ?_ ?_ ?_; rotate_left
                 ·rintro w' ⟨s0, s1, s2, s3, s4, s5⟩; go_simp; with_reducible rfl
                 rotate_left
                 ·simp only [Act.put, sa_, s0_, ss_, i64_w, i32_w]; rfl
                 refine tk_ 2 (some 99) ?_ b45_39 rfl rfl HT_.out HW_.out (by kernel_rfl) (fun _ _ _ h => h) (Or.inl ⟨by rfl, ?_⟩) hHeld ?_ ?_ ?_; rotate_left
                 ·rintro w' ⟨s0, s1, s2, s3, s4, s5⟩; go_simp; with_reducible rfl
                 rotate_left
                 ·simp only [Act.put, sa_, s0_, ss_, i64_w, i32_w]; rfl
                 refine pu_ 5 (some 102) ?_ b45_40 rfl rfl HT_.out (by kernel_rfl) (fun _ _ _ h => h) (Or.inl ⟨by rfl, ?_⟩) ?_ ?_ ?_; rotate_left
                 ·intro w'; go_simp; with_reducible rfl
                 rotate_left
                 ·simp only [Act.put, sa_, s0_, ss_, i64_w, i32_w]; rfl
                 refine one_ (i := 6) (N := some 103) b45_41 rfl rfl (one_of HT_.out (by kernel_rfl)) (by decide) (fun K hK => ?_)
                 refine goes_ Try.func41 (by kernel_rfl) rfl #[.slice A103 ((l0_0.take (a2 : Int).toNat).drop (a1 : Int).toNat).length (c0_0 - a1.toNat)] (by rfl) rfl rfl (by (try simp only [List.map_toArray, List.map_cons, List.map_nil]); first | done | (rw [show ((l0_0.take (a2 : Int).toNat).drop (a1 : Int).toNat).length = (a2.toNat - a1.toNat) from (by rw [List.length_drop, List.length_take]; have h_ : (a2 : Int) ≤ (l0_0.length : Int) := of_decide_eq_true (by first | (with_reducible assumption) | assumption); omega)] <;> rfl) | rfl | (simp only [List.length_drop, List.length_take]; rfl)) ?_
                 with_reducible refine (spec_l01Copy.calls _ _ ((l0_0.take (a2 : Int).toNat).drop (a1 : Int).toNat) t175 _ ?side1 ?side2 A85.out).mono ?_
                 (case side1 => repeat (first | exact (Kd.C_below HR174.out HB.out) | (with_reducible refine Kd.C_alloc ?_ _) | (with_reducible refine Kd.C_drewN ?_ _) | (with_reducible refine Kd.C_drew ?_)))
                 (case side2 => exact HC174.out)
                 rintro e w104 ⟨v176, rfl, ho0, hb⟩
                 refine ⟨_, rfl, ?_⟩
                 have HO177 := am (Kd.R_lower (Kd.R_new' ho0 (Kd.R_lt (kr HO169.out))) (below_size (bl HB.out)))
                 replace HO169 := am (Kd.R_elder' (kr HO169.out) (Kd.R_base ho0) hb)
                 replace BK152 := am (blk_below (pk BK152.out) hb)
                 replace BK153 := am (blk_below (pk BK153.out) hb)
                 replace BK158 := am (blk_below (pk BK158.out) hb)
                 replace HB := am (below_step (bl HB.out) hb)
                 (try clear hb)
                 (try clear hb2)
                 (try clear hk)
                 (try clear hi)
                 (try clear ho0)
                 obtain ⟨Ao105, co105, eo105⟩ := Kd.R_slice HO177.out
                 (first | subst eo105 | (injection eo105 with f1_ f2_ f3_; have f4_ := f1_.symm; have f5_ := f3_.symm; clear f1_ f2_ f3_; subst f4_; subst f5_))
                 refine hK.out _ _ ⟨bc BK158.out 0, bc BK158.out 1, bc BK158.out 2, bc BK152.out 0, bc BK152.out 1, bc BK152.out 2⟩ (fun hHeld => ?_)
                 clear hK K
                 refine norm_ (a' := ?_) ?_ ?_
                 rotate_left
                 ·show Act.put _ (some 103) _ = _
                  simp only [Act.put, sa_, s0_, ss_, i64_w, i32_w]
                  rfl
                 refine pu_ 7 (some 104) ?_ b45_42 rfl rfl HT_.out (by kernel_rfl) (fun _ _ _ h => h) (Or.inl ⟨by rfl, ?_⟩) ?_ ?_ ?_; rotate_left
                 ·intro w'; go_simp; with_reducible rfl
                 rotate_left
                 ·simp only [Act.put, sa_, s0_, ss_, i64_w, i32_w]; rfl
                 refine one_ (i := 8) (N := none) b45_43 rfl rfl (one_of HT_.out (by kernel_rfl)) (by decide) (fun K hK => ?_)
                 have hs106 : w104.cell? ⟨gb153, 0, none⟩ = some (.slice none 0 0) := bc BK153.out 0
                 have hfs106 := blk_frozen BK153.out 0
                 have hns106_0 := NB152_153.out
                 have hns106_2 := NB158_153.out
                 have hms106_0 := NB153_152.out
                 have hms106_2 := NB153_158.out
                 have hs107 : w104.cell? ⟨gb153, 1, none⟩ = some (.int .i64 0) := bc BK153.out 1
                 have hfs107 := blk_frozen BK153.out 1
                 have hs108 : w104.cell? ⟨gb153, 2, none⟩ = some (.int .i64 0) := bc BK153.out 2
                 have hfs108 := blk_frozen BK153.out 2
                 have hs109 : w104.cell? ⟨gb153, 3, none⟩ = some (.slice none 0 0) := bc BK153.out 3
                 have hfs109 := blk_frozen BK153.out 3
                 have hs110 : w104.cell? ⟨gb153, 4, none⟩ = some (.int .i64 0) := bc BK153.out 4
                 have hfs110 := blk_frozen BK153.out 4
                 refine skip_ (w1 := ?_) (by rfl) rfl ?_ ?_
                 rotate_left
                 ·go_simp
                  rfl
                 refine hK.out _ _ ⟨((cell_far (p := ⟨gb153, _, none⟩) NB158_153.out _).trans (((cell_far (p := ⟨gb153, _, none⟩) NB158_153.out _).trans (((cell_far (p := ⟨gb153, _, none⟩) NB158_153.out _).trans (((cell_far (p := ⟨gb153, _, none⟩) NB158_153.out _).trans (((cell_far (p := ⟨gb153, _, none⟩) NB158_153.out _).trans (hHeld.1)))))))))), ((cell_far (p := ⟨gb153, _, none⟩) NB158_153.out _).trans (((cell_far (p := ⟨gb153, _, none⟩) NB158_153.out _).trans (((cell_far (p := ⟨gb153, _, none⟩) NB158_153.out _).trans (((cell_far (p := ⟨gb153, _, none⟩) NB158_153.out _).trans (((cell_far (p := ⟨gb153, _, none⟩) NB158_153.out _).trans (hHeld.2.1)))))))))), ((cell_far (p := ⟨gb153, _, none⟩) NB158_153.out _).trans (((cell_far (p := ⟨gb153, _, none⟩) NB158_153.out _).trans (((cell_far (p := ⟨gb153, _, none⟩) NB158_153.out _).trans (((cell_far (p := ⟨gb153, _, none⟩) NB158_153.out _).trans (((cell_far (p := ⟨gb153, _, none⟩) NB158_153.out _).trans (hHeld.2.2.1)))))))))), ((cell_far (p := ⟨gb153, _, none⟩) NB152_153.out _).trans (((cell_far (p := ⟨gb153, _, none⟩) NB152_153.out _).trans (((cell_far (p := ⟨gb153, _, none⟩) NB152_153.out _).trans (((cell_far (p := ⟨gb153, _, none⟩) NB152_153.out _).trans (((cell_far (p := ⟨gb153, _, none⟩) NB152_153.out _).trans (hHeld.2.2.2.1)))))))))), ((cell_far (p := ⟨gb153, _, none⟩) NB152_153.out _).trans (((cell_far (p := ⟨gb153, _, none⟩) NB152_153.out _).trans (((cell_far (p := ⟨gb153, _, none⟩) NB152_153.out _).trans (((cell_far (p := ⟨gb153, _, none⟩) NB152_153.out _).trans (((cell_far (p := ⟨gb153, _, none⟩) NB152_153.out _).trans (hHeld.2.2.2.2.1)))))))))), ((cell_far (p := ⟨gb153, _, none⟩) NB152_153.out _).trans (((cell_far (p := ⟨gb153, _, none⟩) NB152_153.out _).trans (((cell_far (p := ⟨gb153, _, none⟩) NB152_153.out _).trans (((cell_far (p := ⟨gb153, _, none⟩) NB152_153.out _).trans (((cell_far (p := ⟨gb153, _, none⟩) NB152_153.out _).trans (hHeld.2.2.2.2.2))))))))))⟩ (fun hHeld => ?_)
                 clear hK K
                 refine done_ (done_of HT_.out (by kernel_rfl)) ?_
                 try go_wp2
                 refine bodyPost_ret (results_cell_row rfl _ _ gb153 49 #[.slice Ao99 y167.length co99, .int .i64 t156, .int .i64 t157, .slice Ao105 t175.length co105, .int .i64 0] (0, 0) _ rfl (by refine pk ?_; refine blk_put (cs := #[.slice Ao99 y167.length co99, .int .i64 t156, .int .i64 t157, .slice Ao105 t175.length co105, .int .i64 0]) ?_ 4 _ rfl; refine pk ?_; refine blk_put (cs := #[.slice Ao99 y167.length co99, .int .i64 t156, .int .i64 t157, .slice none 0 0, .int .i64 0]) ?_ 3 _ rfl; refine pk ?_; refine blk_put (cs := #[.slice Ao99 y167.length co99, .int .i64 t156, .int .i64 0, .slice none 0 0, .int .i64 0]) ?_ 2 _ rfl; refine pk ?_; refine blk_put (cs := #[.slice Ao99 y167.length co99, .int .i64 0, .int .i64 0, .slice none 0 0, .int .i64 0]) ?_ 1 _ rfl; refine pk ?_; refine blk_put (cs := #[.slice none 0 0, .int .i64 0, .int .i64 0, .slice none 0 0, .int .i64 0]) ?_ 0 _ rfl; refine pk ?_; exact BK153.out) Try.underlying49 rfl (by kernel_rfl)) rfl ?_
                 exact ⟨_, _, by first | rfl | (simp [errW_none, errW_some] <;> rfl) | (simp [*, errW_none, errW_some] <;> rfl), kr (Kd.R_mono (Kd.R_far (p := ⟨gb153, 4, none⟩) (Kd.R_far (p := ⟨gb153, 3, none⟩) (Kd.R_far (p := ⟨gb153, 2, none⟩) (Kd.R_far (p := ⟨gb153, 1, none⟩) (Kd.R_far (p := ⟨gb153, 0, none⟩) (Kd.R_types HO169.out BK153.out (by decide)) (fun _ hk => hk.2) (.slice Ao99 y167.length co99)) (fun _ hk => hk.2) (.int .i64 t156)) (fun _ hk => hk.2) (.int .i64 t157)) (fun _ hk => hk.2) (.slice Ao105 t175.length co105)) (fun _ hk => hk.2) (.int .i64 0)) (fun _ hk => hk.1.2)), kr (Kd.R_mono (Kd.R_far (p := ⟨gb153, 4, none⟩) (Kd.R_far (p := ⟨gb153, 3, none⟩) (Kd.R_far (p := ⟨gb153, 2, none⟩) (Kd.R_far (p := ⟨gb153, 1, none⟩) (Kd.R_far (p := ⟨gb153, 0, none⟩) (Kd.R_types HO177.out BK153.out (by decide)) (fun _ hk => hk.2) (.slice Ao99 y167.length co99)) (fun _ hk => hk.2) (.int .i64 t156)) (fun _ hk => hk.2) (.int .i64 t157)) (fun _ hk => hk.2) (.slice Ao105 t175.length co105)) (fun _ hk => hk.2) (.int .i64 0)) (fun _ hk => hk.1.2)), by repeat (first | (with_reducible first | exact HB.out | apply below_alloc | apply pw_below_drewN | apply below_drew1 | refine below_set ?_ GE152.out | refine below_set ?_ GE153.out | refine below_set ?_ GE158.out) | exact HB.out)⟩
                ·rw [if_neg c83] at H
                 exact absurd H (by simp)
              ·rw [if_neg c44] at H
               exact absurd H (by simp)
             ·rw [if_neg c43] at H
              exact absurd H (by simp)
            ·rw [if_neg c42] at H
             exact absurd H (by simp)
           ·rw [if_neg c41] at H
            exact absurd H (by simp)
          ·rw [if_neg c39] at H
           exact absurd H (by simp)
         ·rw [if_neg c38] at H
          exact absurd H (by simp)

end Go.Proofs.Ytabinbmcfeknjaa.PFnExactUndoRun
