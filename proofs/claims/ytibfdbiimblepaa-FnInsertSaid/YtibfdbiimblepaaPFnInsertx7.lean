-- Written by xprint.py (this claim's own program, over the kit's printer); Lean checks it.
import Derived.Test.YtibfdbiimblepaaPFnInsertx0
import Derived.Test.YtibfdbiimblepaaPFnInsertx6
namespace Go.Proofs.Ytibfdbiimblepaa.PFnInsert
open Go.RowKit Go.Proofs.YtibfdbiimblepaaW.PrintWords Go.Proofs.YtibfdbiimblepaaW.PrintLast Go.Proofs.YtibfdbiimblepaaW.PrintMore
attribute [local go_sem] max2_int min2_int max_two min_two max_three min_three max_four min_four   -- for this text's walks alone
set_option linter.unusedVariables false
set_option linter.unusedSimpArgs false   -- squeezed

/-! ### impl_replace: function 45 -/
@[reducible] def b45_0 : Array Bool := (br true [0, 14]).toArray
@[reducible] def b45_1 : Array Bool := (br true [1, 13]).toArray
@[reducible] def b45_2 : Array Bool := (br true [2, 12]).toArray
@[reducible] def b45_3 : Array Bool := (br true [3, 11]).toArray
@[reducible] def b45_4 : Array Bool := (br true [4, 10]).toArray
@[reducible] def b45_5 : Array Bool := (br true [5, 9]).toArray
@[reducible] def b45_6 : Array Bool := (br true [6, 8]).toArray
@[reducible] def b45_7 : Array Bool := (br true [7, 7]).toArray
@[reducible] def b45_8 : Array Bool := (br true [8, 6]).toArray
@[reducible] def b45_9 : Array Bool := (br true [9, 5]).toArray
@[reducible] def b45_10 : Array Bool := (br true [10, 4]).toArray
@[reducible] def b45_11 : Array Bool := (br true [11, 3]).toArray
@[reducible] def b45_12 : Array Bool := (br true [12, 2]).toArray
@[reducible] def b45_13 : Array Bool := (br true [13, 1]).toArray
@[reducible] def b45_14 : Array Bool := (br true [14]).toArray
@[reducible] def b45_15 : Array Bool := (br true [0, 8]).toArray
@[reducible] def b45_16 : Array Bool := (br true [1, 7]).toArray
@[reducible] def b45_17 : Array Bool := (br true [1, 1, 1, 5]).toArray
@[reducible] def b45_18 : Array Bool := (br true [1, 1, 2, 4]).toArray
@[reducible] def b45_19 : Array Bool := (br true [1, 1, 3, 3]).toArray
@[reducible] def b45_20 : Array Bool := (br true [7, 1]).toArray
@[reducible] def b45_21 : Array Bool := (br true [5, 3]).toArray
@[reducible] def b45_22 : Array Bool := (br true [1, 1, 3, 1, 1, 1]).toArray
@[reducible] def b45_23 : Array Bool := (br true [6, 2]).toArray
@[reducible] def b45_24 : Array Bool := (br true [5, 1, 1, 1]).toArray
@[reducible] def b45_25 : Array Bool := (br true [8]).toArray
@[reducible] def b45_26 : Array Bool := (br true [0, 6]).toArray
@[reducible] def b45_27 : Array Bool := (br true [1, 5]).toArray
@[reducible] def b45_28 : Array Bool := (br true [2, 4]).toArray
@[reducible] def b45_29 : Array Bool := (br true [2, 1, 1, 2]).toArray
@[reducible] def b45_30 : Array Bool := (br true [4, 2]).toArray
@[reducible] def b45_31 : Array Bool := (br true [5, 1]).toArray
@[reducible] def b45_32 : Array Bool := (br true [6]).toArray
@[reducible] def b45_33 : Array Bool := (br true [21, 1]).toArray
@[reducible] def b45_34 : Array Bool := (br true [20, 2]).toArray
@[reducible] def b45_35 : Array Bool := (br true [18, 2, 1, 1]).toArray
@[reducible] def b45_36 : Array Bool := (br true [18, 4]).toArray
@[reducible] def b45_37 : Array Bool := (br true [14, 1, 3, 2, 1, 1]).toArray
@[reducible] def b45_38 : Array Bool := (br true [14, 1, 3, 4]).toArray
@[reducible] def b45_39 : Array Bool := (br true [10, 1, 3, 1, 3, 2, 1, 1]).toArray
@[reducible] def b45_40 : Array Bool := (br true [10, 1, 3, 1, 3, 4]).toArray
@[reducible] def b45_41 : Array Bool := (br true [9, 2, 3, 1, 3, 2, 1, 1]).toArray
mutual
def impl_replace.j0 : Nat → List Int → Bool → List Int → Int → Int → Int → Int → Option (List Int × Int × Int × List Int × Int)
 | 0, _, _, _, _, _, _, _ => none
 | k + 1, x3, x25, x358000, x358001, x358002, x359000, x360000 => if x25 = true then (some (([] : List Int), 0, 0, ([] : List Int), 8)) else ((impl_size_int64.f x3).bind fun t362 => ((impl_size_int64.f x358000).bind fun t364 => (if (wrap64 (t364 + (wrap64 (t362 - (wrap64 (x360000 - x359000)))))) > 300 then (some (([] : List Int), 0, 0, ([] : List Int), 5)) else (if 0 ≤ x359000 then (if x359000 ≤ (x358000.length : Int) then (if 0 ≤ x360000 then (if x360000 ≤ (x358000.length : Int) then ((slices_Concat_sint64_int64.f k (([(x358000.take (x359000 : Int).toNat), x3, (x358000.drop (x360000 : Int).toNat)] : List (List Int)))).bind fun t378 => ((impl_replace_1.f x358001 x359000 x360000 (wrap64 (t362 - (wrap64 (x360000 - x359000))))).bind fun t381 => ((impl_replace_1.f x358002 x359000 x360000 (wrap64 (t362 - (wrap64 (x360000 - x359000))))).bind fun t382 => (if x359000 = x360000 then (impl_replace.j1 k x3 (x358001 == x359000) x358000 x358001 x358002 x359000 x360000 t378 t381 t382) else (impl_replace.j1 k x3 false x358000 x358001 x358002 x359000 x360000 t378 t381 t382))))) else (none)) else (none)) else (none)) else (none)))))
def impl_replace.j1 : Nat → List Int → Bool → List Int → Int → Int → Int → Int → List Int → Int → Int → Option (List Int × Int × Int × List Int × Int)
 | 0, _, _, _, _, _, _, _, _, _, _ => none
 | k + 1, x3, x69, x358000, x358001, x358002, x359000, x360000, x384000, x384001, x384002 => if x69 = true then ((impl_size_int64.f x3).bind fun t384 => (impl_replace.j2 k x358000 x358001 x358002 x359000 x360000 x384000 (wrap64 (x359000 + t384)) x384002)) else (impl_replace.j2 k x358000 x358001 x358002 x359000 x360000 x384000 x384001 x384002)
def impl_replace.j2 : Nat → List Int → Int → Int → Int → Int → List Int → Int → Int → Option (List Int × Int × Int × List Int × Int)
 | 0, _, _, _, _, _, _, _, _ => none
 | k + 1, x358000, x358001, x358002, x359000, x360000, x384000, x384001, x384002 => if 0 ≤ x359000 then (if x359000 ≤ x360000 then (if x360000 ≤ (x358000.length : Int) then ((slices_Clone_sint64_int64.f ((x358000.take (x360000 : Int).toNat).drop (x359000 : Int).toNat)).bind fun t390 => (some (x384000, x384001, x384002, t390, 0))) else (none)) else (none)) else (none)
end
def impl_replace.f (k : Nat) (l0_0 : List Int) (a0_1 : Int) (a0_2 : Int) (a1 : Int) (a2 : Int) (l3 : List Int) : Option (List Int × Int × Int × List Int × Int) := if a1 < 0 then (impl_replace.j0 k l3 true l0_0 a0_1 a0_2 a1 a2) else (if a1 > a2 then (impl_replace.j0 k l3 true l0_0 a0_1 a0_2 a1 a2) else ((impl_size_int64.f l0_0).bind fun t361 => (impl_replace.j0 k l3 (decide (a2 > t361)) l0_0 a0_1 a0_2 a1 a2)))
theorem impl_replace.mono_l : ∀ k, (∀ y0 y1 y2 y3 y4 y5 y6, LeO (impl_replace.j0 k y0 y1 y2 y3 y4 y5 y6) (impl_replace.j0 (k + 1) y0 y1 y2 y3 y4 y5 y6)) ∧ (∀ y0 y1 y2 y3 y4 y5 y6 y7 y8 y9, LeO (impl_replace.j1 k y0 y1 y2 y3 y4 y5 y6 y7 y8 y9) (impl_replace.j1 (k + 1) y0 y1 y2 y3 y4 y5 y6 y7 y8 y9)) ∧ (∀ y0 y1 y2 y3 y4 y5 y6 y7, LeO (impl_replace.j2 k y0 y1 y2 y3 y4 y5 y6 y7) (impl_replace.j2 (k + 1) y0 y1 y2 y3 y4 y5 y6 y7))
 | 0 => ⟨fun _ _ _ _ _ _ _ r h => by simp [impl_replace.j0] at h, fun _ _ _ _ _ _ _ _ _ _ r h => by simp [impl_replace.j1] at h, fun _ _ _ _ _ _ _ _ r h => by simp [impl_replace.j2] at h⟩
 | k + 1 => by
  obtain ⟨ih0, ih1, ih2⟩ := impl_replace.mono_l k
  refine ⟨?_, ?_, ?_⟩
  ·intro y0 y1 y2 y3 y4 y5 y6
   unfold impl_replace.j0
   repeat' first
   | (with_reducible exact ih0 _ _ _ _ _ _ _)
   | (with_reducible exact ih1 _ _ _ _ _ _ _ _ _ _)
   | (with_reducible exact ih2 _ _ _ _ _ _ _ _)
   | (with_reducible exact slices_Concat_sint64_int64.mono _ _)
   | (with_reducible exact LeO.refl _)
   | (with_reducible exact LeO.none _)
   | (with_reducible refine LeO.ite ?_ ?_)
   | (with_reducible refine LeO.bind ?_ (fun _ => ?_))
   | exact ih0 _ _ _ _ _ _ _
   | exact ih1 _ _ _ _ _ _ _ _ _ _
   | exact ih2 _ _ _ _ _ _ _ _
   | exact slices_Concat_sint64_int64.mono _ _
   | exact LeO.none _
   | refine LeO.ite ?_ ?_
   | refine LeO.bind ?_ (fun _ => ?_)
  ·intro y0 y1 y2 y3 y4 y5 y6 y7 y8 y9
   unfold impl_replace.j1
   repeat' first
   | (with_reducible exact ih0 _ _ _ _ _ _ _)
   | (with_reducible exact ih1 _ _ _ _ _ _ _ _ _ _)
   | (with_reducible exact ih2 _ _ _ _ _ _ _ _)
   | (with_reducible exact slices_Concat_sint64_int64.mono _ _)
   | (with_reducible exact LeO.refl _)
   | (with_reducible exact LeO.none _)
   | (with_reducible refine LeO.ite ?_ ?_)
   | (with_reducible refine LeO.bind ?_ (fun _ => ?_))
   | exact ih0 _ _ _ _ _ _ _
   | exact ih1 _ _ _ _ _ _ _ _ _ _
   | exact ih2 _ _ _ _ _ _ _ _
   | exact slices_Concat_sint64_int64.mono _ _
   | exact LeO.none _
   | refine LeO.ite ?_ ?_
   | refine LeO.bind ?_ (fun _ => ?_)
  ·intro y0 y1 y2 y3 y4 y5 y6 y7
   unfold impl_replace.j2
   repeat' first
   | (with_reducible exact ih0 _ _ _ _ _ _ _)
   | (with_reducible exact ih1 _ _ _ _ _ _ _ _ _ _)
   | (with_reducible exact ih2 _ _ _ _ _ _ _ _)
   | (with_reducible exact slices_Concat_sint64_int64.mono _ _)
   | (with_reducible exact LeO.refl _)
   | (with_reducible exact LeO.none _)
   | (with_reducible refine LeO.ite ?_ ?_)
   | (with_reducible refine LeO.bind ?_ (fun _ => ?_))
   | exact ih0 _ _ _ _ _ _ _
   | exact ih1 _ _ _ _ _ _ _ _ _ _
   | exact ih2 _ _ _ _ _ _ _ _
   | exact slices_Concat_sint64_int64.mono _ _
   | exact LeO.none _
   | refine LeO.ite ?_ ?_
   | refine LeO.bind ?_ (fun _ => ?_)
theorem impl_replace.mono : ∀ a0 a1 a2 a3 a4 a5 k, LeO (impl_replace.f k a0 a1 a2 a3 a4 a5) (impl_replace.f (k + 1) a0 a1 a2 a3 a4 a5) := by
 intro a0 a1 a2 a3 a4 a5 k
 obtain ⟨ih0, ih1, ih2⟩ := impl_replace.mono_l k
 unfold impl_replace.f
 repeat' first
   | (with_reducible exact ih0 _ _ _ _ _ _ _)
   | (with_reducible exact ih1 _ _ _ _ _ _ _ _ _ _)
   | (with_reducible exact ih2 _ _ _ _ _ _ _ _)
   | (with_reducible exact slices_Concat_sint64_int64.mono _ _)
   | (with_reducible exact LeO.refl _)
   | (with_reducible exact LeO.none _)
   | (with_reducible refine LeO.ite ?_ ?_)
   | (with_reducible refine LeO.bind ?_ (fun _ => ?_))
   | exact ih0 _ _ _ _ _ _ _
   | exact ih1 _ _ _ _ _ _ _ _ _ _
   | exact ih2 _ _ _ _ _ _ _ _
   | exact slices_Concat_sint64_int64.mono _ _
   | exact LeO.none _
   | refine LeO.ite ?_ ?_
   | refine LeO.bind ?_ (fun _ => ?_)
def impl_replace.T1 : Bool × List (List Nat × List Nat) := (true, [([], []), ([0], [0]), ([1], [1]), ([2], [2]), ([2], [2]), ([3, 4, 2], [2, 3, 4]), ([2, 5], [2, 5]), ([6, 2], [6]), ([7], [7]), ([7], [7]), ([9, 7], [7, 9]), ([10, 7, 7], [7, 10]), ([8, 11, 7], [7, 8, 11]), ([7, 12], [7, 12])])
def impl_replace.B1 : List Nat := [0, 1, 3, 7, 7, 31, 63, 127, 255, 255, 767, 1791, 4095, 8191]
theorem impl_replace.tab1 : rtab .any (opsOf Try.f45 1) = impl_replace.T1 := by kernel_rfl
theorem impl_replace.bits1 : waitsOk impl_replace.T1.2 impl_replace.B1 = true := by kernel_rfl
def impl_replace.T3 : Bool × List (List Nat × List Nat) := (true, [([], []), ([0], [0]), ([], []), ([], []), ([2, 3], [2, 3]), ([1, 4], [1, 4]), ([], []), ([6, 5, 1, 0, 1, 2, 3, 4, 5, 6], [5, 6])])
def impl_replace.B3 : List Nat := [0, 1, 0, 0, 12, 31, 0, 127]
theorem impl_replace.tab3 : rtab .any (opsOf Try.f45 3) = impl_replace.T3 := by kernel_rfl
theorem impl_replace.bits3 : waitsOk impl_replace.T3.2 impl_replace.B3 = true := by kernel_rfl
def impl_replace.T7 : Bool × List (List Nat × List Nat) := (true, [([], []), ([0], [0]), ([], []), ([1, 2], [1, 2]), ([], []), ([], []), ([5], [5]), ([], []), ([6, 7], [6, 7]), ([3, 4, 8], [3, 4, 8]), ([9], [9]), ([], []), ([], []), ([12], [12]), ([11, 13, 10], [11, 13]), ([], []), ([], []), ([16], [16]), ([15, 17, 14], [15, 17]), ([10, 14, 18], [10, 14, 18]), ([], []), ([20, 19, 18, 0, 1, 2, 3, 4, 5, 6, 7, 8, 9, 10, 11, 12, 13, 14, 15, 16, 17, 18, 19, 20], [19, 20])])
def impl_replace.B7 : List Nat := [0, 1, 0, 7, 0, 0, 32, 0, 224, 511, 1023, 0, 0, 4096, 16383, 0, 0, 65536, 262143, 524287, 0, 2097151]
theorem impl_replace.tab7 : rtab .any (opsOf Try.f45 7) = impl_replace.T7 := by kernel_rfl
theorem impl_replace.bits7 : waitsOk impl_replace.T7.2 impl_replace.B7 = true := by kernel_rfl
def impl_replace.T10 : Bool × List (List Nat × List Nat) := (true, [([], []), ([], []), ([1], [1]), ([], []), ([], []), ([2, 3, 4], [2, 3, 4]), ([5], [5]), ([0, 6], [0, 6]), ([7, 6, 0, 1, 2, 3, 4, 5, 6, 7], [7])])
def impl_replace.B10 : List Nat := [0, 0, 2, 0, 0, 30, 62, 127, 255]
theorem impl_replace.tab10 : rtab .any (opsOf Try.f45 10) = impl_replace.T10 := by kernel_rfl
theorem impl_replace.bits10 : waitsOk impl_replace.T10.2 impl_replace.B10 = true := by kernel_rfl
set_option maxHeartbeats 8000000 in
set_option maxRecDepth 100000 in
theorem impl_replace.calls (k : Nat) (P0_0_ : Nat → Prop) (A0_0 : Option Addr) (c0_0 : Nat) (l0_0 : List Int) (a0_1 : Int) (a0_2 : Int) (a1 : Int) (a2 : Int) (P3_ : Nat → Prop) (A3 : Option Addr) (c3 : Nat) (l3 : List Int) (r1 : List Int) (r2 : Int) (r3 : Int) (r4 : List Int) (r5 : Int) (w : World) (hs0_0 : Kd.V (Kd.int .i64) 2 w w.heap.size (fun k_ => P0_0_ k_) (.slice A0_0 l0_0.length c0_0) l0_0) (hs3 : Kd.V (Kd.int .i64) 2 w w.heap.size (fun k_ => P3_ k_) (.slice A3 l3.length c3) l3) (h : impl_replace.f k l0_0 a0_1 a0_2 a1 a2 l3 = some (r1, r2, r3, r4, r5)) :
  Calls Try.prog 45 #[.agg #[.slice A0_0 l0_0.length c0_0, .int .i64 a0_1, .int .i64 a0_2], .int .i64 a1, .int .i64 a2, .slice A3 l3.length c3] w fun e w' => ∃ v0_ v3_ : Value, e = .returned (.agg #[v0_, .int .i64 r2, .int .i64 r3, v3_, .int .i64 r5]) ∧ Kd.R (Kd.int .i64) 2 w' w.heap.size (fun k_ => (w.heap.size ≤ k_) ∧ some k_ ≠ (v3_ : Value).ownBlock) v0_ r1 ∧ Kd.R (Kd.int .i64) 2 w' w.heap.size (fun k_ => (w.heap.size ≤ k_) ∧ some k_ ≠ (v0_ : Value).ownBlock) v3_ r4 ∧ Below w.heap.size w w' := by
 have hu25 := Try.underlying25
 have hu29 := Try.underlying29
 have HO0_0 := am (show Kd.V (Kd.int .i64) 2 w w.heap.size (fun k_ => ((P0_0_ k_ ∨ P3_ k_) ∨ w.heap.size ≤ k_)) (.slice A0_0 l0_0.length c0_0) l0_0 from Kd.V_mono hs0_0 (fun k_ hk => .inl (.inl hk)))
 have HO3 := am (show Kd.V (Kd.int .i64) 2 w w.heap.size (fun k_ => ((P0_0_ k_ ∨ P3_ k_) ∨ w.heap.size ≤ k_)) (.slice A3 l3.length c3) l3 from Kd.V_mono hs3 (fun k_ hk => .inl (.inr hk)))
 have HB := am (Below.refl w.heap.size w)
 have H : (if a1 < 0 then (impl_replace.j0 k l3 true l0_0 a0_1 a0_2 a1 a2) else (if a1 > a2 then (impl_replace.j0 k l3 true l0_0 a0_1 a0_2 a1 a2) else ((impl_size_int64.f l0_0).bind fun t361 => (impl_replace.j0 k l3 (decide (a2 > t361)) l0_0 a0_1 a0_2 a1 a2)))) = some (r1, r2, r3, r4, r5) := h
 clear h
 have HC5 := Aside0.mk H
 clear H
 go_enter Try.func45, Try.ntmps45
 go_upto_region 1 with (first | ((with_reducible refine gate_dst (N := 4) rfl ?_); refine box_event ?hg (N := 4) ?hd (cs := #[.slice A0_0 l0_0.length c0_0, .int .i64 a0_1, .int .i64 a0_2]) (t := 25) ?hr ?_; (case hd => rfl); (case hg => rfl); (case hr => first | (go_simp; done) | (go_simp; rfl)); intro gb357 hg w6 hbox hb; replace HO0_0 := am (Kd.V_below (Kd.V_elderB (kv HO0_0.out) gb357 (Nat.le_of_eq hg.symm)) hb); replace HO3 := am (Kd.V_below (Kd.V_elderB (kv HO3.out) gb357 (Nat.le_of_eq hg.symm)) hb); have BK357 := am (hbox); have GW357 := am ((by rw [hg]; exact (below_size (bl HB.out)) : w.heap.size ≤ gb357)); have GE357 := GW357; replace HB := am (below_step (bl HB.out) hb); clear hb hbox hg) | ((with_reducible refine gate_dst (N := 5) rfl ?_); refine box_event ?hg (N := 5) ?hd (cs := #[.int .i64 a1]) (t := 2) ?hr ?_; (case hd => rfl); (case hg => rfl); (case hr => first | (go_simp; done) | (go_simp; rfl)); intro gb358 hg w7 hbox hb; replace HO0_0 := am (Kd.V_below (Kd.V_elderB (kv HO0_0.out) gb358 (Nat.le_of_eq hg.symm)) hb); replace HO3 := am (Kd.V_below (Kd.V_elderB (kv HO3.out) gb358 (Nat.le_of_eq hg.symm)) hb); have BK358 := am (hbox); have GW358 := am ((by rw [hg]; exact (below_size (bl HB.out)) : w.heap.size ≤ gb358)); have GE358 := GW358; replace HB := am (below_step (bl HB.out) hb); have NB357_358 := am ((by rw [hg]; exact Nat.ne_of_lt (blk_lt (pk BK357.out)) : gb357 ≠ gb358)); have NB358_357 := am ((by rw [hg]; exact Nat.ne_of_gt (blk_lt (pk BK357.out)) : gb358 ≠ gb357)); replace BK357 := am (blk_below (pk BK357.out) hb); clear hb hbox hg) | ((with_reducible refine gate_dst (N := 6) rfl ?_); refine box_event ?hg (N := 6) ?hd (cs := #[.int .i64 a2]) (t := 2) ?hr ?_; (case hd => rfl); (case hg => rfl); (case hr => first | (go_simp; done) | (go_simp; rfl)); intro gb359 hg w8 hbox hb; replace HO0_0 := am (Kd.V_below (Kd.V_elderB (kv HO0_0.out) gb359 (Nat.le_of_eq hg.symm)) hb); replace HO3 := am (Kd.V_below (Kd.V_elderB (kv HO3.out) gb359 (Nat.le_of_eq hg.symm)) hb); have BK359 := am (hbox); have GW359 := am ((by rw [hg]; exact (below_size (bl HB.out)) : w.heap.size ≤ gb359)); have GE359 := GW359; replace HB := am (below_step (bl HB.out) hb); have NB357_359 := am ((by rw [hg]; exact Nat.ne_of_lt (blk_lt (pk BK357.out)) : gb357 ≠ gb359)); have NB359_357 := am ((by rw [hg]; exact Nat.ne_of_gt (blk_lt (pk BK357.out)) : gb359 ≠ gb357)); replace BK357 := am (blk_below (pk BK357.out) hb); have NB358_359 := am ((by rw [hg]; exact Nat.ne_of_lt (blk_lt (pk BK358.out)) : gb358 ≠ gb359)); have NB359_358 := am ((by rw [hg]; exact Nat.ne_of_gt (blk_lt (pk BK358.out)) : gb359 ≠ gb358)); replace BK358 := am (blk_below (pk BK358.out) hb); clear hb hbox hg) | ((with_reducible refine gate_dst (N := 8) rfl ?_); refine box_event ?hg (N := 8) ?hd (cs := #[.slice none 0 0, .int .i64 0, .int .i64 0, .slice none 0 0, .int .i64 0]) (t := 29) ?hr ?_; (case hd => rfl); (case hg => rfl); (case hr => first | (go_simp; done) | (go_simp; rfl)); intro gb360 hg w9 hbox hb; replace HO0_0 := am (Kd.V_below (Kd.V_elderB (kv HO0_0.out) gb360 (Nat.le_of_eq hg.symm)) hb); replace HO3 := am (Kd.V_below (Kd.V_elderB (kv HO3.out) gb360 (Nat.le_of_eq hg.symm)) hb); have BK360 := am (hbox); have GW360 := am ((by rw [hg]; exact (below_size (bl HB.out)) : w.heap.size ≤ gb360)); have GE360 := GW360; replace HB := am (below_step (bl HB.out) hb); have NB357_360 := am ((by rw [hg]; exact Nat.ne_of_lt (blk_lt (pk BK357.out)) : gb357 ≠ gb360)); have NB360_357 := am ((by rw [hg]; exact Nat.ne_of_gt (blk_lt (pk BK357.out)) : gb360 ≠ gb357)); replace BK357 := am (blk_below (pk BK357.out) hb); have NB358_360 := am ((by rw [hg]; exact Nat.ne_of_lt (blk_lt (pk BK358.out)) : gb358 ≠ gb360)); have NB360_358 := am ((by rw [hg]; exact Nat.ne_of_gt (blk_lt (pk BK358.out)) : gb360 ≠ gb358)); replace BK358 := am (blk_below (pk BK358.out) hb); have NB359_360 := am ((by rw [hg]; exact Nat.ne_of_lt (blk_lt (pk BK359.out)) : gb359 ≠ gb360)); have NB360_359 := am ((by rw [hg]; exact Nat.ne_of_gt (blk_lt (pk BK359.out)) : gb360 ≠ gb359)); replace BK359 := am (blk_below (pk BK359.out) hb); clear hb hbox hg))
 (try simp only [Act.put, sa_, s0_, ss_])
 go_cut [25] (fun v25 wc => ∃ (kq : Nat) (x25_4 : Bool), v25 = .bool x25_4 ∧ Aside0 (impl_replace.j0 kq l3 x25_4 l0_0 a0_1 a0_2 a1 a2 = some (r1, r2, r3, r4, r5)) ∧ Aside0 (kq ≤ k) ∧ Aside0 (Kd.V (Kd.int .i64) 2 wc w.heap.size (fun k_ => ((P0_0_ k_ ∨ P3_ k_) ∨ w.heap.size ≤ k_) ∧ k_ ≠ gb357 ∧ k_ ≠ gb358 ∧ k_ ≠ gb359 ∧ k_ ≠ gb360) (.slice A3 l3.length c3) l3) ∧ Aside0 (Kd.V (Kd.int .i64) 2 wc w.heap.size (fun k_ => ((P0_0_ k_ ∨ P3_ k_) ∨ w.heap.size ≤ k_) ∧ k_ ≠ gb357 ∧ k_ ≠ gb358 ∧ k_ ≠ gb359 ∧ k_ ≠ gb360) (.slice A0_0 l0_0.length c0_0) l0_0) ∧ Aside0 (wc.heap[gb357]? = some (.cells #[(.slice A0_0 l0_0.length c0_0), .int .i64 a0_1, .int .i64 a0_2] 25 (0, 0))) ∧ Aside0 (wc.heap[gb358]? = some (.cells #[.int .i64 a1] 2 (0, 0))) ∧ Aside0 (wc.heap[gb359]? = some (.cells #[.int .i64 a2] 2 (0, 0))) ∧ Aside0 (wc.heap[gb360]? = some (.cells #[(.slice none 0 0), .int .i64 0, .int .i64 0, (.slice none 0 0), .int .i64 0] 29 (0, 0))) ∧ Aside0 (Below w.heap.size w wc))
 case first =>
  have H := HC5.out
  clear HC5
  by_cases c10 : a1 < 0
  ·rw [if_pos c10] at H
   have c10b0 : decide (a1 < 0) = true := decide_eq_true c10
   clear c10
   (first | rw [c10b0] | (simp only [i64_w, i32_w]; rw [c10b0]) | (have e9_ := c10b0; unfold bne at e9_; rw [e9_]) | skip)
   have H' := Aside0.mk H
   clear H
   try go_wp2
   replace HO0_0 := am (Kd.V_drew HO0_0.out)
   replace HO3 := am (Kd.V_drew HO3.out)
   replace BK357 := am (blk_drew BK357.out)
   replace BK358 := am (blk_drew BK358.out)
   replace BK359 := am (blk_drew BK359.out)
   replace BK360 := am (blk_drew BK360.out)
   replace HB := am (below_drew1 HB.out)
   refine start_ (n := 14) (S := fun w' => w'.cell? ⟨gb358, 0, none⟩ = some (.int .i64 a1)) (ds := []) b45_0 (by kernel_rfl) rfl rfl (bc BK358.out 0) (fun hHeld => ?_); refine with_tabW impl_replace.tab1 impl_replace.bits1 (fun HT_ HW_ => ?_)
   generalize w9.drew = w11 at HO0_0 HO3 BK357 BK358 BK359 BK360 HB hHeld ⊢
   refine tk_ 0 (some 12) ?_ b45_1 rfl rfl HT_.out HW_.out (by kernel_rfl) (fun _ _ _ h => h) (Or.inl ⟨by rfl, ?_⟩) hHeld ?_ ?_ ?_; rotate_left
   ·intro w' s0
    go_simp
    with_reducible rfl
   rotate_left
   ·simp only [Act.put, sa_, s0_, ss_, i64_w, i32_w]; rfl
   refine pu_ 1 (some 13) ?_ b45_2 rfl rfl HT_.out (by kernel_rfl) (fun _ _ _ h => h) (Or.inl ⟨by rfl, ?_⟩) ?_ ?_ ?_; rotate_left
   ·intro w'; go_simp; with_reducible rfl
   rotate_left
   ·simp only [Act.put, sa_, s0_, ss_, i64_w, i32_w]; rfl
   refine pu_ 2 (some 14) ?_ b45_3 rfl rfl HT_.out (by kernel_rfl) (fun _ _ _ h => h) (Or.inl ⟨by rfl, ?_⟩) ?_ ?_ ?_; rotate_left
   ·intro w'; go_simp; with_reducible rfl
   rotate_left
   ·simp only [Act.put, sa_, s0_, ss_, i64_w, i32_w]; rfl
   refine pu_ 3 (some 15) undef b45_4 rfl rfl HT_.out (by kernel_rfl) (fun _ _ _ h => h) (Or.inr ⟨by rfl, rfl⟩) ?_ ?_ ?_; rotate_left
   ·simp only [Act.put, sa_, s0_, ss_, i64_w, i32_w]; rfl
   refine pu_ 4 (some 16) undef b45_5 rfl rfl HT_.out (by kernel_rfl) (fun _ _ _ h => h) (Or.inr ⟨by rfl, rfl⟩) ?_ ?_ ?_; rotate_left
   ·simp only [Act.put, sa_, s0_, ss_, i64_w, i32_w]; rfl
   refine pu_ 5 (some 17) undef b45_6 rfl rfl HT_.out (by kernel_rfl) (fun _ _ _ h => h) (Or.inr ⟨by rfl, rfl⟩) ?_ ?_ ?_; rotate_left
   ·simp only [Act.put, sa_, s0_, ss_, i64_w, i32_w]; rfl
   refine pu_ 6 (some 18) ?_ b45_7 rfl rfl HT_.out (by kernel_rfl) (fun _ _ _ h => h) (Or.inl ⟨by rfl, ?_⟩) ?_ ?_ ?_; rotate_left
   ·intro w'; go_simp; with_reducible rfl
   rotate_left
   ·simp only [Act.put, sa_, s0_, ss_, i64_w, i32_w]; rfl
   refine pu_ 7 (some 19) ?_ b45_8 rfl rfl HT_.out (by kernel_rfl) (fun _ _ _ h => h) (Or.inl ⟨by rfl, ?_⟩) ?_ ?_ ?_; rotate_left
   ·intro w'; go_simp; with_reducible rfl
   rotate_left
   ·simp only [Act.put, sa_, s0_, ss_, i64_w, i32_w]; rfl
   refine pu_ 8 (some 20) undef b45_9 rfl rfl HT_.out (by kernel_rfl) (fun _ _ _ h => h) (Or.inr ⟨by rfl, rfl⟩) ?_ ?_ ?_; rotate_left
   ·simp only [Act.put, sa_, s0_, ss_, i64_w, i32_w]; rfl
   refine pu_ 9 (some 21) undef b45_10 rfl rfl HT_.out (by kernel_rfl) (fun _ _ _ h => h) (Or.inr ⟨by rfl, rfl⟩) ?_ ?_ ?_; rotate_left
   ·simp only [Act.put, sa_, s0_, ss_, i64_w, i32_w]; rfl
   refine pu_ 10 (some 22) undef b45_11 rfl rfl HT_.out (by kernel_rfl) (fun _ _ _ h => h) (Or.inr ⟨by rfl, rfl⟩) ?_ ?_ ?_; rotate_left
   ·simp only [Act.put, sa_, s0_, ss_, i64_w, i32_w]; rfl
   refine pu_ 11 (some 23) undef b45_12 rfl rfl HT_.out (by kernel_rfl) (fun _ _ _ h => h) (Or.inr ⟨by rfl, rfl⟩) ?_ ?_ ?_; rotate_left
   ·simp only [Act.put, sa_, s0_, ss_, i64_w, i32_w]; rfl
   refine pu_ 12 (some 24) undef b45_13 rfl rfl HT_.out (by kernel_rfl) (fun _ _ _ h => h) (Or.inr ⟨by rfl, rfl⟩) ?_ ?_ ?_; rotate_left
   ·simp only [Act.put, sa_, s0_, ss_, i64_w, i32_w]; rfl
   refine pu_ 13 (some 25) ?_ b45_14 rfl rfl HT_.out (by kernel_rfl) (fun _ _ _ h => h) (Or.inl ⟨by rfl, ?_⟩) ?_ ?_ ?_; rotate_left
   ·intro w'; go_simp; with_reducible rfl
   rotate_left
   ·simp only [Act.put, sa_, s0_, ss_, i64_w, i32_w]; rfl
   refine done_ (done_of HT_.out (by kernel_rfl)) ?_
   try go_wp2
   go_meet
   case rel => exact ⟨_, (true), (by first | rfl | (simp; done) | (simp [*]; done)), H', ⟨by first | omega | exact Nat.le_refl _⟩, ⟨kv (Kd.V_mono HO3.out (fun _ hk => ⟨hk.1.1.1.1, ⟨hk.1.1.1.2, ⟨hk.1.1.2, ⟨hk.1.2, hk.2⟩⟩⟩⟩))⟩, ⟨kv (Kd.V_mono HO0_0.out (fun _ hk => ⟨hk.1.1.1.1, ⟨hk.1.1.1.2, ⟨hk.1.1.2, ⟨hk.1.2, hk.2⟩⟩⟩⟩))⟩, ⟨pk BK357.out⟩, ⟨pk BK358.out⟩, ⟨pk BK359.out⟩, ⟨pk BK360.out⟩, ⟨by repeat (first | (with_reducible first | exact HB.out | apply below_alloc | apply pw_below_drewN | apply below_drew1 | refine below_set ?_ GE357.out | refine below_set ?_ GE358.out | refine below_set ?_ GE359.out | refine below_set ?_ GE360.out) | exact HB.out)⟩⟩
  ·rw [if_neg c10] at H
   have c10b0 : decide (a1 < 0) = false := decide_eq_false c10
   clear c10
   (first | rw [c10b0] | (simp only [i64_w, i32_w]; rw [c10b0]) | (have e9_ := c10b0; unfold bne at e9_; rw [e9_]) | skip)
   by_cases c12 : a1 > a2
   ·rw [if_pos c12] at H
    have c12b0 : decide (a2 < a1) = true := decide_eq_true c12
    clear c12
    have H' := Aside0.mk H
    clear H
    try go_wp2
    replace HO0_0 := am (Kd.V_drew HO0_0.out)
    replace HO3 := am (Kd.V_drew HO3.out)
    replace BK357 := am (blk_drew BK357.out)
    replace BK358 := am (blk_drew BK358.out)
    replace BK359 := am (blk_drew BK359.out)
    replace BK360 := am (blk_drew BK360.out)
    replace HB := am (below_drew1 HB.out)
    refine start_ (n := 14) (S := fun w' => w'.cell? ⟨gb358, 0, none⟩ = some (.int .i64 a1) ∧ w'.cell? ⟨gb359, 0, none⟩ = some (.int .i64 a2)) (ds := []) b45_0 (by kernel_rfl) rfl rfl ⟨bc BK358.out 0, bc BK359.out 0⟩ (fun hHeld => ?_); refine with_tabW impl_replace.tab1 impl_replace.bits1 (fun HT_ HW_ => ?_)
    generalize w9.drew = w13 at HO0_0 HO3 BK357 BK358 BK359 BK360 HB hHeld ⊢
    refine tk_ 0 (some 12) ?_ b45_1 rfl rfl HT_.out HW_.out (by kernel_rfl) (fun _ _ _ h => h) (Or.inl ⟨by rfl, ?_⟩) hHeld ?_ ?_ ?_; rotate_left
    ·rintro w' ⟨s0, s1⟩; go_simp; with_reducible rfl
    rotate_left
    ·simp only [Act.put, sa_, s0_, ss_, i64_w, i32_w]; rfl
    refine pu_ 1 (some 13) ?_ b45_2 rfl rfl HT_.out (by kernel_rfl) (fun _ _ _ h => h) (Or.inl ⟨by rfl, ?_⟩) ?_ ?_ ?_; rotate_left
    ·intro w'; go_simp; with_reducible rfl
    rotate_left
    ·simp only [Act.put, sa_, s0_, ss_, i64_w, i32_w]; rfl
    refine pu_ 2 (some 14) ?_ b45_3 rfl rfl HT_.out (by kernel_rfl) (fun _ _ _ h => h) (Or.inl ⟨by rfl, ?_⟩) ?_ ?_ ?_; rotate_left
    ·intro w'; go_simp; with_reducible rfl
    rotate_left
    ·simp only [Act.put, sa_, s0_, ss_, i64_w, i32_w]; rfl
    refine tk_ 3 (some 15) ?_ b45_4 rfl rfl HT_.out HW_.out (by kernel_rfl) (fun _ _ _ h => h) (Or.inl ⟨by rfl, ?_⟩) hHeld ?_ ?_ ?_; rotate_left
    ·rintro w' ⟨s0, s1⟩; go_simp; with_reducible rfl
    rotate_left
    ·simp only [Act.put, sa_, s0_, ss_, i64_w, i32_w]; rfl
    refine tk_ 4 (some 16) ?_ b45_5 rfl rfl HT_.out HW_.out (by kernel_rfl) (fun _ _ _ h => h) (Or.inl ⟨by rfl, ?_⟩) hHeld ?_ ?_ ?_; rotate_left
    ·rintro w' ⟨s0, s1⟩; go_simp; with_reducible rfl
    rotate_left
    ·simp only [Act.put, sa_, s0_, ss_, i64_w, i32_w]; rfl
    refine pu_ 5 (some 17) ?_ b45_6 rfl rfl HT_.out (by kernel_rfl) (fun _ _ _ h => h) (Or.inl ⟨by rfl, ?_⟩) ?_ ?_ ?_; rotate_left
    ·intro w'; go_simp; with_reducible rfl
    rotate_left
    ·simp only [Act.put, sa_, s0_, ss_, i64_w, i32_w]; rfl
    refine pu_ 6 (some 18) ?_ b45_7 rfl rfl HT_.out (by kernel_rfl) (fun _ _ _ h => h) (Or.inl ⟨by rfl, ?_⟩) ?_ ?_ ?_; rotate_left
    ·intro w'; go_simp; with_reducible rfl
    rotate_left
    ·simp only [Act.put, sa_, s0_, ss_, i64_w, i32_w]; rfl
    refine pu_ 7 (some 19) ?_ b45_8 rfl rfl HT_.out (by kernel_rfl) (fun _ _ _ h => h) (Or.inl ⟨by rfl, ?_⟩) ?_ ?_ ?_; rotate_left
    ·intro w'; go_simp; with_reducible rfl
    rotate_left
    ·simp only [Act.put, sa_, s0_, ss_, i64_w, i32_w]; rfl
    refine pu_ 8 (some 20) undef b45_9 rfl rfl HT_.out (by kernel_rfl) (fun _ _ _ h => h) (Or.inr ⟨by rfl, rfl⟩) ?_ ?_ ?_; rotate_left
    ·simp only [Act.put, sa_, s0_, ss_, i64_w, i32_w]; rfl
    refine pu_ 9 (some 21) undef b45_10 rfl rfl HT_.out (by kernel_rfl) (fun _ _ _ h => h) (Or.inr ⟨by rfl, rfl⟩) ?_ ?_ ?_; rotate_left
    ·simp only [Act.put, sa_, s0_, ss_, i64_w, i32_w]; rfl
    refine pu_ 10 (some 22) undef b45_11 rfl rfl HT_.out (by kernel_rfl) (fun _ _ _ h => h) (Or.inr ⟨by rfl, rfl⟩) ?_ ?_ ?_; rotate_left
    ·simp only [Act.put, sa_, s0_, ss_, i64_w, i32_w]; rfl
    refine pu_ 11 (some 23) undef b45_12 rfl rfl HT_.out (by kernel_rfl) (fun _ _ _ h => h) (Or.inr ⟨by rfl, rfl⟩) ?_ ?_ ?_; rotate_left
    ·simp only [Act.put, sa_, s0_, ss_, i64_w, i32_w]; rfl
    refine pu_ 12 (some 24) undef b45_13 rfl rfl HT_.out (by kernel_rfl) (fun _ _ _ h => h) (Or.inr ⟨by rfl, rfl⟩) ?_ ?_ ?_; rotate_left
    ·simp only [Act.put, sa_, s0_, ss_, i64_w, i32_w]; rfl
    refine pu_ 13 (some 25) ?_ b45_14 rfl rfl HT_.out (by kernel_rfl) (fun _ _ _ h => h) (Or.inl ⟨by rfl, ?_⟩) ?_ ?_ ?_; rotate_left
    ·intro w'; go_simp; with_reducible rfl
    rotate_left
    ·simp only [Act.put, sa_, s0_, ss_, i64_w, i32_w]; rfl
    refine done_ (done_of HT_.out (by kernel_rfl)) ?_
    try go_wp2
    go_meet
    case rel => exact ⟨_, (true), (by first | rfl | (simp; done) | (simp [*]; done)), H', ⟨by first | omega | exact Nat.le_refl _⟩, ⟨kv (Kd.V_mono HO3.out (fun _ hk => ⟨hk.1.1.1.1, ⟨hk.1.1.1.2, ⟨hk.1.1.2, ⟨hk.1.2, hk.2⟩⟩⟩⟩))⟩, ⟨kv (Kd.V_mono HO0_0.out (fun _ hk => ⟨hk.1.1.1.1, ⟨hk.1.1.1.2, ⟨hk.1.1.2, ⟨hk.1.2, hk.2⟩⟩⟩⟩))⟩, ⟨pk BK357.out⟩, ⟨pk BK358.out⟩, ⟨pk BK359.out⟩, ⟨pk BK360.out⟩, ⟨by repeat (first | (with_reducible first | exact HB.out | apply below_alloc | apply pw_below_drewN | apply below_drew1 | refine below_set ?_ GE357.out | refine below_set ?_ GE358.out | refine below_set ?_ GE359.out | refine below_set ?_ GE360.out) | exact HB.out)⟩⟩
   ·rw [if_neg c12] at H
    have c12b0 : decide (a2 < a1) = false := decide_eq_false c12
    clear c12
    replace H := Option.bind_eq_some_iff.mp H
    obtain ⟨t361, A140, H⟩ := H
    replace H : (impl_replace.j0 k l3 (decide (a2 > t361)) l0_0 a0_1 a0_2 a1 a2) = some (r1, r2, r3, r4, r5) := H
    have A14 := Aside0.mk A140
    clear A140
    have H' := Aside0.mk H
    clear H
    try go_wp2
    replace HO0_0 := am (Kd.V_drew HO0_0.out)
    replace HO3 := am (Kd.V_drew HO3.out)
    replace BK357 := am (blk_drew BK357.out)
    replace BK358 := am (blk_drew BK358.out)
    replace BK359 := am (blk_drew BK359.out)
    replace BK360 := am (blk_drew BK360.out)
    replace HB := am (below_drew1 HB.out)
    refine start_ (n := 14) (S := fun w' => w'.cell? ⟨gb358, 0, none⟩ = some (.int .i64 a1) ∧ w'.cell? ⟨gb359, 0, none⟩ = some (.int .i64 a2) ∧ w'.cell? ⟨gb357, 0, none⟩ = some (.slice A0_0 l0_0.length c0_0) ∧ w'.cell? ⟨gb357, 1, none⟩ = some (.int .i64 a0_1) ∧ w'.cell? ⟨gb357, 2, none⟩ = some (.int .i64 a0_2)) (ds := []) b45_0 (by kernel_rfl) rfl rfl ⟨bc BK358.out 0, bc BK359.out 0, bc BK357.out 0, bc BK357.out 1, bc BK357.out 2⟩ (fun hHeld => ?_); refine with_tabW impl_replace.tab1 impl_replace.bits1 (fun HT_ HW_ => ?_)
    generalize w9.drew = w15 at HO0_0 HO3 BK357 BK358 BK359 BK360 HB hHeld ⊢
    refine tk_ 0 (some 12) ?_ b45_1 rfl rfl HT_.out HW_.out (by kernel_rfl) (fun _ _ _ h => h) (Or.inl ⟨by rfl, ?_⟩) hHeld ?_ ?_ ?_; rotate_left
    ·rintro w' ⟨s0, s1, s2, s3, s4⟩; go_simp; with_reducible rfl
    rotate_left
    ·simp only [Act.put, sa_, s0_, ss_, i64_w, i32_w]; rfl
    refine pu_ 1 (some 13) ?_ b45_2 rfl rfl HT_.out (by kernel_rfl) (fun _ _ _ h => h) (Or.inl ⟨by rfl, ?_⟩) ?_ ?_ ?_; rotate_left
    ·intro w'; go_simp; with_reducible rfl
    rotate_left
    ·simp only [Act.put, sa_, s0_, ss_, i64_w, i32_w]; rfl
    refine pu_ 2 (some 14) ?_ b45_3 rfl rfl HT_.out (by kernel_rfl) (fun _ _ _ h => h) (Or.inl ⟨by rfl, ?_⟩) ?_ ?_ ?_; rotate_left
    ·intro w'; go_simp; with_reducible rfl
    rotate_left
    ·simp only [Act.put, sa_, s0_, ss_, i64_w, i32_w]; rfl
    refine tk_ 3 (some 15) ?_ b45_4 rfl rfl HT_.out HW_.out (by kernel_rfl) (fun _ _ _ h => h) (Or.inl ⟨by rfl, ?_⟩) hHeld ?_ ?_ ?_; rotate_left
    ·rintro w' ⟨s0, s1, s2, s3, s4⟩; go_simp; with_reducible rfl
    rotate_left
    ·simp only [Act.put, sa_, s0_, ss_, i64_w, i32_w]; rfl
    refine tk_ 4 (some 16) ?_ b45_5 rfl rfl HT_.out HW_.out (by kernel_rfl) (fun _ _ _ h => h) (Or.inl ⟨by rfl, ?_⟩) hHeld ?_ ?_ ?_; rotate_left
    ·rintro w' ⟨s0, s1, s2, s3, s4⟩; go_simp; with_reducible rfl
    rotate_left
    ·simp only [Act.put, sa_, s0_, ss_, i64_w, i32_w]; rfl
    refine pu_ 5 (some 17) ?_ b45_6 rfl rfl HT_.out (by kernel_rfl) (fun _ _ _ h => h) (Or.inl ⟨by rfl, ?_⟩) ?_ ?_ ?_; rotate_left
    ·intro w'; go_simp; with_reducible rfl
    rotate_left
    ·simp only [Act.put, sa_, s0_, ss_, i64_w, i32_w]; rfl
    refine pu_ 6 (some 18) ?_ b45_7 rfl rfl HT_.out (by kernel_rfl) (fun _ _ _ h => h) (Or.inl ⟨by rfl, ?_⟩) ?_ ?_ ?_; rotate_left
    ·intro w'; go_simp; with_reducible rfl
    rotate_left
    ·simp only [Act.put, sa_, s0_, ss_, i64_w, i32_w]; rfl
    refine pu_ 7 (some 19) ?_ b45_8 rfl rfl HT_.out (by kernel_rfl) (fun _ _ _ h => h) (Or.inl ⟨by rfl, ?_⟩) ?_ ?_ ?_; rotate_left
    ·intro w'; go_simp; with_reducible rfl
    rotate_left
    ·simp only [Act.put, sa_, s0_, ss_, i64_w, i32_w]; rfl
    refine pure_ (i := 9) (N := some 21) (v := ?_) (a' := ?_) #[true, true, true, true, true, true, true, true, false, true, false, false, false, false] rfl rfl (any_of HT_.out (by kernel_rfl)) (fun _ _ _ h => h) (Or.inl ⟨by rfl, ?_⟩) ?_ ?_; rotate_left
    ·intro w'; go_simp; with_reducible rfl
    rotate_left
    ·simp only [Act.put, sa_, s0_, ss_, i64_w, i32_w]; rfl
    refine tk_ 8 (some 20) ?_ b45_10 rfl rfl HT_.out HW_.out (by kernel_rfl) (fun _ _ _ h => h) (Or.inl ⟨by rfl, ?_⟩) hHeld ?_ ?_ ?_; rotate_left
    ·rintro w' ⟨s0, s1, s2, s3, s4⟩; go_simp; with_reducible rfl
    rotate_left
    ·simp only [Act.put, sa_, s0_, ss_, i64_w, i32_w]; rfl
    refine tk_ 10 (some 22) ?_ b45_11 rfl rfl HT_.out HW_.out (by kernel_rfl) (fun _ _ _ h => h) (Or.inl ⟨by rfl, ?_⟩) hHeld ?_ ?_ ?_; rotate_left
    ·rintro w' ⟨s0, s1, s2, s3, s4⟩; go_simp; with_reducible rfl
    rotate_left
    ·simp only [Act.put, sa_, s0_, ss_, i64_w, i32_w]; rfl
    refine one_ (i := 11) (N := some 23) b45_12 rfl rfl (one_of HT_.out (by kernel_rfl)) (by decide) (fun K hK => ?_)
    refine goes_ Try.func72 (by kernel_rfl) rfl #[.slice A0_0 l0_0.length c0_0] (by rfl) rfl rfl (by (try simp only [List.map_toArray, List.map_cons, List.map_nil]); first | done | rfl | (simp only [List.length_drop, List.length_take]; rfl)) ?_
    with_reducible refine (impl_size_int64.calls _ _ l0_0 t361 _ A14.out).mono ?_
    rintro e w' ⟨rfl, ⟨nd, rfl⟩⟩
    refine ⟨_, rfl, ?_⟩
    refine hK.out _ _ ⟨bc BK358.out 0, bc BK359.out 0, bc BK357.out 0, bc BK357.out 1, bc BK357.out 2⟩ (fun hHeld => ?_)
    clear hK K
    refine norm_ (a' := ?_) ?_ ?_
    rotate_left
    ·show Act.put _ (some 23) _ = _
     simp only [Act.put, sa_, s0_, ss_, i64_w, i32_w]
     rfl
    refine pu_ 12 (some 24) ?_ b45_13 rfl rfl HT_.out (by kernel_rfl) (fun _ _ _ h => h) (Or.inl ⟨by rfl, ?_⟩) ?_ ?_ ?_; rotate_left
    ·intro w'; go_simp; with_reducible rfl
    rotate_left
    ·simp only [Act.put, sa_, s0_, ss_, i64_w, i32_w]; rfl
    refine pu_ 13 (some 25) ?_ b45_14 rfl rfl HT_.out (by kernel_rfl) (fun _ _ _ h => h) (Or.inl ⟨by rfl, ?_⟩) ?_ ?_ ?_; rotate_left
    ·intro w'; go_simp; with_reducible rfl
    rotate_left
    ·simp only [Act.put, sa_, s0_, ss_, i64_w, i32_w]; rfl
    refine done_ (done_of HT_.out (by kernel_rfl)) ?_
    (try (rw [drewN_self w15]; generalize hq_ : World.drewN w15 _ = w15; replace HO0_0 := am (vAt2 hq_ HO0_0.out); replace HO3 := am (vAt2 hq_ HO3.out); replace BK357 := am (blk_at hq_ BK357.out); replace BK358 := am (blk_at hq_ BK358.out); replace BK359 := am (blk_at hq_ BK359.out); replace BK360 := am (blk_at hq_ BK360.out); replace HB := am (below_at hq_ HB.out); clear hq_))
    try go_wp2
    go_meet
    case rel => exact ⟨_, (decide (a2 > t361)), (by first | rfl | (simp; done) | (simp [*]; done)), H', ⟨by first | omega | exact Nat.le_refl _⟩, ⟨kv (Kd.V_mono HO3.out (fun _ hk => ⟨hk.1.1.1.1, ⟨hk.1.1.1.2, ⟨hk.1.1.2, ⟨hk.1.2, hk.2⟩⟩⟩⟩))⟩, ⟨kv (Kd.V_mono HO0_0.out (fun _ hk => ⟨hk.1.1.1.1, ⟨hk.1.1.1.2, ⟨hk.1.1.2, ⟨hk.1.2, hk.2⟩⟩⟩⟩))⟩, ⟨pk BK357.out⟩, ⟨pk BK358.out⟩, ⟨pk BK359.out⟩, ⟨pk BK360.out⟩, ⟨by repeat (first | (with_reducible first | exact HB.out | apply below_alloc | apply pw_below_drewN | apply below_drew1 | refine below_set ?_ GE357.out | refine below_set ?_ GE358.out | refine below_set ?_ GE359.out | refine below_set ?_ GE360.out) | exact HB.out)⟩⟩
 case rest =>
  clear HC5
  try clear c1
  try clear p2
  try clear c3
  try clear c4
  try clear c7
  try clear c10
  try clear c10b0
  try clear c12
  try clear c12b0
  obtain ⟨kq, x25_4, rfl, HA, HJ4, HO_3, HO_358000, BK357, BK358, BK359, BK360, HB⟩ := hcut
  cases kq with
  | zero => exact absurd HA.out (by simp [impl_replace.j0])
  | succ kj4 =>
   have H := HA.out
   clear HA
   simp only [impl_replace.j0] at H
   by_cases c16 : x25_4 = true
   ·subst c16
    have H1 : (some (([] : List Int), 0, 0, ([] : List Int), 8)) = some (r1, r2, r3, r4, r5) := by rw [if_pos rfl] at H; exact H
    clear H
    have H := H1
    clear H1
    simp only [Option.some.injEq, Prod.mk.injEq] at H
    obtain ⟨rfl, rfl, rfl, rfl, rfl⟩ := H
    have hnb17 := NB360_357.out
    have hnc17 := NB357_360.out
    have hnb18 := NB360_358.out
    have hnc18 := NB358_360.out
    have hnb19 := NB360_359.out
    have hnc19 := NB359_360.out
    have hcz20_0 : wc.cell? ⟨gb360, 0, none⟩ = some (.slice none 0 0) := bc BK360.out 0
    have hcz20_1 : wc.cell? ⟨gb360, 1, none⟩ = some (.int .i64 0) := bc BK360.out 1
    have hcz20_2 : wc.cell? ⟨gb360, 2, none⟩ = some (.int .i64 0) := bc BK360.out 2
    have hcz20_3 : wc.cell? ⟨gb360, 3, none⟩ = some (.slice none 0 0) := bc BK360.out 3
    have hcz20_4 : wc.cell? ⟨gb360, 4, none⟩ = some (.int .i64 0) := bc BK360.out 4
    have hfz20_0 := blk_frozen BK360.out 0
    have hfz20_1 := blk_frozen BK360.out 1
    have hfz20_2 := blk_frozen BK360.out 2
    have hfz20_3 := blk_frozen BK360.out 3
    have hfz20_4 := blk_frozen BK360.out 4
    go_wp2
    refine bodyPost_ret (results_cell_row rfl _ _ gb360 29 #[.slice none 0 0, .int .i64 0, .int .i64 0, .slice none 0 0, .int .i64 8] (0, 0) _ rfl (by (with_reducible repeat (first | refine blk_drewN ?_ _ | refine blk_drew ?_ | refine blk_alloc ?_ _)); refine blk_put (cs := #[.slice none 0 0, .int .i64 0, .int .i64 0, .slice none 0 0, .int .i64 0]) ?_ 4 _ rfl; (with_reducible repeat (first | refine blk_drewN ?_ _ | refine blk_drew ?_ | refine blk_alloc ?_ _)); refine blk_put (cs := #[.slice none 0 0, .int .i64 0, .int .i64 0, .slice none 0 0, .int .i64 0]) ?_ 3 _ rfl; (with_reducible repeat (first | refine blk_drewN ?_ _ | refine blk_drew ?_ | refine blk_alloc ?_ _)); refine blk_put (cs := #[.slice none 0 0, .int .i64 0, .int .i64 0, .slice none 0 0, .int .i64 0]) ?_ 2 _ rfl; (with_reducible repeat (first | refine blk_drewN ?_ _ | refine blk_drew ?_ | refine blk_alloc ?_ _)); refine blk_put (cs := #[.slice none 0 0, .int .i64 0, .int .i64 0, .slice none 0 0, .int .i64 0]) ?_ 1 _ rfl; (with_reducible repeat (first | refine blk_drewN ?_ _ | refine blk_drew ?_ | refine blk_alloc ?_ _)); refine blk_put (cs := #[.slice none 0 0, .int .i64 0, .int .i64 0, .slice none 0 0, .int .i64 0]) ?_ 0 _ rfl; (with_reducible repeat (first | refine blk_drewN ?_ _ | refine blk_drew ?_ | refine blk_alloc ?_ _)); exact BK360.out) Try.underlying29 rfl (by kernel_rfl)) rfl ?_
    exact ⟨_, _, by first | rfl | (simp [errW_none, errW_some] <;> rfl) | (simp [*, errW_none, errW_some] <;> rfl), by first | exact Kd.R_nil _ _ _ _ _ | exact Kd.N_nil _ _ _ _ _ | exact Kd.V_nil _ _ _ _ _ | exact Kd.Q_nil _ _ _ _ _ | exact Kd.S_nil _ _ _ _ _, by first | exact Kd.R_nil _ _ _ _ _ | exact Kd.N_nil _ _ _ _ _ | exact Kd.V_nil _ _ _ _ _ | exact Kd.Q_nil _ _ _ _ _ | exact Kd.S_nil _ _ _ _ _, by repeat (first | (with_reducible first | exact HB.out | apply below_alloc | apply pw_below_drewN | apply below_drew1 | refine below_set ?_ GE357.out | refine below_set ?_ GE358.out | refine below_set ?_ GE359.out | refine below_set ?_ GE360.out) | exact HB.out)⟩
   ·replace c16 := Bool.eq_false_iff.mpr c16
    subst c16
    have H1 : ((impl_size_int64.f l3).bind fun t362 => ((impl_size_int64.f l0_0).bind fun t364 => (if (wrap64 (t364 + (wrap64 (t362 - (wrap64 (a2 - a1)))))) > 300 then (some (([] : List Int), 0, 0, ([] : List Int), 5)) else (if 0 ≤ a1 then (if a1 ≤ (l0_0.length : Int) then (if 0 ≤ a2 then (if a2 ≤ (l0_0.length : Int) then ((slices_Concat_sint64_int64.f kj4 (([(l0_0.take (a1 : Int).toNat), l3, (l0_0.drop (a2 : Int).toNat)] : List (List Int)))).bind fun t378 => ((impl_replace_1.f a0_1 a1 a2 (wrap64 (t362 - (wrap64 (a2 - a1))))).bind fun t381 => ((impl_replace_1.f a0_2 a1 a2 (wrap64 (t362 - (wrap64 (a2 - a1))))).bind fun t382 => (if a1 = a2 then (impl_replace.j1 kj4 l3 (a0_1 == a1) l0_0 a0_1 a0_2 a1 a2 t378 t381 t382) else (impl_replace.j1 kj4 l3 false l0_0 a0_1 a0_2 a1 a2 t378 t381 t382))))) else (none)) else (none)) else (none)) else (none))))) = some (r1, r2, r3, r4, r5) := by rw [if_neg (show ¬ (false = true) by decide)] at H; exact H
    clear H
    have H := H1
    clear H1
    replace H := Option.bind_eq_some_iff.mp H
    obtain ⟨t362, A210, H⟩ := H
    replace H : ((impl_size_int64.f l0_0).bind fun t364 => (if (wrap64 (t364 + (wrap64 (t362 - (wrap64 (a2 - a1)))))) > 300 then (some (([] : List Int), 0, 0, ([] : List Int), 5)) else (if 0 ≤ a1 then (if a1 ≤ (l0_0.length : Int) then (if 0 ≤ a2 then (if a2 ≤ (l0_0.length : Int) then ((slices_Concat_sint64_int64.f kj4 (([(l0_0.take (a1 : Int).toNat), l3, (l0_0.drop (a2 : Int).toNat)] : List (List Int)))).bind fun t378 => ((impl_replace_1.f a0_1 a1 a2 (wrap64 (t362 - (wrap64 (a2 - a1))))).bind fun t381 => ((impl_replace_1.f a0_2 a1 a2 (wrap64 (t362 - (wrap64 (a2 - a1))))).bind fun t382 => (if a1 = a2 then (impl_replace.j1 kj4 l3 (a0_1 == a1) l0_0 a0_1 a0_2 a1 a2 t378 t381 t382) else (impl_replace.j1 kj4 l3 false l0_0 a0_1 a0_2 a1 a2 t378 t381 t382))))) else (none)) else (none)) else (none)) else (none)))) = some (r1, r2, r3, r4, r5) := H
    have A21 := Aside0.mk A210
    clear A210
    replace H := Option.bind_eq_some_iff.mp H
    obtain ⟨t364, A220, H⟩ := H
    replace H : (if (wrap64 (t364 + (wrap64 (t362 - (wrap64 (a2 - a1)))))) > 300 then (some (([] : List Int), 0, 0, ([] : List Int), 5)) else (if 0 ≤ a1 then (if a1 ≤ (l0_0.length : Int) then (if 0 ≤ a2 then (if a2 ≤ (l0_0.length : Int) then ((slices_Concat_sint64_int64.f kj4 (([(l0_0.take (a1 : Int).toNat), l3, (l0_0.drop (a2 : Int).toNat)] : List (List Int)))).bind fun t378 => ((impl_replace_1.f a0_1 a1 a2 (wrap64 (t362 - (wrap64 (a2 - a1))))).bind fun t381 => ((impl_replace_1.f a0_2 a1 a2 (wrap64 (t362 - (wrap64 (a2 - a1))))).bind fun t382 => (if a1 = a2 then (impl_replace.j1 kj4 l3 (a0_1 == a1) l0_0 a0_1 a0_2 a1 a2 t378 t381 t382) else (impl_replace.j1 kj4 l3 false l0_0 a0_1 a0_2 a1 a2 t378 t381 t382))))) else (none)) else (none)) else (none)) else (none))) = some (r1, r2, r3, r4, r5) := H
    have A22 := Aside0.mk A220
    clear A220
    by_cases c23 : (wrap64 (t364 + (wrap64 (t362 - (wrap64 (a2 - a1)))))) > 300
    ·rw [if_pos c23] at H
     have c23b0 : decide (300 < (wrap64 (t364 + (wrap64 (t362 - (wrap64 (a2 - a1))))))) = true := decide_eq_true c23
     clear c23
     simp only [Option.some.injEq, Prod.mk.injEq] at H
     obtain ⟨rfl, rfl, rfl, rfl, rfl⟩ := H
     try go_wp2
     replace HO_3 := am (Kd.V_drew HO_3.out)
     replace HO_358000 := am (Kd.V_drew HO_358000.out)
     replace BK357 := am (blk_drew BK357.out)
     replace BK358 := am (blk_drew BK358.out)
     replace BK359 := am (blk_drew BK359.out)
     replace BK360 := am (blk_drew BK360.out)
     replace HB := am (below_drew1 HB.out)
     refine start_ (n := 8) (S := fun w' => w'.cell? ⟨gb359, 0, none⟩ = some (.int .i64 a2) ∧ w'.cell? ⟨gb358, 0, none⟩ = some (.int .i64 a1)) (ds := []) b45_15 (by kernel_rfl) rfl rfl ⟨bc BK359.out 0, bc BK358.out 0⟩ (fun hHeld => ?_); refine with_tabW impl_replace.tab3 impl_replace.bits3 (fun HT_ HW_ => ?_)
     generalize wc.drew = w24 at HO_3 HO_358000 BK357 BK358 BK359 BK360 HB hHeld ⊢
     refine pu_ 0 (some 27) ?_ b45_16 rfl rfl HT_.out (by kernel_rfl) (fun _ _ _ h => h) (Or.inl ⟨by rfl, ?_⟩) ?_ ?_ ?_; rotate_left
     ·intro w'; go_simp; with_reducible rfl
     rotate_left
     ·simp only [Act.put, sa_, s0_, ss_, i64_w, i32_w]; rfl
     refine tk_ 2 (some 29) ?_ b45_17 rfl rfl HT_.out HW_.out (by kernel_rfl) (fun _ _ _ h => h) (Or.inl ⟨by rfl, ?_⟩) hHeld ?_ ?_ ?_; rotate_left
     ·rintro w' ⟨s0, s1⟩; go_simp; with_reducible rfl
     rotate_left
     ·simp only [Act.put, sa_, s0_, ss_, i64_w, i32_w]; rfl
     refine tk_ 3 (some 30) ?_ b45_18 rfl rfl HT_.out HW_.out (by kernel_rfl) (fun _ _ _ h => h) (Or.inl ⟨by rfl, ?_⟩) hHeld ?_ ?_ ?_; rotate_left
     ·rintro w' ⟨s0, s1⟩; go_simp; with_reducible rfl
     rotate_left
     ·simp only [Act.put, sa_, s0_, ss_, i64_w, i32_w]; rfl
     refine pu_ 4 (some 31) ?_ b45_19 rfl rfl HT_.out (by kernel_rfl) (fun _ _ _ h => h) (Or.inl ⟨by rfl, ?_⟩) ?_ ?_ ?_; rotate_left
     ·intro w'; go_simp; with_reducible rfl
     rotate_left
     ·simp only [Act.put, sa_, s0_, ss_, i64_w, i32_w]; rfl
     refine join_ (σ := Nat) 1 b45_20 (fun s_ => [(28, .int .i64 t362), (9, .pointer (some ⟨s_, 0, none⟩)), (32, .int .i64 (wrap64 (t362 - (wrap64 (a2 - a1)))))]) (fun s_ w' => (w'.cell? ⟨gb359, 0, none⟩ = some (.int .i64 a2) ∧ w'.cell? ⟨gb358, 0, none⟩ = some (.int .i64 a1)) ∧ (Kd.V (Kd.int .i64) 2 w' w.heap.size (fun k_ => ((P0_0_ k_ ∨ P3_ k_) ∨ w.heap.size ≤ k_) ∧ k_ ≠ gb357 ∧ k_ ≠ gb358 ∧ k_ ≠ gb359 ∧ k_ ≠ gb360 ∧ k_ ≠ s_) (.slice A3 l3.length c3) l3) ∧ (Kd.V (Kd.int .i64) 2 w' w.heap.size (fun k_ => ((P0_0_ k_ ∨ P3_ k_) ∨ w.heap.size ≤ k_) ∧ k_ ≠ gb357 ∧ k_ ≠ gb358 ∧ k_ ≠ gb359 ∧ k_ ≠ gb360 ∧ k_ ≠ s_) (.slice A0_0 l0_0.length c0_0) l0_0) ∧ (w'.heap[gb357]? = some (.cells #[.slice A0_0 l0_0.length c0_0, .int .i64 a0_1, .int .i64 a0_2] 25 (0, 0))) ∧ (w'.heap[gb358]? = some (.cells #[.int .i64 a1] 2 (0, 0))) ∧ (w'.heap[gb359]? = some (.cells #[.int .i64 a2] 2 (0, 0))) ∧ (w'.heap[gb360]? = some (.cells #[.slice none 0 0, .int .i64 0, .int .i64 0, .slice none 0 0, .int .i64 0] 29 (0, 0))) ∧ (w'.heap[s_]? = some (.cells #[.int .i64 0] 2 (0, 0))) ∧ (w.heap.size ≤ s_) ∧ (w.heap.size ≤ s_) ∧ (gb357 ≠ s_) ∧ (s_ ≠ gb357) ∧ (gb358 ≠ s_) ∧ (s_ ≠ gb358) ∧ (gb359 ≠ s_) ∧ (s_ ≠ gb359) ∧ (gb360 ≠ s_) ∧ (s_ ≠ gb360) ∧ (Below w.heap.size w w')) ?_ ?_
     rotate_left
     ·intro hCont
      refine two_ (i := 1) (j := 6) (Ni := some 28) (Nj := some 9) b45_21 b45_22 rfl rfl rfl rfl (two_of HT_.out (by kernel_rfl)) (by decide) (by decide) (fun K hK => ?_) (fun K hK => ?_)
      ·skip
       refine goes_ Try.func72 (by kernel_rfl) rfl #[.slice A3 l3.length c3] (by rfl) rfl rfl (by (try simp only [List.map_toArray, List.map_cons, List.map_nil]); first | done | rfl | (simp only [List.length_drop, List.length_take]; rfl)) ?_
       with_reducible refine (impl_size_int64.calls _ _ l3 t362 _ A21.out).mono ?_
       rintro e w' ⟨rfl, ⟨nd, rfl⟩⟩
       refine ⟨_, rfl, ?_⟩
       refine hK.out _ _ ⟨bc BK359.out 0, bc BK358.out 0⟩ (fun hHeld => ?_)
       clear hK K
       refine norm_ (a' := ?_) ?_ ?_
       rotate_left
       ·show Act.put _ (some 28) _ = _
        simp only [Act.put, sa_, s0_, ss_, i64_w, i32_w]
        rfl
       refine pu_ 5 (some 32) ?_ b45_23 rfl rfl HT_.out (by kernel_rfl) (fun _ _ _ h => h) (Or.inl ⟨by rfl, ?_⟩) ?_ ?_ ?_; rotate_left
       ·intro w'; go_simp; with_reducible rfl
       rotate_left
       ·simp only [Act.put, sa_, s0_, ss_, i64_w, i32_w]; rfl
       refine one_ (i := 6) (N := some 9) b45_20 rfl rfl (one_of HT_.out (by kernel_rfl)) (by decide) (fun K hK => ?_)
       refine box_step ?hg (N := 9) ?hd (cs := #[.int .i64 0]) (t := 2) ?hr ?_; (case hd => rfl); (case hg => rfl); (case hr => first | (go_simp; done) | (go_simp; rfl))
       intro gb363 hg w25 hbox hb
       replace HO_3 := am (Kd.V_below (Kd.V_elderB (kv HO_3.out) gb363 (Nat.le_of_eq hg.symm)) hb)
       replace HO_358000 := am (Kd.V_below (Kd.V_elderB (kv HO_358000.out) gb363 (Nat.le_of_eq hg.symm)) hb)
       have BK363 := am (hbox)
       have GW363 := am ((by rw [hg]; exact (below_size (bl HB.out)) : w.heap.size ≤ gb363))
       have GE363 := GW363
       replace HB := am (below_step (bl HB.out) hb)
       have NB357_363 := am ((by rw [hg]; exact Nat.ne_of_lt (blk_lt (pk BK357.out)) : gb357 ≠ gb363))
       have NB363_357 := am ((by rw [hg]; exact Nat.ne_of_gt (blk_lt (pk BK357.out)) : gb363 ≠ gb357))
       replace BK357 := am (blk_below (pk BK357.out) hb)
       have NB358_363 := am ((by rw [hg]; exact Nat.ne_of_lt (blk_lt (pk BK358.out)) : gb358 ≠ gb363))
       have NB363_358 := am ((by rw [hg]; exact Nat.ne_of_gt (blk_lt (pk BK358.out)) : gb363 ≠ gb358))
       replace BK358 := am (blk_below (pk BK358.out) hb)
       have NB359_363 := am ((by rw [hg]; exact Nat.ne_of_lt (blk_lt (pk BK359.out)) : gb359 ≠ gb363))
       have NB363_359 := am ((by rw [hg]; exact Nat.ne_of_gt (blk_lt (pk BK359.out)) : gb363 ≠ gb359))
       replace BK359 := am (blk_below (pk BK359.out) hb)
       have NB360_363 := am ((by rw [hg]; exact Nat.ne_of_lt (blk_lt (pk BK360.out)) : gb360 ≠ gb363))
       have NB363_360 := am ((by rw [hg]; exact Nat.ne_of_gt (blk_lt (pk BK360.out)) : gb363 ≠ gb360))
       replace BK360 := am (blk_below (pk BK360.out) hb)
       clear hb hbox hg
       refine hK.out _ _ ⟨bc BK359.out 0, bc BK358.out 0⟩ (fun hHeld => ?_)
       clear hK K
       refine norm_ (a' := ?_) ?_ ?_
       rotate_left
       ·show Act.put _ (some 9) _ = _
        simp only [Act.put, sa_, s0_, ss_, i64_w, i32_w]
        rfl
       exact norm_ (by simp only [putAll, Act.put, sa_, s0_, ss_]) (hCont (gb363) _ ⟨hHeld, (kv (Kd.V_mono HO_3.out (fun _ hk => ⟨hk.1.1, ⟨hk.1.2.1, ⟨hk.1.2.2.1, ⟨hk.1.2.2.2.1, ⟨hk.1.2.2.2.2, hk.2⟩⟩⟩⟩⟩))), (kv (Kd.V_mono HO_358000.out (fun _ hk => ⟨hk.1.1, ⟨hk.1.2.1, ⟨hk.1.2.2.1, ⟨hk.1.2.2.2.1, ⟨hk.1.2.2.2.2, hk.2⟩⟩⟩⟩⟩))), (pk BK357.out), (pk BK358.out), (pk BK359.out), (pk BK360.out), (pk BK363.out), GW363.out, GE363.out, NB357_363.out, NB363_357.out, NB358_363.out, NB363_358.out, NB359_363.out, NB363_359.out, NB360_363.out, NB363_360.out, (bl HB.out)⟩)
      ·skip
       refine box_step ?hg (N := 9) ?hd (cs := #[.int .i64 0]) (t := 2) ?hr ?_; (case hd => rfl); (case hg => rfl); (case hr => first | (go_simp; done) | (go_simp; rfl))
       intro gb363 hg w25 hbox hb
       replace HO_3 := am (Kd.V_below (Kd.V_elderB (kv HO_3.out) gb363 (Nat.le_of_eq hg.symm)) hb)
       replace HO_358000 := am (Kd.V_below (Kd.V_elderB (kv HO_358000.out) gb363 (Nat.le_of_eq hg.symm)) hb)
       have BK363 := am (hbox)
       have GW363 := am ((by rw [hg]; exact (below_size (bl HB.out)) : w.heap.size ≤ gb363))
       have GE363 := GW363
       replace HB := am (below_step (bl HB.out) hb)
       have NB357_363 := am ((by rw [hg]; exact Nat.ne_of_lt (blk_lt (pk BK357.out)) : gb357 ≠ gb363))
       have NB363_357 := am ((by rw [hg]; exact Nat.ne_of_gt (blk_lt (pk BK357.out)) : gb363 ≠ gb357))
       replace BK357 := am (blk_below (pk BK357.out) hb)
       have NB358_363 := am ((by rw [hg]; exact Nat.ne_of_lt (blk_lt (pk BK358.out)) : gb358 ≠ gb363))
       have NB363_358 := am ((by rw [hg]; exact Nat.ne_of_gt (blk_lt (pk BK358.out)) : gb363 ≠ gb358))
       replace BK358 := am (blk_below (pk BK358.out) hb)
       have NB359_363 := am ((by rw [hg]; exact Nat.ne_of_lt (blk_lt (pk BK359.out)) : gb359 ≠ gb363))
       have NB363_359 := am ((by rw [hg]; exact Nat.ne_of_gt (blk_lt (pk BK359.out)) : gb363 ≠ gb359))
       replace BK359 := am (blk_below (pk BK359.out) hb)
       have NB360_363 := am ((by rw [hg]; exact Nat.ne_of_lt (blk_lt (pk BK360.out)) : gb360 ≠ gb363))
       have NB363_360 := am ((by rw [hg]; exact Nat.ne_of_gt (blk_lt (pk BK360.out)) : gb363 ≠ gb360))
       replace BK360 := am (blk_below (pk BK360.out) hb)
       clear hb hbox hg
       refine hK.out _ _ ⟨bc BK359.out 0, bc BK358.out 0⟩ (fun hHeld => ?_)
       clear hK K
       refine norm_ (a' := ?_) ?_ ?_
       rotate_left
       ·show Act.put _ (some 9) _ = _
        simp only [Act.put, sa_, s0_, ss_, i64_w, i32_w]
        rfl
       refine one_ (i := 1) (N := some 28) b45_24 rfl rfl (one_of HT_.out (by kernel_rfl)) (by decide) (fun K hK => ?_)
       refine goes_ Try.func72 (by kernel_rfl) rfl #[.slice A3 l3.length c3] (by rfl) rfl rfl (by (try simp only [List.map_toArray, List.map_cons, List.map_nil]); first | done | rfl | (simp only [List.length_drop, List.length_take]; rfl)) ?_
       with_reducible refine (impl_size_int64.calls _ _ l3 t362 _ A21.out).mono ?_
       rintro e w' ⟨rfl, ⟨nd, rfl⟩⟩
       refine ⟨_, rfl, ?_⟩
       refine hK.out _ _ ⟨bc BK359.out 0, bc BK358.out 0⟩ (fun hHeld => ?_)
       clear hK K
       refine norm_ (a' := ?_) ?_ ?_
       rotate_left
       ·show Act.put _ (some 28) _ = _
        simp only [Act.put, sa_, s0_, ss_, i64_w, i32_w]
        rfl
       refine pu_ 5 (some 32) ?_ b45_20 rfl rfl HT_.out (by kernel_rfl) (fun _ _ _ h => h) (Or.inl ⟨by rfl, ?_⟩) ?_ ?_ ?_; rotate_left
       ·intro w'; go_simp; with_reducible rfl
       rotate_left
       ·simp only [Act.put, sa_, s0_, ss_, i64_w, i32_w]; rfl
       exact norm_ (by simp only [putAll, Act.put, sa_, s0_, ss_]) (hCont (gb363) _ ⟨hHeld, (kv (Kd.V_mono HO_3.out (fun _ hk => ⟨hk.1.1, ⟨hk.1.2.1, ⟨hk.1.2.2.1, ⟨hk.1.2.2.2.1, ⟨hk.1.2.2.2.2, hk.2⟩⟩⟩⟩⟩))), (kv (Kd.V_mono HO_358000.out (fun _ hk => ⟨hk.1.1, ⟨hk.1.2.1, ⟨hk.1.2.2.1, ⟨hk.1.2.2.2.1, ⟨hk.1.2.2.2.2, hk.2⟩⟩⟩⟩⟩))), (pk BK357.out), (pk BK358.out), (pk BK359.out), (pk BK360.out), (pk BK363.out), GW363.out, GE363.out, NB357_363.out, NB363_357.out, NB358_363.out, NB363_358.out, NB359_363.out, NB363_359.out, NB360_363.out, NB363_360.out, (bl HB.out)⟩)
     rintro gb363 w26 ⟨hS_, h0_, h1_, h2_, h3_, h4_, h5_, h6_, h7_, h8_, h9_, h10_, h11_, h12_, h13_, h14_, h15_, h16_, h17_⟩
     replace HO_3 : Aside0 (Kd.V (Kd.int .i64) 2 w26 w.heap.size (fun k_ => ((P0_0_ k_ ∨ P3_ k_) ∨ w.heap.size ≤ k_) ∧ k_ ≠ gb357 ∧ k_ ≠ gb358 ∧ k_ ≠ gb359 ∧ k_ ≠ gb360 ∧ k_ ≠ gb363) (.slice A3 l3.length c3) l3) := ⟨h0_⟩
     replace HO_358000 : Aside0 (Kd.V (Kd.int .i64) 2 w26 w.heap.size (fun k_ => ((P0_0_ k_ ∨ P3_ k_) ∨ w.heap.size ≤ k_) ∧ k_ ≠ gb357 ∧ k_ ≠ gb358 ∧ k_ ≠ gb359 ∧ k_ ≠ gb360 ∧ k_ ≠ gb363) (.slice A0_0 l0_0.length c0_0) l0_0) := ⟨h1_⟩
     replace BK357 : Aside0 (w26.heap[gb357]? = some (.cells #[.slice A0_0 l0_0.length c0_0, .int .i64 a0_1, .int .i64 a0_2] 25 (0, 0))) := ⟨h2_⟩
     replace BK358 : Aside0 (w26.heap[gb358]? = some (.cells #[.int .i64 a1] 2 (0, 0))) := ⟨h3_⟩
     replace BK359 : Aside0 (w26.heap[gb359]? = some (.cells #[.int .i64 a2] 2 (0, 0))) := ⟨h4_⟩
     replace BK360 : Aside0 (w26.heap[gb360]? = some (.cells #[.slice none 0 0, .int .i64 0, .int .i64 0, .slice none 0 0, .int .i64 0] 29 (0, 0))) := ⟨h5_⟩
     have BK363 : Aside0 (w26.heap[gb363]? = some (.cells #[.int .i64 0] 2 (0, 0))) := ⟨h6_⟩
     have GW363 : Aside0 (w.heap.size ≤ gb363) := ⟨h7_⟩
     have GE363 : Aside0 (w.heap.size ≤ gb363) := ⟨h8_⟩
     have NB357_363 : Aside0 (gb357 ≠ gb363) := ⟨h9_⟩
     have NB363_357 : Aside0 (gb363 ≠ gb357) := ⟨h10_⟩
     have NB358_363 : Aside0 (gb358 ≠ gb363) := ⟨h11_⟩
     have NB363_358 : Aside0 (gb363 ≠ gb358) := ⟨h12_⟩
     have NB359_363 : Aside0 (gb359 ≠ gb363) := ⟨h13_⟩
     have NB363_359 : Aside0 (gb363 ≠ gb359) := ⟨h14_⟩
     have NB360_363 : Aside0 (gb360 ≠ gb363) := ⟨h15_⟩
     have NB363_360 : Aside0 (gb363 ≠ gb360) := ⟨h16_⟩
     replace HB : Aside0 (Below w.heap.size w w26) := ⟨h17_⟩
     clear h0_ h1_ h2_ h3_ h4_ h5_ h6_ h7_ h8_ h9_ h10_ h11_ h12_ h13_ h14_ h15_ h16_ h17_
     have hHeld : w26.cell? ⟨gb359, 0, none⟩ = some (.int .i64 a2) ∧ w26.cell? ⟨gb358, 0, none⟩ = some (.int .i64 a1) := hS_
     refine norm_ (a' := ?_) ?_ ?_
     rotate_left
     ·simp only [putAll, Act.put, sa_, s0_, ss_]
      rfl
     refine one_ (i := 7) (N := none) b45_25 rfl rfl (one_of HT_.out (by kernel_rfl)) (by decide) (fun K hK => ?_)
     have hs27 : w26.cell? ⟨gb363, 0, none⟩ = some (.int .i64 0) := bc BK363.out 0
     have hfs27 := blk_frozen BK363.out 0
     have hns27_0 := NB357_363.out
     have hns27_1 := NB358_363.out
     have hns27_2 := NB359_363.out
     have hns27_3 := NB360_363.out
     have hms27_0 := NB363_357.out
     have hms27_1 := NB363_358.out
     have hms27_2 := NB363_359.out
     have hms27_3 := NB363_360.out
     refine skip_ (w1 := ?_) (by rfl) rfl ?_ ?_
     rotate_left
     ·go_simp
      rfl
     refine hK.out _ _ ⟨((cell_far (p := ⟨gb363, _, none⟩) NB359_363.out _).trans (hHeld.1)), ((cell_far (p := ⟨gb363, _, none⟩) NB358_363.out _).trans (hHeld.2))⟩ (fun hHeld => ?_)
     clear hK K
     refine done_ (done_of HT_.out (by kernel_rfl)) ?_
     (try (rw [drewN_self w26]; generalize hq_ : World.drewN w26 _ = w26; replace HO_3 := am (vAt2 hq_ HO_3.out); replace HO_358000 := am (vAt2 hq_ HO_358000.out); replace BK357 := am (blk_at hq_ BK357.out); replace BK358 := am (blk_at hq_ BK358.out); replace BK359 := am (blk_at hq_ BK359.out); replace BK360 := am (blk_at hq_ BK360.out); replace BK363 := am (blk_at hq_ BK363.out); replace HB := am (below_at hq_ HB.out); clear hq_))
     try go_wp2
     have n0_ : Aside0 (Kd.V (Kd.int .i64) 2 (w26.setCell ⟨gb363, 0, none⟩ (.int .i64 (wrap64 (t362 - (wrap64 (a2 - a1)))))) w.heap.size (fun k_ => ((P0_0_ k_ ∨ P3_ k_) ∨ w.heap.size ≤ k_) ∧ k_ ≠ gb357 ∧ k_ ≠ gb358 ∧ k_ ≠ gb359 ∧ k_ ≠ gb360 ∧ k_ ≠ gb363) (.slice A3 l3.length c3) l3) := ⟨kv (Kd.V_mono (Kd.V_far (p := ⟨gb363, 0, none⟩) (Kd.V_mono HO_3.out (fun k_ hk => (⟨hk, hk.2.2.2.2.2⟩ : _ ∧ k_ ≠ gb363))) (fun _ hk => hk.2) (.int .i64 (wrap64 (t362 - (wrap64 (a2 - a1)))))) (fun _ hk => ⟨hk.1.1, ⟨hk.1.2.1, ⟨hk.1.2.2.1, ⟨hk.1.2.2.2.1, ⟨hk.1.2.2.2.2.1, hk.1.2.2.2.2.2⟩⟩⟩⟩⟩))⟩
     have n1_ : Aside0 (Kd.V (Kd.int .i64) 2 (w26.setCell ⟨gb363, 0, none⟩ (.int .i64 (wrap64 (t362 - (wrap64 (a2 - a1)))))) w.heap.size (fun k_ => ((P0_0_ k_ ∨ P3_ k_) ∨ w.heap.size ≤ k_) ∧ k_ ≠ gb357 ∧ k_ ≠ gb358 ∧ k_ ≠ gb359 ∧ k_ ≠ gb360 ∧ k_ ≠ gb363) (.slice A0_0 l0_0.length c0_0) l0_0) := ⟨kv (Kd.V_mono (Kd.V_far (p := ⟨gb363, 0, none⟩) (Kd.V_mono HO_358000.out (fun k_ hk => (⟨hk, hk.2.2.2.2.2⟩ : _ ∧ k_ ≠ gb363))) (fun _ hk => hk.2) (.int .i64 (wrap64 (t362 - (wrap64 (a2 - a1)))))) (fun _ hk => ⟨hk.1.1, ⟨hk.1.2.1, ⟨hk.1.2.2.1, ⟨hk.1.2.2.2.1, ⟨hk.1.2.2.2.2.1, hk.1.2.2.2.2.2⟩⟩⟩⟩⟩))⟩
     have n2_ : Aside0 ((w26.setCell ⟨gb363, 0, none⟩ (.int .i64 (wrap64 (t362 - (wrap64 (a2 - a1)))))).heap[gb357]? = some (.cells #[.slice A0_0 l0_0.length c0_0, .int .i64 a0_1, .int .i64 a0_2] 25 (0, 0))) := ⟨by (with_reducible repeat (first | refine blk_drewN ?_ _ | refine blk_drew ?_ | refine blk_alloc ?_ _)); refine blk_far ?_ NB357_363.out _; (with_reducible repeat (first | refine blk_drewN ?_ _ | refine blk_drew ?_ | refine blk_alloc ?_ _)); exact BK357.out⟩
     have n3_ : Aside0 ((w26.setCell ⟨gb363, 0, none⟩ (.int .i64 (wrap64 (t362 - (wrap64 (a2 - a1)))))).heap[gb358]? = some (.cells #[.int .i64 a1] 2 (0, 0))) := ⟨by (with_reducible repeat (first | refine blk_drewN ?_ _ | refine blk_drew ?_ | refine blk_alloc ?_ _)); refine blk_far ?_ NB358_363.out _; (with_reducible repeat (first | refine blk_drewN ?_ _ | refine blk_drew ?_ | refine blk_alloc ?_ _)); exact BK358.out⟩
     have n4_ : Aside0 ((w26.setCell ⟨gb363, 0, none⟩ (.int .i64 (wrap64 (t362 - (wrap64 (a2 - a1)))))).heap[gb359]? = some (.cells #[.int .i64 a2] 2 (0, 0))) := ⟨by (with_reducible repeat (first | refine blk_drewN ?_ _ | refine blk_drew ?_ | refine blk_alloc ?_ _)); refine blk_far ?_ NB359_363.out _; (with_reducible repeat (first | refine blk_drewN ?_ _ | refine blk_drew ?_ | refine blk_alloc ?_ _)); exact BK359.out⟩
     have n5_ : Aside0 ((w26.setCell ⟨gb363, 0, none⟩ (.int .i64 (wrap64 (t362 - (wrap64 (a2 - a1)))))).heap[gb360]? = some (.cells #[.slice none 0 0, .int .i64 0, .int .i64 0, .slice none 0 0, .int .i64 0] 29 (0, 0))) := ⟨by (with_reducible repeat (first | refine blk_drewN ?_ _ | refine blk_drew ?_ | refine blk_alloc ?_ _)); refine blk_far ?_ NB360_363.out _; (with_reducible repeat (first | refine blk_drewN ?_ _ | refine blk_drew ?_ | refine blk_alloc ?_ _)); exact BK360.out⟩
     have n6_ : Aside0 ((w26.setCell ⟨gb363, 0, none⟩ (.int .i64 (wrap64 (t362 - (wrap64 (a2 - a1)))))).heap[gb363]? = some (.cells #[.int .i64 (wrap64 (t362 - (wrap64 (a2 - a1))))] 2 (0, 0))) := ⟨by (with_reducible repeat (first | refine blk_drewN ?_ _ | refine blk_drew ?_ | refine blk_alloc ?_ _)); refine blk_put (cs := #[.int .i64 0]) ?_ 0 _ rfl; (with_reducible repeat (first | refine blk_drewN ?_ _ | refine blk_drew ?_ | refine blk_alloc ?_ _)); exact BK363.out⟩
     have n7_ : Aside0 (Below w.heap.size w (w26.setCell ⟨gb363, 0, none⟩ (.int .i64 (wrap64 (t362 - (wrap64 (a2 - a1))))))) := ⟨by repeat (first | (with_reducible first | exact HB.out | apply below_alloc | apply pw_below_drewN | apply below_drew1 | refine below_set ?_ GE357.out | refine below_set ?_ GE358.out | refine below_set ?_ GE359.out | refine below_set ?_ GE360.out | refine below_set ?_ GE363.out) | exact HB.out)⟩
     (try clear HO_3)
     (try clear HO_358000)
     (try clear BK357)
     (try clear BK358)
     (try clear BK359)
     (try clear BK360)
     (try clear BK363)
     (try clear HB)
     generalize (w26.setCell ⟨gb363, 0, none⟩ (.int .i64 (wrap64 (t362 - (wrap64 (a2 - a1)))))) = w28 at n0_ n1_ n2_ n3_ n4_ n5_ n6_ n7_ ⊢
     have HO_3 := n0_
     have HO_358000 := n1_
     have BK357 := n2_
     have BK358 := n3_
     have BK359 := n4_
     have BK360 := n5_
     have BK363 := n6_
     have HB := n7_
     clear n0_ n1_ n2_ n3_ n4_ n5_ n6_ n7_
     replace HO_3 := am (Kd.V_drew HO_3.out)
     replace HO_358000 := am (Kd.V_drew HO_358000.out)
     replace BK357 := am (blk_drew BK357.out)
     replace BK358 := am (blk_drew BK358.out)
     replace BK359 := am (blk_drew BK359.out)
     replace BK360 := am (blk_drew BK360.out)
     replace BK363 := am (blk_drew BK363.out)
     replace HB := am (below_drew1 HB.out)
     refine start_ (n := 6) (S := fun w' => w'.cell? ⟨gb357, 0, none⟩ = some (.slice A0_0 l0_0.length c0_0) ∧ w'.cell? ⟨gb357, 1, none⟩ = some (.int .i64 a0_1) ∧ w'.cell? ⟨gb357, 2, none⟩ = some (.int .i64 a0_2) ∧ w'.cell? ⟨gb363, 0, none⟩ = some (.int .i64 (wrap64 (t362 - (wrap64 (a2 - a1)))))) (ds := []) b45_26 (by kernel_rfl) rfl rfl ⟨bc BK357.out 0, bc BK357.out 1, bc BK357.out 2, bc BK363.out 0⟩ (fun hHeld => ?_)
     generalize w28.drew = w29 at HO_3 HO_358000 BK357 BK358 BK359 BK360 BK363 HB hHeld ⊢
     refine pure_ (i := 0) (N := some 33) (v := ?_) (a' := ?_) b45_27 rfl rfl (by kernel_rfl) (fun _ _ _ h => h) (Or.inl ⟨by rfl, ?_⟩) ?_ ?_; rotate_left
     ·intro w'; go_simp; with_reducible rfl
     rotate_left
     ·simp only [Act.put, sa_, s0_, ss_, i64_w, i32_w]; rfl
     refine take_ (i := 1) (N := some 34) (v := ?_) (a' := ?_) b45_28 rfl rfl (by kernel_rfl) (fun _ _ _ h => h) (Or.inl ⟨by rfl, ?_⟩) hHeld ?_ ?_; rotate_left
     ·rintro w' ⟨s0, s1, s2, s3⟩; go_simp; with_reducible rfl
     rotate_left
     ·simp only [Act.put, sa_, s0_, ss_, i64_w, i32_w]; rfl
     refine take_ (i := 3) (N := some 36) (v := ?_) (a' := ?_) b45_29 rfl rfl (by kernel_rfl) (fun _ _ _ h => h) (Or.inl ⟨by rfl, ?_⟩) hHeld ?_ ?_; rotate_left
     ·rintro w' ⟨s0, s1, s2, s3⟩; go_simp; with_reducible rfl
     rotate_left
     ·simp only [Act.put, sa_, s0_, ss_, i64_w, i32_w]; rfl
     refine one_ (i := 2) (N := some 35) b45_30 rfl rfl (by kernel_rfl) (by decide) (fun K hK => ?_)
     refine goes_ Try.func72 (by kernel_rfl) rfl #[.slice A0_0 l0_0.length c0_0] (by rfl) rfl rfl (by (try simp only [List.map_toArray, List.map_cons, List.map_nil]); first | done | rfl | (simp only [List.length_drop, List.length_take]; rfl)) ?_
     with_reducible refine (impl_size_int64.calls _ _ l0_0 t364 _ A22.out).mono ?_
     rintro e w' ⟨rfl, ⟨nd, rfl⟩⟩
     refine ⟨_, rfl, ?_⟩
     refine hK.out _ _ ⟨bc BK357.out 0, bc BK357.out 1, bc BK357.out 2, bc BK363.out 0⟩ (fun hHeld => ?_)
     clear hK K
     refine norm_ (a' := ?_) ?_ ?_
     rotate_left
     ·show Act.put _ (some 35) _ = _
      simp only [Act.put, sa_, s0_, ss_, i64_w, i32_w]
      rfl
     refine pure_ (i := 4) (N := some 37) (v := ?_) (a' := ?_) b45_31 rfl rfl (by kernel_rfl) (fun _ _ _ h => h) (Or.inl ⟨by rfl, ?_⟩) ?_ ?_; rotate_left
     ·intro w'; go_simp; with_reducible rfl
     rotate_left
     ·simp only [Act.put, sa_, s0_, ss_, i64_w, i32_w]; rfl
     refine pure_ (i := 5) (N := some 38) (v := ?_) (a' := ?_) b45_32 rfl rfl (by kernel_rfl) (fun _ _ _ h => h) (Or.inl ⟨by rfl, ?_⟩) ?_ ?_; rotate_left
     ·intro w'; go_simp; with_reducible rfl
     rotate_left
     ·simp only [Act.put, sa_, s0_, ss_, i64_w, i32_w]; rfl
     refine done_ (by kernel_rfl) ?_
     (try (rw [drewN_self w29]; generalize hq_ : World.drewN w29 _ = w29; replace HO_3 := am (vAt2 hq_ HO_3.out); replace HO_358000 := am (vAt2 hq_ HO_358000.out); replace BK357 := am (blk_at hq_ BK357.out); replace BK358 := am (blk_at hq_ BK358.out); replace BK359 := am (blk_at hq_ BK359.out); replace BK360 := am (blk_at hq_ BK360.out); replace BK363 := am (blk_at hq_ BK363.out); replace HB := am (below_at hq_ HB.out); clear hq_))
     have hnb30 := NB360_357.out
     have hnc30 := NB357_360.out
     have hnb31 := NB360_358.out
     have hnc31 := NB358_360.out
     have hnb32 := NB360_359.out
     have hnc32 := NB359_360.out
     have hnb33 := NB360_363.out
     have hnc33 := NB363_360.out
     have hcz34_0 : w29.cell? ⟨gb360, 0, none⟩ = some (.slice none 0 0) := bc BK360.out 0
     have hcz34_1 : w29.cell? ⟨gb360, 1, none⟩ = some (.int .i64 0) := bc BK360.out 1
     have hcz34_2 : w29.cell? ⟨gb360, 2, none⟩ = some (.int .i64 0) := bc BK360.out 2
     have hcz34_3 : w29.cell? ⟨gb360, 3, none⟩ = some (.slice none 0 0) := bc BK360.out 3
     have hcz34_4 : w29.cell? ⟨gb360, 4, none⟩ = some (.int .i64 0) := bc BK360.out 4
     have hfz34_0 := blk_frozen BK360.out 0
     have hfz34_1 := blk_frozen BK360.out 1
     have hfz34_2 := blk_frozen BK360.out 2
     have hfz34_3 := blk_frozen BK360.out 3
     have hfz34_4 := blk_frozen BK360.out 4
     try go_wp2
     refine bodyPost_ret (results_cell_row rfl _ _ gb360 29 #[.slice none 0 0, .int .i64 0, .int .i64 0, .slice none 0 0, .int .i64 5] (0, 0) _ rfl (by (with_reducible repeat (first | refine blk_drewN ?_ _ | refine blk_drew ?_ | refine blk_alloc ?_ _)); refine blk_put (cs := #[.slice none 0 0, .int .i64 0, .int .i64 0, .slice none 0 0, .int .i64 0]) ?_ 4 _ rfl; (with_reducible repeat (first | refine blk_drewN ?_ _ | refine blk_drew ?_ | refine blk_alloc ?_ _)); refine blk_put (cs := #[.slice none 0 0, .int .i64 0, .int .i64 0, .slice none 0 0, .int .i64 0]) ?_ 3 _ rfl; (with_reducible repeat (first | refine blk_drewN ?_ _ | refine blk_drew ?_ | refine blk_alloc ?_ _)); refine blk_put (cs := #[.slice none 0 0, .int .i64 0, .int .i64 0, .slice none 0 0, .int .i64 0]) ?_ 2 _ rfl; (with_reducible repeat (first | refine blk_drewN ?_ _ | refine blk_drew ?_ | refine blk_alloc ?_ _)); refine blk_put (cs := #[.slice none 0 0, .int .i64 0, .int .i64 0, .slice none 0 0, .int .i64 0]) ?_ 1 _ rfl; (with_reducible repeat (first | refine blk_drewN ?_ _ | refine blk_drew ?_ | refine blk_alloc ?_ _)); refine blk_put (cs := #[.slice none 0 0, .int .i64 0, .int .i64 0, .slice none 0 0, .int .i64 0]) ?_ 0 _ rfl; (with_reducible repeat (first | refine blk_drewN ?_ _ | refine blk_drew ?_ | refine blk_alloc ?_ _)); exact BK360.out) Try.underlying29 rfl (by kernel_rfl)) rfl ?_
     exact ⟨_, _, by first | rfl | (simp [errW_none, errW_some] <;> rfl) | (simp [*, errW_none, errW_some] <;> rfl), by first | exact Kd.R_nil _ _ _ _ _ | exact Kd.N_nil _ _ _ _ _ | exact Kd.V_nil _ _ _ _ _ | exact Kd.Q_nil _ _ _ _ _ | exact Kd.S_nil _ _ _ _ _, by first | exact Kd.R_nil _ _ _ _ _ | exact Kd.N_nil _ _ _ _ _ | exact Kd.V_nil _ _ _ _ _ | exact Kd.Q_nil _ _ _ _ _ | exact Kd.S_nil _ _ _ _ _, by repeat (first | (with_reducible first | exact HB.out | apply below_alloc | apply pw_below_drewN | apply below_drew1 | refine below_set ?_ GE357.out | refine below_set ?_ GE358.out | refine below_set ?_ GE359.out | refine below_set ?_ GE360.out | refine below_set ?_ GE363.out) | exact HB.out)⟩
    ·rw [if_neg c23] at H
     have c23b0 : decide (300 < (wrap64 (t364 + (wrap64 (t362 - (wrap64 (a2 - a1))))))) = false := decide_eq_false c23
     clear c23
     by_cases c35 : 0 ≤ a1
     ·rw [if_pos c35] at H
      have c35b0 := eq_true c35
      have c35b1 : decide (0 ≤ a1) = true := decide_eq_true c35
      clear c35
      by_cases c36 : a1 ≤ (l0_0.length : Int)
      ·rw [if_pos c36] at H
       have c36b0 := eq_true c36
       have c36b1 : decide (a1 ≤ (l0_0.length : Int)) = true := decide_eq_true c36
       clear c36
       obtain ⟨y365, hy365⟩ : ∃ y_ : List Int, y_ = (l0_0.take (a1 : Int).toNat) := ⟨_, rfl⟩
       replace H : (if 0 ≤ a2 then (if a2 ≤ (l0_0.length : Int) then ((slices_Concat_sint64_int64.f kj4 (([y365, l3, (l0_0.drop (a2 : Int).toNat)] : List (List Int)))).bind fun t378 => ((impl_replace_1.f a0_1 a1 a2 (wrap64 (t362 - (wrap64 (a2 - a1))))).bind fun t381 => ((impl_replace_1.f a0_2 a1 a2 (wrap64 (t362 - (wrap64 (a2 - a1))))).bind fun t382 => (if a1 = a2 then (impl_replace.j1 kj4 l3 (a0_1 == a1) l0_0 a0_1 a0_2 a1 a2 t378 t381 t382) else (impl_replace.j1 kj4 l3 false l0_0 a0_1 a0_2 a1 a2 t378 t381 t382))))) else (none)) else (none)) = some (r1, r2, r3, r4, r5) := by first | (rw [hy365]; with_reducible exact H) | (have H2_ := (Option.bind_some _ _).symm.trans H; rw [hy365]; with_reducible exact H2_) | (have H2_ := (Option.bind_some _ _).symm.trans H; with_reducible exact H2_) | with_reducible exact H | (rw [hy365]; exact H) | exact H
       have Ny365 := am hy365
       clear hy365
       by_cases c37 : 0 ≤ a2
       ·rw [if_pos c37] at H
        have c37b0 := eq_true c37
        have c37b1 : decide (0 ≤ a2) = true := decide_eq_true c37
        clear c37
        by_cases c38 : a2 ≤ (l0_0.length : Int)
        ·rw [if_pos c38] at H
         have c38b0 := eq_true c38
         have c38b1 : decide (a2 ≤ (l0_0.length : Int)) = true := decide_eq_true c38
         clear c38
         obtain ⟨y370, hy370⟩ : ∃ y_ : List Int, y_ = (l0_0.drop (a2 : Int).toNat) := ⟨_, rfl⟩
         replace H : ((slices_Concat_sint64_int64.f kj4 (([y365, l3, y370] : List (List Int)))).bind fun t378 => ((impl_replace_1.f a0_1 a1 a2 (wrap64 (t362 - (wrap64 (a2 - a1))))).bind fun t381 => ((impl_replace_1.f a0_2 a1 a2 (wrap64 (t362 - (wrap64 (a2 - a1))))).bind fun t382 => (if a1 = a2 then (impl_replace.j1 kj4 l3 (a0_1 == a1) l0_0 a0_1 a0_2 a1 a2 t378 t381 t382) else (impl_replace.j1 kj4 l3 false l0_0 a0_1 a0_2 a1 a2 t378 t381 t382))))) = some (r1, r2, r3, r4, r5) := by first | (rw [hy370]; with_reducible exact H) | (have H2_ := (Option.bind_some _ _).symm.trans H; rw [hy370]; with_reducible exact H2_) | (have H2_ := (Option.bind_some _ _).symm.trans H; with_reducible exact H2_) | with_reducible exact H | (rw [hy370]; exact H) | exact H
         have Ny370 := am hy370
         clear hy370
         obtain ⟨y375, hy375⟩ : ∃ y_ : List (List Int), y_ = (([y365, l3, y370] : List (List Int))) := ⟨_, rfl⟩
         replace H : ((slices_Concat_sint64_int64.f kj4 y375).bind fun t378 => ((impl_replace_1.f a0_1 a1 a2 (wrap64 (t362 - (wrap64 (a2 - a1))))).bind fun t381 => ((impl_replace_1.f a0_2 a1 a2 (wrap64 (t362 - (wrap64 (a2 - a1))))).bind fun t382 => (if a1 = a2 then (impl_replace.j1 kj4 l3 (a0_1 == a1) l0_0 a0_1 a0_2 a1 a2 t378 t381 t382) else (impl_replace.j1 kj4 l3 false l0_0 a0_1 a0_2 a1 a2 t378 t381 t382))))) = some (r1, r2, r3, r4, r5) := by first | (rw [hy375]; with_reducible exact H) | (have H2_ := (Option.bind_some _ _).symm.trans H; rw [hy375]; with_reducible exact H2_) | (have H2_ := (Option.bind_some _ _).symm.trans H; with_reducible exact H2_) | with_reducible exact H | (rw [hy375]; exact H) | exact H
         have Ny375 := am hy375
         clear hy375
         replace H := Option.bind_eq_some_iff.mp H
         obtain ⟨t378, A390, H⟩ := H
         replace H : ((impl_replace_1.f a0_1 a1 a2 (wrap64 (t362 - (wrap64 (a2 - a1))))).bind fun t381 => ((impl_replace_1.f a0_2 a1 a2 (wrap64 (t362 - (wrap64 (a2 - a1))))).bind fun t382 => (if a1 = a2 then (impl_replace.j1 kj4 l3 (a0_1 == a1) l0_0 a0_1 a0_2 a1 a2 t378 t381 t382) else (impl_replace.j1 kj4 l3 false l0_0 a0_1 a0_2 a1 a2 t378 t381 t382)))) = some (r1, r2, r3, r4, r5) := H
         have A39 := Aside0.mk A390
         clear A390
         replace H := Option.bind_eq_some_iff.mp H
         obtain ⟨t381, A400, H⟩ := H
         replace H : ((impl_replace_1.f a0_2 a1 a2 (wrap64 (t362 - (wrap64 (a2 - a1))))).bind fun t382 => (if a1 = a2 then (impl_replace.j1 kj4 l3 (a0_1 == a1) l0_0 a0_1 a0_2 a1 a2 t378 t381 t382) else (impl_replace.j1 kj4 l3 false l0_0 a0_1 a0_2 a1 a2 t378 t381 t382))) = some (r1, r2, r3, r4, r5) := H
         have A40 := Aside0.mk A400
         clear A400
         replace H := Option.bind_eq_some_iff.mp H
         obtain ⟨t382, A410, H⟩ := H
         replace H : (if a1 = a2 then (impl_replace.j1 kj4 l3 (a0_1 == a1) l0_0 a0_1 a0_2 a1 a2 t378 t381 t382) else (impl_replace.j1 kj4 l3 false l0_0 a0_1 a0_2 a1 a2 t378 t381 t382)) = some (r1, r2, r3, r4, r5) := H
         have A41 := Aside0.mk A410
         clear A410
         have HC42 := Aside0.mk H
         clear H
         try go_wp2
         replace HO_3 := am (Kd.V_drew HO_3.out)
         replace HO_358000 := am (Kd.V_drew HO_358000.out)
         replace BK357 := am (blk_drew BK357.out)
         replace BK358 := am (blk_drew BK358.out)
         replace BK359 := am (blk_drew BK359.out)
         replace BK360 := am (blk_drew BK360.out)
         replace HB := am (below_drew1 HB.out)
         refine start_ (n := 8) (S := fun w' => w'.cell? ⟨gb359, 0, none⟩ = some (.int .i64 a2) ∧ w'.cell? ⟨gb358, 0, none⟩ = some (.int .i64 a1)) (ds := []) b45_15 (by kernel_rfl) rfl rfl ⟨bc BK359.out 0, bc BK358.out 0⟩ (fun hHeld => ?_); refine with_tabW impl_replace.tab3 impl_replace.bits3 (fun HT_ HW_ => ?_)
         generalize wc.drew = w43 at HO_3 HO_358000 BK357 BK358 BK359 BK360 HB hHeld ⊢
         refine pu_ 0 (some 27) ?_ b45_16 rfl rfl HT_.out (by kernel_rfl) (fun _ _ _ h => h) (Or.inl ⟨by rfl, ?_⟩) ?_ ?_ ?_; rotate_left
         ·intro w'; go_simp; with_reducible rfl
         rotate_left
         ·simp only [Act.put, sa_, s0_, ss_, i64_w, i32_w]; rfl
         refine tk_ 2 (some 29) ?_ b45_17 rfl rfl HT_.out HW_.out (by kernel_rfl) (fun _ _ _ h => h) (Or.inl ⟨by rfl, ?_⟩) hHeld ?_ ?_ ?_; rotate_left
         ·rintro w' ⟨s0, s1⟩; go_simp; with_reducible rfl
         rotate_left
         ·simp only [Act.put, sa_, s0_, ss_, i64_w, i32_w]; rfl
         refine tk_ 3 (some 30) ?_ b45_18 rfl rfl HT_.out HW_.out (by kernel_rfl) (fun _ _ _ h => h) (Or.inl ⟨by rfl, ?_⟩) hHeld ?_ ?_ ?_; rotate_left
         ·rintro w' ⟨s0, s1⟩; go_simp; with_reducible rfl
         rotate_left
         ·simp only [Act.put, sa_, s0_, ss_, i64_w, i32_w]; rfl
         refine pu_ 4 (some 31) ?_ b45_19 rfl rfl HT_.out (by kernel_rfl) (fun _ _ _ h => h) (Or.inl ⟨by rfl, ?_⟩) ?_ ?_ ?_; rotate_left
         ·intro w'; go_simp; with_reducible rfl
         rotate_left
         ·simp only [Act.put, sa_, s0_, ss_, i64_w, i32_w]; rfl
         refine join_ (σ := Nat) 1 b45_20 (fun s_ => [(28, .int .i64 t362), (9, .pointer (some ⟨s_, 0, none⟩)), (32, .int .i64 (wrap64 (t362 - (wrap64 (a2 - a1)))))]) (fun s_ w' => (w'.cell? ⟨gb359, 0, none⟩ = some (.int .i64 a2) ∧ w'.cell? ⟨gb358, 0, none⟩ = some (.int .i64 a1)) ∧ (Kd.V (Kd.int .i64) 2 w' w.heap.size (fun k_ => ((P0_0_ k_ ∨ P3_ k_) ∨ w.heap.size ≤ k_) ∧ k_ ≠ gb357 ∧ k_ ≠ gb358 ∧ k_ ≠ gb359 ∧ k_ ≠ gb360 ∧ k_ ≠ s_) (.slice A3 l3.length c3) l3) ∧ (Kd.V (Kd.int .i64) 2 w' w.heap.size (fun k_ => ((P0_0_ k_ ∨ P3_ k_) ∨ w.heap.size ≤ k_) ∧ k_ ≠ gb357 ∧ k_ ≠ gb358 ∧ k_ ≠ gb359 ∧ k_ ≠ gb360 ∧ k_ ≠ s_) (.slice A0_0 l0_0.length c0_0) l0_0) ∧ (w'.heap[gb357]? = some (.cells #[.slice A0_0 l0_0.length c0_0, .int .i64 a0_1, .int .i64 a0_2] 25 (0, 0))) ∧ (w'.heap[gb358]? = some (.cells #[.int .i64 a1] 2 (0, 0))) ∧ (w'.heap[gb359]? = some (.cells #[.int .i64 a2] 2 (0, 0))) ∧ (w'.heap[gb360]? = some (.cells #[.slice none 0 0, .int .i64 0, .int .i64 0, .slice none 0 0, .int .i64 0] 29 (0, 0))) ∧ (w'.heap[s_]? = some (.cells #[.int .i64 0] 2 (0, 0))) ∧ (w.heap.size ≤ s_) ∧ (w.heap.size ≤ s_) ∧ (gb357 ≠ s_) ∧ (s_ ≠ gb357) ∧ (gb358 ≠ s_) ∧ (s_ ≠ gb358) ∧ (gb359 ≠ s_) ∧ (s_ ≠ gb359) ∧ (gb360 ≠ s_) ∧ (s_ ≠ gb360) ∧ (Below w.heap.size w w')) ?_ ?_
         rotate_left
         ·intro hCont
          refine two_ (i := 1) (j := 6) (Ni := some 28) (Nj := some 9) b45_21 b45_22 rfl rfl rfl rfl (two_of HT_.out (by kernel_rfl)) (by decide) (by decide) (fun K hK => ?_) (fun K hK => ?_)
          ·skip
           refine goes_ Try.func72 (by kernel_rfl) rfl #[.slice A3 l3.length c3] (by rfl) rfl rfl (by (try simp only [List.map_toArray, List.map_cons, List.map_nil]); first | done | rfl | (simp only [List.length_drop, List.length_take]; rfl)) ?_
           with_reducible refine (impl_size_int64.calls _ _ l3 t362 _ A21.out).mono ?_
           rintro e w' ⟨rfl, ⟨nd, rfl⟩⟩
           refine ⟨_, rfl, ?_⟩
           refine hK.out _ _ ⟨bc BK359.out 0, bc BK358.out 0⟩ (fun hHeld => ?_)
           clear hK K
           refine norm_ (a' := ?_) ?_ ?_
           rotate_left
           ·show Act.put _ (some 28) _ = _
            simp only [Act.put, sa_, s0_, ss_, i64_w, i32_w]
            rfl
           refine pu_ 5 (some 32) ?_ b45_23 rfl rfl HT_.out (by kernel_rfl) (fun _ _ _ h => h) (Or.inl ⟨by rfl, ?_⟩) ?_ ?_ ?_; rotate_left
           ·intro w'; go_simp; with_reducible rfl
           rotate_left
           ·simp only [Act.put, sa_, s0_, ss_, i64_w, i32_w]; rfl
           refine one_ (i := 6) (N := some 9) b45_20 rfl rfl (one_of HT_.out (by kernel_rfl)) (by decide) (fun K hK => ?_)
           refine box_step ?hg (N := 9) ?hd (cs := #[.int .i64 0]) (t := 2) ?hr ?_; (case hd => rfl); (case hg => rfl); (case hr => first | (go_simp; done) | (go_simp; rfl))
           intro gb363 hg w44 hbox hb
           replace HO_3 := am (Kd.V_below (Kd.V_elderB (kv HO_3.out) gb363 (Nat.le_of_eq hg.symm)) hb)
           replace HO_358000 := am (Kd.V_below (Kd.V_elderB (kv HO_358000.out) gb363 (Nat.le_of_eq hg.symm)) hb)
           have BK363 := am (hbox)
           have GW363 := am ((by rw [hg]; exact (below_size (bl HB.out)) : w.heap.size ≤ gb363))
           have GE363 := GW363
           replace HB := am (below_step (bl HB.out) hb)
           have NB357_363 := am ((by rw [hg]; exact Nat.ne_of_lt (blk_lt (pk BK357.out)) : gb357 ≠ gb363))
           have NB363_357 := am ((by rw [hg]; exact Nat.ne_of_gt (blk_lt (pk BK357.out)) : gb363 ≠ gb357))
           replace BK357 := am (blk_below (pk BK357.out) hb)
           have NB358_363 := am ((by rw [hg]; exact Nat.ne_of_lt (blk_lt (pk BK358.out)) : gb358 ≠ gb363))
           have NB363_358 := am ((by rw [hg]; exact Nat.ne_of_gt (blk_lt (pk BK358.out)) : gb363 ≠ gb358))
           replace BK358 := am (blk_below (pk BK358.out) hb)
           have NB359_363 := am ((by rw [hg]; exact Nat.ne_of_lt (blk_lt (pk BK359.out)) : gb359 ≠ gb363))
           have NB363_359 := am ((by rw [hg]; exact Nat.ne_of_gt (blk_lt (pk BK359.out)) : gb363 ≠ gb359))
           replace BK359 := am (blk_below (pk BK359.out) hb)
           have NB360_363 := am ((by rw [hg]; exact Nat.ne_of_lt (blk_lt (pk BK360.out)) : gb360 ≠ gb363))
           have NB363_360 := am ((by rw [hg]; exact Nat.ne_of_gt (blk_lt (pk BK360.out)) : gb363 ≠ gb360))
           replace BK360 := am (blk_below (pk BK360.out) hb)
           clear hb hbox hg
           refine hK.out _ _ ⟨bc BK359.out 0, bc BK358.out 0⟩ (fun hHeld => ?_)
           clear hK K
           refine norm_ (a' := ?_) ?_ ?_
           rotate_left
           ·show Act.put _ (some 9) _ = _
            simp only [Act.put, sa_, s0_, ss_, i64_w, i32_w]
            rfl
           exact norm_ (by simp only [putAll, Act.put, sa_, s0_, ss_]) (hCont (gb363) _ ⟨hHeld, (kv (Kd.V_mono HO_3.out (fun _ hk => ⟨hk.1.1, ⟨hk.1.2.1, ⟨hk.1.2.2.1, ⟨hk.1.2.2.2.1, ⟨hk.1.2.2.2.2, hk.2⟩⟩⟩⟩⟩))), (kv (Kd.V_mono HO_358000.out (fun _ hk => ⟨hk.1.1, ⟨hk.1.2.1, ⟨hk.1.2.2.1, ⟨hk.1.2.2.2.1, ⟨hk.1.2.2.2.2, hk.2⟩⟩⟩⟩⟩))), (pk BK357.out), (pk BK358.out), (pk BK359.out), (pk BK360.out), (pk BK363.out), GW363.out, GE363.out, NB357_363.out, NB363_357.out, NB358_363.out, NB363_358.out, NB359_363.out, NB363_359.out, NB360_363.out, NB363_360.out, (bl HB.out)⟩)
          ·skip
           refine box_step ?hg (N := 9) ?hd (cs := #[.int .i64 0]) (t := 2) ?hr ?_; (case hd => rfl); (case hg => rfl); (case hr => first | (go_simp; done) | (go_simp; rfl))
           intro gb363 hg w44 hbox hb
           replace HO_3 := am (Kd.V_below (Kd.V_elderB (kv HO_3.out) gb363 (Nat.le_of_eq hg.symm)) hb)
           replace HO_358000 := am (Kd.V_below (Kd.V_elderB (kv HO_358000.out) gb363 (Nat.le_of_eq hg.symm)) hb)
           have BK363 := am (hbox)
           have GW363 := am ((by rw [hg]; exact (below_size (bl HB.out)) : w.heap.size ≤ gb363))
           have GE363 := GW363
           replace HB := am (below_step (bl HB.out) hb)
           have NB357_363 := am ((by rw [hg]; exact Nat.ne_of_lt (blk_lt (pk BK357.out)) : gb357 ≠ gb363))
           have NB363_357 := am ((by rw [hg]; exact Nat.ne_of_gt (blk_lt (pk BK357.out)) : gb363 ≠ gb357))
           replace BK357 := am (blk_below (pk BK357.out) hb)
           have NB358_363 := am ((by rw [hg]; exact Nat.ne_of_lt (blk_lt (pk BK358.out)) : gb358 ≠ gb363))
           have NB363_358 := am ((by rw [hg]; exact Nat.ne_of_gt (blk_lt (pk BK358.out)) : gb363 ≠ gb358))
           replace BK358 := am (blk_below (pk BK358.out) hb)
           have NB359_363 := am ((by rw [hg]; exact Nat.ne_of_lt (blk_lt (pk BK359.out)) : gb359 ≠ gb363))
           have NB363_359 := am ((by rw [hg]; exact Nat.ne_of_gt (blk_lt (pk BK359.out)) : gb363 ≠ gb359))
           replace BK359 := am (blk_below (pk BK359.out) hb)
           have NB360_363 := am ((by rw [hg]; exact Nat.ne_of_lt (blk_lt (pk BK360.out)) : gb360 ≠ gb363))
           have NB363_360 := am ((by rw [hg]; exact Nat.ne_of_gt (blk_lt (pk BK360.out)) : gb363 ≠ gb360))
           replace BK360 := am (blk_below (pk BK360.out) hb)
           clear hb hbox hg
           refine hK.out _ _ ⟨bc BK359.out 0, bc BK358.out 0⟩ (fun hHeld => ?_)
           clear hK K
           refine norm_ (a' := ?_) ?_ ?_
           rotate_left
           ·show Act.put _ (some 9) _ = _
            simp only [Act.put, sa_, s0_, ss_, i64_w, i32_w]
            rfl
           refine one_ (i := 1) (N := some 28) b45_24 rfl rfl (one_of HT_.out (by kernel_rfl)) (by decide) (fun K hK => ?_)
           refine goes_ Try.func72 (by kernel_rfl) rfl #[.slice A3 l3.length c3] (by rfl) rfl rfl (by (try simp only [List.map_toArray, List.map_cons, List.map_nil]); first | done | rfl | (simp only [List.length_drop, List.length_take]; rfl)) ?_
           with_reducible refine (impl_size_int64.calls _ _ l3 t362 _ A21.out).mono ?_
           rintro e w' ⟨rfl, ⟨nd, rfl⟩⟩
           refine ⟨_, rfl, ?_⟩
           refine hK.out _ _ ⟨bc BK359.out 0, bc BK358.out 0⟩ (fun hHeld => ?_)
           clear hK K
           refine norm_ (a' := ?_) ?_ ?_
           rotate_left
           ·show Act.put _ (some 28) _ = _
            simp only [Act.put, sa_, s0_, ss_, i64_w, i32_w]
            rfl
           refine pu_ 5 (some 32) ?_ b45_20 rfl rfl HT_.out (by kernel_rfl) (fun _ _ _ h => h) (Or.inl ⟨by rfl, ?_⟩) ?_ ?_ ?_; rotate_left
           ·intro w'; go_simp; with_reducible rfl
           rotate_left
           ·simp only [Act.put, sa_, s0_, ss_, i64_w, i32_w]; rfl
           exact norm_ (by simp only [putAll, Act.put, sa_, s0_, ss_]) (hCont (gb363) _ ⟨hHeld, (kv (Kd.V_mono HO_3.out (fun _ hk => ⟨hk.1.1, ⟨hk.1.2.1, ⟨hk.1.2.2.1, ⟨hk.1.2.2.2.1, ⟨hk.1.2.2.2.2, hk.2⟩⟩⟩⟩⟩))), (kv (Kd.V_mono HO_358000.out (fun _ hk => ⟨hk.1.1, ⟨hk.1.2.1, ⟨hk.1.2.2.1, ⟨hk.1.2.2.2.1, ⟨hk.1.2.2.2.2, hk.2⟩⟩⟩⟩⟩))), (pk BK357.out), (pk BK358.out), (pk BK359.out), (pk BK360.out), (pk BK363.out), GW363.out, GE363.out, NB357_363.out, NB363_357.out, NB358_363.out, NB363_358.out, NB359_363.out, NB363_359.out, NB360_363.out, NB363_360.out, (bl HB.out)⟩)
         rintro gb363 w45 ⟨hS_, h0_, h1_, h2_, h3_, h4_, h5_, h6_, h7_, h8_, h9_, h10_, h11_, h12_, h13_, h14_, h15_, h16_, h17_⟩
         replace HO_3 : Aside0 (Kd.V (Kd.int .i64) 2 w45 w.heap.size (fun k_ => ((P0_0_ k_ ∨ P3_ k_) ∨ w.heap.size ≤ k_) ∧ k_ ≠ gb357 ∧ k_ ≠ gb358 ∧ k_ ≠ gb359 ∧ k_ ≠ gb360 ∧ k_ ≠ gb363) (.slice A3 l3.length c3) l3) := ⟨h0_⟩
         replace HO_358000 : Aside0 (Kd.V (Kd.int .i64) 2 w45 w.heap.size (fun k_ => ((P0_0_ k_ ∨ P3_ k_) ∨ w.heap.size ≤ k_) ∧ k_ ≠ gb357 ∧ k_ ≠ gb358 ∧ k_ ≠ gb359 ∧ k_ ≠ gb360 ∧ k_ ≠ gb363) (.slice A0_0 l0_0.length c0_0) l0_0) := ⟨h1_⟩
         replace BK357 : Aside0 (w45.heap[gb357]? = some (.cells #[.slice A0_0 l0_0.length c0_0, .int .i64 a0_1, .int .i64 a0_2] 25 (0, 0))) := ⟨h2_⟩
         replace BK358 : Aside0 (w45.heap[gb358]? = some (.cells #[.int .i64 a1] 2 (0, 0))) := ⟨h3_⟩
         replace BK359 : Aside0 (w45.heap[gb359]? = some (.cells #[.int .i64 a2] 2 (0, 0))) := ⟨h4_⟩
         replace BK360 : Aside0 (w45.heap[gb360]? = some (.cells #[.slice none 0 0, .int .i64 0, .int .i64 0, .slice none 0 0, .int .i64 0] 29 (0, 0))) := ⟨h5_⟩
         have BK363 : Aside0 (w45.heap[gb363]? = some (.cells #[.int .i64 0] 2 (0, 0))) := ⟨h6_⟩
         have GW363 : Aside0 (w.heap.size ≤ gb363) := ⟨h7_⟩
         have GE363 : Aside0 (w.heap.size ≤ gb363) := ⟨h8_⟩
         have NB357_363 : Aside0 (gb357 ≠ gb363) := ⟨h9_⟩
         have NB363_357 : Aside0 (gb363 ≠ gb357) := ⟨h10_⟩
         have NB358_363 : Aside0 (gb358 ≠ gb363) := ⟨h11_⟩
         have NB363_358 : Aside0 (gb363 ≠ gb358) := ⟨h12_⟩
         have NB359_363 : Aside0 (gb359 ≠ gb363) := ⟨h13_⟩
         have NB363_359 : Aside0 (gb363 ≠ gb359) := ⟨h14_⟩
         have NB360_363 : Aside0 (gb360 ≠ gb363) := ⟨h15_⟩
         have NB363_360 : Aside0 (gb363 ≠ gb360) := ⟨h16_⟩
         replace HB : Aside0 (Below w.heap.size w w45) := ⟨h17_⟩
         clear h0_ h1_ h2_ h3_ h4_ h5_ h6_ h7_ h8_ h9_ h10_ h11_ h12_ h13_ h14_ h15_ h16_ h17_
         have hHeld : w45.cell? ⟨gb359, 0, none⟩ = some (.int .i64 a2) ∧ w45.cell? ⟨gb358, 0, none⟩ = some (.int .i64 a1) := hS_
         refine norm_ (a' := ?_) ?_ ?_
         rotate_left
         ·simp only [putAll, Act.put, sa_, s0_, ss_]
          rfl
         refine one_ (i := 7) (N := none) b45_25 rfl rfl (one_of HT_.out (by kernel_rfl)) (by decide) (fun K hK => ?_)
         have hs46 : w45.cell? ⟨gb363, 0, none⟩ = some (.int .i64 0) := bc BK363.out 0
         have hfs46 := blk_frozen BK363.out 0
         have hns46_0 := NB357_363.out
         have hns46_1 := NB358_363.out
         have hns46_2 := NB359_363.out
         have hns46_3 := NB360_363.out
         have hms46_0 := NB363_357.out
         have hms46_1 := NB363_358.out
         have hms46_2 := NB363_359.out
         have hms46_3 := NB363_360.out
         refine skip_ (w1 := ?_) (by rfl) rfl ?_ ?_
         rotate_left
         ·go_simp
          rfl
         refine hK.out _ _ ⟨((cell_far (p := ⟨gb363, _, none⟩) NB359_363.out _).trans (hHeld.1)), ((cell_far (p := ⟨gb363, _, none⟩) NB358_363.out _).trans (hHeld.2))⟩ (fun hHeld => ?_)
         clear hK K
         refine done_ (done_of HT_.out (by kernel_rfl)) ?_
         (try (rw [drewN_self w45]; generalize hq_ : World.drewN w45 _ = w45; replace HO_3 := am (vAt2 hq_ HO_3.out); replace HO_358000 := am (vAt2 hq_ HO_358000.out); replace BK357 := am (blk_at hq_ BK357.out); replace BK358 := am (blk_at hq_ BK358.out); replace BK359 := am (blk_at hq_ BK359.out); replace BK360 := am (blk_at hq_ BK360.out); replace BK363 := am (blk_at hq_ BK363.out); replace HB := am (below_at hq_ HB.out); clear hq_))
         try go_wp2
         have n0_ : Aside0 (Kd.V (Kd.int .i64) 2 (w45.setCell ⟨gb363, 0, none⟩ (.int .i64 (wrap64 (t362 - (wrap64 (a2 - a1)))))) w.heap.size (fun k_ => ((P0_0_ k_ ∨ P3_ k_) ∨ w.heap.size ≤ k_) ∧ k_ ≠ gb357 ∧ k_ ≠ gb358 ∧ k_ ≠ gb359 ∧ k_ ≠ gb360 ∧ k_ ≠ gb363) (.slice A3 l3.length c3) l3) := ⟨kv (Kd.V_mono (Kd.V_far (p := ⟨gb363, 0, none⟩) (Kd.V_mono HO_3.out (fun k_ hk => (⟨hk, hk.2.2.2.2.2⟩ : _ ∧ k_ ≠ gb363))) (fun _ hk => hk.2) (.int .i64 (wrap64 (t362 - (wrap64 (a2 - a1)))))) (fun _ hk => ⟨hk.1.1, ⟨hk.1.2.1, ⟨hk.1.2.2.1, ⟨hk.1.2.2.2.1, ⟨hk.1.2.2.2.2.1, hk.1.2.2.2.2.2⟩⟩⟩⟩⟩))⟩
         have n1_ : Aside0 (Kd.V (Kd.int .i64) 2 (w45.setCell ⟨gb363, 0, none⟩ (.int .i64 (wrap64 (t362 - (wrap64 (a2 - a1)))))) w.heap.size (fun k_ => ((P0_0_ k_ ∨ P3_ k_) ∨ w.heap.size ≤ k_) ∧ k_ ≠ gb357 ∧ k_ ≠ gb358 ∧ k_ ≠ gb359 ∧ k_ ≠ gb360 ∧ k_ ≠ gb363) (.slice A0_0 l0_0.length c0_0) l0_0) := ⟨kv (Kd.V_mono (Kd.V_far (p := ⟨gb363, 0, none⟩) (Kd.V_mono HO_358000.out (fun k_ hk => (⟨hk, hk.2.2.2.2.2⟩ : _ ∧ k_ ≠ gb363))) (fun _ hk => hk.2) (.int .i64 (wrap64 (t362 - (wrap64 (a2 - a1)))))) (fun _ hk => ⟨hk.1.1, ⟨hk.1.2.1, ⟨hk.1.2.2.1, ⟨hk.1.2.2.2.1, ⟨hk.1.2.2.2.2.1, hk.1.2.2.2.2.2⟩⟩⟩⟩⟩))⟩
         have n2_ : Aside0 ((w45.setCell ⟨gb363, 0, none⟩ (.int .i64 (wrap64 (t362 - (wrap64 (a2 - a1)))))).heap[gb357]? = some (.cells #[.slice A0_0 l0_0.length c0_0, .int .i64 a0_1, .int .i64 a0_2] 25 (0, 0))) := ⟨by (with_reducible repeat (first | refine blk_drewN ?_ _ | refine blk_drew ?_ | refine blk_alloc ?_ _)); refine blk_far ?_ NB357_363.out _; (with_reducible repeat (first | refine blk_drewN ?_ _ | refine blk_drew ?_ | refine blk_alloc ?_ _)); exact BK357.out⟩
         have n3_ : Aside0 ((w45.setCell ⟨gb363, 0, none⟩ (.int .i64 (wrap64 (t362 - (wrap64 (a2 - a1)))))).heap[gb358]? = some (.cells #[.int .i64 a1] 2 (0, 0))) := ⟨by (with_reducible repeat (first | refine blk_drewN ?_ _ | refine blk_drew ?_ | refine blk_alloc ?_ _)); refine blk_far ?_ NB358_363.out _; (with_reducible repeat (first | refine blk_drewN ?_ _ | refine blk_drew ?_ | refine blk_alloc ?_ _)); exact BK358.out⟩
         have n4_ : Aside0 ((w45.setCell ⟨gb363, 0, none⟩ (.int .i64 (wrap64 (t362 - (wrap64 (a2 - a1)))))).heap[gb359]? = some (.cells #[.int .i64 a2] 2 (0, 0))) := ⟨by (with_reducible repeat (first | refine blk_drewN ?_ _ | refine blk_drew ?_ | refine blk_alloc ?_ _)); refine blk_far ?_ NB359_363.out _; (with_reducible repeat (first | refine blk_drewN ?_ _ | refine blk_drew ?_ | refine blk_alloc ?_ _)); exact BK359.out⟩
         have n5_ : Aside0 ((w45.setCell ⟨gb363, 0, none⟩ (.int .i64 (wrap64 (t362 - (wrap64 (a2 - a1)))))).heap[gb360]? = some (.cells #[.slice none 0 0, .int .i64 0, .int .i64 0, .slice none 0 0, .int .i64 0] 29 (0, 0))) := ⟨by (with_reducible repeat (first | refine blk_drewN ?_ _ | refine blk_drew ?_ | refine blk_alloc ?_ _)); refine blk_far ?_ NB360_363.out _; (with_reducible repeat (first | refine blk_drewN ?_ _ | refine blk_drew ?_ | refine blk_alloc ?_ _)); exact BK360.out⟩
         have n6_ : Aside0 ((w45.setCell ⟨gb363, 0, none⟩ (.int .i64 (wrap64 (t362 - (wrap64 (a2 - a1)))))).heap[gb363]? = some (.cells #[.int .i64 (wrap64 (t362 - (wrap64 (a2 - a1))))] 2 (0, 0))) := ⟨by (with_reducible repeat (first | refine blk_drewN ?_ _ | refine blk_drew ?_ | refine blk_alloc ?_ _)); refine blk_put (cs := #[.int .i64 0]) ?_ 0 _ rfl; (with_reducible repeat (first | refine blk_drewN ?_ _ | refine blk_drew ?_ | refine blk_alloc ?_ _)); exact BK363.out⟩
         have n7_ : Aside0 (Below w.heap.size w (w45.setCell ⟨gb363, 0, none⟩ (.int .i64 (wrap64 (t362 - (wrap64 (a2 - a1))))))) := ⟨by repeat (first | (with_reducible first | exact HB.out | apply below_alloc | apply pw_below_drewN | apply below_drew1 | refine below_set ?_ GE357.out | refine below_set ?_ GE358.out | refine below_set ?_ GE359.out | refine below_set ?_ GE360.out | refine below_set ?_ GE363.out) | exact HB.out)⟩
         (try clear HO_3)
         (try clear HO_358000)
         (try clear BK357)
         (try clear BK358)
         (try clear BK359)
         (try clear BK360)
         (try clear BK363)
         (try clear HB)
         generalize (w45.setCell ⟨gb363, 0, none⟩ (.int .i64 (wrap64 (t362 - (wrap64 (a2 - a1)))))) = w47 at n0_ n1_ n2_ n3_ n4_ n5_ n6_ n7_ ⊢
         have HO_3 := n0_
         have HO_358000 := n1_
         have BK357 := n2_
         have BK358 := n3_
         have BK359 := n4_
         have BK360 := n5_
         have BK363 := n6_
         have HB := n7_
         clear n0_ n1_ n2_ n3_ n4_ n5_ n6_ n7_
         replace HO_3 := am (Kd.V_drew HO_3.out)
         replace HO_358000 := am (Kd.V_drew HO_358000.out)
         replace BK357 := am (blk_drew BK357.out)
         replace BK358 := am (blk_drew BK358.out)
         replace BK359 := am (blk_drew BK359.out)
         replace BK360 := am (blk_drew BK360.out)
         replace BK363 := am (blk_drew BK363.out)
         replace HB := am (below_drew1 HB.out)
         refine start_ (n := 6) (S := fun w' => w'.cell? ⟨gb357, 0, none⟩ = some (.slice A0_0 l0_0.length c0_0) ∧ w'.cell? ⟨gb357, 1, none⟩ = some (.int .i64 a0_1) ∧ w'.cell? ⟨gb357, 2, none⟩ = some (.int .i64 a0_2) ∧ w'.cell? ⟨gb363, 0, none⟩ = some (.int .i64 (wrap64 (t362 - (wrap64 (a2 - a1)))))) (ds := []) b45_26 (by kernel_rfl) rfl rfl ⟨bc BK357.out 0, bc BK357.out 1, bc BK357.out 2, bc BK363.out 0⟩ (fun hHeld => ?_)
         generalize w47.drew = w48 at HO_3 HO_358000 BK357 BK358 BK359 BK360 BK363 HB hHeld ⊢
         refine pure_ (i := 0) (N := some 33) (v := ?_) (a' := ?_) b45_27 rfl rfl (by kernel_rfl) (fun _ _ _ h => h) (Or.inl ⟨by rfl, ?_⟩) ?_ ?_; rotate_left
         ·intro w'; go_simp; with_reducible rfl
         rotate_left
         ·simp only [Act.put, sa_, s0_, ss_, i64_w, i32_w]; rfl
         refine take_ (i := 1) (N := some 34) (v := ?_) (a' := ?_) b45_28 rfl rfl (by kernel_rfl) (fun _ _ _ h => h) (Or.inl ⟨by rfl, ?_⟩) hHeld ?_ ?_; rotate_left
         ·rintro w' ⟨s0, s1, s2, s3⟩; go_simp; with_reducible rfl
         rotate_left
         ·simp only [Act.put, sa_, s0_, ss_, i64_w, i32_w]; rfl
         refine take_ (i := 3) (N := some 36) (v := ?_) (a' := ?_) b45_29 rfl rfl (by kernel_rfl) (fun _ _ _ h => h) (Or.inl ⟨by rfl, ?_⟩) hHeld ?_ ?_; rotate_left
         ·rintro w' ⟨s0, s1, s2, s3⟩; go_simp; with_reducible rfl
         rotate_left
         ·simp only [Act.put, sa_, s0_, ss_, i64_w, i32_w]; rfl
         refine one_ (i := 2) (N := some 35) b45_30 rfl rfl (by kernel_rfl) (by decide) (fun K hK => ?_)
         refine goes_ Try.func72 (by kernel_rfl) rfl #[.slice A0_0 l0_0.length c0_0] (by rfl) rfl rfl (by (try simp only [List.map_toArray, List.map_cons, List.map_nil]); first | done | rfl | (simp only [List.length_drop, List.length_take]; rfl)) ?_
         with_reducible refine (impl_size_int64.calls _ _ l0_0 t364 _ A22.out).mono ?_
         rintro e w' ⟨rfl, ⟨nd, rfl⟩⟩
         refine ⟨_, rfl, ?_⟩
         refine hK.out _ _ ⟨bc BK357.out 0, bc BK357.out 1, bc BK357.out 2, bc BK363.out 0⟩ (fun hHeld => ?_)
         clear hK K
         refine norm_ (a' := ?_) ?_ ?_
         rotate_left
         ·show Act.put _ (some 35) _ = _
          simp only [Act.put, sa_, s0_, ss_, i64_w, i32_w]
          rfl
         refine pure_ (i := 4) (N := some 37) (v := ?_) (a' := ?_) b45_31 rfl rfl (by kernel_rfl) (fun _ _ _ h => h) (Or.inl ⟨by rfl, ?_⟩) ?_ ?_; rotate_left
         ·intro w'; go_simp; with_reducible rfl
         rotate_left
         ·simp only [Act.put, sa_, s0_, ss_, i64_w, i32_w]; rfl
         refine pure_ (i := 5) (N := some 38) (v := ?_) (a' := ?_) b45_32 rfl rfl (by kernel_rfl) (fun _ _ _ h => h) (Or.inl ⟨by rfl, ?_⟩) ?_ ?_; rotate_left
         ·intro w'; go_simp; with_reducible rfl
         rotate_left
         ·simp only [Act.put, sa_, s0_, ss_, i64_w, i32_w]; rfl
         refine done_ (by kernel_rfl) ?_
         (try (rw [drewN_self w48]; generalize hq_ : World.drewN w48 _ = w48; replace HO_3 := am (vAt2 hq_ HO_3.out); replace HO_358000 := am (vAt2 hq_ HO_358000.out); replace BK357 := am (blk_at hq_ BK357.out); replace BK358 := am (blk_at hq_ BK358.out); replace BK359 := am (blk_at hq_ BK359.out); replace BK360 := am (blk_at hq_ BK360.out); replace BK363 := am (blk_at hq_ BK363.out); replace HB := am (below_at hq_ HB.out); clear hq_))
         try go_wp2
         (try (rw [drewN_self w48]; generalize hq_ : World.drewN w48 _ = w48; replace HO_3 : Aside0 (Kd.V (Kd.int .i64) 2 w48 w.heap.size (fun k_ => ((P0_0_ k_ ∨ P3_ k_) ∨ w.heap.size ≤ k_) ∧ k_ ≠ gb357 ∧ k_ ≠ gb358 ∧ k_ ≠ gb359 ∧ k_ ≠ gb360 ∧ k_ ≠ gb363) (.slice A3 l3.length c3) l3) := ⟨by rw [← hq_]; exact (kv HO_3.out)⟩; replace HO_358000 : Aside0 (Kd.V (Kd.int .i64) 2 w48 w.heap.size (fun k_ => ((P0_0_ k_ ∨ P3_ k_) ∨ w.heap.size ≤ k_) ∧ k_ ≠ gb357 ∧ k_ ≠ gb358 ∧ k_ ≠ gb359 ∧ k_ ≠ gb360 ∧ k_ ≠ gb363) (.slice A0_0 l0_0.length c0_0) l0_0) := ⟨by rw [← hq_]; exact (kv HO_358000.out)⟩; replace BK357 : Aside0 (w48.heap[gb357]? = some (.cells #[.slice A0_0 l0_0.length c0_0, .int .i64 a0_1, .int .i64 a0_2] 25 (0, 0))) := ⟨by rw [← hq_]; exact (pk BK357.out)⟩; replace BK358 : Aside0 (w48.heap[gb358]? = some (.cells #[.int .i64 a1] 2 (0, 0))) := ⟨by rw [← hq_]; exact (pk BK358.out)⟩; replace BK359 : Aside0 (w48.heap[gb359]? = some (.cells #[.int .i64 a2] 2 (0, 0))) := ⟨by rw [← hq_]; exact (pk BK359.out)⟩; replace BK360 : Aside0 (w48.heap[gb360]? = some (.cells #[.slice none 0 0, .int .i64 0, .int .i64 0, .slice none 0 0, .int .i64 0] 29 (0, 0))) := ⟨by rw [← hq_]; exact (pk BK360.out)⟩; replace BK363 : Aside0 (w48.heap[gb363]? = some (.cells #[.int .i64 (wrap64 (t362 - (wrap64 (a2 - a1))))] 2 (0, 0))) := ⟨by rw [← hq_]; exact (pk BK363.out)⟩; replace HB : Aside0 (Below w.heap.size w w48) := ⟨by rw [← hq_]; exact (bl HB.out)⟩; clear hq_))
         replace HO_3 := am (Kd.V_drew HO_3.out)
         replace HO_358000 := am (Kd.V_drew HO_358000.out)
         replace BK357 := am (blk_drew BK357.out)
         replace BK358 := am (blk_drew BK358.out)
         replace BK359 := am (blk_drew BK359.out)
         replace BK360 := am (blk_drew BK360.out)
         replace BK363 := am (blk_drew BK363.out)
         replace HB := am (below_drew1 HB.out)
         have q50 : (a1 : Int) ≤ ((l0_0.length : Int) : Int) := of_decide_eq_true (by first | (with_reducible assumption) | assumption)
         obtain ⟨i050, hi050, _, hsz50, _⟩ := info_parts info2
         have hroom50 : l0_0.length ≤ c0_0 := (Kd.V_reads' HO_358000.out).2.1
         have hC50 : Kd.F (Kd.int .i64) _ _ A0_0 l0_0.length l0_0 := (Kd.V_at (base := w.heap.size) HO_358000.out).2.2
         have hcut50 := cut_to (P := Try.prog) 23 2 .i64 Try.underlying23 hi050 A0_0 l0_0.length c0_0 a1 (of_decide_eq_true (by first | (with_reducible assumption) | assumption)) q50 hroom50
         have hr50 := Kd.F_take (m := (a1 : Int).toNat) hC50 (by omega)
         have hy50 : y365.length = (a1 : Int).toNat := (by rw [Ny365.out, List.length_take]; omega)
         rw [← Ny365.out] at hr50
         rw [← hy50] at hcut50
         have HO369 := am (show Kd.V (Kd.int .i64) 2 _ w.heap.size _ (.slice A0_0 y365.length c0_0) y365 from Kd.V_mk (by omega) hr50)
         have HC369 := am (show y365.length ≤ c0_0 from by omega)
         clear hr50 hC50 hroom50 hi050 hsz50
         have KY50 := am hy50
         clear hy50
         replace q50 := eq_true q50
         have q51 : (a2 : Int) ≤ ((l0_0.length : Int) : Int) := of_decide_eq_true (by first | (with_reducible assumption) | assumption)
         obtain ⟨i051, hi051, _, hsz51, _⟩ := info_parts info2
         have hroom51 : l0_0.length ≤ c0_0 := (Kd.V_reads' HO_358000.out).2.1
         have hC51 : Kd.F (Kd.int .i64) _ _ A0_0 l0_0.length l0_0 := (Kd.V_at (base := w.heap.size) HO_358000.out).2.2
         have q051 : (0 : Int) ≤ (a2 : Int) := of_decide_eq_true (by first | (with_reducible assumption) | assumption)
         have hcut51 := cut_from (P := Try.prog) 23 2 .i64 Try.underlying23 hi051 1 hsz51 A0_0 l0_0.length c0_0 a2 q051 q51
         have hr51 := Kd.F_cut (m := (a2 : Int).toNat) (c := c0_0) hC51 (by omega) hroom51
         obtain ⟨A51, hA51⟩ : ∃ A1, A1 = (if c0_0 = (a2 : Int).toNat then A0_0 else (A0_0 : Option Addr).map (·.add ((a2 : Int).toNat * 1))) := ⟨_, rfl⟩
         obtain ⟨c51, hc51⟩ : ∃ c1, c1 = c0_0 - (a2 : Int).toNat := ⟨_, rfl⟩
         have hy51 : y370.length = l0_0.length - (a2 : Int).toNat := (by rw [Ny370.out, List.length_drop] <;> omega)
         rw [show (l0_0).drop (a2 : Int).toNat = y370 from Ny370.out.symm] at hr51
         replace hr51 : Kd.F (Kd.int .i64) _ _ A51 y370.length y370 := (by rw [hA51]; exact hr51)
         rw [← hy51, ← hA51, ← hc51] at hcut51
         have HO374 := am (show Kd.V (Kd.int .i64) 2 _ w.heap.size _ (.slice A51 y370.length c51) y370 from Kd.V_mk (by rw [hy51, hc51]; exact Nat.sub_le_sub_right hroom51 _) hr51)
         have HC374 := am (show y370.length ≤ c51 from by rw [hy51, hc51]; exact Nat.sub_le_sub_right hroom51 _)
         clear hr51 hC51 hroom51 hi051 hsz51 hc51
         have KY51 := am hy51
         have KA51 := am hA51
         clear hy51 hA51
         replace q51 := eq_true q51
         refine start_ (n := 22) (S := fun w' => w'.cell? ⟨gb357, 0, none⟩ = some (.slice A0_0 l0_0.length c0_0) ∧ w'.cell? ⟨gb357, 1, none⟩ = some (.int .i64 a0_1) ∧ w'.cell? ⟨gb357, 2, none⟩ = some (.int .i64 a0_2) ∧ w'.cell? ⟨gb358, 0, none⟩ = some (.int .i64 a1) ∧ w'.cell? ⟨gb359, 0, none⟩ = some (.int .i64 a2)) (ds := []) #[false, false, false, false, false, false, false, false, false, false, false, false, false, false, false, false, false, false, false, false, false, false] (by kernel_rfl) rfl rfl ⟨bc BK357.out 0, bc BK357.out 1, bc BK357.out 2, bc BK358.out 0, bc BK359.out 0⟩ (fun hHeld => ?_); refine with_tabW impl_replace.tab7 impl_replace.bits7 (fun HT_ HW_ => ?_)
         generalize w48.drew = w49 at HO_3 HO_358000 BK357 BK358 BK359 BK360 BK363 HB HO369 HO374 hHeld ⊢
         refine pure_ (i := 0) (N := some 41) (v := ?_) (a' := ?_) #[true, false, false, false, false, false, false, false, false, false, false, false, false, false, false, false, false, false, false, false, false, false] rfl rfl (any_of HT_.out (by kernel_rfl)) (fun _ _ _ h => h) (Or.inl ⟨by rfl, ?_⟩) ?_ ?_; rotate_left
         ·intro w'; go_simp; with_reducible rfl
         rotate_left
         ·simp only [Act.put, sa_, s0_, ss_, i64_w, i32_w]; rfl
         refine pure_ (i := 4) (N := some 45) (v := ?_) (a' := ?_) #[true, false, false, false, true, false, false, false, false, false, false, false, false, false, false, false, false, false, false, false, false, false] rfl rfl (any_of HT_.out (by kernel_rfl)) (fun _ _ _ h => h) (Or.inl ⟨by rfl, ?_⟩) ?_ ?_; rotate_left
         ·intro w'; go_simp; with_reducible rfl
         rotate_left
         ·simp only [Act.put, sa_, s0_, ss_, i64_w, i32_w]; rfl
         refine pure_ (i := 5) (N := some 46) (v := ?_) (a' := ?_) #[true, false, false, false, true, true, false, false, false, false, false, false, false, false, false, false, false, false, false, false, false, false] rfl rfl (any_of HT_.out (by kernel_rfl)) (fun _ _ _ h => h) (Or.inl ⟨by rfl, ?_⟩) ?_ ?_; rotate_left
         ·intro w'; go_simp; with_reducible rfl
         rotate_left
         ·simp only [Act.put, sa_, s0_, ss_, i64_w, i32_w]; rfl
         refine pure_ (i := 11) (N := some 52) (v := ?_) (a' := ?_) #[true, false, false, false, true, true, false, false, false, false, false, true, false, false, false, false, false, false, false, false, false, false] rfl rfl (any_of HT_.out (by kernel_rfl)) (fun _ _ _ h => h) (Or.inl ⟨by rfl, ?_⟩) ?_ ?_; rotate_left
         ·intro w'; go_simp; with_reducible rfl
         rotate_left
         ·simp only [Act.put, sa_, s0_, ss_, i64_w, i32_w]; rfl
         refine pure_ (i := 12) (N := some 53) (v := ?_) (a' := ?_) #[true, false, false, false, true, true, false, false, false, false, false, true, true, false, false, false, false, false, false, false, false, false] rfl rfl (any_of HT_.out (by kernel_rfl)) (fun _ _ _ h => h) (Or.inl ⟨by rfl, ?_⟩) ?_ ?_; rotate_left
         ·intro w'; go_simp; with_reducible rfl
         rotate_left
         ·simp only [Act.put, sa_, s0_, ss_, i64_w, i32_w]; rfl
         refine pure_ (i := 15) (N := some 56) (v := ?_) (a' := ?_) #[true, false, false, false, true, true, false, false, false, false, false, true, true, false, false, true, false, false, false, false, false, false] rfl rfl (any_of HT_.out (by kernel_rfl)) (fun _ _ _ h => h) (Or.inl ⟨by rfl, ?_⟩) ?_ ?_; rotate_left
         ·intro w'; go_simp; with_reducible rfl
         rotate_left
         ·simp only [Act.put, sa_, s0_, ss_, i64_w, i32_w]; rfl
         refine pure_ (i := 16) (N := some 57) (v := ?_) (a' := ?_) #[true, false, false, false, true, true, false, false, false, false, false, true, true, false, false, true, true, false, false, false, false, false] rfl rfl (any_of HT_.out (by kernel_rfl)) (fun _ _ _ h => h) (Or.inl ⟨by rfl, ?_⟩) ?_ ?_; rotate_left
         ·intro w'; go_simp; with_reducible rfl
         rotate_left
         ·simp only [Act.put, sa_, s0_, ss_, i64_w, i32_w]; rfl
         refine take_ (i := 1) (N := some 42) (v := ?_) (a' := ?_) #[true, true, false, false, true, true, false, false, false, false, false, true, true, false, false, true, true, false, false, false, false, false] rfl rfl (take_ofW HT_.out HW_.out (by kernel_rfl)) (fun _ _ _ h => h) (Or.inl ⟨by rfl, ?_⟩) hHeld ?_ ?_; rotate_left
         ·rintro w' ⟨s0, s1, s2, s3, s4⟩; go_simp; with_reducible rfl
         rotate_left
         ·simp only [Act.put, sa_, s0_, ss_, i64_w, i32_w]; rfl
         refine take_ (i := 2) (N := some 43) (v := ?_) (a' := ?_) #[true, true, true, false, true, true, false, false, false, false, false, true, true, false, false, true, true, false, false, false, false, false] rfl rfl (take_ofW HT_.out HW_.out (by kernel_rfl)) (fun _ _ _ h => h) (Or.inl ⟨by rfl, ?_⟩) hHeld ?_ ?_; rotate_left
         ·rintro w' ⟨s0, s1, s2, s3, s4⟩; go_simp; with_reducible rfl
         rotate_left
         ·simp only [Act.put, sa_, s0_, ss_, i64_w, i32_w]; rfl
         refine pure_ (i := 3) (N := some 44) (v := ?_) (a' := ?_) #[true, true, true, true, true, true, false, false, false, false, false, true, true, false, false, true, true, false, false, false, false, false] rfl rfl (any_of HT_.out (by kernel_rfl)) (fun _ _ _ h => h) (Or.inl ⟨by rfl, ?_⟩) ?_ ?_; rotate_left
         ·intro w'; go_simp; with_reducible rfl
         rotate_left
         ·simp only [Act.put, sa_, s0_, ss_, i64_w, i32_w]; rfl
         refine take_ (i := 6) (N := some 47) (v := ?_) (a' := ?_) #[true, true, true, true, true, true, true, false, false, false, false, true, true, false, false, true, true, false, false, false, false, false] rfl rfl (take_ofW HT_.out HW_.out (by kernel_rfl)) (fun _ _ _ h => h) (Or.inl ⟨by rfl, ?_⟩) hHeld ?_ ?_; rotate_left
         ·rintro w' ⟨s0, s1, s2, s3, s4⟩; go_simp; with_reducible rfl
         rotate_left
         ·simp only [Act.put, sa_, s0_, ss_, i64_w, i32_w]; rfl
         refine take_ (i := 7) (N := some 48) (v := ?_) (a' := ?_) #[true, true, true, true, true, true, true, true, false, false, false, true, true, false, false, true, true, false, false, false, false, false] rfl rfl (take_ofW HT_.out HW_.out (by kernel_rfl)) (fun _ _ _ h => h) (Or.inl ⟨by rfl, ?_⟩) hHeld ?_ ?_; rotate_left
         ·rintro w' ⟨s0, s1, s2, s3, s4⟩; go_simp; with_reducible rfl
         rotate_left
         ·simp only [Act.put, sa_, s0_, ss_, i64_w, i32_w]; rfl
         refine pure_ (i := 8) (N := some 49) (v := ?_) (a' := ?_) #[true, true, true, true, true, true, true, true, true, false, false, true, true, false, false, true, true, false, false, false, false, false] rfl rfl (any_of HT_.out (by kernel_rfl)) (fun _ _ _ h => h) (Or.inl ⟨by rfl, ?_⟩) ?_ ?_; rotate_left
         ·intro w'; go_simp; with_reducible rfl
         rotate_left
         ·simp only [Act.put, sa_, s0_, ss_, i64_w, i32_w]; rfl
         refine take_ (i := 13) (N := some 54) (v := ?_) (a' := ?_) #[true, true, true, true, true, true, true, true, true, false, false, true, true, true, false, true, true, false, false, false, false, false] rfl rfl (take_ofW HT_.out HW_.out (by kernel_rfl)) (fun _ _ _ h => h) (Or.inl ⟨by rfl, ?_⟩) hHeld ?_ ?_; rotate_left
         ·rintro w' ⟨s0, s1, s2, s3, s4⟩; go_simp; with_reducible rfl
         rotate_left
         ·simp only [Act.put, sa_, s0_, ss_, i64_w, i32_w]; rfl
         refine take_ (i := 17) (N := some 58) (v := ?_) (a' := ?_) #[true, true, true, true, true, true, true, true, true, false, false, true, true, true, false, true, true, true, false, false, false, false] rfl rfl (take_ofW HT_.out HW_.out (by kernel_rfl)) (fun _ _ _ h => h) (Or.inl ⟨by rfl, ?_⟩) hHeld ?_ ?_; rotate_left
         ·rintro w' ⟨s0, s1, s2, s3, s4⟩; go_simp; with_reducible rfl
         rotate_left
         ·simp only [Act.put, sa_, s0_, ss_, i64_w, i32_w]; rfl
         refine join_ (σ := Value × Value × Nat) 1 b45_33 (fun s_ => [(50, s_.1), (51, s_.2.1), (55, .int .i64 t381), (59, .int .i64 t382), (11, .pointer (some ⟨s_.2.2, 0, none⟩)), (60, .agg #[s_.2.1, .int .i64 t381, .int .i64 t382])]) (fun s_ w' => (w'.cell? ⟨gb357, 0, none⟩ = some (.slice A0_0 l0_0.length c0_0) ∧ w'.cell? ⟨gb357, 1, none⟩ = some (.int .i64 a0_1) ∧ w'.cell? ⟨gb357, 2, none⟩ = some (.int .i64 a0_2) ∧ w'.cell? ⟨gb358, 0, none⟩ = some (.int .i64 a1) ∧ w'.cell? ⟨gb359, 0, none⟩ = some (.int .i64 a2)) ∧ (Kd.V (Kd.int .i64) 2 w' w.heap.size (fun k_ => ((P0_0_ k_ ∨ P3_ k_) ∨ w.heap.size ≤ k_) ∧ some k_ ≠ (s_.1 : Value).ownBlock ∧ some k_ ≠ (s_.2.1 : Value).ownBlock ∧ k_ ≠ gb357 ∧ k_ ≠ gb358 ∧ k_ ≠ gb359 ∧ k_ ≠ gb360 ∧ k_ ≠ gb363 ∧ k_ ≠ s_.2.2) (.slice A0_0 y365.length c0_0) y365) ∧ (Kd.V (Kd.int .i64) 2 w' w.heap.size (fun k_ => ((P0_0_ k_ ∨ P3_ k_) ∨ w.heap.size ≤ k_) ∧ some k_ ≠ (s_.1 : Value).ownBlock ∧ some k_ ≠ (s_.2.1 : Value).ownBlock ∧ k_ ≠ gb357 ∧ k_ ≠ gb358 ∧ k_ ≠ gb359 ∧ k_ ≠ gb360 ∧ k_ ≠ gb363 ∧ k_ ≠ s_.2.2) (.slice A51 y370.length c51) y370) ∧ (Kd.N (Kd.slice 2 (Kd.int .i64)) 23 w' w.heap.size (fun k_ => ((P0_0_ k_ ∨ P3_ k_) ∨ w.heap.size ≤ k_) ∧ some k_ ≠ (s_.2.1 : Value).ownBlock ∧ k_ ≠ gb357 ∧ k_ ≠ gb358 ∧ k_ ≠ gb359 ∧ k_ ≠ gb360 ∧ k_ ≠ gb363 ∧ k_ ≠ s_.2.2) s_.1 y375) ∧ (Kd.R (Kd.int .i64) 2 w' w.heap.size (fun k_ => (w.heap.size ≤ k_) ∧ k_ ≠ gb358 ∧ k_ ≠ gb359 ∧ k_ ≠ gb363) s_.2.1 t378) ∧ (Kd.V (Kd.int .i64) 2 w' w.heap.size (fun k_ => ((P0_0_ k_ ∨ P3_ k_) ∨ w.heap.size ≤ k_) ∧ some k_ ≠ (s_.1 : Value).ownBlock ∧ some k_ ≠ (s_.2.1 : Value).ownBlock ∧ k_ ≠ gb357 ∧ k_ ≠ gb358 ∧ k_ ≠ gb359 ∧ k_ ≠ gb360 ∧ k_ ≠ gb363 ∧ k_ ≠ s_.2.2) (.slice A3 l3.length c3) l3) ∧ (Kd.V (Kd.int .i64) 2 w' w.heap.size (fun k_ => ((P0_0_ k_ ∨ P3_ k_) ∨ w.heap.size ≤ k_) ∧ some k_ ≠ (s_.1 : Value).ownBlock ∧ some k_ ≠ (s_.2.1 : Value).ownBlock ∧ k_ ≠ gb357 ∧ k_ ≠ gb358 ∧ k_ ≠ gb359 ∧ k_ ≠ gb360 ∧ k_ ≠ gb363 ∧ k_ ≠ s_.2.2) (.slice A0_0 l0_0.length c0_0) l0_0) ∧ (w'.heap[gb357]? = some (.cells #[.slice A0_0 l0_0.length c0_0, .int .i64 a0_1, .int .i64 a0_2] 25 (0, 0))) ∧ (w'.heap[gb358]? = some (.cells #[.int .i64 a1] 2 (0, 0))) ∧ (w'.heap[gb359]? = some (.cells #[.int .i64 a2] 2 (0, 0))) ∧ (w'.heap[gb360]? = some (.cells #[.slice none 0 0, .int .i64 0, .int .i64 0, .slice none 0 0, .int .i64 0] 29 (0, 0))) ∧ (w'.heap[gb363]? = some (.cells #[.int .i64 (wrap64 (t362 - (wrap64 (a2 - a1))))] 2 (0, 0))) ∧ (w'.heap[s_.2.2]? = some (.cells #[.slice none 0 0, .int .i64 0, .int .i64 0] 25 (0, 0))) ∧ (w.heap.size ≤ s_.2.2) ∧ (w.heap.size ≤ s_.2.2) ∧ (gb357 ≠ s_.2.2) ∧ (s_.2.2 ≠ gb357) ∧ (gb358 ≠ s_.2.2) ∧ (s_.2.2 ≠ gb358) ∧ (gb359 ≠ s_.2.2) ∧ (s_.2.2 ≠ gb359) ∧ (gb360 ≠ s_.2.2) ∧ (s_.2.2 ≠ gb360) ∧ (gb363 ≠ s_.2.2) ∧ (s_.2.2 ≠ gb363) ∧ (Below w.heap.size w w')) ?_ ?_
         rotate_left
         ·intro hJ9_10_14_18_20
          refine join_ (σ := Value × Value) 2 b45_34 (fun s_ => [(50, s_.1), (51, s_.2), (55, .int .i64 t381), (59, .int .i64 t382), (60, .agg #[s_.2, .int .i64 t381, .int .i64 t382])]) (fun s_ w' => (w'.cell? ⟨gb357, 0, none⟩ = some (.slice A0_0 l0_0.length c0_0) ∧ w'.cell? ⟨gb357, 1, none⟩ = some (.int .i64 a0_1) ∧ w'.cell? ⟨gb357, 2, none⟩ = some (.int .i64 a0_2) ∧ w'.cell? ⟨gb358, 0, none⟩ = some (.int .i64 a1) ∧ w'.cell? ⟨gb359, 0, none⟩ = some (.int .i64 a2)) ∧ (Kd.V (Kd.int .i64) 2 w' w.heap.size (fun k_ => ((P0_0_ k_ ∨ P3_ k_) ∨ w.heap.size ≤ k_) ∧ some k_ ≠ (s_.1 : Value).ownBlock ∧ some k_ ≠ (s_.2 : Value).ownBlock ∧ k_ ≠ gb357 ∧ k_ ≠ gb358 ∧ k_ ≠ gb359 ∧ k_ ≠ gb360 ∧ k_ ≠ gb363) (.slice A0_0 y365.length c0_0) y365) ∧ (Kd.V (Kd.int .i64) 2 w' w.heap.size (fun k_ => ((P0_0_ k_ ∨ P3_ k_) ∨ w.heap.size ≤ k_) ∧ some k_ ≠ (s_.1 : Value).ownBlock ∧ some k_ ≠ (s_.2 : Value).ownBlock ∧ k_ ≠ gb357 ∧ k_ ≠ gb358 ∧ k_ ≠ gb359 ∧ k_ ≠ gb360 ∧ k_ ≠ gb363) (.slice A51 y370.length c51) y370) ∧ (Kd.N (Kd.slice 2 (Kd.int .i64)) 23 w' w.heap.size (fun k_ => ((P0_0_ k_ ∨ P3_ k_) ∨ w.heap.size ≤ k_) ∧ some k_ ≠ (s_.2 : Value).ownBlock ∧ k_ ≠ gb357 ∧ k_ ≠ gb358 ∧ k_ ≠ gb359 ∧ k_ ≠ gb360 ∧ k_ ≠ gb363) s_.1 y375) ∧ (Kd.R (Kd.int .i64) 2 w' w.heap.size (fun k_ => (w.heap.size ≤ k_) ∧ k_ ≠ gb358 ∧ k_ ≠ gb359 ∧ k_ ≠ gb363) s_.2 t378) ∧ (Kd.V (Kd.int .i64) 2 w' w.heap.size (fun k_ => ((P0_0_ k_ ∨ P3_ k_) ∨ w.heap.size ≤ k_) ∧ some k_ ≠ (s_.1 : Value).ownBlock ∧ some k_ ≠ (s_.2 : Value).ownBlock ∧ k_ ≠ gb357 ∧ k_ ≠ gb358 ∧ k_ ≠ gb359 ∧ k_ ≠ gb360 ∧ k_ ≠ gb363) (.slice A3 l3.length c3) l3) ∧ (Kd.V (Kd.int .i64) 2 w' w.heap.size (fun k_ => ((P0_0_ k_ ∨ P3_ k_) ∨ w.heap.size ≤ k_) ∧ some k_ ≠ (s_.1 : Value).ownBlock ∧ some k_ ≠ (s_.2 : Value).ownBlock ∧ k_ ≠ gb357 ∧ k_ ≠ gb358 ∧ k_ ≠ gb359 ∧ k_ ≠ gb360 ∧ k_ ≠ gb363) (.slice A0_0 l0_0.length c0_0) l0_0) ∧ (w'.heap[gb357]? = some (.cells #[.slice A0_0 l0_0.length c0_0, .int .i64 a0_1, .int .i64 a0_2] 25 (0, 0))) ∧ (w'.heap[gb358]? = some (.cells #[.int .i64 a1] 2 (0, 0))) ∧ (w'.heap[gb359]? = some (.cells #[.int .i64 a2] 2 (0, 0))) ∧ (w'.heap[gb360]? = some (.cells #[.slice none 0 0, .int .i64 0, .int .i64 0, .slice none 0 0, .int .i64 0] 29 (0, 0))) ∧ (w'.heap[gb363]? = some (.cells #[.int .i64 (wrap64 (t362 - (wrap64 (a2 - a1))))] 2 (0, 0))) ∧ (Below w.heap.size w w')) ?_ ?_
          rotate_left
          ·intro hJ9_10_14_18
           refine join_ (σ := Value × Value × Nat) 3 b45_35 (fun s_ => [(50, s_.1), (51, s_.2.1), (55, .int .i64 t381), (11, .pointer (some ⟨s_.2.2, 0, none⟩))]) (fun s_ w' => (w'.cell? ⟨gb357, 0, none⟩ = some (.slice A0_0 l0_0.length c0_0) ∧ w'.cell? ⟨gb357, 1, none⟩ = some (.int .i64 a0_1) ∧ w'.cell? ⟨gb357, 2, none⟩ = some (.int .i64 a0_2) ∧ w'.cell? ⟨gb358, 0, none⟩ = some (.int .i64 a1) ∧ w'.cell? ⟨gb359, 0, none⟩ = some (.int .i64 a2)) ∧ (Kd.V (Kd.int .i64) 2 w' w.heap.size (fun k_ => ((P0_0_ k_ ∨ P3_ k_) ∨ w.heap.size ≤ k_) ∧ some k_ ≠ (s_.1 : Value).ownBlock ∧ some k_ ≠ (s_.2.1 : Value).ownBlock ∧ k_ ≠ gb357 ∧ k_ ≠ gb358 ∧ k_ ≠ gb359 ∧ k_ ≠ gb360 ∧ k_ ≠ gb363 ∧ k_ ≠ s_.2.2) (.slice A0_0 y365.length c0_0) y365) ∧ (Kd.V (Kd.int .i64) 2 w' w.heap.size (fun k_ => ((P0_0_ k_ ∨ P3_ k_) ∨ w.heap.size ≤ k_) ∧ some k_ ≠ (s_.1 : Value).ownBlock ∧ some k_ ≠ (s_.2.1 : Value).ownBlock ∧ k_ ≠ gb357 ∧ k_ ≠ gb358 ∧ k_ ≠ gb359 ∧ k_ ≠ gb360 ∧ k_ ≠ gb363 ∧ k_ ≠ s_.2.2) (.slice A51 y370.length c51) y370) ∧ (Kd.N (Kd.slice 2 (Kd.int .i64)) 23 w' w.heap.size (fun k_ => ((P0_0_ k_ ∨ P3_ k_) ∨ w.heap.size ≤ k_) ∧ some k_ ≠ (s_.2.1 : Value).ownBlock ∧ k_ ≠ gb357 ∧ k_ ≠ gb358 ∧ k_ ≠ gb359 ∧ k_ ≠ gb360 ∧ k_ ≠ gb363 ∧ k_ ≠ s_.2.2) s_.1 y375) ∧ (Kd.R (Kd.int .i64) 2 w' w.heap.size (fun k_ => (w.heap.size ≤ k_) ∧ k_ ≠ gb358 ∧ k_ ≠ gb359 ∧ k_ ≠ gb363) s_.2.1 t378) ∧ (Kd.V (Kd.int .i64) 2 w' w.heap.size (fun k_ => ((P0_0_ k_ ∨ P3_ k_) ∨ w.heap.size ≤ k_) ∧ some k_ ≠ (s_.1 : Value).ownBlock ∧ some k_ ≠ (s_.2.1 : Value).ownBlock ∧ k_ ≠ gb357 ∧ k_ ≠ gb358 ∧ k_ ≠ gb359 ∧ k_ ≠ gb360 ∧ k_ ≠ gb363 ∧ k_ ≠ s_.2.2) (.slice A3 l3.length c3) l3) ∧ (Kd.V (Kd.int .i64) 2 w' w.heap.size (fun k_ => ((P0_0_ k_ ∨ P3_ k_) ∨ w.heap.size ≤ k_) ∧ some k_ ≠ (s_.1 : Value).ownBlock ∧ some k_ ≠ (s_.2.1 : Value).ownBlock ∧ k_ ≠ gb357 ∧ k_ ≠ gb358 ∧ k_ ≠ gb359 ∧ k_ ≠ gb360 ∧ k_ ≠ gb363 ∧ k_ ≠ s_.2.2) (.slice A0_0 l0_0.length c0_0) l0_0) ∧ (w'.heap[gb357]? = some (.cells #[.slice A0_0 l0_0.length c0_0, .int .i64 a0_1, .int .i64 a0_2] 25 (0, 0))) ∧ (w'.heap[gb358]? = some (.cells #[.int .i64 a1] 2 (0, 0))) ∧ (w'.heap[gb359]? = some (.cells #[.int .i64 a2] 2 (0, 0))) ∧ (w'.heap[gb360]? = some (.cells #[.slice none 0 0, .int .i64 0, .int .i64 0, .slice none 0 0, .int .i64 0] 29 (0, 0))) ∧ (w'.heap[gb363]? = some (.cells #[.int .i64 (wrap64 (t362 - (wrap64 (a2 - a1))))] 2 (0, 0))) ∧ (w'.heap[s_.2.2]? = some (.cells #[.slice none 0 0, .int .i64 0, .int .i64 0] 25 (0, 0))) ∧ (w.heap.size ≤ s_.2.2) ∧ (w.heap.size ≤ s_.2.2) ∧ (gb357 ≠ s_.2.2) ∧ (s_.2.2 ≠ gb357) ∧ (gb358 ≠ s_.2.2) ∧ (s_.2.2 ≠ gb358) ∧ (gb359 ≠ s_.2.2) ∧ (s_.2.2 ≠ gb359) ∧ (gb360 ≠ s_.2.2) ∧ (s_.2.2 ≠ gb360) ∧ (gb363 ≠ s_.2.2) ∧ (s_.2.2 ≠ gb363) ∧ (Below w.heap.size w w')) ?_ ?_
           rotate_left
           ·intro hJ9_10_14_20
            refine join_ (σ := Value × Value) 4 b45_36 (fun s_ => [(50, s_.1), (51, s_.2), (55, .int .i64 t381)]) (fun s_ w' => (w'.cell? ⟨gb357, 0, none⟩ = some (.slice A0_0 l0_0.length c0_0) ∧ w'.cell? ⟨gb357, 1, none⟩ = some (.int .i64 a0_1) ∧ w'.cell? ⟨gb357, 2, none⟩ = some (.int .i64 a0_2) ∧ w'.cell? ⟨gb358, 0, none⟩ = some (.int .i64 a1) ∧ w'.cell? ⟨gb359, 0, none⟩ = some (.int .i64 a2)) ∧ (Kd.V (Kd.int .i64) 2 w' w.heap.size (fun k_ => ((P0_0_ k_ ∨ P3_ k_) ∨ w.heap.size ≤ k_) ∧ some k_ ≠ (s_.1 : Value).ownBlock ∧ some k_ ≠ (s_.2 : Value).ownBlock ∧ k_ ≠ gb357 ∧ k_ ≠ gb358 ∧ k_ ≠ gb359 ∧ k_ ≠ gb360 ∧ k_ ≠ gb363) (.slice A0_0 y365.length c0_0) y365) ∧ (Kd.V (Kd.int .i64) 2 w' w.heap.size (fun k_ => ((P0_0_ k_ ∨ P3_ k_) ∨ w.heap.size ≤ k_) ∧ some k_ ≠ (s_.1 : Value).ownBlock ∧ some k_ ≠ (s_.2 : Value).ownBlock ∧ k_ ≠ gb357 ∧ k_ ≠ gb358 ∧ k_ ≠ gb359 ∧ k_ ≠ gb360 ∧ k_ ≠ gb363) (.slice A51 y370.length c51) y370) ∧ (Kd.N (Kd.slice 2 (Kd.int .i64)) 23 w' w.heap.size (fun k_ => ((P0_0_ k_ ∨ P3_ k_) ∨ w.heap.size ≤ k_) ∧ some k_ ≠ (s_.2 : Value).ownBlock ∧ k_ ≠ gb357 ∧ k_ ≠ gb358 ∧ k_ ≠ gb359 ∧ k_ ≠ gb360 ∧ k_ ≠ gb363) s_.1 y375) ∧ (Kd.R (Kd.int .i64) 2 w' w.heap.size (fun k_ => (w.heap.size ≤ k_) ∧ k_ ≠ gb358 ∧ k_ ≠ gb359 ∧ k_ ≠ gb363) s_.2 t378) ∧ (Kd.V (Kd.int .i64) 2 w' w.heap.size (fun k_ => ((P0_0_ k_ ∨ P3_ k_) ∨ w.heap.size ≤ k_) ∧ some k_ ≠ (s_.1 : Value).ownBlock ∧ some k_ ≠ (s_.2 : Value).ownBlock ∧ k_ ≠ gb357 ∧ k_ ≠ gb358 ∧ k_ ≠ gb359 ∧ k_ ≠ gb360 ∧ k_ ≠ gb363) (.slice A3 l3.length c3) l3) ∧ (Kd.V (Kd.int .i64) 2 w' w.heap.size (fun k_ => ((P0_0_ k_ ∨ P3_ k_) ∨ w.heap.size ≤ k_) ∧ some k_ ≠ (s_.1 : Value).ownBlock ∧ some k_ ≠ (s_.2 : Value).ownBlock ∧ k_ ≠ gb357 ∧ k_ ≠ gb358 ∧ k_ ≠ gb359 ∧ k_ ≠ gb360 ∧ k_ ≠ gb363) (.slice A0_0 l0_0.length c0_0) l0_0) ∧ (w'.heap[gb357]? = some (.cells #[.slice A0_0 l0_0.length c0_0, .int .i64 a0_1, .int .i64 a0_2] 25 (0, 0))) ∧ (w'.heap[gb358]? = some (.cells #[.int .i64 a1] 2 (0, 0))) ∧ (w'.heap[gb359]? = some (.cells #[.int .i64 a2] 2 (0, 0))) ∧ (w'.heap[gb360]? = some (.cells #[.slice none 0 0, .int .i64 0, .int .i64 0, .slice none 0 0, .int .i64 0] 29 (0, 0))) ∧ (w'.heap[gb363]? = some (.cells #[.int .i64 (wrap64 (t362 - (wrap64 (a2 - a1))))] 2 (0, 0))) ∧ (Below w.heap.size w w')) ?_ ?_
            rotate_left
            ·intro hJ9_10_14
             refine join_ (σ := Value × Value × Nat) 4 b45_37 (fun s_ => [(50, s_.1), (51, s_.2.1), (11, .pointer (some ⟨s_.2.2, 0, none⟩))]) (fun s_ w' => (w'.cell? ⟨gb357, 0, none⟩ = some (.slice A0_0 l0_0.length c0_0) ∧ w'.cell? ⟨gb357, 1, none⟩ = some (.int .i64 a0_1) ∧ w'.cell? ⟨gb357, 2, none⟩ = some (.int .i64 a0_2) ∧ w'.cell? ⟨gb358, 0, none⟩ = some (.int .i64 a1) ∧ w'.cell? ⟨gb359, 0, none⟩ = some (.int .i64 a2)) ∧ (Kd.V (Kd.int .i64) 2 w' w.heap.size (fun k_ => ((P0_0_ k_ ∨ P3_ k_) ∨ w.heap.size ≤ k_) ∧ some k_ ≠ (s_.1 : Value).ownBlock ∧ some k_ ≠ (s_.2.1 : Value).ownBlock ∧ k_ ≠ gb357 ∧ k_ ≠ gb358 ∧ k_ ≠ gb359 ∧ k_ ≠ gb360 ∧ k_ ≠ gb363 ∧ k_ ≠ s_.2.2) (.slice A0_0 y365.length c0_0) y365) ∧ (Kd.V (Kd.int .i64) 2 w' w.heap.size (fun k_ => ((P0_0_ k_ ∨ P3_ k_) ∨ w.heap.size ≤ k_) ∧ some k_ ≠ (s_.1 : Value).ownBlock ∧ some k_ ≠ (s_.2.1 : Value).ownBlock ∧ k_ ≠ gb357 ∧ k_ ≠ gb358 ∧ k_ ≠ gb359 ∧ k_ ≠ gb360 ∧ k_ ≠ gb363 ∧ k_ ≠ s_.2.2) (.slice A51 y370.length c51) y370) ∧ (Kd.N (Kd.slice 2 (Kd.int .i64)) 23 w' w.heap.size (fun k_ => ((P0_0_ k_ ∨ P3_ k_) ∨ w.heap.size ≤ k_) ∧ some k_ ≠ (s_.2.1 : Value).ownBlock ∧ k_ ≠ gb357 ∧ k_ ≠ gb358 ∧ k_ ≠ gb359 ∧ k_ ≠ gb360 ∧ k_ ≠ gb363 ∧ k_ ≠ s_.2.2) s_.1 y375) ∧ (Kd.R (Kd.int .i64) 2 w' w.heap.size (fun k_ => (w.heap.size ≤ k_) ∧ k_ ≠ gb358 ∧ k_ ≠ gb359 ∧ k_ ≠ gb363) s_.2.1 t378) ∧ (Kd.V (Kd.int .i64) 2 w' w.heap.size (fun k_ => ((P0_0_ k_ ∨ P3_ k_) ∨ w.heap.size ≤ k_) ∧ some k_ ≠ (s_.1 : Value).ownBlock ∧ some k_ ≠ (s_.2.1 : Value).ownBlock ∧ k_ ≠ gb357 ∧ k_ ≠ gb358 ∧ k_ ≠ gb359 ∧ k_ ≠ gb360 ∧ k_ ≠ gb363 ∧ k_ ≠ s_.2.2) (.slice A3 l3.length c3) l3) ∧ (Kd.V (Kd.int .i64) 2 w' w.heap.size (fun k_ => ((P0_0_ k_ ∨ P3_ k_) ∨ w.heap.size ≤ k_) ∧ some k_ ≠ (s_.1 : Value).ownBlock ∧ some k_ ≠ (s_.2.1 : Value).ownBlock ∧ k_ ≠ gb357 ∧ k_ ≠ gb358 ∧ k_ ≠ gb359 ∧ k_ ≠ gb360 ∧ k_ ≠ gb363 ∧ k_ ≠ s_.2.2) (.slice A0_0 l0_0.length c0_0) l0_0) ∧ (w'.heap[gb357]? = some (.cells #[.slice A0_0 l0_0.length c0_0, .int .i64 a0_1, .int .i64 a0_2] 25 (0, 0))) ∧ (w'.heap[gb358]? = some (.cells #[.int .i64 a1] 2 (0, 0))) ∧ (w'.heap[gb359]? = some (.cells #[.int .i64 a2] 2 (0, 0))) ∧ (w'.heap[gb360]? = some (.cells #[.slice none 0 0, .int .i64 0, .int .i64 0, .slice none 0 0, .int .i64 0] 29 (0, 0))) ∧ (w'.heap[gb363]? = some (.cells #[.int .i64 (wrap64 (t362 - (wrap64 (a2 - a1))))] 2 (0, 0))) ∧ (w'.heap[s_.2.2]? = some (.cells #[.slice none 0 0, .int .i64 0, .int .i64 0] 25 (0, 0))) ∧ (w.heap.size ≤ s_.2.2) ∧ (w.heap.size ≤ s_.2.2) ∧ (gb357 ≠ s_.2.2) ∧ (s_.2.2 ≠ gb357) ∧ (gb358 ≠ s_.2.2) ∧ (s_.2.2 ≠ gb358) ∧ (gb359 ≠ s_.2.2) ∧ (s_.2.2 ≠ gb359) ∧ (gb360 ≠ s_.2.2) ∧ (s_.2.2 ≠ gb360) ∧ (gb363 ≠ s_.2.2) ∧ (s_.2.2 ≠ gb363) ∧ (Below w.heap.size w w')) ?_ ?_
             rotate_left
             ·intro hJ9_10_20
              refine join_ (σ := Value × Value) 5 b45_38 (fun s_ => [(50, s_.1), (51, s_.2)]) (fun s_ w' => (w'.cell? ⟨gb357, 0, none⟩ = some (.slice A0_0 l0_0.length c0_0) ∧ w'.cell? ⟨gb357, 1, none⟩ = some (.int .i64 a0_1) ∧ w'.cell? ⟨gb357, 2, none⟩ = some (.int .i64 a0_2) ∧ w'.cell? ⟨gb358, 0, none⟩ = some (.int .i64 a1) ∧ w'.cell? ⟨gb359, 0, none⟩ = some (.int .i64 a2)) ∧ (Kd.V (Kd.int .i64) 2 w' w.heap.size (fun k_ => ((P0_0_ k_ ∨ P3_ k_) ∨ w.heap.size ≤ k_) ∧ some k_ ≠ (s_.1 : Value).ownBlock ∧ some k_ ≠ (s_.2 : Value).ownBlock ∧ k_ ≠ gb357 ∧ k_ ≠ gb358 ∧ k_ ≠ gb359 ∧ k_ ≠ gb360 ∧ k_ ≠ gb363) (.slice A0_0 y365.length c0_0) y365) ∧ (Kd.V (Kd.int .i64) 2 w' w.heap.size (fun k_ => ((P0_0_ k_ ∨ P3_ k_) ∨ w.heap.size ≤ k_) ∧ some k_ ≠ (s_.1 : Value).ownBlock ∧ some k_ ≠ (s_.2 : Value).ownBlock ∧ k_ ≠ gb357 ∧ k_ ≠ gb358 ∧ k_ ≠ gb359 ∧ k_ ≠ gb360 ∧ k_ ≠ gb363) (.slice A51 y370.length c51) y370) ∧ (Kd.N (Kd.slice 2 (Kd.int .i64)) 23 w' w.heap.size (fun k_ => ((P0_0_ k_ ∨ P3_ k_) ∨ w.heap.size ≤ k_) ∧ some k_ ≠ (s_.2 : Value).ownBlock ∧ k_ ≠ gb357 ∧ k_ ≠ gb358 ∧ k_ ≠ gb359 ∧ k_ ≠ gb360 ∧ k_ ≠ gb363) s_.1 y375) ∧ (Kd.R (Kd.int .i64) 2 w' w.heap.size (fun k_ => (w.heap.size ≤ k_) ∧ k_ ≠ gb358 ∧ k_ ≠ gb359 ∧ k_ ≠ gb363) s_.2 t378) ∧ (Kd.V (Kd.int .i64) 2 w' w.heap.size (fun k_ => ((P0_0_ k_ ∨ P3_ k_) ∨ w.heap.size ≤ k_) ∧ some k_ ≠ (s_.1 : Value).ownBlock ∧ some k_ ≠ (s_.2 : Value).ownBlock ∧ k_ ≠ gb357 ∧ k_ ≠ gb358 ∧ k_ ≠ gb359 ∧ k_ ≠ gb360 ∧ k_ ≠ gb363) (.slice A3 l3.length c3) l3) ∧ (Kd.V (Kd.int .i64) 2 w' w.heap.size (fun k_ => ((P0_0_ k_ ∨ P3_ k_) ∨ w.heap.size ≤ k_) ∧ some k_ ≠ (s_.1 : Value).ownBlock ∧ some k_ ≠ (s_.2 : Value).ownBlock ∧ k_ ≠ gb357 ∧ k_ ≠ gb358 ∧ k_ ≠ gb359 ∧ k_ ≠ gb360 ∧ k_ ≠ gb363) (.slice A0_0 l0_0.length c0_0) l0_0) ∧ (w'.heap[gb357]? = some (.cells #[.slice A0_0 l0_0.length c0_0, .int .i64 a0_1, .int .i64 a0_2] 25 (0, 0))) ∧ (w'.heap[gb358]? = some (.cells #[.int .i64 a1] 2 (0, 0))) ∧ (w'.heap[gb359]? = some (.cells #[.int .i64 a2] 2 (0, 0))) ∧ (w'.heap[gb360]? = some (.cells #[.slice none 0 0, .int .i64 0, .int .i64 0, .slice none 0 0, .int .i64 0] 29 (0, 0))) ∧ (w'.heap[gb363]? = some (.cells #[.int .i64 (wrap64 (t362 - (wrap64 (a2 - a1))))] 2 (0, 0))) ∧ (Below w.heap.size w w')) ?_ ?_
              rotate_left
              ·intro hJ9_10
               refine join_ (σ := Value × Nat) 5 b45_39 (fun s_ => [(50, s_.1), (11, .pointer (some ⟨s_.2, 0, none⟩))]) (fun s_ w' => (w'.cell? ⟨gb357, 0, none⟩ = some (.slice A0_0 l0_0.length c0_0) ∧ w'.cell? ⟨gb357, 1, none⟩ = some (.int .i64 a0_1) ∧ w'.cell? ⟨gb357, 2, none⟩ = some (.int .i64 a0_2) ∧ w'.cell? ⟨gb358, 0, none⟩ = some (.int .i64 a1) ∧ w'.cell? ⟨gb359, 0, none⟩ = some (.int .i64 a2)) ∧ (Kd.V (Kd.int .i64) 2 w' w.heap.size (fun k_ => ((P0_0_ k_ ∨ P3_ k_) ∨ w.heap.size ≤ k_) ∧ some k_ ≠ (s_.1 : Value).ownBlock ∧ k_ ≠ gb357 ∧ k_ ≠ gb358 ∧ k_ ≠ gb359 ∧ k_ ≠ gb360 ∧ k_ ≠ gb363 ∧ k_ ≠ s_.2) (.slice A0_0 y365.length c0_0) y365) ∧ (Kd.V (Kd.int .i64) 2 w' w.heap.size (fun k_ => ((P0_0_ k_ ∨ P3_ k_) ∨ w.heap.size ≤ k_) ∧ some k_ ≠ (s_.1 : Value).ownBlock ∧ k_ ≠ gb357 ∧ k_ ≠ gb358 ∧ k_ ≠ gb359 ∧ k_ ≠ gb360 ∧ k_ ≠ gb363 ∧ k_ ≠ s_.2) (.slice A51 y370.length c51) y370) ∧ (Kd.N (Kd.slice 2 (Kd.int .i64)) 23 w' w.heap.size (fun k_ => ((P0_0_ k_ ∨ P3_ k_) ∨ w.heap.size ≤ k_) ∧ k_ ≠ gb357 ∧ k_ ≠ gb358 ∧ k_ ≠ gb359 ∧ k_ ≠ gb360 ∧ k_ ≠ gb363 ∧ k_ ≠ s_.2) s_.1 y375) ∧ (Kd.V (Kd.int .i64) 2 w' w.heap.size (fun k_ => ((P0_0_ k_ ∨ P3_ k_) ∨ w.heap.size ≤ k_) ∧ some k_ ≠ (s_.1 : Value).ownBlock ∧ k_ ≠ gb357 ∧ k_ ≠ gb358 ∧ k_ ≠ gb359 ∧ k_ ≠ gb360 ∧ k_ ≠ gb363 ∧ k_ ≠ s_.2) (.slice A3 l3.length c3) l3) ∧ (Kd.V (Kd.int .i64) 2 w' w.heap.size (fun k_ => ((P0_0_ k_ ∨ P3_ k_) ∨ w.heap.size ≤ k_) ∧ some k_ ≠ (s_.1 : Value).ownBlock ∧ k_ ≠ gb357 ∧ k_ ≠ gb358 ∧ k_ ≠ gb359 ∧ k_ ≠ gb360 ∧ k_ ≠ gb363 ∧ k_ ≠ s_.2) (.slice A0_0 l0_0.length c0_0) l0_0) ∧ (w'.heap[gb357]? = some (.cells #[.slice A0_0 l0_0.length c0_0, .int .i64 a0_1, .int .i64 a0_2] 25 (0, 0))) ∧ (w'.heap[gb358]? = some (.cells #[.int .i64 a1] 2 (0, 0))) ∧ (w'.heap[gb359]? = some (.cells #[.int .i64 a2] 2 (0, 0))) ∧ (w'.heap[gb360]? = some (.cells #[.slice none 0 0, .int .i64 0, .int .i64 0, .slice none 0 0, .int .i64 0] 29 (0, 0))) ∧ (w'.heap[gb363]? = some (.cells #[.int .i64 (wrap64 (t362 - (wrap64 (a2 - a1))))] 2 (0, 0))) ∧ (w'.heap[s_.2]? = some (.cells #[.slice none 0 0, .int .i64 0, .int .i64 0] 25 (0, 0))) ∧ (w.heap.size ≤ s_.2) ∧ (w.heap.size ≤ s_.2) ∧ (gb357 ≠ s_.2) ∧ (s_.2 ≠ gb357) ∧ (gb358 ≠ s_.2) ∧ (s_.2 ≠ gb358) ∧ (gb359 ≠ s_.2) ∧ (s_.2 ≠ gb359) ∧ (gb360 ≠ s_.2) ∧ (s_.2 ≠ gb360) ∧ (gb363 ≠ s_.2) ∧ (s_.2 ≠ gb363) ∧ (Below w.heap.size w w')) ?_ ?_
               rotate_left
               ·intro hJ9_20
                refine join_ (σ := Value) 6 b45_40 (fun s_ => [(50, s_)]) (fun s_ w' => (w'.cell? ⟨gb357, 0, none⟩ = some (.slice A0_0 l0_0.length c0_0) ∧ w'.cell? ⟨gb357, 1, none⟩ = some (.int .i64 a0_1) ∧ w'.cell? ⟨gb357, 2, none⟩ = some (.int .i64 a0_2) ∧ w'.cell? ⟨gb358, 0, none⟩ = some (.int .i64 a1) ∧ w'.cell? ⟨gb359, 0, none⟩ = some (.int .i64 a2)) ∧ (Kd.V (Kd.int .i64) 2 w' w.heap.size (fun k_ => ((P0_0_ k_ ∨ P3_ k_) ∨ w.heap.size ≤ k_) ∧ some k_ ≠ (s_ : Value).ownBlock ∧ k_ ≠ gb357 ∧ k_ ≠ gb358 ∧ k_ ≠ gb359 ∧ k_ ≠ gb360 ∧ k_ ≠ gb363) (.slice A0_0 y365.length c0_0) y365) ∧ (Kd.V (Kd.int .i64) 2 w' w.heap.size (fun k_ => ((P0_0_ k_ ∨ P3_ k_) ∨ w.heap.size ≤ k_) ∧ some k_ ≠ (s_ : Value).ownBlock ∧ k_ ≠ gb357 ∧ k_ ≠ gb358 ∧ k_ ≠ gb359 ∧ k_ ≠ gb360 ∧ k_ ≠ gb363) (.slice A51 y370.length c51) y370) ∧ (Kd.N (Kd.slice 2 (Kd.int .i64)) 23 w' w.heap.size (fun k_ => ((P0_0_ k_ ∨ P3_ k_) ∨ w.heap.size ≤ k_) ∧ k_ ≠ gb357 ∧ k_ ≠ gb358 ∧ k_ ≠ gb359 ∧ k_ ≠ gb360 ∧ k_ ≠ gb363) s_ y375) ∧ (Kd.V (Kd.int .i64) 2 w' w.heap.size (fun k_ => ((P0_0_ k_ ∨ P3_ k_) ∨ w.heap.size ≤ k_) ∧ some k_ ≠ (s_ : Value).ownBlock ∧ k_ ≠ gb357 ∧ k_ ≠ gb358 ∧ k_ ≠ gb359 ∧ k_ ≠ gb360 ∧ k_ ≠ gb363) (.slice A3 l3.length c3) l3) ∧ (Kd.V (Kd.int .i64) 2 w' w.heap.size (fun k_ => ((P0_0_ k_ ∨ P3_ k_) ∨ w.heap.size ≤ k_) ∧ some k_ ≠ (s_ : Value).ownBlock ∧ k_ ≠ gb357 ∧ k_ ≠ gb358 ∧ k_ ≠ gb359 ∧ k_ ≠ gb360 ∧ k_ ≠ gb363) (.slice A0_0 l0_0.length c0_0) l0_0) ∧ (w'.heap[gb357]? = some (.cells #[.slice A0_0 l0_0.length c0_0, .int .i64 a0_1, .int .i64 a0_2] 25 (0, 0))) ∧ (w'.heap[gb358]? = some (.cells #[.int .i64 a1] 2 (0, 0))) ∧ (w'.heap[gb359]? = some (.cells #[.int .i64 a2] 2 (0, 0))) ∧ (w'.heap[gb360]? = some (.cells #[.slice none 0 0, .int .i64 0, .int .i64 0, .slice none 0 0, .int .i64 0] 29 (0, 0))) ∧ (w'.heap[gb363]? = some (.cells #[.int .i64 (wrap64 (t362 - (wrap64 (a2 - a1))))] 2 (0, 0))) ∧ (Below w.heap.size w w')) ?_ ?_
                rotate_left
                ·intro hJ9
                 refine join_ (σ := Nat) 6 b45_41 (fun s_ => [(11, .pointer (some ⟨s_, 0, none⟩))]) (fun s_ w' => (w'.cell? ⟨gb357, 0, none⟩ = some (.slice A0_0 l0_0.length c0_0) ∧ w'.cell? ⟨gb357, 1, none⟩ = some (.int .i64 a0_1) ∧ w'.cell? ⟨gb357, 2, none⟩ = some (.int .i64 a0_2) ∧ w'.cell? ⟨gb358, 0, none⟩ = some (.int .i64 a1) ∧ w'.cell? ⟨gb359, 0, none⟩ = some (.int .i64 a2)) ∧ (Kd.V (Kd.int .i64) 2 w' w.heap.size (fun k_ => ((P0_0_ k_ ∨ P3_ k_) ∨ w.heap.size ≤ k_) ∧ k_ ≠ gb357 ∧ k_ ≠ gb358 ∧ k_ ≠ gb359 ∧ k_ ≠ gb360 ∧ k_ ≠ gb363 ∧ k_ ≠ s_) (.slice A0_0 y365.length c0_0) y365) ∧ (Kd.V (Kd.int .i64) 2 w' w.heap.size (fun k_ => ((P0_0_ k_ ∨ P3_ k_) ∨ w.heap.size ≤ k_) ∧ k_ ≠ gb357 ∧ k_ ≠ gb358 ∧ k_ ≠ gb359 ∧ k_ ≠ gb360 ∧ k_ ≠ gb363 ∧ k_ ≠ s_) (.slice A51 y370.length c51) y370) ∧ (Kd.V (Kd.int .i64) 2 w' w.heap.size (fun k_ => ((P0_0_ k_ ∨ P3_ k_) ∨ w.heap.size ≤ k_) ∧ k_ ≠ gb357 ∧ k_ ≠ gb358 ∧ k_ ≠ gb359 ∧ k_ ≠ gb360 ∧ k_ ≠ gb363 ∧ k_ ≠ s_) (.slice A3 l3.length c3) l3) ∧ (Kd.V (Kd.int .i64) 2 w' w.heap.size (fun k_ => ((P0_0_ k_ ∨ P3_ k_) ∨ w.heap.size ≤ k_) ∧ k_ ≠ gb357 ∧ k_ ≠ gb358 ∧ k_ ≠ gb359 ∧ k_ ≠ gb360 ∧ k_ ≠ gb363 ∧ k_ ≠ s_) (.slice A0_0 l0_0.length c0_0) l0_0) ∧ (w'.heap[gb357]? = some (.cells #[.slice A0_0 l0_0.length c0_0, .int .i64 a0_1, .int .i64 a0_2] 25 (0, 0))) ∧ (w'.heap[gb358]? = some (.cells #[.int .i64 a1] 2 (0, 0))) ∧ (w'.heap[gb359]? = some (.cells #[.int .i64 a2] 2 (0, 0))) ∧ (w'.heap[gb360]? = some (.cells #[.slice none 0 0, .int .i64 0, .int .i64 0, .slice none 0 0, .int .i64 0] 29 (0, 0))) ∧ (w'.heap[gb363]? = some (.cells #[.int .i64 (wrap64 (t362 - (wrap64 (a2 - a1))))] 2 (0, 0))) ∧ (w'.heap[s_]? = some (.cells #[.slice none 0 0, .int .i64 0, .int .i64 0] 25 (0, 0))) ∧ (w.heap.size ≤ s_) ∧ (w.heap.size ≤ s_) ∧ (gb357 ≠ s_) ∧ (s_ ≠ gb357) ∧ (gb358 ≠ s_) ∧ (s_ ≠ gb358) ∧ (gb359 ≠ s_) ∧ (s_ ≠ gb359) ∧ (gb360 ≠ s_) ∧ (s_ ≠ gb360) ∧ (gb363 ≠ s_) ∧ (s_ ≠ gb363) ∧ (Below w.heap.size w w')) ?_ ?_
                 rotate_left
                 ·intro hJ20
                  refine two_ (i := 9) (j := 20) (Ni := some 50) (Nj := some 11) b45_40 b45_41 rfl rfl rfl rfl (two_of HT_.out (by kernel_rfl)) (by decide) (by decide) (fun K hK => ?_) (fun K hK => ?_)
                  ·skip
                   refine Kd.N_lit_step (Kd.slice 2 (Kd.int .i64)) _ 23 ?hg (N' := 50) ?hd (xs := ([y365, l3, y370] : List (List Int))) (inner := [.slice A0_0 y365.length c0_0, .slice A3 l3.length c3, .slice A51 y370.length c51]) (ok := (fun k_ => ((P0_0_ k_ ∨ P3_ k_) ∨ w.heap.size ≤ k_) ∧ k_ ≠ gb357 ∧ k_ ≠ gb358 ∧ k_ ≠ gb359 ∧ k_ ≠ gb360 ∧ k_ ≠ gb363)) (okp := (fun k_ => ((P0_0_ k_ ∨ P3_ k_) ∨ w.heap.size ≤ k_) ∧ k_ ≠ gb357 ∧ k_ ≠ gb358 ∧ k_ ≠ gb359 ∧ k_ ≠ gb360 ∧ k_ ≠ gb363)) ?hr ?hp (fun _ hk => hk) ((show ∀ k_, w49.heap.size ≤ k_ → (fun k_ => ((P0_0_ k_ ∨ P3_ k_) ∨ w.heap.size ≤ k_) ∧ k_ ≠ gb357 ∧ k_ ≠ gb358 ∧ k_ ≠ gb359 ∧ k_ ≠ gb360 ∧ k_ ≠ gb363) k_ from fun k_ hk => ⟨(.inr (Nat.le_trans (below_size (bl HB.out)) hk)), Kd.freshB (g := gb357) (o := .cells #[.slice A0_0 l0_0.length c0_0, .int .i64 a0_1, .int .i64 a0_2] 25 (0, 0)) (pk BK357.out) k_ hk, Kd.freshB (g := gb358) (o := .cells #[.int .i64 a1] 2 (0, 0)) (pk BK358.out) k_ hk, Kd.freshB (g := gb359) (o := .cells #[.int .i64 a2] 2 (0, 0)) (pk BK359.out) k_ hk, Kd.freshB (g := gb360) (o := .cells #[.slice none 0 0, .int .i64 0, .int .i64 0, .slice none 0 0, .int .i64 0] 29 (0, 0)) (pk BK360.out) k_ hk, Kd.freshB (g := gb363) (o := .cells #[.int .i64 (wrap64 (t362 - (wrap64 (a2 - a1))))] 2 (0, 0)) (pk BK363.out) k_ hk⟩) _ (Nat.le_refl _)) (Below.refl _ _) (Nat.le_refl _) (by simp) ?_; (case hd => rfl); (case hg => rfl); (case hr => first | (go_simp; done) | (go_simp; rfl)); (case hp => exact (Reps.one (show Kd.FK (Kd.slice 2 (Kd.int .i64)) _ _ y365 [.slice A0_0 y365.length c0_0] from (Kd.FK_slice_mk (Kd.V_reads' (Kd.V_mono (ok' := (fun k_ => ((P0_0_ k_ ∨ P3_ k_) ∨ w.heap.size ≤ k_) ∧ k_ ≠ gb357 ∧ k_ ≠ gb358 ∧ k_ ≠ gb359 ∧ k_ ≠ gb360 ∧ k_ ≠ gb363)) (HO369.out) (fun k_ hk => ⟨hk.1, ⟨hk.2.1, ⟨hk.2.2.1, ⟨hk.2.2.2.1, ⟨hk.2.2.2.2.1, hk.2.2.2.2.2⟩⟩⟩⟩⟩))).2.1 (Kd.V_F (Kd.V_mono (ok' := (fun k_ => ((P0_0_ k_ ∨ P3_ k_) ∨ w.heap.size ≤ k_) ∧ k_ ≠ gb357 ∧ k_ ≠ gb358 ∧ k_ ≠ gb359 ∧ k_ ≠ gb360 ∧ k_ ≠ gb363)) (HO369.out) (fun k_ hk => ⟨hk.1, ⟨hk.2.1, ⟨hk.2.2.1, ⟨hk.2.2.2.1, ⟨hk.2.2.2.2.1, hk.2.2.2.2.2⟩⟩⟩⟩⟩))))) (Reps.one (show Kd.FK (Kd.slice 2 (Kd.int .i64)) _ _ l3 [.slice A3 l3.length c3] from (Kd.FK_slice_mk (Kd.V_reads' (Kd.V_mono (ok' := (fun k_ => ((P0_0_ k_ ∨ P3_ k_) ∨ w.heap.size ≤ k_) ∧ k_ ≠ gb357 ∧ k_ ≠ gb358 ∧ k_ ≠ gb359 ∧ k_ ≠ gb360 ∧ k_ ≠ gb363)) (HO_3.out) (fun k_ hk => ⟨hk.1, ⟨hk.2.1, ⟨hk.2.2.1, ⟨hk.2.2.2.1, ⟨hk.2.2.2.2.1, hk.2.2.2.2.2⟩⟩⟩⟩⟩))).2.1 (Kd.V_F (Kd.V_mono (ok' := (fun k_ => ((P0_0_ k_ ∨ P3_ k_) ∨ w.heap.size ≤ k_) ∧ k_ ≠ gb357 ∧ k_ ≠ gb358 ∧ k_ ≠ gb359 ∧ k_ ≠ gb360 ∧ k_ ≠ gb363)) (HO_3.out) (fun k_ hk => ⟨hk.1, ⟨hk.2.1, ⟨hk.2.2.1, ⟨hk.2.2.2.1, ⟨hk.2.2.2.2.1, hk.2.2.2.2.2⟩⟩⟩⟩⟩))))) (Reps.one (show Kd.FK (Kd.slice 2 (Kd.int .i64)) _ _ y370 [.slice A51 y370.length c51] from (Kd.FK_slice_mk (Kd.V_reads' (Kd.V_mono (ok' := (fun k_ => ((P0_0_ k_ ∨ P3_ k_) ∨ w.heap.size ≤ k_) ∧ k_ ≠ gb357 ∧ k_ ≠ gb358 ∧ k_ ≠ gb359 ∧ k_ ≠ gb360 ∧ k_ ≠ gb363)) (HO374.out) (fun k_ hk => ⟨hk.1, ⟨hk.2.1, ⟨hk.2.2.1, ⟨hk.2.2.2.1, ⟨hk.2.2.2.2.1, hk.2.2.2.2.2⟩⟩⟩⟩⟩))).2.1 (Kd.V_F (Kd.V_mono (ok' := (fun k_ => ((P0_0_ k_ ∨ P3_ k_) ∨ w.heap.size ≤ k_) ∧ k_ ≠ gb357 ∧ k_ ≠ gb358 ∧ k_ ≠ gb359 ∧ k_ ≠ gb360 ∧ k_ ≠ gb363)) (HO374.out) (fun k_ hk => ⟨hk.1, ⟨hk.2.1, ⟨hk.2.2.1, ⟨hk.2.2.2.1, ⟨hk.2.2.2.2.1, hk.2.2.2.2.2⟩⟩⟩⟩⟩))))) (Reps.none _ _)))))
                   intro v376 w52 ho53 hb hg_ hnew_
                   clear hg_ hnew_
                   (first | rw [← Ny375.out] at ho53 | (simp only [Int.reduceToNat] at ho53; rw [← Ny375.out] at ho53))
                   replace HO_3 := am (Kd.V_elder' (kv HO_3.out) (Kd.N_base ho53) hb)
                   replace HO_358000 := am (Kd.V_elder' (kv HO_358000.out) (Kd.N_base ho53) hb)
                   replace HO369 := am (Kd.V_elder' (kv HO369.out) (Kd.N_base ho53) hb)
                   replace HO374 := am (Kd.V_elder' (kv HO374.out) (Kd.N_base ho53) hb)
                   have HO377 := am (Kd.N_lower ho53 (below_size (bl HB.out)))
                   replace BK357 := am (blk_below (pk BK357.out) hb)
                   replace BK358 := am (blk_below (pk BK358.out) hb)
                   replace BK359 := am (blk_below (pk BK359.out) hb)
                   replace BK360 := am (blk_below (pk BK360.out) hb)
                   replace BK363 := am (blk_below (pk BK363.out) hb)
                   replace HB := am (below_step (bl HB.out) hb)
                   clear hb ho53
                   refine hK.out _ _ ⟨bc BK357.out 0, bc BK357.out 1, bc BK357.out 2, bc BK358.out 0, bc BK359.out 0⟩ (fun hHeld => ?_)
                   clear hK K
                   refine norm_ (a' := ?_) ?_ ?_
                   rotate_left
                   ·show Act.put _ (some 50) _ = _
                    simp only [Act.put, sa_, s0_, ss_, i64_w, i32_w]
                    rfl
                   exact norm_ (by first | (simp only [putAll, Act.put, sa_, s0_, ss_]; done) | (simp only [putAll, Act.put, sa_, s0_, ss_]; rfl)) (hJ9 (v376) _ ⟨hHeld, (kv (Kd.V_mono HO369.out (fun _ hk => ⟨hk.1.1, ⟨hk.2, ⟨hk.1.2.1, ⟨hk.1.2.2.1, ⟨hk.1.2.2.2.1, ⟨hk.1.2.2.2.2.1, hk.1.2.2.2.2.2⟩⟩⟩⟩⟩⟩))), (kv (Kd.V_mono HO374.out (fun _ hk => ⟨hk.1.1, ⟨hk.2, ⟨hk.1.2.1, ⟨hk.1.2.2.1, ⟨hk.1.2.2.2.1, ⟨hk.1.2.2.2.2.1, hk.1.2.2.2.2.2⟩⟩⟩⟩⟩⟩))), (kn HO377.out), (kv (Kd.V_mono HO_3.out (fun _ hk => ⟨hk.1.1, ⟨hk.2, ⟨hk.1.2.1, ⟨hk.1.2.2.1, ⟨hk.1.2.2.2.1, ⟨hk.1.2.2.2.2.1, hk.1.2.2.2.2.2⟩⟩⟩⟩⟩⟩))), (kv (Kd.V_mono HO_358000.out (fun _ hk => ⟨hk.1.1, ⟨hk.2, ⟨hk.1.2.1, ⟨hk.1.2.2.1, ⟨hk.1.2.2.2.1, ⟨hk.1.2.2.2.2.1, hk.1.2.2.2.2.2⟩⟩⟩⟩⟩⟩))), (pk BK357.out), (pk BK358.out), (pk BK359.out), (pk BK360.out), (pk BK363.out), (bl HB.out)⟩)
                  ·skip
                   refine box_step ?hg (N := 11) ?hd (cs := #[.slice none 0 0, .int .i64 0, .int .i64 0]) (t := 25) ?hr ?_; (case hd => rfl); (case hg => rfl); (case hr => first | (go_simp; done) | (go_simp; rfl))
                   intro gb383 hg w52 hbox hb
                   replace HO_3 := am (Kd.V_below (Kd.V_elderB (kv HO_3.out) gb383 (Nat.le_of_eq hg.symm)) hb)
                   replace HO_358000 := am (Kd.V_below (Kd.V_elderB (kv HO_358000.out) gb383 (Nat.le_of_eq hg.symm)) hb)
                   replace HO369 := am (Kd.V_below (Kd.V_elderB (kv HO369.out) gb383 (Nat.le_of_eq hg.symm)) hb)
                   replace HO374 := am (Kd.V_below (Kd.V_elderB (kv HO374.out) gb383 (Nat.le_of_eq hg.symm)) hb)
                   have BK383 := am (hbox)
                   have GW383 := am ((by rw [hg]; exact (below_size (bl HB.out)) : w.heap.size ≤ gb383))
                   have GE383 := GW383
                   replace HB := am (below_step (bl HB.out) hb)
                   have NB357_383 := am ((by rw [hg]; exact Nat.ne_of_lt (blk_lt (pk BK357.out)) : gb357 ≠ gb383))
                   have NB383_357 := am ((by rw [hg]; exact Nat.ne_of_gt (blk_lt (pk BK357.out)) : gb383 ≠ gb357))
                   replace BK357 := am (blk_below (pk BK357.out) hb)
                   have NB358_383 := am ((by rw [hg]; exact Nat.ne_of_lt (blk_lt (pk BK358.out)) : gb358 ≠ gb383))
                   have NB383_358 := am ((by rw [hg]; exact Nat.ne_of_gt (blk_lt (pk BK358.out)) : gb383 ≠ gb358))
                   replace BK358 := am (blk_below (pk BK358.out) hb)
                   have NB359_383 := am ((by rw [hg]; exact Nat.ne_of_lt (blk_lt (pk BK359.out)) : gb359 ≠ gb383))
                   have NB383_359 := am ((by rw [hg]; exact Nat.ne_of_gt (blk_lt (pk BK359.out)) : gb383 ≠ gb359))
                   replace BK359 := am (blk_below (pk BK359.out) hb)
                   have NB360_383 := am ((by rw [hg]; exact Nat.ne_of_lt (blk_lt (pk BK360.out)) : gb360 ≠ gb383))
                   have NB383_360 := am ((by rw [hg]; exact Nat.ne_of_gt (blk_lt (pk BK360.out)) : gb383 ≠ gb360))
                   replace BK360 := am (blk_below (pk BK360.out) hb)
                   have NB363_383 := am ((by rw [hg]; exact Nat.ne_of_lt (blk_lt (pk BK363.out)) : gb363 ≠ gb383))
                   have NB383_363 := am ((by rw [hg]; exact Nat.ne_of_gt (blk_lt (pk BK363.out)) : gb383 ≠ gb363))
                   replace BK363 := am (blk_below (pk BK363.out) hb)
                   clear hb hbox hg
                   refine hK.out _ _ ⟨bc BK357.out 0, bc BK357.out 1, bc BK357.out 2, bc BK358.out 0, bc BK359.out 0⟩ (fun hHeld => ?_)
                   clear hK K
                   refine norm_ (a' := ?_) ?_ ?_
                   rotate_left
                   ·show Act.put _ (some 11) _ = _
                    simp only [Act.put, sa_, s0_, ss_, i64_w, i32_w]
                    rfl
                   exact norm_ (by first | (simp only [putAll, Act.put, sa_, s0_, ss_]; done) | (simp only [putAll, Act.put, sa_, s0_, ss_]; rfl)) (hJ20 (gb383) _ ⟨hHeld, (kv (Kd.V_mono HO369.out (fun _ hk => ⟨hk.1.1, ⟨hk.1.2.1, ⟨hk.1.2.2.1, ⟨hk.1.2.2.2.1, ⟨hk.1.2.2.2.2.1, ⟨hk.1.2.2.2.2.2, hk.2⟩⟩⟩⟩⟩⟩))), (kv (Kd.V_mono HO374.out (fun _ hk => ⟨hk.1.1, ⟨hk.1.2.1, ⟨hk.1.2.2.1, ⟨hk.1.2.2.2.1, ⟨hk.1.2.2.2.2.1, ⟨hk.1.2.2.2.2.2, hk.2⟩⟩⟩⟩⟩⟩))), (kv (Kd.V_mono HO_3.out (fun _ hk => ⟨hk.1.1, ⟨hk.1.2.1, ⟨hk.1.2.2.1, ⟨hk.1.2.2.2.1, ⟨hk.1.2.2.2.2.1, ⟨hk.1.2.2.2.2.2, hk.2⟩⟩⟩⟩⟩⟩))), (kv (Kd.V_mono HO_358000.out (fun _ hk => ⟨hk.1.1, ⟨hk.1.2.1, ⟨hk.1.2.2.1, ⟨hk.1.2.2.2.1, ⟨hk.1.2.2.2.2.1, ⟨hk.1.2.2.2.2.2, hk.2⟩⟩⟩⟩⟩⟩))), (pk BK357.out), (pk BK358.out), (pk BK359.out), (pk BK360.out), (pk BK363.out), (pk BK383.out), GW383.out, GE383.out, NB357_383.out, NB383_357.out, NB358_383.out, NB383_358.out, NB359_383.out, NB383_359.out, NB360_383.out, NB383_360.out, NB363_383.out, NB383_363.out, (bl HB.out)⟩)
                 ·skip
                  rintro gb383 w53 ⟨hS_, h0_, h1_, h2_, h3_, h4_, h5_, h6_, h7_, h8_, h9_, h10_, h11_, h12_, h13_, h14_, h15_, h16_, h17_, h18_, h19_, h20_, h21_, h22_⟩
                  have HO369 : Aside0 (Kd.V (Kd.int .i64) 2 w53 w.heap.size (fun k_ => ((P0_0_ k_ ∨ P3_ k_) ∨ w.heap.size ≤ k_) ∧ k_ ≠ gb357 ∧ k_ ≠ gb358 ∧ k_ ≠ gb359 ∧ k_ ≠ gb360 ∧ k_ ≠ gb363 ∧ k_ ≠ gb383) (.slice A0_0 y365.length c0_0) y365) := ⟨h0_⟩
                  have HO374 : Aside0 (Kd.V (Kd.int .i64) 2 w53 w.heap.size (fun k_ => ((P0_0_ k_ ∨ P3_ k_) ∨ w.heap.size ≤ k_) ∧ k_ ≠ gb357 ∧ k_ ≠ gb358 ∧ k_ ≠ gb359 ∧ k_ ≠ gb360 ∧ k_ ≠ gb363 ∧ k_ ≠ gb383) (.slice A51 y370.length c51) y370) := ⟨h1_⟩
                  replace HO_3 : Aside0 (Kd.V (Kd.int .i64) 2 w53 w.heap.size (fun k_ => ((P0_0_ k_ ∨ P3_ k_) ∨ w.heap.size ≤ k_) ∧ k_ ≠ gb357 ∧ k_ ≠ gb358 ∧ k_ ≠ gb359 ∧ k_ ≠ gb360 ∧ k_ ≠ gb363 ∧ k_ ≠ gb383) (.slice A3 l3.length c3) l3) := ⟨h2_⟩
                  replace HO_358000 : Aside0 (Kd.V (Kd.int .i64) 2 w53 w.heap.size (fun k_ => ((P0_0_ k_ ∨ P3_ k_) ∨ w.heap.size ≤ k_) ∧ k_ ≠ gb357 ∧ k_ ≠ gb358 ∧ k_ ≠ gb359 ∧ k_ ≠ gb360 ∧ k_ ≠ gb363 ∧ k_ ≠ gb383) (.slice A0_0 l0_0.length c0_0) l0_0) := ⟨h3_⟩
                  replace BK357 : Aside0 (w53.heap[gb357]? = some (.cells #[.slice A0_0 l0_0.length c0_0, .int .i64 a0_1, .int .i64 a0_2] 25 (0, 0))) := ⟨h4_⟩
                  replace BK358 : Aside0 (w53.heap[gb358]? = some (.cells #[.int .i64 a1] 2 (0, 0))) := ⟨h5_⟩
                  replace BK359 : Aside0 (w53.heap[gb359]? = some (.cells #[.int .i64 a2] 2 (0, 0))) := ⟨h6_⟩
                  replace BK360 : Aside0 (w53.heap[gb360]? = some (.cells #[.slice none 0 0, .int .i64 0, .int .i64 0, .slice none 0 0, .int .i64 0] 29 (0, 0))) := ⟨h7_⟩
                  replace BK363 : Aside0 (w53.heap[gb363]? = some (.cells #[.int .i64 (wrap64 (t362 - (wrap64 (a2 - a1))))] 2 (0, 0))) := ⟨h8_⟩
                  have BK383 : Aside0 (w53.heap[gb383]? = some (.cells #[.slice none 0 0, .int .i64 0, .int .i64 0] 25 (0, 0))) := ⟨h9_⟩
                  have GW383 : Aside0 (w.heap.size ≤ gb383) := ⟨h10_⟩
                  have GE383 : Aside0 (w.heap.size ≤ gb383) := ⟨h11_⟩
                  have NB357_383 : Aside0 (gb357 ≠ gb383) := ⟨h12_⟩
                  have NB383_357 : Aside0 (gb383 ≠ gb357) := ⟨h13_⟩
                  have NB358_383 : Aside0 (gb358 ≠ gb383) := ⟨h14_⟩
                  have NB383_358 : Aside0 (gb383 ≠ gb358) := ⟨h15_⟩
                  have NB359_383 : Aside0 (gb359 ≠ gb383) := ⟨h16_⟩
                  have NB383_359 : Aside0 (gb383 ≠ gb359) := ⟨h17_⟩
                  have NB360_383 : Aside0 (gb360 ≠ gb383) := ⟨h18_⟩
                  have NB383_360 : Aside0 (gb383 ≠ gb360) := ⟨h19_⟩
                  have NB363_383 : Aside0 (gb363 ≠ gb383) := ⟨h20_⟩
                  have NB383_363 : Aside0 (gb383 ≠ gb363) := ⟨h21_⟩
                  replace HB : Aside0 (Below w.heap.size w w53) := ⟨h22_⟩
                  clear h0_ h1_ h2_ h3_ h4_ h5_ h6_ h7_ h8_ h9_ h10_ h11_ h12_ h13_ h14_ h15_ h16_ h17_ h18_ h19_ h20_ h21_ h22_
                  have hHeld : w53.cell? ⟨gb357, 0, none⟩ = some (.slice A0_0 l0_0.length c0_0) ∧ w53.cell? ⟨gb357, 1, none⟩ = some (.int .i64 a0_1) ∧ w53.cell? ⟨gb357, 2, none⟩ = some (.int .i64 a0_2) ∧ w53.cell? ⟨gb358, 0, none⟩ = some (.int .i64 a1) ∧ w53.cell? ⟨gb359, 0, none⟩ = some (.int .i64 a2) := hS_
                  refine norm_ (a' := ?_) ?_ ?_
                  rotate_left
                  ·simp only [putAll, Act.put, sa_, s0_, ss_]
                   rfl
                  refine one_ (i := 9) (N := some 50) b45_39 rfl rfl (one_of HT_.out (by kernel_rfl)) (by decide) (fun K hK => ?_)
                  refine Kd.N_lit_step (Kd.slice 2 (Kd.int .i64)) _ 23 ?hg (N' := 50) ?hd (xs := ([y365, l3, y370] : List (List Int))) (inner := [.slice A0_0 y365.length c0_0, .slice A3 l3.length c3, .slice A51 y370.length c51]) (ok := (fun k_ => ((P0_0_ k_ ∨ P3_ k_) ∨ w.heap.size ≤ k_) ∧ k_ ≠ gb357 ∧ k_ ≠ gb358 ∧ k_ ≠ gb359 ∧ k_ ≠ gb360 ∧ k_ ≠ gb363 ∧ k_ ≠ gb383)) (okp := (fun k_ => ((P0_0_ k_ ∨ P3_ k_) ∨ w.heap.size ≤ k_) ∧ k_ ≠ gb357 ∧ k_ ≠ gb358 ∧ k_ ≠ gb359 ∧ k_ ≠ gb360 ∧ k_ ≠ gb363 ∧ k_ ≠ gb383)) ?hr ?hp (fun _ hk => hk) ((show ∀ k_, w53.heap.size ≤ k_ → (fun k_ => ((P0_0_ k_ ∨ P3_ k_) ∨ w.heap.size ≤ k_) ∧ k_ ≠ gb357 ∧ k_ ≠ gb358 ∧ k_ ≠ gb359 ∧ k_ ≠ gb360 ∧ k_ ≠ gb363 ∧ k_ ≠ gb383) k_ from fun k_ hk => ⟨(.inr (Nat.le_trans (below_size (bl HB.out)) hk)), Kd.freshB (g := gb357) (o := .cells #[.slice A0_0 l0_0.length c0_0, .int .i64 a0_1, .int .i64 a0_2] 25 (0, 0)) (pk BK357.out) k_ hk, Kd.freshB (g := gb358) (o := .cells #[.int .i64 a1] 2 (0, 0)) (pk BK358.out) k_ hk, Kd.freshB (g := gb359) (o := .cells #[.int .i64 a2] 2 (0, 0)) (pk BK359.out) k_ hk, Kd.freshB (g := gb360) (o := .cells #[.slice none 0 0, .int .i64 0, .int .i64 0, .slice none 0 0, .int .i64 0] 29 (0, 0)) (pk BK360.out) k_ hk, Kd.freshB (g := gb363) (o := .cells #[.int .i64 (wrap64 (t362 - (wrap64 (a2 - a1))))] 2 (0, 0)) (pk BK363.out) k_ hk, Kd.freshB (g := gb383) (o := .cells #[.slice none 0 0, .int .i64 0, .int .i64 0] 25 (0, 0)) (pk BK383.out) k_ hk⟩) _ (Nat.le_refl _)) (Below.refl _ _) (Nat.le_refl _) (by simp) ?_; (case hd => rfl); (case hg => rfl); (case hr => first | (go_simp; done) | (go_simp; rfl)); (case hp => exact (Reps.one (show Kd.FK (Kd.slice 2 (Kd.int .i64)) _ _ y365 [.slice A0_0 y365.length c0_0] from (Kd.FK_slice_mk (Kd.V_reads' (Kd.V_mono (ok' := (fun k_ => ((P0_0_ k_ ∨ P3_ k_) ∨ w.heap.size ≤ k_) ∧ k_ ≠ gb357 ∧ k_ ≠ gb358 ∧ k_ ≠ gb359 ∧ k_ ≠ gb360 ∧ k_ ≠ gb363 ∧ k_ ≠ gb383)) (HO369.out) (fun k_ hk => ⟨hk.1, ⟨hk.2.1, ⟨hk.2.2.1, ⟨hk.2.2.2.1, ⟨hk.2.2.2.2.1, ⟨hk.2.2.2.2.2.1, hk.2.2.2.2.2.2⟩⟩⟩⟩⟩⟩))).2.1 (Kd.V_F (Kd.V_mono (ok' := (fun k_ => ((P0_0_ k_ ∨ P3_ k_) ∨ w.heap.size ≤ k_) ∧ k_ ≠ gb357 ∧ k_ ≠ gb358 ∧ k_ ≠ gb359 ∧ k_ ≠ gb360 ∧ k_ ≠ gb363 ∧ k_ ≠ gb383)) (HO369.out) (fun k_ hk => ⟨hk.1, ⟨hk.2.1, ⟨hk.2.2.1, ⟨hk.2.2.2.1, ⟨hk.2.2.2.2.1, ⟨hk.2.2.2.2.2.1, hk.2.2.2.2.2.2⟩⟩⟩⟩⟩⟩))))) (Reps.one (show Kd.FK (Kd.slice 2 (Kd.int .i64)) _ _ l3 [.slice A3 l3.length c3] from (Kd.FK_slice_mk (Kd.V_reads' (Kd.V_mono (ok' := (fun k_ => ((P0_0_ k_ ∨ P3_ k_) ∨ w.heap.size ≤ k_) ∧ k_ ≠ gb357 ∧ k_ ≠ gb358 ∧ k_ ≠ gb359 ∧ k_ ≠ gb360 ∧ k_ ≠ gb363 ∧ k_ ≠ gb383)) (HO_3.out) (fun k_ hk => ⟨hk.1, ⟨hk.2.1, ⟨hk.2.2.1, ⟨hk.2.2.2.1, ⟨hk.2.2.2.2.1, ⟨hk.2.2.2.2.2.1, hk.2.2.2.2.2.2⟩⟩⟩⟩⟩⟩))).2.1 (Kd.V_F (Kd.V_mono (ok' := (fun k_ => ((P0_0_ k_ ∨ P3_ k_) ∨ w.heap.size ≤ k_) ∧ k_ ≠ gb357 ∧ k_ ≠ gb358 ∧ k_ ≠ gb359 ∧ k_ ≠ gb360 ∧ k_ ≠ gb363 ∧ k_ ≠ gb383)) (HO_3.out) (fun k_ hk => ⟨hk.1, ⟨hk.2.1, ⟨hk.2.2.1, ⟨hk.2.2.2.1, ⟨hk.2.2.2.2.1, ⟨hk.2.2.2.2.2.1, hk.2.2.2.2.2.2⟩⟩⟩⟩⟩⟩))))) (Reps.one (show Kd.FK (Kd.slice 2 (Kd.int .i64)) _ _ y370 [.slice A51 y370.length c51] from (Kd.FK_slice_mk (Kd.V_reads' (Kd.V_mono (ok' := (fun k_ => ((P0_0_ k_ ∨ P3_ k_) ∨ w.heap.size ≤ k_) ∧ k_ ≠ gb357 ∧ k_ ≠ gb358 ∧ k_ ≠ gb359 ∧ k_ ≠ gb360 ∧ k_ ≠ gb363 ∧ k_ ≠ gb383)) (HO374.out) (fun k_ hk => ⟨hk.1, ⟨hk.2.1, ⟨hk.2.2.1, ⟨hk.2.2.2.1, ⟨hk.2.2.2.2.1, ⟨hk.2.2.2.2.2.1, hk.2.2.2.2.2.2⟩⟩⟩⟩⟩⟩))).2.1 (Kd.V_F (Kd.V_mono (ok' := (fun k_ => ((P0_0_ k_ ∨ P3_ k_) ∨ w.heap.size ≤ k_) ∧ k_ ≠ gb357 ∧ k_ ≠ gb358 ∧ k_ ≠ gb359 ∧ k_ ≠ gb360 ∧ k_ ≠ gb363 ∧ k_ ≠ gb383)) (HO374.out) (fun k_ hk => ⟨hk.1, ⟨hk.2.1, ⟨hk.2.2.1, ⟨hk.2.2.2.1, ⟨hk.2.2.2.2.1, ⟨hk.2.2.2.2.2.1, hk.2.2.2.2.2.2⟩⟩⟩⟩⟩⟩))))) (Reps.none _ _)))))
                  intro v376 w54 ho55 hb hg_ hnew_
                  clear hg_ hnew_
                  (first | rw [← Ny375.out] at ho55 | (simp only [Int.reduceToNat] at ho55; rw [← Ny375.out] at ho55))
                  replace HO_3 := am (Kd.V_elder' (kv HO_3.out) (Kd.N_base ho55) hb)
                  replace HO_358000 := am (Kd.V_elder' (kv HO_358000.out) (Kd.N_base ho55) hb)
                  replace HO369 := am (Kd.V_elder' (kv HO369.out) (Kd.N_base ho55) hb)
                  replace HO374 := am (Kd.V_elder' (kv HO374.out) (Kd.N_base ho55) hb)
                  have HO377 := am (Kd.N_lower ho55 (below_size (bl HB.out)))
                  replace BK357 := am (blk_below (pk BK357.out) hb)
                  replace BK358 := am (blk_below (pk BK358.out) hb)
                  replace BK359 := am (blk_below (pk BK359.out) hb)
                  replace BK360 := am (blk_below (pk BK360.out) hb)
                  replace BK363 := am (blk_below (pk BK363.out) hb)
                  replace BK383 := am (blk_below (pk BK383.out) hb)
                  replace HB := am (below_step (bl HB.out) hb)
                  clear hb ho55
                  refine hK.out _ _ ⟨bc BK357.out 0, bc BK357.out 1, bc BK357.out 2, bc BK358.out 0, bc BK359.out 0⟩ (fun hHeld => ?_)
                  clear hK K
                  refine norm_ (a' := ?_) ?_ ?_
                  rotate_left
                  ·show Act.put _ (some 50) _ = _
                   simp only [Act.put, sa_, s0_, ss_, i64_w, i32_w]
                   rfl
                  exact norm_ (by first | (simp only [putAll, Act.put, sa_, s0_, ss_]; done) | (simp only [putAll, Act.put, sa_, s0_, ss_]; rfl)) (hJ9_20 (v376, gb383) _ ⟨hHeld, (kv (Kd.V_mono HO369.out (fun _ hk => ⟨hk.1.1, ⟨hk.2, ⟨hk.1.2.1, ⟨hk.1.2.2.1, ⟨hk.1.2.2.2.1, ⟨hk.1.2.2.2.2.1, ⟨hk.1.2.2.2.2.2.1, hk.1.2.2.2.2.2.2⟩⟩⟩⟩⟩⟩⟩))), (kv (Kd.V_mono HO374.out (fun _ hk => ⟨hk.1.1, ⟨hk.2, ⟨hk.1.2.1, ⟨hk.1.2.2.1, ⟨hk.1.2.2.2.1, ⟨hk.1.2.2.2.2.1, ⟨hk.1.2.2.2.2.2.1, hk.1.2.2.2.2.2.2⟩⟩⟩⟩⟩⟩⟩))), (kn HO377.out), (kv (Kd.V_mono HO_3.out (fun _ hk => ⟨hk.1.1, ⟨hk.2, ⟨hk.1.2.1, ⟨hk.1.2.2.1, ⟨hk.1.2.2.2.1, ⟨hk.1.2.2.2.2.1, ⟨hk.1.2.2.2.2.2.1, hk.1.2.2.2.2.2.2⟩⟩⟩⟩⟩⟩⟩))), (kv (Kd.V_mono HO_358000.out (fun _ hk => ⟨hk.1.1, ⟨hk.2, ⟨hk.1.2.1, ⟨hk.1.2.2.1, ⟨hk.1.2.2.2.1, ⟨hk.1.2.2.2.2.1, ⟨hk.1.2.2.2.2.2.1, hk.1.2.2.2.2.2.2⟩⟩⟩⟩⟩⟩⟩))), (pk BK357.out), (pk BK358.out), (pk BK359.out), (pk BK360.out), (pk BK363.out), (pk BK383.out), GW383.out, GE383.out, NB357_383.out, NB383_357.out, NB358_383.out, NB383_358.out, NB359_383.out, NB383_359.out, NB360_383.out, NB383_360.out, NB363_383.out, NB383_363.out, (bl HB.out)⟩)
                ·skip
                 rintro v376 w54 ⟨hS_, h0_, h1_, h2_, h3_, h4_, h5_, h6_, h7_, h8_, h9_, h10_⟩
                 have HO369 : Aside0 (Kd.V (Kd.int .i64) 2 w54 w.heap.size (fun k_ => ((P0_0_ k_ ∨ P3_ k_) ∨ w.heap.size ≤ k_) ∧ some k_ ≠ (v376 : Value).ownBlock ∧ k_ ≠ gb357 ∧ k_ ≠ gb358 ∧ k_ ≠ gb359 ∧ k_ ≠ gb360 ∧ k_ ≠ gb363) (.slice A0_0 y365.length c0_0) y365) := ⟨h0_⟩
                 have HO374 : Aside0 (Kd.V (Kd.int .i64) 2 w54 w.heap.size (fun k_ => ((P0_0_ k_ ∨ P3_ k_) ∨ w.heap.size ≤ k_) ∧ some k_ ≠ (v376 : Value).ownBlock ∧ k_ ≠ gb357 ∧ k_ ≠ gb358 ∧ k_ ≠ gb359 ∧ k_ ≠ gb360 ∧ k_ ≠ gb363) (.slice A51 y370.length c51) y370) := ⟨h1_⟩
                 have HO377 : Aside0 (Kd.N (Kd.slice 2 (Kd.int .i64)) 23 w54 w.heap.size (fun k_ => ((P0_0_ k_ ∨ P3_ k_) ∨ w.heap.size ≤ k_) ∧ k_ ≠ gb357 ∧ k_ ≠ gb358 ∧ k_ ≠ gb359 ∧ k_ ≠ gb360 ∧ k_ ≠ gb363) v376 y375) := ⟨h2_⟩
                 replace HO_3 : Aside0 (Kd.V (Kd.int .i64) 2 w54 w.heap.size (fun k_ => ((P0_0_ k_ ∨ P3_ k_) ∨ w.heap.size ≤ k_) ∧ some k_ ≠ (v376 : Value).ownBlock ∧ k_ ≠ gb357 ∧ k_ ≠ gb358 ∧ k_ ≠ gb359 ∧ k_ ≠ gb360 ∧ k_ ≠ gb363) (.slice A3 l3.length c3) l3) := ⟨h3_⟩
                 replace HO_358000 : Aside0 (Kd.V (Kd.int .i64) 2 w54 w.heap.size (fun k_ => ((P0_0_ k_ ∨ P3_ k_) ∨ w.heap.size ≤ k_) ∧ some k_ ≠ (v376 : Value).ownBlock ∧ k_ ≠ gb357 ∧ k_ ≠ gb358 ∧ k_ ≠ gb359 ∧ k_ ≠ gb360 ∧ k_ ≠ gb363) (.slice A0_0 l0_0.length c0_0) l0_0) := ⟨h4_⟩
                 replace BK357 : Aside0 (w54.heap[gb357]? = some (.cells #[.slice A0_0 l0_0.length c0_0, .int .i64 a0_1, .int .i64 a0_2] 25 (0, 0))) := ⟨h5_⟩
                 replace BK358 : Aside0 (w54.heap[gb358]? = some (.cells #[.int .i64 a1] 2 (0, 0))) := ⟨h6_⟩
                 replace BK359 : Aside0 (w54.heap[gb359]? = some (.cells #[.int .i64 a2] 2 (0, 0))) := ⟨h7_⟩
                 replace BK360 : Aside0 (w54.heap[gb360]? = some (.cells #[.slice none 0 0, .int .i64 0, .int .i64 0, .slice none 0 0, .int .i64 0] 29 (0, 0))) := ⟨h8_⟩
                 replace BK363 : Aside0 (w54.heap[gb363]? = some (.cells #[.int .i64 (wrap64 (t362 - (wrap64 (a2 - a1))))] 2 (0, 0))) := ⟨h9_⟩
                 replace HB : Aside0 (Below w.heap.size w w54) := ⟨h10_⟩
                 clear h0_ h1_ h2_ h3_ h4_ h5_ h6_ h7_ h8_ h9_ h10_
                 have hHeld : w54.cell? ⟨gb357, 0, none⟩ = some (.slice A0_0 l0_0.length c0_0) ∧ w54.cell? ⟨gb357, 1, none⟩ = some (.int .i64 a0_1) ∧ w54.cell? ⟨gb357, 2, none⟩ = some (.int .i64 a0_2) ∧ w54.cell? ⟨gb358, 0, none⟩ = some (.int .i64 a1) ∧ w54.cell? ⟨gb359, 0, none⟩ = some (.int .i64 a2) := hS_
                 obtain ⟨Ao55, co55, eo55⟩ := Kd.N_slice HO377.out
                 (first | subst eo55 | (injection eo55 with f1_ f2_ f3_; have f4_ := f1_.symm; have f5_ := f3_.symm; clear f1_ f2_ f3_; subst f4_; subst f5_))
                 refine norm_ (a' := ?_) ?_ ?_
                 rotate_left
                 ·simp only [putAll, Act.put, sa_, s0_, ss_]
                  rfl
                 refine two_ (i := 10) (j := 20) (Ni := some 51) (Nj := some 11) b45_38 b45_39 rfl rfl rfl rfl (two_of HT_.out (by kernel_rfl)) (by decide) (by decide) (fun K hK => ?_) (fun K hK => ?_)
                 ·skip
                  refine goes_ Try.func74 (by kernel_rfl) rfl #[.slice Ao55 y375.length co55] (by rfl) rfl rfl (by (try simp only [List.map_toArray, List.map_cons, List.map_nil]); first | done | rfl | (simp only [List.length_drop, List.length_take]; rfl)) ?_
                  with_reducible refine (slices_Concat_sint64_int64.calls kj4 _ _ y375 t378 _ ?side1 ?side2 A39.out).mono ?_
                  (case side1 => repeat (first | exact (Kd.N_reads' HO377.out).2.2 | (with_reducible refine Kd.C_alloc ?_ _) | (with_reducible refine Kd.C_drewN ?_ _) | (with_reducible refine Kd.C_drew ?_)))
                  (case side2 => exact (Kd.N_reads' HO377.out).2.1)
                  rintro e w56 ⟨v379, rfl, ho0, hb⟩
                  refine ⟨_, rfl, ?_⟩
                  replace HO_3 := am (Kd.V_elder' (kv HO_3.out) (Kd.R_base ho0) hb)
                  replace HO_358000 := am (Kd.V_elder' (kv HO_358000.out) (Kd.R_base ho0) hb)
                  replace HO369 := am (Kd.V_elder' (kv HO369.out) (Kd.R_base ho0) hb)
                  replace HO374 := am (Kd.V_elder' (kv HO374.out) (Kd.R_base ho0) hb)
                  replace HO377 := am (Kd.N_elder' (kn HO377.out) (Kd.R_base ho0) hb)
                  have HO380 := am (Kd.R_lower (Kd.R_newB (Kd.R_newB (Kd.R_newB (Kd.R_newM (M := fun k_ => (w.heap.size ≤ k_)) ho0 (below_size (bl HB.out)) (fun k_ h_ => h_)) (g := gb358) (o := .cells #[.int .i64 a1] 2 (0, 0)) (pk BK358.out)) (g := gb359) (o := .cells #[.int .i64 a2] 2 (0, 0)) (pk BK359.out)) (g := gb363) (o := .cells #[.int .i64 (wrap64 (t362 - (wrap64 (a2 - a1))))] 2 (0, 0)) (pk BK363.out)) (below_size (bl HB.out)))
                  replace BK357 := am (blk_below (pk BK357.out) hb)
                  replace BK358 := am (blk_below (pk BK358.out) hb)
                  replace BK359 := am (blk_below (pk BK359.out) hb)
                  replace BK360 := am (blk_below (pk BK360.out) hb)
                  replace BK363 := am (blk_below (pk BK363.out) hb)
                  replace HB := am (below_step (bl HB.out) hb)
                  (try clear hb)
                  (try clear hb2)
                  (try clear hk)
                  (try clear hi)
                  (try clear ho0)
                  refine hK.out _ _ ⟨bc BK357.out 0, bc BK357.out 1, bc BK357.out 2, bc BK358.out 0, bc BK359.out 0⟩ (fun hHeld => ?_)
                  clear hK K
                  refine norm_ (a' := ?_) ?_ ?_
                  rotate_left
                  ·show Act.put _ (some 51) _ = _
                   simp only [Act.put, sa_, s0_, ss_, i64_w, i32_w]
                   rfl
                  exact norm_ (by first | (simp only [putAll, Act.put, sa_, s0_, ss_]; done) | (simp only [putAll, Act.put, sa_, s0_, ss_]; rfl)) (hJ9_10 (.slice Ao55 y375.length co55, v379) _ ⟨hHeld, (kv (Kd.V_mono HO369.out (fun _ hk => ⟨hk.1.1, ⟨hk.1.2.1, ⟨hk.2, ⟨hk.1.2.2.1, ⟨hk.1.2.2.2.1, ⟨hk.1.2.2.2.2.1, ⟨hk.1.2.2.2.2.2.1, hk.1.2.2.2.2.2.2⟩⟩⟩⟩⟩⟩⟩))), (kv (Kd.V_mono HO374.out (fun _ hk => ⟨hk.1.1, ⟨hk.1.2.1, ⟨hk.2, ⟨hk.1.2.2.1, ⟨hk.1.2.2.2.1, ⟨hk.1.2.2.2.2.1, ⟨hk.1.2.2.2.2.2.1, hk.1.2.2.2.2.2.2⟩⟩⟩⟩⟩⟩⟩))), (kn (Kd.N_mono HO377.out (fun _ hk => ⟨hk.1.1, ⟨hk.2, ⟨hk.1.2.1, ⟨hk.1.2.2.1, ⟨hk.1.2.2.2.1, ⟨hk.1.2.2.2.2.1, hk.1.2.2.2.2.2⟩⟩⟩⟩⟩⟩))), (kr (Kd.R_mono HO380.out (fun _ hk => ⟨hk.1.1.1.1, ⟨hk.1.1.2, ⟨hk.1.2, hk.2⟩⟩⟩))), (kv (Kd.V_mono HO_3.out (fun _ hk => ⟨hk.1.1, ⟨hk.1.2.1, ⟨hk.2, ⟨hk.1.2.2.1, ⟨hk.1.2.2.2.1, ⟨hk.1.2.2.2.2.1, ⟨hk.1.2.2.2.2.2.1, hk.1.2.2.2.2.2.2⟩⟩⟩⟩⟩⟩⟩))), (kv (Kd.V_mono HO_358000.out (fun _ hk => ⟨hk.1.1, ⟨hk.1.2.1, ⟨hk.2, ⟨hk.1.2.2.1, ⟨hk.1.2.2.2.1, ⟨hk.1.2.2.2.2.1, ⟨hk.1.2.2.2.2.2.1, hk.1.2.2.2.2.2.2⟩⟩⟩⟩⟩⟩⟩))), (pk BK357.out), (pk BK358.out), (pk BK359.out), (pk BK360.out), (pk BK363.out), (bl HB.out)⟩)
                 ·skip
                  refine box_step ?hg (N := 11) ?hd (cs := #[.slice none 0 0, .int .i64 0, .int .i64 0]) (t := 25) ?hr ?_; (case hd => rfl); (case hg => rfl); (case hr => first | (go_simp; done) | (go_simp; rfl))
                  intro gb383 hg w55 hbox hb
                  replace HO_3 := am (Kd.V_below (Kd.V_elderB (kv HO_3.out) gb383 (Nat.le_of_eq hg.symm)) hb)
                  replace HO_358000 := am (Kd.V_below (Kd.V_elderB (kv HO_358000.out) gb383 (Nat.le_of_eq hg.symm)) hb)
                  replace HO369 := am (Kd.V_below (Kd.V_elderB (kv HO369.out) gb383 (Nat.le_of_eq hg.symm)) hb)
                  replace HO374 := am (Kd.V_below (Kd.V_elderB (kv HO374.out) gb383 (Nat.le_of_eq hg.symm)) hb)
                  replace HO377 := am (Kd.N_below (Kd.N_elderB (kn HO377.out) gb383 (Nat.le_of_eq hg.symm)) hb)
                  have BK383 := am (hbox)
                  have GW383 := am ((by rw [hg]; exact (below_size (bl HB.out)) : w.heap.size ≤ gb383))
                  have GE383 := GW383
                  replace HB := am (below_step (bl HB.out) hb)
                  have NB357_383 := am ((by rw [hg]; exact Nat.ne_of_lt (blk_lt (pk BK357.out)) : gb357 ≠ gb383))
                  have NB383_357 := am ((by rw [hg]; exact Nat.ne_of_gt (blk_lt (pk BK357.out)) : gb383 ≠ gb357))
                  replace BK357 := am (blk_below (pk BK357.out) hb)
                  have NB358_383 := am ((by rw [hg]; exact Nat.ne_of_lt (blk_lt (pk BK358.out)) : gb358 ≠ gb383))
                  have NB383_358 := am ((by rw [hg]; exact Nat.ne_of_gt (blk_lt (pk BK358.out)) : gb383 ≠ gb358))
                  replace BK358 := am (blk_below (pk BK358.out) hb)
                  have NB359_383 := am ((by rw [hg]; exact Nat.ne_of_lt (blk_lt (pk BK359.out)) : gb359 ≠ gb383))
                  have NB383_359 := am ((by rw [hg]; exact Nat.ne_of_gt (blk_lt (pk BK359.out)) : gb383 ≠ gb359))
                  replace BK359 := am (blk_below (pk BK359.out) hb)
                  have NB360_383 := am ((by rw [hg]; exact Nat.ne_of_lt (blk_lt (pk BK360.out)) : gb360 ≠ gb383))
                  have NB383_360 := am ((by rw [hg]; exact Nat.ne_of_gt (blk_lt (pk BK360.out)) : gb383 ≠ gb360))
                  replace BK360 := am (blk_below (pk BK360.out) hb)
                  have NB363_383 := am ((by rw [hg]; exact Nat.ne_of_lt (blk_lt (pk BK363.out)) : gb363 ≠ gb383))
                  have NB383_363 := am ((by rw [hg]; exact Nat.ne_of_gt (blk_lt (pk BK363.out)) : gb383 ≠ gb363))
                  replace BK363 := am (blk_below (pk BK363.out) hb)
                  clear hb hbox hg
                  refine hK.out _ _ ⟨bc BK357.out 0, bc BK357.out 1, bc BK357.out 2, bc BK358.out 0, bc BK359.out 0⟩ (fun hHeld => ?_)
                  clear hK K
                  refine norm_ (a' := ?_) ?_ ?_
                  rotate_left
                  ·show Act.put _ (some 11) _ = _
                   simp only [Act.put, sa_, s0_, ss_, i64_w, i32_w]
                   rfl
                  exact norm_ (by first | (simp only [putAll, Act.put, sa_, s0_, ss_]; done) | (simp only [putAll, Act.put, sa_, s0_, ss_]; rfl)) (hJ9_20 (.slice Ao55 y375.length co55, gb383) _ ⟨hHeld, (kv (Kd.V_mono HO369.out (fun _ hk => ⟨hk.1.1, ⟨hk.1.2.1, ⟨hk.1.2.2.1, ⟨hk.1.2.2.2.1, ⟨hk.1.2.2.2.2.1, ⟨hk.1.2.2.2.2.2.1, ⟨hk.1.2.2.2.2.2.2, hk.2⟩⟩⟩⟩⟩⟩⟩))), (kv (Kd.V_mono HO374.out (fun _ hk => ⟨hk.1.1, ⟨hk.1.2.1, ⟨hk.1.2.2.1, ⟨hk.1.2.2.2.1, ⟨hk.1.2.2.2.2.1, ⟨hk.1.2.2.2.2.2.1, ⟨hk.1.2.2.2.2.2.2, hk.2⟩⟩⟩⟩⟩⟩⟩))), (kn (Kd.N_mono HO377.out (fun _ hk => ⟨hk.1.1, ⟨hk.1.2.1, ⟨hk.1.2.2.1, ⟨hk.1.2.2.2.1, ⟨hk.1.2.2.2.2.1, ⟨hk.1.2.2.2.2.2, hk.2⟩⟩⟩⟩⟩⟩))), (kv (Kd.V_mono HO_3.out (fun _ hk => ⟨hk.1.1, ⟨hk.1.2.1, ⟨hk.1.2.2.1, ⟨hk.1.2.2.2.1, ⟨hk.1.2.2.2.2.1, ⟨hk.1.2.2.2.2.2.1, ⟨hk.1.2.2.2.2.2.2, hk.2⟩⟩⟩⟩⟩⟩⟩))), (kv (Kd.V_mono HO_358000.out (fun _ hk => ⟨hk.1.1, ⟨hk.1.2.1, ⟨hk.1.2.2.1, ⟨hk.1.2.2.2.1, ⟨hk.1.2.2.2.2.1, ⟨hk.1.2.2.2.2.2.1, ⟨hk.1.2.2.2.2.2.2, hk.2⟩⟩⟩⟩⟩⟩⟩))), (pk BK357.out), (pk BK358.out), (pk BK359.out), (pk BK360.out), (pk BK363.out), (pk BK383.out), GW383.out, GE383.out, NB357_383.out, NB383_357.out, NB358_383.out, NB383_358.out, NB359_383.out, NB383_359.out, NB360_383.out, NB383_360.out, NB363_383.out, NB383_363.out, (bl HB.out)⟩)
               ·skip
                rintro ⟨v376, gb383⟩ w55 ⟨hS_, h0_, h1_, h2_, h3_, h4_, h5_, h6_, h7_, h8_, h9_, h10_, h11_, h12_, h13_, h14_, h15_, h16_, h17_, h18_, h19_, h20_, h21_, h22_, h23_⟩
                have HO369 : Aside0 (Kd.V (Kd.int .i64) 2 w55 w.heap.size (fun k_ => ((P0_0_ k_ ∨ P3_ k_) ∨ w.heap.size ≤ k_) ∧ some k_ ≠ (v376 : Value).ownBlock ∧ k_ ≠ gb357 ∧ k_ ≠ gb358 ∧ k_ ≠ gb359 ∧ k_ ≠ gb360 ∧ k_ ≠ gb363 ∧ k_ ≠ gb383) (.slice A0_0 y365.length c0_0) y365) := ⟨h0_⟩
                have HO374 : Aside0 (Kd.V (Kd.int .i64) 2 w55 w.heap.size (fun k_ => ((P0_0_ k_ ∨ P3_ k_) ∨ w.heap.size ≤ k_) ∧ some k_ ≠ (v376 : Value).ownBlock ∧ k_ ≠ gb357 ∧ k_ ≠ gb358 ∧ k_ ≠ gb359 ∧ k_ ≠ gb360 ∧ k_ ≠ gb363 ∧ k_ ≠ gb383) (.slice A51 y370.length c51) y370) := ⟨h1_⟩
                have HO377 : Aside0 (Kd.N (Kd.slice 2 (Kd.int .i64)) 23 w55 w.heap.size (fun k_ => ((P0_0_ k_ ∨ P3_ k_) ∨ w.heap.size ≤ k_) ∧ k_ ≠ gb357 ∧ k_ ≠ gb358 ∧ k_ ≠ gb359 ∧ k_ ≠ gb360 ∧ k_ ≠ gb363 ∧ k_ ≠ gb383) v376 y375) := ⟨h2_⟩
                replace HO_3 : Aside0 (Kd.V (Kd.int .i64) 2 w55 w.heap.size (fun k_ => ((P0_0_ k_ ∨ P3_ k_) ∨ w.heap.size ≤ k_) ∧ some k_ ≠ (v376 : Value).ownBlock ∧ k_ ≠ gb357 ∧ k_ ≠ gb358 ∧ k_ ≠ gb359 ∧ k_ ≠ gb360 ∧ k_ ≠ gb363 ∧ k_ ≠ gb383) (.slice A3 l3.length c3) l3) := ⟨h3_⟩
                replace HO_358000 : Aside0 (Kd.V (Kd.int .i64) 2 w55 w.heap.size (fun k_ => ((P0_0_ k_ ∨ P3_ k_) ∨ w.heap.size ≤ k_) ∧ some k_ ≠ (v376 : Value).ownBlock ∧ k_ ≠ gb357 ∧ k_ ≠ gb358 ∧ k_ ≠ gb359 ∧ k_ ≠ gb360 ∧ k_ ≠ gb363 ∧ k_ ≠ gb383) (.slice A0_0 l0_0.length c0_0) l0_0) := ⟨h4_⟩
                replace BK357 : Aside0 (w55.heap[gb357]? = some (.cells #[.slice A0_0 l0_0.length c0_0, .int .i64 a0_1, .int .i64 a0_2] 25 (0, 0))) := ⟨h5_⟩
                replace BK358 : Aside0 (w55.heap[gb358]? = some (.cells #[.int .i64 a1] 2 (0, 0))) := ⟨h6_⟩
                replace BK359 : Aside0 (w55.heap[gb359]? = some (.cells #[.int .i64 a2] 2 (0, 0))) := ⟨h7_⟩
                replace BK360 : Aside0 (w55.heap[gb360]? = some (.cells #[.slice none 0 0, .int .i64 0, .int .i64 0, .slice none 0 0, .int .i64 0] 29 (0, 0))) := ⟨h8_⟩
                replace BK363 : Aside0 (w55.heap[gb363]? = some (.cells #[.int .i64 (wrap64 (t362 - (wrap64 (a2 - a1))))] 2 (0, 0))) := ⟨h9_⟩
                have BK383 : Aside0 (w55.heap[gb383]? = some (.cells #[.slice none 0 0, .int .i64 0, .int .i64 0] 25 (0, 0))) := ⟨h10_⟩
                have GW383 : Aside0 (w.heap.size ≤ gb383) := ⟨h11_⟩
                have GE383 : Aside0 (w.heap.size ≤ gb383) := ⟨h12_⟩
                have NB357_383 : Aside0 (gb357 ≠ gb383) := ⟨h13_⟩
                have NB383_357 : Aside0 (gb383 ≠ gb357) := ⟨h14_⟩
                have NB358_383 : Aside0 (gb358 ≠ gb383) := ⟨h15_⟩
                have NB383_358 : Aside0 (gb383 ≠ gb358) := ⟨h16_⟩
                have NB359_383 : Aside0 (gb359 ≠ gb383) := ⟨h17_⟩
                have NB383_359 : Aside0 (gb383 ≠ gb359) := ⟨h18_⟩
                have NB360_383 : Aside0 (gb360 ≠ gb383) := ⟨h19_⟩
                have NB383_360 : Aside0 (gb383 ≠ gb360) := ⟨h20_⟩
                have NB363_383 : Aside0 (gb363 ≠ gb383) := ⟨h21_⟩
                have NB383_363 : Aside0 (gb383 ≠ gb363) := ⟨h22_⟩
                replace HB : Aside0 (Below w.heap.size w w55) := ⟨h23_⟩
                clear h0_ h1_ h2_ h3_ h4_ h5_ h6_ h7_ h8_ h9_ h10_ h11_ h12_ h13_ h14_ h15_ h16_ h17_ h18_ h19_ h20_ h21_ h22_ h23_
                have hHeld : w55.cell? ⟨gb357, 0, none⟩ = some (.slice A0_0 l0_0.length c0_0) ∧ w55.cell? ⟨gb357, 1, none⟩ = some (.int .i64 a0_1) ∧ w55.cell? ⟨gb357, 2, none⟩ = some (.int .i64 a0_2) ∧ w55.cell? ⟨gb358, 0, none⟩ = some (.int .i64 a1) ∧ w55.cell? ⟨gb359, 0, none⟩ = some (.int .i64 a2) := hS_
                obtain ⟨Ao56, co56, eo56⟩ := Kd.N_slice HO377.out
                (first | subst eo56 | (injection eo56 with f1_ f2_ f3_; have f4_ := f1_.symm; have f5_ := f3_.symm; clear f1_ f2_ f3_; subst f4_; subst f5_))
                refine norm_ (a' := ?_) ?_ ?_
                rotate_left
                ·simp only [putAll, Act.put, sa_, s0_, ss_]
                 rfl
                refine one_ (i := 10) (N := some 51) b45_37 rfl rfl (one_of HT_.out (by kernel_rfl)) (by decide) (fun K hK => ?_)
                refine goes_ Try.func74 (by kernel_rfl) rfl #[.slice Ao56 y375.length co56] (by rfl) rfl rfl (by (try simp only [List.map_toArray, List.map_cons, List.map_nil]); first | done | rfl | (simp only [List.length_drop, List.length_take]; rfl)) ?_
                with_reducible refine (slices_Concat_sint64_int64.calls kj4 _ _ y375 t378 _ ?side1 ?side2 A39.out).mono ?_
                (case side1 => repeat (first | exact (Kd.N_reads' HO377.out).2.2 | (with_reducible refine Kd.C_alloc ?_ _) | (with_reducible refine Kd.C_drewN ?_ _) | (with_reducible refine Kd.C_drew ?_)))
                (case side2 => exact (Kd.N_reads' HO377.out).2.1)
                rintro e w57 ⟨v379, rfl, ho0, hb⟩
                refine ⟨_, rfl, ?_⟩
                replace HO_3 := am (Kd.V_elder' (kv HO_3.out) (Kd.R_base ho0) hb)
                replace HO_358000 := am (Kd.V_elder' (kv HO_358000.out) (Kd.R_base ho0) hb)
                replace HO369 := am (Kd.V_elder' (kv HO369.out) (Kd.R_base ho0) hb)
                replace HO374 := am (Kd.V_elder' (kv HO374.out) (Kd.R_base ho0) hb)
                replace HO377 := am (Kd.N_elder' (kn HO377.out) (Kd.R_base ho0) hb)
                have HO380 := am (Kd.R_lower (Kd.R_newB (Kd.R_newB (Kd.R_newB (Kd.R_newM (M := fun k_ => (w.heap.size ≤ k_)) ho0 (below_size (bl HB.out)) (fun k_ h_ => h_)) (g := gb358) (o := .cells #[.int .i64 a1] 2 (0, 0)) (pk BK358.out)) (g := gb359) (o := .cells #[.int .i64 a2] 2 (0, 0)) (pk BK359.out)) (g := gb363) (o := .cells #[.int .i64 (wrap64 (t362 - (wrap64 (a2 - a1))))] 2 (0, 0)) (pk BK363.out)) (below_size (bl HB.out)))
                replace BK357 := am (blk_below (pk BK357.out) hb)
                replace BK358 := am (blk_below (pk BK358.out) hb)
                replace BK359 := am (blk_below (pk BK359.out) hb)
                replace BK360 := am (blk_below (pk BK360.out) hb)
                replace BK363 := am (blk_below (pk BK363.out) hb)
                replace BK383 := am (blk_below (pk BK383.out) hb)
                replace HB := am (below_step (bl HB.out) hb)
                (try clear hb)
                (try clear hb2)
                (try clear hk)
                (try clear hi)
                (try clear ho0)
                refine hK.out _ _ ⟨bc BK357.out 0, bc BK357.out 1, bc BK357.out 2, bc BK358.out 0, bc BK359.out 0⟩ (fun hHeld => ?_)
                clear hK K
                refine norm_ (a' := ?_) ?_ ?_
                rotate_left
                ·show Act.put _ (some 51) _ = _
                 simp only [Act.put, sa_, s0_, ss_, i64_w, i32_w]
                 rfl
                exact norm_ (by first | (simp only [putAll, Act.put, sa_, s0_, ss_]; done) | (simp only [putAll, Act.put, sa_, s0_, ss_]; rfl)) (hJ9_10_20 (.slice Ao56 y375.length co56, v379, gb383) _ ⟨hHeld, (kv (Kd.V_mono HO369.out (fun _ hk => ⟨hk.1.1, ⟨hk.1.2.1, ⟨hk.2, ⟨hk.1.2.2.1, ⟨hk.1.2.2.2.1, ⟨hk.1.2.2.2.2.1, ⟨hk.1.2.2.2.2.2.1, ⟨hk.1.2.2.2.2.2.2.1, hk.1.2.2.2.2.2.2.2⟩⟩⟩⟩⟩⟩⟩⟩))), (kv (Kd.V_mono HO374.out (fun _ hk => ⟨hk.1.1, ⟨hk.1.2.1, ⟨hk.2, ⟨hk.1.2.2.1, ⟨hk.1.2.2.2.1, ⟨hk.1.2.2.2.2.1, ⟨hk.1.2.2.2.2.2.1, ⟨hk.1.2.2.2.2.2.2.1, hk.1.2.2.2.2.2.2.2⟩⟩⟩⟩⟩⟩⟩⟩))), (kn (Kd.N_mono HO377.out (fun _ hk => ⟨hk.1.1, ⟨hk.2, ⟨hk.1.2.1, ⟨hk.1.2.2.1, ⟨hk.1.2.2.2.1, ⟨hk.1.2.2.2.2.1, ⟨hk.1.2.2.2.2.2.1, hk.1.2.2.2.2.2.2⟩⟩⟩⟩⟩⟩⟩))), (kr (Kd.R_mono HO380.out (fun _ hk => ⟨hk.1.1.1.1, ⟨hk.1.1.2, ⟨hk.1.2, hk.2⟩⟩⟩))), (kv (Kd.V_mono HO_3.out (fun _ hk => ⟨hk.1.1, ⟨hk.1.2.1, ⟨hk.2, ⟨hk.1.2.2.1, ⟨hk.1.2.2.2.1, ⟨hk.1.2.2.2.2.1, ⟨hk.1.2.2.2.2.2.1, ⟨hk.1.2.2.2.2.2.2.1, hk.1.2.2.2.2.2.2.2⟩⟩⟩⟩⟩⟩⟩⟩))), (kv (Kd.V_mono HO_358000.out (fun _ hk => ⟨hk.1.1, ⟨hk.1.2.1, ⟨hk.2, ⟨hk.1.2.2.1, ⟨hk.1.2.2.2.1, ⟨hk.1.2.2.2.2.1, ⟨hk.1.2.2.2.2.2.1, ⟨hk.1.2.2.2.2.2.2.1, hk.1.2.2.2.2.2.2.2⟩⟩⟩⟩⟩⟩⟩⟩))), (pk BK357.out), (pk BK358.out), (pk BK359.out), (pk BK360.out), (pk BK363.out), (pk BK383.out), GW383.out, GE383.out, NB357_383.out, NB383_357.out, NB358_383.out, NB383_358.out, NB359_383.out, NB383_359.out, NB360_383.out, NB383_360.out, NB363_383.out, NB383_363.out, (bl HB.out)⟩)
              ·skip
               rintro ⟨v376, v379⟩ w56 ⟨hS_, h0_, h1_, h2_, h3_, h4_, h5_, h6_, h7_, h8_, h9_, h10_, h11_⟩
               have HO369 : Aside0 (Kd.V (Kd.int .i64) 2 w56 w.heap.size (fun k_ => ((P0_0_ k_ ∨ P3_ k_) ∨ w.heap.size ≤ k_) ∧ some k_ ≠ (v376 : Value).ownBlock ∧ some k_ ≠ (v379 : Value).ownBlock ∧ k_ ≠ gb357 ∧ k_ ≠ gb358 ∧ k_ ≠ gb359 ∧ k_ ≠ gb360 ∧ k_ ≠ gb363) (.slice A0_0 y365.length c0_0) y365) := ⟨h0_⟩
               have HO374 : Aside0 (Kd.V (Kd.int .i64) 2 w56 w.heap.size (fun k_ => ((P0_0_ k_ ∨ P3_ k_) ∨ w.heap.size ≤ k_) ∧ some k_ ≠ (v376 : Value).ownBlock ∧ some k_ ≠ (v379 : Value).ownBlock ∧ k_ ≠ gb357 ∧ k_ ≠ gb358 ∧ k_ ≠ gb359 ∧ k_ ≠ gb360 ∧ k_ ≠ gb363) (.slice A51 y370.length c51) y370) := ⟨h1_⟩
               have HO377 : Aside0 (Kd.N (Kd.slice 2 (Kd.int .i64)) 23 w56 w.heap.size (fun k_ => ((P0_0_ k_ ∨ P3_ k_) ∨ w.heap.size ≤ k_) ∧ some k_ ≠ (v379 : Value).ownBlock ∧ k_ ≠ gb357 ∧ k_ ≠ gb358 ∧ k_ ≠ gb359 ∧ k_ ≠ gb360 ∧ k_ ≠ gb363) v376 y375) := ⟨h2_⟩
               have HO380 : Aside0 (Kd.R (Kd.int .i64) 2 w56 w.heap.size (fun k_ => (w.heap.size ≤ k_) ∧ k_ ≠ gb358 ∧ k_ ≠ gb359 ∧ k_ ≠ gb363) v379 t378) := ⟨h3_⟩
               replace HO_3 : Aside0 (Kd.V (Kd.int .i64) 2 w56 w.heap.size (fun k_ => ((P0_0_ k_ ∨ P3_ k_) ∨ w.heap.size ≤ k_) ∧ some k_ ≠ (v376 : Value).ownBlock ∧ some k_ ≠ (v379 : Value).ownBlock ∧ k_ ≠ gb357 ∧ k_ ≠ gb358 ∧ k_ ≠ gb359 ∧ k_ ≠ gb360 ∧ k_ ≠ gb363) (.slice A3 l3.length c3) l3) := ⟨h4_⟩
               replace HO_358000 : Aside0 (Kd.V (Kd.int .i64) 2 w56 w.heap.size (fun k_ => ((P0_0_ k_ ∨ P3_ k_) ∨ w.heap.size ≤ k_) ∧ some k_ ≠ (v376 : Value).ownBlock ∧ some k_ ≠ (v379 : Value).ownBlock ∧ k_ ≠ gb357 ∧ k_ ≠ gb358 ∧ k_ ≠ gb359 ∧ k_ ≠ gb360 ∧ k_ ≠ gb363) (.slice A0_0 l0_0.length c0_0) l0_0) := ⟨h5_⟩
               replace BK357 : Aside0 (w56.heap[gb357]? = some (.cells #[.slice A0_0 l0_0.length c0_0, .int .i64 a0_1, .int .i64 a0_2] 25 (0, 0))) := ⟨h6_⟩
               replace BK358 : Aside0 (w56.heap[gb358]? = some (.cells #[.int .i64 a1] 2 (0, 0))) := ⟨h7_⟩
               replace BK359 : Aside0 (w56.heap[gb359]? = some (.cells #[.int .i64 a2] 2 (0, 0))) := ⟨h8_⟩
               replace BK360 : Aside0 (w56.heap[gb360]? = some (.cells #[.slice none 0 0, .int .i64 0, .int .i64 0, .slice none 0 0, .int .i64 0] 29 (0, 0))) := ⟨h9_⟩
               replace BK363 : Aside0 (w56.heap[gb363]? = some (.cells #[.int .i64 (wrap64 (t362 - (wrap64 (a2 - a1))))] 2 (0, 0))) := ⟨h10_⟩
               replace HB : Aside0 (Below w.heap.size w w56) := ⟨h11_⟩
               clear h0_ h1_ h2_ h3_ h4_ h5_ h6_ h7_ h8_ h9_ h10_ h11_
               have hHeld : w56.cell? ⟨gb357, 0, none⟩ = some (.slice A0_0 l0_0.length c0_0) ∧ w56.cell? ⟨gb357, 1, none⟩ = some (.int .i64 a0_1) ∧ w56.cell? ⟨gb357, 2, none⟩ = some (.int .i64 a0_2) ∧ w56.cell? ⟨gb358, 0, none⟩ = some (.int .i64 a1) ∧ w56.cell? ⟨gb359, 0, none⟩ = some (.int .i64 a2) := hS_
               refine norm_ (a' := ?_) ?_ ?_
               rotate_left
               ·simp only [putAll, Act.put, sa_, s0_, ss_]
                rfl
               refine two_ (i := 14) (j := 20) (Ni := some 55) (Nj := some 11) b45_36 b45_37 rfl rfl rfl rfl (two_of HT_.out (by kernel_rfl)) (by decide) (by decide) (fun K hK => ?_) (fun K hK => ?_)
               ·skip
                refine goesC_ Try.func73 (by kernel_rfl) rfl #[.int .i64 a0_1, .pointer (some ⟨gb358, 0, none⟩), .pointer (some ⟨gb359, 0, none⟩), .pointer (some ⟨gb363, 0, none⟩)] (by rfl) rfl rfl rfl (by simp; rfl) ?_
                with_reducible refine (impl_replace_1.calls a0_1 _ a1 _ a2 _ (wrap64 (t362 - (wrap64 (a2 - a1)))) t381 _ ?side1 ?side2 ?side3 A40.out).mono ?_
                (case side1 => exact AtP.of_blk (cs := #[.int .i64 a1]) (t := 2) (pk BK358.out))
                (case side2 => exact AtP.of_blk (cs := #[.int .i64 a2]) (t := 2) (pk BK359.out))
                (case side3 => exact AtP.of_blk (cs := #[.int .i64 (wrap64 (t362 - (wrap64 (a2 - a1))))]) (t := 2) (pk BK363.out))
                rintro e w' ⟨rfl, ⟨nd, rfl⟩⟩
                refine ⟨_, rfl, ?_⟩
                refine hK.out _ _ ⟨bc BK357.out 0, bc BK357.out 1, bc BK357.out 2, bc BK358.out 0, bc BK359.out 0⟩ (fun hHeld => ?_)
                clear hK K
                refine norm_ (a' := ?_) ?_ ?_
                rotate_left
                ·show Act.put _ (some 55) _ = _
                 simp only [Act.put, sa_, s0_, ss_, i64_w, i32_w]
                 rfl
                exact norm_ (by first | (simp only [putAll, Act.put, sa_, s0_, ss_]; done) | (simp only [putAll, Act.put, sa_, s0_, ss_]; rfl)) (hJ9_10_14 (v376, v379) _ ⟨hHeld, (kv HO369.out), (kv HO374.out), (kn HO377.out), (kr HO380.out), (kv HO_3.out), (kv HO_358000.out), (pk BK357.out), (pk BK358.out), (pk BK359.out), (pk BK360.out), (pk BK363.out), (bl HB.out)⟩)
               ·skip
                refine box_step ?hg (N := 11) ?hd (cs := #[.slice none 0 0, .int .i64 0, .int .i64 0]) (t := 25) ?hr ?_; (case hd => rfl); (case hg => rfl); (case hr => first | (go_simp; done) | (go_simp; rfl))
                intro gb383 hg w57 hbox hb
                replace HO_3 := am (Kd.V_below (Kd.V_elderB (kv HO_3.out) gb383 (Nat.le_of_eq hg.symm)) hb)
                replace HO_358000 := am (Kd.V_below (Kd.V_elderB (kv HO_358000.out) gb383 (Nat.le_of_eq hg.symm)) hb)
                replace HO369 := am (Kd.V_below (Kd.V_elderB (kv HO369.out) gb383 (Nat.le_of_eq hg.symm)) hb)
                replace HO374 := am (Kd.V_below (Kd.V_elderB (kv HO374.out) gb383 (Nat.le_of_eq hg.symm)) hb)
                replace HO377 := am (Kd.N_below (Kd.N_elderB (kn HO377.out) gb383 (Nat.le_of_eq hg.symm)) hb)
                replace HO380 := am (Kd.R_below (kr HO380.out) hb)
                have BK383 := am (hbox)
                have GW383 := am ((by rw [hg]; exact (below_size (bl HB.out)) : w.heap.size ≤ gb383))
                have GE383 := GW383
                replace HB := am (below_step (bl HB.out) hb)
                have NB357_383 := am ((by rw [hg]; exact Nat.ne_of_lt (blk_lt (pk BK357.out)) : gb357 ≠ gb383))
                have NB383_357 := am ((by rw [hg]; exact Nat.ne_of_gt (blk_lt (pk BK357.out)) : gb383 ≠ gb357))
                replace BK357 := am (blk_below (pk BK357.out) hb)
                have NB358_383 := am ((by rw [hg]; exact Nat.ne_of_lt (blk_lt (pk BK358.out)) : gb358 ≠ gb383))
                have NB383_358 := am ((by rw [hg]; exact Nat.ne_of_gt (blk_lt (pk BK358.out)) : gb383 ≠ gb358))
                replace BK358 := am (blk_below (pk BK358.out) hb)
                have NB359_383 := am ((by rw [hg]; exact Nat.ne_of_lt (blk_lt (pk BK359.out)) : gb359 ≠ gb383))
                have NB383_359 := am ((by rw [hg]; exact Nat.ne_of_gt (blk_lt (pk BK359.out)) : gb383 ≠ gb359))
                replace BK359 := am (blk_below (pk BK359.out) hb)
                have NB360_383 := am ((by rw [hg]; exact Nat.ne_of_lt (blk_lt (pk BK360.out)) : gb360 ≠ gb383))
                have NB383_360 := am ((by rw [hg]; exact Nat.ne_of_gt (blk_lt (pk BK360.out)) : gb383 ≠ gb360))
                replace BK360 := am (blk_below (pk BK360.out) hb)
                have NB363_383 := am ((by rw [hg]; exact Nat.ne_of_lt (blk_lt (pk BK363.out)) : gb363 ≠ gb383))
                have NB383_363 := am ((by rw [hg]; exact Nat.ne_of_gt (blk_lt (pk BK363.out)) : gb383 ≠ gb363))
                replace BK363 := am (blk_below (pk BK363.out) hb)
                clear hb hbox hg
                refine hK.out _ _ ⟨bc BK357.out 0, bc BK357.out 1, bc BK357.out 2, bc BK358.out 0, bc BK359.out 0⟩ (fun hHeld => ?_)
                clear hK K
                refine norm_ (a' := ?_) ?_ ?_
                rotate_left
                ·show Act.put _ (some 11) _ = _
                 simp only [Act.put, sa_, s0_, ss_, i64_w, i32_w]
                 rfl
                exact norm_ (by first | (simp only [putAll, Act.put, sa_, s0_, ss_]; done) | (simp only [putAll, Act.put, sa_, s0_, ss_]; rfl)) (hJ9_10_20 (v376, v379, gb383) _ ⟨hHeld, (kv (Kd.V_mono HO369.out (fun _ hk => ⟨hk.1.1, ⟨hk.1.2.1, ⟨hk.1.2.2.1, ⟨hk.1.2.2.2.1, ⟨hk.1.2.2.2.2.1, ⟨hk.1.2.2.2.2.2.1, ⟨hk.1.2.2.2.2.2.2.1, ⟨hk.1.2.2.2.2.2.2.2, hk.2⟩⟩⟩⟩⟩⟩⟩⟩))), (kv (Kd.V_mono HO374.out (fun _ hk => ⟨hk.1.1, ⟨hk.1.2.1, ⟨hk.1.2.2.1, ⟨hk.1.2.2.2.1, ⟨hk.1.2.2.2.2.1, ⟨hk.1.2.2.2.2.2.1, ⟨hk.1.2.2.2.2.2.2.1, ⟨hk.1.2.2.2.2.2.2.2, hk.2⟩⟩⟩⟩⟩⟩⟩⟩))), (kn (Kd.N_mono HO377.out (fun _ hk => ⟨hk.1.1, ⟨hk.1.2.1, ⟨hk.1.2.2.1, ⟨hk.1.2.2.2.1, ⟨hk.1.2.2.2.2.1, ⟨hk.1.2.2.2.2.2.1, ⟨hk.1.2.2.2.2.2.2, hk.2⟩⟩⟩⟩⟩⟩⟩))), (kr HO380.out), (kv (Kd.V_mono HO_3.out (fun _ hk => ⟨hk.1.1, ⟨hk.1.2.1, ⟨hk.1.2.2.1, ⟨hk.1.2.2.2.1, ⟨hk.1.2.2.2.2.1, ⟨hk.1.2.2.2.2.2.1, ⟨hk.1.2.2.2.2.2.2.1, ⟨hk.1.2.2.2.2.2.2.2, hk.2⟩⟩⟩⟩⟩⟩⟩⟩))), (kv (Kd.V_mono HO_358000.out (fun _ hk => ⟨hk.1.1, ⟨hk.1.2.1, ⟨hk.1.2.2.1, ⟨hk.1.2.2.2.1, ⟨hk.1.2.2.2.2.1, ⟨hk.1.2.2.2.2.2.1, ⟨hk.1.2.2.2.2.2.2.1, ⟨hk.1.2.2.2.2.2.2.2, hk.2⟩⟩⟩⟩⟩⟩⟩⟩))), (pk BK357.out), (pk BK358.out), (pk BK359.out), (pk BK360.out), (pk BK363.out), (pk BK383.out), GW383.out, GE383.out, NB357_383.out, NB383_357.out, NB358_383.out, NB383_358.out, NB359_383.out, NB383_359.out, NB360_383.out, NB383_360.out, NB363_383.out, NB383_363.out, (bl HB.out)⟩)
             ·skip
              rintro ⟨v376, v379, gb383⟩ w57 ⟨hS_, h0_, h1_, h2_, h3_, h4_, h5_, h6_, h7_, h8_, h9_, h10_, h11_, h12_, h13_, h14_, h15_, h16_, h17_, h18_, h19_, h20_, h21_, h22_, h23_, h24_⟩
              have HO369 : Aside0 (Kd.V (Kd.int .i64) 2 w57 w.heap.size (fun k_ => ((P0_0_ k_ ∨ P3_ k_) ∨ w.heap.size ≤ k_) ∧ some k_ ≠ (v376 : Value).ownBlock ∧ some k_ ≠ (v379 : Value).ownBlock ∧ k_ ≠ gb357 ∧ k_ ≠ gb358 ∧ k_ ≠ gb359 ∧ k_ ≠ gb360 ∧ k_ ≠ gb363 ∧ k_ ≠ gb383) (.slice A0_0 y365.length c0_0) y365) := ⟨h0_⟩
              have HO374 : Aside0 (Kd.V (Kd.int .i64) 2 w57 w.heap.size (fun k_ => ((P0_0_ k_ ∨ P3_ k_) ∨ w.heap.size ≤ k_) ∧ some k_ ≠ (v376 : Value).ownBlock ∧ some k_ ≠ (v379 : Value).ownBlock ∧ k_ ≠ gb357 ∧ k_ ≠ gb358 ∧ k_ ≠ gb359 ∧ k_ ≠ gb360 ∧ k_ ≠ gb363 ∧ k_ ≠ gb383) (.slice A51 y370.length c51) y370) := ⟨h1_⟩
              have HO377 : Aside0 (Kd.N (Kd.slice 2 (Kd.int .i64)) 23 w57 w.heap.size (fun k_ => ((P0_0_ k_ ∨ P3_ k_) ∨ w.heap.size ≤ k_) ∧ some k_ ≠ (v379 : Value).ownBlock ∧ k_ ≠ gb357 ∧ k_ ≠ gb358 ∧ k_ ≠ gb359 ∧ k_ ≠ gb360 ∧ k_ ≠ gb363 ∧ k_ ≠ gb383) v376 y375) := ⟨h2_⟩
              have HO380 : Aside0 (Kd.R (Kd.int .i64) 2 w57 w.heap.size (fun k_ => (w.heap.size ≤ k_) ∧ k_ ≠ gb358 ∧ k_ ≠ gb359 ∧ k_ ≠ gb363) v379 t378) := ⟨h3_⟩
              replace HO_3 : Aside0 (Kd.V (Kd.int .i64) 2 w57 w.heap.size (fun k_ => ((P0_0_ k_ ∨ P3_ k_) ∨ w.heap.size ≤ k_) ∧ some k_ ≠ (v376 : Value).ownBlock ∧ some k_ ≠ (v379 : Value).ownBlock ∧ k_ ≠ gb357 ∧ k_ ≠ gb358 ∧ k_ ≠ gb359 ∧ k_ ≠ gb360 ∧ k_ ≠ gb363 ∧ k_ ≠ gb383) (.slice A3 l3.length c3) l3) := ⟨h4_⟩
              replace HO_358000 : Aside0 (Kd.V (Kd.int .i64) 2 w57 w.heap.size (fun k_ => ((P0_0_ k_ ∨ P3_ k_) ∨ w.heap.size ≤ k_) ∧ some k_ ≠ (v376 : Value).ownBlock ∧ some k_ ≠ (v379 : Value).ownBlock ∧ k_ ≠ gb357 ∧ k_ ≠ gb358 ∧ k_ ≠ gb359 ∧ k_ ≠ gb360 ∧ k_ ≠ gb363 ∧ k_ ≠ gb383) (.slice A0_0 l0_0.length c0_0) l0_0) := ⟨h5_⟩
              replace BK357 : Aside0 (w57.heap[gb357]? = some (.cells #[.slice A0_0 l0_0.length c0_0, .int .i64 a0_1, .int .i64 a0_2] 25 (0, 0))) := ⟨h6_⟩
              replace BK358 : Aside0 (w57.heap[gb358]? = some (.cells #[.int .i64 a1] 2 (0, 0))) := ⟨h7_⟩
              replace BK359 : Aside0 (w57.heap[gb359]? = some (.cells #[.int .i64 a2] 2 (0, 0))) := ⟨h8_⟩
              replace BK360 : Aside0 (w57.heap[gb360]? = some (.cells #[.slice none 0 0, .int .i64 0, .int .i64 0, .slice none 0 0, .int .i64 0] 29 (0, 0))) := ⟨h9_⟩
              replace BK363 : Aside0 (w57.heap[gb363]? = some (.cells #[.int .i64 (wrap64 (t362 - (wrap64 (a2 - a1))))] 2 (0, 0))) := ⟨h10_⟩
              have BK383 : Aside0 (w57.heap[gb383]? = some (.cells #[.slice none 0 0, .int .i64 0, .int .i64 0] 25 (0, 0))) := ⟨h11_⟩
              have GW383 : Aside0 (w.heap.size ≤ gb383) := ⟨h12_⟩
              have GE383 : Aside0 (w.heap.size ≤ gb383) := ⟨h13_⟩
              have NB357_383 : Aside0 (gb357 ≠ gb383) := ⟨h14_⟩
              have NB383_357 : Aside0 (gb383 ≠ gb357) := ⟨h15_⟩
              have NB358_383 : Aside0 (gb358 ≠ gb383) := ⟨h16_⟩
              have NB383_358 : Aside0 (gb383 ≠ gb358) := ⟨h17_⟩
              have NB359_383 : Aside0 (gb359 ≠ gb383) := ⟨h18_⟩
              have NB383_359 : Aside0 (gb383 ≠ gb359) := ⟨h19_⟩
              have NB360_383 : Aside0 (gb360 ≠ gb383) := ⟨h20_⟩
              have NB383_360 : Aside0 (gb383 ≠ gb360) := ⟨h21_⟩
              have NB363_383 : Aside0 (gb363 ≠ gb383) := ⟨h22_⟩
              have NB383_363 : Aside0 (gb383 ≠ gb363) := ⟨h23_⟩
              replace HB : Aside0 (Below w.heap.size w w57) := ⟨h24_⟩
              clear h0_ h1_ h2_ h3_ h4_ h5_ h6_ h7_ h8_ h9_ h10_ h11_ h12_ h13_ h14_ h15_ h16_ h17_ h18_ h19_ h20_ h21_ h22_ h23_ h24_
              have hHeld : w57.cell? ⟨gb357, 0, none⟩ = some (.slice A0_0 l0_0.length c0_0) ∧ w57.cell? ⟨gb357, 1, none⟩ = some (.int .i64 a0_1) ∧ w57.cell? ⟨gb357, 2, none⟩ = some (.int .i64 a0_2) ∧ w57.cell? ⟨gb358, 0, none⟩ = some (.int .i64 a1) ∧ w57.cell? ⟨gb359, 0, none⟩ = some (.int .i64 a2) := hS_
              refine norm_ (a' := ?_) ?_ ?_
              rotate_left
              ·simp only [putAll, Act.put, sa_, s0_, ss_]
               rfl
              refine one_ (i := 14) (N := some 55) b45_35 rfl rfl (one_of HT_.out (by kernel_rfl)) (by decide) (fun K hK => ?_)
              refine goesC_ Try.func73 (by kernel_rfl) rfl #[.int .i64 a0_1, .pointer (some ⟨gb358, 0, none⟩), .pointer (some ⟨gb359, 0, none⟩), .pointer (some ⟨gb363, 0, none⟩)] (by rfl) rfl rfl rfl (by simp; rfl) ?_
              with_reducible refine (impl_replace_1.calls a0_1 _ a1 _ a2 _ (wrap64 (t362 - (wrap64 (a2 - a1)))) t381 _ ?side1 ?side2 ?side3 A40.out).mono ?_
              (case side1 => exact AtP.of_blk (cs := #[.int .i64 a1]) (t := 2) (pk BK358.out))
              (case side2 => exact AtP.of_blk (cs := #[.int .i64 a2]) (t := 2) (pk BK359.out))
              (case side3 => exact AtP.of_blk (cs := #[.int .i64 (wrap64 (t362 - (wrap64 (a2 - a1))))]) (t := 2) (pk BK363.out))
              rintro e w' ⟨rfl, ⟨nd, rfl⟩⟩
              refine ⟨_, rfl, ?_⟩
              refine hK.out _ _ ⟨bc BK357.out 0, bc BK357.out 1, bc BK357.out 2, bc BK358.out 0, bc BK359.out 0⟩ (fun hHeld => ?_)
              clear hK K
              refine norm_ (a' := ?_) ?_ ?_
              rotate_left
              ·show Act.put _ (some 55) _ = _
               simp only [Act.put, sa_, s0_, ss_, i64_w, i32_w]
               rfl
              exact norm_ (by first | (simp only [putAll, Act.put, sa_, s0_, ss_]; done) | (simp only [putAll, Act.put, sa_, s0_, ss_]; rfl)) (hJ9_10_14_20 (v376, v379, gb383) _ ⟨hHeld, (kv HO369.out), (kv HO374.out), (kn HO377.out), (kr HO380.out), (kv HO_3.out), (kv HO_358000.out), (pk BK357.out), (pk BK358.out), (pk BK359.out), (pk BK360.out), (pk BK363.out), (pk BK383.out), GW383.out, GE383.out, NB357_383.out, NB383_357.out, NB358_383.out, NB383_358.out, NB359_383.out, NB383_359.out, NB360_383.out, NB383_360.out, NB363_383.out, NB383_363.out, (bl HB.out)⟩)
            ·skip
             rintro ⟨v376, v379⟩ w56 ⟨hS_, h0_, h1_, h2_, h3_, h4_, h5_, h6_, h7_, h8_, h9_, h10_, h11_⟩
             have HO369 : Aside0 (Kd.V (Kd.int .i64) 2 w56 w.heap.size (fun k_ => ((P0_0_ k_ ∨ P3_ k_) ∨ w.heap.size ≤ k_) ∧ some k_ ≠ (v376 : Value).ownBlock ∧ some k_ ≠ (v379 : Value).ownBlock ∧ k_ ≠ gb357 ∧ k_ ≠ gb358 ∧ k_ ≠ gb359 ∧ k_ ≠ gb360 ∧ k_ ≠ gb363) (.slice A0_0 y365.length c0_0) y365) := ⟨h0_⟩
             have HO374 : Aside0 (Kd.V (Kd.int .i64) 2 w56 w.heap.size (fun k_ => ((P0_0_ k_ ∨ P3_ k_) ∨ w.heap.size ≤ k_) ∧ some k_ ≠ (v376 : Value).ownBlock ∧ some k_ ≠ (v379 : Value).ownBlock ∧ k_ ≠ gb357 ∧ k_ ≠ gb358 ∧ k_ ≠ gb359 ∧ k_ ≠ gb360 ∧ k_ ≠ gb363) (.slice A51 y370.length c51) y370) := ⟨h1_⟩
             have HO377 : Aside0 (Kd.N (Kd.slice 2 (Kd.int .i64)) 23 w56 w.heap.size (fun k_ => ((P0_0_ k_ ∨ P3_ k_) ∨ w.heap.size ≤ k_) ∧ some k_ ≠ (v379 : Value).ownBlock ∧ k_ ≠ gb357 ∧ k_ ≠ gb358 ∧ k_ ≠ gb359 ∧ k_ ≠ gb360 ∧ k_ ≠ gb363) v376 y375) := ⟨h2_⟩
             have HO380 : Aside0 (Kd.R (Kd.int .i64) 2 w56 w.heap.size (fun k_ => (w.heap.size ≤ k_) ∧ k_ ≠ gb358 ∧ k_ ≠ gb359 ∧ k_ ≠ gb363) v379 t378) := ⟨h3_⟩
             replace HO_3 : Aside0 (Kd.V (Kd.int .i64) 2 w56 w.heap.size (fun k_ => ((P0_0_ k_ ∨ P3_ k_) ∨ w.heap.size ≤ k_) ∧ some k_ ≠ (v376 : Value).ownBlock ∧ some k_ ≠ (v379 : Value).ownBlock ∧ k_ ≠ gb357 ∧ k_ ≠ gb358 ∧ k_ ≠ gb359 ∧ k_ ≠ gb360 ∧ k_ ≠ gb363) (.slice A3 l3.length c3) l3) := ⟨h4_⟩
             replace HO_358000 : Aside0 (Kd.V (Kd.int .i64) 2 w56 w.heap.size (fun k_ => ((P0_0_ k_ ∨ P3_ k_) ∨ w.heap.size ≤ k_) ∧ some k_ ≠ (v376 : Value).ownBlock ∧ some k_ ≠ (v379 : Value).ownBlock ∧ k_ ≠ gb357 ∧ k_ ≠ gb358 ∧ k_ ≠ gb359 ∧ k_ ≠ gb360 ∧ k_ ≠ gb363) (.slice A0_0 l0_0.length c0_0) l0_0) := ⟨h5_⟩
             replace BK357 : Aside0 (w56.heap[gb357]? = some (.cells #[.slice A0_0 l0_0.length c0_0, .int .i64 a0_1, .int .i64 a0_2] 25 (0, 0))) := ⟨h6_⟩
             replace BK358 : Aside0 (w56.heap[gb358]? = some (.cells #[.int .i64 a1] 2 (0, 0))) := ⟨h7_⟩
             replace BK359 : Aside0 (w56.heap[gb359]? = some (.cells #[.int .i64 a2] 2 (0, 0))) := ⟨h8_⟩
             replace BK360 : Aside0 (w56.heap[gb360]? = some (.cells #[.slice none 0 0, .int .i64 0, .int .i64 0, .slice none 0 0, .int .i64 0] 29 (0, 0))) := ⟨h9_⟩
             replace BK363 : Aside0 (w56.heap[gb363]? = some (.cells #[.int .i64 (wrap64 (t362 - (wrap64 (a2 - a1))))] 2 (0, 0))) := ⟨h10_⟩
             replace HB : Aside0 (Below w.heap.size w w56) := ⟨h11_⟩
             clear h0_ h1_ h2_ h3_ h4_ h5_ h6_ h7_ h8_ h9_ h10_ h11_
             have hHeld : w56.cell? ⟨gb357, 0, none⟩ = some (.slice A0_0 l0_0.length c0_0) ∧ w56.cell? ⟨gb357, 1, none⟩ = some (.int .i64 a0_1) ∧ w56.cell? ⟨gb357, 2, none⟩ = some (.int .i64 a0_2) ∧ w56.cell? ⟨gb358, 0, none⟩ = some (.int .i64 a1) ∧ w56.cell? ⟨gb359, 0, none⟩ = some (.int .i64 a2) := hS_
             refine norm_ (a' := ?_) ?_ ?_
             rotate_left
             ·simp only [putAll, Act.put, sa_, s0_, ss_]
              rfl
             refine two_ (i := 18) (j := 20) (Ni := some 59) (Nj := some 11) #[true, true, true, true, true, true, true, true, true, true, true, true, true, true, true, true, true, true, true, false, false, false] b45_35 rfl rfl rfl rfl (two_of HT_.out (by kernel_rfl)) (by decide) (by decide) (fun K hK => ?_) (fun K hK => ?_)
             ·skip
              refine goesC_ Try.func73 (by kernel_rfl) rfl #[.int .i64 a0_2, .pointer (some ⟨gb358, 0, none⟩), .pointer (some ⟨gb359, 0, none⟩), .pointer (some ⟨gb363, 0, none⟩)] (by rfl) rfl rfl rfl (by simp; rfl) ?_
              with_reducible refine (impl_replace_1.calls a0_2 _ a1 _ a2 _ (wrap64 (t362 - (wrap64 (a2 - a1)))) t382 _ ?side1 ?side2 ?side3 A41.out).mono ?_
              (case side1 => exact AtP.of_blk (cs := #[.int .i64 a1]) (t := 2) (pk BK358.out))
              (case side2 => exact AtP.of_blk (cs := #[.int .i64 a2]) (t := 2) (pk BK359.out))
              (case side3 => exact AtP.of_blk (cs := #[.int .i64 (wrap64 (t362 - (wrap64 (a2 - a1))))]) (t := 2) (pk BK363.out))
              rintro e w' ⟨rfl, ⟨nd, rfl⟩⟩
              refine ⟨_, rfl, ?_⟩
              obtain ⟨Ao57, co57, eo57⟩ := Kd.R_slice HO380.out
              (first | subst eo57 | (injection eo57 with f1_ f2_ f3_; have f4_ := f1_.symm; have f5_ := f3_.symm; clear f1_ f2_ f3_; subst f4_; subst f5_))
              refine hK.out _ _ ⟨bc BK357.out 0, bc BK357.out 1, bc BK357.out 2, bc BK358.out 0, bc BK359.out 0⟩ (fun hHeld => ?_)
              clear hK K
              refine norm_ (a' := ?_) ?_ ?_
              rotate_left
              ·show Act.put _ (some 59) _ = _
               simp only [Act.put, sa_, s0_, ss_, i64_w, i32_w]
               rfl
              refine pu_ 19 (some 60) ?_ b45_34 rfl rfl HT_.out (by kernel_rfl) (fun _ _ _ h => h) (Or.inl ⟨by rfl, ?_⟩) ?_ ?_ ?_; rotate_left
              ·intro w'; go_simp; with_reducible rfl
              rotate_left
              ·simp only [Act.put, sa_, s0_, ss_, i64_w, i32_w]; rfl
              exact norm_ (by first | (simp only [putAll, Act.put, sa_, s0_, ss_]; done) | (simp only [putAll, Act.put, sa_, s0_, ss_]; rfl)) (hJ9_10_14_18 (v376, .slice Ao57 t378.length co57) _ ⟨hHeld, (kv HO369.out), (kv HO374.out), (kn HO377.out), (kr HO380.out), (kv HO_3.out), (kv HO_358000.out), (pk BK357.out), (pk BK358.out), (pk BK359.out), (pk BK360.out), (pk BK363.out), (bl HB.out)⟩)
             ·skip
              refine box_step ?hg (N := 11) ?hd (cs := #[.slice none 0 0, .int .i64 0, .int .i64 0]) (t := 25) ?hr ?_; (case hd => rfl); (case hg => rfl); (case hr => first | (go_simp; done) | (go_simp; rfl))
              intro gb383 hg w57 hbox hb
              replace HO_3 := am (Kd.V_below (Kd.V_elderB (kv HO_3.out) gb383 (Nat.le_of_eq hg.symm)) hb)
              replace HO_358000 := am (Kd.V_below (Kd.V_elderB (kv HO_358000.out) gb383 (Nat.le_of_eq hg.symm)) hb)
              replace HO369 := am (Kd.V_below (Kd.V_elderB (kv HO369.out) gb383 (Nat.le_of_eq hg.symm)) hb)
              replace HO374 := am (Kd.V_below (Kd.V_elderB (kv HO374.out) gb383 (Nat.le_of_eq hg.symm)) hb)
              replace HO377 := am (Kd.N_below (Kd.N_elderB (kn HO377.out) gb383 (Nat.le_of_eq hg.symm)) hb)
              replace HO380 := am (Kd.R_below (kr HO380.out) hb)
              have BK383 := am (hbox)
              have GW383 := am ((by rw [hg]; exact (below_size (bl HB.out)) : w.heap.size ≤ gb383))
              have GE383 := GW383
              replace HB := am (below_step (bl HB.out) hb)
              have NB357_383 := am ((by rw [hg]; exact Nat.ne_of_lt (blk_lt (pk BK357.out)) : gb357 ≠ gb383))
              have NB383_357 := am ((by rw [hg]; exact Nat.ne_of_gt (blk_lt (pk BK357.out)) : gb383 ≠ gb357))
              replace BK357 := am (blk_below (pk BK357.out) hb)
              have NB358_383 := am ((by rw [hg]; exact Nat.ne_of_lt (blk_lt (pk BK358.out)) : gb358 ≠ gb383))
              have NB383_358 := am ((by rw [hg]; exact Nat.ne_of_gt (blk_lt (pk BK358.out)) : gb383 ≠ gb358))
              replace BK358 := am (blk_below (pk BK358.out) hb)
              have NB359_383 := am ((by rw [hg]; exact Nat.ne_of_lt (blk_lt (pk BK359.out)) : gb359 ≠ gb383))
              have NB383_359 := am ((by rw [hg]; exact Nat.ne_of_gt (blk_lt (pk BK359.out)) : gb383 ≠ gb359))
              replace BK359 := am (blk_below (pk BK359.out) hb)
              have NB360_383 := am ((by rw [hg]; exact Nat.ne_of_lt (blk_lt (pk BK360.out)) : gb360 ≠ gb383))
              have NB383_360 := am ((by rw [hg]; exact Nat.ne_of_gt (blk_lt (pk BK360.out)) : gb383 ≠ gb360))
              replace BK360 := am (blk_below (pk BK360.out) hb)
              have NB363_383 := am ((by rw [hg]; exact Nat.ne_of_lt (blk_lt (pk BK363.out)) : gb363 ≠ gb383))
              have NB383_363 := am ((by rw [hg]; exact Nat.ne_of_gt (blk_lt (pk BK363.out)) : gb383 ≠ gb363))
              replace BK363 := am (blk_below (pk BK363.out) hb)
              clear hb hbox hg
              refine hK.out _ _ ⟨bc BK357.out 0, bc BK357.out 1, bc BK357.out 2, bc BK358.out 0, bc BK359.out 0⟩ (fun hHeld => ?_)
              clear hK K
              refine norm_ (a' := ?_) ?_ ?_
              rotate_left
              ·show Act.put _ (some 11) _ = _
               simp only [Act.put, sa_, s0_, ss_, i64_w, i32_w]
               rfl
              exact norm_ (by first | (simp only [putAll, Act.put, sa_, s0_, ss_]; done) | (simp only [putAll, Act.put, sa_, s0_, ss_]; rfl)) (hJ9_10_14_20 (v376, v379, gb383) _ ⟨hHeld, (kv (Kd.V_mono HO369.out (fun _ hk => ⟨hk.1.1, ⟨hk.1.2.1, ⟨hk.1.2.2.1, ⟨hk.1.2.2.2.1, ⟨hk.1.2.2.2.2.1, ⟨hk.1.2.2.2.2.2.1, ⟨hk.1.2.2.2.2.2.2.1, ⟨hk.1.2.2.2.2.2.2.2, hk.2⟩⟩⟩⟩⟩⟩⟩⟩))), (kv (Kd.V_mono HO374.out (fun _ hk => ⟨hk.1.1, ⟨hk.1.2.1, ⟨hk.1.2.2.1, ⟨hk.1.2.2.2.1, ⟨hk.1.2.2.2.2.1, ⟨hk.1.2.2.2.2.2.1, ⟨hk.1.2.2.2.2.2.2.1, ⟨hk.1.2.2.2.2.2.2.2, hk.2⟩⟩⟩⟩⟩⟩⟩⟩))), (kn (Kd.N_mono HO377.out (fun _ hk => ⟨hk.1.1, ⟨hk.1.2.1, ⟨hk.1.2.2.1, ⟨hk.1.2.2.2.1, ⟨hk.1.2.2.2.2.1, ⟨hk.1.2.2.2.2.2.1, ⟨hk.1.2.2.2.2.2.2, hk.2⟩⟩⟩⟩⟩⟩⟩))), (kr HO380.out), (kv (Kd.V_mono HO_3.out (fun _ hk => ⟨hk.1.1, ⟨hk.1.2.1, ⟨hk.1.2.2.1, ⟨hk.1.2.2.2.1, ⟨hk.1.2.2.2.2.1, ⟨hk.1.2.2.2.2.2.1, ⟨hk.1.2.2.2.2.2.2.1, ⟨hk.1.2.2.2.2.2.2.2, hk.2⟩⟩⟩⟩⟩⟩⟩⟩))), (kv (Kd.V_mono HO_358000.out (fun _ hk => ⟨hk.1.1, ⟨hk.1.2.1, ⟨hk.1.2.2.1, ⟨hk.1.2.2.2.1, ⟨hk.1.2.2.2.2.1, ⟨hk.1.2.2.2.2.2.1, ⟨hk.1.2.2.2.2.2.2.1, ⟨hk.1.2.2.2.2.2.2.2, hk.2⟩⟩⟩⟩⟩⟩⟩⟩))), (pk BK357.out), (pk BK358.out), (pk BK359.out), (pk BK360.out), (pk BK363.out), (pk BK383.out), GW383.out, GE383.out, NB357_383.out, NB383_357.out, NB358_383.out, NB383_358.out, NB359_383.out, NB383_359.out, NB360_383.out, NB383_360.out, NB363_383.out, NB383_363.out, (bl HB.out)⟩)
           ·skip
            rintro ⟨v376, v379, gb383⟩ w57 ⟨hS_, h0_, h1_, h2_, h3_, h4_, h5_, h6_, h7_, h8_, h9_, h10_, h11_, h12_, h13_, h14_, h15_, h16_, h17_, h18_, h19_, h20_, h21_, h22_, h23_, h24_⟩
            have HO369 : Aside0 (Kd.V (Kd.int .i64) 2 w57 w.heap.size (fun k_ => ((P0_0_ k_ ∨ P3_ k_) ∨ w.heap.size ≤ k_) ∧ some k_ ≠ (v376 : Value).ownBlock ∧ some k_ ≠ (v379 : Value).ownBlock ∧ k_ ≠ gb357 ∧ k_ ≠ gb358 ∧ k_ ≠ gb359 ∧ k_ ≠ gb360 ∧ k_ ≠ gb363 ∧ k_ ≠ gb383) (.slice A0_0 y365.length c0_0) y365) := ⟨h0_⟩
            have HO374 : Aside0 (Kd.V (Kd.int .i64) 2 w57 w.heap.size (fun k_ => ((P0_0_ k_ ∨ P3_ k_) ∨ w.heap.size ≤ k_) ∧ some k_ ≠ (v376 : Value).ownBlock ∧ some k_ ≠ (v379 : Value).ownBlock ∧ k_ ≠ gb357 ∧ k_ ≠ gb358 ∧ k_ ≠ gb359 ∧ k_ ≠ gb360 ∧ k_ ≠ gb363 ∧ k_ ≠ gb383) (.slice A51 y370.length c51) y370) := ⟨h1_⟩
            have HO377 : Aside0 (Kd.N (Kd.slice 2 (Kd.int .i64)) 23 w57 w.heap.size (fun k_ => ((P0_0_ k_ ∨ P3_ k_) ∨ w.heap.size ≤ k_) ∧ some k_ ≠ (v379 : Value).ownBlock ∧ k_ ≠ gb357 ∧ k_ ≠ gb358 ∧ k_ ≠ gb359 ∧ k_ ≠ gb360 ∧ k_ ≠ gb363 ∧ k_ ≠ gb383) v376 y375) := ⟨h2_⟩
            have HO380 : Aside0 (Kd.R (Kd.int .i64) 2 w57 w.heap.size (fun k_ => (w.heap.size ≤ k_) ∧ k_ ≠ gb358 ∧ k_ ≠ gb359 ∧ k_ ≠ gb363) v379 t378) := ⟨h3_⟩
            replace HO_3 : Aside0 (Kd.V (Kd.int .i64) 2 w57 w.heap.size (fun k_ => ((P0_0_ k_ ∨ P3_ k_) ∨ w.heap.size ≤ k_) ∧ some k_ ≠ (v376 : Value).ownBlock ∧ some k_ ≠ (v379 : Value).ownBlock ∧ k_ ≠ gb357 ∧ k_ ≠ gb358 ∧ k_ ≠ gb359 ∧ k_ ≠ gb360 ∧ k_ ≠ gb363 ∧ k_ ≠ gb383) (.slice A3 l3.length c3) l3) := ⟨h4_⟩
            replace HO_358000 : Aside0 (Kd.V (Kd.int .i64) 2 w57 w.heap.size (fun k_ => ((P0_0_ k_ ∨ P3_ k_) ∨ w.heap.size ≤ k_) ∧ some k_ ≠ (v376 : Value).ownBlock ∧ some k_ ≠ (v379 : Value).ownBlock ∧ k_ ≠ gb357 ∧ k_ ≠ gb358 ∧ k_ ≠ gb359 ∧ k_ ≠ gb360 ∧ k_ ≠ gb363 ∧ k_ ≠ gb383) (.slice A0_0 l0_0.length c0_0) l0_0) := ⟨h5_⟩
            replace BK357 : Aside0 (w57.heap[gb357]? = some (.cells #[.slice A0_0 l0_0.length c0_0, .int .i64 a0_1, .int .i64 a0_2] 25 (0, 0))) := ⟨h6_⟩
            replace BK358 : Aside0 (w57.heap[gb358]? = some (.cells #[.int .i64 a1] 2 (0, 0))) := ⟨h7_⟩
            replace BK359 : Aside0 (w57.heap[gb359]? = some (.cells #[.int .i64 a2] 2 (0, 0))) := ⟨h8_⟩
            replace BK360 : Aside0 (w57.heap[gb360]? = some (.cells #[.slice none 0 0, .int .i64 0, .int .i64 0, .slice none 0 0, .int .i64 0] 29 (0, 0))) := ⟨h9_⟩
            replace BK363 : Aside0 (w57.heap[gb363]? = some (.cells #[.int .i64 (wrap64 (t362 - (wrap64 (a2 - a1))))] 2 (0, 0))) := ⟨h10_⟩
            have BK383 : Aside0 (w57.heap[gb383]? = some (.cells #[.slice none 0 0, .int .i64 0, .int .i64 0] 25 (0, 0))) := ⟨h11_⟩
            have GW383 : Aside0 (w.heap.size ≤ gb383) := ⟨h12_⟩
            have GE383 : Aside0 (w.heap.size ≤ gb383) := ⟨h13_⟩
            have NB357_383 : Aside0 (gb357 ≠ gb383) := ⟨h14_⟩
            have NB383_357 : Aside0 (gb383 ≠ gb357) := ⟨h15_⟩
            have NB358_383 : Aside0 (gb358 ≠ gb383) := ⟨h16_⟩
            have NB383_358 : Aside0 (gb383 ≠ gb358) := ⟨h17_⟩
            have NB359_383 : Aside0 (gb359 ≠ gb383) := ⟨h18_⟩
            have NB383_359 : Aside0 (gb383 ≠ gb359) := ⟨h19_⟩
            have NB360_383 : Aside0 (gb360 ≠ gb383) := ⟨h20_⟩
            have NB383_360 : Aside0 (gb383 ≠ gb360) := ⟨h21_⟩
            have NB363_383 : Aside0 (gb363 ≠ gb383) := ⟨h22_⟩
            have NB383_363 : Aside0 (gb383 ≠ gb363) := ⟨h23_⟩
            replace HB : Aside0 (Below w.heap.size w w57) := ⟨h24_⟩
            clear h0_ h1_ h2_ h3_ h4_ h5_ h6_ h7_ h8_ h9_ h10_ h11_ h12_ h13_ h14_ h15_ h16_ h17_ h18_ h19_ h20_ h21_ h22_ h23_ h24_
            have hHeld : w57.cell? ⟨gb357, 0, none⟩ = some (.slice A0_0 l0_0.length c0_0) ∧ w57.cell? ⟨gb357, 1, none⟩ = some (.int .i64 a0_1) ∧ w57.cell? ⟨gb357, 2, none⟩ = some (.int .i64 a0_2) ∧ w57.cell? ⟨gb358, 0, none⟩ = some (.int .i64 a1) ∧ w57.cell? ⟨gb359, 0, none⟩ = some (.int .i64 a2) := hS_
            refine norm_ (a' := ?_) ?_ ?_
            rotate_left
            ·simp only [putAll, Act.put, sa_, s0_, ss_]
             rfl
            refine one_ (i := 18) (N := some 59) #[true, true, true, true, true, true, true, true, true, true, true, true, true, true, true, true, true, true, true, false, true, false] rfl rfl (one_of HT_.out (by kernel_rfl)) (by decide) (fun K hK => ?_)
            refine goesC_ Try.func73 (by kernel_rfl) rfl #[.int .i64 a0_2, .pointer (some ⟨gb358, 0, none⟩), .pointer (some ⟨gb359, 0, none⟩), .pointer (some ⟨gb363, 0, none⟩)] (by rfl) rfl rfl rfl (by simp; rfl) ?_
            with_reducible refine (impl_replace_1.calls a0_2 _ a1 _ a2 _ (wrap64 (t362 - (wrap64 (a2 - a1)))) t382 _ ?side1 ?side2 ?side3 A41.out).mono ?_
            (case side1 => exact AtP.of_blk (cs := #[.int .i64 a1]) (t := 2) (pk BK358.out))
            (case side2 => exact AtP.of_blk (cs := #[.int .i64 a2]) (t := 2) (pk BK359.out))
            (case side3 => exact AtP.of_blk (cs := #[.int .i64 (wrap64 (t362 - (wrap64 (a2 - a1))))]) (t := 2) (pk BK363.out))
            rintro e w' ⟨rfl, ⟨nd, rfl⟩⟩
            refine ⟨_, rfl, ?_⟩
            obtain ⟨Ao58, co58, eo58⟩ := Kd.R_slice HO380.out
            (first | subst eo58 | (injection eo58 with f1_ f2_ f3_; have f4_ := f1_.symm; have f5_ := f3_.symm; clear f1_ f2_ f3_; subst f4_; subst f5_))
            refine hK.out _ _ ⟨bc BK357.out 0, bc BK357.out 1, bc BK357.out 2, bc BK358.out 0, bc BK359.out 0⟩ (fun hHeld => ?_)
            clear hK K
            refine norm_ (a' := ?_) ?_ ?_
            rotate_left
            ·show Act.put _ (some 59) _ = _
             simp only [Act.put, sa_, s0_, ss_, i64_w, i32_w]
             rfl
            refine pu_ 19 (some 60) ?_ b45_33 rfl rfl HT_.out (by kernel_rfl) (fun _ _ _ h => h) (Or.inl ⟨by rfl, ?_⟩) ?_ ?_ ?_; rotate_left
            ·intro w'; go_simp; with_reducible rfl
            rotate_left
            ·simp only [Act.put, sa_, s0_, ss_, i64_w, i32_w]; rfl
            exact norm_ (by first | (simp only [putAll, Act.put, sa_, s0_, ss_]; done) | (simp only [putAll, Act.put, sa_, s0_, ss_]; rfl)) (hJ9_10_14_18_20 (v376, .slice Ao58 t378.length co58, gb383) _ ⟨hHeld, (kv HO369.out), (kv HO374.out), (kn HO377.out), (kr HO380.out), (kv HO_3.out), (kv HO_358000.out), (pk BK357.out), (pk BK358.out), (pk BK359.out), (pk BK360.out), (pk BK363.out), (pk BK383.out), GW383.out, GE383.out, NB357_383.out, NB383_357.out, NB358_383.out, NB383_358.out, NB359_383.out, NB383_359.out, NB360_383.out, NB383_360.out, NB363_383.out, NB383_363.out, (bl HB.out)⟩)
          ·skip
           rintro ⟨v376, v379⟩ w57 ⟨hS_, h0_, h1_, h2_, h3_, h4_, h5_, h6_, h7_, h8_, h9_, h10_, h11_⟩
           have HO369 : Aside0 (Kd.V (Kd.int .i64) 2 w57 w.heap.size (fun k_ => ((P0_0_ k_ ∨ P3_ k_) ∨ w.heap.size ≤ k_) ∧ some k_ ≠ (v376 : Value).ownBlock ∧ some k_ ≠ (v379 : Value).ownBlock ∧ k_ ≠ gb357 ∧ k_ ≠ gb358 ∧ k_ ≠ gb359 ∧ k_ ≠ gb360 ∧ k_ ≠ gb363) (.slice A0_0 y365.length c0_0) y365) := ⟨h0_⟩
           have HO374 : Aside0 (Kd.V (Kd.int .i64) 2 w57 w.heap.size (fun k_ => ((P0_0_ k_ ∨ P3_ k_) ∨ w.heap.size ≤ k_) ∧ some k_ ≠ (v376 : Value).ownBlock ∧ some k_ ≠ (v379 : Value).ownBlock ∧ k_ ≠ gb357 ∧ k_ ≠ gb358 ∧ k_ ≠ gb359 ∧ k_ ≠ gb360 ∧ k_ ≠ gb363) (.slice A51 y370.length c51) y370) := ⟨h1_⟩
           have HO377 : Aside0 (Kd.N (Kd.slice 2 (Kd.int .i64)) 23 w57 w.heap.size (fun k_ => ((P0_0_ k_ ∨ P3_ k_) ∨ w.heap.size ≤ k_) ∧ some k_ ≠ (v379 : Value).ownBlock ∧ k_ ≠ gb357 ∧ k_ ≠ gb358 ∧ k_ ≠ gb359 ∧ k_ ≠ gb360 ∧ k_ ≠ gb363) v376 y375) := ⟨h2_⟩
           have HO380 : Aside0 (Kd.R (Kd.int .i64) 2 w57 w.heap.size (fun k_ => (w.heap.size ≤ k_) ∧ k_ ≠ gb358 ∧ k_ ≠ gb359 ∧ k_ ≠ gb363) v379 t378) := ⟨h3_⟩
           replace HO_3 : Aside0 (Kd.V (Kd.int .i64) 2 w57 w.heap.size (fun k_ => ((P0_0_ k_ ∨ P3_ k_) ∨ w.heap.size ≤ k_) ∧ some k_ ≠ (v376 : Value).ownBlock ∧ some k_ ≠ (v379 : Value).ownBlock ∧ k_ ≠ gb357 ∧ k_ ≠ gb358 ∧ k_ ≠ gb359 ∧ k_ ≠ gb360 ∧ k_ ≠ gb363) (.slice A3 l3.length c3) l3) := ⟨h4_⟩
           replace HO_358000 : Aside0 (Kd.V (Kd.int .i64) 2 w57 w.heap.size (fun k_ => ((P0_0_ k_ ∨ P3_ k_) ∨ w.heap.size ≤ k_) ∧ some k_ ≠ (v376 : Value).ownBlock ∧ some k_ ≠ (v379 : Value).ownBlock ∧ k_ ≠ gb357 ∧ k_ ≠ gb358 ∧ k_ ≠ gb359 ∧ k_ ≠ gb360 ∧ k_ ≠ gb363) (.slice A0_0 l0_0.length c0_0) l0_0) := ⟨h5_⟩
           replace BK357 : Aside0 (w57.heap[gb357]? = some (.cells #[.slice A0_0 l0_0.length c0_0, .int .i64 a0_1, .int .i64 a0_2] 25 (0, 0))) := ⟨h6_⟩
           replace BK358 : Aside0 (w57.heap[gb358]? = some (.cells #[.int .i64 a1] 2 (0, 0))) := ⟨h7_⟩
           replace BK359 : Aside0 (w57.heap[gb359]? = some (.cells #[.int .i64 a2] 2 (0, 0))) := ⟨h8_⟩
           replace BK360 : Aside0 (w57.heap[gb360]? = some (.cells #[.slice none 0 0, .int .i64 0, .int .i64 0, .slice none 0 0, .int .i64 0] 29 (0, 0))) := ⟨h9_⟩
           replace BK363 : Aside0 (w57.heap[gb363]? = some (.cells #[.int .i64 (wrap64 (t362 - (wrap64 (a2 - a1))))] 2 (0, 0))) := ⟨h10_⟩
           replace HB : Aside0 (Below w.heap.size w w57) := ⟨h11_⟩
           clear h0_ h1_ h2_ h3_ h4_ h5_ h6_ h7_ h8_ h9_ h10_ h11_
           have hHeld : w57.cell? ⟨gb357, 0, none⟩ = some (.slice A0_0 l0_0.length c0_0) ∧ w57.cell? ⟨gb357, 1, none⟩ = some (.int .i64 a0_1) ∧ w57.cell? ⟨gb357, 2, none⟩ = some (.int .i64 a0_2) ∧ w57.cell? ⟨gb358, 0, none⟩ = some (.int .i64 a1) ∧ w57.cell? ⟨gb359, 0, none⟩ = some (.int .i64 a2) := hS_
           obtain ⟨Ao58, co58, eo58⟩ := Kd.R_slice HO380.out
           (first | subst eo58 | (injection eo58 with f1_ f2_ f3_; have f4_ := f1_.symm; have f5_ := f3_.symm; clear f1_ f2_ f3_; subst f4_; subst f5_))
           refine norm_ (a' := ?_) ?_ ?_
           rotate_left
           ·simp only [putAll, Act.put, sa_, s0_, ss_]
            rfl
           refine one_ (i := 20) (N := some 11) b45_33 rfl rfl (one_of HT_.out (by kernel_rfl)) (by decide) (fun K hK => ?_)
           refine box_step ?hg (N := 11) ?hd (cs := #[.slice none 0 0, .int .i64 0, .int .i64 0]) (t := 25) ?hr ?_; (case hd => rfl); (case hg => rfl); (case hr => first | (go_simp; done) | (go_simp; rfl))
           intro gb383 hg w59 hbox hb
           replace HO_3 := am (Kd.V_below (Kd.V_elderB (kv HO_3.out) gb383 (Nat.le_of_eq hg.symm)) hb)
           replace HO_358000 := am (Kd.V_below (Kd.V_elderB (kv HO_358000.out) gb383 (Nat.le_of_eq hg.symm)) hb)
           replace HO369 := am (Kd.V_below (Kd.V_elderB (kv HO369.out) gb383 (Nat.le_of_eq hg.symm)) hb)
           replace HO374 := am (Kd.V_below (Kd.V_elderB (kv HO374.out) gb383 (Nat.le_of_eq hg.symm)) hb)
           replace HO377 := am (Kd.N_below (Kd.N_elderB (kn HO377.out) gb383 (Nat.le_of_eq hg.symm)) hb)
           replace HO380 := am (Kd.R_below (kr HO380.out) hb)
           have BK383 := am (hbox)
           have GW383 := am ((by rw [hg]; exact (below_size (bl HB.out)) : w.heap.size ≤ gb383))
           have GE383 := GW383
           replace HB := am (below_step (bl HB.out) hb)
           have NB357_383 := am ((by rw [hg]; exact Nat.ne_of_lt (blk_lt (pk BK357.out)) : gb357 ≠ gb383))
           have NB383_357 := am ((by rw [hg]; exact Nat.ne_of_gt (blk_lt (pk BK357.out)) : gb383 ≠ gb357))
           replace BK357 := am (blk_below (pk BK357.out) hb)
           have NB358_383 := am ((by rw [hg]; exact Nat.ne_of_lt (blk_lt (pk BK358.out)) : gb358 ≠ gb383))
           have NB383_358 := am ((by rw [hg]; exact Nat.ne_of_gt (blk_lt (pk BK358.out)) : gb383 ≠ gb358))
           replace BK358 := am (blk_below (pk BK358.out) hb)
           have NB359_383 := am ((by rw [hg]; exact Nat.ne_of_lt (blk_lt (pk BK359.out)) : gb359 ≠ gb383))
           have NB383_359 := am ((by rw [hg]; exact Nat.ne_of_gt (blk_lt (pk BK359.out)) : gb383 ≠ gb359))
           replace BK359 := am (blk_below (pk BK359.out) hb)
           have NB360_383 := am ((by rw [hg]; exact Nat.ne_of_lt (blk_lt (pk BK360.out)) : gb360 ≠ gb383))
           have NB383_360 := am ((by rw [hg]; exact Nat.ne_of_gt (blk_lt (pk BK360.out)) : gb383 ≠ gb360))
           replace BK360 := am (blk_below (pk BK360.out) hb)
           have NB363_383 := am ((by rw [hg]; exact Nat.ne_of_lt (blk_lt (pk BK363.out)) : gb363 ≠ gb383))
           have NB383_363 := am ((by rw [hg]; exact Nat.ne_of_gt (blk_lt (pk BK363.out)) : gb383 ≠ gb363))
           replace BK363 := am (blk_below (pk BK363.out) hb)
           clear hb hbox hg
           refine hK.out _ _ ⟨bc BK357.out 0, bc BK357.out 1, bc BK357.out 2, bc BK358.out 0, bc BK359.out 0⟩ (fun hHeld => ?_)
           clear hK K
           refine norm_ (a' := ?_) ?_ ?_
           rotate_left
           ·show Act.put _ (some 11) _ = _
            simp only [Act.put, sa_, s0_, ss_, i64_w, i32_w]
            rfl
           exact norm_ (by first | (simp only [putAll, Act.put, sa_, s0_, ss_]; done) | (simp only [putAll, Act.put, sa_, s0_, ss_]; rfl)) (hJ9_10_14_18_20 (v376, .slice Ao58 t378.length co58, gb383) _ ⟨hHeld, (kv (Kd.V_mono HO369.out (fun _ hk => ⟨hk.1.1, ⟨hk.1.2.1, ⟨hk.1.2.2.1, ⟨hk.1.2.2.2.1, ⟨hk.1.2.2.2.2.1, ⟨hk.1.2.2.2.2.2.1, ⟨hk.1.2.2.2.2.2.2.1, ⟨hk.1.2.2.2.2.2.2.2, hk.2⟩⟩⟩⟩⟩⟩⟩⟩))), (kv (Kd.V_mono HO374.out (fun _ hk => ⟨hk.1.1, ⟨hk.1.2.1, ⟨hk.1.2.2.1, ⟨hk.1.2.2.2.1, ⟨hk.1.2.2.2.2.1, ⟨hk.1.2.2.2.2.2.1, ⟨hk.1.2.2.2.2.2.2.1, ⟨hk.1.2.2.2.2.2.2.2, hk.2⟩⟩⟩⟩⟩⟩⟩⟩))), (kn (Kd.N_mono HO377.out (fun _ hk => ⟨hk.1.1, ⟨hk.1.2.1, ⟨hk.1.2.2.1, ⟨hk.1.2.2.2.1, ⟨hk.1.2.2.2.2.1, ⟨hk.1.2.2.2.2.2.1, ⟨hk.1.2.2.2.2.2.2, hk.2⟩⟩⟩⟩⟩⟩⟩))), (kr HO380.out), (kv (Kd.V_mono HO_3.out (fun _ hk => ⟨hk.1.1, ⟨hk.1.2.1, ⟨hk.1.2.2.1, ⟨hk.1.2.2.2.1, ⟨hk.1.2.2.2.2.1, ⟨hk.1.2.2.2.2.2.1, ⟨hk.1.2.2.2.2.2.2.1, ⟨hk.1.2.2.2.2.2.2.2, hk.2⟩⟩⟩⟩⟩⟩⟩⟩))), (kv (Kd.V_mono HO_358000.out (fun _ hk => ⟨hk.1.1, ⟨hk.1.2.1, ⟨hk.1.2.2.1, ⟨hk.1.2.2.2.1, ⟨hk.1.2.2.2.2.1, ⟨hk.1.2.2.2.2.2.1, ⟨hk.1.2.2.2.2.2.2.1, ⟨hk.1.2.2.2.2.2.2.2, hk.2⟩⟩⟩⟩⟩⟩⟩⟩))), (pk BK357.out), (pk BK358.out), (pk BK359.out), (pk BK360.out), (pk BK363.out), (pk BK383.out), GW383.out, GE383.out, NB357_383.out, NB383_357.out, NB358_383.out, NB383_358.out, NB359_383.out, NB383_359.out, NB360_383.out, NB383_360.out, NB363_383.out, NB383_363.out, (bl HB.out)⟩)
         rintro ⟨v376, v379, gb383⟩ w58 ⟨hS_, h0_, h1_, h2_, h3_, h4_, h5_, h6_, h7_, h8_, h9_, h10_, h11_, h12_, h13_, h14_, h15_, h16_, h17_, h18_, h19_, h20_, h21_, h22_, h23_, h24_⟩
         have HO369 : Aside0 (Kd.V (Kd.int .i64) 2 w58 w.heap.size (fun k_ => ((P0_0_ k_ ∨ P3_ k_) ∨ w.heap.size ≤ k_) ∧ some k_ ≠ (v376 : Value).ownBlock ∧ some k_ ≠ (v379 : Value).ownBlock ∧ k_ ≠ gb357 ∧ k_ ≠ gb358 ∧ k_ ≠ gb359 ∧ k_ ≠ gb360 ∧ k_ ≠ gb363 ∧ k_ ≠ gb383) (.slice A0_0 y365.length c0_0) y365) := ⟨h0_⟩
         have HO374 : Aside0 (Kd.V (Kd.int .i64) 2 w58 w.heap.size (fun k_ => ((P0_0_ k_ ∨ P3_ k_) ∨ w.heap.size ≤ k_) ∧ some k_ ≠ (v376 : Value).ownBlock ∧ some k_ ≠ (v379 : Value).ownBlock ∧ k_ ≠ gb357 ∧ k_ ≠ gb358 ∧ k_ ≠ gb359 ∧ k_ ≠ gb360 ∧ k_ ≠ gb363 ∧ k_ ≠ gb383) (.slice A51 y370.length c51) y370) := ⟨h1_⟩
         have HO377 : Aside0 (Kd.N (Kd.slice 2 (Kd.int .i64)) 23 w58 w.heap.size (fun k_ => ((P0_0_ k_ ∨ P3_ k_) ∨ w.heap.size ≤ k_) ∧ some k_ ≠ (v379 : Value).ownBlock ∧ k_ ≠ gb357 ∧ k_ ≠ gb358 ∧ k_ ≠ gb359 ∧ k_ ≠ gb360 ∧ k_ ≠ gb363 ∧ k_ ≠ gb383) v376 y375) := ⟨h2_⟩
         have HO380 : Aside0 (Kd.R (Kd.int .i64) 2 w58 w.heap.size (fun k_ => (w.heap.size ≤ k_) ∧ k_ ≠ gb358 ∧ k_ ≠ gb359 ∧ k_ ≠ gb363) v379 t378) := ⟨h3_⟩
         replace HO_3 : Aside0 (Kd.V (Kd.int .i64) 2 w58 w.heap.size (fun k_ => ((P0_0_ k_ ∨ P3_ k_) ∨ w.heap.size ≤ k_) ∧ some k_ ≠ (v376 : Value).ownBlock ∧ some k_ ≠ (v379 : Value).ownBlock ∧ k_ ≠ gb357 ∧ k_ ≠ gb358 ∧ k_ ≠ gb359 ∧ k_ ≠ gb360 ∧ k_ ≠ gb363 ∧ k_ ≠ gb383) (.slice A3 l3.length c3) l3) := ⟨h4_⟩
         replace HO_358000 : Aside0 (Kd.V (Kd.int .i64) 2 w58 w.heap.size (fun k_ => ((P0_0_ k_ ∨ P3_ k_) ∨ w.heap.size ≤ k_) ∧ some k_ ≠ (v376 : Value).ownBlock ∧ some k_ ≠ (v379 : Value).ownBlock ∧ k_ ≠ gb357 ∧ k_ ≠ gb358 ∧ k_ ≠ gb359 ∧ k_ ≠ gb360 ∧ k_ ≠ gb363 ∧ k_ ≠ gb383) (.slice A0_0 l0_0.length c0_0) l0_0) := ⟨h5_⟩
         replace BK357 : Aside0 (w58.heap[gb357]? = some (.cells #[.slice A0_0 l0_0.length c0_0, .int .i64 a0_1, .int .i64 a0_2] 25 (0, 0))) := ⟨h6_⟩
         replace BK358 : Aside0 (w58.heap[gb358]? = some (.cells #[.int .i64 a1] 2 (0, 0))) := ⟨h7_⟩
         replace BK359 : Aside0 (w58.heap[gb359]? = some (.cells #[.int .i64 a2] 2 (0, 0))) := ⟨h8_⟩
         replace BK360 : Aside0 (w58.heap[gb360]? = some (.cells #[.slice none 0 0, .int .i64 0, .int .i64 0, .slice none 0 0, .int .i64 0] 29 (0, 0))) := ⟨h9_⟩
         replace BK363 : Aside0 (w58.heap[gb363]? = some (.cells #[.int .i64 (wrap64 (t362 - (wrap64 (a2 - a1))))] 2 (0, 0))) := ⟨h10_⟩
         have BK383 : Aside0 (w58.heap[gb383]? = some (.cells #[.slice none 0 0, .int .i64 0, .int .i64 0] 25 (0, 0))) := ⟨h11_⟩
         have GW383 : Aside0 (w.heap.size ≤ gb383) := ⟨h12_⟩
         have GE383 : Aside0 (w.heap.size ≤ gb383) := ⟨h13_⟩
         have NB357_383 : Aside0 (gb357 ≠ gb383) := ⟨h14_⟩
         have NB383_357 : Aside0 (gb383 ≠ gb357) := ⟨h15_⟩
         have NB358_383 : Aside0 (gb358 ≠ gb383) := ⟨h16_⟩
         have NB383_358 : Aside0 (gb383 ≠ gb358) := ⟨h17_⟩
         have NB359_383 : Aside0 (gb359 ≠ gb383) := ⟨h18_⟩
         have NB383_359 : Aside0 (gb383 ≠ gb359) := ⟨h19_⟩
         have NB360_383 : Aside0 (gb360 ≠ gb383) := ⟨h20_⟩
         have NB383_360 : Aside0 (gb383 ≠ gb360) := ⟨h21_⟩
         have NB363_383 : Aside0 (gb363 ≠ gb383) := ⟨h22_⟩
         have NB383_363 : Aside0 (gb383 ≠ gb363) := ⟨h23_⟩
         replace HB : Aside0 (Below w.heap.size w w58) := ⟨h24_⟩
         clear h0_ h1_ h2_ h3_ h4_ h5_ h6_ h7_ h8_ h9_ h10_ h11_ h12_ h13_ h14_ h15_ h16_ h17_ h18_ h19_ h20_ h21_ h22_ h23_ h24_
         have hHeld : w58.cell? ⟨gb357, 0, none⟩ = some (.slice A0_0 l0_0.length c0_0) ∧ w58.cell? ⟨gb357, 1, none⟩ = some (.int .i64 a0_1) ∧ w58.cell? ⟨gb357, 2, none⟩ = some (.int .i64 a0_2) ∧ w58.cell? ⟨gb358, 0, none⟩ = some (.int .i64 a1) ∧ w58.cell? ⟨gb359, 0, none⟩ = some (.int .i64 a2) := hS_
         obtain ⟨Ao59, co59, eo59⟩ := Kd.R_slice HO380.out
         (first | subst eo59 | (injection eo59 with f1_ f2_ f3_; have f4_ := f1_.symm; have f5_ := f3_.symm; clear f1_ f2_ f3_; subst f4_; subst f5_))
         refine norm_ (a' := ?_) ?_ ?_
         rotate_left
         ·simp only [putAll, Act.put, sa_, s0_, ss_]
          rfl
         refine one_ (i := 21) (N := none) #[true, true, true, true, true, true, true, true, true, true, true, true, true, true, true, true, true, true, true, true, true, true] rfl rfl (one_of HT_.out (by kernel_rfl)) (by decide) (fun K hK => ?_)
         have hs60 : w58.cell? ⟨gb383, 0, none⟩ = some (.slice none 0 0) := bc BK383.out 0
         have hfs60 := blk_frozen BK383.out 0
         have hns60_0 := NB357_383.out
         have hns60_1 := NB358_383.out
         have hns60_2 := NB359_383.out
         have hns60_3 := NB360_383.out
         have hns60_4 := NB363_383.out
         have hms60_0 := NB383_357.out
         have hms60_1 := NB383_358.out
         have hms60_2 := NB383_359.out
         have hms60_3 := NB383_360.out
         have hms60_4 := NB383_363.out
         have hs61 : w58.cell? ⟨gb383, 1, none⟩ = some (.int .i64 0) := bc BK383.out 1
         have hfs61 := blk_frozen BK383.out 1
         have hns61_0 := NB357_383.out
         have hns61_1 := NB358_383.out
         have hns61_2 := NB359_383.out
         have hns61_3 := NB360_383.out
         have hns61_4 := NB363_383.out
         have hms61_0 := NB383_357.out
         have hms61_1 := NB383_358.out
         have hms61_2 := NB383_359.out
         have hms61_3 := NB383_360.out
         have hms61_4 := NB383_363.out
         have hs62 : w58.cell? ⟨gb383, 2, none⟩ = some (.int .i64 0) := bc BK383.out 2
         have hfs62 := blk_frozen BK383.out 2
         have hns62_0 := NB357_383.out
         have hns62_1 := NB358_383.out
         have hns62_2 := NB359_383.out
         have hns62_3 := NB360_383.out
         have hns62_4 := NB363_383.out
         have hms62_0 := NB383_357.out
         have hms62_1 := NB383_358.out
         have hms62_2 := NB383_359.out
         have hms62_3 := NB383_360.out
         have hms62_4 := NB383_363.out
         refine skip_ (w1 := ?_) (by rfl) rfl ?_ ?_
         rotate_left
         ·go_simp
          rfl
         refine hK.out _ _ ⟨((cell_far (p := ⟨gb383, _, none⟩) NB357_383.out _).trans (((cell_far (p := ⟨gb383, _, none⟩) NB357_383.out _).trans (((cell_far (p := ⟨gb383, _, none⟩) NB357_383.out _).trans (hHeld.1)))))), ((cell_far (p := ⟨gb383, _, none⟩) NB357_383.out _).trans (((cell_far (p := ⟨gb383, _, none⟩) NB357_383.out _).trans (((cell_far (p := ⟨gb383, _, none⟩) NB357_383.out _).trans (hHeld.2.1)))))), ((cell_far (p := ⟨gb383, _, none⟩) NB357_383.out _).trans (((cell_far (p := ⟨gb383, _, none⟩) NB357_383.out _).trans (((cell_far (p := ⟨gb383, _, none⟩) NB357_383.out _).trans (hHeld.2.2.1)))))), ((cell_far (p := ⟨gb383, _, none⟩) NB358_383.out _).trans (((cell_far (p := ⟨gb383, _, none⟩) NB358_383.out _).trans (((cell_far (p := ⟨gb383, _, none⟩) NB358_383.out _).trans (hHeld.2.2.2.1)))))), ((cell_far (p := ⟨gb383, _, none⟩) NB359_383.out _).trans (((cell_far (p := ⟨gb383, _, none⟩) NB359_383.out _).trans (((cell_far (p := ⟨gb383, _, none⟩) NB359_383.out _).trans (hHeld.2.2.2.2))))))⟩ (fun hHeld => ?_)
         clear hK K
         refine done_ (done_of HT_.out (by kernel_rfl)) ?_
         (try (rw [drewN_self w58]; generalize hq_ : World.drewN w58 _ = w58; replace HO_3 := am (vAt2 hq_ HO_3.out); replace HO_358000 := am (vAt2 hq_ HO_358000.out); replace HO369 := am (vAt2 hq_ HO369.out); replace HO374 := am (vAt2 hq_ HO374.out); replace HO377 := am (Kd.N_at hq_ HO377.out); replace HO380 := am (Kd.R_at hq_ HO380.out); replace BK357 := am (blk_at hq_ BK357.out); replace BK358 := am (blk_at hq_ BK358.out); replace BK359 := am (blk_at hq_ BK359.out); replace BK360 := am (blk_at hq_ BK360.out); replace BK363 := am (blk_at hq_ BK363.out); replace BK383 := am (blk_at hq_ BK383.out); replace HB := am (below_at hq_ HB.out); clear hq_))
         go_upto_region 8 with (fail)
         go_cut [69] (fun v69 wc => ∃ (kq : Nat) (x69_41 : Bool), v69 = .bool x69_41 ∧ Aside0 (impl_replace.j1 kq l3 x69_41 l0_0 a0_1 a0_2 a1 a2 t378 t381 t382 = some (r1, r2, r3, r4, r5)) ∧ Aside0 (kq ≤ kj4) ∧ Aside0 (Kd.V (Kd.int .i64) 2 wc w.heap.size (fun k_ => ((P0_0_ k_ ∨ P3_ k_) ∨ w.heap.size ≤ k_) ∧ some k_ ≠ ((.slice Ao59 t378.length co59) : Value).ownBlock ∧ k_ ≠ gb357 ∧ k_ ≠ gb358 ∧ k_ ≠ gb359 ∧ k_ ≠ gb360 ∧ k_ ≠ gb363 ∧ k_ ≠ gb383) (.slice A3 l3.length c3) l3) ∧ Aside0 (Kd.V (Kd.int .i64) 2 wc w.heap.size (fun k_ => ((P0_0_ k_ ∨ P3_ k_) ∨ w.heap.size ≤ k_) ∧ some k_ ≠ ((.slice Ao59 t378.length co59) : Value).ownBlock ∧ k_ ≠ gb357 ∧ k_ ≠ gb358 ∧ k_ ≠ gb359 ∧ k_ ≠ gb360 ∧ k_ ≠ gb363 ∧ k_ ≠ gb383) (.slice A0_0 l0_0.length c0_0) l0_0) ∧ Aside0 (Kd.R (Kd.int .i64) 2 wc w.heap.size (fun k_ => (w.heap.size ≤ k_) ∧ k_ ≠ gb358 ∧ k_ ≠ gb359 ∧ k_ ≠ gb363) (.slice Ao59 t378.length co59) t378) ∧ Aside0 (wc.heap[gb357]? = some (.cells #[(.slice A0_0 l0_0.length c0_0), .int .i64 a0_1, .int .i64 a0_2] 25 (0, 0))) ∧ Aside0 (wc.heap[gb358]? = some (.cells #[.int .i64 a1] 2 (0, 0))) ∧ Aside0 (wc.heap[gb359]? = some (.cells #[.int .i64 a2] 2 (0, 0))) ∧ Aside0 (wc.heap[gb360]? = some (.cells #[(.slice none 0 0), .int .i64 0, .int .i64 0, (.slice none 0 0), .int .i64 0] 29 (0, 0))) ∧ Aside0 (wc.heap[gb363]? = some (.cells #[.int .i64 (wrap64 (t362 - (wrap64 (a2 - a1))))] 2 (0, 0))) ∧ Aside0 (wc.heap[gb383]? = some (.cells #[(.slice Ao59 t378.length co59), .int .i64 t381, .int .i64 t382] 25 (0, 0))) ∧ Aside0 (Below w.heap.size w wc))
         case first =>
          have H := HC42.out
          clear HC42
          by_cases c63 : a1 = a2
          ·rw [if_pos c63] at H
           have c63b0 : (a1 == a2) = true := beq_iff_eq.mpr c63
           have c63b1 : (a1 != a2) = false := bne_eq_false_iff_eq.mpr c63
           clear c63
           (first | rw [c63b0] | (simp only [i64_w, i32_w]; rw [c63b0]) | (have e9_ := c63b0; unfold bne at e9_; rw [e9_]) | skip)
           have H' := Aside0.mk H
           clear H
           have hnb64 := NB358_357.out
           have hnc64 := NB357_358.out
           have hnb65 := NB358_359.out
           have hnc65 := NB359_358.out
           have hnb66 := NB358_360.out
           have hnc66 := NB360_358.out
           have hnb67 := NB358_363.out
           have hnc67 := NB363_358.out
           have hnb68 := NB358_383.out
           have hnc68 := NB383_358.out
           have hcz69_0 : w58.cell? ⟨gb358, 0, none⟩ = some (.int .i64 a1) := bc BK358.out 0
           have hfz69_0 := blk_frozen BK358.out 0
           have hnb70 := NB359_357.out
           have hnc70 := NB357_359.out
           have hnb71 := NB359_360.out
           have hnc71 := NB360_359.out
           have hnb72 := NB359_363.out
           have hnc72 := NB363_359.out
           have hnb73 := NB359_383.out
           have hnc73 := NB383_359.out
           have hcz74_0 : w58.cell? ⟨gb359, 0, none⟩ = some (.int .i64 a2) := bc BK359.out 0
           have hfz74_0 := blk_frozen BK359.out 0
           have hnb75 := NB357_360.out
           have hnc75 := NB360_357.out
           have hnb76 := NB357_363.out
           have hnc76 := NB363_357.out
           have hnb77 := NB357_383.out
           have hnc77 := NB383_357.out
           have hcz78_0 : w58.cell? ⟨gb357, 0, none⟩ = some (.slice A0_0 l0_0.length c0_0) := bc BK357.out 0
           have hcz78_1 : w58.cell? ⟨gb357, 1, none⟩ = some (.int .i64 a0_1) := bc BK357.out 1
           have hcz78_2 : w58.cell? ⟨gb357, 2, none⟩ = some (.int .i64 a0_2) := bc BK357.out 2
           have hfz78_0 := blk_frozen BK357.out 0
           have hfz78_1 := blk_frozen BK357.out 1
           have hfz78_2 := blk_frozen BK357.out 2
           go_wp2
           go_meet
           case rel => exact ⟨_, ((a0_1 == a1)), (by first | rfl | (simp; done) | (simp [*]; done)), H', ⟨by have := HJ4.out; first | omega | exact Nat.le_refl _⟩, ⟨kv (Kd.V_mono (Kd.V_far (p := ⟨gb383, 2, none⟩) (Kd.V_far (p := ⟨gb383, 1, none⟩) (Kd.V_far (p := ⟨gb383, 0, none⟩) (Kd.V_mono HO_3.out (fun k_ hk => (⟨hk, hk.2.2.2.2.2.2.2.2⟩ : _ ∧ k_ ≠ gb383))) (fun _ hk => hk.2) (.slice Ao59 t378.length co59)) (fun _ hk => hk.2) (.int .i64 t381)) (fun _ hk => hk.2) (.int .i64 t382)) (fun _ hk => ⟨hk.1.1, ⟨hk.1.2.2.1, ⟨hk.1.2.2.2.1, ⟨hk.1.2.2.2.2.1, ⟨hk.1.2.2.2.2.2.1, ⟨hk.1.2.2.2.2.2.2.1, ⟨hk.1.2.2.2.2.2.2.2.1, hk.1.2.2.2.2.2.2.2.2⟩⟩⟩⟩⟩⟩⟩))⟩, ⟨kv (Kd.V_mono (Kd.V_far (p := ⟨gb383, 2, none⟩) (Kd.V_far (p := ⟨gb383, 1, none⟩) (Kd.V_far (p := ⟨gb383, 0, none⟩) (Kd.V_mono HO_358000.out (fun k_ hk => (⟨hk, hk.2.2.2.2.2.2.2.2⟩ : _ ∧ k_ ≠ gb383))) (fun _ hk => hk.2) (.slice Ao59 t378.length co59)) (fun _ hk => hk.2) (.int .i64 t381)) (fun _ hk => hk.2) (.int .i64 t382)) (fun _ hk => ⟨hk.1.1, ⟨hk.1.2.2.1, ⟨hk.1.2.2.2.1, ⟨hk.1.2.2.2.2.1, ⟨hk.1.2.2.2.2.2.1, ⟨hk.1.2.2.2.2.2.2.1, ⟨hk.1.2.2.2.2.2.2.2.1, hk.1.2.2.2.2.2.2.2.2⟩⟩⟩⟩⟩⟩⟩))⟩, ⟨kr (Kd.R_mono (Kd.R_far (p := ⟨gb383, 2, none⟩) (Kd.R_far (p := ⟨gb383, 1, none⟩) (Kd.R_far (p := ⟨gb383, 0, none⟩) (Kd.R_types HO380.out BK383.out (by decide)) (fun _ hk => hk.2) (.slice Ao59 t378.length co59)) (fun _ hk => hk.2) (.int .i64 t381)) (fun _ hk => hk.2) (.int .i64 t382)) (fun _ hk => ⟨hk.1.1, ⟨hk.1.2.1, ⟨hk.1.2.2.1, hk.1.2.2.2⟩⟩⟩))⟩, ⟨by (with_reducible repeat (first | refine blk_drewN ?_ _ | refine blk_drew ?_ | refine blk_alloc ?_ _)); refine blk_far ?_ NB357_383.out _; (with_reducible repeat (first | refine blk_drewN ?_ _ | refine blk_drew ?_ | refine blk_alloc ?_ _)); refine blk_far ?_ NB357_383.out _; (with_reducible repeat (first | refine blk_drewN ?_ _ | refine blk_drew ?_ | refine blk_alloc ?_ _)); refine blk_far ?_ NB357_383.out _; (with_reducible repeat (first | refine blk_drewN ?_ _ | refine blk_drew ?_ | refine blk_alloc ?_ _)); exact BK357.out⟩, ⟨by (with_reducible repeat (first | refine blk_drewN ?_ _ | refine blk_drew ?_ | refine blk_alloc ?_ _)); refine blk_far ?_ NB358_383.out _; (with_reducible repeat (first | refine blk_drewN ?_ _ | refine blk_drew ?_ | refine blk_alloc ?_ _)); refine blk_far ?_ NB358_383.out _; (with_reducible repeat (first | refine blk_drewN ?_ _ | refine blk_drew ?_ | refine blk_alloc ?_ _)); refine blk_far ?_ NB358_383.out _; (with_reducible repeat (first | refine blk_drewN ?_ _ | refine blk_drew ?_ | refine blk_alloc ?_ _)); exact BK358.out⟩, ⟨by (with_reducible repeat (first | refine blk_drewN ?_ _ | refine blk_drew ?_ | refine blk_alloc ?_ _)); refine blk_far ?_ NB359_383.out _; (with_reducible repeat (first | refine blk_drewN ?_ _ | refine blk_drew ?_ | refine blk_alloc ?_ _)); refine blk_far ?_ NB359_383.out _; (with_reducible repeat (first | refine blk_drewN ?_ _ | refine blk_drew ?_ | refine blk_alloc ?_ _)); refine blk_far ?_ NB359_383.out _; (with_reducible repeat (first | refine blk_drewN ?_ _ | refine blk_drew ?_ | refine blk_alloc ?_ _)); exact BK359.out⟩, ⟨by (with_reducible repeat (first | refine blk_drewN ?_ _ | refine blk_drew ?_ | refine blk_alloc ?_ _)); refine blk_far ?_ NB360_383.out _; (with_reducible repeat (first | refine blk_drewN ?_ _ | refine blk_drew ?_ | refine blk_alloc ?_ _)); refine blk_far ?_ NB360_383.out _; (with_reducible repeat (first | refine blk_drewN ?_ _ | refine blk_drew ?_ | refine blk_alloc ?_ _)); refine blk_far ?_ NB360_383.out _; (with_reducible repeat (first | refine blk_drewN ?_ _ | refine blk_drew ?_ | refine blk_alloc ?_ _)); exact BK360.out⟩, ⟨by (with_reducible repeat (first | refine blk_drewN ?_ _ | refine blk_drew ?_ | refine blk_alloc ?_ _)); refine blk_far ?_ NB363_383.out _; (with_reducible repeat (first | refine blk_drewN ?_ _ | refine blk_drew ?_ | refine blk_alloc ?_ _)); refine blk_far ?_ NB363_383.out _; (with_reducible repeat (first | refine blk_drewN ?_ _ | refine blk_drew ?_ | refine blk_alloc ?_ _)); refine blk_far ?_ NB363_383.out _; (with_reducible repeat (first | refine blk_drewN ?_ _ | refine blk_drew ?_ | refine blk_alloc ?_ _)); exact BK363.out⟩, ⟨by (with_reducible repeat (first | refine blk_drewN ?_ _ | refine blk_drew ?_ | refine blk_alloc ?_ _)); refine blk_put (cs := #[.slice Ao59 t378.length co59, .int .i64 t381, .int .i64 0]) ?_ 2 _ rfl; (with_reducible repeat (first | refine blk_drewN ?_ _ | refine blk_drew ?_ | refine blk_alloc ?_ _)); refine blk_put (cs := #[.slice Ao59 t378.length co59, .int .i64 0, .int .i64 0]) ?_ 1 _ rfl; (with_reducible repeat (first | refine blk_drewN ?_ _ | refine blk_drew ?_ | refine blk_alloc ?_ _)); refine blk_put (cs := #[.slice none 0 0, .int .i64 0, .int .i64 0]) ?_ 0 _ rfl; (with_reducible repeat (first | refine blk_drewN ?_ _ | refine blk_drew ?_ | refine blk_alloc ?_ _)); exact BK383.out⟩, ⟨by repeat (first | (with_reducible first | exact HB.out | apply below_alloc | apply pw_below_drewN | apply below_drew1 | refine below_set ?_ GE357.out | refine below_set ?_ GE358.out | refine below_set ?_ GE359.out | refine below_set ?_ GE360.out | refine below_set ?_ GE363.out | refine below_set ?_ GE383.out) | exact HB.out)⟩⟩
          ·rw [if_neg c63] at H
           have c63b0 : (a1 == a2) = false := beq_eq_false_iff_ne.mpr c63
           have c63b1 : (a1 != a2) = true := bne_iff_ne.mpr c63
           (first | rw [c63b0] | (simp only [i64_w, i32_w]; rw [c63b0]) | (have e9_ := c63b0; unfold bne at e9_; rw [e9_]) | skip)
           have H' := Aside0.mk H
           clear H
           have hnb79 := NB358_357.out
           have hnc79 := NB357_358.out
           have hnb80 := NB358_359.out
           have hnc80 := NB359_358.out
           have hnb81 := NB358_360.out
           have hnc81 := NB360_358.out
           have hnb82 := NB358_363.out
           have hnc82 := NB363_358.out
           have hnb83 := NB358_383.out
           have hnc83 := NB383_358.out
           have hcz84_0 : w58.cell? ⟨gb358, 0, none⟩ = some (.int .i64 a1) := bc BK358.out 0
           have hfz84_0 := blk_frozen BK358.out 0
           have hnb85 := NB359_357.out
           have hnc85 := NB357_359.out
           have hnb86 := NB359_360.out
           have hnc86 := NB360_359.out
           have hnb87 := NB359_363.out
           have hnc87 := NB363_359.out
           have hnb88 := NB359_383.out
           have hnc88 := NB383_359.out
           have hcz89_0 : w58.cell? ⟨gb359, 0, none⟩ = some (.int .i64 a2) := bc BK359.out 0
           have hfz89_0 := blk_frozen BK359.out 0
           go_wp2
           go_meet
           case rel => exact ⟨_, (false), (by first | rfl | (simp; done) | (simp [*]; done)), H', ⟨by have := HJ4.out; first | omega | exact Nat.le_refl _⟩, ⟨kv (Kd.V_mono (Kd.V_far (p := ⟨gb383, 2, none⟩) (Kd.V_far (p := ⟨gb383, 1, none⟩) (Kd.V_far (p := ⟨gb383, 0, none⟩) (Kd.V_mono HO_3.out (fun k_ hk => (⟨hk, hk.2.2.2.2.2.2.2.2⟩ : _ ∧ k_ ≠ gb383))) (fun _ hk => hk.2) (.slice Ao59 t378.length co59)) (fun _ hk => hk.2) (.int .i64 t381)) (fun _ hk => hk.2) (.int .i64 t382)) (fun _ hk => ⟨hk.1.1, ⟨hk.1.2.2.1, ⟨hk.1.2.2.2.1, ⟨hk.1.2.2.2.2.1, ⟨hk.1.2.2.2.2.2.1, ⟨hk.1.2.2.2.2.2.2.1, ⟨hk.1.2.2.2.2.2.2.2.1, hk.1.2.2.2.2.2.2.2.2⟩⟩⟩⟩⟩⟩⟩))⟩, ⟨kv (Kd.V_mono (Kd.V_far (p := ⟨gb383, 2, none⟩) (Kd.V_far (p := ⟨gb383, 1, none⟩) (Kd.V_far (p := ⟨gb383, 0, none⟩) (Kd.V_mono HO_358000.out (fun k_ hk => (⟨hk, hk.2.2.2.2.2.2.2.2⟩ : _ ∧ k_ ≠ gb383))) (fun _ hk => hk.2) (.slice Ao59 t378.length co59)) (fun _ hk => hk.2) (.int .i64 t381)) (fun _ hk => hk.2) (.int .i64 t382)) (fun _ hk => ⟨hk.1.1, ⟨hk.1.2.2.1, ⟨hk.1.2.2.2.1, ⟨hk.1.2.2.2.2.1, ⟨hk.1.2.2.2.2.2.1, ⟨hk.1.2.2.2.2.2.2.1, ⟨hk.1.2.2.2.2.2.2.2.1, hk.1.2.2.2.2.2.2.2.2⟩⟩⟩⟩⟩⟩⟩))⟩, ⟨kr (Kd.R_mono (Kd.R_far (p := ⟨gb383, 2, none⟩) (Kd.R_far (p := ⟨gb383, 1, none⟩) (Kd.R_far (p := ⟨gb383, 0, none⟩) (Kd.R_types HO380.out BK383.out (by decide)) (fun _ hk => hk.2) (.slice Ao59 t378.length co59)) (fun _ hk => hk.2) (.int .i64 t381)) (fun _ hk => hk.2) (.int .i64 t382)) (fun _ hk => ⟨hk.1.1, ⟨hk.1.2.1, ⟨hk.1.2.2.1, hk.1.2.2.2⟩⟩⟩))⟩, ⟨by (with_reducible repeat (first | refine blk_drewN ?_ _ | refine blk_drew ?_ | refine blk_alloc ?_ _)); refine blk_far ?_ NB357_383.out _; (with_reducible repeat (first | refine blk_drewN ?_ _ | refine blk_drew ?_ | refine blk_alloc ?_ _)); refine blk_far ?_ NB357_383.out _; (with_reducible repeat (first | refine blk_drewN ?_ _ | refine blk_drew ?_ | refine blk_alloc ?_ _)); refine blk_far ?_ NB357_383.out _; (with_reducible repeat (first | refine blk_drewN ?_ _ | refine blk_drew ?_ | refine blk_alloc ?_ _)); exact BK357.out⟩, ⟨by (with_reducible repeat (first | refine blk_drewN ?_ _ | refine blk_drew ?_ | refine blk_alloc ?_ _)); refine blk_far ?_ NB358_383.out _; (with_reducible repeat (first | refine blk_drewN ?_ _ | refine blk_drew ?_ | refine blk_alloc ?_ _)); refine blk_far ?_ NB358_383.out _; (with_reducible repeat (first | refine blk_drewN ?_ _ | refine blk_drew ?_ | refine blk_alloc ?_ _)); refine blk_far ?_ NB358_383.out _; (with_reducible repeat (first | refine blk_drewN ?_ _ | refine blk_drew ?_ | refine blk_alloc ?_ _)); exact BK358.out⟩, ⟨by (with_reducible repeat (first | refine blk_drewN ?_ _ | refine blk_drew ?_ | refine blk_alloc ?_ _)); refine blk_far ?_ NB359_383.out _; (with_reducible repeat (first | refine blk_drewN ?_ _ | refine blk_drew ?_ | refine blk_alloc ?_ _)); refine blk_far ?_ NB359_383.out _; (with_reducible repeat (first | refine blk_drewN ?_ _ | refine blk_drew ?_ | refine blk_alloc ?_ _)); refine blk_far ?_ NB359_383.out _; (with_reducible repeat (first | refine blk_drewN ?_ _ | refine blk_drew ?_ | refine blk_alloc ?_ _)); exact BK359.out⟩, ⟨by (with_reducible repeat (first | refine blk_drewN ?_ _ | refine blk_drew ?_ | refine blk_alloc ?_ _)); refine blk_far ?_ NB360_383.out _; (with_reducible repeat (first | refine blk_drewN ?_ _ | refine blk_drew ?_ | refine blk_alloc ?_ _)); refine blk_far ?_ NB360_383.out _; (with_reducible repeat (first | refine blk_drewN ?_ _ | refine blk_drew ?_ | refine blk_alloc ?_ _)); refine blk_far ?_ NB360_383.out _; (with_reducible repeat (first | refine blk_drewN ?_ _ | refine blk_drew ?_ | refine blk_alloc ?_ _)); exact BK360.out⟩, ⟨by (with_reducible repeat (first | refine blk_drewN ?_ _ | refine blk_drew ?_ | refine blk_alloc ?_ _)); refine blk_far ?_ NB363_383.out _; (with_reducible repeat (first | refine blk_drewN ?_ _ | refine blk_drew ?_ | refine blk_alloc ?_ _)); refine blk_far ?_ NB363_383.out _; (with_reducible repeat (first | refine blk_drewN ?_ _ | refine blk_drew ?_ | refine blk_alloc ?_ _)); refine blk_far ?_ NB363_383.out _; (with_reducible repeat (first | refine blk_drewN ?_ _ | refine blk_drew ?_ | refine blk_alloc ?_ _)); exact BK363.out⟩, ⟨by (with_reducible repeat (first | refine blk_drewN ?_ _ | refine blk_drew ?_ | refine blk_alloc ?_ _)); refine blk_put (cs := #[.slice Ao59 t378.length co59, .int .i64 t381, .int .i64 0]) ?_ 2 _ rfl; (with_reducible repeat (first | refine blk_drewN ?_ _ | refine blk_drew ?_ | refine blk_alloc ?_ _)); refine blk_put (cs := #[.slice Ao59 t378.length co59, .int .i64 0, .int .i64 0]) ?_ 1 _ rfl; (with_reducible repeat (first | refine blk_drewN ?_ _ | refine blk_drew ?_ | refine blk_alloc ?_ _)); refine blk_put (cs := #[.slice none 0 0, .int .i64 0, .int .i64 0]) ?_ 0 _ rfl; (with_reducible repeat (first | refine blk_drewN ?_ _ | refine blk_drew ?_ | refine blk_alloc ?_ _)); exact BK383.out⟩, ⟨by repeat (first | (with_reducible first | exact HB.out | apply below_alloc | apply pw_below_drewN | apply below_drew1 | refine below_set ?_ GE357.out | refine below_set ?_ GE358.out | refine below_set ?_ GE359.out | refine below_set ?_ GE360.out | refine below_set ?_ GE363.out | refine below_set ?_ GE383.out) | exact HB.out)⟩⟩
         case rest =>
          clear HC42
          try clear p2
          try clear c3
          try clear c5
          try clear c6
          try clear p6
          try clear c7
          try clear c8
          try clear c51
          try clear c63
          try clear c63b0
          try clear c63b1
          try clear c64
          try clear p64
          try clear c65
          try clear c66
          try clear c67
          try clear c68
          try clear c70
          try clear c71
          try clear c72
          try clear c73
          try clear c75
          try clear c76
          try clear c77
          try clear c79
          try clear c80
          try clear c81
          try clear c82
          try clear c83
          try clear c85
          try clear c86
          try clear c87
          try clear c88
          try clear hcz69_0
          try clear hcz74_0
          try clear hcz78_0
          try clear hcz78_1
          try clear hcz78_2
          try clear hcz84_0
          try clear hcz89_0
          try clear hfz69_0
          try clear hfz74_0
          try clear hfz78_0
          try clear hfz78_1
          try clear hfz78_2
          try clear hfz84_0
          try clear hfz89_0
          obtain ⟨kq, x69_41, rfl, HA, HJ41, HO_3, HO_358000, HO_384000, BK357, BK358, BK359, BK360, BK363, BK383, HB⟩ := hcut
          cases kq with
          | zero => exact absurd HA.out (by simp [impl_replace.j1])
          | succ kj41 =>
           have H := HA.out
           clear HA
           simp only [impl_replace.j1] at H
           have HC90 := Aside0.mk H
           clear H
           go_upto_if 69 with (fail)
           go_cut [] (fun wc => ∃ (kq : Nat) (x384001_89 : Int), Aside0 (impl_replace.j2 kq l0_0 a0_1 a0_2 a1 a2 t378 x384001_89 t382 = some (r1, r2, r3, r4, r5)) ∧ Aside0 (kq ≤ kj41) ∧ Aside0 (Kd.V (Kd.int .i64) 2 wc w.heap.size (fun k_ => ((P0_0_ k_ ∨ P3_ k_) ∨ w.heap.size ≤ k_) ∧ some k_ ≠ ((.slice Ao59 t378.length co59) : Value).ownBlock ∧ k_ ≠ gb357 ∧ k_ ≠ gb358 ∧ k_ ≠ gb359 ∧ k_ ≠ gb360 ∧ k_ ≠ gb363 ∧ k_ ≠ gb383) (.slice A0_0 l0_0.length c0_0) l0_0) ∧ Aside0 (Kd.R (Kd.int .i64) 2 wc w.heap.size (fun k_ => (w.heap.size ≤ k_) ∧ k_ ≠ gb358 ∧ k_ ≠ gb359 ∧ k_ ≠ gb363) (.slice Ao59 t378.length co59) t378) ∧ Aside0 (wc.heap[gb357]? = some (.cells #[(.slice A0_0 l0_0.length c0_0), .int .i64 a0_1, .int .i64 a0_2] 25 (0, 0))) ∧ Aside0 (wc.heap[gb358]? = some (.cells #[.int .i64 a1] 2 (0, 0))) ∧ Aside0 (wc.heap[gb359]? = some (.cells #[.int .i64 a2] 2 (0, 0))) ∧ Aside0 (wc.heap[gb360]? = some (.cells #[(.slice none 0 0), .int .i64 0, .int .i64 0, (.slice none 0 0), .int .i64 0] 29 (0, 0))) ∧ Aside0 (wc.heap[gb363]? = some (.cells #[.int .i64 (wrap64 (t362 - (wrap64 (a2 - a1))))] 2 (0, 0))) ∧ Aside0 (wc.heap[gb383]? = some (.cells #[(.slice Ao59 t378.length co59), .int .i64 x384001_89, .int .i64 t382] 25 (0, 0))) ∧ Aside0 (Below w.heap.size w wc))
           case first =>
            have H := HC90.out
            clear HC90
            by_cases c91 : x69_41 = true
            ·subst c91
             have H1 : ((impl_size_int64.f l3).bind fun t384 => (impl_replace.j2 kj41 l0_0 a0_1 a0_2 a1 a2 t378 (wrap64 (a1 + t384)) t382)) = some (r1, r2, r3, r4, r5) := by rw [if_pos rfl] at H; exact H
             clear H
             have H := H1
             clear H1
             replace H := Option.bind_eq_some_iff.mp H
             obtain ⟨t384, A920, H⟩ := H
             replace H : (impl_replace.j2 kj41 l0_0 a0_1 a0_2 a1 a2 t378 (wrap64 (a1 + t384)) t382) = some (r1, r2, r3, r4, r5) := H
             have A92 := Aside0.mk A920
             clear A920
             have H' := Aside0.mk H
             clear H
             try go_wp2
             replace HO_3 := am (Kd.V_drew HO_3.out)
             replace HO_358000 := am (Kd.V_drew HO_358000.out)
             replace HO_384000 := am (Kd.R_drew HO_384000.out)
             replace BK357 := am (blk_drew BK357.out)
             replace BK358 := am (blk_drew BK358.out)
             replace BK359 := am (blk_drew BK359.out)
             replace BK360 := am (blk_drew BK360.out)
             replace BK363 := am (blk_drew BK363.out)
             replace BK383 := am (blk_drew BK383.out)
             replace HB := am (below_drew1 HB.out)
             refine start_ (n := 6) (S := fun w' => w'.cell? ⟨gb358, 0, none⟩ = some (.int .i64 a1)) (ds := []) b45_26 (by kernel_rfl) rfl rfl (bc BK358.out 0) (fun hHeld => ?_)
             generalize wc.drew = w93 at HO_3 HO_358000 HO_384000 BK357 BK358 BK359 BK360 BK363 BK383 HB hHeld ⊢
             refine pure_ (i := 1) (N := some 71) (v := ?_) (a' := ?_) #[false, true, false, false, false, false] rfl rfl (by kernel_rfl) (fun _ _ _ h => h) (Or.inl ⟨by rfl, ?_⟩) ?_ ?_; rotate_left
             ·intro w'; go_simp; with_reducible rfl
             rotate_left
             ·simp only [Act.put, sa_, s0_, ss_, i64_w, i32_w]; rfl
             refine take_ (i := 0) (N := some 70) (v := ?_) (a' := ?_) b45_28 rfl rfl (by kernel_rfl) (fun _ _ _ h => h) (Or.inl ⟨by rfl, ?_⟩) hHeld ?_ ?_; rotate_left
             ·intro w' s0
              go_simp
              with_reducible rfl
             rotate_left
             ·simp only [Act.put, sa_, s0_, ss_, i64_w, i32_w]; rfl
             refine one_ (i := 2) (N := some 72) #[true, true, true, false, false, false] rfl rfl (by kernel_rfl) (by decide) (fun K hK => ?_)
             refine goes_ Try.func72 (by kernel_rfl) rfl #[.slice A3 l3.length c3] (by rfl) rfl rfl (by (try simp only [List.map_toArray, List.map_cons, List.map_nil]); first | done | rfl | (simp only [List.length_drop, List.length_take]; rfl)) ?_
             with_reducible refine (impl_size_int64.calls _ _ l3 t384 _ A92.out).mono ?_
             rintro e w' ⟨rfl, ⟨nd, rfl⟩⟩
             refine ⟨_, rfl, ?_⟩
             refine hK.out _ _ (bc BK358.out 0) (fun hHeld => ?_)
             clear hK K
             refine norm_ (a' := ?_) ?_ ?_
             rotate_left
             ·show Act.put _ (some 72) _ = _
              simp only [Act.put, sa_, s0_, ss_, i64_w, i32_w]
              rfl
             refine pure_ (i := 3) (N := some 73) (v := ?_) (a' := ?_) b45_30 rfl rfl (by kernel_rfl) (fun _ _ _ h => h) (Or.inl ⟨by rfl, ?_⟩) ?_ ?_; rotate_left
             ·intro w'; go_simp; with_reducible rfl
             rotate_left
             ·simp only [Act.put, sa_, s0_, ss_, i64_w, i32_w]; rfl
             refine pure_ (i := 4) (N := some 74) (v := ?_) (a' := ?_) b45_31 rfl rfl (by kernel_rfl) (fun _ _ _ h => h) (Or.inl ⟨by rfl, ?_⟩) ?_ ?_; rotate_left
             ·intro w'; go_simp; with_reducible rfl
             rotate_left
             ·simp only [Act.put, sa_, s0_, ss_, i64_w, i32_w]; rfl
             refine one_ (i := 5) (N := none) b45_32 rfl rfl (by kernel_rfl) (by decide) (fun K hK => ?_)
             have hs94 : w93.cell? ⟨gb383, 1, none⟩ = some (.int .i64 t381) := bc BK383.out 1
             have hfs94 := blk_frozen BK383.out 1
             have hns94_0 := NB357_383.out
             have hns94_1 := NB358_383.out
             have hns94_2 := NB359_383.out
             have hns94_3 := NB360_383.out
             have hns94_4 := NB363_383.out
             have hms94_0 := NB383_357.out
             have hms94_1 := NB383_358.out
             have hms94_2 := NB383_359.out
             have hms94_3 := NB383_360.out
             have hms94_4 := NB383_363.out
             refine skip_ (w1 := ?_) (by rfl) rfl ?_ ?_
             rotate_left
             ·go_simp
              rfl
             refine hK.out _ _ (((cell_far (p := ⟨gb383, _, none⟩) NB358_383.out _).trans (hHeld))) (fun hHeld => ?_)
             clear hK K
             refine done_ (by kernel_rfl) ?_
             (try (rw [drewN_self w93]; generalize hq_ : World.drewN w93 _ = w93; replace HO_3 := am (vAt2 hq_ HO_3.out); replace HO_358000 := am (vAt2 hq_ HO_358000.out); replace HO_384000 := am (Kd.R_at hq_ HO_384000.out); replace BK357 := am (blk_at hq_ BK357.out); replace BK358 := am (blk_at hq_ BK358.out); replace BK359 := am (blk_at hq_ BK359.out); replace BK360 := am (blk_at hq_ BK360.out); replace BK363 := am (blk_at hq_ BK363.out); replace BK383 := am (blk_at hq_ BK383.out); replace HB := am (below_at hq_ HB.out); clear hq_))
             try go_wp2
             go_meet
             case rel => exact ⟨_, (wrap64 (a1 + t384)), H', ⟨by have := HJ4.out; have := HJ41.out; first | omega | exact Nat.le_refl _⟩, ⟨kv (Kd.V_mono (Kd.V_far (p := ⟨gb383, 1, none⟩) (Kd.V_mono HO_358000.out (fun k_ hk => (⟨hk, hk.2.2.2.2.2.2.2⟩ : _ ∧ k_ ≠ gb383))) (fun _ hk => hk.2) (.int .i64 (wrap64 (a1 + t384)))) (fun _ hk => ⟨hk.1.1, ⟨hk.1.2.1, ⟨hk.1.2.2.1, ⟨hk.1.2.2.2.1, ⟨hk.1.2.2.2.2.1, ⟨hk.1.2.2.2.2.2.1, ⟨hk.1.2.2.2.2.2.2.1, hk.1.2.2.2.2.2.2.2⟩⟩⟩⟩⟩⟩⟩))⟩, ⟨kr (Kd.R_mono (Kd.R_far (p := ⟨gb383, 1, none⟩) (Kd.R_types HO_384000.out BK383.out (by decide)) (fun _ hk => hk.2) (.int .i64 (wrap64 (a1 + t384)))) (fun _ hk => ⟨hk.1.1, ⟨hk.1.2.1, ⟨hk.1.2.2.1, hk.1.2.2.2⟩⟩⟩))⟩, ⟨by (with_reducible repeat (first | refine blk_drewN ?_ _ | refine blk_drew ?_ | refine blk_alloc ?_ _)); refine blk_far ?_ NB357_383.out _; (with_reducible repeat (first | refine blk_drewN ?_ _ | refine blk_drew ?_ | refine blk_alloc ?_ _)); exact BK357.out⟩, ⟨by (with_reducible repeat (first | refine blk_drewN ?_ _ | refine blk_drew ?_ | refine blk_alloc ?_ _)); refine blk_far ?_ NB358_383.out _; (with_reducible repeat (first | refine blk_drewN ?_ _ | refine blk_drew ?_ | refine blk_alloc ?_ _)); exact BK358.out⟩, ⟨by (with_reducible repeat (first | refine blk_drewN ?_ _ | refine blk_drew ?_ | refine blk_alloc ?_ _)); refine blk_far ?_ NB359_383.out _; (with_reducible repeat (first | refine blk_drewN ?_ _ | refine blk_drew ?_ | refine blk_alloc ?_ _)); exact BK359.out⟩, ⟨by (with_reducible repeat (first | refine blk_drewN ?_ _ | refine blk_drew ?_ | refine blk_alloc ?_ _)); refine blk_far ?_ NB360_383.out _; (with_reducible repeat (first | refine blk_drewN ?_ _ | refine blk_drew ?_ | refine blk_alloc ?_ _)); exact BK360.out⟩, ⟨by (with_reducible repeat (first | refine blk_drewN ?_ _ | refine blk_drew ?_ | refine blk_alloc ?_ _)); refine blk_far ?_ NB363_383.out _; (with_reducible repeat (first | refine blk_drewN ?_ _ | refine blk_drew ?_ | refine blk_alloc ?_ _)); exact BK363.out⟩, ⟨by (with_reducible repeat (first | refine blk_drewN ?_ _ | refine blk_drew ?_ | refine blk_alloc ?_ _)); refine blk_put (cs := #[.slice Ao59 t378.length co59, .int .i64 t381, .int .i64 t382]) ?_ 1 _ rfl; (with_reducible repeat (first | refine blk_drewN ?_ _ | refine blk_drew ?_ | refine blk_alloc ?_ _)); exact BK383.out⟩, ⟨by repeat (first | (with_reducible first | exact HB.out | apply below_alloc | apply pw_below_drewN | apply below_drew1 | refine below_set ?_ GE357.out | refine below_set ?_ GE358.out | refine below_set ?_ GE359.out | refine below_set ?_ GE360.out | refine below_set ?_ GE363.out | refine below_set ?_ GE383.out) | exact HB.out)⟩⟩
            ·replace c91 := Bool.eq_false_iff.mpr c91
             subst c91
             have H1 : (impl_replace.j2 kj41 l0_0 a0_1 a0_2 a1 a2 t378 t381 t382) = some (r1, r2, r3, r4, r5) := by rw [if_neg (show ¬ (false = true) by decide)] at H; exact H
             clear H
             have H := H1
             clear H1
             have H' := Aside0.mk H
             clear H
             go_wp2
             go_meet
             case rel => exact ⟨_, (t381), H', ⟨by have := HJ4.out; have := HJ41.out; first | omega | exact Nat.le_refl _⟩, ⟨kv HO_358000.out⟩, ⟨kr HO_384000.out⟩, ⟨pk BK357.out⟩, ⟨pk BK358.out⟩, ⟨pk BK359.out⟩, ⟨pk BK360.out⟩, ⟨pk BK363.out⟩, ⟨pk BK383.out⟩, ⟨by repeat (first | (with_reducible first | exact HB.out | apply below_alloc | apply pw_below_drewN | apply below_drew1 | refine below_set ?_ GE357.out | refine below_set ?_ GE358.out | refine below_set ?_ GE359.out | refine below_set ?_ GE360.out | refine below_set ?_ GE363.out | refine below_set ?_ GE383.out) | exact HB.out)⟩⟩
           case rest =>
            clear HC90
            try clear p2
            try clear c3
            try clear c5
            try clear c6
            try clear p6
            try clear c7
            try clear c8
            try clear c9
            try clear c51
            try clear c63
            try clear c63b0
            try clear c63b1
            try clear c64
            try clear p64
            try clear c65
            try clear c66
            try clear c67
            try clear c68
            try clear c70
            try clear c71
            try clear c72
            try clear c73
            try clear c75
            try clear c76
            try clear c77
            try clear c79
            try clear c80
            try clear c81
            try clear c82
            try clear c83
            try clear c85
            try clear c86
            try clear c87
            try clear c88
            try clear c91
            try clear hcz69_0
            try clear hcz74_0
            try clear hcz78_0
            try clear hcz78_1
            try clear hcz78_2
            try clear hcz84_0
            try clear hcz89_0
            try clear hfz69_0
            try clear hfz74_0
            try clear hfz78_0
            try clear hfz78_1
            try clear hfz78_2
            try clear hfz84_0
            try clear hfz89_0
            try clear p2
            try clear p6
            try clear p64
            obtain ⟨kq, x384001_89, HA, HJ89, HO_358000, HO_384000, BK357, BK358, BK359, BK360, BK363, BK383, HB⟩ := hcut
            cases kq with
            | zero => exact absurd HA.out (by simp [impl_replace.j2])
            | succ kj89 =>
             have H := HA.out
             clear HA
             simp only [impl_replace.j2] at H
             by_cases c95 : 0 ≤ a1
             ·rw [if_pos c95] at H
              have c95b0 := eq_true c95
              have c95b1 : decide (0 ≤ a1) = true := decide_eq_true c95
              clear c95
              by_cases c96 : a1 ≤ a2
              ·rw [if_pos c96] at H
               have c96b0 := eq_true c96
               have c96b1 : decide (a1 ≤ a2) = true := decide_eq_true c96
               clear c96
               by_cases c97 : a2 ≤ (l0_0.length : Int)
               ·rw [if_pos c97] at H
                have c97b0 := eq_true c97
                have c97b1 : decide (a2 ≤ (l0_0.length : Int)) = true := decide_eq_true c97
                clear c97
                obtain ⟨y385, hy385⟩ : ∃ y_ : List Int, y_ = ((l0_0.take (a2 : Int).toNat).drop (a1 : Int).toNat) := ⟨_, rfl⟩
                replace H : ((slices_Clone_sint64_int64.f y385).bind fun t390 => (some (t378, x384001_89, t382, t390, 0))) = some (r1, r2, r3, r4, r5) := by first | (rw [hy385]; with_reducible exact H) | (have H2_ := (Option.bind_some _ _).symm.trans H; rw [hy385]; with_reducible exact H2_) | (have H2_ := (Option.bind_some _ _).symm.trans H; with_reducible exact H2_) | with_reducible exact H | (rw [hy385]; exact H) | exact H
                have Ny385 := am hy385
                clear hy385
                replace H := Option.bind_eq_some_iff.mp H
                obtain ⟨t390, A980, H⟩ := H
                replace H : (some (t378, x384001_89, t382, t390, 0)) = some (r1, r2, r3, r4, r5) := H
                have A98 := Aside0.mk A980
                clear A980
                simp only [Option.some.injEq, Prod.mk.injEq] at H
                obtain ⟨rfl, rfl, rfl, rfl, rfl⟩ := H
                try go_wp2
                replace HO_358000 := am (Kd.V_drew HO_358000.out)
                replace HO_384000 := am (Kd.R_drew HO_384000.out)
                replace BK357 := am (blk_drew BK357.out)
                replace BK358 := am (blk_drew BK358.out)
                replace BK359 := am (blk_drew BK359.out)
                replace BK360 := am (blk_drew BK360.out)
                replace BK363 := am (blk_drew BK363.out)
                replace BK383 := am (blk_drew BK383.out)
                replace HB := am (below_drew1 HB.out)
                have q100 : (a2 : Int) ≤ ((l0_0.length : Int) : Int) := of_decide_eq_true (by first | (with_reducible assumption) | assumption)
                obtain ⟨i0100, hi0100, _, hsz100, _⟩ := info_parts info2
                have hroom100 : l0_0.length ≤ c0_0 := (Kd.V_reads' HO_358000.out).2.1
                have hC100 : Kd.F (Kd.int .i64) _ _ A0_0 l0_0.length l0_0 := (Kd.V_at (base := w.heap.size) HO_358000.out).2.2
                have ql100 : (a1 : Int) ≤ (a2 : Int) := of_decide_eq_true (by first | (with_reducible assumption) | assumption)
                have q0100 : (0 : Int) ≤ (a1 : Int) := of_decide_eq_true (by first | (with_reducible assumption) | assumption)
                have hcut100 := cut_mid (P := Try.prog) 23 2 .i64 .i64 Try.underlying23 hi0100 1 hsz100 A0_0 l0_0.length c0_0 a1 a2 q0100 ql100 q100 hroom100
                have hr100 := Kd.F_mid (lo := (a1 : Int).toNat) (hi := (a2 : Int).toNat) (c := c0_0) hC100 (by omega) (by omega) hroom100
                obtain ⟨A100, hA100⟩ : ∃ A1, A1 = (if c0_0 = (a1 : Int).toNat then A0_0 else (A0_0 : Option Addr).map (·.add ((a1 : Int).toNat * 1))) := ⟨_, rfl⟩
                obtain ⟨c100, hc100⟩ : ∃ c1, c1 = c0_0 - (a1 : Int).toNat := ⟨_, rfl⟩
                have hy100 : y385.length = (a2 : Int).toNat - (a1 : Int).toNat := (by rw [Ny385.out, List.length_drop, List.length_take] <;> omega)
                rw [show ((l0_0).take (a2 : Int).toNat).drop (a1 : Int).toNat = y385 from Ny385.out.symm] at hr100
                replace hr100 : Kd.F (Kd.int .i64) _ _ A100 y385.length y385 := (by rw [hA100]; exact hr100)
                rw [← hy100, ← hA100, ← hc100] at hcut100
                have HO389 := am (show Kd.V (Kd.int .i64) 2 _ w.heap.size _ (.slice A100 y385.length c100) y385 from Kd.V_mk (by rw [hy100, hc100]; exact Nat.sub_le_sub_right (Nat.le_trans (by omega) hroom100) _) hr100)
                have HC389 := am (show y385.length ≤ c100 from by rw [hy100, hc100]; exact Nat.sub_le_sub_right (Nat.le_trans (by omega) hroom100) _)
                clear hr100 hC100 hroom100 hi0100 hsz100 hc100
                have KY100 := am hy100
                have KA100 := am hA100
                clear hy100 hA100
                replace q100 := eq_true q100
                refine start_ (n := 9) (S := fun w' => w'.cell? ⟨gb383, 0, none⟩ = some (.slice Ao59 t378.length co59) ∧ w'.cell? ⟨gb383, 1, none⟩ = some (.int .i64 x384001_89) ∧ w'.cell? ⟨gb383, 2, none⟩ = some (.int .i64 t382) ∧ w'.cell? ⟨gb357, 0, none⟩ = some (.slice A0_0 l0_0.length c0_0) ∧ w'.cell? ⟨gb357, 1, none⟩ = some (.int .i64 a0_1) ∧ w'.cell? ⟨gb357, 2, none⟩ = some (.int .i64 a0_2) ∧ w'.cell? ⟨gb358, 0, none⟩ = some (.int .i64 a1) ∧ w'.cell? ⟨gb359, 0, none⟩ = some (.int .i64 a2)) (ds := []) #[false, false, false, false, false, false, false, false, false] (by kernel_rfl) rfl rfl ⟨bc BK383.out 0, bc BK383.out 1, bc BK383.out 2, bc BK357.out 0, bc BK357.out 1, bc BK357.out 2, bc BK358.out 0, bc BK359.out 0⟩ (fun hHeld => ?_); refine with_tabW impl_replace.tab10 impl_replace.bits10 (fun HT_ HW_ => ?_)
                generalize wc.drew = w99 at HO_358000 HO_384000 BK357 BK358 BK359 BK360 BK363 BK383 HB HO389 hHeld ⊢
                refine pure_ (i := 1) (N := some 76) (v := ?_) (a' := ?_) #[false, true, false, false, false, false, false, false, false] rfl rfl (any_of HT_.out (by kernel_rfl)) (fun _ _ _ h => h) (Or.inl ⟨by rfl, ?_⟩) ?_ ?_; rotate_left
                ·intro w'; go_simp; with_reducible rfl
                rotate_left
                ·simp only [Act.put, sa_, s0_, ss_, i64_w, i32_w]; rfl
                refine take_ (i := 0) (N := some 75) (v := ?_) (a' := ?_) #[true, true, false, false, false, false, false, false, false] rfl rfl (take_ofW HT_.out HW_.out (by kernel_rfl)) (fun _ _ _ h => h) (Or.inl ⟨by rfl, ?_⟩) hHeld ?_ ?_; rotate_left
                ·rintro w' ⟨s0, s1, s2, s3, s4, s5, s6, s7⟩; go_simp; with_reducible rfl
                rotate_left
                ·simp only [Act.put, sa_, s0_, ss_, i64_w, i32_w]; rfl
                refine take_ (i := 2) (N := some 77) (v := ?_) (a' := ?_) #[true, true, true, false, false, false, false, false, false] rfl rfl (take_ofW HT_.out HW_.out (by kernel_rfl)) (fun _ _ _ h => h) (Or.inl ⟨by rfl, ?_⟩) hHeld ?_ ?_; rotate_left
                ·rintro w' ⟨s0, s1, s2, s3, s4, s5, s6, s7⟩; go_simp; with_reducible rfl
                rotate_left
                ·simp only [Act.put, sa_, s0_, ss_, i64_w, i32_w]; rfl
                refine take_ (i := 3) (N := some 78) (v := ?_) (a' := ?_) #[true, true, true, true, false, false, false, false, false] rfl rfl (take_ofW HT_.out HW_.out (by kernel_rfl)) (fun _ _ _ h => h) (Or.inl ⟨by rfl, ?_⟩) hHeld ?_ ?_; rotate_left
                ·rintro w' ⟨s0, s1, s2, s3, s4, s5, s6, s7⟩; go_simp; with_reducible rfl
                rotate_left
                ·simp only [Act.put, sa_, s0_, ss_, i64_w, i32_w]; rfl
                refine take_ (i := 4) (N := some 79) (v := ?_) (a' := ?_) #[true, true, true, true, true, false, false, false, false] rfl rfl (take_ofW HT_.out HW_.out (by kernel_rfl)) (fun _ _ _ h => h) (Or.inl ⟨by rfl, ?_⟩) hHeld ?_ ?_; rotate_left
                ·rintro w' ⟨s0, s1, s2, s3, s4, s5, s6, s7⟩; go_simp; with_reducible rfl
                rotate_left
                ·simp only [Act.put, sa_, s0_, ss_, i64_w, i32_w]; rfl
                refine pure_ (i := 5) (N := some 80) (v := ?_) (a' := ?_) #[true, true, true, true, true, true, false, false, false] rfl rfl (any_of HT_.out (by kernel_rfl)) (fun _ _ _ h => h) (Or.inl ⟨by rfl, ?_⟩) ?_ ?_; rotate_left
                ·intro w'; go_simp; with_reducible rfl
                rotate_left
                ·simp only [Act.put, sa_, s0_, ss_, i64_w, i32_w]; rfl
                refine one_ (i := 6) (N := some 81) #[true, true, true, true, true, true, true, false, false] rfl rfl (one_of HT_.out (by kernel_rfl)) (by decide) (fun K hK => ?_)
                refine goes_ Try.func68 (by kernel_rfl) rfl #[.slice A100 y385.length c100] (by rfl) rfl rfl (by (try simp only [List.map_toArray, List.map_cons, List.map_nil]); first | done | rfl | (simp only [List.length_drop, List.length_take]; rfl)) ?_
                with_reducible refine (slices_Clone_sint64_int64.calls _ _ y385 t390 _ ?side1 ?side2 A98.out).mono ?_
                (case side1 => repeat (first | exact (Kd.V_reads' HO389.out).2.2 | (with_reducible refine Kd.C_alloc ?_ _) | (with_reducible refine Kd.C_drewN ?_ _) | (with_reducible refine Kd.C_drew ?_)))
                (case side2 => exact (Kd.V_reads' HO389.out).2.1)
                rintro e w101 ⟨v391, rfl, ho0, hb⟩
                refine ⟨_, rfl, ?_⟩
                replace HO_358000 := am (Kd.V_elder' (kv HO_358000.out) (Kd.R_base ho0) hb)
                replace HO389 := am (Kd.V_elder' (kv HO389.out) (Kd.R_base ho0) hb)
                have HO392 := am (Kd.R_lower (Kd.R_newB (Kd.R_newB (Kd.R_newB (Kd.R_new' (Kd.R_newM (M := fun k_ => (w.heap.size ≤ k_)) ho0 (below_size (bl HB.out)) (fun k_ h_ => h_)) (Kd.R_lt (kr HO_384000.out))) (g := gb358) (o := .cells #[.int .i64 a1] 2 (0, 0)) (pk BK358.out)) (g := gb359) (o := .cells #[.int .i64 a2] 2 (0, 0)) (pk BK359.out)) (g := gb363) (o := .cells #[.int .i64 (wrap64 (t362 - (wrap64 (a2 - a1))))] 2 (0, 0)) (pk BK363.out)) (below_size (bl HB.out)))
                replace HO_384000 := am (Kd.R_elder' (kr HO_384000.out) (Kd.R_base ho0) hb)
                replace BK357 := am (blk_below (pk BK357.out) hb)
                replace BK358 := am (blk_below (pk BK358.out) hb)
                replace BK359 := am (blk_below (pk BK359.out) hb)
                replace BK360 := am (blk_below (pk BK360.out) hb)
                replace BK363 := am (blk_below (pk BK363.out) hb)
                replace BK383 := am (blk_below (pk BK383.out) hb)
                replace HB := am (below_step (bl HB.out) hb)
                (try clear hb)
                (try clear hb2)
                (try clear hk)
                (try clear hi)
                (try clear ho0)
                obtain ⟨Ao102, co102, eo102⟩ := Kd.R_slice HO392.out
                (first | subst eo102 | (injection eo102 with f1_ f2_ f3_; have f4_ := f1_.symm; have f5_ := f3_.symm; clear f1_ f2_ f3_; subst f4_; subst f5_))
                refine hK.out _ _ ⟨bc BK383.out 0, bc BK383.out 1, bc BK383.out 2, bc BK357.out 0, bc BK357.out 1, bc BK357.out 2, bc BK358.out 0, bc BK359.out 0⟩ (fun hHeld => ?_)
                clear hK K
                refine norm_ (a' := ?_) ?_ ?_
                rotate_left
                ·show Act.put _ (some 81) _ = _
                 simp only [Act.put, sa_, s0_, ss_, i64_w, i32_w]
                 rfl
                refine pure_ (i := 7) (N := some 82) (v := ?_) (a' := ?_) #[true, true, true, true, true, true, true, true, false] rfl rfl (any_of HT_.out (by kernel_rfl)) (fun _ _ _ h => h) (Or.inl ⟨by rfl, ?_⟩) ?_ ?_; rotate_left
                ·intro w'; go_simp; with_reducible rfl
                rotate_left
                ·simp only [Act.put, sa_, s0_, ss_, i64_w, i32_w]; rfl
                refine one_ (i := 8) (N := none) #[true, true, true, true, true, true, true, true, true] rfl rfl (one_of HT_.out (by kernel_rfl)) (by decide) (fun K hK => ?_)
                have hs103 : w101.cell? ⟨gb360, 0, none⟩ = some (.slice none 0 0) := bc BK360.out 0
                have hfs103 := blk_frozen BK360.out 0
                have hns103_0 := NB357_360.out
                have hns103_1 := NB358_360.out
                have hns103_2 := NB359_360.out
                have hns103_4 := NB363_360.out
                have hns103_5 := NB383_360.out
                have hms103_0 := NB360_357.out
                have hms103_1 := NB360_358.out
                have hms103_2 := NB360_359.out
                have hms103_4 := NB360_363.out
                have hms103_5 := NB360_383.out
                have hs104 : w101.cell? ⟨gb360, 1, none⟩ = some (.int .i64 0) := bc BK360.out 1
                have hfs104 := blk_frozen BK360.out 1
                have hns104_0 := NB357_360.out
                have hns104_1 := NB358_360.out
                have hns104_2 := NB359_360.out
                have hns104_4 := NB363_360.out
                have hns104_5 := NB383_360.out
                have hms104_0 := NB360_357.out
                have hms104_1 := NB360_358.out
                have hms104_2 := NB360_359.out
                have hms104_4 := NB360_363.out
                have hms104_5 := NB360_383.out
                have hs105 : w101.cell? ⟨gb360, 2, none⟩ = some (.int .i64 0) := bc BK360.out 2
                have hfs105 := blk_frozen BK360.out 2
                have hns105_0 := NB357_360.out
                have hns105_1 := NB358_360.out
                have hns105_2 := NB359_360.out
                have hns105_4 := NB363_360.out
                have hns105_5 := NB383_360.out
                have hms105_0 := NB360_357.out
                have hms105_1 := NB360_358.out
                have hms105_2 := NB360_359.out
                have hms105_4 := NB360_363.out
                have hms105_5 := NB360_383.out
                have hs106 : w101.cell? ⟨gb360, 3, none⟩ = some (.slice none 0 0) := bc BK360.out 3
                have hfs106 := blk_frozen BK360.out 3
                have hns106_0 := NB357_360.out
                have hns106_1 := NB358_360.out
                have hns106_2 := NB359_360.out
                have hns106_4 := NB363_360.out
                have hns106_5 := NB383_360.out
                have hms106_0 := NB360_357.out
                have hms106_1 := NB360_358.out
                have hms106_2 := NB360_359.out
                have hms106_4 := NB360_363.out
                have hms106_5 := NB360_383.out
                have hs107 : w101.cell? ⟨gb360, 4, none⟩ = some (.int .i64 0) := bc BK360.out 4
                have hfs107 := blk_frozen BK360.out 4
                have hns107_0 := NB357_360.out
                have hns107_1 := NB358_360.out
                have hns107_2 := NB359_360.out
                have hns107_4 := NB363_360.out
                have hns107_5 := NB383_360.out
                have hms107_0 := NB360_357.out
                have hms107_1 := NB360_358.out
                have hms107_2 := NB360_359.out
                have hms107_4 := NB360_363.out
                have hms107_5 := NB360_383.out
                refine skip_ (w1 := ?_) (by rfl) rfl ?_ ?_
                rotate_left
                ·go_simp
                 rfl
                refine hK.out _ _ ⟨((cell_far (p := ⟨gb360, _, none⟩) NB383_360.out _).trans (((cell_far (p := ⟨gb360, _, none⟩) NB383_360.out _).trans (((cell_far (p := ⟨gb360, _, none⟩) NB383_360.out _).trans (((cell_far (p := ⟨gb360, _, none⟩) NB383_360.out _).trans (((cell_far (p := ⟨gb360, _, none⟩) NB383_360.out _).trans (hHeld.1)))))))))), ((cell_far (p := ⟨gb360, _, none⟩) NB383_360.out _).trans (((cell_far (p := ⟨gb360, _, none⟩) NB383_360.out _).trans (((cell_far (p := ⟨gb360, _, none⟩) NB383_360.out _).trans (((cell_far (p := ⟨gb360, _, none⟩) NB383_360.out _).trans (((cell_far (p := ⟨gb360, _, none⟩) NB383_360.out _).trans (hHeld.2.1)))))))))), ((cell_far (p := ⟨gb360, _, none⟩) NB383_360.out _).trans (((cell_far (p := ⟨gb360, _, none⟩) NB383_360.out _).trans (((cell_far (p := ⟨gb360, _, none⟩) NB383_360.out _).trans (((cell_far (p := ⟨gb360, _, none⟩) NB383_360.out _).trans (((cell_far (p := ⟨gb360, _, none⟩) NB383_360.out _).trans (hHeld.2.2.1)))))))))), ((cell_far (p := ⟨gb360, _, none⟩) NB357_360.out _).trans (((cell_far (p := ⟨gb360, _, none⟩) NB357_360.out _).trans (((cell_far (p := ⟨gb360, _, none⟩) NB357_360.out _).trans (((cell_far (p := ⟨gb360, _, none⟩) NB357_360.out _).trans (((cell_far (p := ⟨gb360, _, none⟩) NB357_360.out _).trans (hHeld.2.2.2.1)))))))))), ((cell_far (p := ⟨gb360, _, none⟩) NB357_360.out _).trans (((cell_far (p := ⟨gb360, _, none⟩) NB357_360.out _).trans (((cell_far (p := ⟨gb360, _, none⟩) NB357_360.out _).trans (((cell_far (p := ⟨gb360, _, none⟩) NB357_360.out _).trans (((cell_far (p := ⟨gb360, _, none⟩) NB357_360.out _).trans (hHeld.2.2.2.2.1)))))))))), ((cell_far (p := ⟨gb360, _, none⟩) NB357_360.out _).trans (((cell_far (p := ⟨gb360, _, none⟩) NB357_360.out _).trans (((cell_far (p := ⟨gb360, _, none⟩) NB357_360.out _).trans (((cell_far (p := ⟨gb360, _, none⟩) NB357_360.out _).trans (((cell_far (p := ⟨gb360, _, none⟩) NB357_360.out _).trans (hHeld.2.2.2.2.2.1)))))))))), ((cell_far (p := ⟨gb360, _, none⟩) NB358_360.out _).trans (((cell_far (p := ⟨gb360, _, none⟩) NB358_360.out _).trans (((cell_far (p := ⟨gb360, _, none⟩) NB358_360.out _).trans (((cell_far (p := ⟨gb360, _, none⟩) NB358_360.out _).trans (((cell_far (p := ⟨gb360, _, none⟩) NB358_360.out _).trans (hHeld.2.2.2.2.2.2.1)))))))))), ((cell_far (p := ⟨gb360, _, none⟩) NB359_360.out _).trans (((cell_far (p := ⟨gb360, _, none⟩) NB359_360.out _).trans (((cell_far (p := ⟨gb360, _, none⟩) NB359_360.out _).trans (((cell_far (p := ⟨gb360, _, none⟩) NB359_360.out _).trans (((cell_far (p := ⟨gb360, _, none⟩) NB359_360.out _).trans (hHeld.2.2.2.2.2.2.2))))))))))⟩ (fun hHeld => ?_)
                clear hK K
                refine done_ (done_of HT_.out (by kernel_rfl)) ?_
                try go_wp2
                refine bodyPost_ret (results_cell_row rfl _ _ gb360 29 #[.slice Ao59 t378.length co59, .int .i64 x384001_89, .int .i64 t382, .slice Ao102 t390.length co102, .int .i64 0] (0, 0) _ rfl (by (with_reducible repeat (first | refine blk_drewN ?_ _ | refine blk_drew ?_ | refine blk_alloc ?_ _)); refine blk_put (cs := #[.slice Ao59 t378.length co59, .int .i64 x384001_89, .int .i64 t382, .slice Ao102 t390.length co102, .int .i64 0]) ?_ 4 _ rfl; (with_reducible repeat (first | refine blk_drewN ?_ _ | refine blk_drew ?_ | refine blk_alloc ?_ _)); refine blk_put (cs := #[.slice Ao59 t378.length co59, .int .i64 x384001_89, .int .i64 t382, .slice none 0 0, .int .i64 0]) ?_ 3 _ rfl; (with_reducible repeat (first | refine blk_drewN ?_ _ | refine blk_drew ?_ | refine blk_alloc ?_ _)); refine blk_put (cs := #[.slice Ao59 t378.length co59, .int .i64 x384001_89, .int .i64 0, .slice none 0 0, .int .i64 0]) ?_ 2 _ rfl; (with_reducible repeat (first | refine blk_drewN ?_ _ | refine blk_drew ?_ | refine blk_alloc ?_ _)); refine blk_put (cs := #[.slice Ao59 t378.length co59, .int .i64 0, .int .i64 0, .slice none 0 0, .int .i64 0]) ?_ 1 _ rfl; (with_reducible repeat (first | refine blk_drewN ?_ _ | refine blk_drew ?_ | refine blk_alloc ?_ _)); refine blk_put (cs := #[.slice none 0 0, .int .i64 0, .int .i64 0, .slice none 0 0, .int .i64 0]) ?_ 0 _ rfl; (with_reducible repeat (first | refine blk_drewN ?_ _ | refine blk_drew ?_ | refine blk_alloc ?_ _)); exact BK360.out) Try.underlying29 rfl (by kernel_rfl)) rfl ?_
                exact ⟨_, _, by first | rfl | (simp [errW_none, errW_some] <;> rfl) | (simp [*, errW_none, errW_some] <;> rfl), kr (Kd.R_mono (Kd.R_far (p := ⟨gb360, 4, none⟩) (Kd.R_far (p := ⟨gb360, 3, none⟩) (Kd.R_far (p := ⟨gb360, 2, none⟩) (Kd.R_far (p := ⟨gb360, 1, none⟩) (Kd.R_far (p := ⟨gb360, 0, none⟩) (Kd.R_types HO_384000.out BK360.out (by decide)) (fun _ hk => hk.2) (.slice Ao59 t378.length co59)) (fun _ hk => hk.2) (.int .i64 x384001_89)) (fun _ hk => hk.2) (.int .i64 t382)) (fun _ hk => hk.2) (.slice Ao102 t390.length co102)) (fun _ hk => hk.2) (.int .i64 0)) (fun _ hk => ⟨hk.1.1.1, hk.1.2⟩)), kr (Kd.R_mono (Kd.R_far (p := ⟨gb360, 4, none⟩) (Kd.R_far (p := ⟨gb360, 3, none⟩) (Kd.R_far (p := ⟨gb360, 2, none⟩) (Kd.R_far (p := ⟨gb360, 1, none⟩) (Kd.R_far (p := ⟨gb360, 0, none⟩) (Kd.R_types HO392.out BK360.out (by decide)) (fun _ hk => hk.2) (.slice Ao59 t378.length co59)) (fun _ hk => hk.2) (.int .i64 x384001_89)) (fun _ hk => hk.2) (.int .i64 t382)) (fun _ hk => hk.2) (.slice Ao102 t390.length co102)) (fun _ hk => hk.2) (.int .i64 0)) (fun _ hk => ⟨hk.1.1.1.1.1.1, hk.1.1.1.1.2⟩)), by repeat (first | (with_reducible first | exact HB.out | apply below_alloc | apply pw_below_drewN | apply below_drew1 | refine below_set ?_ GE357.out | refine below_set ?_ GE358.out | refine below_set ?_ GE359.out | refine below_set ?_ GE360.out | refine below_set ?_ GE363.out | refine below_set ?_ GE383.out) | exact HB.out)⟩
               ·rw [if_neg c97] at H
                exact absurd H (by simp)
              ·rw [if_neg c96] at H
               exact absurd H (by simp)
             ·rw [if_neg c95] at H
              exact absurd H (by simp)
        ·rw [if_neg c38] at H
         exact absurd H (by simp)
       ·rw [if_neg c37] at H
        exact absurd H (by simp)
      ·rw [if_neg c36] at H
       exact absurd H (by simp)
     ·rw [if_neg c35] at H
      exact absurd H (by simp)

end Go.Proofs.Ytibfdbiimblepaa.PFnInsert
