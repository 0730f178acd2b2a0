-- Written by xprint.py (this claim's own program, over the kit's printer); Lean checks it.
import Derived.Test.YtejgkbejdkaccaaPFnExactRingPopx0
import Derived.Test.YtejgkbejdkaccaaPFnExactRingPopx6
namespace Go.Proofs.Ytejgkbejdkaccaa.PFnExactRingPop
open Go.RowKit Go.Proofs.YtejgkbejdkaccaaW.PrintWords Go.Proofs.YtejgkbejdkaccaaW.PrintLast Go.Proofs.YtejgkbejdkaccaaW.PrintMore
attribute [local go_sem] max2_int min2_int max_two min_two max_three min_three max_four min_four   -- for this text's walks alone
set_option linter.unusedVariables false
set_option linter.unusedSimpArgs false   -- squeezed

/-! ### impl_replace: function 47 -/
@[reducible] def b47_0 : Array Bool := (br true [0, 14]).toArray
@[reducible] def b47_1 : Array Bool := (br true [1, 13]).toArray
@[reducible] def b47_2 : Array Bool := (br true [2, 12]).toArray
@[reducible] def b47_3 : Array Bool := (br true [3, 11]).toArray
@[reducible] def b47_4 : Array Bool := (br true [4, 10]).toArray
@[reducible] def b47_5 : Array Bool := (br true [5, 9]).toArray
@[reducible] def b47_6 : Array Bool := (br true [6, 8]).toArray
@[reducible] def b47_7 : Array Bool := (br true [7, 7]).toArray
@[reducible] def b47_8 : Array Bool := (br true [8, 6]).toArray
@[reducible] def b47_9 : Array Bool := (br true [9, 5]).toArray
@[reducible] def b47_10 : Array Bool := (br true [10, 4]).toArray
@[reducible] def b47_11 : Array Bool := (br true [11, 3]).toArray
@[reducible] def b47_12 : Array Bool := (br true [12, 2]).toArray
@[reducible] def b47_13 : Array Bool := (br true [13, 1]).toArray
@[reducible] def b47_14 : Array Bool := (br true [14]).toArray
@[reducible] def b47_15 : Array Bool := (br true [0, 8]).toArray
@[reducible] def b47_16 : Array Bool := (br true [1, 7]).toArray
@[reducible] def b47_17 : Array Bool := (br true [1, 1, 1, 5]).toArray
@[reducible] def b47_18 : Array Bool := (br true [1, 1, 2, 4]).toArray
@[reducible] def b47_19 : Array Bool := (br true [1, 1, 3, 3]).toArray
@[reducible] def b47_20 : Array Bool := (br true [7, 1]).toArray
@[reducible] def b47_21 : Array Bool := (br true [5, 3]).toArray
@[reducible] def b47_22 : Array Bool := (br true [1, 1, 3, 1, 1, 1]).toArray
@[reducible] def b47_23 : Array Bool := (br true [6, 2]).toArray
@[reducible] def b47_24 : Array Bool := (br true [5, 1, 1, 1]).toArray
@[reducible] def b47_25 : Array Bool := (br true [8]).toArray
@[reducible] def b47_26 : Array Bool := (br true [0, 6]).toArray
@[reducible] def b47_27 : Array Bool := (br true [1, 5]).toArray
@[reducible] def b47_28 : Array Bool := (br true [2, 4]).toArray
@[reducible] def b47_29 : Array Bool := (br true [2, 1, 1, 2]).toArray
@[reducible] def b47_30 : Array Bool := (br true [4, 2]).toArray
@[reducible] def b47_31 : Array Bool := (br true [5, 1]).toArray
@[reducible] def b47_32 : Array Bool := (br true [6]).toArray
@[reducible] def b47_33 : Array Bool := (br true [21, 1]).toArray
@[reducible] def b47_34 : Array Bool := (br true [20, 2]).toArray
@[reducible] def b47_35 : Array Bool := (br true [18, 2, 1, 1]).toArray
@[reducible] def b47_36 : Array Bool := (br true [18, 4]).toArray
@[reducible] def b47_37 : Array Bool := (br true [14, 1, 3, 2, 1, 1]).toArray
@[reducible] def b47_38 : Array Bool := (br true [14, 1, 3, 4]).toArray
@[reducible] def b47_39 : Array Bool := (br true [10, 1, 3, 1, 3, 2, 1, 1]).toArray
@[reducible] def b47_40 : Array Bool := (br true [10, 1, 3, 1, 3, 4]).toArray
@[reducible] def b47_41 : Array Bool := (br true [9, 2, 3, 1, 3, 2, 1, 1]).toArray
mutual
def impl_replace.j0 : Nat → List Int → Bool → List Int → Int → Int → Int → Int → Option (List Int × Int × Int × List Int × Int)
 | 0, _, _, _, _, _, _, _ => none
 | k + 1, x3, x25, x273000, x273001, x273002, x274000, x275000 => if x25 = true then (some (([] : List Int), 0, 0, ([] : List Int), 8)) else ((impl_size_int64.f x3).bind fun t277 => ((impl_size_int64.f x273000).bind fun t279 => (if (wrap64 (t279 + (wrap64 (t277 - (wrap64 (x275000 - x274000)))))) > 300 then (some (([] : List Int), 0, 0, ([] : List Int), 5)) else (if 0 ≤ x274000 then (if x274000 ≤ (x273000.length : Int) then (if 0 ≤ x275000 then (if x275000 ≤ (x273000.length : Int) then ((slices_Concat_sint64_int64.f k (([(x273000.take (x274000 : Int).toNat), x3, (x273000.drop (x275000 : Int).toNat)] : List (List Int)))).bind fun t293 => ((impl_replace_1.f x273001 x274000 x275000 (wrap64 (t277 - (wrap64 (x275000 - x274000))))).bind fun t296 => ((impl_replace_1.f x273002 x274000 x275000 (wrap64 (t277 - (wrap64 (x275000 - x274000))))).bind fun t297 => (if x274000 = x275000 then (impl_replace.j1 k x3 (x273001 == x274000) x273000 x273001 x273002 x274000 x275000 t293 t296 t297) else (impl_replace.j1 k x3 false x273000 x273001 x273002 x274000 x275000 t293 t296 t297))))) else (none)) else (none)) else (none)) else (none)))))
def impl_replace.j1 : Nat → List Int → Bool → List Int → Int → Int → Int → Int → List Int → Int → Int → Option (List Int × Int × Int × List Int × Int)
 | 0, _, _, _, _, _, _, _, _, _, _ => none
 | k + 1, x3, x69, x273000, x273001, x273002, x274000, x275000, x299000, x299001, x299002 => if x69 = true then ((impl_size_int64.f x3).bind fun t299 => (impl_replace.j2 k x273000 x273001 x273002 x274000 x275000 x299000 (wrap64 (x274000 + t299)) x299002)) else (impl_replace.j2 k x273000 x273001 x273002 x274000 x275000 x299000 x299001 x299002)
def impl_replace.j2 : Nat → List Int → Int → Int → Int → Int → List Int → Int → Int → Option (List Int × Int × Int × List Int × Int)
 | 0, _, _, _, _, _, _, _, _ => none
 | k + 1, x273000, x273001, x273002, x274000, x275000, x299000, x299001, x299002 => if 0 ≤ x274000 then (if x274000 ≤ x275000 then (if x275000 ≤ (x273000.length : Int) then ((slices_Clone_sint64_int64.f ((x273000.take (x275000 : Int).toNat).drop (x274000 : Int).toNat)).bind fun t305 => (some (x299000, x299001, x299002, t305, 0))) else (none)) else (none)) else (none)
end
def impl_replace.f (k : Nat) (l0_0 : List Int) (a0_1 : Int) (a0_2 : Int) (a1 : Int) (a2 : Int) (l3 : List Int) : Option (List Int × Int × Int × List Int × Int) := if a1 < 0 then (impl_replace.j0 k l3 true l0_0 a0_1 a0_2 a1 a2) else (if a1 > a2 then (impl_replace.j0 k l3 true l0_0 a0_1 a0_2 a1 a2) else ((impl_size_int64.f l0_0).bind fun t276 => (impl_replace.j0 k l3 (decide (a2 > t276)) l0_0 a0_1 a0_2 a1 a2)))
theorem impl_replace.mono_l : ∀ k, (∀ y0 y1 y2 y3 y4 y5 y6, LeO (impl_replace.j0 k y0 y1 y2 y3 y4 y5 y6) (impl_replace.j0 (k + 1) y0 y1 y2 y3 y4 y5 y6)) ∧ (∀ y0 y1 y2 y3 y4 y5 y6 y7 y8 y9, LeO (impl_replace.j1 k y0 y1 y2 y3 y4 y5 y6 y7 y8 y9) (impl_replace.j1 (k + 1) y0 y1 y2 y3 y4 y5 y6 y7 y8 y9)) ∧ (∀ y0 y1 y2 y3 y4 y5 y6 y7, LeO (impl_replace.j2 k y0 y1 y2 y3 y4 y5 y6 y7) (impl_replace.j2 (k + 1) y0 y1 y2 y3 y4 y5 y6 y7))
 | 0 => ⟨fun _ _ _ _ _ _ _ r h => by simp [impl_replace.j0] at h, fun _ _ _ _ _ _ _ _ _ _ r h => by simp [impl_replace.j1] at h, fun _ _ _ _ _ _ _ _ r h => by simp [impl_replace.j2] at h⟩
 | k + 1 => by
  obtain ⟨ih0, ih1, ih2⟩ := impl_replace.mono_l k
  refine ⟨?_, ?_, ?_⟩
  ·intro y0 y1 y2 y3 y4 y5 y6
   unfold impl_replace.j0
   repeat' first
   | (with_reducible exact ih0 _ _ _ _ _ _ _)
   | (with_reducible exact ih1 _ _ _ _ _ _ _ _ _ _)
   | (with_reducible exact ih2 _ _ _ _ _ _ _ _)
   | (with_reducible exact slices_Concat_sint64_int64.mono _ _)
   | (with_reducible exact LeO.refl _)
   | (with_reducible exact LeO.none _)
   | (with_reducible refine LeO.ite ?_ ?_)
   | (with_reducible refine LeO.bind ?_ (fun _ => ?_))
   | exact ih0 _ _ _ _ _ _ _
   | exact ih1 _ _ _ _ _ _ _ _ _ _
   | exact ih2 _ _ _ _ _ _ _ _
   | exact slices_Concat_sint64_int64.mono _ _
   | refine LeO.bind ?_ (fun _ => ?_)
  ·intro y0 y1 y2 y3 y4 y5 y6 y7 y8 y9
   unfold impl_replace.j1
   repeat' first
   | (with_reducible exact ih0 _ _ _ _ _ _ _)
   | (with_reducible exact ih1 _ _ _ _ _ _ _ _ _ _)
   | (with_reducible exact ih2 _ _ _ _ _ _ _ _)
   | (with_reducible exact slices_Concat_sint64_int64.mono _ _)
   | (with_reducible exact LeO.refl _)
   | (with_reducible exact LeO.none _)
   | (with_reducible refine LeO.ite ?_ ?_)
   | (with_reducible refine LeO.bind ?_ (fun _ => ?_))
   | exact ih0 _ _ _ _ _ _ _
   | exact ih1 _ _ _ _ _ _ _ _ _ _
   | exact ih2 _ _ _ _ _ _ _ _
   | exact slices_Concat_sint64_int64.mono _ _
   | refine LeO.bind ?_ (fun _ => ?_)
  ·intro y0 y1 y2 y3 y4 y5 y6 y7
   unfold impl_replace.j2
   repeat' first
   | (with_reducible exact ih0 _ _ _ _ _ _ _)
   | (with_reducible exact ih1 _ _ _ _ _ _ _ _ _ _)
   | (with_reducible exact ih2 _ _ _ _ _ _ _ _)
   | (with_reducible exact slices_Concat_sint64_int64.mono _ _)
   | (with_reducible exact LeO.refl _)
   | (with_reducible exact LeO.none _)
   | (with_reducible refine LeO.ite ?_ ?_)
   | (with_reducible refine LeO.bind ?_ (fun _ => ?_))
   | exact ih0 _ _ _ _ _ _ _
   | exact ih1 _ _ _ _ _ _ _ _ _ _
   | exact ih2 _ _ _ _ _ _ _ _
   | exact slices_Concat_sint64_int64.mono _ _
   | refine LeO.bind ?_ (fun _ => ?_)
theorem impl_replace.mono : ∀ a0 a1 a2 a3 a4 a5 k, LeO (impl_replace.f k a0 a1 a2 a3 a4 a5) (impl_replace.f (k + 1) a0 a1 a2 a3 a4 a5) := by
 intro a0 a1 a2 a3 a4 a5 k
 obtain ⟨ih0, ih1, ih2⟩ := impl_replace.mono_l k
 unfold impl_replace.f
 repeat' first
   | (with_reducible exact ih0 _ _ _ _ _ _ _)
   | (with_reducible exact ih1 _ _ _ _ _ _ _ _ _ _)
   | (with_reducible exact ih2 _ _ _ _ _ _ _ _)
   | (with_reducible exact slices_Concat_sint64_int64.mono _ _)
   | (with_reducible exact LeO.refl _)
   | (with_reducible exact LeO.none _)
   | (with_reducible refine LeO.ite ?_ ?_)
   | (with_reducible refine LeO.bind ?_ (fun _ => ?_))
   | exact ih0 _ _ _ _ _ _ _
   | exact ih1 _ _ _ _ _ _ _ _ _ _
   | exact ih2 _ _ _ _ _ _ _ _
   | exact slices_Concat_sint64_int64.mono _ _
   | refine LeO.bind ?_ (fun _ => ?_)
def impl_replace.T1 : Bool × List (List Nat × List Nat) := (true, [([], []), ([0], [0]), ([1], [1]), ([2], [2]), ([2], [2]), ([3, 4, 2], [2, 3, 4]), ([2, 5], [2, 5]), ([6, 2], [6]), ([7], [7]), ([7], [7]), ([9, 7], [7, 9]), ([10, 7, 7], [7, 10]), ([8, 11, 7], [7, 8, 11]), ([7, 12], [7, 12])])
def impl_replace.B1 : List Nat := [0, 1, 3, 7, 7, 31, 63, 127, 255, 255, 767, 1791, 4095, 8191]
theorem impl_replace.tab1 : rtab .any (opsOf Try.f47 1) = impl_replace.T1 := by kernel_rfl
theorem impl_replace.bits1 : waitsOk impl_replace.T1.2 impl_replace.B1 = true := by kernel_rfl
def impl_replace.T3 : Bool × List (List Nat × List Nat) := (true, [([], []), ([0], [0]), ([], []), ([], []), ([2, 3], [2, 3]), ([1, 4], [1, 4]), ([], []), ([6, 5, 1, 0, 1, 2, 3, 4, 5, 6], [5, 6])])
def impl_replace.B3 : List Nat := [0, 1, 0, 0, 12, 31, 0, 127]
theorem impl_replace.tab3 : rtab .any (opsOf Try.f47 3) = impl_replace.T3 := by kernel_rfl
theorem impl_replace.bits3 : waitsOk impl_replace.T3.2 impl_replace.B3 = true := by kernel_rfl
def impl_replace.T7 : Bool × List (List Nat × List Nat) := (true, [([], []), ([0], [0]), ([], []), ([1, 2], [1, 2]), ([], []), ([], []), ([5], [5]), ([], []), ([6, 7], [6, 7]), ([3, 4, 8], [3, 4, 8]), ([9], [9]), ([], []), ([], []), ([12], [12]), ([11, 13, 10], [11, 13]), ([], []), ([], []), ([16], [16]), ([15, 17, 14], [15, 17]), ([10, 14, 18], [10, 14, 18]), ([], []), ([20, 19, 18, 0, 1, 2, 3, 4, 5, 6, 7, 8, 9, 10, 11, 12, 13, 14, 15, 16, 17, 18, 19, 20], [19, 20])])
def impl_replace.B7 : List Nat := [0, 1, 0, 7, 0, 0, 32, 0, 224, 511, 1023, 0, 0, 4096, 16383, 0, 0, 65536, 262143, 524287, 0, 2097151]
theorem impl_replace.tab7 : rtab .any (opsOf Try.f47 7) = impl_replace.T7 := by kernel_rfl
theorem impl_replace.bits7 : waitsOk impl_replace.T7.2 impl_replace.B7 = true := by kernel_rfl
def impl_replace.T10 : Bool × List (List Nat × List Nat) := (true, [([], []), ([], []), ([1], [1]), ([], []), ([], []), ([2, 3, 4], [2, 3, 4]), ([5], [5]), ([0, 6], [0, 6]), ([7, 6, 0, 1, 2, 3, 4, 5, 6, 7], [7])])
def impl_replace.B10 : List Nat := [0, 0, 2, 0, 0, 30, 62, 127, 255]
theorem impl_replace.tab10 : rtab .any (opsOf Try.f47 10) = impl_replace.T10 := by kernel_rfl
theorem impl_replace.bits10 : waitsOk impl_replace.T10.2 impl_replace.B10 = true := by kernel_rfl
set_option maxHeartbeats 8000000 in
set_option maxRecDepth 100000 in
theorem impl_replace.calls (k : Nat) (P0_0_ : Nat → Prop) (A0_0 : Option Addr) (c0_0 : Nat) (l0_0 : List Int) (a0_1 : Int) (a0_2 : Int) (a1 : Int) (a2 : Int) (P3_ : Nat → Prop) (A3 : Option Addr) (c3 : Nat) (l3 : List Int) (r1 : List Int) (r2 : Int) (r3 : Int) (r4 : List Int) (r5 : Int) (w : World) (hs0_0 : Kd.V (Kd.int .i64) 2 w w.heap.size (fun k_ => P0_0_ k_) (.slice A0_0 l0_0.length c0_0) l0_0) (hs3 : Kd.V (Kd.int .i64) 2 w w.heap.size (fun k_ => P3_ k_) (.slice A3 l3.length c3) l3) (h : impl_replace.f k l0_0 a0_1 a0_2 a1 a2 l3 = some (r1, r2, r3, r4, r5)) :
  Calls Try.prog 47 #[.agg #[.slice A0_0 l0_0.length c0_0, .int .i64 a0_1, .int .i64 a0_2], .int .i64 a1, .int .i64 a2, .slice A3 l3.length c3] w fun e w' => ∃ v0_ v3_ : Value, e = .returned (.agg #[v0_, .int .i64 r2, .int .i64 r3, v3_, .int .i64 r5]) ∧ Kd.R (Kd.int .i64) 2 w' w.heap.size (fun k_ => (w.heap.size ≤ k_) ∧ some k_ ≠ (v3_ : Value).ownBlock) v0_ r1 ∧ Kd.R (Kd.int .i64) 2 w' w.heap.size (fun k_ => (w.heap.size ≤ k_) ∧ some k_ ≠ (v0_ : Value).ownBlock) v3_ r4 ∧ Below w.heap.size w w' := by
 have hu26 := Try.underlying26
 have hu28 := Try.underlying28
 have HO0_0 := am (show Kd.V (Kd.int .i64) 2 w w.heap.size (fun k_ => ((P0_0_ k_ ∨ P3_ k_) ∨ w.heap.size ≤ k_)) (.slice A0_0 l0_0.length c0_0) l0_0 from Kd.V_mono hs0_0 (fun k_ hk => .inl (.inl hk)))
 have HO3 := am (show Kd.V (Kd.int .i64) 2 w w.heap.size (fun k_ => ((P0_0_ k_ ∨ P3_ k_) ∨ w.heap.size ≤ k_)) (.slice A3 l3.length c3) l3 from Kd.V_mono hs3 (fun k_ hk => .inl (.inr hk)))
 have HB := am (Below.refl w.heap.size w)
 have H : (if a1 < 0 then (impl_replace.j0 k l3 true l0_0 a0_1 a0_2 a1 a2) else (if a1 > a2 then (impl_replace.j0 k l3 true l0_0 a0_1 a0_2 a1 a2) else ((impl_size_int64.f l0_0).bind fun t276 => (impl_replace.j0 k l3 (decide (a2 > t276)) l0_0 a0_1 a0_2 a1 a2)))) = some (r1, r2, r3, r4, r5) := h
 clear h
 have HC5 := Aside0.mk H
 clear H
 go_enter Try.func47, Try.ntmps47
 go_upto_region 1 with (first | ((with_reducible refine gate_dst (N := 4) rfl ?_); refine box_event ?hg (N := 4) ?hd (cs := #[.slice A0_0 l0_0.length c0_0, .int .i64 a0_1, .int .i64 a0_2]) (t := 26) ?hr ?_; (case hd => rfl); (case hg => rfl); (case hr => first | (go_simp; done) | (go_simp; rfl)); intro gb272 hg w6 hbox hb; replace HO0_0 := am (Kd.V_below (Kd.V_elderB (kv HO0_0.out) gb272 (Nat.le_of_eq hg.symm)) hb); replace HO3 := am (Kd.V_below (Kd.V_elderB (kv HO3.out) gb272 (Nat.le_of_eq hg.symm)) hb); have BK272 := am (hbox); have GW272 := am ((by rw [hg]; exact (below_size (bl HB.out)) : w.heap.size ≤ gb272)); have GE272 := GW272; replace HB := am (below_step (bl HB.out) hb); clear hb hbox hg) | ((with_reducible refine gate_dst (N := 5) rfl ?_); refine box_event ?hg (N := 5) ?hd (cs := #[.int .i64 a1]) (t := 2) ?hr ?_; (case hd => rfl); (case hg => rfl); (case hr => first | (go_simp; done) | (go_simp; rfl)); intro gb273 hg w7 hbox hb; replace HO0_0 := am (Kd.V_below (Kd.V_elderB (kv HO0_0.out) gb273 (Nat.le_of_eq hg.symm)) hb); replace HO3 := am (Kd.V_below (Kd.V_elderB (kv HO3.out) gb273 (Nat.le_of_eq hg.symm)) hb); have BK273 := am (hbox); have GW273 := am ((by rw [hg]; exact (below_size (bl HB.out)) : w.heap.size ≤ gb273)); have GE273 := GW273; replace HB := am (below_step (bl HB.out) hb); have NB272_273 := am ((by rw [hg]; exact Nat.ne_of_lt (blk_lt (pk BK272.out)) : gb272 ≠ gb273)); have NB273_272 := am ((by rw [hg]; exact Nat.ne_of_gt (blk_lt (pk BK272.out)) : gb273 ≠ gb272)); replace BK272 := am (blk_below (pk BK272.out) hb); clear hb hbox hg) | ((with_reducible refine gate_dst (N := 6) rfl ?_); refine box_event ?hg (N := 6) ?hd (cs := #[.int .i64 a2]) (t := 2) ?hr ?_; (case hd => rfl); (case hg => rfl); (case hr => first | (go_simp; done) | (go_simp; rfl)); intro gb274 hg w8 hbox hb; replace HO0_0 := am (Kd.V_below (Kd.V_elderB (kv HO0_0.out) gb274 (Nat.le_of_eq hg.symm)) hb); replace HO3 := am (Kd.V_below (Kd.V_elderB (kv HO3.out) gb274 (Nat.le_of_eq hg.symm)) hb); have BK274 := am (hbox); have GW274 := am ((by rw [hg]; exact (below_size (bl HB.out)) : w.heap.size ≤ gb274)); have GE274 := GW274; replace HB := am (below_step (bl HB.out) hb); have NB272_274 := am ((by rw [hg]; exact Nat.ne_of_lt (blk_lt (pk BK272.out)) : gb272 ≠ gb274)); have NB274_272 := am ((by rw [hg]; exact Nat.ne_of_gt (blk_lt (pk BK272.out)) : gb274 ≠ gb272)); replace BK272 := am (blk_below (pk BK272.out) hb); have NB273_274 := am ((by rw [hg]; exact Nat.ne_of_lt (blk_lt (pk BK273.out)) : gb273 ≠ gb274)); have NB274_273 := am ((by rw [hg]; exact Nat.ne_of_gt (blk_lt (pk BK273.out)) : gb274 ≠ gb273)); replace BK273 := am (blk_below (pk BK273.out) hb); clear hb hbox hg) | ((with_reducible refine gate_dst (N := 8) rfl ?_); refine box_event ?hg (N := 8) ?hd (cs := #[.slice none 0 0, .int .i64 0, .int .i64 0, .slice none 0 0, .int .i64 0]) (t := 28) ?hr ?_; (case hd => rfl); (case hg => rfl); (case hr => first | (go_simp; done) | (go_simp; rfl)); intro gb275 hg w9 hbox hb; replace HO0_0 := am (Kd.V_below (Kd.V_elderB (kv HO0_0.out) gb275 (Nat.le_of_eq hg.symm)) hb); replace HO3 := am (Kd.V_below (Kd.V_elderB (kv HO3.out) gb275 (Nat.le_of_eq hg.symm)) hb); have BK275 := am (hbox); have GW275 := am ((by rw [hg]; exact (below_size (bl HB.out)) : w.heap.size ≤ gb275)); have GE275 := GW275; replace HB := am (below_step (bl HB.out) hb); have NB272_275 := am ((by rw [hg]; exact Nat.ne_of_lt (blk_lt (pk BK272.out)) : gb272 ≠ gb275)); have NB275_272 := am ((by rw [hg]; exact Nat.ne_of_gt (blk_lt (pk BK272.out)) : gb275 ≠ gb272)); replace BK272 := am (blk_below (pk BK272.out) hb); have NB273_275 := am ((by rw [hg]; exact Nat.ne_of_lt (blk_lt (pk BK273.out)) : gb273 ≠ gb275)); have NB275_273 := am ((by rw [hg]; exact Nat.ne_of_gt (blk_lt (pk BK273.out)) : gb275 ≠ gb273)); replace BK273 := am (blk_below (pk BK273.out) hb); have NB274_275 := am ((by rw [hg]; exact Nat.ne_of_lt (blk_lt (pk BK274.out)) : gb274 ≠ gb275)); have NB275_274 := am ((by rw [hg]; exact Nat.ne_of_gt (blk_lt (pk BK274.out)) : gb275 ≠ gb274)); replace BK274 := am (blk_below (pk BK274.out) hb); clear hb hbox hg))
 (try simp only [Act.put, sa_, s0_, ss_])
 go_cut [25] (fun v25 wc => ∃ (kq : Nat) (x25_4 : Bool), v25 = .bool x25_4 ∧ Aside0 (impl_replace.j0 kq l3 x25_4 l0_0 a0_1 a0_2 a1 a2 = some (r1, r2, r3, r4, r5)) ∧ Aside0 (kq ≤ k) ∧ Aside0 (Kd.V (Kd.int .i64) 2 wc w.heap.size (fun k_ => ((P0_0_ k_ ∨ P3_ k_) ∨ w.heap.size ≤ k_) ∧ k_ ≠ gb272 ∧ k_ ≠ gb273 ∧ k_ ≠ gb274 ∧ k_ ≠ gb275) (.slice A3 l3.length c3) l3) ∧ Aside0 (Kd.V (Kd.int .i64) 2 wc w.heap.size (fun k_ => ((P0_0_ k_ ∨ P3_ k_) ∨ w.heap.size ≤ k_) ∧ k_ ≠ gb272 ∧ k_ ≠ gb273 ∧ k_ ≠ gb274 ∧ k_ ≠ gb275) (.slice A0_0 l0_0.length c0_0) l0_0) ∧ Aside0 (wc.heap[gb272]? = some (.cells #[(.slice A0_0 l0_0.length c0_0), .int .i64 a0_1, .int .i64 a0_2] 26 (0, 0))) ∧ Aside0 (wc.heap[gb273]? = some (.cells #[.int .i64 a1] 2 (0, 0))) ∧ Aside0 (wc.heap[gb274]? = some (.cells #[.int .i64 a2] 2 (0, 0))) ∧ Aside0 (wc.heap[gb275]? = some (.cells #[(.slice none 0 0), .int .i64 0, .int .i64 0, (.slice none 0 0), .int .i64 0] 28 (0, 0))) ∧ Aside0 (Below w.heap.size w wc))
 case first =>
  have H := HC5.out
  clear HC5
  by_cases c10 : a1 < 0
  ·rw [if_pos c10] at H
   have c10b0 : decide (a1 < 0) = true := decide_eq_true c10
   clear c10
   (first | rw [c10b0] | (simp only [i64_w, i32_w]; rw [c10b0]) | (have e9_ := c10b0; unfold bne at e9_; rw [e9_]) | skip)
   have H' := Aside0.mk H
   clear H
   try go_wp2
   replace HO0_0 := am (Kd.V_drew HO0_0.out)
   replace HO3 := am (Kd.V_drew HO3.out)
   replace BK272 := am (blk_drew BK272.out)
   replace BK273 := am (blk_drew BK273.out)
   replace BK274 := am (blk_drew BK274.out)
   replace BK275 := am (blk_drew BK275.out)
   replace HB := am (below_drew1 HB.out)
   refine start_ (n := 14) (S := fun w' => w'.cell? ⟨gb273, 0, none⟩ = some (.int .i64 a1)) (ds := []) b47_0 (by kernel_rfl) rfl rfl (bc BK273.out 0) (fun hHeld => ?_); refine with_tabW impl_replace.tab1 impl_replace.bits1 (fun HT_ HW_ => ?_)
   generalize w9.drew = w11 at HO0_0 HO3 BK272 BK273 BK274 BK275 HB hHeld ⊢
   refine tk_ 0 (some 12) ?_ b47_1 rfl rfl HT_.out HW_.out (by kernel_rfl) (fun _ _ _ h => h) (Or.inl ⟨by rfl, ?_⟩) hHeld ?_ ?_ ?_; rotate_left
   ·intro w' s0
    go_simp
    with_reducible rfl
   rotate_left
   ·simp only [Act.put, sa_, s0_, ss_, i64_w, i32_w]; rfl
   refine pu_ 1 (some 13) ?_ b47_2 rfl rfl HT_.out (by kernel_rfl) (fun _ _ _ h => h) (Or.inl ⟨by rfl, ?_⟩) ?_ ?_ ?_; rotate_left
   ·intro w'; go_simp; with_reducible rfl
   rotate_left
   ·simp only [Act.put, sa_, s0_, ss_, i64_w, i32_w]; rfl
   refine pu_ 2 (some 14) ?_ b47_3 rfl rfl HT_.out (by kernel_rfl) (fun _ _ _ h => h) (Or.inl ⟨by rfl, ?_⟩) ?_ ?_ ?_; rotate_left
   ·intro w'; go_simp; with_reducible rfl
   rotate_left
   ·simp only [Act.put, sa_, s0_, ss_, i64_w, i32_w]; rfl
   refine pu_ 3 (some 15) undef b47_4 rfl rfl HT_.out (by kernel_rfl) (fun _ _ _ h => h) (Or.inr ⟨by rfl, rfl⟩) ?_ ?_ ?_; rotate_left
   ·simp only [Act.put, sa_, s0_, ss_, i64_w, i32_w]; rfl
   refine pu_ 4 (some 16) undef b47_5 rfl rfl HT_.out (by kernel_rfl) (fun _ _ _ h => h) (Or.inr ⟨by rfl, rfl⟩) ?_ ?_ ?_; rotate_left
   ·simp only [Act.put, sa_, s0_, ss_, i64_w, i32_w]; rfl
   refine pu_ 5 (some 17) undef b47_6 rfl rfl HT_.out (by kernel_rfl) (fun _ _ _ h => h) (Or.inr ⟨by rfl, rfl⟩) ?_ ?_ ?_; rotate_left
   ·simp only [Act.put, sa_, s0_, ss_, i64_w, i32_w]; rfl
   refine pu_ 6 (some 18) ?_ b47_7 rfl rfl HT_.out (by kernel_rfl) (fun _ _ _ h => h) (Or.inl ⟨by rfl, ?_⟩) ?_ ?_ ?_; rotate_left
   ·intro w'; go_simp; with_reducible rfl
   rotate_left
   ·simp only [Act.put, sa_, s0_, ss_, i64_w, i32_w]; rfl
   refine pu_ 7 (some 19) ?_ b47_8 rfl rfl HT_.out (by kernel_rfl) (fun _ _ _ h => h) (Or.inl ⟨by rfl, ?_⟩) ?_ ?_ ?_; rotate_left
   ·intro w'; go_simp; with_reducible rfl
   rotate_left
   ·simp only [Act.put, sa_, s0_, ss_, i64_w, i32_w]; rfl
   refine pu_ 8 (some 20) undef b47_9 rfl rfl HT_.out (by kernel_rfl) (fun _ _ _ h => h) (Or.inr ⟨by rfl, rfl⟩) ?_ ?_ ?_; rotate_left
   ·simp only [Act.put, sa_, s0_, ss_, i64_w, i32_w]; rfl
   refine pu_ 9 (some 21) undef b47_10 rfl rfl HT_.out (by kernel_rfl) (fun _ _ _ h => h) (Or.inr ⟨by rfl, rfl⟩) ?_ ?_ ?_; rotate_left
   ·simp only [Act.put, sa_, s0_, ss_, i64_w, i32_w]; rfl
   refine pu_ 10 (some 22) undef b47_11 rfl rfl HT_.out (by kernel_rfl) (fun _ _ _ h => h) (Or.inr ⟨by rfl, rfl⟩) ?_ ?_ ?_; rotate_left
   ·simp only [Act.put, sa_, s0_, ss_, i64_w, i32_w]; rfl
   refine pu_ 11 (some 23) undef b47_12 rfl rfl HT_.out (by kernel_rfl) (fun _ _ _ h => h) (Or.inr ⟨by rfl, rfl⟩) ?_ ?_ ?_; rotate_left
   ·simp only [Act.put, sa_, s0_, ss_, i64_w, i32_w]; rfl
   refine pu_ 12 (some 24) undef b47_13 rfl rfl HT_.out (by kernel_rfl) (fun _ _ _ h => h) (Or.inr ⟨by rfl, rfl⟩) ?_ ?_ ?_; rotate_left
   ·simp only [Act.put, sa_, s0_, ss_, i64_w, i32_w]; rfl
   refine pu_ 13 (some 25) ?_ b47_14 rfl rfl HT_.out (by kernel_rfl) (fun _ _ _ h => h) (Or.inl ⟨by rfl, ?_⟩) ?_ ?_ ?_; rotate_left
   ·intro w'; go_simp; with_reducible rfl
   rotate_left
   ·simp only [Act.put, sa_, s0_, ss_, i64_w, i32_w]; rfl
   refine done_ (done_of HT_.out (by kernel_rfl)) ?_
   try go_wp2
   go_meet
   case rel => exact ⟨_, (true), (by first | rfl | (simp; done) | (simp [*]; done)), H', ⟨by first | omega | exact Nat.le_refl _⟩, ⟨kv (Kd.V_mono HO3.out (fun _ hk => ⟨hk.1.1.1.1, ⟨hk.1.1.1.2, ⟨hk.1.1.2, ⟨hk.1.2, hk.2⟩⟩⟩⟩))⟩, ⟨kv (Kd.V_mono HO0_0.out (fun _ hk => ⟨hk.1.1.1.1, ⟨hk.1.1.1.2, ⟨hk.1.1.2, ⟨hk.1.2, hk.2⟩⟩⟩⟩))⟩, ⟨pk BK272.out⟩, ⟨pk BK273.out⟩, ⟨pk BK274.out⟩, ⟨pk BK275.out⟩, ⟨by repeat (first | (with_reducible first | exact HB.out | apply below_alloc | apply pw_below_drewN | apply below_drew1 | refine below_set ?_ GE272.out | refine below_set ?_ GE273.out | refine below_set ?_ GE274.out | refine below_set ?_ GE275.out) | exact HB.out)⟩⟩
  ·rw [if_neg c10] at H
   have c10b0 : decide (a1 < 0) = false := decide_eq_false c10
   clear c10
   (first | rw [c10b0] | (simp only [i64_w, i32_w]; rw [c10b0]) | (have e9_ := c10b0; unfold bne at e9_; rw [e9_]) | skip)
   by_cases c12 : a1 > a2
   ·rw [if_pos c12] at H
    have c12b0 : decide (a2 < a1) = true := decide_eq_true c12
    clear c12
    have H' := Aside0.mk H
    clear H
    try go_wp2
    replace HO0_0 := am (Kd.V_drew HO0_0.out)
    replace HO3 := am (Kd.V_drew HO3.out)
    replace BK272 := am (blk_drew BK272.out)
    replace BK273 := am (blk_drew BK273.out)
    replace BK274 := am (blk_drew BK274.out)
    replace BK275 := am (blk_drew BK275.out)
    replace HB := am (below_drew1 HB.out)
    refine start_ (n := 14) (S := fun w' => w'.cell? ⟨gb273, 0, none⟩ = some (.int .i64 a1) ∧ w'.cell? ⟨gb274, 0, none⟩ = some (.int .i64 a2)) (ds := []) b47_0 (by kernel_rfl) rfl rfl ⟨bc BK273.out 0, bc BK274.out 0⟩ (fun hHeld => ?_); refine with_tabW impl_replace.tab1 impl_replace.bits1 (fun HT_ HW_ => ?_)
    generalize w9.drew = w13 at HO0_0 HO3 BK272 BK273 BK274 BK275 HB hHeld ⊢
    refine tk_ 0 (some 12) ?_ b47_1 rfl rfl HT_.out HW_.out (by kernel_rfl) (fun _ _ _ h => h) (Or.inl ⟨by rfl, ?_⟩) hHeld ?_ ?_ ?_; rotate_left
    ·rintro w' ⟨s0, s1⟩; go_simp; with_reducible rfl
    rotate_left
    ·simp only [Act.put, sa_, s0_, ss_, i64_w, i32_w]; rfl
    refine pu_ 1 (some 13) ?_ b47_2 rfl rfl HT_.out (by kernel_rfl) (fun _ _ _ h => h) (Or.inl ⟨by rfl, ?_⟩) ?_ ?_ ?_; rotate_left
    ·intro w'; go_simp; with_reducible rfl
    rotate_left
    ·simp only [Act.put, sa_, s0_, ss_, i64_w, i32_w]; rfl
    refine pu_ 2 (some 14) ?_ b47_3 rfl rfl HT_.out (by kernel_rfl) (fun _ _ _ h => h) (Or.inl ⟨by rfl, ?_⟩) ?_ ?_ ?_; rotate_left
    ·intro w'; go_simp; with_reducible rfl
    rotate_left
    ·simp only [Act.put, sa_, s0_, ss_, i64_w, i32_w]; rfl
    refine tk_ 3 (some 15) ?_ b47_4 rfl rfl HT_.out HW_.out (by kernel_rfl) (fun _ _ _ h => h) (Or.inl ⟨by rfl, ?_⟩) hHeld ?_ ?_ ?_; rotate_left
    ·rintro w' ⟨s0, s1⟩; go_simp; with_reducible rfl
    rotate_left
    ·simp only [Act.put, sa_, s0_, ss_, i64_w, i32_w]; rfl
    refine tk_ 4 (some 16) ?_ b47_5 rfl rfl HT_.out HW_.out (by kernel_rfl) (fun _ _ _ h => h) (Or.inl ⟨by rfl, ?_⟩) hHeld ?_ ?_ ?_; rotate_left
    ·rintro w' ⟨s0, s1⟩; go_simp; with_reducible rfl
    rotate_left
    ·simp only [Act.put, sa_, s0_, ss_, i64_w, i32_w]; rfl
    refine pu_ 5 (some 17) ?_ b47_6 rfl rfl HT_.out (by kernel_rfl) (fun _ _ _ h => h) (Or.inl ⟨by rfl, ?_⟩) ?_ ?_ ?_; rotate_left
    ·intro w'; go_simp; with_reducible rfl
    rotate_left
    ·simp only [Act.put, sa_, s0_, ss_, i64_w, i32_w]; rfl
    refine pu_ 6 (some 18) ?_ b47_7 rfl rfl HT_.out (by kernel_rfl) (fun _ _ _ h => h) (Or.inl ⟨by rfl, ?_⟩) ?_ ?_ ?_; rotate_left
    ·intro w'; go_simp; with_reducible rfl
    rotate_left
    ·simp only [Act.put, sa_, s0_, ss_, i64_w, i32_w]; rfl
    refine pu_ 7 (some 19) ?_ b47_8 rfl rfl HT_.out (by kernel_rfl) (fun _ _ _ h => h) (Or.inl ⟨by rfl, ?_⟩) ?_ ?_ ?_; rotate_left
    ·intro w'; go_simp; with_reducible rfl
    rotate_left
    ·simp only [Act.put, sa_, s0_, ss_, i64_w, i32_w]; rfl
    refine pu_ 8 (some 20) undef b47_9 rfl rfl HT_.out (by kernel_rfl) (fun _ _ _ h => h) (Or.inr ⟨by rfl, rfl⟩) ?_ ?_ ?_; rotate_left
    ·simp only [Act.put, sa_, s0_, ss_, i64_w, i32_w]; rfl
    refine pu_ 9 (some 21) undef b47_10 rfl rfl HT_.out (by kernel_rfl) (fun _ _ _ h => h) (Or.inr ⟨by rfl, rfl⟩) ?_ ?_ ?_; rotate_left
    ·simp only [Act.put, sa_, s0_, ss_, i64_w, i32_w]; rfl
    refine pu_ 10 (some 22) undef b47_11 rfl rfl HT_.out (by kernel_rfl) (fun _ _ _ h => h) (Or.inr ⟨by rfl, rfl⟩) ?_ ?_ ?_; rotate_left
    ·simp only [Act.put, sa_, s0_, ss_, i64_w, i32_w]; rfl
    refine pu_ 11 (some 23) undef b47_12 rfl rfl HT_.out (by kernel_rfl) (fun _ _ _ h => h) (Or.inr ⟨by rfl, rfl⟩) ?_ ?_ ?_; rotate_left
    ·simp only [Act.put, sa_, s0_, ss_, i64_w, i32_w]; rfl
    refine pu_ 12 (some 24) undef b47_13 rfl rfl HT_.out (by kernel_rfl) (fun _ _ _ h => h) (Or.inr ⟨by rfl, rfl⟩) ?_ ?_ ?_; rotate_left
    ·simp only [Act.put, sa_, s0_, ss_, i64_w, i32_w]; rfl
    refine pu_ 13 (some 25) ?_ b47_14 rfl rfl HT_.out (by kernel_rfl) (fun _ _ _ h => h) (Or.inl ⟨by rfl, ?_⟩) ?_ ?_ ?_; rotate_left
    ·intro w'; go_simp; with_reducible rfl
    rotate_left
    ·simp only [Act.put, sa_, s0_, ss_, i64_w, i32_w]; rfl
    refine done_ (done_of HT_.out (by kernel_rfl)) ?_
    try go_wp2
    go_meet
    case rel => exact ⟨_, (true), (by first | rfl | (simp; done) | (simp [*]; done)), H', ⟨by first | omega | exact Nat.le_refl _⟩, ⟨kv (Kd.V_mono HO3.out (fun _ hk => ⟨hk.1.1.1.1, ⟨hk.1.1.1.2, ⟨hk.1.1.2, ⟨hk.1.2, hk.2⟩⟩⟩⟩))⟩, ⟨kv (Kd.V_mono HO0_0.out (fun _ hk => ⟨hk.1.1.1.1, ⟨hk.1.1.1.2, ⟨hk.1.1.2, ⟨hk.1.2, hk.2⟩⟩⟩⟩))⟩, ⟨pk BK272.out⟩, ⟨pk BK273.out⟩, ⟨pk BK274.out⟩, ⟨pk BK275.out⟩, ⟨by repeat (first | (with_reducible first | exact HB.out | apply below_alloc | apply pw_below_drewN | apply below_drew1 | refine below_set ?_ GE272.out | refine below_set ?_ GE273.out | refine below_set ?_ GE274.out | refine below_set ?_ GE275.out) | exact HB.out)⟩⟩
   ·rw [if_neg c12] at H
    have c12b0 : decide (a2 < a1) = false := decide_eq_false c12
    clear c12
    replace H := Option.bind_eq_some_iff.mp H
    obtain ⟨t276, A140, H⟩ := H
    replace H : (impl_replace.j0 k l3 (decide (a2 > t276)) l0_0 a0_1 a0_2 a1 a2) = some (r1, r2, r3, r4, r5) := H
    have A14 := Aside0.mk A140
    clear A140
    have H' := Aside0.mk H
    clear H
    try go_wp2
    replace HO0_0 := am (Kd.V_drew HO0_0.out)
    replace HO3 := am (Kd.V_drew HO3.out)
    replace BK272 := am (blk_drew BK272.out)
    replace BK273 := am (blk_drew BK273.out)
    replace BK274 := am (blk_drew BK274.out)
    replace BK275 := am (blk_drew BK275.out)
    replace HB := am (below_drew1 HB.out)
    refine start_ (n := 14) (S := fun w' => w'.cell? ⟨gb273, 0, none⟩ = some (.int .i64 a1) ∧ w'.cell? ⟨gb274, 0, none⟩ = some (.int .i64 a2) ∧ w'.cell? ⟨gb272, 0, none⟩ = some (.slice A0_0 l0_0.length c0_0) ∧ w'.cell? ⟨gb272, 1, none⟩ = some (.int .i64 a0_1) ∧ w'.cell? ⟨gb272, 2, none⟩ = some (.int .i64 a0_2)) (ds := []) b47_0 (by kernel_rfl) rfl rfl ⟨bc BK273.out 0, bc BK274.out 0, bc BK272.out 0, bc BK272.out 1, bc BK272.out 2⟩ (fun hHeld => ?_); refine with_tabW impl_replace.tab1 impl_replace.bits1 (fun HT_ HW_ => ?_)
    generalize w9.drew = w15 at HO0_0 HO3 BK272 BK273 BK274 BK275 HB hHeld ⊢
    refine tk_ 0 (some 12) ?_ b47_1 rfl rfl HT_.out HW_.out (by kernel_rfl) (fun _ _ _ h => h) (Or.inl ⟨by rfl, ?_⟩) hHeld ?_ ?_ ?_; rotate_left
    ·rintro w' ⟨s0, s1, s2, s3, s4⟩; go_simp; with_reducible rfl
    rotate_left
    ·simp only [Act.put, sa_, s0_, ss_, i64_w, i32_w]; rfl
    refine pu_ 1 (some 13) ?_ b47_2 rfl rfl HT_.out (by kernel_rfl) (fun _ _ _ h => h) (Or.inl ⟨by rfl, ?_⟩) ?_ ?_ ?_; rotate_left
    ·intro w'; go_simp; with_reducible rfl
    rotate_left
    ·simp only [Act.put, sa_, s0_, ss_, i64_w, i32_w]; rfl
    refine pu_ 2 (some 14) ?_ b47_3 rfl rfl HT_.out (by kernel_rfl) (fun _ _ _ h => h) (Or.inl ⟨by rfl, ?_⟩) ?_ ?_ ?_; rotate_left
    ·intro w'; go_simp; with_reducible rfl
    rotate_left
    ·simp only [Act.put, sa_, s0_, ss_, i64_w, i32_w]; rfl
    refine tk_ 3 (some 15) ?_ b47_4 rfl rfl HT_.out HW_.out (by kernel_rfl) (fun _ _ _ h => h) (Or.inl ⟨by rfl, ?_⟩) hHeld ?_ ?_ ?_; rotate_left
    ·rintro w' ⟨s0, s1, s2, s3, s4⟩; go_simp; with_reducible rfl
    rotate_left
    ·simp only [Act.put, sa_, s0_, ss_, i64_w, i32_w]; rfl
    refine tk_ 4 (some 16) ?_ b47_5 rfl rfl HT_.out HW_.out (by kernel_rfl) (fun _ _ _ h => h) (Or.inl ⟨by rfl, ?_⟩) hHeld ?_ ?_ ?_; rotate_left
    ·rintro w' ⟨s0, s1, s2, s3, s4⟩; go_simp; with_reducible rfl
    rotate_left
    ·simp only [Act.put, sa_, s0_, ss_, i64_w, i32_w]; rfl
    refine pu_ 5 (some 17) ?_ b47_6 rfl rfl HT_.out (by kernel_rfl) (fun _ _ _ h => h) (Or.inl ⟨by rfl, ?_⟩) ?_ ?_ ?_; rotate_left
    ·intro w'; go_simp; with_reducible rfl
    rotate_left
    ·simp only [Act.put, sa_, s0_, ss_, i64_w, i32_w]; rfl
    refine pu_ 6 (some 18) ?_ b47_7 rfl rfl HT_.out (by kernel_rfl) (fun _ _ _ h => h) (Or.inl ⟨by rfl, ?_⟩) ?_ ?_ ?_; rotate_left
    ·intro w'; go_simp; with_reducible rfl
    rotate_left
    ·simp only [Act.put, sa_, s0_, ss_, i64_w, i32_w]; rfl
    refine pu_ 7 (some 19) ?_ b47_8 rfl rfl HT_.out (by kernel_rfl) (fun _ _ _ h => h) (Or.inl ⟨by rfl, ?_⟩) ?_ ?_ ?_; rotate_left
    ·intro w'; go_simp; with_reducible rfl
    rotate_left
    ·simp only [Act.put, sa_, s0_, ss_, i64_w, i32_w]; rfl
    refine pure_ (i := 9) (N := some 21) (v := ?_) (a' := ?_) #[true, true, true, true, true, true, true, true, false, true, false, false, false, false] rfl rfl (any_of HT_.out (by kernel_rfl)) (fun _ _ _ h => h) (Or.inl ⟨by rfl, ?_⟩) ?_ ?_; rotate_left
    ·intro w'; go_simp; with_reducible rfl
    rotate_left
    ·simp only [Act.put, sa_, s0_, ss_, i64_w, i32_w]; rfl
    refine tk_ 8 (some 20) ?_ b47_10 rfl rfl HT_.out HW_.out (by kernel_rfl) (fun _ _ _ h => h) (Or.inl ⟨by rfl, ?_⟩) hHeld ?_ ?_ ?_; rotate_left
    ·rintro w' ⟨s0, s1, s2, s3, s4⟩; go_simp; with_reducible rfl
    rotate_left
    ·simp only [Act.put, sa_, s0_, ss_, i64_w, i32_w]; rfl
    refine tk_ 10 (some 22) ?_ b47_11 rfl rfl HT_.out HW_.out (by kernel_rfl) (fun _ _ _ h => h) (Or.inl ⟨by rfl, ?_⟩) hHeld ?_ ?_ ?_; rotate_left
    ·rintro w' ⟨s0, s1, s2, s3, s4⟩; go_simp; with_reducible rfl
    rotate_left
    ·simp only [Act.put, sa_, s0_, ss_, i64_w, i32_w]; rfl
    refine one_ (i := 11) (N := some 23) b47_12 rfl rfl (one_of HT_.out (by kernel_rfl)) (by decide) (fun K hK => ?_)
    refine gs_ Try.func55 #[.slice A0_0 l0_0.length c0_0] ?_
    with_reducible refine (impl_size_int64.calls _ _ l0_0 t276 _ A14.out).mono ?_
    rintro e w' ⟨rfl, ⟨nd, rfl⟩⟩
    refine ⟨_, rfl, ?_⟩
    refine hK.out _ _ ⟨bc BK273.out 0, bc BK274.out 0, bc BK272.out 0, bc BK272.out 1, bc BK272.out 2⟩ (fun hHeld => ?_)
    clear hK K
    refine norm_ (a' := ?_) ?_ ?_
    rotate_left
    ·show Act.put _ (some 23) _ = _
     simp only [Act.put, sa_, s0_, ss_, i64_w, i32_w]
     rfl
    refine pu_ 12 (some 24) ?_ b47_13 rfl rfl HT_.out (by kernel_rfl) (fun _ _ _ h => h) (Or.inl ⟨by rfl, ?_⟩) ?_ ?_ ?_; rotate_left
    ·intro w'; go_simp; with_reducible rfl
    rotate_left
    ·simp only [Act.put, sa_, s0_, ss_, i64_w, i32_w]; rfl
    refine pu_ 13 (some 25) ?_ b47_14 rfl rfl HT_.out (by kernel_rfl) (fun _ _ _ h => h) (Or.inl ⟨by rfl, ?_⟩) ?_ ?_ ?_; rotate_left
    ·intro w'; go_simp; with_reducible rfl
    rotate_left
    ·simp only [Act.put, sa_, s0_, ss_, i64_w, i32_w]; rfl
    refine done_ (done_of HT_.out (by kernel_rfl)) ?_
    (try (rw [drewN_self w15]; generalize hq_ : World.drewN w15 _ = w15; replace HO0_0 := am (vAt2 hq_ HO0_0.out); replace HO3 := am (vAt2 hq_ HO3.out); replace BK272 := am (blk_at hq_ BK272.out); replace BK273 := am (blk_at hq_ BK273.out); replace BK274 := am (blk_at hq_ BK274.out); replace BK275 := am (blk_at hq_ BK275.out); replace HB := am (below_at hq_ HB.out); clear hq_))
    try go_wp2
    go_meet
    case rel => exact ⟨_, (decide (a2 > t276)), (by first | rfl | (simp; done) | (simp [*]; done)), H', ⟨by first | omega | exact Nat.le_refl _⟩, ⟨kv (Kd.V_mono HO3.out (fun _ hk => ⟨hk.1.1.1.1, ⟨hk.1.1.1.2, ⟨hk.1.1.2, ⟨hk.1.2, hk.2⟩⟩⟩⟩))⟩, ⟨kv (Kd.V_mono HO0_0.out (fun _ hk => ⟨hk.1.1.1.1, ⟨hk.1.1.1.2, ⟨hk.1.1.2, ⟨hk.1.2, hk.2⟩⟩⟩⟩))⟩, ⟨pk BK272.out⟩, ⟨pk BK273.out⟩, ⟨pk BK274.out⟩, ⟨pk BK275.out⟩, ⟨by repeat (first | (with_reducible first | exact HB.out | apply below_alloc | apply pw_below_drewN | apply below_drew1 | refine below_set ?_ GE272.out | refine below_set ?_ GE273.out | refine below_set ?_ GE274.out | refine below_set ?_ GE275.out) | exact HB.out)⟩⟩
 case rest =>
  clear HC5
  try clear c1
  try clear p2
  try clear c3
  try clear c4
  try clear c5
  try clear c10
  try clear c10b0
  try clear c12
  try clear c12b0
  obtain ⟨kq, x25_4, rfl, HA, HJ4, HO_3, HO_273000, BK272, BK273, BK274, BK275, HB⟩ := hcut
  cases kq with
  | zero => exact absurd HA.out (by simp [impl_replace.j0])
  | succ kj4 =>
   have H := HA.out
   clear HA
   simp only [impl_replace.j0] at H
   by_cases c16 : x25_4 = true
   ·subst c16
    have H1 : (some (([] : List Int), 0, 0, ([] : List Int), 8)) = some (r1, r2, r3, r4, r5) := by rw [if_pos rfl] at H; exact H
    clear H
    have H := H1
    clear H1
    simp only [Option.some.injEq, Prod.mk.injEq] at H
    obtain ⟨rfl, rfl, rfl, rfl, rfl⟩ := H
    have hnb17 := NB275_272.out
    have hnc17 := NB272_275.out
    have hnb18 := NB275_273.out
    have hnc18 := NB273_275.out
    have hnb19 := NB275_274.out
    have hnc19 := NB274_275.out
    have hcz20_0 : wc.cell? ⟨gb275, 0, none⟩ = some (.slice none 0 0) := bc BK275.out 0
    have hcz20_1 : wc.cell? ⟨gb275, 1, none⟩ = some (.int .i64 0) := bc BK275.out 1
    have hcz20_2 : wc.cell? ⟨gb275, 2, none⟩ = some (.int .i64 0) := bc BK275.out 2
    have hcz20_3 : wc.cell? ⟨gb275, 3, none⟩ = some (.slice none 0 0) := bc BK275.out 3
    have hcz20_4 : wc.cell? ⟨gb275, 4, none⟩ = some (.int .i64 0) := bc BK275.out 4
    have hfz20_0 := blk_frozen BK275.out 0
    have hfz20_1 := blk_frozen BK275.out 1
    have hfz20_2 := blk_frozen BK275.out 2
    have hfz20_3 := blk_frozen BK275.out 3
    have hfz20_4 := blk_frozen BK275.out 4
    go_wp2
    refine bodyPost_ret (results_cell_row rfl _ _ gb275 28 #[.slice none 0 0, .int .i64 0, .int .i64 0, .slice none 0 0, .int .i64 8] (0, 0) _ rfl (by refine pk ?_; refine blk_put (cs := #[.slice none 0 0, .int .i64 0, .int .i64 0, .slice none 0 0, .int .i64 0]) ?_ 4 _ rfl; refine pk ?_; refine blk_put (cs := #[.slice none 0 0, .int .i64 0, .int .i64 0, .slice none 0 0, .int .i64 0]) ?_ 3 _ rfl; refine pk ?_; refine blk_put (cs := #[.slice none 0 0, .int .i64 0, .int .i64 0, .slice none 0 0, .int .i64 0]) ?_ 2 _ rfl; refine pk ?_; refine blk_put (cs := #[.slice none 0 0, .int .i64 0, .int .i64 0, .slice none 0 0, .int .i64 0]) ?_ 1 _ rfl; refine pk ?_; refine blk_put (cs := #[.slice none 0 0, .int .i64 0, .int .i64 0, .slice none 0 0, .int .i64 0]) ?_ 0 _ rfl; refine pk ?_; exact BK275.out) Try.underlying28 rfl (by kernel_rfl)) rfl ?_
    exact ⟨_, _, by first | rfl | (simp [errW_none, errW_some] <;> rfl) | (simp [*, errW_none, errW_some] <;> rfl), by first | exact Kd.R_nil _ _ _ _ _ | exact Kd.N_nil _ _ _ _ _ | exact Kd.V_nil _ _ _ _ _ | exact Kd.Q_nil _ _ _ _ _ | exact Kd.S_nil _ _ _ _ _, by first | exact Kd.R_nil _ _ _ _ _ | exact Kd.N_nil _ _ _ _ _ | exact Kd.V_nil _ _ _ _ _ | exact Kd.Q_nil _ _ _ _ _ | exact Kd.S_nil _ _ _ _ _, by repeat (first | (with_reducible first | exact HB.out | apply below_alloc | apply pw_below_drewN | apply below_drew1 | refine below_set ?_ GE272.out | refine below_set ?_ GE273.out | refine below_set ?_ GE274.out | refine below_set ?_ GE275.out) | exact HB.out)⟩
   ·replace c16 := Bool.eq_false_iff.mpr c16
    subst c16
    have H1 : ((impl_size_int64.f l3).bind fun t277 => ((impl_size_int64.f l0_0).bind fun t279 => (if (wrap64 (t279 + (wrap64 (t277 - (wrap64 (a2 - a1)))))) > 300 then (some (([] : List Int), 0, 0, ([] : List Int), 5)) else (if 0 ≤ a1 then (if a1 ≤ (l0_0.length : Int) then (if 0 ≤ a2 then (if a2 ≤ (l0_0.length : Int) then ((slices_Concat_sint64_int64.f kj4 (([(l0_0.take (a1 : Int).toNat), l3, (l0_0.drop (a2 : Int).toNat)] : List (List Int)))).bind fun t293 => ((impl_replace_1.f a0_1 a1 a2 (wrap64 (t277 - (wrap64 (a2 - a1))))).bind fun t296 => ((impl_replace_1.f a0_2 a1 a2 (wrap64 (t277 - (wrap64 (a2 - a1))))).bind fun t297 => (if a1 = a2 then (impl_replace.j1 kj4 l3 (a0_1 == a1) l0_0 a0_1 a0_2 a1 a2 t293 t296 t297) else (impl_replace.j1 kj4 l3 false l0_0 a0_1 a0_2 a1 a2 t293 t296 t297))))) else (none)) else (none)) else (none)) else (none))))) = some (r1, r2, r3, r4, r5) := by rw [if_neg (show ¬ (false = true) by decide)] at H; exact H
    clear H
    have H := H1
    clear H1
    replace H := Option.bind_eq_some_iff.mp H
    obtain ⟨t277, A210, H⟩ := H
    replace H : ((impl_size_int64.f l0_0).bind fun t279 => (if (wrap64 (t279 + (wrap64 (t277 - (wrap64 (a2 - a1)))))) > 300 then (some (([] : List Int), 0, 0, ([] : List Int), 5)) else (if 0 ≤ a1 then (if a1 ≤ (l0_0.length : Int) then (if 0 ≤ a2 then (if a2 ≤ (l0_0.length : Int) then ((slices_Concat_sint64_int64.f kj4 (([(l0_0.take (a1 : Int).toNat), l3, (l0_0.drop (a2 : Int).toNat)] : List (List Int)))).bind fun t293 => ((impl_replace_1.f a0_1 a1 a2 (wrap64 (t277 - (wrap64 (a2 - a1))))).bind fun t296 => ((impl_replace_1.f a0_2 a1 a2 (wrap64 (t277 - (wrap64 (a2 - a1))))).bind fun t297 => (if a1 = a2 then (impl_replace.j1 kj4 l3 (a0_1 == a1) l0_0 a0_1 a0_2 a1 a2 t293 t296 t297) else (impl_replace.j1 kj4 l3 false l0_0 a0_1 a0_2 a1 a2 t293 t296 t297))))) else (none)) else (none)) else (none)) else (none)))) = some (r1, r2, r3, r4, r5) := H
    have A21 := Aside0.mk A210
    clear A210
    replace H := Option.bind_eq_some_iff.mp H
    obtain ⟨t279, A220, H⟩ := H
    replace H : (if (wrap64 (t279 + (wrap64 (t277 - (wrap64 (a2 - a1)))))) > 300 then (some (([] : List Int), 0, 0, ([] : List Int), 5)) else (if 0 ≤ a1 then (if a1 ≤ (l0_0.length : Int) then (if 0 ≤ a2 then (if a2 ≤ (l0_0.length : Int) then ((slices_Concat_sint64_int64.f kj4 (([(l0_0.take (a1 : Int).toNat), l3, (l0_0.drop (a2 : Int).toNat)] : List (List Int)))).bind fun t293 => ((impl_replace_1.f a0_1 a1 a2 (wrap64 (t277 - (wrap64 (a2 - a1))))).bind fun t296 => ((impl_replace_1.f a0_2 a1 a2 (wrap64 (t277 - (wrap64 (a2 - a1))))).bind fun t297 => (if a1 = a2 then (impl_replace.j1 kj4 l3 (a0_1 == a1) l0_0 a0_1 a0_2 a1 a2 t293 t296 t297) else (impl_replace.j1 kj4 l3 false l0_0 a0_1 a0_2 a1 a2 t293 t296 t297))))) else (none)) else (none)) else (none)) else (none))) = some (r1, r2, r3, r4, r5) := H
    have A22 := Aside0.mk A220
    clear A220
    by_cases c23 : (wrap64 (t279 + (wrap64 (t277 - (wrap64 (a2 - a1)))))) > 300
    ·rw [if_pos c23] at H
     have c23b0 : decide (300 < (wrap64 (t279 + (wrap64 (t277 - (wrap64 (a2 - a1))))))) = true := decide_eq_true c23
     clear c23
     simp only [Option.some.injEq, Prod.mk.injEq] at H
     obtain ⟨rfl, rfl, rfl, rfl, rfl⟩ := H
     try go_wp2
     replace HO_3 := am (Kd.V_drew HO_3.out)
     replace HO_273000 := am (Kd.V_drew HO_273000.out)
     replace BK272 := am (blk_drew BK272.out)
     replace BK273 := am (blk_drew BK273.out)
     replace BK274 := am (blk_drew BK274.out)
     replace BK275 := am (blk_drew BK275.out)
     replace HB := am (below_drew1 HB.out)
     refine start_ (n := 8) (S := fun w' => w'.cell? ⟨gb274, 0, none⟩ = some (.int .i64 a2) ∧ w'.cell? ⟨gb273, 0, none⟩ = some (.int .i64 a1)) (ds := []) b47_15 (by kernel_rfl) rfl rfl ⟨bc BK274.out 0, bc BK273.out 0⟩ (fun hHeld => ?_); refine with_tabW impl_replace.tab3 impl_replace.bits3 (fun HT_ HW_ => ?_)
     generalize wc.drew = w24 at HO_3 HO_273000 BK272 BK273 BK274 BK275 HB hHeld ⊢
     refine pu_ 0 (some 27) ?_ b47_16 rfl rfl HT_.out (by kernel_rfl) (fun _ _ _ h => h) (Or.inl ⟨by rfl, ?_⟩) ?_ ?_ ?_; rotate_left
     ·intro w'; go_simp; with_reducible rfl
     rotate_left
     ·simp only [Act.put, sa_, s0_, ss_, i64_w, i32_w]; rfl
     refine tk_ 2 (some 29) ?_ b47_17 rfl rfl HT_.out HW_.out (by kernel_rfl) (fun _ _ _ h => h) (Or.inl ⟨by rfl, ?_⟩) hHeld ?_ ?_ ?_; rotate_left
     ·rintro w' ⟨s0, s1⟩; go_simp; with_reducible rfl
     rotate_left
     ·simp only [Act.put, sa_, s0_, ss_, i64_w, i32_w]; rfl
     refine tk_ 3 (some 30) ?_ b47_18 rfl rfl HT_.out HW_.out (by kernel_rfl) (fun _ _ _ h => h) (Or.inl ⟨by rfl, ?_⟩) hHeld ?_ ?_ ?_; rotate_left
     ·rintro w' ⟨s0, s1⟩; go_simp; with_reducible rfl
     rotate_left
     ·simp only [Act.put, sa_, s0_, ss_, i64_w, i32_w]; rfl
     refine pu_ 4 (some 31) ?_ b47_19 rfl rfl HT_.out (by kernel_rfl) (fun _ _ _ h => h) (Or.inl ⟨by rfl, ?_⟩) ?_ ?_ ?_; rotate_left
     ·intro w'; go_simp; with_reducible rfl
     rotate_left
     ·simp only [Act.put, sa_, s0_, ss_, i64_w, i32_w]; rfl
     refine join_ (σ := Nat) 1 b47_20 (fun s_ => [(28, .int .i64 t277), (9, .pointer (some ⟨s_, 0, none⟩)), (32, .int .i64 (wrap64 (t277 - (wrap64 (a2 - a1)))))]) (fun s_ w' => (w'.cell? ⟨gb274, 0, none⟩ = some (.int .i64 a2) ∧ w'.cell? ⟨gb273, 0, none⟩ = some (.int .i64 a1)) ∧ (Kd.V (Kd.int .i64) 2 w' w.heap.size (fun k_ => ((P0_0_ k_ ∨ P3_ k_) ∨ w.heap.size ≤ k_) ∧ k_ ≠ gb272 ∧ k_ ≠ gb273 ∧ k_ ≠ gb274 ∧ k_ ≠ gb275 ∧ k_ ≠ s_) (.slice A0_0 l0_0.length c0_0) l0_0) ∧ (Kd.V (Kd.int .i64) 2 w' w.heap.size (fun k_ => ((P0_0_ k_ ∨ P3_ k_) ∨ w.heap.size ≤ k_) ∧ k_ ≠ gb272 ∧ k_ ≠ gb273 ∧ k_ ≠ gb274 ∧ k_ ≠ gb275 ∧ k_ ≠ s_) (.slice A3 l3.length c3) l3) ∧ (w'.heap[gb272]? = some (.cells #[.slice A0_0 l0_0.length c0_0, .int .i64 a0_1, .int .i64 a0_2] 26 (0, 0))) ∧ (w'.heap[gb273]? = some (.cells #[.int .i64 a1] 2 (0, 0))) ∧ (w'.heap[gb274]? = some (.cells #[.int .i64 a2] 2 (0, 0))) ∧ (w'.heap[gb275]? = some (.cells #[.slice none 0 0, .int .i64 0, .int .i64 0, .slice none 0 0, .int .i64 0] 28 (0, 0))) ∧ (w'.heap[s_]? = some (.cells #[.int .i64 0] 2 (0, 0))) ∧ (w.heap.size ≤ s_) ∧ (w.heap.size ≤ s_) ∧ (gb272 ≠ s_) ∧ (s_ ≠ gb272) ∧ (gb273 ≠ s_) ∧ (s_ ≠ gb273) ∧ (gb274 ≠ s_) ∧ (s_ ≠ gb274) ∧ (gb275 ≠ s_) ∧ (s_ ≠ gb275) ∧ (Below w.heap.size w w')) ?_ ?_
     rotate_left
     ·intro hCont
      refine two_ (i := 1) (j := 6) (Ni := some 28) (Nj := some 9) b47_21 b47_22 rfl rfl rfl rfl (two_of HT_.out (by kernel_rfl)) (by decide) (by decide) (fun K hK => ?_) (fun K hK => ?_)
      ·skip
       refine gs_ Try.func55 #[.slice A3 l3.length c3] ?_
       with_reducible refine (impl_size_int64.calls _ _ l3 t277 _ A21.out).mono ?_
       rintro e w' ⟨rfl, ⟨nd, rfl⟩⟩
       refine ⟨_, rfl, ?_⟩
       refine hK.out _ _ ⟨bc BK274.out 0, bc BK273.out 0⟩ (fun hHeld => ?_)
       clear hK K
       refine norm_ (a' := ?_) ?_ ?_
       rotate_left
       ·show Act.put _ (some 28) _ = _
        simp only [Act.put, sa_, s0_, ss_, i64_w, i32_w]
        rfl
       refine pu_ 5 (some 32) ?_ b47_23 rfl rfl HT_.out (by kernel_rfl) (fun _ _ _ h => h) (Or.inl ⟨by rfl, ?_⟩) ?_ ?_ ?_; rotate_left
       ·intro w'; go_simp; with_reducible rfl
       rotate_left
       ·simp only [Act.put, sa_, s0_, ss_, i64_w, i32_w]; rfl
       refine one_ (i := 6) (N := some 9) b47_20 rfl rfl (one_of HT_.out (by kernel_rfl)) (by decide) (fun K hK => ?_)
       refine box_step ?hg (N := 9) ?hd (cs := #[.int .i64 0]) (t := 2) ?hr ?_; (case hd => rfl); (case hg => rfl); (case hr => first | (go_simp; done) | (go_simp; rfl))
       intro gb278 hg w25 hbox hb
       replace HO_3 := am (Kd.V_below (Kd.V_elderB (kv HO_3.out) gb278 (Nat.le_of_eq hg.symm)) hb)
       replace HO_273000 := am (Kd.V_below (Kd.V_elderB (kv HO_273000.out) gb278 (Nat.le_of_eq hg.symm)) hb)
       have BK278 := am (hbox)
       have GW278 := am ((by rw [hg]; exact (below_size (bl HB.out)) : w.heap.size ≤ gb278))
       have GE278 := GW278
       replace HB := am (below_step (bl HB.out) hb)
       have NB272_278 := am ((by rw [hg]; exact Nat.ne_of_lt (blk_lt (pk BK272.out)) : gb272 ≠ gb278))
       have NB278_272 := am ((by rw [hg]; exact Nat.ne_of_gt (blk_lt (pk BK272.out)) : gb278 ≠ gb272))
       replace BK272 := am (blk_below (pk BK272.out) hb)
       have NB273_278 := am ((by rw [hg]; exact Nat.ne_of_lt (blk_lt (pk BK273.out)) : gb273 ≠ gb278))
       have NB278_273 := am ((by rw [hg]; exact Nat.ne_of_gt (blk_lt (pk BK273.out)) : gb278 ≠ gb273))
       replace BK273 := am (blk_below (pk BK273.out) hb)
       have NB274_278 := am ((by rw [hg]; exact Nat.ne_of_lt (blk_lt (pk BK274.out)) : gb274 ≠ gb278))
       have NB278_274 := am ((by rw [hg]; exact Nat.ne_of_gt (blk_lt (pk BK274.out)) : gb278 ≠ gb274))
       replace BK274 := am (blk_below (pk BK274.out) hb)
       have NB275_278 := am ((by rw [hg]; exact Nat.ne_of_lt (blk_lt (pk BK275.out)) : gb275 ≠ gb278))
       have NB278_275 := am ((by rw [hg]; exact Nat.ne_of_gt (blk_lt (pk BK275.out)) : gb278 ≠ gb275))
       replace BK275 := am (blk_below (pk BK275.out) hb)
       clear hb hbox hg
       refine hK.out _ _ ⟨bc BK274.out 0, bc BK273.out 0⟩ (fun hHeld => ?_)
       clear hK K
       refine norm_ (a' := ?_) ?_ ?_
       rotate_left
       ·show Act.put _ (some 9) _ = _
        simp only [Act.put, sa_, s0_, ss_, i64_w, i32_w]
        rfl
       exact norm_ (by simp only [putAll, Act.put, sa_, s0_, ss_]) (hCont (gb278) _ ⟨hHeld, (kv (Kd.V_mono HO_273000.out (fun _ hk => ⟨hk.1.1, ⟨hk.1.2.1, ⟨hk.1.2.2.1, ⟨hk.1.2.2.2.1, ⟨hk.1.2.2.2.2, hk.2⟩⟩⟩⟩⟩))), (kv (Kd.V_mono HO_3.out (fun _ hk => ⟨hk.1.1, ⟨hk.1.2.1, ⟨hk.1.2.2.1, ⟨hk.1.2.2.2.1, ⟨hk.1.2.2.2.2, hk.2⟩⟩⟩⟩⟩))), (pk BK272.out), (pk BK273.out), (pk BK274.out), (pk BK275.out), (pk BK278.out), GW278.out, GE278.out, NB272_278.out, NB278_272.out, NB273_278.out, NB278_273.out, NB274_278.out, NB278_274.out, NB275_278.out, NB278_275.out, (bl HB.out)⟩)
      ·skip
       refine box_step ?hg (N := 9) ?hd (cs := #[.int .i64 0]) (t := 2) ?hr ?_; (case hd => rfl); (case hg => rfl); (case hr => first | (go_simp; done) | (go_simp; rfl))
       intro gb278 hg w25 hbox hb
       replace HO_3 := am (Kd.V_below (Kd.V_elderB (kv HO_3.out) gb278 (Nat.le_of_eq hg.symm)) hb)
       replace HO_273000 := am (Kd.V_below (Kd.V_elderB (kv HO_273000.out) gb278 (Nat.le_of_eq hg.symm)) hb)
       have BK278 := am (hbox)
       have GW278 := am ((by rw [hg]; exact (below_size (bl HB.out)) : w.heap.size ≤ gb278))
       have GE278 := GW278
       replace HB := am (below_step (bl HB.out) hb)
       have NB272_278 := am ((by rw [hg]; exact Nat.ne_of_lt (blk_lt (pk BK272.out)) : gb272 ≠ gb278))
       have NB278_272 := am ((by rw [hg]; exact Nat.ne_of_gt (blk_lt (pk BK272.out)) : gb278 ≠ gb272))
       replace BK272 := am (blk_below (pk BK272.out) hb)
       have NB273_278 := am ((by rw [hg]; exact Nat.ne_of_lt (blk_lt (pk BK273.out)) : gb273 ≠ gb278))
       have NB278_273 := am ((by rw [hg]; exact Nat.ne_of_gt (blk_lt (pk BK273.out)) : gb278 ≠ gb273))
       replace BK273 := am (blk_below (pk BK273.out) hb)
       have NB274_278 := am ((by rw [hg]; exact Nat.ne_of_lt (blk_lt (pk BK274.out)) : gb274 ≠ gb278))
       have NB278_274 := am ((by rw [hg]; exact Nat.ne_of_gt (blk_lt (pk BK274.out)) : gb278 ≠ gb274))
       replace BK274 := am (blk_below (pk BK274.out) hb)
       have NB275_278 := am ((by rw [hg]; exact Nat.ne_of_lt (blk_lt (pk BK275.out)) : gb275 ≠ gb278))
       have NB278_275 := am ((by rw [hg]; exact Nat.ne_of_gt (blk_lt (pk BK275.out)) : gb278 ≠ gb275))
       replace BK275 := am (blk_below (pk BK275.out) hb)
       clear hb hbox hg
       refine hK.out _ _ ⟨bc BK274.out 0, bc BK273.out 0⟩ (fun hHeld => ?_)
       clear hK K
       refine norm_ (a' := ?_) ?_ ?_
       rotate_left
       ·show Act.put _ (some 9) _ = _
        simp only [Act.put, sa_, s0_, ss_, i64_w, i32_w]
        rfl
       refine one_ (i := 1) (N := some 28) b47_24 rfl rfl (one_of HT_.out (by kernel_rfl)) (by decide) (fun K hK => ?_)
       refine gs_ Try.func55 #[.slice A3 l3.length c3] ?_
       with_reducible refine (impl_size_int64.calls _ _ l3 t277 _ A21.out).mono ?_
       rintro e w' ⟨rfl, ⟨nd, rfl⟩⟩
       refine ⟨_, rfl, ?_⟩
       refine hK.out _ _ ⟨bc BK274.out 0, bc BK273.out 0⟩ (fun hHeld => ?_)
       clear hK K
       refine norm_ (a' := ?_) ?_ ?_
       rotate_left
       ·show Act.put _ (some 28) _ = _
        simp only [Act.put, sa_, s0_, ss_, i64_w, i32_w]
        rfl
       refine pu_ 5 (some 32) ?_ b47_20 rfl rfl HT_.out (by kernel_rfl) (fun _ _ _ h => h) (Or.inl ⟨by rfl, ?_⟩) ?_ ?_ ?_; rotate_left
       ·intro w'; go_simp; with_reducible rfl
       rotate_left
       ·simp only [Act.put, sa_, s0_, ss_, i64_w, i32_w]; rfl
       exact norm_ (by simp only [putAll, Act.put, sa_, s0_, ss_]) (hCont (gb278) _ ⟨hHeld, (kv (Kd.V_mono HO_273000.out (fun _ hk => ⟨hk.1.1, ⟨hk.1.2.1, ⟨hk.1.2.2.1, ⟨hk.1.2.2.2.1, ⟨hk.1.2.2.2.2, hk.2⟩⟩⟩⟩⟩))), (kv (Kd.V_mono HO_3.out (fun _ hk => ⟨hk.1.1, ⟨hk.1.2.1, ⟨hk.1.2.2.1, ⟨hk.1.2.2.2.1, ⟨hk.1.2.2.2.2, hk.2⟩⟩⟩⟩⟩))), (pk BK272.out), (pk BK273.out), (pk BK274.out), (pk BK275.out), (pk BK278.out), GW278.out, GE278.out, NB272_278.out, NB278_272.out, NB273_278.out, NB278_273.out, NB274_278.out, NB278_274.out, NB275_278.out, NB278_275.out, (bl HB.out)⟩)
     rintro gb278 w26 ⟨hS_, h0_, h1_, h2_, h3_, h4_, h5_, h6_, h7_, h8_, h9_, h10_, h11_, h12_, h13_, h14_, h15_, h16_, h17_⟩
     replace HO_273000 : Aside0 (Kd.V (Kd.int .i64) 2 w26 w.heap.size (fun k_ => ((P0_0_ k_ ∨ P3_ k_) ∨ w.heap.size ≤ k_) ∧ k_ ≠ gb272 ∧ k_ ≠ gb273 ∧ k_ ≠ gb274 ∧ k_ ≠ gb275 ∧ k_ ≠ gb278) (.slice A0_0 l0_0.length c0_0) l0_0) := ⟨h0_⟩
     replace HO_3 : Aside0 (Kd.V (Kd.int .i64) 2 w26 w.heap.size (fun k_ => ((P0_0_ k_ ∨ P3_ k_) ∨ w.heap.size ≤ k_) ∧ k_ ≠ gb272 ∧ k_ ≠ gb273 ∧ k_ ≠ gb274 ∧ k_ ≠ gb275 ∧ k_ ≠ gb278) (.slice A3 l3.length c3) l3) := ⟨h1_⟩
     replace BK272 : Aside0 (w26.heap[gb272]? = some (.cells #[.slice A0_0 l0_0.length c0_0, .int .i64 a0_1, .int .i64 a0_2] 26 (0, 0))) := ⟨h2_⟩
     replace BK273 : Aside0 (w26.heap[gb273]? = some (.cells #[.int .i64 a1] 2 (0, 0))) := ⟨h3_⟩
     replace BK274 : Aside0 (w26.heap[gb274]? = some (.cells #[.int .i64 a2] 2 (0, 0))) := ⟨h4_⟩
     replace BK275 : Aside0 (w26.heap[gb275]? = some (.cells #[.slice none 0 0, .int .i64 0, .int .i64 0, .slice none 0 0, .int .i64 0] 28 (0, 0))) := ⟨h5_⟩
     have BK278 : Aside0 (w26.heap[gb278]? = some (.cells #[.int .i64 0] 2 (0, 0))) := ⟨h6_⟩
     have GW278 : Aside0 (w.heap.size ≤ gb278) := ⟨h7_⟩
     have GE278 : Aside0 (w.heap.size ≤ gb278) := ⟨h8_⟩
     have NB272_278 : Aside0 (gb272 ≠ gb278) := ⟨h9_⟩
     have NB278_272 : Aside0 (gb278 ≠ gb272) := ⟨h10_⟩
     have NB273_278 : Aside0 (gb273 ≠ gb278) := ⟨h11_⟩
     have NB278_273 : Aside0 (gb278 ≠ gb273) := ⟨h12_⟩
     have NB274_278 : Aside0 (gb274 ≠ gb278) := ⟨h13_⟩
     have NB278_274 : Aside0 (gb278 ≠ gb274) := ⟨h14_⟩
     have NB275_278 : Aside0 (gb275 ≠ gb278) := ⟨h15_⟩
     have NB278_275 : Aside0 (gb278 ≠ gb275) := ⟨h16_⟩
     replace HB : Aside0 (Below w.heap.size w w26) := ⟨h17_⟩
     clear h0_ h1_ h2_ h3_ h4_ h5_ h6_ h7_ h8_ h9_ h10_ h11_ h12_ h13_ h14_ h15_ h16_ h17_
     have hHeld : w26.cell? ⟨gb274, 0, none⟩ = some (.int .i64 a2) ∧ w26.cell? ⟨gb273, 0, none⟩ = some (.int .i64 a1) := hS_
     refine norm_ (a' := ?_) ?_ ?_
     rotate_left
     ·simp only [putAll, Act.put, sa_, s0_, ss_]
      rfl
     refine one_ (i := 7) (N := none) b47_25 rfl rfl (one_of HT_.out (by kernel_rfl)) (by decide) (fun K hK => ?_)
     have hs27 : w26.cell? ⟨gb278, 0, none⟩ = some (.int .i64 0) := bc BK278.out 0
     have hfs27 := blk_frozen BK278.out 0
     have hns27_0 := NB272_278.out
     have hns27_1 := NB273_278.out
     have hns27_2 := NB274_278.out
     have hns27_3 := NB275_278.out
     have hms27_0 := NB278_272.out
     have hms27_1 := NB278_273.out
     have hms27_2 := NB278_274.out
     have hms27_3 := NB278_275.out
     refine skip_ (w1 := ?_) (by rfl) rfl ?_ ?_
     rotate_left
     ·go_simp
      rfl
     refine hK.out _ _ ⟨((cell_far (p := ⟨gb278, _, none⟩) NB274_278.out _).trans (hHeld.1)), ((cell_far (p := ⟨gb278, _, none⟩) NB273_278.out _).trans (hHeld.2))⟩ (fun hHeld => ?_)
     clear hK K
     refine done_ (done_of HT_.out (by kernel_rfl)) ?_
     (try (rw [drewN_self w26]; generalize hq_ : World.drewN w26 _ = w26; replace HO_3 := am (vAt2 hq_ HO_3.out); replace HO_273000 := am (vAt2 hq_ HO_273000.out); replace BK272 := am (blk_at hq_ BK272.out); replace BK273 := am (blk_at hq_ BK273.out); replace BK274 := am (blk_at hq_ BK274.out); replace BK275 := am (blk_at hq_ BK275.out); replace BK278 := am (blk_at hq_ BK278.out); replace HB := am (below_at hq_ HB.out); clear hq_))
     try go_wp2
     have n0_ : Aside0 (Kd.V (Kd.int .i64) 2 (w26.setCell ⟨gb278, 0, none⟩ (.int .i64 (wrap64 (t277 - (wrap64 (a2 - a1)))))) w.heap.size (fun k_ => ((P0_0_ k_ ∨ P3_ k_) ∨ w.heap.size ≤ k_) ∧ k_ ≠ gb272 ∧ k_ ≠ gb273 ∧ k_ ≠ gb274 ∧ k_ ≠ gb275 ∧ k_ ≠ gb278) (.slice A3 l3.length c3) l3) := ⟨kv (Kd.V_mono (Kd.V_far (p := ⟨gb278, 0, none⟩) (Kd.V_mono HO_3.out (fun k_ hk => (⟨hk, hk.2.2.2.2.2⟩ : _ ∧ k_ ≠ gb278))) (fun _ hk => hk.2) (.int .i64 (wrap64 (t277 - (wrap64 (a2 - a1)))))) (fun _ hk => ⟨hk.1.1, ⟨hk.1.2.1, ⟨hk.1.2.2.1, ⟨hk.1.2.2.2.1, ⟨hk.1.2.2.2.2.1, hk.1.2.2.2.2.2⟩⟩⟩⟩⟩))⟩
     have n1_ : Aside0 (Kd.V (Kd.int .i64) 2 (w26.setCell ⟨gb278, 0, none⟩ (.int .i64 (wrap64 (t277 - (wrap64 (a2 - a1)))))) w.heap.size (fun k_ => ((P0_0_ k_ ∨ P3_ k_) ∨ w.heap.size ≤ k_) ∧ k_ ≠ gb272 ∧ k_ ≠ gb273 ∧ k_ ≠ gb274 ∧ k_ ≠ gb275 ∧ k_ ≠ gb278) (.slice A0_0 l0_0.length c0_0) l0_0) := ⟨kv (Kd.V_mono (Kd.V_far (p := ⟨gb278, 0, none⟩) (Kd.V_mono HO_273000.out (fun k_ hk => (⟨hk, hk.2.2.2.2.2⟩ : _ ∧ k_ ≠ gb278))) (fun _ hk => hk.2) (.int .i64 (wrap64 (t277 - (wrap64 (a2 - a1)))))) (fun _ hk => ⟨hk.1.1, ⟨hk.1.2.1, ⟨hk.1.2.2.1, ⟨hk.1.2.2.2.1, ⟨hk.1.2.2.2.2.1, hk.1.2.2.2.2.2⟩⟩⟩⟩⟩))⟩
     have n2_ : Aside0 ((w26.setCell ⟨gb278, 0, none⟩ (.int .i64 (wrap64 (t277 - (wrap64 (a2 - a1)))))).heap[gb272]? = some (.cells #[.slice A0_0 l0_0.length c0_0, .int .i64 a0_1, .int .i64 a0_2] 26 (0, 0))) := ⟨by refine pk ?_; refine blk_far ?_ NB272_278.out _; refine pk ?_; exact BK272.out⟩
     have n3_ : Aside0 ((w26.setCell ⟨gb278, 0, none⟩ (.int .i64 (wrap64 (t277 - (wrap64 (a2 - a1)))))).heap[gb273]? = some (.cells #[.int .i64 a1] 2 (0, 0))) := ⟨by refine pk ?_; refine blk_far ?_ NB273_278.out _; refine pk ?_; exact BK273.out⟩
     have n4_ : Aside0 ((w26.setCell ⟨gb278, 0, none⟩ (.int .i64 (wrap64 (t277 - (wrap64 (a2 - a1)))))).heap[gb274]? = some (.cells #[.int .i64 a2] 2 (0, 0))) := ⟨by refine pk ?_; refine blk_far ?_ NB274_278.out _; refine pk ?_; exact BK274.out⟩
     have n5_ : Aside0 ((w26.setCell ⟨gb278, 0, none⟩ (.int .i64 (wrap64 (t277 - (wrap64 (a2 - a1)))))).heap[gb275]? = some (.cells #[.slice none 0 0, .int .i64 0, .int .i64 0, .slice none 0 0, .int .i64 0] 28 (0, 0))) := ⟨by refine pk ?_; refine blk_far ?_ NB275_278.out _; refine pk ?_; exact BK275.out⟩
     have n6_ : Aside0 ((w26.setCell ⟨gb278, 0, none⟩ (.int .i64 (wrap64 (t277 - (wrap64 (a2 - a1)))))).heap[gb278]? = some (.cells #[.int .i64 (wrap64 (t277 - (wrap64 (a2 - a1))))] 2 (0, 0))) := ⟨by refine pk ?_; refine blk_put (cs := #[.int .i64 0]) ?_ 0 _ rfl; refine pk ?_; exact BK278.out⟩
     have n7_ : Aside0 (Below w.heap.size w (w26.setCell ⟨gb278, 0, none⟩ (.int .i64 (wrap64 (t277 - (wrap64 (a2 - a1))))))) := ⟨by repeat (first | (with_reducible first | exact HB.out | apply below_alloc | apply pw_below_drewN | apply below_drew1 | refine below_set ?_ GE272.out | refine below_set ?_ GE273.out | refine below_set ?_ GE274.out | refine below_set ?_ GE275.out | refine below_set ?_ GE278.out) | exact HB.out)⟩
     (try clear HO_3)
     (try clear HO_273000)
     (try clear BK272)
     (try clear BK273)
     (try clear BK274)
     (try clear BK275)
     (try clear BK278)
     (try clear HB)
     generalize (w26.setCell ⟨gb278, 0, none⟩ (.int .i64 (wrap64 (t277 - (wrap64 (a2 - a1)))))) = w28 at n0_ n1_ n2_ n3_ n4_ n5_ n6_ n7_ ⊢
     have HO_3 := n0_
     have HO_273000 := n1_
     have BK272 := n2_
     have BK273 := n3_
     have BK274 := n4_
     have BK275 := n5_
     have BK278 := n6_
     have HB := n7_
     clear n0_ n1_ n2_ n3_ n4_ n5_ n6_ n7_
     replace HO_3 := am (Kd.V_drew HO_3.out)
     replace HO_273000 := am (Kd.V_drew HO_273000.out)
     replace BK272 := am (blk_drew BK272.out)
     replace BK273 := am (blk_drew BK273.out)
     replace BK274 := am (blk_drew BK274.out)
     replace BK275 := am (blk_drew BK275.out)
     replace BK278 := am (blk_drew BK278.out)
     replace HB := am (below_drew1 HB.out)
     refine start_ (n := 6) (S := fun w' => w'.cell? ⟨gb272, 0, none⟩ = some (.slice A0_0 l0_0.length c0_0) ∧ w'.cell? ⟨gb272, 1, none⟩ = some (.int .i64 a0_1) ∧ w'.cell? ⟨gb272, 2, none⟩ = some (.int .i64 a0_2) ∧ w'.cell? ⟨gb278, 0, none⟩ = some (.int .i64 (wrap64 (t277 - (wrap64 (a2 - a1)))))) (ds := []) b47_26 (by kernel_rfl) rfl rfl ⟨bc BK272.out 0, bc BK272.out 1, bc BK272.out 2, bc BK278.out 0⟩ (fun hHeld => ?_)
     generalize w28.drew = w29 at HO_3 HO_273000 BK272 BK273 BK274 BK275 BK278 HB hHeld ⊢
     refine pure_ (i := 0) (N := some 33) (v := ?_) (a' := ?_) b47_27 rfl rfl (by kernel_rfl) (fun _ _ _ h => h) (Or.inl ⟨by rfl, ?_⟩) ?_ ?_; rotate_left
     ·intro w'; go_simp; with_reducible rfl
     rotate_left
     ·simp only [Act.put, sa_, s0_, ss_, i64_w, i32_w]; rfl
     refine take_ (i := 1) (N := some 34) (v := ?_) (a' := ?_) b47_28 rfl rfl (by kernel_rfl) (fun _ _ _ h => h) (Or.inl ⟨by rfl, ?_⟩) hHeld ?_ ?_; rotate_left
     ·rintro w' ⟨s0, s1, s2, s3⟩; go_simp; with_reducible rfl
     rotate_left
     ·simp only [Act.put, sa_, s0_, ss_, i64_w, i32_w]; rfl
     refine take_ (i := 3) (N := some 36) (v := ?_) (a' := ?_) b47_29 rfl rfl (by kernel_rfl) (fun _ _ _ h => h) (Or.inl ⟨by rfl, ?_⟩) hHeld ?_ ?_; rotate_left
     ·rintro w' ⟨s0, s1, s2, s3⟩; go_simp; with_reducible rfl
     rotate_left
     ·simp only [Act.put, sa_, s0_, ss_, i64_w, i32_w]; rfl
     refine one_ (i := 2) (N := some 35) b47_30 rfl rfl (by kernel_rfl) (by decide) (fun K hK => ?_)
     refine gs_ Try.func55 #[.slice A0_0 l0_0.length c0_0] ?_
     with_reducible refine (impl_size_int64.calls _ _ l0_0 t279 _ A22.out).mono ?_
     rintro e w' ⟨rfl, ⟨nd, rfl⟩⟩
     refine ⟨_, rfl, ?_⟩
     refine hK.out _ _ ⟨bc BK272.out 0, bc BK272.out 1, bc BK272.out 2, bc BK278.out 0⟩ (fun hHeld => ?_)
     clear hK K
     refine norm_ (a' := ?_) ?_ ?_
     rotate_left
     ·show Act.put _ (some 35) _ = _
      simp only [Act.put, sa_, s0_, ss_, i64_w, i32_w]
      rfl
     refine pure_ (i := 4) (N := some 37) (v := ?_) (a' := ?_) b47_31 rfl rfl (by kernel_rfl) (fun _ _ _ h => h) (Or.inl ⟨by rfl, ?_⟩) ?_ ?_; rotate_left
     ·intro w'; go_simp; with_reducible rfl
     rotate_left
     ·simp only [Act.put, sa_, s0_, ss_, i64_w, i32_w]; rfl
     refine pure_ (i := 5) (N := some 38) (v := ?_) (a' := ?_) b47_32 rfl rfl (by kernel_rfl) (fun _ _ _ h => h) (Or.inl ⟨by rfl, ?_⟩) ?_ ?_; rotate_left
     ·intro w'; go_simp; with_reducible rfl
     rotate_left
     ·simp only [Act.put, sa_, s0_, ss_, i64_w, i32_w]; rfl
     refine done_ (by kernel_rfl) ?_
     (try (rw [drewN_self w29]; generalize hq_ : World.drewN w29 _ = w29; replace HO_3 := am (vAt2 hq_ HO_3.out); replace HO_273000 := am (vAt2 hq_ HO_273000.out); replace BK272 := am (blk_at hq_ BK272.out); replace BK273 := am (blk_at hq_ BK273.out); replace BK274 := am (blk_at hq_ BK274.out); replace BK275 := am (blk_at hq_ BK275.out); replace BK278 := am (blk_at hq_ BK278.out); replace HB := am (below_at hq_ HB.out); clear hq_))
     have hnb30 := NB275_272.out
     have hnc30 := NB272_275.out
     have hnb31 := NB275_273.out
     have hnc31 := NB273_275.out
     have hnb32 := NB275_274.out
     have hnc32 := NB274_275.out
     have hnb33 := NB275_278.out
     have hnc33 := NB278_275.out
     have hcz34_0 : w29.cell? ⟨gb275, 0, none⟩ = some (.slice none 0 0) := bc BK275.out 0
     have hcz34_1 : w29.cell? ⟨gb275, 1, none⟩ = some (.int .i64 0) := bc BK275.out 1
     have hcz34_2 : w29.cell? ⟨gb275, 2, none⟩ = some (.int .i64 0) := bc BK275.out 2
     have hcz34_3 : w29.cell? ⟨gb275, 3, none⟩ = some (.slice none 0 0) := bc BK275.out 3
     have hcz34_4 : w29.cell? ⟨gb275, 4, none⟩ = some (.int .i64 0) := bc BK275.out 4
     have hfz34_0 := blk_frozen BK275.out 0
     have hfz34_1 := blk_frozen BK275.out 1
     have hfz34_2 := blk_frozen BK275.out 2
     have hfz34_3 := blk_frozen BK275.out 3
     have hfz34_4 := blk_frozen BK275.out 4
     try go_wp2
     refine bodyPost_ret (results_cell_row rfl _ _ gb275 28 #[.slice none 0 0, .int .i64 0, .int .i64 0, .slice none 0 0, .int .i64 5] (0, 0) _ rfl (by refine pk ?_; refine blk_put (cs := #[.slice none 0 0, .int .i64 0, .int .i64 0, .slice none 0 0, .int .i64 0]) ?_ 4 _ rfl; refine pk ?_; refine blk_put (cs := #[.slice none 0 0, .int .i64 0, .int .i64 0, .slice none 0 0, .int .i64 0]) ?_ 3 _ rfl; refine pk ?_; refine blk_put (cs := #[.slice none 0 0, .int .i64 0, .int .i64 0, .slice none 0 0, .int .i64 0]) ?_ 2 _ rfl; refine pk ?_; refine blk_put (cs := #[.slice none 0 0, .int .i64 0, .int .i64 0, .slice none 0 0, .int .i64 0]) ?_ 1 _ rfl; refine pk ?_; refine blk_put (cs := #[.slice none 0 0, .int .i64 0, .int .i64 0, .slice none 0 0, .int .i64 0]) ?_ 0 _ rfl; refine pk ?_; exact BK275.out) Try.underlying28 rfl (by kernel_rfl)) rfl ?_
     exact ⟨_, _, by first | rfl | (simp [errW_none, errW_some] <;> rfl) | (simp [*, errW_none, errW_some] <;> rfl), by first | exact Kd.R_nil _ _ _ _ _ | exact Kd.N_nil _ _ _ _ _ | exact Kd.V_nil _ _ _ _ _ | exact Kd.Q_nil _ _ _ _ _ | exact Kd.S_nil _ _ _ _ _, by first | exact Kd.R_nil _ _ _ _ _ | exact Kd.N_nil _ _ _ _ _ | exact Kd.V_nil _ _ _ _ _ | exact Kd.Q_nil _ _ _ _ _ | exact Kd.S_nil _ _ _ _ _, by repeat (first | (with_reducible first | exact HB.out | apply below_alloc | apply pw_below_drewN | apply below_drew1 | refine below_set ?_ GE272.out | refine below_set ?_ GE273.out | refine below_set ?_ GE274.out | refine below_set ?_ GE275.out | refine below_set ?_ GE278.out) | exact HB.out)⟩
    ·rw [if_neg c23] at H
     have c23b0 : decide (300 < (wrap64 (t279 + (wrap64 (t277 - (wrap64 (a2 - a1))))))) = false := decide_eq_false c23
     clear c23
     by_cases c35 : 0 ≤ a1
     ·rw [if_pos c35] at H
      have c35b0 := eq_true c35
      have c35b1 : decide (0 ≤ a1) = true := decide_eq_true c35
      clear c35
      by_cases c36 : a1 ≤ (l0_0.length : Int)
      ·rw [if_pos c36] at H
       have c36b0 := eq_true c36
       have c36b1 : decide (a1 ≤ (l0_0.length : Int)) = true := decide_eq_true c36
       clear c36
       obtain ⟨y280, hy280⟩ : ∃ y_ : List Int, y_ = (l0_0.take (a1 : Int).toNat) := ⟨_, rfl⟩
       replace H : (if 0 ≤ a2 then (if a2 ≤ (l0_0.length : Int) then ((slices_Concat_sint64_int64.f kj4 (([y280, l3, (l0_0.drop (a2 : Int).toNat)] : List (List Int)))).bind fun t293 => ((impl_replace_1.f a0_1 a1 a2 (wrap64 (t277 - (wrap64 (a2 - a1))))).bind fun t296 => ((impl_replace_1.f a0_2 a1 a2 (wrap64 (t277 - (wrap64 (a2 - a1))))).bind fun t297 => (if a1 = a2 then (impl_replace.j1 kj4 l3 (a0_1 == a1) l0_0 a0_1 a0_2 a1 a2 t293 t296 t297) else (impl_replace.j1 kj4 l3 false l0_0 a0_1 a0_2 a1 a2 t293 t296 t297))))) else (none)) else (none)) = some (r1, r2, r3, r4, r5) := by first | (rw [hy280]; with_reducible exact H) | (have H2_ := (Option.bind_some _ _).symm.trans H; rw [hy280]; with_reducible exact H2_) | (have H2_ := (Option.bind_some _ _).symm.trans H; with_reducible exact H2_) | with_reducible exact H | (rw [hy280]; exact H) | exact H
       have Ny280 := am hy280
       clear hy280
       by_cases c37 : 0 ≤ a2
       ·rw [if_pos c37] at H
        have c37b0 := eq_true c37
        have c37b1 : decide (0 ≤ a2) = true := decide_eq_true c37
        clear c37
        by_cases c38 : a2 ≤ (l0_0.length : Int)
        ·rw [if_pos c38] at H
         have c38b0 := eq_true c38
         have c38b1 : decide (a2 ≤ (l0_0.length : Int)) = true := decide_eq_true c38
         clear c38
         obtain ⟨y285, hy285⟩ : ∃ y_ : List Int, y_ = (l0_0.drop (a2 : Int).toNat) := ⟨_, rfl⟩
         replace H : ((slices_Concat_sint64_int64.f kj4 (([y280, l3, y285] : List (List Int)))).bind fun t293 => ((impl_replace_1.f a0_1 a1 a2 (wrap64 (t277 - (wrap64 (a2 - a1))))).bind fun t296 => ((impl_replace_1.f a0_2 a1 a2 (wrap64 (t277 - (wrap64 (a2 - a1))))).bind fun t297 => (if a1 = a2 then (impl_replace.j1 kj4 l3 (a0_1 == a1) l0_0 a0_1 a0_2 a1 a2 t293 t296 t297) else (impl_replace.j1 kj4 l3 false l0_0 a0_1 a0_2 a1 a2 t293 t296 t297))))) = some (r1, r2, r3, r4, r5) := by first | (rw [hy285]; with_reducible exact H) | (have H2_ := (Option.bind_some _ _).symm.trans H; rw [hy285]; with_reducible exact H2_) | (have H2_ := (Option.bind_some _ _).symm.trans H; with_reducible exact H2_) | with_reducible exact H | (rw [hy285]; exact H) | exact H
         have Ny285 := am hy285
         clear hy285
         obtain ⟨y290, hy290⟩ : ∃ y_ : List (List Int), y_ = (([y280, l3, y285] : List (List Int))) := ⟨_, rfl⟩
         replace H : ((slices_Concat_sint64_int64.f kj4 y290).bind fun t293 => ((impl_replace_1.f a0_1 a1 a2 (wrap64 (t277 - (wrap64 (a2 - a1))))).bind fun t296 => ((impl_replace_1.f a0_2 a1 a2 (wrap64 (t277 - (wrap64 (a2 - a1))))).bind fun t297 => (if a1 = a2 then (impl_replace.j1 kj4 l3 (a0_1 == a1) l0_0 a0_1 a0_2 a1 a2 t293 t296 t297) else (impl_replace.j1 kj4 l3 false l0_0 a0_1 a0_2 a1 a2 t293 t296 t297))))) = some (r1, r2, r3, r4, r5) := by first | (rw [hy290]; with_reducible exact H) | (have H2_ := (Option.bind_some _ _).symm.trans H; rw [hy290]; with_reducible exact H2_) | (have H2_ := (Option.bind_some _ _).symm.trans H; with_reducible exact H2_) | with_reducible exact H | (rw [hy290]; exact H) | exact H
         have Ny290 := am hy290
         clear hy290
         replace H := Option.bind_eq_some_iff.mp H
         obtain ⟨t293, A390, H⟩ := H
         replace H : ((impl_replace_1.f a0_1 a1 a2 (wrap64 (t277 - (wrap64 (a2 - a1))))).bind fun t296 => ((impl_replace_1.f a0_2 a1 a2 (wrap64 (t277 - (wrap64 (a2 - a1))))).bind fun t297 => (if a1 = a2 then (impl_replace.j1 kj4 l3 (a0_1 == a1) l0_0 a0_1 a0_2 a1 a2 t293 t296 t297) else (impl_replace.j1 kj4 l3 false l0_0 a0_1 a0_2 a1 a2 t293 t296 t297)))) = some (r1, r2, r3, r4, r5) := H
         have A39 := Aside0.mk A390
         clear A390
         replace H := Option.bind_eq_some_iff.mp H
         obtain ⟨t296, A400, H⟩ := H
         replace H : ((impl_replace_1.f a0_2 a1 a2 (wrap64 (t277 - (wrap64 (a2 - a1))))).bind fun t297 => (if a1 = a2 then (impl_replace.j1 kj4 l3 (a0_1 == a1) l0_0 a0_1 a0_2 a1 a2 t293 t296 t297) else (impl_replace.j1 kj4 l3 false l0_0 a0_1 a0_2 a1 a2 t293 t296 t297))) = some (r1, r2, r3, r4, r5) := H
         have A40 := Aside0.mk A400
         clear A400
         replace H := Option.bind_eq_some_iff.mp H
         obtain ⟨t297, A410, H⟩ := H
         replace H : (if a1 = a2 then (impl_replace.j1 kj4 l3 (a0_1 == a1) l0_0 a0_1 a0_2 a1 a2 t293 t296 t297) else (impl_replace.j1 kj4 l3 false l0_0 a0_1 a0_2 a1 a2 t293 t296 t297)) = some (r1, r2, r3, r4, r5) := H
         have A41 := Aside0.mk A410
         clear A410
         have HC42 := Aside0.mk H
         clear H
         try go_wp2
         replace HO_3 := am (Kd.V_drew HO_3.out)
         replace HO_273000 := am (Kd.V_drew HO_273000.out)
         replace BK272 := am (blk_drew BK272.out)
         replace BK273 := am (blk_drew BK273.out)
         replace BK274 := am (blk_drew BK274.out)
         replace BK275 := am (blk_drew BK275.out)
         replace HB := am (below_drew1 HB.out)
         refine start_ (n := 8) (S := fun w' => w'.cell? ⟨gb274, 0, none⟩ = some (.int .i64 a2) ∧ w'.cell? ⟨gb273, 0, none⟩ = some (.int .i64 a1)) (ds := []) b47_15 (by kernel_rfl) rfl rfl ⟨bc BK274.out 0, bc BK273.out 0⟩ (fun hHeld => ?_); refine with_tabW impl_replace.tab3 impl_replace.bits3 (fun HT_ HW_ => ?_)
         generalize wc.drew = w43 at HO_3 HO_273000 BK272 BK273 BK274 BK275 HB hHeld ⊢
         refine pu_ 0 (some 27) ?_ b47_16 rfl rfl HT_.out (by kernel_rfl) (fun _ _ _ h => h) (Or.inl ⟨by rfl, ?_⟩) ?_ ?_ ?_; rotate_left
         ·intro w'; go_simp; with_reducible rfl
         rotate_left
         ·simp only [Act.put, sa_, s0_, ss_, i64_w, i32_w]; rfl
         refine tk_ 2 (some 29) ?_ b47_17 rfl rfl HT_.out HW_.out (by kernel_rfl) (fun _ _ _ h => h) (Or.inl ⟨by rfl, ?_⟩) hHeld ?_ ?_ ?_; rotate_left
         ·rintro w' ⟨s0, s1⟩; go_simp; with_reducible rfl
         rotate_left
         ·simp only [Act.put, sa_, s0_, ss_, i64_w, i32_w]; rfl
         refine tk_ 3 (some 30) ?_ b47_18 rfl rfl HT_.out HW_.out (by kernel_rfl) (fun _ _ _ h => h) (Or.inl ⟨by rfl, ?_⟩) hHeld ?_ ?_ ?_; rotate_left
         ·rintro w' ⟨s0, s1⟩; go_simp; with_reducible rfl
         rotate_left
         ·simp only [Act.put, sa_, s0_, ss_, i64_w, i32_w]; rfl
         refine pu_ 4 (some 31) ?_ b47_19 rfl rfl HT_.out (by kernel_rfl) (fun _ _ _ h => h) (Or.inl ⟨by rfl, ?_⟩) ?_ ?_ ?_; rotate_left
         ·intro w'; go_simp; with_reducible rfl
         rotate_left
         ·simp only [Act.put, sa_, s0_, ss_, i64_w, i32_w]; rfl
         refine join_ (σ := Nat) 1 b47_20 (fun s_ => [(28, .int .i64 t277), (9, .pointer (some ⟨s_, 0, none⟩)), (32, .int .i64 (wrap64 (t277 - (wrap64 (a2 - a1)))))]) (fun s_ w' => (w'.cell? ⟨gb274, 0, none⟩ = some (.int .i64 a2) ∧ w'.cell? ⟨gb273, 0, none⟩ = some (.int .i64 a1)) ∧ (Kd.V (Kd.int .i64) 2 w' w.heap.size (fun k_ => ((P0_0_ k_ ∨ P3_ k_) ∨ w.heap.size ≤ k_) ∧ k_ ≠ gb272 ∧ k_ ≠ gb273 ∧ k_ ≠ gb274 ∧ k_ ≠ gb275 ∧ k_ ≠ s_) (.slice A0_0 l0_0.length c0_0) l0_0) ∧ (Kd.V (Kd.int .i64) 2 w' w.heap.size (fun k_ => ((P0_0_ k_ ∨ P3_ k_) ∨ w.heap.size ≤ k_) ∧ k_ ≠ gb272 ∧ k_ ≠ gb273 ∧ k_ ≠ gb274 ∧ k_ ≠ gb275 ∧ k_ ≠ s_) (.slice A3 l3.length c3) l3) ∧ (w'.heap[gb272]? = some (.cells #[.slice A0_0 l0_0.length c0_0, .int .i64 a0_1, .int .i64 a0_2] 26 (0, 0))) ∧ (w'.heap[gb273]? = some (.cells #[.int .i64 a1] 2 (0, 0))) ∧ (w'.heap[gb274]? = some (.cells #[.int .i64 a2] 2 (0, 0))) ∧ (w'.heap[gb275]? = some (.cells #[.slice none 0 0, .int .i64 0, .int .i64 0, .slice none 0 0, .int .i64 0] 28 (0, 0))) ∧ (w'.heap[s_]? = some (.cells #[.int .i64 0] 2 (0, 0))) ∧ (w.heap.size ≤ s_) ∧ (w.heap.size ≤ s_) ∧ (gb272 ≠ s_) ∧ (s_ ≠ gb272) ∧ (gb273 ≠ s_) ∧ (s_ ≠ gb273) ∧ (gb274 ≠ s_) ∧ (s_ ≠ gb274) ∧ (gb275 ≠ s_) ∧ (s_ ≠ gb275) ∧ (Below w.heap.size w w')) ?_ ?_
         rotate_left
         ·intro hCont
          refine two_ (i := 1) (j := 6) (Ni := some 28) (Nj := some 9) b47_21 b47_22 rfl rfl rfl rfl (two_of HT_.out (by kernel_rfl)) (by decide) (by decide) (fun K hK => ?_) (fun K hK => ?_)
          ·skip
           refine gs_ Try.func55 #[.slice A3 l3.length c3] ?_
           with_reducible refine (impl_size_int64.calls _ _ l3 t277 _ A21.out).mono ?_
           rintro e w' ⟨rfl, ⟨nd, rfl⟩⟩
           refine ⟨_, rfl, ?_⟩
           refine hK.out _ _ ⟨bc BK274.out 0, bc BK273.out 0⟩ (fun hHeld => ?_)
           clear hK K
           refine norm_ (a' := ?_) ?_ ?_
           rotate_left
           ·show Act.put _ (some 28) _ = _
            simp only [Act.put, sa_, s0_, ss_, i64_w, i32_w]
            rfl
           refine pu_ 5 (some 32) ?_ b47_23 rfl rfl HT_.out (by kernel_rfl) (fun _ _ _ h => h) (Or.inl ⟨by rfl, ?_⟩) ?_ ?_ ?_; rotate_left
           ·intro w'; go_simp; with_reducible rfl
           rotate_left
           ·simp only [Act.put, sa_, s0_, ss_, i64_w, i32_w]; rfl
           refine one_ (i := 6) (N := some 9) b47_20 rfl rfl (one_of HT_.out (by kernel_rfl)) (by decide) (fun K hK => ?_)
           refine box_step ?hg (N := 9) ?hd (cs := #[.int .i64 0]) (t := 2) ?hr ?_; (case hd => rfl); (case hg => rfl); (case hr => first | (go_simp; done) | (go_simp; rfl))
           intro gb278 hg w44 hbox hb
           replace HO_3 := am (Kd.V_below (Kd.V_elderB (kv HO_3.out) gb278 (Nat.le_of_eq hg.symm)) hb)
           replace HO_273000 := am (Kd.V_below (Kd.V_elderB (kv HO_273000.out) gb278 (Nat.le_of_eq hg.symm)) hb)
           have BK278 := am (hbox)
           have GW278 := am ((by rw [hg]; exact (below_size (bl HB.out)) : w.heap.size ≤ gb278))
           have GE278 := GW278
           replace HB := am (below_step (bl HB.out) hb)
           have NB272_278 := am ((by rw [hg]; exact Nat.ne_of_lt (blk_lt (pk BK272.out)) : gb272 ≠ gb278))
           have NB278_272 := am ((by rw [hg]; exact Nat.ne_of_gt (blk_lt (pk BK272.out)) : gb278 ≠ gb272))
           replace BK272 := am (blk_below (pk BK272.out) hb)
           have NB273_278 := am ((by rw [hg]; exact Nat.ne_of_lt (blk_lt (pk BK273.out)) : gb273 ≠ gb278))
           have NB278_273 := am ((by rw [hg]; exact Nat.ne_of_gt (blk_lt (pk BK273.out)) : gb278 ≠ gb273))
           replace BK273 := am (blk_below (pk BK273.out) hb)
           have NB274_278 := am ((by rw [hg]; exact Nat.ne_of_lt (blk_lt (pk BK274.out)) : gb274 ≠ gb278))
           have NB278_274 := am ((by rw [hg]; exact Nat.ne_of_gt (blk_lt (pk BK274.out)) : gb278 ≠ gb274))
           replace BK274 := am (blk_below (pk BK274.out) hb)
           have NB275_278 := am ((by rw [hg]; exact Nat.ne_of_lt (blk_lt (pk BK275.out)) : gb275 ≠ gb278))
           have NB278_275 := am ((by rw [hg]; exact Nat.ne_of_gt (blk_lt (pk BK275.out)) : gb278 ≠ gb275))
           replace BK275 := am (blk_below (pk BK275.out) hb)
           clear hb hbox hg
           refine hK.out _ _ ⟨bc BK274.out 0, bc BK273.out 0⟩ (fun hHeld => ?_)
           clear hK K
           refine norm_ (a' := ?_) ?_ ?_
           rotate_left
           ·show Act.put _ (some 9) _ = _
            simp only [Act.put, sa_, s0_, ss_, i64_w, i32_w]
            rfl
           exact norm_ (by simp only [putAll, Act.put, sa_, s0_, ss_]) (hCont (gb278) _ ⟨hHeld, (kv (Kd.V_mono HO_273000.out (fun _ hk => ⟨hk.1.1, ⟨hk.1.2.1, ⟨hk.1.2.2.1, ⟨hk.1.2.2.2.1, ⟨hk.1.2.2.2.2, hk.2⟩⟩⟩⟩⟩))), (kv (Kd.V_mono HO_3.out (fun _ hk => ⟨hk.1.1, ⟨hk.1.2.1, ⟨hk.1.2.2.1, ⟨hk.1.2.2.2.1, ⟨hk.1.2.2.2.2, hk.2⟩⟩⟩⟩⟩))), (pk BK272.out), (pk BK273.out), (pk BK274.out), (pk BK275.out), (pk BK278.out), GW278.out, GE278.out, NB272_278.out, NB278_272.out, NB273_278.out, NB278_273.out, NB274_278.out, NB278_274.out, NB275_278.out, NB278_275.out, (bl HB.out)⟩)
          ·skip
           refine box_step ?hg (N := 9) ?hd (cs := #[.int .i64 0]) (t := 2) ?hr ?_; (case hd => rfl); (case hg => rfl); (case hr => first | (go_simp; done) | (go_simp; rfl))
           intro gb278 hg w44 hbox hb
           replace HO_3 := am (Kd.V_below (Kd.V_elderB (kv HO_3.out) gb278 (Nat.le_of_eq hg.symm)) hb)
           replace HO_273000 := am (Kd.V_below (Kd.V_elderB (kv HO_273000.out) gb278 (Nat.le_of_eq hg.symm)) hb)
           have BK278 := am (hbox)
           have GW278 := am ((by rw [hg]; exact (below_size (bl HB.out)) : w.heap.size ≤ gb278))
           have GE278 := GW278
           replace HB := am (below_step (bl HB.out) hb)
           have NB272_278 := am ((by rw [hg]; exact Nat.ne_of_lt (blk_lt (pk BK272.out)) : gb272 ≠ gb278))
           have NB278_272 := am ((by rw [hg]; exact Nat.ne_of_gt (blk_lt (pk BK272.out)) : gb278 ≠ gb272))
           replace BK272 := am (blk_below (pk BK272.out) hb)
           have NB273_278 := am ((by rw [hg]; exact Nat.ne_of_lt (blk_lt (pk BK273.out)) : gb273 ≠ gb278))
           have NB278_273 := am ((by rw [hg]; exact Nat.ne_of_gt (blk_lt (pk BK273.out)) : gb278 ≠ gb273))
           replace BK273 := am (blk_below (pk BK273.out) hb)
           have NB274_278 := am ((by rw [hg]; exact Nat.ne_of_lt (blk_lt (pk BK274.out)) : gb274 ≠ gb278))
           have NB278_274 := am ((by rw [hg]; exact Nat.ne_of_gt (blk_lt (pk BK274.out)) : gb278 ≠ gb274))
           replace BK274 := am (blk_below (pk BK274.out) hb)
           have NB275_278 := am ((by rw [hg]; exact Nat.ne_of_lt (blk_lt (pk BK275.out)) : gb275 ≠ gb278))
           have NB278_275 := am ((by rw [hg]; exact Nat.ne_of_gt (blk_lt (pk BK275.out)) : gb278 ≠ gb275))
           replace BK275 := am (blk_below (pk BK275.out) hb)
           clear hb hbox hg
           refine hK.out _ _ ⟨bc BK274.out 0, bc BK273.out 0⟩ (fun hHeld => ?_)
           clear hK K
           refine norm_ (a' := ?_) ?_ ?_
           rotate_left
           ·show Act.put _ (some 9) _ = _
            simp only [Act.put, sa_, s0_, ss_, i64_w, i32_w]
            rfl
           refine one_ (i := 1) (N := some 28) b47_24 rfl rfl (one_of HT_.out (by kernel_rfl)) (by decide) (fun K hK => ?_)
           refine gs_ Try.func55 #[.slice A3 l3.length c3] ?_
           with_reducible refine (impl_size_int64.calls _ _ l3 t277 _ A21.out).mono ?_
           rintro e w' ⟨rfl, ⟨nd, rfl⟩⟩
           refine ⟨_, rfl, ?_⟩
           refine hK.out _ _ ⟨bc BK274.out 0, bc BK273.out 0⟩ (fun hHeld => ?_)
           clear hK K
           refine norm_ (a' := ?_) ?_ ?_
           rotate_left
           ·show Act.put _ (some 28) _ = _
            simp only [Act.put, sa_, s0_, ss_, i64_w, i32_w]
            rfl
           refine pu_ 5 (some 32) ?_ b47_20 rfl rfl HT_.out (by kernel_rfl) (fun _ _ _ h => h) (Or.inl ⟨by rfl, ?_⟩) ?_ ?_ ?_; rotate_left
           ·intro w'; go_simp; with_reducible rfl
           rotate_left
           ·simp only [Act.put, sa_, s0_, ss_, i64_w, i32_w]; rfl
           exact norm_ (by simp only [putAll, Act.put, sa_, s0_, ss_]) (hCont (gb278) _ ⟨hHeld, (kv (Kd.V_mono HO_273000.out (fun _ hk => ⟨hk.1.1, ⟨hk.1.2.1, ⟨hk.1.2.2.1, ⟨hk.1.2.2.2.1, ⟨hk.1.2.2.2.2, hk.2⟩⟩⟩⟩⟩))), (kv (Kd.V_mono HO_3.out (fun _ hk => ⟨hk.1.1, ⟨hk.1.2.1, ⟨hk.1.2.2.1, ⟨hk.1.2.2.2.1, ⟨hk.1.2.2.2.2, hk.2⟩⟩⟩⟩⟩))), (pk BK272.out), (pk BK273.out), (pk BK274.out), (pk BK275.out), (pk BK278.out), GW278.out, GE278.out, NB272_278.out, NB278_272.out, NB273_278.out, NB278_273.out, NB274_278.out, NB278_274.out, NB275_278.out, NB278_275.out, (bl HB.out)⟩)
         rintro gb278 w45 ⟨hS_, h0_, h1_, h2_, h3_, h4_, h5_, h6_, h7_, h8_, h9_, h10_, h11_, h12_, h13_, h14_, h15_, h16_, h17_⟩
         replace HO_273000 : Aside0 (Kd.V (Kd.int .i64) 2 w45 w.heap.size (fun k_ => ((P0_0_ k_ ∨ P3_ k_) ∨ w.heap.size ≤ k_) ∧ k_ ≠ gb272 ∧ k_ ≠ gb273 ∧ k_ ≠ gb274 ∧ k_ ≠ gb275 ∧ k_ ≠ gb278) (.slice A0_0 l0_0.length c0_0) l0_0) := ⟨h0_⟩
         replace HO_3 : Aside0 (Kd.V (Kd.int .i64) 2 w45 w.heap.size (fun k_ => ((P0_0_ k_ ∨ P3_ k_) ∨ w.heap.size ≤ k_) ∧ k_ ≠ gb272 ∧ k_ ≠ gb273 ∧ k_ ≠ gb274 ∧ k_ ≠ gb275 ∧ k_ ≠ gb278) (.slice A3 l3.length c3) l3) := ⟨h1_⟩
         replace BK272 : Aside0 (w45.heap[gb272]? = some (.cells #[.slice A0_0 l0_0.length c0_0, .int .i64 a0_1, .int .i64 a0_2] 26 (0, 0))) := ⟨h2_⟩
         replace BK273 : Aside0 (w45.heap[gb273]? = some (.cells #[.int .i64 a1] 2 (0, 0))) := ⟨h3_⟩
         replace BK274 : Aside0 (w45.heap[gb274]? = some (.cells #[.int .i64 a2] 2 (0, 0))) := ⟨h4_⟩
         replace BK275 : Aside0 (w45.heap[gb275]? = some (.cells #[.slice none 0 0, .int .i64 0, .int .i64 0, .slice none 0 0, .int .i64 0] 28 (0, 0))) := ⟨h5_⟩
         have BK278 : Aside0 (w45.heap[gb278]? = some (.cells #[.int .i64 0] 2 (0, 0))) := ⟨h6_⟩
         have GW278 : Aside0 (w.heap.size ≤ gb278) := ⟨h7_⟩
         have GE278 : Aside0 (w.heap.size ≤ gb278) := ⟨h8_⟩
         have NB272_278 : Aside0 (gb272 ≠ gb278) := ⟨h9_⟩
         have NB278_272 : Aside0 (gb278 ≠ gb272) := ⟨h10_⟩
         have NB273_278 : Aside0 (gb273 ≠ gb278) := ⟨h11_⟩
         have NB278_273 : Aside0 (gb278 ≠ gb273) := ⟨h12_⟩
         have NB274_278 : Aside0 (gb274 ≠ gb278) := ⟨h13_⟩
         have NB278_274 : Aside0 (gb278 ≠ gb274) := ⟨h14_⟩
         have NB275_278 : Aside0 (gb275 ≠ gb278) := ⟨h15_⟩
         have NB278_275 : Aside0 (gb278 ≠ gb275) := ⟨h16_⟩
         replace HB : Aside0 (Below w.heap.size w w45) := ⟨h17_⟩
         clear h0_ h1_ h2_ h3_ h4_ h5_ h6_ h7_ h8_ h9_ h10_ h11_ h12_ h13_ h14_ h15_ h16_ h17_
         have hHeld : w45.cell? ⟨gb274, 0, none⟩ = some (.int .i64 a2) ∧ w45.cell? ⟨gb273, 0, none⟩ = some (.int .i64 a1) := hS_
         refine norm_ (a' := ?_) ?_ ?_
         rotate_left
         ·simp only [putAll, Act.put, sa_, s0_, ss_]
          rfl
         refine one_ (i := 7) (N := none) b47_25 rfl rfl (one_of HT_.out (by kernel_rfl)) (by decide) (fun K hK => ?_)
         have hs46 : w45.cell? ⟨gb278, 0, none⟩ = some (.int .i64 0) := bc BK278.out 0
         have hfs46 := blk_frozen BK278.out 0
         have hns46_0 := NB272_278.out
         have hns46_1 := NB273_278.out
         have hns46_2 := NB274_278.out
         have hns46_3 := NB275_278.out
         have hms46_0 := NB278_272.out
         have hms46_1 := NB278_273.out
         have hms46_2 := NB278_274.out
         have hms46_3 := NB278_275.out
         refine skip_ (w1 := ?_) (by rfl) rfl ?_ ?_
         rotate_left
         ·go_simp
          rfl
         refine hK.out _ _ ⟨((cell_far (p := ⟨gb278, _, none⟩) NB274_278.out _).trans (hHeld.1)), ((cell_far (p := ⟨gb278, _, none⟩) NB273_278.out _).trans (hHeld.2))⟩ (fun hHeld => ?_)
         clear hK K
         refine done_ (done_of HT_.out (by kernel_rfl)) ?_
         (try (rw [drewN_self w45]; generalize hq_ : World.drewN w45 _ = w45; replace HO_3 := am (vAt2 hq_ HO_3.out); replace HO_273000 := am (vAt2 hq_ HO_273000.out); replace BK272 := am (blk_at hq_ BK272.out); replace BK273 := am (blk_at hq_ BK273.out); replace BK274 := am (blk_at hq_ BK274.out); replace BK275 := am (blk_at hq_ BK275.out); replace BK278 := am (blk_at hq_ BK278.out); replace HB := am (below_at hq_ HB.out); clear hq_))
         try go_wp2
         have n0_ : Aside0 (Kd.V (Kd.int .i64) 2 (w45.setCell ⟨gb278, 0, none⟩ (.int .i64 (wrap64 (t277 - (wrap64 (a2 - a1)))))) w.heap.size (fun k_ => ((P0_0_ k_ ∨ P3_ k_) ∨ w.heap.size ≤ k_) ∧ k_ ≠ gb272 ∧ k_ ≠ gb273 ∧ k_ ≠ gb274 ∧ k_ ≠ gb275 ∧ k_ ≠ gb278) (.slice A3 l3.length c3) l3) := ⟨kv (Kd.V_mono (Kd.V_far (p := ⟨gb278, 0, none⟩) (Kd.V_mono HO_3.out (fun k_ hk => (⟨hk, hk.2.2.2.2.2⟩ : _ ∧ k_ ≠ gb278))) (fun _ hk => hk.2) (.int .i64 (wrap64 (t277 - (wrap64 (a2 - a1)))))) (fun _ hk => ⟨hk.1.1, ⟨hk.1.2.1, ⟨hk.1.2.2.1, ⟨hk.1.2.2.2.1, ⟨hk.1.2.2.2.2.1, hk.1.2.2.2.2.2⟩⟩⟩⟩⟩))⟩
         have n1_ : Aside0 (Kd.V (Kd.int .i64) 2 (w45.setCell ⟨gb278, 0, none⟩ (.int .i64 (wrap64 (t277 - (wrap64 (a2 - a1)))))) w.heap.size (fun k_ => ((P0_0_ k_ ∨ P3_ k_) ∨ w.heap.size ≤ k_) ∧ k_ ≠ gb272 ∧ k_ ≠ gb273 ∧ k_ ≠ gb274 ∧ k_ ≠ gb275 ∧ k_ ≠ gb278) (.slice A0_0 l0_0.length c0_0) l0_0) := ⟨kv (Kd.V_mono (Kd.V_far (p := ⟨gb278, 0, none⟩) (Kd.V_mono HO_273000.out (fun k_ hk => (⟨hk, hk.2.2.2.2.2⟩ : _ ∧ k_ ≠ gb278))) (fun _ hk => hk.2) (.int .i64 (wrap64 (t277 - (wrap64 (a2 - a1)))))) (fun _ hk => ⟨hk.1.1, ⟨hk.1.2.1, ⟨hk.1.2.2.1, ⟨hk.1.2.2.2.1, ⟨hk.1.2.2.2.2.1, hk.1.2.2.2.2.2⟩⟩⟩⟩⟩))⟩
         have n2_ : Aside0 ((w45.setCell ⟨gb278, 0, none⟩ (.int .i64 (wrap64 (t277 - (wrap64 (a2 - a1)))))).heap[gb272]? = some (.cells #[.slice A0_0 l0_0.length c0_0, .int .i64 a0_1, .int .i64 a0_2] 26 (0, 0))) := ⟨by refine pk ?_; refine blk_far ?_ NB272_278.out _; refine pk ?_; exact BK272.out⟩
         have n3_ : Aside0 ((w45.setCell ⟨gb278, 0, none⟩ (.int .i64 (wrap64 (t277 - (wrap64 (a2 - a1)))))).heap[gb273]? = some (.cells #[.int .i64 a1] 2 (0, 0))) := ⟨by refine pk ?_; refine blk_far ?_ NB273_278.out _; refine pk ?_; exact BK273.out⟩
         have n4_ : Aside0 ((w45.setCell ⟨gb278, 0, none⟩ (.int .i64 (wrap64 (t277 - (wrap64 (a2 - a1)))))).heap[gb274]? = some (.cells #[.int .i64 a2] 2 (0, 0))) := ⟨by refine pk ?_; refine blk_far ?_ NB274_278.out _; refine pk ?_; exact BK274.out⟩
         have n5_ : Aside0 ((w45.setCell ⟨gb278, 0, none⟩ (.int .i64 (wrap64 (t277 - (wrap64 (a2 - a1)))))).heap[gb275]? = some (.cells #[.slice none 0 0, .int .i64 0, .int .i64 0, .slice none 0 0, .int .i64 0] 28 (0, 0))) := ⟨by refine pk ?_; refine blk_far ?_ NB275_278.out _; refine pk ?_; exact BK275.out⟩
         have n6_ : Aside0 ((w45.setCell ⟨gb278, 0, none⟩ (.int .i64 (wrap64 (t277 - (wrap64 (a2 - a1)))))).heap[gb278]? = some (.cells #[.int .i64 (wrap64 (t277 - (wrap64 (a2 - a1))))] 2 (0, 0))) := ⟨by refine pk ?_; refine blk_put (cs := #[.int .i64 0]) ?_ 0 _ rfl; refine pk ?_; exact BK278.out⟩
         have n7_ : Aside0 (Below w.heap.size w (w45.setCell ⟨gb278, 0, none⟩ (.int .i64 (wrap64 (t277 - (wrap64 (a2 - a1))))))) := ⟨by repeat (first | (with_reducible first | exact HB.out | apply below_alloc | apply pw_below_drewN | apply below_drew1 | refine below_set ?_ GE272.out | refine below_set ?_ GE273.out | refine below_set ?_ GE274.out | refine below_set ?_ GE275.out | refine below_set ?_ GE278.out) | exact HB.out)⟩
         (try clear HO_3)
         (try clear HO_273000)
         (try clear BK272)
         (try clear BK273)
         (try clear BK274)
         (try clear BK275)
         (try clear BK278)
         (try clear HB)
         generalize (w45.setCell ⟨gb278, 0, none⟩ (.int .i64 (wrap64 (t277 - (wrap64 (a2 - a1)))))) = w47 at n0_ n1_ n2_ n3_ n4_ n5_ n6_ n7_ ⊢
         have HO_3 := n0_
         have HO_273000 := n1_
         have BK272 := n2_
         have BK273 := n3_
         have BK274 := n4_
         have BK275 := n5_
         have BK278 := n6_
         have HB := n7_
         clear n0_ n1_ n2_ n3_ n4_ n5_ n6_ n7_
         replace HO_3 := am (Kd.V_drew HO_3.out)
         replace HO_273000 := am (Kd.V_drew HO_273000.out)
         replace BK272 := am (blk_drew BK272.out)
         replace BK273 := am (blk_drew BK273.out)
         replace BK274 := am (blk_drew BK274.out)
         replace BK275 := am (blk_drew BK275.out)
         replace BK278 := am (blk_drew BK278.out)
         replace HB := am (below_drew1 HB.out)
         refine start_ (n := 6) (S := fun w' => w'.cell? ⟨gb272, 0, none⟩ = some (.slice A0_0 l0_0.length c0_0) ∧ w'.cell? ⟨gb272, 1, none⟩ = some (.int .i64 a0_1) ∧ w'.cell? ⟨gb272, 2, none⟩ = some (.int .i64 a0_2) ∧ w'.cell? ⟨gb278, 0, none⟩ = some (.int .i64 (wrap64 (t277 - (wrap64 (a2 - a1)))))) (ds := []) b47_26 (by kernel_rfl) rfl rfl ⟨bc BK272.out 0, bc BK272.out 1, bc BK272.out 2, bc BK278.out 0⟩ (fun hHeld => ?_)
         generalize w47.drew = w48 at HO_3 HO_273000 BK272 BK273 BK274 BK275 BK278 HB hHeld ⊢
         refine pure_ (i := 0) (N := some 33) (v := ?_) (a' := ?_) b47_27 rfl rfl (by kernel_rfl) (fun _ _ _ h => h) (Or.inl ⟨by rfl, ?_⟩) ?_ ?_; rotate_left
         ·intro w'; go_simp; with_reducible rfl
         rotate_left
         ·simp only [Act.put, sa_, s0_, ss_, i64_w, i32_w]; rfl
         refine take_ (i := 1) (N := some 34) (v := ?_) (a' := ?_) b47_28 rfl rfl (by kernel_rfl) (fun _ _ _ h => h) (Or.inl ⟨by rfl, ?_⟩) hHeld ?_ ?_; rotate_left
         ·rintro w' ⟨s0, s1, s2, s3⟩; go_simp; with_reducible rfl
         rotate_left
         ·simp only [Act.put, sa_, s0_, ss_, i64_w, i32_w]; rfl
         refine take_ (i := 3) (N := some 36) (v := ?_) (a' := ?_) b47_29 rfl rfl (by kernel_rfl) (fun _ _ _ h => h) (Or.inl ⟨by rfl, ?_⟩) hHeld ?_ ?_; rotate_left
         ·rintro w' ⟨s0, s1, s2, s3⟩; go_simp; with_reducible rfl
         rotate_left
         ·simp only [Act.put, sa_, s0_, ss_, i64_w, i32_w]; rfl
         refine one_ (i := 2) (N := some 35) b47_30 rfl rfl (by kernel_rfl) (by decide) (fun K hK => ?_)
         refine gs_ Try.func55 #[.slice A0_0 l0_0.length c0_0] ?_
         with_reducible refine (impl_size_int64.calls _ _ l0_0 t279 _ A22.out).mono ?_
         rintro e w' ⟨rfl, ⟨nd, rfl⟩⟩
         refine ⟨_, rfl, ?_⟩
         refine hK.out _ _ ⟨bc BK272.out 0, bc BK272.out 1, bc BK272.out 2, bc BK278.out 0⟩ (fun hHeld => ?_)
         clear hK K
         refine norm_ (a' := ?_) ?_ ?_
         rotate_left
         ·show Act.put _ (some 35) _ = _
          simp only [Act.put, sa_, s0_, ss_, i64_w, i32_w]
          rfl
         refine pure_ (i := 4) (N := some 37) (v := ?_) (a' := ?_) b47_31 rfl rfl (by kernel_rfl) (fun _ _ _ h => h) (Or.inl ⟨by rfl, ?_⟩) ?_ ?_; rotate_left
         ·intro w'; go_simp; with_reducible rfl
         rotate_left
         ·simp only [Act.put, sa_, s0_, ss_, i64_w, i32_w]; rfl
         refine pure_ (i := 5) (N := some 38) (v := ?_) (a' := ?_) b47_32 rfl rfl (by kernel_rfl) (fun _ _ _ h => h) (Or.inl ⟨by rfl, ?_⟩) ?_ ?_; rotate_left
         ·intro w'; go_simp; with_reducible rfl
         rotate_left
         ·simp only [Act.put, sa_, s0_, ss_, i64_w, i32_w]; rfl
         refine done_ (by kernel_rfl) ?_
         (try (rw [drewN_self w48]; generalize hq_ : World.drewN w48 _ = w48; replace HO_3 := am (vAt2 hq_ HO_3.out); replace HO_273000 := am (vAt2 hq_ HO_273000.out); replace BK272 := am (blk_at hq_ BK272.out); replace BK273 := am (blk_at hq_ BK273.out); replace BK274 := am (blk_at hq_ BK274.out); replace BK275 := am (blk_at hq_ BK275.out); replace BK278 := am (blk_at hq_ BK278.out); replace HB := am (below_at hq_ HB.out); clear hq_))
         try go_wp2
         (try (rw [drewN_self w48]; generalize hq_ : World.drewN w48 _ = w48; replace HO_273000 : Aside0 (Kd.V (Kd.int .i64) 2 w48 w.heap.size (fun k_ => ((P0_0_ k_ ∨ P3_ k_) ∨ w.heap.size ≤ k_) ∧ k_ ≠ gb272 ∧ k_ ≠ gb273 ∧ k_ ≠ gb274 ∧ k_ ≠ gb275 ∧ k_ ≠ gb278) (.slice A0_0 l0_0.length c0_0) l0_0) := ⟨by rw [← hq_]; exact (kv HO_273000.out)⟩; replace HO_3 : Aside0 (Kd.V (Kd.int .i64) 2 w48 w.heap.size (fun k_ => ((P0_0_ k_ ∨ P3_ k_) ∨ w.heap.size ≤ k_) ∧ k_ ≠ gb272 ∧ k_ ≠ gb273 ∧ k_ ≠ gb274 ∧ k_ ≠ gb275 ∧ k_ ≠ gb278) (.slice A3 l3.length c3) l3) := ⟨by rw [← hq_]; exact (kv HO_3.out)⟩; replace BK272 : Aside0 (w48.heap[gb272]? = some (.cells #[.slice A0_0 l0_0.length c0_0, .int .i64 a0_1, .int .i64 a0_2] 26 (0, 0))) := ⟨by rw [← hq_]; exact (pk BK272.out)⟩; replace BK273 : Aside0 (w48.heap[gb273]? = some (.cells #[.int .i64 a1] 2 (0, 0))) := ⟨by rw [← hq_]; exact (pk BK273.out)⟩; replace BK274 : Aside0 (w48.heap[gb274]? = some (.cells #[.int .i64 a2] 2 (0, 0))) := ⟨by rw [← hq_]; exact (pk BK274.out)⟩; replace BK275 : Aside0 (w48.heap[gb275]? = some (.cells #[.slice none 0 0, .int .i64 0, .int .i64 0, .slice none 0 0, .int .i64 0] 28 (0, 0))) := ⟨by rw [← hq_]; exact (pk BK275.out)⟩; replace BK278 : Aside0 (w48.heap[gb278]? = some (.cells #[.int .i64 (wrap64 (t277 - (wrap64 (a2 - a1))))] 2 (0, 0))) := ⟨by rw [← hq_]; exact (pk BK278.out)⟩; replace HB : Aside0 (Below w.heap.size w w48) := ⟨by rw [← hq_]; exact (bl HB.out)⟩; clear hq_))
         replace HO_3 := am (Kd.V_drew HO_3.out)
         replace HO_273000 := am (Kd.V_drew HO_273000.out)
         replace BK272 := am (blk_drew BK272.out)
         replace BK273 := am (blk_drew BK273.out)
         replace BK274 := am (blk_drew BK274.out)
         replace BK275 := am (blk_drew BK275.out)
         replace BK278 := am (blk_drew BK278.out)
         replace HB := am (below_drew1 HB.out)
         have q50 : (a1 : Int) ≤ ((l0_0.length : Int) : Int) := of_decide_eq_true (by first | (with_reducible assumption) | assumption)
         obtain ⟨i050, hi050, _, hsz50, _⟩ := info_parts info2
         have hroom50 : l0_0.length ≤ c0_0 := (Kd.V_reads' HO_273000.out).2.1
         have hC50 : Kd.F (Kd.int .i64) _ _ A0_0 l0_0.length l0_0 := (Kd.V_at (base := w.heap.size) HO_273000.out).2.2
         have hcut50 := cut_to (P := Try.prog) 22 2 .i64 Try.underlying22 hi050 A0_0 l0_0.length c0_0 a1 (of_decide_eq_true (by first | (with_reducible assumption) | assumption)) q50 hroom50
         have hr50 := Kd.F_take (m := (a1 : Int).toNat) hC50 (by omega)
         have hy50 : y280.length = (a1 : Int).toNat := (by rw [Ny280.out, List.length_take]; omega)
         rw [← Ny280.out] at hr50
         rw [← hy50] at hcut50
         have HO284 := am (show Kd.V (Kd.int .i64) 2 _ w.heap.size _ (.slice A0_0 y280.length c0_0) y280 from Kd.V_mk (by omega) hr50)
         have HC284 := am (show y280.length ≤ c0_0 from by omega)
         clear hr50 hC50 hroom50 hi050 hsz50
         have KY50 := am hy50
         clear hy50
         replace q50 := eq_true q50
         have q51 : (a2 : Int) ≤ ((l0_0.length : Int) : Int) := of_decide_eq_true (by first | (with_reducible assumption) | assumption)
         obtain ⟨i051, hi051, _, hsz51, _⟩ := info_parts info2
         have hroom51 : l0_0.length ≤ c0_0 := (Kd.V_reads' HO_273000.out).2.1
         have hC51 : Kd.F (Kd.int .i64) _ _ A0_0 l0_0.length l0_0 := (Kd.V_at (base := w.heap.size) HO_273000.out).2.2
         have q051 : (0 : Int) ≤ (a2 : Int) := of_decide_eq_true (by first | (with_reducible assumption) | assumption)
         have hcut51 := cut_from (P := Try.prog) 22 2 .i64 Try.underlying22 hi051 1 hsz51 A0_0 l0_0.length c0_0 a2 q051 q51
         have hr51 := Kd.F_cut (m := (a2 : Int).toNat) (c := c0_0) hC51 (by omega) hroom51
         obtain ⟨A51, hA51⟩ : ∃ A1, A1 = (if c0_0 = (a2 : Int).toNat then A0_0 else (A0_0 : Option Addr).map (·.add ((a2 : Int).toNat * 1))) := ⟨_, rfl⟩
         obtain ⟨c51, hc51⟩ : ∃ c1, c1 = c0_0 - (a2 : Int).toNat := ⟨_, rfl⟩
         have hy51 : y285.length = l0_0.length - (a2 : Int).toNat := (by rw [Ny285.out, List.length_drop] <;> omega)
         rw [show (l0_0).drop (a2 : Int).toNat = y285 from Ny285.out.symm] at hr51
         replace hr51 : Kd.F (Kd.int .i64) _ _ A51 y285.length y285 := (by rw [hA51]; exact hr51)
         rw [← hy51, ← hA51, ← hc51] at hcut51
         have HO289 := am (show Kd.V (Kd.int .i64) 2 _ w.heap.size _ (.slice A51 y285.length c51) y285 from Kd.V_mk (by rw [hy51, hc51]; exact Nat.sub_le_sub_right hroom51 _) hr51)
         have HC289 := am (show y285.length ≤ c51 from by rw [hy51, hc51]; exact Nat.sub_le_sub_right hroom51 _)
         clear hr51 hC51 hroom51 hi051 hsz51 hc51
         have KY51 := am hy51
         have KA51 := am hA51
         clear hy51 hA51
         replace q51 := eq_true q51
         refine start_ (n := 22) (S := fun w' => w'.cell? ⟨gb272, 0, none⟩ = some (.slice A0_0 l0_0.length c0_0) ∧ w'.cell? ⟨gb272, 1, none⟩ = some (.int .i64 a0_1) ∧ w'.cell? ⟨gb272, 2, none⟩ = some (.int .i64 a0_2) ∧ w'.cell? ⟨gb273, 0, none⟩ = some (.int .i64 a1) ∧ w'.cell? ⟨gb274, 0, none⟩ = some (.int .i64 a2)) (ds := []) #[false, false, false, false, false, false, false, false, false, false, false, false, false, false, false, false, false, false, false, false, false, false] (by kernel_rfl) rfl rfl ⟨bc BK272.out 0, bc BK272.out 1, bc BK272.out 2, bc BK273.out 0, bc BK274.out 0⟩ (fun hHeld => ?_); refine with_tabW impl_replace.tab7 impl_replace.bits7 (fun HT_ HW_ => ?_)
         generalize w48.drew = w49 at HO_3 HO_273000 BK272 BK273 BK274 BK275 BK278 HB HO284 HO289 hHeld ⊢
         refine pure_ (i := 0) (N := some 41) (v := ?_) (a' := ?_) #[true, false, false, false, false, false, false, false, false, false, false, false, false, false, false, false, false, false, false, false, false, false] rfl rfl (any_of HT_.out (by kernel_rfl)) (fun _ _ _ h => h) (Or.inl ⟨by rfl, ?_⟩) ?_ ?_; rotate_left
         ·intro w'; go_simp; with_reducible rfl
         rotate_left
         ·simp only [Act.put, sa_, s0_, ss_, i64_w, i32_w]; rfl
         refine pure_ (i := 4) (N := some 45) (v := ?_) (a' := ?_) #[true, false, false, false, true, false, false, false, false, false, false, false, false, false, false, false, false, false, false, false, false, false] rfl rfl (any_of HT_.out (by kernel_rfl)) (fun _ _ _ h => h) (Or.inl ⟨by rfl, ?_⟩) ?_ ?_; rotate_left
         ·intro w'; go_simp; with_reducible rfl
         rotate_left
         ·simp only [Act.put, sa_, s0_, ss_, i64_w, i32_w]; rfl
         refine pure_ (i := 5) (N := some 46) (v := ?_) (a' := ?_) #[true, false, false, false, true, true, false, false, false, false, false, false, false, false, false, false, false, false, false, false, false, false] rfl rfl (any_of HT_.out (by kernel_rfl)) (fun _ _ _ h => h) (Or.inl ⟨by rfl, ?_⟩) ?_ ?_; rotate_left
         ·intro w'; go_simp; with_reducible rfl
         rotate_left
         ·simp only [Act.put, sa_, s0_, ss_, i64_w, i32_w]; rfl
         refine pure_ (i := 11) (N := some 52) (v := ?_) (a' := ?_) #[true, false, false, false, true, true, false, false, false, false, false, true, false, false, false, false, false, false, false, false, false, false] rfl rfl (any_of HT_.out (by kernel_rfl)) (fun _ _ _ h => h) (Or.inl ⟨by rfl, ?_⟩) ?_ ?_; rotate_left
         ·intro w'; go_simp; with_reducible rfl
         rotate_left
         ·simp only [Act.put, sa_, s0_, ss_, i64_w, i32_w]; rfl
         refine pure_ (i := 12) (N := some 53) (v := ?_) (a' := ?_) #[true, false, false, false, true, true, false, false, false, false, false, true, true, false, false, false, false, false, false, false, false, false] rfl rfl (any_of HT_.out (by kernel_rfl)) (fun _ _ _ h => h) (Or.inl ⟨by rfl, ?_⟩) ?_ ?_; rotate_left
         ·intro w'; go_simp; with_reducible rfl
         rotate_left
         ·simp only [Act.put, sa_, s0_, ss_, i64_w, i32_w]; rfl
         refine pure_ (i := 15) (N := some 56) (v := ?_) (a' := ?_) #[true, false, false, false, true, true, false, false, false, false, false, true, true, false, false, true, false, false, false, false, false, false] rfl rfl (any_of HT_.out (by kernel_rfl)) (fun _ _ _ h => h) (Or.inl ⟨by rfl, ?_⟩) ?_ ?_; rotate_left
         ·intro w'; go_simp; with_reducible rfl
         rotate_left
         ·simp only [Act.put, sa_, s0_, ss_, i64_w, i32_w]; rfl
         refine pure_ (i := 16) (N := some 57) (v := ?_) (a' := ?_) #[true, false, false, false, true, true, false, false, false, false, false, true, true, false, false, true, true, false, false, false, false, false] rfl rfl (any_of HT_.out (by kernel_rfl)) (fun _ _ _ h => h) (Or.inl ⟨by rfl, ?_⟩) ?_ ?_; rotate_left
         ·intro w'; go_simp; with_reducible rfl
         rotate_left
         ·simp only [Act.put, sa_, s0_, ss_, i64_w, i32_w]; rfl
         refine take_ (i := 1) (N := some 42) (v := ?_) (a' := ?_) #[true, true, false, false, true, true, false, false, false, false, false, true, true, false, false, true, true, false, false, false, false, false] rfl rfl (take_ofW HT_.out HW_.out (by kernel_rfl)) (fun _ _ _ h => h) (Or.inl ⟨by rfl, ?_⟩) hHeld ?_ ?_; rotate_left
         ·rintro w' ⟨s0, s1, s2, s3, s4⟩; go_simp; with_reducible rfl
         rotate_left
         ·simp only [Act.put, sa_, s0_, ss_, i64_w, i32_w]; rfl
         refine take_ (i := 2) (N := some 43) (v := ?_) (a' := ?_) #[true, true, true, false, true, true, false, false, false, false, false, true, true, false, false, true, true, false, false, false, false, false] rfl rfl (take_ofW HT_.out HW_.out (by kernel_rfl)) (fun _ _ _ h => h) (Or.inl ⟨by rfl, ?_⟩) hHeld ?_ ?_; rotate_left
         ·rintro w' ⟨s0, s1, s2, s3, s4⟩; go_simp; with_reducible rfl
         rotate_left
         ·simp only [Act.put, sa_, s0_, ss_, i64_w, i32_w]; rfl
         refine pure_ (i := 3) (N := some 44) (v := ?_) (a' := ?_) #[true, true, true, true, true, true, false, false, false, false, false, true, true, false, false, true, true, false, false, false, false, false] rfl rfl (any_of HT_.out (by kernel_rfl)) (fun _ _ _ h => h) (Or.inl ⟨by rfl, ?_⟩) ?_ ?_; rotate_left
         ·intro w'; go_simp; with_reducible rfl
         rotate_left
         ·simp only [Act.put, sa_, s0_, ss_, i64_w, i32_w]; rfl
         refine take_ (i := 6) (N := some 47) (v := ?_) (a' := ?_) #[true, true, true, true, true, true, true, false, false, false, false, true, true, false, false, true, true, false, false, false, false, false] rfl rfl (take_ofW HT_.out HW_.out (by kernel_rfl)) (fun _ _ _ h => h) (Or.inl ⟨by rfl, ?_⟩) hHeld ?_ ?_; rotate_left
         ·rintro w' ⟨s0, s1, s2, s3, s4⟩; go_simp; with_reducible rfl
         rotate_left
         ·simp only [Act.put, sa_, s0_, ss_, i64_w, i32_w]; rfl
         refine take_ (i := 7) (N := some 48) (v := ?_) (a' := ?_) #[true, true, true, true, true, true, true, true, false, false, false, true, true, false, false, true, true, false, false, false, false, false] rfl rfl (take_ofW HT_.out HW_.out (by kernel_rfl)) (fun _ _ _ h => h) (Or.inl ⟨by rfl, ?_⟩) hHeld ?_ ?_; rotate_left
         ·rintro w' ⟨s0, s1, s2, s3, s4⟩; go_simp; with_reducible rfl
         rotate_left
         ·simp only [Act.put, sa_, s0_, ss_, i64_w, i32_w]; rfl
         refine pure_ (i := 8) (N := some 49) (v := ?_) (a' := ?_) #[true, true, true, true, true, true, true, true, true, false, false, true, true, false, false, true, true, false, false, false, false, false] rfl rfl (any_of HT_.out (by kernel_rfl)) (fun _ _ _ h => h) (Or.inl ⟨by rfl, ?_⟩) ?_ ?_; rotate_left
         ·intro w'; go_simp; with_reducible rfl
         rotate_left
         ·simp only [Act.put, sa_, s0_, ss_, i64_w, i32_w]; rfl
         refine take_ (i := 13) (N := some 54) (v := ?_) (a' := ?_) #[true, true, true, true, true, true, true, true, true, false, false, true, true, true, false, true, true, false, false, false, false, false] rfl rfl (take_ofW HT_.out HW_.out (by kernel_rfl)) (fun _ _ _ h => h) (Or.inl ⟨by rfl, ?_⟩) hHeld ?_ ?_; rotate_left
         ·rintro w' ⟨s0, s1, s2, s3, s4⟩; go_simp; with_reducible rfl
         rotate_left
         ·simp only [Act.put, sa_, s0_, ss_, i64_w, i32_w]; rfl
         refine take_ (i := 17) (N := some 58) (v := ?_) (a' := ?_) #[true, true, true, true, true, true, true, true, true, false, false, true, true, true, false, true, true, true, false, false, false, false] rfl rfl (take_ofW HT_.out HW_.out (by kernel_rfl)) (fun _ _ _ h => h) (Or.inl ⟨by rfl, ?_⟩) hHeld ?_ ?_; rotate_left
         ·rintro w' ⟨s0, s1, s2, s3, s4⟩; go_simp; with_reducible rfl
         rotate_left
         ·simp only [Act.put, sa_, s0_, ss_, i64_w, i32_w]; rfl
         refine join_ (σ := Value × Value × Nat) 1 b47_33 (fun s_ => [(50, s_.1), (51, s_.2.1), (55, .int .i64 t296), (59, .int .i64 t297), (11, .pointer (some ⟨s_.2.2, 0, none⟩)), (60, .agg #[s_.2.1, .int .i64 t296, .int .i64 t297])]) (fun s_ w' => (w'.cell? ⟨gb272, 0, none⟩ = some (.slice A0_0 l0_0.length c0_0) ∧ w'.cell? ⟨gb272, 1, none⟩ = some (.int .i64 a0_1) ∧ w'.cell? ⟨gb272, 2, none⟩ = some (.int .i64 a0_2) ∧ w'.cell? ⟨gb273, 0, none⟩ = some (.int .i64 a1) ∧ w'.cell? ⟨gb274, 0, none⟩ = some (.int .i64 a2)) ∧ (Kd.V (Kd.int .i64) 2 w' w.heap.size (fun k_ => ((P0_0_ k_ ∨ P3_ k_) ∨ w.heap.size ≤ k_) ∧ some k_ ≠ (s_.1 : Value).ownBlock ∧ some k_ ≠ (s_.2.1 : Value).ownBlock ∧ k_ ≠ gb272 ∧ k_ ≠ gb273 ∧ k_ ≠ gb274 ∧ k_ ≠ gb275 ∧ k_ ≠ gb278 ∧ k_ ≠ s_.2.2) (.slice A0_0 y280.length c0_0) y280) ∧ (Kd.V (Kd.int .i64) 2 w' w.heap.size (fun k_ => ((P0_0_ k_ ∨ P3_ k_) ∨ w.heap.size ≤ k_) ∧ some k_ ≠ (s_.1 : Value).ownBlock ∧ some k_ ≠ (s_.2.1 : Value).ownBlock ∧ k_ ≠ gb272 ∧ k_ ≠ gb273 ∧ k_ ≠ gb274 ∧ k_ ≠ gb275 ∧ k_ ≠ gb278 ∧ k_ ≠ s_.2.2) (.slice A51 y285.length c51) y285) ∧ (Kd.N (Kd.slice 2 (Kd.int .i64)) 22 w' w.heap.size (fun k_ => ((P0_0_ k_ ∨ P3_ k_) ∨ w.heap.size ≤ k_) ∧ some k_ ≠ (s_.2.1 : Value).ownBlock ∧ k_ ≠ gb272 ∧ k_ ≠ gb273 ∧ k_ ≠ gb274 ∧ k_ ≠ gb275 ∧ k_ ≠ gb278 ∧ k_ ≠ s_.2.2) s_.1 y290) ∧ (Kd.R (Kd.int .i64) 2 w' w.heap.size (fun k_ => (w.heap.size ≤ k_) ∧ k_ ≠ gb273 ∧ k_ ≠ gb274 ∧ k_ ≠ gb278) s_.2.1 t293) ∧ (Kd.V (Kd.int .i64) 2 w' w.heap.size (fun k_ => ((P0_0_ k_ ∨ P3_ k_) ∨ w.heap.size ≤ k_) ∧ some k_ ≠ (s_.1 : Value).ownBlock ∧ some k_ ≠ (s_.2.1 : Value).ownBlock ∧ k_ ≠ gb272 ∧ k_ ≠ gb273 ∧ k_ ≠ gb274 ∧ k_ ≠ gb275 ∧ k_ ≠ gb278 ∧ k_ ≠ s_.2.2) (.slice A0_0 l0_0.length c0_0) l0_0) ∧ (Kd.V (Kd.int .i64) 2 w' w.heap.size (fun k_ => ((P0_0_ k_ ∨ P3_ k_) ∨ w.heap.size ≤ k_) ∧ some k_ ≠ (s_.1 : Value).ownBlock ∧ some k_ ≠ (s_.2.1 : Value).ownBlock ∧ k_ ≠ gb272 ∧ k_ ≠ gb273 ∧ k_ ≠ gb274 ∧ k_ ≠ gb275 ∧ k_ ≠ gb278 ∧ k_ ≠ s_.2.2) (.slice A3 l3.length c3) l3) ∧ (w'.heap[gb272]? = some (.cells #[.slice A0_0 l0_0.length c0_0, .int .i64 a0_1, .int .i64 a0_2] 26 (0, 0))) ∧ (w'.heap[gb273]? = some (.cells #[.int .i64 a1] 2 (0, 0))) ∧ (w'.heap[gb274]? = some (.cells #[.int .i64 a2] 2 (0, 0))) ∧ (w'.heap[gb275]? = some (.cells #[.slice none 0 0, .int .i64 0, .int .i64 0, .slice none 0 0, .int .i64 0] 28 (0, 0))) ∧ (w'.heap[gb278]? = some (.cells #[.int .i64 (wrap64 (t277 - (wrap64 (a2 - a1))))] 2 (0, 0))) ∧ (w'.heap[s_.2.2]? = some (.cells #[.slice none 0 0, .int .i64 0, .int .i64 0] 26 (0, 0))) ∧ (w.heap.size ≤ s_.2.2) ∧ (w.heap.size ≤ s_.2.2) ∧ (gb272 ≠ s_.2.2) ∧ (s_.2.2 ≠ gb272) ∧ (gb273 ≠ s_.2.2) ∧ (s_.2.2 ≠ gb273) ∧ (gb274 ≠ s_.2.2) ∧ (s_.2.2 ≠ gb274) ∧ (gb275 ≠ s_.2.2) ∧ (s_.2.2 ≠ gb275) ∧ (gb278 ≠ s_.2.2) ∧ (s_.2.2 ≠ gb278) ∧ (Below w.heap.size w w')) ?_ ?_
         rotate_left
         ·intro hJ9_10_14_18_20
          refine join_ (σ := Value × Value) 2 b47_34 (fun s_ => [(50, s_.1), (51, s_.2), (55, .int .i64 t296), (59, .int .i64 t297), (60, .agg #[s_.2, .int .i64 t296, .int .i64 t297])]) (fun s_ w' => (w'.cell? ⟨gb272, 0, none⟩ = some (.slice A0_0 l0_0.length c0_0) ∧ w'.cell? ⟨gb272, 1, none⟩ = some (.int .i64 a0_1) ∧ w'.cell? ⟨gb272, 2, none⟩ = some (.int .i64 a0_2) ∧ w'.cell? ⟨gb273, 0, none⟩ = some (.int .i64 a1) ∧ w'.cell? ⟨gb274, 0, none⟩ = some (.int .i64 a2)) ∧ (Kd.V (Kd.int .i64) 2 w' w.heap.size (fun k_ => ((P0_0_ k_ ∨ P3_ k_) ∨ w.heap.size ≤ k_) ∧ some k_ ≠ (s_.1 : Value).ownBlock ∧ some k_ ≠ (s_.2 : Value).ownBlock ∧ k_ ≠ gb272 ∧ k_ ≠ gb273 ∧ k_ ≠ gb274 ∧ k_ ≠ gb275 ∧ k_ ≠ gb278) (.slice A0_0 y280.length c0_0) y280) ∧ (Kd.V (Kd.int .i64) 2 w' w.heap.size (fun k_ => ((P0_0_ k_ ∨ P3_ k_) ∨ w.heap.size ≤ k_) ∧ some k_ ≠ (s_.1 : Value).ownBlock ∧ some k_ ≠ (s_.2 : Value).ownBlock ∧ k_ ≠ gb272 ∧ k_ ≠ gb273 ∧ k_ ≠ gb274 ∧ k_ ≠ gb275 ∧ k_ ≠ gb278) (.slice A51 y285.length c51) y285) ∧ (Kd.N (Kd.slice 2 (Kd.int .i64)) 22 w' w.heap.size (fun k_ => ((P0_0_ k_ ∨ P3_ k_) ∨ w.heap.size ≤ k_) ∧ some k_ ≠ (s_.2 : Value).ownBlock ∧ k_ ≠ gb272 ∧ k_ ≠ gb273 ∧ k_ ≠ gb274 ∧ k_ ≠ gb275 ∧ k_ ≠ gb278) s_.1 y290) ∧ (Kd.R (Kd.int .i64) 2 w' w.heap.size (fun k_ => (w.heap.size ≤ k_) ∧ k_ ≠ gb273 ∧ k_ ≠ gb274 ∧ k_ ≠ gb278) s_.2 t293) ∧ (Kd.V (Kd.int .i64) 2 w' w.heap.size (fun k_ => ((P0_0_ k_ ∨ P3_ k_) ∨ w.heap.size ≤ k_) ∧ some k_ ≠ (s_.1 : Value).ownBlock ∧ some k_ ≠ (s_.2 : Value).ownBlock ∧ k_ ≠ gb272 ∧ k_ ≠ gb273 ∧ k_ ≠ gb274 ∧ k_ ≠ gb275 ∧ k_ ≠ gb278) (.slice A0_0 l0_0.length c0_0) l0_0) ∧ (Kd.V (Kd.int .i64) 2 w' w.heap.size (fun k_ => ((P0_0_ k_ ∨ P3_ k_) ∨ w.heap.size ≤ k_) ∧ some k_ ≠ (s_.1 : Value).ownBlock ∧ some k_ ≠ (s_.2 : Value).ownBlock ∧ k_ ≠ gb272 ∧ k_ ≠ gb273 ∧ k_ ≠ gb274 ∧ k_ ≠ gb275 ∧ k_ ≠ gb278) (.slice A3 l3.length c3) l3) ∧ (w'.heap[gb272]? = some (.cells #[.slice A0_0 l0_0.length c0_0, .int .i64 a0_1, .int .i64 a0_2] 26 (0, 0))) ∧ (w'.heap[gb273]? = some (.cells #[.int .i64 a1] 2 (0, 0))) ∧ (w'.heap[gb274]? = some (.cells #[.int .i64 a2] 2 (0, 0))) ∧ (w'.heap[gb275]? = some (.cells #[.slice none 0 0, .int .i64 0, .int .i64 0, .slice none 0 0, .int .i64 0] 28 (0, 0))) ∧ (w'.heap[gb278]? = some (.cells #[.int .i64 (wrap64 (t277 - (wrap64 (a2 - a1))))] 2 (0, 0))) ∧ (Below w.heap.size w w')) ?_ ?_
          rotate_left
          ·intro hJ9_10_14_18
           refine join_ (σ := Value × Value × Nat) 3 b47_35 (fun s_ => [(50, s_.1), (51, s_.2.1), (55, .int .i64 t296), (11, .pointer (some ⟨s_.2.2, 0, none⟩))]) (fun s_ w' => (w'.cell? ⟨gb272, 0, none⟩ = some (.slice A0_0 l0_0.length c0_0) ∧ w'.cell? ⟨gb272, 1, none⟩ = some (.int .i64 a0_1) ∧ w'.cell? ⟨gb272, 2, none⟩ = some (.int .i64 a0_2) ∧ w'.cell? ⟨gb273, 0, none⟩ = some (.int .i64 a1) ∧ w'.cell? ⟨gb274, 0, none⟩ = some (.int .i64 a2)) ∧ (Kd.V (Kd.int .i64) 2 w' w.heap.size (fun k_ => ((P0_0_ k_ ∨ P3_ k_) ∨ w.heap.size ≤ k_) ∧ some k_ ≠ (s_.1 : Value).ownBlock ∧ some k_ ≠ (s_.2.1 : Value).ownBlock ∧ k_ ≠ gb272 ∧ k_ ≠ gb273 ∧ k_ ≠ gb274 ∧ k_ ≠ gb275 ∧ k_ ≠ gb278 ∧ k_ ≠ s_.2.2) (.slice A0_0 y280.length c0_0) y280) ∧ (Kd.V (Kd.int .i64) 2 w' w.heap.size (fun k_ => ((P0_0_ k_ ∨ P3_ k_) ∨ w.heap.size ≤ k_) ∧ some k_ ≠ (s_.1 : Value).ownBlock ∧ some k_ ≠ (s_.2.1 : Value).ownBlock ∧ k_ ≠ gb272 ∧ k_ ≠ gb273 ∧ k_ ≠ gb274 ∧ k_ ≠ gb275 ∧ k_ ≠ gb278 ∧ k_ ≠ s_.2.2) (.slice A51 y285.length c51) y285) ∧ (Kd.N (Kd.slice 2 (Kd.int .i64)) 22 w' w.heap.size (fun k_ => ((P0_0_ k_ ∨ P3_ k_) ∨ w.heap.size ≤ k_) ∧ some k_ ≠ (s_.2.1 : Value).ownBlock ∧ k_ ≠ gb272 ∧ k_ ≠ gb273 ∧ k_ ≠ gb274 ∧ k_ ≠ gb275 ∧ k_ ≠ gb278 ∧ k_ ≠ s_.2.2) s_.1 y290) ∧ (Kd.R (Kd.int .i64) 2 w' w.heap.size (fun k_ => (w.heap.size ≤ k_) ∧ k_ ≠ gb273 ∧ k_ ≠ gb274 ∧ k_ ≠ gb278) s_.2.1 t293) ∧ (Kd.V (Kd.int .i64) 2 w' w.heap.size (fun k_ => ((P0_0_ k_ ∨ P3_ k_) ∨ w.heap.size ≤ k_) ∧ some k_ ≠ (s_.1 : Value).ownBlock ∧ some k_ ≠ (s_.2.1 : Value).ownBlock ∧ k_ ≠ gb272 ∧ k_ ≠ gb273 ∧ k_ ≠ gb274 ∧ k_ ≠ gb275 ∧ k_ ≠ gb278 ∧ k_ ≠ s_.2.2) (.slice A0_0 l0_0.length c0_0) l0_0) ∧ (Kd.V (Kd.int .i64) 2 w' w.heap.size (fun k_ => ((P0_0_ k_ ∨ P3_ k_) ∨ w.heap.size ≤ k_) ∧ some k_ ≠ (s_.1 : Value).ownBlock ∧ some k_ ≠ (s_.2.1 : Value).ownBlock ∧ k_ ≠ gb272 ∧ k_ ≠ gb273 ∧ k_ ≠ gb274 ∧ k_ ≠ gb275 ∧ k_ ≠ gb278 ∧ k_ ≠ s_.2.2) (.slice A3 l3.length c3) l3) ∧ (w'.heap[gb272]? = some (.cells #[.slice A0_0 l0_0.length c0_0, .int .i64 a0_1, .int .i64 a0_2] 26 (0, 0))) ∧ (w'.heap[gb273]? = some (.cells #[.int .i64 a1] 2 (0, 0))) ∧ (w'.heap[gb274]? = some (.cells #[.int .i64 a2] 2 (0, 0))) ∧ (w'.heap[gb275]? = some (.cells #[.slice none 0 0, .int .i64 0, .int .i64 0, .slice none 0 0, .int .i64 0] 28 (0, 0))) ∧ (w'.heap[gb278]? = some (.cells #[.int .i64 (wrap64 (t277 - (wrap64 (a2 - a1))))] 2 (0, 0))) ∧ (w'.heap[s_.2.2]? = some (.cells #[.slice none 0 0, .int .i64 0, .int .i64 0] 26 (0, 0))) ∧ (w.heap.size ≤ s_.2.2) ∧ (w.heap.size ≤ s_.2.2) ∧ (gb272 ≠ s_.2.2) ∧ (s_.2.2 ≠ gb272) ∧ (gb273 ≠ s_.2.2) ∧ (s_.2.2 ≠ gb273) ∧ (gb274 ≠ s_.2.2) ∧ (s_.2.2 ≠ gb274) ∧ (gb275 ≠ s_.2.2) ∧ (s_.2.2 ≠ gb275) ∧ (gb278 ≠ s_.2.2) ∧ (s_.2.2 ≠ gb278) ∧ (Below w.heap.size w w')) ?_ ?_
           rotate_left
           ·intro hJ9_10_14_20
            refine join_ (σ := Value × Value) 4 b47_36 (fun s_ => [(50, s_.1), (51, s_.2), (55, .int .i64 t296)]) (fun s_ w' => (w'.cell? ⟨gb272, 0, none⟩ = some (.slice A0_0 l0_0.length c0_0) ∧ w'.cell? ⟨gb272, 1, none⟩ = some (.int .i64 a0_1) ∧ w'.cell? ⟨gb272, 2, none⟩ = some (.int .i64 a0_2) ∧ w'.cell? ⟨gb273, 0, none⟩ = some (.int .i64 a1) ∧ w'.cell? ⟨gb274, 0, none⟩ = some (.int .i64 a2)) ∧ (Kd.V (Kd.int .i64) 2 w' w.heap.size (fun k_ => ((P0_0_ k_ ∨ P3_ k_) ∨ w.heap.size ≤ k_) ∧ some k_ ≠ (s_.1 : Value).ownBlock ∧ some k_ ≠ (s_.2 : Value).ownBlock ∧ k_ ≠ gb272 ∧ k_ ≠ gb273 ∧ k_ ≠ gb274 ∧ k_ ≠ gb275 ∧ k_ ≠ gb278) (.slice A0_0 y280.length c0_0) y280) ∧ (Kd.V (Kd.int .i64) 2 w' w.heap.size (fun k_ => ((P0_0_ k_ ∨ P3_ k_) ∨ w.heap.size ≤ k_) ∧ some k_ ≠ (s_.1 : Value).ownBlock ∧ some k_ ≠ (s_.2 : Value).ownBlock ∧ k_ ≠ gb272 ∧ k_ ≠ gb273 ∧ k_ ≠ gb274 ∧ k_ ≠ gb275 ∧ k_ ≠ gb278) (.slice A51 y285.length c51) y285) ∧ (Kd.N (Kd.slice 2 (Kd.int .i64)) 22 w' w.heap.size (fun k_ => ((P0_0_ k_ ∨ P3_ k_) ∨ w.heap.size ≤ k_) ∧ some k_ ≠ (s_.2 : Value).ownBlock ∧ k_ ≠ gb272 ∧ k_ ≠ gb273 ∧ k_ ≠ gb274 ∧ k_ ≠ gb275 ∧ k_ ≠ gb278) s_.1 y290) ∧ (Kd.R (Kd.int .i64) 2 w' w.heap.size (fun k_ => (w.heap.size ≤ k_) ∧ k_ ≠ gb273 ∧ k_ ≠ gb274 ∧ k_ ≠ gb278) s_.2 t293) ∧ (Kd.V (Kd.int .i64) 2 w' w.heap.size (fun k_ => ((P0_0_ k_ ∨ P3_ k_) ∨ w.heap.size ≤ k_) ∧ some k_ ≠ (s_.1 : Value).ownBlock ∧ some k_ ≠ (s_.2 : Value).ownBlock ∧ k_ ≠ gb272 ∧ k_ ≠ gb273 ∧ k_ ≠ gb274 ∧ k_ ≠ gb275 ∧ k_ ≠ gb278) (.slice A0_0 l0_0.length c0_0) l0_0) ∧ (Kd.V (Kd.int .i64) 2 w' w.heap.size (fun k_ => ((P0_0_ k_ ∨ P3_ k_) ∨ w.heap.size ≤ k_) ∧ some k_ ≠ (s_.1 : Value).ownBlock ∧ some k_ ≠ (s_.2 : Value).ownBlock ∧ k_ ≠ gb272 ∧ k_ ≠ gb273 ∧ k_ ≠ gb274 ∧ k_ ≠ gb275 ∧ k_ ≠ gb278) (.slice A3 l3.length c3) l3) ∧ (w'.heap[gb272]? = some (.cells #[.slice A0_0 l0_0.length c0_0, .int .i64 a0_1, .int .i64 a0_2] 26 (0, 0))) ∧ (w'.heap[gb273]? = some (.cells #[.int .i64 a1] 2 (0, 0))) ∧ (w'.heap[gb274]? = some (.cells #[.int .i64 a2] 2 (0, 0))) ∧ (w'.heap[gb275]? = some (.cells #[.slice none 0 0, .int .i64 0, .int .i64 0, .slice none 0 0, .int .i64 0] 28 (0, 0))) ∧ (w'.heap[gb278]? = some (.cells #[.int .i64 (wrap64 (t277 - (wrap64 (a2 - a1))))] 2 (0, 0))) ∧ (Below w.heap.size w w')) ?_ ?_
            rotate_left
            ·intro hJ9_10_14
             refine join_ (σ := Value × Value × Nat) 4 b47_37 (fun s_ => [(50, s_.1), (51, s_.2.1), (11, .pointer (some ⟨s_.2.2, 0, none⟩))]) (fun s_ w' => (w'.cell? ⟨gb272, 0, none⟩ = some (.slice A0_0 l0_0.length c0_0) ∧ w'.cell? ⟨gb272, 1, none⟩ = some (.int .i64 a0_1) ∧ w'.cell? ⟨gb272, 2, none⟩ = some (.int .i64 a0_2) ∧ w'.cell? ⟨gb273, 0, none⟩ = some (.int .i64 a1) ∧ w'.cell? ⟨gb274, 0, none⟩ = some (.int .i64 a2)) ∧ (Kd.V (Kd.int .i64) 2 w' w.heap.size (fun k_ => ((P0_0_ k_ ∨ P3_ k_) ∨ w.heap.size ≤ k_) ∧ some k_ ≠ (s_.1 : Value).ownBlock ∧ some k_ ≠ (s_.2.1 : Value).ownBlock ∧ k_ ≠ gb272 ∧ k_ ≠ gb273 ∧ k_ ≠ gb274 ∧ k_ ≠ gb275 ∧ k_ ≠ gb278 ∧ k_ ≠ s_.2.2) (.slice A0_0 y280.length c0_0) y280) ∧ (Kd.V (Kd.int .i64) 2 w' w.heap.size (fun k_ => ((P0_0_ k_ ∨ P3_ k_) ∨ w.heap.size ≤ k_) ∧ some k_ ≠ (s_.1 : Value).ownBlock ∧ some k_ ≠ (s_.2.1 : Value).ownBlock ∧ k_ ≠ gb272 ∧ k_ ≠ gb273 ∧ k_ ≠ gb274 ∧ k_ ≠ gb275 ∧ k_ ≠ gb278 ∧ k_ ≠ s_.2.2) (.slice A51 y285.length c51) y285) ∧ (Kd.N (Kd.slice 2 (Kd.int .i64)) 22 w' w.heap.size (fun k_ => ((P0_0_ k_ ∨ P3_ k_) ∨ w.heap.size ≤ k_) ∧ some k_ ≠ (s_.2.1 : Value).ownBlock ∧ k_ ≠ gb272 ∧ k_ ≠ gb273 ∧ k_ ≠ gb274 ∧ k_ ≠ gb275 ∧ k_ ≠ gb278 ∧ k_ ≠ s_.2.2) s_.1 y290) ∧ (Kd.R (Kd.int .i64) 2 w' w.heap.size (fun k_ => (w.heap.size ≤ k_) ∧ k_ ≠ gb273 ∧ k_ ≠ gb274 ∧ k_ ≠ gb278) s_.2.1 t293) ∧ (Kd.V (Kd.int .i64) 2 w' w.heap.size (fun k_ => ((P0_0_ k_ ∨ P3_ k_) ∨ w.heap.size ≤ k_) ∧ some k_ ≠ (s_.1 : Value).ownBlock ∧ some k_ ≠ (s_.2.1 : Value).ownBlock ∧ k_ ≠ gb272 ∧ k_ ≠ gb273 ∧ k_ ≠ gb274 ∧ k_ ≠ gb275 ∧ k_ ≠ gb278 ∧ k_ ≠ s_.2.2) (.slice A0_0 l0_0.length c0_0) l0_0) ∧ (Kd.V (Kd.int .i64) 2 w' w.heap.size (fun k_ => ((P0_0_ k_ ∨ P3_ k_) ∨ w.heap.size ≤ k_) ∧ some k_ ≠ (s_.1 : Value).ownBlock ∧ some k_ ≠ (s_.2.1 : Value).ownBlock ∧ k_ ≠ gb272 ∧ k_ ≠ gb273 ∧ k_ ≠ gb274 ∧ k_ ≠ gb275 ∧ k_ ≠ gb278 ∧ k_ ≠ s_.2.2) (.slice A3 l3.length c3) l3) ∧ (w'.heap[gb272]? = some (.cells #[.slice A0_0 l0_0.length c0_0, .int .i64 a0_1, .int .i64 a0_2] 26 (0, 0))) ∧ (w'.heap[gb273]? = some (.cells #[.int .i64 a1] 2 (0, 0))) ∧ (w'.heap[gb274]? = some (.cells #[.int .i64 a2] 2 (0, 0))) ∧ (w'.heap[gb275]? = some (.cells #[.slice none 0 0, .int .i64 0, .int .i64 0, .slice none 0 0, .int .i64 0] 28 (0, 0))) ∧ (w'.heap[gb278]? = some (.cells #[.int .i64 (wrap64 (t277 - (wrap64 (a2 - a1))))] 2 (0, 0))) ∧ (w'.heap[s_.2.2]? = some (.cells #[.slice none 0 0, .int .i64 0, .int .i64 0] 26 (0, 0))) ∧ (w.heap.size ≤ s_.2.2) ∧ (w.heap.size ≤ s_.2.2) ∧ (gb272 ≠ s_.2.2) ∧ (s_.2.2 ≠ gb272) ∧ (gb273 ≠ s_.2.2) ∧ (s_.2.2 ≠ gb273) ∧ (gb274 ≠ s_.2.2) ∧ (s_.2.2 ≠ gb274) ∧ (gb275 ≠ s_.2.2) ∧ (s_.2.2 ≠ gb275) ∧ (gb278 ≠ s_.2.2) ∧ (s_.2.2 ≠ gb278) ∧ (Below w.heap.size w w')) ?_ ?_
             rotate_left
             ·intro hJ9_10_20
              refine join_ (σ := Value × Value) 5 b47_38 (fun s_ => [(50, s_.1), (51, s_.2)]) (fun s_ w' => (w'.cell? ⟨gb272, 0, none⟩ = some (.slice A0_0 l0_0.length c0_0) ∧ w'.cell? ⟨gb272, 1, none⟩ = some (.int .i64 a0_1) ∧ w'.cell? ⟨gb272, 2, none⟩ = some (.int .i64 a0_2) ∧ w'.cell? ⟨gb273, 0, none⟩ = some (.int .i64 a1) ∧ w'.cell? ⟨gb274, 0, none⟩ = some (.int .i64 a2)) ∧ (Kd.V (Kd.int .i64) 2 w' w.heap.size (fun k_ => ((P0_0_ k_ ∨ P3_ k_) ∨ w.heap.size ≤ k_) ∧ some k_ ≠ (s_.1 : Value).ownBlock ∧ some k_ ≠ (s_.2 : Value).ownBlock ∧ k_ ≠ gb272 ∧ k_ ≠ gb273 ∧ k_ ≠ gb274 ∧ k_ ≠ gb275 ∧ k_ ≠ gb278) (.slice A0_0 y280.length c0_0) y280) ∧ (Kd.V (Kd.int .i64) 2 w' w.heap.size (fun k_ => ((P0_0_ k_ ∨ P3_ k_) ∨ w.heap.size ≤ k_) ∧ some k_ ≠ (s_.1 : Value).ownBlock ∧ some k_ ≠ (s_.2 : Value).ownBlock ∧ k_ ≠ gb272 ∧ k_ ≠ gb273 ∧ k_ ≠ gb274 ∧ k_ ≠ gb275 ∧ k_ ≠ gb278) (.slice A51 y285.length c51) y285) ∧ (Kd.N (Kd.slice 2 (Kd.int .i64)) 22 w' w.heap.size (fun k_ => ((P0_0_ k_ ∨ P3_ k_) ∨ w.heap.size ≤ k_) ∧ some k_ ≠ (s_.2 : Value).ownBlock ∧ k_ ≠ gb272 ∧ k_ ≠ gb273 ∧ k_ ≠ gb274 ∧ k_ ≠ gb275 ∧ k_ ≠ gb278) s_.1 y290) ∧ (Kd.R (Kd.int .i64) 2 w' w.heap.size (fun k_ => (w.heap.size ≤ k_) ∧ k_ ≠ gb273 ∧ k_ ≠ gb274 ∧ k_ ≠ gb278) s_.2 t293) ∧ (Kd.V (Kd.int .i64) 2 w' w.heap.size (fun k_ => ((P0_0_ k_ ∨ P3_ k_) ∨ w.heap.size ≤ k_) ∧ some k_ ≠ (s_.1 : Value).ownBlock ∧ some k_ ≠ (s_.2 : Value).ownBlock ∧ k_ ≠ gb272 ∧ k_ ≠ gb273 ∧ k_ ≠ gb274 ∧ k_ ≠ gb275 ∧ k_ ≠ gb278) (.slice A0_0 l0_0.length c0_0) l0_0) ∧ (Kd.V (Kd.int .i64) 2 w' w.heap.size (fun k_ => ((P0_0_ k_ ∨ P3_ k_) ∨ w.heap.size ≤ k_) ∧ some k_ ≠ (s_.1 : Value).ownBlock ∧ some k_ ≠ (s_.2 : Value).ownBlock ∧ k_ ≠ gb272 ∧ k_ ≠ gb273 ∧ k_ ≠ gb274 ∧ k_ ≠ gb275 ∧ k_ ≠ gb278) (.slice A3 l3.length c3) l3) ∧ (w'.heap[gb272]? = some (.cells #[.slice A0_0 l0_0.length c0_0, .int .i64 a0_1, .int .i64 a0_2] 26 (0, 0))) ∧ (w'.heap[gb273]? = some (.cells #[.int .i64 a1] 2 (0, 0))) ∧ (w'.heap[gb274]? = some (.cells #[.int .i64 a2] 2 (0, 0))) ∧ (w'.heap[gb275]? = some (.cells #[.slice none 0 0, .int .i64 0, .int .i64 0, .slice none 0 0, .int .i64 0] 28 (0, 0))) ∧ (w'.heap[gb278]? = some (.cells #[.int .i64 (wrap64 (t277 - (wrap64 (a2 - a1))))] 2 (0, 0))) ∧ (Below w.heap.size w w')) ?_ ?_
              rotate_left
              ·intro hJ9_10
               refine join_ (σ := Value × Nat) 5 b47_39 (fun s_ => [(50, s_.1), (11, .pointer (some ⟨s_.2, 0, none⟩))]) (fun s_ w' => (w'.cell? ⟨gb272, 0, none⟩ = some (.slice A0_0 l0_0.length c0_0) ∧ w'.cell? ⟨gb272, 1, none⟩ = some (.int .i64 a0_1) ∧ w'.cell? ⟨gb272, 2, none⟩ = some (.int .i64 a0_2) ∧ w'.cell? ⟨gb273, 0, none⟩ = some (.int .i64 a1) ∧ w'.cell? ⟨gb274, 0, none⟩ = some (.int .i64 a2)) ∧ (Kd.V (Kd.int .i64) 2 w' w.heap.size (fun k_ => ((P0_0_ k_ ∨ P3_ k_) ∨ w.heap.size ≤ k_) ∧ some k_ ≠ (s_.1 : Value).ownBlock ∧ k_ ≠ gb272 ∧ k_ ≠ gb273 ∧ k_ ≠ gb274 ∧ k_ ≠ gb275 ∧ k_ ≠ gb278 ∧ k_ ≠ s_.2) (.slice A0_0 y280.length c0_0) y280) ∧ (Kd.V (Kd.int .i64) 2 w' w.heap.size (fun k_ => ((P0_0_ k_ ∨ P3_ k_) ∨ w.heap.size ≤ k_) ∧ some k_ ≠ (s_.1 : Value).ownBlock ∧ k_ ≠ gb272 ∧ k_ ≠ gb273 ∧ k_ ≠ gb274 ∧ k_ ≠ gb275 ∧ k_ ≠ gb278 ∧ k_ ≠ s_.2) (.slice A51 y285.length c51) y285) ∧ (Kd.N (Kd.slice 2 (Kd.int .i64)) 22 w' w.heap.size (fun k_ => ((P0_0_ k_ ∨ P3_ k_) ∨ w.heap.size ≤ k_) ∧ k_ ≠ gb272 ∧ k_ ≠ gb273 ∧ k_ ≠ gb274 ∧ k_ ≠ gb275 ∧ k_ ≠ gb278 ∧ k_ ≠ s_.2) s_.1 y290) ∧ (Kd.V (Kd.int .i64) 2 w' w.heap.size (fun k_ => ((P0_0_ k_ ∨ P3_ k_) ∨ w.heap.size ≤ k_) ∧ some k_ ≠ (s_.1 : Value).ownBlock ∧ k_ ≠ gb272 ∧ k_ ≠ gb273 ∧ k_ ≠ gb274 ∧ k_ ≠ gb275 ∧ k_ ≠ gb278 ∧ k_ ≠ s_.2) (.slice A0_0 l0_0.length c0_0) l0_0) ∧ (Kd.V (Kd.int .i64) 2 w' w.heap.size (fun k_ => ((P0_0_ k_ ∨ P3_ k_) ∨ w.heap.size ≤ k_) ∧ some k_ ≠ (s_.1 : Value).ownBlock ∧ k_ ≠ gb272 ∧ k_ ≠ gb273 ∧ k_ ≠ gb274 ∧ k_ ≠ gb275 ∧ k_ ≠ gb278 ∧ k_ ≠ s_.2) (.slice A3 l3.length c3) l3) ∧ (w'.heap[gb272]? = some (.cells #[.slice A0_0 l0_0.length c0_0, .int .i64 a0_1, .int .i64 a0_2] 26 (0, 0))) ∧ (w'.heap[gb273]? = some (.cells #[.int .i64 a1] 2 (0, 0))) ∧ (w'.heap[gb274]? = some (.cells #[.int .i64 a2] 2 (0, 0))) ∧ (w'.heap[gb275]? = some (.cells #[.slice none 0 0, .int .i64 0, .int .i64 0, .slice none 0 0, .int .i64 0] 28 (0, 0))) ∧ (w'.heap[gb278]? = some (.cells #[.int .i64 (wrap64 (t277 - (wrap64 (a2 - a1))))] 2 (0, 0))) ∧ (w'.heap[s_.2]? = some (.cells #[.slice none 0 0, .int .i64 0, .int .i64 0] 26 (0, 0))) ∧ (w.heap.size ≤ s_.2) ∧ (w.heap.size ≤ s_.2) ∧ (gb272 ≠ s_.2) ∧ (s_.2 ≠ gb272) ∧ (gb273 ≠ s_.2) ∧ (s_.2 ≠ gb273) ∧ (gb274 ≠ s_.2) ∧ (s_.2 ≠ gb274) ∧ (gb275 ≠ s_.2) ∧ (s_.2 ≠ gb275) ∧ (gb278 ≠ s_.2) ∧ (s_.2 ≠ gb278) ∧ (Below w.heap.size w w')) ?_ ?_
               rotate_left
               ·intro hJ9_20
                refine join_ (σ := Value) 6 b47_40 (fun s_ => [(50, s_)]) (fun s_ w' => (w'.cell? ⟨gb272, 0, none⟩ = some (.slice A0_0 l0_0.length c0_0) ∧ w'.cell? ⟨gb272, 1, none⟩ = some (.int .i64 a0_1) ∧ w'.cell? ⟨gb272, 2, none⟩ = some (.int .i64 a0_2) ∧ w'.cell? ⟨gb273, 0, none⟩ = some (.int .i64 a1) ∧ w'.cell? ⟨gb274, 0, none⟩ = some (.int .i64 a2)) ∧ (Kd.V (Kd.int .i64) 2 w' w.heap.size (fun k_ => ((P0_0_ k_ ∨ P3_ k_) ∨ w.heap.size ≤ k_) ∧ some k_ ≠ (s_ : Value).ownBlock ∧ k_ ≠ gb272 ∧ k_ ≠ gb273 ∧ k_ ≠ gb274 ∧ k_ ≠ gb275 ∧ k_ ≠ gb278) (.slice A0_0 y280.length c0_0) y280) ∧ (Kd.V (Kd.int .i64) 2 w' w.heap.size (fun k_ => ((P0_0_ k_ ∨ P3_ k_) ∨ w.heap.size ≤ k_) ∧ some k_ ≠ (s_ : Value).ownBlock ∧ k_ ≠ gb272 ∧ k_ ≠ gb273 ∧ k_ ≠ gb274 ∧ k_ ≠ gb275 ∧ k_ ≠ gb278) (.slice A51 y285.length c51) y285) ∧ (Kd.N (Kd.slice 2 (Kd.int .i64)) 22 w' w.heap.size (fun k_ => ((P0_0_ k_ ∨ P3_ k_) ∨ w.heap.size ≤ k_) ∧ k_ ≠ gb272 ∧ k_ ≠ gb273 ∧ k_ ≠ gb274 ∧ k_ ≠ gb275 ∧ k_ ≠ gb278) s_ y290) ∧ (Kd.V (Kd.int .i64) 2 w' w.heap.size (fun k_ => ((P0_0_ k_ ∨ P3_ k_) ∨ w.heap.size ≤ k_) ∧ some k_ ≠ (s_ : Value).ownBlock ∧ k_ ≠ gb272 ∧ k_ ≠ gb273 ∧ k_ ≠ gb274 ∧ k_ ≠ gb275 ∧ k_ ≠ gb278) (.slice A0_0 l0_0.length c0_0) l0_0) ∧ (Kd.V (Kd.int .i64) 2 w' w.heap.size (fun k_ => ((P0_0_ k_ ∨ P3_ k_) ∨ w.heap.size ≤ k_) ∧ some k_ ≠ (s_ : Value).ownBlock ∧ k_ ≠ gb272 ∧ k_ ≠ gb273 ∧ k_ ≠ gb274 ∧ k_ ≠ gb275 ∧ k_ ≠ gb278) (.slice A3 l3.length c3) l3) ∧ (w'.heap[gb272]? = some (.cells #[.slice A0_0 l0_0.length c0_0, .int .i64 a0_1, .int .i64 a0_2] 26 (0, 0))) ∧ (w'.heap[gb273]? = some (.cells #[.int .i64 a1] 2 (0, 0))) ∧ (w'.heap[gb274]? = some (.cells #[.int .i64 a2] 2 (0, 0))) ∧ (w'.heap[gb275]? = some (.cells #[.slice none 0 0, .int .i64 0, .int .i64 0, .slice none 0 0, .int .i64 0] 28 (0, 0))) ∧ (w'.heap[gb278]? = some (.cells #[.int .i64 (wrap64 (t277 - (wrap64 (a2 - a1))))] 2 (0, 0))) ∧ (Below w.heap.size w w')) ?_ ?_
                rotate_left
                ·intro hJ9
                 refine join_ (σ := Nat) 6 b47_41 (fun s_ => [(11, .pointer (some ⟨s_, 0, none⟩))]) (fun s_ w' => (w'.cell? ⟨gb272, 0, none⟩ = some (.slice A0_0 l0_0.length c0_0) ∧ w'.cell? ⟨gb272, 1, none⟩ = some (.int .i64 a0_1) ∧ w'.cell? ⟨gb272, 2, none⟩ = some (.int .i64 a0_2) ∧ w'.cell? ⟨gb273, 0, none⟩ = some (.int .i64 a1) ∧ w'.cell? ⟨gb274, 0, none⟩ = some (.int .i64 a2)) ∧ (Kd.V (Kd.int .i64) 2 w' w.heap.size (fun k_ => ((P0_0_ k_ ∨ P3_ k_) ∨ w.heap.size ≤ k_) ∧ k_ ≠ gb272 ∧ k_ ≠ gb273 ∧ k_ ≠ gb274 ∧ k_ ≠ gb275 ∧ k_ ≠ gb278 ∧ k_ ≠ s_) (.slice A0_0 y280.length c0_0) y280) ∧ (Kd.V (Kd.int .i64) 2 w' w.heap.size (fun k_ => ((P0_0_ k_ ∨ P3_ k_) ∨ w.heap.size ≤ k_) ∧ k_ ≠ gb272 ∧ k_ ≠ gb273 ∧ k_ ≠ gb274 ∧ k_ ≠ gb275 ∧ k_ ≠ gb278 ∧ k_ ≠ s_) (.slice A51 y285.length c51) y285) ∧ (Kd.V (Kd.int .i64) 2 w' w.heap.size (fun k_ => ((P0_0_ k_ ∨ P3_ k_) ∨ w.heap.size ≤ k_) ∧ k_ ≠ gb272 ∧ k_ ≠ gb273 ∧ k_ ≠ gb274 ∧ k_ ≠ gb275 ∧ k_ ≠ gb278 ∧ k_ ≠ s_) (.slice A0_0 l0_0.length c0_0) l0_0) ∧ (Kd.V (Kd.int .i64) 2 w' w.heap.size (fun k_ => ((P0_0_ k_ ∨ P3_ k_) ∨ w.heap.size ≤ k_) ∧ k_ ≠ gb272 ∧ k_ ≠ gb273 ∧ k_ ≠ gb274 ∧ k_ ≠ gb275 ∧ k_ ≠ gb278 ∧ k_ ≠ s_) (.slice A3 l3.length c3) l3) ∧ (w'.heap[gb272]? = some (.cells #[.slice A0_0 l0_0.length c0_0, .int .i64 a0_1, .int .i64 a0_2] 26 (0, 0))) ∧ (w'.heap[gb273]? = some (.cells #[.int .i64 a1] 2 (0, 0))) ∧ (w'.heap[gb274]? = some (.cells #[.int .i64 a2] 2 (0, 0))) ∧ (w'.heap[gb275]? = some (.cells #[.slice none 0 0, .int .i64 0, .int .i64 0, .slice none 0 0, .int .i64 0] 28 (0, 0))) ∧ (w'.heap[gb278]? = some (.cells #[.int .i64 (wrap64 (t277 - (wrap64 (a2 - a1))))] 2 (0, 0))) ∧ (w'.heap[s_]? = some (.cells #[.slice none 0 0, .int .i64 0, .int .i64 0] 26 (0, 0))) ∧ (w.heap.size ≤ s_) ∧ (w.heap.size ≤ s_) ∧ (gb272 ≠ s_) ∧ (s_ ≠ gb272) ∧ (gb273 ≠ s_) ∧ (s_ ≠ gb273) ∧ (gb274 ≠ s_) ∧ (s_ ≠ gb274) ∧ (gb275 ≠ s_) ∧ (s_ ≠ gb275) ∧ (gb278 ≠ s_) ∧ (s_ ≠ gb278) ∧ (Below w.heap.size w w')) ?_ ?_
                 rotate_left
                 ·intro hJ20
                  refine two_ (i := 9) (j := 20) (Ni := some 50) (Nj := some 11) b47_40 b47_41 rfl rfl rfl rfl (two_of HT_.out (by kernel_rfl)) (by decide) (by decide) (fun K hK => ?_) (fun K hK => ?_)
                  ·skip
                   refine Kd.N_lit_step (Kd.slice 2 (Kd.int .i64)) _ 22 ?hg (N' := 50) ?hd (xs := ([y280, l3, y285] : List (List Int))) (inner := [.slice A0_0 y280.length c0_0, .slice A3 l3.length c3, .slice A51 y285.length c51]) (ok := (fun k_ => ((P0_0_ k_ ∨ P3_ k_) ∨ w.heap.size ≤ k_) ∧ k_ ≠ gb272 ∧ k_ ≠ gb273 ∧ k_ ≠ gb274 ∧ k_ ≠ gb275 ∧ k_ ≠ gb278)) (okp := (fun k_ => ((P0_0_ k_ ∨ P3_ k_) ∨ w.heap.size ≤ k_) ∧ k_ ≠ gb272 ∧ k_ ≠ gb273 ∧ k_ ≠ gb274 ∧ k_ ≠ gb275 ∧ k_ ≠ gb278)) ?hr ?hp (fun _ hk => hk) ((show ∀ k_, w49.heap.size ≤ k_ → (fun k_ => ((P0_0_ k_ ∨ P3_ k_) ∨ w.heap.size ≤ k_) ∧ k_ ≠ gb272 ∧ k_ ≠ gb273 ∧ k_ ≠ gb274 ∧ k_ ≠ gb275 ∧ k_ ≠ gb278) k_ from fun k_ hk => ⟨(.inr (Nat.le_trans (below_size (bl HB.out)) hk)), Kd.freshB (g := gb272) (o := .cells #[.slice A0_0 l0_0.length c0_0, .int .i64 a0_1, .int .i64 a0_2] 26 (0, 0)) (pk BK272.out) k_ hk, Kd.freshB (g := gb273) (o := .cells #[.int .i64 a1] 2 (0, 0)) (pk BK273.out) k_ hk, Kd.freshB (g := gb274) (o := .cells #[.int .i64 a2] 2 (0, 0)) (pk BK274.out) k_ hk, Kd.freshB (g := gb275) (o := .cells #[.slice none 0 0, .int .i64 0, .int .i64 0, .slice none 0 0, .int .i64 0] 28 (0, 0)) (pk BK275.out) k_ hk, Kd.freshB (g := gb278) (o := .cells #[.int .i64 (wrap64 (t277 - (wrap64 (a2 - a1))))] 2 (0, 0)) (pk BK278.out) k_ hk⟩) _ (Nat.le_refl _)) (Below.refl _ _) (Nat.le_refl _) (by simp) ?_; (case hd => rfl); (case hg => rfl); (case hr => first | (go_simp; done) | (go_simp; rfl)); (case hp => exact (Reps.one (show Kd.FK (Kd.slice 2 (Kd.int .i64)) _ _ y280 [.slice A0_0 y280.length c0_0] from (Kd.FK_slice_mk (Kd.V_reads' (Kd.V_mono (ok' := (fun k_ => ((P0_0_ k_ ∨ P3_ k_) ∨ w.heap.size ≤ k_) ∧ k_ ≠ gb272 ∧ k_ ≠ gb273 ∧ k_ ≠ gb274 ∧ k_ ≠ gb275 ∧ k_ ≠ gb278)) (HO284.out) (fun k_ hk => ⟨hk.1, ⟨hk.2.1, ⟨hk.2.2.1, ⟨hk.2.2.2.1, ⟨hk.2.2.2.2.1, hk.2.2.2.2.2⟩⟩⟩⟩⟩))).2.1 (Kd.V_F (Kd.V_mono (ok' := (fun k_ => ((P0_0_ k_ ∨ P3_ k_) ∨ w.heap.size ≤ k_) ∧ k_ ≠ gb272 ∧ k_ ≠ gb273 ∧ k_ ≠ gb274 ∧ k_ ≠ gb275 ∧ k_ ≠ gb278)) (HO284.out) (fun k_ hk => ⟨hk.1, ⟨hk.2.1, ⟨hk.2.2.1, ⟨hk.2.2.2.1, ⟨hk.2.2.2.2.1, hk.2.2.2.2.2⟩⟩⟩⟩⟩))))) (Reps.one (show Kd.FK (Kd.slice 2 (Kd.int .i64)) _ _ l3 [.slice A3 l3.length c3] from (Kd.FK_slice_mk (Kd.V_reads' (Kd.V_mono (ok' := (fun k_ => ((P0_0_ k_ ∨ P3_ k_) ∨ w.heap.size ≤ k_) ∧ k_ ≠ gb272 ∧ k_ ≠ gb273 ∧ k_ ≠ gb274 ∧ k_ ≠ gb275 ∧ k_ ≠ gb278)) (HO_3.out) (fun k_ hk => ⟨hk.1, ⟨hk.2.1, ⟨hk.2.2.1, ⟨hk.2.2.2.1, ⟨hk.2.2.2.2.1, hk.2.2.2.2.2⟩⟩⟩⟩⟩))).2.1 (Kd.V_F (Kd.V_mono (ok' := (fun k_ => ((P0_0_ k_ ∨ P3_ k_) ∨ w.heap.size ≤ k_) ∧ k_ ≠ gb272 ∧ k_ ≠ gb273 ∧ k_ ≠ gb274 ∧ k_ ≠ gb275 ∧ k_ ≠ gb278)) (HO_3.out) (fun k_ hk => ⟨hk.1, ⟨hk.2.1, ⟨hk.2.2.1, ⟨hk.2.2.2.1, ⟨hk.2.2.2.2.1, hk.2.2.2.2.2⟩⟩⟩⟩⟩))))) (Reps.one (show Kd.FK (Kd.slice 2 (Kd.int .i64)) _ _ y285 [.slice A51 y285.length c51] from (Kd.FK_slice_mk (Kd.V_reads' (Kd.V_mono (ok' := (fun k_ => ((P0_0_ k_ ∨ P3_ k_) ∨ w.heap.size ≤ k_) ∧ k_ ≠ gb272 ∧ k_ ≠ gb273 ∧ k_ ≠ gb274 ∧ k_ ≠ gb275 ∧ k_ ≠ gb278)) (HO289.out) (fun k_ hk => ⟨hk.1, ⟨hk.2.1, ⟨hk.2.2.1, ⟨hk.2.2.2.1, ⟨hk.2.2.2.2.1, hk.2.2.2.2.2⟩⟩⟩⟩⟩))).2.1 (Kd.V_F (Kd.V_mono (ok' := (fun k_ => ((P0_0_ k_ ∨ P3_ k_) ∨ w.heap.size ≤ k_) ∧ k_ ≠ gb272 ∧ k_ ≠ gb273 ∧ k_ ≠ gb274 ∧ k_ ≠ gb275 ∧ k_ ≠ gb278)) (HO289.out) (fun k_ hk => ⟨hk.1, ⟨hk.2.1, ⟨hk.2.2.1, ⟨hk.2.2.2.1, ⟨hk.2.2.2.2.1, hk.2.2.2.2.2⟩⟩⟩⟩⟩))))) (Reps.none _ _)))))
                   intro v291 w52 ho53 hb hg_ hnew_
                   clear hg_ hnew_
                   (first | rw [← Ny290.out] at ho53 | (simp only [Int.reduceToNat] at ho53; rw [← Ny290.out] at ho53))
                   replace HO_3 := am (Kd.V_elder' (kv HO_3.out) (Kd.N_base ho53) hb)
                   replace HO_273000 := am (Kd.V_elder' (kv HO_273000.out) (Kd.N_base ho53) hb)
                   replace HO284 := am (Kd.V_elder' (kv HO284.out) (Kd.N_base ho53) hb)
                   replace HO289 := am (Kd.V_elder' (kv HO289.out) (Kd.N_base ho53) hb)
                   have HO292 := am (Kd.N_lower ho53 (below_size (bl HB.out)))
                   replace BK272 := am (blk_below (pk BK272.out) hb)
                   replace BK273 := am (blk_below (pk BK273.out) hb)
                   replace BK274 := am (blk_below (pk BK274.out) hb)
                   replace BK275 := am (blk_below (pk BK275.out) hb)
                   replace BK278 := am (blk_below (pk BK278.out) hb)
                   replace HB := am (below_step (bl HB.out) hb)
                   clear hb ho53
                   refine hK.out _ _ ⟨bc BK272.out 0, bc BK272.out 1, bc BK272.out 2, bc BK273.out 0, bc BK274.out 0⟩ (fun hHeld => ?_)
                   clear hK K
                   refine norm_ (a' := ?_) ?_ ?_
                   rotate_left
                   ·show Act.put _ (some 50) _ = _
                    simp only [Act.put, sa_, s0_, ss_, i64_w, i32_w]
                    rfl
                   exact norm_ (by first | (simp only [putAll, Act.put, sa_, s0_, ss_]; done) | (simp only [putAll, Act.put, sa_, s0_, ss_]; rfl)) (hJ9 (v291) _ ⟨hHeld, (kv (Kd.V_mono HO284.out (fun _ hk => ⟨hk.1.1, ⟨hk.2, ⟨hk.1.2.1, ⟨hk.1.2.2.1, ⟨hk.1.2.2.2.1, ⟨hk.1.2.2.2.2.1, hk.1.2.2.2.2.2⟩⟩⟩⟩⟩⟩))), (kv (Kd.V_mono HO289.out (fun _ hk => ⟨hk.1.1, ⟨hk.2, ⟨hk.1.2.1, ⟨hk.1.2.2.1, ⟨hk.1.2.2.2.1, ⟨hk.1.2.2.2.2.1, hk.1.2.2.2.2.2⟩⟩⟩⟩⟩⟩))), (kn HO292.out), (kv (Kd.V_mono HO_273000.out (fun _ hk => ⟨hk.1.1, ⟨hk.2, ⟨hk.1.2.1, ⟨hk.1.2.2.1, ⟨hk.1.2.2.2.1, ⟨hk.1.2.2.2.2.1, hk.1.2.2.2.2.2⟩⟩⟩⟩⟩⟩))), (kv (Kd.V_mono HO_3.out (fun _ hk => ⟨hk.1.1, ⟨hk.2, ⟨hk.1.2.1, ⟨hk.1.2.2.1, ⟨hk.1.2.2.2.1, ⟨hk.1.2.2.2.2.1, hk.1.2.2.2.2.2⟩⟩⟩⟩⟩⟩))), (pk BK272.out), (pk BK273.out), (pk BK274.out), (pk BK275.out), (pk BK278.out), (bl HB.out)⟩)
                  ·skip
                   refine box_step ?hg (N := 11) ?hd (cs := #[.slice none 0 0, .int .i64 0, .int .i64 0]) (t := 26) ?hr ?_; (case hd => rfl); (case hg => rfl); (case hr => first | (go_simp; done) | (go_simp; rfl))
                   intro gb298 hg w52 hbox hb
                   replace HO_3 := am (Kd.V_below (Kd.V_elderB (kv HO_3.out) gb298 (Nat.le_of_eq hg.symm)) hb)
                   replace HO_273000 := am (Kd.V_below (Kd.V_elderB (kv HO_273000.out) gb298 (Nat.le_of_eq hg.symm)) hb)
                   replace HO284 := am (Kd.V_below (Kd.V_elderB (kv HO284.out) gb298 (Nat.le_of_eq hg.symm)) hb)
                   replace HO289 := am (Kd.V_below (Kd.V_elderB (kv HO289.out) gb298 (Nat.le_of_eq hg.symm)) hb)
                   have BK298 := am (hbox)
                   have GW298 := am ((by rw [hg]; exact (below_size (bl HB.out)) : w.heap.size ≤ gb298))
                   have GE298 := GW298
                   replace HB := am (below_step (bl HB.out) hb)
                   have NB272_298 := am ((by rw [hg]; exact Nat.ne_of_lt (blk_lt (pk BK272.out)) : gb272 ≠ gb298))
                   have NB298_272 := am ((by rw [hg]; exact Nat.ne_of_gt (blk_lt (pk BK272.out)) : gb298 ≠ gb272))
                   replace BK272 := am (blk_below (pk BK272.out) hb)
                   have NB273_298 := am ((by rw [hg]; exact Nat.ne_of_lt (blk_lt (pk BK273.out)) : gb273 ≠ gb298))
                   have NB298_273 := am ((by rw [hg]; exact Nat.ne_of_gt (blk_lt (pk BK273.out)) : gb298 ≠ gb273))
                   replace BK273 := am (blk_below (pk BK273.out) hb)
                   have NB274_298 := am ((by rw [hg]; exact Nat.ne_of_lt (blk_lt (pk BK274.out)) : gb274 ≠ gb298))
                   have NB298_274 := am ((by rw [hg]; exact Nat.ne_of_gt (blk_lt (pk BK274.out)) : gb298 ≠ gb274))
                   replace BK274 := am (blk_below (pk BK274.out) hb)
                   have NB275_298 := am ((by rw [hg]; exact Nat.ne_of_lt (blk_lt (pk BK275.out)) : gb275 ≠ gb298))
                   have NB298_275 := am ((by rw [hg]; exact Nat.ne_of_gt (blk_lt (pk BK275.out)) : gb298 ≠ gb275))
                   replace BK275 := am (blk_below (pk BK275.out) hb)
                   have NB278_298 := am ((by rw [hg]; exact Nat.ne_of_lt (blk_lt (pk BK278.out)) : gb278 ≠ gb298))
                   have NB298_278 := am ((by rw [hg]; exact Nat.ne_of_gt (blk_lt (pk BK278.out)) : gb298 ≠ gb278))
                   replace BK278 := am (blk_below (pk BK278.out) hb)
                   clear hb hbox hg
                   refine hK.out _ _ ⟨bc BK272.out 0, bc BK272.out 1, bc BK272.out 2, bc BK273.out 0, bc BK274.out 0⟩ (fun hHeld => ?_)
                   clear hK K
                   refine norm_ (a' := ?_) ?_ ?_
                   rotate_left
                   ·show Act.put _ (some 11) _ = _
                    simp only [Act.put, sa_, s0_, ss_, i64_w, i32_w]
                    rfl
                   exact norm_ (by first | (simp only [putAll, Act.put, sa_, s0_, ss_]; done) | (simp only [putAll, Act.put, sa_, s0_, ss_]; rfl)) (hJ20 (gb298) _ ⟨hHeld, (kv (Kd.V_mono HO284.out (fun _ hk => ⟨hk.1.1, ⟨hk.1.2.1, ⟨hk.1.2.2.1, ⟨hk.1.2.2.2.1, ⟨hk.1.2.2.2.2.1, ⟨hk.1.2.2.2.2.2, hk.2⟩⟩⟩⟩⟩⟩))), (kv (Kd.V_mono HO289.out (fun _ hk => ⟨hk.1.1, ⟨hk.1.2.1, ⟨hk.1.2.2.1, ⟨hk.1.2.2.2.1, ⟨hk.1.2.2.2.2.1, ⟨hk.1.2.2.2.2.2, hk.2⟩⟩⟩⟩⟩⟩))), (kv (Kd.V_mono HO_273000.out (fun _ hk => ⟨hk.1.1, ⟨hk.1.2.1, ⟨hk.1.2.2.1, ⟨hk.1.2.2.2.1, ⟨hk.1.2.2.2.2.1, ⟨hk.1.2.2.2.2.2, hk.2⟩⟩⟩⟩⟩⟩))), (kv (Kd.V_mono HO_3.out (fun _ hk => ⟨hk.1.1, ⟨hk.1.2.1, ⟨hk.1.2.2.1, ⟨hk.1.2.2.2.1, ⟨hk.1.2.2.2.2.1, ⟨hk.1.2.2.2.2.2, hk.2⟩⟩⟩⟩⟩⟩))), (pk BK272.out), (pk BK273.out), (pk BK274.out), (pk BK275.out), (pk BK278.out), (pk BK298.out), GW298.out, GE298.out, NB272_298.out, NB298_272.out, NB273_298.out, NB298_273.out, NB274_298.out, NB298_274.out, NB275_298.out, NB298_275.out, NB278_298.out, NB298_278.out, (bl HB.out)⟩)
                 ·skip
                  rintro gb298 w53 ⟨hS_, h0_, h1_, h2_, h3_, h4_, h5_, h6_, h7_, h8_, h9_, h10_, h11_, h12_, h13_, h14_, h15_, h16_, h17_, h18_, h19_, h20_, h21_, h22_⟩
                  have HO284 : Aside0 (Kd.V (Kd.int .i64) 2 w53 w.heap.size (fun k_ => ((P0_0_ k_ ∨ P3_ k_) ∨ w.heap.size ≤ k_) ∧ k_ ≠ gb272 ∧ k_ ≠ gb273 ∧ k_ ≠ gb274 ∧ k_ ≠ gb275 ∧ k_ ≠ gb278 ∧ k_ ≠ gb298) (.slice A0_0 y280.length c0_0) y280) := ⟨h0_⟩
                  have HO289 : Aside0 (Kd.V (Kd.int .i64) 2 w53 w.heap.size (fun k_ => ((P0_0_ k_ ∨ P3_ k_) ∨ w.heap.size ≤ k_) ∧ k_ ≠ gb272 ∧ k_ ≠ gb273 ∧ k_ ≠ gb274 ∧ k_ ≠ gb275 ∧ k_ ≠ gb278 ∧ k_ ≠ gb298) (.slice A51 y285.length c51) y285) := ⟨h1_⟩
                  replace HO_273000 : Aside0 (Kd.V (Kd.int .i64) 2 w53 w.heap.size (fun k_ => ((P0_0_ k_ ∨ P3_ k_) ∨ w.heap.size ≤ k_) ∧ k_ ≠ gb272 ∧ k_ ≠ gb273 ∧ k_ ≠ gb274 ∧ k_ ≠ gb275 ∧ k_ ≠ gb278 ∧ k_ ≠ gb298) (.slice A0_0 l0_0.length c0_0) l0_0) := ⟨h2_⟩
                  replace HO_3 : Aside0 (Kd.V (Kd.int .i64) 2 w53 w.heap.size (fun k_ => ((P0_0_ k_ ∨ P3_ k_) ∨ w.heap.size ≤ k_) ∧ k_ ≠ gb272 ∧ k_ ≠ gb273 ∧ k_ ≠ gb274 ∧ k_ ≠ gb275 ∧ k_ ≠ gb278 ∧ k_ ≠ gb298) (.slice A3 l3.length c3) l3) := ⟨h3_⟩
                  replace BK272 : Aside0 (w53.heap[gb272]? = some (.cells #[.slice A0_0 l0_0.length c0_0, .int .i64 a0_1, .int .i64 a0_2] 26 (0, 0))) := ⟨h4_⟩
                  replace BK273 : Aside0 (w53.heap[gb273]? = some (.cells #[.int .i64 a1] 2 (0, 0))) := ⟨h5_⟩
                  replace BK274 : Aside0 (w53.heap[gb274]? = some (.cells #[.int .i64 a2] 2 (0, 0))) := ⟨h6_⟩
                  replace BK275 : Aside0 (w53.heap[gb275]? = some (.cells #[.slice none 0 0, .int .i64 0, .int .i64 0, .slice none 0 0, .int .i64 0] 28 (0, 0))) := ⟨h7_⟩
                  replace BK278 : Aside0 (w53.heap[gb278]? = some (.cells #[.int .i64 (wrap64 (t277 - (wrap64 (a2 - a1))))] 2 (0, 0))) := ⟨h8_⟩
                  have BK298 : Aside0 (w53.heap[gb298]? = some (.cells #[.slice none 0 0, .int .i64 0, .int .i64 0] 26 (0, 0))) := ⟨h9_⟩
                  have GW298 : Aside0 (w.heap.size ≤ gb298) := ⟨h10_⟩
                  have GE298 : Aside0 (w.heap.size ≤ gb298) := ⟨h11_⟩
                  have NB272_298 : Aside0 (gb272 ≠ gb298) := ⟨h12_⟩
                  have NB298_272 : Aside0 (gb298 ≠ gb272) := ⟨h13_⟩
                  have NB273_298 : Aside0 (gb273 ≠ gb298) := ⟨h14_⟩
                  have NB298_273 : Aside0 (gb298 ≠ gb273) := ⟨h15_⟩
                  have NB274_298 : Aside0 (gb274 ≠ gb298) := ⟨h16_⟩
                  have NB298_274 : Aside0 (gb298 ≠ gb274) := ⟨h17_⟩
                  have NB275_298 : Aside0 (gb275 ≠ gb298) := ⟨h18_⟩
                  have NB298_275 : Aside0 (gb298 ≠ gb275) := ⟨h19_⟩
                  have NB278_298 : Aside0 (gb278 ≠ gb298) := ⟨h20_⟩
                  have NB298_278 : Aside0 (gb298 ≠ gb278) := ⟨h21_⟩
                  replace HB : Aside0 (Below w.heap.size w w53) := ⟨h22_⟩
                  clear h0_ h1_ h2_ h3_ h4_ h5_ h6_ h7_ h8_ h9_ h10_ h11_ h12_ h13_ h14_ h15_ h16_ h17_ h18_ h19_ h20_ h21_ h22_
                  have hHeld : w53.cell? ⟨gb272, 0, none⟩ = some (.slice A0_0 l0_0.length c0_0) ∧ w53.cell? ⟨gb272, 1, none⟩ = some (.int .i64 a0_1) ∧ w53.cell? ⟨gb272, 2, none⟩ = some (.int .i64 a0_2) ∧ w53.cell? ⟨gb273, 0, none⟩ = some (.int .i64 a1) ∧ w53.cell? ⟨gb274, 0, none⟩ = some (.int .i64 a2) := hS_
                  refine norm_ (a' := ?_) ?_ ?_
                  rotate_left
                  ·simp only [putAll, Act.put, sa_, s0_, ss_]
                   rfl
                  refine one_ (i := 9) (N := some 50) b47_39 rfl rfl (one_of HT_.out (by kernel_rfl)) (by decide) (fun K hK => ?_)
                  refine Kd.N_lit_step (Kd.slice 2 (Kd.int .i64)) _ 22 ?hg (N' := 50) ?hd (xs := ([y280, l3, y285] : List (List Int))) (inner := [.slice A0_0 y280.length c0_0, .slice A3 l3.length c3, .slice A51 y285.length c51]) (ok := (fun k_ => ((P0_0_ k_ ∨ P3_ k_) ∨ w.heap.size ≤ k_) ∧ k_ ≠ gb272 ∧ k_ ≠ gb273 ∧ k_ ≠ gb274 ∧ k_ ≠ gb275 ∧ k_ ≠ gb278 ∧ k_ ≠ gb298)) (okp := (fun k_ => ((P0_0_ k_ ∨ P3_ k_) ∨ w.heap.size ≤ k_) ∧ k_ ≠ gb272 ∧ k_ ≠ gb273 ∧ k_ ≠ gb274 ∧ k_ ≠ gb275 ∧ k_ ≠ gb278 ∧ k_ ≠ gb298)) ?hr ?hp (fun _ hk => hk) ((show ∀ k_, w53.heap.size ≤ k_ → (fun k_ => ((P0_0_ k_ ∨ P3_ k_) ∨ w.heap.size ≤ k_) ∧ k_ ≠ gb272 ∧ k_ ≠ gb273 ∧ k_ ≠ gb274 ∧ k_ ≠ gb275 ∧ k_ ≠ gb278 ∧ k_ ≠ gb298) k_ from fun k_ hk => ⟨(.inr (Nat.le_trans (below_size (bl HB.out)) hk)), Kd.freshB (g := gb272) (o := .cells #[.slice A0_0 l0_0.length c0_0, .int .i64 a0_1, .int .i64 a0_2] 26 (0, 0)) (pk BK272.out) k_ hk, Kd.freshB (g := gb273) (o := .cells #[.int .i64 a1] 2 (0, 0)) (pk BK273.out) k_ hk, Kd.freshB (g := gb274) (o := .cells #[.int .i64 a2] 2 (0, 0)) (pk BK274.out) k_ hk, Kd.freshB (g := gb275) (o := .cells #[.slice none 0 0, .int .i64 0, .int .i64 0, .slice none 0 0, .int .i64 0] 28 (0, 0)) (pk BK275.out) k_ hk, Kd.freshB (g := gb278) (o := .cells #[.int .i64 (wrap64 (t277 - (wrap64 (a2 - a1))))] 2 (0, 0)) (pk BK278.out) k_ hk, Kd.freshB (g := gb298) (o := .cells #[.slice none 0 0, .int .i64 0, .int .i64 0] 26 (0, 0)) (pk BK298.out) k_ hk⟩) _ (Nat.le_refl _)) (Below.refl _ _) (Nat.le_refl _) (by simp) ?_; (case hd => rfl); (case hg => rfl); (case hr => first | (go_simp; done) | (go_simp; rfl)); (case hp => exact (Reps.one (show Kd.FK (Kd.slice 2 (Kd.int .i64)) _ _ y280 [.slice A0_0 y280.length c0_0] from (Kd.FK_slice_mk (Kd.V_reads' (Kd.V_mono (ok' := (fun k_ => ((P0_0_ k_ ∨ P3_ k_) ∨ w.heap.size ≤ k_) ∧ k_ ≠ gb272 ∧ k_ ≠ gb273 ∧ k_ ≠ gb274 ∧ k_ ≠ gb275 ∧ k_ ≠ gb278 ∧ k_ ≠ gb298)) (HO284.out) (fun k_ hk => ⟨hk.1, ⟨hk.2.1, ⟨hk.2.2.1, ⟨hk.2.2.2.1, ⟨hk.2.2.2.2.1, ⟨hk.2.2.2.2.2.1, hk.2.2.2.2.2.2⟩⟩⟩⟩⟩⟩))).2.1 (Kd.V_F (Kd.V_mono (ok' := (fun k_ => ((P0_0_ k_ ∨ P3_ k_) ∨ w.heap.size ≤ k_) ∧ k_ ≠ gb272 ∧ k_ ≠ gb273 ∧ k_ ≠ gb274 ∧ k_ ≠ gb275 ∧ k_ ≠ gb278 ∧ k_ ≠ gb298)) (HO284.out) (fun k_ hk => ⟨hk.1, ⟨hk.2.1, ⟨hk.2.2.1, ⟨hk.2.2.2.1, ⟨hk.2.2.2.2.1, ⟨hk.2.2.2.2.2.1, hk.2.2.2.2.2.2⟩⟩⟩⟩⟩⟩))))) (Reps.one (show Kd.FK (Kd.slice 2 (Kd.int .i64)) _ _ l3 [.slice A3 l3.length c3] from (Kd.FK_slice_mk (Kd.V_reads' (Kd.V_mono (ok' := (fun k_ => ((P0_0_ k_ ∨ P3_ k_) ∨ w.heap.size ≤ k_) ∧ k_ ≠ gb272 ∧ k_ ≠ gb273 ∧ k_ ≠ gb274 ∧ k_ ≠ gb275 ∧ k_ ≠ gb278 ∧ k_ ≠ gb298)) (HO_3.out) (fun k_ hk => ⟨hk.1, ⟨hk.2.1, ⟨hk.2.2.1, ⟨hk.2.2.2.1, ⟨hk.2.2.2.2.1, ⟨hk.2.2.2.2.2.1, hk.2.2.2.2.2.2⟩⟩⟩⟩⟩⟩))).2.1 (Kd.V_F (Kd.V_mono (ok' := (fun k_ => ((P0_0_ k_ ∨ P3_ k_) ∨ w.heap.size ≤ k_) ∧ k_ ≠ gb272 ∧ k_ ≠ gb273 ∧ k_ ≠ gb274 ∧ k_ ≠ gb275 ∧ k_ ≠ gb278 ∧ k_ ≠ gb298)) (HO_3.out) (fun k_ hk => ⟨hk.1, ⟨hk.2.1, ⟨hk.2.2.1, ⟨hk.2.2.2.1, ⟨hk.2.2.2.2.1, ⟨hk.2.2.2.2.2.1, hk.2.2.2.2.2.2⟩⟩⟩⟩⟩⟩))))) (Reps.one (show Kd.FK (Kd.slice 2 (Kd.int .i64)) _ _ y285 [.slice A51 y285.length c51] from (Kd.FK_slice_mk (Kd.V_reads' (Kd.V_mono (ok' := (fun k_ => ((P0_0_ k_ ∨ P3_ k_) ∨ w.heap.size ≤ k_) ∧ k_ ≠ gb272 ∧ k_ ≠ gb273 ∧ k_ ≠ gb274 ∧ k_ ≠ gb275 ∧ k_ ≠ gb278 ∧ k_ ≠ gb298)) (HO289.out) (fun k_ hk => ⟨hk.1, ⟨hk.2.1, ⟨hk.2.2.1, ⟨hk.2.2.2.1, ⟨hk.2.2.2.2.1, ⟨hk.2.2.2.2.2.1, hk.2.2.2.2.2.2⟩⟩⟩⟩⟩⟩))).2.1 (Kd.V_F (Kd.V_mono (ok' := (fun k_ => ((P0_0_ k_ ∨ P3_ k_) ∨ w.heap.size ≤ k_) ∧ k_ ≠ gb272 ∧ k_ ≠ gb273 ∧ k_ ≠ gb274 ∧ k_ ≠ gb275 ∧ k_ ≠ gb278 ∧ k_ ≠ gb298)) (HO289.out) (fun k_ hk => ⟨hk.1, ⟨hk.2.1, ⟨hk.2.2.1, ⟨hk.2.2.2.1, ⟨hk.2.2.2.2.1, ⟨hk.2.2.2.2.2.1, hk.2.2.2.2.2.2⟩⟩⟩⟩⟩⟩))))) (Reps.none _ _)))))
                  intro v291 w54 ho55 hb hg_ hnew_
                  clear hg_ hnew_
                  (first | rw [← Ny290.out] at ho55 | (simp only [Int.reduceToNat] at ho55; rw [← Ny290.out] at ho55))
                  replace HO_3 := am (Kd.V_elder' (kv HO_3.out) (Kd.N_base ho55) hb)
                  replace HO_273000 := am (Kd.V_elder' (kv HO_273000.out) (Kd.N_base ho55) hb)
                  replace HO284 := am (Kd.V_elder' (kv HO284.out) (Kd.N_base ho55) hb)
                  replace HO289 := am (Kd.V_elder' (kv HO289.out) (Kd.N_base ho55) hb)
                  have HO292 := am (Kd.N_lower ho55 (below_size (bl HB.out)))
                  replace BK272 := am (blk_below (pk BK272.out) hb)
                  replace BK273 := am (blk_below (pk BK273.out) hb)
                  replace BK274 := am (blk_below (pk BK274.out) hb)
                  replace BK275 := am (blk_below (pk BK275.out) hb)
                  replace BK278 := am (blk_below (pk BK278.out) hb)
                  replace BK298 := am (blk_below (pk BK298.out) hb)
                  replace HB := am (below_step (bl HB.out) hb)
                  clear hb ho55
                  refine hK.out _ _ ⟨bc BK272.out 0, bc BK272.out 1, bc BK272.out 2, bc BK273.out 0, bc BK274.out 0⟩ (fun hHeld => ?_)
                  clear hK K
                  refine norm_ (a' := ?_) ?_ ?_
                  rotate_left
                  ·show Act.put _ (some 50) _ = _
                   simp only [Act.put, sa_, s0_, ss_, i64_w, i32_w]
                   rfl
                  exact norm_ (by first | (simp only [putAll, Act.put, sa_, s0_, ss_]; done) | (simp only [putAll, Act.put, sa_, s0_, ss_]; rfl)) (hJ9_20 (v291, gb298) _ ⟨hHeld, (kv (Kd.V_mono HO284.out (fun _ hk => ⟨hk.1.1, ⟨hk.2, ⟨hk.1.2.1, ⟨hk.1.2.2.1, ⟨hk.1.2.2.2.1, ⟨hk.1.2.2.2.2.1, ⟨hk.1.2.2.2.2.2.1, hk.1.2.2.2.2.2.2⟩⟩⟩⟩⟩⟩⟩))), (kv (Kd.V_mono HO289.out (fun _ hk => ⟨hk.1.1, ⟨hk.2, ⟨hk.1.2.1, ⟨hk.1.2.2.1, ⟨hk.1.2.2.2.1, ⟨hk.1.2.2.2.2.1, ⟨hk.1.2.2.2.2.2.1, hk.1.2.2.2.2.2.2⟩⟩⟩⟩⟩⟩⟩))), (kn HO292.out), (kv (Kd.V_mono HO_273000.out (fun _ hk => ⟨hk.1.1, ⟨hk.2, ⟨hk.1.2.1, ⟨hk.1.2.2.1, ⟨hk.1.2.2.2.1, ⟨hk.1.2.2.2.2.1, ⟨hk.1.2.2.2.2.2.1, hk.1.2.2.2.2.2.2⟩⟩⟩⟩⟩⟩⟩))), (kv (Kd.V_mono HO_3.out (fun _ hk => ⟨hk.1.1, ⟨hk.2, ⟨hk.1.2.1, ⟨hk.1.2.2.1, ⟨hk.1.2.2.2.1, ⟨hk.1.2.2.2.2.1, ⟨hk.1.2.2.2.2.2.1, hk.1.2.2.2.2.2.2⟩⟩⟩⟩⟩⟩⟩))), (pk BK272.out), (pk BK273.out), (pk BK274.out), (pk BK275.out), (pk BK278.out), (pk BK298.out), GW298.out, GE298.out, NB272_298.out, NB298_272.out, NB273_298.out, NB298_273.out, NB274_298.out, NB298_274.out, NB275_298.out, NB298_275.out, NB278_298.out, NB298_278.out, (bl HB.out)⟩)
                ·skip
                 rintro v291 w54 ⟨hS_, h0_, h1_, h2_, h3_, h4_, h5_, h6_, h7_, h8_, h9_, h10_⟩
                 have HO284 : Aside0 (Kd.V (Kd.int .i64) 2 w54 w.heap.size (fun k_ => ((P0_0_ k_ ∨ P3_ k_) ∨ w.heap.size ≤ k_) ∧ some k_ ≠ (v291 : Value).ownBlock ∧ k_ ≠ gb272 ∧ k_ ≠ gb273 ∧ k_ ≠ gb274 ∧ k_ ≠ gb275 ∧ k_ ≠ gb278) (.slice A0_0 y280.length c0_0) y280) := ⟨h0_⟩
                 have HO289 : Aside0 (Kd.V (Kd.int .i64) 2 w54 w.heap.size (fun k_ => ((P0_0_ k_ ∨ P3_ k_) ∨ w.heap.size ≤ k_) ∧ some k_ ≠ (v291 : Value).ownBlock ∧ k_ ≠ gb272 ∧ k_ ≠ gb273 ∧ k_ ≠ gb274 ∧ k_ ≠ gb275 ∧ k_ ≠ gb278) (.slice A51 y285.length c51) y285) := ⟨h1_⟩
                 have HO292 : Aside0 (Kd.N (Kd.slice 2 (Kd.int .i64)) 22 w54 w.heap.size (fun k_ => ((P0_0_ k_ ∨ P3_ k_) ∨ w.heap.size ≤ k_) ∧ k_ ≠ gb272 ∧ k_ ≠ gb273 ∧ k_ ≠ gb274 ∧ k_ ≠ gb275 ∧ k_ ≠ gb278) v291 y290) := ⟨h2_⟩
                 replace HO_273000 : Aside0 (Kd.V (Kd.int .i64) 2 w54 w.heap.size (fun k_ => ((P0_0_ k_ ∨ P3_ k_) ∨ w.heap.size ≤ k_) ∧ some k_ ≠ (v291 : Value).ownBlock ∧ k_ ≠ gb272 ∧ k_ ≠ gb273 ∧ k_ ≠ gb274 ∧ k_ ≠ gb275 ∧ k_ ≠ gb278) (.slice A0_0 l0_0.length c0_0) l0_0) := ⟨h3_⟩
                 replace HO_3 : Aside0 (Kd.V (Kd.int .i64) 2 w54 w.heap.size (fun k_ => ((P0_0_ k_ ∨ P3_ k_) ∨ w.heap.size ≤ k_) ∧ some k_ ≠ (v291 : Value).ownBlock ∧ k_ ≠ gb272 ∧ k_ ≠ gb273 ∧ k_ ≠ gb274 ∧ k_ ≠ gb275 ∧ k_ ≠ gb278) (.slice A3 l3.length c3) l3) := ⟨h4_⟩
                 replace BK272 : Aside0 (w54.heap[gb272]? = some (.cells #[.slice A0_0 l0_0.length c0_0, .int .i64 a0_1, .int .i64 a0_2] 26 (0, 0))) := ⟨h5_⟩
                 replace BK273 : Aside0 (w54.heap[gb273]? = some (.cells #[.int .i64 a1] 2 (0, 0))) := ⟨h6_⟩
                 replace BK274 : Aside0 (w54.heap[gb274]? = some (.cells #[.int .i64 a2] 2 (0, 0))) := ⟨h7_⟩
                 replace BK275 : Aside0 (w54.heap[gb275]? = some (.cells #[.slice none 0 0, .int .i64 0, .int .i64 0, .slice none 0 0, .int .i64 0] 28 (0, 0))) := ⟨h8_⟩
                 replace BK278 : Aside0 (w54.heap[gb278]? = some (.cells #[.int .i64 (wrap64 (t277 - (wrap64 (a2 - a1))))] 2 (0, 0))) := ⟨h9_⟩
                 replace HB : Aside0 (Below w.heap.size w w54) := ⟨h10_⟩
                 clear h0_ h1_ h2_ h3_ h4_ h5_ h6_ h7_ h8_ h9_ h10_
                 have hHeld : w54.cell? ⟨gb272, 0, none⟩ = some (.slice A0_0 l0_0.length c0_0) ∧ w54.cell? ⟨gb272, 1, none⟩ = some (.int .i64 a0_1) ∧ w54.cell? ⟨gb272, 2, none⟩ = some (.int .i64 a0_2) ∧ w54.cell? ⟨gb273, 0, none⟩ = some (.int .i64 a1) ∧ w54.cell? ⟨gb274, 0, none⟩ = some (.int .i64 a2) := hS_
                 obtain ⟨Ao55, co55, eo55⟩ := Kd.N_slice HO292.out
                 (first | subst eo55 | (injection eo55 with f1_ f2_ f3_; have f4_ := f1_.symm; have f5_ := f3_.symm; clear f1_ f2_ f3_; subst f4_; subst f5_))
                 refine norm_ (a' := ?_) ?_ ?_
                 rotate_left
                 ·simp only [putAll, Act.put, sa_, s0_, ss_]
                  rfl
                 refine two_ (i := 10) (j := 20) (Ni := some 51) (Nj := some 11) b47_38 b47_39 rfl rfl rfl rfl (two_of HT_.out (by kernel_rfl)) (by decide) (by decide) (fun K hK => ?_) (fun K hK => ?_)
                 ·skip
                  refine gs_ Try.func71 #[.slice Ao55 y290.length co55] ?_
                  with_reducible refine (slices_Concat_sint64_int64.calls kj4 _ _ y290 t293 _ ?side1 ?side2 A39.out).mono ?_
                  (case side1 => repeat (first | exact (Kd.N_reads' HO292.out).2.2 | (with_reducible refine Kd.C_alloc ?_ _) | (with_reducible refine Kd.C_drewN ?_ _) | (with_reducible refine Kd.C_drew ?_)))
                  (case side2 => exact (Kd.N_reads' HO292.out).2.1)
                  rintro e w56 ⟨v294, rfl, ho0, hb⟩
                  refine ⟨_, rfl, ?_⟩
                  replace HO_3 := am (Kd.V_elder' (kv HO_3.out) (Kd.R_base ho0) hb)
                  replace HO_273000 := am (Kd.V_elder' (kv HO_273000.out) (Kd.R_base ho0) hb)
                  replace HO284 := am (Kd.V_elder' (kv HO284.out) (Kd.R_base ho0) hb)
                  replace HO289 := am (Kd.V_elder' (kv HO289.out) (Kd.R_base ho0) hb)
                  replace HO292 := am (Kd.N_elder' (kn HO292.out) (Kd.R_base ho0) hb)
                  have HO295 := am (Kd.R_lower (Kd.R_newB (Kd.R_newB (Kd.R_newB (Kd.R_newM (M := fun k_ => (w.heap.size ≤ k_)) ho0 (below_size (bl HB.out)) (fun k_ h_ => h_)) (g := gb273) (o := .cells #[.int .i64 a1] 2 (0, 0)) (pk BK273.out)) (g := gb274) (o := .cells #[.int .i64 a2] 2 (0, 0)) (pk BK274.out)) (g := gb278) (o := .cells #[.int .i64 (wrap64 (t277 - (wrap64 (a2 - a1))))] 2 (0, 0)) (pk BK278.out)) (below_size (bl HB.out)))
                  replace BK272 := am (blk_below (pk BK272.out) hb)
                  replace BK273 := am (blk_below (pk BK273.out) hb)
                  replace BK274 := am (blk_below (pk BK274.out) hb)
                  replace BK275 := am (blk_below (pk BK275.out) hb)
                  replace BK278 := am (blk_below (pk BK278.out) hb)
                  replace HB := am (below_step (bl HB.out) hb)
                  (try clear hb)
                  (try clear hb2)
                  (try clear hk)
                  (try clear hi)
                  (try clear ho0)
                  refine hK.out _ _ ⟨bc BK272.out 0, bc BK272.out 1, bc BK272.out 2, bc BK273.out 0, bc BK274.out 0⟩ (fun hHeld => ?_)
                  clear hK K
                  refine norm_ (a' := ?_) ?_ ?_
                  rotate_left
                  ·show Act.put _ (some 51) _ = _
                   simp only [Act.put, sa_, s0_, ss_, i64_w, i32_w]
                   rfl
                  exact norm_ (by first | (simp only [putAll, Act.put, sa_, s0_, ss_]; done) | (simp only [putAll, Act.put, sa_, s0_, ss_]; rfl)) (hJ9_10 (.slice Ao55 y290.length co55, v294) _ ⟨hHeld, (kv (Kd.V_mono HO284.out (fun _ hk => ⟨hk.1.1, ⟨hk.1.2.1, ⟨hk.2, ⟨hk.1.2.2.1, ⟨hk.1.2.2.2.1, ⟨hk.1.2.2.2.2.1, ⟨hk.1.2.2.2.2.2.1, hk.1.2.2.2.2.2.2⟩⟩⟩⟩⟩⟩⟩))), (kv (Kd.V_mono HO289.out (fun _ hk => ⟨hk.1.1, ⟨hk.1.2.1, ⟨hk.2, ⟨hk.1.2.2.1, ⟨hk.1.2.2.2.1, ⟨hk.1.2.2.2.2.1, ⟨hk.1.2.2.2.2.2.1, hk.1.2.2.2.2.2.2⟩⟩⟩⟩⟩⟩⟩))), (kn (Kd.N_mono HO292.out (fun _ hk => ⟨hk.1.1, ⟨hk.2, ⟨hk.1.2.1, ⟨hk.1.2.2.1, ⟨hk.1.2.2.2.1, ⟨hk.1.2.2.2.2.1, hk.1.2.2.2.2.2⟩⟩⟩⟩⟩⟩))), (kr (Kd.R_mono HO295.out (fun _ hk => ⟨hk.1.1.1.1, ⟨hk.1.1.2, ⟨hk.1.2, hk.2⟩⟩⟩))), (kv (Kd.V_mono HO_273000.out (fun _ hk => ⟨hk.1.1, ⟨hk.1.2.1, ⟨hk.2, ⟨hk.1.2.2.1, ⟨hk.1.2.2.2.1, ⟨hk.1.2.2.2.2.1, ⟨hk.1.2.2.2.2.2.1, hk.1.2.2.2.2.2.2⟩⟩⟩⟩⟩⟩⟩))), (kv (Kd.V_mono HO_3.out (fun _ hk => ⟨hk.1.1, ⟨hk.1.2.1, ⟨hk.2, ⟨hk.1.2.2.1, ⟨hk.1.2.2.2.1, ⟨hk.1.2.2.2.2.1, ⟨hk.1.2.2.2.2.2.1, hk.1.2.2.2.2.2.2⟩⟩⟩⟩⟩⟩⟩))), (pk BK272.out), (pk BK273.out), (pk BK274.out), (pk BK275.out), (pk BK278.out), (bl HB.out)⟩)
                 ·skip
                  refine box_step ?hg (N := 11) ?hd (cs := #[.slice none 0 0, .int .i64 0, .int .i64 0]) (t := 26) ?hr ?_; (case hd => rfl); (case hg => rfl); (case hr => first | (go_simp; done) | (go_simp; rfl))
                  intro gb298 hg w55 hbox hb
                  replace HO_3 := am (Kd.V_below (Kd.V_elderB (kv HO_3.out) gb298 (Nat.le_of_eq hg.symm)) hb)
                  replace HO_273000 := am (Kd.V_below (Kd.V_elderB (kv HO_273000.out) gb298 (Nat.le_of_eq hg.symm)) hb)
                  replace HO284 := am (Kd.V_below (Kd.V_elderB (kv HO284.out) gb298 (Nat.le_of_eq hg.symm)) hb)
                  replace HO289 := am (Kd.V_below (Kd.V_elderB (kv HO289.out) gb298 (Nat.le_of_eq hg.symm)) hb)
                  replace HO292 := am (Kd.N_below (Kd.N_elderB (kn HO292.out) gb298 (Nat.le_of_eq hg.symm)) hb)
                  have BK298 := am (hbox)
                  have GW298 := am ((by rw [hg]; exact (below_size (bl HB.out)) : w.heap.size ≤ gb298))
                  have GE298 := GW298
                  replace HB := am (below_step (bl HB.out) hb)
                  have NB272_298 := am ((by rw [hg]; exact Nat.ne_of_lt (blk_lt (pk BK272.out)) : gb272 ≠ gb298))
                  have NB298_272 := am ((by rw [hg]; exact Nat.ne_of_gt (blk_lt (pk BK272.out)) : gb298 ≠ gb272))
                  replace BK272 := am (blk_below (pk BK272.out) hb)
                  have NB273_298 := am ((by rw [hg]; exact Nat.ne_of_lt (blk_lt (pk BK273.out)) : gb273 ≠ gb298))
                  have NB298_273 := am ((by rw [hg]; exact Nat.ne_of_gt (blk_lt (pk BK273.out)) : gb298 ≠ gb273))
                  replace BK273 := am (blk_below (pk BK273.out) hb)
                  have NB274_298 := am ((by rw [hg]; exact Nat.ne_of_lt (blk_lt (pk BK274.out)) : gb274 ≠ gb298))
                  have NB298_274 := am ((by rw [hg]; exact Nat.ne_of_gt (blk_lt (pk BK274.out)) : gb298 ≠ gb274))
                  replace BK274 := am (blk_below (pk BK274.out) hb)
                  have NB275_298 := am ((by rw [hg]; exact Nat.ne_of_lt (blk_lt (pk BK275.out)) : gb275 ≠ gb298))
                  have NB298_275 := am ((by rw [hg]; exact Nat.ne_of_gt (blk_lt (pk BK275.out)) : gb298 ≠ gb275))
                  replace BK275 := am (blk_below (pk BK275.out) hb)
                  have NB278_298 := am ((by rw [hg]; exact Nat.ne_of_lt (blk_lt (pk BK278.out)) : gb278 ≠ gb298))
                  have NB298_278 := am ((by rw [hg]; exact Nat.ne_of_gt (blk_lt (pk BK278.out)) : gb298 ≠ gb278))
                  replace BK278 := am (blk_below (pk BK278.out) hb)
                  clear hb hbox hg
                  refine hK.out _ _ ⟨bc BK272.out 0, bc BK272.out 1, bc BK272.out 2, bc BK273.out 0, bc BK274.out 0⟩ (fun hHeld => ?_)
                  clear hK K
                  refine norm_ (a' := ?_) ?_ ?_
                  rotate_left
                  ·show Act.put _ (some 11) _ = _
                   simp only [Act.put, sa_, s0_, ss_, i64_w, i32_w]
                   rfl
                  exact norm_ (by first | (simp only [putAll, Act.put, sa_, s0_, ss_]; done) | (simp only [putAll, Act.put, sa_, s0_, ss_]; rfl)) (hJ9_20 (.slice Ao55 y290.length co55, gb298) _ ⟨hHeld, (kv (Kd.V_mono HO284.out (fun _ hk => ⟨hk.1.1, ⟨hk.1.2.1, ⟨hk.1.2.2.1, ⟨hk.1.2.2.2.1, ⟨hk.1.2.2.2.2.1, ⟨hk.1.2.2.2.2.2.1, ⟨hk.1.2.2.2.2.2.2, hk.2⟩⟩⟩⟩⟩⟩⟩))), (kv (Kd.V_mono HO289.out (fun _ hk => ⟨hk.1.1, ⟨hk.1.2.1, ⟨hk.1.2.2.1, ⟨hk.1.2.2.2.1, ⟨hk.1.2.2.2.2.1, ⟨hk.1.2.2.2.2.2.1, ⟨hk.1.2.2.2.2.2.2, hk.2⟩⟩⟩⟩⟩⟩⟩))), (kn (Kd.N_mono HO292.out (fun _ hk => ⟨hk.1.1, ⟨hk.1.2.1, ⟨hk.1.2.2.1, ⟨hk.1.2.2.2.1, ⟨hk.1.2.2.2.2.1, ⟨hk.1.2.2.2.2.2, hk.2⟩⟩⟩⟩⟩⟩))), (kv (Kd.V_mono HO_273000.out (fun _ hk => ⟨hk.1.1, ⟨hk.1.2.1, ⟨hk.1.2.2.1, ⟨hk.1.2.2.2.1, ⟨hk.1.2.2.2.2.1, ⟨hk.1.2.2.2.2.2.1, ⟨hk.1.2.2.2.2.2.2, hk.2⟩⟩⟩⟩⟩⟩⟩))), (kv (Kd.V_mono HO_3.out (fun _ hk => ⟨hk.1.1, ⟨hk.1.2.1, ⟨hk.1.2.2.1, ⟨hk.1.2.2.2.1, ⟨hk.1.2.2.2.2.1, ⟨hk.1.2.2.2.2.2.1, ⟨hk.1.2.2.2.2.2.2, hk.2⟩⟩⟩⟩⟩⟩⟩))), (pk BK272.out), (pk BK273.out), (pk BK274.out), (pk BK275.out), (pk BK278.out), (pk BK298.out), GW298.out, GE298.out, NB272_298.out, NB298_272.out, NB273_298.out, NB298_273.out, NB274_298.out, NB298_274.out, NB275_298.out, NB298_275.out, NB278_298.out, NB298_278.out, (bl HB.out)⟩)
               ·skip
                rintro ⟨v291, gb298⟩ w55 ⟨hS_, h0_, h1_, h2_, h3_, h4_, h5_, h6_, h7_, h8_, h9_, h10_, h11_, h12_, h13_, h14_, h15_, h16_, h17_, h18_, h19_, h20_, h21_, h22_, h23_⟩
                have HO284 : Aside0 (Kd.V (Kd.int .i64) 2 w55 w.heap.size (fun k_ => ((P0_0_ k_ ∨ P3_ k_) ∨ w.heap.size ≤ k_) ∧ some k_ ≠ (v291 : Value).ownBlock ∧ k_ ≠ gb272 ∧ k_ ≠ gb273 ∧ k_ ≠ gb274 ∧ k_ ≠ gb275 ∧ k_ ≠ gb278 ∧ k_ ≠ gb298) (.slice A0_0 y280.length c0_0) y280) := ⟨h0_⟩
                have HO289 : Aside0 (Kd.V (Kd.int .i64) 2 w55 w.heap.size (fun k_ => ((P0_0_ k_ ∨ P3_ k_) ∨ w.heap.size ≤ k_) ∧ some k_ ≠ (v291 : Value).ownBlock ∧ k_ ≠ gb272 ∧ k_ ≠ gb273 ∧ k_ ≠ gb274 ∧ k_ ≠ gb275 ∧ k_ ≠ gb278 ∧ k_ ≠ gb298) (.slice A51 y285.length c51) y285) := ⟨h1_⟩
                have HO292 : Aside0 (Kd.N (Kd.slice 2 (Kd.int .i64)) 22 w55 w.heap.size (fun k_ => ((P0_0_ k_ ∨ P3_ k_) ∨ w.heap.size ≤ k_) ∧ k_ ≠ gb272 ∧ k_ ≠ gb273 ∧ k_ ≠ gb274 ∧ k_ ≠ gb275 ∧ k_ ≠ gb278 ∧ k_ ≠ gb298) v291 y290) := ⟨h2_⟩
                replace HO_273000 : Aside0 (Kd.V (Kd.int .i64) 2 w55 w.heap.size (fun k_ => ((P0_0_ k_ ∨ P3_ k_) ∨ w.heap.size ≤ k_) ∧ some k_ ≠ (v291 : Value).ownBlock ∧ k_ ≠ gb272 ∧ k_ ≠ gb273 ∧ k_ ≠ gb274 ∧ k_ ≠ gb275 ∧ k_ ≠ gb278 ∧ k_ ≠ gb298) (.slice A0_0 l0_0.length c0_0) l0_0) := ⟨h3_⟩
                replace HO_3 : Aside0 (Kd.V (Kd.int .i64) 2 w55 w.heap.size (fun k_ => ((P0_0_ k_ ∨ P3_ k_) ∨ w.heap.size ≤ k_) ∧ some k_ ≠ (v291 : Value).ownBlock ∧ k_ ≠ gb272 ∧ k_ ≠ gb273 ∧ k_ ≠ gb274 ∧ k_ ≠ gb275 ∧ k_ ≠ gb278 ∧ k_ ≠ gb298) (.slice A3 l3.length c3) l3) := ⟨h4_⟩
                replace BK272 : Aside0 (w55.heap[gb272]? = some (.cells #[.slice A0_0 l0_0.length c0_0, .int .i64 a0_1, .int .i64 a0_2] 26 (0, 0))) := ⟨h5_⟩
                replace BK273 : Aside0 (w55.heap[gb273]? = some (.cells #[.int .i64 a1] 2 (0, 0))) := ⟨h6_⟩
                replace BK274 : Aside0 (w55.heap[gb274]? = some (.cells #[.int .i64 a2] 2 (0, 0))) := ⟨h7_⟩
                replace BK275 : Aside0 (w55.heap[gb275]? = some (.cells #[.slice none 0 0, .int .i64 0, .int .i64 0, .slice none 0 0, .int .i64 0] 28 (0, 0))) := ⟨h8_⟩
                replace BK278 : Aside0 (w55.heap[gb278]? = some (.cells #[.int .i64 (wrap64 (t277 - (wrap64 (a2 - a1))))] 2 (0, 0))) := ⟨h9_⟩
                have BK298 : Aside0 (w55.heap[gb298]? = some (.cells #[.slice none 0 0, .int .i64 0, .int .i64 0] 26 (0, 0))) := ⟨h10_⟩
                have GW298 : Aside0 (w.heap.size ≤ gb298) := ⟨h11_⟩
                have GE298 : Aside0 (w.heap.size ≤ gb298) := ⟨h12_⟩
                have NB272_298 : Aside0 (gb272 ≠ gb298) := ⟨h13_⟩
                have NB298_272 : Aside0 (gb298 ≠ gb272) := ⟨h14_⟩
                have NB273_298 : Aside0 (gb273 ≠ gb298) := ⟨h15_⟩
                have NB298_273 : Aside0 (gb298 ≠ gb273) := ⟨h16_⟩
                have NB274_298 : Aside0 (gb274 ≠ gb298) := ⟨h17_⟩
                have NB298_274 : Aside0 (gb298 ≠ gb274) := ⟨h18_⟩
                have NB275_298 : Aside0 (gb275 ≠ gb298) := ⟨h19_⟩
                have NB298_275 : Aside0 (gb298 ≠ gb275) := ⟨h20_⟩
                have NB278_298 : Aside0 (gb278 ≠ gb298) := ⟨h21_⟩
                have NB298_278 : Aside0 (gb298 ≠ gb278) := ⟨h22_⟩
                replace HB : Aside0 (Below w.heap.size w w55) := ⟨h23_⟩
                clear h0_ h1_ h2_ h3_ h4_ h5_ h6_ h7_ h8_ h9_ h10_ h11_ h12_ h13_ h14_ h15_ h16_ h17_ h18_ h19_ h20_ h21_ h22_ h23_
                have hHeld : w55.cell? ⟨gb272, 0, none⟩ = some (.slice A0_0 l0_0.length c0_0) ∧ w55.cell? ⟨gb272, 1, none⟩ = some (.int .i64 a0_1) ∧ w55.cell? ⟨gb272, 2, none⟩ = some (.int .i64 a0_2) ∧ w55.cell? ⟨gb273, 0, none⟩ = some (.int .i64 a1) ∧ w55.cell? ⟨gb274, 0, none⟩ = some (.int .i64 a2) := hS_
                obtain ⟨Ao56, co56, eo56⟩ := Kd.N_slice HO292.out
                (first | subst eo56 | (injection eo56 with f1_ f2_ f3_; have f4_ := f1_.symm; have f5_ := f3_.symm; clear f1_ f2_ f3_; subst f4_; subst f5_))
                refine norm_ (a' := ?_) ?_ ?_
                rotate_left
                ·simp only [putAll, Act.put, sa_, s0_, ss_]
                 rfl
                refine one_ (i := 10) (N := some 51) b47_37 rfl rfl (one_of HT_.out (by kernel_rfl)) (by decide) (fun K hK => ?_)
                refine gs_ Try.func71 #[.slice Ao56 y290.length co56] ?_
                with_reducible refine (slices_Concat_sint64_int64.calls kj4 _ _ y290 t293 _ ?side1 ?side2 A39.out).mono ?_
                (case side1 => repeat (first | exact (Kd.N_reads' HO292.out).2.2 | (with_reducible refine Kd.C_alloc ?_ _) | (with_reducible refine Kd.C_drewN ?_ _) | (with_reducible refine Kd.C_drew ?_)))
                (case side2 => exact (Kd.N_reads' HO292.out).2.1)
                rintro e w57 ⟨v294, rfl, ho0, hb⟩
                refine ⟨_, rfl, ?_⟩
                replace HO_3 := am (Kd.V_elder' (kv HO_3.out) (Kd.R_base ho0) hb)
                replace HO_273000 := am (Kd.V_elder' (kv HO_273000.out) (Kd.R_base ho0) hb)
                replace HO284 := am (Kd.V_elder' (kv HO284.out) (Kd.R_base ho0) hb)
                replace HO289 := am (Kd.V_elder' (kv HO289.out) (Kd.R_base ho0) hb)
                replace HO292 := am (Kd.N_elder' (kn HO292.out) (Kd.R_base ho0) hb)
                have HO295 := am (Kd.R_lower (Kd.R_newB (Kd.R_newB (Kd.R_newB (Kd.R_newM (M := fun k_ => (w.heap.size ≤ k_)) ho0 (below_size (bl HB.out)) (fun k_ h_ => h_)) (g := gb273) (o := .cells #[.int .i64 a1] 2 (0, 0)) (pk BK273.out)) (g := gb274) (o := .cells #[.int .i64 a2] 2 (0, 0)) (pk BK274.out)) (g := gb278) (o := .cells #[.int .i64 (wrap64 (t277 - (wrap64 (a2 - a1))))] 2 (0, 0)) (pk BK278.out)) (below_size (bl HB.out)))
                replace BK272 := am (blk_below (pk BK272.out) hb)
                replace BK273 := am (blk_below (pk BK273.out) hb)
                replace BK274 := am (blk_below (pk BK274.out) hb)
                replace BK275 := am (blk_below (pk BK275.out) hb)
                replace BK278 := am (blk_below (pk BK278.out) hb)
                replace BK298 := am (blk_below (pk BK298.out) hb)
                replace HB := am (below_step (bl HB.out) hb)
                (try clear hb)
                (try clear hb2)
                (try clear hk)
                (try clear hi)
                (try clear ho0)
                refine hK.out _ _ ⟨bc BK272.out 0, bc BK272.out 1, bc BK272.out 2, bc BK273.out 0, bc BK274.out 0⟩ (fun hHeld => ?_)
                clear hK K
                refine norm_ (a' := ?_) ?_ ?_
                rotate_left
                ·show Act.put _ (some 51) _ = _
                 simp only [Act.put, sa_, s0_, ss_, i64_w, i32_w]
                 rfl
                exact norm_ (by first | (simp only [putAll, Act.put, sa_, s0_, ss_]; done) | (simp only [putAll, Act.put, sa_, s0_, ss_]; rfl)) (hJ9_10_20 (.slice Ao56 y290.length co56, v294, gb298) _ ⟨hHeld, (kv (Kd.V_mono HO284.out (fun _ hk => ⟨hk.1.1, ⟨hk.1.2.1, ⟨hk.2, ⟨hk.1.2.2.1, ⟨hk.1.2.2.2.1, ⟨hk.1.2.2.2.2.1, ⟨hk.1.2.2.2.2.2.1, ⟨hk.1.2.2.2.2.2.2.1, hk.1.2.2.2.2.2.2.2⟩⟩⟩⟩⟩⟩⟩⟩))), (kv (Kd.V_mono HO289.out (fun _ hk => ⟨hk.1.1, ⟨hk.1.2.1, ⟨hk.2, ⟨hk.1.2.2.1, ⟨hk.1.2.2.2.1, ⟨hk.1.2.2.2.2.1, ⟨hk.1.2.2.2.2.2.1, ⟨hk.1.2.2.2.2.2.2.1, hk.1.2.2.2.2.2.2.2⟩⟩⟩⟩⟩⟩⟩⟩))), (kn (Kd.N_mono HO292.out (fun _ hk => ⟨hk.1.1, ⟨hk.2, ⟨hk.1.2.1, ⟨hk.1.2.2.1, ⟨hk.1.2.2.2.1, ⟨hk.1.2.2.2.2.1, ⟨hk.1.2.2.2.2.2.1, hk.1.2.2.2.2.2.2⟩⟩⟩⟩⟩⟩⟩))), (kr (Kd.R_mono HO295.out (fun _ hk => ⟨hk.1.1.1.1, ⟨hk.1.1.2, ⟨hk.1.2, hk.2⟩⟩⟩))), (kv (Kd.V_mono HO_273000.out (fun _ hk => ⟨hk.1.1, ⟨hk.1.2.1, ⟨hk.2, ⟨hk.1.2.2.1, ⟨hk.1.2.2.2.1, ⟨hk.1.2.2.2.2.1, ⟨hk.1.2.2.2.2.2.1, ⟨hk.1.2.2.2.2.2.2.1, hk.1.2.2.2.2.2.2.2⟩⟩⟩⟩⟩⟩⟩⟩))), (kv (Kd.V_mono HO_3.out (fun _ hk => ⟨hk.1.1, ⟨hk.1.2.1, ⟨hk.2, ⟨hk.1.2.2.1, ⟨hk.1.2.2.2.1, ⟨hk.1.2.2.2.2.1, ⟨hk.1.2.2.2.2.2.1, ⟨hk.1.2.2.2.2.2.2.1, hk.1.2.2.2.2.2.2.2⟩⟩⟩⟩⟩⟩⟩⟩))), (pk BK272.out), (pk BK273.out), (pk BK274.out), (pk BK275.out), (pk BK278.out), (pk BK298.out), GW298.out, GE298.out, NB272_298.out, NB298_272.out, NB273_298.out, NB298_273.out, NB274_298.out, NB298_274.out, NB275_298.out, NB298_275.out, NB278_298.out, NB298_278.out, (bl HB.out)⟩)
              ·skip
               rintro ⟨v291, v294⟩ w56 ⟨hS_, h0_, h1_, h2_, h3_, h4_, h5_, h6_, h7_, h8_, h9_, h10_, h11_⟩
               have HO284 : Aside0 (Kd.V (Kd.int .i64) 2 w56 w.heap.size (fun k_ => ((P0_0_ k_ ∨ P3_ k_) ∨ w.heap.size ≤ k_) ∧ some k_ ≠ (v291 : Value).ownBlock ∧ some k_ ≠ (v294 : Value).ownBlock ∧ k_ ≠ gb272 ∧ k_ ≠ gb273 ∧ k_ ≠ gb274 ∧ k_ ≠ gb275 ∧ k_ ≠ gb278) (.slice A0_0 y280.length c0_0) y280) := ⟨h0_⟩
               have HO289 : Aside0 (Kd.V (Kd.int .i64) 2 w56 w.heap.size (fun k_ => ((P0_0_ k_ ∨ P3_ k_) ∨ w.heap.size ≤ k_) ∧ some k_ ≠ (v291 : Value).ownBlock ∧ some k_ ≠ (v294 : Value).ownBlock ∧ k_ ≠ gb272 ∧ k_ ≠ gb273 ∧ k_ ≠ gb274 ∧ k_ ≠ gb275 ∧ k_ ≠ gb278) (.slice A51 y285.length c51) y285) := ⟨h1_⟩
               have HO292 : Aside0 (Kd.N (Kd.slice 2 (Kd.int .i64)) 22 w56 w.heap.size (fun k_ => ((P0_0_ k_ ∨ P3_ k_) ∨ w.heap.size ≤ k_) ∧ some k_ ≠ (v294 : Value).ownBlock ∧ k_ ≠ gb272 ∧ k_ ≠ gb273 ∧ k_ ≠ gb274 ∧ k_ ≠ gb275 ∧ k_ ≠ gb278) v291 y290) := ⟨h2_⟩
               have HO295 : Aside0 (Kd.R (Kd.int .i64) 2 w56 w.heap.size (fun k_ => (w.heap.size ≤ k_) ∧ k_ ≠ gb273 ∧ k_ ≠ gb274 ∧ k_ ≠ gb278) v294 t293) := ⟨h3_⟩
               replace HO_273000 : Aside0 (Kd.V (Kd.int .i64) 2 w56 w.heap.size (fun k_ => ((P0_0_ k_ ∨ P3_ k_) ∨ w.heap.size ≤ k_) ∧ some k_ ≠ (v291 : Value).ownBlock ∧ some k_ ≠ (v294 : Value).ownBlock ∧ k_ ≠ gb272 ∧ k_ ≠ gb273 ∧ k_ ≠ gb274 ∧ k_ ≠ gb275 ∧ k_ ≠ gb278) (.slice A0_0 l0_0.length c0_0) l0_0) := ⟨h4_⟩
               replace HO_3 : Aside0 (Kd.V (Kd.int .i64) 2 w56 w.heap.size (fun k_ => ((P0_0_ k_ ∨ P3_ k_) ∨ w.heap.size ≤ k_) ∧ some k_ ≠ (v291 : Value).ownBlock ∧ some k_ ≠ (v294 : Value).ownBlock ∧ k_ ≠ gb272 ∧ k_ ≠ gb273 ∧ k_ ≠ gb274 ∧ k_ ≠ gb275 ∧ k_ ≠ gb278) (.slice A3 l3.length c3) l3) := ⟨h5_⟩
               replace BK272 : Aside0 (w56.heap[gb272]? = some (.cells #[.slice A0_0 l0_0.length c0_0, .int .i64 a0_1, .int .i64 a0_2] 26 (0, 0))) := ⟨h6_⟩
               replace BK273 : Aside0 (w56.heap[gb273]? = some (.cells #[.int .i64 a1] 2 (0, 0))) := ⟨h7_⟩
               replace BK274 : Aside0 (w56.heap[gb274]? = some (.cells #[.int .i64 a2] 2 (0, 0))) := ⟨h8_⟩
               replace BK275 : Aside0 (w56.heap[gb275]? = some (.cells #[.slice none 0 0, .int .i64 0, .int .i64 0, .slice none 0 0, .int .i64 0] 28 (0, 0))) := ⟨h9_⟩
               replace BK278 : Aside0 (w56.heap[gb278]? = some (.cells #[.int .i64 (wrap64 (t277 - (wrap64 (a2 - a1))))] 2 (0, 0))) := ⟨h10_⟩
               replace HB : Aside0 (Below w.heap.size w w56) := ⟨h11_⟩
               clear h0_ h1_ h2_ h3_ h4_ h5_ h6_ h7_ h8_ h9_ h10_ h11_
               have hHeld : w56.cell? ⟨gb272, 0, none⟩ = some (.slice A0_0 l0_0.length c0_0) ∧ w56.cell? ⟨gb272, 1, none⟩ = some (.int .i64 a0_1) ∧ w56.cell? ⟨gb272, 2, none⟩ = some (.int .i64 a0_2) ∧ w56.cell? ⟨gb273, 0, none⟩ = some (.int .i64 a1) ∧ w56.cell? ⟨gb274, 0, none⟩ = some (.int .i64 a2) := hS_
               refine norm_ (a' := ?_) ?_ ?_
               rotate_left
               ·simp only [putAll, Act.put, sa_, s0_, ss_]
                rfl
               refine two_ (i := 14) (j := 20) (Ni := some 55) (Nj := some 11) b47_36 b47_37 rfl rfl rfl rfl (two_of HT_.out (by kernel_rfl)) (by decide) (by decide) (fun K hK => ?_) (fun K hK => ?_)
               ·skip
                refine goesC_ Try.func70 (by kernel_rfl) rfl #[.int .i64 a0_1, .pointer (some ⟨gb273, 0, none⟩), .pointer (some ⟨gb274, 0, none⟩), .pointer (some ⟨gb278, 0, none⟩)] (by rfl) rfl rfl rfl (by simp; rfl) ?_
                with_reducible refine (impl_replace_1.calls a0_1 _ a1 _ a2 _ (wrap64 (t277 - (wrap64 (a2 - a1)))) t296 _ ?side1 ?side2 ?side3 A40.out).mono ?_
                (case side1 => exact AtP.of_blk (cs := #[.int .i64 a1]) (t := 2) (pk BK273.out))
                (case side2 => exact AtP.of_blk (cs := #[.int .i64 a2]) (t := 2) (pk BK274.out))
                (case side3 => exact AtP.of_blk (cs := #[.int .i64 (wrap64 (t277 - (wrap64 (a2 - a1))))]) (t := 2) (pk BK278.out))
                rintro e w' ⟨rfl, ⟨nd, rfl⟩⟩
                refine ⟨_, rfl, ?_⟩
                refine hK.out _ _ ⟨bc BK272.out 0, bc BK272.out 1, bc BK272.out 2, bc BK273.out 0, bc BK274.out 0⟩ (fun hHeld => ?_)
                clear hK K
                refine norm_ (a' := ?_) ?_ ?_
                rotate_left
                ·show Act.put _ (some 55) _ = _
                 simp only [Act.put, sa_, s0_, ss_, i64_w, i32_w]
                 rfl
                exact norm_ (by first | (simp only [putAll, Act.put, sa_, s0_, ss_]; done) | (simp only [putAll, Act.put, sa_, s0_, ss_]; rfl)) (hJ9_10_14 (v291, v294) _ ⟨hHeld, (kv HO284.out), (kv HO289.out), (kn HO292.out), (kr HO295.out), (kv HO_273000.out), (kv HO_3.out), (pk BK272.out), (pk BK273.out), (pk BK274.out), (pk BK275.out), (pk BK278.out), (bl HB.out)⟩)
               ·skip
                refine box_step ?hg (N := 11) ?hd (cs := #[.slice none 0 0, .int .i64 0, .int .i64 0]) (t := 26) ?hr ?_; (case hd => rfl); (case hg => rfl); (case hr => first | (go_simp; done) | (go_simp; rfl))
                intro gb298 hg w57 hbox hb
                replace HO_3 := am (Kd.V_below (Kd.V_elderB (kv HO_3.out) gb298 (Nat.le_of_eq hg.symm)) hb)
                replace HO_273000 := am (Kd.V_below (Kd.V_elderB (kv HO_273000.out) gb298 (Nat.le_of_eq hg.symm)) hb)
                replace HO284 := am (Kd.V_below (Kd.V_elderB (kv HO284.out) gb298 (Nat.le_of_eq hg.symm)) hb)
                replace HO289 := am (Kd.V_below (Kd.V_elderB (kv HO289.out) gb298 (Nat.le_of_eq hg.symm)) hb)
                replace HO292 := am (Kd.N_below (Kd.N_elderB (kn HO292.out) gb298 (Nat.le_of_eq hg.symm)) hb)
                replace HO295 := am (Kd.R_below (kr HO295.out) hb)
                have BK298 := am (hbox)
                have GW298 := am ((by rw [hg]; exact (below_size (bl HB.out)) : w.heap.size ≤ gb298))
                have GE298 := GW298
                replace HB := am (below_step (bl HB.out) hb)
                have NB272_298 := am ((by rw [hg]; exact Nat.ne_of_lt (blk_lt (pk BK272.out)) : gb272 ≠ gb298))
                have NB298_272 := am ((by rw [hg]; exact Nat.ne_of_gt (blk_lt (pk BK272.out)) : gb298 ≠ gb272))
                replace BK272 := am (blk_below (pk BK272.out) hb)
                have NB273_298 := am ((by rw [hg]; exact Nat.ne_of_lt (blk_lt (pk BK273.out)) : gb273 ≠ gb298))
                have NB298_273 := am ((by rw [hg]; exact Nat.ne_of_gt (blk_lt (pk BK273.out)) : gb298 ≠ gb273))
                replace BK273 := am (blk_below (pk BK273.out) hb)
                have NB274_298 := am ((by rw [hg]; exact Nat.ne_of_lt (blk_lt (pk BK274.out)) : gb274 ≠ gb298))
                have NB298_274 := am ((by rw [hg]; exact Nat.ne_of_gt (blk_lt (pk BK274.out)) : gb298 ≠ gb274))
                replace BK274 := am (blk_below (pk BK274.out) hb)
                have NB275_298 := am ((by rw [hg]; exact Nat.ne_of_lt (blk_lt (pk BK275.out)) : gb275 ≠ gb298))
                have NB298_275 := am ((by rw [hg]; exact Nat.ne_of_gt (blk_lt (pk BK275.out)) : gb298 ≠ gb275))
                replace BK275 := am (blk_below (pk BK275.out) hb)
                have NB278_298 := am ((by rw [hg]; exact Nat.ne_of_lt (blk_lt (pk BK278.out)) : gb278 ≠ gb298))
                have NB298_278 := am ((by rw [hg]; exact Nat.ne_of_gt (blk_lt (pk BK278.out)) : gb298 ≠ gb278))
                replace BK278 := am (blk_below (pk BK278.out) hb)
                clear hb hbox hg
                refine hK.out _ _ ⟨bc BK272.out 0, bc BK272.out 1, bc BK272.out 2, bc BK273.out 0, bc BK274.out 0⟩ (fun hHeld => ?_)
                clear hK K
                refine norm_ (a' := ?_) ?_ ?_
                rotate_left
                ·show Act.put _ (some 11) _ = _
                 simp only [Act.put, sa_, s0_, ss_, i64_w, i32_w]
                 rfl
                exact norm_ (by first | (simp only [putAll, Act.put, sa_, s0_, ss_]; done) | (simp only [putAll, Act.put, sa_, s0_, ss_]; rfl)) (hJ9_10_20 (v291, v294, gb298) _ ⟨hHeld, (kv (Kd.V_mono HO284.out (fun _ hk => ⟨hk.1.1, ⟨hk.1.2.1, ⟨hk.1.2.2.1, ⟨hk.1.2.2.2.1, ⟨hk.1.2.2.2.2.1, ⟨hk.1.2.2.2.2.2.1, ⟨hk.1.2.2.2.2.2.2.1, ⟨hk.1.2.2.2.2.2.2.2, hk.2⟩⟩⟩⟩⟩⟩⟩⟩))), (kv (Kd.V_mono HO289.out (fun _ hk => ⟨hk.1.1, ⟨hk.1.2.1, ⟨hk.1.2.2.1, ⟨hk.1.2.2.2.1, ⟨hk.1.2.2.2.2.1, ⟨hk.1.2.2.2.2.2.1, ⟨hk.1.2.2.2.2.2.2.1, ⟨hk.1.2.2.2.2.2.2.2, hk.2⟩⟩⟩⟩⟩⟩⟩⟩))), (kn (Kd.N_mono HO292.out (fun _ hk => ⟨hk.1.1, ⟨hk.1.2.1, ⟨hk.1.2.2.1, ⟨hk.1.2.2.2.1, ⟨hk.1.2.2.2.2.1, ⟨hk.1.2.2.2.2.2.1, ⟨hk.1.2.2.2.2.2.2, hk.2⟩⟩⟩⟩⟩⟩⟩))), (kr HO295.out), (kv (Kd.V_mono HO_273000.out (fun _ hk => ⟨hk.1.1, ⟨hk.1.2.1, ⟨hk.1.2.2.1, ⟨hk.1.2.2.2.1, ⟨hk.1.2.2.2.2.1, ⟨hk.1.2.2.2.2.2.1, ⟨hk.1.2.2.2.2.2.2.1, ⟨hk.1.2.2.2.2.2.2.2, hk.2⟩⟩⟩⟩⟩⟩⟩⟩))), (kv (Kd.V_mono HO_3.out (fun _ hk => ⟨hk.1.1, ⟨hk.1.2.1, ⟨hk.1.2.2.1, ⟨hk.1.2.2.2.1, ⟨hk.1.2.2.2.2.1, ⟨hk.1.2.2.2.2.2.1, ⟨hk.1.2.2.2.2.2.2.1, ⟨hk.1.2.2.2.2.2.2.2, hk.2⟩⟩⟩⟩⟩⟩⟩⟩))), (pk BK272.out), (pk BK273.out), (pk BK274.out), (pk BK275.out), (pk BK278.out), (pk BK298.out), GW298.out, GE298.out, NB272_298.out, NB298_272.out, NB273_298.out, NB298_273.out, NB274_298.out, NB298_274.out, NB275_298.out, NB298_275.out, NB278_298.out, NB298_278.out, (bl HB.out)⟩)
             ·skip
              rintro ⟨v291, v294, gb298⟩ w57 ⟨hS_, h0_, h1_, h2_, h3_, h4_, h5_, h6_, h7_, h8_, h9_, h10_, h11_, h12_, h13_, h14_, h15_, h16_, h17_, h18_, h19_, h20_, h21_, h22_, h23_, h24_⟩
              have HO284 : Aside0 (Kd.V (Kd.int .i64) 2 w57 w.heap.size (fun k_ => ((P0_0_ k_ ∨ P3_ k_) ∨ w.heap.size ≤ k_) ∧ some k_ ≠ (v291 : Value).ownBlock ∧ some k_ ≠ (v294 : Value).ownBlock ∧ k_ ≠ gb272 ∧ k_ ≠ gb273 ∧ k_ ≠ gb274 ∧ k_ ≠ gb275 ∧ k_ ≠ gb278 ∧ k_ ≠ gb298) (.slice A0_0 y280.length c0_0) y280) := ⟨h0_⟩
              have HO289 : Aside0 (Kd.V (Kd.int .i64) 2 w57 w.heap.size (fun k_ => ((P0_0_ k_ ∨ P3_ k_) ∨ w.heap.size ≤ k_) ∧ some k_ ≠ (v291 : Value).ownBlock ∧ some k_ ≠ (v294 : Value).ownBlock ∧ k_ ≠ gb272 ∧ k_ ≠ gb273 ∧ k_ ≠ gb274 ∧ k_ ≠ gb275 ∧ k_ ≠ gb278 ∧ k_ ≠ gb298) (.slice A51 y285.length c51) y285) := ⟨h1_⟩
              have HO292 : Aside0 (Kd.N (Kd.slice 2 (Kd.int .i64)) 22 w57 w.heap.size (fun k_ => ((P0_0_ k_ ∨ P3_ k_) ∨ w.heap.size ≤ k_) ∧ some k_ ≠ (v294 : Value).ownBlock ∧ k_ ≠ gb272 ∧ k_ ≠ gb273 ∧ k_ ≠ gb274 ∧ k_ ≠ gb275 ∧ k_ ≠ gb278 ∧ k_ ≠ gb298) v291 y290) := ⟨h2_⟩
              have HO295 : Aside0 (Kd.R (Kd.int .i64) 2 w57 w.heap.size (fun k_ => (w.heap.size ≤ k_) ∧ k_ ≠ gb273 ∧ k_ ≠ gb274 ∧ k_ ≠ gb278) v294 t293) := ⟨h3_⟩
              replace HO_273000 : Aside0 (Kd.V (Kd.int .i64) 2 w57 w.heap.size (fun k_ => ((P0_0_ k_ ∨ P3_ k_) ∨ w.heap.size ≤ k_) ∧ some k_ ≠ (v291 : Value).ownBlock ∧ some k_ ≠ (v294 : Value).ownBlock ∧ k_ ≠ gb272 ∧ k_ ≠ gb273 ∧ k_ ≠ gb274 ∧ k_ ≠ gb275 ∧ k_ ≠ gb278 ∧ k_ ≠ gb298) (.slice A0_0 l0_0.length c0_0) l0_0) := ⟨h4_⟩
              replace HO_3 : Aside0 (Kd.V (Kd.int .i64) 2 w57 w.heap.size (fun k_ => ((P0_0_ k_ ∨ P3_ k_) ∨ w.heap.size ≤ k_) ∧ some k_ ≠ (v291 : Value).ownBlock ∧ some k_ ≠ (v294 : Value).ownBlock ∧ k_ ≠ gb272 ∧ k_ ≠ gb273 ∧ k_ ≠ gb274 ∧ k_ ≠ gb275 ∧ k_ ≠ gb278 ∧ k_ ≠ gb298) (.slice A3 l3.length c3) l3) := ⟨h5_⟩
              replace BK272 : Aside0 (w57.heap[gb272]? = some (.cells #[.slice A0_0 l0_0.length c0_0, .int .i64 a0_1, .int .i64 a0_2] 26 (0, 0))) := ⟨h6_⟩
              replace BK273 : Aside0 (w57.heap[gb273]? = some (.cells #[.int .i64 a1] 2 (0, 0))) := ⟨h7_⟩
              replace BK274 : Aside0 (w57.heap[gb274]? = some (.cells #[.int .i64 a2] 2 (0, 0))) := ⟨h8_⟩
              replace BK275 : Aside0 (w57.heap[gb275]? = some (.cells #[.slice none 0 0, .int .i64 0, .int .i64 0, .slice none 0 0, .int .i64 0] 28 (0, 0))) := ⟨h9_⟩
              replace BK278 : Aside0 (w57.heap[gb278]? = some (.cells #[.int .i64 (wrap64 (t277 - (wrap64 (a2 - a1))))] 2 (0, 0))) := ⟨h10_⟩
              have BK298 : Aside0 (w57.heap[gb298]? = some (.cells #[.slice none 0 0, .int .i64 0, .int .i64 0] 26 (0, 0))) := ⟨h11_⟩
              have GW298 : Aside0 (w.heap.size ≤ gb298) := ⟨h12_⟩
              have GE298 : Aside0 (w.heap.size ≤ gb298) := ⟨h13_⟩
              have NB272_298 : Aside0 (gb272 ≠ gb298) := ⟨h14_⟩
              have NB298_272 : Aside0 (gb298 ≠ gb272) := ⟨h15_⟩
              have NB273_298 : Aside0 (gb273 ≠ gb298) := ⟨h16_⟩
              have NB298_273 : Aside0 (gb298 ≠ gb273) := ⟨h17_⟩
              have NB274_298 : Aside0 (gb274 ≠ gb298) := ⟨h18_⟩
              have NB298_274 : Aside0 (gb298 ≠ gb274) := ⟨h19_⟩
              have NB275_298 : Aside0 (gb275 ≠ gb298) := ⟨h20_⟩
              have NB298_275 : Aside0 (gb298 ≠ gb275) := ⟨h21_⟩
              have NB278_298 : Aside0 (gb278 ≠ gb298) := ⟨h22_⟩
              have NB298_278 : Aside0 (gb298 ≠ gb278) := ⟨h23_⟩
              replace HB : Aside0 (Below w.heap.size w w57) := ⟨h24_⟩
              clear h0_ h1_ h2_ h3_ h4_ h5_ h6_ h7_ h8_ h9_ h10_ h11_ h12_ h13_ h14_ h15_ h16_ h17_ h18_ h19_ h20_ h21_ h22_ h23_ h24_
              have hHeld : w57.cell? ⟨gb272, 0, none⟩ = some (.slice A0_0 l0_0.length c0_0) ∧ w57.cell? ⟨gb272, 1, none⟩ = some (.int .i64 a0_1) ∧ w57.cell? ⟨gb272, 2, none⟩ = some (.int .i64 a0_2) ∧ w57.cell? ⟨gb273, 0, none⟩ = some (.int .i64 a1) ∧ w57.cell? ⟨gb274, 0, none⟩ = some (.int .i64 a2) := hS_
              refine norm_ (a' := ?_) ?_ ?_
              rotate_left
              ·simp only [putAll, Act.put, sa_, s0_, ss_]
               rfl
              refine one_ (i := 14) (N := some 55) b47_35 rfl rfl (one_of HT_.out (by kernel_rfl)) (by decide) (fun K hK => ?_)
              refine goesC_ Try.func70 (by kernel_rfl) rfl #[.int .i64 a0_1, .pointer (some ⟨gb273, 0, none⟩), .pointer (some ⟨gb274, 0, none⟩), .pointer (some ⟨gb278, 0, none⟩)] (by rfl) rfl rfl rfl (by simp; rfl) ?_
              with_reducible refine (impl_replace_1.calls a0_1 _ a1 _ a2 _ (wrap64 (t277 - (wrap64 (a2 - a1)))) t296 _ ?side1 ?side2 ?side3 A40.out).mono ?_
              (case side1 => exact AtP.of_blk (cs := #[.int .i64 a1]) (t := 2) (pk BK273.out))
              (case side2 => exact AtP.of_blk (cs := #[.int .i64 a2]) (t := 2) (pk BK274.out))
              (case side3 => exact AtP.of_blk (cs := #[.int .i64 (wrap64 (t277 - (wrap64 (a2 - a1))))]) (t := 2) (pk BK278.out))
              rintro e w' ⟨rfl, ⟨nd, rfl⟩⟩
              refine ⟨_, rfl, ?_⟩
              refine hK.out _ _ ⟨bc BK272.out 0, bc BK272.out 1, bc BK272.out 2, bc BK273.out 0, bc BK274.out 0⟩ (fun hHeld => ?_)
              clear hK K
              refine norm_ (a' := ?_) ?_ ?_
              rotate_left
              ·show Act.put _ (some 55) _ = _
               simp only [Act.put, sa_, s0_, ss_, i64_w, i32_w]
               rfl
              exact norm_ (by first | (simp only [putAll, Act.put, sa_, s0_, ss_]; done) | (simp only [putAll, Act.put, sa_, s0_, ss_]; rfl)) (hJ9_10_14_20 (v291, v294, gb298) _ ⟨hHeld, (kv HO284.out), (kv HO289.out), (kn HO292.out), (kr HO295.out), (kv HO_273000.out), (kv HO_3.out), (pk BK272.out), (pk BK273.out), (pk BK274.out), (pk BK275.out), (pk BK278.out), (pk BK298.out), GW298.out, GE298.out, NB272_298.out, NB298_272.out, NB273_298.out, NB298_273.out, NB274_298.out, NB298_274.out, NB275_298.out, NB298_275.out, NB278_298.out, NB298_278.out, (bl HB.out)⟩)
            ·skip
             rintro ⟨v291, v294⟩ w56 ⟨hS_, h0_, h1_, h2_, h3_, h4_, h5_, h6_, h7_, h8_, h9_, h10_, h11_⟩
             have HO284 : Aside0 (Kd.V (Kd.int .i64) 2 w56 w.heap.size (fun k_ => ((P0_0_ k_ ∨ P3_ k_) ∨ w.heap.size ≤ k_) ∧ some k_ ≠ (v291 : Value).ownBlock ∧ some k_ ≠ (v294 : Value).ownBlock ∧ k_ ≠ gb272 ∧ k_ ≠ gb273 ∧ k_ ≠ gb274 ∧ k_ ≠ gb275 ∧ k_ ≠ gb278) (.slice A0_0 y280.length c0_0) y280) := ⟨h0_⟩
             have HO289 : Aside0 (Kd.V (Kd.int .i64) 2 w56 w.heap.size (fun k_ => ((P0_0_ k_ ∨ P3_ k_) ∨ w.heap.size ≤ k_) ∧ some k_ ≠ (v291 : Value).ownBlock ∧ some k_ ≠ (v294 : Value).ownBlock ∧ k_ ≠ gb272 ∧ k_ ≠ gb273 ∧ k_ ≠ gb274 ∧ k_ ≠ gb275 ∧ k_ ≠ gb278) (.slice A51 y285.length c51) y285) := ⟨h1_⟩
             have HO292 : Aside0 (Kd.N (Kd.slice 2 (Kd.int .i64)) 22 w56 w.heap.size (fun k_ => ((P0_0_ k_ ∨ P3_ k_) ∨ w.heap.size ≤ k_) ∧ some k_ ≠ (v294 : Value).ownBlock ∧ k_ ≠ gb272 ∧ k_ ≠ gb273 ∧ k_ ≠ gb274 ∧ k_ ≠ gb275 ∧ k_ ≠ gb278) v291 y290) := ⟨h2_⟩
             have HO295 : Aside0 (Kd.R (Kd.int .i64) 2 w56 w.heap.size (fun k_ => (w.heap.size ≤ k_) ∧ k_ ≠ gb273 ∧ k_ ≠ gb274 ∧ k_ ≠ gb278) v294 t293) := ⟨h3_⟩
             replace HO_273000 : Aside0 (Kd.V (Kd.int .i64) 2 w56 w.heap.size (fun k_ => ((P0_0_ k_ ∨ P3_ k_) ∨ w.heap.size ≤ k_) ∧ some k_ ≠ (v291 : Value).ownBlock ∧ some k_ ≠ (v294 : Value).ownBlock ∧ k_ ≠ gb272 ∧ k_ ≠ gb273 ∧ k_ ≠ gb274 ∧ k_ ≠ gb275 ∧ k_ ≠ gb278) (.slice A0_0 l0_0.length c0_0) l0_0) := ⟨h4_⟩
             replace HO_3 : Aside0 (Kd.V (Kd.int .i64) 2 w56 w.heap.size (fun k_ => ((P0_0_ k_ ∨ P3_ k_) ∨ w.heap.size ≤ k_) ∧ some k_ ≠ (v291 : Value).ownBlock ∧ some k_ ≠ (v294 : Value).ownBlock ∧ k_ ≠ gb272 ∧ k_ ≠ gb273 ∧ k_ ≠ gb274 ∧ k_ ≠ gb275 ∧ k_ ≠ gb278) (.slice A3 l3.length c3) l3) := ⟨h5_⟩
             replace BK272 : Aside0 (w56.heap[gb272]? = some (.cells #[.slice A0_0 l0_0.length c0_0, .int .i64 a0_1, .int .i64 a0_2] 26 (0, 0))) := ⟨h6_⟩
             replace BK273 : Aside0 (w56.heap[gb273]? = some (.cells #[.int .i64 a1] 2 (0, 0))) := ⟨h7_⟩
             replace BK274 : Aside0 (w56.heap[gb274]? = some (.cells #[.int .i64 a2] 2 (0, 0))) := ⟨h8_⟩
             replace BK275 : Aside0 (w56.heap[gb275]? = some (.cells #[.slice none 0 0, .int .i64 0, .int .i64 0, .slice none 0 0, .int .i64 0] 28 (0, 0))) := ⟨h9_⟩
             replace BK278 : Aside0 (w56.heap[gb278]? = some (.cells #[.int .i64 (wrap64 (t277 - (wrap64 (a2 - a1))))] 2 (0, 0))) := ⟨h10_⟩
             replace HB : Aside0 (Below w.heap.size w w56) := ⟨h11_⟩
             clear h0_ h1_ h2_ h3_ h4_ h5_ h6_ h7_ h8_ h9_ h10_ h11_
             have hHeld : w56.cell? ⟨gb272, 0, none⟩ = some (.slice A0_0 l0_0.length c0_0) ∧ w56.cell? ⟨gb272, 1, none⟩ = some (.int .i64 a0_1) ∧ w56.cell? ⟨gb272, 2, none⟩ = some (.int .i64 a0_2) ∧ w56.cell? ⟨gb273, 0, none⟩ = some (.int .i64 a1) ∧ w56.cell? ⟨gb274, 0, none⟩ = some (.int .i64 a2) := hS_
             refine norm_ (a' := ?_) ?_ ?_
             rotate_left
             ·simp only [putAll, Act.put, sa_, s0_, ss_]
              rfl
             refine two_ (i := 18) (j := 20) (Ni := some 59) (Nj := some 11) #[true, true, true, true, true, true, true, true, true, true, true, true, true, true, true, true, true, true, true, false, false, false] b47_35 rfl rfl rfl rfl (two_of HT_.out (by kernel_rfl)) (by decide) (by decide) (fun K hK => ?_) (fun K hK => ?_)
             ·skip
              refine goesC_ Try.func70 (by kernel_rfl) rfl #[.int .i64 a0_2, .pointer (some ⟨gb273, 0, none⟩), .pointer (some ⟨gb274, 0, none⟩), .pointer (some ⟨gb278, 0, none⟩)] (by rfl) rfl rfl rfl (by simp; rfl) ?_
              with_reducible refine (impl_replace_1.calls a0_2 _ a1 _ a2 _ (wrap64 (t277 - (wrap64 (a2 - a1)))) t297 _ ?side1 ?side2 ?side3 A41.out).mono ?_
              (case side1 => exact AtP.of_blk (cs := #[.int .i64 a1]) (t := 2) (pk BK273.out))
              (case side2 => exact AtP.of_blk (cs := #[.int .i64 a2]) (t := 2) (pk BK274.out))
              (case side3 => exact AtP.of_blk (cs := #[.int .i64 (wrap64 (t277 - (wrap64 (a2 - a1))))]) (t := 2) (pk BK278.out))
              rintro e w' ⟨rfl, ⟨nd, rfl⟩⟩
              refine ⟨_, rfl, ?_⟩
              obtain ⟨Ao57, co57, eo57⟩ := Kd.R_slice HO295.out
              (first | subst eo57 | (injection eo57 with f1_ f2_ f3_; have f4_ := f1_.symm; have f5_ := f3_.symm; clear f1_ f2_ f3_; subst f4_; subst f5_))
              refine hK.out _ _ ⟨bc BK272.out 0, bc BK272.out 1, bc BK272.out 2, bc BK273.out 0, bc BK274.out 0⟩ (fun hHeld => ?_)
              clear hK K
              refine norm_ (a' := ?_) ?_ ?_
              rotate_left
              ·show Act.put _ (some 59) _ = _
               simp only [Act.put, sa_, s0_, ss_, i64_w, i32_w]
               rfl
              refine pu_ 19 (some 60) ?_ b47_34 rfl rfl HT_.out (by kernel_rfl) (fun _ _ _ h => h) (Or.inl ⟨by rfl, ?_⟩) ?_ ?_ ?_; rotate_left
              ·intro w'; go_simp; with_reducible rfl
              rotate_left
              ·simp only [Act.put, sa_, s0_, ss_, i64_w, i32_w]; rfl
              exact norm_ (by first | (simp only [putAll, Act.put, sa_, s0_, ss_]; done) | (simp only [putAll, Act.put, sa_, s0_, ss_]; rfl)) (hJ9_10_14_18 (v291, .slice Ao57 t293.length co57) _ ⟨hHeld, (kv HO284.out), (kv HO289.out), (kn HO292.out), (kr HO295.out), (kv HO_273000.out), (kv HO_3.out), (pk BK272.out), (pk BK273.out), (pk BK274.out), (pk BK275.out), (pk BK278.out), (bl HB.out)⟩)
             ·skip
              refine box_step ?hg (N := 11) ?hd (cs := #[.slice none 0 0, .int .i64 0, .int .i64 0]) (t := 26) ?hr ?_; (case hd => rfl); (case hg => rfl); (case hr => first | (go_simp; done) | (go_simp; rfl))
              intro gb298 hg w57 hbox hb
              replace HO_3 := am (Kd.V_below (Kd.V_elderB (kv HO_3.out) gb298 (Nat.le_of_eq hg.symm)) hb)
              replace HO_273000 := am (Kd.V_below (Kd.V_elderB (kv HO_273000.out) gb298 (Nat.le_of_eq hg.symm)) hb)
              replace HO284 := am (Kd.V_below (Kd.V_elderB (kv HO284.out) gb298 (Nat.le_of_eq hg.symm)) hb)
              replace HO289 := am (Kd.V_below (Kd.V_elderB (kv HO289.out) gb298 (Nat.le_of_eq hg.symm)) hb)
              replace HO292 := am (Kd.N_below (Kd.N_elderB (kn HO292.out) gb298 (Nat.le_of_eq hg.symm)) hb)
              replace HO295 := am (Kd.R_below (kr HO295.out) hb)
              have BK298 := am (hbox)
              have GW298 := am ((by rw [hg]; exact (below_size (bl HB.out)) : w.heap.size ≤ gb298))
              have GE298 := GW298
              replace HB := am (below_step (bl HB.out) hb)
              have NB272_298 := am ((by rw [hg]; exact Nat.ne_of_lt (blk_lt (pk BK272.out)) : gb272 ≠ gb298))
              have NB298_272 := am ((by rw [hg]; exact Nat.ne_of_gt (blk_lt (pk BK272.out)) : gb298 ≠ gb272))
              replace BK272 := am (blk_below (pk BK272.out) hb)
              have NB273_298 := am ((by rw [hg]; exact Nat.ne_of_lt (blk_lt (pk BK273.out)) : gb273 ≠ gb298))
              have NB298_273 := am ((by rw [hg]; exact Nat.ne_of_gt (blk_lt (pk BK273.out)) : gb298 ≠ gb273))
              replace BK273 := am (blk_below (pk BK273.out) hb)
              have NB274_298 := am ((by rw [hg]; exact Nat.ne_of_lt (blk_lt (pk BK274.out)) : gb274 ≠ gb298))
              have NB298_274 := am ((by rw [hg]; exact Nat.ne_of_gt (blk_lt (pk BK274.out)) : gb298 ≠ gb274))
              replace BK274 := am (blk_below (pk BK274.out) hb)
              have NB275_298 := am ((by rw [hg]; exact Nat.ne_of_lt (blk_lt (pk BK275.out)) : gb275 ≠ gb298))
              have NB298_275 := am ((by rw [hg]; exact Nat.ne_of_gt (blk_lt (pk BK275.out)) : gb298 ≠ gb275))
              replace BK275 := am (blk_below (pk BK275.out) hb)
              have NB278_298 := am ((by rw [hg]; exact Nat.ne_of_lt (blk_lt (pk BK278.out)) : gb278 ≠ gb298))
              have NB298_278 := am ((by rw [hg]; exact Nat.ne_of_gt (blk_lt (pk BK278.out)) : gb298 ≠ gb278))
              replace BK278 := am (blk_below (pk BK278.out) hb)
              clear hb hbox hg
              refine hK.out _ _ ⟨bc BK272.out 0, bc BK272.out 1, bc BK272.out 2, bc BK273.out 0, bc BK274.out 0⟩ (fun hHeld => ?_)
              clear hK K
              refine norm_ (a' := ?_) ?_ ?_
              rotate_left
              ·show Act.put _ (some 11) _ = _
               simp only [Act.put, sa_, s0_, ss_, i64_w, i32_w]
               rfl
              exact norm_ (by first | (simp only [putAll, Act.put, sa_, s0_, ss_]; done) | (simp only [putAll, Act.put, sa_, s0_, ss_]; rfl)) (hJ9_10_14_20 (v291, v294, gb298) _ ⟨hHeld, (kv (Kd.V_mono HO284.out (fun _ hk => ⟨hk.1.1, ⟨hk.1.2.1, ⟨hk.1.2.2.1, ⟨hk.1.2.2.2.1, ⟨hk.1.2.2.2.2.1, ⟨hk.1.2.2.2.2.2.1, ⟨hk.1.2.2.2.2.2.2.1, ⟨hk.1.2.2.2.2.2.2.2, hk.2⟩⟩⟩⟩⟩⟩⟩⟩))), (kv (Kd.V_mono HO289.out (fun _ hk => ⟨hk.1.1, ⟨hk.1.2.1, ⟨hk.1.2.2.1, ⟨hk.1.2.2.2.1, ⟨hk.1.2.2.2.2.1, ⟨hk.1.2.2.2.2.2.1, ⟨hk.1.2.2.2.2.2.2.1, ⟨hk.1.2.2.2.2.2.2.2, hk.2⟩⟩⟩⟩⟩⟩⟩⟩))), (kn (Kd.N_mono HO292.out (fun _ hk => ⟨hk.1.1, ⟨hk.1.2.1, ⟨hk.1.2.2.1, ⟨hk.1.2.2.2.1, ⟨hk.1.2.2.2.2.1, ⟨hk.1.2.2.2.2.2.1, ⟨hk.1.2.2.2.2.2.2, hk.2⟩⟩⟩⟩⟩⟩⟩))), (kr HO295.out), (kv (Kd.V_mono HO_273000.out (fun _ hk => ⟨hk.1.1, ⟨hk.1.2.1, ⟨hk.1.2.2.1, ⟨hk.1.2.2.2.1, ⟨hk.1.2.2.2.2.1, ⟨hk.1.2.2.2.2.2.1, ⟨hk.1.2.2.2.2.2.2.1, ⟨hk.1.2.2.2.2.2.2.2, hk.2⟩⟩⟩⟩⟩⟩⟩⟩))), (kv (Kd.V_mono HO_3.out (fun _ hk => ⟨hk.1.1, ⟨hk.1.2.1, ⟨hk.1.2.2.1, ⟨hk.1.2.2.2.1, ⟨hk.1.2.2.2.2.1, ⟨hk.1.2.2.2.2.2.1, ⟨hk.1.2.2.2.2.2.2.1, ⟨hk.1.2.2.2.2.2.2.2, hk.2⟩⟩⟩⟩⟩⟩⟩⟩))), (pk BK272.out), (pk BK273.out), (pk BK274.out), (pk BK275.out), (pk BK278.out), (pk BK298.out), GW298.out, GE298.out, NB272_298.out, NB298_272.out, NB273_298.out, NB298_273.out, NB274_298.out, NB298_274.out, NB275_298.out, NB298_275.out, NB278_298.out, NB298_278.out, (bl HB.out)⟩)
           ·skip
            rintro ⟨v291, v294, gb298⟩ w57 ⟨hS_, h0_, h1_, h2_, h3_, h4_, h5_, h6_, h7_, h8_, h9_, h10_, h11_, h12_, h13_, h14_, h15_, h16_, h17_, h18_, h19_, h20_, h21_, h22_, h23_, h24_⟩
            have HO284 : Aside0 (Kd.V (Kd.int .i64) 2 w57 w.heap.size (fun k_ => ((P0_0_ k_ ∨ P3_ k_) ∨ w.heap.size ≤ k_) ∧ some k_ ≠ (v291 : Value).ownBlock ∧ some k_ ≠ (v294 : Value).ownBlock ∧ k_ ≠ gb272 ∧ k_ ≠ gb273 ∧ k_ ≠ gb274 ∧ k_ ≠ gb275 ∧ k_ ≠ gb278 ∧ k_ ≠ gb298) (.slice A0_0 y280.length c0_0) y280) := ⟨h0_⟩
            have HO289 : Aside0 (Kd.V (Kd.int .i64) 2 w57 w.heap.size (fun k_ => ((P0_0_ k_ ∨ P3_ k_) ∨ w.heap.size ≤ k_) ∧ some k_ ≠ (v291 : Value).ownBlock ∧ some k_ ≠ (v294 : Value).ownBlock ∧ k_ ≠ gb272 ∧ k_ ≠ gb273 ∧ k_ ≠ gb274 ∧ k_ ≠ gb275 ∧ k_ ≠ gb278 ∧ k_ ≠ gb298) (.slice A51 y285.length c51) y285) := ⟨h1_⟩
            have HO292 : Aside0 (Kd.N (Kd.slice 2 (Kd.int .i64)) 22 w57 w.heap.size (fun k_ => ((P0_0_ k_ ∨ P3_ k_) ∨ w.heap.size ≤ k_) ∧ some k_ ≠ (v294 : Value).ownBlock ∧ k_ ≠ gb272 ∧ k_ ≠ gb273 ∧ k_ ≠ gb274 ∧ k_ ≠ gb275 ∧ k_ ≠ gb278 ∧ k_ ≠ gb298) v291 y290) := ⟨h2_⟩
            have HO295 : Aside0 (Kd.R (Kd.int .i64) 2 w57 w.heap.size (fun k_ => (w.heap.size ≤ k_) ∧ k_ ≠ gb273 ∧ k_ ≠ gb274 ∧ k_ ≠ gb278) v294 t293) := ⟨h3_⟩
            replace HO_273000 : Aside0 (Kd.V (Kd.int .i64) 2 w57 w.heap.size (fun k_ => ((P0_0_ k_ ∨ P3_ k_) ∨ w.heap.size ≤ k_) ∧ some k_ ≠ (v291 : Value).ownBlock ∧ some k_ ≠ (v294 : Value).ownBlock ∧ k_ ≠ gb272 ∧ k_ ≠ gb273 ∧ k_ ≠ gb274 ∧ k_ ≠ gb275 ∧ k_ ≠ gb278 ∧ k_ ≠ gb298) (.slice A0_0 l0_0.length c0_0) l0_0) := ⟨h4_⟩
            replace HO_3 : Aside0 (Kd.V (Kd.int .i64) 2 w57 w.heap.size (fun k_ => ((P0_0_ k_ ∨ P3_ k_) ∨ w.heap.size ≤ k_) ∧ some k_ ≠ (v291 : Value).ownBlock ∧ some k_ ≠ (v294 : Value).ownBlock ∧ k_ ≠ gb272 ∧ k_ ≠ gb273 ∧ k_ ≠ gb274 ∧ k_ ≠ gb275 ∧ k_ ≠ gb278 ∧ k_ ≠ gb298) (.slice A3 l3.length c3) l3) := ⟨h5_⟩
            replace BK272 : Aside0 (w57.heap[gb272]? = some (.cells #[.slice A0_0 l0_0.length c0_0, .int .i64 a0_1, .int .i64 a0_2] 26 (0, 0))) := ⟨h6_⟩
            replace BK273 : Aside0 (w57.heap[gb273]? = some (.cells #[.int .i64 a1] 2 (0, 0))) := ⟨h7_⟩
            replace BK274 : Aside0 (w57.heap[gb274]? = some (.cells #[.int .i64 a2] 2 (0, 0))) := ⟨h8_⟩
            replace BK275 : Aside0 (w57.heap[gb275]? = some (.cells #[.slice none 0 0, .int .i64 0, .int .i64 0, .slice none 0 0, .int .i64 0] 28 (0, 0))) := ⟨h9_⟩
            replace BK278 : Aside0 (w57.heap[gb278]? = some (.cells #[.int .i64 (wrap64 (t277 - (wrap64 (a2 - a1))))] 2 (0, 0))) := ⟨h10_⟩
            have BK298 : Aside0 (w57.heap[gb298]? = some (.cells #[.slice none 0 0, .int .i64 0, .int .i64 0] 26 (0, 0))) := ⟨h11_⟩
            have GW298 : Aside0 (w.heap.size ≤ gb298) := ⟨h12_⟩
            have GE298 : Aside0 (w.heap.size ≤ gb298) := ⟨h13_⟩
            have NB272_298 : Aside0 (gb272 ≠ gb298) := ⟨h14_⟩
            have NB298_272 : Aside0 (gb298 ≠ gb272) := ⟨h15_⟩
            have NB273_298 : Aside0 (gb273 ≠ gb298) := ⟨h16_⟩
            have NB298_273 : Aside0 (gb298 ≠ gb273) := ⟨h17_⟩
            have NB274_298 : Aside0 (gb274 ≠ gb298) := ⟨h18_⟩
            have NB298_274 : Aside0 (gb298 ≠ gb274) := ⟨h19_⟩
            have NB275_298 : Aside0 (gb275 ≠ gb298) := ⟨h20_⟩
            have NB298_275 : Aside0 (gb298 ≠ gb275) := ⟨h21_⟩
            have NB278_298 : Aside0 (gb278 ≠ gb298) := ⟨h22_⟩
            have NB298_278 : Aside0 (gb298 ≠ gb278) := ⟨h23_⟩
            replace HB : Aside0 (Below w.heap.size w w57) := ⟨h24_⟩
            clear h0_ h1_ h2_ h3_ h4_ h5_ h6_ h7_ h8_ h9_ h10_ h11_ h12_ h13_ h14_ h15_ h16_ h17_ h18_ h19_ h20_ h21_ h22_ h23_ h24_
            have hHeld : w57.cell? ⟨gb272, 0, none⟩ = some (.slice A0_0 l0_0.length c0_0) ∧ w57.cell? ⟨gb272, 1, none⟩ = some (.int .i64 a0_1) ∧ w57.cell? ⟨gb272, 2, none⟩ = some (.int .i64 a0_2) ∧ w57.cell? ⟨gb273, 0, none⟩ = some (.int .i64 a1) ∧ w57.cell? ⟨gb274, 0, none⟩ = some (.int .i64 a2) := hS_
            refine norm_ (a' := ?_) ?_ ?_
            rotate_left
            ·simp only [putAll, Act.put, sa_, s0_, ss_]
             rfl
            refine one_ (i := 18) (N := some 59) #[true, true, true, true, true, true, true, true, true, true, true, true, true, true, true, true, true, true, true, false, true, false] rfl rfl (one_of HT_.out (by kernel_rfl)) (by decide) (fun K hK => ?_)
            refine goesC_ Try.func70 (by kernel_rfl) rfl #[.int .i64 a0_2, .pointer (some ⟨gb273, 0, none⟩), .pointer (some ⟨gb274, 0, none⟩), .pointer (some ⟨gb278, 0, none⟩)] (by rfl) rfl rfl rfl (by simp; rfl) ?_
            with_reducible refine (impl_replace_1.calls a0_2 _ a1 _ a2 _ (wrap64 (t277 - (wrap64 (a2 - a1)))) t297 _ ?side1 ?side2 ?side3 A41.out).mono ?_
            (case side1 => exact AtP.of_blk (cs := #[.int .i64 a1]) (t := 2) (pk BK273.out))
            (case side2 => exact AtP.of_blk (cs := #[.int .i64 a2]) (t := 2) (pk BK274.out))
            (case side3 => exact AtP.of_blk (cs := #[.int .i64 (wrap64 (t277 - (wrap64 (a2 - a1))))]) (t := 2) (pk BK278.out))
            rintro e w' ⟨rfl, ⟨nd, rfl⟩⟩
            refine ⟨_, rfl, ?_⟩
            obtain ⟨Ao58, co58, eo58⟩ := Kd.R_slice HO295.out
            (first | subst eo58 | (injection eo58 with f1_ f2_ f3_; have f4_ := f1_.symm; have f5_ := f3_.symm; clear f1_ f2_ f3_; subst f4_; subst f5_))
            refine hK.out _ _ ⟨bc BK272.out 0, bc BK272.out 1, bc BK272.out 2, bc BK273.out 0, bc BK274.out 0⟩ (fun hHeld => ?_)
            clear hK K
            refine norm_ (a' := ?_) ?_ ?_
            rotate_left
            ·show Act.put _ (some 59) _ = _
             simp only [Act.put, sa_, s0_, ss_, i64_w, i32_w]
             rfl
            refine pu_ 19 (some 60) ?_ b47_33 rfl rfl HT_.out (by kernel_rfl) (fun _ _ _ h => h) (Or.inl ⟨by rfl, ?_⟩) ?_ ?_ ?_; rotate_left
            ·intro w'; go_simp; with_reducible rfl
            rotate_left
            ·simp only [Act.put, sa_, s0_, ss_, i64_w, i32_w]; rfl
            exact norm_ (by first | (simp only [putAll, Act.put, sa_, s0_, ss_]; done) | (simp only [putAll, Act.put, sa_, s0_, ss_]; rfl)) (hJ9_10_14_18_20 (v291, .slice Ao58 t293.length co58, gb298) _ ⟨hHeld, (kv HO284.out), (kv HO289.out), (kn HO292.out), (kr HO295.out), (kv HO_273000.out), (kv HO_3.out), (pk BK272.out), (pk BK273.out), (pk BK274.out), (pk BK275.out), (pk BK278.out), (pk BK298.out), GW298.out, GE298.out, NB272_298.out, NB298_272.out, NB273_298.out, NB298_273.out, NB274_298.out, NB298_274.out, NB275_298.out, NB298_275.out, NB278_298.out, NB298_278.out, (bl HB.out)⟩)
          ·skip
           rintro ⟨v291, v294⟩ w57 ⟨hS_, h0_, h1_, h2_, h3_, h4_, h5_, h6_, h7_, h8_, h9_, h10_, h11_⟩
           have HO284 : Aside0 (Kd.V (Kd.int .i64) 2 w57 w.heap.size (fun k_ => ((P0_0_ k_ ∨ P3_ k_) ∨ w.heap.size ≤ k_) ∧ some k_ ≠ (v291 : Value).ownBlock ∧ some k_ ≠ (v294 : Value).ownBlock ∧ k_ ≠ gb272 ∧ k_ ≠ gb273 ∧ k_ ≠ gb274 ∧ k_ ≠ gb275 ∧ k_ ≠ gb278) (.slice A0_0 y280.length c0_0) y280) := ⟨h0_⟩
           have HO289 : Aside0 (Kd.V (Kd.int .i64) 2 w57 w.heap.size (fun k_ => ((P0_0_ k_ ∨ P3_ k_) ∨ w.heap.size ≤ k_) ∧ some k_ ≠ (v291 : Value).ownBlock ∧ some k_ ≠ (v294 : Value).ownBlock ∧ k_ ≠ gb272 ∧ k_ ≠ gb273 ∧ k_ ≠ gb274 ∧ k_ ≠ gb275 ∧ k_ ≠ gb278) (.slice A51 y285.length c51) y285) := ⟨h1_⟩
           have HO292 : Aside0 (Kd.N (Kd.slice 2 (Kd.int .i64)) 22 w57 w.heap.size (fun k_ => ((P0_0_ k_ ∨ P3_ k_) ∨ w.heap.size ≤ k_) ∧ some k_ ≠ (v294 : Value).ownBlock ∧ k_ ≠ gb272 ∧ k_ ≠ gb273 ∧ k_ ≠ gb274 ∧ k_ ≠ gb275 ∧ k_ ≠ gb278) v291 y290) := ⟨h2_⟩
           have HO295 : Aside0 (Kd.R (Kd.int .i64) 2 w57 w.heap.size (fun k_ => (w.heap.size ≤ k_) ∧ k_ ≠ gb273 ∧ k_ ≠ gb274 ∧ k_ ≠ gb278) v294 t293) := ⟨h3_⟩
           replace HO_273000 : Aside0 (Kd.V (Kd.int .i64) 2 w57 w.heap.size (fun k_ => ((P0_0_ k_ ∨ P3_ k_) ∨ w.heap.size ≤ k_) ∧ some k_ ≠ (v291 : Value).ownBlock ∧ some k_ ≠ (v294 : Value).ownBlock ∧ k_ ≠ gb272 ∧ k_ ≠ gb273 ∧ k_ ≠ gb274 ∧ k_ ≠ gb275 ∧ k_ ≠ gb278) (.slice A0_0 l0_0.length c0_0) l0_0) := ⟨h4_⟩
           replace HO_3 : Aside0 (Kd.V (Kd.int .i64) 2 w57 w.heap.size (fun k_ => ((P0_0_ k_ ∨ P3_ k_) ∨ w.heap.size ≤ k_) ∧ some k_ ≠ (v291 : Value).ownBlock ∧ some k_ ≠ (v294 : Value).ownBlock ∧ k_ ≠ gb272 ∧ k_ ≠ gb273 ∧ k_ ≠ gb274 ∧ k_ ≠ gb275 ∧ k_ ≠ gb278) (.slice A3 l3.length c3) l3) := ⟨h5_⟩
           replace BK272 : Aside0 (w57.heap[gb272]? = some (.cells #[.slice A0_0 l0_0.length c0_0, .int .i64 a0_1, .int .i64 a0_2] 26 (0, 0))) := ⟨h6_⟩
           replace BK273 : Aside0 (w57.heap[gb273]? = some (.cells #[.int .i64 a1] 2 (0, 0))) := ⟨h7_⟩
           replace BK274 : Aside0 (w57.heap[gb274]? = some (.cells #[.int .i64 a2] 2 (0, 0))) := ⟨h8_⟩
           replace BK275 : Aside0 (w57.heap[gb275]? = some (.cells #[.slice none 0 0, .int .i64 0, .int .i64 0, .slice none 0 0, .int .i64 0] 28 (0, 0))) := ⟨h9_⟩
           replace BK278 : Aside0 (w57.heap[gb278]? = some (.cells #[.int .i64 (wrap64 (t277 - (wrap64 (a2 - a1))))] 2 (0, 0))) := ⟨h10_⟩
           replace HB : Aside0 (Below w.heap.size w w57) := ⟨h11_⟩
           clear h0_ h1_ h2_ h3_ h4_ h5_ h6_ h7_ h8_ h9_ h10_ h11_
           have hHeld : w57.cell? ⟨gb272, 0, none⟩ = some (.slice A0_0 l0_0.length c0_0) ∧ w57.cell? ⟨gb272, 1, none⟩ = some (.int .i64 a0_1) ∧ w57.cell? ⟨gb272, 2, none⟩ = some (.int .i64 a0_2) ∧ w57.cell? ⟨gb273, 0, none⟩ = some (.int .i64 a1) ∧ w57.cell? ⟨gb274, 0, none⟩ = some (.int .i64 a2) := hS_
           obtain ⟨Ao58, co58, eo58⟩ := Kd.R_slice HO295.out
           (first | subst eo58 | (injection eo58 with f1_ f2_ f3_; have f4_ := f1_.symm; have f5_ := f3_.symm; clear f1_ f2_ f3_; subst f4_; subst f5_))
           refine norm_ (a' := ?_) ?_ ?_
           rotate_left
           ·simp only [putAll, Act.put, sa_, s0_, ss_]
            rfl
           refine one_ (i := 20) (N := some 11) b47_33 rfl rfl (one_of HT_.out (by kernel_rfl)) (by decide) (fun K hK => ?_)
           refine box_step ?hg (N := 11) ?hd (cs := #[.slice none 0 0, .int .i64 0, .int .i64 0]) (t := 26) ?hr ?_; (case hd => rfl); (case hg => rfl); (case hr => first | (go_simp; done) | (go_simp; rfl))
           intro gb298 hg w59 hbox hb
           replace HO_3 := am (Kd.V_below (Kd.V_elderB (kv HO_3.out) gb298 (Nat.le_of_eq hg.symm)) hb)
           replace HO_273000 := am (Kd.V_below (Kd.V_elderB (kv HO_273000.out) gb298 (Nat.le_of_eq hg.symm)) hb)
           replace HO284 := am (Kd.V_below (Kd.V_elderB (kv HO284.out) gb298 (Nat.le_of_eq hg.symm)) hb)
           replace HO289 := am (Kd.V_below (Kd.V_elderB (kv HO289.out) gb298 (Nat.le_of_eq hg.symm)) hb)
           replace HO292 := am (Kd.N_below (Kd.N_elderB (kn HO292.out) gb298 (Nat.le_of_eq hg.symm)) hb)
           replace HO295 := am (Kd.R_below (kr HO295.out) hb)
           have BK298 := am (hbox)
           have GW298 := am ((by rw [hg]; exact (below_size (bl HB.out)) : w.heap.size ≤ gb298))
           have GE298 := GW298
           replace HB := am (below_step (bl HB.out) hb)
           have NB272_298 := am ((by rw [hg]; exact Nat.ne_of_lt (blk_lt (pk BK272.out)) : gb272 ≠ gb298))
           have NB298_272 := am ((by rw [hg]; exact Nat.ne_of_gt (blk_lt (pk BK272.out)) : gb298 ≠ gb272))
           replace BK272 := am (blk_below (pk BK272.out) hb)
           have NB273_298 := am ((by rw [hg]; exact Nat.ne_of_lt (blk_lt (pk BK273.out)) : gb273 ≠ gb298))
           have NB298_273 := am ((by rw [hg]; exact Nat.ne_of_gt (blk_lt (pk BK273.out)) : gb298 ≠ gb273))
           replace BK273 := am (blk_below (pk BK273.out) hb)
           have NB274_298 := am ((by rw [hg]; exact Nat.ne_of_lt (blk_lt (pk BK274.out)) : gb274 ≠ gb298))
           have NB298_274 := am ((by rw [hg]; exact Nat.ne_of_gt (blk_lt (pk BK274.out)) : gb298 ≠ gb274))
           replace BK274 := am (blk_below (pk BK274.out) hb)
           have NB275_298 := am ((by rw [hg]; exact Nat.ne_of_lt (blk_lt (pk BK275.out)) : gb275 ≠ gb298))
           have NB298_275 := am ((by rw [hg]; exact Nat.ne_of_gt (blk_lt (pk BK275.out)) : gb298 ≠ gb275))
           replace BK275 := am (blk_below (pk BK275.out) hb)
           have NB278_298 := am ((by rw [hg]; exact Nat.ne_of_lt (blk_lt (pk BK278.out)) : gb278 ≠ gb298))
           have NB298_278 := am ((by rw [hg]; exact Nat.ne_of_gt (blk_lt (pk BK278.out)) : gb298 ≠ gb278))
           replace BK278 := am (blk_below (pk BK278.out) hb)
           clear hb hbox hg
           refine hK.out _ _ ⟨bc BK272.out 0, bc BK272.out 1, bc BK272.out 2, bc BK273.out 0, bc BK274.out 0⟩ (fun hHeld => ?_)
           clear hK K
           refine norm_ (a' := ?_) ?_ ?_
           rotate_left
           ·show Act.put _ (some 11) _ = _
            simp only [Act.put, sa_, s0_, ss_, i64_w, i32_w]
            rfl
           exact norm_ (by first | (simp only [putAll, Act.put, sa_, s0_, ss_]; done) | (simp only [putAll, Act.put, sa_, s0_, ss_]; rfl)) (hJ9_10_14_18_20 (v291, .slice Ao58 t293.length co58, gb298) _ ⟨hHeld, (kv (Kd.V_mono HO284.out (fun _ hk => ⟨hk.1.1, ⟨hk.1.2.1, ⟨hk.1.2.2.1, ⟨hk.1.2.2.2.1, ⟨hk.1.2.2.2.2.1, ⟨hk.1.2.2.2.2.2.1, ⟨hk.1.2.2.2.2.2.2.1, ⟨hk.1.2.2.2.2.2.2.2, hk.2⟩⟩⟩⟩⟩⟩⟩⟩))), (kv (Kd.V_mono HO289.out (fun _ hk => ⟨hk.1.1, ⟨hk.1.2.1, ⟨hk.1.2.2.1, ⟨hk.1.2.2.2.1, ⟨hk.1.2.2.2.2.1, ⟨hk.1.2.2.2.2.2.1, ⟨hk.1.2.2.2.2.2.2.1, ⟨hk.1.2.2.2.2.2.2.2, hk.2⟩⟩⟩⟩⟩⟩⟩⟩))), (kn (Kd.N_mono HO292.out (fun _ hk => ⟨hk.1.1, ⟨hk.1.2.1, ⟨hk.1.2.2.1, ⟨hk.1.2.2.2.1, ⟨hk.1.2.2.2.2.1, ⟨hk.1.2.2.2.2.2.1, ⟨hk.1.2.2.2.2.2.2, hk.2⟩⟩⟩⟩⟩⟩⟩))), (kr HO295.out), (kv (Kd.V_mono HO_273000.out (fun _ hk => ⟨hk.1.1, ⟨hk.1.2.1, ⟨hk.1.2.2.1, ⟨hk.1.2.2.2.1, ⟨hk.1.2.2.2.2.1, ⟨hk.1.2.2.2.2.2.1, ⟨hk.1.2.2.2.2.2.2.1, ⟨hk.1.2.2.2.2.2.2.2, hk.2⟩⟩⟩⟩⟩⟩⟩⟩))), (kv (Kd.V_mono HO_3.out (fun _ hk => ⟨hk.1.1, ⟨hk.1.2.1, ⟨hk.1.2.2.1, ⟨hk.1.2.2.2.1, ⟨hk.1.2.2.2.2.1, ⟨hk.1.2.2.2.2.2.1, ⟨hk.1.2.2.2.2.2.2.1, ⟨hk.1.2.2.2.2.2.2.2, hk.2⟩⟩⟩⟩⟩⟩⟩⟩))), (pk BK272.out), (pk BK273.out), (pk BK274.out), (pk BK275.out), (pk BK278.out), (pk BK298.out), GW298.out, GE298.out, NB272_298.out, NB298_272.out, NB273_298.out, NB298_273.out, NB274_298.out, NB298_274.out, NB275_298.out, NB298_275.out, NB278_298.out, NB298_278.out, (bl HB.out)⟩)
         rintro ⟨v291, v294, gb298⟩ w58 ⟨hS_, h0_, h1_, h2_, h3_, h4_, h5_, h6_, h7_, h8_, h9_, h10_, h11_, h12_, h13_, h14_, h15_, h16_, h17_, h18_, h19_, h20_, h21_, h22_, h23_, h24_⟩
         have HO284 : Aside0 (Kd.V (Kd.int .i64) 2 w58 w.heap.size (fun k_ => ((P0_0_ k_ ∨ P3_ k_) ∨ w.heap.size ≤ k_) ∧ some k_ ≠ (v291 : Value).ownBlock ∧ some k_ ≠ (v294 : Value).ownBlock ∧ k_ ≠ gb272 ∧ k_ ≠ gb273 ∧ k_ ≠ gb274 ∧ k_ ≠ gb275 ∧ k_ ≠ gb278 ∧ k_ ≠ gb298) (.slice A0_0 y280.length c0_0) y280) := ⟨h0_⟩
         have HO289 : Aside0 (Kd.V (Kd.int .i64) 2 w58 w.heap.size (fun k_ => ((P0_0_ k_ ∨ P3_ k_) ∨ w.heap.size ≤ k_) ∧ some k_ ≠ (v291 : Value).ownBlock ∧ some k_ ≠ (v294 : Value).ownBlock ∧ k_ ≠ gb272 ∧ k_ ≠ gb273 ∧ k_ ≠ gb274 ∧ k_ ≠ gb275 ∧ k_ ≠ gb278 ∧ k_ ≠ gb298) (.slice A51 y285.length c51) y285) := ⟨h1_⟩
         have HO292 : Aside0 (Kd.N (Kd.slice 2 (Kd.int .i64)) 22 w58 w.heap.size (fun k_ => ((P0_0_ k_ ∨ P3_ k_) ∨ w.heap.size ≤ k_) ∧ some k_ ≠ (v294 : Value).ownBlock ∧ k_ ≠ gb272 ∧ k_ ≠ gb273 ∧ k_ ≠ gb274 ∧ k_ ≠ gb275 ∧ k_ ≠ gb278 ∧ k_ ≠ gb298) v291 y290) := ⟨h2_⟩
         have HO295 : Aside0 (Kd.R (Kd.int .i64) 2 w58 w.heap.size (fun k_ => (w.heap.size ≤ k_) ∧ k_ ≠ gb273 ∧ k_ ≠ gb274 ∧ k_ ≠ gb278) v294 t293) := ⟨h3_⟩
         replace HO_273000 : Aside0 (Kd.V (Kd.int .i64) 2 w58 w.heap.size (fun k_ => ((P0_0_ k_ ∨ P3_ k_) ∨ w.heap.size ≤ k_) ∧ some k_ ≠ (v291 : Value).ownBlock ∧ some k_ ≠ (v294 : Value).ownBlock ∧ k_ ≠ gb272 ∧ k_ ≠ gb273 ∧ k_ ≠ gb274 ∧ k_ ≠ gb275 ∧ k_ ≠ gb278 ∧ k_ ≠ gb298) (.slice A0_0 l0_0.length c0_0) l0_0) := ⟨h4_⟩
         replace HO_3 : Aside0 (Kd.V (Kd.int .i64) 2 w58 w.heap.size (fun k_ => ((P0_0_ k_ ∨ P3_ k_) ∨ w.heap.size ≤ k_) ∧ some k_ ≠ (v291 : Value).ownBlock ∧ some k_ ≠ (v294 : Value).ownBlock ∧ k_ ≠ gb272 ∧ k_ ≠ gb273 ∧ k_ ≠ gb274 ∧ k_ ≠ gb275 ∧ k_ ≠ gb278 ∧ k_ ≠ gb298) (.slice A3 l3.length c3) l3) := ⟨h5_⟩
         replace BK272 : Aside0 (w58.heap[gb272]? = some (.cells #[.slice A0_0 l0_0.length c0_0, .int .i64 a0_1, .int .i64 a0_2] 26 (0, 0))) := ⟨h6_⟩
         replace BK273 : Aside0 (w58.heap[gb273]? = some (.cells #[.int .i64 a1] 2 (0, 0))) := ⟨h7_⟩
         replace BK274 : Aside0 (w58.heap[gb274]? = some (.cells #[.int .i64 a2] 2 (0, 0))) := ⟨h8_⟩
         replace BK275 : Aside0 (w58.heap[gb275]? = some (.cells #[.slice none 0 0, .int .i64 0, .int .i64 0, .slice none 0 0, .int .i64 0] 28 (0, 0))) := ⟨h9_⟩
         replace BK278 : Aside0 (w58.heap[gb278]? = some (.cells #[.int .i64 (wrap64 (t277 - (wrap64 (a2 - a1))))] 2 (0, 0))) := ⟨h10_⟩
         have BK298 : Aside0 (w58.heap[gb298]? = some (.cells #[.slice none 0 0, .int .i64 0, .int .i64 0] 26 (0, 0))) := ⟨h11_⟩
         have GW298 : Aside0 (w.heap.size ≤ gb298) := ⟨h12_⟩
         have GE298 : Aside0 (w.heap.size ≤ gb298) := ⟨h13_⟩
         have NB272_298 : Aside0 (gb272 ≠ gb298) := ⟨h14_⟩
         have NB298_272 : Aside0 (gb298 ≠ gb272) := ⟨h15_⟩
         have NB273_298 : Aside0 (gb273 ≠ gb298) := ⟨h16_⟩
         have NB298_273 : Aside0 (gb298 ≠ gb273) := ⟨h17_⟩
         have NB274_298 : Aside0 (gb274 ≠ gb298) := ⟨h18_⟩
         have NB298_274 : Aside0 (gb298 ≠ gb274) := ⟨h19_⟩
         have NB275_298 : Aside0 (gb275 ≠ gb298) := ⟨h20_⟩
         have NB298_275 : Aside0 (gb298 ≠ gb275) := ⟨h21_⟩
         have NB278_298 : Aside0 (gb278 ≠ gb298) := ⟨h22_⟩
         have NB298_278 : Aside0 (gb298 ≠ gb278) := ⟨h23_⟩
         replace HB : Aside0 (Below w.heap.size w w58) := ⟨h24_⟩
         clear h0_ h1_ h2_ h3_ h4_ h5_ h6_ h7_ h8_ h9_ h10_ h11_ h12_ h13_ h14_ h15_ h16_ h17_ h18_ h19_ h20_ h21_ h22_ h23_ h24_
         have hHeld : w58.cell? ⟨gb272, 0, none⟩ = some (.slice A0_0 l0_0.length c0_0) ∧ w58.cell? ⟨gb272, 1, none⟩ = some (.int .i64 a0_1) ∧ w58.cell? ⟨gb272, 2, none⟩ = some (.int .i64 a0_2) ∧ w58.cell? ⟨gb273, 0, none⟩ = some (.int .i64 a1) ∧ w58.cell? ⟨gb274, 0, none⟩ = some (.int .i64 a2) := hS_
         obtain ⟨Ao59, co59, eo59⟩ := Kd.R_slice HO295.out
         (first | subst eo59 | (injection eo59 with f1_ f2_ f3_; have f4_ := f1_.symm; have f5_ := f3_.symm; clear f1_ f2_ f3_; subst f4_; subst f5_))
         refine norm_ (a' := ?_) ?_ ?_
         rotate_left
         ·simp only [putAll, Act.put, sa_, s0_, ss_]
          rfl
         refine one_ (i := 21) (N := none) #[true, true, true, true, true, true, true, true, true, true, true, true, true, true, true, true, true, true, true, true, true, true] rfl rfl (one_of HT_.out (by kernel_rfl)) (by decide) (fun K hK => ?_)
         have hs60 : w58.cell? ⟨gb298, 0, none⟩ = some (.slice none 0 0) := bc BK298.out 0
         have hfs60 := blk_frozen BK298.out 0
         have hns60_0 := NB272_298.out
         have hns60_1 := NB273_298.out
         have hns60_2 := NB274_298.out
         have hns60_3 := NB275_298.out
         have hns60_4 := NB278_298.out
         have hms60_0 := NB298_272.out
         have hms60_1 := NB298_273.out
         have hms60_2 := NB298_274.out
         have hms60_3 := NB298_275.out
         have hms60_4 := NB298_278.out
         have hs61 : w58.cell? ⟨gb298, 1, none⟩ = some (.int .i64 0) := bc BK298.out 1
         have hfs61 := blk_frozen BK298.out 1
         have hs62 : w58.cell? ⟨gb298, 2, none⟩ = some (.int .i64 0) := bc BK298.out 2
         have hfs62 := blk_frozen BK298.out 2
         refine skip_ (w1 := ?_) (by rfl) rfl ?_ ?_
         rotate_left
         ·go_simp
          rfl
         refine hK.out _ _ ⟨((cell_far (p := ⟨gb298, _, none⟩) NB272_298.out _).trans (((cell_far (p := ⟨gb298, _, none⟩) NB272_298.out _).trans (((cell_far (p := ⟨gb298, _, none⟩) NB272_298.out _).trans (hHeld.1)))))), ((cell_far (p := ⟨gb298, _, none⟩) NB272_298.out _).trans (((cell_far (p := ⟨gb298, _, none⟩) NB272_298.out _).trans (((cell_far (p := ⟨gb298, _, none⟩) NB272_298.out _).trans (hHeld.2.1)))))), ((cell_far (p := ⟨gb298, _, none⟩) NB272_298.out _).trans (((cell_far (p := ⟨gb298, _, none⟩) NB272_298.out _).trans (((cell_far (p := ⟨gb298, _, none⟩) NB272_298.out _).trans (hHeld.2.2.1)))))), ((cell_far (p := ⟨gb298, _, none⟩) NB273_298.out _).trans (((cell_far (p := ⟨gb298, _, none⟩) NB273_298.out _).trans (((cell_far (p := ⟨gb298, _, none⟩) NB273_298.out _).trans (hHeld.2.2.2.1)))))), ((cell_far (p := ⟨gb298, _, none⟩) NB274_298.out _).trans (((cell_far (p := ⟨gb298, _, none⟩) NB274_298.out _).trans (((cell_far (p := ⟨gb298, _, none⟩) NB274_298.out _).trans (hHeld.2.2.2.2))))))⟩ (fun hHeld => ?_)
         clear hK K
         refine done_ (done_of HT_.out (by kernel_rfl)) ?_
         (try (rw [drewN_self w58]; generalize hq_ : World.drewN w58 _ = w58; replace HO_3 := am (vAt2 hq_ HO_3.out); replace HO_273000 := am (vAt2 hq_ HO_273000.out); replace HO284 := am (vAt2 hq_ HO284.out); replace HO289 := am (vAt2 hq_ HO289.out); replace HO292 := am (Kd.N_at hq_ HO292.out); replace HO295 := am (Kd.R_at hq_ HO295.out); replace BK272 := am (blk_at hq_ BK272.out); replace BK273 := am (blk_at hq_ BK273.out); replace BK274 := am (blk_at hq_ BK274.out); replace BK275 := am (blk_at hq_ BK275.out); replace BK278 := am (blk_at hq_ BK278.out); replace BK298 := am (blk_at hq_ BK298.out); replace HB := am (below_at hq_ HB.out); clear hq_))
         go_upto_region 8 with (fail)
         go_cut [69] (fun v69 wc => ∃ (kq : Nat) (x69_41 : Bool), v69 = .bool x69_41 ∧ Aside0 (impl_replace.j1 kq l3 x69_41 l0_0 a0_1 a0_2 a1 a2 t293 t296 t297 = some (r1, r2, r3, r4, r5)) ∧ Aside0 (kq ≤ kj4) ∧ Aside0 (Kd.V (Kd.int .i64) 2 wc w.heap.size (fun k_ => ((P0_0_ k_ ∨ P3_ k_) ∨ w.heap.size ≤ k_) ∧ some k_ ≠ ((.slice Ao59 t293.length co59) : Value).ownBlock ∧ k_ ≠ gb272 ∧ k_ ≠ gb273 ∧ k_ ≠ gb274 ∧ k_ ≠ gb275 ∧ k_ ≠ gb278 ∧ k_ ≠ gb298) (.slice A3 l3.length c3) l3) ∧ Aside0 (Kd.V (Kd.int .i64) 2 wc w.heap.size (fun k_ => ((P0_0_ k_ ∨ P3_ k_) ∨ w.heap.size ≤ k_) ∧ some k_ ≠ ((.slice Ao59 t293.length co59) : Value).ownBlock ∧ k_ ≠ gb272 ∧ k_ ≠ gb273 ∧ k_ ≠ gb274 ∧ k_ ≠ gb275 ∧ k_ ≠ gb278 ∧ k_ ≠ gb298) (.slice A0_0 l0_0.length c0_0) l0_0) ∧ Aside0 (Kd.R (Kd.int .i64) 2 wc w.heap.size (fun k_ => (w.heap.size ≤ k_) ∧ k_ ≠ gb273 ∧ k_ ≠ gb274 ∧ k_ ≠ gb278) (.slice Ao59 t293.length co59) t293) ∧ Aside0 (wc.heap[gb272]? = some (.cells #[(.slice A0_0 l0_0.length c0_0), .int .i64 a0_1, .int .i64 a0_2] 26 (0, 0))) ∧ Aside0 (wc.heap[gb273]? = some (.cells #[.int .i64 a1] 2 (0, 0))) ∧ Aside0 (wc.heap[gb274]? = some (.cells #[.int .i64 a2] 2 (0, 0))) ∧ Aside0 (wc.heap[gb275]? = some (.cells #[(.slice none 0 0), .int .i64 0, .int .i64 0, (.slice none 0 0), .int .i64 0] 28 (0, 0))) ∧ Aside0 (wc.heap[gb278]? = some (.cells #[.int .i64 (wrap64 (t277 - (wrap64 (a2 - a1))))] 2 (0, 0))) ∧ Aside0 (wc.heap[gb298]? = some (.cells #[(.slice Ao59 t293.length co59), .int .i64 t296, .int .i64 t297] 26 (0, 0))) ∧ Aside0 (Below w.heap.size w wc))
         case first =>
          have H := HC42.out
          clear HC42
          by_cases c63 : a1 = a2
          ·rw [if_pos c63] at H
           have c63b0 : (a1 == a2) = true := beq_iff_eq.mpr c63
           have c63b1 : (a1 != a2) = false := bne_eq_false_iff_eq.mpr c63
           clear c63
           (first | rw [c63b0] | (simp only [i64_w, i32_w]; rw [c63b0]) | (have e9_ := c63b0; unfold bne at e9_; rw [e9_]) | skip)
           have H' := Aside0.mk H
           clear H
           have hnb64 := NB273_272.out
           have hnc64 := NB272_273.out
           have hnb65 := NB273_274.out
           have hnc65 := NB274_273.out
           have hnb66 := NB273_275.out
           have hnc66 := NB275_273.out
           have hnb67 := NB273_278.out
           have hnc67 := NB278_273.out
           have hnb68 := NB273_298.out
           have hnc68 := NB298_273.out
           have hcz69_0 : w58.cell? ⟨gb273, 0, none⟩ = some (.int .i64 a1) := bc BK273.out 0
           have hfz69_0 := blk_frozen BK273.out 0
           have hnb70 := NB274_272.out
           have hnc70 := NB272_274.out
           have hnb71 := NB274_275.out
           have hnc71 := NB275_274.out
           have hnb72 := NB274_278.out
           have hnc72 := NB278_274.out
           have hnb73 := NB274_298.out
           have hnc73 := NB298_274.out
           have hcz74_0 : w58.cell? ⟨gb274, 0, none⟩ = some (.int .i64 a2) := bc BK274.out 0
           have hfz74_0 := blk_frozen BK274.out 0
           have hnb75 := NB272_275.out
           have hnc75 := NB275_272.out
           have hnb76 := NB272_278.out
           have hnc76 := NB278_272.out
           have hnb77 := NB272_298.out
           have hnc77 := NB298_272.out
           have hcz78_0 : w58.cell? ⟨gb272, 0, none⟩ = some (.slice A0_0 l0_0.length c0_0) := bc BK272.out 0
           have hcz78_1 : w58.cell? ⟨gb272, 1, none⟩ = some (.int .i64 a0_1) := bc BK272.out 1
           have hcz78_2 : w58.cell? ⟨gb272, 2, none⟩ = some (.int .i64 a0_2) := bc BK272.out 2
           have hfz78_0 := blk_frozen BK272.out 0
           have hfz78_1 := blk_frozen BK272.out 1
           have hfz78_2 := blk_frozen BK272.out 2
           go_wp2
           go_meet
           case rel => exact ⟨_, ((a0_1 == a1)), (by first | rfl | (simp; done) | (simp [*]; done)), H', ⟨by have := HJ4.out; first | omega | exact Nat.le_refl _⟩, ⟨kv (Kd.V_mono (Kd.V_far (p := ⟨gb298, 2, none⟩) (Kd.V_far (p := ⟨gb298, 1, none⟩) (Kd.V_far (p := ⟨gb298, 0, none⟩) (Kd.V_mono HO_3.out (fun k_ hk => (⟨hk, hk.2.2.2.2.2.2.2.2⟩ : _ ∧ k_ ≠ gb298))) (fun _ hk => hk.2) (.slice Ao59 t293.length co59)) (fun _ hk => hk.2) (.int .i64 t296)) (fun _ hk => hk.2) (.int .i64 t297)) (fun _ hk => ⟨hk.1.1, ⟨hk.1.2.2.1, ⟨hk.1.2.2.2.1, ⟨hk.1.2.2.2.2.1, ⟨hk.1.2.2.2.2.2.1, ⟨hk.1.2.2.2.2.2.2.1, ⟨hk.1.2.2.2.2.2.2.2.1, hk.1.2.2.2.2.2.2.2.2⟩⟩⟩⟩⟩⟩⟩))⟩, ⟨kv (Kd.V_mono (Kd.V_far (p := ⟨gb298, 2, none⟩) (Kd.V_far (p := ⟨gb298, 1, none⟩) (Kd.V_far (p := ⟨gb298, 0, none⟩) (Kd.V_mono HO_273000.out (fun k_ hk => (⟨hk, hk.2.2.2.2.2.2.2.2⟩ : _ ∧ k_ ≠ gb298))) (fun _ hk => hk.2) (.slice Ao59 t293.length co59)) (fun _ hk => hk.2) (.int .i64 t296)) (fun _ hk => hk.2) (.int .i64 t297)) (fun _ hk => ⟨hk.1.1, ⟨hk.1.2.2.1, ⟨hk.1.2.2.2.1, ⟨hk.1.2.2.2.2.1, ⟨hk.1.2.2.2.2.2.1, ⟨hk.1.2.2.2.2.2.2.1, ⟨hk.1.2.2.2.2.2.2.2.1, hk.1.2.2.2.2.2.2.2.2⟩⟩⟩⟩⟩⟩⟩))⟩, ⟨kr (Kd.R_mono (Kd.R_far (p := ⟨gb298, 2, none⟩) (Kd.R_far (p := ⟨gb298, 1, none⟩) (Kd.R_far (p := ⟨gb298, 0, none⟩) (Kd.R_types HO295.out BK298.out (by decide)) (fun _ hk => hk.2) (.slice Ao59 t293.length co59)) (fun _ hk => hk.2) (.int .i64 t296)) (fun _ hk => hk.2) (.int .i64 t297)) (fun _ hk => ⟨hk.1.1, ⟨hk.1.2.1, ⟨hk.1.2.2.1, hk.1.2.2.2⟩⟩⟩))⟩, ⟨by refine pk ?_; refine blk_far ?_ NB272_298.out _; refine pk ?_; refine blk_far ?_ NB272_298.out _; refine pk ?_; refine blk_far ?_ NB272_298.out _; refine pk ?_; exact BK272.out⟩, ⟨by refine pk ?_; refine blk_far ?_ NB273_298.out _; refine pk ?_; refine blk_far ?_ NB273_298.out _; refine pk ?_; refine blk_far ?_ NB273_298.out _; refine pk ?_; exact BK273.out⟩, ⟨by refine pk ?_; refine blk_far ?_ NB274_298.out _; refine pk ?_; refine blk_far ?_ NB274_298.out _; refine pk ?_; refine blk_far ?_ NB274_298.out _; refine pk ?_; exact BK274.out⟩, ⟨by refine pk ?_; refine blk_far ?_ NB275_298.out _; refine pk ?_; refine blk_far ?_ NB275_298.out _; refine pk ?_; refine blk_far ?_ NB275_298.out _; refine pk ?_; exact BK275.out⟩, ⟨by refine pk ?_; refine blk_far ?_ NB278_298.out _; refine pk ?_; refine blk_far ?_ NB278_298.out _; refine pk ?_; refine blk_far ?_ NB278_298.out _; refine pk ?_; exact BK278.out⟩, ⟨by refine pk ?_; refine blk_put (cs := #[.slice Ao59 t293.length co59, .int .i64 t296, .int .i64 0]) ?_ 2 _ rfl; refine pk ?_; refine blk_put (cs := #[.slice Ao59 t293.length co59, .int .i64 0, .int .i64 0]) ?_ 1 _ rfl; refine pk ?_; refine blk_put (cs := #[.slice none 0 0, .int .i64 0, .int .i64 0]) ?_ 0 _ rfl; refine pk ?_; exact BK298.out⟩, ⟨by repeat (first | (with_reducible first | exact HB.out | apply below_alloc | apply pw_below_drewN | apply below_drew1 | refine below_set ?_ GE272.out | refine below_set ?_ GE273.out | refine below_set ?_ GE274.out | refine below_set ?_ GE275.out | refine below_set ?_ GE278.out | refine below_set ?_ GE298.out) | exact HB.out)⟩⟩
          ·rw [if_neg c63] at H
           have c63b0 : (a1 == a2) = false := beq_eq_false_iff_ne.mpr c63
           have c63b1 : (a1 != a2) = true := bne_iff_ne.mpr c63
           (first | rw [c63b0] | (simp only [i64_w, i32_w]; rw [c63b0]) | (have e9_ := c63b0; unfold bne at e9_; rw [e9_]) | skip)
           have H' := Aside0.mk H
           clear H
           have hnb79 := NB273_272.out
           have hnc79 := NB272_273.out
           have hnb80 := NB273_274.out
           have hnc80 := NB274_273.out
           have hnb81 := NB273_275.out
           have hnc81 := NB275_273.out
           have hnb82 := NB273_278.out
           have hnc82 := NB278_273.out
           have hnb83 := NB273_298.out
           have hnc83 := NB298_273.out
           have hcz84_0 : w58.cell? ⟨gb273, 0, none⟩ = some (.int .i64 a1) := bc BK273.out 0
           have hfz84_0 := blk_frozen BK273.out 0
           have hnb85 := NB274_272.out
           have hnc85 := NB272_274.out
           have hnb86 := NB274_275.out
           have hnc86 := NB275_274.out
           have hnb87 := NB274_278.out
           have hnc87 := NB278_274.out
           have hnb88 := NB274_298.out
           have hnc88 := NB298_274.out
           have hcz89_0 : w58.cell? ⟨gb274, 0, none⟩ = some (.int .i64 a2) := bc BK274.out 0
           have hfz89_0 := blk_frozen BK274.out 0
           go_wp2
           go_meet
           case rel => exact ⟨_, (false), (by first | rfl | (simp; done) | (simp [*]; done)), H', ⟨by have := HJ4.out; first | omega | exact Nat.le_refl _⟩, ⟨kv (Kd.V_mono (Kd.V_far (p := ⟨gb298, 2, none⟩) (Kd.V_far (p := ⟨gb298, 1, none⟩) (Kd.V_far (p := ⟨gb298, 0, none⟩) (Kd.V_mono HO_3.out (fun k_ hk => (⟨hk, hk.2.2.2.2.2.2.2.2⟩ : _ ∧ k_ ≠ gb298))) (fun _ hk => hk.2) (.slice Ao59 t293.length co59)) (fun _ hk => hk.2) (.int .i64 t296)) (fun _ hk => hk.2) (.int .i64 t297)) (fun _ hk => ⟨hk.1.1, ⟨hk.1.2.2.1, ⟨hk.1.2.2.2.1, ⟨hk.1.2.2.2.2.1, ⟨hk.1.2.2.2.2.2.1, ⟨hk.1.2.2.2.2.2.2.1, ⟨hk.1.2.2.2.2.2.2.2.1, hk.1.2.2.2.2.2.2.2.2⟩⟩⟩⟩⟩⟩⟩))⟩, ⟨kv (Kd.V_mono (Kd.V_far (p := ⟨gb298, 2, none⟩) (Kd.V_far (p := ⟨gb298, 1, none⟩) (Kd.V_far (p := ⟨gb298, 0, none⟩) (Kd.V_mono HO_273000.out (fun k_ hk => (⟨hk, hk.2.2.2.2.2.2.2.2⟩ : _ ∧ k_ ≠ gb298))) (fun _ hk => hk.2) (.slice Ao59 t293.length co59)) (fun _ hk => hk.2) (.int .i64 t296)) (fun _ hk => hk.2) (.int .i64 t297)) (fun _ hk => ⟨hk.1.1, ⟨hk.1.2.2.1, ⟨hk.1.2.2.2.1, ⟨hk.1.2.2.2.2.1, ⟨hk.1.2.2.2.2.2.1, ⟨hk.1.2.2.2.2.2.2.1, ⟨hk.1.2.2.2.2.2.2.2.1, hk.1.2.2.2.2.2.2.2.2⟩⟩⟩⟩⟩⟩⟩))⟩, ⟨kr (Kd.R_mono (Kd.R_far (p := ⟨gb298, 2, none⟩) (Kd.R_far (p := ⟨gb298, 1, none⟩) (Kd.R_far (p := ⟨gb298, 0, none⟩) (Kd.R_types HO295.out BK298.out (by decide)) (fun _ hk => hk.2) (.slice Ao59 t293.length co59)) (fun _ hk => hk.2) (.int .i64 t296)) (fun _ hk => hk.2) (.int .i64 t297)) (fun _ hk => ⟨hk.1.1, ⟨hk.1.2.1, ⟨hk.1.2.2.1, hk.1.2.2.2⟩⟩⟩))⟩, ⟨by refine pk ?_; refine blk_far ?_ NB272_298.out _; refine pk ?_; refine blk_far ?_ NB272_298.out _; refine pk ?_; refine blk_far ?_ NB272_298.out _; refine pk ?_; exact BK272.out⟩, ⟨by refine pk ?_; refine blk_far ?_ NB273_298.out _; refine pk ?_; refine blk_far ?_ NB273_298.out _; refine pk ?_; refine blk_far ?_ NB273_298.out _; refine pk ?_; exact BK273.out⟩, ⟨by refine pk ?_; refine blk_far ?_ NB274_298.out _; refine pk ?_; refine blk_far ?_ NB274_298.out _; refine pk ?_; refine blk_far ?_ NB274_298.out _; refine pk ?_; exact BK274.out⟩, ⟨by refine pk ?_; refine blk_far ?_ NB275_298.out _; refine pk ?_; refine blk_far ?_ NB275_298.out _; refine pk ?_; refine blk_far ?_ NB275_298.out _; refine pk ?_; exact BK275.out⟩, ⟨by refine pk ?_; refine blk_far ?_ NB278_298.out _; refine pk ?_; refine blk_far ?_ NB278_298.out _; refine pk ?_; refine blk_far ?_ NB278_298.out _; refine pk ?_; exact BK278.out⟩, ⟨by refine pk ?_; refine blk_put (cs := #[.slice Ao59 t293.length co59, .int .i64 t296, .int .i64 0]) ?_ 2 _ rfl; refine pk ?_; refine blk_put (cs := #[.slice Ao59 t293.length co59, .int .i64 0, .int .i64 0]) ?_ 1 _ rfl; refine pk ?_; refine blk_put (cs := #[.slice none 0 0, .int .i64 0, .int .i64 0]) ?_ 0 _ rfl; refine pk ?_; exact BK298.out⟩, ⟨by repeat (first | (with_reducible first | exact HB.out | apply below_alloc | apply pw_below_drewN | apply below_drew1 | refine below_set ?_ GE272.out | refine below_set ?_ GE273.out | refine below_set ?_ GE274.out | refine below_set ?_ GE275.out | refine below_set ?_ GE278.out | refine below_set ?_ GE298.out) | exact HB.out)⟩⟩
         case rest =>
          clear HC42
          try clear p2
          try clear c3
          try clear c5
          try clear c6
          try clear p6
          try clear c7
          try clear c8
          try clear c51
          try clear c63
          try clear c63b0
          try clear c63b1
          try clear c64
          try clear p64
          try clear c65
          try clear c66
          try clear c67
          try clear c68
          try clear c70
          try clear c71
          try clear c72
          try clear c73
          try clear c75
          try clear c76
          try clear c77
          try clear c79
          try clear c80
          try clear c81
          try clear c82
          try clear c83
          try clear c85
          try clear c86
          try clear c87
          try clear c88
          try clear hcz69_0
          try clear hcz74_0
          try clear hcz78_0
          try clear hcz78_1
          try clear hcz78_2
          try clear hcz84_0
          try clear hcz89_0
          try clear hfz69_0
          try clear hfz74_0
          try clear hfz78_0
          try clear hfz78_1
          try clear hfz78_2
          try clear hfz84_0
          try clear hfz89_0
          obtain ⟨kq, x69_41, rfl, HA, HJ41, HO_3, HO_273000, HO_299000, BK272, BK273, BK274, BK275, BK278, BK298, HB⟩ := hcut
          cases kq with
          | zero => exact absurd HA.out (by simp [impl_replace.j1])
          | succ kj41 =>
           have H := HA.out
           clear HA
           simp only [impl_replace.j1] at H
           have HC90 := Aside0.mk H
           clear H
           go_upto_if 69 with (fail)
           go_cut [] (fun wc => ∃ (kq : Nat) (x299001_89 : Int), Aside0 (impl_replace.j2 kq l0_0 a0_1 a0_2 a1 a2 t293 x299001_89 t297 = some (r1, r2, r3, r4, r5)) ∧ Aside0 (kq ≤ kj41) ∧ Aside0 (Kd.V (Kd.int .i64) 2 wc w.heap.size (fun k_ => ((P0_0_ k_ ∨ P3_ k_) ∨ w.heap.size ≤ k_) ∧ some k_ ≠ ((.slice Ao59 t293.length co59) : Value).ownBlock ∧ k_ ≠ gb272 ∧ k_ ≠ gb273 ∧ k_ ≠ gb274 ∧ k_ ≠ gb275 ∧ k_ ≠ gb278 ∧ k_ ≠ gb298) (.slice A0_0 l0_0.length c0_0) l0_0) ∧ Aside0 (Kd.R (Kd.int .i64) 2 wc w.heap.size (fun k_ => (w.heap.size ≤ k_) ∧ k_ ≠ gb273 ∧ k_ ≠ gb274 ∧ k_ ≠ gb278) (.slice Ao59 t293.length co59) t293) ∧ Aside0 (wc.heap[gb272]? = some (.cells #[(.slice A0_0 l0_0.length c0_0), .int .i64 a0_1, .int .i64 a0_2] 26 (0, 0))) ∧ Aside0 (wc.heap[gb273]? = some (.cells #[.int .i64 a1] 2 (0, 0))) ∧ Aside0 (wc.heap[gb274]? = some (.cells #[.int .i64 a2] 2 (0, 0))) ∧ Aside0 (wc.heap[gb275]? = some (.cells #[(.slice none 0 0), .int .i64 0, .int .i64 0, (.slice none 0 0), .int .i64 0] 28 (0, 0))) ∧ Aside0 (wc.heap[gb278]? = some (.cells #[.int .i64 (wrap64 (t277 - (wrap64 (a2 - a1))))] 2 (0, 0))) ∧ Aside0 (wc.heap[gb298]? = some (.cells #[(.slice Ao59 t293.length co59), .int .i64 x299001_89, .int .i64 t297] 26 (0, 0))) ∧ Aside0 (Below w.heap.size w wc))
           case first =>
            have H := HC90.out
            clear HC90
            by_cases c91 : x69_41 = true
            ·subst c91
             have H1 : ((impl_size_int64.f l3).bind fun t299 => (impl_replace.j2 kj41 l0_0 a0_1 a0_2 a1 a2 t293 (wrap64 (a1 + t299)) t297)) = some (r1, r2, r3, r4, r5) := by rw [if_pos rfl] at H; exact H
             clear H
             have H := H1
             clear H1
             replace H := Option.bind_eq_some_iff.mp H
             obtain ⟨t299, A920, H⟩ := H
             replace H : (impl_replace.j2 kj41 l0_0 a0_1 a0_2 a1 a2 t293 (wrap64 (a1 + t299)) t297) = some (r1, r2, r3, r4, r5) := H
             have A92 := Aside0.mk A920
             clear A920
             have H' := Aside0.mk H
             clear H
             try go_wp2
             replace HO_3 := am (Kd.V_drew HO_3.out)
             replace HO_273000 := am (Kd.V_drew HO_273000.out)
             replace HO_299000 := am (Kd.R_drew HO_299000.out)
             replace BK272 := am (blk_drew BK272.out)
             replace BK273 := am (blk_drew BK273.out)
             replace BK274 := am (blk_drew BK274.out)
             replace BK275 := am (blk_drew BK275.out)
             replace BK278 := am (blk_drew BK278.out)
             replace BK298 := am (blk_drew BK298.out)
             replace HB := am (below_drew1 HB.out)
             refine start_ (n := 6) (S := fun w' => w'.cell? ⟨gb273, 0, none⟩ = some (.int .i64 a1)) (ds := []) b47_26 (by kernel_rfl) rfl rfl (bc BK273.out 0) (fun hHeld => ?_)
             generalize wc.drew = w93 at HO_3 HO_273000 HO_299000 BK272 BK273 BK274 BK275 BK278 BK298 HB hHeld ⊢
             refine pure_ (i := 1) (N := some 71) (v := ?_) (a' := ?_) #[false, true, false, false, false, false] rfl rfl (by kernel_rfl) (fun _ _ _ h => h) (Or.inl ⟨by rfl, ?_⟩) ?_ ?_; rotate_left
             ·intro w'; go_simp; with_reducible rfl
             rotate_left
             ·simp only [Act.put, sa_, s0_, ss_, i64_w, i32_w]; rfl
             refine take_ (i := 0) (N := some 70) (v := ?_) (a' := ?_) b47_28 rfl rfl (by kernel_rfl) (fun _ _ _ h => h) (Or.inl ⟨by rfl, ?_⟩) hHeld ?_ ?_; rotate_left
             ·intro w' s0
              go_simp
              with_reducible rfl
             rotate_left
             ·simp only [Act.put, sa_, s0_, ss_, i64_w, i32_w]; rfl
             refine one_ (i := 2) (N := some 72) #[true, true, true, false, false, false] rfl rfl (by kernel_rfl) (by decide) (fun K hK => ?_)
             refine gs_ Try.func55 #[.slice A3 l3.length c3] ?_
             with_reducible refine (impl_size_int64.calls _ _ l3 t299 _ A92.out).mono ?_
             rintro e w' ⟨rfl, ⟨nd, rfl⟩⟩
             refine ⟨_, rfl, ?_⟩
             refine hK.out _ _ (bc BK273.out 0) (fun hHeld => ?_)
             clear hK K
             refine norm_ (a' := ?_) ?_ ?_
             rotate_left
             ·show Act.put _ (some 72) _ = _
              simp only [Act.put, sa_, s0_, ss_, i64_w, i32_w]
              rfl
             refine pure_ (i := 3) (N := some 73) (v := ?_) (a' := ?_) b47_30 rfl rfl (by kernel_rfl) (fun _ _ _ h => h) (Or.inl ⟨by rfl, ?_⟩) ?_ ?_; rotate_left
             ·intro w'; go_simp; with_reducible rfl
             rotate_left
             ·simp only [Act.put, sa_, s0_, ss_, i64_w, i32_w]; rfl
             refine pure_ (i := 4) (N := some 74) (v := ?_) (a' := ?_) b47_31 rfl rfl (by kernel_rfl) (fun _ _ _ h => h) (Or.inl ⟨by rfl, ?_⟩) ?_ ?_; rotate_left
             ·intro w'; go_simp; with_reducible rfl
             rotate_left
             ·simp only [Act.put, sa_, s0_, ss_, i64_w, i32_w]; rfl
             refine one_ (i := 5) (N := none) b47_32 rfl rfl (by kernel_rfl) (by decide) (fun K hK => ?_)
             have hs94 : w93.cell? ⟨gb298, 1, none⟩ = some (.int .i64 t296) := bc BK298.out 1
             have hfs94 := blk_frozen BK298.out 1
             have hns94_0 := NB272_298.out
             have hns94_1 := NB273_298.out
             have hns94_2 := NB274_298.out
             have hns94_3 := NB275_298.out
             have hns94_4 := NB278_298.out
             have hms94_0 := NB298_272.out
             have hms94_1 := NB298_273.out
             have hms94_2 := NB298_274.out
             have hms94_3 := NB298_275.out
             have hms94_4 := NB298_278.out
             refine skip_ (w1 := ?_) (by rfl) rfl ?_ ?_
             rotate_left
             ·go_simp
              rfl
             refine hK.out _ _ (((cell_far (p := ⟨gb298, _, none⟩) NB273_298.out _).trans (hHeld))) (fun hHeld => ?_)
             clear hK K
             refine done_ (by kernel_rfl) ?_
             (try (rw [drewN_self w93]; generalize hq_ : World.drewN w93 _ = w93; replace HO_3 := am (vAt2 hq_ HO_3.out); replace HO_273000 := am (vAt2 hq_ HO_273000.out); replace HO_299000 := am (Kd.R_at hq_ HO_299000.out); replace BK272 := am (blk_at hq_ BK272.out); replace BK273 := am (blk_at hq_ BK273.out); replace BK274 := am (blk_at hq_ BK274.out); replace BK275 := am (blk_at hq_ BK275.out); replace BK278 := am (blk_at hq_ BK278.out); replace BK298 := am (blk_at hq_ BK298.out); replace HB := am (below_at hq_ HB.out); clear hq_))
             try go_wp2
             go_meet
             case rel => exact ⟨_, (wrap64 (a1 + t299)), H', ⟨by have := HJ4.out; have := HJ41.out; first | omega | exact Nat.le_refl _⟩, ⟨kv (Kd.V_mono (Kd.V_far (p := ⟨gb298, 1, none⟩) (Kd.V_mono HO_273000.out (fun k_ hk => (⟨hk, hk.2.2.2.2.2.2.2⟩ : _ ∧ k_ ≠ gb298))) (fun _ hk => hk.2) (.int .i64 (wrap64 (a1 + t299)))) (fun _ hk => ⟨hk.1.1, ⟨hk.1.2.1, ⟨hk.1.2.2.1, ⟨hk.1.2.2.2.1, ⟨hk.1.2.2.2.2.1, ⟨hk.1.2.2.2.2.2.1, ⟨hk.1.2.2.2.2.2.2.1, hk.1.2.2.2.2.2.2.2⟩⟩⟩⟩⟩⟩⟩))⟩, ⟨kr (Kd.R_mono (Kd.R_far (p := ⟨gb298, 1, none⟩) (Kd.R_types HO_299000.out BK298.out (by decide)) (fun _ hk => hk.2) (.int .i64 (wrap64 (a1 + t299)))) (fun _ hk => ⟨hk.1.1, ⟨hk.1.2.1, ⟨hk.1.2.2.1, hk.1.2.2.2⟩⟩⟩))⟩, ⟨by refine pk ?_; refine blk_far ?_ NB272_298.out _; refine pk ?_; exact BK272.out⟩, ⟨by refine pk ?_; refine blk_far ?_ NB273_298.out _; refine pk ?_; exact BK273.out⟩, ⟨by refine pk ?_; refine blk_far ?_ NB274_298.out _; refine pk ?_; exact BK274.out⟩, ⟨by refine pk ?_; refine blk_far ?_ NB275_298.out _; refine pk ?_; exact BK275.out⟩, ⟨by refine pk ?_; refine blk_far ?_ NB278_298.out _; refine pk ?_; exact BK278.out⟩, ⟨by refine pk ?_; refine blk_put (cs := #[.slice Ao59 t293.length co59, .int .i64 t296, .int .i64 t297]) ?_ 1 _ rfl; refine pk ?_; exact BK298.out⟩, ⟨by repeat (first | (with_reducible first | exact HB.out | apply below_alloc | apply pw_below_drewN | apply below_drew1 | refine below_set ?_ GE272.out | refine below_set ?_ GE273.out | refine below_set ?_ GE274.out | refine below_set ?_ GE275.out | refine below_set ?_ GE278.out | refine below_set ?_ GE298.out) | exact HB.out)⟩⟩
            ·replace c91 := Bool.eq_false_iff.mpr c91
             subst c91
             have H1 : (impl_replace.j2 kj41 l0_0 a0_1 a0_2 a1 a2 t293 t296 t297) = some (r1, r2, r3, r4, r5) := by rw [if_neg (show ¬ (false = true) by decide)] at H; exact H
             clear H
             have H := H1
             clear H1
             have H' := Aside0.mk H
             clear H
             go_wp2
             go_meet
             case rel => exact ⟨_, (t296), H', ⟨by have := HJ4.out; have := HJ41.out; first | omega | exact Nat.le_refl _⟩, ⟨kv HO_273000.out⟩, ⟨kr HO_299000.out⟩, ⟨pk BK272.out⟩, ⟨pk BK273.out⟩, ⟨pk BK274.out⟩, ⟨pk BK275.out⟩, ⟨pk BK278.out⟩, ⟨pk BK298.out⟩, ⟨by repeat (first | (with_reducible first | exact HB.out | apply below_alloc | apply pw_below_drewN | apply below_drew1 | refine below_set ?_ GE272.out | refine below_set ?_ GE273.out | refine below_set ?_ GE274.out | refine below_set ?_ GE275.out | refine below_set ?_ GE278.out | refine below_set ?_ GE298.out) | exact HB.out)⟩⟩
           case rest =>
            clear HC90
            try clear p2
            try clear c3
            try clear c5
            try clear c6
            try clear p6
            try clear c7
            try clear c8
            try clear c9
            try clear c51
            try clear c55
            try clear c63
            try clear c63b0
            try clear c63b1
            try clear c64
            try clear p64
            try clear c65
            try clear c66
            try clear c67
            try clear c68
            try clear c70
            try clear c71
            try clear c72
            try clear c73
            try clear c75
            try clear c76
            try clear c77
            try clear c79
            try clear c80
            try clear c81
            try clear c82
            try clear c83
            try clear c85
            try clear c86
            try clear c87
            try clear c88
            try clear c91
            try clear hcz69_0
            try clear hcz74_0
            try clear hcz78_0
            try clear hcz78_1
            try clear hcz78_2
            try clear hcz84_0
            try clear hcz89_0
            try clear hfz69_0
            try clear hfz74_0
            try clear hfz78_0
            try clear hfz78_1
            try clear hfz78_2
            try clear hfz84_0
            try clear hfz89_0
            try clear p2
            try clear p6
            try clear p64
            obtain ⟨kq, x299001_89, HA, HJ89, HO_273000, HO_299000, BK272, BK273, BK274, BK275, BK278, BK298, HB⟩ := hcut
            cases kq with
            | zero => exact absurd HA.out (by simp [impl_replace.j2])
            | succ kj89 =>
             have H := HA.out
             clear HA
             simp only [impl_replace.j2] at H
             by_cases c95 : 0 ≤ a1
             ·rw [if_pos c95] at H
              have c95b0 := eq_true c95
              have c95b1 : decide (0 ≤ a1) = true := decide_eq_true c95
              clear c95
              by_cases c96 : a1 ≤ a2
              ·rw [if_pos c96] at H
               have c96b0 := eq_true c96
               have c96b1 : decide (a1 ≤ a2) = true := decide_eq_true c96
               clear c96
               by_cases c97 : a2 ≤ (l0_0.length : Int)
               ·rw [if_pos c97] at H
                have c97b0 := eq_true c97
                have c97b1 : decide (a2 ≤ (l0_0.length : Int)) = true := decide_eq_true c97
                clear c97
                obtain ⟨y300, hy300⟩ : ∃ y_ : List Int, y_ = ((l0_0.take (a2 : Int).toNat).drop (a1 : Int).toNat) := ⟨_, rfl⟩
                replace H : ((slices_Clone_sint64_int64.f y300).bind fun t305 => (some (t293, x299001_89, t297, t305, 0))) = some (r1, r2, r3, r4, r5) := by first | (rw [hy300]; with_reducible exact H) | (have H2_ := (Option.bind_some _ _).symm.trans H; rw [hy300]; with_reducible exact H2_) | (have H2_ := (Option.bind_some _ _).symm.trans H; with_reducible exact H2_) | with_reducible exact H | (rw [hy300]; exact H) | exact H
                have Ny300 := am hy300
                clear hy300
                replace H := Option.bind_eq_some_iff.mp H
                obtain ⟨t305, A980, H⟩ := H
                replace H : (some (t293, x299001_89, t297, t305, 0)) = some (r1, r2, r3, r4, r5) := H
                have A98 := Aside0.mk A980
                clear A980
                simp only [Option.some.injEq, Prod.mk.injEq] at H
                obtain ⟨rfl, rfl, rfl, rfl, rfl⟩ := H
                try go_wp2
                replace HO_273000 := am (Kd.V_drew HO_273000.out)
                replace HO_299000 := am (Kd.R_drew HO_299000.out)
                replace BK272 := am (blk_drew BK272.out)
                replace BK273 := am (blk_drew BK273.out)
                replace BK274 := am (blk_drew BK274.out)
                replace BK275 := am (blk_drew BK275.out)
                replace BK278 := am (blk_drew BK278.out)
                replace BK298 := am (blk_drew BK298.out)
                replace HB := am (below_drew1 HB.out)
                have q100 : (a2 : Int) ≤ ((l0_0.length : Int) : Int) := of_decide_eq_true (by first | (with_reducible assumption) | assumption)
                obtain ⟨i0100, hi0100, _, hsz100, _⟩ := info_parts info2
                have hroom100 : l0_0.length ≤ c0_0 := (Kd.V_reads' HO_273000.out).2.1
                have hC100 : Kd.F (Kd.int .i64) _ _ A0_0 l0_0.length l0_0 := (Kd.V_at (base := w.heap.size) HO_273000.out).2.2
                have ql100 : (a1 : Int) ≤ (a2 : Int) := of_decide_eq_true (by first | (with_reducible assumption) | assumption)
                have q0100 : (0 : Int) ≤ (a1 : Int) := of_decide_eq_true (by first | (with_reducible assumption) | assumption)
                have hcut100 := cut_mid (P := Try.prog) 22 2 .i64 .i64 Try.underlying22 hi0100 1 hsz100 A0_0 l0_0.length c0_0 a1 a2 q0100 ql100 q100 hroom100
                have hr100 := Kd.F_mid (lo := (a1 : Int).toNat) (hi := (a2 : Int).toNat) (c := c0_0) hC100 (by omega) (by omega) hroom100
                obtain ⟨A100, hA100⟩ : ∃ A1, A1 = (if c0_0 = (a1 : Int).toNat then A0_0 else (A0_0 : Option Addr).map (·.add ((a1 : Int).toNat * 1))) := ⟨_, rfl⟩
                obtain ⟨c100, hc100⟩ : ∃ c1, c1 = c0_0 - (a1 : Int).toNat := ⟨_, rfl⟩
                have hy100 : y300.length = (a2 : Int).toNat - (a1 : Int).toNat := (by rw [Ny300.out, List.length_drop, List.length_take] <;> omega)
                rw [show ((l0_0).take (a2 : Int).toNat).drop (a1 : Int).toNat = y300 from Ny300.out.symm] at hr100
                replace hr100 : Kd.F (Kd.int .i64) _ _ A100 y300.length y300 := (by rw [hA100]; exact hr100)
                rw [← hy100, ← hA100, ← hc100] at hcut100
                have HO304 := am (show Kd.V (Kd.int .i64) 2 _ w.heap.size _ (.slice A100 y300.length c100) y300 from Kd.V_mk (by rw [hy100, hc100]; exact Nat.sub_le_sub_right (Nat.le_trans (by omega) hroom100) _) hr100)
                have HC304 := am (show y300.length ≤ c100 from by rw [hy100, hc100]; exact Nat.sub_le_sub_right (Nat.le_trans (by omega) hroom100) _)
                clear hr100 hC100 hroom100 hi0100 hsz100 hc100
                have KY100 := am hy100
                have KA100 := am hA100
                clear hy100 hA100
                replace q100 := eq_true q100
                refine start_ (n := 9) (S := fun w' => w'.cell? ⟨gb298, 0, none⟩ = some (.slice Ao59 t293.length co59) ∧ w'.cell? ⟨gb298, 1, none⟩ = some (.int .i64 x299001_89) ∧ w'.cell? ⟨gb298, 2, none⟩ = some (.int .i64 t297) ∧ w'.cell? ⟨gb272, 0, none⟩ = some (.slice A0_0 l0_0.length c0_0) ∧ w'.cell? ⟨gb272, 1, none⟩ = some (.int .i64 a0_1) ∧ w'.cell? ⟨gb272, 2, none⟩ = some (.int .i64 a0_2) ∧ w'.cell? ⟨gb273, 0, none⟩ = some (.int .i64 a1) ∧ w'.cell? ⟨gb274, 0, none⟩ = some (.int .i64 a2)) (ds := []) #[false, false, false, false, false, false, false, false, false] (by kernel_rfl) rfl rfl ⟨bc BK298.out 0, bc BK298.out 1, bc BK298.out 2, bc BK272.out 0, bc BK272.out 1, bc BK272.out 2, bc BK273.out 0, bc BK274.out 0⟩ (fun hHeld => ?_); refine with_tabW impl_replace.tab10 impl_replace.bits10 (fun HT_ HW_ => ?_)
                generalize wc.drew = w99 at HO_273000 HO_299000 BK272 BK273 BK274 BK275 BK278 BK298 HB HO304 hHeld ⊢
                refine pure_ (i := 1) (N := some 76) (v := ?_) (a' := ?_) #[false, true, false, false, false, false, false, false, false] rfl rfl (any_of HT_.out (by kernel_rfl)) (fun _ _ _ h => h) (Or.inl ⟨by rfl, ?_⟩) ?_ ?_; rotate_left
                ·intro w'; go_simp; with_reducible rfl
                rotate_left
                ·simp only [Act.put, sa_, s0_, ss_, i64_w, i32_w]; rfl
                refine take_ (i := 0) (N := some 75) (v := ?_) (a' := ?_) #[true, true, false, false, false, false, false, false, false] rfl rfl (take_ofW HT_.out HW_.out (by kernel_rfl)) (fun _ _ _ h => h) (Or.inl ⟨by rfl, ?_⟩) hHeld ?_ ?_; rotate_left
                ·rintro w' ⟨s0, s1, s2, s3, s4, s5, s6, s7⟩; go_simp; with_reducible rfl
                rotate_left
                ·simp only [Act.put, sa_, s0_, ss_, i64_w, i32_w]; rfl
                refine take_ (i := 2) (N := some 77) (v := ?_) (a' := ?_) #[true, true, true, false, false, false, false, false, false] rfl rfl (take_ofW HT_.out HW_.out (by kernel_rfl)) (fun _ _ _ h => h) (Or.inl ⟨by rfl, ?_⟩) hHeld ?_ ?_; rotate_left
                ·rintro w' ⟨s0, s1, s2, s3, s4, s5, s6, s7⟩; go_simp; with_reducible rfl
                rotate_left
                ·simp only [Act.put, sa_, s0_, ss_, i64_w, i32_w]; rfl
                refine take_ (i := 3) (N := some 78) (v := ?_) (a' := ?_) #[true, true, true, true, false, false, false, false, false] rfl rfl (take_ofW HT_.out HW_.out (by kernel_rfl)) (fun _ _ _ h => h) (Or.inl ⟨by rfl, ?_⟩) hHeld ?_ ?_; rotate_left
                ·rintro w' ⟨s0, s1, s2, s3, s4, s5, s6, s7⟩; go_simp; with_reducible rfl
                rotate_left
                ·simp only [Act.put, sa_, s0_, ss_, i64_w, i32_w]; rfl
                refine take_ (i := 4) (N := some 79) (v := ?_) (a' := ?_) #[true, true, true, true, true, false, false, false, false] rfl rfl (take_ofW HT_.out HW_.out (by kernel_rfl)) (fun _ _ _ h => h) (Or.inl ⟨by rfl, ?_⟩) hHeld ?_ ?_; rotate_left
                ·rintro w' ⟨s0, s1, s2, s3, s4, s5, s6, s7⟩; go_simp; with_reducible rfl
                rotate_left
                ·simp only [Act.put, sa_, s0_, ss_, i64_w, i32_w]; rfl
                refine pure_ (i := 5) (N := some 80) (v := ?_) (a' := ?_) #[true, true, true, true, true, true, false, false, false] rfl rfl (any_of HT_.out (by kernel_rfl)) (fun _ _ _ h => h) (Or.inl ⟨by rfl, ?_⟩) ?_ ?_; rotate_left
                ·intro w'; go_simp; with_reducible rfl
                rotate_left
                ·simp only [Act.put, sa_, s0_, ss_, i64_w, i32_w]; rfl
                refine one_ (i := 6) (N := some 81) #[true, true, true, true, true, true, true, false, false] rfl rfl (one_of HT_.out (by kernel_rfl)) (by decide) (fun K hK => ?_)
                refine gs_ Try.func72 #[.slice A100 y300.length c100] ?_
                with_reducible refine (slices_Clone_sint64_int64.calls _ _ y300 t305 _ ?side1 ?side2 A98.out).mono ?_
                (case side1 => repeat (first | exact (Kd.V_reads' HO304.out).2.2 | (with_reducible refine Kd.C_alloc ?_ _) | (with_reducible refine Kd.C_drewN ?_ _) | (with_reducible refine Kd.C_drew ?_)))
                (case side2 => exact (Kd.V_reads' HO304.out).2.1)
                rintro e w101 ⟨v306, rfl, ho0, hb⟩
                refine ⟨_, rfl, ?_⟩
                replace HO_273000 := am (Kd.V_elder' (kv HO_273000.out) (Kd.R_base ho0) hb)
                replace HO304 := am (Kd.V_elder' (kv HO304.out) (Kd.R_base ho0) hb)
                have HO307 := am (Kd.R_lower (Kd.R_newB (Kd.R_newB (Kd.R_newB (Kd.R_new' (Kd.R_newM (M := fun k_ => (w.heap.size ≤ k_)) ho0 (below_size (bl HB.out)) (fun k_ h_ => h_)) (Kd.R_lt (kr HO_299000.out))) (g := gb273) (o := .cells #[.int .i64 a1] 2 (0, 0)) (pk BK273.out)) (g := gb274) (o := .cells #[.int .i64 a2] 2 (0, 0)) (pk BK274.out)) (g := gb278) (o := .cells #[.int .i64 (wrap64 (t277 - (wrap64 (a2 - a1))))] 2 (0, 0)) (pk BK278.out)) (below_size (bl HB.out)))
                replace HO_299000 := am (Kd.R_elder' (kr HO_299000.out) (Kd.R_base ho0) hb)
                replace BK272 := am (blk_below (pk BK272.out) hb)
                replace BK273 := am (blk_below (pk BK273.out) hb)
                replace BK274 := am (blk_below (pk BK274.out) hb)
                replace BK275 := am (blk_below (pk BK275.out) hb)
                replace BK278 := am (blk_below (pk BK278.out) hb)
                replace BK298 := am (blk_below (pk BK298.out) hb)
                replace HB := am (below_step (bl HB.out) hb)
                (try clear hb)
                (try clear hb2)
                (try clear hk)
                (try clear hi)
                (try clear ho0)
                obtain ⟨Ao102, co102, eo102⟩ := Kd.R_slice HO307.out
                (first | subst eo102 | (injection eo102 with f1_ f2_ f3_; have f4_ := f1_.symm; have f5_ := f3_.symm; clear f1_ f2_ f3_; subst f4_; subst f5_))
                refine hK.out _ _ ⟨bc BK298.out 0, bc BK298.out 1, bc BK298.out 2, bc BK272.out 0, bc BK272.out 1, bc BK272.out 2, bc BK273.out 0, bc BK274.out 0⟩ (fun hHeld => ?_)
                clear hK K
                refine norm_ (a' := ?_) ?_ ?_
                rotate_left
                ·show Act.put _ (some 81) _ = _
                 simp only [Act.put, sa_, s0_, ss_, i64_w, i32_w]
                 rfl
                refine pure_ (i := 7) (N := some 82) (v := ?_) (a' := ?_) #[true, true, true, true, true, true, true, true, false] rfl rfl (any_of HT_.out (by kernel_rfl)) (fun _ _ _ h => h) (Or.inl ⟨by rfl, ?_⟩) ?_ ?_; rotate_left
                ·intro w'; go_simp; with_reducible rfl
                rotate_left
                ·simp only [Act.put, sa_, s0_, ss_, i64_w, i32_w]; rfl
                refine one_ (i := 8) (N := none) #[true, true, true, true, true, true, true, true, true] rfl rfl (one_of HT_.out (by kernel_rfl)) (by decide) (fun K hK => ?_)
                have hs103 : w101.cell? ⟨gb275, 0, none⟩ = some (.slice none 0 0) := bc BK275.out 0
                have hfs103 := blk_frozen BK275.out 0
                have hns103_0 := NB272_275.out
                have hns103_1 := NB273_275.out
                have hns103_2 := NB274_275.out
                have hns103_4 := NB278_275.out
                have hns103_5 := NB298_275.out
                have hms103_0 := NB275_272.out
                have hms103_1 := NB275_273.out
                have hms103_2 := NB275_274.out
                have hms103_4 := NB275_278.out
                have hms103_5 := NB275_298.out
                have hs104 : w101.cell? ⟨gb275, 1, none⟩ = some (.int .i64 0) := bc BK275.out 1
                have hfs104 := blk_frozen BK275.out 1
                have hs105 : w101.cell? ⟨gb275, 2, none⟩ = some (.int .i64 0) := bc BK275.out 2
                have hfs105 := blk_frozen BK275.out 2
                have hs106 : w101.cell? ⟨gb275, 3, none⟩ = some (.slice none 0 0) := bc BK275.out 3
                have hfs106 := blk_frozen BK275.out 3
                have hs107 : w101.cell? ⟨gb275, 4, none⟩ = some (.int .i64 0) := bc BK275.out 4
                have hfs107 := blk_frozen BK275.out 4
                refine skip_ (w1 := ?_) (by rfl) rfl ?_ ?_
                rotate_left
                ·go_simp
                 rfl
                refine hK.out _ _ ⟨((cell_far (p := ⟨gb275, _, none⟩) NB298_275.out _).trans (((cell_far (p := ⟨gb275, _, none⟩) NB298_275.out _).trans (((cell_far (p := ⟨gb275, _, none⟩) NB298_275.out _).trans (((cell_far (p := ⟨gb275, _, none⟩) NB298_275.out _).trans (((cell_far (p := ⟨gb275, _, none⟩) NB298_275.out _).trans (hHeld.1)))))))))), ((cell_far (p := ⟨gb275, _, none⟩) NB298_275.out _).trans (((cell_far (p := ⟨gb275, _, none⟩) NB298_275.out _).trans (((cell_far (p := ⟨gb275, _, none⟩) NB298_275.out _).trans (((cell_far (p := ⟨gb275, _, none⟩) NB298_275.out _).trans (((cell_far (p := ⟨gb275, _, none⟩) NB298_275.out _).trans (hHeld.2.1)))))))))), ((cell_far (p := ⟨gb275, _, none⟩) NB298_275.out _).trans (((cell_far (p := ⟨gb275, _, none⟩) NB298_275.out _).trans (((cell_far (p := ⟨gb275, _, none⟩) NB298_275.out _).trans (((cell_far (p := ⟨gb275, _, none⟩) NB298_275.out _).trans (((cell_far (p := ⟨gb275, _, none⟩) NB298_275.out _).trans (hHeld.2.2.1)))))))))), ((cell_far (p := ⟨gb275, _, none⟩) NB272_275.out _).trans (((cell_far (p := ⟨gb275, _, none⟩) NB272_275.out _).trans (((cell_far (p := ⟨gb275, _, none⟩) NB272_275.out _).trans (((cell_far (p := ⟨gb275, _, none⟩) NB272_275.out _).trans (((cell_far (p := ⟨gb275, _, none⟩) NB272_275.out _).trans (hHeld.2.2.2.1)))))))))), ((cell_far (p := ⟨gb275, _, none⟩) NB272_275.out _).trans (((cell_far (p := ⟨gb275, _, none⟩) NB272_275.out _).trans (((cell_far (p := ⟨gb275, _, none⟩) NB272_275.out _).trans (((cell_far (p := ⟨gb275, _, none⟩) NB272_275.out _).trans (((cell_far (p := ⟨gb275, _, none⟩) NB272_275.out _).trans (hHeld.2.2.2.2.1)))))))))), ((cell_far (p := ⟨gb275, _, none⟩) NB272_275.out _).trans (((cell_far (p := ⟨gb275, _, none⟩) NB272_275.out _).trans (((cell_far (p := ⟨gb275, _, none⟩) NB272_275.out _).trans (((cell_far (p := ⟨gb275, _, none⟩) NB272_275.out _).trans (((cell_far (p := ⟨gb275, _, none⟩) NB272_275.out _).trans (hHeld.2.2.2.2.2.1)))))))))), ((cell_far (p := ⟨gb275, _, none⟩) NB273_275.out _).trans (((cell_far (p := ⟨gb275, _, none⟩) NB273_275.out _).trans (((cell_far (p := ⟨gb275, _, none⟩) NB273_275.out _).trans (((cell_far (p := ⟨gb275, _, none⟩) NB273_275.out _).trans (((cell_far (p := ⟨gb275, _, none⟩) NB273_275.out _).trans (hHeld.2.2.2.2.2.2.1)))))))))), ((cell_far (p := ⟨gb275, _, none⟩) NB274_275.out _).trans (((cell_far (p := ⟨gb275, _, none⟩) NB274_275.out _).trans (((cell_far (p := ⟨gb275, _, none⟩) NB274_275.out _).trans (((cell_far (p := ⟨gb275, _, none⟩) NB274_275.out _).trans (((cell_far (p := ⟨gb275, _, none⟩) NB274_275.out _).trans (hHeld.2.2.2.2.2.2.2))))))))))⟩ (fun hHeld => ?_)
                clear hK K
                refine done_ (done_of HT_.out (by kernel_rfl)) ?_
                try go_wp2
                refine bodyPost_ret (results_cell_row rfl _ _ gb275 28 #[.slice Ao59 t293.length co59, .int .i64 x299001_89, .int .i64 t297, .slice Ao102 t305.length co102, .int .i64 0] (0, 0) _ rfl (by refine pk ?_; refine blk_put (cs := #[.slice Ao59 t293.length co59, .int .i64 x299001_89, .int .i64 t297, .slice Ao102 t305.length co102, .int .i64 0]) ?_ 4 _ rfl; refine pk ?_; refine blk_put (cs := #[.slice Ao59 t293.length co59, .int .i64 x299001_89, .int .i64 t297, .slice none 0 0, .int .i64 0]) ?_ 3 _ rfl; refine pk ?_; refine blk_put (cs := #[.slice Ao59 t293.length co59, .int .i64 x299001_89, .int .i64 0, .slice none 0 0, .int .i64 0]) ?_ 2 _ rfl; refine pk ?_; refine blk_put (cs := #[.slice Ao59 t293.length co59, .int .i64 0, .int .i64 0, .slice none 0 0, .int .i64 0]) ?_ 1 _ rfl; refine pk ?_; refine blk_put (cs := #[.slice none 0 0, .int .i64 0, .int .i64 0, .slice none 0 0, .int .i64 0]) ?_ 0 _ rfl; refine pk ?_; exact BK275.out) Try.underlying28 rfl (by kernel_rfl)) rfl ?_
                exact ⟨_, _, by first | rfl | (simp [errW_none, errW_some] <;> rfl) | (simp [*, errW_none, errW_some] <;> rfl), kr (Kd.R_mono (Kd.R_far (p := ⟨gb275, 4, none⟩) (Kd.R_far (p := ⟨gb275, 3, none⟩) (Kd.R_far (p := ⟨gb275, 2, none⟩) (Kd.R_far (p := ⟨gb275, 1, none⟩) (Kd.R_far (p := ⟨gb275, 0, none⟩) (Kd.R_types HO_299000.out BK275.out (by decide)) (fun _ hk => hk.2) (.slice Ao59 t293.length co59)) (fun _ hk => hk.2) (.int .i64 x299001_89)) (fun _ hk => hk.2) (.int .i64 t297)) (fun _ hk => hk.2) (.slice Ao102 t305.length co102)) (fun _ hk => hk.2) (.int .i64 0)) (fun _ hk => ⟨hk.1.1.1, hk.1.2⟩)), kr (Kd.R_mono (Kd.R_far (p := ⟨gb275, 4, none⟩) (Kd.R_far (p := ⟨gb275, 3, none⟩) (Kd.R_far (p := ⟨gb275, 2, none⟩) (Kd.R_far (p := ⟨gb275, 1, none⟩) (Kd.R_far (p := ⟨gb275, 0, none⟩) (Kd.R_types HO307.out BK275.out (by decide)) (fun _ hk => hk.2) (.slice Ao59 t293.length co59)) (fun _ hk => hk.2) (.int .i64 x299001_89)) (fun _ hk => hk.2) (.int .i64 t297)) (fun _ hk => hk.2) (.slice Ao102 t305.length co102)) (fun _ hk => hk.2) (.int .i64 0)) (fun _ hk => ⟨hk.1.1.1.1.1.1, hk.1.1.1.1.2⟩)), by repeat (first | (with_reducible first | exact HB.out | apply below_alloc | apply pw_below_drewN | apply below_drew1 | refine below_set ?_ GE272.out | refine below_set ?_ GE273.out | refine below_set ?_ GE274.out | refine below_set ?_ GE275.out | refine below_set ?_ GE278.out | refine below_set ?_ GE298.out) | exact HB.out)⟩
               ·rw [if_neg c97] at H
                exact absurd H (by simp)
              ·rw [if_neg c96] at H
               exact absurd H (by simp)
             ·rw [if_neg c95] at H
              exact absurd H (by simp)
        ·rw [if_neg c38] at H
         exact absurd H (by simp)
       ·rw [if_neg c37] at H
        exact absurd H (by simp)
      ·rw [if_neg c36] at H
       exact absurd H (by simp)
     ·rw [if_neg c35] at H
      exact absurd H (by simp)

end Go.Proofs.Ytejgkbejdkaccaa.PFnExactRingPop
