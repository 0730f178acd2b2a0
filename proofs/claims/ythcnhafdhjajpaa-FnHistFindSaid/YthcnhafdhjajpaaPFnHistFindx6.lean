-- Written by xprint.py (this claim's own program, over the kit's printer); Lean checks it.
import Derived.Test.YthcnhafdhjajpaaPFnHistFindx0
import Derived.Test.YthcnhafdhjajpaaPFnHistFindx1
import Derived.Test.YthcnhafdhjajpaaPFnHistFindx2
import Derived.Test.YthcnhafdhjajpaaPFnHistFindx3
import Derived.Test.YthcnhafdhjajpaaPFnHistFindx5
namespace Go.Proofs.Ythcnhafdhjajpaa.PFnHistFind
open Go.RowKit Go.Proofs.YthcnhafdhjajpaaW.PrintWords Go.Proofs.YthcnhafdhjajpaaW.PrintLast Go.Proofs.YthcnhafdhjajpaaW.PrintMore
attribute [local go_sem] max2_int min2_int max_two min_two max_three min_three max_four min_four   -- for this text's walks alone
set_option linter.unusedVariables false
set_option linter.unusedSimpArgs false   -- squeezed

/-! ### spec_l01Src_l06Hist: function 65 -/
mutual
def spec_l01Src_l06Hist.j0 : Nat → Int → List Int → Int → Int → Int → Int → Option ((List (List Int)) × Int × List Int × Int × Int × Int)
 | 0, _, _, _, _, _, _ => none
 | k + 1, x4, x1000, x1001, x1002, x1003, x211001 => spec_l01Src_l06Hist.l0 k x4 x1000 x1001 x1002 x1003 ([] : List (List Int)) x211001
def spec_l01Src_l06Hist.l0 : Nat → Int → List Int → Int → Int → Int → List (List Int) → Int → Option ((List (List Int)) × Int × List Int × Int × Int × Int)
 | 0, _, _, _, _, _, _, _ => none
 | k + 1, x4, x1000, x1001, x1002, x1003, x211000, x211001 => if x4 > 0 then ((spec_l01Src_l06Line.f k x1000 x1001 x1002 x1003).bind fun bt223 => (if x211000.length < 5864062014805 then (spec_l01Src_l06Hist.l0 k (wrap64 (x4 - 1)) x1000 bt223.2.1 bt223.2.2.1 bt223.2.2.2 (x211000 ++ [bt223.1]) x211001) else (none))) else ((spec_l01Src_n.f x1000 x1001 x1002 x1003 (wrap64 ((x211000.length : Int) + 1))).bind fun bt232 => ((spec_l01Src_one.f x1000 bt232.2.1 bt232.2.2.1 bt232.2.2.2 2).bind fun bt236 => (if bt236.1 = true then (spec_l01Src_l06Hist.j2 k x1000 bt236.2.1 bt236.2.2.1 bt236.2.2.2 x211000 (x211000.length : Int)) else (spec_l01Src_l06Hist.j2 k x1000 bt236.2.1 bt236.2.2.1 bt236.2.2.2 x211000 bt232.1))))
def spec_l01Src_l06Hist.j2 : Nat → List Int → Int → Int → Int → List (List Int) → Int → Option ((List (List Int)) × Int × List Int × Int × Int × Int)
 | 0, _, _, _, _, _, _ => none
 | k + 1, x1000, x1001, x1002, x1003, x211000, x211001 => (spec_l01Src_n.f x1000 x1001 x1002 x1003 4).bind fun bt240 => ((spec_l01Src_points.f k x1000 bt240.2.1 bt240.2.2.1 bt240.2.2.2 bt240.1).bind fun bt244 => ((spec_l01Src_one.f x1000 bt244.2.1 bt244.2.2.1 bt244.2.2.2 20).bind fun bt250 => (if bt250.1 = true then ((spec_l01Src_n.f x1000 bt250.2.1 bt250.2.2.1 bt250.2.2.2 3).bind fun bt254 => (if bt254.1 = 0 then ((some (([(-1), wrap64 ((x211000.length : Int) + 1)] : List Int) : List Int)).bind fun y258 => ((spec_l01Src_n.f x1000 bt254.2.1 bt254.2.2.1 bt254.2.2.2 2).bind fun bt261 => (if 0 ≤ bt261.1 then (if bt261.1 < (y258.length : Int) then (some (x211000, rd y258 bt261.1, bt244.1, bt261.2.1, bt261.2.2.1, bt261.2.2.2)) else (none)) else (none)))) else (if bt254.1 = 1 then (if x211000.length < 5864062014805 then (some ((x211000 ++ [(([] : List Int))]), x211001, bt244.1, bt254.2.1, bt254.2.2.1, bt254.2.2.2)) else (none)) else (some (x211000, x211001, (([(-1)] : List Int)), bt254.2.1, bt254.2.2.1, bt254.2.2.2))))) else (some (x211000, x211001, bt244.1, bt250.2.1, bt250.2.2.1, bt250.2.2.2)))))
end
def spec_l01Src_l06Hist.f (k : Nat) (s0_0 : List Int) (s0_1 : Int) (s0_2 : Int) (s0_3 : Int) : Option ((List (List Int)) × Int × List Int × Int × Int × Int) := (spec_l01Src_n.f s0_0 s0_1 s0_2 s0_3 6).bind fun bt211 => ((spec_l01Src_one.f s0_0 bt211.2.1 bt211.2.2.1 bt211.2.2.2 12).bind fun bt215 => (if bt215.1 = true then ((spec_l01Src_n.f s0_0 bt215.2.1 bt215.2.2.1 bt215.2.2.2 3).bind fun bt219 => (spec_l01Src_l06Hist.j0 k (wrap64 (29 + bt219.1)) s0_0 bt219.2.1 bt219.2.2.1 bt219.2.2.2 0)) else (spec_l01Src_l06Hist.j0 k bt211.1 s0_0 bt215.2.1 bt215.2.2.1 bt215.2.2.2 0)))
theorem spec_l01Src_l06Hist.mono_l : ∀ k, (∀ y0 y1 y2 y3 y4 y5, LeO (spec_l01Src_l06Hist.j0 k y0 y1 y2 y3 y4 y5) (spec_l01Src_l06Hist.j0 (k + 1) y0 y1 y2 y3 y4 y5)) ∧ (∀ y0 y1 y2 y3 y4 y5 y6, LeO (spec_l01Src_l06Hist.l0 k y0 y1 y2 y3 y4 y5 y6) (spec_l01Src_l06Hist.l0 (k + 1) y0 y1 y2 y3 y4 y5 y6)) ∧ (∀ y0 y1 y2 y3 y4 y5, LeO (spec_l01Src_l06Hist.j2 k y0 y1 y2 y3 y4 y5) (spec_l01Src_l06Hist.j2 (k + 1) y0 y1 y2 y3 y4 y5))
 | 0 => ⟨fun _ _ _ _ _ _ r h => by simp [spec_l01Src_l06Hist.j0] at h, fun _ _ _ _ _ _ _ r h => by simp [spec_l01Src_l06Hist.l0] at h, fun _ _ _ _ _ _ r h => by simp [spec_l01Src_l06Hist.j2] at h⟩
 | k + 1 => by
  obtain ⟨ih0, ih1, ih2⟩ := spec_l01Src_l06Hist.mono_l k
  refine ⟨?_, ?_, ?_⟩
  ·intro y0 y1 y2 y3 y4 y5
   unfold spec_l01Src_l06Hist.j0
   repeat' first
   | (with_reducible exact ih0 _ _ _ _ _ _)
   | (with_reducible exact ih1 _ _ _ _ _ _ _)
   | (with_reducible exact ih2 _ _ _ _ _ _)
   | (with_reducible exact spec_l01Src_l06Line.mono _ _ _ _ _)
   | (with_reducible exact spec_l01Src_points.mono _ _ _ _ _ _)
   | (with_reducible exact LeO.refl _)
   | (with_reducible exact LeO.none _)
   | (with_reducible refine LeO.ite ?_ ?_)
   | (with_reducible refine LeO.bind ?_ (fun _ => ?_))
   | exact ih0 _ _ _ _ _ _
   | exact ih1 _ _ _ _ _ _ _
   | exact ih2 _ _ _ _ _ _
   | exact spec_l01Src_l06Line.mono _ _ _ _ _
   | exact spec_l01Src_points.mono _ _ _ _ _ _
   | exact LeO.none _
   | refine LeO.ite ?_ ?_
   | refine LeO.bind ?_ (fun _ => ?_)
  ·intro y0 y1 y2 y3 y4 y5 y6
   unfold spec_l01Src_l06Hist.l0
   repeat' first
   | (with_reducible exact ih0 _ _ _ _ _ _)
   | (with_reducible exact ih1 _ _ _ _ _ _ _)
   | (with_reducible exact ih2 _ _ _ _ _ _)
   | (with_reducible exact spec_l01Src_l06Line.mono _ _ _ _ _)
   | (with_reducible exact spec_l01Src_points.mono _ _ _ _ _ _)
   | (with_reducible exact LeO.refl _)
   | (with_reducible exact LeO.none _)
   | (with_reducible refine LeO.ite ?_ ?_)
   | (with_reducible refine LeO.bind ?_ (fun _ => ?_))
   | exact ih0 _ _ _ _ _ _
   | exact ih1 _ _ _ _ _ _ _
   | exact ih2 _ _ _ _ _ _
   | exact spec_l01Src_l06Line.mono _ _ _ _ _
   | exact spec_l01Src_points.mono _ _ _ _ _ _
   | exact LeO.none _
   | refine LeO.ite ?_ ?_
   | refine LeO.bind ?_ (fun _ => ?_)
  ·intro y0 y1 y2 y3 y4 y5
   unfold spec_l01Src_l06Hist.j2
   repeat' first
   | (with_reducible exact ih0 _ _ _ _ _ _)
   | (with_reducible exact ih1 _ _ _ _ _ _ _)
   | (with_reducible exact ih2 _ _ _ _ _ _)
   | (with_reducible exact spec_l01Src_l06Line.mono _ _ _ _ _)
   | (with_reducible exact spec_l01Src_points.mono _ _ _ _ _ _)
   | (with_reducible exact LeO.refl _)
   | (with_reducible exact LeO.none _)
   | (with_reducible refine LeO.ite ?_ ?_)
   | (with_reducible refine LeO.bind ?_ (fun _ => ?_))
   | exact ih0 _ _ _ _ _ _
   | exact ih1 _ _ _ _ _ _ _
   | exact ih2 _ _ _ _ _ _
   | exact spec_l01Src_l06Line.mono _ _ _ _ _
   | exact spec_l01Src_points.mono _ _ _ _ _ _
   | exact LeO.none _
   | refine LeO.ite ?_ ?_
   | refine LeO.bind ?_ (fun _ => ?_)
theorem spec_l01Src_l06Hist.mono : ∀ a0 a1 a2 a3 k, LeO (spec_l01Src_l06Hist.f k a0 a1 a2 a3) (spec_l01Src_l06Hist.f (k + 1) a0 a1 a2 a3) := by
 intro a0 a1 a2 a3 k
 obtain ⟨ih0, ih1, ih2⟩ := spec_l01Src_l06Hist.mono_l k
 unfold spec_l01Src_l06Hist.f
 repeat' first
   | (with_reducible exact ih0 _ _ _ _ _ _)
   | (with_reducible exact ih1 _ _ _ _ _ _ _)
   | (with_reducible exact ih2 _ _ _ _ _ _)
   | (with_reducible exact spec_l01Src_l06Line.mono _ _ _ _ _)
   | (with_reducible exact spec_l01Src_points.mono _ _ _ _ _ _)
   | (with_reducible exact LeO.refl _)
   | (with_reducible exact LeO.none _)
   | (with_reducible refine LeO.ite ?_ ?_)
   | (with_reducible refine LeO.bind ?_ (fun _ => ?_))
   | exact ih0 _ _ _ _ _ _
   | exact ih1 _ _ _ _ _ _ _
   | exact ih2 _ _ _ _ _ _
   | exact spec_l01Src_l06Line.mono _ _ _ _ _
   | exact spec_l01Src_points.mono _ _ _ _ _ _
   | exact LeO.none _
   | refine LeO.ite ?_ ?_
   | refine LeO.bind ?_ (fun _ => ?_)
def spec_l01Src_l06Hist.T7 : Bool × List (List Nat × List Nat) := (true, [([], []), ([0], [0]), ([], []), ([2], [2]), ([3], [3]), ([1, 4, 3], [1, 4]), ([0, 1, 2, 3, 4, 5], []), ([6, 5, 5, 0, 1, 2, 3, 4, 5], [5, 6])])
def spec_l01Src_l06Hist.B7 : List Nat := [0, 1, 0, 4, 12, 31, 63, 127]
theorem spec_l01Src_l06Hist.tab7 : rtab .any (opsOf Try.f65 7) = spec_l01Src_l06Hist.T7 := by kernel_rfl
theorem spec_l01Src_l06Hist.bits7 : waitsOk spec_l01Src_l06Hist.T7.2 spec_l01Src_l06Hist.B7 = true := by kernel_rfl
def spec_l01Src_l06Hist.T16 : Bool × List (List Nat × List Nat) := (true, [([], []), ([0], [0]), ([1], [1]), ([2], [2]), ([3], [3]), ([], []), ([5], [5]), ([4, 6], [4, 6]), ([7], [7]), ([0, 1, 2, 3, 4, 5, 6, 7, 8], []), ([9, 8, 6, 0, 1, 2, 3, 4, 5, 6, 7, 8], [8, 9])])
def spec_l01Src_l06Hist.B16 : List Nat := [0, 1, 3, 7, 15, 0, 32, 127, 255, 511, 1023]
theorem spec_l01Src_l06Hist.tab16 : rtab .any (opsOf Try.f65 16) = spec_l01Src_l06Hist.T16 := by kernel_rfl
theorem spec_l01Src_l06Hist.bits16 : waitsOk spec_l01Src_l06Hist.T16.2 spec_l01Src_l06Hist.B16 = true := by kernel_rfl
set_option maxHeartbeats 8000000 in
set_option maxRecDepth 100000 in
theorem spec_l01Src_l06Hist.calls (k : Nat) (g : Nat) (s0_0 : List Int) (s0_1 : Int) (s0_2 : Int) (s0_3 : Int) (r1 : List (List Int)) (r2 : Int) (r3 : List Int) (r4 : Int) (r5 : Int) (r6 : Int) (w0 w : World) (hI : IsS90 w0 w g s0_0 s0_1 s0_2 s0_3) (hB : Below w0.heap.size w0 w) (h : spec_l01Src_l06Hist.f k s0_0 s0_1 s0_2 s0_3 = some (r1, r2, r3, r4, r5, r6)) :
  Calls Try.prog 65 #[.pointer (some ⟨g, 0, none⟩)] w fun e w' => ∃ v0_ v2_ : Value, e = .returned (.agg #[v0_, .int .i64 r2, v2_]) ∧ Kd.S (Kd.slice 2 (Kd.int .i64)) 23 w' w.heap.size (fun k_ => some k_ ≠ (v2_ : Value).ownBlock) v0_ r1 ∧ Kd.R (Kd.int .i64) 2 w' w.heap.size (fun _ => True) v2_ r3 ∧ IsS90 w0 w' g s0_0 r4 r5 r6 ∧ Below w0.heap.size w0 w' ∧ KeepBut w w' g none := by
 have hu53 := Try.underlying53
 have HI0 := am hI
 have HK := am (KeepBut.refl w g none)
 have HL := am hB.size
 clear hI
 have HW0 := am hB.size
 have HB := am hB
 clear hB
 have H : ((spec_l01Src_n.f s0_0 s0_1 s0_2 s0_3 6).bind fun bt211 => ((spec_l01Src_one.f s0_0 bt211.2.1 bt211.2.2.1 bt211.2.2.2 12).bind fun bt215 => (if bt215.1 = true then ((spec_l01Src_n.f s0_0 bt215.2.1 bt215.2.2.1 bt215.2.2.2 3).bind fun bt219 => (spec_l01Src_l06Hist.j0 k (wrap64 (29 + bt219.1)) s0_0 bt219.2.1 bt219.2.2.1 bt219.2.2.2 0)) else (spec_l01Src_l06Hist.j0 k bt211.1 s0_0 bt215.2.1 bt215.2.2.1 bt215.2.2.2 0)))) = some (r1, r2, r3, r4, r5, r6) := h
 clear h
 replace H := Option.bind_eq_some_iff.mp H
 obtain ⟨⟨t211, t212, t213, t214⟩, A20, H⟩ := H
 replace H : ((spec_l01Src_one.f s0_0 t212 t213 t214 12).bind fun bt215 => (if bt215.1 = true then ((spec_l01Src_n.f s0_0 bt215.2.1 bt215.2.2.1 bt215.2.2.2 3).bind fun bt219 => (spec_l01Src_l06Hist.j0 k (wrap64 (29 + bt219.1)) s0_0 bt219.2.1 bt219.2.2.1 bt219.2.2.2 0)) else (spec_l01Src_l06Hist.j0 k t211 s0_0 bt215.2.1 bt215.2.2.1 bt215.2.2.2 0))) = some (r1, r2, r3, r4, r5, r6) := H
 have A2 := Aside0.mk A20
 clear A20
 replace H := Option.bind_eq_some_iff.mp H
 obtain ⟨⟨t215, t216, t217, t218⟩, A30, H⟩ := H
 replace H : (if t215 = true then ((spec_l01Src_n.f s0_0 t216 t217 t218 3).bind fun bt219 => (spec_l01Src_l06Hist.j0 k (wrap64 (29 + bt219.1)) s0_0 bt219.2.1 bt219.2.2.1 bt219.2.2.2 0)) else (spec_l01Src_l06Hist.j0 k t211 s0_0 t216 t217 t218 0)) = some (r1, r2, r3, r4, r5, r6) := H
 have A3 := Aside0.mk A30
 clear A30
 have HC4 := Aside0.mk H
 clear H
 go_enter Try.func65, Try.ntmps65
 go_upto_if 9 with (first | ((with_reducible refine gate_dst (N := 2) rfl ?_); refine box_event ?hg (N := 2) ?hd (cs := #[.slice none 0 0, .int .i64 0, .slice none 0 0]) (t := 53) ?hr ?_; (case hd => rfl); (case hg => rfl); (case hr => first | (go_simp; done) | (go_simp; rfl)); intro gb209 hg w5 hbox hb; have n0_ := am (IsS90.below (by repeat (first | (with_reducible first | exact HI0.out | apply IsS90.alloc | apply IsS90.drewN | apply IsS90.drew | apply IsS90.set_1 | apply IsS90.set_2 | apply IsS90.set_3) | exact HI0.out)) hb); have n1_ := am (KeepBut.trans (by repeat (first | (with_reducible first | exact HK.out | apply KeepBut.set_ | apply keep_drewN | apply keep_drew | apply keep_alloc) | exact HK.out)) (KeepBut.of_below hb g none) (.inl rfl)); have n2_ := am (below_step (by repeat (first | (with_reducible first | exact HB.out | apply below_alloc | apply pw_below_drewN | apply below_drew1 | refine below_set ?_ (IsS90.ge HI0.out)) | exact HB.out)) hb); have n3_ := am (hbox); have n4_ := am ((by rw [hg]; exact (keep_size (w := w) (g := g) (row := none) (by repeat (first | (with_reducible first | exact HK.out | apply KeepBut.set_ | apply keep_drewN | apply keep_drew | apply keep_alloc) | exact HK.out))) : w.heap.size ≤ gb209)); have n5_ := am ((Nat.le_trans HW0.out (by rw [hg]; exact (keep_size (w := w) (g := g) (row := none) (by repeat (first | (with_reducible first | exact HK.out | apply KeepBut.set_ | apply keep_drewN | apply keep_drew | apply keep_alloc) | exact HK.out))) : w.heap.size ≤ gb209) : w0.heap.size ≤ gb209)); have n6_ := am ((by rw [hg]; exact Nat.ne_of_lt (IsS90.lt (show IsS90 w0 _ g s0_0 s0_1 s0_2 s0_3 from by repeat (first | (with_reducible first | exact HI0.out | apply IsS90.alloc | apply IsS90.drewN | apply IsS90.drew | apply IsS90.set_1 | apply IsS90.set_2 | apply IsS90.set_3) | exact HI0.out))) : g ≠ gb209)); have n7_ := am ((by rw [hg]; exact Nat.ne_of_gt (IsS90.lt (show IsS90 w0 _ g s0_0 s0_1 s0_2 s0_3 from by repeat (first | (with_reducible first | exact HI0.out | apply IsS90.alloc | apply IsS90.drewN | apply IsS90.drew | apply IsS90.set_1 | apply IsS90.set_2 | apply IsS90.set_3) | exact HI0.out))) : gb209 ≠ g)); clear HI0; clear HK; clear HB; have HI0 := n0_; have HK := n1_; have HB := n2_; have BK209 := n3_; have GW209 := n4_; have GE209 := n5_; have NB0_209 := n6_; have NB209_0 := n7_; clear n0_ n1_ n2_ n3_ n4_ n5_ n6_ n7_; clear hb hbox hg) | ((with_reducible refine gate_dst (N := 3) rfl ?_); refine box_event ?hg (N := 3) ?hd (cs := #[.slice none 0 0, .int .i64 0, .slice none 0 0]) (t := 53) ?hr ?_; (case hd => rfl); (case hg => rfl); (case hr => first | (go_simp; done) | (go_simp; rfl)); intro gb210 hg w6 hbox hb; have n0_ := am (IsS90.below (by repeat (first | (with_reducible first | exact HI0.out | apply IsS90.alloc | apply IsS90.drewN | apply IsS90.drew | apply IsS90.set_1 | apply IsS90.set_2 | apply IsS90.set_3 | refine IsS90.far ?_ NB0_209.out _) | exact HI0.out)) hb); have n1_ := am (blk_below (g := gb209) (o := .cells #[.slice none 0 0, .int .i64 0, .slice none 0 0] 53 (0, 0)) (pk BK209.out) hb); have n2_ := am (KeepBut.trans (by repeat (first | (with_reducible first | exact HK.out | apply KeepBut.set_ | apply keep_drewN | apply keep_drew | apply keep_alloc | refine keep_far ?_ GW209.out _) | exact HK.out)) (KeepBut.of_below hb g none) (.inl rfl)); have n3_ := am (below_step (by repeat (first | (with_reducible first | exact HB.out | apply below_alloc | apply pw_below_drewN | apply below_drew1 | refine below_set ?_ (IsS90.ge HI0.out) | refine below_set ?_ GE209.out) | exact HB.out)) hb); have n4_ := am (hbox); have n5_ := am ((by rw [hg]; exact (keep_size (w := w) (g := g) (row := none) (by repeat (first | (with_reducible first | exact HK.out | apply KeepBut.set_ | apply keep_drewN | apply keep_drew | apply keep_alloc | refine keep_far ?_ GW209.out _) | exact HK.out))) : w.heap.size ≤ gb210)); have n6_ := am ((Nat.le_trans HW0.out (by rw [hg]; exact (keep_size (w := w) (g := g) (row := none) (by repeat (first | (with_reducible first | exact HK.out | apply KeepBut.set_ | apply keep_drewN | apply keep_drew | apply keep_alloc | refine keep_far ?_ GW209.out _) | exact HK.out))) : w.heap.size ≤ gb210) : w0.heap.size ≤ gb210)); have n7_ := am ((by rw [hg]; exact Nat.ne_of_lt (blk_lt (g := gb209) (o := .cells #[.slice none 0 0, .int .i64 0, .slice none 0 0] 53 (0, 0)) (pk BK209.out)) : gb209 ≠ gb210)); have n8_ := am ((by rw [hg]; exact Nat.ne_of_gt (blk_lt (g := gb209) (o := .cells #[.slice none 0 0, .int .i64 0, .slice none 0 0] 53 (0, 0)) (pk BK209.out)) : gb210 ≠ gb209)); have n9_ := am ((by rw [hg]; exact Nat.ne_of_lt (IsS90.lt (show IsS90 w0 _ g s0_0 s0_1 s0_2 s0_3 from by repeat (first | (with_reducible first | exact HI0.out | apply IsS90.alloc | apply IsS90.drewN | apply IsS90.drew | apply IsS90.set_1 | apply IsS90.set_2 | apply IsS90.set_3 | refine IsS90.far ?_ NB0_209.out _) | exact HI0.out))) : g ≠ gb210)); have n10_ := am ((by rw [hg]; exact Nat.ne_of_gt (IsS90.lt (show IsS90 w0 _ g s0_0 s0_1 s0_2 s0_3 from by repeat (first | (with_reducible first | exact HI0.out | apply IsS90.alloc | apply IsS90.drewN | apply IsS90.drew | apply IsS90.set_1 | apply IsS90.set_2 | apply IsS90.set_3 | refine IsS90.far ?_ NB0_209.out _) | exact HI0.out))) : gb210 ≠ g)); clear HI0; clear BK209; clear HK; clear HB; have HI0 := n0_; have BK209 := n1_; have HK := n2_; have HB := n3_; have BK210 := n4_; have GW210 := n5_; have GE210 := n6_; have NB209_210 := n7_; have NB210_209 := n8_; have NB0_210 := n9_; have NB210_0 := n10_; clear n0_ n1_ n2_ n3_ n4_ n5_ n6_ n7_ n8_ n9_ n10_; clear hb hbox hg; have hnb7 := NB210_209.out; have hnc7 := NB209_210.out; have hnb8 := NB210_0.out; have hnc8 := NB0_210.out; have hcz9_0 : w6.cell? ⟨gb210, 0, none⟩ = some (.slice none 0 0) := (blk_cell BK210.out 0).trans rfl; have hcz9_1 : w6.cell? ⟨gb210, 1, none⟩ = some (.int .i64 0) := (blk_cell BK210.out 1).trans rfl; have hcz9_2 : w6.cell? ⟨gb210, 2, none⟩ = some (.slice none 0 0) := (blk_cell BK210.out 2).trans rfl; have hfz9_0 := blk_frozen BK210.out 0; have hfz9_1 := blk_frozen BK210.out 1; have hfz9_2 := blk_frozen BK210.out 2) | ((with_reducible refine gate_callee (f := 69) rfl ?_); refine gl (some 7) Try.func69 #[.pointer (some ⟨g, 0, none⟩), .int .i64 6] ?_; (with_reducible refine (spec_l01Src_n.calls g s0_0 s0_1 s0_2 s0_3 6 t211 t212 t213 t214 w0 _ ?side1 ?side2 A2.out).mono ?_); (case side1 => repeat (first | (with_reducible first | exact HI0.out | apply IsS90.alloc | apply IsS90.drewN | apply IsS90.drew | apply IsS90.set_1 | apply IsS90.set_2 | apply IsS90.set_3 | refine IsS90.far ?_ NB0_209.out _ | refine IsS90.far ?_ NB0_210.out _) | exact HI0.out)); (case side2 => repeat (first | (with_reducible first | exact HB.out | apply below_alloc | apply pw_below_drewN | apply below_drew1 | refine below_set ?_ (IsS90.ge HI0.out) | refine below_set ?_ GE209.out | refine below_set ?_ GE210.out) | exact HB.out)); rintro e w10 ⟨rfl, hi, hb, hk⟩; refine ⟨_, rfl, ?_⟩; have n0_ := am (KeepBut.blk hk (g' := gb209) (o := .cells #[.slice none 0 0, .int .i64 0, .slice none 0 0] 53 (0, 0)) (by (with_reducible repeat (first | refine blk_drewN ?_ _ | refine blk_drew ?_ | refine blk_alloc ?_ _)); refine blk_far ?_ NB209_210.out _; (with_reducible repeat (first | refine blk_drewN ?_ _ | refine blk_drew ?_ | refine blk_alloc ?_ _)); refine blk_far ?_ NB209_210.out _; (with_reducible repeat (first | refine blk_drewN ?_ _ | refine blk_drew ?_ | refine blk_alloc ?_ _)); refine blk_far ?_ NB209_210.out _; (with_reducible repeat (first | refine blk_drewN ?_ _ | refine blk_drew ?_ | refine blk_alloc ?_ _)); exact BK209.out) NB209_0.out (by simp)); have n1_ := am (KeepBut.blk hk (g' := gb210) (o := .cells #[.slice none 0 0, .int .i64 0, .slice none 0 0] 53 (0, 0)) (by (with_reducible repeat (first | refine blk_drewN ?_ _ | refine blk_drew ?_ | refine blk_alloc ?_ _)); refine blk_put (cs := #[.slice none 0 0, .int .i64 0, .slice none 0 0]) ?_ 2 _ rfl; (with_reducible repeat (first | refine blk_drewN ?_ _ | refine blk_drew ?_ | refine blk_alloc ?_ _)); refine blk_put (cs := #[.slice none 0 0, .int .i64 0, .slice none 0 0]) ?_ 1 _ rfl; (with_reducible repeat (first | refine blk_drewN ?_ _ | refine blk_drew ?_ | refine blk_alloc ?_ _)); refine blk_put (cs := #[.slice none 0 0, .int .i64 0, .slice none 0 0]) ?_ 0 _ rfl; (with_reducible repeat (first | refine blk_drewN ?_ _ | refine blk_drew ?_ | refine blk_alloc ?_ _)); exact BK210.out) NB210_0.out (by simp)); have n2_ := am (KeepBut.trans (by repeat (first | (with_reducible first | exact HK.out | apply KeepBut.set_ | apply keep_drewN | apply keep_drew | apply keep_alloc | refine keep_far ?_ GW209.out _ | refine keep_far ?_ GW210.out _) | exact HK.out)) hk (.inl rfl)); have n3_ := am (hb); have n4_ := am (hi); clear BK209; clear BK210; clear HK; clear HB; clear HI0; have BK209 := n0_; have BK210 := n1_; have HK := n2_; have HB := n3_; have HI0 := n4_; clear n0_ n1_ n2_ n3_ n4_; (try clear hb); (try clear hb2); (try clear hk); (try clear hi)) | ((with_reducible refine gate_callee (f := 66) rfl ?_); refine gl (some 9) Try.func66 #[.pointer (some ⟨g, 0, none⟩), .int .i64 12] ?_; (with_reducible refine (spec_l01Src_one.calls g s0_0 t212 t213 t214 12 t215 t216 t217 t218 w0 _ ?side1 ?side2 A3.out).mono ?_); (case side1 => repeat (first | (with_reducible first | exact HI0.out | apply IsS90.alloc | apply IsS90.drewN | apply IsS90.drew | apply IsS90.set_1 | apply IsS90.set_2 | apply IsS90.set_3 | refine IsS90.far ?_ NB0_209.out _ | refine IsS90.far ?_ NB0_210.out _) | exact HI0.out)); (case side2 => repeat (first | (with_reducible first | exact HB.out | apply below_alloc | apply pw_below_drewN | apply below_drew1 | refine below_set ?_ (IsS90.ge HI0.out) | refine below_set ?_ GE209.out | refine below_set ?_ GE210.out) | exact HB.out)); rintro e w11 ⟨rfl, hi, hb, hk⟩; refine ⟨_, rfl, ?_⟩; have n0_ := am (KeepBut.blk hk (g' := gb209) (o := .cells #[.slice none 0 0, .int .i64 0, .slice none 0 0] 53 (0, 0)) (pk BK209.out) NB209_0.out (by simp)); have n1_ := am (KeepBut.blk hk (g' := gb210) (o := .cells #[.slice none 0 0, .int .i64 0, .slice none 0 0] 53 (0, 0)) (pk BK210.out) NB210_0.out (by simp)); have n2_ := am (KeepBut.trans (by repeat (first | (with_reducible first | exact HK.out | apply KeepBut.set_ | apply keep_drewN | apply keep_drew | apply keep_alloc | refine keep_far ?_ GW209.out _ | refine keep_far ?_ GW210.out _) | exact HK.out)) hk (.inl rfl)); have n3_ := am (hb); have n4_ := am (hi); clear BK209; clear BK210; clear HK; clear HB; clear HI0; have BK209 := n0_; have BK210 := n1_; have HK := n2_; have HB := n3_; have HI0 := n4_; clear n0_ n1_ n2_ n3_ n4_; (try clear hb); (try clear hb2); (try clear hk); (try clear hi)))
 (try simp only [Act.put, List.setIfInBounds_toArray, List.set_cons_zero, List.set_cons_succ])
 go_cut [4] (fun v4 wc => ∃ (kq : Nat) (x4_3 : Int) (x1001_3 : Int) (x1002_3 : Int) (x1003_3 : Int), v4 = .int .i64 x4_3 ∧ Aside0 (spec_l01Src_l06Hist.j0 kq x4_3 s0_0 x1001_3 x1002_3 x1003_3 0 = some (r1, r2, r3, r4, r5, r6)) ∧ Aside0 (kq ≤ k) ∧ Aside0 (wc.heap[gb209]? = some (.cells #[(.slice none 0 0), .int .i64 0, (.slice none 0 0)] 53 (0, 0))) ∧ Aside0 (wc.heap[gb210]? = some (.cells #[(.slice none 0 0), .int .i64 0, (.slice none 0 0)] 53 (0, 0))) ∧ Aside0 (IsS90 w0 wc g s0_0 x1001_3 x1002_3 x1003_3) ∧ Aside0 (KeepBut w wc g none) ∧ Aside0 (Below w0.heap.size w0 wc))
 case first =>
  have H := HC4.out
  clear HC4
  by_cases c12 : t215 = true
  ·subst c12
   have H1 : ((spec_l01Src_n.f s0_0 t216 t217 t218 3).bind fun bt219 => (spec_l01Src_l06Hist.j0 k (wrap64 (29 + bt219.1)) s0_0 bt219.2.1 bt219.2.2.1 bt219.2.2.2 0)) = some (r1, r2, r3, r4, r5, r6) := by rw [if_pos rfl] at H; exact H
   clear H
   have H := H1
   clear H1
   replace H := Option.bind_eq_some_iff.mp H
   obtain ⟨⟨t219, t220, t221, t222⟩, A130, H⟩ := H
   replace H : (spec_l01Src_l06Hist.j0 k (wrap64 (29 + t219)) s0_0 t220 t221 t222 0) = some (r1, r2, r3, r4, r5, r6) := H
   have A13 := Aside0.mk A130
   clear A130
   have H' := Aside0.mk H
   clear H
   go_wp2_with (first | ((with_reducible refine gate_callee (f := 69) rfl ?_); refine gl (some 11) Try.func69 #[.pointer (some ⟨g, 0, none⟩), .int .i64 3] ?_; (with_reducible refine (spec_l01Src_n.calls g s0_0 t216 t217 t218 3 t219 t220 t221 t222 w0 _ ?side1 ?side2 A13.out).mono ?_); (case side1 => repeat (first | (with_reducible first | exact HI0.out | apply IsS90.alloc | apply IsS90.drewN | apply IsS90.drew | apply IsS90.set_1 | apply IsS90.set_2 | apply IsS90.set_3 | refine IsS90.far ?_ NB0_209.out _ | refine IsS90.far ?_ NB0_210.out _) | exact HI0.out)); (case side2 => repeat (first | (with_reducible first | exact HB.out | apply below_alloc | apply pw_below_drewN | apply below_drew1 | refine below_set ?_ (IsS90.ge HI0.out) | refine below_set ?_ GE209.out | refine below_set ?_ GE210.out) | exact HB.out)); rintro e w14 ⟨rfl, hi, hb, hk⟩; refine ⟨_, rfl, ?_⟩; have n0_ := am (KeepBut.blk hk (g' := gb209) (o := .cells #[.slice none 0 0, .int .i64 0, .slice none 0 0] 53 (0, 0)) (pk BK209.out) NB209_0.out (by simp)); have n1_ := am (KeepBut.blk hk (g' := gb210) (o := .cells #[.slice none 0 0, .int .i64 0, .slice none 0 0] 53 (0, 0)) (pk BK210.out) NB210_0.out (by simp)); have n2_ := am (KeepBut.trans (by repeat (first | (with_reducible first | exact HK.out | apply KeepBut.set_ | apply keep_drewN | apply keep_drew | apply keep_alloc | refine keep_far ?_ GW209.out _ | refine keep_far ?_ GW210.out _) | exact HK.out)) hk (.inl rfl)); have n3_ := am (hb); have n4_ := am (hi); clear BK209; clear BK210; clear HK; clear HB; clear HI0; have BK209 := n0_; have BK210 := n1_; have HK := n2_; have HB := n3_; have HI0 := n4_; clear n0_ n1_ n2_ n3_ n4_; (try clear hb); (try clear hb2); (try clear hk); (try clear hi)))
   go_meet
   case rel => exact ⟨_, (wrap64 (29 + t219)), (t220), (t221), (t222), (by first | rfl | (simp; done) | (simp [*]; done)), H', ⟨by first | omega | exact Nat.le_refl _⟩, ⟨by (with_reducible repeat (first | refine blk_drewN ?_ _ | refine blk_drew ?_ | refine blk_alloc ?_ _)); exact BK209.out⟩, ⟨by (with_reducible repeat (first | refine blk_drewN ?_ _ | refine blk_drew ?_ | refine blk_alloc ?_ _)); exact BK210.out⟩, ⟨by repeat (first | (with_reducible first | exact HI0.out | apply IsS90.alloc | apply IsS90.drewN | apply IsS90.drew | apply IsS90.set_1 | apply IsS90.set_2 | apply IsS90.set_3 | refine IsS90.far ?_ NB0_209.out _ | refine IsS90.far ?_ NB0_210.out _) | exact HI0.out)⟩, ⟨by repeat (first | (with_reducible first | exact HK.out | apply KeepBut.set_ | apply keep_drewN | apply keep_drew | apply keep_alloc | refine keep_far ?_ GW209.out _ | refine keep_far ?_ GW210.out _) | exact HK.out)⟩, ⟨by repeat (first | (with_reducible first | exact HB.out | apply below_alloc | apply pw_below_drewN | apply below_drew1 | refine below_set ?_ (IsS90.ge HI0.out) | refine below_set ?_ GE209.out | refine below_set ?_ GE210.out) | exact HB.out)⟩⟩
  ·replace c12 := Bool.eq_false_iff.mpr c12
   subst c12
   have H1 : (spec_l01Src_l06Hist.j0 k t211 s0_0 t216 t217 t218 0) = some (r1, r2, r3, r4, r5, r6) := by rw [if_neg (show ¬ (false = true) by decide)] at H; exact H
   clear H
   have H := H1
   clear H1
   have H' := Aside0.mk H
   clear H
   go_wp2
   go_meet
   case rel => exact ⟨_, (t211), (t216), (t217), (t218), (by first | rfl | (simp; done) | (simp [*]; done)), H', ⟨by first | omega | exact Nat.le_refl _⟩, ⟨by (with_reducible repeat (first | refine blk_drewN ?_ _ | refine blk_drew ?_ | refine blk_alloc ?_ _)); exact BK209.out⟩, ⟨by (with_reducible repeat (first | refine blk_drewN ?_ _ | refine blk_drew ?_ | refine blk_alloc ?_ _)); exact BK210.out⟩, ⟨by repeat (first | (with_reducible first | exact HI0.out | apply IsS90.alloc | apply IsS90.drewN | apply IsS90.drew | apply IsS90.set_1 | apply IsS90.set_2 | apply IsS90.set_3 | refine IsS90.far ?_ NB0_209.out _ | refine IsS90.far ?_ NB0_210.out _) | exact HI0.out)⟩, ⟨by repeat (first | (with_reducible first | exact HK.out | apply KeepBut.set_ | apply keep_drewN | apply keep_drew | apply keep_alloc | refine keep_far ?_ GW209.out _ | refine keep_far ?_ GW210.out _) | exact HK.out)⟩, ⟨by repeat (first | (with_reducible first | exact HB.out | apply below_alloc | apply pw_below_drewN | apply below_drew1 | refine below_set ?_ (IsS90.ge HI0.out) | refine below_set ?_ GE209.out | refine below_set ?_ GE210.out) | exact HB.out)⟩⟩
 case rest =>
  clear HC4
  try clear c1
  try clear p2
  try clear c6
  try clear p6
  try clear c7
  try clear c8
  try clear c12
  try clear hcz9_0
  try clear hcz9_1
  try clear hcz9_2
  try clear hfz9_0
  try clear hfz9_1
  try clear hfz9_2
  obtain ⟨kq, x4_3, x1001_3, x1002_3, x1003_3, rfl, HA, HJ3, BK209, BK210, HI0, HK, HB⟩ := hcut
  cases kq with
  | zero => exact absurd HA.out (by simp [spec_l01Src_l06Hist.j0])
  | succ kj3 =>
   have H := HA.out
   clear HA
   simp only [spec_l01Src_l06Hist.j0] at H
   have H' := Aside0.mk H
   clear H
   go_wp2
   go_loopg [4] kj3 (fun kq v4 w' => ∃ (x4_2 : Int) (x1001_2 : Int) (x1002_2 : Int) (x1003_2 : Int) (x211000_2 : List (List Int)) (u211000 : Value), v4 = .int .i64 x4_2 ∧ Aside0 (spec_l01Src_l06Hist.l0 kq x4_2 s0_0 x1001_2 x1002_2 x1003_2 x211000_2 0 = some (r1, r2, r3, r4, r5, r6)) ∧ Aside0 (kq ≤ kj3) ∧ Aside0 (Kd.S (Kd.slice 2 (Kd.int .i64)) 23 w' w.heap.size (fun _ => True) u211000 x211000_2) ∧ Aside0 (w'.heap[gb209]? = some (.cells #[(.slice none 0 0), .int .i64 0, (.slice none 0 0)] 53 (0, 0))) ∧ Aside0 (w'.heap[gb210]? = some (.cells #[u211000, .int .i64 0, (.slice none 0 0)] 53 (0, 0))) ∧ Aside0 (IsS90 w0 w' g s0_0 x1001_2 x1002_2 x1003_2) ∧ Aside0 (KeepBut w w' g none) ∧ Aside0 (Below w0.heap.size w0 w'))
   case atStart => exact ⟨(x4_3), (x1001_3), (x1002_3), (x1003_3), (([] : List (List Int))), (.slice none 0 0), (by first | rfl | (simp; done) | (simp [*]; done)), H', ⟨Nat.le_refl _⟩, ⟨by first | exact Kd.S_nil _ _ _ _ _ | exact Kd.N_nil _ _ _ _ _ | exact Kd.V_nil _ _ _ _ _ | exact Kd.Q_nil _ _ _ _ _ | exact Kd.R_nil _ _ _ _ _⟩, ⟨by (with_reducible repeat (first | refine blk_drewN ?_ _ | refine blk_drew ?_ | refine blk_alloc ?_ _)); exact BK209.out⟩, ⟨by (with_reducible repeat (first | refine blk_drewN ?_ _ | refine blk_drew ?_ | refine blk_alloc ?_ _)); exact BK210.out⟩, ⟨by repeat (first | (with_reducible first | exact HI0.out | apply IsS90.alloc | apply IsS90.drewN | apply IsS90.drew | apply IsS90.set_1 | apply IsS90.set_2 | apply IsS90.set_3 | refine IsS90.far ?_ NB0_209.out _ | refine IsS90.far ?_ NB0_210.out _) | exact HI0.out)⟩, ⟨by repeat (first | (with_reducible first | exact HK.out | apply KeepBut.set_ | apply keep_drewN | apply keep_drew | apply keep_alloc | refine keep_far ?_ GW209.out _ | refine keep_far ?_ GW210.out _) | exact HK.out)⟩, ⟨by repeat (first | (with_reducible first | exact HB.out | apply below_alloc | apply pw_below_drewN | apply below_drew1 | refine below_set ?_ (IsS90.ge HI0.out) | refine below_set ?_ GE209.out | refine below_set ?_ GE210.out) | exact HB.out)⟩⟩
   case round =>
    clear H'
    try clear c1
    try clear p2
    try clear c6
    try clear p6
    try clear c7
    try clear c8
    try clear c12
    try clear hcz9_0
    try clear hcz9_1
    try clear hcz9_2
    try clear hfz9_0
    try clear hfz9_1
    try clear hfz9_2
    try clear p2
    try clear p6
    obtain ⟨x4_2, x1001_2, x1002_2, x1003_2, x211000_2, u211000, rfl, HA, HK2, HO_211000, BK209, BK210, HI0, HK, HB⟩ := hrel
    cases gk with
    | zero => exact absurd HA.out (by simp [spec_l01Src_l06Hist.l0])
    | succ k2 =>
     have H := HA.out
     clear HA
     simp only [spec_l01Src_l06Hist.l0] at H
     by_cases c15 : x4_2 > 0
     ·rw [if_pos c15] at H
      have c15b0 : decide (0 < x4_2) = true := decide_eq_true c15
      clear c15
      replace H := Option.bind_eq_some_iff.mp H
      obtain ⟨⟨t223, t226, t227, t228⟩, A160, H⟩ := H
      replace H : (if x211000_2.length < 5864062014805 then (spec_l01Src_l06Hist.l0 k2 (wrap64 (x4_2 - 1)) s0_0 t226 t227 t228 (x211000_2 ++ [t223]) 0) else (none)) = some (r1, r2, r3, r4, r5, r6) := H
      have A16 := Aside0.mk A160
      clear A160
      by_cases c17 : x211000_2.length < 5864062014805
      ·rw [if_pos c17] at H
       have LMc17 := Aside0.mk c17
       clear c17
       obtain ⟨y229, hy229⟩ : ∃ y_ : List (List Int), y_ = (x211000_2 ++ [t223]) := ⟨_, rfl⟩
       replace H : (spec_l01Src_l06Hist.l0 k2 (wrap64 (x4_2 - 1)) s0_0 t226 t227 t228 y229 0) = some (r1, r2, r3, r4, r5, r6) := by first | (rw [hy229]; with_reducible exact H) | (have H2_ := (Option.bind_some _ _).symm.trans H; rw [hy229]; with_reducible exact H2_) | (have H2_ := (Option.bind_some _ _).symm.trans H; with_reducible exact H2_) | with_reducible exact H | (rw [hy229]; exact H) | exact H
       have Ny229 := am hy229
       clear hy229
       have H' := Aside0.mk H
       clear H
       try go_wp2
       have n0_ := am (Kd.S_drew HO_211000.out)
       have n1_ := am (blk_drew BK209.out)
       have n2_ := am (blk_drew BK210.out)
       have n3_ := am (IsS90.drew HI0.out)
       have n4_ := am (keep_drew HK.out)
       have n5_ := am (below_drew1 HB.out)
       clear HO_211000
       clear BK209
       clear BK210
       clear HI0
       clear HK
       clear HB
       have HO_211000 := n0_
       have BK209 := n1_
       have BK210 := n2_
       have HI0 := n3_
       have HK := n4_
       have HB := n5_
       clear n0_ n1_ n2_ n3_ n4_ n5_
       refine start_ (n := 8) (S := fun w' => w'.cell? ⟨gb210, 0, none⟩ = some (u211000) ∧ w'.cell? ⟨gb210, 1, none⟩ = some (.int .i64 0) ∧ w'.cell? ⟨gb210, 2, none⟩ = some (.slice none 0 0)) (ds := [7]) #[false, false, false, false, false, false, false, false] (by kernel_rfl) rfl rfl ⟨(blk_cell BK210.out 0).trans rfl, (blk_cell BK210.out 1).trans rfl, (blk_cell BK210.out 2).trans rfl⟩ (fun hHeld => ?_); refine with_tabW spec_l01Src_l06Hist.tab7 spec_l01Src_l06Hist.bits7 (fun HT_ HW_ => ?_)
       generalize wr.drew = w18 at HO_211000 BK209 BK210 HI0 HK HB hHeld ⊢
       refine pure_ (i := 0) (N := some 17) (v := ?_) (a' := ?_) #[true, false, false, false, false, false, false, false] rfl rfl (any_of HT_.out (by kernel_rfl)) (fun _ _ _ h => h) (Or.inl ⟨by rfl, ?_⟩) ?_ ?_
       rotate_left
       ·intro w'
        go_simp
        with_reducible rfl
       rotate_left
       ·simp only [Act.put, List.setIfInBounds_toArray, List.set_cons_zero, List.set_cons_succ, i64_w, i32_w]
        rfl
       refine pure_ (i := 2) (N := some 19) (v := ?_) (a' := ?_) #[true, false, true, false, false, false, false, false] rfl rfl (any_of HT_.out (by kernel_rfl)) (fun _ _ _ h => h) (Or.inl ⟨by rfl, ?_⟩) ?_ ?_
       rotate_left
       ·intro w'
        go_simp
        with_reducible rfl
       rotate_left
       ·simp only [Act.put, List.setIfInBounds_toArray, List.set_cons_zero, List.set_cons_succ, i64_w, i32_w]
        rfl
       refine take_ (i := 1) (N := some 18) (v := ?_) (a' := ?_) #[true, true, true, false, false, false, false, false] rfl rfl (take_ofW HT_.out HW_.out (by kernel_rfl)) (fun _ _ _ h => h) (Or.inl ⟨by rfl, ?_⟩) hHeld ?_ ?_
       rotate_left
       ·rintro w' ⟨s0, s1, s2⟩
        go_simp
        with_reducible rfl
       rotate_left
       ·simp only [Act.put, List.setIfInBounds_toArray, List.set_cons_zero, List.set_cons_succ, i64_w, i32_w]
        rfl
       refine one_ (i := 3) (N := some 20) #[true, true, true, true, false, false, false, false] rfl rfl (one_of HT_.out (by kernel_rfl)) (by decide) (fun K hK => ?_)
       refine goes_ Try.func92 (by kernel_rfl) rfl #[.pointer (some ⟨g, 0, none⟩)] (by rfl) rfl rfl (by (try simp only [List.map_toArray, List.map_cons, List.map_nil]); first | done | rfl | (simp only [List.length_drop, List.length_take]; rfl)) ?_
       with_reducible refine (spec_l01Src_l06Line.calls k2 g s0_0 x1001_2 x1002_2 x1003_2 t223 t226 t227 t228 w0 _ ?side1 ?side2 A16.out).mono ?_
       (case side1 => repeat (first | (with_reducible first | exact HI0.out | apply IsS90.alloc | apply IsS90.drewN | apply IsS90.drew | apply IsS90.set_1 | apply IsS90.set_2 | apply IsS90.set_3 | refine IsS90.far ?_ NB0_209.out _ | refine IsS90.far ?_ NB0_210.out _) | exact HI0.out))
       (case side2 => repeat (first | (with_reducible first | exact HB.out | apply below_alloc | apply pw_below_drewN | apply below_drew1 | refine below_set ?_ (IsS90.ge HI0.out) | refine below_set ?_ GE209.out | refine below_set ?_ GE210.out) | exact HB.out))
       rintro e w19 ⟨v224, rfl, ho0, hi, hb, hk⟩
       refine ⟨_, rfl, ?_⟩
       have n0_ := am (Kd.S_mono (Kd.S_told (Kd.S_oldK (IsS90.apartS (show IsS90 w0 _ g s0_0 x1001_2 x1002_2 x1003_2 from by repeat (first | (with_reducible first | exact HI0.out | apply IsS90.alloc | apply IsS90.drewN | apply IsS90.drew | apply IsS90.set_1 | apply IsS90.set_2 | apply IsS90.set_3 | refine IsS90.far ?_ NB0_209.out _ | refine IsS90.far ?_ NB0_210.out _) | exact HI0.out)) (by (with_reducible repeat (first | apply Kd.S_alloc | apply Kd.S_drewN | apply Kd.S_drew)); exact HO_211000.out) (by decide)) hk) (Kd.R_base ho0)) (fun _ h_ => h_.1))
       have n1_ := am (KeepBut.blk hk (g' := gb209) (o := .cells #[.slice none 0 0, .int .i64 0, .slice none 0 0] 53 (0, 0)) (pk BK209.out) NB209_0.out (by simp))
       have n2_ := am (KeepBut.blk hk (g' := gb210) (o := .cells #[u211000, .int .i64 0, .slice none 0 0] 53 (0, 0)) (pk BK210.out) NB210_0.out (by simp))
       have n3_ := am (Kd.R_lower ho0 (keep_size (w := w) (g := g) (row := none) (by repeat (first | (with_reducible first | exact HK.out | apply KeepBut.set_ | apply keep_drewN | apply keep_drew | apply keep_alloc | refine keep_far ?_ GW209.out _ | refine keep_far ?_ GW210.out _) | exact HK.out))))
       have n4_ := am (KeepBut.trans (by repeat (first | (with_reducible first | exact HK.out | apply KeepBut.set_ | apply keep_drewN | apply keep_drew | apply keep_alloc | refine keep_far ?_ GW209.out _ | refine keep_far ?_ GW210.out _) | exact HK.out)) hk (.inl rfl))
       have n5_ := am (hb)
       have n6_ := am (hi)
       clear HO_211000
       clear BK209
       clear BK210
       clear HK
       clear HB
       clear HI0
       have HO_211000 := n0_
       have BK209 := n1_
       have BK210 := n2_
       have HO225 := n3_
       have HK := n4_
       have HB := n5_
       have HI0 := n6_
       clear n0_ n1_ n2_ n3_ n4_ n5_ n6_
       (try clear hb)
       (try clear hb2)
       (try clear hk)
       (try clear hi)
       (try clear ho0)
       obtain ⟨Ao21, co21, eo21⟩ := Kd.R_slice HO225.out
       (first | subst eo21 | (injection eo21 with f1_ f2_ f3_; have f4_ := f1_.symm; have f5_ := f3_.symm; clear f1_ f2_ f3_; subst f4_; subst f5_))
       refine hK.out _ _ ⟨(blk_cell BK210.out 0).trans rfl, (blk_cell BK210.out 1).trans rfl, (blk_cell BK210.out 2).trans rfl⟩ (fun hHeld => ?_)
       clear hK K
       refine norm_ (a' := ?_) ?_ ?_
       rotate_left
       ·show Act.put _ (some 20) _ = _
        simp only [Act.put, List.setIfInBounds_toArray, List.set_cons_zero, List.set_cons_succ, i64_w, i32_w]
        rfl
       refine one_ (i := 4) (N := some 21) #[true, true, true, true, true, false, false, false] rfl rfl (one_of HT_.out (by kernel_rfl)) (by decide) (fun K hK => ?_)
       refine value_ (w1 := ?_) (v := ?_) (by rfl) rfl ?_ ?_
       rotate_left 2
       ·go_simp
        constructor
        ·rfl
        ·rfl
       refine hK.out _ _ ⟨(blk_cell (blk_alloc BK210.out _) 0).trans rfl, (blk_cell (blk_alloc BK210.out _) 1).trans rfl, (blk_cell (blk_alloc BK210.out _) 2).trans rfl⟩ (fun hHeld => ?_)
       clear hK K
       refine norm_ (a' := ?_) ?_ ?_
       rotate_left
       ·show Act.put _ (some 21) _ = _
        simp only [Act.put, List.setIfInBounds_toArray, List.set_cons_zero, List.set_cons_succ, i64_w, i32_w]
        rfl
       refine one_ (i := 5) (N := some 22) #[true, true, true, true, true, true, false, false] rfl rfl (one_of HT_.out (by kernel_rfl)) (by decide) (fun K hK => ?_)
       refine Kd.S_append_step (Kd.slice 2 (Kd.int .i64)) w.heap.size (by rfl) (.tmp 18) (.tmp 21) 51 23 (.slice none 0 0) 24 rfl Try.underlying51 info23 rfl (by decide) (by omega) u211000 x211000_2 t223 [.slice Ao21 t223.length co21] (fun _ => True) (fun k_ => some k_ = (.slice Ao21 t223.length co21 : Value).ownBlock) rfl rfl ?aP (fun k_ hk_ => ((Kd.R_mono (ok' := fun k_ => ((fun _ => True)) k_ ∧ some k_ ≠ (u211000 : Value).ownBlock) (Kd.R_apart' (HO225.out) (Kd.S_typed HO_211000.out) (by decide)) (fun k_ hk => ⟨trivial, hk.2⟩))).1 k_ hk_.symm) ?aF ?aO (Below.refl _ _) ?aS ?aL ?_
       (case aP => exact Kd.M_row (Kd.R_mono (Kd.R_tight rfl (Kd.R_mono (ok' := fun k_ => ((fun _ => True)) k_ ∧ some k_ ≠ (u211000 : Value).ownBlock) (Kd.R_apart' (HO225.out) (Kd.S_typed HO_211000.out) (by decide)) (fun k_ hk => ⟨trivial, hk.2⟩))) (fun _ h_ => h_)))
       (case aF => exact (fun _ _ => trivial))
       (case aO => exact (by (with_reducible repeat (first | apply Kd.S_alloc | apply Kd.S_drewN | apply Kd.S_drew)); exact Kd.S_mono HO_211000.out (fun k_ hk => ⟨trivial, fun e_ => hk.2 e_⟩)))
       (case aS => exact (keep_size (w := w) (g := g) (row := none) (by repeat (first | (with_reducible first | exact HK.out | apply KeepBut.set_ | apply keep_drewN | apply keep_drew | apply keep_alloc | refine keep_far ?_ GW209.out _ | refine keep_far ?_ GW210.out _) | exact HK.out))))
       (case aL => have := LMc17.out; omega)
       intro v230 w20 ho hb hg hat
       rw [← Ny229.out] at ho
       have n0_ := am (blk_grown (g := gb209) (o := .cells #[.slice none 0 0, .int .i64 0, .slice none 0 0] 53 (0, 0)) (pk BK209.out) hg (Kd.S_ne HO_211000.out BK209.out (by decide)))
       have n1_ := am (blk_grown (g := gb210) (o := .cells #[u211000, .int .i64 0, .slice none 0 0] 53 (0, 0)) (pk BK210.out) hg (Kd.S_ne HO_211000.out BK210.out (by decide)))
       have n2_ := am (IsS90.grown (by repeat (first | (with_reducible first | exact HI0.out | apply IsS90.alloc | apply IsS90.drewN | apply IsS90.drew | apply IsS90.set_1 | apply IsS90.set_2 | apply IsS90.set_3 | refine IsS90.far ?_ NB0_209.out _ | refine IsS90.far ?_ NB0_210.out _) | exact HI0.out)) hg (IsS90.own_neS HI0.out HO_211000.out (by decide)))
       have n3_ := am (below_weaken (by repeat (first | (with_reducible first | exact HB.out | apply below_alloc | apply pw_below_drewN | apply below_drew1 | refine below_set ?_ (IsS90.ge HI0.out) | refine below_set ?_ GE209.out | refine below_set ?_ GE210.out) | exact HB.out)) HL.out hb)
       have n4_ := am (KeepBut.trans (by repeat (first | (with_reducible first | exact HK.out | apply KeepBut.set_ | apply keep_drewN | apply keep_drew | apply keep_alloc | refine keep_far ?_ GW209.out _ | refine keep_far ?_ GW210.out _) | exact HK.out)) (KeepBut.of_grown hg g) (Kd.S_base2 HO_211000.out))
       have n5_ := am (ho)
       clear BK209
       clear BK210
       clear HI0
       clear HB
       clear HK
       clear HO_211000
       clear HO225
       have BK209 := n0_
       have BK210 := n1_
       have HI0 := n2_
       have HB := n3_
       have HK := n4_
       have HO231 := n5_
       clear n0_ n1_ n2_ n3_ n4_ n5_
       clear ho hb hg hat
       obtain ⟨Ao22, co22, eo22⟩ := Kd.S_slice HO231.out
       (first | subst eo22 | (injection eo22 with f1_ f2_ f3_; have f4_ := f1_.symm; have f5_ := f3_.symm; clear f1_ f2_ f3_; subst f4_; subst f5_))
       refine hK.out _ _ ⟨(blk_cell BK210.out 0).trans rfl, (blk_cell BK210.out 1).trans rfl, (blk_cell BK210.out 2).trans rfl⟩ (fun hHeld => ?_)
       clear hK K
       refine norm_ (a' := ?_) ?_ ?_
       rotate_left
       ·show Act.put _ (some 22) _ = _
        simp only [Act.put, List.setIfInBounds_toArray, List.set_cons_zero, List.set_cons_succ, i64_w, i32_w]
        rfl
       refine pure_ (i := 6) (N := some 23) (v := ?_) (a' := ?_) #[true, true, true, true, true, true, true, false] rfl rfl (any_of HT_.out (by kernel_rfl)) (fun _ _ _ h => h) (Or.inl ⟨by rfl, ?_⟩) ?_ ?_
       rotate_left
       ·intro w'
        go_simp
        with_reducible rfl
       rotate_left
       ·simp only [Act.put, List.setIfInBounds_toArray, List.set_cons_zero, List.set_cons_succ, i64_w, i32_w]
        rfl
       refine last_ (i := 7) (N := none) #[true, true, true, true, true, true, true, true] rfl rfl (one_of HT_.out (by kernel_rfl)) (by decide) (fun K hK => ?_)
       have hs23 : w20.cell? ⟨gb210, 0, none⟩ = some (u211000) := (blk_cell BK210.out 0).trans rfl
       have hfs23 := blk_frozen BK210.out 0
       have hns23_0 := NB209_210.out
       have hms23_0 := NB210_209.out
       refine skip_ (w1 := ?_) (by rfl) rfl ?_ ?_
       rotate_left
       ·go_simp
        rfl
       refine hK.out _ _ ?_
       clear hK K
       refine done_ (done_of HT_.out (by kernel_rfl)) ?_
       try go_wp2
       go_roundg k2
       case measure => have := HJ3.out; have := HK2.out; omega
       case rel => exact ⟨(wrap64 (x4_2 - 1)), (t226), (t227), (t228), (y229), (.slice Ao22 y229.length co22), (by first | rfl | (simp; done) | (simp [*]; done)), H', ⟨by have := HJ3.out; have := HK2.out; omega⟩, ⟨by (with_reducible repeat (first | apply Kd.S_alloc | apply Kd.S_drewN | apply Kd.S_drew)); exact Kd.S_mono (Kd.S_far (p := ⟨gb210, 0, none⟩) (Kd.S_types HO231.out BK210.out (by decide)) (fun _ hk => hk.2) (.slice Ao22 y229.length co22)) (fun _ hk => trivial)⟩, ⟨by (with_reducible repeat (first | refine blk_drewN ?_ _ | refine blk_drew ?_ | refine blk_alloc ?_ _)); refine blk_far ?_ NB209_210.out _; (with_reducible repeat (first | refine blk_drewN ?_ _ | refine blk_drew ?_ | refine blk_alloc ?_ _)); exact BK209.out⟩, ⟨by (with_reducible repeat (first | refine blk_drewN ?_ _ | refine blk_drew ?_ | refine blk_alloc ?_ _)); refine blk_put (cs := #[u211000, .int .i64 0, .slice none 0 0]) ?_ 0 _ rfl; (with_reducible repeat (first | refine blk_drewN ?_ _ | refine blk_drew ?_ | refine blk_alloc ?_ _)); exact BK210.out⟩, ⟨by repeat (first | (with_reducible first | exact HI0.out | apply IsS90.alloc | apply IsS90.drewN | apply IsS90.drew | apply IsS90.set_1 | apply IsS90.set_2 | apply IsS90.set_3 | refine IsS90.far ?_ NB0_209.out _ | refine IsS90.far ?_ NB0_210.out _) | exact HI0.out)⟩, ⟨by repeat (first | (with_reducible first | exact HK.out | apply KeepBut.set_ | apply keep_drewN | apply keep_drew | apply keep_alloc | refine keep_far ?_ GW209.out _ | refine keep_far ?_ GW210.out _) | exact HK.out)⟩, ⟨by repeat (first | (with_reducible first | exact HB.out | apply below_alloc | apply pw_below_drewN | apply below_drew1 | refine below_set ?_ (IsS90.ge HI0.out) | refine below_set ?_ GE209.out | refine below_set ?_ GE210.out) | exact HB.out)⟩⟩
      ·rw [if_neg c17] at H
       exact absurd H (by simp)
     ·rw [if_neg c15] at H
      have c15b0 : decide (0 < x4_2) = false := decide_eq_false c15
      clear c15
      replace H := Option.bind_eq_some_iff.mp H
      obtain ⟨⟨t232, t233, t234, t235⟩, A240, H⟩ := H
      replace H : ((spec_l01Src_one.f s0_0 t233 t234 t235 2).bind fun bt236 => (if bt236.1 = true then (spec_l01Src_l06Hist.j2 k2 s0_0 bt236.2.1 bt236.2.2.1 bt236.2.2.2 x211000_2 (x211000_2.length : Int)) else (spec_l01Src_l06Hist.j2 k2 s0_0 bt236.2.1 bt236.2.2.1 bt236.2.2.2 x211000_2 t232))) = some (r1, r2, r3, r4, r5, r6) := H
      have A24 := Aside0.mk A240
      clear A240
      replace H := Option.bind_eq_some_iff.mp H
      obtain ⟨⟨t236, t237, t238, t239⟩, A250, H⟩ := H
      replace H : (if t236 = true then (spec_l01Src_l06Hist.j2 k2 s0_0 t237 t238 t239 x211000_2 (x211000_2.length : Int)) else (spec_l01Src_l06Hist.j2 k2 s0_0 t237 t238 t239 x211000_2 t232)) = some (r1, r2, r3, r4, r5, r6) := H
      have A25 := Aside0.mk A250
      clear A250
      have HC26 := Aside0.mk H
      clear H
      have hnb27 := NB210_209.out
      have hnc27 := NB209_210.out
      have hnb28 := NB210_0.out
      have hnc28 := NB0_210.out
      have hcz29_0 : wr.cell? ⟨gb210, 0, none⟩ = some (u211000) := (blk_cell BK210.out 0).trans rfl
      have hcz29_1 : wr.cell? ⟨gb210, 1, none⟩ = some (.int .i64 0) := (blk_cell BK210.out 1).trans rfl
      have hcz29_2 : wr.cell? ⟨gb210, 2, none⟩ = some (.slice none 0 0) := (blk_cell BK210.out 2).trans rfl
      have hfz29_0 := blk_frozen BK210.out 0
      have hfz29_1 := blk_frozen BK210.out 1
      have hfz29_2 := blk_frozen BK210.out 2
      obtain ⟨Ao30, co30, eo30⟩ := Kd.S_slice HO_211000.out
      subst eo30
      go_upto_if 32 with (first | ((with_reducible refine gate_callee (f := 69) rfl ?_); refine gl (some 29) Try.func69 #[.pointer (some ⟨g, 0, none⟩), .int .i64 (wrap64 ((x211000_2.length : Int) + 1))] ?_; (with_reducible refine (spec_l01Src_n.calls g s0_0 x1001_2 x1002_2 x1003_2 (wrap64 ((x211000_2.length : Int) + 1)) t232 t233 t234 t235 w0 _ ?side1 ?side2 A24.out).mono ?_); (case side1 => repeat (first | (with_reducible first | exact HI0.out | apply IsS90.alloc | apply IsS90.drewN | apply IsS90.drew | apply IsS90.set_1 | apply IsS90.set_2 | apply IsS90.set_3 | refine IsS90.far ?_ NB0_209.out _ | refine IsS90.far ?_ NB0_210.out _) | exact HI0.out)); (case side2 => repeat (first | (with_reducible first | exact HB.out | apply below_alloc | apply pw_below_drewN | apply below_drew1 | refine below_set ?_ (IsS90.ge HI0.out) | refine below_set ?_ GE209.out | refine below_set ?_ GE210.out) | exact HB.out)); rintro e w31 ⟨rfl, hi, hb, hk⟩; refine ⟨_, rfl, ?_⟩; have n0_ := am (Kd.S_mono (Kd.S_keep (IsS90.apartS (show IsS90 w0 _ g s0_0 x1001_2 x1002_2 x1003_2 from by repeat (first | (with_reducible first | exact HI0.out | apply IsS90.alloc | apply IsS90.drewN | apply IsS90.drew | apply IsS90.set_1 | apply IsS90.set_2 | apply IsS90.set_3 | refine IsS90.far ?_ NB0_209.out _ | refine IsS90.far ?_ NB0_210.out _) | exact HI0.out)) (by (with_reducible repeat (first | apply Kd.S_alloc | apply Kd.S_drewN | apply Kd.S_drew)); exact HO_211000.out) (by decide)) hk (fun _ h => h.2)) (fun _ h => h.1)); have n1_ := am (KeepBut.blk hk (g' := gb209) (o := .cells #[.slice none 0 0, .int .i64 0, .slice none 0 0] 53 (0, 0)) (pk BK209.out) NB209_0.out (by simp)); have n2_ := am (KeepBut.blk hk (g' := gb210) (o := .cells #[.slice Ao30 x211000_2.length co30, .int .i64 0, .slice none 0 0] 53 (0, 0)) (pk BK210.out) NB210_0.out (by simp)); have n3_ := am (KeepBut.trans (by repeat (first | (with_reducible first | exact HK.out | apply KeepBut.set_ | apply keep_drewN | apply keep_drew | apply keep_alloc | refine keep_far ?_ GW209.out _ | refine keep_far ?_ GW210.out _) | exact HK.out)) hk (.inl rfl)); have n4_ := am (hb); have n5_ := am (hi); clear HO_211000; clear BK209; clear BK210; clear HK; clear HB; clear HI0; have HO_211000 := n0_; have BK209 := n1_; have BK210 := n2_; have HK := n3_; have HB := n4_; have HI0 := n5_; clear n0_ n1_ n2_ n3_ n4_ n5_; (try clear hb); (try clear hb2); (try clear hk); (try clear hi); have hcz32_0 : w31.cell? ⟨gb210, 0, none⟩ = some (.slice Ao30 x211000_2.length co30) := (blk_cell BK210.out 0).trans rfl; have hcz32_1 : w31.cell? ⟨gb210, 1, none⟩ = some (.int .i64 0) := (blk_cell BK210.out 1).trans rfl; have hcz32_2 : w31.cell? ⟨gb210, 2, none⟩ = some (.slice none 0 0) := (blk_cell BK210.out 2).trans rfl; have hfz32_0 := blk_frozen BK210.out 0; have hfz32_1 := blk_frozen BK210.out 1; have hfz32_2 := blk_frozen BK210.out 2) | ((with_reducible refine gate_callee (f := 66) rfl ?_); refine gl (some 32) Try.func66 #[.pointer (some ⟨g, 0, none⟩), .int .i64 2] ?_; (with_reducible refine (spec_l01Src_one.calls g s0_0 t233 t234 t235 2 t236 t237 t238 t239 w0 _ ?side1 ?side2 A25.out).mono ?_); (case side1 => repeat (first | (with_reducible first | exact HI0.out | apply IsS90.alloc | apply IsS90.drewN | apply IsS90.drew | apply IsS90.set_1 | apply IsS90.set_2 | apply IsS90.set_3 | refine IsS90.far ?_ NB0_209.out _ | refine IsS90.far ?_ NB0_210.out _) | exact HI0.out)); (case side2 => repeat (first | (with_reducible first | exact HB.out | apply below_alloc | apply pw_below_drewN | apply below_drew1 | refine below_set ?_ (IsS90.ge HI0.out) | refine below_set ?_ GE209.out | refine below_set ?_ GE210.out) | exact HB.out)); rintro e w33 ⟨rfl, hi, hb, hk⟩; refine ⟨_, rfl, ?_⟩; have n0_ := am (Kd.S_mono (Kd.S_keep (IsS90.apartS (show IsS90 w0 _ g s0_0 t233 t234 t235 from by repeat (first | (with_reducible first | exact HI0.out | apply IsS90.alloc | apply IsS90.drewN | apply IsS90.drew | apply IsS90.set_1 | apply IsS90.set_2 | apply IsS90.set_3 | refine IsS90.far ?_ NB0_209.out _ | refine IsS90.far ?_ NB0_210.out _) | exact HI0.out)) (by (with_reducible repeat (first | apply Kd.S_alloc | apply Kd.S_drewN | apply Kd.S_drew)); exact (Kd.S_mono (Kd.S_far (p := ⟨gb210, 1, none⟩) (Kd.S_types HO_211000.out BK210.out (by decide)) (fun _ hk => hk.2) (.int .i64 t232)) (fun _ h_ => h_.1))) (by decide)) hk (fun _ h => h.2)) (fun _ h => h.1)); have n1_ := am (KeepBut.blk hk (g' := gb209) (o := .cells #[.slice none 0 0, .int .i64 0, .slice none 0 0] 53 (0, 0)) (by (with_reducible repeat (first | refine blk_drewN ?_ _ | refine blk_drew ?_ | refine blk_alloc ?_ _)); refine blk_far ?_ NB209_210.out _; (with_reducible repeat (first | refine blk_drewN ?_ _ | refine blk_drew ?_ | refine blk_alloc ?_ _)); exact BK209.out) NB209_0.out (by simp)); have n2_ := am (KeepBut.blk hk (g' := gb210) (o := .cells #[.slice Ao30 x211000_2.length co30, .int .i64 t232, .slice none 0 0] 53 (0, 0)) (by (with_reducible repeat (first | refine blk_drewN ?_ _ | refine blk_drew ?_ | refine blk_alloc ?_ _)); refine blk_put (cs := #[.slice Ao30 x211000_2.length co30, .int .i64 0, .slice none 0 0]) ?_ 1 _ rfl; (with_reducible repeat (first | refine blk_drewN ?_ _ | refine blk_drew ?_ | refine blk_alloc ?_ _)); exact BK210.out) NB210_0.out (by simp)); have n3_ := am (KeepBut.trans (by repeat (first | (with_reducible first | exact HK.out | apply KeepBut.set_ | apply keep_drewN | apply keep_drew | apply keep_alloc | refine keep_far ?_ GW209.out _ | refine keep_far ?_ GW210.out _) | exact HK.out)) hk (.inl rfl)); have n4_ := am (hb); have n5_ := am (hi); clear HO_211000; clear BK209; clear BK210; clear HK; clear HB; clear HI0; have HO_211000 := n0_; have BK209 := n1_; have BK210 := n2_; have HK := n3_; have HB := n4_; have HI0 := n5_; clear n0_ n1_ n2_ n3_ n4_ n5_; (try clear hb); (try clear hb2); (try clear hk); (try clear hi)))
      (try simp only [Act.put, List.setIfInBounds_toArray, List.set_cons_zero, List.set_cons_succ])
      go_cut [] (fun wc => ∃ (kq : Nat) (x211001_25 : Int), Aside0 (spec_l01Src_l06Hist.j2 kq s0_0 t237 t238 t239 x211000_2 x211001_25 = some (r1, r2, r3, r4, r5, r6)) ∧ Aside0 (kq ≤ k2) ∧ Aside0 (Kd.S (Kd.slice 2 (Kd.int .i64)) 23 wc w.heap.size (fun _ => True) (.slice Ao30 x211000_2.length co30) x211000_2) ∧ Aside0 (wc.heap[gb209]? = some (.cells #[(.slice none 0 0), .int .i64 0, (.slice none 0 0)] 53 (0, 0))) ∧ Aside0 (wc.heap[gb210]? = some (.cells #[(.slice Ao30 x211000_2.length co30), .int .i64 x211001_25, (.slice none 0 0)] 53 (0, 0))) ∧ Aside0 (IsS90 w0 wc g s0_0 t237 t238 t239) ∧ Aside0 (KeepBut w wc g none) ∧ Aside0 (Below w0.heap.size w0 wc))
      case first =>
       have H := HC26.out
       clear HC26
       by_cases c34 : t236 = true
       ·subst c34
        have H1 : (spec_l01Src_l06Hist.j2 k2 s0_0 t237 t238 t239 x211000_2 (x211000_2.length : Int)) = some (r1, r2, r3, r4, r5, r6) := by rw [if_pos rfl] at H; exact H
        clear H
        have H := H1
        clear H1
        have H' := Aside0.mk H
        clear H
        have hnb35 := NB210_209.out
        have hnc35 := NB209_210.out
        have hnb36 := NB210_0.out
        have hnc36 := NB0_210.out
        have hcz37_0 : w33.cell? ⟨gb210, 0, none⟩ = some (.slice Ao30 x211000_2.length co30) := (blk_cell BK210.out 0).trans rfl
        have hcz37_1 : w33.cell? ⟨gb210, 1, none⟩ = some (.int .i64 t232) := (blk_cell BK210.out 1).trans rfl
        have hcz37_2 : w33.cell? ⟨gb210, 2, none⟩ = some (.slice none 0 0) := (blk_cell BK210.out 2).trans rfl
        have hfz37_0 := blk_frozen BK210.out 0
        have hfz37_1 := blk_frozen BK210.out 1
        have hfz37_2 := blk_frozen BK210.out 2
        go_wp2
        go_meet
        case rel => exact ⟨_, ((x211000_2.length : Int)), H', ⟨by have := HJ3.out; have := HK2.out; first | omega | exact Nat.le_refl _⟩, ⟨by (with_reducible repeat (first | apply Kd.S_alloc | apply Kd.S_drewN | apply Kd.S_drew)); exact Kd.S_mono (Kd.S_far (p := ⟨gb210, 1, none⟩) (Kd.S_types HO_211000.out BK210.out (by decide)) (fun _ hk => hk.2) (.int .i64 (x211000_2.length : Int))) (fun _ hk => trivial)⟩, ⟨by (with_reducible repeat (first | refine blk_drewN ?_ _ | refine blk_drew ?_ | refine blk_alloc ?_ _)); refine blk_far ?_ NB209_210.out _; (with_reducible repeat (first | refine blk_drewN ?_ _ | refine blk_drew ?_ | refine blk_alloc ?_ _)); exact BK209.out⟩, ⟨by (with_reducible repeat (first | refine blk_drewN ?_ _ | refine blk_drew ?_ | refine blk_alloc ?_ _)); refine blk_put (cs := #[.slice Ao30 x211000_2.length co30, .int .i64 t232, .slice none 0 0]) ?_ 1 _ rfl; (with_reducible repeat (first | refine blk_drewN ?_ _ | refine blk_drew ?_ | refine blk_alloc ?_ _)); exact BK210.out⟩, ⟨by repeat (first | (with_reducible first | exact HI0.out | apply IsS90.alloc | apply IsS90.drewN | apply IsS90.drew | apply IsS90.set_1 | apply IsS90.set_2 | apply IsS90.set_3 | refine IsS90.far ?_ NB0_209.out _ | refine IsS90.far ?_ NB0_210.out _) | exact HI0.out)⟩, ⟨by repeat (first | (with_reducible first | exact HK.out | apply KeepBut.set_ | apply keep_drewN | apply keep_drew | apply keep_alloc | refine keep_far ?_ GW209.out _ | refine keep_far ?_ GW210.out _) | exact HK.out)⟩, ⟨by repeat (first | (with_reducible first | exact HB.out | apply below_alloc | apply pw_below_drewN | apply below_drew1 | refine below_set ?_ (IsS90.ge HI0.out) | refine below_set ?_ GE209.out | refine below_set ?_ GE210.out) | exact HB.out)⟩⟩
       ·replace c34 := Bool.eq_false_iff.mpr c34
        subst c34
        have H1 : (spec_l01Src_l06Hist.j2 k2 s0_0 t237 t238 t239 x211000_2 t232) = some (r1, r2, r3, r4, r5, r6) := by rw [if_neg (show ¬ (false = true) by decide)] at H; exact H
        clear H
        have H := H1
        clear H1
        have H' := Aside0.mk H
        clear H
        go_wp2
        go_meet
        case rel => exact ⟨_, (t232), H', ⟨by have := HJ3.out; have := HK2.out; first | omega | exact Nat.le_refl _⟩, ⟨by (with_reducible repeat (first | apply Kd.S_alloc | apply Kd.S_drewN | apply Kd.S_drew)); exact HO_211000.out⟩, ⟨by (with_reducible repeat (first | refine blk_drewN ?_ _ | refine blk_drew ?_ | refine blk_alloc ?_ _)); exact BK209.out⟩, ⟨by (with_reducible repeat (first | refine blk_drewN ?_ _ | refine blk_drew ?_ | refine blk_alloc ?_ _)); exact BK210.out⟩, ⟨by repeat (first | (with_reducible first | exact HI0.out | apply IsS90.alloc | apply IsS90.drewN | apply IsS90.drew | apply IsS90.set_1 | apply IsS90.set_2 | apply IsS90.set_3 | refine IsS90.far ?_ NB0_209.out _ | refine IsS90.far ?_ NB0_210.out _) | exact HI0.out)⟩, ⟨by repeat (first | (with_reducible first | exact HK.out | apply KeepBut.set_ | apply keep_drewN | apply keep_drew | apply keep_alloc | refine keep_far ?_ GW209.out _ | refine keep_far ?_ GW210.out _) | exact HK.out)⟩, ⟨by repeat (first | (with_reducible first | exact HB.out | apply below_alloc | apply pw_below_drewN | apply below_drew1 | refine below_set ?_ (IsS90.ge HI0.out) | refine below_set ?_ GE209.out | refine below_set ?_ GE210.out) | exact HB.out)⟩⟩
      case rest =>
       clear HC26
       try clear c1
       try clear c2
       try clear p2
       try clear c3
       try clear c6
       try clear p6
       try clear c7
       try clear c8
       try clear c9
       try clear c12
       try clear c15
       try clear c15b0
       try clear c17
       try clear c27
       try clear c28
       try clear c34
       try clear c35
       try clear c36
       try clear hcz29_0
       try clear hcz29_1
       try clear hcz29_2
       try clear hcz32_0
       try clear hcz32_1
       try clear hcz32_2
       try clear hcz37_0
       try clear hcz37_1
       try clear hcz37_2
       try clear hcz9_0
       try clear hcz9_1
       try clear hcz9_2
       try clear hfz29_0
       try clear hfz29_1
       try clear hfz29_2
       try clear hfz32_0
       try clear hfz32_1
       try clear hfz32_2
       try clear hfz37_0
       try clear hfz37_1
       try clear hfz37_2
       try clear hfz9_0
       try clear hfz9_1
       try clear hfz9_2
       try clear p2
       try clear p6
       obtain ⟨kq, x211001_25, HA, HJ25, HO_211000, BK209, BK210, HI0, HK, HB⟩ := hcut
       cases kq with
       | zero => exact absurd HA.out (by simp [spec_l01Src_l06Hist.j2])
       | succ kj25 =>
        have H := HA.out
        clear HA
        simp only [spec_l01Src_l06Hist.j2] at H
        replace H := Option.bind_eq_some_iff.mp H
        obtain ⟨⟨t240, t241, t242, t243⟩, A380, H⟩ := H
        replace H : ((spec_l01Src_points.f kj25 s0_0 t241 t242 t243 t240).bind fun bt244 => ((spec_l01Src_one.f s0_0 bt244.2.1 bt244.2.2.1 bt244.2.2.2 20).bind fun bt250 => (if bt250.1 = true then ((spec_l01Src_n.f s0_0 bt250.2.1 bt250.2.2.1 bt250.2.2.2 3).bind fun bt254 => (if bt254.1 = 0 then ((some (([(-1), wrap64 ((x211000_2.length : Int) + 1)] : List Int) : List Int)).bind fun y258 => ((spec_l01Src_n.f s0_0 bt254.2.1 bt254.2.2.1 bt254.2.2.2 2).bind fun bt261 => (if 0 ≤ bt261.1 then (if bt261.1 < (y258.length : Int) then (some (x211000_2, rd y258 bt261.1, bt244.1, bt261.2.1, bt261.2.2.1, bt261.2.2.2)) else (none)) else (none)))) else (if bt254.1 = 1 then (if x211000_2.length < 5864062014805 then (some ((x211000_2 ++ [(([] : List Int))]), x211001_25, bt244.1, bt254.2.1, bt254.2.2.1, bt254.2.2.2)) else (none)) else (some (x211000_2, x211001_25, (([(-1)] : List Int)), bt254.2.1, bt254.2.2.1, bt254.2.2.2))))) else (some (x211000_2, x211001_25, bt244.1, bt250.2.1, bt250.2.2.1, bt250.2.2.2))))) = some (r1, r2, r3, r4, r5, r6) := H
        have A38 := Aside0.mk A380
        clear A380
        replace H := Option.bind_eq_some_iff.mp H
        obtain ⟨⟨t244, t247, t248, t249⟩, A390, H⟩ := H
        replace H : ((spec_l01Src_one.f s0_0 t247 t248 t249 20).bind fun bt250 => (if bt250.1 = true then ((spec_l01Src_n.f s0_0 bt250.2.1 bt250.2.2.1 bt250.2.2.2 3).bind fun bt254 => (if bt254.1 = 0 then ((some (([(-1), wrap64 ((x211000_2.length : Int) + 1)] : List Int) : List Int)).bind fun y258 => ((spec_l01Src_n.f s0_0 bt254.2.1 bt254.2.2.1 bt254.2.2.2 2).bind fun bt261 => (if 0 ≤ bt261.1 then (if bt261.1 < (y258.length : Int) then (some (x211000_2, rd y258 bt261.1, t244, bt261.2.1, bt261.2.2.1, bt261.2.2.2)) else (none)) else (none)))) else (if bt254.1 = 1 then (if x211000_2.length < 5864062014805 then (some ((x211000_2 ++ [(([] : List Int))]), x211001_25, t244, bt254.2.1, bt254.2.2.1, bt254.2.2.2)) else (none)) else (some (x211000_2, x211001_25, (([(-1)] : List Int)), bt254.2.1, bt254.2.2.1, bt254.2.2.2))))) else (some (x211000_2, x211001_25, t244, bt250.2.1, bt250.2.2.1, bt250.2.2.2)))) = some (r1, r2, r3, r4, r5, r6) := H
        have A39 := Aside0.mk A390
        clear A390
        replace H := Option.bind_eq_some_iff.mp H
        obtain ⟨⟨t250, t251, t252, t253⟩, A400, H⟩ := H
        replace H : (if t250 = true then ((spec_l01Src_n.f s0_0 t251 t252 t253 3).bind fun bt254 => (if bt254.1 = 0 then ((some (([(-1), wrap64 ((x211000_2.length : Int) + 1)] : List Int) : List Int)).bind fun y258 => ((spec_l01Src_n.f s0_0 bt254.2.1 bt254.2.2.1 bt254.2.2.2 2).bind fun bt261 => (if 0 ≤ bt261.1 then (if bt261.1 < (y258.length : Int) then (some (x211000_2, rd y258 bt261.1, t244, bt261.2.1, bt261.2.2.1, bt261.2.2.2)) else (none)) else (none)))) else (if bt254.1 = 1 then (if x211000_2.length < 5864062014805 then (some ((x211000_2 ++ [(([] : List Int))]), x211001_25, t244, bt254.2.1, bt254.2.2.1, bt254.2.2.2)) else (none)) else (some (x211000_2, x211001_25, (([(-1)] : List Int)), bt254.2.1, bt254.2.2.1, bt254.2.2.2))))) else (some (x211000_2, x211001_25, t244, t251, t252, t253))) = some (r1, r2, r3, r4, r5, r6) := H
        have A40 := Aside0.mk A400
        clear A400
        by_cases c41 : t250 = true
        ·subst c41
         have H1 : ((spec_l01Src_n.f s0_0 t251 t252 t253 3).bind fun bt254 => (if bt254.1 = 0 then ((some (([(-1), wrap64 ((x211000_2.length : Int) + 1)] : List Int) : List Int)).bind fun y258 => ((spec_l01Src_n.f s0_0 bt254.2.1 bt254.2.2.1 bt254.2.2.2 2).bind fun bt261 => (if 0 ≤ bt261.1 then (if bt261.1 < (y258.length : Int) then (some (x211000_2, rd y258 bt261.1, t244, bt261.2.1, bt261.2.2.1, bt261.2.2.2)) else (none)) else (none)))) else (if bt254.1 = 1 then (if x211000_2.length < 5864062014805 then (some ((x211000_2 ++ [(([] : List Int))]), x211001_25, t244, bt254.2.1, bt254.2.2.1, bt254.2.2.2)) else (none)) else (some (x211000_2, x211001_25, (([(-1)] : List Int)), bt254.2.1, bt254.2.2.1, bt254.2.2.2))))) = some (r1, r2, r3, r4, r5, r6) := by rw [if_pos rfl] at H; exact H
         clear H
         have H := H1
         clear H1
         replace H := Option.bind_eq_some_iff.mp H
         obtain ⟨⟨t254, t255, t256, t257⟩, A420, H⟩ := H
         replace H : (if t254 = 0 then ((some (([(-1), wrap64 ((x211000_2.length : Int) + 1)] : List Int) : List Int)).bind fun y258 => ((spec_l01Src_n.f s0_0 t255 t256 t257 2).bind fun bt261 => (if 0 ≤ bt261.1 then (if bt261.1 < (y258.length : Int) then (some (x211000_2, rd y258 bt261.1, t244, bt261.2.1, bt261.2.2.1, bt261.2.2.2)) else (none)) else (none)))) else (if t254 = 1 then (if x211000_2.length < 5864062014805 then (some ((x211000_2 ++ [(([] : List Int))]), x211001_25, t244, t255, t256, t257)) else (none)) else (some (x211000_2, x211001_25, (([(-1)] : List Int)), t255, t256, t257)))) = some (r1, r2, r3, r4, r5, r6) := H
         have A42 := Aside0.mk A420
         clear A420
         by_cases c43 : t254 = 0
         ·rw [if_pos c43] at H
          have c43b0 : (t254 == 0) = true := beq_iff_eq.mpr c43
          have c43b1 : (t254 != 0) = false := bne_eq_false_iff_eq.mpr c43
          clear c43
          obtain ⟨y258, hy258⟩ : ∃ y_ : List Int, y_ = (([(-1), wrap64 ((x211000_2.length : Int) + 1)] : List Int)) := ⟨_, rfl⟩
          replace H : ((spec_l01Src_n.f s0_0 t255 t256 t257 2).bind fun bt261 => (if 0 ≤ bt261.1 then (if bt261.1 < (y258.length : Int) then (some (x211000_2, rd y258 bt261.1, t244, bt261.2.1, bt261.2.2.1, bt261.2.2.2)) else (none)) else (none))) = some (r1, r2, r3, r4, r5, r6) := by first | (rw [hy258]; with_reducible exact H) | (have H2_ := (Option.bind_some _ _).symm.trans H; rw [hy258]; with_reducible exact H2_) | (have H2_ := (Option.bind_some _ _).symm.trans H; with_reducible exact H2_) | with_reducible exact H | (rw [hy258]; exact H) | exact H
          have Ny258 := am hy258
          clear hy258
          replace H := Option.bind_eq_some_iff.mp H
          obtain ⟨⟨t261, t262, t263, t264⟩, A440, H⟩ := H
          replace H : (if 0 ≤ t261 then (if t261 < (y258.length : Int) then (some (x211000_2, rd y258 t261, t244, t262, t263, t264)) else (none)) else (none)) = some (r1, r2, r3, r4, r5, r6) := H
          have A44 := Aside0.mk A440
          clear A440
          by_cases c45 : 0 ≤ t261
          ·rw [if_pos c45] at H
           have c45b0 : decide (0 ≤ t261) = true := decide_eq_true c45
           clear c45
           by_cases c46 : t261 < (y258.length : Int)
           ·rw [if_pos c46] at H
            have c46b0 : decide (t261 < (y258.length : Int)) = true := decide_eq_true c46
            clear c46
            simp only [Option.some.injEq, Prod.mk.injEq] at H
            obtain ⟨rfl, rfl, rfl, rfl, rfl, rfl⟩ := H
            try go_wp2_with (first | ((with_reducible refine gate_callee (f := 69) rfl ?_); refine gl (some 39) Try.func69 #[.pointer (some ⟨g, 0, none⟩), .int .i64 4] ?_; (with_reducible refine (spec_l01Src_n.calls g s0_0 t237 t238 t239 4 t240 t241 t242 t243 w0 _ ?side1 ?side2 A38.out).mono ?_); (case side1 => repeat (first | (with_reducible first | exact HI0.out | apply IsS90.alloc | apply IsS90.drewN | apply IsS90.drew | apply IsS90.set_1 | apply IsS90.set_2 | apply IsS90.set_3 | refine IsS90.far ?_ NB0_209.out _ | refine IsS90.far ?_ NB0_210.out _) | exact HI0.out)); (case side2 => repeat (first | (with_reducible first | exact HB.out | apply below_alloc | apply pw_below_drewN | apply below_drew1 | refine below_set ?_ (IsS90.ge HI0.out) | refine below_set ?_ GE209.out | refine below_set ?_ GE210.out) | exact HB.out)); rintro e w47 ⟨rfl, hi, hb, hk⟩; refine ⟨_, rfl, ?_⟩; have n0_ := am (Kd.S_mono (Kd.S_keep (IsS90.apartS (show IsS90 w0 _ g s0_0 t237 t238 t239 from by repeat (first | (with_reducible first | exact HI0.out | apply IsS90.alloc | apply IsS90.drewN | apply IsS90.drew | apply IsS90.set_1 | apply IsS90.set_2 | apply IsS90.set_3 | refine IsS90.far ?_ NB0_209.out _ | refine IsS90.far ?_ NB0_210.out _) | exact HI0.out)) (by (with_reducible repeat (first | apply Kd.S_alloc | apply Kd.S_drewN | apply Kd.S_drew)); exact HO_211000.out) (by decide)) hk (fun _ h => h.2)) (fun _ h => h.1)); have n1_ := am (KeepBut.blk hk (g' := gb209) (o := .cells #[.slice none 0 0, .int .i64 0, .slice none 0 0] 53 (0, 0)) (pk BK209.out) NB209_0.out (by simp)); have n2_ := am (KeepBut.blk hk (g' := gb210) (o := .cells #[.slice Ao30 x211000_2.length co30, .int .i64 x211001_25, .slice none 0 0] 53 (0, 0)) (pk BK210.out) NB210_0.out (by simp)); have n3_ := am (KeepBut.trans (by repeat (first | (with_reducible first | exact HK.out | apply KeepBut.set_ | apply keep_drewN | apply keep_drew | apply keep_alloc | refine keep_far ?_ GW209.out _ | refine keep_far ?_ GW210.out _) | exact HK.out)) hk (.inl rfl)); have n4_ := am (hb); have n5_ := am (hi); clear HO_211000; clear BK209; clear BK210; clear HK; clear HB; clear HI0; have HO_211000 := n0_; have BK209 := n1_; have BK210 := n2_; have HK := n3_; have HB := n4_; have HI0 := n5_; clear n0_ n1_ n2_ n3_ n4_ n5_; (try clear hb); (try clear hb2); (try clear hk); (try clear hi)) | ((with_reducible refine gate_callee (f := 79) rfl ?_); refine gl (some 40) Try.func79 #[.pointer (some ⟨g, 0, none⟩), .int .i64 t240] ?_; (with_reducible refine (spec_l01Src_points.calls kj25 g s0_0 t241 t242 t243 t240 t244 t247 t248 t249 w0 _ ?side1 ?side2 A39.out).mono ?_); (case side1 => repeat (first | (with_reducible first | exact HI0.out | apply IsS90.alloc | apply IsS90.drewN | apply IsS90.drew | apply IsS90.set_1 | apply IsS90.set_2 | apply IsS90.set_3 | refine IsS90.far ?_ NB0_209.out _ | refine IsS90.far ?_ NB0_210.out _) | exact HI0.out)); (case side2 => repeat (first | (with_reducible first | exact HB.out | apply below_alloc | apply pw_below_drewN | apply below_drew1 | refine below_set ?_ (IsS90.ge HI0.out) | refine below_set ?_ GE209.out | refine below_set ?_ GE210.out) | exact HB.out)); rintro e w48 ⟨v245, rfl, ho0, hi, hb, hk⟩; refine ⟨_, rfl, ?_⟩; have n0_ := am (Kd.S_mono (Kd.S_told (Kd.S_oldK (IsS90.apartS (show IsS90 w0 _ g s0_0 t241 t242 t243 from by repeat (first | (with_reducible first | exact HI0.out | apply IsS90.alloc | apply IsS90.drewN | apply IsS90.drew | apply IsS90.set_1 | apply IsS90.set_2 | apply IsS90.set_3 | refine IsS90.far ?_ NB0_209.out _ | refine IsS90.far ?_ NB0_210.out _) | exact HI0.out)) (by (with_reducible repeat (first | apply Kd.S_alloc | apply Kd.S_drewN | apply Kd.S_drew)); exact HO_211000.out) (by decide)) hk) (Kd.R_base ho0)) (fun _ h_ => h_.1)); have n1_ := am (KeepBut.blk hk (g' := gb209) (o := .cells #[.slice none 0 0, .int .i64 0, .slice none 0 0] 53 (0, 0)) (pk BK209.out) NB209_0.out (by simp)); have n2_ := am (KeepBut.blk hk (g' := gb210) (o := .cells #[.slice Ao30 x211000_2.length co30, .int .i64 x211001_25, .slice none 0 0] 53 (0, 0)) (pk BK210.out) NB210_0.out (by simp)); have n3_ := am (Kd.R_lower ho0 (keep_size (w := w) (g := g) (row := none) (by repeat (first | (with_reducible first | exact HK.out | apply KeepBut.set_ | apply keep_drewN | apply keep_drew | apply keep_alloc | refine keep_far ?_ GW209.out _ | refine keep_far ?_ GW210.out _) | exact HK.out)))); have n4_ := am (KeepBut.trans (by repeat (first | (with_reducible first | exact HK.out | apply KeepBut.set_ | apply keep_drewN | apply keep_drew | apply keep_alloc | refine keep_far ?_ GW209.out _ | refine keep_far ?_ GW210.out _) | exact HK.out)) hk (.inl rfl)); have n5_ := am (hb); have n6_ := am (hi); clear HO_211000; clear BK209; clear BK210; clear HK; clear HB; clear HI0; have HO_211000 := n0_; have BK209 := n1_; have BK210 := n2_; have HO246 := n3_; have HK := n4_; have HB := n5_; have HI0 := n6_; clear n0_ n1_ n2_ n3_ n4_ n5_ n6_; (try clear hb); (try clear hb2); (try clear hk); (try clear hi); (try clear ho0); obtain ⟨Ao49, co49, eo49⟩ := Kd.R_slice HO246.out; subst eo49; have hnb50 := NB210_209.out; have hnc50 := NB209_210.out; have hnb51 := NB210_0.out; have hnc51 := NB0_210.out; have hcz52_0 : w48.cell? ⟨gb210, 0, none⟩ = some (.slice Ao30 x211000_2.length co30) := (blk_cell BK210.out 0).trans rfl; have hcz52_1 : w48.cell? ⟨gb210, 1, none⟩ = some (.int .i64 x211001_25) := (blk_cell BK210.out 1).trans rfl; have hcz52_2 : w48.cell? ⟨gb210, 2, none⟩ = some (.slice none 0 0) := (blk_cell BK210.out 2).trans rfl; have hfz52_0 := blk_frozen BK210.out 0; have hfz52_1 := blk_frozen BK210.out 1; have hfz52_2 := blk_frozen BK210.out 2) | ((with_reducible refine gate_callee (f := 66) rfl ?_); refine gl (some 43) Try.func66 #[.pointer (some ⟨g, 0, none⟩), .int .i64 20] ?_; (with_reducible refine (spec_l01Src_one.calls g s0_0 t247 t248 t249 20 true t251 t252 t253 w0 _ ?side1 ?side2 A40.out).mono ?_); (case side1 => repeat (first | (with_reducible first | exact HI0.out | apply IsS90.alloc | apply IsS90.drewN | apply IsS90.drew | apply IsS90.set_1 | apply IsS90.set_2 | apply IsS90.set_3 | refine IsS90.far ?_ NB0_209.out _ | refine IsS90.far ?_ NB0_210.out _) | exact HI0.out)); (case side2 => repeat (first | (with_reducible first | exact HB.out | apply below_alloc | apply pw_below_drewN | apply below_drew1 | refine below_set ?_ (IsS90.ge HI0.out) | refine below_set ?_ GE209.out | refine below_set ?_ GE210.out) | exact HB.out)); rintro e w53 ⟨rfl, hi, hb, hk⟩; refine ⟨_, rfl, ?_⟩; have n0_ := am (Kd.S_mono (Kd.S_keep (IsS90.apartS (show IsS90 w0 _ g s0_0 t247 t248 t249 from by repeat (first | (with_reducible first | exact HI0.out | apply IsS90.alloc | apply IsS90.drewN | apply IsS90.drew | apply IsS90.set_1 | apply IsS90.set_2 | apply IsS90.set_3 | refine IsS90.far ?_ NB0_209.out _ | refine IsS90.far ?_ NB0_210.out _) | exact HI0.out)) (by (with_reducible repeat (first | apply Kd.S_alloc | apply Kd.S_drewN | apply Kd.S_drew)); exact (Kd.S_mono (Kd.S_far (p := ⟨gb210, 2, none⟩) (Kd.S_types HO_211000.out BK210.out (by decide)) (fun _ hk => hk.2) (.slice Ao49 t244.length co49)) (fun _ h_ => h_.1))) (by decide)) hk (fun _ h => h.2)) (fun _ h => h.1)); have n1_ := am (KeepBut.blk hk (g' := gb209) (o := .cells #[.slice none 0 0, .int .i64 0, .slice none 0 0] 53 (0, 0)) (by (with_reducible repeat (first | refine blk_drewN ?_ _ | refine blk_drew ?_ | refine blk_alloc ?_ _)); refine blk_far ?_ NB209_210.out _; (with_reducible repeat (first | refine blk_drewN ?_ _ | refine blk_drew ?_ | refine blk_alloc ?_ _)); exact BK209.out) NB209_0.out (by simp)); have n2_ := am (KeepBut.blk hk (g' := gb210) (o := .cells #[.slice Ao30 x211000_2.length co30, .int .i64 x211001_25, .slice Ao49 t244.length co49] 53 (0, 0)) (by (with_reducible repeat (first | refine blk_drewN ?_ _ | refine blk_drew ?_ | refine blk_alloc ?_ _)); refine blk_put (cs := #[.slice Ao30 x211000_2.length co30, .int .i64 x211001_25, .slice none 0 0]) ?_ 2 _ rfl; (with_reducible repeat (first | refine blk_drewN ?_ _ | refine blk_drew ?_ | refine blk_alloc ?_ _)); exact BK210.out) NB210_0.out (by simp)); have n3_ := am (Kd.R_mono (Kd.R_keep (IsS90.apart (show IsS90 w0 _ g s0_0 t247 t248 t249 from by repeat (first | (with_reducible first | exact HI0.out | apply IsS90.alloc | apply IsS90.drewN | apply IsS90.drew | apply IsS90.set_1 | apply IsS90.set_2 | apply IsS90.set_3 | refine IsS90.far ?_ NB0_209.out _ | refine IsS90.far ?_ NB0_210.out _) | exact HI0.out)) (by (with_reducible repeat (first | apply Kd.R_alloc | apply Kd.R_drewN | apply Kd.R_drew)); exact (Kd.R_mono (Kd.R_far (p := ⟨gb210, 2, none⟩) (Kd.R_types HO246.out BK210.out (by decide)) (fun _ hk => hk.2) (.slice Ao49 t244.length co49)) (fun _ h_ => h_.1))) (by decide)) hk (fun _ h => h.2)) (fun _ h => h.1)); have n4_ := am (KeepBut.trans (by repeat (first | (with_reducible first | exact HK.out | apply KeepBut.set_ | apply keep_drewN | apply keep_drew | apply keep_alloc | refine keep_far ?_ GW209.out _ | refine keep_far ?_ GW210.out _) | exact HK.out)) hk (.inl rfl)); have n5_ := am (hb); have n6_ := am (hi); clear HO_211000; clear BK209; clear BK210; clear HO246; clear HK; clear HB; clear HI0; have HO_211000 := n0_; have BK209 := n1_; have BK210 := n2_; have HO246 := n3_; have HK := n4_; have HB := n5_; have HI0 := n6_; clear n0_ n1_ n2_ n3_ n4_ n5_ n6_; (try clear hb); (try clear hb2); (try clear hk); (try clear hi)) | ((with_reducible refine gate_callee (f := 69) rfl ?_); refine gl (some 45) Try.func69 #[.pointer (some ⟨g, 0, none⟩), .int .i64 3] ?_; (with_reducible refine (spec_l01Src_n.calls g s0_0 t251 t252 t253 3 t254 t255 t256 t257 w0 _ ?side1 ?side2 A42.out).mono ?_); (case side1 => repeat (first | (with_reducible first | exact HI0.out | apply IsS90.alloc | apply IsS90.drewN | apply IsS90.drew | apply IsS90.set_1 | apply IsS90.set_2 | apply IsS90.set_3 | refine IsS90.far ?_ NB0_209.out _ | refine IsS90.far ?_ NB0_210.out _) | exact HI0.out)); (case side2 => repeat (first | (with_reducible first | exact HB.out | apply below_alloc | apply pw_below_drewN | apply below_drew1 | refine below_set ?_ (IsS90.ge HI0.out) | refine below_set ?_ GE209.out | refine below_set ?_ GE210.out) | exact HB.out)); rintro e w54 ⟨rfl, hi, hb, hk⟩; refine ⟨_, rfl, ?_⟩; have n0_ := am (Kd.S_mono (Kd.S_keep (IsS90.apartS (show IsS90 w0 _ g s0_0 t251 t252 t253 from by repeat (first | (with_reducible first | exact HI0.out | apply IsS90.alloc | apply IsS90.drewN | apply IsS90.drew | apply IsS90.set_1 | apply IsS90.set_2 | apply IsS90.set_3 | refine IsS90.far ?_ NB0_209.out _ | refine IsS90.far ?_ NB0_210.out _) | exact HI0.out)) (by (with_reducible repeat (first | apply Kd.S_alloc | apply Kd.S_drewN | apply Kd.S_drew)); exact HO_211000.out) (by decide)) hk (fun _ h => h.2)) (fun _ h => h.1)); have n1_ := am (KeepBut.blk hk (g' := gb209) (o := .cells #[.slice none 0 0, .int .i64 0, .slice none 0 0] 53 (0, 0)) (pk BK209.out) NB209_0.out (by simp)); have n2_ := am (KeepBut.blk hk (g' := gb210) (o := .cells #[.slice Ao30 x211000_2.length co30, .int .i64 x211001_25, .slice Ao49 t244.length co49] 53 (0, 0)) (pk BK210.out) NB210_0.out (by simp)); have n3_ := am (Kd.R_mono (Kd.R_keep (IsS90.apart (show IsS90 w0 _ g s0_0 t251 t252 t253 from by repeat (first | (with_reducible first | exact HI0.out | apply IsS90.alloc | apply IsS90.drewN | apply IsS90.drew | apply IsS90.set_1 | apply IsS90.set_2 | apply IsS90.set_3 | refine IsS90.far ?_ NB0_209.out _ | refine IsS90.far ?_ NB0_210.out _) | exact HI0.out)) (by (with_reducible repeat (first | apply Kd.R_alloc | apply Kd.R_drewN | apply Kd.R_drew)); exact HO246.out) (by decide)) hk (fun _ h => h.2)) (fun _ h => h.1)); have n4_ := am (KeepBut.trans (by repeat (first | (with_reducible first | exact HK.out | apply KeepBut.set_ | apply keep_drewN | apply keep_drew | apply keep_alloc | refine keep_far ?_ GW209.out _ | refine keep_far ?_ GW210.out _) | exact HK.out)) hk (.inl rfl)); have n5_ := am (hb); have n6_ := am (hi); clear HO_211000; clear BK209; clear BK210; clear HO246; clear HK; clear HB; clear HI0; have HO_211000 := n0_; have BK209 := n1_; have BK210 := n2_; have HO246 := n3_; have HK := n4_; have HB := n5_; have HI0 := n6_; clear n0_ n1_ n2_ n3_ n4_ n5_ n6_; (try clear hb); (try clear hb2); (try clear hk); (try clear hi)))
            have pi265 : (0 ≤ (t261 : Int)) = True := eq_true (of_decide_eq_true (by first | (with_reducible assumption) | assumption))
            have qi265 : (t261 < (y258.length : Int)) = True := eq_true (of_decide_eq_true (by first | (with_reducible assumption) | assumption))
            have n0_ := am (Kd.S_drew HO_211000.out)
            have n1_ := am (Kd.R_drew HO246.out)
            have n2_ := am (blk_drew BK209.out)
            have n3_ := am (blk_drew BK210.out)
            have n4_ := am (IsS90.drew HI0.out)
            have n5_ := am (keep_drew HK.out)
            have n6_ := am (below_drew1 HB.out)
            clear HO_211000
            clear HO246
            clear BK209
            clear BK210
            clear HI0
            clear HK
            clear HB
            have HO_211000 := n0_
            have HO246 := n1_
            have BK209 := n2_
            have BK210 := n3_
            have HI0 := n4_
            have HK := n5_
            have HB := n6_
            clear n0_ n1_ n2_ n3_ n4_ n5_ n6_
            refine start_ (n := 11) (S := fun w' => w'.cell? ⟨gb210, 0, none⟩ = some (.slice Ao30 x211000_2.length co30) ∧ w'.cell? ⟨gb210, 1, none⟩ = some (.int .i64 x211001_25) ∧ w'.cell? ⟨gb210, 2, none⟩ = some (.slice Ao49 t244.length co49)) (ds := [10]) #[false, false, false, false, false, false, false, false, false, false, false] (by kernel_rfl) rfl rfl ⟨(blk_cell BK210.out 0).trans rfl, (blk_cell BK210.out 1).trans rfl, (blk_cell BK210.out 2).trans rfl⟩ (fun hHeld => ?_); refine with_tabW spec_l01Src_l06Hist.tab16 spec_l01Src_l06Hist.bits16 (fun HT_ HW_ => ?_)
            generalize w54.drew = w55 at HO_211000 HO246 BK209 BK210 HI0 HK HB hHeld ⊢
            refine pure_ (i := 0) (N := some 50) (v := ?_) (a' := ?_) #[true, false, false, false, false, false, false, false, false, false, false] rfl rfl (any_of HT_.out (by kernel_rfl)) (fun _ _ _ h => h) (Or.inl ⟨by rfl, ?_⟩) ?_ ?_
            rotate_left
            ·intro w'
             go_simp
             with_reducible rfl
            rotate_left
            ·simp only [Act.put, List.setIfInBounds_toArray, List.set_cons_zero, List.set_cons_succ, i64_w, i32_w]
             rfl
            refine pure_ (i := 5) (N := some 55) (v := ?_) (a' := ?_) #[true, false, false, false, false, true, false, false, false, false, false] rfl rfl (any_of HT_.out (by kernel_rfl)) (fun _ _ _ h => h) (Or.inl ⟨by rfl, ?_⟩) ?_ ?_
            rotate_left
            ·intro w'
             go_simp
             with_reducible rfl
            rotate_left
            ·simp only [Act.put, List.setIfInBounds_toArray, List.set_cons_zero, List.set_cons_succ, i64_w, i32_w]
             rfl
            refine take_ (i := 1) (N := some 51) (v := ?_) (a' := ?_) #[true, true, false, false, false, true, false, false, false, false, false] rfl rfl (take_ofW HT_.out HW_.out (by kernel_rfl)) (fun _ _ _ h => h) (Or.inl ⟨by rfl, ?_⟩) hHeld ?_ ?_
            rotate_left
            ·rintro w' ⟨s0, s1, s2⟩
             go_simp
             with_reducible rfl
            rotate_left
            ·simp only [Act.put, List.setIfInBounds_toArray, List.set_cons_zero, List.set_cons_succ, i64_w, i32_w]
             rfl
            refine pure_ (i := 2) (N := some 52) (v := ?_) (a' := ?_) #[true, true, true, false, false, true, false, false, false, false, false] rfl rfl (any_of HT_.out (by kernel_rfl)) (fun _ _ _ h => h) (Or.inl ⟨by rfl, ?_⟩) ?_ ?_
            rotate_left
            ·intro w'
             go_simp
             with_reducible rfl
            rotate_left
            ·simp only [Act.put, List.setIfInBounds_toArray, List.set_cons_zero, List.set_cons_succ, i64_w, i32_w]
             rfl
            refine pure_ (i := 3) (N := some 53) (v := ?_) (a' := ?_) #[true, true, true, true, false, true, false, false, false, false, false] rfl rfl (any_of HT_.out (by kernel_rfl)) (fun _ _ _ h => h) (Or.inl ⟨by rfl, ?_⟩) ?_ ?_
            rotate_left
            ·intro w'
             go_simp
             with_reducible rfl
            rotate_left
            ·simp only [Act.put, List.setIfInBounds_toArray, List.set_cons_zero, List.set_cons_succ, i64_w, i32_w]
             rfl
            refine join_ (σ := Value × Addr) 4 #[true, true, true, true, true, true, true, false, false, false, false] (fun s_ => [(54, s_.1), (56, .int .i64 t261)]) (fun s_ w' => (w'.cell? ⟨gb210, 0, none⟩ = some (.slice Ao30 x211000_2.length co30) ∧ w'.cell? ⟨gb210, 1, none⟩ = some (.int .i64 x211001_25) ∧ w'.cell? ⟨gb210, 2, none⟩ = some (.slice Ao49 t244.length co49)) ∧ (Kd.R (Kd.int .i64) 2 w' w.heap.size (fun k_ => some k_ ≠ (s_.1 : Value).ownBlock) (.slice Ao49 t244.length co49) t244) ∧ (Kd.R (Kd.int .i64) 2 w' w.heap.size (fun k_ => some k_ ≠ (.slice Ao49 t244.length co49 : Value).ownBlock) s_.1 y258) ∧ (Kd.S (Kd.slice 2 (Kd.int .i64)) 23 w' w.heap.size (fun k_ => some k_ ≠ (.slice Ao49 t244.length co49 : Value).ownBlock ∧ some k_ ≠ (s_.1 : Value).ownBlock) (.slice Ao30 x211000_2.length co30) x211000_2) ∧ (∃ c_, (s_.1 : Value) = .slice (some s_.2) y258.length c_) ∧ (w'.heap[gb209]? = some (.cells #[.slice none 0 0, .int .i64 0, .slice none 0 0] 53 (0, 0))) ∧ (w'.heap[gb210]? = some (.cells #[.slice Ao30 x211000_2.length co30, .int .i64 x211001_25, .slice Ao49 t244.length co49] 53 (0, 0))) ∧ (IsS90 w0 w' g s0_0 t262 t263 t264) ∧ (KeepBut w w' g none) ∧ (Below w0.heap.size w0 w')) ?_ ?_
            rotate_left
            ·intro hCont
             refine two_ (i := 4) (j := 6) (Ni := some 54) (Nj := some 56) #[true, true, true, true, true, true, false, false, false, false, false] #[true, true, true, true, false, true, true, false, false, false, false] rfl rfl rfl rfl (two_of HT_.out (by kernel_rfl)) (by decide) (by decide) (fun K hK => ?_) (fun K hK => ?_)
             ·skip
              refine Kd.R_lit_step (Kd.int .i64) _ 2 ?hg (N := 54) ?hd (xs := ([(-1), wrap64 ((x211000_2.length : Int) + 1)] : List Int)) (inner := [.int .i64 (-1), .int .i64 (wrap64 ((x211000_2.length : Int) + 1))]) (ok := fun _ => True) (okp := fun _ => True) ?hr ?hp (fun _ hk => hk) trivial (Below.refl _ _) (Nat.le_refl _) (by simp) ?_; (case hd => rfl); (case hg => rfl); (case hr => first | (go_simp; done) | (go_simp; rfl)); (case hp => exact (Reps.one (show Kd.M (Kd.int .i64) _ _ _ (-1) [.int .i64 (-1)] from rfl) (Reps.one (show Kd.M (Kd.int .i64) _ _ _ (wrap64 ((x211000_2.length : Int) + 1)) [.int .i64 (wrap64 ((x211000_2.length : Int) + 1))] from rfl) (Reps.none _ _))))
              intro v259 w56 ho57 hb hg_ hnew_
              clear hg_ hnew_
              (first | rw [← Ny258.out] at ho57 | (simp only [Int.reduceToNat] at ho57; rw [← Ny258.out] at ho57))
              have n0_ := am (Kd.S_elder' (by (with_reducible repeat (first | apply Kd.S_alloc | apply Kd.S_drewN | apply Kd.S_drew)); exact HO_211000.out) (Kd.R_base ho57) hb)
              have n1_ := am (Kd.R_elder' (by (with_reducible repeat (first | apply Kd.R_alloc | apply Kd.R_drewN | apply Kd.R_drew)); exact HO246.out) (Kd.R_base ho57) hb)
              have n2_ := am (Kd.R_lower (Kd.R_new' ho57 (Kd.R_lt (by (with_reducible repeat (first | apply Kd.R_alloc | apply Kd.R_drewN | apply Kd.R_drew)); exact HO246.out))) (keep_size (w := w) (g := g) (row := none) (by repeat (first | (with_reducible first | exact HK.out | apply KeepBut.set_ | apply keep_drewN | apply keep_drew | apply keep_alloc | refine keep_far ?_ GW209.out _ | refine keep_far ?_ GW210.out _) | exact HK.out))))
              have n3_ := am (blk_below (g := gb209) (o := .cells #[.slice none 0 0, .int .i64 0, .slice none 0 0] 53 (0, 0)) (pk BK209.out) hb)
              have n4_ := am (blk_below (g := gb210) (o := .cells #[.slice Ao30 x211000_2.length co30, .int .i64 x211001_25, .slice Ao49 t244.length co49] 53 (0, 0)) (pk BK210.out) hb)
              have n5_ := am (IsS90.below (by repeat (first | (with_reducible first | exact HI0.out | apply IsS90.alloc | apply IsS90.drewN | apply IsS90.drew | apply IsS90.set_1 | apply IsS90.set_2 | apply IsS90.set_3 | refine IsS90.far ?_ NB0_209.out _ | refine IsS90.far ?_ NB0_210.out _) | exact HI0.out)) hb)
              have n6_ := am (KeepBut.trans (by repeat (first | (with_reducible first | exact HK.out | apply KeepBut.set_ | apply keep_drewN | apply keep_drew | apply keep_alloc | refine keep_far ?_ GW209.out _ | refine keep_far ?_ GW210.out _) | exact HK.out)) (KeepBut.of_below hb g none) (.inl rfl))
              have n7_ := am (below_step (by repeat (first | (with_reducible first | exact HB.out | apply below_alloc | apply pw_below_drewN | apply below_drew1 | refine below_set ?_ (IsS90.ge HI0.out) | refine below_set ?_ GE209.out | refine below_set ?_ GE210.out) | exact HB.out)) hb)
              clear HO_211000
              clear HO246
              clear BK209
              clear BK210
              clear HI0
              clear HK
              clear HB
              have HO_211000 := n0_
              have HO246 := n1_
              have HO260 := n2_
              have BK209 := n3_
              have BK210 := n4_
              have HI0 := n5_
              have HK := n6_
              have HB := n7_
              clear n0_ n1_ n2_ n3_ n4_ n5_ n6_ n7_
              clear hb ho57
              obtain ⟨Ao58, co58, eo58⟩ := Kd.R_slice HO260.out
              subst eo58
              obtain ⟨ado58, fo58, _⟩ := Kd.at_int (Kd.R_reads' HO260.out).2.2 0 (by decide) (by rw [Ny258.out]; simp)
              cases fo58
              refine hK.out _ _ ⟨(blk_cell BK210.out 0).trans rfl, (blk_cell BK210.out 1).trans rfl, (blk_cell BK210.out 2).trans rfl⟩ (fun hHeld => ?_)
              clear hK K
              refine norm_ (a' := ?_) ?_ ?_
              rotate_left
              ·show Act.put _ (some 54) _ = _
               simp only [Act.put, List.setIfInBounds_toArray, List.set_cons_zero, List.set_cons_succ, i64_w, i32_w]
               rfl
              refine one_ (i := 6) (N := some 56) #[true, true, true, true, true, true, true, false, false, false, false] rfl rfl (one_of HT_.out (by kernel_rfl)) (by decide) (fun K hK => ?_)
              refine goes_ Try.func69 (by kernel_rfl) rfl #[.pointer (some ⟨g, 0, none⟩), .int .i64 2] (by rfl) rfl rfl (by (try simp only [List.map_toArray, List.map_cons, List.map_nil]); first | done | rfl | (simp only [List.length_drop, List.length_take]; rfl)) ?_
              with_reducible refine (spec_l01Src_n.calls g s0_0 t255 t256 t257 2 t261 t262 t263 t264 w0 _ ?side1 ?side2 A44.out).mono ?_
              (case side1 => repeat (first | (with_reducible first | exact HI0.out | apply IsS90.alloc | apply IsS90.drewN | apply IsS90.drew | apply IsS90.set_1 | apply IsS90.set_2 | apply IsS90.set_3 | refine IsS90.far ?_ NB0_209.out _ | refine IsS90.far ?_ NB0_210.out _) | exact HI0.out))
              (case side2 => repeat (first | (with_reducible first | exact HB.out | apply below_alloc | apply pw_below_drewN | apply below_drew1 | refine below_set ?_ (IsS90.ge HI0.out) | refine below_set ?_ GE209.out | refine below_set ?_ GE210.out) | exact HB.out))
              rintro e w59 ⟨rfl, hi, hb, hk⟩
              refine ⟨_, rfl, ?_⟩
              have n0_ := am (Kd.S_mono (Kd.S_keep (IsS90.apartS (show IsS90 w0 _ g s0_0 t255 t256 t257 from by repeat (first | (with_reducible first | exact HI0.out | apply IsS90.alloc | apply IsS90.drewN | apply IsS90.drew | apply IsS90.set_1 | apply IsS90.set_2 | apply IsS90.set_3 | refine IsS90.far ?_ NB0_209.out _ | refine IsS90.far ?_ NB0_210.out _) | exact HI0.out)) (by (with_reducible repeat (first | apply Kd.S_alloc | apply Kd.S_drewN | apply Kd.S_drew)); exact HO_211000.out) (by decide)) hk (fun _ h => h.2)) (fun _ h => h.1))
              have n1_ := am (KeepBut.blk hk (g' := gb209) (o := .cells #[.slice none 0 0, .int .i64 0, .slice none 0 0] 53 (0, 0)) (pk BK209.out) NB209_0.out (by simp))
              have n2_ := am (KeepBut.blk hk (g' := gb210) (o := .cells #[.slice Ao30 x211000_2.length co30, .int .i64 x211001_25, .slice Ao49 t244.length co49] 53 (0, 0)) (pk BK210.out) NB210_0.out (by simp))
              have n3_ := am (Kd.R_mono (Kd.R_keep (IsS90.apart (show IsS90 w0 _ g s0_0 t255 t256 t257 from by repeat (first | (with_reducible first | exact HI0.out | apply IsS90.alloc | apply IsS90.drewN | apply IsS90.drew | apply IsS90.set_1 | apply IsS90.set_2 | apply IsS90.set_3 | refine IsS90.far ?_ NB0_209.out _ | refine IsS90.far ?_ NB0_210.out _) | exact HI0.out)) (by (with_reducible repeat (first | apply Kd.R_alloc | apply Kd.R_drewN | apply Kd.R_drew)); exact HO246.out) (by decide)) hk (fun _ h => h.2)) (fun _ h => h.1))
              have n4_ := am (Kd.R_mono (Kd.R_keep (IsS90.apart (show IsS90 w0 _ g s0_0 t255 t256 t257 from by repeat (first | (with_reducible first | exact HI0.out | apply IsS90.alloc | apply IsS90.drewN | apply IsS90.drew | apply IsS90.set_1 | apply IsS90.set_2 | apply IsS90.set_3 | refine IsS90.far ?_ NB0_209.out _ | refine IsS90.far ?_ NB0_210.out _) | exact HI0.out)) (by (with_reducible repeat (first | apply Kd.R_alloc | apply Kd.R_drewN | apply Kd.R_drew)); exact HO260.out) (by decide)) hk (fun _ h => h.2)) (fun _ h => h.1))
              have n5_ := am (KeepBut.trans (by repeat (first | (with_reducible first | exact HK.out | apply KeepBut.set_ | apply keep_drewN | apply keep_drew | apply keep_alloc | refine keep_far ?_ GW209.out _ | refine keep_far ?_ GW210.out _) | exact HK.out)) hk (.inl rfl))
              have n6_ := am (hb)
              have n7_ := am (hi)
              clear HO_211000
              clear BK209
              clear BK210
              clear HO246
              clear HO260
              clear HK
              clear HB
              clear HI0
              have HO_211000 := n0_
              have BK209 := n1_
              have BK210 := n2_
              have HO246 := n3_
              have HO260 := n4_
              have HK := n5_
              have HB := n6_
              have HI0 := n7_
              clear n0_ n1_ n2_ n3_ n4_ n5_ n6_ n7_
              (try clear hb)
              (try clear hb2)
              (try clear hk)
              (try clear hi)
              refine hK.out _ _ ⟨(blk_cell BK210.out 0).trans rfl, (blk_cell BK210.out 1).trans rfl, (blk_cell BK210.out 2).trans rfl⟩ (fun hHeld => ?_)
              clear hK K
              refine norm_ (a' := ?_) ?_ ?_
              rotate_left
              ·show Act.put _ (some 56) _ = _
               simp only [Act.put, List.setIfInBounds_toArray, List.set_cons_zero, List.set_cons_succ, i64_w, i32_w]
               rfl
              exact norm_ (by simp only [putAll, Act.put, List.setIfInBounds_toArray, List.set_cons_zero, List.set_cons_succ]) (hCont (.slice (some ado58) y258.length co58, ado58) _ ⟨hHeld, (by (with_reducible repeat (first | apply Kd.R_alloc | apply Kd.R_drewN | apply Kd.R_drew)); exact Kd.R_mono HO246.out (fun _ hk => hk.2)), (by (with_reducible repeat (first | apply Kd.R_alloc | apply Kd.R_drewN | apply Kd.R_drew)); exact Kd.R_mono HO260.out (fun _ hk => hk.2)), (by (with_reducible repeat (first | apply Kd.S_alloc | apply Kd.S_drewN | apply Kd.S_drew)); exact Kd.S_mono HO_211000.out (fun _ hk => ⟨hk.1.2, hk.2⟩)), ⟨_, rfl⟩, (pk BK209.out), (pk BK210.out), (by repeat (first | (with_reducible first | exact HI0.out | apply IsS90.alloc | apply IsS90.drewN | apply IsS90.drew | apply IsS90.set_1 | apply IsS90.set_2 | apply IsS90.set_3 | refine IsS90.far ?_ NB0_209.out _ | refine IsS90.far ?_ NB0_210.out _) | exact HI0.out)), (by repeat (first | (with_reducible first | exact HK.out | apply KeepBut.set_ | apply keep_drewN | apply keep_drew | apply keep_alloc | refine keep_far ?_ GW209.out _ | refine keep_far ?_ GW210.out _) | exact HK.out)), (by repeat (first | (with_reducible first | exact HB.out | apply below_alloc | apply pw_below_drewN | apply below_drew1 | refine below_set ?_ (IsS90.ge HI0.out) | refine below_set ?_ GE209.out | refine below_set ?_ GE210.out) | exact HB.out))⟩)
             ·skip
              refine goes_ Try.func69 (by kernel_rfl) rfl #[.pointer (some ⟨g, 0, none⟩), .int .i64 2] (by rfl) rfl rfl (by (try simp only [List.map_toArray, List.map_cons, List.map_nil]); first | done | rfl | (simp only [List.length_drop, List.length_take]; rfl)) ?_
              with_reducible refine (spec_l01Src_n.calls g s0_0 t255 t256 t257 2 t261 t262 t263 t264 w0 _ ?side1 ?side2 A44.out).mono ?_
              (case side1 => repeat (first | (with_reducible first | exact HI0.out | apply IsS90.alloc | apply IsS90.drewN | apply IsS90.drew | apply IsS90.set_1 | apply IsS90.set_2 | apply IsS90.set_3 | refine IsS90.far ?_ NB0_209.out _ | refine IsS90.far ?_ NB0_210.out _) | exact HI0.out))
              (case side2 => repeat (first | (with_reducible first | exact HB.out | apply below_alloc | apply pw_below_drewN | apply below_drew1 | refine below_set ?_ (IsS90.ge HI0.out) | refine below_set ?_ GE209.out | refine below_set ?_ GE210.out) | exact HB.out))
              rintro e w56 ⟨rfl, hi, hb, hk⟩
              refine ⟨_, rfl, ?_⟩
              have n0_ := am (Kd.S_mono (Kd.S_keep (IsS90.apartS (show IsS90 w0 _ g s0_0 t255 t256 t257 from by repeat (first | (with_reducible first | exact HI0.out | apply IsS90.alloc | apply IsS90.drewN | apply IsS90.drew | apply IsS90.set_1 | apply IsS90.set_2 | apply IsS90.set_3 | refine IsS90.far ?_ NB0_209.out _ | refine IsS90.far ?_ NB0_210.out _) | exact HI0.out)) (by (with_reducible repeat (first | apply Kd.S_alloc | apply Kd.S_drewN | apply Kd.S_drew)); exact HO_211000.out) (by decide)) hk (fun _ h => h.2)) (fun _ h => h.1))
              have n1_ := am (KeepBut.blk hk (g' := gb209) (o := .cells #[.slice none 0 0, .int .i64 0, .slice none 0 0] 53 (0, 0)) (pk BK209.out) NB209_0.out (by simp))
              have n2_ := am (KeepBut.blk hk (g' := gb210) (o := .cells #[.slice Ao30 x211000_2.length co30, .int .i64 x211001_25, .slice Ao49 t244.length co49] 53 (0, 0)) (pk BK210.out) NB210_0.out (by simp))
              have n3_ := am (Kd.R_mono (Kd.R_keep (IsS90.apart (show IsS90 w0 _ g s0_0 t255 t256 t257 from by repeat (first | (with_reducible first | exact HI0.out | apply IsS90.alloc | apply IsS90.drewN | apply IsS90.drew | apply IsS90.set_1 | apply IsS90.set_2 | apply IsS90.set_3 | refine IsS90.far ?_ NB0_209.out _ | refine IsS90.far ?_ NB0_210.out _) | exact HI0.out)) (by (with_reducible repeat (first | apply Kd.R_alloc | apply Kd.R_drewN | apply Kd.R_drew)); exact HO246.out) (by decide)) hk (fun _ h => h.2)) (fun _ h => h.1))
              have n4_ := am (KeepBut.trans (by repeat (first | (with_reducible first | exact HK.out | apply KeepBut.set_ | apply keep_drewN | apply keep_drew | apply keep_alloc | refine keep_far ?_ GW209.out _ | refine keep_far ?_ GW210.out _) | exact HK.out)) hk (.inl rfl))
              have n5_ := am (hb)
              have n6_ := am (hi)
              clear HO_211000
              clear BK209
              clear BK210
              clear HO246
              clear HK
              clear HB
              clear HI0
              have HO_211000 := n0_
              have BK209 := n1_
              have BK210 := n2_
              have HO246 := n3_
              have HK := n4_
              have HB := n5_
              have HI0 := n6_
              clear n0_ n1_ n2_ n3_ n4_ n5_ n6_
              (try clear hb)
              (try clear hb2)
              (try clear hk)
              (try clear hi)
              refine hK.out _ _ ⟨(blk_cell BK210.out 0).trans rfl, (blk_cell BK210.out 1).trans rfl, (blk_cell BK210.out 2).trans rfl⟩ (fun hHeld => ?_)
              clear hK K
              refine norm_ (a' := ?_) ?_ ?_
              rotate_left
              ·show Act.put _ (some 56) _ = _
               simp only [Act.put, List.setIfInBounds_toArray, List.set_cons_zero, List.set_cons_succ, i64_w, i32_w]
               rfl
              refine one_ (i := 4) (N := some 54) #[true, true, true, true, true, true, true, false, false, false, false] rfl rfl (one_of HT_.out (by kernel_rfl)) (by decide) (fun K hK => ?_)
              refine Kd.R_lit_step (Kd.int .i64) _ 2 ?hg (N := 54) ?hd (xs := ([(-1), wrap64 ((x211000_2.length : Int) + 1)] : List Int)) (inner := [.int .i64 (-1), .int .i64 (wrap64 ((x211000_2.length : Int) + 1))]) (ok := fun _ => True) (okp := fun _ => True) ?hr ?hp (fun _ hk => hk) trivial (Below.refl _ _) (Nat.le_refl _) (by simp) ?_; (case hd => rfl); (case hg => rfl); (case hr => first | (go_simp; done) | (go_simp; rfl)); (case hp => exact (Reps.one (show Kd.M (Kd.int .i64) _ _ _ (-1) [.int .i64 (-1)] from rfl) (Reps.one (show Kd.M (Kd.int .i64) _ _ _ (wrap64 ((x211000_2.length : Int) + 1)) [.int .i64 (wrap64 ((x211000_2.length : Int) + 1))] from rfl) (Reps.none _ _))))
              intro v259 w57 ho58 hb hg_ hnew_
              clear hg_ hnew_
              (first | rw [← Ny258.out] at ho58 | (simp only [Int.reduceToNat] at ho58; rw [← Ny258.out] at ho58))
              have n0_ := am (Kd.S_elder' (by (with_reducible repeat (first | apply Kd.S_alloc | apply Kd.S_drewN | apply Kd.S_drew)); exact HO_211000.out) (Kd.R_base ho58) hb)
              have n1_ := am (Kd.R_elder' (by (with_reducible repeat (first | apply Kd.R_alloc | apply Kd.R_drewN | apply Kd.R_drew)); exact HO246.out) (Kd.R_base ho58) hb)
              have n2_ := am (Kd.R_lower (Kd.R_new' ho58 (Kd.R_lt (by (with_reducible repeat (first | apply Kd.R_alloc | apply Kd.R_drewN | apply Kd.R_drew)); exact HO246.out))) (keep_size (w := w) (g := g) (row := none) (by repeat (first | (with_reducible first | exact HK.out | apply KeepBut.set_ | apply keep_drewN | apply keep_drew | apply keep_alloc | refine keep_far ?_ GW209.out _ | refine keep_far ?_ GW210.out _) | exact HK.out))))
              have n3_ := am (blk_below (g := gb209) (o := .cells #[.slice none 0 0, .int .i64 0, .slice none 0 0] 53 (0, 0)) (pk BK209.out) hb)
              have n4_ := am (blk_below (g := gb210) (o := .cells #[.slice Ao30 x211000_2.length co30, .int .i64 x211001_25, .slice Ao49 t244.length co49] 53 (0, 0)) (pk BK210.out) hb)
              have n5_ := am (IsS90.below (by repeat (first | (with_reducible first | exact HI0.out | apply IsS90.alloc | apply IsS90.drewN | apply IsS90.drew | apply IsS90.set_1 | apply IsS90.set_2 | apply IsS90.set_3 | refine IsS90.far ?_ NB0_209.out _ | refine IsS90.far ?_ NB0_210.out _) | exact HI0.out)) hb)
              have n6_ := am (KeepBut.trans (by repeat (first | (with_reducible first | exact HK.out | apply KeepBut.set_ | apply keep_drewN | apply keep_drew | apply keep_alloc | refine keep_far ?_ GW209.out _ | refine keep_far ?_ GW210.out _) | exact HK.out)) (KeepBut.of_below hb g none) (.inl rfl))
              have n7_ := am (below_step (by repeat (first | (with_reducible first | exact HB.out | apply below_alloc | apply pw_below_drewN | apply below_drew1 | refine below_set ?_ (IsS90.ge HI0.out) | refine below_set ?_ GE209.out | refine below_set ?_ GE210.out) | exact HB.out)) hb)
              clear HO_211000
              clear HO246
              clear BK209
              clear BK210
              clear HI0
              clear HK
              clear HB
              have HO_211000 := n0_
              have HO246 := n1_
              have HO260 := n2_
              have BK209 := n3_
              have BK210 := n4_
              have HI0 := n5_
              have HK := n6_
              have HB := n7_
              clear n0_ n1_ n2_ n3_ n4_ n5_ n6_ n7_
              clear hb ho58
              obtain ⟨Ao59, co59, eo59⟩ := Kd.R_slice HO260.out
              subst eo59
              obtain ⟨ado59, fo59, _⟩ := Kd.at_int (Kd.R_reads' HO260.out).2.2 0 (by decide) (by rw [Ny258.out]; simp)
              cases fo59
              refine hK.out _ _ ⟨(blk_cell BK210.out 0).trans rfl, (blk_cell BK210.out 1).trans rfl, (blk_cell BK210.out 2).trans rfl⟩ (fun hHeld => ?_)
              clear hK K
              refine norm_ (a' := ?_) ?_ ?_
              rotate_left
              ·show Act.put _ (some 54) _ = _
               simp only [Act.put, List.setIfInBounds_toArray, List.set_cons_zero, List.set_cons_succ, i64_w, i32_w]
               rfl
              exact norm_ (by simp only [putAll, Act.put, List.setIfInBounds_toArray, List.set_cons_zero, List.set_cons_succ]) (hCont (.slice (some ado59) y258.length co59, ado59) _ ⟨hHeld, (by (with_reducible repeat (first | apply Kd.R_alloc | apply Kd.R_drewN | apply Kd.R_drew)); exact Kd.R_mono HO246.out (fun _ hk => hk.2)), (by (with_reducible repeat (first | apply Kd.R_alloc | apply Kd.R_drewN | apply Kd.R_drew)); exact Kd.R_mono HO260.out (fun _ hk => hk.2)), (by (with_reducible repeat (first | apply Kd.S_alloc | apply Kd.S_drewN | apply Kd.S_drew)); exact Kd.S_mono HO_211000.out (fun _ hk => ⟨hk.1.2, hk.2⟩)), ⟨_, rfl⟩, (pk BK209.out), (pk BK210.out), (by repeat (first | (with_reducible first | exact HI0.out | apply IsS90.alloc | apply IsS90.drewN | apply IsS90.drew | apply IsS90.set_1 | apply IsS90.set_2 | apply IsS90.set_3 | refine IsS90.far ?_ NB0_209.out _ | refine IsS90.far ?_ NB0_210.out _) | exact HI0.out)), (by repeat (first | (with_reducible first | exact HK.out | apply KeepBut.set_ | apply keep_drewN | apply keep_drew | apply keep_alloc | refine keep_far ?_ GW209.out _ | refine keep_far ?_ GW210.out _) | exact HK.out)), (by repeat (first | (with_reducible first | exact HB.out | apply below_alloc | apply pw_below_drewN | apply below_drew1 | refine below_set ?_ (IsS90.ge HI0.out) | refine below_set ?_ GE209.out | refine below_set ?_ GE210.out) | exact HB.out))⟩)
            rintro ⟨v259, adz_v259⟩ w60 ⟨hS_, h0_, h1_, h2_, h3_, h4_, h5_, h6_, h7_, h8_⟩
            have n0_ : Aside0 (Kd.R (Kd.int .i64) 2 w60 w.heap.size (fun k_ => some k_ ≠ (v259 : Value).ownBlock) (.slice Ao49 t244.length co49) t244) := ⟨h0_⟩
            have n1_ : Aside0 (Kd.R (Kd.int .i64) 2 w60 w.heap.size (fun k_ => some k_ ≠ (.slice Ao49 t244.length co49 : Value).ownBlock) v259 y258) := ⟨h1_⟩
            have n2_ : Aside0 (Kd.S (Kd.slice 2 (Kd.int .i64)) 23 w60 w.heap.size (fun k_ => some k_ ≠ (.slice Ao49 t244.length co49 : Value).ownBlock ∧ some k_ ≠ (v259 : Value).ownBlock) (.slice Ao30 x211000_2.length co30) x211000_2) := ⟨h2_⟩
            have n3_ : Aside0 (∃ c_, (v259 : Value) = .slice (some adz_v259) y258.length c_) := ⟨h3_⟩
            have n4_ : Aside0 (w60.heap[gb209]? = some (.cells #[.slice none 0 0, .int .i64 0, .slice none 0 0] 53 (0, 0))) := ⟨h4_⟩
            have n5_ : Aside0 (w60.heap[gb210]? = some (.cells #[.slice Ao30 x211000_2.length co30, .int .i64 x211001_25, .slice Ao49 t244.length co49] 53 (0, 0))) := ⟨h5_⟩
            have n6_ : Aside0 (IsS90 w0 w60 g s0_0 t262 t263 t264) := ⟨h6_⟩
            have n7_ : Aside0 (KeepBut w w60 g none) := ⟨h7_⟩
            have n8_ : Aside0 (Below w0.heap.size w0 w60) := ⟨h8_⟩
            clear HO_211000
            clear HO246
            clear BK209
            clear BK210
            clear HI0
            clear HK
            clear HB
            clear h0_ h1_ h2_ h3_ h4_ h5_ h6_ h7_ h8_
            have HO246 := n0_
            have HO260 := n1_
            have HO_211000 := n2_
            have HA_HO260 := n3_
            have BK209 := n4_
            have BK210 := n5_
            have HI0 := n6_
            have HK := n7_
            have HB := n8_
            clear n0_ n1_ n2_ n3_ n4_ n5_ n6_ n7_ n8_
            have hHeld : w60.cell? ⟨gb210, 0, none⟩ = some (.slice Ao30 x211000_2.length co30) ∧ w60.cell? ⟨gb210, 1, none⟩ = some (.int .i64 x211001_25) ∧ w60.cell? ⟨gb210, 2, none⟩ = some (.slice Ao49 t244.length co49) := hS_
            obtain ⟨co61, eo61⟩ := HA_HO260.out
            clear HA_HO260
            subst eo61
            refine norm_ (a' := ?_) ?_ ?_
            rotate_left
            ·simp only [putAll, Act.put, List.setIfInBounds_toArray, List.set_cons_zero, List.set_cons_succ]
             rfl
            refine pure_ (i := 7) (N := some 57) (v := ?_) (a' := ?_) #[true, true, true, true, true, true, true, true, false, false, false] rfl rfl (any_of HT_.out (by kernel_rfl)) (fun _ _ _ h => h) (Or.inl ⟨by rfl, ?_⟩) ?_ ?_
            rotate_left
            ·intro w'
             go_simp
             with_reducible rfl
            rotate_left
            ·simp only [Act.put, List.setIfInBounds_toArray, List.set_cons_zero, List.set_cons_succ, i64_w, i32_w]
             rfl
            refine one_ (i := 8) (N := some 58) #[true, true, true, true, true, true, true, true, true, false, false] rfl rfl (one_of HT_.out (by kernel_rfl)) (by decide) (fun K hK => ?_)
            (have p265 : 0 ≤ (t261 : Int) := of_decide_eq_true (by first | (with_reducible assumption) | assumption); have q265 : t261 < (y258.length : Int) := of_decide_eq_true (by first | (with_reducible assumption) | assumption); obtain ⟨ad265, e265, hx265_0⟩ := Kd.at_int (Kd.R_reads' HO260.out).2.2 t261 p265 q265; obtain rfl : adz_v259 = ad265 := (by injection e265))
            refine value_ (w1 := ?_) (v := ?_) (by rfl) rfl ?_ ?_
            rotate_left 2
            ·go_simp
             constructor
             ·rfl
             ·rfl
            clear hx265_0
            refine hK.out _ _ ⟨(blk_cell BK210.out 0).trans rfl, (blk_cell BK210.out 1).trans rfl, (blk_cell BK210.out 2).trans rfl⟩ (fun hHeld => ?_)
            clear hK K
            refine norm_ (a' := ?_) ?_ ?_
            rotate_left
            ·show Act.put _ (some 58) _ = _
             simp only [Act.put, List.setIfInBounds_toArray, List.set_cons_zero, List.set_cons_succ, i64_w, i32_w]
             rfl
            refine pure_ (i := 9) (N := some 59) (v := ?_) (a' := ?_) #[true, true, true, true, true, true, true, true, true, true, false] rfl rfl (any_of HT_.out (by kernel_rfl)) (fun _ _ _ h => h) (Or.inl ⟨by rfl, ?_⟩) ?_ ?_
            rotate_left
            ·intro w'
             go_simp
             with_reducible rfl
            rotate_left
            ·simp only [Act.put, List.setIfInBounds_toArray, List.set_cons_zero, List.set_cons_succ, i64_w, i32_w]
             rfl
            refine last_ (i := 10) (N := none) #[true, true, true, true, true, true, true, true, true, true, true] rfl rfl (one_of HT_.out (by kernel_rfl)) (by decide) (fun K hK => ?_)
            have hs62 : w60.cell? ⟨gb210, 1, none⟩ = some (.int .i64 x211001_25) := (blk_cell BK210.out 1).trans rfl
            have hfs62 := blk_frozen BK210.out 1
            have hns62_0 := NB209_210.out
            have hms62_0 := NB210_209.out
            refine skip_ (w1 := ?_) (by rfl) rfl ?_ ?_
            rotate_left
            ·go_simp
             rfl
            refine hK.out _ _ ?_
            clear hK K
            refine done_ (done_of HT_.out (by kernel_rfl)) ?_
            have hcz63_0 : w60.cell? ⟨gb210, 0, none⟩ = some (.slice Ao30 x211000_2.length co30) := (blk_cell BK210.out 0).trans rfl
            have hcz63_1 : w60.cell? ⟨gb210, 1, none⟩ = some (.int .i64 x211001_25) := (blk_cell BK210.out 1).trans rfl
            have hcz63_2 : w60.cell? ⟨gb210, 2, none⟩ = some (.slice Ao49 t244.length co49) := (blk_cell BK210.out 2).trans rfl
            have hfz63_0 := blk_frozen BK210.out 0
            have hfz63_1 := blk_frozen BK210.out 1
            have hfz63_2 := blk_frozen BK210.out 2
            have hnb64 := NB209_0.out
            have hnc64 := NB0_209.out
            have hcz65_0 : w60.cell? ⟨gb209, 0, none⟩ = some (.slice none 0 0) := (blk_cell BK209.out 0).trans rfl
            have hcz65_1 : w60.cell? ⟨gb209, 1, none⟩ = some (.int .i64 0) := (blk_cell BK209.out 1).trans rfl
            have hcz65_2 : w60.cell? ⟨gb209, 2, none⟩ = some (.slice none 0 0) := (blk_cell BK209.out 2).trans rfl
            have hfz65_0 := blk_frozen BK209.out 0
            have hfz65_1 := blk_frozen BK209.out 1
            have hfz65_2 := blk_frozen BK209.out 2
            try go_wp2
            refine bodyPost_ret (results_cell_row rfl _ _ gb209 53 #[.slice Ao30 x211000_2.length co30, .int .i64 (rd y258 t261), .slice Ao49 t244.length co49] (0, 0) _ rfl (by (with_reducible repeat (first | refine blk_drewN ?_ _ | refine blk_drew ?_ | refine blk_alloc ?_ _)); refine blk_put (cs := #[.slice Ao30 x211000_2.length co30, .int .i64 (rd y258 t261), .slice none 0 0]) ?_ 2 _ rfl; (with_reducible repeat (first | refine blk_drewN ?_ _ | refine blk_drew ?_ | refine blk_alloc ?_ _)); refine blk_put (cs := #[.slice Ao30 x211000_2.length co30, .int .i64 0, .slice none 0 0]) ?_ 1 _ rfl; (with_reducible repeat (first | refine blk_drewN ?_ _ | refine blk_drew ?_ | refine blk_alloc ?_ _)); refine blk_put (cs := #[.slice none 0 0, .int .i64 0, .slice none 0 0]) ?_ 0 _ rfl; (with_reducible repeat (first | refine blk_drewN ?_ _ | refine blk_drew ?_ | refine blk_alloc ?_ _)); refine blk_far ?_ NB209_210.out _; (with_reducible repeat (first | refine blk_drewN ?_ _ | refine blk_drew ?_ | refine blk_alloc ?_ _)); exact BK209.out) Try.underlying53 rfl (by kernel_rfl)) rfl ?_
            exact ⟨_, _, by first | rfl | (simp [errW_none, errW_some] <;> rfl) | (simp [*, errW_none, errW_some] <;> rfl), by (with_reducible repeat (first | apply Kd.S_alloc | apply Kd.S_drewN | apply Kd.S_drew)); exact Kd.S_mono (Kd.S_far (p := ⟨gb209, 2, none⟩) (Kd.S_far (p := ⟨gb209, 1, none⟩) (Kd.S_far (p := ⟨gb209, 0, none⟩) (Kd.S_far (p := ⟨gb210, 1, none⟩) (Kd.S_types (Kd.S_types HO_211000.out BK210.out (by decide)) BK209.out (by decide)) (fun _ hk => hk.1.2) (.int .i64 (rd y258 t261))) (fun _ hk => hk.2) (.slice Ao30 x211000_2.length co30)) (fun _ hk => hk.2) (.int .i64 (rd y258 t261))) (fun _ hk => hk.2) (.slice Ao49 t244.length co49)) (fun _ hk => hk.1.1.1), by (with_reducible repeat (first | apply Kd.R_alloc | apply Kd.R_drewN | apply Kd.R_drew)); exact Kd.R_mono (Kd.R_far (p := ⟨gb209, 2, none⟩) (Kd.R_far (p := ⟨gb209, 1, none⟩) (Kd.R_far (p := ⟨gb209, 0, none⟩) (Kd.R_far (p := ⟨gb210, 1, none⟩) (Kd.R_types (Kd.R_types HO246.out BK210.out (by decide)) BK209.out (by decide)) (fun _ hk => hk.1.2) (.int .i64 (rd y258 t261))) (fun _ hk => hk.2) (.slice Ao30 x211000_2.length co30)) (fun _ hk => hk.2) (.int .i64 (rd y258 t261))) (fun _ hk => hk.2) (.slice Ao49 t244.length co49)) (fun _ hk => trivial), by repeat (first | (with_reducible first | exact HI0.out | apply IsS90.alloc | apply IsS90.drewN | apply IsS90.drew | apply IsS90.set_1 | apply IsS90.set_2 | apply IsS90.set_3 | refine IsS90.far ?_ NB0_209.out _ | refine IsS90.far ?_ NB0_210.out _) | exact HI0.out), by repeat (first | (with_reducible first | exact HB.out | apply below_alloc | apply pw_below_drewN | apply below_drew1 | refine below_set ?_ (IsS90.ge HI0.out) | refine below_set ?_ GE209.out | refine below_set ?_ GE210.out) | exact HB.out), by repeat (first | (with_reducible first | exact HK.out | apply KeepBut.set_ | apply keep_drewN | apply keep_drew | apply keep_alloc | refine keep_far ?_ GW209.out _ | refine keep_far ?_ GW210.out _) | exact HK.out)⟩
           ·rw [if_neg c46] at H
            exact absurd H (by simp)
          ·rw [if_neg c45] at H
           exact absurd H (by simp)
         ·rw [if_neg c43] at H
          have c43b0 : (t254 == 0) = false := beq_eq_false_iff_ne.mpr c43
          have c43b1 : (t254 != 0) = true := bne_iff_ne.mpr c43
          by_cases c66 : t254 = 1
          ·rw [if_pos c66] at H
           have c66b0 : (t254 == 1) = true := beq_iff_eq.mpr c66
           have c66b1 : (t254 != 1) = false := bne_eq_false_iff_eq.mpr c66
           clear c66
           obtain ⟨y266, hy266⟩ : ∃ y_ : List Int, y_ = (([] : List Int)) := ⟨_, rfl⟩
           replace H : (if x211000_2.length < 5864062014805 then (some ((x211000_2 ++ [y266]), x211001_25, t244, t255, t256, t257)) else (none)) = some (r1, r2, r3, r4, r5, r6) := by first | (rw [hy266]; with_reducible exact H) | (have H2_ := (Option.bind_some _ _).symm.trans H; rw [hy266]; with_reducible exact H2_) | (have H2_ := (Option.bind_some _ _).symm.trans H; with_reducible exact H2_) | with_reducible exact H | (rw [hy266]; exact H) | exact H
           have Ny266 := am hy266
           clear hy266
           by_cases c67 : x211000_2.length < 5864062014805
           ·rw [if_pos c67] at H
            have LMc67 := Aside0.mk c67
            clear c67
            obtain ⟨y269, hy269⟩ : ∃ y_ : List (List Int), y_ = (x211000_2 ++ [y266]) := ⟨_, rfl⟩
            replace H : (some (y269, x211001_25, t244, t255, t256, t257)) = some (r1, r2, r3, r4, r5, r6) := by first | (rw [hy269]; with_reducible exact H) | (have H2_ := (Option.bind_some _ _).symm.trans H; rw [hy269]; with_reducible exact H2_) | (have H2_ := (Option.bind_some _ _).symm.trans H; with_reducible exact H2_) | with_reducible exact H | (rw [hy269]; exact H) | exact H
            have Ny269 := am hy269
            clear hy269
            simp only [Option.some.injEq, Prod.mk.injEq] at H
            obtain ⟨rfl, rfl, rfl, rfl, rfl, rfl⟩ := H
            go_wp2_with (first | ((with_reducible refine gate_callee (f := 69) rfl ?_); refine gl (some 39) Try.func69 #[.pointer (some ⟨g, 0, none⟩), .int .i64 4] ?_; (with_reducible refine (spec_l01Src_n.calls g s0_0 t237 t238 t239 4 t240 t241 t242 t243 w0 _ ?side1 ?side2 A38.out).mono ?_); (case side1 => repeat (first | (with_reducible first | exact HI0.out | apply IsS90.alloc | apply IsS90.drewN | apply IsS90.drew | apply IsS90.set_1 | apply IsS90.set_2 | apply IsS90.set_3 | refine IsS90.far ?_ NB0_209.out _ | refine IsS90.far ?_ NB0_210.out _) | exact HI0.out)); (case side2 => repeat (first | (with_reducible first | exact HB.out | apply below_alloc | apply pw_below_drewN | apply below_drew1 | refine below_set ?_ (IsS90.ge HI0.out) | refine below_set ?_ GE209.out | refine below_set ?_ GE210.out) | exact HB.out)); rintro e w68 ⟨rfl, hi, hb, hk⟩; refine ⟨_, rfl, ?_⟩; have n0_ := am (Kd.S_mono (Kd.S_keep (IsS90.apartS (show IsS90 w0 _ g s0_0 t237 t238 t239 from by repeat (first | (with_reducible first | exact HI0.out | apply IsS90.alloc | apply IsS90.drewN | apply IsS90.drew | apply IsS90.set_1 | apply IsS90.set_2 | apply IsS90.set_3 | refine IsS90.far ?_ NB0_209.out _ | refine IsS90.far ?_ NB0_210.out _) | exact HI0.out)) (by (with_reducible repeat (first | apply Kd.S_alloc | apply Kd.S_drewN | apply Kd.S_drew)); exact HO_211000.out) (by decide)) hk (fun _ h => h.2)) (fun _ h => h.1)); have n1_ := am (KeepBut.blk hk (g' := gb209) (o := .cells #[.slice none 0 0, .int .i64 0, .slice none 0 0] 53 (0, 0)) (pk BK209.out) NB209_0.out (by simp)); have n2_ := am (KeepBut.blk hk (g' := gb210) (o := .cells #[.slice Ao30 x211000_2.length co30, .int .i64 x211001_25, .slice none 0 0] 53 (0, 0)) (pk BK210.out) NB210_0.out (by simp)); have n3_ := am (KeepBut.trans (by repeat (first | (with_reducible first | exact HK.out | apply KeepBut.set_ | apply keep_drewN | apply keep_drew | apply keep_alloc | refine keep_far ?_ GW209.out _ | refine keep_far ?_ GW210.out _) | exact HK.out)) hk (.inl rfl)); have n4_ := am (hb); have n5_ := am (hi); clear HO_211000; clear BK209; clear BK210; clear HK; clear HB; clear HI0; have HO_211000 := n0_; have BK209 := n1_; have BK210 := n2_; have HK := n3_; have HB := n4_; have HI0 := n5_; clear n0_ n1_ n2_ n3_ n4_ n5_; (try clear hb); (try clear hb2); (try clear hk); (try clear hi)) | ((with_reducible refine gate_callee (f := 79) rfl ?_); refine gl (some 40) Try.func79 #[.pointer (some ⟨g, 0, none⟩), .int .i64 t240] ?_; (with_reducible refine (spec_l01Src_points.calls kj25 g s0_0 t241 t242 t243 t240 t244 t247 t248 t249 w0 _ ?side1 ?side2 A39.out).mono ?_); (case side1 => repeat (first | (with_reducible first | exact HI0.out | apply IsS90.alloc | apply IsS90.drewN | apply IsS90.drew | apply IsS90.set_1 | apply IsS90.set_2 | apply IsS90.set_3 | refine IsS90.far ?_ NB0_209.out _ | refine IsS90.far ?_ NB0_210.out _) | exact HI0.out)); (case side2 => repeat (first | (with_reducible first | exact HB.out | apply below_alloc | apply pw_below_drewN | apply below_drew1 | refine below_set ?_ (IsS90.ge HI0.out) | refine below_set ?_ GE209.out | refine below_set ?_ GE210.out) | exact HB.out)); rintro e w69 ⟨v245, rfl, ho0, hi, hb, hk⟩; refine ⟨_, rfl, ?_⟩; have n0_ := am (Kd.S_mono (Kd.S_told (Kd.S_oldK (IsS90.apartS (show IsS90 w0 _ g s0_0 t241 t242 t243 from by repeat (first | (with_reducible first | exact HI0.out | apply IsS90.alloc | apply IsS90.drewN | apply IsS90.drew | apply IsS90.set_1 | apply IsS90.set_2 | apply IsS90.set_3 | refine IsS90.far ?_ NB0_209.out _ | refine IsS90.far ?_ NB0_210.out _) | exact HI0.out)) (by (with_reducible repeat (first | apply Kd.S_alloc | apply Kd.S_drewN | apply Kd.S_drew)); exact HO_211000.out) (by decide)) hk) (Kd.R_base ho0)) (fun _ h_ => h_.1)); have n1_ := am (KeepBut.blk hk (g' := gb209) (o := .cells #[.slice none 0 0, .int .i64 0, .slice none 0 0] 53 (0, 0)) (pk BK209.out) NB209_0.out (by simp)); have n2_ := am (KeepBut.blk hk (g' := gb210) (o := .cells #[.slice Ao30 x211000_2.length co30, .int .i64 x211001_25, .slice none 0 0] 53 (0, 0)) (pk BK210.out) NB210_0.out (by simp)); have n3_ := am (Kd.R_lower ho0 (keep_size (w := w) (g := g) (row := none) (by repeat (first | (with_reducible first | exact HK.out | apply KeepBut.set_ | apply keep_drewN | apply keep_drew | apply keep_alloc | refine keep_far ?_ GW209.out _ | refine keep_far ?_ GW210.out _) | exact HK.out)))); have n4_ := am (KeepBut.trans (by repeat (first | (with_reducible first | exact HK.out | apply KeepBut.set_ | apply keep_drewN | apply keep_drew | apply keep_alloc | refine keep_far ?_ GW209.out _ | refine keep_far ?_ GW210.out _) | exact HK.out)) hk (.inl rfl)); have n5_ := am (hb); have n6_ := am (hi); clear HO_211000; clear BK209; clear BK210; clear HK; clear HB; clear HI0; have HO_211000 := n0_; have BK209 := n1_; have BK210 := n2_; have HO246 := n3_; have HK := n4_; have HB := n5_; have HI0 := n6_; clear n0_ n1_ n2_ n3_ n4_ n5_ n6_; (try clear hb); (try clear hb2); (try clear hk); (try clear hi); (try clear ho0); obtain ⟨Ao70, co70, eo70⟩ := Kd.R_slice HO246.out; subst eo70; have hnb71 := NB210_209.out; have hnc71 := NB209_210.out; have hnb72 := NB210_0.out; have hnc72 := NB0_210.out; have hcz73_0 : w69.cell? ⟨gb210, 0, none⟩ = some (.slice Ao30 x211000_2.length co30) := (blk_cell BK210.out 0).trans rfl; have hcz73_1 : w69.cell? ⟨gb210, 1, none⟩ = some (.int .i64 x211001_25) := (blk_cell BK210.out 1).trans rfl; have hcz73_2 : w69.cell? ⟨gb210, 2, none⟩ = some (.slice none 0 0) := (blk_cell BK210.out 2).trans rfl; have hfz73_0 := blk_frozen BK210.out 0; have hfz73_1 := blk_frozen BK210.out 1; have hfz73_2 := blk_frozen BK210.out 2) | ((with_reducible refine gate_callee (f := 66) rfl ?_); refine gl (some 43) Try.func66 #[.pointer (some ⟨g, 0, none⟩), .int .i64 20] ?_; (with_reducible refine (spec_l01Src_one.calls g s0_0 t247 t248 t249 20 true t251 t252 t253 w0 _ ?side1 ?side2 A40.out).mono ?_); (case side1 => repeat (first | (with_reducible first | exact HI0.out | apply IsS90.alloc | apply IsS90.drewN | apply IsS90.drew | apply IsS90.set_1 | apply IsS90.set_2 | apply IsS90.set_3 | refine IsS90.far ?_ NB0_209.out _ | refine IsS90.far ?_ NB0_210.out _) | exact HI0.out)); (case side2 => repeat (first | (with_reducible first | exact HB.out | apply below_alloc | apply pw_below_drewN | apply below_drew1 | refine below_set ?_ (IsS90.ge HI0.out) | refine below_set ?_ GE209.out | refine below_set ?_ GE210.out) | exact HB.out)); rintro e w74 ⟨rfl, hi, hb, hk⟩; refine ⟨_, rfl, ?_⟩; have n0_ := am (Kd.S_mono (Kd.S_keep (IsS90.apartS (show IsS90 w0 _ g s0_0 t247 t248 t249 from by repeat (first | (with_reducible first | exact HI0.out | apply IsS90.alloc | apply IsS90.drewN | apply IsS90.drew | apply IsS90.set_1 | apply IsS90.set_2 | apply IsS90.set_3 | refine IsS90.far ?_ NB0_209.out _ | refine IsS90.far ?_ NB0_210.out _) | exact HI0.out)) (by (with_reducible repeat (first | apply Kd.S_alloc | apply Kd.S_drewN | apply Kd.S_drew)); exact (Kd.S_mono (Kd.S_far (p := ⟨gb210, 2, none⟩) (Kd.S_types HO_211000.out BK210.out (by decide)) (fun _ hk => hk.2) (.slice Ao70 t244.length co70)) (fun _ h_ => h_.1))) (by decide)) hk (fun _ h => h.2)) (fun _ h => h.1)); have n1_ := am (KeepBut.blk hk (g' := gb209) (o := .cells #[.slice none 0 0, .int .i64 0, .slice none 0 0] 53 (0, 0)) (by (with_reducible repeat (first | refine blk_drewN ?_ _ | refine blk_drew ?_ | refine blk_alloc ?_ _)); refine blk_far ?_ NB209_210.out _; (with_reducible repeat (first | refine blk_drewN ?_ _ | refine blk_drew ?_ | refine blk_alloc ?_ _)); exact BK209.out) NB209_0.out (by simp)); have n2_ := am (KeepBut.blk hk (g' := gb210) (o := .cells #[.slice Ao30 x211000_2.length co30, .int .i64 x211001_25, .slice Ao70 t244.length co70] 53 (0, 0)) (by (with_reducible repeat (first | refine blk_drewN ?_ _ | refine blk_drew ?_ | refine blk_alloc ?_ _)); refine blk_put (cs := #[.slice Ao30 x211000_2.length co30, .int .i64 x211001_25, .slice none 0 0]) ?_ 2 _ rfl; (with_reducible repeat (first | refine blk_drewN ?_ _ | refine blk_drew ?_ | refine blk_alloc ?_ _)); exact BK210.out) NB210_0.out (by simp)); have n3_ := am (Kd.R_mono (Kd.R_keep (IsS90.apart (show IsS90 w0 _ g s0_0 t247 t248 t249 from by repeat (first | (with_reducible first | exact HI0.out | apply IsS90.alloc | apply IsS90.drewN | apply IsS90.drew | apply IsS90.set_1 | apply IsS90.set_2 | apply IsS90.set_3 | refine IsS90.far ?_ NB0_209.out _ | refine IsS90.far ?_ NB0_210.out _) | exact HI0.out)) (by (with_reducible repeat (first | apply Kd.R_alloc | apply Kd.R_drewN | apply Kd.R_drew)); exact (Kd.R_mono (Kd.R_far (p := ⟨gb210, 2, none⟩) (Kd.R_types HO246.out BK210.out (by decide)) (fun _ hk => hk.2) (.slice Ao70 t244.length co70)) (fun _ h_ => h_.1))) (by decide)) hk (fun _ h => h.2)) (fun _ h => h.1)); have n4_ := am (KeepBut.trans (by repeat (first | (with_reducible first | exact HK.out | apply KeepBut.set_ | apply keep_drewN | apply keep_drew | apply keep_alloc | refine keep_far ?_ GW209.out _ | refine keep_far ?_ GW210.out _) | exact HK.out)) hk (.inl rfl)); have n5_ := am (hb); have n6_ := am (hi); clear HO_211000; clear BK209; clear BK210; clear HO246; clear HK; clear HB; clear HI0; have HO_211000 := n0_; have BK209 := n1_; have BK210 := n2_; have HO246 := n3_; have HK := n4_; have HB := n5_; have HI0 := n6_; clear n0_ n1_ n2_ n3_ n4_ n5_ n6_; (try clear hb); (try clear hb2); (try clear hk); (try clear hi)) | ((with_reducible refine gate_callee (f := 69) rfl ?_); refine gl (some 45) Try.func69 #[.pointer (some ⟨g, 0, none⟩), .int .i64 3] ?_; (with_reducible refine (spec_l01Src_n.calls g s0_0 t251 t252 t253 3 t254 t255 t256 t257 w0 _ ?side1 ?side2 A42.out).mono ?_); (case side1 => repeat (first | (with_reducible first | exact HI0.out | apply IsS90.alloc | apply IsS90.drewN | apply IsS90.drew | apply IsS90.set_1 | apply IsS90.set_2 | apply IsS90.set_3 | refine IsS90.far ?_ NB0_209.out _ | refine IsS90.far ?_ NB0_210.out _) | exact HI0.out)); (case side2 => repeat (first | (with_reducible first | exact HB.out | apply below_alloc | apply pw_below_drewN | apply below_drew1 | refine below_set ?_ (IsS90.ge HI0.out) | refine below_set ?_ GE209.out | refine below_set ?_ GE210.out) | exact HB.out)); rintro e w75 ⟨rfl, hi, hb, hk⟩; refine ⟨_, rfl, ?_⟩; have n0_ := am (Kd.S_mono (Kd.S_keep (IsS90.apartS (show IsS90 w0 _ g s0_0 t251 t252 t253 from by repeat (first | (with_reducible first | exact HI0.out | apply IsS90.alloc | apply IsS90.drewN | apply IsS90.drew | apply IsS90.set_1 | apply IsS90.set_2 | apply IsS90.set_3 | refine IsS90.far ?_ NB0_209.out _ | refine IsS90.far ?_ NB0_210.out _) | exact HI0.out)) (by (with_reducible repeat (first | apply Kd.S_alloc | apply Kd.S_drewN | apply Kd.S_drew)); exact HO_211000.out) (by decide)) hk (fun _ h => h.2)) (fun _ h => h.1)); have n1_ := am (KeepBut.blk hk (g' := gb209) (o := .cells #[.slice none 0 0, .int .i64 0, .slice none 0 0] 53 (0, 0)) (pk BK209.out) NB209_0.out (by simp)); have n2_ := am (KeepBut.blk hk (g' := gb210) (o := .cells #[.slice Ao30 x211000_2.length co30, .int .i64 x211001_25, .slice Ao70 t244.length co70] 53 (0, 0)) (pk BK210.out) NB210_0.out (by simp)); have n3_ := am (Kd.R_mono (Kd.R_keep (IsS90.apart (show IsS90 w0 _ g s0_0 t251 t252 t253 from by repeat (first | (with_reducible first | exact HI0.out | apply IsS90.alloc | apply IsS90.drewN | apply IsS90.drew | apply IsS90.set_1 | apply IsS90.set_2 | apply IsS90.set_3 | refine IsS90.far ?_ NB0_209.out _ | refine IsS90.far ?_ NB0_210.out _) | exact HI0.out)) (by (with_reducible repeat (first | apply Kd.R_alloc | apply Kd.R_drewN | apply Kd.R_drew)); exact HO246.out) (by decide)) hk (fun _ h => h.2)) (fun _ h => h.1)); have n4_ := am (KeepBut.trans (by repeat (first | (with_reducible first | exact HK.out | apply KeepBut.set_ | apply keep_drewN | apply keep_drew | apply keep_alloc | refine keep_far ?_ GW209.out _ | refine keep_far ?_ GW210.out _) | exact HK.out)) hk (.inl rfl)); have n5_ := am (hb); have n6_ := am (hi); clear HO_211000; clear BK209; clear BK210; clear HO246; clear HK; clear HB; clear HI0; have HO_211000 := n0_; have BK209 := n1_; have BK210 := n2_; have HO246 := n3_; have HK := n4_; have HB := n5_; have HI0 := n6_; clear n0_ n1_ n2_ n3_ n4_ n5_ n6_; (try clear hb); (try clear hb2); (try clear hk); (try clear hi); have hcz76_0 : w75.cell? ⟨gb210, 0, none⟩ = some (.slice Ao30 x211000_2.length co30) := (blk_cell BK210.out 0).trans rfl; have hcz76_1 : w75.cell? ⟨gb210, 1, none⟩ = some (.int .i64 x211001_25) := (blk_cell BK210.out 1).trans rfl; have hcz76_2 : w75.cell? ⟨gb210, 2, none⟩ = some (.slice Ao70 t244.length co70) := (blk_cell BK210.out 2).trans rfl; have hfz76_0 := blk_frozen BK210.out 0; have hfz76_1 := blk_frozen BK210.out 1; have hfz76_2 := blk_frozen BK210.out 2) | ((with_reducible refine gate_dst (N := 64) rfl ?_); refine Kd.R_lit (Kd.int .i64) _ 2 ?hg (N := 64) ?hd (xs := ([] : List Int)) (inner := []) (ok := fun _ => True) (okp := fun _ => True) ?hr ?hp (fun _ hk => hk) trivial (Below.refl _ _) (Nat.le_refl _) (by simp) ?_; (case hd => rfl); (case hg => rfl); (case hr => first | (go_simp; done) | (go_simp; rfl)); (case hp => exact (Reps.none _ _)); intro v267 w77 ho78 hb hg_ hnew_; clear hg_ hnew_; (first | rw [← Ny266.out] at ho78 | (simp only [Int.reduceToNat] at ho78; rw [← Ny266.out] at ho78)); have n0_ := am (Kd.S_elder' (by (with_reducible repeat (first | apply Kd.S_alloc | apply Kd.S_drewN | apply Kd.S_drew)); exact HO_211000.out) (Kd.R_base ho78) hb); have n1_ := am (Kd.R_elder' (by (with_reducible repeat (first | apply Kd.R_alloc | apply Kd.R_drewN | apply Kd.R_drew)); exact HO246.out) (Kd.R_base ho78) hb); have n2_ := am (Kd.R_lower (Kd.R_new' ho78 (Kd.R_lt (by (with_reducible repeat (first | apply Kd.R_alloc | apply Kd.R_drewN | apply Kd.R_drew)); exact HO246.out))) (keep_size (w := w) (g := g) (row := none) (by repeat (first | (with_reducible first | exact HK.out | apply KeepBut.set_ | apply keep_drewN | apply keep_drew | apply keep_alloc | refine keep_far ?_ GW209.out _ | refine keep_far ?_ GW210.out _) | exact HK.out)))); have n3_ := am (blk_below (g := gb209) (o := .cells #[.slice none 0 0, .int .i64 0, .slice none 0 0] 53 (0, 0)) (pk BK209.out) hb); have n4_ := am (blk_below (g := gb210) (o := .cells #[.slice Ao30 x211000_2.length co30, .int .i64 x211001_25, .slice Ao70 t244.length co70] 53 (0, 0)) (pk BK210.out) hb); have n5_ := am (IsS90.below (by repeat (first | (with_reducible first | exact HI0.out | apply IsS90.alloc | apply IsS90.drewN | apply IsS90.drew | apply IsS90.set_1 | apply IsS90.set_2 | apply IsS90.set_3 | refine IsS90.far ?_ NB0_209.out _ | refine IsS90.far ?_ NB0_210.out _) | exact HI0.out)) hb); have n6_ := am (KeepBut.trans (by repeat (first | (with_reducible first | exact HK.out | apply KeepBut.set_ | apply keep_drewN | apply keep_drew | apply keep_alloc | refine keep_far ?_ GW209.out _ | refine keep_far ?_ GW210.out _) | exact HK.out)) (KeepBut.of_below hb g none) (.inl rfl)); have n7_ := am (below_step (by repeat (first | (with_reducible first | exact HB.out | apply below_alloc | apply pw_below_drewN | apply below_drew1 | refine below_set ?_ (IsS90.ge HI0.out) | refine below_set ?_ GE209.out | refine below_set ?_ GE210.out) | exact HB.out)) hb); clear HO_211000; clear HO246; clear BK209; clear BK210; clear HI0; clear HK; clear HB; have HO_211000 := n0_; have HO246 := n1_; have HO268 := n2_; have BK209 := n3_; have BK210 := n4_; have HI0 := n5_; have HK := n6_; have HB := n7_; clear n0_ n1_ n2_ n3_ n4_ n5_ n6_ n7_; clear hb ho78; obtain ⟨Ao80, co80, eo80⟩ := Kd.R_slice HO268.out; subst eo80) | ((with_reducible refine gate_builtin (b := .append) (xs := #[.tmp 63, .tmp 65]) rfl ?_); at_builtin; refine Kd.S_append (Kd.slice 2 (Kd.int .i64)) w.heap.size rfl (.tmp 63) (.tmp 65) 51 23 (.slice none 0 0) 24 rfl Try.underlying51 info23 rfl (by decide) (by omega) (.slice Ao30 x211000_2.length co30) x211000_2 y266 [.slice Ao80 y266.length co80] (fun k_ => some k_ ≠ (.slice Ao70 t244.length co70 : Value).ownBlock) (fun k_ => some k_ = (.slice Ao80 y266.length co80 : Value).ownBlock) rfl rfl ?aP (fun k_ hk_ => ((Kd.R_mono (ok' := fun k_ => ((fun k_ => some k_ ≠ (.slice Ao70 t244.length co70 : Value).ownBlock)) k_ ∧ some k_ ≠ (.slice Ao30 x211000_2.length co30 : Value).ownBlock) (Kd.R_apart' (HO268.out) (Kd.S_typed HO_211000.out) (by decide)) (fun k_ hk => ⟨hk.1.2, hk.2⟩))).1 k_ hk_.symm) ?aF ?aO (Below.refl _ _) ?aS ?aL ?_; (case aP => exact Kd.M_row (Kd.R_mono (Kd.R_tight rfl (Kd.R_mono (ok' := fun k_ => ((fun k_ => some k_ ≠ (.slice Ao70 t244.length co70 : Value).ownBlock)) k_ ∧ some k_ ≠ (.slice Ao30 x211000_2.length co30 : Value).ownBlock) (Kd.R_apart' (HO268.out) (Kd.S_typed HO_211000.out) (by decide)) (fun k_ hk => ⟨hk.1.2, hk.2⟩))) (fun _ h_ => h_))); (case aF => exact (fun k_ hk => Kd.fresh' (Kd.R_lt (by (with_reducible repeat (first | apply Kd.R_alloc | apply Kd.R_drewN | apply Kd.R_drew)); exact HO246.out)) k_ hk)); (case aO => exact (by (with_reducible repeat (first | apply Kd.S_alloc | apply Kd.S_drewN | apply Kd.S_drew)); exact Kd.S_mono HO_211000.out (fun k_ hk => ⟨hk.1.2, fun e_ => hk.2 e_⟩))); (case aS => exact (keep_size (w := w) (g := g) (row := none) (by repeat (first | (with_reducible first | exact HK.out | apply KeepBut.set_ | apply keep_drewN | apply keep_drew | apply keep_alloc | refine keep_far ?_ GW209.out _ | refine keep_far ?_ GW210.out _) | exact HK.out)))); (case aL => have := LMc67.out; omega); intro v270 w79 ho hb hg hat; rw [← Ny269.out] at ho; have n0_ := am (blk_grown (g := gb209) (o := .cells #[.slice none 0 0, .int .i64 0, .slice none 0 0] 53 (0, 0)) (pk BK209.out) hg (Kd.S_ne HO_211000.out BK209.out (by decide))); have n1_ := am (blk_grown (g := gb210) (o := .cells #[.slice Ao30 x211000_2.length co30, .int .i64 x211001_25, .slice Ao70 t244.length co70] 53 (0, 0)) (pk BK210.out) hg (Kd.S_ne HO_211000.out BK210.out (by decide))); have n2_ := am (IsS90.grown (by repeat (first | (with_reducible first | exact HI0.out | apply IsS90.alloc | apply IsS90.drewN | apply IsS90.drew | apply IsS90.set_1 | apply IsS90.set_2 | apply IsS90.set_3 | refine IsS90.far ?_ NB0_209.out _ | refine IsS90.far ?_ NB0_210.out _) | exact HI0.out)) hg (IsS90.own_neS HI0.out HO_211000.out (by decide))); have n3_ := am (Kd.R_over' (by (with_reducible repeat (first | apply Kd.R_alloc | apply Kd.R_drewN | apply Kd.R_drew)); exact HO246.out) (Kd.S_typed (by (with_reducible repeat (first | apply Kd.S_alloc | apply Kd.S_drewN | apply Kd.S_drew)); exact HO_211000.out)) (by decide) hg); have n4_ := am (below_weaken (by repeat (first | (with_reducible first | exact HB.out | apply below_alloc | apply pw_below_drewN | apply below_drew1 | refine below_set ?_ (IsS90.ge HI0.out) | refine below_set ?_ GE209.out | refine below_set ?_ GE210.out) | exact HB.out)) HL.out hb); have n5_ := am (KeepBut.trans (by repeat (first | (with_reducible first | exact HK.out | apply KeepBut.set_ | apply keep_drewN | apply keep_drew | apply keep_alloc | refine keep_far ?_ GW209.out _ | refine keep_far ?_ GW210.out _) | exact HK.out)) (KeepBut.of_grown hg g) (Kd.S_base2 HO_211000.out)); have n6_ := am (ho); clear BK209; clear BK210; clear HI0; clear HO246; clear HB; clear HK; clear HO_211000; clear HO268; have BK209 := n0_; have BK210 := n1_; have HI0 := n2_; have HO246 := n3_; have HB := n4_; have HK := n5_; have HO271 := n6_; clear n0_ n1_ n2_ n3_ n4_ n5_ n6_; clear ho hb hg hat; obtain ⟨Ao81, co81, eo81⟩ := Kd.S_slice HO271.out; subst eo81; have hcz82_0 : w79.cell? ⟨gb210, 0, none⟩ = some (.slice Ao30 x211000_2.length co30) := (blk_cell BK210.out 0).trans rfl; have hcz82_1 : w79.cell? ⟨gb210, 1, none⟩ = some (.int .i64 x211001_25) := (blk_cell BK210.out 1).trans rfl; have hcz82_2 : w79.cell? ⟨gb210, 2, none⟩ = some (.slice Ao70 t244.length co70) := (blk_cell BK210.out 2).trans rfl; have hfz82_0 := blk_frozen BK210.out 0; have hfz82_1 := blk_frozen BK210.out 1; have hfz82_2 := blk_frozen BK210.out 2; have hnb83 := NB209_0.out; have hnc83 := NB0_209.out; have hcz84_0 : w79.cell? ⟨gb209, 0, none⟩ = some (.slice none 0 0) := (blk_cell BK209.out 0).trans rfl; have hcz84_1 : w79.cell? ⟨gb209, 1, none⟩ = some (.int .i64 0) := (blk_cell BK209.out 1).trans rfl; have hcz84_2 : w79.cell? ⟨gb209, 2, none⟩ = some (.slice none 0 0) := (blk_cell BK209.out 2).trans rfl; have hfz84_0 := blk_frozen BK209.out 0; have hfz84_1 := blk_frozen BK209.out 1; have hfz84_2 := blk_frozen BK209.out 2))
            refine bodyPost_ret (results_cell_row rfl _ _ gb209 53 #[.slice Ao81 y269.length co81, .int .i64 x211001_25, .slice Ao70 t244.length co70] (0, 0) _ rfl (by (with_reducible repeat (first | refine blk_drewN ?_ _ | refine blk_drew ?_ | refine blk_alloc ?_ _)); refine blk_put (cs := #[.slice Ao81 y269.length co81, .int .i64 x211001_25, .slice none 0 0]) ?_ 2 _ rfl; (with_reducible repeat (first | refine blk_drewN ?_ _ | refine blk_drew ?_ | refine blk_alloc ?_ _)); refine blk_put (cs := #[.slice Ao81 y269.length co81, .int .i64 0, .slice none 0 0]) ?_ 1 _ rfl; (with_reducible repeat (first | refine blk_drewN ?_ _ | refine blk_drew ?_ | refine blk_alloc ?_ _)); refine blk_put (cs := #[.slice none 0 0, .int .i64 0, .slice none 0 0]) ?_ 0 _ rfl; (with_reducible repeat (first | refine blk_drewN ?_ _ | refine blk_drew ?_ | refine blk_alloc ?_ _)); refine blk_far ?_ NB209_210.out _; (with_reducible repeat (first | refine blk_drewN ?_ _ | refine blk_drew ?_ | refine blk_alloc ?_ _)); exact BK209.out) Try.underlying53 rfl (by kernel_rfl)) rfl ?_
            exact ⟨_, _, by first | rfl | (simp [errW_none, errW_some] <;> rfl) | (simp [*, errW_none, errW_some] <;> rfl), by (with_reducible repeat (first | apply Kd.S_alloc | apply Kd.S_drewN | apply Kd.S_drew)); exact Kd.S_mono (Kd.S_far (p := ⟨gb209, 2, none⟩) (Kd.S_far (p := ⟨gb209, 1, none⟩) (Kd.S_far (p := ⟨gb209, 0, none⟩) (Kd.S_far (p := ⟨gb210, 0, none⟩) (Kd.S_types (Kd.S_types HO271.out BK210.out (by decide)) BK209.out (by decide)) (fun _ hk => hk.1.2) (.slice Ao81 y269.length co81)) (fun _ hk => hk.2) (.slice Ao81 y269.length co81)) (fun _ hk => hk.2) (.int .i64 x211001_25)) (fun _ hk => hk.2) (.slice Ao70 t244.length co70)) (fun _ hk => hk.1.1), by (with_reducible repeat (first | apply Kd.R_alloc | apply Kd.R_drewN | apply Kd.R_drew)); exact Kd.R_mono (Kd.R_far (p := ⟨gb209, 2, none⟩) (Kd.R_far (p := ⟨gb209, 1, none⟩) (Kd.R_far (p := ⟨gb209, 0, none⟩) (Kd.R_far (p := ⟨gb210, 0, none⟩) (Kd.R_types (Kd.R_types HO246.out BK210.out (by decide)) BK209.out (by decide)) (fun _ hk => hk.1.2) (.slice Ao81 y269.length co81)) (fun _ hk => hk.2) (.slice Ao81 y269.length co81)) (fun _ hk => hk.2) (.int .i64 x211001_25)) (fun _ hk => hk.2) (.slice Ao70 t244.length co70)) (fun _ hk => trivial), by repeat (first | (with_reducible first | exact HI0.out | apply IsS90.alloc | apply IsS90.drewN | apply IsS90.drew | apply IsS90.set_1 | apply IsS90.set_2 | apply IsS90.set_3 | refine IsS90.far ?_ NB0_209.out _ | refine IsS90.far ?_ NB0_210.out _) | exact HI0.out), by repeat (first | (with_reducible first | exact HB.out | apply below_alloc | apply pw_below_drewN | apply below_drew1 | refine below_set ?_ (IsS90.ge HI0.out) | refine below_set ?_ GE209.out | refine below_set ?_ GE210.out) | exact HB.out), by repeat (first | (with_reducible first | exact HK.out | apply KeepBut.set_ | apply keep_drewN | apply keep_drew | apply keep_alloc | refine keep_far ?_ GW209.out _ | refine keep_far ?_ GW210.out _) | exact HK.out)⟩
           ·rw [if_neg c67] at H
            exact absurd H (by simp)
          ·rw [if_neg c66] at H
           have c66b0 : (t254 == 1) = false := beq_eq_false_iff_ne.mpr c66
           have c66b1 : (t254 != 1) = true := bne_iff_ne.mpr c66
           obtain ⟨y272, hy272⟩ : ∃ y_ : List Int, y_ = (([(-1)] : List Int)) := ⟨_, rfl⟩
           replace H : (some (x211000_2, x211001_25, y272, t255, t256, t257)) = some (r1, r2, r3, r4, r5, r6) := by first | (rw [hy272]; with_reducible exact H) | (have H2_ := (Option.bind_some _ _).symm.trans H; rw [hy272]; with_reducible exact H2_) | (have H2_ := (Option.bind_some _ _).symm.trans H; with_reducible exact H2_) | with_reducible exact H | (rw [hy272]; exact H) | exact H
           have Ny272 := am hy272
           clear hy272
           simp only [Option.some.injEq, Prod.mk.injEq] at H
           obtain ⟨rfl, rfl, rfl, rfl, rfl, rfl⟩ := H
           go_wp2_with (first | ((with_reducible refine gate_callee (f := 69) rfl ?_); refine gl (some 39) Try.func69 #[.pointer (some ⟨g, 0, none⟩), .int .i64 4] ?_; (with_reducible refine (spec_l01Src_n.calls g s0_0 t237 t238 t239 4 t240 t241 t242 t243 w0 _ ?side1 ?side2 A38.out).mono ?_); (case side1 => repeat (first | (with_reducible first | exact HI0.out | apply IsS90.alloc | apply IsS90.drewN | apply IsS90.drew | apply IsS90.set_1 | apply IsS90.set_2 | apply IsS90.set_3 | refine IsS90.far ?_ NB0_209.out _ | refine IsS90.far ?_ NB0_210.out _) | exact HI0.out)); (case side2 => repeat (first | (with_reducible first | exact HB.out | apply below_alloc | apply pw_below_drewN | apply below_drew1 | refine below_set ?_ (IsS90.ge HI0.out) | refine below_set ?_ GE209.out | refine below_set ?_ GE210.out) | exact HB.out)); rintro e w85 ⟨rfl, hi, hb, hk⟩; refine ⟨_, rfl, ?_⟩; have n0_ := am (Kd.S_mono (Kd.S_keep (IsS90.apartS (show IsS90 w0 _ g s0_0 t237 t238 t239 from by repeat (first | (with_reducible first | exact HI0.out | apply IsS90.alloc | apply IsS90.drewN | apply IsS90.drew | apply IsS90.set_1 | apply IsS90.set_2 | apply IsS90.set_3 | refine IsS90.far ?_ NB0_209.out _ | refine IsS90.far ?_ NB0_210.out _) | exact HI0.out)) (by (with_reducible repeat (first | apply Kd.S_alloc | apply Kd.S_drewN | apply Kd.S_drew)); exact HO_211000.out) (by decide)) hk (fun _ h => h.2)) (fun _ h => h.1)); have n1_ := am (KeepBut.blk hk (g' := gb209) (o := .cells #[.slice none 0 0, .int .i64 0, .slice none 0 0] 53 (0, 0)) (pk BK209.out) NB209_0.out (by simp)); have n2_ := am (KeepBut.blk hk (g' := gb210) (o := .cells #[.slice Ao30 x211000_2.length co30, .int .i64 x211001_25, .slice none 0 0] 53 (0, 0)) (pk BK210.out) NB210_0.out (by simp)); have n3_ := am (KeepBut.trans (by repeat (first | (with_reducible first | exact HK.out | apply KeepBut.set_ | apply keep_drewN | apply keep_drew | apply keep_alloc | refine keep_far ?_ GW209.out _ | refine keep_far ?_ GW210.out _) | exact HK.out)) hk (.inl rfl)); have n4_ := am (hb); have n5_ := am (hi); clear HO_211000; clear BK209; clear BK210; clear HK; clear HB; clear HI0; have HO_211000 := n0_; have BK209 := n1_; have BK210 := n2_; have HK := n3_; have HB := n4_; have HI0 := n5_; clear n0_ n1_ n2_ n3_ n4_ n5_; (try clear hb); (try clear hb2); (try clear hk); (try clear hi)) | ((with_reducible refine gate_callee (f := 79) rfl ?_); refine gl (some 40) Try.func79 #[.pointer (some ⟨g, 0, none⟩), .int .i64 t240] ?_; (with_reducible refine (spec_l01Src_points.calls kj25 g s0_0 t241 t242 t243 t240 t244 t247 t248 t249 w0 _ ?side1 ?side2 A39.out).mono ?_); (case side1 => repeat (first | (with_reducible first | exact HI0.out | apply IsS90.alloc | apply IsS90.drewN | apply IsS90.drew | apply IsS90.set_1 | apply IsS90.set_2 | apply IsS90.set_3 | refine IsS90.far ?_ NB0_209.out _ | refine IsS90.far ?_ NB0_210.out _) | exact HI0.out)); (case side2 => repeat (first | (with_reducible first | exact HB.out | apply below_alloc | apply pw_below_drewN | apply below_drew1 | refine below_set ?_ (IsS90.ge HI0.out) | refine below_set ?_ GE209.out | refine below_set ?_ GE210.out) | exact HB.out)); rintro e w86 ⟨v245, rfl, ho0, hi, hb, hk⟩; refine ⟨_, rfl, ?_⟩; have n0_ := am (Kd.S_mono (Kd.S_told (Kd.S_oldK (IsS90.apartS (show IsS90 w0 _ g s0_0 t241 t242 t243 from by repeat (first | (with_reducible first | exact HI0.out | apply IsS90.alloc | apply IsS90.drewN | apply IsS90.drew | apply IsS90.set_1 | apply IsS90.set_2 | apply IsS90.set_3 | refine IsS90.far ?_ NB0_209.out _ | refine IsS90.far ?_ NB0_210.out _) | exact HI0.out)) (by (with_reducible repeat (first | apply Kd.S_alloc | apply Kd.S_drewN | apply Kd.S_drew)); exact HO_211000.out) (by decide)) hk) (Kd.R_base ho0)) (fun _ h_ => h_.1)); have n1_ := am (KeepBut.blk hk (g' := gb209) (o := .cells #[.slice none 0 0, .int .i64 0, .slice none 0 0] 53 (0, 0)) (pk BK209.out) NB209_0.out (by simp)); have n2_ := am (KeepBut.blk hk (g' := gb210) (o := .cells #[.slice Ao30 x211000_2.length co30, .int .i64 x211001_25, .slice none 0 0] 53 (0, 0)) (pk BK210.out) NB210_0.out (by simp)); have n3_ := am (Kd.R_lower ho0 (keep_size (w := w) (g := g) (row := none) (by repeat (first | (with_reducible first | exact HK.out | apply KeepBut.set_ | apply keep_drewN | apply keep_drew | apply keep_alloc | refine keep_far ?_ GW209.out _ | refine keep_far ?_ GW210.out _) | exact HK.out)))); have n4_ := am (KeepBut.trans (by repeat (first | (with_reducible first | exact HK.out | apply KeepBut.set_ | apply keep_drewN | apply keep_drew | apply keep_alloc | refine keep_far ?_ GW209.out _ | refine keep_far ?_ GW210.out _) | exact HK.out)) hk (.inl rfl)); have n5_ := am (hb); have n6_ := am (hi); clear HO_211000; clear BK209; clear BK210; clear HK; clear HB; clear HI0; have HO_211000 := n0_; have BK209 := n1_; have BK210 := n2_; have HO246 := n3_; have HK := n4_; have HB := n5_; have HI0 := n6_; clear n0_ n1_ n2_ n3_ n4_ n5_ n6_; (try clear hb); (try clear hb2); (try clear hk); (try clear hi); (try clear ho0); obtain ⟨Ao87, co87, eo87⟩ := Kd.R_slice HO246.out; subst eo87; have hnb88 := NB210_209.out; have hnc88 := NB209_210.out; have hnb89 := NB210_0.out; have hnc89 := NB0_210.out; have hcz90_0 : w86.cell? ⟨gb210, 0, none⟩ = some (.slice Ao30 x211000_2.length co30) := (blk_cell BK210.out 0).trans rfl; have hcz90_1 : w86.cell? ⟨gb210, 1, none⟩ = some (.int .i64 x211001_25) := (blk_cell BK210.out 1).trans rfl; have hcz90_2 : w86.cell? ⟨gb210, 2, none⟩ = some (.slice none 0 0) := (blk_cell BK210.out 2).trans rfl; have hfz90_0 := blk_frozen BK210.out 0; have hfz90_1 := blk_frozen BK210.out 1; have hfz90_2 := blk_frozen BK210.out 2) | ((with_reducible refine gate_callee (f := 66) rfl ?_); refine gl (some 43) Try.func66 #[.pointer (some ⟨g, 0, none⟩), .int .i64 20] ?_; (with_reducible refine (spec_l01Src_one.calls g s0_0 t247 t248 t249 20 true t251 t252 t253 w0 _ ?side1 ?side2 A40.out).mono ?_); (case side1 => repeat (first | (with_reducible first | exact HI0.out | apply IsS90.alloc | apply IsS90.drewN | apply IsS90.drew | apply IsS90.set_1 | apply IsS90.set_2 | apply IsS90.set_3 | refine IsS90.far ?_ NB0_209.out _ | refine IsS90.far ?_ NB0_210.out _) | exact HI0.out)); (case side2 => repeat (first | (with_reducible first | exact HB.out | apply below_alloc | apply pw_below_drewN | apply below_drew1 | refine below_set ?_ (IsS90.ge HI0.out) | refine below_set ?_ GE209.out | refine below_set ?_ GE210.out) | exact HB.out)); rintro e w91 ⟨rfl, hi, hb, hk⟩; refine ⟨_, rfl, ?_⟩; have n0_ := am (Kd.S_mono (Kd.S_keep (IsS90.apartS (show IsS90 w0 _ g s0_0 t247 t248 t249 from by repeat (first | (with_reducible first | exact HI0.out | apply IsS90.alloc | apply IsS90.drewN | apply IsS90.drew | apply IsS90.set_1 | apply IsS90.set_2 | apply IsS90.set_3 | refine IsS90.far ?_ NB0_209.out _ | refine IsS90.far ?_ NB0_210.out _) | exact HI0.out)) (by (with_reducible repeat (first | apply Kd.S_alloc | apply Kd.S_drewN | apply Kd.S_drew)); exact (Kd.S_mono (Kd.S_far (p := ⟨gb210, 2, none⟩) (Kd.S_types HO_211000.out BK210.out (by decide)) (fun _ hk => hk.2) (.slice Ao87 t244.length co87)) (fun _ h_ => h_.1))) (by decide)) hk (fun _ h => h.2)) (fun _ h => h.1)); have n1_ := am (KeepBut.blk hk (g' := gb209) (o := .cells #[.slice none 0 0, .int .i64 0, .slice none 0 0] 53 (0, 0)) (by (with_reducible repeat (first | refine blk_drewN ?_ _ | refine blk_drew ?_ | refine blk_alloc ?_ _)); refine blk_far ?_ NB209_210.out _; (with_reducible repeat (first | refine blk_drewN ?_ _ | refine blk_drew ?_ | refine blk_alloc ?_ _)); exact BK209.out) NB209_0.out (by simp)); have n2_ := am (KeepBut.blk hk (g' := gb210) (o := .cells #[.slice Ao30 x211000_2.length co30, .int .i64 x211001_25, .slice Ao87 t244.length co87] 53 (0, 0)) (by (with_reducible repeat (first | refine blk_drewN ?_ _ | refine blk_drew ?_ | refine blk_alloc ?_ _)); refine blk_put (cs := #[.slice Ao30 x211000_2.length co30, .int .i64 x211001_25, .slice none 0 0]) ?_ 2 _ rfl; (with_reducible repeat (first | refine blk_drewN ?_ _ | refine blk_drew ?_ | refine blk_alloc ?_ _)); exact BK210.out) NB210_0.out (by simp)); have n3_ := am (Kd.R_mono (Kd.R_keep (IsS90.apart (show IsS90 w0 _ g s0_0 t247 t248 t249 from by repeat (first | (with_reducible first | exact HI0.out | apply IsS90.alloc | apply IsS90.drewN | apply IsS90.drew | apply IsS90.set_1 | apply IsS90.set_2 | apply IsS90.set_3 | refine IsS90.far ?_ NB0_209.out _ | refine IsS90.far ?_ NB0_210.out _) | exact HI0.out)) (by (with_reducible repeat (first | apply Kd.R_alloc | apply Kd.R_drewN | apply Kd.R_drew)); exact (Kd.R_mono (Kd.R_far (p := ⟨gb210, 2, none⟩) (Kd.R_types HO246.out BK210.out (by decide)) (fun _ hk => hk.2) (.slice Ao87 t244.length co87)) (fun _ h_ => h_.1))) (by decide)) hk (fun _ h => h.2)) (fun _ h => h.1)); have n4_ := am (KeepBut.trans (by repeat (first | (with_reducible first | exact HK.out | apply KeepBut.set_ | apply keep_drewN | apply keep_drew | apply keep_alloc | refine keep_far ?_ GW209.out _ | refine keep_far ?_ GW210.out _) | exact HK.out)) hk (.inl rfl)); have n5_ := am (hb); have n6_ := am (hi); clear HO_211000; clear BK209; clear BK210; clear HO246; clear HK; clear HB; clear HI0; have HO_211000 := n0_; have BK209 := n1_; have BK210 := n2_; have HO246 := n3_; have HK := n4_; have HB := n5_; have HI0 := n6_; clear n0_ n1_ n2_ n3_ n4_ n5_ n6_; (try clear hb); (try clear hb2); (try clear hk); (try clear hi)) | ((with_reducible refine gate_callee (f := 69) rfl ?_); refine gl (some 45) Try.func69 #[.pointer (some ⟨g, 0, none⟩), .int .i64 3] ?_; (with_reducible refine (spec_l01Src_n.calls g s0_0 t251 t252 t253 3 t254 t255 t256 t257 w0 _ ?side1 ?side2 A42.out).mono ?_); (case side1 => repeat (first | (with_reducible first | exact HI0.out | apply IsS90.alloc | apply IsS90.drewN | apply IsS90.drew | apply IsS90.set_1 | apply IsS90.set_2 | apply IsS90.set_3 | refine IsS90.far ?_ NB0_209.out _ | refine IsS90.far ?_ NB0_210.out _) | exact HI0.out)); (case side2 => repeat (first | (with_reducible first | exact HB.out | apply below_alloc | apply pw_below_drewN | apply below_drew1 | refine below_set ?_ (IsS90.ge HI0.out) | refine below_set ?_ GE209.out | refine below_set ?_ GE210.out) | exact HB.out)); rintro e w92 ⟨rfl, hi, hb, hk⟩; refine ⟨_, rfl, ?_⟩; have n0_ := am (Kd.S_mono (Kd.S_keep (IsS90.apartS (show IsS90 w0 _ g s0_0 t251 t252 t253 from by repeat (first | (with_reducible first | exact HI0.out | apply IsS90.alloc | apply IsS90.drewN | apply IsS90.drew | apply IsS90.set_1 | apply IsS90.set_2 | apply IsS90.set_3 | refine IsS90.far ?_ NB0_209.out _ | refine IsS90.far ?_ NB0_210.out _) | exact HI0.out)) (by (with_reducible repeat (first | apply Kd.S_alloc | apply Kd.S_drewN | apply Kd.S_drew)); exact HO_211000.out) (by decide)) hk (fun _ h => h.2)) (fun _ h => h.1)); have n1_ := am (KeepBut.blk hk (g' := gb209) (o := .cells #[.slice none 0 0, .int .i64 0, .slice none 0 0] 53 (0, 0)) (pk BK209.out) NB209_0.out (by simp)); have n2_ := am (KeepBut.blk hk (g' := gb210) (o := .cells #[.slice Ao30 x211000_2.length co30, .int .i64 x211001_25, .slice Ao87 t244.length co87] 53 (0, 0)) (pk BK210.out) NB210_0.out (by simp)); have n3_ := am (Kd.R_mono (Kd.R_keep (IsS90.apart (show IsS90 w0 _ g s0_0 t251 t252 t253 from by repeat (first | (with_reducible first | exact HI0.out | apply IsS90.alloc | apply IsS90.drewN | apply IsS90.drew | apply IsS90.set_1 | apply IsS90.set_2 | apply IsS90.set_3 | refine IsS90.far ?_ NB0_209.out _ | refine IsS90.far ?_ NB0_210.out _) | exact HI0.out)) (by (with_reducible repeat (first | apply Kd.R_alloc | apply Kd.R_drewN | apply Kd.R_drew)); exact HO246.out) (by decide)) hk (fun _ h => h.2)) (fun _ h => h.1)); have n4_ := am (KeepBut.trans (by repeat (first | (with_reducible first | exact HK.out | apply KeepBut.set_ | apply keep_drewN | apply keep_drew | apply keep_alloc | refine keep_far ?_ GW209.out _ | refine keep_far ?_ GW210.out _) | exact HK.out)) hk (.inl rfl)); have n5_ := am (hb); have n6_ := am (hi); clear HO_211000; clear BK209; clear BK210; clear HO246; clear HK; clear HB; clear HI0; have HO_211000 := n0_; have BK209 := n1_; have BK210 := n2_; have HO246 := n3_; have HK := n4_; have HB := n5_; have HI0 := n6_; clear n0_ n1_ n2_ n3_ n4_ n5_ n6_; (try clear hb); (try clear hb2); (try clear hk); (try clear hi)) | ((with_reducible refine gate_dst (N := 46) rfl ?_); refine Kd.R_lit (Kd.int .i64) _ 2 ?hg (N := 46) ?hd (xs := ([(-1)] : List Int)) (inner := [.int .i64 (-1)]) (ok := fun _ => True) (okp := fun _ => True) ?hr ?hp (fun _ hk => hk) trivial (Below.refl _ _) (Nat.le_refl _) (by simp) ?_; (case hd => rfl); (case hg => rfl); (case hr => first | (go_simp; done) | (go_simp; rfl)); (case hp => exact (Reps.one (show Kd.M (Kd.int .i64) _ _ _ (-1) [.int .i64 (-1)] from rfl) (Reps.none _ _))); intro v273 w93 ho94 hb hg_ hnew_; clear hg_ hnew_; (first | rw [← Ny272.out] at ho94 | (simp only [Int.reduceToNat] at ho94; rw [← Ny272.out] at ho94)); have n0_ := am (Kd.S_elder' (by (with_reducible repeat (first | apply Kd.S_alloc | apply Kd.S_drewN | apply Kd.S_drew)); exact HO_211000.out) (Kd.R_base ho94) hb); have n1_ := am (Kd.R_elder' (by (with_reducible repeat (first | apply Kd.R_alloc | apply Kd.R_drewN | apply Kd.R_drew)); exact HO246.out) (Kd.R_base ho94) hb); have n2_ := am (Kd.R_lower (Kd.R_new' ho94 (Kd.R_lt (by (with_reducible repeat (first | apply Kd.R_alloc | apply Kd.R_drewN | apply Kd.R_drew)); exact HO246.out))) (keep_size (w := w) (g := g) (row := none) (by repeat (first | (with_reducible first | exact HK.out | apply KeepBut.set_ | apply keep_drewN | apply keep_drew | apply keep_alloc | refine keep_far ?_ GW209.out _ | refine keep_far ?_ GW210.out _) | exact HK.out)))); have n3_ := am (blk_below (g := gb209) (o := .cells #[.slice none 0 0, .int .i64 0, .slice none 0 0] 53 (0, 0)) (pk BK209.out) hb); have n4_ := am (blk_below (g := gb210) (o := .cells #[.slice Ao30 x211000_2.length co30, .int .i64 x211001_25, .slice Ao87 t244.length co87] 53 (0, 0)) (pk BK210.out) hb); have n5_ := am (IsS90.below (by repeat (first | (with_reducible first | exact HI0.out | apply IsS90.alloc | apply IsS90.drewN | apply IsS90.drew | apply IsS90.set_1 | apply IsS90.set_2 | apply IsS90.set_3 | refine IsS90.far ?_ NB0_209.out _ | refine IsS90.far ?_ NB0_210.out _) | exact HI0.out)) hb); have n6_ := am (KeepBut.trans (by repeat (first | (with_reducible first | exact HK.out | apply KeepBut.set_ | apply keep_drewN | apply keep_drew | apply keep_alloc | refine keep_far ?_ GW209.out _ | refine keep_far ?_ GW210.out _) | exact HK.out)) (KeepBut.of_below hb g none) (.inl rfl)); have n7_ := am (below_step (by repeat (first | (with_reducible first | exact HB.out | apply below_alloc | apply pw_below_drewN | apply below_drew1 | refine below_set ?_ (IsS90.ge HI0.out) | refine below_set ?_ GE209.out | refine below_set ?_ GE210.out) | exact HB.out)) hb); clear HO_211000; clear HO246; clear BK209; clear BK210; clear HI0; clear HK; clear HB; have HO_211000 := n0_; have HO246 := n1_; have HO274 := n2_; have BK209 := n3_; have BK210 := n4_; have HI0 := n5_; have HK := n6_; have HB := n7_; clear n0_ n1_ n2_ n3_ n4_ n5_ n6_ n7_; clear hb ho94; obtain ⟨Ao95, co95, eo95⟩ := Kd.R_slice HO274.out; subst eo95; have hcz96_0 : w93.cell? ⟨gb210, 0, none⟩ = some (.slice Ao30 x211000_2.length co30) := (blk_cell BK210.out 0).trans rfl; have hcz96_1 : w93.cell? ⟨gb210, 1, none⟩ = some (.int .i64 x211001_25) := (blk_cell BK210.out 1).trans rfl; have hcz96_2 : w93.cell? ⟨gb210, 2, none⟩ = some (.slice Ao87 t244.length co87) := (blk_cell BK210.out 2).trans rfl; have hfz96_0 := blk_frozen BK210.out 0; have hfz96_1 := blk_frozen BK210.out 1; have hfz96_2 := blk_frozen BK210.out 2; have hnb97 := NB209_0.out; have hnc97 := NB0_209.out; have hcz98_0 : w93.cell? ⟨gb209, 0, none⟩ = some (.slice none 0 0) := (blk_cell BK209.out 0).trans rfl; have hcz98_1 : w93.cell? ⟨gb209, 1, none⟩ = some (.int .i64 0) := (blk_cell BK209.out 1).trans rfl; have hcz98_2 : w93.cell? ⟨gb209, 2, none⟩ = some (.slice none 0 0) := (blk_cell BK209.out 2).trans rfl; have hfz98_0 := blk_frozen BK209.out 0; have hfz98_1 := blk_frozen BK209.out 1; have hfz98_2 := blk_frozen BK209.out 2))
           refine bodyPost_ret (results_cell_row rfl _ _ gb209 53 #[.slice Ao30 x211000_2.length co30, .int .i64 x211001_25, .slice Ao95 y272.length co95] (0, 0) _ rfl (by (with_reducible repeat (first | refine blk_drewN ?_ _ | refine blk_drew ?_ | refine blk_alloc ?_ _)); refine blk_put (cs := #[.slice Ao30 x211000_2.length co30, .int .i64 x211001_25, .slice none 0 0]) ?_ 2 _ rfl; (with_reducible repeat (first | refine blk_drewN ?_ _ | refine blk_drew ?_ | refine blk_alloc ?_ _)); refine blk_put (cs := #[.slice Ao30 x211000_2.length co30, .int .i64 0, .slice none 0 0]) ?_ 1 _ rfl; (with_reducible repeat (first | refine blk_drewN ?_ _ | refine blk_drew ?_ | refine blk_alloc ?_ _)); refine blk_put (cs := #[.slice none 0 0, .int .i64 0, .slice none 0 0]) ?_ 0 _ rfl; (with_reducible repeat (first | refine blk_drewN ?_ _ | refine blk_drew ?_ | refine blk_alloc ?_ _)); refine blk_far ?_ NB209_210.out _; (with_reducible repeat (first | refine blk_drewN ?_ _ | refine blk_drew ?_ | refine blk_alloc ?_ _)); exact BK209.out) Try.underlying53 rfl (by kernel_rfl)) rfl ?_
           exact ⟨_, _, by first | rfl | (simp [errW_none, errW_some] <;> rfl) | (simp [*, errW_none, errW_some] <;> rfl), by (with_reducible repeat (first | apply Kd.S_alloc | apply Kd.S_drewN | apply Kd.S_drew)); exact Kd.S_mono (Kd.S_far (p := ⟨gb209, 2, none⟩) (Kd.S_far (p := ⟨gb209, 1, none⟩) (Kd.S_far (p := ⟨gb209, 0, none⟩) (Kd.S_far (p := ⟨gb210, 2, none⟩) (Kd.S_types (Kd.S_types HO_211000.out BK210.out (by decide)) BK209.out (by decide)) (fun _ hk => hk.1.2) (.slice Ao95 y272.length co95)) (fun _ hk => hk.2) (.slice Ao30 x211000_2.length co30)) (fun _ hk => hk.2) (.int .i64 x211001_25)) (fun _ hk => hk.2) (.slice Ao95 y272.length co95)) (fun _ hk => hk.1.1.2), by (with_reducible repeat (first | apply Kd.R_alloc | apply Kd.R_drewN | apply Kd.R_drew)); exact Kd.R_mono (Kd.R_far (p := ⟨gb209, 2, none⟩) (Kd.R_far (p := ⟨gb209, 1, none⟩) (Kd.R_far (p := ⟨gb209, 0, none⟩) (Kd.R_far (p := ⟨gb210, 2, none⟩) (Kd.R_types (Kd.R_types HO274.out BK210.out (by decide)) BK209.out (by decide)) (fun _ hk => hk.1.2) (.slice Ao95 y272.length co95)) (fun _ hk => hk.2) (.slice Ao30 x211000_2.length co30)) (fun _ hk => hk.2) (.int .i64 x211001_25)) (fun _ hk => hk.2) (.slice Ao95 y272.length co95)) (fun _ hk => trivial), by repeat (first | (with_reducible first | exact HI0.out | apply IsS90.alloc | apply IsS90.drewN | apply IsS90.drew | apply IsS90.set_1 | apply IsS90.set_2 | apply IsS90.set_3 | refine IsS90.far ?_ NB0_209.out _ | refine IsS90.far ?_ NB0_210.out _) | exact HI0.out), by repeat (first | (with_reducible first | exact HB.out | apply below_alloc | apply pw_below_drewN | apply below_drew1 | refine below_set ?_ (IsS90.ge HI0.out) | refine below_set ?_ GE209.out | refine below_set ?_ GE210.out) | exact HB.out), by repeat (first | (with_reducible first | exact HK.out | apply KeepBut.set_ | apply keep_drewN | apply keep_drew | apply keep_alloc | refine keep_far ?_ GW209.out _ | refine keep_far ?_ GW210.out _) | exact HK.out)⟩
        ·replace c41 := Bool.eq_false_iff.mpr c41
         subst c41
         have H1 : (some (x211000_2, x211001_25, t244, t251, t252, t253)) = some (r1, r2, r3, r4, r5, r6) := by rw [if_neg (show ¬ (false = true) by decide)] at H; exact H
         clear H
         have H := H1
         clear H1
         simp only [Option.some.injEq, Prod.mk.injEq] at H
         obtain ⟨rfl, rfl, rfl, rfl, rfl, rfl⟩ := H
         go_wp2_with (first | ((with_reducible refine gate_callee (f := 69) rfl ?_); refine gl (some 39) Try.func69 #[.pointer (some ⟨g, 0, none⟩), .int .i64 4] ?_; (with_reducible refine (spec_l01Src_n.calls g s0_0 t237 t238 t239 4 t240 t241 t242 t243 w0 _ ?side1 ?side2 A38.out).mono ?_); (case side1 => repeat (first | (with_reducible first | exact HI0.out | apply IsS90.alloc | apply IsS90.drewN | apply IsS90.drew | apply IsS90.set_1 | apply IsS90.set_2 | apply IsS90.set_3 | refine IsS90.far ?_ NB0_209.out _ | refine IsS90.far ?_ NB0_210.out _) | exact HI0.out)); (case side2 => repeat (first | (with_reducible first | exact HB.out | apply below_alloc | apply pw_below_drewN | apply below_drew1 | refine below_set ?_ (IsS90.ge HI0.out) | refine below_set ?_ GE209.out | refine below_set ?_ GE210.out) | exact HB.out)); rintro e w99 ⟨rfl, hi, hb, hk⟩; refine ⟨_, rfl, ?_⟩; have n0_ := am (Kd.S_mono (Kd.S_keep (IsS90.apartS (show IsS90 w0 _ g s0_0 t237 t238 t239 from by repeat (first | (with_reducible first | exact HI0.out | apply IsS90.alloc | apply IsS90.drewN | apply IsS90.drew | apply IsS90.set_1 | apply IsS90.set_2 | apply IsS90.set_3 | refine IsS90.far ?_ NB0_209.out _ | refine IsS90.far ?_ NB0_210.out _) | exact HI0.out)) (by (with_reducible repeat (first | apply Kd.S_alloc | apply Kd.S_drewN | apply Kd.S_drew)); exact HO_211000.out) (by decide)) hk (fun _ h => h.2)) (fun _ h => h.1)); have n1_ := am (KeepBut.blk hk (g' := gb209) (o := .cells #[.slice none 0 0, .int .i64 0, .slice none 0 0] 53 (0, 0)) (pk BK209.out) NB209_0.out (by simp)); have n2_ := am (KeepBut.blk hk (g' := gb210) (o := .cells #[.slice Ao30 x211000_2.length co30, .int .i64 x211001_25, .slice none 0 0] 53 (0, 0)) (pk BK210.out) NB210_0.out (by simp)); have n3_ := am (KeepBut.trans (by repeat (first | (with_reducible first | exact HK.out | apply KeepBut.set_ | apply keep_drewN | apply keep_drew | apply keep_alloc | refine keep_far ?_ GW209.out _ | refine keep_far ?_ GW210.out _) | exact HK.out)) hk (.inl rfl)); have n4_ := am (hb); have n5_ := am (hi); clear HO_211000; clear BK209; clear BK210; clear HK; clear HB; clear HI0; have HO_211000 := n0_; have BK209 := n1_; have BK210 := n2_; have HK := n3_; have HB := n4_; have HI0 := n5_; clear n0_ n1_ n2_ n3_ n4_ n5_; (try clear hb); (try clear hb2); (try clear hk); (try clear hi)) | ((with_reducible refine gate_callee (f := 79) rfl ?_); refine gl (some 40) Try.func79 #[.pointer (some ⟨g, 0, none⟩), .int .i64 t240] ?_; (with_reducible refine (spec_l01Src_points.calls kj25 g s0_0 t241 t242 t243 t240 t244 t247 t248 t249 w0 _ ?side1 ?side2 A39.out).mono ?_); (case side1 => repeat (first | (with_reducible first | exact HI0.out | apply IsS90.alloc | apply IsS90.drewN | apply IsS90.drew | apply IsS90.set_1 | apply IsS90.set_2 | apply IsS90.set_3 | refine IsS90.far ?_ NB0_209.out _ | refine IsS90.far ?_ NB0_210.out _) | exact HI0.out)); (case side2 => repeat (first | (with_reducible first | exact HB.out | apply below_alloc | apply pw_below_drewN | apply below_drew1 | refine below_set ?_ (IsS90.ge HI0.out) | refine below_set ?_ GE209.out | refine below_set ?_ GE210.out) | exact HB.out)); rintro e w100 ⟨v245, rfl, ho0, hi, hb, hk⟩; refine ⟨_, rfl, ?_⟩; have n0_ := am (Kd.S_mono (Kd.S_told (Kd.S_oldK (IsS90.apartS (show IsS90 w0 _ g s0_0 t241 t242 t243 from by repeat (first | (with_reducible first | exact HI0.out | apply IsS90.alloc | apply IsS90.drewN | apply IsS90.drew | apply IsS90.set_1 | apply IsS90.set_2 | apply IsS90.set_3 | refine IsS90.far ?_ NB0_209.out _ | refine IsS90.far ?_ NB0_210.out _) | exact HI0.out)) (by (with_reducible repeat (first | apply Kd.S_alloc | apply Kd.S_drewN | apply Kd.S_drew)); exact HO_211000.out) (by decide)) hk) (Kd.R_base ho0)) (fun _ h_ => h_.1)); have n1_ := am (KeepBut.blk hk (g' := gb209) (o := .cells #[.slice none 0 0, .int .i64 0, .slice none 0 0] 53 (0, 0)) (pk BK209.out) NB209_0.out (by simp)); have n2_ := am (KeepBut.blk hk (g' := gb210) (o := .cells #[.slice Ao30 x211000_2.length co30, .int .i64 x211001_25, .slice none 0 0] 53 (0, 0)) (pk BK210.out) NB210_0.out (by simp)); have n3_ := am (Kd.R_lower ho0 (keep_size (w := w) (g := g) (row := none) (by repeat (first | (with_reducible first | exact HK.out | apply KeepBut.set_ | apply keep_drewN | apply keep_drew | apply keep_alloc | refine keep_far ?_ GW209.out _ | refine keep_far ?_ GW210.out _) | exact HK.out)))); have n4_ := am (KeepBut.trans (by repeat (first | (with_reducible first | exact HK.out | apply KeepBut.set_ | apply keep_drewN | apply keep_drew | apply keep_alloc | refine keep_far ?_ GW209.out _ | refine keep_far ?_ GW210.out _) | exact HK.out)) hk (.inl rfl)); have n5_ := am (hb); have n6_ := am (hi); clear HO_211000; clear BK209; clear BK210; clear HK; clear HB; clear HI0; have HO_211000 := n0_; have BK209 := n1_; have BK210 := n2_; have HO246 := n3_; have HK := n4_; have HB := n5_; have HI0 := n6_; clear n0_ n1_ n2_ n3_ n4_ n5_ n6_; (try clear hb); (try clear hb2); (try clear hk); (try clear hi); (try clear ho0); obtain ⟨Ao101, co101, eo101⟩ := Kd.R_slice HO246.out; subst eo101; have hnb102 := NB210_209.out; have hnc102 := NB209_210.out; have hnb103 := NB210_0.out; have hnc103 := NB0_210.out; have hcz104_0 : w100.cell? ⟨gb210, 0, none⟩ = some (.slice Ao30 x211000_2.length co30) := (blk_cell BK210.out 0).trans rfl; have hcz104_1 : w100.cell? ⟨gb210, 1, none⟩ = some (.int .i64 x211001_25) := (blk_cell BK210.out 1).trans rfl; have hcz104_2 : w100.cell? ⟨gb210, 2, none⟩ = some (.slice none 0 0) := (blk_cell BK210.out 2).trans rfl; have hfz104_0 := blk_frozen BK210.out 0; have hfz104_1 := blk_frozen BK210.out 1; have hfz104_2 := blk_frozen BK210.out 2) | ((with_reducible refine gate_callee (f := 66) rfl ?_); refine gl (some 43) Try.func66 #[.pointer (some ⟨g, 0, none⟩), .int .i64 20] ?_; (with_reducible refine (spec_l01Src_one.calls g s0_0 t247 t248 t249 20 false t251 t252 t253 w0 _ ?side1 ?side2 A40.out).mono ?_); (case side1 => repeat (first | (with_reducible first | exact HI0.out | apply IsS90.alloc | apply IsS90.drewN | apply IsS90.drew | apply IsS90.set_1 | apply IsS90.set_2 | apply IsS90.set_3 | refine IsS90.far ?_ NB0_209.out _ | refine IsS90.far ?_ NB0_210.out _) | exact HI0.out)); (case side2 => repeat (first | (with_reducible first | exact HB.out | apply below_alloc | apply pw_below_drewN | apply below_drew1 | refine below_set ?_ (IsS90.ge HI0.out) | refine below_set ?_ GE209.out | refine below_set ?_ GE210.out) | exact HB.out)); rintro e w105 ⟨rfl, hi, hb, hk⟩; refine ⟨_, rfl, ?_⟩; have n0_ := am (Kd.S_mono (Kd.S_keep (IsS90.apartS (show IsS90 w0 _ g s0_0 t247 t248 t249 from by repeat (first | (with_reducible first | exact HI0.out | apply IsS90.alloc | apply IsS90.drewN | apply IsS90.drew | apply IsS90.set_1 | apply IsS90.set_2 | apply IsS90.set_3 | refine IsS90.far ?_ NB0_209.out _ | refine IsS90.far ?_ NB0_210.out _) | exact HI0.out)) (by (with_reducible repeat (first | apply Kd.S_alloc | apply Kd.S_drewN | apply Kd.S_drew)); exact (Kd.S_mono (Kd.S_far (p := ⟨gb210, 2, none⟩) (Kd.S_types HO_211000.out BK210.out (by decide)) (fun _ hk => hk.2) (.slice Ao101 t244.length co101)) (fun _ h_ => h_.1))) (by decide)) hk (fun _ h => h.2)) (fun _ h => h.1)); have n1_ := am (KeepBut.blk hk (g' := gb209) (o := .cells #[.slice none 0 0, .int .i64 0, .slice none 0 0] 53 (0, 0)) (by (with_reducible repeat (first | refine blk_drewN ?_ _ | refine blk_drew ?_ | refine blk_alloc ?_ _)); refine blk_far ?_ NB209_210.out _; (with_reducible repeat (first | refine blk_drewN ?_ _ | refine blk_drew ?_ | refine blk_alloc ?_ _)); exact BK209.out) NB209_0.out (by simp)); have n2_ := am (KeepBut.blk hk (g' := gb210) (o := .cells #[.slice Ao30 x211000_2.length co30, .int .i64 x211001_25, .slice Ao101 t244.length co101] 53 (0, 0)) (by (with_reducible repeat (first | refine blk_drewN ?_ _ | refine blk_drew ?_ | refine blk_alloc ?_ _)); refine blk_put (cs := #[.slice Ao30 x211000_2.length co30, .int .i64 x211001_25, .slice none 0 0]) ?_ 2 _ rfl; (with_reducible repeat (first | refine blk_drewN ?_ _ | refine blk_drew ?_ | refine blk_alloc ?_ _)); exact BK210.out) NB210_0.out (by simp)); have n3_ := am (Kd.R_mono (Kd.R_keep (IsS90.apart (show IsS90 w0 _ g s0_0 t247 t248 t249 from by repeat (first | (with_reducible first | exact HI0.out | apply IsS90.alloc | apply IsS90.drewN | apply IsS90.drew | apply IsS90.set_1 | apply IsS90.set_2 | apply IsS90.set_3 | refine IsS90.far ?_ NB0_209.out _ | refine IsS90.far ?_ NB0_210.out _) | exact HI0.out)) (by (with_reducible repeat (first | apply Kd.R_alloc | apply Kd.R_drewN | apply Kd.R_drew)); exact (Kd.R_mono (Kd.R_far (p := ⟨gb210, 2, none⟩) (Kd.R_types HO246.out BK210.out (by decide)) (fun _ hk => hk.2) (.slice Ao101 t244.length co101)) (fun _ h_ => h_.1))) (by decide)) hk (fun _ h => h.2)) (fun _ h => h.1)); have n4_ := am (KeepBut.trans (by repeat (first | (with_reducible first | exact HK.out | apply KeepBut.set_ | apply keep_drewN | apply keep_drew | apply keep_alloc | refine keep_far ?_ GW209.out _ | refine keep_far ?_ GW210.out _) | exact HK.out)) hk (.inl rfl)); have n5_ := am (hb); have n6_ := am (hi); clear HO_211000; clear BK209; clear BK210; clear HO246; clear HK; clear HB; clear HI0; have HO_211000 := n0_; have BK209 := n1_; have BK210 := n2_; have HO246 := n3_; have HK := n4_; have HB := n5_; have HI0 := n6_; clear n0_ n1_ n2_ n3_ n4_ n5_ n6_; (try clear hb); (try clear hb2); (try clear hk); (try clear hi); have hcz106_0 : w105.cell? ⟨gb210, 0, none⟩ = some (.slice Ao30 x211000_2.length co30) := (blk_cell BK210.out 0).trans rfl; have hcz106_1 : w105.cell? ⟨gb210, 1, none⟩ = some (.int .i64 x211001_25) := (blk_cell BK210.out 1).trans rfl; have hcz106_2 : w105.cell? ⟨gb210, 2, none⟩ = some (.slice Ao101 t244.length co101) := (blk_cell BK210.out 2).trans rfl; have hfz106_0 := blk_frozen BK210.out 0; have hfz106_1 := blk_frozen BK210.out 1; have hfz106_2 := blk_frozen BK210.out 2; have hnb107 := NB209_0.out; have hnc107 := NB0_209.out; have hcz108_0 : w105.cell? ⟨gb209, 0, none⟩ = some (.slice none 0 0) := (blk_cell BK209.out 0).trans rfl; have hcz108_1 : w105.cell? ⟨gb209, 1, none⟩ = some (.int .i64 0) := (blk_cell BK209.out 1).trans rfl; have hcz108_2 : w105.cell? ⟨gb209, 2, none⟩ = some (.slice none 0 0) := (blk_cell BK209.out 2).trans rfl; have hfz108_0 := blk_frozen BK209.out 0; have hfz108_1 := blk_frozen BK209.out 1; have hfz108_2 := blk_frozen BK209.out 2))
         refine bodyPost_ret (results_cell_row rfl _ _ gb209 53 #[.slice Ao30 x211000_2.length co30, .int .i64 x211001_25, .slice Ao101 t244.length co101] (0, 0) _ rfl (by (with_reducible repeat (first | refine blk_drewN ?_ _ | refine blk_drew ?_ | refine blk_alloc ?_ _)); refine blk_put (cs := #[.slice Ao30 x211000_2.length co30, .int .i64 x211001_25, .slice none 0 0]) ?_ 2 _ rfl; (with_reducible repeat (first | refine blk_drewN ?_ _ | refine blk_drew ?_ | refine blk_alloc ?_ _)); refine blk_put (cs := #[.slice Ao30 x211000_2.length co30, .int .i64 0, .slice none 0 0]) ?_ 1 _ rfl; (with_reducible repeat (first | refine blk_drewN ?_ _ | refine blk_drew ?_ | refine blk_alloc ?_ _)); refine blk_put (cs := #[.slice none 0 0, .int .i64 0, .slice none 0 0]) ?_ 0 _ rfl; (with_reducible repeat (first | refine blk_drewN ?_ _ | refine blk_drew ?_ | refine blk_alloc ?_ _)); exact BK209.out) Try.underlying53 rfl (by kernel_rfl)) rfl ?_
         exact ⟨_, _, by first | rfl | (simp [errW_none, errW_some] <;> rfl) | (simp [*, errW_none, errW_some] <;> rfl), by (with_reducible repeat (first | apply Kd.S_alloc | apply Kd.S_drewN | apply Kd.S_drew)); exact Kd.S_mono (Kd.S_far (p := ⟨gb209, 2, none⟩) (Kd.S_far (p := ⟨gb209, 1, none⟩) (Kd.S_far (p := ⟨gb209, 0, none⟩) (Kd.S_types HO_211000.out BK209.out (by decide)) (fun _ hk => hk.2) (.slice Ao30 x211000_2.length co30)) (fun _ hk => hk.2) (.int .i64 x211001_25)) (fun _ hk => hk.2) (.slice Ao101 t244.length co101)) (fun _ hk => hk.1.2), by (with_reducible repeat (first | apply Kd.R_alloc | apply Kd.R_drewN | apply Kd.R_drew)); exact Kd.R_mono (Kd.R_far (p := ⟨gb209, 2, none⟩) (Kd.R_far (p := ⟨gb209, 1, none⟩) (Kd.R_far (p := ⟨gb209, 0, none⟩) (Kd.R_types HO246.out BK209.out (by decide)) (fun _ hk => hk.2) (.slice Ao30 x211000_2.length co30)) (fun _ hk => hk.2) (.int .i64 x211001_25)) (fun _ hk => hk.2) (.slice Ao101 t244.length co101)) (fun _ hk => trivial), by repeat (first | (with_reducible first | exact HI0.out | apply IsS90.alloc | apply IsS90.drewN | apply IsS90.drew | apply IsS90.set_1 | apply IsS90.set_2 | apply IsS90.set_3 | refine IsS90.far ?_ NB0_209.out _ | refine IsS90.far ?_ NB0_210.out _) | exact HI0.out), by repeat (first | (with_reducible first | exact HB.out | apply below_alloc | apply pw_below_drewN | apply below_drew1 | refine below_set ?_ (IsS90.ge HI0.out) | refine below_set ?_ GE209.out | refine below_set ?_ GE210.out) | exact HB.out), by repeat (first | (with_reducible first | exact HK.out | apply KeepBut.set_ | apply keep_drewN | apply keep_drew | apply keep_alloc | refine keep_far ?_ GW209.out _ | refine keep_far ?_ GW210.out _) | exact HK.out)⟩

end Go.Proofs.Ythcnhafdhjajpaa.PFnHistFind
