-- Written by xprint.py (this claim's own program, over the kit's printer); Lean checks it.
import Derived.Test.YtfkghjdhimhjjaaPFnUndox0
import Derived.Test.YtfkghjdhimhjjaaPFnUndox1
import Derived.Test.YtfkghjdhimhjjaaPFnUndox2
import Derived.Test.YtfkghjdhimhjjaaPFnUndox3
namespace Go.Proofs.Ytfkghjdhimhjjaa.PFnUndo
open Go.RowKit Go.Proofs.YtfkghjdhimhjjaaW.PrintWords Go.Proofs.YtfkghjdhimhjjaaW.PrintLast Go.Proofs.YtfkghjdhimhjjaaW.PrintMore
attribute [local go_sem] max2_int min2_int max_two min_two max_three min_three max_four min_four   -- for this text's walks alone
set_option linter.unusedVariables false
set_option linter.unusedSimpArgs false   -- squeezed

/-! ### spec_l01Src_l05Undo: function 56 -/
@[reducible] def b56_0 : Array Bool := (br true [0, 8]).toArray
@[reducible] def b56_1 : Array Bool := (br true [1, 7]).toArray
@[reducible] def b56_2 : Array Bool := (br true [1, 1, 1, 5]).toArray
@[reducible] def b56_3 : Array Bool := (br true [3, 5]).toArray
@[reducible] def b56_4 : Array Bool := (br true [4, 4]).toArray
@[reducible] def b56_5 : Array Bool := (br true [5, 3]).toArray
@[reducible] def b56_6 : Array Bool := (br true [6, 2]).toArray
@[reducible] def b56_7 : Array Bool := (br true [7, 1]).toArray
@[reducible] def b56_8 : Array Bool := (br true [8]).toArray
mutual
def spec_l01Src_l05Undo.j0 : Nat → Int → List Int → Int → Int → Int → Option ((List (S39)) × (List (S39)) × Int × Int × Int)
 | 0, _, _, _, _, _ => none
 | k + 1, x4, x1000, x1001, x1002, x1003 => spec_l01Src_l05Undo.l0 k x4 x1000 x1001 x1002 x1003 ([] : List (S39))
def spec_l01Src_l05Undo.l0 : Nat → Int → List Int → Int → Int → Int → List (S39) → Option ((List (S39)) × (List (S39)) × Int × Int × Int)
 | 0, _, _, _, _, _, _ => none
 | k + 1, x4, x1000, x1001, x1002, x1003, x180000 => if x4 > 0 then ((spec_l01Src_l05Small.f k x1000 x1001 x1002 x1003).bind fun bt192 => (if x180000.length < 3518437208883 then (spec_l01Src_l05Undo.l0 k (wrap64 (x4 - 1)) x1000 bt192.2.2.2.1 bt192.2.2.2.2.1 bt192.2.2.2.2.2 (x180000 ++ [(⟨bt192.1, bt192.2.1, bt192.2.2.1⟩ : S39)])) else (none))) else ((spec_l01Src_n.f x1000 x1001 x1002 x1003 3).bind fun bt203 => ((spec_l01Src_one.f x1000 bt203.2.1 bt203.2.2.1 bt203.2.2.2 15).bind fun bt207 => (if bt207.1 = true then ((spec_l01Src_n.f x1000 bt207.2.1 bt207.2.2.1 bt207.2.2.2 3).bind fun bt211 => (spec_l01Src_l05Undo.j2 k (wrap64 (19 + bt211.1)) x1000 bt211.2.1 bt211.2.2.1 bt211.2.2.2 x180000)) else (spec_l01Src_l05Undo.j2 k bt203.1 x1000 bt207.2.1 bt207.2.2.1 bt207.2.2.2 x180000))))
def spec_l01Src_l05Undo.j2 : Nat → Int → List Int → Int → Int → Int → List (S39) → Option ((List (S39)) × (List (S39)) × Int × Int × Int)
 | 0, _, _, _, _, _, _ => none
 | k + 1, x4, x1000, x1001, x1002, x1003, x180000 => spec_l01Src_l05Undo.l1 k x4 x1000 x1001 x1002 x1003 x180000 ([] : List (S39))
def spec_l01Src_l05Undo.l1 : Nat → Int → List Int → Int → Int → Int → List (S39) → List (S39) → Option ((List (S39)) × (List (S39)) × Int × Int × Int)
 | 0, _, _, _, _, _, _, _ => none
 | k + 1, x4, x1000, x1001, x1002, x1003, x180000, x180001 => if x4 > 0 then ((spec_l01Src_l05Small.f k x1000 x1001 x1002 x1003).bind fun bt215 => (if x180001.length < 3518437208883 then (spec_l01Src_l05Undo.l1 k (wrap64 (x4 - 1)) x1000 bt215.2.2.2.1 bt215.2.2.2.2.1 bt215.2.2.2.2.2 x180000 (x180001 ++ [(⟨bt215.1, bt215.2.1, bt215.2.2.1⟩ : S39)])) else (none))) else ((spec_l01Src_one.f x1000 x1001 x1002 x1003 20).bind fun bt226 => (if bt226.1 = true then (if x180000.length < 3518437208883 then (some ((x180000 ++ [(⟨([] : List Int), 1, 0⟩ : S39)]), x180001, bt226.2.1, bt226.2.2.1, bt226.2.2.2)) else (none)) else (some (x180000, x180001, bt226.2.1, bt226.2.2.1, bt226.2.2.2))))
end
def spec_l01Src_l05Undo.f (k : Nat) (s0_0 : List Int) (s0_1 : Int) (s0_2 : Int) (s0_3 : Int) : Option ((List (S39)) × (List (S39)) × Int × Int × Int) := (spec_l01Src_n.f s0_0 s0_1 s0_2 s0_3 4).bind fun bt180 => ((spec_l01Src_one.f s0_0 bt180.2.1 bt180.2.2.1 bt180.2.2.2 12).bind fun bt184 => (if bt184.1 = true then ((spec_l01Src_n.f s0_0 bt184.2.1 bt184.2.2.1 bt184.2.2.2 3).bind fun bt188 => (spec_l01Src_l05Undo.j0 k (wrap64 (19 + bt188.1)) s0_0 bt188.2.1 bt188.2.2.1 bt188.2.2.2)) else (spec_l01Src_l05Undo.j0 k bt180.1 s0_0 bt184.2.1 bt184.2.2.1 bt184.2.2.2)))
theorem spec_l01Src_l05Undo.mono_l : ∀ k, (∀ y0 y1 y2 y3 y4, LeO (spec_l01Src_l05Undo.j0 k y0 y1 y2 y3 y4) (spec_l01Src_l05Undo.j0 (k + 1) y0 y1 y2 y3 y4)) ∧ (∀ y0 y1 y2 y3 y4 y5, LeO (spec_l01Src_l05Undo.l0 k y0 y1 y2 y3 y4 y5) (spec_l01Src_l05Undo.l0 (k + 1) y0 y1 y2 y3 y4 y5)) ∧ (∀ y0 y1 y2 y3 y4 y5, LeO (spec_l01Src_l05Undo.j2 k y0 y1 y2 y3 y4 y5) (spec_l01Src_l05Undo.j2 (k + 1) y0 y1 y2 y3 y4 y5)) ∧ (∀ y0 y1 y2 y3 y4 y5 y6, LeO (spec_l01Src_l05Undo.l1 k y0 y1 y2 y3 y4 y5 y6) (spec_l01Src_l05Undo.l1 (k + 1) y0 y1 y2 y3 y4 y5 y6))
 | 0 => ⟨fun _ _ _ _ _ r h => by simp [spec_l01Src_l05Undo.j0] at h, fun _ _ _ _ _ _ r h => by simp [spec_l01Src_l05Undo.l0] at h, fun _ _ _ _ _ _ r h => by simp [spec_l01Src_l05Undo.j2] at h, fun _ _ _ _ _ _ _ r h => by simp [spec_l01Src_l05Undo.l1] at h⟩
 | k + 1 => by
  obtain ⟨ih0, ih1, ih2, ih3⟩ := spec_l01Src_l05Undo.mono_l k
  refine ⟨?_, ?_, ?_, ?_⟩
  ·intro y0 y1 y2 y3 y4
   unfold spec_l01Src_l05Undo.j0
   repeat' first
   | (with_reducible exact ih0 _ _ _ _ _)
   | (with_reducible exact ih1 _ _ _ _ _ _)
   | (with_reducible exact ih2 _ _ _ _ _ _)
   | (with_reducible exact ih3 _ _ _ _ _ _ _)
   | (with_reducible exact spec_l01Src_l05Small.mono _ _ _ _ _)
   | (with_reducible exact LeO.refl _)
   | (with_reducible exact LeO.none _)
   | (with_reducible refine LeO.ite ?_ ?_)
   | (with_reducible refine LeO.bind ?_ (fun _ => ?_))
   | exact ih0 _ _ _ _ _
   | exact ih1 _ _ _ _ _ _
   | exact ih2 _ _ _ _ _ _
   | exact ih3 _ _ _ _ _ _ _
   | exact spec_l01Src_l05Small.mono _ _ _ _ _
   | exact LeO.none _
   | refine LeO.ite ?_ ?_
   | refine LeO.bind ?_ (fun _ => ?_)
  ·intro y0 y1 y2 y3 y4 y5
   unfold spec_l01Src_l05Undo.l0
   repeat' first
   | (with_reducible exact ih0 _ _ _ _ _)
   | (with_reducible exact ih1 _ _ _ _ _ _)
   | (with_reducible exact ih2 _ _ _ _ _ _)
   | (with_reducible exact ih3 _ _ _ _ _ _ _)
   | (with_reducible exact spec_l01Src_l05Small.mono _ _ _ _ _)
   | (with_reducible exact LeO.refl _)
   | (with_reducible exact LeO.none _)
   | (with_reducible refine LeO.ite ?_ ?_)
   | (with_reducible refine LeO.bind ?_ (fun _ => ?_))
   | exact ih0 _ _ _ _ _
   | exact ih1 _ _ _ _ _ _
   | exact ih2 _ _ _ _ _ _
   | exact ih3 _ _ _ _ _ _ _
   | exact spec_l01Src_l05Small.mono _ _ _ _ _
   | exact LeO.none _
   | refine LeO.ite ?_ ?_
   | refine LeO.bind ?_ (fun _ => ?_)
  ·intro y0 y1 y2 y3 y4 y5
   unfold spec_l01Src_l05Undo.j2
   repeat' first
   | (with_reducible exact ih0 _ _ _ _ _)
   | (with_reducible exact ih1 _ _ _ _ _ _)
   | (with_reducible exact ih2 _ _ _ _ _ _)
   | (with_reducible exact ih3 _ _ _ _ _ _ _)
   | (with_reducible exact spec_l01Src_l05Small.mono _ _ _ _ _)
   | (with_reducible exact LeO.refl _)
   | (with_reducible exact LeO.none _)
   | (with_reducible refine LeO.ite ?_ ?_)
   | (with_reducible refine LeO.bind ?_ (fun _ => ?_))
   | exact ih0 _ _ _ _ _
   | exact ih1 _ _ _ _ _ _
   | exact ih2 _ _ _ _ _ _
   | exact ih3 _ _ _ _ _ _ _
   | exact spec_l01Src_l05Small.mono _ _ _ _ _
   | exact LeO.none _
   | refine LeO.ite ?_ ?_
   | refine LeO.bind ?_ (fun _ => ?_)
  ·intro y0 y1 y2 y3 y4 y5 y6
   unfold spec_l01Src_l05Undo.l1
   repeat' first
   | (with_reducible exact ih0 _ _ _ _ _)
   | (with_reducible exact ih1 _ _ _ _ _ _)
   | (with_reducible exact ih2 _ _ _ _ _ _)
   | (with_reducible exact ih3 _ _ _ _ _ _ _)
   | (with_reducible exact spec_l01Src_l05Small.mono _ _ _ _ _)
   | (with_reducible exact LeO.refl _)
   | (with_reducible exact LeO.none _)
   | (with_reducible refine LeO.ite ?_ ?_)
   | (with_reducible refine LeO.bind ?_ (fun _ => ?_))
   | exact ih0 _ _ _ _ _
   | exact ih1 _ _ _ _ _ _
   | exact ih2 _ _ _ _ _ _
   | exact ih3 _ _ _ _ _ _ _
   | exact spec_l01Src_l05Small.mono _ _ _ _ _
   | exact LeO.none _
   | refine LeO.ite ?_ ?_
   | refine LeO.bind ?_ (fun _ => ?_)
theorem spec_l01Src_l05Undo.mono : ∀ a0 a1 a2 a3 k, LeO (spec_l01Src_l05Undo.f k a0 a1 a2 a3) (spec_l01Src_l05Undo.f (k + 1) a0 a1 a2 a3) := by
 intro a0 a1 a2 a3 k
 obtain ⟨ih0, ih1, ih2, ih3⟩ := spec_l01Src_l05Undo.mono_l k
 unfold spec_l01Src_l05Undo.f
 repeat' first
   | (with_reducible exact ih0 _ _ _ _ _)
   | (with_reducible exact ih1 _ _ _ _ _ _)
   | (with_reducible exact ih2 _ _ _ _ _ _)
   | (with_reducible exact ih3 _ _ _ _ _ _ _)
   | (with_reducible exact spec_l01Src_l05Small.mono _ _ _ _ _)
   | (with_reducible exact LeO.refl _)
   | (with_reducible exact LeO.none _)
   | (with_reducible refine LeO.ite ?_ ?_)
   | (with_reducible refine LeO.bind ?_ (fun _ => ?_))
   | exact ih0 _ _ _ _ _
   | exact ih1 _ _ _ _ _ _
   | exact ih2 _ _ _ _ _ _
   | exact ih3 _ _ _ _ _ _ _
   | exact spec_l01Src_l05Small.mono _ _ _ _ _
   | exact LeO.none _
   | refine LeO.ite ?_ ?_
   | refine LeO.bind ?_ (fun _ => ?_)
def spec_l01Src_l05Undo.T7 : Bool × List (List Nat × List Nat) := (true, [([], []), ([0], [0]), ([], []), ([2], [2]), ([3], [3]), ([1, 4, 3], [1, 4]), ([0, 1, 2, 3, 4, 5], []), ([6, 5, 5, 0, 1, 2, 3, 4, 5], [5, 6])])
def spec_l01Src_l05Undo.B7 : List Nat := [0, 1, 0, 4, 12, 31, 63, 127]
theorem spec_l01Src_l05Undo.tab7 : rtab .any (opsOf Try.f56 7) = spec_l01Src_l05Undo.T7 := by kernel_rfl
theorem spec_l01Src_l05Undo.bits7 : waitsOk spec_l01Src_l05Undo.T7.2 spec_l01Src_l05Undo.B7 = true := by kernel_rfl
def spec_l01Src_l05Undo.T13 : Bool × List (List Nat × List Nat) := (true, [([], []), ([0], [0]), ([], []), ([2], [2]), ([3], [3]), ([1, 4, 3], [1, 4]), ([0, 1, 2, 3, 4, 5], []), ([6, 5, 5, 0, 1, 2, 3, 4, 5], [5, 6])])
def spec_l01Src_l05Undo.B13 : List Nat := [0, 1, 0, 4, 12, 31, 63, 127]
theorem spec_l01Src_l05Undo.tab13 : rtab .any (opsOf Try.f56 13) = spec_l01Src_l05Undo.T13 := by kernel_rfl
theorem spec_l01Src_l05Undo.bits13 : waitsOk spec_l01Src_l05Undo.T13.2 spec_l01Src_l05Undo.B13 = true := by kernel_rfl
set_option maxHeartbeats 8000000 in
set_option maxRecDepth 100000 in
theorem spec_l01Src_l05Undo.calls (k : Nat) (g : Nat) (s0_0 : List Int) (s0_1 : Int) (s0_2 : Int) (s0_3 : Int) (r1 : List (S39)) (r2 : List (S39)) (r3 : Int) (r4 : Int) (r5 : Int) (w0 w : World) (hI : IsS122 w0 w g s0_0 s0_1 s0_2 s0_3) (hB : Below w0.heap.size w0 w) (h : spec_l01Src_l05Undo.f k s0_0 s0_1 s0_2 s0_3 = some (r1, r2, r3, r4, r5)) :
  Calls Try.prog 56 #[.pointer (some ⟨g, 0, none⟩)] w fun e w' => ∃ v0_ v1_ : Value, e = .returned (.agg #[v0_, v1_]) ∧ Kd.S k39 39 w' w.heap.size (fun k_ => some k_ ≠ (v1_ : Value).ownBlock) v0_ r1 ∧ Kd.S k39 39 w' w.heap.size (fun k_ => some k_ ≠ (v0_ : Value).ownBlock) v1_ r2 ∧ IsS122 w0 w' g s0_0 r3 r4 r5 ∧ Below w0.heap.size w0 w' ∧ KeepBut w w' g none := by
 have hu36 := Try.underlying36
 have hu39 := Try.underlying39
 have HI0 := am hI
 have HK := am (KeepBut.refl w g none)
 have HL := am hB.size
 clear hI
 have HW0 := am hB.size
 have HB := am hB
 clear hB
 have H : ((spec_l01Src_n.f s0_0 s0_1 s0_2 s0_3 4).bind fun bt180 => ((spec_l01Src_one.f s0_0 bt180.2.1 bt180.2.2.1 bt180.2.2.2 12).bind fun bt184 => (if bt184.1 = true then ((spec_l01Src_n.f s0_0 bt184.2.1 bt184.2.2.1 bt184.2.2.2 3).bind fun bt188 => (spec_l01Src_l05Undo.j0 k (wrap64 (19 + bt188.1)) s0_0 bt188.2.1 bt188.2.2.1 bt188.2.2.2)) else (spec_l01Src_l05Undo.j0 k bt180.1 s0_0 bt184.2.1 bt184.2.2.1 bt184.2.2.2)))) = some (r1, r2, r3, r4, r5) := h
 clear h
 replace H := Option.bind_eq_some_iff.mp H
 obtain ⟨⟨t180, t181, t182, t183⟩, A20, H⟩ := H
 replace H : ((spec_l01Src_one.f s0_0 t181 t182 t183 12).bind fun bt184 => (if bt184.1 = true then ((spec_l01Src_n.f s0_0 bt184.2.1 bt184.2.2.1 bt184.2.2.2 3).bind fun bt188 => (spec_l01Src_l05Undo.j0 k (wrap64 (19 + bt188.1)) s0_0 bt188.2.1 bt188.2.2.1 bt188.2.2.2)) else (spec_l01Src_l05Undo.j0 k t180 s0_0 bt184.2.1 bt184.2.2.1 bt184.2.2.2))) = some (r1, r2, r3, r4, r5) := H
 have A2 := Aside0.mk A20
 clear A20
 replace H := Option.bind_eq_some_iff.mp H
 obtain ⟨⟨t184, t185, t186, t187⟩, A30, H⟩ := H
 replace H : (if t184 = true then ((spec_l01Src_n.f s0_0 t185 t186 t187 3).bind fun bt188 => (spec_l01Src_l05Undo.j0 k (wrap64 (19 + bt188.1)) s0_0 bt188.2.1 bt188.2.2.1 bt188.2.2.2)) else (spec_l01Src_l05Undo.j0 k t180 s0_0 t185 t186 t187)) = some (r1, r2, r3, r4, r5) := H
 have A3 := Aside0.mk A30
 clear A30
 have HC4 := Aside0.mk H
 clear H
 go_enter Try.func56, Try.ntmps56
 go_upto_if 9 with (first | ((with_reducible refine gate_dst (N := 2) rfl ?_); refine box_event ?hg (N := 2) ?hd (cs := #[.slice none 0 0, .slice none 0 0]) (t := 36) ?hr ?_; (case hd => rfl); (case hg => rfl); (case hr => first | (go_simp; done) | (go_simp; rfl)); intro gb178 hg w5 hbox hb; replace HB := am (below_step (by repeat (first | (with_reducible first | exact HB.out | apply below_alloc | apply pw_below_drewN | apply below_drew1 | refine below_set ?_ (IsS122.ge HI0.out)) | exact HB.out)) hb); have BK178 := am (hbox); have GW178 := am ((by rw [hg]; exact (keep_size (w := w) (g := g) (row := none) (by repeat (first | (with_reducible first | exact HK.out | apply KeepBut.set_ | apply keep_drewN | apply keep_drew | apply keep_alloc) | exact HK.out))) : w.heap.size ≤ gb178)); have GE178 := am ((Nat.le_trans HW0.out (by rw [hg]; exact (keep_size (w := w) (g := g) (row := none) (by repeat (first | (with_reducible first | exact HK.out | apply KeepBut.set_ | apply keep_drewN | apply keep_drew | apply keep_alloc) | exact HK.out))) : w.heap.size ≤ gb178) : w0.heap.size ≤ gb178)); replace HK := am (KeepBut.trans (by repeat (first | (with_reducible first | exact HK.out | apply KeepBut.set_ | apply keep_drewN | apply keep_drew | apply keep_alloc) | exact HK.out)) (KeepBut.of_below hb g none) (.inl rfl)); have NB0_178 := am ((by rw [hg]; exact Nat.ne_of_lt (IsS122.lt (show IsS122 w0 _ g s0_0 s0_1 s0_2 s0_3 from by repeat (first | (with_reducible first | exact HI0.out | apply IsS122.alloc | apply IsS122.drewN | apply IsS122.drew | apply IsS122.set_1 | apply IsS122.set_2 | apply IsS122.set_3) | exact HI0.out))) : g ≠ gb178)); have NB178_0 := am ((by rw [hg]; exact Nat.ne_of_gt (IsS122.lt (show IsS122 w0 _ g s0_0 s0_1 s0_2 s0_3 from by repeat (first | (with_reducible first | exact HI0.out | apply IsS122.alloc | apply IsS122.drewN | apply IsS122.drew | apply IsS122.set_1 | apply IsS122.set_2 | apply IsS122.set_3) | exact HI0.out))) : gb178 ≠ g)); replace HI0 := am (IsS122.below (by repeat (first | (with_reducible first | exact HI0.out | apply IsS122.alloc | apply IsS122.drewN | apply IsS122.drew | apply IsS122.set_1 | apply IsS122.set_2 | apply IsS122.set_3) | exact HI0.out)) hb); clear hb hbox hg) | ((with_reducible refine gate_dst (N := 3) rfl ?_); refine box_event ?hg (N := 3) ?hd (cs := #[.slice none 0 0, .slice none 0 0]) (t := 36) ?hr ?_; (case hd => rfl); (case hg => rfl); (case hr => first | (go_simp; done) | (go_simp; rfl)); intro gb179 hg w6 hbox hb; replace HB := am (below_step (by repeat (first | (with_reducible first | exact HB.out | apply below_alloc | apply pw_below_drewN | apply below_drew1 | refine below_set ?_ (IsS122.ge HI0.out) | refine below_set ?_ GE178.out) | exact HB.out)) hb); have BK179 := am (hbox); have GW179 := am ((by rw [hg]; exact (keep_size (w := w) (g := g) (row := none) (by repeat (first | (with_reducible first | exact HK.out | apply KeepBut.set_ | apply keep_drewN | apply keep_drew | apply keep_alloc | refine keep_far ?_ GW178.out _) | exact HK.out))) : w.heap.size ≤ gb179)); have GE179 := am ((Nat.le_trans HW0.out (by rw [hg]; exact (keep_size (w := w) (g := g) (row := none) (by repeat (first | (with_reducible first | exact HK.out | apply KeepBut.set_ | apply keep_drewN | apply keep_drew | apply keep_alloc | refine keep_far ?_ GW178.out _) | exact HK.out))) : w.heap.size ≤ gb179) : w0.heap.size ≤ gb179)); replace HK := am (KeepBut.trans (by repeat (first | (with_reducible first | exact HK.out | apply KeepBut.set_ | apply keep_drewN | apply keep_drew | apply keep_alloc | refine keep_far ?_ GW178.out _) | exact HK.out)) (KeepBut.of_below hb g none) (.inl rfl)); have NB178_179 := am ((by rw [hg]; exact Nat.ne_of_lt (blk_lt (pk BK178.out)) : gb178 ≠ gb179)); have NB179_178 := am ((by rw [hg]; exact Nat.ne_of_gt (blk_lt (pk BK178.out)) : gb179 ≠ gb178)); replace BK178 := am (blk_below (pk BK178.out) hb); have NB0_179 := am ((by rw [hg]; exact Nat.ne_of_lt (IsS122.lt (show IsS122 w0 _ g s0_0 s0_1 s0_2 s0_3 from by repeat (first | (with_reducible first | exact HI0.out | apply IsS122.alloc | apply IsS122.drewN | apply IsS122.drew | apply IsS122.set_1 | apply IsS122.set_2 | apply IsS122.set_3 | refine IsS122.far ?_ NB0_178.out _) | exact HI0.out))) : g ≠ gb179)); have NB179_0 := am ((by rw [hg]; exact Nat.ne_of_gt (IsS122.lt (show IsS122 w0 _ g s0_0 s0_1 s0_2 s0_3 from by repeat (first | (with_reducible first | exact HI0.out | apply IsS122.alloc | apply IsS122.drewN | apply IsS122.drew | apply IsS122.set_1 | apply IsS122.set_2 | apply IsS122.set_3 | refine IsS122.far ?_ NB0_178.out _) | exact HI0.out))) : gb179 ≠ g)); replace HI0 := am (IsS122.below (by repeat (first | (with_reducible first | exact HI0.out | apply IsS122.alloc | apply IsS122.drewN | apply IsS122.drew | apply IsS122.set_1 | apply IsS122.set_2 | apply IsS122.set_3 | refine IsS122.far ?_ NB0_178.out _) | exact HI0.out)) hb); clear hb hbox hg; have hnb7 := NB179_178.out; have hnc7 := NB178_179.out; have hnb8 := NB179_0.out; have hnc8 := NB0_179.out; have hcz9_0 : w6.cell? ⟨gb179, 0, none⟩ = some (.slice none 0 0) := bc BK179.out 0; have hcz9_1 : w6.cell? ⟨gb179, 1, none⟩ = some (.slice none 0 0) := bc BK179.out 1; have hfz9_0 := blk_frozen BK179.out 0; have hfz9_1 := blk_frozen BK179.out 1) | ((with_reducible refine gate_callee (f := 111) rfl ?_); refine gl (some 7) Try.func111 #[.pointer (some ⟨g, 0, none⟩), .int .i64 4] ?_; (with_reducible refine (spec_l01Src_n.calls g s0_0 s0_1 s0_2 s0_3 4 t180 t181 t182 t183 w0 _ ?side1 ?side2 A2.out).mono ?_); (case side1 => repeat (first | (with_reducible first | exact HI0.out | apply IsS122.alloc | apply IsS122.drewN | apply IsS122.drew | apply IsS122.set_1 | apply IsS122.set_2 | apply IsS122.set_3 | refine IsS122.far ?_ NB0_178.out _ | refine IsS122.far ?_ NB0_179.out _) | exact HI0.out)); (case side2 => repeat (first | (with_reducible first | exact HB.out | apply below_alloc | apply pw_below_drewN | apply below_drew1 | refine below_set ?_ (IsS122.ge HI0.out) | refine below_set ?_ GE178.out | refine below_set ?_ GE179.out) | exact HB.out)); rintro e w10 ⟨rfl, hi, hb, hk⟩; refine ⟨_, rfl, ?_⟩; replace BK178 := am (KeepBut.blk hk (g' := gb178) (o := .cells #[.slice none 0 0, .slice none 0 0] 36 (0, 0)) (by (with_reducible repeat (first | refine blk_drewN ?_ _ | refine blk_drew ?_ | refine blk_alloc ?_ _)); refine blk_far ?_ NB178_179.out _; (with_reducible repeat (first | refine blk_drewN ?_ _ | refine blk_drew ?_ | refine blk_alloc ?_ _)); refine blk_far ?_ NB178_179.out _; (with_reducible repeat (first | refine blk_drewN ?_ _ | refine blk_drew ?_ | refine blk_alloc ?_ _)); exact BK178.out) NB178_0.out (by simp)); replace BK179 := am (KeepBut.blk hk (g' := gb179) (o := .cells #[.slice none 0 0, .slice none 0 0] 36 (0, 0)) (by (with_reducible repeat (first | refine blk_drewN ?_ _ | refine blk_drew ?_ | refine blk_alloc ?_ _)); refine blk_put (cs := #[.slice none 0 0, .slice none 0 0]) ?_ 1 _ rfl; (with_reducible repeat (first | refine blk_drewN ?_ _ | refine blk_drew ?_ | refine blk_alloc ?_ _)); refine blk_put (cs := #[.slice none 0 0, .slice none 0 0]) ?_ 0 _ rfl; (with_reducible repeat (first | refine blk_drewN ?_ _ | refine blk_drew ?_ | refine blk_alloc ?_ _)); exact BK179.out) NB179_0.out (by simp)); replace HK := am (KeepBut.trans (by repeat (first | (with_reducible first | exact HK.out | apply KeepBut.set_ | apply keep_drewN | apply keep_drew | apply keep_alloc | refine keep_far ?_ GW178.out _ | refine keep_far ?_ GW179.out _) | exact HK.out)) hk (.inl rfl)); replace HB := am (hb); replace HI0 := am (hi); (try clear hb); (try clear hb2); (try clear hk); (try clear hi)) | ((with_reducible refine gate_callee (f := 112) rfl ?_); refine gl (some 9) Try.func112 #[.pointer (some ⟨g, 0, none⟩), .int .i64 12] ?_; (with_reducible refine (spec_l01Src_one.calls g s0_0 t181 t182 t183 12 t184 t185 t186 t187 w0 _ ?side1 ?side2 A3.out).mono ?_); (case side1 => repeat (first | (with_reducible first | exact HI0.out | apply IsS122.alloc | apply IsS122.drewN | apply IsS122.drew | apply IsS122.set_1 | apply IsS122.set_2 | apply IsS122.set_3 | refine IsS122.far ?_ NB0_178.out _ | refine IsS122.far ?_ NB0_179.out _) | exact HI0.out)); (case side2 => repeat (first | (with_reducible first | exact HB.out | apply below_alloc | apply pw_below_drewN | apply below_drew1 | refine below_set ?_ (IsS122.ge HI0.out) | refine below_set ?_ GE178.out | refine below_set ?_ GE179.out) | exact HB.out)); rintro e w11 ⟨rfl, hi, hb, hk⟩; refine ⟨_, rfl, ?_⟩; replace BK178 := am (KeepBut.blk hk (g' := gb178) (o := .cells #[.slice none 0 0, .slice none 0 0] 36 (0, 0)) (pk BK178.out) NB178_0.out (by simp)); replace BK179 := am (KeepBut.blk hk (g' := gb179) (o := .cells #[.slice none 0 0, .slice none 0 0] 36 (0, 0)) (pk BK179.out) NB179_0.out (by simp)); replace HK := am (KeepBut.trans (by repeat (first | (with_reducible first | exact HK.out | apply KeepBut.set_ | apply keep_drewN | apply keep_drew | apply keep_alloc | refine keep_far ?_ GW178.out _ | refine keep_far ?_ GW179.out _) | exact HK.out)) hk (.inl rfl)); replace HB := am (hb); replace HI0 := am (hi); (try clear hb); (try clear hb2); (try clear hk); (try clear hi)))
 (try simp only [Act.put, sa_, s0_, ss_])
 go_cut [4] (fun v4 wc => ∃ (kq : Nat) (x4_3 : Int) (x1001_3 : Int) (x1002_3 : Int) (x1003_3 : Int), v4 = .int .i64 x4_3 ∧ Aside0 (spec_l01Src_l05Undo.j0 kq x4_3 s0_0 x1001_3 x1002_3 x1003_3 = some (r1, r2, r3, r4, r5)) ∧ Aside0 (kq ≤ k) ∧ Aside0 (wc.heap[gb178]? = some (.cells #[(.slice none 0 0), (.slice none 0 0)] 36 (0, 0))) ∧ Aside0 (wc.heap[gb179]? = some (.cells #[(.slice none 0 0), (.slice none 0 0)] 36 (0, 0))) ∧ Aside0 (IsS122 w0 wc g s0_0 x1001_3 x1002_3 x1003_3) ∧ Aside0 (KeepBut w wc g none) ∧ Aside0 (Below w0.heap.size w0 wc))
 case first =>
  have H := HC4.out
  clear HC4
  by_cases c12 : t184 = true
  ·subst c12
   have H1 : ((spec_l01Src_n.f s0_0 t185 t186 t187 3).bind fun bt188 => (spec_l01Src_l05Undo.j0 k (wrap64 (19 + bt188.1)) s0_0 bt188.2.1 bt188.2.2.1 bt188.2.2.2)) = some (r1, r2, r3, r4, r5) := by rw [if_pos rfl] at H; exact H
   clear H
   have H := H1
   clear H1
   replace H := Option.bind_eq_some_iff.mp H
   obtain ⟨⟨t188, t189, t190, t191⟩, A130, H⟩ := H
   replace H : (spec_l01Src_l05Undo.j0 k (wrap64 (19 + t188)) s0_0 t189 t190 t191) = some (r1, r2, r3, r4, r5) := H
   have A13 := Aside0.mk A130
   clear A130
   have H' := Aside0.mk H
   clear H
   go_wp2_with (first | ((with_reducible refine gate_callee (f := 111) rfl ?_); refine gl (some 11) Try.func111 #[.pointer (some ⟨g, 0, none⟩), .int .i64 3] ?_; (with_reducible refine (spec_l01Src_n.calls g s0_0 t185 t186 t187 3 t188 t189 t190 t191 w0 _ ?side1 ?side2 A13.out).mono ?_); (case side1 => repeat (first | (with_reducible first | exact HI0.out | apply IsS122.alloc | apply IsS122.drewN | apply IsS122.drew | apply IsS122.set_1 | apply IsS122.set_2 | apply IsS122.set_3 | refine IsS122.far ?_ NB0_178.out _ | refine IsS122.far ?_ NB0_179.out _) | exact HI0.out)); (case side2 => repeat (first | (with_reducible first | exact HB.out | apply below_alloc | apply pw_below_drewN | apply below_drew1 | refine below_set ?_ (IsS122.ge HI0.out) | refine below_set ?_ GE178.out | refine below_set ?_ GE179.out) | exact HB.out)); rintro e w14 ⟨rfl, hi, hb, hk⟩; refine ⟨_, rfl, ?_⟩; replace BK178 := am (KeepBut.blk hk (g' := gb178) (o := .cells #[.slice none 0 0, .slice none 0 0] 36 (0, 0)) (pk BK178.out) NB178_0.out (by simp)); replace BK179 := am (KeepBut.blk hk (g' := gb179) (o := .cells #[.slice none 0 0, .slice none 0 0] 36 (0, 0)) (pk BK179.out) NB179_0.out (by simp)); replace HK := am (KeepBut.trans (by repeat (first | (with_reducible first | exact HK.out | apply KeepBut.set_ | apply keep_drewN | apply keep_drew | apply keep_alloc | refine keep_far ?_ GW178.out _ | refine keep_far ?_ GW179.out _) | exact HK.out)) hk (.inl rfl)); replace HB := am (hb); replace HI0 := am (hi); (try clear hb); (try clear hb2); (try clear hk); (try clear hi)))
   go_meet
   case rel => exact ⟨_, (wrap64 (19 + t188)), (t189), (t190), (t191), (by first | rfl | (simp; done) | (simp [*]; done)), H', ⟨by first | omega | exact Nat.le_refl _⟩, ⟨pk BK178.out⟩, ⟨pk BK179.out⟩, ⟨by repeat (first | (with_reducible first | exact HI0.out | apply IsS122.alloc | apply IsS122.drewN | apply IsS122.drew | apply IsS122.set_1 | apply IsS122.set_2 | apply IsS122.set_3 | refine IsS122.far ?_ NB0_178.out _ | refine IsS122.far ?_ NB0_179.out _) | exact HI0.out)⟩, ⟨by repeat (first | (with_reducible first | exact HK.out | apply KeepBut.set_ | apply keep_drewN | apply keep_drew | apply keep_alloc | refine keep_far ?_ GW178.out _ | refine keep_far ?_ GW179.out _) | exact HK.out)⟩, ⟨by repeat (first | (with_reducible first | exact HB.out | apply below_alloc | apply pw_below_drewN | apply below_drew1 | refine below_set ?_ (IsS122.ge HI0.out) | refine below_set ?_ GE178.out | refine below_set ?_ GE179.out) | exact HB.out)⟩⟩
  ·replace c12 := Bool.eq_false_iff.mpr c12
   subst c12
   have H1 : (spec_l01Src_l05Undo.j0 k t180 s0_0 t185 t186 t187) = some (r1, r2, r3, r4, r5) := by rw [if_neg (show ¬ (false = true) by decide)] at H; exact H
   clear H
   have H := H1
   clear H1
   have H' := Aside0.mk H
   clear H
   go_wp2
   go_meet
   case rel => exact ⟨_, (t180), (t185), (t186), (t187), (by first | rfl | (simp; done) | (simp [*]; done)), H', ⟨by first | omega | exact Nat.le_refl _⟩, ⟨pk BK178.out⟩, ⟨pk BK179.out⟩, ⟨by repeat (first | (with_reducible first | exact HI0.out | apply IsS122.alloc | apply IsS122.drewN | apply IsS122.drew | apply IsS122.set_1 | apply IsS122.set_2 | apply IsS122.set_3 | refine IsS122.far ?_ NB0_178.out _ | refine IsS122.far ?_ NB0_179.out _) | exact HI0.out)⟩, ⟨by repeat (first | (with_reducible first | exact HK.out | apply KeepBut.set_ | apply keep_drewN | apply keep_drew | apply keep_alloc | refine keep_far ?_ GW178.out _ | refine keep_far ?_ GW179.out _) | exact HK.out)⟩, ⟨by repeat (first | (with_reducible first | exact HB.out | apply below_alloc | apply pw_below_drewN | apply below_drew1 | refine below_set ?_ (IsS122.ge HI0.out) | refine below_set ?_ GE178.out | refine below_set ?_ GE179.out) | exact HB.out)⟩⟩
 case rest =>
  clear HC4
  try clear c1
  try clear p2
  try clear c5
  try clear p6
  try clear c7
  try clear c8
  try clear c11
  try clear c12
  try clear hcz9_0
  try clear hcz9_1
  try clear hfz9_0
  try clear hfz9_1
  obtain ⟨kq, x4_3, x1001_3, x1002_3, x1003_3, rfl, HA, HJ3, BK178, BK179, HI0, HK, HB⟩ := hcut
  cases kq with
  | zero => exact absurd HA.out (by simp [spec_l01Src_l05Undo.j0])
  | succ kj3 =>
   have H := HA.out
   clear HA
   simp only [spec_l01Src_l05Undo.j0] at H
   have H' := Aside0.mk H
   clear H
   go_wp2
   go_loopg [4] kj3 (fun kq v4 w' => ∃ (x4_2 : Int) (x1001_2 : Int) (x1002_2 : Int) (x1003_2 : Int) (x180000_2 : List (S39)) (u180000 : Value), v4 = .int .i64 x4_2 ∧ Aside0 (spec_l01Src_l05Undo.l0 kq x4_2 s0_0 x1001_2 x1002_2 x1003_2 x180000_2 = some (r1, r2, r3, r4, r5)) ∧ Aside0 (kq ≤ kj3) ∧ Aside0 (Kd.S k39 39 w' w.heap.size (fun _ => True) u180000 x180000_2) ∧ Aside0 (w'.heap[gb178]? = some (.cells #[(.slice none 0 0), (.slice none 0 0)] 36 (0, 0))) ∧ Aside0 (w'.heap[gb179]? = some (.cells #[u180000, (.slice none 0 0)] 36 (0, 0))) ∧ Aside0 (IsS122 w0 w' g s0_0 x1001_2 x1002_2 x1003_2) ∧ Aside0 (KeepBut w w' g none) ∧ Aside0 (Below w0.heap.size w0 w'))
   case atStart => exact ⟨(x4_3), (x1001_3), (x1002_3), (x1003_3), (([] : List (S39))), (.slice none 0 0), (by first | rfl | (simp; done) | (simp [*]; done)), H', ⟨Nat.le_refl _⟩, ⟨by first | exact Kd.S_nil _ _ _ _ _ | exact Kd.N_nil _ _ _ _ _ | exact Kd.V_nil _ _ _ _ _ | exact Kd.Q_nil _ _ _ _ _ | exact Kd.R_nil _ _ _ _ _⟩, ⟨pk BK178.out⟩, ⟨pk BK179.out⟩, ⟨by repeat (first | (with_reducible first | exact HI0.out | apply IsS122.alloc | apply IsS122.drewN | apply IsS122.drew | apply IsS122.set_1 | apply IsS122.set_2 | apply IsS122.set_3 | refine IsS122.far ?_ NB0_178.out _ | refine IsS122.far ?_ NB0_179.out _) | exact HI0.out)⟩, ⟨by repeat (first | (with_reducible first | exact HK.out | apply KeepBut.set_ | apply keep_drewN | apply keep_drew | apply keep_alloc | refine keep_far ?_ GW178.out _ | refine keep_far ?_ GW179.out _) | exact HK.out)⟩, ⟨by repeat (first | (with_reducible first | exact HB.out | apply below_alloc | apply pw_below_drewN | apply below_drew1 | refine below_set ?_ (IsS122.ge HI0.out) | refine below_set ?_ GE178.out | refine below_set ?_ GE179.out) | exact HB.out)⟩⟩
   case round =>
    clear H'
    try clear c1
    try clear p2
    try clear c5
    try clear p6
    try clear c7
    try clear c8
    try clear c11
    try clear c12
    try clear hcz9_0
    try clear hcz9_1
    try clear hfz9_0
    try clear hfz9_1
    try clear p2
    try clear p6
    obtain ⟨x4_2, x1001_2, x1002_2, x1003_2, x180000_2, u180000, rfl, HA, HK2, HO_180000, BK178, BK179, HI0, HK, HB⟩ := hrel
    cases gk with
    | zero => exact absurd HA.out (by simp [spec_l01Src_l05Undo.l0])
    | succ k2 =>
     have H := HA.out
     clear HA
     simp only [spec_l01Src_l05Undo.l0] at H
     by_cases c15 : x4_2 > 0
     ·rw [if_pos c15] at H
      have c15b0 : decide (0 < x4_2) = true := decide_eq_true c15
      clear c15
      replace H := Option.bind_eq_some_iff.mp H
      obtain ⟨⟨t192, t195, t196, t197, t198, t199⟩, A160, H⟩ := H
      replace H : (if x180000_2.length < 3518437208883 then (spec_l01Src_l05Undo.l0 k2 (wrap64 (x4_2 - 1)) s0_0 t197 t198 t199 (x180000_2 ++ [(⟨t192, t195, t196⟩ : S39)])) else (none)) = some (r1, r2, r3, r4, r5) := H
      have A16 := Aside0.mk A160
      clear A160
      by_cases c17 : x180000_2.length < 3518437208883
      ·rw [if_pos c17] at H
       have LMc17 := Aside0.mk c17
       clear c17
       obtain ⟨y200, hy200⟩ : ∃ y_ : List (S39), y_ = (x180000_2 ++ [(⟨t192, t195, t196⟩ : S39)]) := ⟨_, rfl⟩
       replace H : (spec_l01Src_l05Undo.l0 k2 (wrap64 (x4_2 - 1)) s0_0 t197 t198 t199 y200) = some (r1, r2, r3, r4, r5) := by first | (rw [hy200]; with_reducible exact H) | (have H2_ := (Option.bind_some _ _).symm.trans H; rw [hy200]; with_reducible exact H2_) | (have H2_ := (Option.bind_some _ _).symm.trans H; with_reducible exact H2_) | with_reducible exact H | (rw [hy200]; exact H) | exact H
       have Ny200 := am hy200
       clear hy200
       have H' := Aside0.mk H
       clear H
       try go_wp2
       replace HO_180000 := am (Kd.S_drew HO_180000.out)
       replace BK178 := am (blk_drew BK178.out)
       replace BK179 := am (blk_drew BK179.out)
       replace HI0 := am (IsS122.drew HI0.out)
       replace HK := am (keep_drew HK.out)
       replace HB := am (below_drew1 HB.out)
       refine start_ (n := 8) (S := fun w' => w'.cell? ⟨gb179, 0, none⟩ = some (u180000) ∧ w'.cell? ⟨gb179, 1, none⟩ = some (.slice none 0 0)) (ds := [7]) b56_0 (by kernel_rfl) rfl rfl ⟨bc BK179.out 0, bc BK179.out 1⟩ (fun hHeld => ?_); refine with_tabW spec_l01Src_l05Undo.tab7 spec_l01Src_l05Undo.bits7 (fun HT_ HW_ => ?_)
       generalize wr.drew = w18 at HO_180000 BK178 BK179 HI0 HK HB hHeld ⊢
       refine pu_ 0 (some 17) ?_ b56_1 rfl rfl HT_.out (by kernel_rfl) (fun _ _ _ h => h) (Or.inl ⟨by rfl, ?_⟩) ?_ ?_ ?_; rotate_left
       ·intro w'; go_simp; with_reducible rfl
       rotate_left
       ·simp only [Act.put, sa_, s0_, ss_, i64_w, i32_w]; rfl
       refine pu_ 2 (some 19) ?_ b56_2 rfl rfl HT_.out (by kernel_rfl) (fun _ _ _ h => h) (Or.inl ⟨by rfl, ?_⟩) ?_ ?_ ?_; rotate_left
       ·intro w'; go_simp; with_reducible rfl
       rotate_left
       ·simp only [Act.put, sa_, s0_, ss_, i64_w, i32_w]; rfl
       refine tk_ 1 (some 18) ?_ b56_3 rfl rfl HT_.out HW_.out (by kernel_rfl) (fun _ _ _ h => h) (Or.inl ⟨by rfl, ?_⟩) hHeld ?_ ?_ ?_; rotate_left
       ·rintro w' ⟨s0, s1⟩; go_simp; with_reducible rfl
       rotate_left
       ·simp only [Act.put, sa_, s0_, ss_, i64_w, i32_w]; rfl
       refine one_ (i := 3) (N := some 20) b56_4 rfl rfl (one_of HT_.out (by kernel_rfl)) (by decide) (fun K hK => ?_)
       refine goes_ Try.func113 (by kernel_rfl) rfl #[.pointer (some ⟨g, 0, none⟩)] (by rfl) rfl rfl (by (try simp only [List.map_toArray, List.map_cons, List.map_nil]); first | done | rfl | (simp only [List.length_drop, List.length_take]; rfl)) ?_
       with_reducible refine (spec_l01Src_l05Small.calls k2 g s0_0 x1001_2 x1002_2 x1003_2 t192 t195 t196 t197 t198 t199 w0 _ ?side1 ?side2 A16.out).mono ?_
       (case side1 => repeat (first | (with_reducible first | exact HI0.out | apply IsS122.alloc | apply IsS122.drewN | apply IsS122.drew | apply IsS122.set_1 | apply IsS122.set_2 | apply IsS122.set_3 | refine IsS122.far ?_ NB0_178.out _ | refine IsS122.far ?_ NB0_179.out _) | exact HI0.out))
       (case side2 => repeat (first | (with_reducible first | exact HB.out | apply below_alloc | apply pw_below_drewN | apply below_drew1 | refine below_set ?_ (IsS122.ge HI0.out) | refine below_set ?_ GE178.out | refine below_set ?_ GE179.out) | exact HB.out))
       rintro e w19 ⟨v193, rfl, ho0, hi, hb, hk⟩
       refine ⟨_, rfl, ?_⟩
       replace HO_180000 := am (Kd.S_mono (Kd.S_told (Kd.S_oldK (IsS122.apartS (show IsS122 w0 _ g s0_0 x1001_2 x1002_2 x1003_2 from by repeat (first | (with_reducible first | exact HI0.out | apply IsS122.alloc | apply IsS122.drewN | apply IsS122.drew | apply IsS122.set_1 | apply IsS122.set_2 | apply IsS122.set_3 | refine IsS122.far ?_ NB0_178.out _ | refine IsS122.far ?_ NB0_179.out _) | exact HI0.out)) (ks HO_180000.out) (by decide)) hk) (Kd.R_base ho0)) (fun _ h_ => h_.1))
       replace BK178 := am (KeepBut.blk hk (g' := gb178) (o := .cells #[.slice none 0 0, .slice none 0 0] 36 (0, 0)) (pk BK178.out) NB178_0.out (by simp))
       replace BK179 := am (KeepBut.blk hk (g' := gb179) (o := .cells #[u180000, .slice none 0 0] 36 (0, 0)) (pk BK179.out) NB179_0.out (by simp))
       have HO194 := am (Kd.R_lower ho0 (keep_size (w := w) (g := g) (row := none) (by repeat (first | (with_reducible first | exact HK.out | apply KeepBut.set_ | apply keep_drewN | apply keep_drew | apply keep_alloc | refine keep_far ?_ GW178.out _ | refine keep_far ?_ GW179.out _) | exact HK.out))))
       replace HK := am (KeepBut.trans (by repeat (first | (with_reducible first | exact HK.out | apply KeepBut.set_ | apply keep_drewN | apply keep_drew | apply keep_alloc | refine keep_far ?_ GW178.out _ | refine keep_far ?_ GW179.out _) | exact HK.out)) hk (.inl rfl))
       replace HB := am (hb)
       replace HI0 := am (hi)
       (try clear hb)
       (try clear hb2)
       (try clear hk)
       (try clear hi)
       (try clear ho0)
       obtain ⟨Ao21, co21, eo21⟩ := Kd.R_slice HO194.out
       (first | subst eo21 | (injection eo21 with f1_ f2_ f3_; have f4_ := f1_.symm; have f5_ := f3_.symm; clear f1_ f2_ f3_; subst f4_; subst f5_))
       refine hK.out _ _ ⟨bc BK179.out 0, bc BK179.out 1⟩ (fun hHeld => ?_)
       clear hK K
       refine norm_ (a' := ?_) ?_ ?_
       rotate_left
       ·show Act.put _ (some 20) _ = _
        simp only [Act.put, sa_, s0_, ss_, i64_w, i32_w]
        rfl
       refine one_ (i := 4) (N := some 21) b56_5 rfl rfl (one_of HT_.out (by kernel_rfl)) (by decide) (fun K hK => ?_)
       refine value_ (w1 := ?_) (v := ?_) (by rfl) rfl ?_ ?_
       rotate_left 2
       ·go_simp
        constructor
        ·rfl
        ·rfl
       refine hK.out _ _ ⟨(blk_cell (blk_alloc BK179.out _) 0).trans rfl, (blk_cell (blk_alloc BK179.out _) 1).trans rfl⟩ (fun hHeld => ?_)
       clear hK K
       refine norm_ (a' := ?_) ?_ ?_
       rotate_left
       ·show Act.put _ (some 21) _ = _
        simp only [Act.put, sa_, s0_, ss_, i64_w, i32_w]
        rfl
       refine one_ (i := 5) (N := some 22) b56_6 rfl rfl (one_of HT_.out (by kernel_rfl)) (by decide) (fun K hK => ?_)
       refine Kd.S_append_step k39 w.heap.size (by rfl) (.tmp 18) (.tmp 21) 34 39 (.agg #[(.slice none 0 0), (.int .i64 0), (.int .i64 0)]) 40 rfl Try.underlying34 info39 rfl (by decide) (by omega) u180000 x180000_2 (⟨t192, t195, t196⟩ : S39) [.slice Ao21 t192.length co21, .int .i64 t195, .int .i64 t196] (fun _ => True) (fun k_ => some k_ = (.slice Ao21 t192.length co21 : Value).ownBlock) rfl rfl ?aP (fun k_ hk_ => ((Kd.R_mono (ok' := fun k_ => ((fun _ => True)) k_ ∧ some k_ ≠ (u180000 : Value).ownBlock) (Kd.R_apart' (HO194.out) (Kd.S_typed HO_180000.out) (by decide)) (fun k_ hk => ⟨trivial, hk.2⟩))).1 k_ hk_.symm) ?aF ?aO (Below.refl _ _) ?aS ?aL ?_
       (case aP => exact k39_mkM _ _ _ (⟨t192, t195, t196⟩ : S39) (Kd.R_mono (Kd.R_tight rfl (Kd.R_mono (ok' := fun k_ => ((fun _ => True)) k_ ∧ some k_ ≠ (u180000 : Value).ownBlock) (Kd.R_apart' (HO194.out) (Kd.S_typed HO_180000.out) (by decide)) (fun k_ hk => ⟨trivial, hk.2⟩))) (fun _ h_ => h_)))
       (case aF => exact (fun _ _ => trivial))
       (case aO => exact (ks (Kd.S_mono HO_180000.out (fun k_ hk => ⟨trivial, fun e_ => hk.2 e_⟩))))
       (case aS => exact (keep_size (w := w) (g := g) (row := none) (by repeat (first | (with_reducible first | exact HK.out | apply KeepBut.set_ | apply keep_drewN | apply keep_drew | apply keep_alloc | refine keep_far ?_ GW178.out _ | refine keep_far ?_ GW179.out _) | exact HK.out))))
       (case aL => have := LMc17.out; omega)
       intro v201 w20 ho hb hg hat
       rw [← Ny200.out] at ho
       replace BK178 := am (blk_grown (g := gb178) (o := .cells #[.slice none 0 0, .slice none 0 0] 36 (0, 0)) (pk BK178.out) hg (Kd.S_ne HO_180000.out BK178.out (by decide)))
       replace BK179 := am (blk_grown (g := gb179) (o := .cells #[u180000, .slice none 0 0] 36 (0, 0)) (pk BK179.out) hg (Kd.S_ne HO_180000.out BK179.out (by decide)))
       replace HB := am (below_weaken (by repeat (first | (with_reducible first | exact HB.out | apply below_alloc | apply pw_below_drewN | apply below_drew1 | refine below_set ?_ (IsS122.ge HI0.out) | refine below_set ?_ GE178.out | refine below_set ?_ GE179.out) | exact HB.out)) HL.out hb)
       replace HI0 := am (IsS122.grown (by repeat (first | (with_reducible first | exact HI0.out | apply IsS122.alloc | apply IsS122.drewN | apply IsS122.drew | apply IsS122.set_1 | apply IsS122.set_2 | apply IsS122.set_3 | refine IsS122.far ?_ NB0_178.out _ | refine IsS122.far ?_ NB0_179.out _) | exact HI0.out)) hg (IsS122.own_neS HI0.out HO_180000.out (by decide)))
       replace HK := am (KeepBut.trans (by repeat (first | (with_reducible first | exact HK.out | apply KeepBut.set_ | apply keep_drewN | apply keep_drew | apply keep_alloc | refine keep_far ?_ GW178.out _ | refine keep_far ?_ GW179.out _) | exact HK.out)) (KeepBut.of_grown hg g) (Kd.S_base2 HO_180000.out))
       have HO202 := am (ho)
       clear HO_180000 HO194 ho hb hg hat
       obtain ⟨Ao22, co22, eo22⟩ := Kd.S_slice HO202.out
       (first | subst eo22 | (injection eo22 with f1_ f2_ f3_; have f4_ := f1_.symm; have f5_ := f3_.symm; clear f1_ f2_ f3_; subst f4_; subst f5_))
       refine hK.out _ _ ⟨bc BK179.out 0, bc BK179.out 1⟩ (fun hHeld => ?_)
       clear hK K
       refine norm_ (a' := ?_) ?_ ?_
       rotate_left
       ·show Act.put _ (some 22) _ = _
        simp only [Act.put, sa_, s0_, ss_, i64_w, i32_w]
        rfl
       refine pu_ 6 (some 23) ?_ b56_7 rfl rfl HT_.out (by kernel_rfl) (fun _ _ _ h => h) (Or.inl ⟨by rfl, ?_⟩) ?_ ?_ ?_; rotate_left
       ·intro w'; go_simp; with_reducible rfl
       rotate_left
       ·simp only [Act.put, sa_, s0_, ss_, i64_w, i32_w]; rfl
       refine last_ (i := 7) (N := none) b56_8 rfl rfl (one_of HT_.out (by kernel_rfl)) (by decide) (fun K hK => ?_)
       have hs23 : w20.cell? ⟨gb179, 0, none⟩ = some (u180000) := bc BK179.out 0
       have hfs23 := blk_frozen BK179.out 0
       have hns23_0 := NB178_179.out
       have hms23_0 := NB179_178.out
       refine skip_ (w1 := ?_) (by rfl) rfl ?_ ?_
       rotate_left
       ·go_simp
        rfl
       refine hK.out _ _ ?_
       clear hK K
       refine done_ (done_of HT_.out (by kernel_rfl)) ?_
       try go_wp2
       go_roundg k2
       case measure => have := HJ3.out; have := HK2.out; omega
       case rel => exact ⟨(wrap64 (x4_2 - 1)), (t197), (t198), (t199), (y200), (.slice Ao22 y200.length co22), (by first | rfl | (simp; done) | (simp [*]; done)), H', ⟨by have := HJ3.out; have := HK2.out; omega⟩, ⟨ks (Kd.S_mono (Kd.S_far (p := ⟨gb179, 0, none⟩) (Kd.S_types HO202.out BK179.out (by decide)) (fun _ hk => hk.2) (.slice Ao22 y200.length co22)) (fun _ hk => trivial))⟩, ⟨by (with_reducible repeat (first | refine blk_drewN ?_ _ | refine blk_drew ?_ | refine blk_alloc ?_ _)); refine blk_far ?_ NB178_179.out _; (with_reducible repeat (first | refine blk_drewN ?_ _ | refine blk_drew ?_ | refine blk_alloc ?_ _)); exact BK178.out⟩, ⟨by (with_reducible repeat (first | refine blk_drewN ?_ _ | refine blk_drew ?_ | refine blk_alloc ?_ _)); refine blk_put (cs := #[u180000, .slice none 0 0]) ?_ 0 _ rfl; (with_reducible repeat (first | refine blk_drewN ?_ _ | refine blk_drew ?_ | refine blk_alloc ?_ _)); exact BK179.out⟩, ⟨by repeat (first | (with_reducible first | exact HI0.out | apply IsS122.alloc | apply IsS122.drewN | apply IsS122.drew | apply IsS122.set_1 | apply IsS122.set_2 | apply IsS122.set_3 | refine IsS122.far ?_ NB0_178.out _ | refine IsS122.far ?_ NB0_179.out _) | exact HI0.out)⟩, ⟨by repeat (first | (with_reducible first | exact HK.out | apply KeepBut.set_ | apply keep_drewN | apply keep_drew | apply keep_alloc | refine keep_far ?_ GW178.out _ | refine keep_far ?_ GW179.out _) | exact HK.out)⟩, ⟨by repeat (first | (with_reducible first | exact HB.out | apply below_alloc | apply pw_below_drewN | apply below_drew1 | refine below_set ?_ (IsS122.ge HI0.out) | refine below_set ?_ GE178.out | refine below_set ?_ GE179.out) | exact HB.out)⟩⟩
      ·rw [if_neg c17] at H
       exact absurd H (by simp)
     ·rw [if_neg c15] at H
      have c15b0 : decide (0 < x4_2) = false := decide_eq_false c15
      clear c15
      replace H := Option.bind_eq_some_iff.mp H
      obtain ⟨⟨t203, t204, t205, t206⟩, A240, H⟩ := H
      replace H : ((spec_l01Src_one.f s0_0 t204 t205 t206 15).bind fun bt207 => (if bt207.1 = true then ((spec_l01Src_n.f s0_0 bt207.2.1 bt207.2.2.1 bt207.2.2.2 3).bind fun bt211 => (spec_l01Src_l05Undo.j2 k2 (wrap64 (19 + bt211.1)) s0_0 bt211.2.1 bt211.2.2.1 bt211.2.2.2 x180000_2)) else (spec_l01Src_l05Undo.j2 k2 t203 s0_0 bt207.2.1 bt207.2.2.1 bt207.2.2.2 x180000_2))) = some (r1, r2, r3, r4, r5) := H
      have A24 := Aside0.mk A240
      clear A240
      replace H := Option.bind_eq_some_iff.mp H
      obtain ⟨⟨t207, t208, t209, t210⟩, A250, H⟩ := H
      replace H : (if t207 = true then ((spec_l01Src_n.f s0_0 t208 t209 t210 3).bind fun bt211 => (spec_l01Src_l05Undo.j2 k2 (wrap64 (19 + bt211.1)) s0_0 bt211.2.1 bt211.2.2.1 bt211.2.2.2 x180000_2)) else (spec_l01Src_l05Undo.j2 k2 t203 s0_0 t208 t209 t210 x180000_2)) = some (r1, r2, r3, r4, r5) := H
      have A25 := Aside0.mk A250
      clear A250
      have HC26 := Aside0.mk H
      clear H
      go_upto_if 27 with (first | ((with_reducible refine gate_callee (f := 111) rfl ?_); refine gl (some 25) Try.func111 #[.pointer (some ⟨g, 0, none⟩), .int .i64 3] ?_; (with_reducible refine (spec_l01Src_n.calls g s0_0 x1001_2 x1002_2 x1003_2 3 t203 t204 t205 t206 w0 _ ?side1 ?side2 A24.out).mono ?_); (case side1 => repeat (first | (with_reducible first | exact HI0.out | apply IsS122.alloc | apply IsS122.drewN | apply IsS122.drew | apply IsS122.set_1 | apply IsS122.set_2 | apply IsS122.set_3 | refine IsS122.far ?_ NB0_178.out _ | refine IsS122.far ?_ NB0_179.out _) | exact HI0.out)); (case side2 => repeat (first | (with_reducible first | exact HB.out | apply below_alloc | apply pw_below_drewN | apply below_drew1 | refine below_set ?_ (IsS122.ge HI0.out) | refine below_set ?_ GE178.out | refine below_set ?_ GE179.out) | exact HB.out)); rintro e w27 ⟨rfl, hi, hb, hk⟩; refine ⟨_, rfl, ?_⟩; replace HO_180000 := am (Kd.S_mono (Kd.S_keep (IsS122.apartS (show IsS122 w0 _ g s0_0 x1001_2 x1002_2 x1003_2 from by repeat (first | (with_reducible first | exact HI0.out | apply IsS122.alloc | apply IsS122.drewN | apply IsS122.drew | apply IsS122.set_1 | apply IsS122.set_2 | apply IsS122.set_3 | refine IsS122.far ?_ NB0_178.out _ | refine IsS122.far ?_ NB0_179.out _) | exact HI0.out)) (ks HO_180000.out) (by decide)) hk (fun _ h => h.2)) (fun _ h => h.1)); replace BK178 := am (KeepBut.blk hk (g' := gb178) (o := .cells #[.slice none 0 0, .slice none 0 0] 36 (0, 0)) (pk BK178.out) NB178_0.out (by simp)); replace BK179 := am (KeepBut.blk hk (g' := gb179) (o := .cells #[u180000, .slice none 0 0] 36 (0, 0)) (pk BK179.out) NB179_0.out (by simp)); replace HK := am (KeepBut.trans (by repeat (first | (with_reducible first | exact HK.out | apply KeepBut.set_ | apply keep_drewN | apply keep_drew | apply keep_alloc | refine keep_far ?_ GW178.out _ | refine keep_far ?_ GW179.out _) | exact HK.out)) hk (.inl rfl)); replace HB := am (hb); replace HI0 := am (hi); (try clear hb); (try clear hb2); (try clear hk); (try clear hi)) | ((with_reducible refine gate_callee (f := 112) rfl ?_); refine gl (some 27) Try.func112 #[.pointer (some ⟨g, 0, none⟩), .int .i64 15] ?_; (with_reducible refine (spec_l01Src_one.calls g s0_0 t204 t205 t206 15 t207 t208 t209 t210 w0 _ ?side1 ?side2 A25.out).mono ?_); (case side1 => repeat (first | (with_reducible first | exact HI0.out | apply IsS122.alloc | apply IsS122.drewN | apply IsS122.drew | apply IsS122.set_1 | apply IsS122.set_2 | apply IsS122.set_3 | refine IsS122.far ?_ NB0_178.out _ | refine IsS122.far ?_ NB0_179.out _) | exact HI0.out)); (case side2 => repeat (first | (with_reducible first | exact HB.out | apply below_alloc | apply pw_below_drewN | apply below_drew1 | refine below_set ?_ (IsS122.ge HI0.out) | refine below_set ?_ GE178.out | refine below_set ?_ GE179.out) | exact HB.out)); rintro e w28 ⟨rfl, hi, hb, hk⟩; refine ⟨_, rfl, ?_⟩; replace HO_180000 := am (Kd.S_mono (Kd.S_keep (IsS122.apartS (show IsS122 w0 _ g s0_0 t204 t205 t206 from by repeat (first | (with_reducible first | exact HI0.out | apply IsS122.alloc | apply IsS122.drewN | apply IsS122.drew | apply IsS122.set_1 | apply IsS122.set_2 | apply IsS122.set_3 | refine IsS122.far ?_ NB0_178.out _ | refine IsS122.far ?_ NB0_179.out _) | exact HI0.out)) (ks HO_180000.out) (by decide)) hk (fun _ h => h.2)) (fun _ h => h.1)); replace BK178 := am (KeepBut.blk hk (g' := gb178) (o := .cells #[.slice none 0 0, .slice none 0 0] 36 (0, 0)) (pk BK178.out) NB178_0.out (by simp)); replace BK179 := am (KeepBut.blk hk (g' := gb179) (o := .cells #[u180000, .slice none 0 0] 36 (0, 0)) (pk BK179.out) NB179_0.out (by simp)); replace HK := am (KeepBut.trans (by repeat (first | (with_reducible first | exact HK.out | apply KeepBut.set_ | apply keep_drewN | apply keep_drew | apply keep_alloc | refine keep_far ?_ GW178.out _ | refine keep_far ?_ GW179.out _) | exact HK.out)) hk (.inl rfl)); replace HB := am (hb); replace HI0 := am (hi); (try clear hb); (try clear hb2); (try clear hk); (try clear hi)))
      (try simp only [Act.put, sa_, s0_, ss_])
      go_cut [4] (fun v4 wc => ∃ (kq : Nat) (x4_25 : Int) (x1001_25 : Int) (x1002_25 : Int) (x1003_25 : Int), v4 = .int .i64 x4_25 ∧ Aside0 (spec_l01Src_l05Undo.j2 kq x4_25 s0_0 x1001_25 x1002_25 x1003_25 x180000_2 = some (r1, r2, r3, r4, r5)) ∧ Aside0 (kq ≤ k2) ∧ Aside0 (Kd.S k39 39 wc w.heap.size (fun _ => True) u180000 x180000_2) ∧ Aside0 (wc.heap[gb178]? = some (.cells #[(.slice none 0 0), (.slice none 0 0)] 36 (0, 0))) ∧ Aside0 (wc.heap[gb179]? = some (.cells #[u180000, (.slice none 0 0)] 36 (0, 0))) ∧ Aside0 (IsS122 w0 wc g s0_0 x1001_25 x1002_25 x1003_25) ∧ Aside0 (KeepBut w wc g none) ∧ Aside0 (Below w0.heap.size w0 wc))
      case first =>
       have H := HC26.out
       clear HC26
       by_cases c29 : t207 = true
       ·subst c29
        have H1 : ((spec_l01Src_n.f s0_0 t208 t209 t210 3).bind fun bt211 => (spec_l01Src_l05Undo.j2 k2 (wrap64 (19 + bt211.1)) s0_0 bt211.2.1 bt211.2.2.1 bt211.2.2.2 x180000_2)) = some (r1, r2, r3, r4, r5) := by rw [if_pos rfl] at H; exact H
        clear H
        have H := H1
        clear H1
        replace H := Option.bind_eq_some_iff.mp H
        obtain ⟨⟨t211, t212, t213, t214⟩, A300, H⟩ := H
        replace H : (spec_l01Src_l05Undo.j2 k2 (wrap64 (19 + t211)) s0_0 t212 t213 t214 x180000_2) = some (r1, r2, r3, r4, r5) := H
        have A30 := Aside0.mk A300
        clear A300
        have H' := Aside0.mk H
        clear H
        go_wp2_with (first | ((with_reducible refine gate_callee (f := 111) rfl ?_); refine gl (some 29) Try.func111 #[.pointer (some ⟨g, 0, none⟩), .int .i64 3] ?_; (with_reducible refine (spec_l01Src_n.calls g s0_0 t208 t209 t210 3 t211 t212 t213 t214 w0 _ ?side1 ?side2 A30.out).mono ?_); (case side1 => repeat (first | (with_reducible first | exact HI0.out | apply IsS122.alloc | apply IsS122.drewN | apply IsS122.drew | apply IsS122.set_1 | apply IsS122.set_2 | apply IsS122.set_3 | refine IsS122.far ?_ NB0_178.out _ | refine IsS122.far ?_ NB0_179.out _) | exact HI0.out)); (case side2 => repeat (first | (with_reducible first | exact HB.out | apply below_alloc | apply pw_below_drewN | apply below_drew1 | refine below_set ?_ (IsS122.ge HI0.out) | refine below_set ?_ GE178.out | refine below_set ?_ GE179.out) | exact HB.out)); rintro e w31 ⟨rfl, hi, hb, hk⟩; refine ⟨_, rfl, ?_⟩; replace HO_180000 := am (Kd.S_mono (Kd.S_keep (IsS122.apartS (show IsS122 w0 _ g s0_0 t208 t209 t210 from by repeat (first | (with_reducible first | exact HI0.out | apply IsS122.alloc | apply IsS122.drewN | apply IsS122.drew | apply IsS122.set_1 | apply IsS122.set_2 | apply IsS122.set_3 | refine IsS122.far ?_ NB0_178.out _ | refine IsS122.far ?_ NB0_179.out _) | exact HI0.out)) (ks HO_180000.out) (by decide)) hk (fun _ h => h.2)) (fun _ h => h.1)); replace BK178 := am (KeepBut.blk hk (g' := gb178) (o := .cells #[.slice none 0 0, .slice none 0 0] 36 (0, 0)) (pk BK178.out) NB178_0.out (by simp)); replace BK179 := am (KeepBut.blk hk (g' := gb179) (o := .cells #[u180000, .slice none 0 0] 36 (0, 0)) (pk BK179.out) NB179_0.out (by simp)); replace HK := am (KeepBut.trans (by repeat (first | (with_reducible first | exact HK.out | apply KeepBut.set_ | apply keep_drewN | apply keep_drew | apply keep_alloc | refine keep_far ?_ GW178.out _ | refine keep_far ?_ GW179.out _) | exact HK.out)) hk (.inl rfl)); replace HB := am (hb); replace HI0 := am (hi); (try clear hb); (try clear hb2); (try clear hk); (try clear hi)))
        go_meet
        case rel => exact ⟨_, (wrap64 (19 + t211)), (t212), (t213), (t214), (by first | rfl | (simp; done) | (simp [*]; done)), H', ⟨by have := HJ3.out; have := HK2.out; first | omega | exact Nat.le_refl _⟩, ⟨ks HO_180000.out⟩, ⟨pk BK178.out⟩, ⟨pk BK179.out⟩, ⟨by repeat (first | (with_reducible first | exact HI0.out | apply IsS122.alloc | apply IsS122.drewN | apply IsS122.drew | apply IsS122.set_1 | apply IsS122.set_2 | apply IsS122.set_3 | refine IsS122.far ?_ NB0_178.out _ | refine IsS122.far ?_ NB0_179.out _) | exact HI0.out)⟩, ⟨by repeat (first | (with_reducible first | exact HK.out | apply KeepBut.set_ | apply keep_drewN | apply keep_drew | apply keep_alloc | refine keep_far ?_ GW178.out _ | refine keep_far ?_ GW179.out _) | exact HK.out)⟩, ⟨by repeat (first | (with_reducible first | exact HB.out | apply below_alloc | apply pw_below_drewN | apply below_drew1 | refine below_set ?_ (IsS122.ge HI0.out) | refine below_set ?_ GE178.out | refine below_set ?_ GE179.out) | exact HB.out)⟩⟩
       ·replace c29 := Bool.eq_false_iff.mpr c29
        subst c29
        have H1 : (spec_l01Src_l05Undo.j2 k2 t203 s0_0 t208 t209 t210 x180000_2) = some (r1, r2, r3, r4, r5) := by rw [if_neg (show ¬ (false = true) by decide)] at H; exact H
        clear H
        have H := H1
        clear H1
        have H' := Aside0.mk H
        clear H
        go_wp2
        go_meet
        case rel => exact ⟨_, (t203), (t208), (t209), (t210), (by first | rfl | (simp; done) | (simp [*]; done)), H', ⟨by have := HJ3.out; have := HK2.out; first | omega | exact Nat.le_refl _⟩, ⟨ks HO_180000.out⟩, ⟨pk BK178.out⟩, ⟨pk BK179.out⟩, ⟨by repeat (first | (with_reducible first | exact HI0.out | apply IsS122.alloc | apply IsS122.drewN | apply IsS122.drew | apply IsS122.set_1 | apply IsS122.set_2 | apply IsS122.set_3 | refine IsS122.far ?_ NB0_178.out _ | refine IsS122.far ?_ NB0_179.out _) | exact HI0.out)⟩, ⟨by repeat (first | (with_reducible first | exact HK.out | apply KeepBut.set_ | apply keep_drewN | apply keep_drew | apply keep_alloc | refine keep_far ?_ GW178.out _ | refine keep_far ?_ GW179.out _) | exact HK.out)⟩, ⟨by repeat (first | (with_reducible first | exact HB.out | apply below_alloc | apply pw_below_drewN | apply below_drew1 | refine below_set ?_ (IsS122.ge HI0.out) | refine below_set ?_ GE178.out | refine below_set ?_ GE179.out) | exact HB.out)⟩⟩
      case rest =>
       clear HC26
       try clear c1
       try clear c2
       try clear p2
       try clear c5
       try clear p6
       try clear c7
       try clear c8
       try clear c11
       try clear c12
       try clear c15
       try clear c15b0
       try clear c17
       try clear c29
       try clear hcz9_0
       try clear hcz9_1
       try clear hfz9_0
       try clear hfz9_1
       try clear p2
       try clear p6
       obtain ⟨kq, x4_25, x1001_25, x1002_25, x1003_25, rfl, HA, HJ25, HO_180000, BK178, BK179, HI0, HK, HB⟩ := hcut
       cases kq with
       | zero => exact absurd HA.out (by simp [spec_l01Src_l05Undo.j2])
       | succ kj25 =>
        have H := HA.out
        clear HA
        simp only [spec_l01Src_l05Undo.j2] at H
        have H' := Aside0.mk H
        clear H
        go_wp2
        go_loopg [4] kj25 (fun kq v4 w' => ∃ (x4_4 : Int) (x1001_4 : Int) (x1002_4 : Int) (x1003_4 : Int) (x180001_4 : List (S39)) (u180001 : Value), v4 = .int .i64 x4_4 ∧ Aside0 (spec_l01Src_l05Undo.l1 kq x4_4 s0_0 x1001_4 x1002_4 x1003_4 x180000_2 x180001_4 = some (r1, r2, r3, r4, r5)) ∧ Aside0 (kq ≤ kj25) ∧ Aside0 (Kd.S k39 39 w' w.heap.size (fun k_ => some k_ ≠ (u180001 : Value).ownBlock) u180000 x180000_2) ∧ Aside0 (Kd.S k39 39 w' w.heap.size (fun k_ => some k_ ≠ (u180000 : Value).ownBlock) u180001 x180001_4) ∧ Aside0 (w'.heap[gb178]? = some (.cells #[(.slice none 0 0), (.slice none 0 0)] 36 (0, 0))) ∧ Aside0 (w'.heap[gb179]? = some (.cells #[u180000, u180001] 36 (0, 0))) ∧ Aside0 (IsS122 w0 w' g s0_0 x1001_4 x1002_4 x1003_4) ∧ Aside0 (KeepBut w w' g none) ∧ Aside0 (Below w0.heap.size w0 w'))
        case atStart => exact ⟨(x4_25), (x1001_25), (x1002_25), (x1003_25), (([] : List (S39))), (.slice none 0 0), (by first | rfl | (simp; done) | (simp [*]; done)), H', ⟨Nat.le_refl _⟩, ⟨ks (Kd.S_mono HO_180000.out (fun _ hk => (by simp [Value.ownBlock])))⟩, ⟨by first | exact Kd.S_nil _ _ _ _ _ | exact Kd.N_nil _ _ _ _ _ | exact Kd.V_nil _ _ _ _ _ | exact Kd.Q_nil _ _ _ _ _ | exact Kd.R_nil _ _ _ _ _⟩, ⟨pk BK178.out⟩, ⟨pk BK179.out⟩, ⟨by repeat (first | (with_reducible first | exact HI0.out | apply IsS122.alloc | apply IsS122.drewN | apply IsS122.drew | apply IsS122.set_1 | apply IsS122.set_2 | apply IsS122.set_3 | refine IsS122.far ?_ NB0_178.out _ | refine IsS122.far ?_ NB0_179.out _) | exact HI0.out)⟩, ⟨by repeat (first | (with_reducible first | exact HK.out | apply KeepBut.set_ | apply keep_drewN | apply keep_drew | apply keep_alloc | refine keep_far ?_ GW178.out _ | refine keep_far ?_ GW179.out _) | exact HK.out)⟩, ⟨by repeat (first | (with_reducible first | exact HB.out | apply below_alloc | apply pw_below_drewN | apply below_drew1 | refine below_set ?_ (IsS122.ge HI0.out) | refine below_set ?_ GE178.out | refine below_set ?_ GE179.out) | exact HB.out)⟩⟩
        case round =>
         clear H'
         try clear c1
         try clear c2
         try clear p2
         try clear c5
         try clear p6
         try clear c7
         try clear c8
         try clear c11
         try clear c12
         try clear c15
         try clear c15b0
         try clear c17
         try clear c29
         try clear hcz9_0
         try clear hcz9_1
         try clear hfz9_0
         try clear hfz9_1
         try clear p2
         try clear p6
         obtain ⟨x4_4, x1001_4, x1002_4, x1003_4, x180001_4, u180001, rfl, HA, HK4, HO_180000, HO_180001, BK178, BK179, HI0, HK, HB⟩ := hrel
         cases gk with
         | zero => exact absurd HA.out (by simp [spec_l01Src_l05Undo.l1])
         | succ k4 =>
          have H := HA.out
          clear HA
          simp only [spec_l01Src_l05Undo.l1] at H
          by_cases c32 : x4_4 > 0
          ·rw [if_pos c32] at H
           have c32b0 : decide (0 < x4_4) = true := decide_eq_true c32
           clear c32
           replace H := Option.bind_eq_some_iff.mp H
           obtain ⟨⟨t215, t218, t219, t220, t221, t222⟩, A330, H⟩ := H
           replace H : (if x180001_4.length < 3518437208883 then (spec_l01Src_l05Undo.l1 k4 (wrap64 (x4_4 - 1)) s0_0 t220 t221 t222 x180000_2 (x180001_4 ++ [(⟨t215, t218, t219⟩ : S39)])) else (none)) = some (r1, r2, r3, r4, r5) := H
           have A33 := Aside0.mk A330
           clear A330
           by_cases c34 : x180001_4.length < 3518437208883
           ·rw [if_pos c34] at H
            have LMc34 := Aside0.mk c34
            clear c34
            obtain ⟨y223, hy223⟩ : ∃ y_ : List (S39), y_ = (x180001_4 ++ [(⟨t215, t218, t219⟩ : S39)]) := ⟨_, rfl⟩
            replace H : (spec_l01Src_l05Undo.l1 k4 (wrap64 (x4_4 - 1)) s0_0 t220 t221 t222 x180000_2 y223) = some (r1, r2, r3, r4, r5) := by first | (rw [hy223]; with_reducible exact H) | (have H2_ := (Option.bind_some _ _).symm.trans H; rw [hy223]; with_reducible exact H2_) | (have H2_ := (Option.bind_some _ _).symm.trans H; with_reducible exact H2_) | with_reducible exact H | (rw [hy223]; exact H) | exact H
            have Ny223 := am hy223
            clear hy223
            have H' := Aside0.mk H
            clear H
            try go_wp2
            replace HO_180000 := am (Kd.S_drew HO_180000.out)
            replace HO_180001 := am (Kd.S_drew HO_180001.out)
            replace BK178 := am (blk_drew BK178.out)
            replace BK179 := am (blk_drew BK179.out)
            replace HI0 := am (IsS122.drew HI0.out)
            replace HK := am (keep_drew HK.out)
            replace HB := am (below_drew1 HB.out)
            refine start_ (n := 8) (S := fun w' => w'.cell? ⟨gb179, 0, none⟩ = some (u180000) ∧ w'.cell? ⟨gb179, 1, none⟩ = some (u180001)) (ds := [7]) b56_0 (by kernel_rfl) rfl rfl ⟨bc BK179.out 0, bc BK179.out 1⟩ (fun hHeld => ?_); refine with_tabW spec_l01Src_l05Undo.tab13 spec_l01Src_l05Undo.bits13 (fun HT_ HW_ => ?_)
            generalize wr.drew = w35 at HO_180000 HO_180001 BK178 BK179 HI0 HK HB hHeld ⊢
            refine pu_ 0 (some 35) ?_ b56_1 rfl rfl HT_.out (by kernel_rfl) (fun _ _ _ h => h) (Or.inl ⟨by rfl, ?_⟩) ?_ ?_ ?_; rotate_left
            ·intro w'; go_simp; with_reducible rfl
            rotate_left
            ·simp only [Act.put, sa_, s0_, ss_, i64_w, i32_w]; rfl
            refine pu_ 2 (some 37) ?_ b56_2 rfl rfl HT_.out (by kernel_rfl) (fun _ _ _ h => h) (Or.inl ⟨by rfl, ?_⟩) ?_ ?_ ?_; rotate_left
            ·intro w'; go_simp; with_reducible rfl
            rotate_left
            ·simp only [Act.put, sa_, s0_, ss_, i64_w, i32_w]; rfl
            refine tk_ 1 (some 36) ?_ b56_3 rfl rfl HT_.out HW_.out (by kernel_rfl) (fun _ _ _ h => h) (Or.inl ⟨by rfl, ?_⟩) hHeld ?_ ?_ ?_; rotate_left
            ·rintro w' ⟨s0, s1⟩; go_simp; with_reducible rfl
            rotate_left
            ·simp only [Act.put, sa_, s0_, ss_, i64_w, i32_w]; rfl
            refine one_ (i := 3) (N := some 38) b56_4 rfl rfl (one_of HT_.out (by kernel_rfl)) (by decide) (fun K hK => ?_)
            refine goes_ Try.func113 (by kernel_rfl) rfl #[.pointer (some ⟨g, 0, none⟩)] (by rfl) rfl rfl (by (try simp only [List.map_toArray, List.map_cons, List.map_nil]); first | done | rfl | (simp only [List.length_drop, List.length_take]; rfl)) ?_
            with_reducible refine (spec_l01Src_l05Small.calls k4 g s0_0 x1001_4 x1002_4 x1003_4 t215 t218 t219 t220 t221 t222 w0 _ ?side1 ?side2 A33.out).mono ?_
            (case side1 => repeat (first | (with_reducible first | exact HI0.out | apply IsS122.alloc | apply IsS122.drewN | apply IsS122.drew | apply IsS122.set_1 | apply IsS122.set_2 | apply IsS122.set_3 | refine IsS122.far ?_ NB0_178.out _ | refine IsS122.far ?_ NB0_179.out _) | exact HI0.out))
            (case side2 => repeat (first | (with_reducible first | exact HB.out | apply below_alloc | apply pw_below_drewN | apply below_drew1 | refine below_set ?_ (IsS122.ge HI0.out) | refine below_set ?_ GE178.out | refine below_set ?_ GE179.out) | exact HB.out))
            rintro e w36 ⟨v216, rfl, ho0, hi, hb, hk⟩
            refine ⟨_, rfl, ?_⟩
            replace HO_180000 := am (Kd.S_mono (Kd.S_told (Kd.S_oldK (IsS122.apartS (show IsS122 w0 _ g s0_0 x1001_4 x1002_4 x1003_4 from by repeat (first | (with_reducible first | exact HI0.out | apply IsS122.alloc | apply IsS122.drewN | apply IsS122.drew | apply IsS122.set_1 | apply IsS122.set_2 | apply IsS122.set_3 | refine IsS122.far ?_ NB0_178.out _ | refine IsS122.far ?_ NB0_179.out _) | exact HI0.out)) (ks HO_180000.out) (by decide)) hk) (Kd.R_base ho0)) (fun _ h_ => h_.1))
            replace HO_180001 := am (Kd.S_mono (Kd.S_told (Kd.S_oldK (IsS122.apartS (show IsS122 w0 _ g s0_0 x1001_4 x1002_4 x1003_4 from by repeat (first | (with_reducible first | exact HI0.out | apply IsS122.alloc | apply IsS122.drewN | apply IsS122.drew | apply IsS122.set_1 | apply IsS122.set_2 | apply IsS122.set_3 | refine IsS122.far ?_ NB0_178.out _ | refine IsS122.far ?_ NB0_179.out _) | exact HI0.out)) (ks HO_180001.out) (by decide)) hk) (Kd.R_base ho0)) (fun _ h_ => h_.1))
            replace BK178 := am (KeepBut.blk hk (g' := gb178) (o := .cells #[.slice none 0 0, .slice none 0 0] 36 (0, 0)) (pk BK178.out) NB178_0.out (by simp))
            replace BK179 := am (KeepBut.blk hk (g' := gb179) (o := .cells #[u180000, u180001] 36 (0, 0)) (pk BK179.out) NB179_0.out (by simp))
            have HO217 := am (Kd.R_lower ho0 (keep_size (w := w) (g := g) (row := none) (by repeat (first | (with_reducible first | exact HK.out | apply KeepBut.set_ | apply keep_drewN | apply keep_drew | apply keep_alloc | refine keep_far ?_ GW178.out _ | refine keep_far ?_ GW179.out _) | exact HK.out))))
            replace HK := am (KeepBut.trans (by repeat (first | (with_reducible first | exact HK.out | apply KeepBut.set_ | apply keep_drewN | apply keep_drew | apply keep_alloc | refine keep_far ?_ GW178.out _ | refine keep_far ?_ GW179.out _) | exact HK.out)) hk (.inl rfl))
            replace HB := am (hb)
            replace HI0 := am (hi)
            (try clear hb)
            (try clear hb2)
            (try clear hk)
            (try clear hi)
            (try clear ho0)
            obtain ⟨Ao38, co38, eo38⟩ := Kd.R_slice HO217.out
            (first | subst eo38 | (injection eo38 with f1_ f2_ f3_; have f4_ := f1_.symm; have f5_ := f3_.symm; clear f1_ f2_ f3_; subst f4_; subst f5_))
            refine hK.out _ _ ⟨bc BK179.out 0, bc BK179.out 1⟩ (fun hHeld => ?_)
            clear hK K
            refine norm_ (a' := ?_) ?_ ?_
            rotate_left
            ·show Act.put _ (some 38) _ = _
             simp only [Act.put, sa_, s0_, ss_, i64_w, i32_w]
             rfl
            refine one_ (i := 4) (N := some 39) b56_5 rfl rfl (one_of HT_.out (by kernel_rfl)) (by decide) (fun K hK => ?_)
            refine value_ (w1 := ?_) (v := ?_) (by rfl) rfl ?_ ?_
            rotate_left 2
            ·go_simp
             constructor
             ·rfl
             ·rfl
            refine hK.out _ _ ⟨(blk_cell (blk_alloc BK179.out _) 0).trans rfl, (blk_cell (blk_alloc BK179.out _) 1).trans rfl⟩ (fun hHeld => ?_)
            clear hK K
            refine norm_ (a' := ?_) ?_ ?_
            rotate_left
            ·show Act.put _ (some 39) _ = _
             simp only [Act.put, sa_, s0_, ss_, i64_w, i32_w]
             rfl
            refine one_ (i := 5) (N := some 40) b56_6 rfl rfl (one_of HT_.out (by kernel_rfl)) (by decide) (fun K hK => ?_)
            refine Kd.S_append_step k39 w.heap.size (by rfl) (.tmp 36) (.tmp 39) 34 39 (.agg #[(.slice none 0 0), (.int .i64 0), (.int .i64 0)]) 40 rfl Try.underlying34 info39 rfl (by decide) (by omega) u180001 x180001_4 (⟨t215, t218, t219⟩ : S39) [.slice Ao38 t215.length co38, .int .i64 t218, .int .i64 t219] (fun k_ => some k_ ≠ (u180000 : Value).ownBlock) (fun k_ => some k_ = (.slice Ao38 t215.length co38 : Value).ownBlock) rfl rfl ?aP (fun k_ hk_ => ((Kd.R_mono (ok' := fun k_ => ((fun k_ => some k_ ≠ (u180000 : Value).ownBlock)) k_ ∧ some k_ ≠ (u180001 : Value).ownBlock) (Kd.R_apart' (Kd.R_apart' (HO217.out) (Kd.S_typed HO_180000.out) (by decide)) (Kd.S_typed HO_180001.out) (by decide)) (fun k_ hk => ⟨hk.1.2, hk.2⟩))).1 k_ hk_.symm) ?aF ?aO (Below.refl _ _) ?aS ?aL ?_
            (case aP => exact k39_mkM _ _ _ (⟨t215, t218, t219⟩ : S39) (Kd.R_mono (Kd.R_tight rfl (Kd.R_mono (ok' := fun k_ => ((fun k_ => some k_ ≠ (u180000 : Value).ownBlock)) k_ ∧ some k_ ≠ (u180001 : Value).ownBlock) (Kd.R_apart' (Kd.R_apart' (HO217.out) (Kd.S_typed HO_180000.out) (by decide)) (Kd.S_typed HO_180001.out) (by decide)) (fun k_ hk => ⟨hk.1.2, hk.2⟩))) (fun _ h_ => h_)))
            (case aF => exact (fun k_ hk => Kd.fresh' (Kd.S_lt (ks HO_180000.out)) k_ hk))
            (case aO => exact (ks (Kd.S_mono HO_180001.out (fun k_ hk => ⟨hk.1, fun e_ => hk.2 e_⟩))))
            (case aS => exact (keep_size (w := w) (g := g) (row := none) (by repeat (first | (with_reducible first | exact HK.out | apply KeepBut.set_ | apply keep_drewN | apply keep_drew | apply keep_alloc | refine keep_far ?_ GW178.out _ | refine keep_far ?_ GW179.out _) | exact HK.out))))
            (case aL => have := LMc34.out; omega)
            intro v224 w37 ho hb hg hat
            rw [← Ny223.out] at ho
            replace HO_180000 := am (Kd.S_after (ok := (fun k_ => some k_ ≠ (.slice Ao38 t215.length co38 : Value).ownBlock)) (ks (Kd.S_mono HO_180000.out (fun _ hk => ⟨hk.2, hk.1⟩))) hg hat)
            replace BK178 := am (blk_grown (g := gb178) (o := .cells #[.slice none 0 0, .slice none 0 0] 36 (0, 0)) (pk BK178.out) hg (Kd.S_ne HO_180001.out BK178.out (by decide)))
            replace BK179 := am (blk_grown (g := gb179) (o := .cells #[u180000, u180001] 36 (0, 0)) (pk BK179.out) hg (Kd.S_ne HO_180001.out BK179.out (by decide)))
            replace HB := am (below_weaken (by repeat (first | (with_reducible first | exact HB.out | apply below_alloc | apply pw_below_drewN | apply below_drew1 | refine below_set ?_ (IsS122.ge HI0.out) | refine below_set ?_ GE178.out | refine below_set ?_ GE179.out) | exact HB.out)) HL.out hb)
            replace HI0 := am (IsS122.grown (by repeat (first | (with_reducible first | exact HI0.out | apply IsS122.alloc | apply IsS122.drewN | apply IsS122.drew | apply IsS122.set_1 | apply IsS122.set_2 | apply IsS122.set_3 | refine IsS122.far ?_ NB0_178.out _ | refine IsS122.far ?_ NB0_179.out _) | exact HI0.out)) hg (IsS122.own_neS HI0.out HO_180001.out (by decide)))
            replace HK := am (KeepBut.trans (by repeat (first | (with_reducible first | exact HK.out | apply KeepBut.set_ | apply keep_drewN | apply keep_drew | apply keep_alloc | refine keep_far ?_ GW178.out _ | refine keep_far ?_ GW179.out _) | exact HK.out)) (KeepBut.of_grown hg g) (Kd.S_base2 HO_180001.out))
            have HO225 := am (ho)
            clear HO_180001 HO217 ho hb hg hat
            obtain ⟨Ao39, co39, eo39⟩ := Kd.S_slice HO225.out
            (first | subst eo39 | (injection eo39 with f1_ f2_ f3_; have f4_ := f1_.symm; have f5_ := f3_.symm; clear f1_ f2_ f3_; subst f4_; subst f5_))
            refine hK.out _ _ ⟨bc BK179.out 0, bc BK179.out 1⟩ (fun hHeld => ?_)
            clear hK K
            refine norm_ (a' := ?_) ?_ ?_
            rotate_left
            ·show Act.put _ (some 40) _ = _
             simp only [Act.put, sa_, s0_, ss_, i64_w, i32_w]
             rfl
            refine pu_ 6 (some 41) ?_ b56_7 rfl rfl HT_.out (by kernel_rfl) (fun _ _ _ h => h) (Or.inl ⟨by rfl, ?_⟩) ?_ ?_ ?_; rotate_left
            ·intro w'; go_simp; with_reducible rfl
            rotate_left
            ·simp only [Act.put, sa_, s0_, ss_, i64_w, i32_w]; rfl
            refine last_ (i := 7) (N := none) b56_8 rfl rfl (one_of HT_.out (by kernel_rfl)) (by decide) (fun K hK => ?_)
            have hs40 : w37.cell? ⟨gb179, 1, none⟩ = some (u180001) := bc BK179.out 1
            have hfs40 := blk_frozen BK179.out 1
            have hns40_0 := NB178_179.out
            have hms40_0 := NB179_178.out
            refine skip_ (w1 := ?_) (by rfl) rfl ?_ ?_
            rotate_left
            ·go_simp
             rfl
            refine hK.out _ _ ?_
            clear hK K
            refine done_ (done_of HT_.out (by kernel_rfl)) ?_
            try go_wp2
            go_roundg k4
            case measure => have := HJ3.out; have := HK2.out; have := HJ25.out; have := HK4.out; omega
            case rel => exact ⟨(wrap64 (x4_4 - 1)), (t220), (t221), (t222), (y223), (.slice Ao39 y223.length co39), (by first | rfl | (simp; done) | (simp [*]; done)), H', ⟨by have := HJ3.out; have := HK2.out; have := HJ25.out; have := HK4.out; omega⟩, ⟨ks (Kd.S_mono (Kd.S_far (p := ⟨gb179, 1, none⟩) (Kd.S_types HO_180000.out BK179.out (by decide)) (fun _ hk => hk.2) (.slice Ao39 y223.length co39)) (fun _ hk => hk.1.2))⟩, ⟨ks (Kd.S_mono (Kd.S_far (p := ⟨gb179, 1, none⟩) (Kd.S_types HO225.out BK179.out (by decide)) (fun _ hk => hk.2) (.slice Ao39 y223.length co39)) (fun _ hk => hk.1))⟩, ⟨by (with_reducible repeat (first | refine blk_drewN ?_ _ | refine blk_drew ?_ | refine blk_alloc ?_ _)); refine blk_far ?_ NB178_179.out _; (with_reducible repeat (first | refine blk_drewN ?_ _ | refine blk_drew ?_ | refine blk_alloc ?_ _)); exact BK178.out⟩, ⟨by (with_reducible repeat (first | refine blk_drewN ?_ _ | refine blk_drew ?_ | refine blk_alloc ?_ _)); refine blk_put (cs := #[u180000, u180001]) ?_ 1 _ rfl; (with_reducible repeat (first | refine blk_drewN ?_ _ | refine blk_drew ?_ | refine blk_alloc ?_ _)); exact BK179.out⟩, ⟨by repeat (first | (with_reducible first | exact HI0.out | apply IsS122.alloc | apply IsS122.drewN | apply IsS122.drew | apply IsS122.set_1 | apply IsS122.set_2 | apply IsS122.set_3 | refine IsS122.far ?_ NB0_178.out _ | refine IsS122.far ?_ NB0_179.out _) | exact HI0.out)⟩, ⟨by repeat (first | (with_reducible first | exact HK.out | apply KeepBut.set_ | apply keep_drewN | apply keep_drew | apply keep_alloc | refine keep_far ?_ GW178.out _ | refine keep_far ?_ GW179.out _) | exact HK.out)⟩, ⟨by repeat (first | (with_reducible first | exact HB.out | apply below_alloc | apply pw_below_drewN | apply below_drew1 | refine below_set ?_ (IsS122.ge HI0.out) | refine below_set ?_ GE178.out | refine below_set ?_ GE179.out) | exact HB.out)⟩⟩
           ·rw [if_neg c34] at H
            exact absurd H (by simp)
          ·rw [if_neg c32] at H
           have c32b0 : decide (0 < x4_4) = false := decide_eq_false c32
           clear c32
           replace H := Option.bind_eq_some_iff.mp H
           obtain ⟨⟨t226, t227, t228, t229⟩, A410, H⟩ := H
           replace H : (if t226 = true then (if x180000_2.length < 3518437208883 then (some ((x180000_2 ++ [(⟨([] : List Int), 1, 0⟩ : S39)]), x180001_4, t227, t228, t229)) else (none)) else (some (x180000_2, x180001_4, t227, t228, t229))) = some (r1, r2, r3, r4, r5) := H
           have A41 := Aside0.mk A410
           clear A410
           by_cases c42 : t226 = true
           ·subst c42
            have H1 : (if x180000_2.length < 3518437208883 then (some ((x180000_2 ++ [(⟨([] : List Int), 1, 0⟩ : S39)]), x180001_4, t227, t228, t229)) else (none)) = some (r1, r2, r3, r4, r5) := by rw [if_pos rfl] at H; exact H
            clear H
            have H := H1
            clear H1
            by_cases c43 : x180000_2.length < 3518437208883
            ·rw [if_pos c43] at H
             have LMc43 := Aside0.mk c43
             clear c43
             obtain ⟨y230, hy230⟩ : ∃ y_ : List (S39), y_ = (x180000_2 ++ [(⟨([] : List Int), 1, 0⟩ : S39)]) := ⟨_, rfl⟩
             replace H : (some (y230, x180001_4, t227, t228, t229)) = some (r1, r2, r3, r4, r5) := by first | (rw [hy230]; with_reducible exact H) | (have H2_ := (Option.bind_some _ _).symm.trans H; rw [hy230]; with_reducible exact H2_) | (have H2_ := (Option.bind_some _ _).symm.trans H; with_reducible exact H2_) | with_reducible exact H | (rw [hy230]; exact H) | exact H
             have Ny230 := am hy230
             clear hy230
             simp only [Option.some.injEq, Prod.mk.injEq] at H
             obtain ⟨rfl, rfl, rfl, rfl, rfl⟩ := H
             go_wp2_with (first | ((with_reducible refine gate_callee (f := 112) rfl ?_); refine gl (some 43) Try.func112 #[.pointer (some ⟨g, 0, none⟩), .int .i64 20] ?_; (with_reducible refine (spec_l01Src_one.calls g s0_0 x1001_4 x1002_4 x1003_4 20 true t227 t228 t229 w0 _ ?side1 ?side2 A41.out).mono ?_); (case side1 => repeat (first | (with_reducible first | exact HI0.out | apply IsS122.alloc | apply IsS122.drewN | apply IsS122.drew | apply IsS122.set_1 | apply IsS122.set_2 | apply IsS122.set_3 | refine IsS122.far ?_ NB0_178.out _ | refine IsS122.far ?_ NB0_179.out _) | exact HI0.out)); (case side2 => repeat (first | (with_reducible first | exact HB.out | apply below_alloc | apply pw_below_drewN | apply below_drew1 | refine below_set ?_ (IsS122.ge HI0.out) | refine below_set ?_ GE178.out | refine below_set ?_ GE179.out) | exact HB.out)); rintro e w44 ⟨rfl, hi, hb, hk⟩; refine ⟨_, rfl, ?_⟩; replace HO_180000 := am (Kd.S_mono (Kd.S_keep (IsS122.apartS (show IsS122 w0 _ g s0_0 x1001_4 x1002_4 x1003_4 from by repeat (first | (with_reducible first | exact HI0.out | apply IsS122.alloc | apply IsS122.drewN | apply IsS122.drew | apply IsS122.set_1 | apply IsS122.set_2 | apply IsS122.set_3 | refine IsS122.far ?_ NB0_178.out _ | refine IsS122.far ?_ NB0_179.out _) | exact HI0.out)) (ks HO_180000.out) (by decide)) hk (fun _ h => h.2)) (fun _ h => h.1)); replace HO_180001 := am (Kd.S_mono (Kd.S_keep (IsS122.apartS (show IsS122 w0 _ g s0_0 x1001_4 x1002_4 x1003_4 from by repeat (first | (with_reducible first | exact HI0.out | apply IsS122.alloc | apply IsS122.drewN | apply IsS122.drew | apply IsS122.set_1 | apply IsS122.set_2 | apply IsS122.set_3 | refine IsS122.far ?_ NB0_178.out _ | refine IsS122.far ?_ NB0_179.out _) | exact HI0.out)) (ks HO_180001.out) (by decide)) hk (fun _ h => h.2)) (fun _ h => h.1)); replace BK178 := am (KeepBut.blk hk (g' := gb178) (o := .cells #[.slice none 0 0, .slice none 0 0] 36 (0, 0)) (pk BK178.out) NB178_0.out (by simp)); replace BK179 := am (KeepBut.blk hk (g' := gb179) (o := .cells #[u180000, u180001] 36 (0, 0)) (pk BK179.out) NB179_0.out (by simp)); replace HK := am (KeepBut.trans (by repeat (first | (with_reducible first | exact HK.out | apply KeepBut.set_ | apply keep_drewN | apply keep_drew | apply keep_alloc | refine keep_far ?_ GW178.out _ | refine keep_far ?_ GW179.out _) | exact HK.out)) hk (.inl rfl)); replace HB := am (hb); replace HI0 := am (hi); (try clear hb); (try clear hb2); (try clear hk); (try clear hi); have hnb45 := NB179_178.out; have hnc45 := NB178_179.out; have hnb46 := NB179_0.out; have hnc46 := NB0_179.out; have hcz47_0 : w44.cell? ⟨gb179, 0, none⟩ = some (u180000) := bc BK179.out 0; have hcz47_1 : w44.cell? ⟨gb179, 1, none⟩ = some (u180001) := bc BK179.out 1; have hfz47_0 := blk_frozen BK179.out 0; have hfz47_1 := blk_frozen BK179.out 1) | ((with_reducible refine gate_builtin (b := .append) (xs := #[.tmp 45, .tmp 47]) rfl ?_); at_builtin; refine Kd.S_append k39 w.heap.size rfl (.tmp 45) (.tmp 47) 34 39 (.agg #[(.slice none 0 0), (.int .i64 0), (.int .i64 0)]) 40 rfl Try.underlying34 info39 rfl (by decide) (by omega) u180000 x180000_2 (⟨([] : List Int), 1, 0⟩ : S39) [.slice none 0 0, .int .i64 1, .int .i64 0] (fun k_ => some k_ ≠ (u180001 : Value).ownBlock) (fun _ => False) rfl rfl ?aP (fun k_ hk_ => hk_.elim) ?aF ?aO (Below.refl _ _) ?aS ?aL ?_; (case aP => exact k39_mkM _ _ _ (⟨([] : List Int), 1, 0⟩ : S39) (Kd.R_nil _ _ _ _ _)); (case aF => exact (fun k_ hk => Kd.fresh' (Kd.S_lt (ks HO_180001.out)) k_ hk)); (case aO => exact (ks (Kd.S_mono HO_180000.out (fun k_ hk => ⟨hk, fun e_ => e_⟩)))); (case aS => exact (keep_size (w := w) (g := g) (row := none) (by repeat (first | (with_reducible first | exact HK.out | apply KeepBut.set_ | apply keep_drewN | apply keep_drew | apply keep_alloc | refine keep_far ?_ GW178.out _ | refine keep_far ?_ GW179.out _) | exact HK.out)))); (case aL => have := LMc43.out; omega); intro v231 w48 ho hb hg hat; rw [← Ny230.out] at ho; replace HO_180001 := am (Kd.S_after (ok := (fun _ => True)) (ks (Kd.S_mono HO_180001.out (fun _ hk => ⟨trivial, hk⟩))) hg hat); replace BK178 := am (blk_grown (g := gb178) (o := .cells #[.slice none 0 0, .slice none 0 0] 36 (0, 0)) (pk BK178.out) hg (Kd.S_ne HO_180000.out BK178.out (by decide))); replace BK179 := am (blk_grown (g := gb179) (o := .cells #[u180000, u180001] 36 (0, 0)) (pk BK179.out) hg (Kd.S_ne HO_180000.out BK179.out (by decide))); replace HB := am (below_weaken (by repeat (first | (with_reducible first | exact HB.out | apply below_alloc | apply pw_below_drewN | apply below_drew1 | refine below_set ?_ (IsS122.ge HI0.out) | refine below_set ?_ GE178.out | refine below_set ?_ GE179.out) | exact HB.out)) HL.out hb); replace HI0 := am (IsS122.grown (by repeat (first | (with_reducible first | exact HI0.out | apply IsS122.alloc | apply IsS122.drewN | apply IsS122.drew | apply IsS122.set_1 | apply IsS122.set_2 | apply IsS122.set_3 | refine IsS122.far ?_ NB0_178.out _ | refine IsS122.far ?_ NB0_179.out _) | exact HI0.out)) hg (IsS122.own_neS HI0.out HO_180000.out (by decide))); replace HK := am (KeepBut.trans (by repeat (first | (with_reducible first | exact HK.out | apply KeepBut.set_ | apply keep_drewN | apply keep_drew | apply keep_alloc | refine keep_far ?_ GW178.out _ | refine keep_far ?_ GW179.out _) | exact HK.out)) (KeepBut.of_grown hg g) (Kd.S_base2 HO_180000.out)); have HO232 := am (ho); clear HO_180000; clear ho hb hg hat; obtain ⟨Ao49, co49, eo49⟩ := Kd.S_slice HO232.out; subst eo49; have hcz50_0 : w48.cell? ⟨gb179, 0, none⟩ = some (u180000) := bc BK179.out 0; have hcz50_1 : w48.cell? ⟨gb179, 1, none⟩ = some (u180001) := bc BK179.out 1; have hfz50_0 := blk_frozen BK179.out 0; have hfz50_1 := blk_frozen BK179.out 1; have hnb51 := NB178_0.out; have hnc51 := NB0_178.out; have hcz52_0 : w48.cell? ⟨gb178, 0, none⟩ = some (.slice none 0 0) := bc BK178.out 0; have hcz52_1 : w48.cell? ⟨gb178, 1, none⟩ = some (.slice none 0 0) := bc BK178.out 1; have hfz52_0 := blk_frozen BK178.out 0; have hfz52_1 := blk_frozen BK178.out 1; obtain ⟨Ao53, co53, eo53⟩ := Kd.S_slice HO_180001.out; subst eo53))
             refine bodyPost_ret (results_cell_row rfl _ _ gb178 36 #[.slice Ao49 y230.length co49, .slice Ao53 x180001_4.length co53] (0, 0) _ rfl (by (with_reducible repeat (first | refine blk_drewN ?_ _ | refine blk_drew ?_ | refine blk_alloc ?_ _)); refine blk_put (cs := #[.slice Ao49 y230.length co49, .slice none 0 0]) ?_ 1 _ rfl; (with_reducible repeat (first | refine blk_drewN ?_ _ | refine blk_drew ?_ | refine blk_alloc ?_ _)); refine blk_put (cs := #[.slice none 0 0, .slice none 0 0]) ?_ 0 _ rfl; (with_reducible repeat (first | refine blk_drewN ?_ _ | refine blk_drew ?_ | refine blk_alloc ?_ _)); refine blk_far ?_ NB178_179.out _; (with_reducible repeat (first | refine blk_drewN ?_ _ | refine blk_drew ?_ | refine blk_alloc ?_ _)); exact BK178.out) Try.underlying36 rfl (by kernel_rfl)) rfl ?_
             exact ⟨_, _, by first | rfl | (simp [errW_none, errW_some] <;> rfl) | (simp [*, errW_none, errW_some] <;> rfl), ks (Kd.S_mono (Kd.S_far (p := ⟨gb178, 1, none⟩) (Kd.S_far (p := ⟨gb178, 0, none⟩) (Kd.S_far (p := ⟨gb179, 0, none⟩) (Kd.S_types (Kd.S_types HO232.out BK179.out (by decide)) BK178.out (by decide)) (fun _ hk => hk.1.2) (.slice Ao49 y230.length co49)) (fun _ hk => hk.2) (.slice Ao49 y230.length co49)) (fun _ hk => hk.2) (.slice Ao53 x180001_4.length co53)) (fun _ hk => hk.1.1)), ks (Kd.S_mono (Kd.S_far (p := ⟨gb178, 1, none⟩) (Kd.S_far (p := ⟨gb178, 0, none⟩) (Kd.S_far (p := ⟨gb179, 0, none⟩) (Kd.S_types (Kd.S_types HO_180001.out BK179.out (by decide)) BK178.out (by decide)) (fun _ hk => hk.1.2) (.slice Ao49 y230.length co49)) (fun _ hk => hk.2) (.slice Ao49 y230.length co49)) (fun _ hk => hk.2) (.slice Ao53 x180001_4.length co53)) (fun _ hk => hk.1.1.2)), by repeat (first | (with_reducible first | exact HI0.out | apply IsS122.alloc | apply IsS122.drewN | apply IsS122.drew | apply IsS122.set_1 | apply IsS122.set_2 | apply IsS122.set_3 | refine IsS122.far ?_ NB0_178.out _ | refine IsS122.far ?_ NB0_179.out _) | exact HI0.out), by repeat (first | (with_reducible first | exact HB.out | apply below_alloc | apply pw_below_drewN | apply below_drew1 | refine below_set ?_ (IsS122.ge HI0.out) | refine below_set ?_ GE178.out | refine below_set ?_ GE179.out) | exact HB.out), by repeat (first | (with_reducible first | exact HK.out | apply KeepBut.set_ | apply keep_drewN | apply keep_drew | apply keep_alloc | refine keep_far ?_ GW178.out _ | refine keep_far ?_ GW179.out _) | exact HK.out)⟩
            ·rw [if_neg c43] at H
             exact absurd H (by simp)
           ·replace c42 := Bool.eq_false_iff.mpr c42
            subst c42
            have H1 : (some (x180000_2, x180001_4, t227, t228, t229)) = some (r1, r2, r3, r4, r5) := by rw [if_neg (show ¬ (false = true) by decide)] at H; exact H
            clear H
            have H := H1
            clear H1
            simp only [Option.some.injEq, Prod.mk.injEq] at H
            obtain ⟨rfl, rfl, rfl, rfl, rfl⟩ := H
            go_wp2_with (first | ((with_reducible refine gate_callee (f := 112) rfl ?_); refine gl (some 43) Try.func112 #[.pointer (some ⟨g, 0, none⟩), .int .i64 20] ?_; (with_reducible refine (spec_l01Src_one.calls g s0_0 x1001_4 x1002_4 x1003_4 20 false t227 t228 t229 w0 _ ?side1 ?side2 A41.out).mono ?_); (case side1 => repeat (first | (with_reducible first | exact HI0.out | apply IsS122.alloc | apply IsS122.drewN | apply IsS122.drew | apply IsS122.set_1 | apply IsS122.set_2 | apply IsS122.set_3 | refine IsS122.far ?_ NB0_178.out _ | refine IsS122.far ?_ NB0_179.out _) | exact HI0.out)); (case side2 => repeat (first | (with_reducible first | exact HB.out | apply below_alloc | apply pw_below_drewN | apply below_drew1 | refine below_set ?_ (IsS122.ge HI0.out) | refine below_set ?_ GE178.out | refine below_set ?_ GE179.out) | exact HB.out)); rintro e w54 ⟨rfl, hi, hb, hk⟩; refine ⟨_, rfl, ?_⟩; replace HO_180000 := am (Kd.S_mono (Kd.S_keep (IsS122.apartS (show IsS122 w0 _ g s0_0 x1001_4 x1002_4 x1003_4 from by repeat (first | (with_reducible first | exact HI0.out | apply IsS122.alloc | apply IsS122.drewN | apply IsS122.drew | apply IsS122.set_1 | apply IsS122.set_2 | apply IsS122.set_3 | refine IsS122.far ?_ NB0_178.out _ | refine IsS122.far ?_ NB0_179.out _) | exact HI0.out)) (ks HO_180000.out) (by decide)) hk (fun _ h => h.2)) (fun _ h => h.1)); replace HO_180001 := am (Kd.S_mono (Kd.S_keep (IsS122.apartS (show IsS122 w0 _ g s0_0 x1001_4 x1002_4 x1003_4 from by repeat (first | (with_reducible first | exact HI0.out | apply IsS122.alloc | apply IsS122.drewN | apply IsS122.drew | apply IsS122.set_1 | apply IsS122.set_2 | apply IsS122.set_3 | refine IsS122.far ?_ NB0_178.out _ | refine IsS122.far ?_ NB0_179.out _) | exact HI0.out)) (ks HO_180001.out) (by decide)) hk (fun _ h => h.2)) (fun _ h => h.1)); replace BK178 := am (KeepBut.blk hk (g' := gb178) (o := .cells #[.slice none 0 0, .slice none 0 0] 36 (0, 0)) (pk BK178.out) NB178_0.out (by simp)); replace BK179 := am (KeepBut.blk hk (g' := gb179) (o := .cells #[u180000, u180001] 36 (0, 0)) (pk BK179.out) NB179_0.out (by simp)); replace HK := am (KeepBut.trans (by repeat (first | (with_reducible first | exact HK.out | apply KeepBut.set_ | apply keep_drewN | apply keep_drew | apply keep_alloc | refine keep_far ?_ GW178.out _ | refine keep_far ?_ GW179.out _) | exact HK.out)) hk (.inl rfl)); replace HB := am (hb); replace HI0 := am (hi); (try clear hb); (try clear hb2); (try clear hk); (try clear hi); have hnb55 := NB179_178.out; have hnc55 := NB178_179.out; have hnb56 := NB179_0.out; have hnc56 := NB0_179.out; have hcz57_0 : w54.cell? ⟨gb179, 0, none⟩ = some (u180000) := bc BK179.out 0; have hcz57_1 : w54.cell? ⟨gb179, 1, none⟩ = some (u180001) := bc BK179.out 1; have hfz57_0 := blk_frozen BK179.out 0; have hfz57_1 := blk_frozen BK179.out 1; obtain ⟨Ao58, co58, eo58⟩ := Kd.S_slice HO_180000.out; subst eo58; have hnb59 := NB178_0.out; have hnc59 := NB0_178.out; have hcz60_0 : w54.cell? ⟨gb178, 0, none⟩ = some (.slice none 0 0) := bc BK178.out 0; have hcz60_1 : w54.cell? ⟨gb178, 1, none⟩ = some (.slice none 0 0) := bc BK178.out 1; have hfz60_0 := blk_frozen BK178.out 0; have hfz60_1 := blk_frozen BK178.out 1; obtain ⟨Ao61, co61, eo61⟩ := Kd.S_slice HO_180001.out; subst eo61))
            refine bodyPost_ret (results_cell_row rfl _ _ gb178 36 #[.slice Ao58 x180000_2.length co58, .slice Ao61 x180001_4.length co61] (0, 0) _ rfl (by (with_reducible repeat (first | refine blk_drewN ?_ _ | refine blk_drew ?_ | refine blk_alloc ?_ _)); refine blk_put (cs := #[.slice Ao58 x180000_2.length co58, .slice none 0 0]) ?_ 1 _ rfl; (with_reducible repeat (first | refine blk_drewN ?_ _ | refine blk_drew ?_ | refine blk_alloc ?_ _)); refine blk_put (cs := #[.slice none 0 0, .slice none 0 0]) ?_ 0 _ rfl; (with_reducible repeat (first | refine blk_drewN ?_ _ | refine blk_drew ?_ | refine blk_alloc ?_ _)); exact BK178.out) Try.underlying36 rfl (by kernel_rfl)) rfl ?_
            exact ⟨_, _, by first | rfl | (simp [errW_none, errW_some] <;> rfl) | (simp [*, errW_none, errW_some] <;> rfl), ks (Kd.S_mono (Kd.S_far (p := ⟨gb178, 1, none⟩) (Kd.S_far (p := ⟨gb178, 0, none⟩) (Kd.S_types HO_180000.out BK178.out (by decide)) (fun _ hk => hk.2) (.slice Ao58 x180000_2.length co58)) (fun _ hk => hk.2) (.slice Ao61 x180001_4.length co61)) (fun _ hk => hk.1)), ks (Kd.S_mono (Kd.S_far (p := ⟨gb178, 1, none⟩) (Kd.S_far (p := ⟨gb178, 0, none⟩) (Kd.S_types HO_180001.out BK178.out (by decide)) (fun _ hk => hk.2) (.slice Ao58 x180000_2.length co58)) (fun _ hk => hk.2) (.slice Ao61 x180001_4.length co61)) (fun _ hk => hk.1)), by repeat (first | (with_reducible first | exact HI0.out | apply IsS122.alloc | apply IsS122.drewN | apply IsS122.drew | apply IsS122.set_1 | apply IsS122.set_2 | apply IsS122.set_3 | refine IsS122.far ?_ NB0_178.out _ | refine IsS122.far ?_ NB0_179.out _) | exact HI0.out), by repeat (first | (with_reducible first | exact HB.out | apply below_alloc | apply pw_below_drewN | apply below_drew1 | refine below_set ?_ (IsS122.ge HI0.out) | refine below_set ?_ GE178.out | refine below_set ?_ GE179.out) | exact HB.out), by repeat (first | (with_reducible first | exact HK.out | apply KeepBut.set_ | apply keep_drewN | apply keep_drew | apply keep_alloc | refine keep_far ?_ GW178.out _ | refine keep_far ?_ GW179.out _) | exact HK.out)⟩

end Go.Proofs.Ytfkghjdhimhjjaa.PFnUndo
