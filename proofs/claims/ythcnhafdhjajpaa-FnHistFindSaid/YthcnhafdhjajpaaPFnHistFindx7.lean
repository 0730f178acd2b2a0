-- Written by xprint.py (this claim's own program, over the kit's printer); Lean checks it.
import Derived.Test.YthcnhafdhjajpaaPFnHistFindx0
import Derived.Test.YthcnhafdhjajpaaPFnHistFindx1
import Derived.Test.YthcnhafdhjajpaaPFnHistFindx2
import Derived.Test.YthcnhafdhjajpaaPFnHistFindx3
import Derived.Test.YthcnhafdhjajpaaPFnHistFindx5
import Derived.Test.YthcnhafdhjajpaaPFnHistFindx6
namespace Go.Proofs.Ythcnhafdhjajpaa.PFnHistFind
open Go.RowKit Go.Proofs.YthcnhafdhjajpaaW.PrintWords Go.Proofs.YthcnhafdhjajpaaW.PrintLast Go.Proofs.YthcnhafdhjajpaaW.PrintMore
attribute [local go_sem] max2_int min2_int max_two min_two max_three min_three max_four min_four   -- for this text's walks alone
set_option linter.unusedVariables false
set_option linter.unusedSimpArgs false   -- squeezed

/-! ### spec_l01Src_l06Part: function 67 -/
def spec_l01Src_l06Part.f (k : Nat) (s0_0 : List Int) (s0_1 : Int) (s0_2 : Int) (s0_3 : Int) : Option (List Int × Int × Int × Int) := (spec_l01Src_pick.f s0_0 s0_1 s0_2 s0_3 (([(⟨#[]⟩ : ByteArray), (⟨#[108]⟩ : ByteArray), (⟨#[108, 115]⟩ : ByteArray), (⟨#[99]⟩ : ByteArray), (⟨#[99, 100]⟩ : ByteArray), (⟨#[109]⟩ : ByteArray), (⟨#[120]⟩ : ByteArray), (⟨#[97]⟩ : ByteArray), (⟨#[122, 122]⟩ : ByteArray)] : List ByteArray))).bind fun bt278 => ((spec_l01Points.f k bt278.1).bind fun t282 => (some (t282, bt278.2.1, bt278.2.2.1, bt278.2.2.2)))
theorem spec_l01Src_l06Part.mono : ∀ a0 a1 a2 a3 k, LeO (spec_l01Src_l06Part.f k a0 a1 a2 a3) (spec_l01Src_l06Part.f (k + 1) a0 a1 a2 a3) := by
 intro a0 a1 a2 a3 k
 unfold spec_l01Src_l06Part.f
 repeat' first
   | (with_reducible exact spec_l01Points.mono _ _)
   | (with_reducible exact LeO.refl _)
   | (with_reducible exact LeO.none _)
   | (with_reducible refine LeO.ite ?_ ?_)
   | (with_reducible refine LeO.bind ?_ (fun _ => ?_))
   | exact spec_l01Points.mono _ _
   | exact LeO.none _
   | refine LeO.ite ?_ ?_
   | refine LeO.bind ?_ (fun _ => ?_)
set_option maxHeartbeats 8000000 in
set_option maxRecDepth 100000 in
theorem spec_l01Src_l06Part.calls (k : Nat) (g : Nat) (s0_0 : List Int) (s0_1 : Int) (s0_2 : Int) (s0_3 : Int) (r1 : List Int) (r2 : Int) (r3 : Int) (r4 : Int) (w0 w : World) (hI : IsS90 w0 w g s0_0 s0_1 s0_2 s0_3) (hB : Below w0.heap.size w0 w) (h : spec_l01Src_l06Part.f k s0_0 s0_1 s0_2 s0_3 = some (r1, r2, r3, r4)) :
  Calls Try.prog 67 #[.pointer (some ⟨g, 0, none⟩)] w fun e w' => ∃ v0_ : Value, e = .returned (v0_) ∧ Kd.R (Kd.int .i64) 2 w' w.heap.size (fun _ => True) v0_ r1 ∧ IsS90 w0 w' g s0_0 r2 r3 r4 ∧ Below w0.heap.size w0 w' ∧ KeepBut w w' g none := by
 have HI0 := am hI
 have HK := am (KeepBut.refl w g none)
 have HL := am hB.size
 clear hI
 have HW0 := am hB.size
 have HB := am hB
 clear hB
 have H : ((spec_l01Src_pick.f s0_0 s0_1 s0_2 s0_3 (([(⟨#[]⟩ : ByteArray), (⟨#[108]⟩ : ByteArray), (⟨#[108, 115]⟩ : ByteArray), (⟨#[99]⟩ : ByteArray), (⟨#[99, 100]⟩ : ByteArray), (⟨#[109]⟩ : ByteArray), (⟨#[120]⟩ : ByteArray), (⟨#[97]⟩ : ByteArray), (⟨#[122, 122]⟩ : ByteArray)] : List ByteArray))).bind fun bt278 => ((spec_l01Points.f k bt278.1).bind fun t282 => (some (t282, bt278.2.1, bt278.2.2.1, bt278.2.2.2)))) = some (r1, r2, r3, r4) := h
 clear h
 obtain ⟨y275, hy275⟩ : ∃ y_ : List ByteArray, y_ = (([(⟨#[]⟩ : ByteArray), (⟨#[108]⟩ : ByteArray), (⟨#[108, 115]⟩ : ByteArray), (⟨#[99]⟩ : ByteArray), (⟨#[99, 100]⟩ : ByteArray), (⟨#[109]⟩ : ByteArray), (⟨#[120]⟩ : ByteArray), (⟨#[97]⟩ : ByteArray), (⟨#[122, 122]⟩ : ByteArray)] : List ByteArray)) := ⟨_, rfl⟩
 replace H : ((spec_l01Src_pick.f s0_0 s0_1 s0_2 s0_3 y275).bind fun bt278 => ((spec_l01Points.f k bt278.1).bind fun t282 => (some (t282, bt278.2.1, bt278.2.2.1, bt278.2.2.2)))) = some (r1, r2, r3, r4) := by first | (rw [hy275]; with_reducible exact H) | (have H2_ := (Option.bind_some _ _).symm.trans H; rw [hy275]; with_reducible exact H2_) | (have H2_ := (Option.bind_some _ _).symm.trans H; with_reducible exact H2_) | with_reducible exact H | (rw [hy275]; exact H) | exact H
 have Ny275 := am hy275
 clear hy275
 replace H := Option.bind_eq_some_iff.mp H
 obtain ⟨⟨t278, t279, t280, t281⟩, A20, H⟩ := H
 replace H : ((spec_l01Points.f k t278).bind fun t282 => (some (t282, t279, t280, t281))) = some (r1, r2, r3, r4) := H
 have A2 := Aside0.mk A20
 clear A20
 replace H := Option.bind_eq_some_iff.mp H
 obtain ⟨t282, A30, H⟩ := H
 replace H : (some (t282, t279, t280, t281)) = some (r1, r2, r3, r4) := H
 have A3 := Aside0.mk A30
 clear A30
 simp only [Option.some.injEq, Prod.mk.injEq] at H
 obtain ⟨rfl, rfl, rfl, rfl⟩ := H
 go_enter Try.func67, Try.ntmps67
 go_wp2_with (first | ((with_reducible refine gate_dst (N := 4) rfl ?_); refine Kd.R_lit Kd.string _ 9 ?hg (N := 4) ?hd (xs := ([(⟨#[]⟩ : ByteArray), (⟨#[108]⟩ : ByteArray), (⟨#[108, 115]⟩ : ByteArray), (⟨#[99]⟩ : ByteArray), (⟨#[99, 100]⟩ : ByteArray), (⟨#[109]⟩ : ByteArray), (⟨#[120]⟩ : ByteArray), (⟨#[97]⟩ : ByteArray), (⟨#[122, 122]⟩ : ByteArray)] : List ByteArray)) (inner := [.string (⟨#[]⟩ : ByteArray), .string (⟨#[108]⟩ : ByteArray), .string (⟨#[108, 115]⟩ : ByteArray), .string (⟨#[99]⟩ : ByteArray), .string (⟨#[99, 100]⟩ : ByteArray), .string (⟨#[109]⟩ : ByteArray), .string (⟨#[120]⟩ : ByteArray), .string (⟨#[97]⟩ : ByteArray), .string (⟨#[122, 122]⟩ : ByteArray)]) (ok := fun _ => True) (okp := fun _ => True) ?hr ?hp (fun _ hk => hk) trivial (Below.refl _ _) (Nat.le_refl _) (by simp) ?_; (case hd => rfl); (case hg => rfl); (case hr => first | (go_simp; done) | (go_simp; rfl)); (case hp => exact (Reps.one (show Kd.M Kd.string _ _ _ (⟨#[]⟩ : ByteArray) [.string (⟨#[]⟩ : ByteArray)] from rfl) (Reps.one (show Kd.M Kd.string _ _ _ (⟨#[108]⟩ : ByteArray) [.string (⟨#[108]⟩ : ByteArray)] from rfl) (Reps.one (show Kd.M Kd.string _ _ _ (⟨#[108, 115]⟩ : ByteArray) [.string (⟨#[108, 115]⟩ : ByteArray)] from rfl) (Reps.one (show Kd.M Kd.string _ _ _ (⟨#[99]⟩ : ByteArray) [.string (⟨#[99]⟩ : ByteArray)] from rfl) (Reps.one (show Kd.M Kd.string _ _ _ (⟨#[99, 100]⟩ : ByteArray) [.string (⟨#[99, 100]⟩ : ByteArray)] from rfl) (Reps.one (show Kd.M Kd.string _ _ _ (⟨#[109]⟩ : ByteArray) [.string (⟨#[109]⟩ : ByteArray)] from rfl) (Reps.one (show Kd.M Kd.string _ _ _ (⟨#[120]⟩ : ByteArray) [.string (⟨#[120]⟩ : ByteArray)] from rfl) (Reps.one (show Kd.M Kd.string _ _ _ (⟨#[97]⟩ : ByteArray) [.string (⟨#[97]⟩ : ByteArray)] from rfl) (Reps.one (show Kd.M Kd.string _ _ _ (⟨#[122, 122]⟩ : ByteArray) [.string (⟨#[122, 122]⟩ : ByteArray)] from rfl) (Reps.none _ _))))))))))); intro v276 w4 ho5 hb hg_ hnew_; clear hg_ hnew_; (first | rw [← Ny275.out] at ho5 | (simp only [Int.reduceToNat] at ho5; rw [← Ny275.out] at ho5)); have n0_ := am (Kd.R_lower ho5 (keep_size (w := w) (g := g) (row := none) (by repeat (first | (with_reducible first | exact HK.out | apply KeepBut.set_ | apply keep_drewN | apply keep_drew | apply keep_alloc) | exact HK.out)))); have n1_ := am (IsS90.below (by repeat (first | (with_reducible first | exact HI0.out | apply IsS90.alloc | apply IsS90.drewN | apply IsS90.drew | apply IsS90.set_1 | apply IsS90.set_2 | apply IsS90.set_3) | exact HI0.out)) hb); have n2_ := am (KeepBut.trans (by repeat (first | (with_reducible first | exact HK.out | apply KeepBut.set_ | apply keep_drewN | apply keep_drew | apply keep_alloc) | exact HK.out)) (KeepBut.of_below hb g none) (.inl rfl)); have n3_ := am (below_step (by repeat (first | (with_reducible first | exact HB.out | apply below_alloc | apply pw_below_drewN | apply below_drew1 | refine below_set ?_ (IsS90.ge HI0.out)) | exact HB.out)) hb); clear HI0; clear HK; clear HB; have HO277 := n0_; have HI0 := n1_; have HK := n2_; have HB := n3_; clear n0_ n1_ n2_ n3_; clear hb ho5; obtain ⟨Ao6, co6, eo6⟩ := Kd.R_slice HO277.out; subst eo6) | ((with_reducible refine gate_callee (f := 94) rfl ?_); refine gl (some 5) Try.func94 #[.pointer (some ⟨g, 0, none⟩), .slice Ao6 y275.length co6] ?_; (with_reducible refine (spec_l01Src_pick.calls g s0_0 s0_1 s0_2 s0_3 _ _ y275 t278 t279 t280 t281 w0 _ ?side1 ?side2 ?side3 ?side4 ?side5 A2.out).mono ?_); (case side1 => repeat (first | (with_reducible first | exact HI0.out | apply IsS90.alloc | apply IsS90.drewN | apply IsS90.drew | apply IsS90.set_1 | apply IsS90.set_2 | apply IsS90.set_3) | exact HI0.out)); (case side2 => repeat (first | (with_reducible first | exact HB.out | apply below_alloc | apply pw_below_drewN | apply below_drew1 | refine below_set ?_ (IsS90.ge HI0.out)) | exact HB.out)); (case side3 => repeat (first | exact (Kd.R_reads' HO277.out).2.2 | (with_reducible refine Kd.C_alloc ?_ _) | (with_reducible refine Kd.C_drewN ?_ _) | (with_reducible refine Kd.C_drew ?_))); (case side4 => exact (Kd.R_reads' HO277.out).2.1); (case side5 => exact far_slice (IsS90.own_ne HI0.out HO277.out (by decide))); rintro e w7 ⟨rfl, hi, hb, hk⟩; refine ⟨_, rfl, ?_⟩; have n0_ := am (Kd.R_mono (Kd.R_keep (IsS90.apart (show IsS90 w0 _ g s0_0 s0_1 s0_2 s0_3 from by repeat (first | (with_reducible first | exact HI0.out | apply IsS90.alloc | apply IsS90.drewN | apply IsS90.drew | apply IsS90.set_1 | apply IsS90.set_2 | apply IsS90.set_3) | exact HI0.out)) (by (with_reducible repeat (first | apply Kd.R_alloc | apply Kd.R_drewN | apply Kd.R_drew)); exact HO277.out) (by decide)) hk (fun _ h => h.2)) (fun _ h => h.1)); have n1_ := am (KeepBut.trans (by repeat (first | (with_reducible first | exact HK.out | apply KeepBut.set_ | apply keep_drewN | apply keep_drew | apply keep_alloc) | exact HK.out)) hk (.inl rfl)); have n2_ := am (hb); have n3_ := am (hi); clear HO277; clear HK; clear HB; clear HI0; have HO277 := n0_; have HK := n1_; have HB := n2_; have HI0 := n3_; clear n0_ n1_ n2_ n3_; (try clear hb); (try clear hb2); (try clear hk); (try clear hi)) | ((with_reducible refine gate_callee (f := 93) rfl ?_); refine gl (some 6) Try.func93 #[.string t278] ?_; (with_reducible refine (spec_l01Points.calls k t278 t282 _ A3.out).mono ?_); rintro e w8 ⟨v283, rfl, ho0, hb⟩; refine ⟨_, rfl, ?_⟩; have n0_ := am (Kd.R_below (by (with_reducible repeat (first | apply Kd.R_alloc | apply Kd.R_drewN | apply Kd.R_drew)); exact HO277.out) hb); have n1_ := am (Kd.R_lower ho0 (keep_size (w := w) (g := g) (row := none) (by repeat (first | (with_reducible first | exact HK.out | apply KeepBut.set_ | apply keep_drewN | apply keep_drew | apply keep_alloc) | exact HK.out)))); have n2_ := am (IsS90.below (by repeat (first | (with_reducible first | exact HI0.out | apply IsS90.alloc | apply IsS90.drewN | apply IsS90.drew | apply IsS90.set_1 | apply IsS90.set_2 | apply IsS90.set_3) | exact HI0.out)) hb); have n3_ := am (KeepBut.trans (by repeat (first | (with_reducible first | exact HK.out | apply KeepBut.set_ | apply keep_drewN | apply keep_drew | apply keep_alloc) | exact HK.out)) (KeepBut.of_below hb g none) (.inl rfl)); have n4_ := am (below_step (by repeat (first | (with_reducible first | exact HB.out | apply below_alloc | apply pw_below_drewN | apply below_drew1 | refine below_set ?_ (IsS90.ge HI0.out)) | exact HB.out)) hb); clear HO277; clear HI0; clear HK; clear HB; have HO277 := n0_; have HO284 := n1_; have HI0 := n2_; have HK := n3_; have HB := n4_; clear n0_ n1_ n2_ n3_ n4_; (try clear hb); (try clear hb2); (try clear hk); (try clear hi); (try clear ho0)))
 go_ret
 exact ⟨_, by first | rfl | (simp [errW_none, errW_some] <;> rfl) | (simp [*, errW_none, errW_some] <;> rfl), by (with_reducible repeat (first | apply Kd.R_alloc | apply Kd.R_drewN | apply Kd.R_drew)); exact HO284.out, by repeat (first | (with_reducible first | exact HI0.out | apply IsS90.alloc | apply IsS90.drewN | apply IsS90.drew | apply IsS90.set_1 | apply IsS90.set_2 | apply IsS90.set_3) | exact HI0.out), by repeat (first | (with_reducible first | exact HB.out | apply below_alloc | apply pw_below_drewN | apply below_drew1 | refine below_set ?_ (IsS90.ge HI0.out)) | exact HB.out), by repeat (first | (with_reducible first | exact HK.out | apply KeepBut.set_ | apply keep_drewN | apply keep_drew | apply keep_alloc) | exact HK.out)⟩

/-! ### spec_l01Src_edge: function 68 -/
def spec_l01Src_edge.f (s0_0 : List Int) (s0_1 : Int) (s0_2 : Int) (s0_3 : Int) : Option (Int × Int × Int × Int) := (some (([0, 1, (-1), 2, 1000, 1001, 2147483648, 2147483647, (-2147483648), 4611686018427387904, 9223372036854775807, (-9223372036854775808), 1000000, 1000001] : List Int) : List Int)).bind fun y285 => ((spec_l01Src_n.f s0_0 s0_1 s0_2 s0_3 14).bind fun bt288 => (if 0 ≤ bt288.1 then (if bt288.1 < (y285.length : Int) then (some (rd y285 bt288.1, bt288.2.1, bt288.2.2.1, bt288.2.2.2)) else (none)) else (none)))
set_option maxHeartbeats 8000000 in
set_option maxRecDepth 100000 in
theorem spec_l01Src_edge.calls (g : Nat) (s0_0 : List Int) (s0_1 : Int) (s0_2 : Int) (s0_3 : Int) (r1 : Int) (r2 : Int) (r3 : Int) (r4 : Int) (w0 w : World) (hI : IsS90 w0 w g s0_0 s0_1 s0_2 s0_3) (hB : Below w0.heap.size w0 w) (h : spec_l01Src_edge.f s0_0 s0_1 s0_2 s0_3 = some (r1, r2, r3, r4)) :
  Calls Try.prog 68 #[.pointer (some ⟨g, 0, none⟩)] w fun e w' => e = .returned (.int .i64 r1) ∧ IsS90 w0 w' g s0_0 r2 r3 r4 ∧ Below w0.heap.size w0 w' ∧ KeepBut w w' g none := by
 have HI0 := am hI
 have HK := am (KeepBut.refl w g none)
 have HL := am hB.size
 clear hI
 have HW0 := am hB.size
 have HB := am hB
 clear hB
 have H : ((some (([0, 1, (-1), 2, 1000, 1001, 2147483648, 2147483647, (-2147483648), 4611686018427387904, 9223372036854775807, (-9223372036854775808), 1000000, 1000001] : List Int) : List Int)).bind fun y285 => ((spec_l01Src_n.f s0_0 s0_1 s0_2 s0_3 14).bind fun bt288 => (if 0 ≤ bt288.1 then (if bt288.1 < (y285.length : Int) then (some (rd y285 bt288.1, bt288.2.1, bt288.2.2.1, bt288.2.2.2)) else (none)) else (none)))) = some (r1, r2, r3, r4) := h
 clear h
 obtain ⟨y285, hy285⟩ : ∃ y_ : List Int, y_ = (([0, 1, (-1), 2, 1000, 1001, 2147483648, 2147483647, (-2147483648), 4611686018427387904, 9223372036854775807, (-9223372036854775808), 1000000, 1000001] : List Int)) := ⟨_, rfl⟩
 replace H : ((spec_l01Src_n.f s0_0 s0_1 s0_2 s0_3 14).bind fun bt288 => (if 0 ≤ bt288.1 then (if bt288.1 < (y285.length : Int) then (some (rd y285 bt288.1, bt288.2.1, bt288.2.2.1, bt288.2.2.2)) else (none)) else (none))) = some (r1, r2, r3, r4) := by first | (rw [hy285]; with_reducible exact H) | (have H2_ := (Option.bind_some _ _).symm.trans H; rw [hy285]; with_reducible exact H2_) | (have H2_ := (Option.bind_some _ _).symm.trans H; with_reducible exact H2_) | with_reducible exact H | (rw [hy285]; exact H) | exact H
 have Ny285 := am hy285
 clear hy285
 replace H := Option.bind_eq_some_iff.mp H
 obtain ⟨⟨t288, t289, t290, t291⟩, A20, H⟩ := H
 replace H : (if 0 ≤ t288 then (if t288 < (y285.length : Int) then (some (rd y285 t288, t289, t290, t291)) else (none)) else (none)) = some (r1, r2, r3, r4) := H
 have A2 := Aside0.mk A20
 clear A20
 by_cases c3 : 0 ≤ t288
 ·rw [if_pos c3] at H
  have c3b0 : decide (0 ≤ t288) = true := decide_eq_true c3
  clear c3
  by_cases c4 : t288 < (y285.length : Int)
  ·rw [if_pos c4] at H
   have c4b0 : decide (t288 < (y285.length : Int)) = true := decide_eq_true c4
   clear c4
   simp only [Option.some.injEq, Prod.mk.injEq] at H
   obtain ⟨rfl, rfl, rfl, rfl⟩ := H
   go_enter Try.func68, Try.ntmps68
   go_wp2_with (first | ((with_reducible refine gate_dst (N := 3) rfl ?_); refine Kd.R_lit (Kd.int .i64) _ 2 ?hg (N := 3) ?hd (xs := ([0, 1, (-1), 2, 1000, 1001, 2147483648, 2147483647, (-2147483648), 4611686018427387904, 9223372036854775807, (-9223372036854775808), 1000000, 1000001] : List Int)) (inner := [.int .i64 0, .int .i64 1, .int .i64 (-1), .int .i64 2, .int .i64 1000, .int .i64 1001, .int .i64 2147483648, .int .i64 2147483647, .int .i64 (-2147483648), .int .i64 4611686018427387904, .int .i64 9223372036854775807, .int .i64 (-9223372036854775808), .int .i64 1000000, .int .i64 1000001]) (ok := fun _ => True) (okp := fun _ => True) ?hr ?hp (fun _ hk => hk) trivial (Below.refl _ _) (Nat.le_refl _) (by simp) ?_; (case hd => rfl); (case hg => rfl); (case hr => first | (go_simp; done) | (go_simp; rfl)); (case hp => exact (Reps.one (show Kd.M (Kd.int .i64) _ _ _ 0 [.int .i64 0] from rfl) (Reps.one (show Kd.M (Kd.int .i64) _ _ _ 1 [.int .i64 1] from rfl) (Reps.one (show Kd.M (Kd.int .i64) _ _ _ (-1) [.int .i64 (-1)] from rfl) (Reps.one (show Kd.M (Kd.int .i64) _ _ _ 2 [.int .i64 2] from rfl) (Reps.one (show Kd.M (Kd.int .i64) _ _ _ 1000 [.int .i64 1000] from rfl) (Reps.one (show Kd.M (Kd.int .i64) _ _ _ 1001 [.int .i64 1001] from rfl) (Reps.one (show Kd.M (Kd.int .i64) _ _ _ 2147483648 [.int .i64 2147483648] from rfl) (Reps.one (show Kd.M (Kd.int .i64) _ _ _ 2147483647 [.int .i64 2147483647] from rfl) (Reps.one (show Kd.M (Kd.int .i64) _ _ _ (-2147483648) [.int .i64 (-2147483648)] from rfl) (Reps.one (show Kd.M (Kd.int .i64) _ _ _ 4611686018427387904 [.int .i64 4611686018427387904] from rfl) (Reps.one (show Kd.M (Kd.int .i64) _ _ _ 9223372036854775807 [.int .i64 9223372036854775807] from rfl) (Reps.one (show Kd.M (Kd.int .i64) _ _ _ (-9223372036854775808) [.int .i64 (-9223372036854775808)] from rfl) (Reps.one (show Kd.M (Kd.int .i64) _ _ _ 1000000 [.int .i64 1000000] from rfl) (Reps.one (show Kd.M (Kd.int .i64) _ _ _ 1000001 [.int .i64 1000001] from rfl) (Reps.none _ _)))))))))))))))); intro v286 w5 ho6 hb hg_ hnew_; clear hg_ hnew_; (first | rw [← Ny285.out] at ho6 | (simp only [Int.reduceToNat] at ho6; rw [← Ny285.out] at ho6)); have n0_ := am (Kd.R_lower ho6 (keep_size (w := w) (g := g) (row := none) (by repeat (first | (with_reducible first | exact HK.out | apply KeepBut.set_ | apply keep_drewN | apply keep_drew | apply keep_alloc) | exact HK.out)))); have n1_ := am (IsS90.below (by repeat (first | (with_reducible first | exact HI0.out | apply IsS90.alloc | apply IsS90.drewN | apply IsS90.drew | apply IsS90.set_1 | apply IsS90.set_2 | apply IsS90.set_3) | exact HI0.out)) hb); have n2_ := am (KeepBut.trans (by repeat (first | (with_reducible first | exact HK.out | apply KeepBut.set_ | apply keep_drewN | apply keep_drew | apply keep_alloc) | exact HK.out)) (KeepBut.of_below hb g none) (.inl rfl)); have n3_ := am (below_step (by repeat (first | (with_reducible first | exact HB.out | apply below_alloc | apply pw_below_drewN | apply below_drew1 | refine below_set ?_ (IsS90.ge HI0.out)) | exact HB.out)) hb); clear HI0; clear HK; clear HB; have HO287 := n0_; have HI0 := n1_; have HK := n2_; have HB := n3_; clear n0_ n1_ n2_ n3_; clear hb ho6) | ((with_reducible refine gate_callee (f := 69) rfl ?_); refine gl (some 5) Try.func69 #[.pointer (some ⟨g, 0, none⟩), .int .i64 14] ?_; (with_reducible refine (spec_l01Src_n.calls g s0_0 s0_1 s0_2 s0_3 14 t288 t289 t290 t291 w0 _ ?side1 ?side2 A2.out).mono ?_); (case side1 => repeat (first | (with_reducible first | exact HI0.out | apply IsS90.alloc | apply IsS90.drewN | apply IsS90.drew | apply IsS90.set_1 | apply IsS90.set_2 | apply IsS90.set_3) | exact HI0.out)); (case side2 => repeat (first | (with_reducible first | exact HB.out | apply below_alloc | apply pw_below_drewN | apply below_drew1 | refine below_set ?_ (IsS90.ge HI0.out)) | exact HB.out)); rintro e w7 ⟨rfl, hi, hb, hk⟩; refine ⟨_, rfl, ?_⟩; have n0_ := am (Kd.R_mono (Kd.R_keep (IsS90.apart (show IsS90 w0 _ g s0_0 s0_1 s0_2 s0_3 from by repeat (first | (with_reducible first | exact HI0.out | apply IsS90.alloc | apply IsS90.drewN | apply IsS90.drew | apply IsS90.set_1 | apply IsS90.set_2 | apply IsS90.set_3) | exact HI0.out)) (by (with_reducible repeat (first | apply Kd.R_alloc | apply Kd.R_drewN | apply Kd.R_drew)); exact HO287.out) (by decide)) hk (fun _ h => h.2)) (fun _ h => h.1)); have n1_ := am (KeepBut.trans (by repeat (first | (with_reducible first | exact HK.out | apply KeepBut.set_ | apply keep_drewN | apply keep_drew | apply keep_alloc) | exact HK.out)) hk (.inl rfl)); have n2_ := am (hb); have n3_ := am (hi); clear HO287; clear HK; clear HB; clear HI0; have HO287 := n0_; have HK := n1_; have HB := n2_; have HI0 := n3_; clear n0_ n1_ n2_ n3_; (try clear hb); (try clear hb2); (try clear hk); (try clear hi); obtain ⟨Ao8, co8, eo8⟩ := Kd.R_slice HO287.out; subst eo8; have p292 : 0 ≤ (t288 : Int) := of_decide_eq_true (by first | (with_reducible assumption) | assumption); have q292 : t288 < (y285.length : Int) := of_decide_eq_true (by first | (with_reducible assumption) | assumption); obtain ⟨ad292, e292, hx292_0⟩ := Kd.at_int (Kd.R_reads' HO287.out).2.2 t288 p292 q292; cases e292; replace p292 := eq_true p292; replace q292 := eq_true q292))
   go_ret
   exact ⟨by first | rfl | (simp [errW_none, errW_some] <;> rfl) | (simp [*, errW_none, errW_some] <;> rfl), by repeat (first | (with_reducible first | exact HI0.out | apply IsS90.alloc | apply IsS90.drewN | apply IsS90.drew | apply IsS90.set_1 | apply IsS90.set_2 | apply IsS90.set_3) | exact HI0.out), by repeat (first | (with_reducible first | exact HB.out | apply below_alloc | apply pw_below_drewN | apply below_drew1 | refine below_set ?_ (IsS90.ge HI0.out)) | exact HB.out), by repeat (first | (with_reducible first | exact HK.out | apply KeepBut.set_ | apply keep_drewN | apply keep_drew | apply keep_alloc) | exact HK.out)⟩
  ·rw [if_neg c4] at H
   exact absurd H (by simp)
 ·rw [if_neg c3] at H
  exact absurd H (by simp)

/-! ### spec_DrawHistFind: function 29 -/
def spec_DrawHistFind.f (k : Nat) (l0 : List Int) : Option ((List (List Int)) × Int × List Int × List Int × Int) := (spec_l01Source.f k l0).bind fun bt294 => ((spec_l01Src_l06Hist.f k bt294.1 bt294.2.1 bt294.2.2.1 bt294.2.2.2).bind fun bt299 => ((spec_l01Src_one.f bt294.1 bt299.2.2.2.1 bt299.2.2.2.2.1 bt299.2.2.2.2.2 12).bind fun bt310 => (if bt310.1 = true then ((spec_l01Src_l06Part.f k bt294.1 bt310.2.1 bt310.2.2.1 bt310.2.2.2).bind fun bt314 => ((spec_l01Src_edge.f bt294.1 bt314.2.1 bt314.2.2.1 bt314.2.2.2).bind fun bt320 => (some (bt299.1, bt299.2.1, bt299.2.2.1, bt314.1, bt320.1)))) else ((spec_l01Src_l06Part.f k bt294.1 bt310.2.1 bt310.2.2.1 bt310.2.2.2).bind fun bt324 => ((spec_l01Src_n.f bt294.1 bt324.2.1 bt324.2.2.1 bt324.2.2.2 8).bind fun bt330 => (some (bt299.1, bt299.2.1, bt299.2.2.1, bt324.1, wrap64 (bt330.1 - 1))))))))
theorem spec_DrawHistFind.mono : ∀ a0 k, LeO (spec_DrawHistFind.f k a0) (spec_DrawHistFind.f (k + 1) a0) := by
 intro a0 k
 unfold spec_DrawHistFind.f
 repeat' first
   | (with_reducible exact spec_l01Source.mono _ _)
   | (with_reducible exact spec_l01Src_l06Hist.mono _ _ _ _ _)
   | (with_reducible exact spec_l01Src_l06Part.mono _ _ _ _ _)
   | (with_reducible exact LeO.refl _)
   | (with_reducible exact LeO.none _)
   | (with_reducible refine LeO.ite ?_ ?_)
   | (with_reducible refine LeO.bind ?_ (fun _ => ?_))
   | exact spec_l01Source.mono _ _
   | exact spec_l01Src_l06Hist.mono _ _ _ _ _
   | exact spec_l01Src_l06Part.mono _ _ _ _ _
   | exact LeO.none _
   | refine LeO.ite ?_ ?_
   | refine LeO.bind ?_ (fun _ => ?_)
def spec_DrawHistFind.T4 : Bool × List (List Nat × List Nat) := (true, [([], []), ([], []), ([1], [1]), ([], []), ([3, 2], [3]), ([0, 4, 0], [0]), ([2, 5, 0, 1, 2, 5], [2]), ([4, 6, 0, 1, 2, 3, 4, 5, 6], [4])])
def spec_DrawHistFind.B4 : List Nat := [0, 0, 2, 0, 14, 31, 63, 127]
theorem spec_DrawHistFind.tab4 : rtab .any (opsOf Try.f29 4) = spec_DrawHistFind.T4 := by kernel_rfl
theorem spec_DrawHistFind.bits4 : waitsOk spec_DrawHistFind.T4.2 spec_DrawHistFind.B4 = true := by kernel_rfl
def spec_DrawHistFind.T5 : Bool × List (List Nat × List Nat) := (true, [([], []), ([], []), ([1], [1]), ([], []), ([3, 2], [3]), ([4], [4]), ([0, 4, 0], [0]), ([2, 6, 0, 1, 2, 6], [2]), ([5, 7, 0, 1, 2, 3, 4, 5, 6, 7], [5])])
def spec_DrawHistFind.B5 : List Nat := [0, 0, 2, 0, 14, 30, 31, 95, 255]
theorem spec_DrawHistFind.tab5 : rtab .any (opsOf Try.f29 5) = spec_DrawHistFind.T5 := by kernel_rfl
theorem spec_DrawHistFind.bits5 : waitsOk spec_DrawHistFind.T5.2 spec_DrawHistFind.B5 = true := by kernel_rfl
set_option maxHeartbeats 8000000 in
set_option maxRecDepth 100000 in
theorem spec_DrawHistFind.calls (k : Nat) (A0 : Option Addr) (c0 : Nat) (l0 : List Int) (r1 : List (List Int)) (r2 : Int) (r3 : List Int) (r4 : List Int) (r5 : Int) (w : World) (hr0 : Kd.C (Kd.int .u8) w A0 l0.length l0) (hc0 : l0.length ≤ c0) (h : spec_DrawHistFind.f k l0 = some (r1, r2, r3, r4, r5)) :
  Calls Try.prog 29 #[.slice A0 l0.length c0] w fun e w' => ∃ v0_ v2_ v3_ : Value, e = .returned (.tuple #[.agg #[v0_, .int .i64 r2, v2_], v3_, .int .i64 r5]) ∧ Kd.S (Kd.slice 2 (Kd.int .i64)) 23 w' w.heap.size (fun k_ => some k_ ≠ (v2_ : Value).ownBlock ∧ some k_ ≠ (v3_ : Value).ownBlock) v0_ r1 ∧ Kd.R (Kd.int .i64) 2 w' w.heap.size (fun k_ => some k_ ≠ (v3_ : Value).ownBlock) v2_ r3 ∧ Kd.R (Kd.int .i64) 2 w' w.heap.size (fun k_ => some k_ ≠ (v2_ : Value).ownBlock) v3_ r4 ∧ Below w.heap.size w w' := by
 have hu53 := Try.underlying53
 have HR0 := am hr0
 have HC0 := am hc0
 clear hr0 hc0
 have HB := am (Below.refl w.heap.size w)
 have H : ((spec_l01Source.f k l0).bind fun bt294 => ((spec_l01Src_l06Hist.f k bt294.1 bt294.2.1 bt294.2.2.1 bt294.2.2.2).bind fun bt299 => ((spec_l01Src_one.f bt294.1 bt299.2.2.2.1 bt299.2.2.2.2.1 bt299.2.2.2.2.2 12).bind fun bt310 => (if bt310.1 = true then ((spec_l01Src_l06Part.f k bt294.1 bt310.2.1 bt310.2.2.1 bt310.2.2.2).bind fun bt314 => ((spec_l01Src_edge.f bt294.1 bt314.2.1 bt314.2.2.1 bt314.2.2.2).bind fun bt320 => (some (bt299.1, bt299.2.1, bt299.2.2.1, bt314.1, bt320.1)))) else ((spec_l01Src_l06Part.f k bt294.1 bt310.2.1 bt310.2.2.1 bt310.2.2.2).bind fun bt324 => ((spec_l01Src_n.f bt294.1 bt324.2.1 bt324.2.2.1 bt324.2.2.2 8).bind fun bt330 => (some (bt299.1, bt299.2.1, bt299.2.2.1, bt324.1, wrap64 (bt330.1 - 1))))))))) = some (r1, r2, r3, r4, r5) := h
 clear h
 replace H := Option.bind_eq_some_iff.mp H
 obtain ⟨⟨t294, t295, t296, t297⟩, A20, H⟩ := H
 replace H : ((spec_l01Src_l06Hist.f k t294 t295 t296 t297).bind fun bt299 => ((spec_l01Src_one.f t294 bt299.2.2.2.1 bt299.2.2.2.2.1 bt299.2.2.2.2.2 12).bind fun bt310 => (if bt310.1 = true then ((spec_l01Src_l06Part.f k t294 bt310.2.1 bt310.2.2.1 bt310.2.2.2).bind fun bt314 => ((spec_l01Src_edge.f t294 bt314.2.1 bt314.2.2.1 bt314.2.2.2).bind fun bt320 => (some (bt299.1, bt299.2.1, bt299.2.2.1, bt314.1, bt320.1)))) else ((spec_l01Src_l06Part.f k t294 bt310.2.1 bt310.2.2.1 bt310.2.2.2).bind fun bt324 => ((spec_l01Src_n.f t294 bt324.2.1 bt324.2.2.1 bt324.2.2.2 8).bind fun bt330 => (some (bt299.1, bt299.2.1, bt299.2.2.1, bt324.1, wrap64 (bt330.1 - 1)))))))) = some (r1, r2, r3, r4, r5) := H
 have A2 := Aside0.mk A20
 clear A20
 replace H := Option.bind_eq_some_iff.mp H
 obtain ⟨⟨t299, t302, t303, t306, t307, t308⟩, A30, H⟩ := H
 replace H : ((spec_l01Src_one.f t294 t306 t307 t308 12).bind fun bt310 => (if bt310.1 = true then ((spec_l01Src_l06Part.f k t294 bt310.2.1 bt310.2.2.1 bt310.2.2.2).bind fun bt314 => ((spec_l01Src_edge.f t294 bt314.2.1 bt314.2.2.1 bt314.2.2.2).bind fun bt320 => (some (t299, t302, t303, bt314.1, bt320.1)))) else ((spec_l01Src_l06Part.f k t294 bt310.2.1 bt310.2.2.1 bt310.2.2.2).bind fun bt324 => ((spec_l01Src_n.f t294 bt324.2.1 bt324.2.2.1 bt324.2.2.2 8).bind fun bt330 => (some (t299, t302, t303, bt324.1, wrap64 (bt330.1 - 1))))))) = some (r1, r2, r3, r4, r5) := H
 have A3 := Aside0.mk A30
 clear A30
 replace H := Option.bind_eq_some_iff.mp H
 obtain ⟨⟨t310, t311, t312, t313⟩, A40, H⟩ := H
 replace H : (if t310 = true then ((spec_l01Src_l06Part.f k t294 t311 t312 t313).bind fun bt314 => ((spec_l01Src_edge.f t294 bt314.2.1 bt314.2.2.1 bt314.2.2.2).bind fun bt320 => (some (t299, t302, t303, bt314.1, bt320.1)))) else ((spec_l01Src_l06Part.f k t294 t311 t312 t313).bind fun bt324 => ((spec_l01Src_n.f t294 bt324.2.1 bt324.2.2.1 bt324.2.2.2 8).bind fun bt330 => (some (t299, t302, t303, bt324.1, wrap64 (bt330.1 - 1)))))) = some (r1, r2, r3, r4, r5) := H
 have A4 := Aside0.mk A40
 clear A40
 by_cases c5 : t310 = true
 ·subst c5
  have H1 : ((spec_l01Src_l06Part.f k t294 t311 t312 t313).bind fun bt314 => ((spec_l01Src_edge.f t294 bt314.2.1 bt314.2.2.1 bt314.2.2.2).bind fun bt320 => (some (t299, t302, t303, bt314.1, bt320.1)))) = some (r1, r2, r3, r4, r5) := by rw [if_pos rfl] at H; exact H
  clear H
  have H := H1
  clear H1
  replace H := Option.bind_eq_some_iff.mp H
  obtain ⟨⟨t314, t317, t318, t319⟩, A60, H⟩ := H
  replace H : ((spec_l01Src_edge.f t294 t317 t318 t319).bind fun bt320 => (some (t299, t302, t303, t314, bt320.1))) = some (r1, r2, r3, r4, r5) := H
  have A6 := Aside0.mk A60
  clear A60
  replace H := Option.bind_eq_some_iff.mp H
  obtain ⟨⟨t320, t321, t322, t323⟩, A70, H⟩ := H
  replace H : (some (t299, t302, t303, t314, t320)) = some (r1, r2, r3, r4, r5) := H
  have A7 := Aside0.mk A70
  clear A70
  simp only [Option.some.injEq, Prod.mk.injEq] at H
  obtain ⟨rfl, rfl, rfl, rfl, rfl⟩ := H
  go_enter Try.func29, Try.ntmps29
  try go_wp2_with (first | ((with_reducible refine gate_dst (N := 2) rfl ?_); refine box_event ?hg (N := 2) ?hd (cs := #[.slice none 0 0, .int .i64 0, .slice none 0 0]) (t := 53) ?hr ?_; (case hd => rfl); (case hg => rfl); (case hr => first | (go_simp; done) | (go_simp; rfl)); intro gb293 hg w8 hbox hb; have n0_ := am (below_step (bl HB.out) hb); have n1_ := am (hbox); have n2_ := am ((by rw [hg]; exact (below_size (bl HB.out)) : w.heap.size ≤ gb293)); have n3_ := am ((by rw [hg]; exact (below_size (bl HB.out)) : w.heap.size ≤ gb293)); clear HB; have HB := n0_; have BK293 := n1_; have GW293 := n2_; have GE293 := n3_; clear n0_ n1_ n2_ n3_; clear hb hbox hg) | ((with_reducible refine gate_callee (f := 38) rfl ?_); refine gl (some 8) Try.func38 #[.slice A0 l0.length c0] ?_; (with_reducible refine (spec_l01Source.calls k _ _ l0 t294 t295 t296 t297 w _ ?side1 ?side2 ?side3 A2.out).mono ?_); (case side1 => repeat (first | (with_reducible first | exact HB.out | apply below_alloc | apply pw_below_drewN | apply below_drew1 | refine below_set ?_ GE293.out) | exact HB.out)); (case side2 => exact HR0.out); (case side3 => exact HC0.out); rintro e w9 ⟨g298, rfl, hi, hb, hb2⟩; refine ⟨_, rfl, ?_⟩; have n0_ := am (blk_below (g := gb293) (o := .cells #[.slice none 0 0, .int .i64 0, .slice none 0 0] 53 (0, 0)) (pk BK293.out) hb2); have n1_ := am (hb); have n2_ := am (hi); have n3_ := am (IsS90.ne_blk hi (blk_below (g := gb293) (o := .cells #[.slice none 0 0, .int .i64 0, .slice none 0 0] 53 (0, 0)) (pk BK293.out) hb2) (by decide)); have n4_ := am (Ne.symm (IsS90.ne_blk hi (blk_below (g := gb293) (o := .cells #[.slice none 0 0, .int .i64 0, .slice none 0 0] 53 (0, 0)) (pk BK293.out) hb2) (by decide))); clear BK293; clear HB; have BK293 := n0_; have HB := n1_; have HI298 := n2_; have NB298_293 := n3_; have NB293_298 := n4_; clear n0_ n1_ n2_ n3_ n4_; (try clear hb); (try clear hb2); (try clear hk); (try clear hi)) | ((with_reducible refine gate_callee (f := 65) rfl ?_); refine gl (some 10) Try.func65 #[.pointer (some ⟨g298, 0, none⟩)] ?_; (with_reducible refine (spec_l01Src_l06Hist.calls k g298 t294 t295 t296 t297 t299 t302 t303 t306 t307 t308 w _ ?side1 ?side2 A3.out).mono ?_); (case side1 => repeat (first | (with_reducible first | exact HI298.out | apply IsS90.alloc | apply IsS90.drewN | apply IsS90.drew | apply IsS90.set_1 | apply IsS90.set_2 | apply IsS90.set_3 | refine IsS90.far ?_ NB298_293.out _) | exact HI298.out)); (case side2 => repeat (first | (with_reducible first | exact HB.out | apply below_alloc | apply pw_below_drewN | apply below_drew1 | refine below_set ?_ (IsS90.ge HI298.out) | refine below_set ?_ GE293.out) | exact HB.out)); rintro e w10 ⟨v300, v304, rfl, ho0, ho1, hi, hb, hk⟩; refine ⟨_, rfl, ?_⟩; have n0_ := am (KeepBut.blk hk (g' := gb293) (o := .cells #[.slice none 0 0, .int .i64 0, .slice none 0 0] 53 (0, 0)) (pk BK293.out) NB293_298.out (by simp)); have n1_ := am (Kd.S_lower ho0 (below_size (by repeat (first | (with_reducible first | exact HB.out | apply below_alloc | apply pw_below_drewN | apply below_drew1 | refine below_set ?_ (IsS90.ge HI298.out) | refine below_set ?_ GE293.out) | exact HB.out)))); have n2_ := am (Kd.R_lower ho1 (below_size (by repeat (first | (with_reducible first | exact HB.out | apply below_alloc | apply pw_below_drewN | apply below_drew1 | refine below_set ?_ (IsS90.ge HI298.out) | refine below_set ?_ GE293.out) | exact HB.out)))); have n3_ := am (hb); have n4_ := am (hi); clear BK293; clear HB; clear HI298; have BK293 := n0_; have HO301 := n1_; have HO305 := n2_; have HB := n3_; have HI298 := n4_; clear n0_ n1_ n2_ n3_ n4_; (try clear hb); (try clear hb2); (try clear hk); (try clear hi); (try clear ho0); (try clear ho1)) | ((with_reducible refine gate_dst (N := 6) rfl ?_); refine box_event ?hg (N := 6) ?hd (cs := #[.slice none 0 0, .int .i64 0, .slice none 0 0]) (t := 53) ?hr ?_; (case hd => rfl); (case hg => rfl); (case hr => first | (go_simp; done) | (go_simp; rfl)); intro gb309 hg w11 hbox hb; have n0_ := am (Kd.S_below (by (with_reducible repeat (first | apply Kd.S_alloc | apply Kd.S_drewN | apply Kd.S_drew)); exact HO301.out) hb); have n1_ := am (Kd.R_below (by (with_reducible repeat (first | apply Kd.R_alloc | apply Kd.R_drewN | apply Kd.R_drew)); exact HO305.out) hb); have n2_ := am (blk_below (g := gb293) (o := .cells #[.slice none 0 0, .int .i64 0, .slice none 0 0] 53 (0, 0)) (pk BK293.out) hb); have n3_ := am (IsS90.below (by repeat (first | (with_reducible first | exact HI298.out | apply IsS90.alloc | apply IsS90.drewN | apply IsS90.drew | apply IsS90.set_1 | apply IsS90.set_2 | apply IsS90.set_3 | refine IsS90.far ?_ NB298_293.out _) | exact HI298.out)) hb); have n4_ := am (below_step (by repeat (first | (with_reducible first | exact HB.out | apply below_alloc | apply pw_below_drewN | apply below_drew1 | refine below_set ?_ (IsS90.ge HI298.out) | refine below_set ?_ GE293.out) | exact HB.out)) hb); have n5_ := am (hbox); have n6_ := am ((by rw [hg]; exact (below_size (by repeat (first | (with_reducible first | exact HB.out | apply below_alloc | apply pw_below_drewN | apply below_drew1 | refine below_set ?_ (IsS90.ge HI298.out) | refine below_set ?_ GE293.out) | exact HB.out))) : w.heap.size ≤ gb309)); have n7_ := am ((by rw [hg]; exact (below_size (by repeat (first | (with_reducible first | exact HB.out | apply below_alloc | apply pw_below_drewN | apply below_drew1 | refine below_set ?_ (IsS90.ge HI298.out) | refine below_set ?_ GE293.out) | exact HB.out))) : w.heap.size ≤ gb309)); have n8_ := am ((by rw [hg]; exact Nat.ne_of_lt (blk_lt (g := gb293) (o := .cells #[.slice none 0 0, .int .i64 0, .slice none 0 0] 53 (0, 0)) (pk BK293.out)) : gb293 ≠ gb309)); have n9_ := am ((by rw [hg]; exact Nat.ne_of_gt (blk_lt (g := gb293) (o := .cells #[.slice none 0 0, .int .i64 0, .slice none 0 0] 53 (0, 0)) (pk BK293.out)) : gb309 ≠ gb293)); have n10_ := am ((by rw [hg]; exact Nat.ne_of_lt (IsS90.lt (show IsS90 w _ g298 t294 t306 t307 t308 from by repeat (first | (with_reducible first | exact HI298.out | apply IsS90.alloc | apply IsS90.drewN | apply IsS90.drew | apply IsS90.set_1 | apply IsS90.set_2 | apply IsS90.set_3 | refine IsS90.far ?_ NB298_293.out _) | exact HI298.out))) : g298 ≠ gb309)); have n11_ := am ((by rw [hg]; exact Nat.ne_of_gt (IsS90.lt (show IsS90 w _ g298 t294 t306 t307 t308 from by repeat (first | (with_reducible first | exact HI298.out | apply IsS90.alloc | apply IsS90.drewN | apply IsS90.drew | apply IsS90.set_1 | apply IsS90.set_2 | apply IsS90.set_3 | refine IsS90.far ?_ NB298_293.out _) | exact HI298.out))) : gb309 ≠ g298)); clear HO301; clear HO305; clear BK293; clear HI298; clear HB; have HO301 := n0_; have HO305 := n1_; have BK293 := n2_; have HI298 := n3_; have HB := n4_; have BK309 := n5_; have GW309 := n6_; have GE309 := n7_; have NB293_309 := n8_; have NB309_293 := n9_; have NB298_309 := n10_; have NB309_298 := n11_; clear n0_ n1_ n2_ n3_ n4_ n5_ n6_ n7_ n8_ n9_ n10_ n11_; clear hb hbox hg; obtain ⟨Ao12, co12, eo12⟩ := Kd.S_slice HO301.out; subst eo12; have hnb13 := NB309_293.out; have hnc13 := NB293_309.out; have hnb14 := NB309_298.out; have hnc14 := NB298_309.out; have hcz15_0 : w11.cell? ⟨gb309, 0, none⟩ = some (.slice none 0 0) := (blk_cell BK309.out 0).trans rfl; have hcz15_1 : w11.cell? ⟨gb309, 1, none⟩ = some (.int .i64 0) := (blk_cell BK309.out 1).trans rfl; have hcz15_2 : w11.cell? ⟨gb309, 2, none⟩ = some (.slice none 0 0) := (blk_cell BK309.out 2).trans rfl; have hfz15_0 := blk_frozen BK309.out 0; have hfz15_1 := blk_frozen BK309.out 1; have hfz15_2 := blk_frozen BK309.out 2; obtain ⟨Ao16, co16, eo16⟩ := Kd.R_slice HO305.out; subst eo16) | ((with_reducible refine gate_callee (f := 66) rfl ?_); refine gl (some 12) Try.func66 #[.pointer (some ⟨g298, 0, none⟩), .int .i64 12] ?_; (with_reducible refine (spec_l01Src_one.calls g298 t294 t306 t307 t308 12 true t311 t312 t313 w _ ?side1 ?side2 A4.out).mono ?_); (case side1 => repeat (first | (with_reducible first | exact HI298.out | apply IsS90.alloc | apply IsS90.drewN | apply IsS90.drew | apply IsS90.set_1 | apply IsS90.set_2 | apply IsS90.set_3 | refine IsS90.far ?_ NB298_293.out _ | refine IsS90.far ?_ NB298_309.out _) | exact HI298.out)); (case side2 => repeat (first | (with_reducible first | exact HB.out | apply below_alloc | apply pw_below_drewN | apply below_drew1 | refine below_set ?_ (IsS90.ge HI298.out) | refine below_set ?_ GE293.out | refine below_set ?_ GE309.out) | exact HB.out)); rintro e w17 ⟨rfl, hi, hb, hk⟩; refine ⟨_, rfl, ?_⟩; have n0_ := am (KeepBut.blk hk (g' := gb293) (o := .cells #[.slice none 0 0, .int .i64 0, .slice none 0 0] 53 (0, 0)) (by (with_reducible repeat (first | refine blk_drewN ?_ _ | refine blk_drew ?_ | refine blk_alloc ?_ _)); refine blk_far ?_ NB293_309.out _; (with_reducible repeat (first | refine blk_drewN ?_ _ | refine blk_drew ?_ | refine blk_alloc ?_ _)); refine blk_far ?_ NB293_309.out _; (with_reducible repeat (first | refine blk_drewN ?_ _ | refine blk_drew ?_ | refine blk_alloc ?_ _)); refine blk_far ?_ NB293_309.out _; (with_reducible repeat (first | refine blk_drewN ?_ _ | refine blk_drew ?_ | refine blk_alloc ?_ _)); exact BK293.out) NB293_298.out (by simp)); have n1_ := am (Kd.S_mono (Kd.S_keep (IsS90.apartS (show IsS90 w _ g298 t294 t306 t307 t308 from by repeat (first | (with_reducible first | exact HI298.out | apply IsS90.alloc | apply IsS90.drewN | apply IsS90.drew | apply IsS90.set_1 | apply IsS90.set_2 | apply IsS90.set_3 | refine IsS90.far ?_ NB298_293.out _ | refine IsS90.far ?_ NB298_309.out _) | exact HI298.out)) (by (with_reducible repeat (first | apply Kd.S_alloc | apply Kd.S_drewN | apply Kd.S_drew)); exact (Kd.S_mono (Kd.S_far (p := ⟨gb309, 2, none⟩) (Kd.S_far (p := ⟨gb309, 1, none⟩) (Kd.S_far (p := ⟨gb309, 0, none⟩) (Kd.S_types HO301.out BK309.out (by decide)) (fun _ hk => hk.2) (.slice Ao12 t299.length co12)) (fun _ hk => hk.2) (.int .i64 t302)) (fun _ hk => hk.2) (.slice Ao16 t303.length co16)) (fun _ h_ => h_.1))) (by decide)) hk (fun _ h => h.2)) (fun _ h => h.1)); have n2_ := am (Kd.R_mono (Kd.R_keep (IsS90.apart (show IsS90 w _ g298 t294 t306 t307 t308 from by repeat (first | (with_reducible first | exact HI298.out | apply IsS90.alloc | apply IsS90.drewN | apply IsS90.drew | apply IsS90.set_1 | apply IsS90.set_2 | apply IsS90.set_3 | refine IsS90.far ?_ NB298_293.out _ | refine IsS90.far ?_ NB298_309.out _) | exact HI298.out)) (by (with_reducible repeat (first | apply Kd.R_alloc | apply Kd.R_drewN | apply Kd.R_drew)); exact (Kd.R_mono (Kd.R_far (p := ⟨gb309, 2, none⟩) (Kd.R_far (p := ⟨gb309, 1, none⟩) (Kd.R_far (p := ⟨gb309, 0, none⟩) (Kd.R_types HO305.out BK309.out (by decide)) (fun _ hk => hk.2) (.slice Ao12 t299.length co12)) (fun _ hk => hk.2) (.int .i64 t302)) (fun _ hk => hk.2) (.slice Ao16 t303.length co16)) (fun _ h_ => h_.1))) (by decide)) hk (fun _ h => h.2)) (fun _ h => h.1)); have n3_ := am (KeepBut.blk hk (g' := gb309) (o := .cells #[.slice Ao12 t299.length co12, .int .i64 t302, .slice Ao16 t303.length co16] 53 (0, 0)) (by (with_reducible repeat (first | refine blk_drewN ?_ _ | refine blk_drew ?_ | refine blk_alloc ?_ _)); refine blk_put (cs := #[.slice Ao12 t299.length co12, .int .i64 t302, .slice none 0 0]) ?_ 2 _ rfl; (with_reducible repeat (first | refine blk_drewN ?_ _ | refine blk_drew ?_ | refine blk_alloc ?_ _)); refine blk_put (cs := #[.slice Ao12 t299.length co12, .int .i64 0, .slice none 0 0]) ?_ 1 _ rfl; (with_reducible repeat (first | refine blk_drewN ?_ _ | refine blk_drew ?_ | refine blk_alloc ?_ _)); refine blk_put (cs := #[.slice none 0 0, .int .i64 0, .slice none 0 0]) ?_ 0 _ rfl; (with_reducible repeat (first | refine blk_drewN ?_ _ | refine blk_drew ?_ | refine blk_alloc ?_ _)); exact BK309.out) NB309_298.out (by simp)); have n4_ := am (hb); have n5_ := am (hi); clear BK293; clear HO301; clear HO305; clear BK309; clear HB; clear HI298; have BK293 := n0_; have HO301 := n1_; have HO305 := n2_; have BK309 := n3_; have HB := n4_; have HI298 := n5_; clear n0_ n1_ n2_ n3_ n4_ n5_; (try clear hb); (try clear hb2); (try clear hk); (try clear hi)))
  have n0_ := am (Kd.S_drew HO301.out)
  have n1_ := am (Kd.R_drew HO305.out)
  have n2_ := am (blk_drew BK293.out)
  have n3_ := am (blk_drew BK309.out)
  have n4_ := am (IsS90.drew HI298.out)
  have n5_ := am (below_drew1 HB.out)
  clear HO301
  clear HO305
  clear BK293
  clear BK309
  clear HI298
  clear HB
  have HO301 := n0_
  have HO305 := n1_
  have BK293 := n2_
  have BK309 := n3_
  have HI298 := n4_
  have HB := n5_
  clear n0_ n1_ n2_ n3_ n4_ n5_
  refine start_ (n := 8) (S := fun w' => w'.cell? ⟨gb309, 0, none⟩ = some (.slice Ao12 t299.length co12) ∧ w'.cell? ⟨gb309, 1, none⟩ = some (.int .i64 t302) ∧ w'.cell? ⟨gb309, 2, none⟩ = some (.slice Ao16 t303.length co16)) (ds := []) #[false, false, false, false, false, false, false, false] (by kernel_rfl) rfl rfl ⟨(blk_cell BK309.out 0).trans rfl, (blk_cell BK309.out 1).trans rfl, (blk_cell BK309.out 2).trans rfl⟩ (fun hHeld => ?_); refine with_tabW spec_DrawHistFind.tab4 spec_DrawHistFind.bits4 (fun HT_ HW_ => ?_)
  generalize w17.drew = w18 at HO301 HO305 BK293 BK309 HI298 HB hHeld ⊢
  refine pure_ (i := 1) (N := some 14) (v := ?_) (a' := ?_) #[false, true, false, false, false, false, false, false] rfl rfl (any_of HT_.out (by kernel_rfl)) (fun _ _ _ h => h) (Or.inl ⟨by rfl, ?_⟩) ?_ ?_
  rotate_left
  ·intro w'
   go_simp
   with_reducible rfl
  rotate_left
  ·simp only [Act.put, List.setIfInBounds_toArray, List.set_cons_zero, List.set_cons_succ, i64_w, i32_w]
   rfl
  refine pure_ (i := 3) (N := some 16) (v := ?_) (a' := ?_) #[false, true, false, true, false, false, false, false] rfl rfl (any_of HT_.out (by kernel_rfl)) (fun _ _ _ h => h) (Or.inl ⟨by rfl, ?_⟩) ?_ ?_
  rotate_left
  ·intro w'
   go_simp
   with_reducible rfl
  rotate_left
  ·simp only [Act.put, List.setIfInBounds_toArray, List.set_cons_zero, List.set_cons_succ, i64_w, i32_w]
   rfl
  refine take_ (i := 0) (N := some 13) (v := ?_) (a' := ?_) #[true, true, false, true, false, false, false, false] rfl rfl (take_ofW HT_.out HW_.out (by kernel_rfl)) (fun _ _ _ h => h) (Or.inl ⟨by rfl, ?_⟩) hHeld ?_ ?_
  rotate_left
  ·rintro w' ⟨s0, s1, s2⟩
   go_simp
   with_reducible rfl
  rotate_left
  ·simp only [Act.put, List.setIfInBounds_toArray, List.set_cons_zero, List.set_cons_succ, i64_w, i32_w]
   rfl
  refine one_ (i := 2) (N := some 15) #[true, true, true, true, false, false, false, false] rfl rfl (one_of HT_.out (by kernel_rfl)) (by decide) (fun K hK => ?_)
  refine goes_ Try.func67 (by kernel_rfl) rfl #[.pointer (some ⟨g298, 0, none⟩)] (by rfl) rfl rfl (by (try simp only [List.map_toArray, List.map_cons, List.map_nil]); first | done | rfl | (simp only [List.length_drop, List.length_take]; rfl)) ?_
  with_reducible refine (spec_l01Src_l06Part.calls k g298 t294 t311 t312 t313 t314 t317 t318 t319 w _ ?side1 ?side2 A6.out).mono ?_
  (case side1 => repeat (first | (with_reducible first | exact HI298.out | apply IsS90.alloc | apply IsS90.drewN | apply IsS90.drew | apply IsS90.set_1 | apply IsS90.set_2 | apply IsS90.set_3 | refine IsS90.far ?_ NB298_293.out _ | refine IsS90.far ?_ NB298_309.out _) | exact HI298.out))
  (case side2 => repeat (first | (with_reducible first | exact HB.out | apply below_alloc | apply pw_below_drewN | apply below_drew1 | refine below_set ?_ (IsS90.ge HI298.out) | refine below_set ?_ GE293.out | refine below_set ?_ GE309.out) | exact HB.out))
  rintro e w19 ⟨v315, rfl, ho0, hi, hb, hk⟩
  refine ⟨_, rfl, ?_⟩
  have n0_ := am (KeepBut.blk hk (g' := gb293) (o := .cells #[.slice none 0 0, .int .i64 0, .slice none 0 0] 53 (0, 0)) (pk BK293.out) NB293_298.out (by simp))
  have n1_ := am (Kd.S_mono (Kd.S_told (Kd.S_oldK (IsS90.apartS (show IsS90 w _ g298 t294 t311 t312 t313 from by repeat (first | (with_reducible first | exact HI298.out | apply IsS90.alloc | apply IsS90.drewN | apply IsS90.drew | apply IsS90.set_1 | apply IsS90.set_2 | apply IsS90.set_3 | refine IsS90.far ?_ NB298_293.out _ | refine IsS90.far ?_ NB298_309.out _) | exact HI298.out)) (by (with_reducible repeat (first | apply Kd.S_alloc | apply Kd.S_drewN | apply Kd.S_drew)); exact HO301.out) (by decide)) hk) (Kd.R_base ho0)) (fun _ h_ => h_.1))
  have n2_ := am (Kd.R_mono (Kd.R_told (Kd.R_oldK (IsS90.apart (show IsS90 w _ g298 t294 t311 t312 t313 from by repeat (first | (with_reducible first | exact HI298.out | apply IsS90.alloc | apply IsS90.drewN | apply IsS90.drew | apply IsS90.set_1 | apply IsS90.set_2 | apply IsS90.set_3 | refine IsS90.far ?_ NB298_293.out _ | refine IsS90.far ?_ NB298_309.out _) | exact HI298.out)) (by (with_reducible repeat (first | apply Kd.R_alloc | apply Kd.R_drewN | apply Kd.R_drew)); exact HO305.out) (by decide)) hk) (Kd.R_base ho0)) (fun _ h_ => h_.1))
  have n3_ := am (KeepBut.blk hk (g' := gb309) (o := .cells #[.slice Ao12 t299.length co12, .int .i64 t302, .slice Ao16 t303.length co16] 53 (0, 0)) (pk BK309.out) NB309_298.out (by simp))
  have n4_ := am (Kd.R_lower (Kd.R_new' ho0 (Kd.R_lt (by (with_reducible repeat (first | apply Kd.R_alloc | apply Kd.R_drewN | apply Kd.R_drew)); exact HO305.out))) (below_size (by repeat (first | (with_reducible first | exact HB.out | apply below_alloc | apply pw_below_drewN | apply below_drew1 | refine below_set ?_ (IsS90.ge HI298.out) | refine below_set ?_ GE293.out | refine below_set ?_ GE309.out) | exact HB.out))))
  have n5_ := am (hb)
  have n6_ := am (hi)
  clear BK293
  clear HO301
  clear HO305
  clear BK309
  clear HB
  clear HI298
  have BK293 := n0_
  have HO301 := n1_
  have HO305 := n2_
  have BK309 := n3_
  have HO316 := n4_
  have HB := n5_
  have HI298 := n6_
  clear n0_ n1_ n2_ n3_ n4_ n5_ n6_
  (try clear hb)
  (try clear hb2)
  (try clear hk)
  (try clear hi)
  (try clear ho0)
  refine hK.out _ _ ⟨(blk_cell BK309.out 0).trans rfl, (blk_cell BK309.out 1).trans rfl, (blk_cell BK309.out 2).trans rfl⟩ (fun hHeld => ?_)
  clear hK K
  refine norm_ (a' := ?_) ?_ ?_
  rotate_left
  ·show Act.put _ (some 15) _ = _
   simp only [Act.put, List.setIfInBounds_toArray, List.set_cons_zero, List.set_cons_succ, i64_w, i32_w]
   rfl
  refine one_ (i := 4) (N := some 17) #[true, true, true, true, true, false, false, false] rfl rfl (one_of HT_.out (by kernel_rfl)) (by decide) (fun K hK => ?_)
  refine goes_ Try.func68 (by kernel_rfl) rfl #[.pointer (some ⟨g298, 0, none⟩)] (by rfl) rfl rfl (by (try simp only [List.map_toArray, List.map_cons, List.map_nil]); first | done | rfl | (simp only [List.length_drop, List.length_take]; rfl)) ?_
  with_reducible refine (spec_l01Src_edge.calls g298 t294 t317 t318 t319 t320 t321 t322 t323 w _ ?side1 ?side2 A7.out).mono ?_
  (case side1 => repeat (first | (with_reducible first | exact HI298.out | apply IsS90.alloc | apply IsS90.drewN | apply IsS90.drew | apply IsS90.set_1 | apply IsS90.set_2 | apply IsS90.set_3 | refine IsS90.far ?_ NB298_293.out _ | refine IsS90.far ?_ NB298_309.out _) | exact HI298.out))
  (case side2 => repeat (first | (with_reducible first | exact HB.out | apply below_alloc | apply pw_below_drewN | apply below_drew1 | refine below_set ?_ (IsS90.ge HI298.out) | refine below_set ?_ GE293.out | refine below_set ?_ GE309.out) | exact HB.out))
  rintro e w20 ⟨rfl, hi, hb, hk⟩
  refine ⟨_, rfl, ?_⟩
  have n0_ := am (KeepBut.blk hk (g' := gb293) (o := .cells #[.slice none 0 0, .int .i64 0, .slice none 0 0] 53 (0, 0)) (pk BK293.out) NB293_298.out (by simp))
  have n1_ := am (Kd.S_mono (Kd.S_keep (IsS90.apartS (show IsS90 w _ g298 t294 t317 t318 t319 from by repeat (first | (with_reducible first | exact HI298.out | apply IsS90.alloc | apply IsS90.drewN | apply IsS90.drew | apply IsS90.set_1 | apply IsS90.set_2 | apply IsS90.set_3 | refine IsS90.far ?_ NB298_293.out _ | refine IsS90.far ?_ NB298_309.out _) | exact HI298.out)) (by (with_reducible repeat (first | apply Kd.S_alloc | apply Kd.S_drewN | apply Kd.S_drew)); exact HO301.out) (by decide)) hk (fun _ h => h.2)) (fun _ h => h.1))
  have n2_ := am (Kd.R_mono (Kd.R_keep (IsS90.apart (show IsS90 w _ g298 t294 t317 t318 t319 from by repeat (first | (with_reducible first | exact HI298.out | apply IsS90.alloc | apply IsS90.drewN | apply IsS90.drew | apply IsS90.set_1 | apply IsS90.set_2 | apply IsS90.set_3 | refine IsS90.far ?_ NB298_293.out _ | refine IsS90.far ?_ NB298_309.out _) | exact HI298.out)) (by (with_reducible repeat (first | apply Kd.R_alloc | apply Kd.R_drewN | apply Kd.R_drew)); exact HO305.out) (by decide)) hk (fun _ h => h.2)) (fun _ h => h.1))
  have n3_ := am (KeepBut.blk hk (g' := gb309) (o := .cells #[.slice Ao12 t299.length co12, .int .i64 t302, .slice Ao16 t303.length co16] 53 (0, 0)) (pk BK309.out) NB309_298.out (by simp))
  have n4_ := am (Kd.R_mono (Kd.R_keep (IsS90.apart (show IsS90 w _ g298 t294 t317 t318 t319 from by repeat (first | (with_reducible first | exact HI298.out | apply IsS90.alloc | apply IsS90.drewN | apply IsS90.drew | apply IsS90.set_1 | apply IsS90.set_2 | apply IsS90.set_3 | refine IsS90.far ?_ NB298_293.out _ | refine IsS90.far ?_ NB298_309.out _) | exact HI298.out)) (by (with_reducible repeat (first | apply Kd.R_alloc | apply Kd.R_drewN | apply Kd.R_drew)); exact HO316.out) (by decide)) hk (fun _ h => h.2)) (fun _ h => h.1))
  have n5_ := am (hb)
  have n6_ := am (hi)
  clear BK293
  clear HO301
  clear HO305
  clear BK309
  clear HO316
  clear HB
  clear HI298
  have BK293 := n0_
  have HO301 := n1_
  have HO305 := n2_
  have BK309 := n3_
  have HO316 := n4_
  have HB := n5_
  have HI298 := n6_
  clear n0_ n1_ n2_ n3_ n4_ n5_ n6_
  (try clear hb)
  (try clear hb2)
  (try clear hk)
  (try clear hi)
  refine hK.out _ _ ⟨(blk_cell BK309.out 0).trans rfl, (blk_cell BK309.out 1).trans rfl, (blk_cell BK309.out 2).trans rfl⟩ (fun hHeld => ?_)
  clear hK K
  refine norm_ (a' := ?_) ?_ ?_
  rotate_left
  ·show Act.put _ (some 17) _ = _
   simp only [Act.put, List.setIfInBounds_toArray, List.set_cons_zero, List.set_cons_succ, i64_w, i32_w]
   rfl
  refine one_ (i := 5) (N := none) #[true, true, true, true, true, true, false, false] rfl rfl (one_of HT_.out (by kernel_rfl)) (by decide) (fun K hK => ?_)
  have hs21 : w20.cell? ⟨gb293, 0, none⟩ = some (.slice none 0 0) := (blk_cell BK293.out 0).trans rfl
  have hfs21 := blk_frozen BK293.out 0
  have hns21_1 := NB309_293.out
  have hms21_1 := NB293_309.out
  have hs22 : w20.cell? ⟨gb293, 1, none⟩ = some (.int .i64 0) := (blk_cell BK293.out 1).trans rfl
  have hfs22 := blk_frozen BK293.out 1
  have hns22_1 := NB309_293.out
  have hms22_1 := NB293_309.out
  have hs23 : w20.cell? ⟨gb293, 2, none⟩ = some (.slice none 0 0) := (blk_cell BK293.out 2).trans rfl
  have hfs23 := blk_frozen BK293.out 2
  have hns23_1 := NB309_293.out
  have hms23_1 := NB293_309.out
  refine skip_ (w1 := ?_) (by rfl) rfl ?_ ?_
  rotate_left
  ·go_simp
   rfl
  refine hK.out _ _ ⟨((cell_far (p := ⟨gb293, _, none⟩) NB309_293.out _).trans (((cell_far (p := ⟨gb293, _, none⟩) NB309_293.out _).trans (((cell_far (p := ⟨gb293, _, none⟩) NB309_293.out _).trans (hHeld.1)))))), ((cell_far (p := ⟨gb293, _, none⟩) NB309_293.out _).trans (((cell_far (p := ⟨gb293, _, none⟩) NB309_293.out _).trans (((cell_far (p := ⟨gb293, _, none⟩) NB309_293.out _).trans (hHeld.2.1)))))), ((cell_far (p := ⟨gb293, _, none⟩) NB309_293.out _).trans (((cell_far (p := ⟨gb293, _, none⟩) NB309_293.out _).trans (((cell_far (p := ⟨gb293, _, none⟩) NB309_293.out _).trans (hHeld.2.2))))))⟩ (fun hHeld => ?_)
  clear hK K
  refine pure_ (i := 6) (N := some 3) (v := ?_) (a' := ?_) #[true, true, true, true, true, true, true, false] rfl rfl (any_of HT_.out (by kernel_rfl)) (fun _ _ _ h => h) (Or.inl ⟨by rfl, ?_⟩) ?_ ?_
  rotate_left
  ·intro w'
   go_simp
   with_reducible rfl
  rotate_left
  ·simp only [Act.put, List.setIfInBounds_toArray, List.set_cons_zero, List.set_cons_succ, i64_w, i32_w]
   rfl
  refine pure_ (i := 7) (N := some 4) (v := ?_) (a' := ?_) #[true, true, true, true, true, true, true, true] rfl rfl (any_of HT_.out (by kernel_rfl)) (fun _ _ _ h => h) (Or.inl ⟨by rfl, ?_⟩) ?_ ?_
  rotate_left
  ·intro w'
   go_simp
   with_reducible rfl
  rotate_left
  ·simp only [Act.put, List.setIfInBounds_toArray, List.set_cons_zero, List.set_cons_succ, i64_w, i32_w]
   rfl
  refine done_ (done_of HT_.out (by kernel_rfl)) ?_
  try go_wp2
  refine bodyPost_ret (results_ctt rfl _ _ gb293 53 #[.slice Ao12 t299.length co12, .int .i64 t302, .slice Ao16 t303.length co16] (0, 0) _ rfl (by (with_reducible repeat (first | refine blk_drewN ?_ _ | refine blk_drew ?_ | refine blk_alloc ?_ _)); refine blk_put (cs := #[.slice Ao12 t299.length co12, .int .i64 t302, .slice none 0 0]) ?_ 2 _ rfl; (with_reducible repeat (first | refine blk_drewN ?_ _ | refine blk_drew ?_ | refine blk_alloc ?_ _)); refine blk_put (cs := #[.slice Ao12 t299.length co12, .int .i64 0, .slice none 0 0]) ?_ 1 _ rfl; (with_reducible repeat (first | refine blk_drewN ?_ _ | refine blk_drew ?_ | refine blk_alloc ?_ _)); refine blk_put (cs := #[.slice none 0 0, .int .i64 0, .slice none 0 0]) ?_ 0 _ rfl; (with_reducible repeat (first | refine blk_drewN ?_ _ | refine blk_drew ?_ | refine blk_alloc ?_ _)); exact BK293.out) Try.underlying53 rfl (by kernel_rfl)) rfl ?_
  exact ⟨_, _, _, by first | rfl | (simp [errW_none, errW_some] <;> rfl) | (simp [*, errW_none, errW_some] <;> rfl), by (with_reducible repeat (first | apply Kd.S_alloc | apply Kd.S_drewN | apply Kd.S_drew)); exact Kd.S_mono (Kd.S_far (p := ⟨gb293, 2, none⟩) (Kd.S_far (p := ⟨gb293, 1, none⟩) (Kd.S_far (p := ⟨gb293, 0, none⟩) (Kd.S_types HO301.out BK293.out (by decide)) (fun _ hk => hk.2) (.slice Ao12 t299.length co12)) (fun _ hk => hk.2) (.int .i64 t302)) (fun _ hk => hk.2) (.slice Ao16 t303.length co16)) (fun _ hk => ⟨hk.1.1, hk.1.2⟩), by (with_reducible repeat (first | apply Kd.R_alloc | apply Kd.R_drewN | apply Kd.R_drew)); exact Kd.R_mono (Kd.R_far (p := ⟨gb293, 2, none⟩) (Kd.R_far (p := ⟨gb293, 1, none⟩) (Kd.R_far (p := ⟨gb293, 0, none⟩) (Kd.R_types HO305.out BK293.out (by decide)) (fun _ hk => hk.2) (.slice Ao12 t299.length co12)) (fun _ hk => hk.2) (.int .i64 t302)) (fun _ hk => hk.2) (.slice Ao16 t303.length co16)) (fun _ hk => hk.1.2), by (with_reducible repeat (first | apply Kd.R_alloc | apply Kd.R_drewN | apply Kd.R_drew)); exact Kd.R_mono (Kd.R_far (p := ⟨gb293, 2, none⟩) (Kd.R_far (p := ⟨gb293, 1, none⟩) (Kd.R_far (p := ⟨gb293, 0, none⟩) (Kd.R_types HO316.out BK293.out (by decide)) (fun _ hk => hk.2) (.slice Ao12 t299.length co12)) (fun _ hk => hk.2) (.int .i64 t302)) (fun _ hk => hk.2) (.slice Ao16 t303.length co16)) (fun _ hk => hk.1.2), by repeat (first | (with_reducible first | exact HB.out | apply below_alloc | apply pw_below_drewN | apply below_drew1 | refine below_set ?_ (IsS90.ge HI298.out) | refine below_set ?_ GE293.out | refine below_set ?_ GE309.out) | exact HB.out)⟩
 ·replace c5 := Bool.eq_false_iff.mpr c5
  subst c5
  have H1 : ((spec_l01Src_l06Part.f k t294 t311 t312 t313).bind fun bt324 => ((spec_l01Src_n.f t294 bt324.2.1 bt324.2.2.1 bt324.2.2.2 8).bind fun bt330 => (some (t299, t302, t303, bt324.1, wrap64 (bt330.1 - 1))))) = some (r1, r2, r3, r4, r5) := by rw [if_neg (show ¬ (false = true) by decide)] at H; exact H
  clear H
  have H := H1
  clear H1
  replace H := Option.bind_eq_some_iff.mp H
  obtain ⟨⟨t324, t327, t328, t329⟩, A240, H⟩ := H
  replace H : ((spec_l01Src_n.f t294 t327 t328 t329 8).bind fun bt330 => (some (t299, t302, t303, t324, wrap64 (bt330.1 - 1)))) = some (r1, r2, r3, r4, r5) := H
  have A24 := Aside0.mk A240
  clear A240
  replace H := Option.bind_eq_some_iff.mp H
  obtain ⟨⟨t330, t331, t332, t333⟩, A250, H⟩ := H
  replace H : (some (t299, t302, t303, t324, wrap64 (t330 - 1))) = some (r1, r2, r3, r4, r5) := H
  have A25 := Aside0.mk A250
  clear A250
  simp only [Option.some.injEq, Prod.mk.injEq] at H
  obtain ⟨rfl, rfl, rfl, rfl, rfl⟩ := H
  go_enter Try.func29, Try.ntmps29
  try go_wp2_with (first | ((with_reducible refine gate_dst (N := 2) rfl ?_); refine box_event ?hg (N := 2) ?hd (cs := #[.slice none 0 0, .int .i64 0, .slice none 0 0]) (t := 53) ?hr ?_; (case hd => rfl); (case hg => rfl); (case hr => first | (go_simp; done) | (go_simp; rfl)); intro gb293 hg w26 hbox hb; have n0_ := am (below_step (bl HB.out) hb); have n1_ := am (hbox); have n2_ := am ((by rw [hg]; exact (below_size (bl HB.out)) : w.heap.size ≤ gb293)); have n3_ := am ((by rw [hg]; exact (below_size (bl HB.out)) : w.heap.size ≤ gb293)); clear HB; have HB := n0_; have BK293 := n1_; have GW293 := n2_; have GE293 := n3_; clear n0_ n1_ n2_ n3_; clear hb hbox hg) | ((with_reducible refine gate_callee (f := 38) rfl ?_); refine gl (some 8) Try.func38 #[.slice A0 l0.length c0] ?_; (with_reducible refine (spec_l01Source.calls k _ _ l0 t294 t295 t296 t297 w _ ?side1 ?side2 ?side3 A2.out).mono ?_); (case side1 => repeat (first | (with_reducible first | exact HB.out | apply below_alloc | apply pw_below_drewN | apply below_drew1 | refine below_set ?_ GE293.out) | exact HB.out)); (case side2 => exact HR0.out); (case side3 => exact HC0.out); rintro e w27 ⟨g298, rfl, hi, hb, hb2⟩; refine ⟨_, rfl, ?_⟩; have n0_ := am (blk_below (g := gb293) (o := .cells #[.slice none 0 0, .int .i64 0, .slice none 0 0] 53 (0, 0)) (pk BK293.out) hb2); have n1_ := am (hb); have n2_ := am (hi); have n3_ := am (IsS90.ne_blk hi (blk_below (g := gb293) (o := .cells #[.slice none 0 0, .int .i64 0, .slice none 0 0] 53 (0, 0)) (pk BK293.out) hb2) (by decide)); have n4_ := am (Ne.symm (IsS90.ne_blk hi (blk_below (g := gb293) (o := .cells #[.slice none 0 0, .int .i64 0, .slice none 0 0] 53 (0, 0)) (pk BK293.out) hb2) (by decide))); clear BK293; clear HB; have BK293 := n0_; have HB := n1_; have HI298 := n2_; have NB298_293 := n3_; have NB293_298 := n4_; clear n0_ n1_ n2_ n3_ n4_; (try clear hb); (try clear hb2); (try clear hk); (try clear hi)) | ((with_reducible refine gate_callee (f := 65) rfl ?_); refine gl (some 10) Try.func65 #[.pointer (some ⟨g298, 0, none⟩)] ?_; (with_reducible refine (spec_l01Src_l06Hist.calls k g298 t294 t295 t296 t297 t299 t302 t303 t306 t307 t308 w _ ?side1 ?side2 A3.out).mono ?_); (case side1 => repeat (first | (with_reducible first | exact HI298.out | apply IsS90.alloc | apply IsS90.drewN | apply IsS90.drew | apply IsS90.set_1 | apply IsS90.set_2 | apply IsS90.set_3 | refine IsS90.far ?_ NB298_293.out _) | exact HI298.out)); (case side2 => repeat (first | (with_reducible first | exact HB.out | apply below_alloc | apply pw_below_drewN | apply below_drew1 | refine below_set ?_ (IsS90.ge HI298.out) | refine below_set ?_ GE293.out) | exact HB.out)); rintro e w28 ⟨v300, v304, rfl, ho0, ho1, hi, hb, hk⟩; refine ⟨_, rfl, ?_⟩; have n0_ := am (KeepBut.blk hk (g' := gb293) (o := .cells #[.slice none 0 0, .int .i64 0, .slice none 0 0] 53 (0, 0)) (pk BK293.out) NB293_298.out (by simp)); have n1_ := am (Kd.S_lower ho0 (below_size (by repeat (first | (with_reducible first | exact HB.out | apply below_alloc | apply pw_below_drewN | apply below_drew1 | refine below_set ?_ (IsS90.ge HI298.out) | refine below_set ?_ GE293.out) | exact HB.out)))); have n2_ := am (Kd.R_lower ho1 (below_size (by repeat (first | (with_reducible first | exact HB.out | apply below_alloc | apply pw_below_drewN | apply below_drew1 | refine below_set ?_ (IsS90.ge HI298.out) | refine below_set ?_ GE293.out) | exact HB.out)))); have n3_ := am (hb); have n4_ := am (hi); clear BK293; clear HB; clear HI298; have BK293 := n0_; have HO301 := n1_; have HO305 := n2_; have HB := n3_; have HI298 := n4_; clear n0_ n1_ n2_ n3_ n4_; (try clear hb); (try clear hb2); (try clear hk); (try clear hi); (try clear ho0); (try clear ho1)) | ((with_reducible refine gate_dst (N := 6) rfl ?_); refine box_event ?hg (N := 6) ?hd (cs := #[.slice none 0 0, .int .i64 0, .slice none 0 0]) (t := 53) ?hr ?_; (case hd => rfl); (case hg => rfl); (case hr => first | (go_simp; done) | (go_simp; rfl)); intro gb309 hg w29 hbox hb; have n0_ := am (Kd.S_below (by (with_reducible repeat (first | apply Kd.S_alloc | apply Kd.S_drewN | apply Kd.S_drew)); exact HO301.out) hb); have n1_ := am (Kd.R_below (by (with_reducible repeat (first | apply Kd.R_alloc | apply Kd.R_drewN | apply Kd.R_drew)); exact HO305.out) hb); have n2_ := am (blk_below (g := gb293) (o := .cells #[.slice none 0 0, .int .i64 0, .slice none 0 0] 53 (0, 0)) (pk BK293.out) hb); have n3_ := am (IsS90.below (by repeat (first | (with_reducible first | exact HI298.out | apply IsS90.alloc | apply IsS90.drewN | apply IsS90.drew | apply IsS90.set_1 | apply IsS90.set_2 | apply IsS90.set_3 | refine IsS90.far ?_ NB298_293.out _) | exact HI298.out)) hb); have n4_ := am (below_step (by repeat (first | (with_reducible first | exact HB.out | apply below_alloc | apply pw_below_drewN | apply below_drew1 | refine below_set ?_ (IsS90.ge HI298.out) | refine below_set ?_ GE293.out) | exact HB.out)) hb); have n5_ := am (hbox); have n6_ := am ((by rw [hg]; exact (below_size (by repeat (first | (with_reducible first | exact HB.out | apply below_alloc | apply pw_below_drewN | apply below_drew1 | refine below_set ?_ (IsS90.ge HI298.out) | refine below_set ?_ GE293.out) | exact HB.out))) : w.heap.size ≤ gb309)); have n7_ := am ((by rw [hg]; exact (below_size (by repeat (first | (with_reducible first | exact HB.out | apply below_alloc | apply pw_below_drewN | apply below_drew1 | refine below_set ?_ (IsS90.ge HI298.out) | refine below_set ?_ GE293.out) | exact HB.out))) : w.heap.size ≤ gb309)); have n8_ := am ((by rw [hg]; exact Nat.ne_of_lt (blk_lt (g := gb293) (o := .cells #[.slice none 0 0, .int .i64 0, .slice none 0 0] 53 (0, 0)) (pk BK293.out)) : gb293 ≠ gb309)); have n9_ := am ((by rw [hg]; exact Nat.ne_of_gt (blk_lt (g := gb293) (o := .cells #[.slice none 0 0, .int .i64 0, .slice none 0 0] 53 (0, 0)) (pk BK293.out)) : gb309 ≠ gb293)); have n10_ := am ((by rw [hg]; exact Nat.ne_of_lt (IsS90.lt (show IsS90 w _ g298 t294 t306 t307 t308 from by repeat (first | (with_reducible first | exact HI298.out | apply IsS90.alloc | apply IsS90.drewN | apply IsS90.drew | apply IsS90.set_1 | apply IsS90.set_2 | apply IsS90.set_3 | refine IsS90.far ?_ NB298_293.out _) | exact HI298.out))) : g298 ≠ gb309)); have n11_ := am ((by rw [hg]; exact Nat.ne_of_gt (IsS90.lt (show IsS90 w _ g298 t294 t306 t307 t308 from by repeat (first | (with_reducible first | exact HI298.out | apply IsS90.alloc | apply IsS90.drewN | apply IsS90.drew | apply IsS90.set_1 | apply IsS90.set_2 | apply IsS90.set_3 | refine IsS90.far ?_ NB298_293.out _) | exact HI298.out))) : gb309 ≠ g298)); clear HO301; clear HO305; clear BK293; clear HI298; clear HB; have HO301 := n0_; have HO305 := n1_; have BK293 := n2_; have HI298 := n3_; have HB := n4_; have BK309 := n5_; have GW309 := n6_; have GE309 := n7_; have NB293_309 := n8_; have NB309_293 := n9_; have NB298_309 := n10_; have NB309_298 := n11_; clear n0_ n1_ n2_ n3_ n4_ n5_ n6_ n7_ n8_ n9_ n10_ n11_; clear hb hbox hg; obtain ⟨Ao30, co30, eo30⟩ := Kd.S_slice HO301.out; subst eo30; have hnb31 := NB309_293.out; have hnc31 := NB293_309.out; have hnb32 := NB309_298.out; have hnc32 := NB298_309.out; have hcz33_0 : w29.cell? ⟨gb309, 0, none⟩ = some (.slice none 0 0) := (blk_cell BK309.out 0).trans rfl; have hcz33_1 : w29.cell? ⟨gb309, 1, none⟩ = some (.int .i64 0) := (blk_cell BK309.out 1).trans rfl; have hcz33_2 : w29.cell? ⟨gb309, 2, none⟩ = some (.slice none 0 0) := (blk_cell BK309.out 2).trans rfl; have hfz33_0 := blk_frozen BK309.out 0; have hfz33_1 := blk_frozen BK309.out 1; have hfz33_2 := blk_frozen BK309.out 2; obtain ⟨Ao34, co34, eo34⟩ := Kd.R_slice HO305.out; subst eo34) | ((with_reducible refine gate_callee (f := 66) rfl ?_); refine gl (some 12) Try.func66 #[.pointer (some ⟨g298, 0, none⟩), .int .i64 12] ?_; (with_reducible refine (spec_l01Src_one.calls g298 t294 t306 t307 t308 12 false t311 t312 t313 w _ ?side1 ?side2 A4.out).mono ?_); (case side1 => repeat (first | (with_reducible first | exact HI298.out | apply IsS90.alloc | apply IsS90.drewN | apply IsS90.drew | apply IsS90.set_1 | apply IsS90.set_2 | apply IsS90.set_3 | refine IsS90.far ?_ NB298_293.out _ | refine IsS90.far ?_ NB298_309.out _) | exact HI298.out)); (case side2 => repeat (first | (with_reducible first | exact HB.out | apply below_alloc | apply pw_below_drewN | apply below_drew1 | refine below_set ?_ (IsS90.ge HI298.out) | refine below_set ?_ GE293.out | refine below_set ?_ GE309.out) | exact HB.out)); rintro e w35 ⟨rfl, hi, hb, hk⟩; refine ⟨_, rfl, ?_⟩; have n0_ := am (KeepBut.blk hk (g' := gb293) (o := .cells #[.slice none 0 0, .int .i64 0, .slice none 0 0] 53 (0, 0)) (by (with_reducible repeat (first | refine blk_drewN ?_ _ | refine blk_drew ?_ | refine blk_alloc ?_ _)); refine blk_far ?_ NB293_309.out _; (with_reducible repeat (first | refine blk_drewN ?_ _ | refine blk_drew ?_ | refine blk_alloc ?_ _)); refine blk_far ?_ NB293_309.out _; (with_reducible repeat (first | refine blk_drewN ?_ _ | refine blk_drew ?_ | refine blk_alloc ?_ _)); refine blk_far ?_ NB293_309.out _; (with_reducible repeat (first | refine blk_drewN ?_ _ | refine blk_drew ?_ | refine blk_alloc ?_ _)); exact BK293.out) NB293_298.out (by simp)); have n1_ := am (Kd.S_mono (Kd.S_keep (IsS90.apartS (show IsS90 w _ g298 t294 t306 t307 t308 from by repeat (first | (with_reducible first | exact HI298.out | apply IsS90.alloc | apply IsS90.drewN | apply IsS90.drew | apply IsS90.set_1 | apply IsS90.set_2 | apply IsS90.set_3 | refine IsS90.far ?_ NB298_293.out _ | refine IsS90.far ?_ NB298_309.out _) | exact HI298.out)) (by (with_reducible repeat (first | apply Kd.S_alloc | apply Kd.S_drewN | apply Kd.S_drew)); exact (Kd.S_mono (Kd.S_far (p := ⟨gb309, 2, none⟩) (Kd.S_far (p := ⟨gb309, 1, none⟩) (Kd.S_far (p := ⟨gb309, 0, none⟩) (Kd.S_types HO301.out BK309.out (by decide)) (fun _ hk => hk.2) (.slice Ao30 t299.length co30)) (fun _ hk => hk.2) (.int .i64 t302)) (fun _ hk => hk.2) (.slice Ao34 t303.length co34)) (fun _ h_ => h_.1))) (by decide)) hk (fun _ h => h.2)) (fun _ h => h.1)); have n2_ := am (Kd.R_mono (Kd.R_keep (IsS90.apart (show IsS90 w _ g298 t294 t306 t307 t308 from by repeat (first | (with_reducible first | exact HI298.out | apply IsS90.alloc | apply IsS90.drewN | apply IsS90.drew | apply IsS90.set_1 | apply IsS90.set_2 | apply IsS90.set_3 | refine IsS90.far ?_ NB298_293.out _ | refine IsS90.far ?_ NB298_309.out _) | exact HI298.out)) (by (with_reducible repeat (first | apply Kd.R_alloc | apply Kd.R_drewN | apply Kd.R_drew)); exact (Kd.R_mono (Kd.R_far (p := ⟨gb309, 2, none⟩) (Kd.R_far (p := ⟨gb309, 1, none⟩) (Kd.R_far (p := ⟨gb309, 0, none⟩) (Kd.R_types HO305.out BK309.out (by decide)) (fun _ hk => hk.2) (.slice Ao30 t299.length co30)) (fun _ hk => hk.2) (.int .i64 t302)) (fun _ hk => hk.2) (.slice Ao34 t303.length co34)) (fun _ h_ => h_.1))) (by decide)) hk (fun _ h => h.2)) (fun _ h => h.1)); have n3_ := am (KeepBut.blk hk (g' := gb309) (o := .cells #[.slice Ao30 t299.length co30, .int .i64 t302, .slice Ao34 t303.length co34] 53 (0, 0)) (by (with_reducible repeat (first | refine blk_drewN ?_ _ | refine blk_drew ?_ | refine blk_alloc ?_ _)); refine blk_put (cs := #[.slice Ao30 t299.length co30, .int .i64 t302, .slice none 0 0]) ?_ 2 _ rfl; (with_reducible repeat (first | refine blk_drewN ?_ _ | refine blk_drew ?_ | refine blk_alloc ?_ _)); refine blk_put (cs := #[.slice Ao30 t299.length co30, .int .i64 0, .slice none 0 0]) ?_ 1 _ rfl; (with_reducible repeat (first | refine blk_drewN ?_ _ | refine blk_drew ?_ | refine blk_alloc ?_ _)); refine blk_put (cs := #[.slice none 0 0, .int .i64 0, .slice none 0 0]) ?_ 0 _ rfl; (with_reducible repeat (first | refine blk_drewN ?_ _ | refine blk_drew ?_ | refine blk_alloc ?_ _)); exact BK309.out) NB309_298.out (by simp)); have n4_ := am (hb); have n5_ := am (hi); clear BK293; clear HO301; clear HO305; clear BK309; clear HB; clear HI298; have BK293 := n0_; have HO301 := n1_; have HO305 := n2_; have BK309 := n3_; have HB := n4_; have HI298 := n5_; clear n0_ n1_ n2_ n3_ n4_ n5_; (try clear hb); (try clear hb2); (try clear hk); (try clear hi)))
  have n0_ := am (Kd.S_drew HO301.out)
  have n1_ := am (Kd.R_drew HO305.out)
  have n2_ := am (blk_drew BK293.out)
  have n3_ := am (blk_drew BK309.out)
  have n4_ := am (IsS90.drew HI298.out)
  have n5_ := am (below_drew1 HB.out)
  clear HO301
  clear HO305
  clear BK293
  clear BK309
  clear HI298
  clear HB
  have HO301 := n0_
  have HO305 := n1_
  have BK293 := n2_
  have BK309 := n3_
  have HI298 := n4_
  have HB := n5_
  clear n0_ n1_ n2_ n3_ n4_ n5_
  refine start_ (n := 9) (S := fun w' => w'.cell? ⟨gb309, 0, none⟩ = some (.slice Ao30 t299.length co30) ∧ w'.cell? ⟨gb309, 1, none⟩ = some (.int .i64 t302) ∧ w'.cell? ⟨gb309, 2, none⟩ = some (.slice Ao34 t303.length co34)) (ds := []) #[false, false, false, false, false, false, false, false, false] (by kernel_rfl) rfl rfl ⟨(blk_cell BK309.out 0).trans rfl, (blk_cell BK309.out 1).trans rfl, (blk_cell BK309.out 2).trans rfl⟩ (fun hHeld => ?_); refine with_tabW spec_DrawHistFind.tab5 spec_DrawHistFind.bits5 (fun HT_ HW_ => ?_)
  generalize w35.drew = w36 at HO301 HO305 BK293 BK309 HI298 HB hHeld ⊢
  refine pure_ (i := 1) (N := some 19) (v := ?_) (a' := ?_) #[false, true, false, false, false, false, false, false, false] rfl rfl (any_of HT_.out (by kernel_rfl)) (fun _ _ _ h => h) (Or.inl ⟨by rfl, ?_⟩) ?_ ?_
  rotate_left
  ·intro w'
   go_simp
   with_reducible rfl
  rotate_left
  ·simp only [Act.put, List.setIfInBounds_toArray, List.set_cons_zero, List.set_cons_succ, i64_w, i32_w]
   rfl
  refine pure_ (i := 3) (N := some 21) (v := ?_) (a' := ?_) #[false, true, false, true, false, false, false, false, false] rfl rfl (any_of HT_.out (by kernel_rfl)) (fun _ _ _ h => h) (Or.inl ⟨by rfl, ?_⟩) ?_ ?_
  rotate_left
  ·intro w'
   go_simp
   with_reducible rfl
  rotate_left
  ·simp only [Act.put, List.setIfInBounds_toArray, List.set_cons_zero, List.set_cons_succ, i64_w, i32_w]
   rfl
  refine take_ (i := 0) (N := some 18) (v := ?_) (a' := ?_) #[true, true, false, true, false, false, false, false, false] rfl rfl (take_ofW HT_.out HW_.out (by kernel_rfl)) (fun _ _ _ h => h) (Or.inl ⟨by rfl, ?_⟩) hHeld ?_ ?_
  rotate_left
  ·rintro w' ⟨s0, s1, s2⟩
   go_simp
   with_reducible rfl
  rotate_left
  ·simp only [Act.put, List.setIfInBounds_toArray, List.set_cons_zero, List.set_cons_succ, i64_w, i32_w]
   rfl
  refine one_ (i := 2) (N := some 20) #[true, true, true, true, false, false, false, false, false] rfl rfl (one_of HT_.out (by kernel_rfl)) (by decide) (fun K hK => ?_)
  refine goes_ Try.func67 (by kernel_rfl) rfl #[.pointer (some ⟨g298, 0, none⟩)] (by rfl) rfl rfl (by (try simp only [List.map_toArray, List.map_cons, List.map_nil]); first | done | rfl | (simp only [List.length_drop, List.length_take]; rfl)) ?_
  with_reducible refine (spec_l01Src_l06Part.calls k g298 t294 t311 t312 t313 t324 t327 t328 t329 w _ ?side1 ?side2 A24.out).mono ?_
  (case side1 => repeat (first | (with_reducible first | exact HI298.out | apply IsS90.alloc | apply IsS90.drewN | apply IsS90.drew | apply IsS90.set_1 | apply IsS90.set_2 | apply IsS90.set_3 | refine IsS90.far ?_ NB298_293.out _ | refine IsS90.far ?_ NB298_309.out _) | exact HI298.out))
  (case side2 => repeat (first | (with_reducible first | exact HB.out | apply below_alloc | apply pw_below_drewN | apply below_drew1 | refine below_set ?_ (IsS90.ge HI298.out) | refine below_set ?_ GE293.out | refine below_set ?_ GE309.out) | exact HB.out))
  rintro e w37 ⟨v325, rfl, ho0, hi, hb, hk⟩
  refine ⟨_, rfl, ?_⟩
  have n0_ := am (KeepBut.blk hk (g' := gb293) (o := .cells #[.slice none 0 0, .int .i64 0, .slice none 0 0] 53 (0, 0)) (pk BK293.out) NB293_298.out (by simp))
  have n1_ := am (Kd.S_mono (Kd.S_told (Kd.S_oldK (IsS90.apartS (show IsS90 w _ g298 t294 t311 t312 t313 from by repeat (first | (with_reducible first | exact HI298.out | apply IsS90.alloc | apply IsS90.drewN | apply IsS90.drew | apply IsS90.set_1 | apply IsS90.set_2 | apply IsS90.set_3 | refine IsS90.far ?_ NB298_293.out _ | refine IsS90.far ?_ NB298_309.out _) | exact HI298.out)) (by (with_reducible repeat (first | apply Kd.S_alloc | apply Kd.S_drewN | apply Kd.S_drew)); exact HO301.out) (by decide)) hk) (Kd.R_base ho0)) (fun _ h_ => h_.1))
  have n2_ := am (Kd.R_mono (Kd.R_told (Kd.R_oldK (IsS90.apart (show IsS90 w _ g298 t294 t311 t312 t313 from by repeat (first | (with_reducible first | exact HI298.out | apply IsS90.alloc | apply IsS90.drewN | apply IsS90.drew | apply IsS90.set_1 | apply IsS90.set_2 | apply IsS90.set_3 | refine IsS90.far ?_ NB298_293.out _ | refine IsS90.far ?_ NB298_309.out _) | exact HI298.out)) (by (with_reducible repeat (first | apply Kd.R_alloc | apply Kd.R_drewN | apply Kd.R_drew)); exact HO305.out) (by decide)) hk) (Kd.R_base ho0)) (fun _ h_ => h_.1))
  have n3_ := am (KeepBut.blk hk (g' := gb309) (o := .cells #[.slice Ao30 t299.length co30, .int .i64 t302, .slice Ao34 t303.length co34] 53 (0, 0)) (pk BK309.out) NB309_298.out (by simp))
  have n4_ := am (Kd.R_lower (Kd.R_new' ho0 (Kd.R_lt (by (with_reducible repeat (first | apply Kd.R_alloc | apply Kd.R_drewN | apply Kd.R_drew)); exact HO305.out))) (below_size (by repeat (first | (with_reducible first | exact HB.out | apply below_alloc | apply pw_below_drewN | apply below_drew1 | refine below_set ?_ (IsS90.ge HI298.out) | refine below_set ?_ GE293.out | refine below_set ?_ GE309.out) | exact HB.out))))
  have n5_ := am (hb)
  have n6_ := am (hi)
  clear BK293
  clear HO301
  clear HO305
  clear BK309
  clear HB
  clear HI298
  have BK293 := n0_
  have HO301 := n1_
  have HO305 := n2_
  have BK309 := n3_
  have HO326 := n4_
  have HB := n5_
  have HI298 := n6_
  clear n0_ n1_ n2_ n3_ n4_ n5_ n6_
  (try clear hb)
  (try clear hb2)
  (try clear hk)
  (try clear hi)
  (try clear ho0)
  refine hK.out _ _ ⟨(blk_cell BK309.out 0).trans rfl, (blk_cell BK309.out 1).trans rfl, (blk_cell BK309.out 2).trans rfl⟩ (fun hHeld => ?_)
  clear hK K
  refine norm_ (a' := ?_) ?_ ?_
  rotate_left
  ·show Act.put _ (some 20) _ = _
   simp only [Act.put, List.setIfInBounds_toArray, List.set_cons_zero, List.set_cons_succ, i64_w, i32_w]
   rfl
  refine one_ (i := 4) (N := some 22) #[true, true, true, true, true, false, false, false, false] rfl rfl (one_of HT_.out (by kernel_rfl)) (by decide) (fun K hK => ?_)
  refine goes_ Try.func69 (by kernel_rfl) rfl #[.pointer (some ⟨g298, 0, none⟩), .int .i64 8] (by rfl) rfl rfl (by (try simp only [List.map_toArray, List.map_cons, List.map_nil]); first | done | rfl | (simp only [List.length_drop, List.length_take]; rfl)) ?_
  with_reducible refine (spec_l01Src_n.calls g298 t294 t327 t328 t329 8 t330 t331 t332 t333 w _ ?side1 ?side2 A25.out).mono ?_
  (case side1 => repeat (first | (with_reducible first | exact HI298.out | apply IsS90.alloc | apply IsS90.drewN | apply IsS90.drew | apply IsS90.set_1 | apply IsS90.set_2 | apply IsS90.set_3 | refine IsS90.far ?_ NB298_293.out _ | refine IsS90.far ?_ NB298_309.out _) | exact HI298.out))
  (case side2 => repeat (first | (with_reducible first | exact HB.out | apply below_alloc | apply pw_below_drewN | apply below_drew1 | refine below_set ?_ (IsS90.ge HI298.out) | refine below_set ?_ GE293.out | refine below_set ?_ GE309.out) | exact HB.out))
  rintro e w38 ⟨rfl, hi, hb, hk⟩
  refine ⟨_, rfl, ?_⟩
  have n0_ := am (KeepBut.blk hk (g' := gb293) (o := .cells #[.slice none 0 0, .int .i64 0, .slice none 0 0] 53 (0, 0)) (pk BK293.out) NB293_298.out (by simp))
  have n1_ := am (Kd.S_mono (Kd.S_keep (IsS90.apartS (show IsS90 w _ g298 t294 t327 t328 t329 from by repeat (first | (with_reducible first | exact HI298.out | apply IsS90.alloc | apply IsS90.drewN | apply IsS90.drew | apply IsS90.set_1 | apply IsS90.set_2 | apply IsS90.set_3 | refine IsS90.far ?_ NB298_293.out _ | refine IsS90.far ?_ NB298_309.out _) | exact HI298.out)) (by (with_reducible repeat (first | apply Kd.S_alloc | apply Kd.S_drewN | apply Kd.S_drew)); exact HO301.out) (by decide)) hk (fun _ h => h.2)) (fun _ h => h.1))
  have n2_ := am (Kd.R_mono (Kd.R_keep (IsS90.apart (show IsS90 w _ g298 t294 t327 t328 t329 from by repeat (first | (with_reducible first | exact HI298.out | apply IsS90.alloc | apply IsS90.drewN | apply IsS90.drew | apply IsS90.set_1 | apply IsS90.set_2 | apply IsS90.set_3 | refine IsS90.far ?_ NB298_293.out _ | refine IsS90.far ?_ NB298_309.out _) | exact HI298.out)) (by (with_reducible repeat (first | apply Kd.R_alloc | apply Kd.R_drewN | apply Kd.R_drew)); exact HO305.out) (by decide)) hk (fun _ h => h.2)) (fun _ h => h.1))
  have n3_ := am (KeepBut.blk hk (g' := gb309) (o := .cells #[.slice Ao30 t299.length co30, .int .i64 t302, .slice Ao34 t303.length co34] 53 (0, 0)) (pk BK309.out) NB309_298.out (by simp))
  have n4_ := am (Kd.R_mono (Kd.R_keep (IsS90.apart (show IsS90 w _ g298 t294 t327 t328 t329 from by repeat (first | (with_reducible first | exact HI298.out | apply IsS90.alloc | apply IsS90.drewN | apply IsS90.drew | apply IsS90.set_1 | apply IsS90.set_2 | apply IsS90.set_3 | refine IsS90.far ?_ NB298_293.out _ | refine IsS90.far ?_ NB298_309.out _) | exact HI298.out)) (by (with_reducible repeat (first | apply Kd.R_alloc | apply Kd.R_drewN | apply Kd.R_drew)); exact HO326.out) (by decide)) hk (fun _ h => h.2)) (fun _ h => h.1))
  have n5_ := am (hb)
  have n6_ := am (hi)
  clear BK293
  clear HO301
  clear HO305
  clear BK309
  clear HO326
  clear HB
  clear HI298
  have BK293 := n0_
  have HO301 := n1_
  have HO305 := n2_
  have BK309 := n3_
  have HO326 := n4_
  have HB := n5_
  have HI298 := n6_
  clear n0_ n1_ n2_ n3_ n4_ n5_ n6_
  (try clear hb)
  (try clear hb2)
  (try clear hk)
  (try clear hi)
  refine hK.out _ _ ⟨(blk_cell BK309.out 0).trans rfl, (blk_cell BK309.out 1).trans rfl, (blk_cell BK309.out 2).trans rfl⟩ (fun hHeld => ?_)
  clear hK K
  refine norm_ (a' := ?_) ?_ ?_
  rotate_left
  ·show Act.put _ (some 22) _ = _
   simp only [Act.put, List.setIfInBounds_toArray, List.set_cons_zero, List.set_cons_succ, i64_w, i32_w]
   rfl
  refine pure_ (i := 5) (N := some 23) (v := ?_) (a' := ?_) #[true, true, true, true, true, true, false, false, false] rfl rfl (any_of HT_.out (by kernel_rfl)) (fun _ _ _ h => h) (Or.inl ⟨by rfl, ?_⟩) ?_ ?_
  rotate_left
  ·intro w'
   go_simp
   with_reducible rfl
  rotate_left
  ·simp only [Act.put, List.setIfInBounds_toArray, List.set_cons_zero, List.set_cons_succ, i64_w, i32_w]
   rfl
  refine one_ (i := 6) (N := none) #[true, true, true, true, true, true, true, false, false] rfl rfl (one_of HT_.out (by kernel_rfl)) (by decide) (fun K hK => ?_)
  have hs39 : w38.cell? ⟨gb293, 0, none⟩ = some (.slice none 0 0) := (blk_cell BK293.out 0).trans rfl
  have hfs39 := blk_frozen BK293.out 0
  have hns39_1 := NB309_293.out
  have hms39_1 := NB293_309.out
  have hs40 : w38.cell? ⟨gb293, 1, none⟩ = some (.int .i64 0) := (blk_cell BK293.out 1).trans rfl
  have hfs40 := blk_frozen BK293.out 1
  have hns40_1 := NB309_293.out
  have hms40_1 := NB293_309.out
  have hs41 : w38.cell? ⟨gb293, 2, none⟩ = some (.slice none 0 0) := (blk_cell BK293.out 2).trans rfl
  have hfs41 := blk_frozen BK293.out 2
  have hns41_1 := NB309_293.out
  have hms41_1 := NB293_309.out
  refine skip_ (w1 := ?_) (by rfl) rfl ?_ ?_
  rotate_left
  ·go_simp
   rfl
  refine hK.out _ _ ⟨((cell_far (p := ⟨gb293, _, none⟩) NB309_293.out _).trans (((cell_far (p := ⟨gb293, _, none⟩) NB309_293.out _).trans (((cell_far (p := ⟨gb293, _, none⟩) NB309_293.out _).trans (hHeld.1)))))), ((cell_far (p := ⟨gb293, _, none⟩) NB309_293.out _).trans (((cell_far (p := ⟨gb293, _, none⟩) NB309_293.out _).trans (((cell_far (p := ⟨gb293, _, none⟩) NB309_293.out _).trans (hHeld.2.1)))))), ((cell_far (p := ⟨gb293, _, none⟩) NB309_293.out _).trans (((cell_far (p := ⟨gb293, _, none⟩) NB309_293.out _).trans (((cell_far (p := ⟨gb293, _, none⟩) NB309_293.out _).trans (hHeld.2.2))))))⟩ (fun hHeld => ?_)
  clear hK K
  refine pure_ (i := 7) (N := some 3) (v := ?_) (a' := ?_) #[true, true, true, true, true, true, true, true, false] rfl rfl (any_of HT_.out (by kernel_rfl)) (fun _ _ _ h => h) (Or.inl ⟨by rfl, ?_⟩) ?_ ?_
  rotate_left
  ·intro w'
   go_simp
   with_reducible rfl
  rotate_left
  ·simp only [Act.put, List.setIfInBounds_toArray, List.set_cons_zero, List.set_cons_succ, i64_w, i32_w]
   rfl
  refine pure_ (i := 8) (N := some 4) (v := ?_) (a' := ?_) #[true, true, true, true, true, true, true, true, true] rfl rfl (any_of HT_.out (by kernel_rfl)) (fun _ _ _ h => h) (Or.inl ⟨by rfl, ?_⟩) ?_ ?_
  rotate_left
  ·intro w'
   go_simp
   with_reducible rfl
  rotate_left
  ·simp only [Act.put, List.setIfInBounds_toArray, List.set_cons_zero, List.set_cons_succ, i64_w, i32_w]
   rfl
  refine done_ (done_of HT_.out (by kernel_rfl)) ?_
  try go_wp2
  refine bodyPost_ret (results_ctt rfl _ _ gb293 53 #[.slice Ao30 t299.length co30, .int .i64 t302, .slice Ao34 t303.length co34] (0, 0) _ rfl (by (with_reducible repeat (first | refine blk_drewN ?_ _ | refine blk_drew ?_ | refine blk_alloc ?_ _)); refine blk_put (cs := #[.slice Ao30 t299.length co30, .int .i64 t302, .slice none 0 0]) ?_ 2 _ rfl; (with_reducible repeat (first | refine blk_drewN ?_ _ | refine blk_drew ?_ | refine blk_alloc ?_ _)); refine blk_put (cs := #[.slice Ao30 t299.length co30, .int .i64 0, .slice none 0 0]) ?_ 1 _ rfl; (with_reducible repeat (first | refine blk_drewN ?_ _ | refine blk_drew ?_ | refine blk_alloc ?_ _)); refine blk_put (cs := #[.slice none 0 0, .int .i64 0, .slice none 0 0]) ?_ 0 _ rfl; (with_reducible repeat (first | refine blk_drewN ?_ _ | refine blk_drew ?_ | refine blk_alloc ?_ _)); exact BK293.out) Try.underlying53 rfl (by kernel_rfl)) rfl ?_
  exact ⟨_, _, _, by first | rfl | (simp [errW_none, errW_some] <;> rfl) | (simp [*, errW_none, errW_some] <;> rfl), by (with_reducible repeat (first | apply Kd.S_alloc | apply Kd.S_drewN | apply Kd.S_drew)); exact Kd.S_mono (Kd.S_far (p := ⟨gb293, 2, none⟩) (Kd.S_far (p := ⟨gb293, 1, none⟩) (Kd.S_far (p := ⟨gb293, 0, none⟩) (Kd.S_types HO301.out BK293.out (by decide)) (fun _ hk => hk.2) (.slice Ao30 t299.length co30)) (fun _ hk => hk.2) (.int .i64 t302)) (fun _ hk => hk.2) (.slice Ao34 t303.length co34)) (fun _ hk => ⟨hk.1.1, hk.1.2⟩), by (with_reducible repeat (first | apply Kd.R_alloc | apply Kd.R_drewN | apply Kd.R_drew)); exact Kd.R_mono (Kd.R_far (p := ⟨gb293, 2, none⟩) (Kd.R_far (p := ⟨gb293, 1, none⟩) (Kd.R_far (p := ⟨gb293, 0, none⟩) (Kd.R_types HO305.out BK293.out (by decide)) (fun _ hk => hk.2) (.slice Ao30 t299.length co30)) (fun _ hk => hk.2) (.int .i64 t302)) (fun _ hk => hk.2) (.slice Ao34 t303.length co34)) (fun _ hk => hk.1.2), by (with_reducible repeat (first | apply Kd.R_alloc | apply Kd.R_drewN | apply Kd.R_drew)); exact Kd.R_mono (Kd.R_far (p := ⟨gb293, 2, none⟩) (Kd.R_far (p := ⟨gb293, 1, none⟩) (Kd.R_far (p := ⟨gb293, 0, none⟩) (Kd.R_types HO326.out BK293.out (by decide)) (fun _ hk => hk.2) (.slice Ao30 t299.length co30)) (fun _ hk => hk.2) (.int .i64 t302)) (fun _ hk => hk.2) (.slice Ao34 t303.length co34)) (fun _ hk => hk.1.2), by repeat (first | (with_reducible first | exact HB.out | apply below_alloc | apply pw_below_drewN | apply below_drew1 | refine below_set ?_ (IsS90.ge HI298.out) | refine below_set ?_ GE293.out | refine below_set ?_ GE309.out) | exact HB.out)⟩

/-! ### impl_within: function 44 -/
def impl_within.f (a0 : Int) (a1 : Int) (a2 : Int) : Option (Bool) := if a1 ≤ a0 then (some (decide (a0 ≤ a2))) else (some false)
set_option maxHeartbeats 8000000 in
set_option maxRecDepth 100000 in
theorem impl_within.calls (a0 : Int) (a1 : Int) (a2 : Int) (r : Bool) (w : World) (h : impl_within.f a0 a1 a2 = some r) :
  Calls Try.prog 44 #[.int .i64 a0, .int .i64 a1, .int .i64 a2] w fun e w' => e = .returned (.bool r) ∧ Drawn0 w w' := by
 have H : (if a1 ≤ a0 then (some (decide (a0 ≤ a2))) else (some false)) = some r := h
 clear h
 by_cases c4 : a1 ≤ a0
 ·rw [if_pos c4] at H
  have c4b0 : decide (a1 ≤ a0) = true := decide_eq_true c4
  clear c4
  obtain rfl := Option.some.inj H
  go_enter Try.func44, Try.ntmps44
  go_wp2
  go_ret
  exact ⟨by first | rfl | (simp; done) | (simp [*]; done), by repeat (first | exact Drawn0.refl _ | apply Drawn0.step)⟩
 ·rw [if_neg c4] at H
  have c4b0 : decide (a1 ≤ a0) = false := decide_eq_false c4
  clear c4
  obtain rfl := Option.some.inj H
  go_enter Try.func44, Try.ntmps44
  go_wp2
  go_ret
  exact ⟨by first | rfl | (simp; done) | (simp [*]; done), by repeat (first | exact Drawn0.refl _ | apply Drawn0.step)⟩

/-! ### impl_isPoint: function 43 -/
def impl_isPoint.f (a0 : Int) : Option (Bool) := (impl_within.f a0 0 1114111).bind fun t334 => (if t334 = true then ((impl_within.f a0 55296 57343).bind fun t335 => (some (!t335))) else (some false))
set_option maxHeartbeats 8000000 in
set_option maxRecDepth 100000 in
theorem impl_isPoint.calls (a0 : Int) (r : Bool) (w : World) (h : impl_isPoint.f a0 = some r) :
  Calls Try.prog 43 #[.int .i64 a0] w fun e w' => e = .returned (.bool r) ∧ Drawn0 w w' := by
 have H : ((impl_within.f a0 0 1114111).bind fun t334 => (if t334 = true then ((impl_within.f a0 55296 57343).bind fun t335 => (some (!t335))) else (some false))) = some r := h
 clear h
 replace H := Option.bind_eq_some_iff.mp H
 obtain ⟨t334, A20, H⟩ := H
 replace H : (if t334 = true then ((impl_within.f a0 55296 57343).bind fun t335 => (some (!t335))) else (some false)) = some r := H
 have A2 := Aside0.mk A20
 clear A20
 by_cases c3 : t334 = true
 ·subst c3
  have H1 : ((impl_within.f a0 55296 57343).bind fun t335 => (some (!t335))) = some r := by rw [if_pos rfl] at H; exact H
  clear H
  have H := H1
  clear H1
  replace H := Option.bind_eq_some_iff.mp H
  obtain ⟨t335, A40, H⟩ := H
  replace H : (some (!t335)) = some r := H
  have A4 := Aside0.mk A40
  clear A40
  obtain rfl := Option.some.inj H
  go_enter Try.func43, Try.ntmps43
  go_wp2_with (first | ((with_reducible refine gate_callee (f := 44) rfl ?_); refine gl (some 4) Try.func44 #[.int .i64 a0, .int .i64 0, .int .i64 1114111] ?_; (with_reducible refine (impl_within.calls a0 0 1114111 true _ A2.out).mono ?_); rintro e w' ⟨rfl, ⟨nd, rfl⟩⟩; refine ⟨_, rfl, ?_⟩) | (go_at_call 44; (with_reducible refine (impl_within.calls a0 55296 57343 t335 _ A4.out).mono ?_); rintro e w' ⟨rfl, ⟨nd, rfl⟩⟩))
  go_ret
  exact ⟨by first | rfl | (simp; done) | (simp [*]; done), by repeat (first | exact Drawn0.refl _ | apply Drawn0.step)⟩
 ·replace c3 := Bool.eq_false_iff.mpr c3
  subst c3
  have H1 : (some false) = some r := by rw [if_neg (show ¬ (false = true) by decide)] at H; exact H
  clear H
  have H := H1
  clear H1
  obtain rfl := Option.some.inj H
  go_enter Try.func43, Try.ntmps43
  go_wp2_with (first | ((with_reducible refine gate_callee (f := 44) rfl ?_); refine gl (some 4) Try.func44 #[.int .i64 a0, .int .i64 0, .int .i64 1114111] ?_; (with_reducible refine (impl_within.calls a0 0 1114111 false _ A2.out).mono ?_); rintro e w' ⟨rfl, ⟨nd, rfl⟩⟩; refine ⟨_, rfl, ?_⟩))
  go_ret
  exact ⟨by first | rfl | (simp; done) | (simp [*]; done), by repeat (first | exact Drawn0.refl _ | apply Drawn0.step)⟩

/-! ### impl_PointsRight_1: function 81 -/
def impl_PointsRight_1.f (a0 : Int) : Option (Bool) := (impl_isPoint.f a0).bind fun t336 => (some (!t336))
set_option maxHeartbeats 8000000 in
set_option maxRecDepth 100000 in
theorem impl_PointsRight_1.calls (a0 : Int) (r : Bool) (w : World) (h : impl_PointsRight_1.f a0 = some r) :
  Calls Try.prog 81 #[.int .i64 a0] w fun e w' => e = .returned (.bool r) ∧ Drawn0 w w' := by
 have H : ((impl_isPoint.f a0).bind fun t336 => (some (!t336))) = some r := h
 clear h
 replace H := Option.bind_eq_some_iff.mp H
 obtain ⟨t336, A20, H⟩ := H
 replace H : (some (!t336)) = some r := H
 have A2 := Aside0.mk A20
 clear A20
 obtain rfl := Option.some.inj H
 go_enter Try.func81, Try.ntmps81
 go_wp2_with (first | ((with_reducible refine gate_callee (f := 43) rfl ?_); refine gl (some 4) Try.func43 #[.int .i64 a0] ?_; (with_reducible refine (impl_isPoint.calls a0 t336 _ A2.out).mono ?_); rintro e w' ⟨rfl, ⟨nd, rfl⟩⟩; refine ⟨_, rfl, ?_⟩))
 go_ret
 exact ⟨by first | rfl | (simp; done) | (simp [*]; done), by repeat (first | exact Drawn0.refl _ | apply Drawn0.step)⟩

/-! ### slices_IndexFunc_sint64_int64: function 100 -/
def slices_IndexFunc_sint64_int64.l0 : Nat → List Int → Int → Int → Option (Int)
 | 0, _, _, _ => none
 | k + 1, x0, x7, x8 => if x8 < x7 then (if 0 ≤ x8 then (if x8 < (x0.length : Int) then ((impl_PointsRight_1.f (rd x0 x8)).bind fun t338 => (if t338 = true then (some x8) else (slices_IndexFunc_sint64_int64.l0 k x0 x7 (wrap64 (x8 + 1))))) else (none)) else (none)) else (some (-1))
def slices_IndexFunc_sint64_int64.f (k : Nat) (l0 : List Int)  : Option (Int) := slices_IndexFunc_sint64_int64.l0 k l0 (l0.length : Int) 0
theorem slices_IndexFunc_sint64_int64.mono_l : ∀ k, (∀ y0 y1 y2, LeO (slices_IndexFunc_sint64_int64.l0 k y0 y1 y2) (slices_IndexFunc_sint64_int64.l0 (k + 1) y0 y1 y2))
 | 0 => fun _ _ _ r h => by simp [slices_IndexFunc_sint64_int64.l0] at h
 | k + 1 => by
  have ih0 := slices_IndexFunc_sint64_int64.mono_l k
  ·intro y0 y1 y2
   unfold slices_IndexFunc_sint64_int64.l0
   repeat' first
   | (with_reducible exact ih0 _ _ _)
   | (with_reducible exact LeO.refl _)
   | (with_reducible exact LeO.none _)
   | (with_reducible refine LeO.ite ?_ ?_)
   | (with_reducible refine LeO.bind ?_ (fun _ => ?_))
   | exact ih0 _ _ _
   | exact LeO.none _
   | refine LeO.ite ?_ ?_
   | refine LeO.bind ?_ (fun _ => ?_)
theorem slices_IndexFunc_sint64_int64.mono : ∀ a0 k, LeO (slices_IndexFunc_sint64_int64.f k a0) (slices_IndexFunc_sint64_int64.f (k + 1) a0) := by
 intro a0 k
 have ih0 := slices_IndexFunc_sint64_int64.mono_l k
 unfold slices_IndexFunc_sint64_int64.f
 repeat' first
   | (with_reducible exact ih0 _ _ _)
   | (with_reducible exact LeO.refl _)
   | (with_reducible exact LeO.none _)
   | (with_reducible refine LeO.ite ?_ ?_)
   | (with_reducible refine LeO.bind ?_ (fun _ => ?_))
   | exact ih0 _ _ _
   | exact LeO.none _
   | refine LeO.ite ?_ ?_
   | refine LeO.bind ?_ (fun _ => ?_)
set_option maxHeartbeats 8000000 in
set_option maxRecDepth 100000 in
theorem slices_IndexFunc_sint64_int64.calls (k : Nat) (A0 : Option Addr) (c0 : Nat) (l0 : List Int)  (r : Int) (w : World) (hr0 : Kd.C (Kd.int .i64) w A0 l0.length l0) (hc0 : l0.length ≤ c0) (h : slices_IndexFunc_sint64_int64.f k l0 = some r) :
  Calls Try.prog 100 #[.slice A0 l0.length c0, .func (.func 81) #[] #[]] w fun e w' => e = .returned (.int .i64 r) ∧ Drawn0 w w' := by
 have HR0 := am hr0
 have HC0 := am hc0
 clear hr0 hc0
 have H : (slices_IndexFunc_sint64_int64.l0 k l0 (l0.length : Int) 0) = some r := h
 clear h
 have H' := Aside0.mk H
 clear H
 go_enter Try.func100, Try.ntmps100
 go_wp2
 go_loopg [8] k (fun kq v8 w' => ∃ (x8_1 : Int), v8 = .int .i64 x8_1 ∧ Aside0 (slices_IndexFunc_sint64_int64.l0 kq l0 (l0.length : Int) x8_1 = some r) ∧ Aside0 (kq ≤ k) ∧ Drawn0 w w')
 case atStart => exact ⟨(0), (by first | rfl | (simp; done) | (simp [*]; done)), H', ⟨Nat.le_refl _⟩, by repeat (first | exact Drawn0.refl _ | apply Drawn0.step)⟩
 case round =>
  clear H'
  try clear c1
  try clear p2
  obtain ⟨x8_1, rfl, HA, HK1, ⟨m1, rfl⟩⟩ := hrel
  cases gk with
  | zero => exact absurd HA.out (by simp [slices_IndexFunc_sint64_int64.l0])
  | succ k1 =>
   have H := HA.out
   clear HA
   simp only [slices_IndexFunc_sint64_int64.l0] at H
   by_cases c3 : x8_1 < (l0.length : Int)
   ·rw [if_pos c3] at H
    have c3b0 : decide (x8_1 < (l0.length : Int)) = true := decide_eq_true c3
    clear c3
    by_cases c4 : 0 ≤ x8_1
    ·rw [if_pos c4] at H
     have c4b0 : decide (0 ≤ x8_1) = true := decide_eq_true c4
     clear c4
     by_cases c5 : x8_1 < (l0.length : Int)
     ·rw [if_pos c5] at H
      have c5b0 : decide (x8_1 < (l0.length : Int)) = true := decide_eq_true c5
      clear c5
      replace H := Option.bind_eq_some_iff.mp H
      obtain ⟨t338, A60, H⟩ := H
      replace H : (if t338 = true then (some x8_1) else (slices_IndexFunc_sint64_int64.l0 k1 l0 (l0.length : Int) (wrap64 (x8_1 + 1)))) = some r := H
      have A6 := Aside0.mk A60
      clear A60
      by_cases c7 : t338 = true
      ·subst c7
       have H1 : (some x8_1) = some r := by rw [if_pos rfl] at H; exact H
       clear H
       have H := H1
       clear H1
       obtain rfl := Option.some.inj H
       have p337 : 0 ≤ (x8_1 : Int) := of_decide_eq_true (by first | (with_reducible assumption) | assumption)
       have q337 : x8_1 < (l0.length : Int) := of_decide_eq_true (by first | (with_reducible assumption) | assumption)
       obtain ⟨ad337, e337, hx337_0⟩ := Kd.at_int HR0.out x8_1 p337 q337
       cases e337
       replace p337 := eq_true p337
       replace q337 := eq_true q337
       go_wp2_with (first | (go_at_call 81; (with_reducible refine (impl_PointsRight_1.calls (rd l0 x8_1) true _ A6.out).mono ?_); rintro e w' ⟨rfl, ⟨nd, rfl⟩⟩))
       go_ret
       exact ⟨by first | rfl | (simp; done) | (simp [*]; done), by repeat (first | exact Drawn0.refl _ | apply Drawn0.step)⟩
      ·replace c7 := Bool.eq_false_iff.mpr c7
       subst c7
       have H1 : (slices_IndexFunc_sint64_int64.l0 k1 l0 (l0.length : Int) (wrap64 (x8_1 + 1))) = some r := by rw [if_neg (show ¬ (false = true) by decide)] at H; exact H
       clear H
       have H := H1
       clear H1
       have H' := Aside0.mk H
       clear H
       have p337 : 0 ≤ (x8_1 : Int) := of_decide_eq_true (by first | (with_reducible assumption) | assumption)
       have q337 : x8_1 < (l0.length : Int) := of_decide_eq_true (by first | (with_reducible assumption) | assumption)
       obtain ⟨ad337, e337, hx337_0⟩ := Kd.at_int HR0.out x8_1 p337 q337
       cases e337
       replace p337 := eq_true p337
       replace q337 := eq_true q337
       go_wp2_with (first | (go_at_call 81; (with_reducible refine (impl_PointsRight_1.calls (rd l0 x8_1) false _ A6.out).mono ?_); rintro e w' ⟨rfl, ⟨nd, rfl⟩⟩))
       go_roundg k1
       case measure => have := HK1.out; omega
       case rel => exact ⟨(wrap64 (x8_1 + 1)), (by first | rfl | (simp; done) | (simp [*]; done)), H', ⟨by have := HK1.out; omega⟩, by repeat (first | exact Drawn0.refl _ | apply Drawn0.step)⟩
     ·rw [if_neg c5] at H
      exact absurd H (by simp)
    ·rw [if_neg c4] at H
     exact absurd H (by simp)
   ·rw [if_neg c3] at H
    have c3b0 : decide (x8_1 < (l0.length : Int)) = false := decide_eq_false c3
    clear c3
    obtain rfl := Option.some.inj H
    go_wp2
    go_ret
    exact ⟨by first | rfl | (simp; done) | (simp [*]; done), by repeat (first | exact Drawn0.refl _ | apply Drawn0.step)⟩

/-! ### slices_ContainsFunc_sint64_int64: function 80 -/
def slices_ContainsFunc_sint64_int64.f (k : Nat) (l0 : List Int)  : Option (Bool) := (slices_IndexFunc_sint64_int64.f k l0).bind fun t339 => (some (decide (t339 ≥ 0)))
theorem slices_ContainsFunc_sint64_int64.mono : ∀ a0 k, LeO (slices_ContainsFunc_sint64_int64.f k a0) (slices_ContainsFunc_sint64_int64.f (k + 1) a0) := by
 intro a0 k
 unfold slices_ContainsFunc_sint64_int64.f
 repeat' first
   | (with_reducible exact slices_IndexFunc_sint64_int64.mono _ _)
   | (with_reducible exact LeO.refl _)
   | (with_reducible exact LeO.none _)
   | (with_reducible refine LeO.ite ?_ ?_)
   | (with_reducible refine LeO.bind ?_ (fun _ => ?_))
   | exact slices_IndexFunc_sint64_int64.mono _ _
   | exact LeO.none _
   | refine LeO.ite ?_ ?_
   | refine LeO.bind ?_ (fun _ => ?_)
set_option maxHeartbeats 8000000 in
set_option maxRecDepth 100000 in
theorem slices_ContainsFunc_sint64_int64.calls (k : Nat) (A0 : Option Addr) (c0 : Nat) (l0 : List Int)  (r : Bool) (w : World) (hr0 : Kd.C (Kd.int .i64) w A0 l0.length l0) (hc0 : l0.length ≤ c0) (h : slices_ContainsFunc_sint64_int64.f k l0 = some r) :
  Calls Try.prog 80 #[.slice A0 l0.length c0, .func (.func 81) #[] #[]] w fun e w' => e = .returned (.bool r) ∧ Drawn0 w w' := by
 have HR0 := am hr0
 have HC0 := am hc0
 clear hr0 hc0
 have H : ((slices_IndexFunc_sint64_int64.f k l0).bind fun t339 => (some (decide (t339 ≥ 0)))) = some r := h
 clear h
 replace H := Option.bind_eq_some_iff.mp H
 obtain ⟨t339, A30, H⟩ := H
 replace H : (some (decide (t339 ≥ 0))) = some r := H
 have A3 := Aside0.mk A30
 clear A30
 obtain rfl := Option.some.inj H
 go_enter Try.func80, Try.ntmps80
 go_wp2_with (first | ((with_reducible refine gate_callee (f := 100) rfl ?_); refine gl (some 7) Try.func100 #[.slice A0 l0.length c0, .func (.func 81) #[] #[]] ?_; (with_reducible refine (slices_IndexFunc_sint64_int64.calls k _ _ l0  t339 _ ?side1 ?side2 A3.out).mono ?_); (case side1 => repeat (first | exact HR0.out | (with_reducible refine Kd.C_alloc ?_ _) | (with_reducible refine Kd.C_drewN ?_ _) | (with_reducible refine Kd.C_drew ?_))); (case side2 => exact HC0.out); rintro e w' ⟨rfl, ⟨nd, rfl⟩⟩; refine ⟨_, rfl, ?_⟩))
 go_ret
 exact ⟨by first | rfl | (simp; done) | (simp [*]; done), by repeat (first | exact Drawn0.refl _ | apply Drawn0.step)⟩

/-! ### impl_PointsRight: function 40 -/
def impl_PointsRight.f (k : Nat) (l0 : List Int) : Option (Bool) := if (l0.length : Int) ≤ 300 then ((slices_ContainsFunc_sint64_int64.f k l0).bind fun t340 => (some (!t340))) else (some false)
theorem impl_PointsRight.mono : ∀ a0 k, LeO (impl_PointsRight.f k a0) (impl_PointsRight.f (k + 1) a0) := by
 intro a0 k
 unfold impl_PointsRight.f
 repeat' first
   | (with_reducible exact slices_ContainsFunc_sint64_int64.mono _ _)
   | (with_reducible exact LeO.refl _)
   | (with_reducible exact LeO.none _)
   | (with_reducible refine LeO.ite ?_ ?_)
   | (with_reducible refine LeO.bind ?_ (fun _ => ?_))
   | exact slices_ContainsFunc_sint64_int64.mono _ _
   | exact LeO.none _
   | refine LeO.ite ?_ ?_
   | refine LeO.bind ?_ (fun _ => ?_)
set_option maxHeartbeats 8000000 in
set_option maxRecDepth 100000 in
theorem impl_PointsRight.calls (k : Nat) (A0 : Option Addr) (c0 : Nat) (l0 : List Int) (r : Bool) (w : World) (hr0 : Kd.C (Kd.int .i64) w A0 l0.length l0) (hc0 : l0.length ≤ c0) (h : impl_PointsRight.f k l0 = some r) :
  Calls Try.prog 40 #[.slice A0 l0.length c0] w fun e w' => e = .returned (.bool r) ∧ Drawn0 w w' := by
 have HR0 := am hr0
 have HC0 := am hc0
 clear hr0 hc0
 have H : (if (l0.length : Int) ≤ 300 then ((slices_ContainsFunc_sint64_int64.f k l0).bind fun t340 => (some (!t340))) else (some false)) = some r := h
 clear h
 by_cases c2 : (l0.length : Int) ≤ 300
 ·rw [if_pos c2] at H
  have c2b0 : decide ((l0.length : Int) ≤ 300) = true := decide_eq_true c2
  have c2b1 : decide (l0.length ≤ 300) = true := decide_eq_true (by omega)
  clear c2
  replace H := Option.bind_eq_some_iff.mp H
  obtain ⟨t340, A30, H⟩ := H
  replace H : (some (!t340)) = some r := H
  have A3 := Aside0.mk A30
  clear A30
  obtain rfl := Option.some.inj H
  go_enter Try.func40, Try.ntmps40
  go_wp2_with (first | (go_at_call 80; (with_reducible refine (slices_ContainsFunc_sint64_int64.calls k _ _ l0  t340 _ ?side1 ?side2 A3.out).mono ?_); (case side1 => repeat (first | exact HR0.out | (with_reducible refine Kd.C_alloc ?_ _) | (with_reducible refine Kd.C_drewN ?_ _) | (with_reducible refine Kd.C_drew ?_))); (case side2 => exact HC0.out); rintro e w' ⟨rfl, ⟨nd, rfl⟩⟩))
  go_ret
  exact ⟨by first | rfl | (simp; done) | (simp [*]; done), by repeat (first | exact Drawn0.refl _ | apply Drawn0.step)⟩
 ·rw [if_neg c2] at H
  have c2b0 : decide ((l0.length : Int) ≤ 300) = false := decide_eq_false c2
  have c2b1 : decide (l0.length ≤ 300) = false := decide_eq_false (by omega)
  clear c2
  obtain rfl := Option.some.inj H
  go_enter Try.func40, Try.ntmps40
  go_wp2
  go_ret
  exact ⟨by first | rfl | (simp; done) | (simp [*]; done), by repeat (first | exact Drawn0.refl _ | apply Drawn0.step)⟩

/-! ### impl_isMany: function 62 -/
def impl_isMany.f (a0 : Int) : Option (Bool) := some (decide (a0 > 400))
set_option maxHeartbeats 8000000 in
set_option maxRecDepth 100000 in
theorem impl_isMany.calls (a0 : Int) (r : Bool) (w : World) (h : impl_isMany.f a0 = some r) :
  Calls Try.prog 62 #[.int .i64 a0] w fun e w' => e = .returned (.bool r) ∧ Drawn0 w w' := by
 have H : (some (decide (a0 > 400))) = some r := h
 clear h
 obtain rfl := Option.some.inj H
 go_enter Try.func62, Try.ntmps62
 go_wp2
 go_ret
 exact ⟨by first | rfl | (simp; done) | (simp [*]; done), by repeat (first | exact Drawn0.refl _ | apply Drawn0.step)⟩

/-! ### impl_size_sint64: function 71 -/
def impl_size_sint64.f (l0 : List (List Int)) : Option (Int) := some (l0.length : Int)
theorem impl_size_sint64.calls (A0 : Option Addr) (c0 : Nat) (l0 : List (List Int)) (r : Int) (w : World) (h : impl_size_sint64.f l0 = some r) :
  Calls Try.prog 71 #[.slice A0 l0.length c0] w fun e w' => e = .returned (.int .i64 r) ∧ Drawn0 w w' := by
 obtain rfl := Option.some.inj h
 go_enter Try.func71, Try.ntmps71
 go_wp2
 go_ret
 exact ⟨by first | rfl | (simp; done), Drawn0.refl _⟩

/-! ### impl_isItem: function 108 -/
def impl_isItem.f (k : Nat) (l0 : List Int) : Option (Bool) := if (l0.length : Int) > 0 then ((impl_PointsRight.f k l0).bind fun t341 => (some t341)) else (some false)
theorem impl_isItem.mono : ∀ a0 k, LeO (impl_isItem.f k a0) (impl_isItem.f (k + 1) a0) := by
 intro a0 k
 unfold impl_isItem.f
 repeat' first
   | (with_reducible exact impl_PointsRight.mono _ _)
   | (with_reducible exact LeO.refl _)
   | (with_reducible exact LeO.none _)
   | (with_reducible refine LeO.ite ?_ ?_)
   | (with_reducible refine LeO.bind ?_ (fun _ => ?_))
   | exact impl_PointsRight.mono _ _
   | exact LeO.none _
   | refine LeO.ite ?_ ?_
   | refine LeO.bind ?_ (fun _ => ?_)
set_option maxHeartbeats 8000000 in
set_option maxRecDepth 100000 in
theorem impl_isItem.calls (k : Nat) (A0 : Option Addr) (c0 : Nat) (l0 : List Int) (r : Bool) (w : World) (hr0 : Kd.C (Kd.int .i64) w A0 l0.length l0) (hc0 : l0.length ≤ c0) (h : impl_isItem.f k l0 = some r) :
  Calls Try.prog 108 #[.slice A0 l0.length c0] w fun e w' => e = .returned (.bool r) ∧ Drawn0 w w' := by
 have HR0 := am hr0
 have HC0 := am hc0
 clear hr0 hc0
 have H : (if (l0.length : Int) > 0 then ((impl_PointsRight.f k l0).bind fun t341 => (some t341)) else (some false)) = some r := h
 clear h
 by_cases c2 : (l0.length : Int) > 0
 ·rw [if_pos c2] at H
  have c2b0 : decide (0 < (l0.length : Int)) = true := decide_eq_true c2
  have c2b1 : decide (0 < l0.length) = true := decide_eq_true (by omega)
  clear c2
  replace H := Option.bind_eq_some_iff.mp H
  obtain ⟨t341, A30, H⟩ := H
  replace H : (some t341) = some r := H
  have A3 := Aside0.mk A30
  clear A30
  obtain rfl := Option.some.inj H
  go_enter Try.func108, Try.ntmps108
  go_wp2_with (first | (go_at_call 40; (with_reducible refine (impl_PointsRight.calls k _ _ l0 t341 _ ?side1 ?side2 A3.out).mono ?_); (case side1 => repeat (first | exact HR0.out | (with_reducible refine Kd.C_alloc ?_ _) | (with_reducible refine Kd.C_drewN ?_ _) | (with_reducible refine Kd.C_drew ?_))); (case side2 => exact HC0.out); rintro e w' ⟨rfl, ⟨nd, rfl⟩⟩))
  go_ret
  exact ⟨by first | rfl | (simp; done) | (simp [*]; done), by repeat (first | exact Drawn0.refl _ | apply Drawn0.step)⟩
 ·rw [if_neg c2] at H
  have c2b0 : decide (0 < (l0.length : Int)) = false := decide_eq_false c2
  have c2b1 : decide (0 < l0.length) = false := decide_eq_false (by omega)
  clear c2
  obtain rfl := Option.some.inj H
  go_enter Try.func108, Try.ntmps108
  go_wp2
  go_ret
  exact ⟨by first | rfl | (simp; done) | (simp [*]; done), by repeat (first | exact Drawn0.refl _ | apply Drawn0.step)⟩

end Go.Proofs.Ythcnhafdhjajpaa.PFnHistFind
