-- Written by xprint.py (this claim's own program, over the kit's printer); Lean checks it.
import Derived.Test.YtnhmoacjmieggaaPFnKeysx0
import Derived.Test.YtnhmoacjmieggaaPFnKeysx1
import Derived.Test.YtnhmoacjmieggaaPFnKeysx3
import Derived.Test.YtnhmoacjmieggaaPFnKeysx4
import Derived.Test.YtnhmoacjmieggaaPFnKeysx5
namespace Go.Proofs.Ytnhmoacjmieggaa.PFnKeys
open Go.RowKit Go.Proofs.YtnhmoacjmieggaaW.PrintWords Go.Proofs.YtnhmoacjmieggaaW.PrintLast Go.Proofs.YtnhmoacjmieggaaW.PrintMore
attribute [local go_sem] max2_int min2_int max_two min_two max_three min_three max_four min_four   -- for this text's walks alone
set_option linter.unusedVariables false
set_option linter.unusedSimpArgs false   -- squeezed

/-! ### spec_l01Src_l07Keys: function 30 -/
@[reducible] def b30_0 : Array Bool := (br true [0, 7]).toArray
@[reducible] def b30_1 : Array Bool := (br true [0, 1, 1, 5]).toArray
@[reducible] def b30_2 : Array Bool := (br true [0, 1, 1, 1, 1, 3]).toArray
@[reducible] def b30_3 : Array Bool := (br true [5, 2]).toArray
@[reducible] def b30_4 : Array Bool := (br true [2, 1, 1, 3]).toArray
@[reducible] def b30_5 : Array Bool := (br true [0, 1, 1, 1, 2, 2]).toArray
@[reducible] def b30_6 : Array Bool := (br true [4, 3]).toArray
@[reducible] def b30_7 : Array Bool := (br true [2, 1, 2, 2]).toArray
@[reducible] def b30_8 : Array Bool := (br true [6, 1]).toArray
@[reducible] def b30_9 : Array Bool := (br true [7]).toArray
mutual
def spec_l01Src_l07Keys.l0 : Nat → List (S40) → Int → List Int → Int → Int → Int → Option ((List (S40)) × Int × Int × Int)
 | 0, _, _, _, _, _, _ => none
 | k + 1, x3, x4, x1000, x1001, x1002, x1003 => if x4 > 0 then ((spec_l01Src_l07Key.f k x1000 x1001 x1002 x1003).bind fun bt198 => ((spec_KeyBind.f k x3 bt198.1 bt198.2.1 bt198.2.2.1).bind fun t204 => (spec_l01Src_l07Keys.l0 k t204 (wrap64 (x4 - 1)) x1000 bt198.2.2.2.1 bt198.2.2.2.2.1 bt198.2.2.2.2.2))) else ((spec_l01Src_one.f x1000 x1001 x1002 x1003 15).bind fun bt207 => (if bt207.1 = true then ((spec_l01Src_l07Key.f k x1000 bt207.2.1 bt207.2.2.1 bt207.2.2.2).bind fun bt211 => ((spec_l01Src_n.f x1000 bt211.2.2.2.1 bt211.2.2.2.2.1 bt211.2.2.2.2.2 4).bind fun bt218 => (if bt218.1 = 0 then ((spec_l01Src_n.f x1000 bt218.2.1 bt218.2.2.1 bt218.2.2.2 2).bind fun bt222 => ((some (([] : List (S40)) : List (S40))).bind fun y226 => (if y226.length + x3.length < 3518437208883 then ((some (y226 ++ x3 : List (S40))).bind fun y229 => ((some (([(⟨wrap64 (10 * bt222.1), bt211.2.1, bt211.2.2.1⟩ : S40)] : List (S40)) : List (S40))).bind fun y232 => (if y229.length + y232.length < 3518437208883 then (spec_l01Src_l07Keys.j1 k (y229 ++ y232) x1000 bt222.2.1 bt222.2.2.1 bt222.2.2.2) else (none)))) else (none)))) else (if bt218.1 = 1 then ((spec_l01Src_n.f x1000 bt218.2.1 bt218.2.2.1 bt218.2.2.2 2).bind fun bt238 => ((spec_l01Src_l07Bytes.f k x1000 bt238.2.1 bt238.2.2.1 bt238.2.2.2 (wrap64 (7 * bt238.1))).bind fun bt242 => ((some (([] : List (S40)) : List (S40))).bind fun y246 => (if y246.length + x3.length < 3518437208883 then ((some (y246 ++ x3 : List (S40))).bind fun y249 => ((some (([(⟨bt211.1, bt242.1, bt211.2.2.1⟩ : S40)] : List (S40)) : List (S40))).bind fun y252 => (if y249.length + y252.length < 3518437208883 then (spec_l01Src_l07Keys.j1 k (y249 ++ y252) x1000 bt242.2.1 bt242.2.2.1 bt242.2.2.2) else (none)))) else (none))))) else (if bt218.1 = 2 then ((spec_l01Src_pick.f x1000 bt218.2.1 bt218.2.2.1 bt218.2.2.2 (([(⟨#[]⟩ : ByteArray), (⟨#[65]⟩ : ByteArray), (⟨#[97, 98, 99, 100, 101, 102, 103, 104, 105, 106, 107, 108, 109, 110, 111, 112, 113, 114, 115, 116, 117]⟩ : ByteArray)] : List ByteArray))).bind fun bt261 => ((some (([] : List (S40)) : List (S40))).bind fun y265 => (if y265.length + x3.length < 3518437208883 then ((some (y265 ++ x3 : List (S40))).bind fun y268 => ((some (([(⟨bt211.1, bt211.2.1, bt261.1⟩ : S40)] : List (S40)) : List (S40))).bind fun y271 => (if y268.length + y271.length < 3518437208883 then (spec_l01Src_l07Keys.j1 k (y268 ++ y271) x1000 bt261.2.1 bt261.2.2.1 bt261.2.2.2) else (none)))) else (none)))) else ((some (([] : List (S40)) : List (S40))).bind fun y277 => (if y277.length + x3.length < 3518437208883 then ((some (y277 ++ x3 : List (S40))).bind fun y280 => ((some (([(⟨bt211.1, bt211.2.1, bt211.2.2.1⟩ : S40)] : List (S40)) : List (S40))).bind fun y283 => (if y280.length + y283.length < 3518437208883 then (spec_l01Src_l07Keys.j1 k (y280 ++ y283) x1000 bt218.2.1 bt218.2.2.1 bt218.2.2.2) else (none)))) else (none)))))))) else (spec_l01Src_l07Keys.j1 k x3 x1000 bt207.2.1 bt207.2.2.1 bt207.2.2.2)))
def spec_l01Src_l07Keys.j1 : Nat → List (S40) → List Int → Int → Int → Int → Option ((List (S40)) × Int × Int × Int)
 | 0, _, _, _, _, _ => none
 | k + 1, x3, x1000, x1001, x1002, x1003 => (spec_l01Src_one.f x1000 x1001 x1002 x1003 40).bind fun bt289 => (if bt289.1 = true then (spec_l01Src_l07Keys.l1 k (([] : List (S40))) 0 x1000 bt289.2.1 bt289.2.2.1 bt289.2.2.2) else (some (x3, bt289.2.1, bt289.2.2.1, bt289.2.2.2)))
def spec_l01Src_l07Keys.l1 : Nat → List (S40) → Int → List Int → Int → Int → Int → Option ((List (S40)) × Int × Int × Int)
 | 0, _, _, _, _, _, _ => none
 | k + 1, x3, x6, x1000, x1001, x1002, x1003 => (spec_l01Src_n.f x1000 x1001 x1002 x1003 3).bind fun bt296 => (if (x3.length : Int) < (wrap64 (59 + bt296.1)) then ((some (([(⟨1, strOfNums (([(wrap64 (33 + x6)) % 256] : List Int)), (⟨#[120]⟩ : ByteArray)⟩ : S40)] : List (S40)) : List (S40))).bind fun y303 => (if x3.length + y303.length < 3518437208883 then (spec_l01Src_l07Keys.l1 k (x3 ++ y303) (wrap64 (x6 + 1)) x1000 bt296.2.1 bt296.2.2.1 bt296.2.2.2) else (none))) else (some (x3, bt296.2.1, bt296.2.2.1, bt296.2.2.2)))
end
def spec_l01Src_l07Keys.f (k : Nat) (s0_0 : List Int) (s0_1 : Int) (s0_2 : Int) (s0_3 : Int) : Option ((List (S40)) × Int × Int × Int) := (spec_l01Src_n.f s0_0 s0_1 s0_2 s0_3 (wrap64 (8 + s0_3))).bind fun bt194 => (spec_l01Src_l07Keys.l0 k (([] : List (S40))) bt194.1 s0_0 bt194.2.1 bt194.2.2.1 bt194.2.2.2)
theorem spec_l01Src_l07Keys.mono_l : ∀ k, (∀ y0 y1 y2 y3 y4 y5, LeO (spec_l01Src_l07Keys.l0 k y0 y1 y2 y3 y4 y5) (spec_l01Src_l07Keys.l0 (k + 1) y0 y1 y2 y3 y4 y5)) ∧ (∀ y0 y1 y2 y3 y4, LeO (spec_l01Src_l07Keys.j1 k y0 y1 y2 y3 y4) (spec_l01Src_l07Keys.j1 (k + 1) y0 y1 y2 y3 y4)) ∧ (∀ y0 y1 y2 y3 y4 y5, LeO (spec_l01Src_l07Keys.l1 k y0 y1 y2 y3 y4 y5) (spec_l01Src_l07Keys.l1 (k + 1) y0 y1 y2 y3 y4 y5))
 | 0 => ⟨fun _ _ _ _ _ _ r h => by simp [spec_l01Src_l07Keys.l0] at h, fun _ _ _ _ _ r h => by simp [spec_l01Src_l07Keys.j1] at h, fun _ _ _ _ _ _ r h => by simp [spec_l01Src_l07Keys.l1] at h⟩
 | k + 1 => by
  obtain ⟨ih0, ih1, ih2⟩ := spec_l01Src_l07Keys.mono_l k
  refine ⟨?_, ?_, ?_⟩
  ·intro y0 y1 y2 y3 y4 y5
   unfold spec_l01Src_l07Keys.l0
   repeat' first
   | (with_reducible exact ih0 _ _ _ _ _ _)
   | (with_reducible exact ih1 _ _ _ _ _)
   | (with_reducible exact ih2 _ _ _ _ _ _)
   | (with_reducible exact spec_KeyBind.mono _ _ _ _ _)
   | (with_reducible exact spec_l01Src_l07Bytes.mono _ _ _ _ _ _)
   | (with_reducible exact spec_l01Src_l07Key.mono _ _ _ _ _)
   | (with_reducible exact LeO.refl _)
   | (with_reducible exact LeO.none _)
   | (with_reducible refine LeO.ite ?_ ?_)
   | (with_reducible refine LeO.bind ?_ (fun _ => ?_))
   | exact ih0 _ _ _ _ _ _
   | exact ih1 _ _ _ _ _
   | exact ih2 _ _ _ _ _ _
   | exact spec_KeyBind.mono _ _ _ _ _
   | exact spec_l01Src_l07Bytes.mono _ _ _ _ _ _
   | exact spec_l01Src_l07Key.mono _ _ _ _ _
   | refine LeO.bind ?_ (fun _ => ?_)
  ·intro y0 y1 y2 y3 y4
   unfold spec_l01Src_l07Keys.j1
   repeat' first
   | (with_reducible exact ih0 _ _ _ _ _ _)
   | (with_reducible exact ih1 _ _ _ _ _)
   | (with_reducible exact ih2 _ _ _ _ _ _)
   | (with_reducible exact spec_KeyBind.mono _ _ _ _ _)
   | (with_reducible exact spec_l01Src_l07Bytes.mono _ _ _ _ _ _)
   | (with_reducible exact spec_l01Src_l07Key.mono _ _ _ _ _)
   | (with_reducible exact LeO.refl _)
   | (with_reducible exact LeO.none _)
   | (with_reducible refine LeO.ite ?_ ?_)
   | (with_reducible refine LeO.bind ?_ (fun _ => ?_))
   | exact ih0 _ _ _ _ _ _
   | exact ih1 _ _ _ _ _
   | exact ih2 _ _ _ _ _ _
   | exact spec_KeyBind.mono _ _ _ _ _
   | exact spec_l01Src_l07Bytes.mono _ _ _ _ _ _
   | exact spec_l01Src_l07Key.mono _ _ _ _ _
   | refine LeO.bind ?_ (fun _ => ?_)
  ·intro y0 y1 y2 y3 y4 y5
   unfold spec_l01Src_l07Keys.l1
   repeat' first
   | (with_reducible exact ih0 _ _ _ _ _ _)
   | (with_reducible exact ih1 _ _ _ _ _)
   | (with_reducible exact ih2 _ _ _ _ _ _)
   | (with_reducible exact spec_KeyBind.mono _ _ _ _ _)
   | (with_reducible exact spec_l01Src_l07Bytes.mono _ _ _ _ _ _)
   | (with_reducible exact spec_l01Src_l07Key.mono _ _ _ _ _)
   | (with_reducible exact LeO.refl _)
   | (with_reducible exact LeO.none _)
   | (with_reducible refine LeO.ite ?_ ?_)
   | (with_reducible refine LeO.bind ?_ (fun _ => ?_))
   | exact ih0 _ _ _ _ _ _
   | exact ih1 _ _ _ _ _
   | exact ih2 _ _ _ _ _ _
   | exact spec_KeyBind.mono _ _ _ _ _
   | exact spec_l01Src_l07Bytes.mono _ _ _ _ _ _
   | exact spec_l01Src_l07Key.mono _ _ _ _ _
   | refine LeO.bind ?_ (fun _ => ?_)
theorem spec_l01Src_l07Keys.mono : ∀ a0 a1 a2 a3 k, LeO (spec_l01Src_l07Keys.f k a0 a1 a2 a3) (spec_l01Src_l07Keys.f (k + 1) a0 a1 a2 a3) := by
 intro a0 a1 a2 a3 k
 obtain ⟨ih0, ih1, ih2⟩ := spec_l01Src_l07Keys.mono_l k
 unfold spec_l01Src_l07Keys.f
 repeat' first
   | (with_reducible exact ih0 _ _ _ _ _ _)
   | (with_reducible exact ih1 _ _ _ _ _)
   | (with_reducible exact ih2 _ _ _ _ _ _)
   | (with_reducible exact spec_KeyBind.mono _ _ _ _ _)
   | (with_reducible exact spec_l01Src_l07Bytes.mono _ _ _ _ _ _)
   | (with_reducible exact spec_l01Src_l07Key.mono _ _ _ _ _)
   | (with_reducible exact LeO.refl _)
   | (with_reducible exact LeO.none _)
   | (with_reducible refine LeO.ite ?_ ?_)
   | (with_reducible refine LeO.bind ?_ (fun _ => ?_))
   | exact ih0 _ _ _ _ _ _
   | exact ih1 _ _ _ _ _
   | exact ih2 _ _ _ _ _ _
   | exact spec_KeyBind.mono _ _ _ _ _
   | exact spec_l01Src_l07Bytes.mono _ _ _ _ _ _
   | exact spec_l01Src_l07Key.mono _ _ _ _ _
   | refine LeO.bind ?_ (fun _ => ?_)
set_option maxHeartbeats 8000000 in
set_option maxRecDepth 100000 in
theorem spec_l01Src_l07Keys.calls (k : Nat) (g : Nat) (s0_0 : List Int) (s0_1 : Int) (s0_2 : Int) (s0_3 : Int) (r1 : List (S40)) (r2 : Int) (r3 : Int) (r4 : Int) (w0 w : World) (hI : IsS63 w0 w g s0_0 s0_1 s0_2 s0_3) (hB : Below w0.heap.size w0 w) (h : spec_l01Src_l07Keys.f k s0_0 s0_1 s0_2 s0_3 = some (r1, r2, r3, r4)) :
  Calls Try.prog 30 #[.pointer (some ⟨g, 0, none⟩)] w fun e w' => ∃ v0_ : Value, e = .returned (v0_) ∧ Kd.R k40 40 w' w.heap.size (fun _ => True) v0_ r1 ∧ IsS63 w0 w' g s0_0 r2 r3 r4 ∧ Below w0.heap.size w0 w' ∧ KeepBut w w' g none := by
 have hu40 := Try.underlying40
 have HI0 := am hI
 have HK := am (KeepBut.refl w g none)
 have HL := am hB.size
 clear hI
 have HW0 := am hB.size
 have HB := am hB
 clear hB
 have H : ((spec_l01Src_n.f s0_0 s0_1 s0_2 s0_3 (wrap64 (8 + s0_3))).bind fun bt194 => (spec_l01Src_l07Keys.l0 k (([] : List (S40))) bt194.1 s0_0 bt194.2.1 bt194.2.2.1 bt194.2.2.2)) = some (r1, r2, r3, r4) := h
 clear h
 obtain ⟨y191, hy191⟩ : ∃ y_ : List (S40), y_ = (([] : List (S40))) := ⟨_, rfl⟩
 replace H : ((spec_l01Src_n.f s0_0 s0_1 s0_2 s0_3 (wrap64 (8 + s0_3))).bind fun bt194 => (spec_l01Src_l07Keys.l0 k y191 bt194.1 s0_0 bt194.2.1 bt194.2.2.1 bt194.2.2.2)) = some (r1, r2, r3, r4) := by first | (rw [hy191]; with_reducible exact H) | (have H2_ := (Option.bind_some _ _).symm.trans H; rw [hy191]; with_reducible exact H2_) | (have H2_ := (Option.bind_some _ _).symm.trans H; with_reducible exact H2_) | with_reducible exact H | (rw [hy191]; exact H) | exact H
 have Ny191 := am hy191
 clear hy191
 replace H := Option.bind_eq_some_iff.mp H
 obtain ⟨⟨t194, t195, t196, t197⟩, A20, H⟩ := H
 replace H : (spec_l01Src_l07Keys.l0 k y191 t194 s0_0 t195 t196 t197) = some (r1, r2, r3, r4) := H
 have A2 := Aside0.mk A20
 clear A20
 have H' := Aside0.mk H
 clear H
 go_enter Try.func30, Try.ntmps30
 go_wp2_with (first | ((with_reducible refine gate_dst (N := 7) rfl ?_); refine Kd.R_lit k40 _ 40 ?hg (N := 7) ?hd (xs := ([] : List (S40))) (inner := []) (ok := fun _ => True) (okp := fun _ => True) ?hr ?hp (fun _ hk => hk) trivial (Below.refl _ _) (Nat.le_refl _) (by simp) ?_; (case hd => rfl); (case hg => rfl); (case hr => first | (go_simp; done) | (go_simp; rfl)); (case hp => exact (Reps.none _ _)); intro v192 w3 ho4 hb hg_ hnew_; clear hg_ hnew_; (first | rw [← Ny191.out] at ho4 | (simp only [Int.reduceToNat] at ho4; rw [← Ny191.out] at ho4)); have HO193 := am (Kd.R_lower ho4 (keep_size (w := w) (g := g) (row := none) (by repeat (first | (with_reducible first | exact HK.out | apply KeepBut.set_ | apply keep_drewN | apply keep_drew | apply keep_alloc) | exact HK.out)))); replace HK := am (KeepBut.trans (by repeat (first | (with_reducible first | exact HK.out | apply KeepBut.set_ | apply keep_drewN | apply keep_drew | apply keep_alloc) | exact HK.out)) (KeepBut.of_below hb g none) (.inl rfl)); replace HB := am (below_step (by repeat (first | (with_reducible first | exact HB.out | apply below_alloc | apply pw_below_drewN | apply below_drew1 | refine below_set ?_ (IsS63.ge HI0.out)) | exact HB.out)) hb); replace HI0 := am (IsS63.below (by repeat (first | (with_reducible first | exact HI0.out | apply IsS63.alloc | apply IsS63.drewN | apply IsS63.drew | apply IsS63.set_1 | apply IsS63.set_2 | apply IsS63.set_3) | exact HI0.out)) hb); clear hb ho4; obtain ⟨ASz5_0, cSz5_0, HGz5, hgz5, HSz5_0⟩ := HI0.out; have hcz5_0 := cellS63_0 HGz5; have hcz5_1 := cellS63_1 HGz5; have hcz5_2 := cellS63_2 HGz5; have hcz5_3 := cellS63_3 HGz5; have hfz5_1 := blk_frozen HGz5 1; have hfz5_2 := blk_frozen HGz5 2; have hfz5_3 := blk_frozen HGz5 3; clear HGz5 hgz5) | ((with_reducible refine gate_callee (f := 31) rfl ?_); refine gl (some 14) Try.func31 #[.pointer (some ⟨g, 0, none⟩), .int .i64 (wrap64 (8 + s0_3))] ?_; (with_reducible refine (spec_l01Src_n.calls g s0_0 s0_1 s0_2 s0_3 (wrap64 (8 + s0_3)) t194 t195 t196 t197 w0 _ ?side1 ?side2 A2.out).mono ?_); (case side1 => repeat (first | (with_reducible first | exact HI0.out | apply IsS63.alloc | apply IsS63.drewN | apply IsS63.drew | apply IsS63.set_1 | apply IsS63.set_2 | apply IsS63.set_3) | exact HI0.out)); (case side2 => repeat (first | (with_reducible first | exact HB.out | apply below_alloc | apply pw_below_drewN | apply below_drew1 | refine below_set ?_ (IsS63.ge HI0.out)) | exact HB.out)); rintro e w6 ⟨rfl, hi, hb, hk⟩; refine ⟨_, rfl, ?_⟩; replace HO193 := am (Kd.R_mono (Kd.R_keep (IsS63.apart (show IsS63 w0 _ g s0_0 s0_1 s0_2 s0_3 from by repeat (first | (with_reducible first | exact HI0.out | apply IsS63.alloc | apply IsS63.drewN | apply IsS63.drew | apply IsS63.set_1 | apply IsS63.set_2 | apply IsS63.set_3) | exact HI0.out)) (kr HO193.out) (by decide)) hk (fun _ h => h.2)) (fun _ h => h.1)); replace HK := am (KeepBut.trans (by repeat (first | (with_reducible first | exact HK.out | apply KeepBut.set_ | apply keep_drewN | apply keep_drew | apply keep_alloc) | exact HK.out)) hk (.inl rfl)); replace HB := am (hb); replace HI0 := am (hi); (try clear hb); (try clear hb2); (try clear hk); (try clear hi)))
 go_loopg [3, 4] k (fun kq v3 v4 w' => ∃ (x3_1 : List (S40)) (x4_1 : Int) (x1001_1 : Int) (x1002_1 : Int) (x1003_1 : Int), v4 = .int .i64 x4_1 ∧ Aside0 (spec_l01Src_l07Keys.l0 kq x3_1 x4_1 s0_0 x1001_1 x1002_1 x1003_1 = some (r1, r2, r3, r4)) ∧ Aside0 (kq ≤ k) ∧ Aside0 (Kd.R k40 40 w' w.heap.size (fun _ => True) v3 x3_1) ∧ Aside0 (IsS63 w0 w' g s0_0 x1001_1 x1002_1 x1003_1) ∧ Aside0 (KeepBut w w' g none) ∧ Aside0 (Below w0.heap.size w0 w'))
 case atStart => exact ⟨(y191), (t194), (t195), (t196), (t197), (by first | rfl | (simp; done) | (simp [*]; done)), H', ⟨Nat.le_refl _⟩, ⟨kr HO193.out⟩, ⟨by repeat (first | (with_reducible first | exact HI0.out | apply IsS63.alloc | apply IsS63.drewN | apply IsS63.drew | apply IsS63.set_1 | apply IsS63.set_2 | apply IsS63.set_3) | exact HI0.out)⟩, ⟨by repeat (first | (with_reducible first | exact HK.out | apply KeepBut.set_ | apply keep_drewN | apply keep_drew | apply keep_alloc) | exact HK.out)⟩, ⟨by repeat (first | (with_reducible first | exact HB.out | apply below_alloc | apply pw_below_drewN | apply below_drew1 | refine below_set ?_ (IsS63.ge HI0.out)) | exact HB.out)⟩⟩
 case round =>
  clear H'
  try clear p2
  try clear c3
  try clear p6
  try clear hcz5_0
  try clear hcz5_1
  try clear hcz5_2
  try clear hcz5_3
  try clear hfz5_1
  try clear hfz5_2
  try clear hfz5_3
  obtain ⟨x3_1, x4_1, x1001_1, x1002_1, x1003_1, rfl, HA, HK1, HO_3, HI0, HK, HB⟩ := hrel
  cases gk with
  | zero => exact absurd HA.out (by simp [spec_l01Src_l07Keys.l0])
  | succ k1 =>
   have H := HA.out
   clear HA
   simp only [spec_l01Src_l07Keys.l0] at H
   by_cases c7 : x4_1 > 0
   ·rw [if_pos c7] at H
    have c7b0 : decide (0 < x4_1) = true := decide_eq_true c7
    clear c7
    replace H := Option.bind_eq_some_iff.mp H
    obtain ⟨⟨t198, t199, t200, t201, t202, t203⟩, A80, H⟩ := H
    replace H : ((spec_KeyBind.f k1 x3_1 t198 t199 t200).bind fun t204 => (spec_l01Src_l07Keys.l0 k1 t204 (wrap64 (x4_1 - 1)) s0_0 t201 t202 t203)) = some (r1, r2, r3, r4) := H
    have A8 := Aside0.mk A80
    clear A80
    replace H := Option.bind_eq_some_iff.mp H
    obtain ⟨t204, A90, H⟩ := H
    replace H : (spec_l01Src_l07Keys.l0 k1 t204 (wrap64 (x4_1 - 1)) s0_0 t201 t202 t203) = some (r1, r2, r3, r4) := H
    have A9 := Aside0.mk A90
    clear A90
    have H' := Aside0.mk H
    clear H
    go_wp2_with (first | ((with_reducible refine gate_callee (f := 46) rfl ?_); refine gl (some 21) Try.func46 #[.pointer (some ⟨g, 0, none⟩)] ?_; (with_reducible refine (spec_l01Src_l07Key.calls k1 g s0_0 x1001_1 x1002_1 x1003_1 t198 t199 t200 t201 t202 t203 w0 _ ?side1 ?side2 A8.out).mono ?_); (case side1 => repeat (first | (with_reducible first | exact HI0.out | apply IsS63.alloc | apply IsS63.drewN | apply IsS63.drew | apply IsS63.set_1 | apply IsS63.set_2 | apply IsS63.set_3) | exact HI0.out)); (case side2 => repeat (first | (with_reducible first | exact HB.out | apply below_alloc | apply pw_below_drewN | apply below_drew1 | refine below_set ?_ (IsS63.ge HI0.out)) | exact HB.out)); rintro e w10 ⟨rfl, hi, hb, hk⟩; refine ⟨_, rfl, ?_⟩; replace HO_3 := am (Kd.R_mono (Kd.R_keep (IsS63.apart (show IsS63 w0 _ g s0_0 x1001_1 x1002_1 x1003_1 from by repeat (first | (with_reducible first | exact HI0.out | apply IsS63.alloc | apply IsS63.drewN | apply IsS63.drew | apply IsS63.set_1 | apply IsS63.set_2 | apply IsS63.set_3) | exact HI0.out)) (kr HO_3.out) (by decide)) hk (fun _ h => h.2)) (fun _ h => h.1)); replace HK := am (KeepBut.trans (by repeat (first | (with_reducible first | exact HK.out | apply KeepBut.set_ | apply keep_drewN | apply keep_drew | apply keep_alloc) | exact HK.out)) hk (.inl rfl)); replace HB := am (hb); replace HI0 := am (hi); (try clear hb); (try clear hb2); (try clear hk); (try clear hi); obtain ⟨Ao11, co11, eo11⟩ := Kd.R_slice HO_3.out; subst eo11) | ((with_reducible refine gate_callee (f := 17) rfl ?_); refine gl (some 22) Try.func17 #[.slice Ao11 x3_1.length co11, .agg #[.int .i64 t198, .string t199, .string t200]] ?_; (with_reducible refine (spec_KeyBind.calls k1 _ _ x3_1 t198 t199 t200 t204 _ ?side1 ?side2 A9.out).mono ?_); (case side1 => repeat (first | exact (Kd.R_reads' HO_3.out).2.2 | (with_reducible refine Kd.C_alloc ?_ _) | (with_reducible refine Kd.C_drewN ?_ _) | (with_reducible refine Kd.C_drew ?_))); (case side2 => exact (Kd.R_reads' HO_3.out).2.1); rintro e w12 ⟨v205, rfl, ho0, hb⟩; refine ⟨_, rfl, ?_⟩; have HO206 := am (Kd.R_lower (Kd.R_new' ho0 (Kd.R_lt (kr HO_3.out))) (keep_size (w := w) (g := g) (row := none) (by repeat (first | (with_reducible first | exact HK.out | apply KeepBut.set_ | apply keep_drewN | apply keep_drew | apply keep_alloc) | exact HK.out)))); replace HO_3 := am (Kd.R_elder' (kr HO_3.out) (Kd.R_base ho0) hb); replace HK := am (KeepBut.trans (by repeat (first | (with_reducible first | exact HK.out | apply KeepBut.set_ | apply keep_drewN | apply keep_drew | apply keep_alloc) | exact HK.out)) (KeepBut.of_below hb g none) (.inl rfl)); replace HB := am (below_step (by repeat (first | (with_reducible first | exact HB.out | apply below_alloc | apply pw_below_drewN | apply below_drew1 | refine below_set ?_ (IsS63.ge HI0.out)) | exact HB.out)) hb); replace HI0 := am (IsS63.below (by repeat (first | (with_reducible first | exact HI0.out | apply IsS63.alloc | apply IsS63.drewN | apply IsS63.drew | apply IsS63.set_1 | apply IsS63.set_2 | apply IsS63.set_3) | exact HI0.out)) hb); (try clear hb); (try clear hb2); (try clear hk); (try clear hi); (try clear ho0)))
    go_roundg k1
    case measure => have := HK1.out; omega
    case rel => exact ⟨(t204), (wrap64 (x4_1 - 1)), (t201), (t202), (t203), (by first | rfl | (simp; done) | (simp [*]; done)), H', ⟨by have := HK1.out; omega⟩, ⟨kr (Kd.R_mono HO206.out (fun _ hk => trivial))⟩, ⟨by repeat (first | (with_reducible first | exact HI0.out | apply IsS63.alloc | apply IsS63.drewN | apply IsS63.drew | apply IsS63.set_1 | apply IsS63.set_2 | apply IsS63.set_3) | exact HI0.out)⟩, ⟨by repeat (first | (with_reducible first | exact HK.out | apply KeepBut.set_ | apply keep_drewN | apply keep_drew | apply keep_alloc) | exact HK.out)⟩, ⟨by repeat (first | (with_reducible first | exact HB.out | apply below_alloc | apply pw_below_drewN | apply below_drew1 | refine below_set ?_ (IsS63.ge HI0.out)) | exact HB.out)⟩⟩
   ·rw [if_neg c7] at H
    have c7b0 : decide (0 < x4_1) = false := decide_eq_false c7
    clear c7
    replace H := Option.bind_eq_some_iff.mp H
    obtain ⟨⟨t207, t208, t209, t210⟩, A130, H⟩ := H
    replace H : (if t207 = true then ((spec_l01Src_l07Key.f k1 s0_0 t208 t209 t210).bind fun bt211 => ((spec_l01Src_n.f s0_0 bt211.2.2.2.1 bt211.2.2.2.2.1 bt211.2.2.2.2.2 4).bind fun bt218 => (if bt218.1 = 0 then ((spec_l01Src_n.f s0_0 bt218.2.1 bt218.2.2.1 bt218.2.2.2 2).bind fun bt222 => ((some (([] : List (S40)) : List (S40))).bind fun y226 => (if y226.length + x3_1.length < 3518437208883 then ((some (y226 ++ x3_1 : List (S40))).bind fun y229 => ((some (([(⟨wrap64 (10 * bt222.1), bt211.2.1, bt211.2.2.1⟩ : S40)] : List (S40)) : List (S40))).bind fun y232 => (if y229.length + y232.length < 3518437208883 then (spec_l01Src_l07Keys.j1 k1 (y229 ++ y232) s0_0 bt222.2.1 bt222.2.2.1 bt222.2.2.2) else (none)))) else (none)))) else (if bt218.1 = 1 then ((spec_l01Src_n.f s0_0 bt218.2.1 bt218.2.2.1 bt218.2.2.2 2).bind fun bt238 => ((spec_l01Src_l07Bytes.f k1 s0_0 bt238.2.1 bt238.2.2.1 bt238.2.2.2 (wrap64 (7 * bt238.1))).bind fun bt242 => ((some (([] : List (S40)) : List (S40))).bind fun y246 => (if y246.length + x3_1.length < 3518437208883 then ((some (y246 ++ x3_1 : List (S40))).bind fun y249 => ((some (([(⟨bt211.1, bt242.1, bt211.2.2.1⟩ : S40)] : List (S40)) : List (S40))).bind fun y252 => (if y249.length + y252.length < 3518437208883 then (spec_l01Src_l07Keys.j1 k1 (y249 ++ y252) s0_0 bt242.2.1 bt242.2.2.1 bt242.2.2.2) else (none)))) else (none))))) else (if bt218.1 = 2 then ((spec_l01Src_pick.f s0_0 bt218.2.1 bt218.2.2.1 bt218.2.2.2 (([(⟨#[]⟩ : ByteArray), (⟨#[65]⟩ : ByteArray), (⟨#[97, 98, 99, 100, 101, 102, 103, 104, 105, 106, 107, 108, 109, 110, 111, 112, 113, 114, 115, 116, 117]⟩ : ByteArray)] : List ByteArray))).bind fun bt261 => ((some (([] : List (S40)) : List (S40))).bind fun y265 => (if y265.length + x3_1.length < 3518437208883 then ((some (y265 ++ x3_1 : List (S40))).bind fun y268 => ((some (([(⟨bt211.1, bt211.2.1, bt261.1⟩ : S40)] : List (S40)) : List (S40))).bind fun y271 => (if y268.length + y271.length < 3518437208883 then (spec_l01Src_l07Keys.j1 k1 (y268 ++ y271) s0_0 bt261.2.1 bt261.2.2.1 bt261.2.2.2) else (none)))) else (none)))) else ((some (([] : List (S40)) : List (S40))).bind fun y277 => (if y277.length + x3_1.length < 3518437208883 then ((some (y277 ++ x3_1 : List (S40))).bind fun y280 => ((some (([(⟨bt211.1, bt211.2.1, bt211.2.2.1⟩ : S40)] : List (S40)) : List (S40))).bind fun y283 => (if y280.length + y283.length < 3518437208883 then (spec_l01Src_l07Keys.j1 k1 (y280 ++ y283) s0_0 bt218.2.1 bt218.2.2.1 bt218.2.2.2) else (none)))) else (none)))))))) else (spec_l01Src_l07Keys.j1 k1 x3_1 s0_0 t208 t209 t210)) = some (r1, r2, r3, r4) := H
    have A13 := Aside0.mk A130
    clear A130
    have HC14 := Aside0.mk H
    clear H
    go_upto_if 24 with (first | ((with_reducible refine gate_callee (f := 32) rfl ?_); refine gl (some 24) Try.func32 #[.pointer (some ⟨g, 0, none⟩), .int .i64 15] ?_; (with_reducible refine (spec_l01Src_one.calls g s0_0 x1001_1 x1002_1 x1003_1 15 t207 t208 t209 t210 w0 _ ?side1 ?side2 A13.out).mono ?_); (case side1 => repeat (first | (with_reducible first | exact HI0.out | apply IsS63.alloc | apply IsS63.drewN | apply IsS63.drew | apply IsS63.set_1 | apply IsS63.set_2 | apply IsS63.set_3) | exact HI0.out)); (case side2 => repeat (first | (with_reducible first | exact HB.out | apply below_alloc | apply pw_below_drewN | apply below_drew1 | refine below_set ?_ (IsS63.ge HI0.out)) | exact HB.out)); rintro e w15 ⟨rfl, hi, hb, hk⟩; refine ⟨_, rfl, ?_⟩; replace HO_3 := am (Kd.R_mono (Kd.R_keep (IsS63.apart (show IsS63 w0 _ g s0_0 x1001_1 x1002_1 x1003_1 from by repeat (first | (with_reducible first | exact HI0.out | apply IsS63.alloc | apply IsS63.drewN | apply IsS63.drew | apply IsS63.set_1 | apply IsS63.set_2 | apply IsS63.set_3) | exact HI0.out)) (kr HO_3.out) (by decide)) hk (fun _ h => h.2)) (fun _ h => h.1)); replace HK := am (KeepBut.trans (by repeat (first | (with_reducible first | exact HK.out | apply KeepBut.set_ | apply keep_drewN | apply keep_drew | apply keep_alloc) | exact HK.out)) hk (.inl rfl)); replace HB := am (hb); replace HI0 := am (hi); (try clear hb); (try clear hb2); (try clear hk); (try clear hi)))
    (try simp only [Act.put, sa_, s0_, ss_])
    go_cut [3] (fun v3 wc => ∃ (kq : Nat) (x3_13 : List (S40)) (x1001_13 : Int) (x1002_13 : Int) (x1003_13 : Int), Aside0 (spec_l01Src_l07Keys.j1 kq x3_13 s0_0 x1001_13 x1002_13 x1003_13 = some (r1, r2, r3, r4)) ∧ Aside0 (kq ≤ k1) ∧ Aside0 (Kd.R k40 40 wc w.heap.size (fun _ => True) v3 x3_13) ∧ Aside0 (IsS63 w0 wc g s0_0 x1001_13 x1002_13 x1003_13) ∧ Aside0 (KeepBut w wc g none) ∧ Aside0 (Below w0.heap.size w0 wc))
    case first =>
     have H := HC14.out
     clear HC14
     by_cases c16 : t207 = true
     ·subst c16
      have H1 : ((spec_l01Src_l07Key.f k1 s0_0 t208 t209 t210).bind fun bt211 => ((spec_l01Src_n.f s0_0 bt211.2.2.2.1 bt211.2.2.2.2.1 bt211.2.2.2.2.2 4).bind fun bt218 => (if bt218.1 = 0 then ((spec_l01Src_n.f s0_0 bt218.2.1 bt218.2.2.1 bt218.2.2.2 2).bind fun bt222 => ((some (([] : List (S40)) : List (S40))).bind fun y226 => (if y226.length + x3_1.length < 3518437208883 then ((some (y226 ++ x3_1 : List (S40))).bind fun y229 => ((some (([(⟨wrap64 (10 * bt222.1), bt211.2.1, bt211.2.2.1⟩ : S40)] : List (S40)) : List (S40))).bind fun y232 => (if y229.length + y232.length < 3518437208883 then (spec_l01Src_l07Keys.j1 k1 (y229 ++ y232) s0_0 bt222.2.1 bt222.2.2.1 bt222.2.2.2) else (none)))) else (none)))) else (if bt218.1 = 1 then ((spec_l01Src_n.f s0_0 bt218.2.1 bt218.2.2.1 bt218.2.2.2 2).bind fun bt238 => ((spec_l01Src_l07Bytes.f k1 s0_0 bt238.2.1 bt238.2.2.1 bt238.2.2.2 (wrap64 (7 * bt238.1))).bind fun bt242 => ((some (([] : List (S40)) : List (S40))).bind fun y246 => (if y246.length + x3_1.length < 3518437208883 then ((some (y246 ++ x3_1 : List (S40))).bind fun y249 => ((some (([(⟨bt211.1, bt242.1, bt211.2.2.1⟩ : S40)] : List (S40)) : List (S40))).bind fun y252 => (if y249.length + y252.length < 3518437208883 then (spec_l01Src_l07Keys.j1 k1 (y249 ++ y252) s0_0 bt242.2.1 bt242.2.2.1 bt242.2.2.2) else (none)))) else (none))))) else (if bt218.1 = 2 then ((spec_l01Src_pick.f s0_0 bt218.2.1 bt218.2.2.1 bt218.2.2.2 (([(⟨#[]⟩ : ByteArray), (⟨#[65]⟩ : ByteArray), (⟨#[97, 98, 99, 100, 101, 102, 103, 104, 105, 106, 107, 108, 109, 110, 111, 112, 113, 114, 115, 116, 117]⟩ : ByteArray)] : List ByteArray))).bind fun bt261 => ((some (([] : List (S40)) : List (S40))).bind fun y265 => (if y265.length + x3_1.length < 3518437208883 then ((some (y265 ++ x3_1 : List (S40))).bind fun y268 => ((some (([(⟨bt211.1, bt211.2.1, bt261.1⟩ : S40)] : List (S40)) : List (S40))).bind fun y271 => (if y268.length + y271.length < 3518437208883 then (spec_l01Src_l07Keys.j1 k1 (y268 ++ y271) s0_0 bt261.2.1 bt261.2.2.1 bt261.2.2.2) else (none)))) else (none)))) else ((some (([] : List (S40)) : List (S40))).bind fun y277 => (if y277.length + x3_1.length < 3518437208883 then ((some (y277 ++ x3_1 : List (S40))).bind fun y280 => ((some (([(⟨bt211.1, bt211.2.1, bt211.2.2.1⟩ : S40)] : List (S40)) : List (S40))).bind fun y283 => (if y280.length + y283.length < 3518437208883 then (spec_l01Src_l07Keys.j1 k1 (y280 ++ y283) s0_0 bt218.2.1 bt218.2.2.1 bt218.2.2.2) else (none)))) else (none)))))))) = some (r1, r2, r3, r4) := by rw [if_pos rfl] at H; exact H
      clear H
      have H := H1
      clear H1
      replace H := Option.bind_eq_some_iff.mp H
      obtain ⟨⟨t211, t212, t213, t214, t215, t216⟩, A170, H⟩ := H
      replace H : ((spec_l01Src_n.f s0_0 t214 t215 t216 4).bind fun bt218 => (if bt218.1 = 0 then ((spec_l01Src_n.f s0_0 bt218.2.1 bt218.2.2.1 bt218.2.2.2 2).bind fun bt222 => ((some (([] : List (S40)) : List (S40))).bind fun y226 => (if y226.length + x3_1.length < 3518437208883 then ((some (y226 ++ x3_1 : List (S40))).bind fun y229 => ((some (([(⟨wrap64 (10 * bt222.1), t212, t213⟩ : S40)] : List (S40)) : List (S40))).bind fun y232 => (if y229.length + y232.length < 3518437208883 then (spec_l01Src_l07Keys.j1 k1 (y229 ++ y232) s0_0 bt222.2.1 bt222.2.2.1 bt222.2.2.2) else (none)))) else (none)))) else (if bt218.1 = 1 then ((spec_l01Src_n.f s0_0 bt218.2.1 bt218.2.2.1 bt218.2.2.2 2).bind fun bt238 => ((spec_l01Src_l07Bytes.f k1 s0_0 bt238.2.1 bt238.2.2.1 bt238.2.2.2 (wrap64 (7 * bt238.1))).bind fun bt242 => ((some (([] : List (S40)) : List (S40))).bind fun y246 => (if y246.length + x3_1.length < 3518437208883 then ((some (y246 ++ x3_1 : List (S40))).bind fun y249 => ((some (([(⟨t211, bt242.1, t213⟩ : S40)] : List (S40)) : List (S40))).bind fun y252 => (if y249.length + y252.length < 3518437208883 then (spec_l01Src_l07Keys.j1 k1 (y249 ++ y252) s0_0 bt242.2.1 bt242.2.2.1 bt242.2.2.2) else (none)))) else (none))))) else (if bt218.1 = 2 then ((spec_l01Src_pick.f s0_0 bt218.2.1 bt218.2.2.1 bt218.2.2.2 (([(⟨#[]⟩ : ByteArray), (⟨#[65]⟩ : ByteArray), (⟨#[97, 98, 99, 100, 101, 102, 103, 104, 105, 106, 107, 108, 109, 110, 111, 112, 113, 114, 115, 116, 117]⟩ : ByteArray)] : List ByteArray))).bind fun bt261 => ((some (([] : List (S40)) : List (S40))).bind fun y265 => (if y265.length + x3_1.length < 3518437208883 then ((some (y265 ++ x3_1 : List (S40))).bind fun y268 => ((some (([(⟨t211, t212, bt261.1⟩ : S40)] : List (S40)) : List (S40))).bind fun y271 => (if y268.length + y271.length < 3518437208883 then (spec_l01Src_l07Keys.j1 k1 (y268 ++ y271) s0_0 bt261.2.1 bt261.2.2.1 bt261.2.2.2) else (none)))) else (none)))) else ((some (([] : List (S40)) : List (S40))).bind fun y277 => (if y277.length + x3_1.length < 3518437208883 then ((some (y277 ++ x3_1 : List (S40))).bind fun y280 => ((some (([(⟨t211, t212, t213⟩ : S40)] : List (S40)) : List (S40))).bind fun y283 => (if y280.length + y283.length < 3518437208883 then (spec_l01Src_l07Keys.j1 k1 (y280 ++ y283) s0_0 bt218.2.1 bt218.2.2.1 bt218.2.2.2) else (none)))) else (none))))))) = some (r1, r2, r3, r4) := H
      have A17 := Aside0.mk A170
      clear A170
      replace H := Option.bind_eq_some_iff.mp H
      obtain ⟨⟨t218, t219, t220, t221⟩, A180, H⟩ := H
      replace H : (if t218 = 0 then ((spec_l01Src_n.f s0_0 t219 t220 t221 2).bind fun bt222 => ((some (([] : List (S40)) : List (S40))).bind fun y226 => (if y226.length + x3_1.length < 3518437208883 then ((some (y226 ++ x3_1 : List (S40))).bind fun y229 => ((some (([(⟨wrap64 (10 * bt222.1), t212, t213⟩ : S40)] : List (S40)) : List (S40))).bind fun y232 => (if y229.length + y232.length < 3518437208883 then (spec_l01Src_l07Keys.j1 k1 (y229 ++ y232) s0_0 bt222.2.1 bt222.2.2.1 bt222.2.2.2) else (none)))) else (none)))) else (if t218 = 1 then ((spec_l01Src_n.f s0_0 t219 t220 t221 2).bind fun bt238 => ((spec_l01Src_l07Bytes.f k1 s0_0 bt238.2.1 bt238.2.2.1 bt238.2.2.2 (wrap64 (7 * bt238.1))).bind fun bt242 => ((some (([] : List (S40)) : List (S40))).bind fun y246 => (if y246.length + x3_1.length < 3518437208883 then ((some (y246 ++ x3_1 : List (S40))).bind fun y249 => ((some (([(⟨t211, bt242.1, t213⟩ : S40)] : List (S40)) : List (S40))).bind fun y252 => (if y249.length + y252.length < 3518437208883 then (spec_l01Src_l07Keys.j1 k1 (y249 ++ y252) s0_0 bt242.2.1 bt242.2.2.1 bt242.2.2.2) else (none)))) else (none))))) else (if t218 = 2 then ((spec_l01Src_pick.f s0_0 t219 t220 t221 (([(⟨#[]⟩ : ByteArray), (⟨#[65]⟩ : ByteArray), (⟨#[97, 98, 99, 100, 101, 102, 103, 104, 105, 106, 107, 108, 109, 110, 111, 112, 113, 114, 115, 116, 117]⟩ : ByteArray)] : List ByteArray))).bind fun bt261 => ((some (([] : List (S40)) : List (S40))).bind fun y265 => (if y265.length + x3_1.length < 3518437208883 then ((some (y265 ++ x3_1 : List (S40))).bind fun y268 => ((some (([(⟨t211, t212, bt261.1⟩ : S40)] : List (S40)) : List (S40))).bind fun y271 => (if y268.length + y271.length < 3518437208883 then (spec_l01Src_l07Keys.j1 k1 (y268 ++ y271) s0_0 bt261.2.1 bt261.2.2.1 bt261.2.2.2) else (none)))) else (none)))) else ((some (([] : List (S40)) : List (S40))).bind fun y277 => (if y277.length + x3_1.length < 3518437208883 then ((some (y277 ++ x3_1 : List (S40))).bind fun y280 => ((some (([(⟨t211, t212, t213⟩ : S40)] : List (S40)) : List (S40))).bind fun y283 => (if y280.length + y283.length < 3518437208883 then (spec_l01Src_l07Keys.j1 k1 (y280 ++ y283) s0_0 t219 t220 t221) else (none)))) else (none)))))) = some (r1, r2, r3, r4) := H
      have A18 := Aside0.mk A180
      clear A180
      by_cases c19 : t218 = 0
      ·rw [if_pos c19] at H
       have c19b0 : (t218 == 0) = true := beq_iff_eq.mpr c19
       have c19b1 : (t218 != 0) = false := bne_eq_false_iff_eq.mpr c19
       clear c19
       (first | rw [c19b0] | (simp only [i64_w, i32_w]; rw [c19b0]) | (have e9_ := c19b0; unfold bne at e9_; rw [e9_]) | skip)
       replace H := Option.bind_eq_some_iff.mp H
       obtain ⟨⟨t222, t223, t224, t225⟩, A200, H⟩ := H
       replace H : ((some (([] : List (S40)) : List (S40))).bind fun y226 => (if y226.length + x3_1.length < 3518437208883 then ((some (y226 ++ x3_1 : List (S40))).bind fun y229 => ((some (([(⟨wrap64 (10 * t222), t212, t213⟩ : S40)] : List (S40)) : List (S40))).bind fun y232 => (if y229.length + y232.length < 3518437208883 then (spec_l01Src_l07Keys.j1 k1 (y229 ++ y232) s0_0 t223 t224 t225) else (none)))) else (none))) = some (r1, r2, r3, r4) := H
       have A20 := Aside0.mk A200
       clear A200
       obtain ⟨y226, hy226⟩ : ∃ y_ : List (S40), y_ = (([] : List (S40))) := ⟨_, rfl⟩
       replace H : (if y226.length + x3_1.length < 3518437208883 then ((some (y226 ++ x3_1 : List (S40))).bind fun y229 => ((some (([(⟨wrap64 (10 * t222), t212, t213⟩ : S40)] : List (S40)) : List (S40))).bind fun y232 => (if y229.length + y232.length < 3518437208883 then (spec_l01Src_l07Keys.j1 k1 (y229 ++ y232) s0_0 t223 t224 t225) else (none)))) else (none)) = some (r1, r2, r3, r4) := by first | (rw [hy226]; with_reducible exact H) | (have H2_ := (Option.bind_some _ _).symm.trans H; rw [hy226]; with_reducible exact H2_) | (have H2_ := (Option.bind_some _ _).symm.trans H; with_reducible exact H2_) | with_reducible exact H | (rw [hy226]; exact H) | exact H
       have Ny226 := am hy226
       clear hy226
       by_cases c21 : y226.length + x3_1.length < 3518437208883
       ·rw [if_pos c21] at H
        have LMc21 := Aside0.mk c21
        clear c21
        obtain ⟨y229, hy229⟩ : ∃ y_ : List (S40), y_ = (y226 ++ x3_1) := ⟨_, rfl⟩
        replace H : ((some (([(⟨wrap64 (10 * t222), t212, t213⟩ : S40)] : List (S40)) : List (S40))).bind fun y232 => (if y229.length + y232.length < 3518437208883 then (spec_l01Src_l07Keys.j1 k1 (y229 ++ y232) s0_0 t223 t224 t225) else (none))) = some (r1, r2, r3, r4) := by first | (rw [hy229]; with_reducible exact H) | (have H2_ := (Option.bind_some _ _).symm.trans H; rw [hy229]; with_reducible exact H2_) | (have H2_ := (Option.bind_some _ _).symm.trans H; with_reducible exact H2_) | with_reducible exact H | (rw [hy229]; exact H) | exact H
        have Ny229 := am hy229
        clear hy229
        obtain ⟨y232, hy232⟩ : ∃ y_ : List (S40), y_ = (([(⟨wrap64 (10 * t222), t212, t213⟩ : S40)] : List (S40))) := ⟨_, rfl⟩
        replace H : (if y229.length + y232.length < 3518437208883 then (spec_l01Src_l07Keys.j1 k1 (y229 ++ y232) s0_0 t223 t224 t225) else (none)) = some (r1, r2, r3, r4) := by first | (rw [hy232]; with_reducible exact H) | (have H2_ := (Option.bind_some _ _).symm.trans H; rw [hy232]; with_reducible exact H2_) | (have H2_ := (Option.bind_some _ _).symm.trans H; with_reducible exact H2_) | with_reducible exact H | (rw [hy232]; exact H) | exact H
        have Ny232 := am hy232
        clear hy232
        by_cases c22 : y229.length + y232.length < 3518437208883
        ·rw [if_pos c22] at H
         have LMc22 := Aside0.mk c22
         clear c22
         obtain ⟨y235, hy235⟩ : ∃ y_ : List (S40), y_ = (y229 ++ y232) := ⟨_, rfl⟩
         replace H : (spec_l01Src_l07Keys.j1 k1 y235 s0_0 t223 t224 t225) = some (r1, r2, r3, r4) := by first | (rw [hy235]; with_reducible exact H) | (have H2_ := (Option.bind_some _ _).symm.trans H; rw [hy235]; with_reducible exact H2_) | (have H2_ := (Option.bind_some _ _).symm.trans H; with_reducible exact H2_) | with_reducible exact H | (rw [hy235]; exact H) | exact H
         have Ny235 := am hy235
         clear hy235
         have H' := Aside0.mk H
         clear H
         try go_wp2_with (first | ((with_reducible refine gate_callee (f := 46) rfl ?_); refine gl (some 26) Try.func46 #[.pointer (some ⟨g, 0, none⟩)] ?_; (with_reducible refine (spec_l01Src_l07Key.calls k1 g s0_0 t208 t209 t210 t211 t212 t213 t214 t215 t216 w0 _ ?side1 ?side2 A17.out).mono ?_); (case side1 => repeat (first | (with_reducible first | exact HI0.out | apply IsS63.alloc | apply IsS63.drewN | apply IsS63.drew | apply IsS63.set_1 | apply IsS63.set_2 | apply IsS63.set_3) | exact HI0.out)); (case side2 => repeat (first | (with_reducible first | exact HB.out | apply below_alloc | apply pw_below_drewN | apply below_drew1 | refine below_set ?_ (IsS63.ge HI0.out)) | exact HB.out)); rintro e w23 ⟨rfl, hi, hb, hk⟩; refine ⟨_, rfl, ?_⟩; replace HO_3 := am (Kd.R_mono (Kd.R_keep (IsS63.apart (show IsS63 w0 _ g s0_0 t208 t209 t210 from by repeat (first | (with_reducible first | exact HI0.out | apply IsS63.alloc | apply IsS63.drewN | apply IsS63.drew | apply IsS63.set_1 | apply IsS63.set_2 | apply IsS63.set_3) | exact HI0.out)) (kr HO_3.out) (by decide)) hk (fun _ h => h.2)) (fun _ h => h.1)); replace HK := am (KeepBut.trans (by repeat (first | (with_reducible first | exact HK.out | apply KeepBut.set_ | apply keep_drewN | apply keep_drew | apply keep_alloc) | exact HK.out)) hk (.inl rfl)); replace HB := am (hb); replace HI0 := am (hi); (try clear hb); (try clear hb2); (try clear hk); (try clear hi)) | ((with_reducible refine gate_dst (N := 5) rfl ?_); refine box_event ?hg (N := 5) ?hd (cs := #[.int .i64 0, .string (⟨#[]⟩ : ByteArray), .string (⟨#[]⟩ : ByteArray)]) (t := 40) ?hr ?_; (case hd => rfl); (case hg => rfl); (case hr => first | (go_simp; done) | (go_simp; rfl)); intro gb217 hg w24 hbox hb; replace HO_3 := am (Kd.R_below (Kd.R_elderB (kr HO_3.out) gb217 (Nat.le_of_eq hg.symm)) hb); replace HB := am (below_step (by repeat (first | (with_reducible first | exact HB.out | apply below_alloc | apply pw_below_drewN | apply below_drew1 | refine below_set ?_ (IsS63.ge HI0.out)) | exact HB.out)) hb); have BK217 := am (hbox); have GW217 := am ((by rw [hg]; exact (keep_size (w := w) (g := g) (row := none) (by repeat (first | (with_reducible first | exact HK.out | apply KeepBut.set_ | apply keep_drewN | apply keep_drew | apply keep_alloc) | exact HK.out))) : w.heap.size ≤ gb217)); have GE217 := am ((Nat.le_trans HW0.out (by rw [hg]; exact (keep_size (w := w) (g := g) (row := none) (by repeat (first | (with_reducible first | exact HK.out | apply KeepBut.set_ | apply keep_drewN | apply keep_drew | apply keep_alloc) | exact HK.out))) : w.heap.size ≤ gb217) : w0.heap.size ≤ gb217)); replace HK := am (KeepBut.trans (by repeat (first | (with_reducible first | exact HK.out | apply KeepBut.set_ | apply keep_drewN | apply keep_drew | apply keep_alloc) | exact HK.out)) (KeepBut.of_below hb g none) (.inl rfl)); have NB0_217 := am ((by rw [hg]; exact Nat.ne_of_lt (IsS63.lt (show IsS63 w0 _ g s0_0 t214 t215 t216 from by repeat (first | (with_reducible first | exact HI0.out | apply IsS63.alloc | apply IsS63.drewN | apply IsS63.drew | apply IsS63.set_1 | apply IsS63.set_2 | apply IsS63.set_3) | exact HI0.out))) : g ≠ gb217)); have NB217_0 := am ((by rw [hg]; exact Nat.ne_of_gt (IsS63.lt (show IsS63 w0 _ g s0_0 t214 t215 t216 from by repeat (first | (with_reducible first | exact HI0.out | apply IsS63.alloc | apply IsS63.drewN | apply IsS63.drew | apply IsS63.set_1 | apply IsS63.set_2 | apply IsS63.set_3) | exact HI0.out))) : gb217 ≠ g)); replace HI0 := am (IsS63.below (by repeat (first | (with_reducible first | exact HI0.out | apply IsS63.alloc | apply IsS63.drewN | apply IsS63.drew | apply IsS63.set_1 | apply IsS63.set_2 | apply IsS63.set_3) | exact HI0.out)) hb); clear hb hbox hg; have hnb25 := NB217_0.out; have hnc25 := NB0_217.out; have hcz26_0 : w24.cell? ⟨gb217, 0, none⟩ = some (.int .i64 0) := bc BK217.out 0; have hcz26_1 : w24.cell? ⟨gb217, 1, none⟩ = some (.string (⟨#[]⟩ : ByteArray)) := bc BK217.out 1; have hcz26_2 : w24.cell? ⟨gb217, 2, none⟩ = some (.string (⟨#[]⟩ : ByteArray)) := bc BK217.out 2; have hfz26_0 := blk_frozen BK217.out 0; have hfz26_1 := blk_frozen BK217.out 1; have hfz26_2 := blk_frozen BK217.out 2) | ((with_reducible refine gate_callee (f := 31) rfl ?_); refine gl (some 28) Try.func31 #[.pointer (some ⟨g, 0, none⟩), .int .i64 4] ?_; (with_reducible refine (spec_l01Src_n.calls g s0_0 t214 t215 t216 4 t218 t219 t220 t221 w0 _ ?side1 ?side2 A18.out).mono ?_); (case side1 => repeat (first | (with_reducible first | exact HI0.out | apply IsS63.alloc | apply IsS63.drewN | apply IsS63.drew | apply IsS63.set_1 | apply IsS63.set_2 | apply IsS63.set_3 | refine IsS63.far ?_ NB0_217.out _) | exact HI0.out)); (case side2 => repeat (first | (with_reducible first | exact HB.out | apply below_alloc | apply pw_below_drewN | apply below_drew1 | refine below_set ?_ (IsS63.ge HI0.out) | refine below_set ?_ GE217.out) | exact HB.out)); rintro e w27 ⟨rfl, hi, hb, hk⟩; refine ⟨_, rfl, ?_⟩; replace HO_3 := am (Kd.R_mono (Kd.R_keep (IsS63.apart (show IsS63 w0 _ g s0_0 t214 t215 t216 from by repeat (first | (with_reducible first | exact HI0.out | apply IsS63.alloc | apply IsS63.drewN | apply IsS63.drew | apply IsS63.set_1 | apply IsS63.set_2 | apply IsS63.set_3 | refine IsS63.far ?_ NB0_217.out _) | exact HI0.out)) (kr ((Kd.R_mono (Kd.R_far (p := ⟨gb217, 2, none⟩) (Kd.R_far (p := ⟨gb217, 1, none⟩) (Kd.R_far (p := ⟨gb217, 0, none⟩) (Kd.R_mono HO_3.out (fun k_ hk => (⟨hk, hk.2⟩ : _ ∧ k_ ≠ gb217))) (fun _ hk => hk.2) (.int .i64 t211)) (fun _ hk => hk.2) (.string t212)) (fun _ hk => hk.2) (.string t213)) (fun _ h_ => h_.1)))) (by decide)) hk (fun _ h => h.2)) (fun _ h => h.1)); replace BK217 := am (KeepBut.blk hk (g' := gb217) (o := .cells #[.int .i64 t211, .string t212, .string t213] 40 (0, 0)) (by refine pk ?_; refine blk_put (cs := #[.int .i64 t211, .string t212, .string (⟨#[]⟩ : ByteArray)]) ?_ 2 _ rfl; refine pk ?_; refine blk_put (cs := #[.int .i64 t211, .string (⟨#[]⟩ : ByteArray), .string (⟨#[]⟩ : ByteArray)]) ?_ 1 _ rfl; refine pk ?_; refine blk_put (cs := #[.int .i64 0, .string (⟨#[]⟩ : ByteArray), .string (⟨#[]⟩ : ByteArray)]) ?_ 0 _ rfl; refine pk ?_; exact BK217.out) NB217_0.out (by simp)); replace HK := am (KeepBut.trans (by repeat (first | (with_reducible first | exact HK.out | apply KeepBut.set_ | apply keep_drewN | apply keep_drew | apply keep_alloc | refine keep_far ?_ GW217.out _) | exact HK.out)) hk (.inl rfl)); replace HB := am (hb); replace HI0 := am (hi); (try clear hb); (try clear hb2); (try clear hk); (try clear hi)) | ((with_reducible refine gate_callee (f := 31) rfl ?_); refine gl (some 32) Try.func31 #[.pointer (some ⟨g, 0, none⟩), .int .i64 2] ?_; (with_reducible refine (spec_l01Src_n.calls g s0_0 t219 t220 t221 2 t222 t223 t224 t225 w0 _ ?side1 ?side2 A20.out).mono ?_); (case side1 => repeat (first | (with_reducible first | exact HI0.out | apply IsS63.alloc | apply IsS63.drewN | apply IsS63.drew | apply IsS63.set_1 | apply IsS63.set_2 | apply IsS63.set_3 | refine IsS63.far ?_ NB0_217.out _) | exact HI0.out)); (case side2 => repeat (first | (with_reducible first | exact HB.out | apply below_alloc | apply pw_below_drewN | apply below_drew1 | refine below_set ?_ (IsS63.ge HI0.out) | refine below_set ?_ GE217.out) | exact HB.out)); rintro e w28 ⟨rfl, hi, hb, hk⟩; refine ⟨_, rfl, ?_⟩; replace HO_3 := am (Kd.R_mono (Kd.R_keep (IsS63.apart (show IsS63 w0 _ g s0_0 t219 t220 t221 from by repeat (first | (with_reducible first | exact HI0.out | apply IsS63.alloc | apply IsS63.drewN | apply IsS63.drew | apply IsS63.set_1 | apply IsS63.set_2 | apply IsS63.set_3 | refine IsS63.far ?_ NB0_217.out _) | exact HI0.out)) (kr HO_3.out) (by decide)) hk (fun _ h => h.2)) (fun _ h => h.1)); replace BK217 := am (KeepBut.blk hk (g' := gb217) (o := .cells #[.int .i64 t211, .string t212, .string t213] 40 (0, 0)) (pk BK217.out) NB217_0.out (by simp)); replace HK := am (KeepBut.trans (by repeat (first | (with_reducible first | exact HK.out | apply KeepBut.set_ | apply keep_drewN | apply keep_drew | apply keep_alloc | refine keep_far ?_ GW217.out _) | exact HK.out)) hk (.inl rfl)); replace HB := am (hb); replace HI0 := am (hi); (try clear hb); (try clear hb2); (try clear hk); (try clear hi); have hcz29_0 : w28.cell? ⟨gb217, 0, none⟩ = some (.int .i64 t211) := bc BK217.out 0; have hcz29_1 : w28.cell? ⟨gb217, 1, none⟩ = some (.string t212) := bc BK217.out 1; have hcz29_2 : w28.cell? ⟨gb217, 2, none⟩ = some (.string t213) := bc BK217.out 2; have hfz29_0 := blk_frozen BK217.out 0; have hfz29_1 := blk_frozen BK217.out 1; have hfz29_2 := blk_frozen BK217.out 2; obtain ⟨Ao30, co30, eo30⟩ := Kd.R_slice HO_3.out; subst eo30))
         have n0_ : Aside0 (Kd.R k40 40 (w28.setCell ⟨gb217, 0, none⟩ (.int .i64 (wrap64 (10 * t222)))) w.heap.size (fun k_ => k_ ≠ gb217) (.slice Ao30 x3_1.length co30) x3_1) := ⟨kr (Kd.R_mono (Kd.R_far (p := ⟨gb217, 0, none⟩) (Kd.R_mono HO_3.out (fun k_ hk => (⟨hk, hk.2⟩ : _ ∧ k_ ≠ gb217))) (fun _ hk => hk.2) (.int .i64 (wrap64 (10 * t222)))) (fun _ hk => hk.1.2))⟩
         have n1_ : Aside0 ((w28.setCell ⟨gb217, 0, none⟩ (.int .i64 (wrap64 (10 * t222)))).heap[gb217]? = some (.cells #[.int .i64 (wrap64 (10 * t222)), .string t212, .string t213] 40 (0, 0))) := ⟨by refine pk ?_; refine blk_put (cs := #[.int .i64 t211, .string t212, .string t213]) ?_ 0 _ rfl; refine pk ?_; exact BK217.out⟩
         have n2_ : Aside0 (IsS63 w0 (w28.setCell ⟨gb217, 0, none⟩ (.int .i64 (wrap64 (10 * t222)))) g s0_0 t223 t224 t225) := ⟨by repeat (first | (with_reducible first | exact HI0.out | apply IsS63.alloc | apply IsS63.drewN | apply IsS63.drew | apply IsS63.set_1 | apply IsS63.set_2 | apply IsS63.set_3 | refine IsS63.far ?_ NB0_217.out _) | exact HI0.out)⟩
         have n3_ : Aside0 (KeepBut w (w28.setCell ⟨gb217, 0, none⟩ (.int .i64 (wrap64 (10 * t222)))) g none) := ⟨by repeat (first | (with_reducible first | exact HK.out | apply KeepBut.set_ | apply keep_drewN | apply keep_drew | apply keep_alloc | refine keep_far ?_ GW217.out _) | exact HK.out)⟩
         have n4_ : Aside0 (Below w0.heap.size w0 (w28.setCell ⟨gb217, 0, none⟩ (.int .i64 (wrap64 (10 * t222))))) := ⟨by repeat (first | (with_reducible first | exact HB.out | apply below_alloc | apply pw_below_drewN | apply below_drew1 | refine below_set ?_ (IsS63.ge HI0.out) | refine below_set ?_ GE217.out) | exact HB.out)⟩
         (try clear HO_3)
         (try clear BK217)
         (try clear HI0)
         (try clear HK)
         (try clear HB)
         generalize (w28.setCell ⟨gb217, 0, none⟩ (.int .i64 (wrap64 (10 * t222)))) = w31 at n0_ n1_ n2_ n3_ n4_ ⊢
         have HO_3 := n0_
         have BK217 := n1_
         have HI0 := n2_
         have HK := n3_
         have HB := n4_
         clear n0_ n1_ n2_ n3_ n4_
         replace HO_3 := am (Kd.R_drew HO_3.out)
         replace BK217 := am (blk_drew BK217.out)
         replace HI0 := am (IsS63.drew HI0.out)
         replace HK := am (keep_drew HK.out)
         replace HB := am (below_drew1 HB.out)
         refine start_ (n := 7) (S := fun w' => w'.cell? ⟨gb217, 0, none⟩ = some (.int .i64 (wrap64 (10 * t222))) ∧ w'.cell? ⟨gb217, 1, none⟩ = some (.string t212) ∧ w'.cell? ⟨gb217, 2, none⟩ = some (.string t213)) (ds := []) b30_0 (by kernel_rfl) rfl rfl ⟨bc BK217.out 0, bc BK217.out 1, bc BK217.out 2⟩ (fun hHeld => ?_)
         generalize w31.drew = w32 at HO_3 BK217 HI0 HK HB hHeld ⊢
         refine pure_ (i := 1) (N := some 50) (v := ?_) (a' := ?_) b30_1 rfl rfl (by kernel_rfl) (fun _ _ _ h => h) (Or.inl ⟨by rfl, ?_⟩) ?_ ?_; rotate_left
         ·intro w'; go_simp; with_reducible rfl
         rotate_left
         ·simp only [Act.put, sa_, s0_, ss_, i64_w, i32_w]; rfl
         refine take_ (i := 3) (N := some 52) (v := ?_) (a' := ?_) b30_2 rfl rfl (by kernel_rfl) (fun _ _ _ h => h) (Or.inl ⟨by rfl, ?_⟩) hHeld ?_ ?_; rotate_left
         ·rintro w' ⟨s0, s1, s2⟩; go_simp; with_reducible rfl
         rotate_left
         ·simp only [Act.put, sa_, s0_, ss_, i64_w, i32_w]; rfl
         refine join_ (σ := Value × Value × Value) 2 b30_3 (fun s_ => [(49, s_.1), (51, s_.2.1), (53, s_.2.2)]) (fun s_ w' => (w'.cell? ⟨gb217, 0, none⟩ = some (.int .i64 (wrap64 (10 * t222))) ∧ w'.cell? ⟨gb217, 1, none⟩ = some (.string t212) ∧ w'.cell? ⟨gb217, 2, none⟩ = some (.string t213)) ∧ (Kd.R k40 40 w' w.heap.size (fun k_ => some k_ ≠ (s_.2.2 : Value).ownBlock ∧ some k_ ≠ (.slice Ao30 x3_1.length co30 : Value).ownBlock ∧ k_ ≠ gb217) s_.2.1 y229) ∧ (Kd.R k40 40 w' w.heap.size (fun k_ => some k_ ≠ (s_.2.1 : Value).ownBlock ∧ some k_ ≠ (.slice Ao30 x3_1.length co30 : Value).ownBlock ∧ k_ ≠ gb217) s_.2.2 y232) ∧ (Kd.R k40 40 w' w.heap.size (fun k_ => some k_ ≠ (s_.2.1 : Value).ownBlock ∧ some k_ ≠ (s_.2.2 : Value).ownBlock ∧ k_ ≠ gb217) (.slice Ao30 x3_1.length co30) x3_1) ∧ (w'.heap[gb217]? = some (.cells #[.int .i64 (wrap64 (10 * t222)), .string t212, .string t213] 40 (0, 0))) ∧ (IsS63 w0 w' g s0_0 t223 t224 t225) ∧ (KeepBut w w' g none) ∧ (Below w0.heap.size w0 w')) ?_ ?_
         rotate_left
         ·intro hCont
          refine two_ (i := 0) (j := 4) (Ni := some 49) (Nj := some 53) b30_4 b30_5 rfl rfl rfl rfl (by kernel_rfl) (by decide) (by decide) (fun K hK => ?_) (fun K hK => ?_)
          ·skip
           refine Kd.R_lit_step k40 _ 40 ?hg (N := 49) ?hd (xs := ([] : List (S40))) (inner := []) (ok := fun _ => True) (okp := fun _ => True) ?hr ?hp (fun _ hk => hk) trivial (Below.refl _ _) (Nat.le_refl _) (by simp) ?_; (case hd => rfl); (case hg => rfl); (case hr => first | (go_simp; done) | (go_simp; rfl)); (case hp => exact (Reps.none _ _))
           intro v227 w33 ho34 hb hg_ hnew_
           clear hg_ hnew_
           (first | rw [← Ny226.out] at ho34 | (simp only [Int.reduceToNat] at ho34; rw [← Ny226.out] at ho34))
           have HO228 := am (Kd.R_lower (Kd.R_newB (Kd.R_new' ho34 (Kd.R_lt (kr HO_3.out))) (g := gb217) (o := .cells #[.int .i64 (wrap64 (10 * t222)), .string t212, .string t213] 40 (0, 0)) (pk BK217.out)) (keep_size (w := w) (g := g) (row := none) (by repeat (first | (with_reducible first | exact HK.out | apply KeepBut.set_ | apply keep_drewN | apply keep_drew | apply keep_alloc | refine keep_far ?_ GW217.out _) | exact HK.out))))
           replace HO_3 := am (Kd.R_elder' (kr HO_3.out) (Kd.R_base ho34) hb)
           replace BK217 := am (blk_below (pk BK217.out) hb)
           replace HK := am (KeepBut.trans (by repeat (first | (with_reducible first | exact HK.out | apply KeepBut.set_ | apply keep_drewN | apply keep_drew | apply keep_alloc | refine keep_far ?_ GW217.out _) | exact HK.out)) (KeepBut.of_below hb g none) (.inl rfl))
           replace HB := am (below_step (by repeat (first | (with_reducible first | exact HB.out | apply below_alloc | apply pw_below_drewN | apply below_drew1 | refine below_set ?_ (IsS63.ge HI0.out) | refine below_set ?_ GE217.out) | exact HB.out)) hb)
           replace HI0 := am (IsS63.below (by repeat (first | (with_reducible first | exact HI0.out | apply IsS63.alloc | apply IsS63.drewN | apply IsS63.drew | apply IsS63.set_1 | apply IsS63.set_2 | apply IsS63.set_3 | refine IsS63.far ?_ NB0_217.out _) | exact HI0.out)) hb)
           clear hb ho34
           refine hK.out _ _ ⟨bc BK217.out 0, bc BK217.out 1, bc BK217.out 2⟩ (fun hHeld => ?_)
           clear hK K
           refine norm_ (a' := ?_) ?_ ?_
           rotate_left
           ·show Act.put _ (some 49) _ = _
            simp only [Act.put, sa_, s0_, ss_, i64_w, i32_w]
            rfl
           refine two_ (i := 2) (j := 4) (Ni := some 51) (Nj := some 53) b30_6 b30_7 rfl rfl rfl rfl (by kernel_rfl) (by decide) (by decide) (fun K hK => ?_) (fun K hK => ?_)
           ·skip
            refine Kd.R_append_rows_step k40 w.heap.size (by rfl) (.tmp 49) (.tmp 50) 24 40 (.agg #[(.int .i64 0), (.string ⟨#[]⟩), (.string ⟨#[]⟩)]) 40 rfl Try.underlying24 info40 rfl (by decide) (by omega) v227 y226 x3_1 _ _ _ (fun k_ => some k_ ≠ (.slice Ao30 x3_1.length co30 : Value).ownBlock ∧ k_ ≠ gb217) (fun _ => False) rfl rfl ?aO ?aR (fun _ _ h => h) (fun _ h => h.elim) ?aF (Below.refl _ _) ?aS ?aL ?_
            (case aR => repeat (first | exact (Kd.R_reads' HO_3.out).2.2 | (with_reducible refine Kd.C_alloc ?_ _) | (with_reducible refine Kd.C_drewN ?_ _) | (with_reducible refine Kd.C_drew ?_)))
            (case aF => exact (fun k_ hk => ⟨Kd.fresh' (Kd.R_lt (kr HO_3.out)) k_ hk, Kd.freshB (g := gb217) (o := .cells #[.int .i64 (wrap64 (10 * t222)), .string t212, .string t213] 40 (0, 0)) (pk BK217.out) k_ hk⟩))
            (case aO => exact (kr (Kd.R_mono HO228.out (fun _ hk => ⟨hk.1.2, hk.2⟩))))
            (case aS => exact (keep_size (w := w) (g := g) (row := none) (by repeat (first | (with_reducible first | exact HK.out | apply KeepBut.set_ | apply keep_drewN | apply keep_drew | apply keep_alloc | refine keep_far ?_ GW217.out _) | exact HK.out))))
            (case aL => have := LMc21.out; omega)
            intro v230 w35 ho hb hg hat
            rw [← Ny229.out] at ho
            replace HO_3 := am (Kd.R_after (ok := (fun k_ => k_ ≠ gb217)) (kr HO_3.out) hg hat)
            replace BK217 := am (blk_grown (g := gb217) (o := .cells #[.int .i64 (wrap64 (10 * t222)), .string t212, .string t213] 40 (0, 0)) (pk BK217.out) hg (Kd.R_away HO228.out (fun _ hk => hk.2)))
            replace HB := am (below_weaken (by repeat (first | (with_reducible first | exact HB.out | apply below_alloc | apply pw_below_drewN | apply below_drew1 | refine below_set ?_ (IsS63.ge HI0.out) | refine below_set ?_ GE217.out) | exact HB.out)) HL.out hb)
            replace HI0 := am (IsS63.grown (by repeat (first | (with_reducible first | exact HI0.out | apply IsS63.alloc | apply IsS63.drewN | apply IsS63.drew | apply IsS63.set_1 | apply IsS63.set_2 | apply IsS63.set_3 | refine IsS63.far ?_ NB0_217.out _) | exact HI0.out)) hg (IsS63.own_ne HI0.out HO228.out (by decide)))
            replace HK := am (KeepBut.trans (by repeat (first | (with_reducible first | exact HK.out | apply KeepBut.set_ | apply keep_drewN | apply keep_drew | apply keep_alloc | refine keep_far ?_ GW217.out _) | exact HK.out)) (KeepBut.of_grown hg g) (Kd.R_base2 HO228.out))
            have HO231 := am (ho)
            clear HO228 ho hb hg hat
            refine hK.out _ _ ⟨bc BK217.out 0, bc BK217.out 1, bc BK217.out 2⟩ (fun hHeld => ?_)
            clear hK K
            refine norm_ (a' := ?_) ?_ ?_
            rotate_left
            ·show Act.put _ (some 51) _ = _
             simp only [Act.put, sa_, s0_, ss_, i64_w, i32_w]
             rfl
            refine one_ (i := 4) (N := some 53) b30_3 rfl rfl (by kernel_rfl) (by decide) (fun K hK => ?_)
            refine Kd.R_lit_step k40 _ 40 ?hg (N := 53) ?hd (xs := ([(⟨wrap64 (10 * t222), t212, t213⟩ : S40)] : List (S40))) (inner := [.int .i64 (wrap64 (10 * t222)), .string t212, .string t213]) (ok := fun _ => True) (okp := fun _ => True) ?hr ?hp (fun _ hk => hk) trivial (Below.refl _ _) (Nat.le_refl _) (by simp) ?_; (case hd => rfl); (case hg => rfl); (case hr => first | (go_simp; done) | (go_simp; rfl)); (case hp => exact (Reps.c3 (show Kd.M k40 _ _ _ (⟨wrap64 (10 * t222), t212, t213⟩ : S40) [.int .i64 (wrap64 (10 * t222)), .string t212, .string t213] from (k40_mkM _ _ _ (⟨wrap64 (10 * t222), t212, t213⟩ : S40) )) (Reps.none _ _)))
            intro v233 w36 ho37 hb hg_ hnew_
            clear hg_ hnew_
            (first | rw [← Ny232.out] at ho37 | (simp only [Int.reduceToNat] at ho37; rw [← Ny232.out] at ho37))
            have HO234 := am (Kd.R_lower (Kd.R_newB (Kd.R_new' (Kd.R_new' ho37 (Kd.R_lt (kr HO_3.out))) (Kd.R_lt (kr HO231.out))) (g := gb217) (o := .cells #[.int .i64 (wrap64 (10 * t222)), .string t212, .string t213] 40 (0, 0)) (pk BK217.out)) (keep_size (w := w) (g := g) (row := none) (by repeat (first | (with_reducible first | exact HK.out | apply KeepBut.set_ | apply keep_drewN | apply keep_drew | apply keep_alloc | refine keep_far ?_ GW217.out _) | exact HK.out))))
            replace HO_3 := am (Kd.R_elder' (kr HO_3.out) (Kd.R_base ho37) hb)
            replace HO231 := am (Kd.R_elder' (kr HO231.out) (Kd.R_base ho37) hb)
            replace BK217 := am (blk_below (pk BK217.out) hb)
            replace HK := am (KeepBut.trans (by repeat (first | (with_reducible first | exact HK.out | apply KeepBut.set_ | apply keep_drewN | apply keep_drew | apply keep_alloc | refine keep_far ?_ GW217.out _) | exact HK.out)) (KeepBut.of_below hb g none) (.inl rfl))
            replace HB := am (below_step (by repeat (first | (with_reducible first | exact HB.out | apply below_alloc | apply pw_below_drewN | apply below_drew1 | refine below_set ?_ (IsS63.ge HI0.out) | refine below_set ?_ GE217.out) | exact HB.out)) hb)
            replace HI0 := am (IsS63.below (by repeat (first | (with_reducible first | exact HI0.out | apply IsS63.alloc | apply IsS63.drewN | apply IsS63.drew | apply IsS63.set_1 | apply IsS63.set_2 | apply IsS63.set_3 | refine IsS63.far ?_ NB0_217.out _) | exact HI0.out)) hb)
            clear hb ho37
            refine hK.out _ _ ⟨bc BK217.out 0, bc BK217.out 1, bc BK217.out 2⟩ (fun hHeld => ?_)
            clear hK K
            refine norm_ (a' := ?_) ?_ ?_
            rotate_left
            ·show Act.put _ (some 53) _ = _
             simp only [Act.put, sa_, s0_, ss_, i64_w, i32_w]
             rfl
            exact norm_ (by simp only [putAll, Act.put, sa_, s0_, ss_]) (hCont (v227, v230, v233) _ ⟨hHeld, (kr (Kd.R_mono HO231.out (fun _ hk => ⟨hk.2, ⟨hk.1.1, hk.1.2⟩⟩))), (kr (Kd.R_mono HO234.out (fun _ hk => ⟨hk.1.2, ⟨hk.1.1.2, hk.2⟩⟩))), (kr (Kd.R_mono HO_3.out (fun _ hk => ⟨hk.1.2, ⟨hk.2, hk.1.1⟩⟩))), (pk BK217.out), (by repeat (first | (with_reducible first | exact HI0.out | apply IsS63.alloc | apply IsS63.drewN | apply IsS63.drew | apply IsS63.set_1 | apply IsS63.set_2 | apply IsS63.set_3 | refine IsS63.far ?_ NB0_217.out _) | exact HI0.out)), (by repeat (first | (with_reducible first | exact HK.out | apply KeepBut.set_ | apply keep_drewN | apply keep_drew | apply keep_alloc | refine keep_far ?_ GW217.out _) | exact HK.out)), (by repeat (first | (with_reducible first | exact HB.out | apply below_alloc | apply pw_below_drewN | apply below_drew1 | refine below_set ?_ (IsS63.ge HI0.out) | refine below_set ?_ GE217.out) | exact HB.out))⟩)
           ·skip
            refine Kd.R_lit_step k40 _ 40 ?hg (N := 53) ?hd (xs := ([(⟨wrap64 (10 * t222), t212, t213⟩ : S40)] : List (S40))) (inner := [.int .i64 (wrap64 (10 * t222)), .string t212, .string t213]) (ok := fun _ => True) (okp := fun _ => True) ?hr ?hp (fun _ hk => hk) trivial (Below.refl _ _) (Nat.le_refl _) (by simp) ?_; (case hd => rfl); (case hg => rfl); (case hr => first | (go_simp; done) | (go_simp; rfl)); (case hp => exact (Reps.c3 (show Kd.M k40 _ _ _ (⟨wrap64 (10 * t222), t212, t213⟩ : S40) [.int .i64 (wrap64 (10 * t222)), .string t212, .string t213] from (k40_mkM _ _ _ (⟨wrap64 (10 * t222), t212, t213⟩ : S40) )) (Reps.none _ _)))
            intro v233 w35 ho36 hb hg_ hnew_
            clear hg_ hnew_
            (first | rw [← Ny232.out] at ho36 | (simp only [Int.reduceToNat] at ho36; rw [← Ny232.out] at ho36))
            have HO234 := am (Kd.R_lower (Kd.R_newB (Kd.R_new' (Kd.R_new' ho36 (Kd.R_lt (kr HO_3.out))) (Kd.R_lt (kr HO228.out))) (g := gb217) (o := .cells #[.int .i64 (wrap64 (10 * t222)), .string t212, .string t213] 40 (0, 0)) (pk BK217.out)) (keep_size (w := w) (g := g) (row := none) (by repeat (first | (with_reducible first | exact HK.out | apply KeepBut.set_ | apply keep_drewN | apply keep_drew | apply keep_alloc | refine keep_far ?_ GW217.out _) | exact HK.out))))
            replace HO_3 := am (Kd.R_elder' (kr HO_3.out) (Kd.R_base ho36) hb)
            replace HO228 := am (Kd.R_elder' (kr HO228.out) (Kd.R_base ho36) hb)
            replace BK217 := am (blk_below (pk BK217.out) hb)
            replace HK := am (KeepBut.trans (by repeat (first | (with_reducible first | exact HK.out | apply KeepBut.set_ | apply keep_drewN | apply keep_drew | apply keep_alloc | refine keep_far ?_ GW217.out _) | exact HK.out)) (KeepBut.of_below hb g none) (.inl rfl))
            replace HB := am (below_step (by repeat (first | (with_reducible first | exact HB.out | apply below_alloc | apply pw_below_drewN | apply below_drew1 | refine below_set ?_ (IsS63.ge HI0.out) | refine below_set ?_ GE217.out) | exact HB.out)) hb)
            replace HI0 := am (IsS63.below (by repeat (first | (with_reducible first | exact HI0.out | apply IsS63.alloc | apply IsS63.drewN | apply IsS63.drew | apply IsS63.set_1 | apply IsS63.set_2 | apply IsS63.set_3 | refine IsS63.far ?_ NB0_217.out _) | exact HI0.out)) hb)
            clear hb ho36
            refine hK.out _ _ ⟨bc BK217.out 0, bc BK217.out 1, bc BK217.out 2⟩ (fun hHeld => ?_)
            clear hK K
            refine norm_ (a' := ?_) ?_ ?_
            rotate_left
            ·show Act.put _ (some 53) _ = _
             simp only [Act.put, sa_, s0_, ss_, i64_w, i32_w]
             rfl
            refine one_ (i := 2) (N := some 51) b30_3 rfl rfl (by kernel_rfl) (by decide) (fun K hK => ?_)
            refine Kd.R_append_rows_step k40 w.heap.size (by rfl) (.tmp 49) (.tmp 50) 24 40 (.agg #[(.int .i64 0), (.string ⟨#[]⟩), (.string ⟨#[]⟩)]) 40 rfl Try.underlying24 info40 rfl (by decide) (by omega) v227 y226 x3_1 _ _ _ (fun k_ => some k_ ≠ (.slice Ao30 x3_1.length co30 : Value).ownBlock ∧ some k_ ≠ (v233 : Value).ownBlock ∧ k_ ≠ gb217) (fun _ => False) rfl rfl ?aO ?aR (fun _ _ h => h) (fun _ h => h.elim) ?aF (Below.refl _ _) ?aS ?aL ?_
            (case aR => repeat (first | exact (Kd.R_reads' HO_3.out).2.2 | (with_reducible refine Kd.C_alloc ?_ _) | (with_reducible refine Kd.C_drewN ?_ _) | (with_reducible refine Kd.C_drew ?_)))
            (case aF => exact (fun k_ hk => ⟨Kd.fresh' (Kd.R_lt (kr HO_3.out)) k_ hk, Kd.fresh' (Kd.R_lt (kr HO234.out)) k_ hk, Kd.freshB (g := gb217) (o := .cells #[.int .i64 (wrap64 (10 * t222)), .string t212, .string t213] 40 (0, 0)) (pk BK217.out) k_ hk⟩))
            (case aO => exact (kr (Kd.R_mono HO228.out (fun _ hk => ⟨hk.1.1.2, ⟨hk.2, hk.1.2⟩⟩))))
            (case aS => exact (keep_size (w := w) (g := g) (row := none) (by repeat (first | (with_reducible first | exact HK.out | apply KeepBut.set_ | apply keep_drewN | apply keep_drew | apply keep_alloc | refine keep_far ?_ GW217.out _) | exact HK.out))))
            (case aL => have := LMc21.out; omega)
            intro v230 w37 ho hb hg hat
            rw [← Ny229.out] at ho
            replace HO_3 := am (Kd.R_after (ok := (fun k_ => some k_ ≠ (v233 : Value).ownBlock ∧ k_ ≠ gb217)) (kr (Kd.R_mono HO_3.out (fun _ hk => ⟨⟨hk.2, hk.1.1⟩, hk.1.2⟩))) hg hat)
            replace BK217 := am (blk_grown (g := gb217) (o := .cells #[.int .i64 (wrap64 (10 * t222)), .string t212, .string t213] 40 (0, 0)) (pk BK217.out) hg (Kd.R_away HO228.out (fun _ hk => hk.1.2)))
            replace HO234 := am (Kd.R_after (ok := (fun k_ => some k_ ≠ (.slice Ao30 x3_1.length co30 : Value).ownBlock ∧ k_ ≠ gb217)) (kr (Kd.R_mono HO234.out (fun _ hk => ⟨⟨hk.1.1.2, hk.2⟩, hk.1.2⟩))) hg hat)
            replace HB := am (below_weaken (by repeat (first | (with_reducible first | exact HB.out | apply below_alloc | apply pw_below_drewN | apply below_drew1 | refine below_set ?_ (IsS63.ge HI0.out) | refine below_set ?_ GE217.out) | exact HB.out)) HL.out hb)
            replace HI0 := am (IsS63.grown (by repeat (first | (with_reducible first | exact HI0.out | apply IsS63.alloc | apply IsS63.drewN | apply IsS63.drew | apply IsS63.set_1 | apply IsS63.set_2 | apply IsS63.set_3 | refine IsS63.far ?_ NB0_217.out _) | exact HI0.out)) hg (IsS63.own_ne HI0.out HO228.out (by decide)))
            replace HK := am (KeepBut.trans (by repeat (first | (with_reducible first | exact HK.out | apply KeepBut.set_ | apply keep_drewN | apply keep_drew | apply keep_alloc | refine keep_far ?_ GW217.out _) | exact HK.out)) (KeepBut.of_grown hg g) (Kd.R_base2 HO228.out))
            have HO231 := am (ho)
            clear HO228 ho hb hg hat
            refine hK.out _ _ ⟨bc BK217.out 0, bc BK217.out 1, bc BK217.out 2⟩ (fun hHeld => ?_)
            clear hK K
            refine norm_ (a' := ?_) ?_ ?_
            rotate_left
            ·show Act.put _ (some 51) _ = _
             simp only [Act.put, sa_, s0_, ss_, i64_w, i32_w]
             rfl
            exact norm_ (by simp only [putAll, Act.put, sa_, s0_, ss_]) (hCont (v227, v230, v233) _ ⟨hHeld, (kr (Kd.R_mono HO231.out (fun _ hk => ⟨hk.2.1, ⟨hk.1, hk.2.2⟩⟩))), (kr (Kd.R_mono HO234.out (fun _ hk => ⟨hk.2, ⟨hk.1.1, hk.1.2⟩⟩))), (kr (Kd.R_mono HO_3.out (fun _ hk => ⟨hk.2, ⟨hk.1.1, hk.1.2⟩⟩))), (pk BK217.out), (by repeat (first | (with_reducible first | exact HI0.out | apply IsS63.alloc | apply IsS63.drewN | apply IsS63.drew | apply IsS63.set_1 | apply IsS63.set_2 | apply IsS63.set_3 | refine IsS63.far ?_ NB0_217.out _) | exact HI0.out)), (by repeat (first | (with_reducible first | exact HK.out | apply KeepBut.set_ | apply keep_drewN | apply keep_drew | apply keep_alloc | refine keep_far ?_ GW217.out _) | exact HK.out)), (by repeat (first | (with_reducible first | exact HB.out | apply below_alloc | apply pw_below_drewN | apply below_drew1 | refine below_set ?_ (IsS63.ge HI0.out) | refine below_set ?_ GE217.out) | exact HB.out))⟩)
          ·skip
           refine Kd.R_lit_step k40 _ 40 ?hg (N := 53) ?hd (xs := ([(⟨wrap64 (10 * t222), t212, t213⟩ : S40)] : List (S40))) (inner := [.int .i64 (wrap64 (10 * t222)), .string t212, .string t213]) (ok := fun _ => True) (okp := fun _ => True) ?hr ?hp (fun _ hk => hk) trivial (Below.refl _ _) (Nat.le_refl _) (by simp) ?_; (case hd => rfl); (case hg => rfl); (case hr => first | (go_simp; done) | (go_simp; rfl)); (case hp => exact (Reps.c3 (show Kd.M k40 _ _ _ (⟨wrap64 (10 * t222), t212, t213⟩ : S40) [.int .i64 (wrap64 (10 * t222)), .string t212, .string t213] from (k40_mkM _ _ _ (⟨wrap64 (10 * t222), t212, t213⟩ : S40) )) (Reps.none _ _)))
           intro v233 w33 ho34 hb hg_ hnew_
           clear hg_ hnew_
           (first | rw [← Ny232.out] at ho34 | (simp only [Int.reduceToNat] at ho34; rw [← Ny232.out] at ho34))
           have HO234 := am (Kd.R_lower (Kd.R_newB (Kd.R_new' ho34 (Kd.R_lt (kr HO_3.out))) (g := gb217) (o := .cells #[.int .i64 (wrap64 (10 * t222)), .string t212, .string t213] 40 (0, 0)) (pk BK217.out)) (keep_size (w := w) (g := g) (row := none) (by repeat (first | (with_reducible first | exact HK.out | apply KeepBut.set_ | apply keep_drewN | apply keep_drew | apply keep_alloc | refine keep_far ?_ GW217.out _) | exact HK.out))))
           replace HO_3 := am (Kd.R_elder' (kr HO_3.out) (Kd.R_base ho34) hb)
           replace BK217 := am (blk_below (pk BK217.out) hb)
           replace HK := am (KeepBut.trans (by repeat (first | (with_reducible first | exact HK.out | apply KeepBut.set_ | apply keep_drewN | apply keep_drew | apply keep_alloc | refine keep_far ?_ GW217.out _) | exact HK.out)) (KeepBut.of_below hb g none) (.inl rfl))
           replace HB := am (below_step (by repeat (first | (with_reducible first | exact HB.out | apply below_alloc | apply pw_below_drewN | apply below_drew1 | refine below_set ?_ (IsS63.ge HI0.out) | refine below_set ?_ GE217.out) | exact HB.out)) hb)
           replace HI0 := am (IsS63.below (by repeat (first | (with_reducible first | exact HI0.out | apply IsS63.alloc | apply IsS63.drewN | apply IsS63.drew | apply IsS63.set_1 | apply IsS63.set_2 | apply IsS63.set_3 | refine IsS63.far ?_ NB0_217.out _) | exact HI0.out)) hb)
           clear hb ho34
           refine hK.out _ _ ⟨bc BK217.out 0, bc BK217.out 1, bc BK217.out 2⟩ (fun hHeld => ?_)
           clear hK K
           refine norm_ (a' := ?_) ?_ ?_
           rotate_left
           ·show Act.put _ (some 53) _ = _
            simp only [Act.put, sa_, s0_, ss_, i64_w, i32_w]
            rfl
           refine one_ (i := 0) (N := some 49) b30_7 rfl rfl (by kernel_rfl) (by decide) (fun K hK => ?_)
           refine Kd.R_lit_step k40 _ 40 ?hg (N := 49) ?hd (xs := ([] : List (S40))) (inner := []) (ok := fun _ => True) (okp := fun _ => True) ?hr ?hp (fun _ hk => hk) trivial (Below.refl _ _) (Nat.le_refl _) (by simp) ?_; (case hd => rfl); (case hg => rfl); (case hr => first | (go_simp; done) | (go_simp; rfl)); (case hp => exact (Reps.none _ _))
           intro v227 w35 ho36 hb hg_ hnew_
           clear hg_ hnew_
           (first | rw [← Ny226.out] at ho36 | (simp only [Int.reduceToNat] at ho36; rw [← Ny226.out] at ho36))
           have HO228 := am (Kd.R_lower (Kd.R_newB (Kd.R_new' (Kd.R_new' ho36 (Kd.R_lt (kr HO_3.out))) (Kd.R_lt (kr HO234.out))) (g := gb217) (o := .cells #[.int .i64 (wrap64 (10 * t222)), .string t212, .string t213] 40 (0, 0)) (pk BK217.out)) (keep_size (w := w) (g := g) (row := none) (by repeat (first | (with_reducible first | exact HK.out | apply KeepBut.set_ | apply keep_drewN | apply keep_drew | apply keep_alloc | refine keep_far ?_ GW217.out _) | exact HK.out))))
           replace HO_3 := am (Kd.R_elder' (kr HO_3.out) (Kd.R_base ho36) hb)
           replace HO234 := am (Kd.R_elder' (kr HO234.out) (Kd.R_base ho36) hb)
           replace BK217 := am (blk_below (pk BK217.out) hb)
           replace HK := am (KeepBut.trans (by repeat (first | (with_reducible first | exact HK.out | apply KeepBut.set_ | apply keep_drewN | apply keep_drew | apply keep_alloc | refine keep_far ?_ GW217.out _) | exact HK.out)) (KeepBut.of_below hb g none) (.inl rfl))
           replace HB := am (below_step (by repeat (first | (with_reducible first | exact HB.out | apply below_alloc | apply pw_below_drewN | apply below_drew1 | refine below_set ?_ (IsS63.ge HI0.out) | refine below_set ?_ GE217.out) | exact HB.out)) hb)
           replace HI0 := am (IsS63.below (by repeat (first | (with_reducible first | exact HI0.out | apply IsS63.alloc | apply IsS63.drewN | apply IsS63.drew | apply IsS63.set_1 | apply IsS63.set_2 | apply IsS63.set_3 | refine IsS63.far ?_ NB0_217.out _) | exact HI0.out)) hb)
           clear hb ho36
           refine hK.out _ _ ⟨bc BK217.out 0, bc BK217.out 1, bc BK217.out 2⟩ (fun hHeld => ?_)
           clear hK K
           refine norm_ (a' := ?_) ?_ ?_
           rotate_left
           ·show Act.put _ (some 49) _ = _
            simp only [Act.put, sa_, s0_, ss_, i64_w, i32_w]
            rfl
           refine one_ (i := 2) (N := some 51) b30_3 rfl rfl (by kernel_rfl) (by decide) (fun K hK => ?_)
           refine Kd.R_append_rows_step k40 w.heap.size (by rfl) (.tmp 49) (.tmp 50) 24 40 (.agg #[(.int .i64 0), (.string ⟨#[]⟩), (.string ⟨#[]⟩)]) 40 rfl Try.underlying24 info40 rfl (by decide) (by omega) v227 y226 x3_1 _ _ _ (fun k_ => some k_ ≠ (.slice Ao30 x3_1.length co30 : Value).ownBlock ∧ some k_ ≠ (v233 : Value).ownBlock ∧ k_ ≠ gb217) (fun _ => False) rfl rfl ?aO ?aR (fun _ _ h => h) (fun _ h => h.elim) ?aF (Below.refl _ _) ?aS ?aL ?_
           (case aR => repeat (first | exact (Kd.R_reads' HO_3.out).2.2 | (with_reducible refine Kd.C_alloc ?_ _) | (with_reducible refine Kd.C_drewN ?_ _) | (with_reducible refine Kd.C_drew ?_)))
           (case aF => exact (fun k_ hk => ⟨Kd.fresh' (Kd.R_lt (kr HO_3.out)) k_ hk, Kd.fresh' (Kd.R_lt (kr HO234.out)) k_ hk, Kd.freshB (g := gb217) (o := .cells #[.int .i64 (wrap64 (10 * t222)), .string t212, .string t213] 40 (0, 0)) (pk BK217.out) k_ hk⟩))
           (case aO => exact (kr (Kd.R_mono HO228.out (fun _ hk => ⟨hk.1.1.2, ⟨hk.1.2, hk.2⟩⟩))))
           (case aS => exact (keep_size (w := w) (g := g) (row := none) (by repeat (first | (with_reducible first | exact HK.out | apply KeepBut.set_ | apply keep_drewN | apply keep_drew | apply keep_alloc | refine keep_far ?_ GW217.out _) | exact HK.out))))
           (case aL => have := LMc21.out; omega)
           intro v230 w37 ho hb hg hat
           rw [← Ny229.out] at ho
           replace HO_3 := am (Kd.R_after (ok := (fun k_ => some k_ ≠ (v233 : Value).ownBlock ∧ k_ ≠ gb217)) (kr (Kd.R_mono HO_3.out (fun _ hk => ⟨⟨hk.1.2, hk.1.1⟩, hk.2⟩))) hg hat)
           replace BK217 := am (blk_grown (g := gb217) (o := .cells #[.int .i64 (wrap64 (10 * t222)), .string t212, .string t213] 40 (0, 0)) (pk BK217.out) hg (Kd.R_away HO228.out (fun _ hk => hk.2)))
           replace HO234 := am (Kd.R_after (ok := (fun k_ => some k_ ≠ (.slice Ao30 x3_1.length co30 : Value).ownBlock ∧ k_ ≠ gb217)) (kr (Kd.R_mono HO234.out (fun _ hk => ⟨⟨hk.1.1.2, hk.1.2⟩, hk.2⟩))) hg hat)
           replace HB := am (below_weaken (by repeat (first | (with_reducible first | exact HB.out | apply below_alloc | apply pw_below_drewN | apply below_drew1 | refine below_set ?_ (IsS63.ge HI0.out) | refine below_set ?_ GE217.out) | exact HB.out)) HL.out hb)
           replace HI0 := am (IsS63.grown (by repeat (first | (with_reducible first | exact HI0.out | apply IsS63.alloc | apply IsS63.drewN | apply IsS63.drew | apply IsS63.set_1 | apply IsS63.set_2 | apply IsS63.set_3 | refine IsS63.far ?_ NB0_217.out _) | exact HI0.out)) hg (IsS63.own_ne HI0.out HO228.out (by decide)))
           replace HK := am (KeepBut.trans (by repeat (first | (with_reducible first | exact HK.out | apply KeepBut.set_ | apply keep_drewN | apply keep_drew | apply keep_alloc | refine keep_far ?_ GW217.out _) | exact HK.out)) (KeepBut.of_grown hg g) (Kd.R_base2 HO228.out))
           have HO231 := am (ho)
           clear HO228 ho hb hg hat
           refine hK.out _ _ ⟨bc BK217.out 0, bc BK217.out 1, bc BK217.out 2⟩ (fun hHeld => ?_)
           clear hK K
           refine norm_ (a' := ?_) ?_ ?_
           rotate_left
           ·show Act.put _ (some 51) _ = _
            simp only [Act.put, sa_, s0_, ss_, i64_w, i32_w]
            rfl
           exact norm_ (by simp only [putAll, Act.put, sa_, s0_, ss_]) (hCont (v227, v230, v233) _ ⟨hHeld, (kr (Kd.R_mono HO231.out (fun _ hk => ⟨hk.2.1, ⟨hk.1, hk.2.2⟩⟩))), (kr (Kd.R_mono HO234.out (fun _ hk => ⟨hk.2, ⟨hk.1.1, hk.1.2⟩⟩))), (kr (Kd.R_mono HO_3.out (fun _ hk => ⟨hk.2, ⟨hk.1.1, hk.1.2⟩⟩))), (pk BK217.out), (by repeat (first | (with_reducible first | exact HI0.out | apply IsS63.alloc | apply IsS63.drewN | apply IsS63.drew | apply IsS63.set_1 | apply IsS63.set_2 | apply IsS63.set_3 | refine IsS63.far ?_ NB0_217.out _) | exact HI0.out)), (by repeat (first | (with_reducible first | exact HK.out | apply KeepBut.set_ | apply keep_drewN | apply keep_drew | apply keep_alloc | refine keep_far ?_ GW217.out _) | exact HK.out)), (by repeat (first | (with_reducible first | exact HB.out | apply below_alloc | apply pw_below_drewN | apply below_drew1 | refine below_set ?_ (IsS63.ge HI0.out) | refine below_set ?_ GE217.out) | exact HB.out))⟩)
         rintro ⟨v227, v230, v233⟩ w38 ⟨hS_, h0_, h1_, h2_, h3_, h4_, h5_, h6_⟩
         have HO231 : Aside0 (Kd.R k40 40 w38 w.heap.size (fun k_ => some k_ ≠ (v233 : Value).ownBlock ∧ some k_ ≠ (.slice Ao30 x3_1.length co30 : Value).ownBlock ∧ k_ ≠ gb217) v230 y229) := ⟨h0_⟩
         have HO234 : Aside0 (Kd.R k40 40 w38 w.heap.size (fun k_ => some k_ ≠ (v230 : Value).ownBlock ∧ some k_ ≠ (.slice Ao30 x3_1.length co30 : Value).ownBlock ∧ k_ ≠ gb217) v233 y232) := ⟨h1_⟩
         replace HO_3 : Aside0 (Kd.R k40 40 w38 w.heap.size (fun k_ => some k_ ≠ (v230 : Value).ownBlock ∧ some k_ ≠ (v233 : Value).ownBlock ∧ k_ ≠ gb217) (.slice Ao30 x3_1.length co30) x3_1) := ⟨h2_⟩
         replace BK217 : Aside0 (w38.heap[gb217]? = some (.cells #[.int .i64 (wrap64 (10 * t222)), .string t212, .string t213] 40 (0, 0))) := ⟨h3_⟩
         replace HI0 : Aside0 (IsS63 w0 w38 g s0_0 t223 t224 t225) := ⟨h4_⟩
         replace HK : Aside0 (KeepBut w w38 g none) := ⟨h5_⟩
         replace HB : Aside0 (Below w0.heap.size w0 w38) := ⟨h6_⟩
         clear h0_ h1_ h2_ h3_ h4_ h5_ h6_
         have hHeld : w38.cell? ⟨gb217, 0, none⟩ = some (.int .i64 (wrap64 (10 * t222))) ∧ w38.cell? ⟨gb217, 1, none⟩ = some (.string t212) ∧ w38.cell? ⟨gb217, 2, none⟩ = some (.string t213) := hS_
         obtain ⟨Ao40, co40, eo40⟩ := Kd.R_slice HO234.out
         (first | subst eo40 | (injection eo40 with f1_ f2_ f3_; have f4_ := f1_.symm; have f5_ := f3_.symm; clear f1_ f2_ f3_; subst f4_; subst f5_))
         refine norm_ (a' := ?_) ?_ ?_
         rotate_left
         ·simp only [putAll, Act.put, sa_, s0_, ss_]
          rfl
         refine one_ (i := 5) (N := some 54) b30_8 rfl rfl (by kernel_rfl) (by decide) (fun K hK => ?_)
         refine Kd.R_append_rows_step k40 w.heap.size (by rfl) (.tmp 51) (.tmp 53) 24 40 (.agg #[(.int .i64 0), (.string ⟨#[]⟩), (.string ⟨#[]⟩)]) 40 rfl Try.underlying24 info40 rfl (by decide) (by omega) v230 y229 y232 _ _ _ (fun k_ => some k_ ≠ (.slice Ao30 x3_1.length co30 : Value).ownBlock ∧ some k_ ≠ (.slice Ao40 y232.length co40 : Value).ownBlock ∧ k_ ≠ gb217) (fun _ => False) rfl rfl ?aO ?aR (fun _ _ h => h) (fun _ h => h.elim) ?aF (Below.refl _ _) ?aS ?aL ?_
         (case aR => repeat (first | exact (Kd.R_reads' HO234.out).2.2 | (with_reducible refine Kd.C_alloc ?_ _) | (with_reducible refine Kd.C_drewN ?_ _) | (with_reducible refine Kd.C_drew ?_)))
         (case aF => exact (fun k_ hk => ⟨Kd.fresh' (Kd.R_lt (kr HO_3.out)) k_ hk, Kd.fresh' (Kd.R_lt (kr HO234.out)) k_ hk, Kd.freshB (g := gb217) (o := .cells #[.int .i64 (wrap64 (10 * t222)), .string t212, .string t213] 40 (0, 0)) (pk BK217.out) k_ hk⟩))
         (case aO => exact (kr (Kd.R_mono HO231.out (fun _ hk => ⟨hk.2.1, ⟨hk.1, hk.2.2⟩⟩))))
         (case aS => exact (keep_size (w := w) (g := g) (row := none) (by repeat (first | (with_reducible first | exact HK.out | apply KeepBut.set_ | apply keep_drewN | apply keep_drew | apply keep_alloc | refine keep_far ?_ GW217.out _) | exact HK.out))))
         (case aL => have := LMc22.out; omega)
         intro v236 w39 ho hb hg hat
         rw [← Ny235.out] at ho
         replace HO_3 := am (Kd.R_after (ok := (fun k_ => some k_ ≠ (.slice Ao40 y232.length co40 : Value).ownBlock ∧ k_ ≠ gb217)) (kr (Kd.R_mono HO_3.out (fun _ hk => ⟨⟨hk.2.1, hk.2.2⟩, hk.1⟩))) hg hat)
         replace BK217 := am (blk_grown (g := gb217) (o := .cells #[.int .i64 (wrap64 (10 * t222)), .string t212, .string t213] 40 (0, 0)) (pk BK217.out) hg (Kd.R_away HO231.out (fun _ hk => hk.2.2)))
         replace HO234 := am (Kd.R_after (ok := (fun k_ => some k_ ≠ (.slice Ao30 x3_1.length co30 : Value).ownBlock ∧ k_ ≠ gb217)) (kr (Kd.R_mono HO234.out (fun _ hk => ⟨⟨hk.2.1, hk.2.2⟩, hk.1⟩))) hg hat)
         replace HB := am (below_weaken (by repeat (first | (with_reducible first | exact HB.out | apply below_alloc | apply pw_below_drewN | apply below_drew1 | refine below_set ?_ (IsS63.ge HI0.out) | refine below_set ?_ GE217.out) | exact HB.out)) HL.out hb)
         replace HI0 := am (IsS63.grown (by repeat (first | (with_reducible first | exact HI0.out | apply IsS63.alloc | apply IsS63.drewN | apply IsS63.drew | apply IsS63.set_1 | apply IsS63.set_2 | apply IsS63.set_3 | refine IsS63.far ?_ NB0_217.out _) | exact HI0.out)) hg (IsS63.own_ne HI0.out HO231.out (by decide)))
         replace HK := am (KeepBut.trans (by repeat (first | (with_reducible first | exact HK.out | apply KeepBut.set_ | apply keep_drewN | apply keep_drew | apply keep_alloc | refine keep_far ?_ GW217.out _) | exact HK.out)) (KeepBut.of_grown hg g) (Kd.R_base2 HO231.out))
         have HO237 := am (ho)
         clear HO231 ho hb hg hat
         refine hK.out _ _ ⟨bc BK217.out 0, bc BK217.out 1, bc BK217.out 2⟩ (fun hHeld => ?_)
         clear hK K
         refine norm_ (a' := ?_) ?_ ?_
         rotate_left
         ·show Act.put _ (some 54) _ = _
          simp only [Act.put, sa_, s0_, ss_, i64_w, i32_w]
          rfl
         refine pure_ (i := 6) (N := some 3) (v := ?_) (a' := ?_) b30_9 rfl rfl (by kernel_rfl) (fun _ _ _ h => h) (Or.inl ⟨by rfl, ?_⟩) ?_ ?_; rotate_left
         ·intro w'; go_simp; with_reducible rfl
         rotate_left
         ·simp only [Act.put, sa_, s0_, ss_, i64_w, i32_w]; rfl
         refine done_ (by kernel_rfl) ?_
         try go_wp2
         go_meet
         case rel => exact ⟨_, (y235), (t223), (t224), (t225), H', ⟨by have := HK1.out; first | omega | exact Nat.le_refl _⟩, ⟨kr (Kd.R_mono HO237.out (fun _ hk => trivial))⟩, ⟨by repeat (first | (with_reducible first | exact HI0.out | apply IsS63.alloc | apply IsS63.drewN | apply IsS63.drew | apply IsS63.set_1 | apply IsS63.set_2 | apply IsS63.set_3 | refine IsS63.far ?_ NB0_217.out _) | exact HI0.out)⟩, ⟨by repeat (first | (with_reducible first | exact HK.out | apply KeepBut.set_ | apply keep_drewN | apply keep_drew | apply keep_alloc | refine keep_far ?_ GW217.out _) | exact HK.out)⟩, ⟨by repeat (first | (with_reducible first | exact HB.out | apply below_alloc | apply pw_below_drewN | apply below_drew1 | refine below_set ?_ (IsS63.ge HI0.out) | refine below_set ?_ GE217.out) | exact HB.out)⟩⟩
        ·rw [if_neg c22] at H
         exact absurd H (by simp)
       ·rw [if_neg c21] at H
        exact absurd H (by simp)
      ·rw [if_neg c19] at H
       have c19b0 : (t218 == 0) = false := beq_eq_false_iff_ne.mpr c19
       have c19b1 : (t218 != 0) = true := bne_iff_ne.mpr c19
       (first | rw [c19b0] | (simp only [i64_w, i32_w]; rw [c19b0]) | (have e9_ := c19b0; unfold bne at e9_; rw [e9_]) | skip)
       by_cases c41 : t218 = 1
       ·rw [if_pos c41] at H
        have c41b0 : (t218 == 1) = true := beq_iff_eq.mpr c41
        have c41b1 : (t218 != 1) = false := bne_eq_false_iff_eq.mpr c41
        clear c41
        replace H := Option.bind_eq_some_iff.mp H
        obtain ⟨⟨t238, t239, t240, t241⟩, A420, H⟩ := H
        replace H : ((spec_l01Src_l07Bytes.f k1 s0_0 t239 t240 t241 (wrap64 (7 * t238))).bind fun bt242 => ((some (([] : List (S40)) : List (S40))).bind fun y246 => (if y246.length + x3_1.length < 3518437208883 then ((some (y246 ++ x3_1 : List (S40))).bind fun y249 => ((some (([(⟨t211, bt242.1, t213⟩ : S40)] : List (S40)) : List (S40))).bind fun y252 => (if y249.length + y252.length < 3518437208883 then (spec_l01Src_l07Keys.j1 k1 (y249 ++ y252) s0_0 bt242.2.1 bt242.2.2.1 bt242.2.2.2) else (none)))) else (none)))) = some (r1, r2, r3, r4) := H
        have A42 := Aside0.mk A420
        clear A420
        replace H := Option.bind_eq_some_iff.mp H
        obtain ⟨⟨t242, t243, t244, t245⟩, A430, H⟩ := H
        replace H : ((some (([] : List (S40)) : List (S40))).bind fun y246 => (if y246.length + x3_1.length < 3518437208883 then ((some (y246 ++ x3_1 : List (S40))).bind fun y249 => ((some (([(⟨t211, t242, t213⟩ : S40)] : List (S40)) : List (S40))).bind fun y252 => (if y249.length + y252.length < 3518437208883 then (spec_l01Src_l07Keys.j1 k1 (y249 ++ y252) s0_0 t243 t244 t245) else (none)))) else (none))) = some (r1, r2, r3, r4) := H
        have A43 := Aside0.mk A430
        clear A430
        obtain ⟨y246, hy246⟩ : ∃ y_ : List (S40), y_ = (([] : List (S40))) := ⟨_, rfl⟩
        replace H : (if y246.length + x3_1.length < 3518437208883 then ((some (y246 ++ x3_1 : List (S40))).bind fun y249 => ((some (([(⟨t211, t242, t213⟩ : S40)] : List (S40)) : List (S40))).bind fun y252 => (if y249.length + y252.length < 3518437208883 then (spec_l01Src_l07Keys.j1 k1 (y249 ++ y252) s0_0 t243 t244 t245) else (none)))) else (none)) = some (r1, r2, r3, r4) := by first | (rw [hy246]; with_reducible exact H) | (have H2_ := (Option.bind_some _ _).symm.trans H; rw [hy246]; with_reducible exact H2_) | (have H2_ := (Option.bind_some _ _).symm.trans H; with_reducible exact H2_) | with_reducible exact H | (rw [hy246]; exact H) | exact H
        have Ny246 := am hy246
        clear hy246
        by_cases c44 : y246.length + x3_1.length < 3518437208883
        ·rw [if_pos c44] at H
         have LMc44 := Aside0.mk c44
         clear c44
         obtain ⟨y249, hy249⟩ : ∃ y_ : List (S40), y_ = (y246 ++ x3_1) := ⟨_, rfl⟩
         replace H : ((some (([(⟨t211, t242, t213⟩ : S40)] : List (S40)) : List (S40))).bind fun y252 => (if y249.length + y252.length < 3518437208883 then (spec_l01Src_l07Keys.j1 k1 (y249 ++ y252) s0_0 t243 t244 t245) else (none))) = some (r1, r2, r3, r4) := by first | (rw [hy249]; with_reducible exact H) | (have H2_ := (Option.bind_some _ _).symm.trans H; rw [hy249]; with_reducible exact H2_) | (have H2_ := (Option.bind_some _ _).symm.trans H; with_reducible exact H2_) | with_reducible exact H | (rw [hy249]; exact H) | exact H
         have Ny249 := am hy249
         clear hy249
         obtain ⟨y252, hy252⟩ : ∃ y_ : List (S40), y_ = (([(⟨t211, t242, t213⟩ : S40)] : List (S40))) := ⟨_, rfl⟩
         replace H : (if y249.length + y252.length < 3518437208883 then (spec_l01Src_l07Keys.j1 k1 (y249 ++ y252) s0_0 t243 t244 t245) else (none)) = some (r1, r2, r3, r4) := by first | (rw [hy252]; with_reducible exact H) | (have H2_ := (Option.bind_some _ _).symm.trans H; rw [hy252]; with_reducible exact H2_) | (have H2_ := (Option.bind_some _ _).symm.trans H; with_reducible exact H2_) | with_reducible exact H | (rw [hy252]; exact H) | exact H
         have Ny252 := am hy252
         clear hy252
         by_cases c45 : y249.length + y252.length < 3518437208883
         ·rw [if_pos c45] at H
          have LMc45 := Aside0.mk c45
          clear c45
          obtain ⟨y255, hy255⟩ : ∃ y_ : List (S40), y_ = (y249 ++ y252) := ⟨_, rfl⟩
          replace H : (spec_l01Src_l07Keys.j1 k1 y255 s0_0 t243 t244 t245) = some (r1, r2, r3, r4) := by first | (rw [hy255]; with_reducible exact H) | (have H2_ := (Option.bind_some _ _).symm.trans H; rw [hy255]; with_reducible exact H2_) | (have H2_ := (Option.bind_some _ _).symm.trans H; with_reducible exact H2_) | with_reducible exact H | (rw [hy255]; exact H) | exact H
          have Ny255 := am hy255
          clear hy255
          have H' := Aside0.mk H
          clear H
          try go_wp2_with (first | ((with_reducible refine gate_callee (f := 46) rfl ?_); refine gl (some 26) Try.func46 #[.pointer (some ⟨g, 0, none⟩)] ?_; (with_reducible refine (spec_l01Src_l07Key.calls k1 g s0_0 t208 t209 t210 t211 t212 t213 t214 t215 t216 w0 _ ?side1 ?side2 A17.out).mono ?_); (case side1 => repeat (first | (with_reducible first | exact HI0.out | apply IsS63.alloc | apply IsS63.drewN | apply IsS63.drew | apply IsS63.set_1 | apply IsS63.set_2 | apply IsS63.set_3) | exact HI0.out)); (case side2 => repeat (first | (with_reducible first | exact HB.out | apply below_alloc | apply pw_below_drewN | apply below_drew1 | refine below_set ?_ (IsS63.ge HI0.out)) | exact HB.out)); rintro e w46 ⟨rfl, hi, hb, hk⟩; refine ⟨_, rfl, ?_⟩; replace HO_3 := am (Kd.R_mono (Kd.R_keep (IsS63.apart (show IsS63 w0 _ g s0_0 t208 t209 t210 from by repeat (first | (with_reducible first | exact HI0.out | apply IsS63.alloc | apply IsS63.drewN | apply IsS63.drew | apply IsS63.set_1 | apply IsS63.set_2 | apply IsS63.set_3) | exact HI0.out)) (kr HO_3.out) (by decide)) hk (fun _ h => h.2)) (fun _ h => h.1)); replace HK := am (KeepBut.trans (by repeat (first | (with_reducible first | exact HK.out | apply KeepBut.set_ | apply keep_drewN | apply keep_drew | apply keep_alloc) | exact HK.out)) hk (.inl rfl)); replace HB := am (hb); replace HI0 := am (hi); (try clear hb); (try clear hb2); (try clear hk); (try clear hi)) | ((with_reducible refine gate_dst (N := 5) rfl ?_); refine box_event ?hg (N := 5) ?hd (cs := #[.int .i64 0, .string (⟨#[]⟩ : ByteArray), .string (⟨#[]⟩ : ByteArray)]) (t := 40) ?hr ?_; (case hd => rfl); (case hg => rfl); (case hr => first | (go_simp; done) | (go_simp; rfl)); intro gb217 hg w47 hbox hb; replace HO_3 := am (Kd.R_below (Kd.R_elderB (kr HO_3.out) gb217 (Nat.le_of_eq hg.symm)) hb); replace HB := am (below_step (by repeat (first | (with_reducible first | exact HB.out | apply below_alloc | apply pw_below_drewN | apply below_drew1 | refine below_set ?_ (IsS63.ge HI0.out)) | exact HB.out)) hb); have BK217 := am (hbox); have GW217 := am ((by rw [hg]; exact (keep_size (w := w) (g := g) (row := none) (by repeat (first | (with_reducible first | exact HK.out | apply KeepBut.set_ | apply keep_drewN | apply keep_drew | apply keep_alloc) | exact HK.out))) : w.heap.size ≤ gb217)); have GE217 := am ((Nat.le_trans HW0.out (by rw [hg]; exact (keep_size (w := w) (g := g) (row := none) (by repeat (first | (with_reducible first | exact HK.out | apply KeepBut.set_ | apply keep_drewN | apply keep_drew | apply keep_alloc) | exact HK.out))) : w.heap.size ≤ gb217) : w0.heap.size ≤ gb217)); replace HK := am (KeepBut.trans (by repeat (first | (with_reducible first | exact HK.out | apply KeepBut.set_ | apply keep_drewN | apply keep_drew | apply keep_alloc) | exact HK.out)) (KeepBut.of_below hb g none) (.inl rfl)); have NB0_217 := am ((by rw [hg]; exact Nat.ne_of_lt (IsS63.lt (show IsS63 w0 _ g s0_0 t214 t215 t216 from by repeat (first | (with_reducible first | exact HI0.out | apply IsS63.alloc | apply IsS63.drewN | apply IsS63.drew | apply IsS63.set_1 | apply IsS63.set_2 | apply IsS63.set_3) | exact HI0.out))) : g ≠ gb217)); have NB217_0 := am ((by rw [hg]; exact Nat.ne_of_gt (IsS63.lt (show IsS63 w0 _ g s0_0 t214 t215 t216 from by repeat (first | (with_reducible first | exact HI0.out | apply IsS63.alloc | apply IsS63.drewN | apply IsS63.drew | apply IsS63.set_1 | apply IsS63.set_2 | apply IsS63.set_3) | exact HI0.out))) : gb217 ≠ g)); replace HI0 := am (IsS63.below (by repeat (first | (with_reducible first | exact HI0.out | apply IsS63.alloc | apply IsS63.drewN | apply IsS63.drew | apply IsS63.set_1 | apply IsS63.set_2 | apply IsS63.set_3) | exact HI0.out)) hb); clear hb hbox hg; have hnb48 := NB217_0.out; have hnc48 := NB0_217.out; have hcz49_0 : w47.cell? ⟨gb217, 0, none⟩ = some (.int .i64 0) := bc BK217.out 0; have hcz49_1 : w47.cell? ⟨gb217, 1, none⟩ = some (.string (⟨#[]⟩ : ByteArray)) := bc BK217.out 1; have hcz49_2 : w47.cell? ⟨gb217, 2, none⟩ = some (.string (⟨#[]⟩ : ByteArray)) := bc BK217.out 2; have hfz49_0 := blk_frozen BK217.out 0; have hfz49_1 := blk_frozen BK217.out 1; have hfz49_2 := blk_frozen BK217.out 2) | ((with_reducible refine gate_callee (f := 31) rfl ?_); refine gl (some 28) Try.func31 #[.pointer (some ⟨g, 0, none⟩), .int .i64 4] ?_; (with_reducible refine (spec_l01Src_n.calls g s0_0 t214 t215 t216 4 t218 t219 t220 t221 w0 _ ?side1 ?side2 A18.out).mono ?_); (case side1 => repeat (first | (with_reducible first | exact HI0.out | apply IsS63.alloc | apply IsS63.drewN | apply IsS63.drew | apply IsS63.set_1 | apply IsS63.set_2 | apply IsS63.set_3 | refine IsS63.far ?_ NB0_217.out _) | exact HI0.out)); (case side2 => repeat (first | (with_reducible first | exact HB.out | apply below_alloc | apply pw_below_drewN | apply below_drew1 | refine below_set ?_ (IsS63.ge HI0.out) | refine below_set ?_ GE217.out) | exact HB.out)); rintro e w50 ⟨rfl, hi, hb, hk⟩; refine ⟨_, rfl, ?_⟩; replace HO_3 := am (Kd.R_mono (Kd.R_keep (IsS63.apart (show IsS63 w0 _ g s0_0 t214 t215 t216 from by repeat (first | (with_reducible first | exact HI0.out | apply IsS63.alloc | apply IsS63.drewN | apply IsS63.drew | apply IsS63.set_1 | apply IsS63.set_2 | apply IsS63.set_3 | refine IsS63.far ?_ NB0_217.out _) | exact HI0.out)) (kr ((Kd.R_mono (Kd.R_far (p := ⟨gb217, 2, none⟩) (Kd.R_far (p := ⟨gb217, 1, none⟩) (Kd.R_far (p := ⟨gb217, 0, none⟩) (Kd.R_mono HO_3.out (fun k_ hk => (⟨hk, hk.2⟩ : _ ∧ k_ ≠ gb217))) (fun _ hk => hk.2) (.int .i64 t211)) (fun _ hk => hk.2) (.string t212)) (fun _ hk => hk.2) (.string t213)) (fun _ h_ => h_.1)))) (by decide)) hk (fun _ h => h.2)) (fun _ h => h.1)); replace BK217 := am (KeepBut.blk hk (g' := gb217) (o := .cells #[.int .i64 t211, .string t212, .string t213] 40 (0, 0)) (by refine pk ?_; refine blk_put (cs := #[.int .i64 t211, .string t212, .string (⟨#[]⟩ : ByteArray)]) ?_ 2 _ rfl; refine pk ?_; refine blk_put (cs := #[.int .i64 t211, .string (⟨#[]⟩ : ByteArray), .string (⟨#[]⟩ : ByteArray)]) ?_ 1 _ rfl; refine pk ?_; refine blk_put (cs := #[.int .i64 0, .string (⟨#[]⟩ : ByteArray), .string (⟨#[]⟩ : ByteArray)]) ?_ 0 _ rfl; refine pk ?_; exact BK217.out) NB217_0.out (by simp)); replace HK := am (KeepBut.trans (by repeat (first | (with_reducible first | exact HK.out | apply KeepBut.set_ | apply keep_drewN | apply keep_drew | apply keep_alloc | refine keep_far ?_ GW217.out _) | exact HK.out)) hk (.inl rfl)); replace HB := am (hb); replace HI0 := am (hi); (try clear hb); (try clear hb2); (try clear hk); (try clear hi)) | ((with_reducible refine gate_callee (f := 31) rfl ?_); refine gl (some 39) Try.func31 #[.pointer (some ⟨g, 0, none⟩), .int .i64 2] ?_; (with_reducible refine (spec_l01Src_n.calls g s0_0 t219 t220 t221 2 t238 t239 t240 t241 w0 _ ?side1 ?side2 A42.out).mono ?_); (case side1 => repeat (first | (with_reducible first | exact HI0.out | apply IsS63.alloc | apply IsS63.drewN | apply IsS63.drew | apply IsS63.set_1 | apply IsS63.set_2 | apply IsS63.set_3 | refine IsS63.far ?_ NB0_217.out _) | exact HI0.out)); (case side2 => repeat (first | (with_reducible first | exact HB.out | apply below_alloc | apply pw_below_drewN | apply below_drew1 | refine below_set ?_ (IsS63.ge HI0.out) | refine below_set ?_ GE217.out) | exact HB.out)); rintro e w51 ⟨rfl, hi, hb, hk⟩; refine ⟨_, rfl, ?_⟩; replace HO_3 := am (Kd.R_mono (Kd.R_keep (IsS63.apart (show IsS63 w0 _ g s0_0 t219 t220 t221 from by repeat (first | (with_reducible first | exact HI0.out | apply IsS63.alloc | apply IsS63.drewN | apply IsS63.drew | apply IsS63.set_1 | apply IsS63.set_2 | apply IsS63.set_3 | refine IsS63.far ?_ NB0_217.out _) | exact HI0.out)) (kr HO_3.out) (by decide)) hk (fun _ h => h.2)) (fun _ h => h.1)); replace BK217 := am (KeepBut.blk hk (g' := gb217) (o := .cells #[.int .i64 t211, .string t212, .string t213] 40 (0, 0)) (pk BK217.out) NB217_0.out (by simp)); replace HK := am (KeepBut.trans (by repeat (first | (with_reducible first | exact HK.out | apply KeepBut.set_ | apply keep_drewN | apply keep_drew | apply keep_alloc | refine keep_far ?_ GW217.out _) | exact HK.out)) hk (.inl rfl)); replace HB := am (hb); replace HI0 := am (hi); (try clear hb); (try clear hb2); (try clear hk); (try clear hi)) | ((with_reducible refine gate_callee (f := 33) rfl ?_); refine gl (some 41) Try.func33 #[.pointer (some ⟨g, 0, none⟩), .int .i64 (wrap64 (7 * t238))] ?_; (with_reducible refine (spec_l01Src_l07Bytes.calls k1 g s0_0 t239 t240 t241 (wrap64 (7 * t238)) t242 t243 t244 t245 w0 _ ?side1 ?side2 A43.out).mono ?_); (case side1 => repeat (first | (with_reducible first | exact HI0.out | apply IsS63.alloc | apply IsS63.drewN | apply IsS63.drew | apply IsS63.set_1 | apply IsS63.set_2 | apply IsS63.set_3 | refine IsS63.far ?_ NB0_217.out _) | exact HI0.out)); (case side2 => repeat (first | (with_reducible first | exact HB.out | apply below_alloc | apply pw_below_drewN | apply below_drew1 | refine below_set ?_ (IsS63.ge HI0.out) | refine below_set ?_ GE217.out) | exact HB.out)); rintro e w52 ⟨rfl, hi, hb, hk⟩; refine ⟨_, rfl, ?_⟩; replace HO_3 := am (Kd.R_mono (Kd.R_keep (IsS63.apart (show IsS63 w0 _ g s0_0 t239 t240 t241 from by repeat (first | (with_reducible first | exact HI0.out | apply IsS63.alloc | apply IsS63.drewN | apply IsS63.drew | apply IsS63.set_1 | apply IsS63.set_2 | apply IsS63.set_3 | refine IsS63.far ?_ NB0_217.out _) | exact HI0.out)) (kr HO_3.out) (by decide)) hk (fun _ h => h.2)) (fun _ h => h.1)); replace BK217 := am (KeepBut.blk hk (g' := gb217) (o := .cells #[.int .i64 t211, .string t212, .string t213] 40 (0, 0)) (pk BK217.out) NB217_0.out (by simp)); replace HK := am (KeepBut.trans (by repeat (first | (with_reducible first | exact HK.out | apply KeepBut.set_ | apply keep_drewN | apply keep_drew | apply keep_alloc | refine keep_far ?_ GW217.out _) | exact HK.out)) hk (.inl rfl)); replace HB := am (hb); replace HI0 := am (hi); (try clear hb); (try clear hb2); (try clear hk); (try clear hi); have hcz53_0 : w52.cell? ⟨gb217, 0, none⟩ = some (.int .i64 t211) := bc BK217.out 0; have hcz53_1 : w52.cell? ⟨gb217, 1, none⟩ = some (.string t212) := bc BK217.out 1; have hcz53_2 : w52.cell? ⟨gb217, 2, none⟩ = some (.string t213) := bc BK217.out 2; have hfz53_0 := blk_frozen BK217.out 0; have hfz53_1 := blk_frozen BK217.out 1; have hfz53_2 := blk_frozen BK217.out 2; obtain ⟨Ao54, co54, eo54⟩ := Kd.R_slice HO_3.out; subst eo54))
          have n0_ : Aside0 (Kd.R k40 40 (w52.setCell ⟨gb217, 1, none⟩ (.string t242)) w.heap.size (fun k_ => k_ ≠ gb217) (.slice Ao54 x3_1.length co54) x3_1) := ⟨kr (Kd.R_mono (Kd.R_far (p := ⟨gb217, 1, none⟩) (Kd.R_mono HO_3.out (fun k_ hk => (⟨hk, hk.2⟩ : _ ∧ k_ ≠ gb217))) (fun _ hk => hk.2) (.string t242)) (fun _ hk => hk.1.2))⟩
          have n1_ : Aside0 ((w52.setCell ⟨gb217, 1, none⟩ (.string t242)).heap[gb217]? = some (.cells #[.int .i64 t211, .string t242, .string t213] 40 (0, 0))) := ⟨by refine pk ?_; refine blk_put (cs := #[.int .i64 t211, .string t212, .string t213]) ?_ 1 _ rfl; refine pk ?_; exact BK217.out⟩
          have n2_ : Aside0 (IsS63 w0 (w52.setCell ⟨gb217, 1, none⟩ (.string t242)) g s0_0 t243 t244 t245) := ⟨by repeat (first | (with_reducible first | exact HI0.out | apply IsS63.alloc | apply IsS63.drewN | apply IsS63.drew | apply IsS63.set_1 | apply IsS63.set_2 | apply IsS63.set_3 | refine IsS63.far ?_ NB0_217.out _) | exact HI0.out)⟩
          have n3_ : Aside0 (KeepBut w (w52.setCell ⟨gb217, 1, none⟩ (.string t242)) g none) := ⟨by repeat (first | (with_reducible first | exact HK.out | apply KeepBut.set_ | apply keep_drewN | apply keep_drew | apply keep_alloc | refine keep_far ?_ GW217.out _) | exact HK.out)⟩
          have n4_ : Aside0 (Below w0.heap.size w0 (w52.setCell ⟨gb217, 1, none⟩ (.string t242))) := ⟨by repeat (first | (with_reducible first | exact HB.out | apply below_alloc | apply pw_below_drewN | apply below_drew1 | refine below_set ?_ (IsS63.ge HI0.out) | refine below_set ?_ GE217.out) | exact HB.out)⟩
          (try clear HO_3)
          (try clear BK217)
          (try clear HI0)
          (try clear HK)
          (try clear HB)
          generalize (w52.setCell ⟨gb217, 1, none⟩ (.string t242)) = w55 at n0_ n1_ n2_ n3_ n4_ ⊢
          have HO_3 := n0_
          have BK217 := n1_
          have HI0 := n2_
          have HK := n3_
          have HB := n4_
          clear n0_ n1_ n2_ n3_ n4_
          replace HO_3 := am (Kd.R_drew HO_3.out)
          replace BK217 := am (blk_drew BK217.out)
          replace HI0 := am (IsS63.drew HI0.out)
          replace HK := am (keep_drew HK.out)
          replace HB := am (below_drew1 HB.out)
          refine start_ (n := 7) (S := fun w' => w'.cell? ⟨gb217, 0, none⟩ = some (.int .i64 t211) ∧ w'.cell? ⟨gb217, 1, none⟩ = some (.string t242) ∧ w'.cell? ⟨gb217, 2, none⟩ = some (.string t213)) (ds := []) b30_0 (by kernel_rfl) rfl rfl ⟨bc BK217.out 0, bc BK217.out 1, bc BK217.out 2⟩ (fun hHeld => ?_)
          generalize w55.drew = w56 at HO_3 BK217 HI0 HK HB hHeld ⊢
          refine pure_ (i := 1) (N := some 50) (v := ?_) (a' := ?_) b30_1 rfl rfl (by kernel_rfl) (fun _ _ _ h => h) (Or.inl ⟨by rfl, ?_⟩) ?_ ?_; rotate_left
          ·intro w'; go_simp; with_reducible rfl
          rotate_left
          ·simp only [Act.put, sa_, s0_, ss_, i64_w, i32_w]; rfl
          refine take_ (i := 3) (N := some 52) (v := ?_) (a' := ?_) b30_2 rfl rfl (by kernel_rfl) (fun _ _ _ h => h) (Or.inl ⟨by rfl, ?_⟩) hHeld ?_ ?_; rotate_left
          ·rintro w' ⟨s0, s1, s2⟩; go_simp; with_reducible rfl
          rotate_left
          ·simp only [Act.put, sa_, s0_, ss_, i64_w, i32_w]; rfl
          refine join_ (σ := Value × Value × Value) 2 b30_3 (fun s_ => [(49, s_.1), (51, s_.2.1), (53, s_.2.2)]) (fun s_ w' => (w'.cell? ⟨gb217, 0, none⟩ = some (.int .i64 t211) ∧ w'.cell? ⟨gb217, 1, none⟩ = some (.string t242) ∧ w'.cell? ⟨gb217, 2, none⟩ = some (.string t213)) ∧ (Kd.R k40 40 w' w.heap.size (fun k_ => some k_ ≠ (s_.2.2 : Value).ownBlock ∧ some k_ ≠ (.slice Ao54 x3_1.length co54 : Value).ownBlock ∧ k_ ≠ gb217) s_.2.1 y249) ∧ (Kd.R k40 40 w' w.heap.size (fun k_ => some k_ ≠ (s_.2.1 : Value).ownBlock ∧ some k_ ≠ (.slice Ao54 x3_1.length co54 : Value).ownBlock ∧ k_ ≠ gb217) s_.2.2 y252) ∧ (Kd.R k40 40 w' w.heap.size (fun k_ => some k_ ≠ (s_.2.1 : Value).ownBlock ∧ some k_ ≠ (s_.2.2 : Value).ownBlock ∧ k_ ≠ gb217) (.slice Ao54 x3_1.length co54) x3_1) ∧ (w'.heap[gb217]? = some (.cells #[.int .i64 t211, .string t242, .string t213] 40 (0, 0))) ∧ (IsS63 w0 w' g s0_0 t243 t244 t245) ∧ (KeepBut w w' g none) ∧ (Below w0.heap.size w0 w')) ?_ ?_
          rotate_left
          ·intro hCont
           refine two_ (i := 0) (j := 4) (Ni := some 49) (Nj := some 53) b30_4 b30_5 rfl rfl rfl rfl (by kernel_rfl) (by decide) (by decide) (fun K hK => ?_) (fun K hK => ?_)
           ·skip
            refine Kd.R_lit_step k40 _ 40 ?hg (N := 49) ?hd (xs := ([] : List (S40))) (inner := []) (ok := fun _ => True) (okp := fun _ => True) ?hr ?hp (fun _ hk => hk) trivial (Below.refl _ _) (Nat.le_refl _) (by simp) ?_; (case hd => rfl); (case hg => rfl); (case hr => first | (go_simp; done) | (go_simp; rfl)); (case hp => exact (Reps.none _ _))
            intro v247 w57 ho58 hb hg_ hnew_
            clear hg_ hnew_
            (first | rw [← Ny246.out] at ho58 | (simp only [Int.reduceToNat] at ho58; rw [← Ny246.out] at ho58))
            have HO248 := am (Kd.R_lower (Kd.R_newB (Kd.R_new' ho58 (Kd.R_lt (kr HO_3.out))) (g := gb217) (o := .cells #[.int .i64 t211, .string t242, .string t213] 40 (0, 0)) (pk BK217.out)) (keep_size (w := w) (g := g) (row := none) (by repeat (first | (with_reducible first | exact HK.out | apply KeepBut.set_ | apply keep_drewN | apply keep_drew | apply keep_alloc | refine keep_far ?_ GW217.out _) | exact HK.out))))
            replace HO_3 := am (Kd.R_elder' (kr HO_3.out) (Kd.R_base ho58) hb)
            replace BK217 := am (blk_below (pk BK217.out) hb)
            replace HK := am (KeepBut.trans (by repeat (first | (with_reducible first | exact HK.out | apply KeepBut.set_ | apply keep_drewN | apply keep_drew | apply keep_alloc | refine keep_far ?_ GW217.out _) | exact HK.out)) (KeepBut.of_below hb g none) (.inl rfl))
            replace HB := am (below_step (by repeat (first | (with_reducible first | exact HB.out | apply below_alloc | apply pw_below_drewN | apply below_drew1 | refine below_set ?_ (IsS63.ge HI0.out) | refine below_set ?_ GE217.out) | exact HB.out)) hb)
            replace HI0 := am (IsS63.below (by repeat (first | (with_reducible first | exact HI0.out | apply IsS63.alloc | apply IsS63.drewN | apply IsS63.drew | apply IsS63.set_1 | apply IsS63.set_2 | apply IsS63.set_3 | refine IsS63.far ?_ NB0_217.out _) | exact HI0.out)) hb)
            clear hb ho58
            refine hK.out _ _ ⟨bc BK217.out 0, bc BK217.out 1, bc BK217.out 2⟩ (fun hHeld => ?_)
            clear hK K
            refine norm_ (a' := ?_) ?_ ?_
            rotate_left
            ·show Act.put _ (some 49) _ = _
             simp only [Act.put, sa_, s0_, ss_, i64_w, i32_w]
             rfl
            refine two_ (i := 2) (j := 4) (Ni := some 51) (Nj := some 53) b30_6 b30_7 rfl rfl rfl rfl (by kernel_rfl) (by decide) (by decide) (fun K hK => ?_) (fun K hK => ?_)
            ·skip
             refine Kd.R_append_rows_step k40 w.heap.size (by rfl) (.tmp 49) (.tmp 50) 24 40 (.agg #[(.int .i64 0), (.string ⟨#[]⟩), (.string ⟨#[]⟩)]) 40 rfl Try.underlying24 info40 rfl (by decide) (by omega) v247 y246 x3_1 _ _ _ (fun k_ => some k_ ≠ (.slice Ao54 x3_1.length co54 : Value).ownBlock ∧ k_ ≠ gb217) (fun _ => False) rfl rfl ?aO ?aR (fun _ _ h => h) (fun _ h => h.elim) ?aF (Below.refl _ _) ?aS ?aL ?_
             (case aR => repeat (first | exact (Kd.R_reads' HO_3.out).2.2 | (with_reducible refine Kd.C_alloc ?_ _) | (with_reducible refine Kd.C_drewN ?_ _) | (with_reducible refine Kd.C_drew ?_)))
             (case aF => exact (fun k_ hk => ⟨Kd.fresh' (Kd.R_lt (kr HO_3.out)) k_ hk, Kd.freshB (g := gb217) (o := .cells #[.int .i64 t211, .string t242, .string t213] 40 (0, 0)) (pk BK217.out) k_ hk⟩))
             (case aO => exact (kr (Kd.R_mono HO248.out (fun _ hk => ⟨hk.1.2, hk.2⟩))))
             (case aS => exact (keep_size (w := w) (g := g) (row := none) (by repeat (first | (with_reducible first | exact HK.out | apply KeepBut.set_ | apply keep_drewN | apply keep_drew | apply keep_alloc | refine keep_far ?_ GW217.out _) | exact HK.out))))
             (case aL => have := LMc44.out; omega)
             intro v250 w59 ho hb hg hat
             rw [← Ny249.out] at ho
             replace HO_3 := am (Kd.R_after (ok := (fun k_ => k_ ≠ gb217)) (kr HO_3.out) hg hat)
             replace BK217 := am (blk_grown (g := gb217) (o := .cells #[.int .i64 t211, .string t242, .string t213] 40 (0, 0)) (pk BK217.out) hg (Kd.R_away HO248.out (fun _ hk => hk.2)))
             replace HB := am (below_weaken (by repeat (first | (with_reducible first | exact HB.out | apply below_alloc | apply pw_below_drewN | apply below_drew1 | refine below_set ?_ (IsS63.ge HI0.out) | refine below_set ?_ GE217.out) | exact HB.out)) HL.out hb)
             replace HI0 := am (IsS63.grown (by repeat (first | (with_reducible first | exact HI0.out | apply IsS63.alloc | apply IsS63.drewN | apply IsS63.drew | apply IsS63.set_1 | apply IsS63.set_2 | apply IsS63.set_3 | refine IsS63.far ?_ NB0_217.out _) | exact HI0.out)) hg (IsS63.own_ne HI0.out HO248.out (by decide)))
             replace HK := am (KeepBut.trans (by repeat (first | (with_reducible first | exact HK.out | apply KeepBut.set_ | apply keep_drewN | apply keep_drew | apply keep_alloc | refine keep_far ?_ GW217.out _) | exact HK.out)) (KeepBut.of_grown hg g) (Kd.R_base2 HO248.out))
             have HO251 := am (ho)
             clear HO248 ho hb hg hat
             refine hK.out _ _ ⟨bc BK217.out 0, bc BK217.out 1, bc BK217.out 2⟩ (fun hHeld => ?_)
             clear hK K
             refine norm_ (a' := ?_) ?_ ?_
             rotate_left
             ·show Act.put _ (some 51) _ = _
              simp only [Act.put, sa_, s0_, ss_, i64_w, i32_w]
              rfl
             refine one_ (i := 4) (N := some 53) b30_3 rfl rfl (by kernel_rfl) (by decide) (fun K hK => ?_)
             refine Kd.R_lit_step k40 _ 40 ?hg (N := 53) ?hd (xs := ([(⟨t211, t242, t213⟩ : S40)] : List (S40))) (inner := [.int .i64 t211, .string t242, .string t213]) (ok := fun _ => True) (okp := fun _ => True) ?hr ?hp (fun _ hk => hk) trivial (Below.refl _ _) (Nat.le_refl _) (by simp) ?_; (case hd => rfl); (case hg => rfl); (case hr => first | (go_simp; done) | (go_simp; rfl)); (case hp => exact (Reps.c3 (show Kd.M k40 _ _ _ (⟨t211, t242, t213⟩ : S40) [.int .i64 t211, .string t242, .string t213] from (k40_mkM _ _ _ (⟨t211, t242, t213⟩ : S40) )) (Reps.none _ _)))
             intro v253 w60 ho61 hb hg_ hnew_
             clear hg_ hnew_
             (first | rw [← Ny252.out] at ho61 | (simp only [Int.reduceToNat] at ho61; rw [← Ny252.out] at ho61))
             have HO254 := am (Kd.R_lower (Kd.R_newB (Kd.R_new' (Kd.R_new' ho61 (Kd.R_lt (kr HO_3.out))) (Kd.R_lt (kr HO251.out))) (g := gb217) (o := .cells #[.int .i64 t211, .string t242, .string t213] 40 (0, 0)) (pk BK217.out)) (keep_size (w := w) (g := g) (row := none) (by repeat (first | (with_reducible first | exact HK.out | apply KeepBut.set_ | apply keep_drewN | apply keep_drew | apply keep_alloc | refine keep_far ?_ GW217.out _) | exact HK.out))))
             replace HO_3 := am (Kd.R_elder' (kr HO_3.out) (Kd.R_base ho61) hb)
             replace HO251 := am (Kd.R_elder' (kr HO251.out) (Kd.R_base ho61) hb)
             replace BK217 := am (blk_below (pk BK217.out) hb)
             replace HK := am (KeepBut.trans (by repeat (first | (with_reducible first | exact HK.out | apply KeepBut.set_ | apply keep_drewN | apply keep_drew | apply keep_alloc | refine keep_far ?_ GW217.out _) | exact HK.out)) (KeepBut.of_below hb g none) (.inl rfl))
             replace HB := am (below_step (by repeat (first | (with_reducible first | exact HB.out | apply below_alloc | apply pw_below_drewN | apply below_drew1 | refine below_set ?_ (IsS63.ge HI0.out) | refine below_set ?_ GE217.out) | exact HB.out)) hb)
             replace HI0 := am (IsS63.below (by repeat (first | (with_reducible first | exact HI0.out | apply IsS63.alloc | apply IsS63.drewN | apply IsS63.drew | apply IsS63.set_1 | apply IsS63.set_2 | apply IsS63.set_3 | refine IsS63.far ?_ NB0_217.out _) | exact HI0.out)) hb)
             clear hb ho61
             refine hK.out _ _ ⟨bc BK217.out 0, bc BK217.out 1, bc BK217.out 2⟩ (fun hHeld => ?_)
             clear hK K
             refine norm_ (a' := ?_) ?_ ?_
             rotate_left
             ·show Act.put _ (some 53) _ = _
              simp only [Act.put, sa_, s0_, ss_, i64_w, i32_w]
              rfl
             exact norm_ (by simp only [putAll, Act.put, sa_, s0_, ss_]) (hCont (v247, v250, v253) _ ⟨hHeld, (kr (Kd.R_mono HO251.out (fun _ hk => ⟨hk.2, ⟨hk.1.1, hk.1.2⟩⟩))), (kr (Kd.R_mono HO254.out (fun _ hk => ⟨hk.1.2, ⟨hk.1.1.2, hk.2⟩⟩))), (kr (Kd.R_mono HO_3.out (fun _ hk => ⟨hk.1.2, ⟨hk.2, hk.1.1⟩⟩))), (pk BK217.out), (by repeat (first | (with_reducible first | exact HI0.out | apply IsS63.alloc | apply IsS63.drewN | apply IsS63.drew | apply IsS63.set_1 | apply IsS63.set_2 | apply IsS63.set_3 | refine IsS63.far ?_ NB0_217.out _) | exact HI0.out)), (by repeat (first | (with_reducible first | exact HK.out | apply KeepBut.set_ | apply keep_drewN | apply keep_drew | apply keep_alloc | refine keep_far ?_ GW217.out _) | exact HK.out)), (by repeat (first | (with_reducible first | exact HB.out | apply below_alloc | apply pw_below_drewN | apply below_drew1 | refine below_set ?_ (IsS63.ge HI0.out) | refine below_set ?_ GE217.out) | exact HB.out))⟩)
            ·skip
             refine Kd.R_lit_step k40 _ 40 ?hg (N := 53) ?hd (xs := ([(⟨t211, t242, t213⟩ : S40)] : List (S40))) (inner := [.int .i64 t211, .string t242, .string t213]) (ok := fun _ => True) (okp := fun _ => True) ?hr ?hp (fun _ hk => hk) trivial (Below.refl _ _) (Nat.le_refl _) (by simp) ?_; (case hd => rfl); (case hg => rfl); (case hr => first | (go_simp; done) | (go_simp; rfl)); (case hp => exact (Reps.c3 (show Kd.M k40 _ _ _ (⟨t211, t242, t213⟩ : S40) [.int .i64 t211, .string t242, .string t213] from (k40_mkM _ _ _ (⟨t211, t242, t213⟩ : S40) )) (Reps.none _ _)))
             intro v253 w59 ho60 hb hg_ hnew_
             clear hg_ hnew_
             (first | rw [← Ny252.out] at ho60 | (simp only [Int.reduceToNat] at ho60; rw [← Ny252.out] at ho60))
             have HO254 := am (Kd.R_lower (Kd.R_newB (Kd.R_new' (Kd.R_new' ho60 (Kd.R_lt (kr HO_3.out))) (Kd.R_lt (kr HO248.out))) (g := gb217) (o := .cells #[.int .i64 t211, .string t242, .string t213] 40 (0, 0)) (pk BK217.out)) (keep_size (w := w) (g := g) (row := none) (by repeat (first | (with_reducible first | exact HK.out | apply KeepBut.set_ | apply keep_drewN | apply keep_drew | apply keep_alloc | refine keep_far ?_ GW217.out _) | exact HK.out))))
             replace HO_3 := am (Kd.R_elder' (kr HO_3.out) (Kd.R_base ho60) hb)
             replace HO248 := am (Kd.R_elder' (kr HO248.out) (Kd.R_base ho60) hb)
             replace BK217 := am (blk_below (pk BK217.out) hb)
             replace HK := am (KeepBut.trans (by repeat (first | (with_reducible first | exact HK.out | apply KeepBut.set_ | apply keep_drewN | apply keep_drew | apply keep_alloc | refine keep_far ?_ GW217.out _) | exact HK.out)) (KeepBut.of_below hb g none) (.inl rfl))
             replace HB := am (below_step (by repeat (first | (with_reducible first | exact HB.out | apply below_alloc | apply pw_below_drewN | apply below_drew1 | refine below_set ?_ (IsS63.ge HI0.out) | refine below_set ?_ GE217.out) | exact HB.out)) hb)
             replace HI0 := am (IsS63.below (by repeat (first | (with_reducible first | exact HI0.out | apply IsS63.alloc | apply IsS63.drewN | apply IsS63.drew | apply IsS63.set_1 | apply IsS63.set_2 | apply IsS63.set_3 | refine IsS63.far ?_ NB0_217.out _) | exact HI0.out)) hb)
             clear hb ho60
             refine hK.out _ _ ⟨bc BK217.out 0, bc BK217.out 1, bc BK217.out 2⟩ (fun hHeld => ?_)
             clear hK K
             refine norm_ (a' := ?_) ?_ ?_
             rotate_left
             ·show Act.put _ (some 53) _ = _
              simp only [Act.put, sa_, s0_, ss_, i64_w, i32_w]
              rfl
             refine one_ (i := 2) (N := some 51) b30_3 rfl rfl (by kernel_rfl) (by decide) (fun K hK => ?_)
             refine Kd.R_append_rows_step k40 w.heap.size (by rfl) (.tmp 49) (.tmp 50) 24 40 (.agg #[(.int .i64 0), (.string ⟨#[]⟩), (.string ⟨#[]⟩)]) 40 rfl Try.underlying24 info40 rfl (by decide) (by omega) v247 y246 x3_1 _ _ _ (fun k_ => some k_ ≠ (.slice Ao54 x3_1.length co54 : Value).ownBlock ∧ some k_ ≠ (v253 : Value).ownBlock ∧ k_ ≠ gb217) (fun _ => False) rfl rfl ?aO ?aR (fun _ _ h => h) (fun _ h => h.elim) ?aF (Below.refl _ _) ?aS ?aL ?_
             (case aR => repeat (first | exact (Kd.R_reads' HO_3.out).2.2 | (with_reducible refine Kd.C_alloc ?_ _) | (with_reducible refine Kd.C_drewN ?_ _) | (with_reducible refine Kd.C_drew ?_)))
             (case aF => exact (fun k_ hk => ⟨Kd.fresh' (Kd.R_lt (kr HO_3.out)) k_ hk, Kd.fresh' (Kd.R_lt (kr HO254.out)) k_ hk, Kd.freshB (g := gb217) (o := .cells #[.int .i64 t211, .string t242, .string t213] 40 (0, 0)) (pk BK217.out) k_ hk⟩))
             (case aO => exact (kr (Kd.R_mono HO248.out (fun _ hk => ⟨hk.1.1.2, ⟨hk.2, hk.1.2⟩⟩))))
             (case aS => exact (keep_size (w := w) (g := g) (row := none) (by repeat (first | (with_reducible first | exact HK.out | apply KeepBut.set_ | apply keep_drewN | apply keep_drew | apply keep_alloc | refine keep_far ?_ GW217.out _) | exact HK.out))))
             (case aL => have := LMc44.out; omega)
             intro v250 w61 ho hb hg hat
             rw [← Ny249.out] at ho
             replace HO_3 := am (Kd.R_after (ok := (fun k_ => some k_ ≠ (v253 : Value).ownBlock ∧ k_ ≠ gb217)) (kr (Kd.R_mono HO_3.out (fun _ hk => ⟨⟨hk.2, hk.1.1⟩, hk.1.2⟩))) hg hat)
             replace BK217 := am (blk_grown (g := gb217) (o := .cells #[.int .i64 t211, .string t242, .string t213] 40 (0, 0)) (pk BK217.out) hg (Kd.R_away HO248.out (fun _ hk => hk.1.2)))
             replace HO254 := am (Kd.R_after (ok := (fun k_ => some k_ ≠ (.slice Ao54 x3_1.length co54 : Value).ownBlock ∧ k_ ≠ gb217)) (kr (Kd.R_mono HO254.out (fun _ hk => ⟨⟨hk.1.1.2, hk.2⟩, hk.1.2⟩))) hg hat)
             replace HB := am (below_weaken (by repeat (first | (with_reducible first | exact HB.out | apply below_alloc | apply pw_below_drewN | apply below_drew1 | refine below_set ?_ (IsS63.ge HI0.out) | refine below_set ?_ GE217.out) | exact HB.out)) HL.out hb)
             replace HI0 := am (IsS63.grown (by repeat (first | (with_reducible first | exact HI0.out | apply IsS63.alloc | apply IsS63.drewN | apply IsS63.drew | apply IsS63.set_1 | apply IsS63.set_2 | apply IsS63.set_3 | refine IsS63.far ?_ NB0_217.out _) | exact HI0.out)) hg (IsS63.own_ne HI0.out HO248.out (by decide)))
             replace HK := am (KeepBut.trans (by repeat (first | (with_reducible first | exact HK.out | apply KeepBut.set_ | apply keep_drewN | apply keep_drew | apply keep_alloc | refine keep_far ?_ GW217.out _) | exact HK.out)) (KeepBut.of_grown hg g) (Kd.R_base2 HO248.out))
             have HO251 := am (ho)
             clear HO248 ho hb hg hat
             refine hK.out _ _ ⟨bc BK217.out 0, bc BK217.out 1, bc BK217.out 2⟩ (fun hHeld => ?_)
             clear hK K
             refine norm_ (a' := ?_) ?_ ?_
             rotate_left
             ·show Act.put _ (some 51) _ = _
              simp only [Act.put, sa_, s0_, ss_, i64_w, i32_w]
              rfl
             exact norm_ (by simp only [putAll, Act.put, sa_, s0_, ss_]) (hCont (v247, v250, v253) _ ⟨hHeld, (kr (Kd.R_mono HO251.out (fun _ hk => ⟨hk.2.1, ⟨hk.1, hk.2.2⟩⟩))), (kr (Kd.R_mono HO254.out (fun _ hk => ⟨hk.2, ⟨hk.1.1, hk.1.2⟩⟩))), (kr (Kd.R_mono HO_3.out (fun _ hk => ⟨hk.2, ⟨hk.1.1, hk.1.2⟩⟩))), (pk BK217.out), (by repeat (first | (with_reducible first | exact HI0.out | apply IsS63.alloc | apply IsS63.drewN | apply IsS63.drew | apply IsS63.set_1 | apply IsS63.set_2 | apply IsS63.set_3 | refine IsS63.far ?_ NB0_217.out _) | exact HI0.out)), (by repeat (first | (with_reducible first | exact HK.out | apply KeepBut.set_ | apply keep_drewN | apply keep_drew | apply keep_alloc | refine keep_far ?_ GW217.out _) | exact HK.out)), (by repeat (first | (with_reducible first | exact HB.out | apply below_alloc | apply pw_below_drewN | apply below_drew1 | refine below_set ?_ (IsS63.ge HI0.out) | refine below_set ?_ GE217.out) | exact HB.out))⟩)
           ·skip
            refine Kd.R_lit_step k40 _ 40 ?hg (N := 53) ?hd (xs := ([(⟨t211, t242, t213⟩ : S40)] : List (S40))) (inner := [.int .i64 t211, .string t242, .string t213]) (ok := fun _ => True) (okp := fun _ => True) ?hr ?hp (fun _ hk => hk) trivial (Below.refl _ _) (Nat.le_refl _) (by simp) ?_; (case hd => rfl); (case hg => rfl); (case hr => first | (go_simp; done) | (go_simp; rfl)); (case hp => exact (Reps.c3 (show Kd.M k40 _ _ _ (⟨t211, t242, t213⟩ : S40) [.int .i64 t211, .string t242, .string t213] from (k40_mkM _ _ _ (⟨t211, t242, t213⟩ : S40) )) (Reps.none _ _)))
            intro v253 w57 ho58 hb hg_ hnew_
            clear hg_ hnew_
            (first | rw [← Ny252.out] at ho58 | (simp only [Int.reduceToNat] at ho58; rw [← Ny252.out] at ho58))
            have HO254 := am (Kd.R_lower (Kd.R_newB (Kd.R_new' ho58 (Kd.R_lt (kr HO_3.out))) (g := gb217) (o := .cells #[.int .i64 t211, .string t242, .string t213] 40 (0, 0)) (pk BK217.out)) (keep_size (w := w) (g := g) (row := none) (by repeat (first | (with_reducible first | exact HK.out | apply KeepBut.set_ | apply keep_drewN | apply keep_drew | apply keep_alloc | refine keep_far ?_ GW217.out _) | exact HK.out))))
            replace HO_3 := am (Kd.R_elder' (kr HO_3.out) (Kd.R_base ho58) hb)
            replace BK217 := am (blk_below (pk BK217.out) hb)
            replace HK := am (KeepBut.trans (by repeat (first | (with_reducible first | exact HK.out | apply KeepBut.set_ | apply keep_drewN | apply keep_drew | apply keep_alloc | refine keep_far ?_ GW217.out _) | exact HK.out)) (KeepBut.of_below hb g none) (.inl rfl))
            replace HB := am (below_step (by repeat (first | (with_reducible first | exact HB.out | apply below_alloc | apply pw_below_drewN | apply below_drew1 | refine below_set ?_ (IsS63.ge HI0.out) | refine below_set ?_ GE217.out) | exact HB.out)) hb)
            replace HI0 := am (IsS63.below (by repeat (first | (with_reducible first | exact HI0.out | apply IsS63.alloc | apply IsS63.drewN | apply IsS63.drew | apply IsS63.set_1 | apply IsS63.set_2 | apply IsS63.set_3 | refine IsS63.far ?_ NB0_217.out _) | exact HI0.out)) hb)
            clear hb ho58
            refine hK.out _ _ ⟨bc BK217.out 0, bc BK217.out 1, bc BK217.out 2⟩ (fun hHeld => ?_)
            clear hK K
            refine norm_ (a' := ?_) ?_ ?_
            rotate_left
            ·show Act.put _ (some 53) _ = _
             simp only [Act.put, sa_, s0_, ss_, i64_w, i32_w]
             rfl
            refine one_ (i := 0) (N := some 49) b30_7 rfl rfl (by kernel_rfl) (by decide) (fun K hK => ?_)
            refine Kd.R_lit_step k40 _ 40 ?hg (N := 49) ?hd (xs := ([] : List (S40))) (inner := []) (ok := fun _ => True) (okp := fun _ => True) ?hr ?hp (fun _ hk => hk) trivial (Below.refl _ _) (Nat.le_refl _) (by simp) ?_; (case hd => rfl); (case hg => rfl); (case hr => first | (go_simp; done) | (go_simp; rfl)); (case hp => exact (Reps.none _ _))
            intro v247 w59 ho60 hb hg_ hnew_
            clear hg_ hnew_
            (first | rw [← Ny246.out] at ho60 | (simp only [Int.reduceToNat] at ho60; rw [← Ny246.out] at ho60))
            have HO248 := am (Kd.R_lower (Kd.R_newB (Kd.R_new' (Kd.R_new' ho60 (Kd.R_lt (kr HO_3.out))) (Kd.R_lt (kr HO254.out))) (g := gb217) (o := .cells #[.int .i64 t211, .string t242, .string t213] 40 (0, 0)) (pk BK217.out)) (keep_size (w := w) (g := g) (row := none) (by repeat (first | (with_reducible first | exact HK.out | apply KeepBut.set_ | apply keep_drewN | apply keep_drew | apply keep_alloc | refine keep_far ?_ GW217.out _) | exact HK.out))))
            replace HO_3 := am (Kd.R_elder' (kr HO_3.out) (Kd.R_base ho60) hb)
            replace HO254 := am (Kd.R_elder' (kr HO254.out) (Kd.R_base ho60) hb)
            replace BK217 := am (blk_below (pk BK217.out) hb)
            replace HK := am (KeepBut.trans (by repeat (first | (with_reducible first | exact HK.out | apply KeepBut.set_ | apply keep_drewN | apply keep_drew | apply keep_alloc | refine keep_far ?_ GW217.out _) | exact HK.out)) (KeepBut.of_below hb g none) (.inl rfl))
            replace HB := am (below_step (by repeat (first | (with_reducible first | exact HB.out | apply below_alloc | apply pw_below_drewN | apply below_drew1 | refine below_set ?_ (IsS63.ge HI0.out) | refine below_set ?_ GE217.out) | exact HB.out)) hb)
            replace HI0 := am (IsS63.below (by repeat (first | (with_reducible first | exact HI0.out | apply IsS63.alloc | apply IsS63.drewN | apply IsS63.drew | apply IsS63.set_1 | apply IsS63.set_2 | apply IsS63.set_3 | refine IsS63.far ?_ NB0_217.out _) | exact HI0.out)) hb)
            clear hb ho60
            refine hK.out _ _ ⟨bc BK217.out 0, bc BK217.out 1, bc BK217.out 2⟩ (fun hHeld => ?_)
            clear hK K
            refine norm_ (a' := ?_) ?_ ?_
            rotate_left
            ·show Act.put _ (some 49) _ = _
             simp only [Act.put, sa_, s0_, ss_, i64_w, i32_w]
             rfl
            refine one_ (i := 2) (N := some 51) b30_3 rfl rfl (by kernel_rfl) (by decide) (fun K hK => ?_)
            refine Kd.R_append_rows_step k40 w.heap.size (by rfl) (.tmp 49) (.tmp 50) 24 40 (.agg #[(.int .i64 0), (.string ⟨#[]⟩), (.string ⟨#[]⟩)]) 40 rfl Try.underlying24 info40 rfl (by decide) (by omega) v247 y246 x3_1 _ _ _ (fun k_ => some k_ ≠ (.slice Ao54 x3_1.length co54 : Value).ownBlock ∧ some k_ ≠ (v253 : Value).ownBlock ∧ k_ ≠ gb217) (fun _ => False) rfl rfl ?aO ?aR (fun _ _ h => h) (fun _ h => h.elim) ?aF (Below.refl _ _) ?aS ?aL ?_
            (case aR => repeat (first | exact (Kd.R_reads' HO_3.out).2.2 | (with_reducible refine Kd.C_alloc ?_ _) | (with_reducible refine Kd.C_drewN ?_ _) | (with_reducible refine Kd.C_drew ?_)))
            (case aF => exact (fun k_ hk => ⟨Kd.fresh' (Kd.R_lt (kr HO_3.out)) k_ hk, Kd.fresh' (Kd.R_lt (kr HO254.out)) k_ hk, Kd.freshB (g := gb217) (o := .cells #[.int .i64 t211, .string t242, .string t213] 40 (0, 0)) (pk BK217.out) k_ hk⟩))
            (case aO => exact (kr (Kd.R_mono HO248.out (fun _ hk => ⟨hk.1.1.2, ⟨hk.1.2, hk.2⟩⟩))))
            (case aS => exact (keep_size (w := w) (g := g) (row := none) (by repeat (first | (with_reducible first | exact HK.out | apply KeepBut.set_ | apply keep_drewN | apply keep_drew | apply keep_alloc | refine keep_far ?_ GW217.out _) | exact HK.out))))
            (case aL => have := LMc44.out; omega)
            intro v250 w61 ho hb hg hat
            rw [← Ny249.out] at ho
            replace HO_3 := am (Kd.R_after (ok := (fun k_ => some k_ ≠ (v253 : Value).ownBlock ∧ k_ ≠ gb217)) (kr (Kd.R_mono HO_3.out (fun _ hk => ⟨⟨hk.1.2, hk.1.1⟩, hk.2⟩))) hg hat)
            replace BK217 := am (blk_grown (g := gb217) (o := .cells #[.int .i64 t211, .string t242, .string t213] 40 (0, 0)) (pk BK217.out) hg (Kd.R_away HO248.out (fun _ hk => hk.2)))
            replace HO254 := am (Kd.R_after (ok := (fun k_ => some k_ ≠ (.slice Ao54 x3_1.length co54 : Value).ownBlock ∧ k_ ≠ gb217)) (kr (Kd.R_mono HO254.out (fun _ hk => ⟨⟨hk.1.1.2, hk.1.2⟩, hk.2⟩))) hg hat)
            replace HB := am (below_weaken (by repeat (first | (with_reducible first | exact HB.out | apply below_alloc | apply pw_below_drewN | apply below_drew1 | refine below_set ?_ (IsS63.ge HI0.out) | refine below_set ?_ GE217.out) | exact HB.out)) HL.out hb)
            replace HI0 := am (IsS63.grown (by repeat (first | (with_reducible first | exact HI0.out | apply IsS63.alloc | apply IsS63.drewN | apply IsS63.drew | apply IsS63.set_1 | apply IsS63.set_2 | apply IsS63.set_3 | refine IsS63.far ?_ NB0_217.out _) | exact HI0.out)) hg (IsS63.own_ne HI0.out HO248.out (by decide)))
            replace HK := am (KeepBut.trans (by repeat (first | (with_reducible first | exact HK.out | apply KeepBut.set_ | apply keep_drewN | apply keep_drew | apply keep_alloc | refine keep_far ?_ GW217.out _) | exact HK.out)) (KeepBut.of_grown hg g) (Kd.R_base2 HO248.out))
            have HO251 := am (ho)
            clear HO248 ho hb hg hat
            refine hK.out _ _ ⟨bc BK217.out 0, bc BK217.out 1, bc BK217.out 2⟩ (fun hHeld => ?_)
            clear hK K
            refine norm_ (a' := ?_) ?_ ?_
            rotate_left
            ·show Act.put _ (some 51) _ = _
             simp only [Act.put, sa_, s0_, ss_, i64_w, i32_w]
             rfl
            exact norm_ (by simp only [putAll, Act.put, sa_, s0_, ss_]) (hCont (v247, v250, v253) _ ⟨hHeld, (kr (Kd.R_mono HO251.out (fun _ hk => ⟨hk.2.1, ⟨hk.1, hk.2.2⟩⟩))), (kr (Kd.R_mono HO254.out (fun _ hk => ⟨hk.2, ⟨hk.1.1, hk.1.2⟩⟩))), (kr (Kd.R_mono HO_3.out (fun _ hk => ⟨hk.2, ⟨hk.1.1, hk.1.2⟩⟩))), (pk BK217.out), (by repeat (first | (with_reducible first | exact HI0.out | apply IsS63.alloc | apply IsS63.drewN | apply IsS63.drew | apply IsS63.set_1 | apply IsS63.set_2 | apply IsS63.set_3 | refine IsS63.far ?_ NB0_217.out _) | exact HI0.out)), (by repeat (first | (with_reducible first | exact HK.out | apply KeepBut.set_ | apply keep_drewN | apply keep_drew | apply keep_alloc | refine keep_far ?_ GW217.out _) | exact HK.out)), (by repeat (first | (with_reducible first | exact HB.out | apply below_alloc | apply pw_below_drewN | apply below_drew1 | refine below_set ?_ (IsS63.ge HI0.out) | refine below_set ?_ GE217.out) | exact HB.out))⟩)
          rintro ⟨v247, v250, v253⟩ w62 ⟨hS_, h0_, h1_, h2_, h3_, h4_, h5_, h6_⟩
          have HO251 : Aside0 (Kd.R k40 40 w62 w.heap.size (fun k_ => some k_ ≠ (v253 : Value).ownBlock ∧ some k_ ≠ (.slice Ao54 x3_1.length co54 : Value).ownBlock ∧ k_ ≠ gb217) v250 y249) := ⟨h0_⟩
          have HO254 : Aside0 (Kd.R k40 40 w62 w.heap.size (fun k_ => some k_ ≠ (v250 : Value).ownBlock ∧ some k_ ≠ (.slice Ao54 x3_1.length co54 : Value).ownBlock ∧ k_ ≠ gb217) v253 y252) := ⟨h1_⟩
          replace HO_3 : Aside0 (Kd.R k40 40 w62 w.heap.size (fun k_ => some k_ ≠ (v250 : Value).ownBlock ∧ some k_ ≠ (v253 : Value).ownBlock ∧ k_ ≠ gb217) (.slice Ao54 x3_1.length co54) x3_1) := ⟨h2_⟩
          replace BK217 : Aside0 (w62.heap[gb217]? = some (.cells #[.int .i64 t211, .string t242, .string t213] 40 (0, 0))) := ⟨h3_⟩
          replace HI0 : Aside0 (IsS63 w0 w62 g s0_0 t243 t244 t245) := ⟨h4_⟩
          replace HK : Aside0 (KeepBut w w62 g none) := ⟨h5_⟩
          replace HB : Aside0 (Below w0.heap.size w0 w62) := ⟨h6_⟩
          clear h0_ h1_ h2_ h3_ h4_ h5_ h6_
          have hHeld : w62.cell? ⟨gb217, 0, none⟩ = some (.int .i64 t211) ∧ w62.cell? ⟨gb217, 1, none⟩ = some (.string t242) ∧ w62.cell? ⟨gb217, 2, none⟩ = some (.string t213) := hS_
          obtain ⟨Ao64, co64, eo64⟩ := Kd.R_slice HO254.out
          (first | subst eo64 | (injection eo64 with f1_ f2_ f3_; have f4_ := f1_.symm; have f5_ := f3_.symm; clear f1_ f2_ f3_; subst f4_; subst f5_))
          refine norm_ (a' := ?_) ?_ ?_
          rotate_left
          ·simp only [putAll, Act.put, sa_, s0_, ss_]
           rfl
          refine one_ (i := 5) (N := some 54) b30_8 rfl rfl (by kernel_rfl) (by decide) (fun K hK => ?_)
          refine Kd.R_append_rows_step k40 w.heap.size (by rfl) (.tmp 51) (.tmp 53) 24 40 (.agg #[(.int .i64 0), (.string ⟨#[]⟩), (.string ⟨#[]⟩)]) 40 rfl Try.underlying24 info40 rfl (by decide) (by omega) v250 y249 y252 _ _ _ (fun k_ => some k_ ≠ (.slice Ao54 x3_1.length co54 : Value).ownBlock ∧ some k_ ≠ (.slice Ao64 y252.length co64 : Value).ownBlock ∧ k_ ≠ gb217) (fun _ => False) rfl rfl ?aO ?aR (fun _ _ h => h) (fun _ h => h.elim) ?aF (Below.refl _ _) ?aS ?aL ?_
          (case aR => repeat (first | exact (Kd.R_reads' HO254.out).2.2 | (with_reducible refine Kd.C_alloc ?_ _) | (with_reducible refine Kd.C_drewN ?_ _) | (with_reducible refine Kd.C_drew ?_)))
          (case aF => exact (fun k_ hk => ⟨Kd.fresh' (Kd.R_lt (kr HO_3.out)) k_ hk, Kd.fresh' (Kd.R_lt (kr HO254.out)) k_ hk, Kd.freshB (g := gb217) (o := .cells #[.int .i64 t211, .string t242, .string t213] 40 (0, 0)) (pk BK217.out) k_ hk⟩))
          (case aO => exact (kr (Kd.R_mono HO251.out (fun _ hk => ⟨hk.2.1, ⟨hk.1, hk.2.2⟩⟩))))
          (case aS => exact (keep_size (w := w) (g := g) (row := none) (by repeat (first | (with_reducible first | exact HK.out | apply KeepBut.set_ | apply keep_drewN | apply keep_drew | apply keep_alloc | refine keep_far ?_ GW217.out _) | exact HK.out))))
          (case aL => have := LMc45.out; omega)
          intro v256 w63 ho hb hg hat
          rw [← Ny255.out] at ho
          replace HO_3 := am (Kd.R_after (ok := (fun k_ => some k_ ≠ (.slice Ao64 y252.length co64 : Value).ownBlock ∧ k_ ≠ gb217)) (kr (Kd.R_mono HO_3.out (fun _ hk => ⟨⟨hk.2.1, hk.2.2⟩, hk.1⟩))) hg hat)
          replace BK217 := am (blk_grown (g := gb217) (o := .cells #[.int .i64 t211, .string t242, .string t213] 40 (0, 0)) (pk BK217.out) hg (Kd.R_away HO251.out (fun _ hk => hk.2.2)))
          replace HO254 := am (Kd.R_after (ok := (fun k_ => some k_ ≠ (.slice Ao54 x3_1.length co54 : Value).ownBlock ∧ k_ ≠ gb217)) (kr (Kd.R_mono HO254.out (fun _ hk => ⟨⟨hk.2.1, hk.2.2⟩, hk.1⟩))) hg hat)
          replace HB := am (below_weaken (by repeat (first | (with_reducible first | exact HB.out | apply below_alloc | apply pw_below_drewN | apply below_drew1 | refine below_set ?_ (IsS63.ge HI0.out) | refine below_set ?_ GE217.out) | exact HB.out)) HL.out hb)
          replace HI0 := am (IsS63.grown (by repeat (first | (with_reducible first | exact HI0.out | apply IsS63.alloc | apply IsS63.drewN | apply IsS63.drew | apply IsS63.set_1 | apply IsS63.set_2 | apply IsS63.set_3 | refine IsS63.far ?_ NB0_217.out _) | exact HI0.out)) hg (IsS63.own_ne HI0.out HO251.out (by decide)))
          replace HK := am (KeepBut.trans (by repeat (first | (with_reducible first | exact HK.out | apply KeepBut.set_ | apply keep_drewN | apply keep_drew | apply keep_alloc | refine keep_far ?_ GW217.out _) | exact HK.out)) (KeepBut.of_grown hg g) (Kd.R_base2 HO251.out))
          have HO257 := am (ho)
          clear HO251 ho hb hg hat
          refine hK.out _ _ ⟨bc BK217.out 0, bc BK217.out 1, bc BK217.out 2⟩ (fun hHeld => ?_)
          clear hK K
          refine norm_ (a' := ?_) ?_ ?_
          rotate_left
          ·show Act.put _ (some 54) _ = _
           simp only [Act.put, sa_, s0_, ss_, i64_w, i32_w]
           rfl
          refine pure_ (i := 6) (N := some 3) (v := ?_) (a' := ?_) b30_9 rfl rfl (by kernel_rfl) (fun _ _ _ h => h) (Or.inl ⟨by rfl, ?_⟩) ?_ ?_; rotate_left
          ·intro w'; go_simp; with_reducible rfl
          rotate_left
          ·simp only [Act.put, sa_, s0_, ss_, i64_w, i32_w]; rfl
          refine done_ (by kernel_rfl) ?_
          try go_wp2
          go_meet
          case rel => exact ⟨_, (y255), (t243), (t244), (t245), H', ⟨by have := HK1.out; first | omega | exact Nat.le_refl _⟩, ⟨kr (Kd.R_mono HO257.out (fun _ hk => trivial))⟩, ⟨by repeat (first | (with_reducible first | exact HI0.out | apply IsS63.alloc | apply IsS63.drewN | apply IsS63.drew | apply IsS63.set_1 | apply IsS63.set_2 | apply IsS63.set_3 | refine IsS63.far ?_ NB0_217.out _) | exact HI0.out)⟩, ⟨by repeat (first | (with_reducible first | exact HK.out | apply KeepBut.set_ | apply keep_drewN | apply keep_drew | apply keep_alloc | refine keep_far ?_ GW217.out _) | exact HK.out)⟩, ⟨by repeat (first | (with_reducible first | exact HB.out | apply below_alloc | apply pw_below_drewN | apply below_drew1 | refine below_set ?_ (IsS63.ge HI0.out) | refine below_set ?_ GE217.out) | exact HB.out)⟩⟩
         ·rw [if_neg c45] at H
          exact absurd H (by simp)
        ·rw [if_neg c44] at H
         exact absurd H (by simp)
       ·rw [if_neg c41] at H
        have c41b0 : (t218 == 1) = false := beq_eq_false_iff_ne.mpr c41
        have c41b1 : (t218 != 1) = true := bne_iff_ne.mpr c41
        by_cases c65 : t218 = 2
        ·rw [if_pos c65] at H
         have c65b0 : (t218 == 2) = true := beq_iff_eq.mpr c65
         have c65b1 : (t218 != 2) = false := bne_eq_false_iff_eq.mpr c65
         clear c65
         obtain ⟨y258, hy258⟩ : ∃ y_ : List ByteArray, y_ = (([(⟨#[]⟩ : ByteArray), (⟨#[65]⟩ : ByteArray), (⟨#[97, 98, 99, 100, 101, 102, 103, 104, 105, 106, 107, 108, 109, 110, 111, 112, 113, 114, 115, 116, 117]⟩ : ByteArray)] : List ByteArray)) := ⟨_, rfl⟩
         replace H : ((spec_l01Src_pick.f s0_0 t219 t220 t221 y258).bind fun bt261 => ((some (([] : List (S40)) : List (S40))).bind fun y265 => (if y265.length + x3_1.length < 3518437208883 then ((some (y265 ++ x3_1 : List (S40))).bind fun y268 => ((some (([(⟨t211, t212, bt261.1⟩ : S40)] : List (S40)) : List (S40))).bind fun y271 => (if y268.length + y271.length < 3518437208883 then (spec_l01Src_l07Keys.j1 k1 (y268 ++ y271) s0_0 bt261.2.1 bt261.2.2.1 bt261.2.2.2) else (none)))) else (none)))) = some (r1, r2, r3, r4) := by first | (rw [hy258]; with_reducible exact H) | (have H2_ := (Option.bind_some _ _).symm.trans H; rw [hy258]; with_reducible exact H2_) | (have H2_ := (Option.bind_some _ _).symm.trans H; with_reducible exact H2_) | with_reducible exact H | (rw [hy258]; exact H) | exact H
         have Ny258 := am hy258
         clear hy258
         replace H := Option.bind_eq_some_iff.mp H
         obtain ⟨⟨t261, t262, t263, t264⟩, A660, H⟩ := H
         replace H : ((some (([] : List (S40)) : List (S40))).bind fun y265 => (if y265.length + x3_1.length < 3518437208883 then ((some (y265 ++ x3_1 : List (S40))).bind fun y268 => ((some (([(⟨t211, t212, t261⟩ : S40)] : List (S40)) : List (S40))).bind fun y271 => (if y268.length + y271.length < 3518437208883 then (spec_l01Src_l07Keys.j1 k1 (y268 ++ y271) s0_0 t262 t263 t264) else (none)))) else (none))) = some (r1, r2, r3, r4) := H
         have A66 := Aside0.mk A660
         clear A660
         obtain ⟨y265, hy265⟩ : ∃ y_ : List (S40), y_ = (([] : List (S40))) := ⟨_, rfl⟩
         replace H : (if y265.length + x3_1.length < 3518437208883 then ((some (y265 ++ x3_1 : List (S40))).bind fun y268 => ((some (([(⟨t211, t212, t261⟩ : S40)] : List (S40)) : List (S40))).bind fun y271 => (if y268.length + y271.length < 3518437208883 then (spec_l01Src_l07Keys.j1 k1 (y268 ++ y271) s0_0 t262 t263 t264) else (none)))) else (none)) = some (r1, r2, r3, r4) := by first | (rw [hy265]; with_reducible exact H) | (have H2_ := (Option.bind_some _ _).symm.trans H; rw [hy265]; with_reducible exact H2_) | (have H2_ := (Option.bind_some _ _).symm.trans H; with_reducible exact H2_) | with_reducible exact H | (rw [hy265]; exact H) | exact H
         have Ny265 := am hy265
         clear hy265
         by_cases c67 : y265.length + x3_1.length < 3518437208883
         ·rw [if_pos c67] at H
          have LMc67 := Aside0.mk c67
          clear c67
          obtain ⟨y268, hy268⟩ : ∃ y_ : List (S40), y_ = (y265 ++ x3_1) := ⟨_, rfl⟩
          replace H : ((some (([(⟨t211, t212, t261⟩ : S40)] : List (S40)) : List (S40))).bind fun y271 => (if y268.length + y271.length < 3518437208883 then (spec_l01Src_l07Keys.j1 k1 (y268 ++ y271) s0_0 t262 t263 t264) else (none))) = some (r1, r2, r3, r4) := by first | (rw [hy268]; with_reducible exact H) | (have H2_ := (Option.bind_some _ _).symm.trans H; rw [hy268]; with_reducible exact H2_) | (have H2_ := (Option.bind_some _ _).symm.trans H; with_reducible exact H2_) | with_reducible exact H | (rw [hy268]; exact H) | exact H
          have Ny268 := am hy268
          clear hy268
          obtain ⟨y271, hy271⟩ : ∃ y_ : List (S40), y_ = (([(⟨t211, t212, t261⟩ : S40)] : List (S40))) := ⟨_, rfl⟩
          replace H : (if y268.length + y271.length < 3518437208883 then (spec_l01Src_l07Keys.j1 k1 (y268 ++ y271) s0_0 t262 t263 t264) else (none)) = some (r1, r2, r3, r4) := by first | (rw [hy271]; with_reducible exact H) | (have H2_ := (Option.bind_some _ _).symm.trans H; rw [hy271]; with_reducible exact H2_) | (have H2_ := (Option.bind_some _ _).symm.trans H; with_reducible exact H2_) | with_reducible exact H | (rw [hy271]; exact H) | exact H
          have Ny271 := am hy271
          clear hy271
          by_cases c68 : y268.length + y271.length < 3518437208883
          ·rw [if_pos c68] at H
           have LMc68 := Aside0.mk c68
           clear c68
           obtain ⟨y274, hy274⟩ : ∃ y_ : List (S40), y_ = (y268 ++ y271) := ⟨_, rfl⟩
           replace H : (spec_l01Src_l07Keys.j1 k1 y274 s0_0 t262 t263 t264) = some (r1, r2, r3, r4) := by first | (rw [hy274]; with_reducible exact H) | (have H2_ := (Option.bind_some _ _).symm.trans H; rw [hy274]; with_reducible exact H2_) | (have H2_ := (Option.bind_some _ _).symm.trans H; with_reducible exact H2_) | with_reducible exact H | (rw [hy274]; exact H) | exact H
           have Ny274 := am hy274
           clear hy274
           have H' := Aside0.mk H
           clear H
           try go_wp2_with (first | ((with_reducible refine gate_callee (f := 46) rfl ?_); refine gl (some 26) Try.func46 #[.pointer (some ⟨g, 0, none⟩)] ?_; (with_reducible refine (spec_l01Src_l07Key.calls k1 g s0_0 t208 t209 t210 t211 t212 t213 t214 t215 t216 w0 _ ?side1 ?side2 A17.out).mono ?_); (case side1 => repeat (first | (with_reducible first | exact HI0.out | apply IsS63.alloc | apply IsS63.drewN | apply IsS63.drew | apply IsS63.set_1 | apply IsS63.set_2 | apply IsS63.set_3) | exact HI0.out)); (case side2 => repeat (first | (with_reducible first | exact HB.out | apply below_alloc | apply pw_below_drewN | apply below_drew1 | refine below_set ?_ (IsS63.ge HI0.out)) | exact HB.out)); rintro e w69 ⟨rfl, hi, hb, hk⟩; refine ⟨_, rfl, ?_⟩; replace HO_3 := am (Kd.R_mono (Kd.R_keep (IsS63.apart (show IsS63 w0 _ g s0_0 t208 t209 t210 from by repeat (first | (with_reducible first | exact HI0.out | apply IsS63.alloc | apply IsS63.drewN | apply IsS63.drew | apply IsS63.set_1 | apply IsS63.set_2 | apply IsS63.set_3) | exact HI0.out)) (kr HO_3.out) (by decide)) hk (fun _ h => h.2)) (fun _ h => h.1)); replace HK := am (KeepBut.trans (by repeat (first | (with_reducible first | exact HK.out | apply KeepBut.set_ | apply keep_drewN | apply keep_drew | apply keep_alloc) | exact HK.out)) hk (.inl rfl)); replace HB := am (hb); replace HI0 := am (hi); (try clear hb); (try clear hb2); (try clear hk); (try clear hi)) | ((with_reducible refine gate_dst (N := 5) rfl ?_); refine box_event ?hg (N := 5) ?hd (cs := #[.int .i64 0, .string (⟨#[]⟩ : ByteArray), .string (⟨#[]⟩ : ByteArray)]) (t := 40) ?hr ?_; (case hd => rfl); (case hg => rfl); (case hr => first | (go_simp; done) | (go_simp; rfl)); intro gb217 hg w70 hbox hb; replace HO_3 := am (Kd.R_below (Kd.R_elderB (kr HO_3.out) gb217 (Nat.le_of_eq hg.symm)) hb); replace HB := am (below_step (by repeat (first | (with_reducible first | exact HB.out | apply below_alloc | apply pw_below_drewN | apply below_drew1 | refine below_set ?_ (IsS63.ge HI0.out)) | exact HB.out)) hb); have BK217 := am (hbox); have GW217 := am ((by rw [hg]; exact (keep_size (w := w) (g := g) (row := none) (by repeat (first | (with_reducible first | exact HK.out | apply KeepBut.set_ | apply keep_drewN | apply keep_drew | apply keep_alloc) | exact HK.out))) : w.heap.size ≤ gb217)); have GE217 := am ((Nat.le_trans HW0.out (by rw [hg]; exact (keep_size (w := w) (g := g) (row := none) (by repeat (first | (with_reducible first | exact HK.out | apply KeepBut.set_ | apply keep_drewN | apply keep_drew | apply keep_alloc) | exact HK.out))) : w.heap.size ≤ gb217) : w0.heap.size ≤ gb217)); replace HK := am (KeepBut.trans (by repeat (first | (with_reducible first | exact HK.out | apply KeepBut.set_ | apply keep_drewN | apply keep_drew | apply keep_alloc) | exact HK.out)) (KeepBut.of_below hb g none) (.inl rfl)); have NB0_217 := am ((by rw [hg]; exact Nat.ne_of_lt (IsS63.lt (show IsS63 w0 _ g s0_0 t214 t215 t216 from by repeat (first | (with_reducible first | exact HI0.out | apply IsS63.alloc | apply IsS63.drewN | apply IsS63.drew | apply IsS63.set_1 | apply IsS63.set_2 | apply IsS63.set_3) | exact HI0.out))) : g ≠ gb217)); have NB217_0 := am ((by rw [hg]; exact Nat.ne_of_gt (IsS63.lt (show IsS63 w0 _ g s0_0 t214 t215 t216 from by repeat (first | (with_reducible first | exact HI0.out | apply IsS63.alloc | apply IsS63.drewN | apply IsS63.drew | apply IsS63.set_1 | apply IsS63.set_2 | apply IsS63.set_3) | exact HI0.out))) : gb217 ≠ g)); replace HI0 := am (IsS63.below (by repeat (first | (with_reducible first | exact HI0.out | apply IsS63.alloc | apply IsS63.drewN | apply IsS63.drew | apply IsS63.set_1 | apply IsS63.set_2 | apply IsS63.set_3) | exact HI0.out)) hb); clear hb hbox hg; have hnb71 := NB217_0.out; have hnc71 := NB0_217.out; have hcz72_0 : w70.cell? ⟨gb217, 0, none⟩ = some (.int .i64 0) := bc BK217.out 0; have hcz72_1 : w70.cell? ⟨gb217, 1, none⟩ = some (.string (⟨#[]⟩ : ByteArray)) := bc BK217.out 1; have hcz72_2 : w70.cell? ⟨gb217, 2, none⟩ = some (.string (⟨#[]⟩ : ByteArray)) := bc BK217.out 2; have hfz72_0 := blk_frozen BK217.out 0; have hfz72_1 := blk_frozen BK217.out 1; have hfz72_2 := blk_frozen BK217.out 2) | ((with_reducible refine gate_callee (f := 31) rfl ?_); refine gl (some 28) Try.func31 #[.pointer (some ⟨g, 0, none⟩), .int .i64 4] ?_; (with_reducible refine (spec_l01Src_n.calls g s0_0 t214 t215 t216 4 t218 t219 t220 t221 w0 _ ?side1 ?side2 A18.out).mono ?_); (case side1 => repeat (first | (with_reducible first | exact HI0.out | apply IsS63.alloc | apply IsS63.drewN | apply IsS63.drew | apply IsS63.set_1 | apply IsS63.set_2 | apply IsS63.set_3 | refine IsS63.far ?_ NB0_217.out _) | exact HI0.out)); (case side2 => repeat (first | (with_reducible first | exact HB.out | apply below_alloc | apply pw_below_drewN | apply below_drew1 | refine below_set ?_ (IsS63.ge HI0.out) | refine below_set ?_ GE217.out) | exact HB.out)); rintro e w73 ⟨rfl, hi, hb, hk⟩; refine ⟨_, rfl, ?_⟩; replace HO_3 := am (Kd.R_mono (Kd.R_keep (IsS63.apart (show IsS63 w0 _ g s0_0 t214 t215 t216 from by repeat (first | (with_reducible first | exact HI0.out | apply IsS63.alloc | apply IsS63.drewN | apply IsS63.drew | apply IsS63.set_1 | apply IsS63.set_2 | apply IsS63.set_3 | refine IsS63.far ?_ NB0_217.out _) | exact HI0.out)) (kr ((Kd.R_mono (Kd.R_far (p := ⟨gb217, 2, none⟩) (Kd.R_far (p := ⟨gb217, 1, none⟩) (Kd.R_far (p := ⟨gb217, 0, none⟩) (Kd.R_mono HO_3.out (fun k_ hk => (⟨hk, hk.2⟩ : _ ∧ k_ ≠ gb217))) (fun _ hk => hk.2) (.int .i64 t211)) (fun _ hk => hk.2) (.string t212)) (fun _ hk => hk.2) (.string t213)) (fun _ h_ => h_.1)))) (by decide)) hk (fun _ h => h.2)) (fun _ h => h.1)); replace BK217 := am (KeepBut.blk hk (g' := gb217) (o := .cells #[.int .i64 t211, .string t212, .string t213] 40 (0, 0)) (by refine pk ?_; refine blk_put (cs := #[.int .i64 t211, .string t212, .string (⟨#[]⟩ : ByteArray)]) ?_ 2 _ rfl; refine pk ?_; refine blk_put (cs := #[.int .i64 t211, .string (⟨#[]⟩ : ByteArray), .string (⟨#[]⟩ : ByteArray)]) ?_ 1 _ rfl; refine pk ?_; refine blk_put (cs := #[.int .i64 0, .string (⟨#[]⟩ : ByteArray), .string (⟨#[]⟩ : ByteArray)]) ?_ 0 _ rfl; refine pk ?_; exact BK217.out) NB217_0.out (by simp)); replace HK := am (KeepBut.trans (by repeat (first | (with_reducible first | exact HK.out | apply KeepBut.set_ | apply keep_drewN | apply keep_drew | apply keep_alloc | refine keep_far ?_ GW217.out _) | exact HK.out)) hk (.inl rfl)); replace HB := am (hb); replace HI0 := am (hi); (try clear hb); (try clear hb2); (try clear hk); (try clear hi)) | ((with_reducible refine gate_dst (N := 46) rfl ?_); refine Kd.R_lit Kd.string _ 9 ?hg (N := 46) ?hd (xs := ([(⟨#[]⟩ : ByteArray), (⟨#[65]⟩ : ByteArray), (⟨#[97, 98, 99, 100, 101, 102, 103, 104, 105, 106, 107, 108, 109, 110, 111, 112, 113, 114, 115, 116, 117]⟩ : ByteArray)] : List ByteArray)) (inner := [.string (⟨#[]⟩ : ByteArray), .string (⟨#[65]⟩ : ByteArray), .string (⟨#[97, 98, 99, 100, 101, 102, 103, 104, 105, 106, 107, 108, 109, 110, 111, 112, 113, 114, 115, 116, 117]⟩ : ByteArray)]) (ok := fun _ => True) (okp := fun _ => True) ?hr ?hp (fun _ hk => hk) trivial (Below.refl _ _) (Nat.le_refl _) (by simp) ?_; (case hd => rfl); (case hg => rfl); (case hr => first | (go_simp; done) | (go_simp; rfl)); (case hp => exact (Reps.one (show Kd.M Kd.string _ _ _ (⟨#[]⟩ : ByteArray) [.string (⟨#[]⟩ : ByteArray)] from rfl) (Reps.one (show Kd.M Kd.string _ _ _ (⟨#[65]⟩ : ByteArray) [.string (⟨#[65]⟩ : ByteArray)] from rfl) (Reps.one (show Kd.M Kd.string _ _ _ (⟨#[97, 98, 99, 100, 101, 102, 103, 104, 105, 106, 107, 108, 109, 110, 111, 112, 113, 114, 115, 116, 117]⟩ : ByteArray) [.string (⟨#[97, 98, 99, 100, 101, 102, 103, 104, 105, 106, 107, 108, 109, 110, 111, 112, 113, 114, 115, 116, 117]⟩ : ByteArray)] from rfl) (Reps.none _ _))))); intro v259 w74 ho75 hb hg_ hnew_; clear hg_ hnew_; (first | rw [← Ny258.out] at ho75 | (simp only [Int.reduceToNat] at ho75; rw [← Ny258.out] at ho75)); replace HO_3 := am (Kd.R_below (kr HO_3.out) hb); have HO260 := am (Kd.R_lower ho75 (keep_size (w := w) (g := g) (row := none) (by repeat (first | (with_reducible first | exact HK.out | apply KeepBut.set_ | apply keep_drewN | apply keep_drew | apply keep_alloc | refine keep_far ?_ GW217.out _) | exact HK.out)))); replace BK217 := am (blk_below (pk BK217.out) hb); replace HK := am (KeepBut.trans (by repeat (first | (with_reducible first | exact HK.out | apply KeepBut.set_ | apply keep_drewN | apply keep_drew | apply keep_alloc | refine keep_far ?_ GW217.out _) | exact HK.out)) (KeepBut.of_below hb g none) (.inl rfl)); replace HB := am (below_step (by repeat (first | (with_reducible first | exact HB.out | apply below_alloc | apply pw_below_drewN | apply below_drew1 | refine below_set ?_ (IsS63.ge HI0.out) | refine below_set ?_ GE217.out) | exact HB.out)) hb); replace HI0 := am (IsS63.below (by repeat (first | (with_reducible first | exact HI0.out | apply IsS63.alloc | apply IsS63.drewN | apply IsS63.drew | apply IsS63.set_1 | apply IsS63.set_2 | apply IsS63.set_3 | refine IsS63.far ?_ NB0_217.out _) | exact HI0.out)) hb); clear hb ho75; obtain ⟨Ao76, co76, eo76⟩ := Kd.R_slice HO260.out; subst eo76) | ((with_reducible refine gate_callee (f := 47) rfl ?_); refine gl (some 47) Try.func47 #[.pointer (some ⟨g, 0, none⟩), .slice Ao76 y258.length co76] ?_; (with_reducible refine (spec_l01Src_pick.calls g s0_0 t219 t220 t221 _ _ y258 t261 t262 t263 t264 w0 _ ?side1 ?side2 ?side3 ?side4 ?side5 A66.out).mono ?_); (case side1 => repeat (first | (with_reducible first | exact HI0.out | apply IsS63.alloc | apply IsS63.drewN | apply IsS63.drew | apply IsS63.set_1 | apply IsS63.set_2 | apply IsS63.set_3 | refine IsS63.far ?_ NB0_217.out _) | exact HI0.out)); (case side2 => repeat (first | (with_reducible first | exact HB.out | apply below_alloc | apply pw_below_drewN | apply below_drew1 | refine below_set ?_ (IsS63.ge HI0.out) | refine below_set ?_ GE217.out) | exact HB.out)); (case side3 => repeat (first | exact (Kd.R_reads' HO260.out).2.2 | (with_reducible refine Kd.C_alloc ?_ _) | (with_reducible refine Kd.C_drewN ?_ _) | (with_reducible refine Kd.C_drew ?_))); (case side4 => exact (Kd.R_reads' HO260.out).2.1); (case side5 => exact far_slice (IsS63.own_ne HI0.out HO260.out (by decide))); rintro e w77 ⟨rfl, hi, hb, hk⟩; refine ⟨_, rfl, ?_⟩; replace HO_3 := am (Kd.R_mono (Kd.R_keep (IsS63.apart (show IsS63 w0 _ g s0_0 t219 t220 t221 from by repeat (first | (with_reducible first | exact HI0.out | apply IsS63.alloc | apply IsS63.drewN | apply IsS63.drew | apply IsS63.set_1 | apply IsS63.set_2 | apply IsS63.set_3 | refine IsS63.far ?_ NB0_217.out _) | exact HI0.out)) (kr HO_3.out) (by decide)) hk (fun _ h => h.2)) (fun _ h => h.1)); replace BK217 := am (KeepBut.blk hk (g' := gb217) (o := .cells #[.int .i64 t211, .string t212, .string t213] 40 (0, 0)) (pk BK217.out) NB217_0.out (by simp)); replace HO260 := am (Kd.R_mono (Kd.R_keep (IsS63.apart (show IsS63 w0 _ g s0_0 t219 t220 t221 from by repeat (first | (with_reducible first | exact HI0.out | apply IsS63.alloc | apply IsS63.drewN | apply IsS63.drew | apply IsS63.set_1 | apply IsS63.set_2 | apply IsS63.set_3 | refine IsS63.far ?_ NB0_217.out _) | exact HI0.out)) (kr HO260.out) (by decide)) hk (fun _ h => h.2)) (fun _ h => h.1)); replace HK := am (KeepBut.trans (by repeat (first | (with_reducible first | exact HK.out | apply KeepBut.set_ | apply keep_drewN | apply keep_drew | apply keep_alloc | refine keep_far ?_ GW217.out _) | exact HK.out)) hk (.inl rfl)); replace HB := am (hb); replace HI0 := am (hi); (try clear hb); (try clear hb2); (try clear hk); (try clear hi); have hcz78_0 : w77.cell? ⟨gb217, 0, none⟩ = some (.int .i64 t211) := bc BK217.out 0; have hcz78_1 : w77.cell? ⟨gb217, 1, none⟩ = some (.string t212) := bc BK217.out 1; have hcz78_2 : w77.cell? ⟨gb217, 2, none⟩ = some (.string t213) := bc BK217.out 2; have hfz78_0 := blk_frozen BK217.out 0; have hfz78_1 := blk_frozen BK217.out 1; have hfz78_2 := blk_frozen BK217.out 2; obtain ⟨Ao79, co79, eo79⟩ := Kd.R_slice HO_3.out; subst eo79))
           have n0_ : Aside0 (Kd.R k40 40 (w77.setCell ⟨gb217, 2, none⟩ (.string t261)) w.heap.size (fun k_ => k_ ≠ gb217) (.slice Ao79 x3_1.length co79) x3_1) := ⟨kr (Kd.R_mono (Kd.R_far (p := ⟨gb217, 2, none⟩) (Kd.R_mono HO_3.out (fun k_ hk => (⟨hk, hk.2⟩ : _ ∧ k_ ≠ gb217))) (fun _ hk => hk.2) (.string t261)) (fun _ hk => hk.1.2))⟩
           have n1_ : Aside0 (Kd.R Kd.string 9 (w77.setCell ⟨gb217, 2, none⟩ (.string t261)) w.heap.size (fun _ => True) (.slice Ao76 y258.length co76) y258) := ⟨kr (Kd.R_mono (Kd.R_far (p := ⟨gb217, 2, none⟩) (Kd.R_types HO260.out BK217.out (by decide)) (fun _ hk => hk.2) (.string t261)) (fun _ hk => trivial))⟩
           have n2_ : Aside0 ((w77.setCell ⟨gb217, 2, none⟩ (.string t261)).heap[gb217]? = some (.cells #[.int .i64 t211, .string t212, .string t261] 40 (0, 0))) := ⟨by refine pk ?_; refine blk_put (cs := #[.int .i64 t211, .string t212, .string t213]) ?_ 2 _ rfl; refine pk ?_; exact BK217.out⟩
           have n3_ : Aside0 (IsS63 w0 (w77.setCell ⟨gb217, 2, none⟩ (.string t261)) g s0_0 t262 t263 t264) := ⟨by repeat (first | (with_reducible first | exact HI0.out | apply IsS63.alloc | apply IsS63.drewN | apply IsS63.drew | apply IsS63.set_1 | apply IsS63.set_2 | apply IsS63.set_3 | refine IsS63.far ?_ NB0_217.out _) | exact HI0.out)⟩
           have n4_ : Aside0 (KeepBut w (w77.setCell ⟨gb217, 2, none⟩ (.string t261)) g none) := ⟨by repeat (first | (with_reducible first | exact HK.out | apply KeepBut.set_ | apply keep_drewN | apply keep_drew | apply keep_alloc | refine keep_far ?_ GW217.out _) | exact HK.out)⟩
           have n5_ : Aside0 (Below w0.heap.size w0 (w77.setCell ⟨gb217, 2, none⟩ (.string t261))) := ⟨by repeat (first | (with_reducible first | exact HB.out | apply below_alloc | apply pw_below_drewN | apply below_drew1 | refine below_set ?_ (IsS63.ge HI0.out) | refine below_set ?_ GE217.out) | exact HB.out)⟩
           (try clear HO_3)
           (try clear HO260)
           (try clear BK217)
           (try clear HI0)
           (try clear HK)
           (try clear HB)
           generalize (w77.setCell ⟨gb217, 2, none⟩ (.string t261)) = w80 at n0_ n1_ n2_ n3_ n4_ n5_ ⊢
           have HO_3 := n0_
           have HO260 := n1_
           have BK217 := n2_
           have HI0 := n3_
           have HK := n4_
           have HB := n5_
           clear n0_ n1_ n2_ n3_ n4_ n5_
           replace HO_3 := am (Kd.R_drew HO_3.out)
           replace HO260 := am (Kd.R_drew HO260.out)
           replace BK217 := am (blk_drew BK217.out)
           replace HI0 := am (IsS63.drew HI0.out)
           replace HK := am (keep_drew HK.out)
           replace HB := am (below_drew1 HB.out)
           refine start_ (n := 7) (S := fun w' => w'.cell? ⟨gb217, 0, none⟩ = some (.int .i64 t211) ∧ w'.cell? ⟨gb217, 1, none⟩ = some (.string t212) ∧ w'.cell? ⟨gb217, 2, none⟩ = some (.string t261)) (ds := []) b30_0 (by kernel_rfl) rfl rfl ⟨bc BK217.out 0, bc BK217.out 1, bc BK217.out 2⟩ (fun hHeld => ?_)
           generalize w80.drew = w81 at HO_3 HO260 BK217 HI0 HK HB hHeld ⊢
           refine pure_ (i := 1) (N := some 50) (v := ?_) (a' := ?_) b30_1 rfl rfl (by kernel_rfl) (fun _ _ _ h => h) (Or.inl ⟨by rfl, ?_⟩) ?_ ?_; rotate_left
           ·intro w'; go_simp; with_reducible rfl
           rotate_left
           ·simp only [Act.put, sa_, s0_, ss_, i64_w, i32_w]; rfl
           refine take_ (i := 3) (N := some 52) (v := ?_) (a' := ?_) b30_2 rfl rfl (by kernel_rfl) (fun _ _ _ h => h) (Or.inl ⟨by rfl, ?_⟩) hHeld ?_ ?_; rotate_left
           ·rintro w' ⟨s0, s1, s2⟩; go_simp; with_reducible rfl
           rotate_left
           ·simp only [Act.put, sa_, s0_, ss_, i64_w, i32_w]; rfl
           refine join_ (σ := Value × Value × Value) 2 b30_3 (fun s_ => [(49, s_.1), (51, s_.2.1), (53, s_.2.2)]) (fun s_ w' => (w'.cell? ⟨gb217, 0, none⟩ = some (.int .i64 t211) ∧ w'.cell? ⟨gb217, 1, none⟩ = some (.string t212) ∧ w'.cell? ⟨gb217, 2, none⟩ = some (.string t261)) ∧ (Kd.R Kd.string 9 w' w.heap.size (fun _ => True) (.slice Ao76 y258.length co76) y258) ∧ (Kd.R k40 40 w' w.heap.size (fun k_ => some k_ ≠ (s_.2.2 : Value).ownBlock ∧ some k_ ≠ (.slice Ao79 x3_1.length co79 : Value).ownBlock ∧ k_ ≠ gb217) s_.2.1 y268) ∧ (Kd.R k40 40 w' w.heap.size (fun k_ => some k_ ≠ (s_.2.1 : Value).ownBlock ∧ some k_ ≠ (.slice Ao79 x3_1.length co79 : Value).ownBlock ∧ k_ ≠ gb217) s_.2.2 y271) ∧ (Kd.R k40 40 w' w.heap.size (fun k_ => some k_ ≠ (s_.2.1 : Value).ownBlock ∧ some k_ ≠ (s_.2.2 : Value).ownBlock ∧ k_ ≠ gb217) (.slice Ao79 x3_1.length co79) x3_1) ∧ (w'.heap[gb217]? = some (.cells #[.int .i64 t211, .string t212, .string t261] 40 (0, 0))) ∧ (IsS63 w0 w' g s0_0 t262 t263 t264) ∧ (KeepBut w w' g none) ∧ (Below w0.heap.size w0 w')) ?_ ?_
           rotate_left
           ·intro hCont
            refine two_ (i := 0) (j := 4) (Ni := some 49) (Nj := some 53) b30_4 b30_5 rfl rfl rfl rfl (by kernel_rfl) (by decide) (by decide) (fun K hK => ?_) (fun K hK => ?_)
            ·skip
             refine Kd.R_lit_step k40 _ 40 ?hg (N := 49) ?hd (xs := ([] : List (S40))) (inner := []) (ok := fun _ => True) (okp := fun _ => True) ?hr ?hp (fun _ hk => hk) trivial (Below.refl _ _) (Nat.le_refl _) (by simp) ?_; (case hd => rfl); (case hg => rfl); (case hr => first | (go_simp; done) | (go_simp; rfl)); (case hp => exact (Reps.none _ _))
             intro v266 w82 ho83 hb hg_ hnew_
             clear hg_ hnew_
             (first | rw [← Ny265.out] at ho83 | (simp only [Int.reduceToNat] at ho83; rw [← Ny265.out] at ho83))
             replace HO260 := am (Kd.R_below (kr HO260.out) hb)
             have HO267 := am (Kd.R_lower (Kd.R_newB (Kd.R_new' ho83 (Kd.R_lt (kr HO_3.out))) (g := gb217) (o := .cells #[.int .i64 t211, .string t212, .string t261] 40 (0, 0)) (pk BK217.out)) (keep_size (w := w) (g := g) (row := none) (by repeat (first | (with_reducible first | exact HK.out | apply KeepBut.set_ | apply keep_drewN | apply keep_drew | apply keep_alloc | refine keep_far ?_ GW217.out _) | exact HK.out))))
             replace HO_3 := am (Kd.R_elder' (kr HO_3.out) (Kd.R_base ho83) hb)
             replace BK217 := am (blk_below (pk BK217.out) hb)
             replace HK := am (KeepBut.trans (by repeat (first | (with_reducible first | exact HK.out | apply KeepBut.set_ | apply keep_drewN | apply keep_drew | apply keep_alloc | refine keep_far ?_ GW217.out _) | exact HK.out)) (KeepBut.of_below hb g none) (.inl rfl))
             replace HB := am (below_step (by repeat (first | (with_reducible first | exact HB.out | apply below_alloc | apply pw_below_drewN | apply below_drew1 | refine below_set ?_ (IsS63.ge HI0.out) | refine below_set ?_ GE217.out) | exact HB.out)) hb)
             replace HI0 := am (IsS63.below (by repeat (first | (with_reducible first | exact HI0.out | apply IsS63.alloc | apply IsS63.drewN | apply IsS63.drew | apply IsS63.set_1 | apply IsS63.set_2 | apply IsS63.set_3 | refine IsS63.far ?_ NB0_217.out _) | exact HI0.out)) hb)
             clear hb ho83
             refine hK.out _ _ ⟨bc BK217.out 0, bc BK217.out 1, bc BK217.out 2⟩ (fun hHeld => ?_)
             clear hK K
             refine norm_ (a' := ?_) ?_ ?_
             rotate_left
             ·show Act.put _ (some 49) _ = _
              simp only [Act.put, sa_, s0_, ss_, i64_w, i32_w]
              rfl
             refine two_ (i := 2) (j := 4) (Ni := some 51) (Nj := some 53) b30_6 b30_7 rfl rfl rfl rfl (by kernel_rfl) (by decide) (by decide) (fun K hK => ?_) (fun K hK => ?_)
             ·skip
              refine Kd.R_append_rows_step k40 w.heap.size (by rfl) (.tmp 49) (.tmp 50) 24 40 (.agg #[(.int .i64 0), (.string ⟨#[]⟩), (.string ⟨#[]⟩)]) 40 rfl Try.underlying24 info40 rfl (by decide) (by omega) v266 y265 x3_1 _ _ _ (fun k_ => some k_ ≠ (.slice Ao79 x3_1.length co79 : Value).ownBlock ∧ k_ ≠ gb217) (fun _ => False) rfl rfl ?aO ?aR (fun _ _ h => h) (fun _ h => h.elim) ?aF (Below.refl _ _) ?aS ?aL ?_
              (case aR => repeat (first | exact (Kd.R_reads' HO_3.out).2.2 | (with_reducible refine Kd.C_alloc ?_ _) | (with_reducible refine Kd.C_drewN ?_ _) | (with_reducible refine Kd.C_drew ?_)))
              (case aF => exact (fun k_ hk => ⟨Kd.fresh' (Kd.R_lt (kr HO_3.out)) k_ hk, Kd.freshB (g := gb217) (o := .cells #[.int .i64 t211, .string t212, .string t261] 40 (0, 0)) (pk BK217.out) k_ hk⟩))
              (case aO => exact (kr (Kd.R_mono HO267.out (fun _ hk => ⟨hk.1.2, hk.2⟩))))
              (case aS => exact (keep_size (w := w) (g := g) (row := none) (by repeat (first | (with_reducible first | exact HK.out | apply KeepBut.set_ | apply keep_drewN | apply keep_drew | apply keep_alloc | refine keep_far ?_ GW217.out _) | exact HK.out))))
              (case aL => have := LMc67.out; omega)
              intro v269 w84 ho hb hg hat
              rw [← Ny268.out] at ho
              replace HO_3 := am (Kd.R_after (ok := (fun k_ => k_ ≠ gb217)) (kr HO_3.out) hg hat)
              replace BK217 := am (blk_grown (g := gb217) (o := .cells #[.int .i64 t211, .string t212, .string t261] 40 (0, 0)) (pk BK217.out) hg (Kd.R_away HO267.out (fun _ hk => hk.2)))
              replace HO260 := am (Kd.R_over' (kr HO260.out) (Kd.R_typed (kr HO267.out)) (by decide) hg)
              replace HB := am (below_weaken (by repeat (first | (with_reducible first | exact HB.out | apply below_alloc | apply pw_below_drewN | apply below_drew1 | refine below_set ?_ (IsS63.ge HI0.out) | refine below_set ?_ GE217.out) | exact HB.out)) HL.out hb)
              replace HI0 := am (IsS63.grown (by repeat (first | (with_reducible first | exact HI0.out | apply IsS63.alloc | apply IsS63.drewN | apply IsS63.drew | apply IsS63.set_1 | apply IsS63.set_2 | apply IsS63.set_3 | refine IsS63.far ?_ NB0_217.out _) | exact HI0.out)) hg (IsS63.own_ne HI0.out HO267.out (by decide)))
              replace HK := am (KeepBut.trans (by repeat (first | (with_reducible first | exact HK.out | apply KeepBut.set_ | apply keep_drewN | apply keep_drew | apply keep_alloc | refine keep_far ?_ GW217.out _) | exact HK.out)) (KeepBut.of_grown hg g) (Kd.R_base2 HO267.out))
              have HO270 := am (ho)
              clear HO267 ho hb hg hat
              refine hK.out _ _ ⟨bc BK217.out 0, bc BK217.out 1, bc BK217.out 2⟩ (fun hHeld => ?_)
              clear hK K
              refine norm_ (a' := ?_) ?_ ?_
              rotate_left
              ·show Act.put _ (some 51) _ = _
               simp only [Act.put, sa_, s0_, ss_, i64_w, i32_w]
               rfl
              refine one_ (i := 4) (N := some 53) b30_3 rfl rfl (by kernel_rfl) (by decide) (fun K hK => ?_)
              refine Kd.R_lit_step k40 _ 40 ?hg (N := 53) ?hd (xs := ([(⟨t211, t212, t261⟩ : S40)] : List (S40))) (inner := [.int .i64 t211, .string t212, .string t261]) (ok := fun _ => True) (okp := fun _ => True) ?hr ?hp (fun _ hk => hk) trivial (Below.refl _ _) (Nat.le_refl _) (by simp) ?_; (case hd => rfl); (case hg => rfl); (case hr => first | (go_simp; done) | (go_simp; rfl)); (case hp => exact (Reps.c3 (show Kd.M k40 _ _ _ (⟨t211, t212, t261⟩ : S40) [.int .i64 t211, .string t212, .string t261] from (k40_mkM _ _ _ (⟨t211, t212, t261⟩ : S40) )) (Reps.none _ _)))
              intro v272 w85 ho86 hb hg_ hnew_
              clear hg_ hnew_
              (first | rw [← Ny271.out] at ho86 | (simp only [Int.reduceToNat] at ho86; rw [← Ny271.out] at ho86))
              replace HO260 := am (Kd.R_below (kr HO260.out) hb)
              have HO273 := am (Kd.R_lower (Kd.R_newB (Kd.R_new' (Kd.R_new' ho86 (Kd.R_lt (kr HO_3.out))) (Kd.R_lt (kr HO270.out))) (g := gb217) (o := .cells #[.int .i64 t211, .string t212, .string t261] 40 (0, 0)) (pk BK217.out)) (keep_size (w := w) (g := g) (row := none) (by repeat (first | (with_reducible first | exact HK.out | apply KeepBut.set_ | apply keep_drewN | apply keep_drew | apply keep_alloc | refine keep_far ?_ GW217.out _) | exact HK.out))))
              replace HO_3 := am (Kd.R_elder' (kr HO_3.out) (Kd.R_base ho86) hb)
              replace HO270 := am (Kd.R_elder' (kr HO270.out) (Kd.R_base ho86) hb)
              replace BK217 := am (blk_below (pk BK217.out) hb)
              replace HK := am (KeepBut.trans (by repeat (first | (with_reducible first | exact HK.out | apply KeepBut.set_ | apply keep_drewN | apply keep_drew | apply keep_alloc | refine keep_far ?_ GW217.out _) | exact HK.out)) (KeepBut.of_below hb g none) (.inl rfl))
              replace HB := am (below_step (by repeat (first | (with_reducible first | exact HB.out | apply below_alloc | apply pw_below_drewN | apply below_drew1 | refine below_set ?_ (IsS63.ge HI0.out) | refine below_set ?_ GE217.out) | exact HB.out)) hb)
              replace HI0 := am (IsS63.below (by repeat (first | (with_reducible first | exact HI0.out | apply IsS63.alloc | apply IsS63.drewN | apply IsS63.drew | apply IsS63.set_1 | apply IsS63.set_2 | apply IsS63.set_3 | refine IsS63.far ?_ NB0_217.out _) | exact HI0.out)) hb)
              clear hb ho86
              refine hK.out _ _ ⟨bc BK217.out 0, bc BK217.out 1, bc BK217.out 2⟩ (fun hHeld => ?_)
              clear hK K
              refine norm_ (a' := ?_) ?_ ?_
              rotate_left
              ·show Act.put _ (some 53) _ = _
               simp only [Act.put, sa_, s0_, ss_, i64_w, i32_w]
               rfl
              exact norm_ (by simp only [putAll, Act.put, sa_, s0_, ss_]) (hCont (v266, v269, v272) _ ⟨hHeld, (kr HO260.out), (kr (Kd.R_mono HO270.out (fun _ hk => ⟨hk.2, ⟨hk.1.1, hk.1.2⟩⟩))), (kr (Kd.R_mono HO273.out (fun _ hk => ⟨hk.1.2, ⟨hk.1.1.2, hk.2⟩⟩))), (kr (Kd.R_mono HO_3.out (fun _ hk => ⟨hk.1.2, ⟨hk.2, hk.1.1⟩⟩))), (pk BK217.out), (by repeat (first | (with_reducible first | exact HI0.out | apply IsS63.alloc | apply IsS63.drewN | apply IsS63.drew | apply IsS63.set_1 | apply IsS63.set_2 | apply IsS63.set_3 | refine IsS63.far ?_ NB0_217.out _) | exact HI0.out)), (by repeat (first | (with_reducible first | exact HK.out | apply KeepBut.set_ | apply keep_drewN | apply keep_drew | apply keep_alloc | refine keep_far ?_ GW217.out _) | exact HK.out)), (by repeat (first | (with_reducible first | exact HB.out | apply below_alloc | apply pw_below_drewN | apply below_drew1 | refine below_set ?_ (IsS63.ge HI0.out) | refine below_set ?_ GE217.out) | exact HB.out))⟩)
             ·skip
              refine Kd.R_lit_step k40 _ 40 ?hg (N := 53) ?hd (xs := ([(⟨t211, t212, t261⟩ : S40)] : List (S40))) (inner := [.int .i64 t211, .string t212, .string t261]) (ok := fun _ => True) (okp := fun _ => True) ?hr ?hp (fun _ hk => hk) trivial (Below.refl _ _) (Nat.le_refl _) (by simp) ?_; (case hd => rfl); (case hg => rfl); (case hr => first | (go_simp; done) | (go_simp; rfl)); (case hp => exact (Reps.c3 (show Kd.M k40 _ _ _ (⟨t211, t212, t261⟩ : S40) [.int .i64 t211, .string t212, .string t261] from (k40_mkM _ _ _ (⟨t211, t212, t261⟩ : S40) )) (Reps.none _ _)))
              intro v272 w84 ho85 hb hg_ hnew_
              clear hg_ hnew_
              (first | rw [← Ny271.out] at ho85 | (simp only [Int.reduceToNat] at ho85; rw [← Ny271.out] at ho85))
              replace HO260 := am (Kd.R_below (kr HO260.out) hb)
              have HO273 := am (Kd.R_lower (Kd.R_newB (Kd.R_new' (Kd.R_new' ho85 (Kd.R_lt (kr HO_3.out))) (Kd.R_lt (kr HO267.out))) (g := gb217) (o := .cells #[.int .i64 t211, .string t212, .string t261] 40 (0, 0)) (pk BK217.out)) (keep_size (w := w) (g := g) (row := none) (by repeat (first | (with_reducible first | exact HK.out | apply KeepBut.set_ | apply keep_drewN | apply keep_drew | apply keep_alloc | refine keep_far ?_ GW217.out _) | exact HK.out))))
              replace HO_3 := am (Kd.R_elder' (kr HO_3.out) (Kd.R_base ho85) hb)
              replace HO267 := am (Kd.R_elder' (kr HO267.out) (Kd.R_base ho85) hb)
              replace BK217 := am (blk_below (pk BK217.out) hb)
              replace HK := am (KeepBut.trans (by repeat (first | (with_reducible first | exact HK.out | apply KeepBut.set_ | apply keep_drewN | apply keep_drew | apply keep_alloc | refine keep_far ?_ GW217.out _) | exact HK.out)) (KeepBut.of_below hb g none) (.inl rfl))
              replace HB := am (below_step (by repeat (first | (with_reducible first | exact HB.out | apply below_alloc | apply pw_below_drewN | apply below_drew1 | refine below_set ?_ (IsS63.ge HI0.out) | refine below_set ?_ GE217.out) | exact HB.out)) hb)
              replace HI0 := am (IsS63.below (by repeat (first | (with_reducible first | exact HI0.out | apply IsS63.alloc | apply IsS63.drewN | apply IsS63.drew | apply IsS63.set_1 | apply IsS63.set_2 | apply IsS63.set_3 | refine IsS63.far ?_ NB0_217.out _) | exact HI0.out)) hb)
              clear hb ho85
              refine hK.out _ _ ⟨bc BK217.out 0, bc BK217.out 1, bc BK217.out 2⟩ (fun hHeld => ?_)
              clear hK K
              refine norm_ (a' := ?_) ?_ ?_
              rotate_left
              ·show Act.put _ (some 53) _ = _
               simp only [Act.put, sa_, s0_, ss_, i64_w, i32_w]
               rfl
              refine one_ (i := 2) (N := some 51) b30_3 rfl rfl (by kernel_rfl) (by decide) (fun K hK => ?_)
              refine Kd.R_append_rows_step k40 w.heap.size (by rfl) (.tmp 49) (.tmp 50) 24 40 (.agg #[(.int .i64 0), (.string ⟨#[]⟩), (.string ⟨#[]⟩)]) 40 rfl Try.underlying24 info40 rfl (by decide) (by omega) v266 y265 x3_1 _ _ _ (fun k_ => some k_ ≠ (.slice Ao79 x3_1.length co79 : Value).ownBlock ∧ some k_ ≠ (v272 : Value).ownBlock ∧ k_ ≠ gb217) (fun _ => False) rfl rfl ?aO ?aR (fun _ _ h => h) (fun _ h => h.elim) ?aF (Below.refl _ _) ?aS ?aL ?_
              (case aR => repeat (first | exact (Kd.R_reads' HO_3.out).2.2 | (with_reducible refine Kd.C_alloc ?_ _) | (with_reducible refine Kd.C_drewN ?_ _) | (with_reducible refine Kd.C_drew ?_)))
              (case aF => exact (fun k_ hk => ⟨Kd.fresh' (Kd.R_lt (kr HO_3.out)) k_ hk, Kd.fresh' (Kd.R_lt (kr HO273.out)) k_ hk, Kd.freshB (g := gb217) (o := .cells #[.int .i64 t211, .string t212, .string t261] 40 (0, 0)) (pk BK217.out) k_ hk⟩))
              (case aO => exact (kr (Kd.R_mono HO267.out (fun _ hk => ⟨hk.1.1.2, ⟨hk.2, hk.1.2⟩⟩))))
              (case aS => exact (keep_size (w := w) (g := g) (row := none) (by repeat (first | (with_reducible first | exact HK.out | apply KeepBut.set_ | apply keep_drewN | apply keep_drew | apply keep_alloc | refine keep_far ?_ GW217.out _) | exact HK.out))))
              (case aL => have := LMc67.out; omega)
              intro v269 w86 ho hb hg hat
              rw [← Ny268.out] at ho
              replace HO_3 := am (Kd.R_after (ok := (fun k_ => some k_ ≠ (v272 : Value).ownBlock ∧ k_ ≠ gb217)) (kr (Kd.R_mono HO_3.out (fun _ hk => ⟨⟨hk.2, hk.1.1⟩, hk.1.2⟩))) hg hat)
              replace BK217 := am (blk_grown (g := gb217) (o := .cells #[.int .i64 t211, .string t212, .string t261] 40 (0, 0)) (pk BK217.out) hg (Kd.R_away HO267.out (fun _ hk => hk.1.2)))
              replace HO260 := am (Kd.R_over' (kr HO260.out) (Kd.R_typed (kr HO267.out)) (by decide) hg)
              replace HO273 := am (Kd.R_after (ok := (fun k_ => some k_ ≠ (.slice Ao79 x3_1.length co79 : Value).ownBlock ∧ k_ ≠ gb217)) (kr (Kd.R_mono HO273.out (fun _ hk => ⟨⟨hk.1.1.2, hk.2⟩, hk.1.2⟩))) hg hat)
              replace HB := am (below_weaken (by repeat (first | (with_reducible first | exact HB.out | apply below_alloc | apply pw_below_drewN | apply below_drew1 | refine below_set ?_ (IsS63.ge HI0.out) | refine below_set ?_ GE217.out) | exact HB.out)) HL.out hb)
              replace HI0 := am (IsS63.grown (by repeat (first | (with_reducible first | exact HI0.out | apply IsS63.alloc | apply IsS63.drewN | apply IsS63.drew | apply IsS63.set_1 | apply IsS63.set_2 | apply IsS63.set_3 | refine IsS63.far ?_ NB0_217.out _) | exact HI0.out)) hg (IsS63.own_ne HI0.out HO267.out (by decide)))
              replace HK := am (KeepBut.trans (by repeat (first | (with_reducible first | exact HK.out | apply KeepBut.set_ | apply keep_drewN | apply keep_drew | apply keep_alloc | refine keep_far ?_ GW217.out _) | exact HK.out)) (KeepBut.of_grown hg g) (Kd.R_base2 HO267.out))
              have HO270 := am (ho)
              clear HO267 ho hb hg hat
              refine hK.out _ _ ⟨bc BK217.out 0, bc BK217.out 1, bc BK217.out 2⟩ (fun hHeld => ?_)
              clear hK K
              refine norm_ (a' := ?_) ?_ ?_
              rotate_left
              ·show Act.put _ (some 51) _ = _
               simp only [Act.put, sa_, s0_, ss_, i64_w, i32_w]
               rfl
              exact norm_ (by simp only [putAll, Act.put, sa_, s0_, ss_]) (hCont (v266, v269, v272) _ ⟨hHeld, (kr HO260.out), (kr (Kd.R_mono HO270.out (fun _ hk => ⟨hk.2.1, ⟨hk.1, hk.2.2⟩⟩))), (kr (Kd.R_mono HO273.out (fun _ hk => ⟨hk.2, ⟨hk.1.1, hk.1.2⟩⟩))), (kr (Kd.R_mono HO_3.out (fun _ hk => ⟨hk.2, ⟨hk.1.1, hk.1.2⟩⟩))), (pk BK217.out), (by repeat (first | (with_reducible first | exact HI0.out | apply IsS63.alloc | apply IsS63.drewN | apply IsS63.drew | apply IsS63.set_1 | apply IsS63.set_2 | apply IsS63.set_3 | refine IsS63.far ?_ NB0_217.out _) | exact HI0.out)), (by repeat (first | (with_reducible first | exact HK.out | apply KeepBut.set_ | apply keep_drewN | apply keep_drew | apply keep_alloc | refine keep_far ?_ GW217.out _) | exact HK.out)), (by repeat (first | (with_reducible first | exact HB.out | apply below_alloc | apply pw_below_drewN | apply below_drew1 | refine below_set ?_ (IsS63.ge HI0.out) | refine below_set ?_ GE217.out) | exact HB.out))⟩)
            ·skip
             refine Kd.R_lit_step k40 _ 40 ?hg (N := 53) ?hd (xs := ([(⟨t211, t212, t261⟩ : S40)] : List (S40))) (inner := [.int .i64 t211, .string t212, .string t261]) (ok := fun _ => True) (okp := fun _ => True) ?hr ?hp (fun _ hk => hk) trivial (Below.refl _ _) (Nat.le_refl _) (by simp) ?_; (case hd => rfl); (case hg => rfl); (case hr => first | (go_simp; done) | (go_simp; rfl)); (case hp => exact (Reps.c3 (show Kd.M k40 _ _ _ (⟨t211, t212, t261⟩ : S40) [.int .i64 t211, .string t212, .string t261] from (k40_mkM _ _ _ (⟨t211, t212, t261⟩ : S40) )) (Reps.none _ _)))
             intro v272 w82 ho83 hb hg_ hnew_
             clear hg_ hnew_
             (first | rw [← Ny271.out] at ho83 | (simp only [Int.reduceToNat] at ho83; rw [← Ny271.out] at ho83))
             replace HO260 := am (Kd.R_below (kr HO260.out) hb)
             have HO273 := am (Kd.R_lower (Kd.R_newB (Kd.R_new' ho83 (Kd.R_lt (kr HO_3.out))) (g := gb217) (o := .cells #[.int .i64 t211, .string t212, .string t261] 40 (0, 0)) (pk BK217.out)) (keep_size (w := w) (g := g) (row := none) (by repeat (first | (with_reducible first | exact HK.out | apply KeepBut.set_ | apply keep_drewN | apply keep_drew | apply keep_alloc | refine keep_far ?_ GW217.out _) | exact HK.out))))
             replace HO_3 := am (Kd.R_elder' (kr HO_3.out) (Kd.R_base ho83) hb)
             replace BK217 := am (blk_below (pk BK217.out) hb)
             replace HK := am (KeepBut.trans (by repeat (first | (with_reducible first | exact HK.out | apply KeepBut.set_ | apply keep_drewN | apply keep_drew | apply keep_alloc | refine keep_far ?_ GW217.out _) | exact HK.out)) (KeepBut.of_below hb g none) (.inl rfl))
             replace HB := am (below_step (by repeat (first | (with_reducible first | exact HB.out | apply below_alloc | apply pw_below_drewN | apply below_drew1 | refine below_set ?_ (IsS63.ge HI0.out) | refine below_set ?_ GE217.out) | exact HB.out)) hb)
             replace HI0 := am (IsS63.below (by repeat (first | (with_reducible first | exact HI0.out | apply IsS63.alloc | apply IsS63.drewN | apply IsS63.drew | apply IsS63.set_1 | apply IsS63.set_2 | apply IsS63.set_3 | refine IsS63.far ?_ NB0_217.out _) | exact HI0.out)) hb)
             clear hb ho83
             refine hK.out _ _ ⟨bc BK217.out 0, bc BK217.out 1, bc BK217.out 2⟩ (fun hHeld => ?_)
             clear hK K
             refine norm_ (a' := ?_) ?_ ?_
             rotate_left
             ·show Act.put _ (some 53) _ = _
              simp only [Act.put, sa_, s0_, ss_, i64_w, i32_w]
              rfl
             refine one_ (i := 0) (N := some 49) b30_7 rfl rfl (by kernel_rfl) (by decide) (fun K hK => ?_)
             refine Kd.R_lit_step k40 _ 40 ?hg (N := 49) ?hd (xs := ([] : List (S40))) (inner := []) (ok := fun _ => True) (okp := fun _ => True) ?hr ?hp (fun _ hk => hk) trivial (Below.refl _ _) (Nat.le_refl _) (by simp) ?_; (case hd => rfl); (case hg => rfl); (case hr => first | (go_simp; done) | (go_simp; rfl)); (case hp => exact (Reps.none _ _))
             intro v266 w84 ho85 hb hg_ hnew_
             clear hg_ hnew_
             (first | rw [← Ny265.out] at ho85 | (simp only [Int.reduceToNat] at ho85; rw [← Ny265.out] at ho85))
             replace HO260 := am (Kd.R_below (kr HO260.out) hb)
             have HO267 := am (Kd.R_lower (Kd.R_newB (Kd.R_new' (Kd.R_new' ho85 (Kd.R_lt (kr HO_3.out))) (Kd.R_lt (kr HO273.out))) (g := gb217) (o := .cells #[.int .i64 t211, .string t212, .string t261] 40 (0, 0)) (pk BK217.out)) (keep_size (w := w) (g := g) (row := none) (by repeat (first | (with_reducible first | exact HK.out | apply KeepBut.set_ | apply keep_drewN | apply keep_drew | apply keep_alloc | refine keep_far ?_ GW217.out _) | exact HK.out))))
             replace HO_3 := am (Kd.R_elder' (kr HO_3.out) (Kd.R_base ho85) hb)
             replace HO273 := am (Kd.R_elder' (kr HO273.out) (Kd.R_base ho85) hb)
             replace BK217 := am (blk_below (pk BK217.out) hb)
             replace HK := am (KeepBut.trans (by repeat (first | (with_reducible first | exact HK.out | apply KeepBut.set_ | apply keep_drewN | apply keep_drew | apply keep_alloc | refine keep_far ?_ GW217.out _) | exact HK.out)) (KeepBut.of_below hb g none) (.inl rfl))
             replace HB := am (below_step (by repeat (first | (with_reducible first | exact HB.out | apply below_alloc | apply pw_below_drewN | apply below_drew1 | refine below_set ?_ (IsS63.ge HI0.out) | refine below_set ?_ GE217.out) | exact HB.out)) hb)
             replace HI0 := am (IsS63.below (by repeat (first | (with_reducible first | exact HI0.out | apply IsS63.alloc | apply IsS63.drewN | apply IsS63.drew | apply IsS63.set_1 | apply IsS63.set_2 | apply IsS63.set_3 | refine IsS63.far ?_ NB0_217.out _) | exact HI0.out)) hb)
             clear hb ho85
             refine hK.out _ _ ⟨bc BK217.out 0, bc BK217.out 1, bc BK217.out 2⟩ (fun hHeld => ?_)
             clear hK K
             refine norm_ (a' := ?_) ?_ ?_
             rotate_left
             ·show Act.put _ (some 49) _ = _
              simp only [Act.put, sa_, s0_, ss_, i64_w, i32_w]
              rfl
             refine one_ (i := 2) (N := some 51) b30_3 rfl rfl (by kernel_rfl) (by decide) (fun K hK => ?_)
             refine Kd.R_append_rows_step k40 w.heap.size (by rfl) (.tmp 49) (.tmp 50) 24 40 (.agg #[(.int .i64 0), (.string ⟨#[]⟩), (.string ⟨#[]⟩)]) 40 rfl Try.underlying24 info40 rfl (by decide) (by omega) v266 y265 x3_1 _ _ _ (fun k_ => some k_ ≠ (.slice Ao79 x3_1.length co79 : Value).ownBlock ∧ some k_ ≠ (v272 : Value).ownBlock ∧ k_ ≠ gb217) (fun _ => False) rfl rfl ?aO ?aR (fun _ _ h => h) (fun _ h => h.elim) ?aF (Below.refl _ _) ?aS ?aL ?_
             (case aR => repeat (first | exact (Kd.R_reads' HO_3.out).2.2 | (with_reducible refine Kd.C_alloc ?_ _) | (with_reducible refine Kd.C_drewN ?_ _) | (with_reducible refine Kd.C_drew ?_)))
             (case aF => exact (fun k_ hk => ⟨Kd.fresh' (Kd.R_lt (kr HO_3.out)) k_ hk, Kd.fresh' (Kd.R_lt (kr HO273.out)) k_ hk, Kd.freshB (g := gb217) (o := .cells #[.int .i64 t211, .string t212, .string t261] 40 (0, 0)) (pk BK217.out) k_ hk⟩))
             (case aO => exact (kr (Kd.R_mono HO267.out (fun _ hk => ⟨hk.1.1.2, ⟨hk.1.2, hk.2⟩⟩))))
             (case aS => exact (keep_size (w := w) (g := g) (row := none) (by repeat (first | (with_reducible first | exact HK.out | apply KeepBut.set_ | apply keep_drewN | apply keep_drew | apply keep_alloc | refine keep_far ?_ GW217.out _) | exact HK.out))))
             (case aL => have := LMc67.out; omega)
             intro v269 w86 ho hb hg hat
             rw [← Ny268.out] at ho
             replace HO_3 := am (Kd.R_after (ok := (fun k_ => some k_ ≠ (v272 : Value).ownBlock ∧ k_ ≠ gb217)) (kr (Kd.R_mono HO_3.out (fun _ hk => ⟨⟨hk.1.2, hk.1.1⟩, hk.2⟩))) hg hat)
             replace BK217 := am (blk_grown (g := gb217) (o := .cells #[.int .i64 t211, .string t212, .string t261] 40 (0, 0)) (pk BK217.out) hg (Kd.R_away HO267.out (fun _ hk => hk.2)))
             replace HO260 := am (Kd.R_over' (kr HO260.out) (Kd.R_typed (kr HO267.out)) (by decide) hg)
             replace HO273 := am (Kd.R_after (ok := (fun k_ => some k_ ≠ (.slice Ao79 x3_1.length co79 : Value).ownBlock ∧ k_ ≠ gb217)) (kr (Kd.R_mono HO273.out (fun _ hk => ⟨⟨hk.1.1.2, hk.1.2⟩, hk.2⟩))) hg hat)
             replace HB := am (below_weaken (by repeat (first | (with_reducible first | exact HB.out | apply below_alloc | apply pw_below_drewN | apply below_drew1 | refine below_set ?_ (IsS63.ge HI0.out) | refine below_set ?_ GE217.out) | exact HB.out)) HL.out hb)
             replace HI0 := am (IsS63.grown (by repeat (first | (with_reducible first | exact HI0.out | apply IsS63.alloc | apply IsS63.drewN | apply IsS63.drew | apply IsS63.set_1 | apply IsS63.set_2 | apply IsS63.set_3 | refine IsS63.far ?_ NB0_217.out _) | exact HI0.out)) hg (IsS63.own_ne HI0.out HO267.out (by decide)))
             replace HK := am (KeepBut.trans (by repeat (first | (with_reducible first | exact HK.out | apply KeepBut.set_ | apply keep_drewN | apply keep_drew | apply keep_alloc | refine keep_far ?_ GW217.out _) | exact HK.out)) (KeepBut.of_grown hg g) (Kd.R_base2 HO267.out))
             have HO270 := am (ho)
             clear HO267 ho hb hg hat
             refine hK.out _ _ ⟨bc BK217.out 0, bc BK217.out 1, bc BK217.out 2⟩ (fun hHeld => ?_)
             clear hK K
             refine norm_ (a' := ?_) ?_ ?_
             rotate_left
             ·show Act.put _ (some 51) _ = _
              simp only [Act.put, sa_, s0_, ss_, i64_w, i32_w]
              rfl
             exact norm_ (by simp only [putAll, Act.put, sa_, s0_, ss_]) (hCont (v266, v269, v272) _ ⟨hHeld, (kr HO260.out), (kr (Kd.R_mono HO270.out (fun _ hk => ⟨hk.2.1, ⟨hk.1, hk.2.2⟩⟩))), (kr (Kd.R_mono HO273.out (fun _ hk => ⟨hk.2, ⟨hk.1.1, hk.1.2⟩⟩))), (kr (Kd.R_mono HO_3.out (fun _ hk => ⟨hk.2, ⟨hk.1.1, hk.1.2⟩⟩))), (pk BK217.out), (by repeat (first | (with_reducible first | exact HI0.out | apply IsS63.alloc | apply IsS63.drewN | apply IsS63.drew | apply IsS63.set_1 | apply IsS63.set_2 | apply IsS63.set_3 | refine IsS63.far ?_ NB0_217.out _) | exact HI0.out)), (by repeat (first | (with_reducible first | exact HK.out | apply KeepBut.set_ | apply keep_drewN | apply keep_drew | apply keep_alloc | refine keep_far ?_ GW217.out _) | exact HK.out)), (by repeat (first | (with_reducible first | exact HB.out | apply below_alloc | apply pw_below_drewN | apply below_drew1 | refine below_set ?_ (IsS63.ge HI0.out) | refine below_set ?_ GE217.out) | exact HB.out))⟩)
           rintro ⟨v266, v269, v272⟩ w87 ⟨hS_, h0_, h1_, h2_, h3_, h4_, h5_, h6_, h7_⟩
           replace HO260 : Aside0 (Kd.R Kd.string 9 w87 w.heap.size (fun _ => True) (.slice Ao76 y258.length co76) y258) := ⟨h0_⟩
           have HO270 : Aside0 (Kd.R k40 40 w87 w.heap.size (fun k_ => some k_ ≠ (v272 : Value).ownBlock ∧ some k_ ≠ (.slice Ao79 x3_1.length co79 : Value).ownBlock ∧ k_ ≠ gb217) v269 y268) := ⟨h1_⟩
           have HO273 : Aside0 (Kd.R k40 40 w87 w.heap.size (fun k_ => some k_ ≠ (v269 : Value).ownBlock ∧ some k_ ≠ (.slice Ao79 x3_1.length co79 : Value).ownBlock ∧ k_ ≠ gb217) v272 y271) := ⟨h2_⟩
           replace HO_3 : Aside0 (Kd.R k40 40 w87 w.heap.size (fun k_ => some k_ ≠ (v269 : Value).ownBlock ∧ some k_ ≠ (v272 : Value).ownBlock ∧ k_ ≠ gb217) (.slice Ao79 x3_1.length co79) x3_1) := ⟨h3_⟩
           replace BK217 : Aside0 (w87.heap[gb217]? = some (.cells #[.int .i64 t211, .string t212, .string t261] 40 (0, 0))) := ⟨h4_⟩
           replace HI0 : Aside0 (IsS63 w0 w87 g s0_0 t262 t263 t264) := ⟨h5_⟩
           replace HK : Aside0 (KeepBut w w87 g none) := ⟨h6_⟩
           replace HB : Aside0 (Below w0.heap.size w0 w87) := ⟨h7_⟩
           clear h0_ h1_ h2_ h3_ h4_ h5_ h6_ h7_
           have hHeld : w87.cell? ⟨gb217, 0, none⟩ = some (.int .i64 t211) ∧ w87.cell? ⟨gb217, 1, none⟩ = some (.string t212) ∧ w87.cell? ⟨gb217, 2, none⟩ = some (.string t261) := hS_
           obtain ⟨Ao89, co89, eo89⟩ := Kd.R_slice HO273.out
           (first | subst eo89 | (injection eo89 with f1_ f2_ f3_; have f4_ := f1_.symm; have f5_ := f3_.symm; clear f1_ f2_ f3_; subst f4_; subst f5_))
           refine norm_ (a' := ?_) ?_ ?_
           rotate_left
           ·simp only [putAll, Act.put, sa_, s0_, ss_]
            rfl
           refine one_ (i := 5) (N := some 54) b30_8 rfl rfl (by kernel_rfl) (by decide) (fun K hK => ?_)
           refine Kd.R_append_rows_step k40 w.heap.size (by rfl) (.tmp 51) (.tmp 53) 24 40 (.agg #[(.int .i64 0), (.string ⟨#[]⟩), (.string ⟨#[]⟩)]) 40 rfl Try.underlying24 info40 rfl (by decide) (by omega) v269 y268 y271 _ _ _ (fun k_ => some k_ ≠ (.slice Ao79 x3_1.length co79 : Value).ownBlock ∧ some k_ ≠ (.slice Ao89 y271.length co89 : Value).ownBlock ∧ k_ ≠ gb217) (fun _ => False) rfl rfl ?aO ?aR (fun _ _ h => h) (fun _ h => h.elim) ?aF (Below.refl _ _) ?aS ?aL ?_
           (case aR => repeat (first | exact (Kd.R_reads' HO273.out).2.2 | (with_reducible refine Kd.C_alloc ?_ _) | (with_reducible refine Kd.C_drewN ?_ _) | (with_reducible refine Kd.C_drew ?_)))
           (case aF => exact (fun k_ hk => ⟨Kd.fresh' (Kd.R_lt (kr HO_3.out)) k_ hk, Kd.fresh' (Kd.R_lt (kr HO273.out)) k_ hk, Kd.freshB (g := gb217) (o := .cells #[.int .i64 t211, .string t212, .string t261] 40 (0, 0)) (pk BK217.out) k_ hk⟩))
           (case aO => exact (kr (Kd.R_mono HO270.out (fun _ hk => ⟨hk.2.1, ⟨hk.1, hk.2.2⟩⟩))))
           (case aS => exact (keep_size (w := w) (g := g) (row := none) (by repeat (first | (with_reducible first | exact HK.out | apply KeepBut.set_ | apply keep_drewN | apply keep_drew | apply keep_alloc | refine keep_far ?_ GW217.out _) | exact HK.out))))
           (case aL => have := LMc68.out; omega)
           intro v275 w88 ho hb hg hat
           rw [← Ny274.out] at ho
           replace HO_3 := am (Kd.R_after (ok := (fun k_ => some k_ ≠ (.slice Ao89 y271.length co89 : Value).ownBlock ∧ k_ ≠ gb217)) (kr (Kd.R_mono HO_3.out (fun _ hk => ⟨⟨hk.2.1, hk.2.2⟩, hk.1⟩))) hg hat)
           replace BK217 := am (blk_grown (g := gb217) (o := .cells #[.int .i64 t211, .string t212, .string t261] 40 (0, 0)) (pk BK217.out) hg (Kd.R_away HO270.out (fun _ hk => hk.2.2)))
           replace HO260 := am (Kd.R_over' (kr HO260.out) (Kd.R_typed (kr HO270.out)) (by decide) hg)
           replace HO273 := am (Kd.R_after (ok := (fun k_ => some k_ ≠ (.slice Ao79 x3_1.length co79 : Value).ownBlock ∧ k_ ≠ gb217)) (kr (Kd.R_mono HO273.out (fun _ hk => ⟨⟨hk.2.1, hk.2.2⟩, hk.1⟩))) hg hat)
           replace HB := am (below_weaken (by repeat (first | (with_reducible first | exact HB.out | apply below_alloc | apply pw_below_drewN | apply below_drew1 | refine below_set ?_ (IsS63.ge HI0.out) | refine below_set ?_ GE217.out) | exact HB.out)) HL.out hb)
           replace HI0 := am (IsS63.grown (by repeat (first | (with_reducible first | exact HI0.out | apply IsS63.alloc | apply IsS63.drewN | apply IsS63.drew | apply IsS63.set_1 | apply IsS63.set_2 | apply IsS63.set_3 | refine IsS63.far ?_ NB0_217.out _) | exact HI0.out)) hg (IsS63.own_ne HI0.out HO270.out (by decide)))
           replace HK := am (KeepBut.trans (by repeat (first | (with_reducible first | exact HK.out | apply KeepBut.set_ | apply keep_drewN | apply keep_drew | apply keep_alloc | refine keep_far ?_ GW217.out _) | exact HK.out)) (KeepBut.of_grown hg g) (Kd.R_base2 HO270.out))
           have HO276 := am (ho)
           clear HO270 ho hb hg hat
           refine hK.out _ _ ⟨bc BK217.out 0, bc BK217.out 1, bc BK217.out 2⟩ (fun hHeld => ?_)
           clear hK K
           refine norm_ (a' := ?_) ?_ ?_
           rotate_left
           ·show Act.put _ (some 54) _ = _
            simp only [Act.put, sa_, s0_, ss_, i64_w, i32_w]
            rfl
           refine pure_ (i := 6) (N := some 3) (v := ?_) (a' := ?_) b30_9 rfl rfl (by kernel_rfl) (fun _ _ _ h => h) (Or.inl ⟨by rfl, ?_⟩) ?_ ?_; rotate_left
           ·intro w'; go_simp; with_reducible rfl
           rotate_left
           ·simp only [Act.put, sa_, s0_, ss_, i64_w, i32_w]; rfl
           refine done_ (by kernel_rfl) ?_
           try go_wp2
           go_meet
           case rel => exact ⟨_, (y274), (t262), (t263), (t264), H', ⟨by have := HK1.out; first | omega | exact Nat.le_refl _⟩, ⟨kr (Kd.R_mono HO276.out (fun _ hk => trivial))⟩, ⟨by repeat (first | (with_reducible first | exact HI0.out | apply IsS63.alloc | apply IsS63.drewN | apply IsS63.drew | apply IsS63.set_1 | apply IsS63.set_2 | apply IsS63.set_3 | refine IsS63.far ?_ NB0_217.out _) | exact HI0.out)⟩, ⟨by repeat (first | (with_reducible first | exact HK.out | apply KeepBut.set_ | apply keep_drewN | apply keep_drew | apply keep_alloc | refine keep_far ?_ GW217.out _) | exact HK.out)⟩, ⟨by repeat (first | (with_reducible first | exact HB.out | apply below_alloc | apply pw_below_drewN | apply below_drew1 | refine below_set ?_ (IsS63.ge HI0.out) | refine below_set ?_ GE217.out) | exact HB.out)⟩⟩
          ·rw [if_neg c68] at H
           exact absurd H (by simp)
         ·rw [if_neg c67] at H
          exact absurd H (by simp)
        ·rw [if_neg c65] at H
         have c65b0 : (t218 == 2) = false := beq_eq_false_iff_ne.mpr c65
         have c65b1 : (t218 != 2) = true := bne_iff_ne.mpr c65
         obtain ⟨y277, hy277⟩ : ∃ y_ : List (S40), y_ = (([] : List (S40))) := ⟨_, rfl⟩
         replace H : (if y277.length + x3_1.length < 3518437208883 then ((some (y277 ++ x3_1 : List (S40))).bind fun y280 => ((some (([(⟨t211, t212, t213⟩ : S40)] : List (S40)) : List (S40))).bind fun y283 => (if y280.length + y283.length < 3518437208883 then (spec_l01Src_l07Keys.j1 k1 (y280 ++ y283) s0_0 t219 t220 t221) else (none)))) else (none)) = some (r1, r2, r3, r4) := by first | (rw [hy277]; with_reducible exact H) | (have H2_ := (Option.bind_some _ _).symm.trans H; rw [hy277]; with_reducible exact H2_) | (have H2_ := (Option.bind_some _ _).symm.trans H; with_reducible exact H2_) | with_reducible exact H | (rw [hy277]; exact H) | exact H
         have Ny277 := am hy277
         clear hy277
         by_cases c90 : y277.length + x3_1.length < 3518437208883
         ·rw [if_pos c90] at H
          have LMc90 := Aside0.mk c90
          clear c90
          obtain ⟨y280, hy280⟩ : ∃ y_ : List (S40), y_ = (y277 ++ x3_1) := ⟨_, rfl⟩
          replace H : ((some (([(⟨t211, t212, t213⟩ : S40)] : List (S40)) : List (S40))).bind fun y283 => (if y280.length + y283.length < 3518437208883 then (spec_l01Src_l07Keys.j1 k1 (y280 ++ y283) s0_0 t219 t220 t221) else (none))) = some (r1, r2, r3, r4) := by first | (rw [hy280]; with_reducible exact H) | (have H2_ := (Option.bind_some _ _).symm.trans H; rw [hy280]; with_reducible exact H2_) | (have H2_ := (Option.bind_some _ _).symm.trans H; with_reducible exact H2_) | with_reducible exact H | (rw [hy280]; exact H) | exact H
          have Ny280 := am hy280
          clear hy280
          obtain ⟨y283, hy283⟩ : ∃ y_ : List (S40), y_ = (([(⟨t211, t212, t213⟩ : S40)] : List (S40))) := ⟨_, rfl⟩
          replace H : (if y280.length + y283.length < 3518437208883 then (spec_l01Src_l07Keys.j1 k1 (y280 ++ y283) s0_0 t219 t220 t221) else (none)) = some (r1, r2, r3, r4) := by first | (rw [hy283]; with_reducible exact H) | (have H2_ := (Option.bind_some _ _).symm.trans H; rw [hy283]; with_reducible exact H2_) | (have H2_ := (Option.bind_some _ _).symm.trans H; with_reducible exact H2_) | with_reducible exact H | (rw [hy283]; exact H) | exact H
          have Ny283 := am hy283
          clear hy283
          by_cases c91 : y280.length + y283.length < 3518437208883
          ·rw [if_pos c91] at H
           have LMc91 := Aside0.mk c91
           clear c91
           obtain ⟨y286, hy286⟩ : ∃ y_ : List (S40), y_ = (y280 ++ y283) := ⟨_, rfl⟩
           replace H : (spec_l01Src_l07Keys.j1 k1 y286 s0_0 t219 t220 t221) = some (r1, r2, r3, r4) := by first | (rw [hy286]; with_reducible exact H) | (have H2_ := (Option.bind_some _ _).symm.trans H; rw [hy286]; with_reducible exact H2_) | (have H2_ := (Option.bind_some _ _).symm.trans H; with_reducible exact H2_) | with_reducible exact H | (rw [hy286]; exact H) | exact H
           have Ny286 := am hy286
           clear hy286
           have H' := Aside0.mk H
           clear H
           try go_wp2_with (first | ((with_reducible refine gate_callee (f := 46) rfl ?_); refine gl (some 26) Try.func46 #[.pointer (some ⟨g, 0, none⟩)] ?_; (with_reducible refine (spec_l01Src_l07Key.calls k1 g s0_0 t208 t209 t210 t211 t212 t213 t214 t215 t216 w0 _ ?side1 ?side2 A17.out).mono ?_); (case side1 => repeat (first | (with_reducible first | exact HI0.out | apply IsS63.alloc | apply IsS63.drewN | apply IsS63.drew | apply IsS63.set_1 | apply IsS63.set_2 | apply IsS63.set_3) | exact HI0.out)); (case side2 => repeat (first | (with_reducible first | exact HB.out | apply below_alloc | apply pw_below_drewN | apply below_drew1 | refine below_set ?_ (IsS63.ge HI0.out)) | exact HB.out)); rintro e w92 ⟨rfl, hi, hb, hk⟩; refine ⟨_, rfl, ?_⟩; replace HO_3 := am (Kd.R_mono (Kd.R_keep (IsS63.apart (show IsS63 w0 _ g s0_0 t208 t209 t210 from by repeat (first | (with_reducible first | exact HI0.out | apply IsS63.alloc | apply IsS63.drewN | apply IsS63.drew | apply IsS63.set_1 | apply IsS63.set_2 | apply IsS63.set_3) | exact HI0.out)) (kr HO_3.out) (by decide)) hk (fun _ h => h.2)) (fun _ h => h.1)); replace HK := am (KeepBut.trans (by repeat (first | (with_reducible first | exact HK.out | apply KeepBut.set_ | apply keep_drewN | apply keep_drew | apply keep_alloc) | exact HK.out)) hk (.inl rfl)); replace HB := am (hb); replace HI0 := am (hi); (try clear hb); (try clear hb2); (try clear hk); (try clear hi)) | ((with_reducible refine gate_dst (N := 5) rfl ?_); refine box_event ?hg (N := 5) ?hd (cs := #[.int .i64 0, .string (⟨#[]⟩ : ByteArray), .string (⟨#[]⟩ : ByteArray)]) (t := 40) ?hr ?_; (case hd => rfl); (case hg => rfl); (case hr => first | (go_simp; done) | (go_simp; rfl)); intro gb217 hg w93 hbox hb; replace HO_3 := am (Kd.R_below (Kd.R_elderB (kr HO_3.out) gb217 (Nat.le_of_eq hg.symm)) hb); replace HB := am (below_step (by repeat (first | (with_reducible first | exact HB.out | apply below_alloc | apply pw_below_drewN | apply below_drew1 | refine below_set ?_ (IsS63.ge HI0.out)) | exact HB.out)) hb); have BK217 := am (hbox); have GW217 := am ((by rw [hg]; exact (keep_size (w := w) (g := g) (row := none) (by repeat (first | (with_reducible first | exact HK.out | apply KeepBut.set_ | apply keep_drewN | apply keep_drew | apply keep_alloc) | exact HK.out))) : w.heap.size ≤ gb217)); have GE217 := am ((Nat.le_trans HW0.out (by rw [hg]; exact (keep_size (w := w) (g := g) (row := none) (by repeat (first | (with_reducible first | exact HK.out | apply KeepBut.set_ | apply keep_drewN | apply keep_drew | apply keep_alloc) | exact HK.out))) : w.heap.size ≤ gb217) : w0.heap.size ≤ gb217)); replace HK := am (KeepBut.trans (by repeat (first | (with_reducible first | exact HK.out | apply KeepBut.set_ | apply keep_drewN | apply keep_drew | apply keep_alloc) | exact HK.out)) (KeepBut.of_below hb g none) (.inl rfl)); have NB0_217 := am ((by rw [hg]; exact Nat.ne_of_lt (IsS63.lt (show IsS63 w0 _ g s0_0 t214 t215 t216 from by repeat (first | (with_reducible first | exact HI0.out | apply IsS63.alloc | apply IsS63.drewN | apply IsS63.drew | apply IsS63.set_1 | apply IsS63.set_2 | apply IsS63.set_3) | exact HI0.out))) : g ≠ gb217)); have NB217_0 := am ((by rw [hg]; exact Nat.ne_of_gt (IsS63.lt (show IsS63 w0 _ g s0_0 t214 t215 t216 from by repeat (first | (with_reducible first | exact HI0.out | apply IsS63.alloc | apply IsS63.drewN | apply IsS63.drew | apply IsS63.set_1 | apply IsS63.set_2 | apply IsS63.set_3) | exact HI0.out))) : gb217 ≠ g)); replace HI0 := am (IsS63.below (by repeat (first | (with_reducible first | exact HI0.out | apply IsS63.alloc | apply IsS63.drewN | apply IsS63.drew | apply IsS63.set_1 | apply IsS63.set_2 | apply IsS63.set_3) | exact HI0.out)) hb); clear hb hbox hg; have hnb94 := NB217_0.out; have hnc94 := NB0_217.out; have hcz95_0 : w93.cell? ⟨gb217, 0, none⟩ = some (.int .i64 0) := bc BK217.out 0; have hcz95_1 : w93.cell? ⟨gb217, 1, none⟩ = some (.string (⟨#[]⟩ : ByteArray)) := bc BK217.out 1; have hcz95_2 : w93.cell? ⟨gb217, 2, none⟩ = some (.string (⟨#[]⟩ : ByteArray)) := bc BK217.out 2; have hfz95_0 := blk_frozen BK217.out 0; have hfz95_1 := blk_frozen BK217.out 1; have hfz95_2 := blk_frozen BK217.out 2) | ((with_reducible refine gate_callee (f := 31) rfl ?_); refine gl (some 28) Try.func31 #[.pointer (some ⟨g, 0, none⟩), .int .i64 4] ?_; (with_reducible refine (spec_l01Src_n.calls g s0_0 t214 t215 t216 4 t218 t219 t220 t221 w0 _ ?side1 ?side2 A18.out).mono ?_); (case side1 => repeat (first | (with_reducible first | exact HI0.out | apply IsS63.alloc | apply IsS63.drewN | apply IsS63.drew | apply IsS63.set_1 | apply IsS63.set_2 | apply IsS63.set_3 | refine IsS63.far ?_ NB0_217.out _) | exact HI0.out)); (case side2 => repeat (first | (with_reducible first | exact HB.out | apply below_alloc | apply pw_below_drewN | apply below_drew1 | refine below_set ?_ (IsS63.ge HI0.out) | refine below_set ?_ GE217.out) | exact HB.out)); rintro e w96 ⟨rfl, hi, hb, hk⟩; refine ⟨_, rfl, ?_⟩; replace HO_3 := am (Kd.R_mono (Kd.R_keep (IsS63.apart (show IsS63 w0 _ g s0_0 t214 t215 t216 from by repeat (first | (with_reducible first | exact HI0.out | apply IsS63.alloc | apply IsS63.drewN | apply IsS63.drew | apply IsS63.set_1 | apply IsS63.set_2 | apply IsS63.set_3 | refine IsS63.far ?_ NB0_217.out _) | exact HI0.out)) (kr ((Kd.R_mono (Kd.R_far (p := ⟨gb217, 2, none⟩) (Kd.R_far (p := ⟨gb217, 1, none⟩) (Kd.R_far (p := ⟨gb217, 0, none⟩) (Kd.R_mono HO_3.out (fun k_ hk => (⟨hk, hk.2⟩ : _ ∧ k_ ≠ gb217))) (fun _ hk => hk.2) (.int .i64 t211)) (fun _ hk => hk.2) (.string t212)) (fun _ hk => hk.2) (.string t213)) (fun _ h_ => h_.1)))) (by decide)) hk (fun _ h => h.2)) (fun _ h => h.1)); replace BK217 := am (KeepBut.blk hk (g' := gb217) (o := .cells #[.int .i64 t211, .string t212, .string t213] 40 (0, 0)) (by refine pk ?_; refine blk_put (cs := #[.int .i64 t211, .string t212, .string (⟨#[]⟩ : ByteArray)]) ?_ 2 _ rfl; refine pk ?_; refine blk_put (cs := #[.int .i64 t211, .string (⟨#[]⟩ : ByteArray), .string (⟨#[]⟩ : ByteArray)]) ?_ 1 _ rfl; refine pk ?_; refine blk_put (cs := #[.int .i64 0, .string (⟨#[]⟩ : ByteArray), .string (⟨#[]⟩ : ByteArray)]) ?_ 0 _ rfl; refine pk ?_; exact BK217.out) NB217_0.out (by simp)); replace HK := am (KeepBut.trans (by repeat (first | (with_reducible first | exact HK.out | apply KeepBut.set_ | apply keep_drewN | apply keep_drew | apply keep_alloc | refine keep_far ?_ GW217.out _) | exact HK.out)) hk (.inl rfl)); replace HB := am (hb); replace HI0 := am (hi); (try clear hb); (try clear hb2); (try clear hk); (try clear hi); obtain ⟨Ao97, co97, eo97⟩ := Kd.R_slice HO_3.out; subst eo97))
           replace HO_3 := am (Kd.R_drew HO_3.out)
           replace BK217 := am (blk_drew BK217.out)
           replace HI0 := am (IsS63.drew HI0.out)
           replace HK := am (keep_drew HK.out)
           replace HB := am (below_drew1 HB.out)
           refine start_ (n := 7) (S := fun w' => w'.cell? ⟨gb217, 0, none⟩ = some (.int .i64 t211) ∧ w'.cell? ⟨gb217, 1, none⟩ = some (.string t212) ∧ w'.cell? ⟨gb217, 2, none⟩ = some (.string t213)) (ds := []) b30_0 (by kernel_rfl) rfl rfl ⟨bc BK217.out 0, bc BK217.out 1, bc BK217.out 2⟩ (fun hHeld => ?_)
           generalize w96.drew = w98 at HO_3 BK217 HI0 HK HB hHeld ⊢
           refine pure_ (i := 1) (N := some 50) (v := ?_) (a' := ?_) b30_1 rfl rfl (by kernel_rfl) (fun _ _ _ h => h) (Or.inl ⟨by rfl, ?_⟩) ?_ ?_; rotate_left
           ·intro w'; go_simp; with_reducible rfl
           rotate_left
           ·simp only [Act.put, sa_, s0_, ss_, i64_w, i32_w]; rfl
           refine take_ (i := 3) (N := some 52) (v := ?_) (a' := ?_) b30_2 rfl rfl (by kernel_rfl) (fun _ _ _ h => h) (Or.inl ⟨by rfl, ?_⟩) hHeld ?_ ?_; rotate_left
           ·rintro w' ⟨s0, s1, s2⟩; go_simp; with_reducible rfl
           rotate_left
           ·simp only [Act.put, sa_, s0_, ss_, i64_w, i32_w]; rfl
           refine join_ (σ := Value × Value × Value) 2 b30_3 (fun s_ => [(49, s_.1), (51, s_.2.1), (53, s_.2.2)]) (fun s_ w' => (w'.cell? ⟨gb217, 0, none⟩ = some (.int .i64 t211) ∧ w'.cell? ⟨gb217, 1, none⟩ = some (.string t212) ∧ w'.cell? ⟨gb217, 2, none⟩ = some (.string t213)) ∧ (Kd.R k40 40 w' w.heap.size (fun k_ => some k_ ≠ (s_.2.2 : Value).ownBlock ∧ some k_ ≠ (.slice Ao97 x3_1.length co97 : Value).ownBlock ∧ k_ ≠ gb217) s_.2.1 y280) ∧ (Kd.R k40 40 w' w.heap.size (fun k_ => some k_ ≠ (s_.2.1 : Value).ownBlock ∧ some k_ ≠ (.slice Ao97 x3_1.length co97 : Value).ownBlock ∧ k_ ≠ gb217) s_.2.2 y283) ∧ (Kd.R k40 40 w' w.heap.size (fun k_ => some k_ ≠ (s_.2.1 : Value).ownBlock ∧ some k_ ≠ (s_.2.2 : Value).ownBlock ∧ k_ ≠ gb217) (.slice Ao97 x3_1.length co97) x3_1) ∧ (w'.heap[gb217]? = some (.cells #[.int .i64 t211, .string t212, .string t213] 40 (0, 0))) ∧ (IsS63 w0 w' g s0_0 t219 t220 t221) ∧ (KeepBut w w' g none) ∧ (Below w0.heap.size w0 w')) ?_ ?_
           rotate_left
           ·intro hCont
            refine two_ (i := 0) (j := 4) (Ni := some 49) (Nj := some 53) b30_4 b30_5 rfl rfl rfl rfl (by kernel_rfl) (by decide) (by decide) (fun K hK => ?_) (fun K hK => ?_)
            ·skip
             refine Kd.R_lit_step k40 _ 40 ?hg (N := 49) ?hd (xs := ([] : List (S40))) (inner := []) (ok := fun _ => True) (okp := fun _ => True) ?hr ?hp (fun _ hk => hk) trivial (Below.refl _ _) (Nat.le_refl _) (by simp) ?_; (case hd => rfl); (case hg => rfl); (case hr => first | (go_simp; done) | (go_simp; rfl)); (case hp => exact (Reps.none _ _))
             intro v278 w99 ho100 hb hg_ hnew_
             clear hg_ hnew_
             (first | rw [← Ny277.out] at ho100 | (simp only [Int.reduceToNat] at ho100; rw [← Ny277.out] at ho100))
             have HO279 := am (Kd.R_lower (Kd.R_newB (Kd.R_new' ho100 (Kd.R_lt (kr HO_3.out))) (g := gb217) (o := .cells #[.int .i64 t211, .string t212, .string t213] 40 (0, 0)) (pk BK217.out)) (keep_size (w := w) (g := g) (row := none) (by repeat (first | (with_reducible first | exact HK.out | apply KeepBut.set_ | apply keep_drewN | apply keep_drew | apply keep_alloc | refine keep_far ?_ GW217.out _) | exact HK.out))))
             replace HO_3 := am (Kd.R_elder' (kr HO_3.out) (Kd.R_base ho100) hb)
             replace BK217 := am (blk_below (pk BK217.out) hb)
             replace HK := am (KeepBut.trans (by repeat (first | (with_reducible first | exact HK.out | apply KeepBut.set_ | apply keep_drewN | apply keep_drew | apply keep_alloc | refine keep_far ?_ GW217.out _) | exact HK.out)) (KeepBut.of_below hb g none) (.inl rfl))
             replace HB := am (below_step (by repeat (first | (with_reducible first | exact HB.out | apply below_alloc | apply pw_below_drewN | apply below_drew1 | refine below_set ?_ (IsS63.ge HI0.out) | refine below_set ?_ GE217.out) | exact HB.out)) hb)
             replace HI0 := am (IsS63.below (by repeat (first | (with_reducible first | exact HI0.out | apply IsS63.alloc | apply IsS63.drewN | apply IsS63.drew | apply IsS63.set_1 | apply IsS63.set_2 | apply IsS63.set_3 | refine IsS63.far ?_ NB0_217.out _) | exact HI0.out)) hb)
             clear hb ho100
             refine hK.out _ _ ⟨bc BK217.out 0, bc BK217.out 1, bc BK217.out 2⟩ (fun hHeld => ?_)
             clear hK K
             refine norm_ (a' := ?_) ?_ ?_
             rotate_left
             ·show Act.put _ (some 49) _ = _
              simp only [Act.put, sa_, s0_, ss_, i64_w, i32_w]
              rfl
             refine two_ (i := 2) (j := 4) (Ni := some 51) (Nj := some 53) b30_6 b30_7 rfl rfl rfl rfl (by kernel_rfl) (by decide) (by decide) (fun K hK => ?_) (fun K hK => ?_)
             ·skip
              refine Kd.R_append_rows_step k40 w.heap.size (by rfl) (.tmp 49) (.tmp 50) 24 40 (.agg #[(.int .i64 0), (.string ⟨#[]⟩), (.string ⟨#[]⟩)]) 40 rfl Try.underlying24 info40 rfl (by decide) (by omega) v278 y277 x3_1 _ _ _ (fun k_ => some k_ ≠ (.slice Ao97 x3_1.length co97 : Value).ownBlock ∧ k_ ≠ gb217) (fun _ => False) rfl rfl ?aO ?aR (fun _ _ h => h) (fun _ h => h.elim) ?aF (Below.refl _ _) ?aS ?aL ?_
              (case aR => repeat (first | exact (Kd.R_reads' HO_3.out).2.2 | (with_reducible refine Kd.C_alloc ?_ _) | (with_reducible refine Kd.C_drewN ?_ _) | (with_reducible refine Kd.C_drew ?_)))
              (case aF => exact (fun k_ hk => ⟨Kd.fresh' (Kd.R_lt (kr HO_3.out)) k_ hk, Kd.freshB (g := gb217) (o := .cells #[.int .i64 t211, .string t212, .string t213] 40 (0, 0)) (pk BK217.out) k_ hk⟩))
              (case aO => exact (kr (Kd.R_mono HO279.out (fun _ hk => ⟨hk.1.2, hk.2⟩))))
              (case aS => exact (keep_size (w := w) (g := g) (row := none) (by repeat (first | (with_reducible first | exact HK.out | apply KeepBut.set_ | apply keep_drewN | apply keep_drew | apply keep_alloc | refine keep_far ?_ GW217.out _) | exact HK.out))))
              (case aL => have := LMc90.out; omega)
              intro v281 w101 ho hb hg hat
              rw [← Ny280.out] at ho
              replace HO_3 := am (Kd.R_after (ok := (fun k_ => k_ ≠ gb217)) (kr (Kd.R_mono HO_3.out (fun _ hk => ⟨hk.1.2, hk.2⟩))) hg hat)
              replace BK217 := am (blk_grown (g := gb217) (o := .cells #[.int .i64 t211, .string t212, .string t213] 40 (0, 0)) (pk BK217.out) hg (Kd.R_away HO279.out (fun _ hk => hk.2)))
              replace HB := am (below_weaken (by repeat (first | (with_reducible first | exact HB.out | apply below_alloc | apply pw_below_drewN | apply below_drew1 | refine below_set ?_ (IsS63.ge HI0.out) | refine below_set ?_ GE217.out) | exact HB.out)) HL.out hb)
              replace HI0 := am (IsS63.grown (by repeat (first | (with_reducible first | exact HI0.out | apply IsS63.alloc | apply IsS63.drewN | apply IsS63.drew | apply IsS63.set_1 | apply IsS63.set_2 | apply IsS63.set_3 | refine IsS63.far ?_ NB0_217.out _) | exact HI0.out)) hg (IsS63.own_ne HI0.out HO279.out (by decide)))
              replace HK := am (KeepBut.trans (by repeat (first | (with_reducible first | exact HK.out | apply KeepBut.set_ | apply keep_drewN | apply keep_drew | apply keep_alloc | refine keep_far ?_ GW217.out _) | exact HK.out)) (KeepBut.of_grown hg g) (Kd.R_base2 HO279.out))
              have HO282 := am (ho)
              clear HO279 ho hb hg hat
              refine hK.out _ _ ⟨bc BK217.out 0, bc BK217.out 1, bc BK217.out 2⟩ (fun hHeld => ?_)
              clear hK K
              refine norm_ (a' := ?_) ?_ ?_
              rotate_left
              ·show Act.put _ (some 51) _ = _
               simp only [Act.put, sa_, s0_, ss_, i64_w, i32_w]
               rfl
              refine one_ (i := 4) (N := some 53) b30_3 rfl rfl (by kernel_rfl) (by decide) (fun K hK => ?_)
              refine Kd.R_lit_step k40 _ 40 ?hg (N := 53) ?hd (xs := ([(⟨t211, t212, t213⟩ : S40)] : List (S40))) (inner := [.int .i64 t211, .string t212, .string t213]) (ok := fun _ => True) (okp := fun _ => True) ?hr ?hp (fun _ hk => hk) trivial (Below.refl _ _) (Nat.le_refl _) (by simp) ?_; (case hd => rfl); (case hg => rfl); (case hr => first | (go_simp; done) | (go_simp; rfl)); (case hp => exact (Reps.c3 (show Kd.M k40 _ _ _ (⟨t211, t212, t213⟩ : S40) [.int .i64 t211, .string t212, .string t213] from (k40_mkM _ _ _ (⟨t211, t212, t213⟩ : S40) )) (Reps.none _ _)))
              intro v284 w102 ho103 hb hg_ hnew_
              clear hg_ hnew_
              (first | rw [← Ny283.out] at ho103 | (simp only [Int.reduceToNat] at ho103; rw [← Ny283.out] at ho103))
              have HO285 := am (Kd.R_lower (Kd.R_newB (Kd.R_new' (Kd.R_new' ho103 (Kd.R_lt (kr HO_3.out))) (Kd.R_lt (kr HO282.out))) (g := gb217) (o := .cells #[.int .i64 t211, .string t212, .string t213] 40 (0, 0)) (pk BK217.out)) (keep_size (w := w) (g := g) (row := none) (by repeat (first | (with_reducible first | exact HK.out | apply KeepBut.set_ | apply keep_drewN | apply keep_drew | apply keep_alloc | refine keep_far ?_ GW217.out _) | exact HK.out))))
              replace HO_3 := am (Kd.R_elder' (kr HO_3.out) (Kd.R_base ho103) hb)
              replace HO282 := am (Kd.R_elder' (kr HO282.out) (Kd.R_base ho103) hb)
              replace BK217 := am (blk_below (pk BK217.out) hb)
              replace HK := am (KeepBut.trans (by repeat (first | (with_reducible first | exact HK.out | apply KeepBut.set_ | apply keep_drewN | apply keep_drew | apply keep_alloc | refine keep_far ?_ GW217.out _) | exact HK.out)) (KeepBut.of_below hb g none) (.inl rfl))
              replace HB := am (below_step (by repeat (first | (with_reducible first | exact HB.out | apply below_alloc | apply pw_below_drewN | apply below_drew1 | refine below_set ?_ (IsS63.ge HI0.out) | refine below_set ?_ GE217.out) | exact HB.out)) hb)
              replace HI0 := am (IsS63.below (by repeat (first | (with_reducible first | exact HI0.out | apply IsS63.alloc | apply IsS63.drewN | apply IsS63.drew | apply IsS63.set_1 | apply IsS63.set_2 | apply IsS63.set_3 | refine IsS63.far ?_ NB0_217.out _) | exact HI0.out)) hb)
              clear hb ho103
              refine hK.out _ _ ⟨bc BK217.out 0, bc BK217.out 1, bc BK217.out 2⟩ (fun hHeld => ?_)
              clear hK K
              refine norm_ (a' := ?_) ?_ ?_
              rotate_left
              ·show Act.put _ (some 53) _ = _
               simp only [Act.put, sa_, s0_, ss_, i64_w, i32_w]
               rfl
              exact norm_ (by simp only [putAll, Act.put, sa_, s0_, ss_]) (hCont (v278, v281, v284) _ ⟨hHeld, (kr (Kd.R_mono HO282.out (fun _ hk => ⟨hk.2, ⟨hk.1.1, hk.1.2⟩⟩))), (kr (Kd.R_mono HO285.out (fun _ hk => ⟨hk.1.2, ⟨hk.1.1.2, hk.2⟩⟩))), (kr (Kd.R_mono HO_3.out (fun _ hk => ⟨hk.1.2, ⟨hk.2, hk.1.1⟩⟩))), (pk BK217.out), (by repeat (first | (with_reducible first | exact HI0.out | apply IsS63.alloc | apply IsS63.drewN | apply IsS63.drew | apply IsS63.set_1 | apply IsS63.set_2 | apply IsS63.set_3 | refine IsS63.far ?_ NB0_217.out _) | exact HI0.out)), (by repeat (first | (with_reducible first | exact HK.out | apply KeepBut.set_ | apply keep_drewN | apply keep_drew | apply keep_alloc | refine keep_far ?_ GW217.out _) | exact HK.out)), (by repeat (first | (with_reducible first | exact HB.out | apply below_alloc | apply pw_below_drewN | apply below_drew1 | refine below_set ?_ (IsS63.ge HI0.out) | refine below_set ?_ GE217.out) | exact HB.out))⟩)
             ·skip
              refine Kd.R_lit_step k40 _ 40 ?hg (N := 53) ?hd (xs := ([(⟨t211, t212, t213⟩ : S40)] : List (S40))) (inner := [.int .i64 t211, .string t212, .string t213]) (ok := fun _ => True) (okp := fun _ => True) ?hr ?hp (fun _ hk => hk) trivial (Below.refl _ _) (Nat.le_refl _) (by simp) ?_; (case hd => rfl); (case hg => rfl); (case hr => first | (go_simp; done) | (go_simp; rfl)); (case hp => exact (Reps.c3 (show Kd.M k40 _ _ _ (⟨t211, t212, t213⟩ : S40) [.int .i64 t211, .string t212, .string t213] from (k40_mkM _ _ _ (⟨t211, t212, t213⟩ : S40) )) (Reps.none _ _)))
              intro v284 w101 ho102 hb hg_ hnew_
              clear hg_ hnew_
              (first | rw [← Ny283.out] at ho102 | (simp only [Int.reduceToNat] at ho102; rw [← Ny283.out] at ho102))
              have HO285 := am (Kd.R_lower (Kd.R_newB (Kd.R_new' (Kd.R_new' ho102 (Kd.R_lt (kr HO_3.out))) (Kd.R_lt (kr HO279.out))) (g := gb217) (o := .cells #[.int .i64 t211, .string t212, .string t213] 40 (0, 0)) (pk BK217.out)) (keep_size (w := w) (g := g) (row := none) (by repeat (first | (with_reducible first | exact HK.out | apply KeepBut.set_ | apply keep_drewN | apply keep_drew | apply keep_alloc | refine keep_far ?_ GW217.out _) | exact HK.out))))
              replace HO_3 := am (Kd.R_elder' (kr HO_3.out) (Kd.R_base ho102) hb)
              replace HO279 := am (Kd.R_elder' (kr HO279.out) (Kd.R_base ho102) hb)
              replace BK217 := am (blk_below (pk BK217.out) hb)
              replace HK := am (KeepBut.trans (by repeat (first | (with_reducible first | exact HK.out | apply KeepBut.set_ | apply keep_drewN | apply keep_drew | apply keep_alloc | refine keep_far ?_ GW217.out _) | exact HK.out)) (KeepBut.of_below hb g none) (.inl rfl))
              replace HB := am (below_step (by repeat (first | (with_reducible first | exact HB.out | apply below_alloc | apply pw_below_drewN | apply below_drew1 | refine below_set ?_ (IsS63.ge HI0.out) | refine below_set ?_ GE217.out) | exact HB.out)) hb)
              replace HI0 := am (IsS63.below (by repeat (first | (with_reducible first | exact HI0.out | apply IsS63.alloc | apply IsS63.drewN | apply IsS63.drew | apply IsS63.set_1 | apply IsS63.set_2 | apply IsS63.set_3 | refine IsS63.far ?_ NB0_217.out _) | exact HI0.out)) hb)
              clear hb ho102
              refine hK.out _ _ ⟨bc BK217.out 0, bc BK217.out 1, bc BK217.out 2⟩ (fun hHeld => ?_)
              clear hK K
              refine norm_ (a' := ?_) ?_ ?_
              rotate_left
              ·show Act.put _ (some 53) _ = _
               simp only [Act.put, sa_, s0_, ss_, i64_w, i32_w]
               rfl
              refine one_ (i := 2) (N := some 51) b30_3 rfl rfl (by kernel_rfl) (by decide) (fun K hK => ?_)
              refine Kd.R_append_rows_step k40 w.heap.size (by rfl) (.tmp 49) (.tmp 50) 24 40 (.agg #[(.int .i64 0), (.string ⟨#[]⟩), (.string ⟨#[]⟩)]) 40 rfl Try.underlying24 info40 rfl (by decide) (by omega) v278 y277 x3_1 _ _ _ (fun k_ => some k_ ≠ (.slice Ao97 x3_1.length co97 : Value).ownBlock ∧ some k_ ≠ (v284 : Value).ownBlock ∧ k_ ≠ gb217) (fun _ => False) rfl rfl ?aO ?aR (fun _ _ h => h) (fun _ h => h.elim) ?aF (Below.refl _ _) ?aS ?aL ?_
              (case aR => repeat (first | exact (Kd.R_reads' HO_3.out).2.2 | (with_reducible refine Kd.C_alloc ?_ _) | (with_reducible refine Kd.C_drewN ?_ _) | (with_reducible refine Kd.C_drew ?_)))
              (case aF => exact (fun k_ hk => ⟨Kd.fresh' (Kd.R_lt (kr HO_3.out)) k_ hk, Kd.fresh' (Kd.R_lt (kr HO285.out)) k_ hk, Kd.freshB (g := gb217) (o := .cells #[.int .i64 t211, .string t212, .string t213] 40 (0, 0)) (pk BK217.out) k_ hk⟩))
              (case aO => exact (kr (Kd.R_mono HO279.out (fun _ hk => ⟨hk.1.1.2, ⟨hk.2, hk.1.2⟩⟩))))
              (case aS => exact (keep_size (w := w) (g := g) (row := none) (by repeat (first | (with_reducible first | exact HK.out | apply KeepBut.set_ | apply keep_drewN | apply keep_drew | apply keep_alloc | refine keep_far ?_ GW217.out _) | exact HK.out))))
              (case aL => have := LMc90.out; omega)
              intro v281 w103 ho hb hg hat
              rw [← Ny280.out] at ho
              replace HO_3 := am (Kd.R_after (ok := (fun k_ => some k_ ≠ (v284 : Value).ownBlock ∧ k_ ≠ gb217)) (kr (Kd.R_mono HO_3.out (fun _ hk => ⟨⟨hk.2, hk.1.1.2⟩, hk.1.2⟩))) hg hat)
              replace BK217 := am (blk_grown (g := gb217) (o := .cells #[.int .i64 t211, .string t212, .string t213] 40 (0, 0)) (pk BK217.out) hg (Kd.R_away HO279.out (fun _ hk => hk.1.2)))
              replace HO285 := am (Kd.R_after (ok := (fun k_ => some k_ ≠ (.slice Ao97 x3_1.length co97 : Value).ownBlock ∧ k_ ≠ gb217)) (kr (Kd.R_mono HO285.out (fun _ hk => ⟨⟨hk.1.1.2, hk.2⟩, hk.1.2⟩))) hg hat)
              replace HB := am (below_weaken (by repeat (first | (with_reducible first | exact HB.out | apply below_alloc | apply pw_below_drewN | apply below_drew1 | refine below_set ?_ (IsS63.ge HI0.out) | refine below_set ?_ GE217.out) | exact HB.out)) HL.out hb)
              replace HI0 := am (IsS63.grown (by repeat (first | (with_reducible first | exact HI0.out | apply IsS63.alloc | apply IsS63.drewN | apply IsS63.drew | apply IsS63.set_1 | apply IsS63.set_2 | apply IsS63.set_3 | refine IsS63.far ?_ NB0_217.out _) | exact HI0.out)) hg (IsS63.own_ne HI0.out HO279.out (by decide)))
              replace HK := am (KeepBut.trans (by repeat (first | (with_reducible first | exact HK.out | apply KeepBut.set_ | apply keep_drewN | apply keep_drew | apply keep_alloc | refine keep_far ?_ GW217.out _) | exact HK.out)) (KeepBut.of_grown hg g) (Kd.R_base2 HO279.out))
              have HO282 := am (ho)
              clear HO279 ho hb hg hat
              refine hK.out _ _ ⟨bc BK217.out 0, bc BK217.out 1, bc BK217.out 2⟩ (fun hHeld => ?_)
              clear hK K
              refine norm_ (a' := ?_) ?_ ?_
              rotate_left
              ·show Act.put _ (some 51) _ = _
               simp only [Act.put, sa_, s0_, ss_, i64_w, i32_w]
               rfl
              exact norm_ (by simp only [putAll, Act.put, sa_, s0_, ss_]) (hCont (v278, v281, v284) _ ⟨hHeld, (kr (Kd.R_mono HO282.out (fun _ hk => ⟨hk.2.1, ⟨hk.1, hk.2.2⟩⟩))), (kr (Kd.R_mono HO285.out (fun _ hk => ⟨hk.2, ⟨hk.1.1, hk.1.2⟩⟩))), (kr (Kd.R_mono HO_3.out (fun _ hk => ⟨hk.2, ⟨hk.1.1, hk.1.2⟩⟩))), (pk BK217.out), (by repeat (first | (with_reducible first | exact HI0.out | apply IsS63.alloc | apply IsS63.drewN | apply IsS63.drew | apply IsS63.set_1 | apply IsS63.set_2 | apply IsS63.set_3 | refine IsS63.far ?_ NB0_217.out _) | exact HI0.out)), (by repeat (first | (with_reducible first | exact HK.out | apply KeepBut.set_ | apply keep_drewN | apply keep_drew | apply keep_alloc | refine keep_far ?_ GW217.out _) | exact HK.out)), (by repeat (first | (with_reducible first | exact HB.out | apply below_alloc | apply pw_below_drewN | apply below_drew1 | refine below_set ?_ (IsS63.ge HI0.out) | refine below_set ?_ GE217.out) | exact HB.out))⟩)
            ·skip
             refine Kd.R_lit_step k40 _ 40 ?hg (N := 53) ?hd (xs := ([(⟨t211, t212, t213⟩ : S40)] : List (S40))) (inner := [.int .i64 t211, .string t212, .string t213]) (ok := fun _ => True) (okp := fun _ => True) ?hr ?hp (fun _ hk => hk) trivial (Below.refl _ _) (Nat.le_refl _) (by simp) ?_; (case hd => rfl); (case hg => rfl); (case hr => first | (go_simp; done) | (go_simp; rfl)); (case hp => exact (Reps.c3 (show Kd.M k40 _ _ _ (⟨t211, t212, t213⟩ : S40) [.int .i64 t211, .string t212, .string t213] from (k40_mkM _ _ _ (⟨t211, t212, t213⟩ : S40) )) (Reps.none _ _)))
             intro v284 w99 ho100 hb hg_ hnew_
             clear hg_ hnew_
             (first | rw [← Ny283.out] at ho100 | (simp only [Int.reduceToNat] at ho100; rw [← Ny283.out] at ho100))
             have HO285 := am (Kd.R_lower (Kd.R_newB (Kd.R_new' ho100 (Kd.R_lt (kr HO_3.out))) (g := gb217) (o := .cells #[.int .i64 t211, .string t212, .string t213] 40 (0, 0)) (pk BK217.out)) (keep_size (w := w) (g := g) (row := none) (by repeat (first | (with_reducible first | exact HK.out | apply KeepBut.set_ | apply keep_drewN | apply keep_drew | apply keep_alloc | refine keep_far ?_ GW217.out _) | exact HK.out))))
             replace HO_3 := am (Kd.R_elder' (kr HO_3.out) (Kd.R_base ho100) hb)
             replace BK217 := am (blk_below (pk BK217.out) hb)
             replace HK := am (KeepBut.trans (by repeat (first | (with_reducible first | exact HK.out | apply KeepBut.set_ | apply keep_drewN | apply keep_drew | apply keep_alloc | refine keep_far ?_ GW217.out _) | exact HK.out)) (KeepBut.of_below hb g none) (.inl rfl))
             replace HB := am (below_step (by repeat (first | (with_reducible first | exact HB.out | apply below_alloc | apply pw_below_drewN | apply below_drew1 | refine below_set ?_ (IsS63.ge HI0.out) | refine below_set ?_ GE217.out) | exact HB.out)) hb)
             replace HI0 := am (IsS63.below (by repeat (first | (with_reducible first | exact HI0.out | apply IsS63.alloc | apply IsS63.drewN | apply IsS63.drew | apply IsS63.set_1 | apply IsS63.set_2 | apply IsS63.set_3 | refine IsS63.far ?_ NB0_217.out _) | exact HI0.out)) hb)
             clear hb ho100
             refine hK.out _ _ ⟨bc BK217.out 0, bc BK217.out 1, bc BK217.out 2⟩ (fun hHeld => ?_)
             clear hK K
             refine norm_ (a' := ?_) ?_ ?_
             rotate_left
             ·show Act.put _ (some 53) _ = _
              simp only [Act.put, sa_, s0_, ss_, i64_w, i32_w]
              rfl
             refine one_ (i := 0) (N := some 49) b30_7 rfl rfl (by kernel_rfl) (by decide) (fun K hK => ?_)
             refine Kd.R_lit_step k40 _ 40 ?hg (N := 49) ?hd (xs := ([] : List (S40))) (inner := []) (ok := fun _ => True) (okp := fun _ => True) ?hr ?hp (fun _ hk => hk) trivial (Below.refl _ _) (Nat.le_refl _) (by simp) ?_; (case hd => rfl); (case hg => rfl); (case hr => first | (go_simp; done) | (go_simp; rfl)); (case hp => exact (Reps.none _ _))
             intro v278 w101 ho102 hb hg_ hnew_
             clear hg_ hnew_
             (first | rw [← Ny277.out] at ho102 | (simp only [Int.reduceToNat] at ho102; rw [← Ny277.out] at ho102))
             have HO279 := am (Kd.R_lower (Kd.R_newB (Kd.R_new' (Kd.R_new' ho102 (Kd.R_lt (kr HO_3.out))) (Kd.R_lt (kr HO285.out))) (g := gb217) (o := .cells #[.int .i64 t211, .string t212, .string t213] 40 (0, 0)) (pk BK217.out)) (keep_size (w := w) (g := g) (row := none) (by repeat (first | (with_reducible first | exact HK.out | apply KeepBut.set_ | apply keep_drewN | apply keep_drew | apply keep_alloc | refine keep_far ?_ GW217.out _) | exact HK.out))))
             replace HO_3 := am (Kd.R_elder' (kr HO_3.out) (Kd.R_base ho102) hb)
             replace HO285 := am (Kd.R_elder' (kr HO285.out) (Kd.R_base ho102) hb)
             replace BK217 := am (blk_below (pk BK217.out) hb)
             replace HK := am (KeepBut.trans (by repeat (first | (with_reducible first | exact HK.out | apply KeepBut.set_ | apply keep_drewN | apply keep_drew | apply keep_alloc | refine keep_far ?_ GW217.out _) | exact HK.out)) (KeepBut.of_below hb g none) (.inl rfl))
             replace HB := am (below_step (by repeat (first | (with_reducible first | exact HB.out | apply below_alloc | apply pw_below_drewN | apply below_drew1 | refine below_set ?_ (IsS63.ge HI0.out) | refine below_set ?_ GE217.out) | exact HB.out)) hb)
             replace HI0 := am (IsS63.below (by repeat (first | (with_reducible first | exact HI0.out | apply IsS63.alloc | apply IsS63.drewN | apply IsS63.drew | apply IsS63.set_1 | apply IsS63.set_2 | apply IsS63.set_3 | refine IsS63.far ?_ NB0_217.out _) | exact HI0.out)) hb)
             clear hb ho102
             refine hK.out _ _ ⟨bc BK217.out 0, bc BK217.out 1, bc BK217.out 2⟩ (fun hHeld => ?_)
             clear hK K
             refine norm_ (a' := ?_) ?_ ?_
             rotate_left
             ·show Act.put _ (some 49) _ = _
              simp only [Act.put, sa_, s0_, ss_, i64_w, i32_w]
              rfl
             refine one_ (i := 2) (N := some 51) b30_3 rfl rfl (by kernel_rfl) (by decide) (fun K hK => ?_)
             refine Kd.R_append_rows_step k40 w.heap.size (by rfl) (.tmp 49) (.tmp 50) 24 40 (.agg #[(.int .i64 0), (.string ⟨#[]⟩), (.string ⟨#[]⟩)]) 40 rfl Try.underlying24 info40 rfl (by decide) (by omega) v278 y277 x3_1 _ _ _ (fun k_ => some k_ ≠ (.slice Ao97 x3_1.length co97 : Value).ownBlock ∧ some k_ ≠ (v284 : Value).ownBlock ∧ k_ ≠ gb217) (fun _ => False) rfl rfl ?aO ?aR (fun _ _ h => h) (fun _ h => h.elim) ?aF (Below.refl _ _) ?aS ?aL ?_
             (case aR => repeat (first | exact (Kd.R_reads' HO_3.out).2.2 | (with_reducible refine Kd.C_alloc ?_ _) | (with_reducible refine Kd.C_drewN ?_ _) | (with_reducible refine Kd.C_drew ?_)))
             (case aF => exact (fun k_ hk => ⟨Kd.fresh' (Kd.R_lt (kr HO_3.out)) k_ hk, Kd.fresh' (Kd.R_lt (kr HO285.out)) k_ hk, Kd.freshB (g := gb217) (o := .cells #[.int .i64 t211, .string t212, .string t213] 40 (0, 0)) (pk BK217.out) k_ hk⟩))
             (case aO => exact (kr (Kd.R_mono HO279.out (fun _ hk => ⟨hk.1.1.2, ⟨hk.1.2, hk.2⟩⟩))))
             (case aS => exact (keep_size (w := w) (g := g) (row := none) (by repeat (first | (with_reducible first | exact HK.out | apply KeepBut.set_ | apply keep_drewN | apply keep_drew | apply keep_alloc | refine keep_far ?_ GW217.out _) | exact HK.out))))
             (case aL => have := LMc90.out; omega)
             intro v281 w103 ho hb hg hat
             rw [← Ny280.out] at ho
             replace HO_3 := am (Kd.R_after (ok := (fun k_ => some k_ ≠ (v284 : Value).ownBlock ∧ k_ ≠ gb217)) (kr (Kd.R_mono HO_3.out (fun _ hk => ⟨⟨hk.1.2, hk.1.1.2⟩, hk.2⟩))) hg hat)
             replace BK217 := am (blk_grown (g := gb217) (o := .cells #[.int .i64 t211, .string t212, .string t213] 40 (0, 0)) (pk BK217.out) hg (Kd.R_away HO279.out (fun _ hk => hk.2)))
             replace HO285 := am (Kd.R_after (ok := (fun k_ => some k_ ≠ (.slice Ao97 x3_1.length co97 : Value).ownBlock ∧ k_ ≠ gb217)) (kr (Kd.R_mono HO285.out (fun _ hk => ⟨⟨hk.1.1.2, hk.1.2⟩, hk.2⟩))) hg hat)
             replace HB := am (below_weaken (by repeat (first | (with_reducible first | exact HB.out | apply below_alloc | apply pw_below_drewN | apply below_drew1 | refine below_set ?_ (IsS63.ge HI0.out) | refine below_set ?_ GE217.out) | exact HB.out)) HL.out hb)
             replace HI0 := am (IsS63.grown (by repeat (first | (with_reducible first | exact HI0.out | apply IsS63.alloc | apply IsS63.drewN | apply IsS63.drew | apply IsS63.set_1 | apply IsS63.set_2 | apply IsS63.set_3 | refine IsS63.far ?_ NB0_217.out _) | exact HI0.out)) hg (IsS63.own_ne HI0.out HO279.out (by decide)))
             replace HK := am (KeepBut.trans (by repeat (first | (with_reducible first | exact HK.out | apply KeepBut.set_ | apply keep_drewN | apply keep_drew | apply keep_alloc | refine keep_far ?_ GW217.out _) | exact HK.out)) (KeepBut.of_grown hg g) (Kd.R_base2 HO279.out))
             have HO282 := am (ho)
             clear HO279 ho hb hg hat
             refine hK.out _ _ ⟨bc BK217.out 0, bc BK217.out 1, bc BK217.out 2⟩ (fun hHeld => ?_)
             clear hK K
             refine norm_ (a' := ?_) ?_ ?_
             rotate_left
             ·show Act.put _ (some 51) _ = _
              simp only [Act.put, sa_, s0_, ss_, i64_w, i32_w]
              rfl
             exact norm_ (by simp only [putAll, Act.put, sa_, s0_, ss_]) (hCont (v278, v281, v284) _ ⟨hHeld, (kr (Kd.R_mono HO282.out (fun _ hk => ⟨hk.2.1, ⟨hk.1, hk.2.2⟩⟩))), (kr (Kd.R_mono HO285.out (fun _ hk => ⟨hk.2, ⟨hk.1.1, hk.1.2⟩⟩))), (kr (Kd.R_mono HO_3.out (fun _ hk => ⟨hk.2, ⟨hk.1.1, hk.1.2⟩⟩))), (pk BK217.out), (by repeat (first | (with_reducible first | exact HI0.out | apply IsS63.alloc | apply IsS63.drewN | apply IsS63.drew | apply IsS63.set_1 | apply IsS63.set_2 | apply IsS63.set_3 | refine IsS63.far ?_ NB0_217.out _) | exact HI0.out)), (by repeat (first | (with_reducible first | exact HK.out | apply KeepBut.set_ | apply keep_drewN | apply keep_drew | apply keep_alloc | refine keep_far ?_ GW217.out _) | exact HK.out)), (by repeat (first | (with_reducible first | exact HB.out | apply below_alloc | apply pw_below_drewN | apply below_drew1 | refine below_set ?_ (IsS63.ge HI0.out) | refine below_set ?_ GE217.out) | exact HB.out))⟩)
           rintro ⟨v278, v281, v284⟩ w104 ⟨hS_, h0_, h1_, h2_, h3_, h4_, h5_, h6_⟩
           have HO282 : Aside0 (Kd.R k40 40 w104 w.heap.size (fun k_ => some k_ ≠ (v284 : Value).ownBlock ∧ some k_ ≠ (.slice Ao97 x3_1.length co97 : Value).ownBlock ∧ k_ ≠ gb217) v281 y280) := ⟨h0_⟩
           have HO285 : Aside0 (Kd.R k40 40 w104 w.heap.size (fun k_ => some k_ ≠ (v281 : Value).ownBlock ∧ some k_ ≠ (.slice Ao97 x3_1.length co97 : Value).ownBlock ∧ k_ ≠ gb217) v284 y283) := ⟨h1_⟩
           replace HO_3 : Aside0 (Kd.R k40 40 w104 w.heap.size (fun k_ => some k_ ≠ (v281 : Value).ownBlock ∧ some k_ ≠ (v284 : Value).ownBlock ∧ k_ ≠ gb217) (.slice Ao97 x3_1.length co97) x3_1) := ⟨h2_⟩
           replace BK217 : Aside0 (w104.heap[gb217]? = some (.cells #[.int .i64 t211, .string t212, .string t213] 40 (0, 0))) := ⟨h3_⟩
           replace HI0 : Aside0 (IsS63 w0 w104 g s0_0 t219 t220 t221) := ⟨h4_⟩
           replace HK : Aside0 (KeepBut w w104 g none) := ⟨h5_⟩
           replace HB : Aside0 (Below w0.heap.size w0 w104) := ⟨h6_⟩
           clear h0_ h1_ h2_ h3_ h4_ h5_ h6_
           have hHeld : w104.cell? ⟨gb217, 0, none⟩ = some (.int .i64 t211) ∧ w104.cell? ⟨gb217, 1, none⟩ = some (.string t212) ∧ w104.cell? ⟨gb217, 2, none⟩ = some (.string t213) := hS_
           obtain ⟨Ao106, co106, eo106⟩ := Kd.R_slice HO285.out
           (first | subst eo106 | (injection eo106 with f1_ f2_ f3_; have f4_ := f1_.symm; have f5_ := f3_.symm; clear f1_ f2_ f3_; subst f4_; subst f5_))
           refine norm_ (a' := ?_) ?_ ?_
           rotate_left
           ·simp only [putAll, Act.put, sa_, s0_, ss_]
            rfl
           refine one_ (i := 5) (N := some 54) b30_8 rfl rfl (by kernel_rfl) (by decide) (fun K hK => ?_)
           refine Kd.R_append_rows_step k40 w.heap.size (by rfl) (.tmp 51) (.tmp 53) 24 40 (.agg #[(.int .i64 0), (.string ⟨#[]⟩), (.string ⟨#[]⟩)]) 40 rfl Try.underlying24 info40 rfl (by decide) (by omega) v281 y280 y283 _ _ _ (fun k_ => some k_ ≠ (.slice Ao97 x3_1.length co97 : Value).ownBlock ∧ some k_ ≠ (.slice Ao106 y283.length co106 : Value).ownBlock ∧ k_ ≠ gb217) (fun _ => False) rfl rfl ?aO ?aR (fun _ _ h => h) (fun _ h => h.elim) ?aF (Below.refl _ _) ?aS ?aL ?_
           (case aR => repeat (first | exact (Kd.R_reads' HO285.out).2.2 | (with_reducible refine Kd.C_alloc ?_ _) | (with_reducible refine Kd.C_drewN ?_ _) | (with_reducible refine Kd.C_drew ?_)))
           (case aF => exact (fun k_ hk => ⟨Kd.fresh' (Kd.R_lt (kr HO_3.out)) k_ hk, Kd.fresh' (Kd.R_lt (kr HO285.out)) k_ hk, Kd.freshB (g := gb217) (o := .cells #[.int .i64 t211, .string t212, .string t213] 40 (0, 0)) (pk BK217.out) k_ hk⟩))
           (case aO => exact (kr (Kd.R_mono HO282.out (fun _ hk => ⟨hk.2.1, ⟨hk.1, hk.2.2⟩⟩))))
           (case aS => exact (keep_size (w := w) (g := g) (row := none) (by repeat (first | (with_reducible first | exact HK.out | apply KeepBut.set_ | apply keep_drewN | apply keep_drew | apply keep_alloc | refine keep_far ?_ GW217.out _) | exact HK.out))))
           (case aL => have := LMc91.out; omega)
           intro v287 w105 ho hb hg hat
           rw [← Ny286.out] at ho
           replace HO_3 := am (Kd.R_after (ok := (fun k_ => some k_ ≠ (.slice Ao106 y283.length co106 : Value).ownBlock ∧ k_ ≠ gb217)) (kr (Kd.R_mono HO_3.out (fun _ hk => ⟨⟨hk.2.1, hk.2.2⟩, hk.1⟩))) hg hat)
           replace BK217 := am (blk_grown (g := gb217) (o := .cells #[.int .i64 t211, .string t212, .string t213] 40 (0, 0)) (pk BK217.out) hg (Kd.R_away HO282.out (fun _ hk => hk.2.2)))
           replace HO285 := am (Kd.R_after (ok := (fun k_ => some k_ ≠ (.slice Ao97 x3_1.length co97 : Value).ownBlock ∧ k_ ≠ gb217)) (kr (Kd.R_mono HO285.out (fun _ hk => ⟨⟨hk.2.1, hk.2.2⟩, hk.1⟩))) hg hat)
           replace HB := am (below_weaken (by repeat (first | (with_reducible first | exact HB.out | apply below_alloc | apply pw_below_drewN | apply below_drew1 | refine below_set ?_ (IsS63.ge HI0.out) | refine below_set ?_ GE217.out) | exact HB.out)) HL.out hb)
           replace HI0 := am (IsS63.grown (by repeat (first | (with_reducible first | exact HI0.out | apply IsS63.alloc | apply IsS63.drewN | apply IsS63.drew | apply IsS63.set_1 | apply IsS63.set_2 | apply IsS63.set_3 | refine IsS63.far ?_ NB0_217.out _) | exact HI0.out)) hg (IsS63.own_ne HI0.out HO282.out (by decide)))
           replace HK := am (KeepBut.trans (by repeat (first | (with_reducible first | exact HK.out | apply KeepBut.set_ | apply keep_drewN | apply keep_drew | apply keep_alloc | refine keep_far ?_ GW217.out _) | exact HK.out)) (KeepBut.of_grown hg g) (Kd.R_base2 HO282.out))
           have HO288 := am (ho)
           clear HO282 ho hb hg hat
           refine hK.out _ _ ⟨bc BK217.out 0, bc BK217.out 1, bc BK217.out 2⟩ (fun hHeld => ?_)
           clear hK K
           refine norm_ (a' := ?_) ?_ ?_
           rotate_left
           ·show Act.put _ (some 54) _ = _
            simp only [Act.put, sa_, s0_, ss_, i64_w, i32_w]
            rfl
           refine pure_ (i := 6) (N := some 3) (v := ?_) (a' := ?_) b30_9 rfl rfl (by kernel_rfl) (fun _ _ _ h => h) (Or.inl ⟨by rfl, ?_⟩) ?_ ?_; rotate_left
           ·intro w'; go_simp; with_reducible rfl
           rotate_left
           ·simp only [Act.put, sa_, s0_, ss_, i64_w, i32_w]; rfl
           refine done_ (by kernel_rfl) ?_
           try go_wp2
           go_meet
           case rel => exact ⟨_, (y286), (t219), (t220), (t221), H', ⟨by have := HK1.out; first | omega | exact Nat.le_refl _⟩, ⟨kr (Kd.R_mono HO288.out (fun _ hk => trivial))⟩, ⟨by repeat (first | (with_reducible first | exact HI0.out | apply IsS63.alloc | apply IsS63.drewN | apply IsS63.drew | apply IsS63.set_1 | apply IsS63.set_2 | apply IsS63.set_3 | refine IsS63.far ?_ NB0_217.out _) | exact HI0.out)⟩, ⟨by repeat (first | (with_reducible first | exact HK.out | apply KeepBut.set_ | apply keep_drewN | apply keep_drew | apply keep_alloc | refine keep_far ?_ GW217.out _) | exact HK.out)⟩, ⟨by repeat (first | (with_reducible first | exact HB.out | apply below_alloc | apply pw_below_drewN | apply below_drew1 | refine below_set ?_ (IsS63.ge HI0.out) | refine below_set ?_ GE217.out) | exact HB.out)⟩⟩
          ·rw [if_neg c91] at H
           exact absurd H (by simp)
         ·rw [if_neg c90] at H
          exact absurd H (by simp)
     ·replace c16 := Bool.eq_false_iff.mpr c16
      subst c16
      have H1 : (spec_l01Src_l07Keys.j1 k1 x3_1 s0_0 t208 t209 t210) = some (r1, r2, r3, r4) := by rw [if_neg (show ¬ (false = true) by decide)] at H; exact H
      clear H
      have H := H1
      clear H1
      have H' := Aside0.mk H
      clear H
      go_wp2
      go_meet
      case rel => exact ⟨_, (x3_1), (t208), (t209), (t210), H', ⟨by have := HK1.out; first | omega | exact Nat.le_refl _⟩, ⟨kr HO_3.out⟩, ⟨by repeat (first | (with_reducible first | exact HI0.out | apply IsS63.alloc | apply IsS63.drewN | apply IsS63.drew | apply IsS63.set_1 | apply IsS63.set_2 | apply IsS63.set_3) | exact HI0.out)⟩, ⟨by repeat (first | (with_reducible first | exact HK.out | apply KeepBut.set_ | apply keep_drewN | apply keep_drew | apply keep_alloc) | exact HK.out)⟩, ⟨by repeat (first | (with_reducible first | exact HB.out | apply below_alloc | apply pw_below_drewN | apply below_drew1 | refine below_set ?_ (IsS63.ge HI0.out)) | exact HB.out)⟩⟩
    case rest =>
     clear HC14
     try clear c1
     try clear p2
     try clear c3
     try clear c4
     try clear c6
     try clear c9
     try clear c16
     try clear c31
     try clear c46
     try clear c65
     try clear c65b0
     try clear c65b1
     try clear c67
     try clear c68
     try clear c90
     try clear c91
     try clear c94
     try clear hcz95_0
     try clear hcz95_1
     try clear hcz95_2
     try clear hfz95_0
     try clear hfz95_1
     try clear hfz95_2
     obtain ⟨kq, x3_13, x1001_13, x1002_13, x1003_13, HA, HJ13, HO_3, HI0, HK, HB⟩ := hcut
     cases kq with
     | zero => exact absurd HA.out (by simp [spec_l01Src_l07Keys.j1])
     | succ kj13 =>
      have H := HA.out
      clear HA
      simp only [spec_l01Src_l07Keys.j1] at H
      replace H := Option.bind_eq_some_iff.mp H
      obtain ⟨⟨t289, t290, t291, t292⟩, A1070, H⟩ := H
      replace H : (if t289 = true then (spec_l01Src_l07Keys.l1 kj13 (([] : List (S40))) 0 s0_0 t290 t291 t292) else (some (x3_13, t290, t291, t292))) = some (r1, r2, r3, r4) := H
      have A107 := Aside0.mk A1070
      clear A1070
      by_cases c108 : t289 = true
      ·subst c108
       have H1 : (spec_l01Src_l07Keys.l1 kj13 (([] : List (S40))) 0 s0_0 t290 t291 t292) = some (r1, r2, r3, r4) := by rw [if_pos rfl] at H; exact H
       clear H
       have H := H1
       clear H1
       obtain ⟨y293, hy293⟩ : ∃ y_ : List (S40), y_ = (([] : List (S40))) := ⟨_, rfl⟩
       replace H : (spec_l01Src_l07Keys.l1 kj13 y293 0 s0_0 t290 t291 t292) = some (r1, r2, r3, r4) := by first | (rw [hy293]; with_reducible exact H) | (have H2_ := (Option.bind_some _ _).symm.trans H; rw [hy293]; with_reducible exact H2_) | (have H2_ := (Option.bind_some _ _).symm.trans H; with_reducible exact H2_) | with_reducible exact H | (rw [hy293]; exact H) | exact H
       have Ny293 := am hy293
       clear hy293
       have H' := Aside0.mk H
       clear H
       go_wp2_with (first | ((with_reducible refine gate_callee (f := 32) rfl ?_); refine gl (some 56) Try.func32 #[.pointer (some ⟨g, 0, none⟩), .int .i64 40] ?_; (with_reducible refine (spec_l01Src_one.calls g s0_0 x1001_13 x1002_13 x1003_13 40 true t290 t291 t292 w0 _ ?side1 ?side2 A107.out).mono ?_); (case side1 => repeat (first | (with_reducible first | exact HI0.out | apply IsS63.alloc | apply IsS63.drewN | apply IsS63.drew | apply IsS63.set_1 | apply IsS63.set_2 | apply IsS63.set_3) | exact HI0.out)); (case side2 => repeat (first | (with_reducible first | exact HB.out | apply below_alloc | apply pw_below_drewN | apply below_drew1 | refine below_set ?_ (IsS63.ge HI0.out)) | exact HB.out)); rintro e w109 ⟨rfl, hi, hb, hk⟩; refine ⟨_, rfl, ?_⟩; replace HO_3 := am (Kd.R_mono (Kd.R_keep (IsS63.apart (show IsS63 w0 _ g s0_0 x1001_13 x1002_13 x1003_13 from by repeat (first | (with_reducible first | exact HI0.out | apply IsS63.alloc | apply IsS63.drewN | apply IsS63.drew | apply IsS63.set_1 | apply IsS63.set_2 | apply IsS63.set_3) | exact HI0.out)) (kr HO_3.out) (by decide)) hk (fun _ h => h.2)) (fun _ h => h.1)); replace HK := am (KeepBut.trans (by repeat (first | (with_reducible first | exact HK.out | apply KeepBut.set_ | apply keep_drewN | apply keep_drew | apply keep_alloc) | exact HK.out)) hk (.inl rfl)); replace HB := am (hb); replace HI0 := am (hi); (try clear hb); (try clear hb2); (try clear hk); (try clear hi)) | ((with_reducible refine gate_dst (N := 57) rfl ?_); refine Kd.R_lit k40 _ 40 ?hg (N := 57) ?hd (xs := ([] : List (S40))) (inner := []) (ok := fun _ => True) (okp := fun _ => True) ?hr ?hp (fun _ hk => hk) trivial (Below.refl _ _) (Nat.le_refl _) (by simp) ?_; (case hd => rfl); (case hg => rfl); (case hr => first | (go_simp; done) | (go_simp; rfl)); (case hp => exact (Reps.none _ _)); intro v294 w110 ho111 hb hg_ hnew_; clear hg_ hnew_; (first | rw [← Ny293.out] at ho111 | (simp only [Int.reduceToNat] at ho111; rw [← Ny293.out] at ho111)); have HO295 := am (Kd.R_lower (Kd.R_new' ho111 (Kd.R_lt (kr HO_3.out))) (keep_size (w := w) (g := g) (row := none) (by repeat (first | (with_reducible first | exact HK.out | apply KeepBut.set_ | apply keep_drewN | apply keep_drew | apply keep_alloc) | exact HK.out)))); replace HO_3 := am (Kd.R_elder' (kr HO_3.out) (Kd.R_base ho111) hb); replace HK := am (KeepBut.trans (by repeat (first | (with_reducible first | exact HK.out | apply KeepBut.set_ | apply keep_drewN | apply keep_drew | apply keep_alloc) | exact HK.out)) (KeepBut.of_below hb g none) (.inl rfl)); replace HB := am (below_step (by repeat (first | (with_reducible first | exact HB.out | apply below_alloc | apply pw_below_drewN | apply below_drew1 | refine below_set ?_ (IsS63.ge HI0.out)) | exact HB.out)) hb); replace HI0 := am (IsS63.below (by repeat (first | (with_reducible first | exact HI0.out | apply IsS63.alloc | apply IsS63.drewN | apply IsS63.drew | apply IsS63.set_1 | apply IsS63.set_2 | apply IsS63.set_3) | exact HI0.out)) hb); clear hb ho111))
       go_loopg [3, 6] kj13 (fun kq v3 v6 w' => ∃ (x3_3 : List (S40)) (x6_3 : Int) (x1001_3 : Int) (x1002_3 : Int) (x1003_3 : Int), v6 = .int .i64 x6_3 ∧ Aside0 (spec_l01Src_l07Keys.l1 kq x3_3 x6_3 s0_0 x1001_3 x1002_3 x1003_3 = some (r1, r2, r3, r4)) ∧ Aside0 (kq ≤ kj13) ∧ Aside0 (Kd.R k40 40 w' w.heap.size (fun _ => True) v3 x3_3) ∧ Aside0 (IsS63 w0 w' g s0_0 x1001_3 x1002_3 x1003_3) ∧ Aside0 (KeepBut w w' g none) ∧ Aside0 (Below w0.heap.size w0 w'))
       case atStart => exact ⟨(y293), (0), (t290), (t291), (t292), (by first | rfl | (simp; done) | (simp [*]; done)), H', ⟨Nat.le_refl _⟩, ⟨kr (Kd.R_mono HO295.out (fun _ hk => trivial))⟩, ⟨by repeat (first | (with_reducible first | exact HI0.out | apply IsS63.alloc | apply IsS63.drewN | apply IsS63.drew | apply IsS63.set_1 | apply IsS63.set_2 | apply IsS63.set_3) | exact HI0.out)⟩, ⟨by repeat (first | (with_reducible first | exact HK.out | apply KeepBut.set_ | apply keep_drewN | apply keep_drew | apply keep_alloc) | exact HK.out)⟩, ⟨by repeat (first | (with_reducible first | exact HB.out | apply below_alloc | apply pw_below_drewN | apply below_drew1 | refine below_set ?_ (IsS63.ge HI0.out)) | exact HB.out)⟩⟩
       case round =>
        clear H'
        try clear c1
        try clear p2
        try clear c3
        try clear c4
        try clear c6
        try clear c9
        try clear c10
        try clear c16
        try clear c31
        try clear c32
        try clear c46
        try clear c65
        try clear c65b0
        try clear c65b1
        try clear c67
        try clear c68
        try clear c90
        try clear c91
        try clear c94
        try clear c108
        try clear hcz95_0
        try clear hcz95_1
        try clear hcz95_2
        try clear hfz95_0
        try clear hfz95_1
        try clear hfz95_2
        try clear p2
        obtain ⟨x3_3, x6_3, x1001_3, x1002_3, x1003_3, rfl, HA, HK3, HO_3, HI0, HK, HB⟩ := hrel
        cases gk with
        | zero => exact absurd HA.out (by simp [spec_l01Src_l07Keys.l1])
        | succ k3 =>
         have H := HA.out
         clear HA
         simp only [spec_l01Src_l07Keys.l1] at H
         replace H := Option.bind_eq_some_iff.mp H
         obtain ⟨⟨t296, t297, t298, t299⟩, A1120, H⟩ := H
         replace H : (if (x3_3.length : Int) < (wrap64 (59 + t296)) then ((some (([(⟨1, strOfNums (([(wrap64 (33 + x6_3)) % 256] : List Int)), (⟨#[120]⟩ : ByteArray)⟩ : S40)] : List (S40)) : List (S40))).bind fun y303 => (if x3_3.length + y303.length < 3518437208883 then (spec_l01Src_l07Keys.l1 k3 (x3_3 ++ y303) (wrap64 (x6_3 + 1)) s0_0 t297 t298 t299) else (none))) else (some (x3_3, t297, t298, t299))) = some (r1, r2, r3, r4) := H
         have A112 := Aside0.mk A1120
         clear A1120
         by_cases c113 : (x3_3.length : Int) < (wrap64 (59 + t296))
         ·rw [if_pos c113] at H
          have c113b0 : decide ((x3_3.length : Int) < (wrap64 (59 + t296))) = true := decide_eq_true c113
          clear c113
          obtain ⟨y300, hy300⟩ : ∃ y_ : List Int, y_ = (([(wrap64 (33 + x6_3)) % 256] : List Int)) := ⟨_, rfl⟩
          replace H : ((some (([(⟨1, strOfNums y300, (⟨#[120]⟩ : ByteArray)⟩ : S40)] : List (S40)) : List (S40))).bind fun y303 => (if x3_3.length + y303.length < 3518437208883 then (spec_l01Src_l07Keys.l1 k3 (x3_3 ++ y303) (wrap64 (x6_3 + 1)) s0_0 t297 t298 t299) else (none))) = some (r1, r2, r3, r4) := by first | (rw [hy300]; with_reducible exact H) | (have H2_ := (Option.bind_some _ _).symm.trans H; rw [hy300]; with_reducible exact H2_) | (have H2_ := (Option.bind_some _ _).symm.trans H; with_reducible exact H2_) | with_reducible exact H | (rw [hy300]; exact H) | exact H
          have Ny300 := am hy300
          clear hy300
          obtain ⟨y303, hy303⟩ : ∃ y_ : List (S40), y_ = (([(⟨1, strOfNums y300, (⟨#[120]⟩ : ByteArray)⟩ : S40)] : List (S40))) := ⟨_, rfl⟩
          replace H : (if x3_3.length + y303.length < 3518437208883 then (spec_l01Src_l07Keys.l1 k3 (x3_3 ++ y303) (wrap64 (x6_3 + 1)) s0_0 t297 t298 t299) else (none)) = some (r1, r2, r3, r4) := by first | (rw [hy303]; with_reducible exact H) | (have H2_ := (Option.bind_some _ _).symm.trans H; rw [hy303]; with_reducible exact H2_) | (have H2_ := (Option.bind_some _ _).symm.trans H; with_reducible exact H2_) | with_reducible exact H | (rw [hy303]; exact H) | exact H
          have Ny303 := am hy303
          clear hy303
          by_cases c114 : x3_3.length + y303.length < 3518437208883
          ·rw [if_pos c114] at H
           have LMc114 := Aside0.mk c114
           clear c114
           obtain ⟨y306, hy306⟩ : ∃ y_ : List (S40), y_ = (x3_3 ++ y303) := ⟨_, rfl⟩
           replace H : (spec_l01Src_l07Keys.l1 k3 y306 (wrap64 (x6_3 + 1)) s0_0 t297 t298 t299) = some (r1, r2, r3, r4) := by first | (rw [hy306]; with_reducible exact H) | (have H2_ := (Option.bind_some _ _).symm.trans H; rw [hy306]; with_reducible exact H2_) | (have H2_ := (Option.bind_some _ _).symm.trans H; with_reducible exact H2_) | with_reducible exact H | (rw [hy306]; exact H) | exact H
           have Ny306 := am hy306
           clear hy306
           have H' := Aside0.mk H
           clear H
           obtain ⟨Ao115, co115, eo115⟩ := Kd.R_slice HO_3.out
           subst eo115
           go_wp2_with (first | ((with_reducible refine gate_callee (f := 31) rfl ?_); refine gl (some 61) Try.func31 #[.pointer (some ⟨g, 0, none⟩), .int .i64 3] ?_; (with_reducible refine (spec_l01Src_n.calls g s0_0 x1001_3 x1002_3 x1003_3 3 t296 t297 t298 t299 w0 _ ?side1 ?side2 A112.out).mono ?_); (case side1 => repeat (first | (with_reducible first | exact HI0.out | apply IsS63.alloc | apply IsS63.drewN | apply IsS63.drew | apply IsS63.set_1 | apply IsS63.set_2 | apply IsS63.set_3) | exact HI0.out)); (case side2 => repeat (first | (with_reducible first | exact HB.out | apply below_alloc | apply pw_below_drewN | apply below_drew1 | refine below_set ?_ (IsS63.ge HI0.out)) | exact HB.out)); rintro e w116 ⟨rfl, hi, hb, hk⟩; refine ⟨_, rfl, ?_⟩; replace HO_3 := am (Kd.R_mono (Kd.R_keep (IsS63.apart (show IsS63 w0 _ g s0_0 x1001_3 x1002_3 x1003_3 from by repeat (first | (with_reducible first | exact HI0.out | apply IsS63.alloc | apply IsS63.drewN | apply IsS63.drew | apply IsS63.set_1 | apply IsS63.set_2 | apply IsS63.set_3) | exact HI0.out)) (kr HO_3.out) (by decide)) hk (fun _ h => h.2)) (fun _ h => h.1)); replace HK := am (KeepBut.trans (by repeat (first | (with_reducible first | exact HK.out | apply KeepBut.set_ | apply keep_drewN | apply keep_drew | apply keep_alloc) | exact HK.out)) hk (.inl rfl)); replace HB := am (hb); replace HI0 := am (hi); (try clear hb); (try clear hb2); (try clear hk); (try clear hi)) | ((with_reducible refine gate_dst (N := 70) rfl ?_); refine Kd.R_lit (Kd.int .u8) _ 5 ?hg (N := 70) ?hd (xs := ([(wrap64 (33 + x6_3)) % 256] : List Int)) (inner := [.int .u8 ((wrap64 (33 + x6_3)) % 256)]) (ok := fun _ => True) (okp := fun _ => True) ?hr ?hp (fun _ hk => hk) trivial (Below.refl _ _) (Nat.le_refl _) (by simp) ?_; (case hd => rfl); (case hg => rfl); (case hr => first | (go_simp; done) | (go_simp; rfl) | (go_simp; simp (disch := omega) only [Go.u8_and63, Go.u8_or128, Go.u8_or192, Go.u8_or224, Go.u8_or240, Int.emod_emod_of_dvd, Int.reduceDvd]; first | done | rfl)); (case hp => exact (Reps.one (show Kd.M (Kd.int .u8) _ _ _ ((wrap64 (33 + x6_3)) % 256) [.int .u8 ((wrap64 (33 + x6_3)) % 256)] from rfl) (Reps.none _ _))); intro v301 w117 ho118 hb hg_ hnew_; clear hg_ hnew_; (first | rw [← Ny300.out] at ho118 | (simp only [Int.reduceToNat] at ho118; rw [← Ny300.out] at ho118)); replace HO_3 := am (Kd.R_below (kr HO_3.out) hb); have HO302 := am (Kd.R_lower ho118 (keep_size (w := w) (g := g) (row := none) (by repeat (first | (with_reducible first | exact HK.out | apply KeepBut.set_ | apply keep_drewN | apply keep_drew | apply keep_alloc) | exact HK.out)))); replace HK := am (KeepBut.trans (by repeat (first | (with_reducible first | exact HK.out | apply KeepBut.set_ | apply keep_drewN | apply keep_drew | apply keep_alloc) | exact HK.out)) (KeepBut.of_below hb g none) (.inl rfl)); replace HB := am (below_step (by repeat (first | (with_reducible first | exact HB.out | apply below_alloc | apply pw_below_drewN | apply below_drew1 | refine below_set ?_ (IsS63.ge HI0.out)) | exact HB.out)) hb); replace HI0 := am (IsS63.below (by repeat (first | (with_reducible first | exact HI0.out | apply IsS63.alloc | apply IsS63.drewN | apply IsS63.drew | apply IsS63.set_1 | apply IsS63.set_2 | apply IsS63.set_3) | exact HI0.out)) hb); clear hb ho118; have hcv119 := own_string (P := Try.prog) Try.underlying30 Try.underlying5 Try.underlying9 (Kd.own_of_R HO302.out)) | ((with_reducible refine gate_dst (N := 73) rfl ?_); refine Kd.R_lit k40 _ 40 ?hg (N := 73) ?hd (xs := ([(⟨1, strOfNums y300, (⟨#[120]⟩ : ByteArray)⟩ : S40)] : List (S40))) (inner := [.int .i64 1, .string (strOfNums y300), .string (⟨#[120]⟩ : ByteArray)]) (ok := fun _ => True) (okp := fun _ => True) ?hr ?hp (fun _ hk => hk) trivial (Below.refl _ _) (Nat.le_refl _) (by simp) ?_; (case hd => rfl); (case hg => rfl); (case hr => first | (go_simp; done) | (go_simp; rfl) | (go_simp; simp (disch := omega) only [Go.u8_and63, Go.u8_or128, Go.u8_or192, Go.u8_or224, Go.u8_or240, Int.emod_emod_of_dvd, Int.reduceDvd]; first | done | rfl)); (case hp => exact (Reps.c3 (show Kd.M k40 _ _ _ (⟨1, strOfNums y300, (⟨#[120]⟩ : ByteArray)⟩ : S40) [.int .i64 1, .string (strOfNums y300), .string (⟨#[120]⟩ : ByteArray)] from (k40_mkM _ _ _ (⟨1, strOfNums y300, (⟨#[120]⟩ : ByteArray)⟩ : S40) )) (Reps.none _ _))); intro v304 w120 ho121 hb hg_ hnew_; clear hg_ hnew_; (first | rw [← Ny303.out] at ho121 | (simp only [Int.reduceToNat] at ho121; rw [← Ny303.out] at ho121)); replace HO302 := am (Kd.R_below (kr HO302.out) hb); have HO305 := am (Kd.R_lower (Kd.R_new' ho121 (Kd.R_lt (kr HO_3.out))) (keep_size (w := w) (g := g) (row := none) (by repeat (first | (with_reducible first | exact HK.out | apply KeepBut.set_ | apply keep_drewN | apply keep_drew | apply keep_alloc) | exact HK.out)))); replace HO_3 := am (Kd.R_elder' (kr HO_3.out) (Kd.R_base ho121) hb); replace HK := am (KeepBut.trans (by repeat (first | (with_reducible first | exact HK.out | apply KeepBut.set_ | apply keep_drewN | apply keep_drew | apply keep_alloc) | exact HK.out)) (KeepBut.of_below hb g none) (.inl rfl)); replace HB := am (below_step (by repeat (first | (with_reducible first | exact HB.out | apply below_alloc | apply pw_below_drewN | apply below_drew1 | refine below_set ?_ (IsS63.ge HI0.out)) | exact HB.out)) hb); replace HI0 := am (IsS63.below (by repeat (first | (with_reducible first | exact HI0.out | apply IsS63.alloc | apply IsS63.drewN | apply IsS63.drew | apply IsS63.set_1 | apply IsS63.set_2 | apply IsS63.set_3) | exact HI0.out)) hb); clear hb ho121; obtain ⟨Ao123, co123, eo123⟩ := Kd.R_slice HO305.out; subst eo123) | ((with_reducible refine gate_builtin (b := .append) (xs := #[.tmp 66, .tmp 73]) rfl ?_); at_builtin; refine Kd.R_append_rows k40 w.heap.size rfl (.tmp 66) (.tmp 73) 24 40 (.agg #[(.int .i64 0), (.string ⟨#[]⟩), (.string ⟨#[]⟩)]) 40 rfl Try.underlying24 info40 rfl (by decide) (by omega) (.slice Ao115 x3_3.length co115) x3_3 y303 _ _ _ (fun k_ => some k_ ≠ (.slice Ao123 y303.length co123 : Value).ownBlock) (fun _ => False) rfl rfl ?aO ?aR (fun _ _ h => h) (fun _ h => h.elim) ?aF (Below.refl _ _) ?aS ?aL ?_; (case aR => repeat (first | exact (Kd.R_reads' HO305.out).2.2 | (with_reducible refine Kd.C_alloc ?_ _) | (with_reducible refine Kd.C_drewN ?_ _) | (with_reducible refine Kd.C_drew ?_))); (case aF => exact (fun k_ hk => Kd.fresh' (Kd.R_lt (kr HO305.out)) k_ hk)); (case aO => exact (kr (Kd.R_mono HO_3.out (fun _ hk => hk.2)))); (case aS => exact (keep_size (w := w) (g := g) (row := none) (by repeat (first | (with_reducible first | exact HK.out | apply KeepBut.set_ | apply keep_drewN | apply keep_drew | apply keep_alloc) | exact HK.out)))); (case aL => have := LMc114.out; omega); intro v307 w122 ho hb hg hat; rw [← Ny306.out] at ho; replace HO302 := am (Kd.R_over' (kr HO302.out) (Kd.R_typed (kr HO_3.out)) (by decide) hg); replace HO305 := am (Kd.R_after (ok := (fun _ => True)) (kr HO305.out) hg hat); replace HB := am (below_weaken (by repeat (first | (with_reducible first | exact HB.out | apply below_alloc | apply pw_below_drewN | apply below_drew1 | refine below_set ?_ (IsS63.ge HI0.out)) | exact HB.out)) HL.out hb); replace HI0 := am (IsS63.grown (by repeat (first | (with_reducible first | exact HI0.out | apply IsS63.alloc | apply IsS63.drewN | apply IsS63.drew | apply IsS63.set_1 | apply IsS63.set_2 | apply IsS63.set_3) | exact HI0.out)) hg (IsS63.own_ne HI0.out HO_3.out (by decide))); replace HK := am (KeepBut.trans (by repeat (first | (with_reducible first | exact HK.out | apply KeepBut.set_ | apply keep_drewN | apply keep_drew | apply keep_alloc) | exact HK.out)) (KeepBut.of_grown hg g) (Kd.R_base2 HO_3.out)); have HO308 := am (ho); clear HO_3; clear ho hb hg hat))
           go_roundg k3
           case measure => have := HK1.out; have := HJ13.out; have := HK3.out; omega
           case rel => exact ⟨(y306), (wrap64 (x6_3 + 1)), (t297), (t298), (t299), (by first | rfl | (simp; done) | (simp [*]; done)), H', ⟨by have := HK1.out; have := HJ13.out; have := HK3.out; omega⟩, ⟨kr (Kd.R_mono HO308.out (fun _ hk => trivial))⟩, ⟨by repeat (first | (with_reducible first | exact HI0.out | apply IsS63.alloc | apply IsS63.drewN | apply IsS63.drew | apply IsS63.set_1 | apply IsS63.set_2 | apply IsS63.set_3) | exact HI0.out)⟩, ⟨by repeat (first | (with_reducible first | exact HK.out | apply KeepBut.set_ | apply keep_drewN | apply keep_drew | apply keep_alloc) | exact HK.out)⟩, ⟨by repeat (first | (with_reducible first | exact HB.out | apply below_alloc | apply pw_below_drewN | apply below_drew1 | refine below_set ?_ (IsS63.ge HI0.out)) | exact HB.out)⟩⟩
          ·rw [if_neg c114] at H
           exact absurd H (by simp)
         ·rw [if_neg c113] at H
          have c113b0 : decide ((x3_3.length : Int) < (wrap64 (59 + t296))) = false := decide_eq_false c113
          clear c113
          simp only [Option.some.injEq, Prod.mk.injEq] at H
          obtain ⟨rfl, rfl, rfl, rfl⟩ := H
          obtain ⟨Ao124, co124, eo124⟩ := Kd.R_slice HO_3.out
          subst eo124
          go_wp2_with (first | ((with_reducible refine gate_callee (f := 31) rfl ?_); refine gl (some 61) Try.func31 #[.pointer (some ⟨g, 0, none⟩), .int .i64 3] ?_; (with_reducible refine (spec_l01Src_n.calls g s0_0 x1001_3 x1002_3 x1003_3 3 t296 t297 t298 t299 w0 _ ?side1 ?side2 A112.out).mono ?_); (case side1 => repeat (first | (with_reducible first | exact HI0.out | apply IsS63.alloc | apply IsS63.drewN | apply IsS63.drew | apply IsS63.set_1 | apply IsS63.set_2 | apply IsS63.set_3) | exact HI0.out)); (case side2 => repeat (first | (with_reducible first | exact HB.out | apply below_alloc | apply pw_below_drewN | apply below_drew1 | refine below_set ?_ (IsS63.ge HI0.out)) | exact HB.out)); rintro e w125 ⟨rfl, hi, hb, hk⟩; refine ⟨_, rfl, ?_⟩; replace HO_3 := am (Kd.R_mono (Kd.R_keep (IsS63.apart (show IsS63 w0 _ g s0_0 x1001_3 x1002_3 x1003_3 from by repeat (first | (with_reducible first | exact HI0.out | apply IsS63.alloc | apply IsS63.drewN | apply IsS63.drew | apply IsS63.set_1 | apply IsS63.set_2 | apply IsS63.set_3) | exact HI0.out)) (kr HO_3.out) (by decide)) hk (fun _ h => h.2)) (fun _ h => h.1)); replace HK := am (KeepBut.trans (by repeat (first | (with_reducible first | exact HK.out | apply KeepBut.set_ | apply keep_drewN | apply keep_drew | apply keep_alloc) | exact HK.out)) hk (.inl rfl)); replace HB := am (hb); replace HI0 := am (hi); (try clear hb); (try clear hb2); (try clear hk); (try clear hi)))
          go_ret
          exact ⟨_, by first | rfl | (simp [errW_none, errW_some] <;> rfl) | (simp [*, errW_none, errW_some] <;> rfl), kr HO_3.out, by repeat (first | (with_reducible first | exact HI0.out | apply IsS63.alloc | apply IsS63.drewN | apply IsS63.drew | apply IsS63.set_1 | apply IsS63.set_2 | apply IsS63.set_3) | exact HI0.out), by repeat (first | (with_reducible first | exact HB.out | apply below_alloc | apply pw_below_drewN | apply below_drew1 | refine below_set ?_ (IsS63.ge HI0.out)) | exact HB.out), by repeat (first | (with_reducible first | exact HK.out | apply KeepBut.set_ | apply keep_drewN | apply keep_drew | apply keep_alloc) | exact HK.out)⟩
      ·replace c108 := Bool.eq_false_iff.mpr c108
       subst c108
       have H1 : (some (x3_13, t290, t291, t292)) = some (r1, r2, r3, r4) := by rw [if_neg (show ¬ (false = true) by decide)] at H; exact H
       clear H
       have H := H1
       clear H1
       simp only [Option.some.injEq, Prod.mk.injEq] at H
       obtain ⟨rfl, rfl, rfl, rfl⟩ := H
       go_wp2_with (first | ((with_reducible refine gate_callee (f := 32) rfl ?_); refine gl (some 56) Try.func32 #[.pointer (some ⟨g, 0, none⟩), .int .i64 40] ?_; (with_reducible refine (spec_l01Src_one.calls g s0_0 x1001_13 x1002_13 x1003_13 40 false t290 t291 t292 w0 _ ?side1 ?side2 A107.out).mono ?_); (case side1 => repeat (first | (with_reducible first | exact HI0.out | apply IsS63.alloc | apply IsS63.drewN | apply IsS63.drew | apply IsS63.set_1 | apply IsS63.set_2 | apply IsS63.set_3) | exact HI0.out)); (case side2 => repeat (first | (with_reducible first | exact HB.out | apply below_alloc | apply pw_below_drewN | apply below_drew1 | refine below_set ?_ (IsS63.ge HI0.out)) | exact HB.out)); rintro e w126 ⟨rfl, hi, hb, hk⟩; refine ⟨_, rfl, ?_⟩; replace HO_3 := am (Kd.R_mono (Kd.R_keep (IsS63.apart (show IsS63 w0 _ g s0_0 x1001_13 x1002_13 x1003_13 from by repeat (first | (with_reducible first | exact HI0.out | apply IsS63.alloc | apply IsS63.drewN | apply IsS63.drew | apply IsS63.set_1 | apply IsS63.set_2 | apply IsS63.set_3) | exact HI0.out)) (kr HO_3.out) (by decide)) hk (fun _ h => h.2)) (fun _ h => h.1)); replace HK := am (KeepBut.trans (by repeat (first | (with_reducible first | exact HK.out | apply KeepBut.set_ | apply keep_drewN | apply keep_drew | apply keep_alloc) | exact HK.out)) hk (.inl rfl)); replace HB := am (hb); replace HI0 := am (hi); (try clear hb); (try clear hb2); (try clear hk); (try clear hi)))
       go_ret
       exact ⟨_, by first | rfl | (simp [errW_none, errW_some] <;> rfl) | (simp [*, errW_none, errW_some] <;> rfl), kr HO_3.out, by repeat (first | (with_reducible first | exact HI0.out | apply IsS63.alloc | apply IsS63.drewN | apply IsS63.drew | apply IsS63.set_1 | apply IsS63.set_2 | apply IsS63.set_3) | exact HI0.out), by repeat (first | (with_reducible first | exact HB.out | apply below_alloc | apply pw_below_drewN | apply below_drew1 | refine below_set ?_ (IsS63.ge HI0.out)) | exact HB.out), by repeat (first | (with_reducible first | exact HK.out | apply KeepBut.set_ | apply keep_drewN | apply keep_drew | apply keep_alloc) | exact HK.out)⟩

end Go.Proofs.Ytnhmoacjmieggaa.PFnKeys
