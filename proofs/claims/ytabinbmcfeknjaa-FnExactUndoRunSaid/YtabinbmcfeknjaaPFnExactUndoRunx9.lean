-- Written by xprint.py (this claim's own program, over the kit's printer); Lean checks it.
import Derived.Test.YtabinbmcfeknjaaPFnExactUndoRunx0
import Derived.Test.YtabinbmcfeknjaaPFnExactUndoRunx5
import Derived.Test.YtabinbmcfeknjaaPFnExactUndoRunx6
import Derived.Test.YtabinbmcfeknjaaPFnExactUndoRunx7
import Derived.Test.YtabinbmcfeknjaaPFnExactUndoRunx8
namespace Go.Proofs.Ytabinbmcfeknjaa.PFnExactUndoRun
open Go.RowKit Go.Proofs.YtabinbmcfeknjaaW.PrintWords Go.Proofs.YtabinbmcfeknjaaW.PrintLast Go.Proofs.YtabinbmcfeknjaaW.PrintMore
attribute [local go_sem] max2_int min2_int max_two min_two max_three min_three max_four min_four   -- for this text's walks alone
set_option linter.unusedVariables false
set_option linter.unusedSimpArgs false   -- squeezed

/-! ### impl_replace: function 32 -/
/-- What is put in where the cursor is. -/
def impl_replace.f (k : Nat) (l0_0 : List Int) (a0_1 : Int) (a0_2 : Int) (a1 : Int) (a2 : Int) (l3 : List Int) : Option (List Int × Int × Int × List Int × Int) := if a1 = a0_1 ∧ a1 = a2 ∧ 0 ≤ a1 ∧ a1 ≤ (l0_0.length : Int) then (if (wrap64 ((l0_0.length : Int) + (wrap64 ((l3.length : Int) - (wrap64 (a2 - a1)))))) > 300 then some ([], 0, 0, [], 5) else (slices_Concat_sint64_int64.f k [l0_0.take a1.toNat, l3, l0_0.drop a2.toNat]).bind fun c => (impl_replace_1.f a0_1 a1 a2 (wrap64 ((l3.length : Int) - (wrap64 (a2 - a1))))).bind fun m1 => (impl_replace_1.f a0_2 a1 a2 (wrap64 ((l3.length : Int) - (wrap64 (a2 - a1))))).bind fun m2 => (slices_Clone_sint64_int64.f ((l0_0.take a2.toNat).drop a1.toNat)).bind fun g => some (c, wrap64 (a1 + (l3.length : Int)), m2, g, 0)) else none
section
variable {P : Program} {ops : Array Oper} {o : Oper} {a : Act} {Q : Exit → Act → World → Prop} {Kc : Act → World → Prop}
theorem lit_step {W : World} (hw : Region.wanted o (yielded ops a.tmps) = true) {n : Nat} {cs : Array Value} {t : TypeId}
    (hrun : (execOp a.eval o).run P W = .ok (.value (.slice (some ⟨W.heap.size, 0, none⟩) n n)) (W.alloc (.cells cs t (0, 0))))
    (h : ∀ g, g = W.heap.size → ∀ w1, w1.heap[g]? = some (.cells cs t (0, 0)) → Below W.heap.size W w1 → Kc (a.put o.dst (.slice (some ⟨g, 0, none⟩) n n)) w1) : if Region.wanted o (yielded ops a.tmps) = true then Oper.wp P o a W Kc Q else Kc (a.put o.dst undef) W :=
  event_step hw hrun (h _ rfl _ (blk_new W _) (below_alloc (Below.refl _ _) _))
end
theorem C_three {w : World} {g e t c0 c1 c2 : Nat} {A0 A1 A2 : Option Addr} {l0 l1 l2 : List Int} (h : w.heap[g]? = some (.cells #[.slice A0 l0.length c0, .slice A1 l1.length c1, .slice A2 l2.length c2] t (0, 0))) (h0 : Kd.C (Kd.int .i64) w A0 l0.length l0) (k0 : l0.length ≤ c0) (h1 : Kd.C (Kd.int .i64) w A1 l1.length l1) (k1 : l1.length ≤ c1) (h2 : Kd.C (Kd.int .i64) w A2 l2.length l2) (k2 : l2.length ≤ c2) :
    Kd.C (Kd.slice e (Kd.int .i64)) w (some ⟨g, 0, none⟩) [l0, l1, l2].length [l0, l1, l2] := by
  refine ⟨rfl, (show 3 ≤ 9223372036854775807 by decide), fun _ => ⟨_, rfl, fun j p hj => ?_⟩⟩
  have fin : ∀ (j : Nat) (A : Option Addr) (l : List Int) (c : Nat), w.cell? ⟨g, j, none⟩ = some (.slice A l.length c) → Kd.C (Kd.int .i64) w A l.length l → l.length ≤ c → ∃ cs, cs.length = 1 ∧ (Kd.slice e (Kd.int .i64)).K w l cs ∧ ∀ i u, cs[i]? = some u → w.cell? ((⟨g, 0, none⟩ : Addr).add (j * 1 + i)) = some u := by
    intro j A l c hc hC hl
    refine ⟨[.slice A l.length c], rfl, ⟨A, c, rfl, hl, hC⟩, fun i u hu => ?_⟩
    cases i with
    | zero =>
      obtain rfl : Value.slice A l.length c = u := by simpa using hu
      cases j with
      | zero => exact hc
      | succ j => rw [show (⟨g, 0, none⟩ : Addr).add ((j + 1) * 1 + 0) = ⟨g, j + 1, none⟩ by simp [Addr.add]]; exact hc
    | succ i => simp at hu
  match j, hj with
  | 0, hj => obtain rfl : l0 = p := by simpa using hj
             exact fin 0 A0 l0 c0 (bc h 0) h0 k0
  | 1, hj => obtain rfl : l1 = p := by simpa using hj
             exact fin 1 A1 l1 c1 (bc h 1) h1 k1
  | 2, hj => obtain rfl : l2 = p := by simpa using hj
             exact fin 2 A2 l2 c2 (bc h 2) h2 k2
  | j + 3, hj => simp at hj
def ir1.T : Bool × List (List Nat × List Nat) := (true, [([], []), ([0], [0]), ([1], [1]), ([2], [2]), ([2], [2]), ([3, 4, 2], [2, 3, 4]), ([2, 5], [2, 5]), ([6, 2], [6]), ([7], [7]), ([7], [7]), ([9, 7], [7, 9]), ([10, 7, 7], [7, 10]), ([8, 11, 7], [7, 8, 11]), ([7, 12], [7, 12])])
def ir1.B : List Nat := [0, 1, 3, 7, 7, 31, 63, 127, 255, 255, 767, 1791, 4095, 8191]
theorem ir1.tab : rtab .any (opsOf Try.f32 1) = ir1.T := by kernel_rfl
theorem ir1.bits : waitsOk ir1.T.2 ir1.B = true := by kernel_rfl
@[reducible] def ir1.a0 : Array Bool := (br true [0, 14]).toArray
@[reducible] def ir1.a1 : Array Bool := (br true [1, 13]).toArray
@[reducible] def ir1.a2 : Array Bool := (br true [2, 12]).toArray
@[reducible] def ir1.a3 : Array Bool := (br true [3, 11]).toArray
@[reducible] def ir1.a4 : Array Bool := (br true [4, 10]).toArray
@[reducible] def ir1.a5 : Array Bool := (br true [5, 9]).toArray
@[reducible] def ir1.a6 : Array Bool := (br true [6, 8]).toArray
@[reducible] def ir1.a7 : Array Bool := (br true [7, 7]).toArray
@[reducible] def ir1.a8 : Array Bool := (br true [8, 6]).toArray
@[reducible] def ir1.a9 : Array Bool := (br true [9, 5]).toArray
@[reducible] def ir1.a10 : Array Bool := (br true [10, 4]).toArray
@[reducible] def ir1.a11 : Array Bool := (br true [11, 3]).toArray
@[reducible] def ir1.a12 : Array Bool := (br true [12, 2]).toArray
@[reducible] def ir1.a13 : Array Bool := (br true [13, 1]).toArray
@[reducible] def ir1.a14 : Array Bool := (br true [14]).toArray
def ir3.T : Bool × List (List Nat × List Nat) := (true, [([], []), ([0], [0]), ([], []), ([], []), ([2, 3], [2, 3]), ([1, 4], [1, 4]), ([], []), ([6, 5, 1, 0, 1, 2, 3, 4, 5, 6], [5, 6])])
def ir3.B : List Nat := [0, 1, 0, 0, 12, 31, 0, 127]
theorem ir3.tab : rtab .any (opsOf Try.f32 3) = ir3.T := by kernel_rfl
theorem ir3.bits : waitsOk ir3.T.2 ir3.B = true := by kernel_rfl
@[reducible] def ir3.a0 : Array Bool := (br true [0, 8]).toArray
@[reducible] def ir3.a1 : Array Bool := (br true [1, 7]).toArray
@[reducible] def ir3.a2 : Array Bool := (br true [1, 1, 1, 5]).toArray
@[reducible] def ir3.a3 : Array Bool := (br true [1, 1, 2, 4]).toArray
@[reducible] def ir3.a4 : Array Bool := (br true [1, 1, 3, 3]).toArray
@[reducible] def ir3.a5 : Array Bool := (br true [5, 3]).toArray
@[reducible] def ir3.a6 : Array Bool := (br true [1, 1, 3, 1, 1, 1]).toArray
@[reducible] def ir3.a7 : Array Bool := (br true [6, 2]).toArray
@[reducible] def ir3.a8 : Array Bool := (br true [7, 1]).toArray
@[reducible] def ir3.a9 : Array Bool := (br true [5, 1, 1, 1]).toArray
@[reducible] def ir3.a10 : Array Bool := (br true [8]).toArray
def ir4.T : Bool × List (List Nat × List Nat) := (true, [([], []), ([0], [0]), ([1], [1]), ([], []), ([2, 3], [2, 3]), ([4], [4])])
def ir4.B : List Nat := [0, 1, 3, 0, 15, 31]
theorem ir4.tab : rtab .any (opsOf Try.f32 4) = ir4.T := by kernel_rfl
theorem ir4.bits : waitsOk ir4.T.2 ir4.B = true := by kernel_rfl
@[reducible] def ir4.a0 : Array Bool := (br true [0, 6]).toArray
@[reducible] def ir4.a1 : Array Bool := (br true [1, 5]).toArray
@[reducible] def ir4.a2 : Array Bool := (br true [2, 4]).toArray
@[reducible] def ir4.a3 : Array Bool := (br true [2, 1, 1, 2]).toArray
@[reducible] def ir4.a4 : Array Bool := (br true [4, 2]).toArray
@[reducible] def ir4.a5 : Array Bool := (br true [5, 1]).toArray
@[reducible] def ir4.a6 : Array Bool := (br true [6]).toArray
def ir7.T : Bool × List (List Nat × List Nat) := (true, [([], []), ([0], [0]), ([], []), ([1, 2], [1, 2]), ([], []), ([], []), ([5], [5]), ([], []), ([6, 7], [6, 7]), ([3, 4, 8], [3, 4, 8]), ([9], [9]), ([], []), ([], []), ([12], [12]), ([11, 13, 10], [11, 13]), ([], []), ([], []), ([16], [16]), ([15, 17, 14], [15, 17]), ([10, 14, 18], [10, 14, 18]), ([], []), ([20, 19, 18, 0, 1, 2, 3, 4, 5, 6, 7, 8, 9, 10, 11, 12, 13, 14, 15, 16, 17, 18, 19, 20], [19, 20])])
def ir7.B : List Nat := [0, 1, 0, 7, 0, 0, 32, 0, 224, 511, 1023, 0, 0, 4096, 16383, 0, 0, 65536, 262143, 524287, 0, 2097151]
theorem ir7.tab : rtab .any (opsOf Try.f32 7) = ir7.T := by kernel_rfl
theorem ir7.bits : waitsOk ir7.T.2 ir7.B = true := by kernel_rfl
@[reducible] def ir7.a0 : Array Bool := (br true [0, 22]).toArray
@[reducible] def ir7.a1 : Array Bool := (br true [1, 21]).toArray
@[reducible] def ir7.a2 : Array Bool := (br true [1, 3, 1, 17]).toArray
@[reducible] def ir7.a3 : Array Bool := (br true [1, 3, 2, 16]).toArray
@[reducible] def ir7.a4 : Array Bool := (br true [1, 3, 2, 5, 1, 10]).toArray
@[reducible] def ir7.a5 : Array Bool := (br true [1, 3, 2, 5, 2, 9]).toArray
@[reducible] def ir7.a6 : Array Bool := (br true [1, 3, 2, 5, 2, 2, 1, 6]).toArray
@[reducible] def ir7.a7 : Array Bool := (br true [1, 3, 2, 5, 2, 2, 2, 5]).toArray
@[reducible] def ir7.a8 : Array Bool := (br true [2, 2, 2, 5, 2, 2, 2, 5]).toArray
@[reducible] def ir7.a9 : Array Bool := (br true [3, 1, 2, 5, 2, 2, 2, 5]).toArray
@[reducible] def ir7.a10 : Array Bool := (br true [3, 1, 3, 4, 2, 2, 2, 5]).toArray
@[reducible] def ir7.a11 : Array Bool := (br true [3, 1, 4, 3, 2, 2, 2, 5]).toArray
@[reducible] def ir7.a12 : Array Bool := (br true [3, 1, 4, 3, 3, 1, 2, 5]).toArray
@[reducible] def ir7.a13 : Array Bool := (br true [3, 1, 4, 3, 3, 1, 3, 4]).toArray
@[reducible] def ir7.a14 : Array Bool := (br true [8, 3, 3, 1, 3, 4]).toArray
@[reducible] def ir7.a15 : Array Bool := (br true [9, 2, 3, 1, 3, 4]).toArray
@[reducible] def ir7.a16 : Array Bool := (br true [10, 1, 3, 1, 3, 4]).toArray
@[reducible] def ir7.a17 : Array Bool := (br true [9, 2, 3, 1, 3, 2, 1, 1]).toArray
@[reducible] def ir7.a18 : Array Bool := (br true [14, 1, 3, 4]).toArray
@[reducible] def ir7.a19 : Array Bool := (br true [10, 1, 3, 1, 3, 2, 1, 1]).toArray
@[reducible] def ir7.a20 : Array Bool := (br true [18, 4]).toArray
@[reducible] def ir7.a21 : Array Bool := (br true [14, 1, 3, 2, 1, 1]).toArray
@[reducible] def ir7.a22 : Array Bool := (br true [19, 3]).toArray
@[reducible] def ir7.a23 : Array Bool := (br true [18, 2, 1, 1]).toArray
@[reducible] def ir7.a24 : Array Bool := (br true [20, 2]).toArray
@[reducible] def ir7.a25 : Array Bool := (br true [21, 1]).toArray
@[reducible] def ir7.a26 : Array Bool := (br true [19, 1, 1, 1]).toArray
@[reducible] def ir7.a27 : Array Bool := (br true [22]).toArray
def ir9.T : Bool × List (List Nat × List Nat) := (true, [([], []), ([], []), ([1], [1]), ([0, 2], [0, 2]), ([0, 1, 2, 3], []), ([4, 3, 2, 0, 1, 2, 3], [3, 4])])
def ir9.B : List Nat := [0, 0, 2, 7, 15, 31]
theorem ir9.tab : rtab .any (opsOf Try.f32 9) = ir9.T := by kernel_rfl
theorem ir9.bits : waitsOk ir9.T.2 ir9.B = true := by kernel_rfl
@[reducible] def ir9.a0 : Array Bool := (br true [0, 6]).toArray
@[reducible] def ir9.a1 : Array Bool := (br true [1, 5]).toArray
@[reducible] def ir9.a2 : Array Bool := (br true [2, 4]).toArray
@[reducible] def ir9.a3 : Array Bool := (br true [3, 3]).toArray
@[reducible] def ir9.a4 : Array Bool := (br true [4, 2]).toArray
@[reducible] def ir9.a5 : Array Bool := (br true [5, 1]).toArray
@[reducible] def ir9.a6 : Array Bool := (br true [6]).toArray
def ir10.T : Bool × List (List Nat × List Nat) := (true, [([], []), ([], []), ([1], [1]), ([], []), ([], []), ([2, 3, 4], [2, 3, 4]), ([5], [5]), ([0, 6], [0, 6]), ([7, 6, 0, 1, 2, 3, 4, 5, 6, 7], [7])])
def ir10.B : List Nat := [0, 0, 2, 0, 0, 30, 62, 127, 255]
theorem ir10.tab : rtab .any (opsOf Try.f32 10) = ir10.T := by kernel_rfl
theorem ir10.bits : waitsOk ir10.T.2 ir10.B = true := by kernel_rfl
@[reducible] def ir10.a0 : Array Bool := (br true [0, 9]).toArray
@[reducible] def ir10.a1 : Array Bool := (br true [0, 1, 1, 7]).toArray
@[reducible] def ir10.a2 : Array Bool := (br true [2, 7]).toArray
@[reducible] def ir10.a3 : Array Bool := (br true [3, 6]).toArray
@[reducible] def ir10.a4 : Array Bool := (br true [4, 5]).toArray
@[reducible] def ir10.a5 : Array Bool := (br true [5, 4]).toArray
@[reducible] def ir10.a6 : Array Bool := (br true [6, 3]).toArray
@[reducible] def ir10.a7 : Array Bool := (br true [7, 2]).toArray
@[reducible] def ir10.a8 : Array Bool := (br true [8, 1]).toArray
@[reducible] def ir10.a9 : Array Bool := (br true [9]).toArray
set_option maxHeartbeats 8000000 in
set_option maxRecDepth 100000 in
theorem impl_replace.callsL (k : Nat) (A0_0 : Option Addr) (c0_0 : Nat) (l0_0 : List Int) (a0_1 : Int) (a0_2 : Int) (a1 : Int) (a2 : Int) (A3 : Option Addr) (c3 : Nat) (l3 : List Int) (r1 : List Int) (r2 : Int) (r3 : Int) (r4 : List Int) (r5 : Int) (w : World) (hr0 : Kd.C (Kd.int .i64) w A0_0 l0_0.length l0_0) (hc0 : l0_0.length ≤ c0_0) (hr3 : Kd.C (Kd.int .i64) w A3 l3.length l3) (hc3 : l3.length ≤ c3) (h : impl_replace.f k l0_0 a0_1 a0_2 a1 a2 l3 = some (r1, r2, r3, r4, r5)) :
 Calls Try.prog 32 #[.agg #[.slice A0_0 l0_0.length c0_0, .int .i64 a0_1, .int .i64 a0_2], .int .i64 a1, .int .i64 a2, .slice A3 l3.length c3] w fun e w' => ∃ v0_ v3_ : Value, e = .returned (.agg #[v0_, .int .i64 r2, .int .i64 r3, v3_, .int .i64 r5]) ∧ Lw w [.R (Kd.int .i64) 2 v0_ r1, .R (Kd.int .i64) 2 v3_ r4] w' := by
 have hu31 := Try.underlying31
 have hu49 := Try.underlying49
 have HR0 := am hr0
 have HC0 := am hc0
 have HR3 := am hr3
 have HC3 := am hc3
 clear hr0 hc0 hr3 hc3
 have HL := am (Lw.nil w)
 have H := h
 clear h
 unfold impl_replace.f at H
 by_cases hc : a1 = a0_1 ∧ a1 = a2 ∧ 0 ≤ a1 ∧ a1 ≤ (l0_0.length : Int)
 rotate_left
 · rw [if_neg hc] at H; cases H
 rw [if_pos hc] at H
 obtain ⟨hc1, hc2, q0, q1⟩ := hc
 have d1 : decide (a1 < 0) = false := decide_eq_false (by omega)
 have d2 : decide (a1 > a2) = false := decide_eq_false (by omega)
 have d3 : decide (a2 > (l0_0.length : Int)) = false := decide_eq_false (by omega)
 have e1 : (a1 == a2) = true := beq_iff_eq.mpr hc2
 have e2 : (a0_1 == a1) = true := beq_iff_eq.mpr hc1.symm
 have q2 : 0 ≤ a2 := by omega
 have q3 : a2 ≤ (l0_0.length : Int) := by omega
 have q4 : a1 ≤ a2 := by omega
 clear hc1 hc2
 go_enter Try.func32, Try.ntmps32
 go_wp2_with (first | ((with_reducible refine gate_dst (N := 4) rfl ?_); refine box_event ?hg (N := 4) ?hd (cs := #[.slice A0_0 l0_0.length c0_0, .int .i64 a0_1, .int .i64 a0_2]) (t := 31) ?hr ?_; (case hd => rfl); (case hg => rfl); (case hr => first | (go_simp; done) | (go_simp; rfl)); intro B4 hg w1 hbox hb; replace HL := am (HL.out.addBox hg hbox hb); clear hb hbox hg) | ((with_reducible refine gate_dst (N := 5) rfl ?_); refine box_event ?hg (N := 5) ?hd (cs := #[.int .i64 a1]) (t := 2) ?hr ?_; (case hd => rfl); (case hg => rfl); (case hr => first | (go_simp; done) | (go_simp; rfl)); intro B5 hg w2 hbox hb; replace HL := am (HL.out.addBox hg hbox hb); clear hb hbox hg) | ((with_reducible refine gate_dst (N := 6) rfl ?_); refine box_event ?hg (N := 6) ?hd (cs := #[.int .i64 a2]) (t := 2) ?hr ?_; (case hd => rfl); (case hg => rfl); (case hr => first | (go_simp; done) | (go_simp; rfl)); intro B6 hg w3 hbox hb; replace HL := am (HL.out.addBox hg hbox hb); clear hb hbox hg) | ((with_reducible refine gate_dst (N := 8) rfl ?_); refine box_event ?hg (N := 8) ?hd (cs := #[.slice none 0 0, .int .i64 0, .int .i64 0, .slice none 0 0, .int .i64 0]) (t := 49) ?hr ?_; (case hd => rfl); (case hg => rfl); (case hr => first | (go_simp; done) | (go_simp; rfl)); intro B8 hg w4 hbox hb; replace HL := am (HL.out.addBox hg hbox hb); clear hb hbox hg))
 replace HL := am HL.out.drew
 refine start_ (n := 14) (S := fun w' => w'.cell? ⟨B4, 0, none⟩ = some (.slice A0_0 l0_0.length c0_0) ∧ w'.cell? ⟨B5, 0, none⟩ = some (.int .i64 a1) ∧ w'.cell? ⟨B6, 0, none⟩ = some (.int .i64 a2)) (ds := []) ir1.a0 (by kernel_rfl) rfl rfl ⟨bc (HL.out.bx 3) 0, bc (HL.out.bx 2) 0, bc (HL.out.bx 1) 0⟩ (fun hHeld => ?_); refine with_tabW ir1.tab ir1.bits (fun HT_ HW_ => ?_)
 generalize w4.drew = w5 at HL hHeld ⊢
 refine tk_ 0 (some 12) ?_ ir1.a1 rfl rfl HT_.out HW_.out (by kernel_rfl) (fun _ _ _ h => h) (Or.inl ⟨by rfl, ?_⟩) hHeld ?_ ?_ ?_; rotate_left
 ·rintro w' ⟨s0, s1, s2⟩; go_simp; with_reducible rfl
 rotate_left
 ·simp only [Act.put, sa_, s0_, ss_, i64_w, i32_w]; rfl
 refine pu_ 1 (some 13) ?_ ir1.a2 rfl rfl HT_.out (by kernel_rfl) (fun _ _ _ h => h) (Or.inl ⟨by rfl, ?_⟩) ?_ ?_ ?_; rotate_left
 ·intro w'; go_simp; with_reducible rfl
 rotate_left
 ·simp only [Act.put, sa_, s0_, ss_, i64_w, i32_w]; rfl
 refine pu_ 2 (some 14) ?_ ir1.a3 rfl rfl HT_.out (by kernel_rfl) (fun _ _ _ h => h) (Or.inl ⟨by rfl, ?_⟩) ?_ ?_ ?_; rotate_left
 ·intro w'; go_simp; with_reducible rfl
 rotate_left
 ·simp only [Act.put, sa_, s0_, ss_, i64_w, i32_w]; rfl
 refine tk_ 3 (some 15) ?_ ir1.a4 rfl rfl HT_.out HW_.out (by kernel_rfl) (fun _ _ _ h => h) (Or.inl ⟨by rfl, ?_⟩) hHeld ?_ ?_ ?_; rotate_left
 ·rintro w' ⟨s0, s1, s2⟩; go_simp; with_reducible rfl
 rotate_left
 ·simp only [Act.put, sa_, s0_, ss_, i64_w, i32_w]; rfl
 refine tk_ 4 (some 16) ?_ ir1.a5 rfl rfl HT_.out HW_.out (by kernel_rfl) (fun _ _ _ h => h) (Or.inl ⟨by rfl, ?_⟩) hHeld ?_ ?_ ?_; rotate_left
 ·rintro w' ⟨s0, s1, s2⟩; go_simp; with_reducible rfl
 rotate_left
 ·simp only [Act.put, sa_, s0_, ss_, i64_w, i32_w]; rfl
 refine pu_ 5 (some 17) ?_ ir1.a6 rfl rfl HT_.out (by kernel_rfl) (fun _ _ _ h => h) (Or.inl ⟨by rfl, ?_⟩) ?_ ?_ ?_; rotate_left
 ·intro w'; go_simp; with_reducible rfl
 rotate_left
 ·simp only [Act.put, sa_, s0_, ss_, i64_w, i32_w]; rfl
 refine pu_ 6 (some 18) ?_ ir1.a7 rfl rfl HT_.out (by kernel_rfl) (fun _ _ _ h => h) (Or.inl ⟨by rfl, ?_⟩) ?_ ?_ ?_; rotate_left
 ·intro w'; go_simp; with_reducible rfl
 rotate_left
 ·simp only [Act.put, sa_, s0_, ss_, i64_w, i32_w]; rfl
 refine pu_ 7 (some 19) ?_ ir1.a8 rfl rfl HT_.out (by kernel_rfl) (fun _ _ _ h => h) (Or.inl ⟨by rfl, ?_⟩) ?_ ?_ ?_; rotate_left
 ·intro w'; go_simp; with_reducible rfl
 rotate_left
 ·simp only [Act.put, sa_, s0_, ss_, i64_w, i32_w]; rfl
 refine tk_ 8 (some 20) ?_ ir1.a9 rfl rfl HT_.out HW_.out (by kernel_rfl) (fun _ _ _ h => h) (Or.inl ⟨by rfl, ?_⟩) hHeld ?_ ?_ ?_; rotate_left
 ·rintro w' ⟨s0, s1, s2⟩; go_simp; with_reducible rfl
 rotate_left
 ·simp only [Act.put, sa_, s0_, ss_, i64_w, i32_w]; rfl
 refine pu_ 9 (some 21) ?_ ir1.a10 rfl rfl HT_.out (by kernel_rfl) (fun _ _ _ h => h) (Or.inl ⟨by rfl, ?_⟩) ?_ ?_ ?_; rotate_left
 ·intro w'; go_simp; with_reducible rfl
 rotate_left
 ·simp only [Act.put, sa_, s0_, ss_, i64_w, i32_w]; rfl
 refine tk_ 10 (some 22) ?_ ir1.a11 rfl rfl HT_.out HW_.out (by kernel_rfl) (fun _ _ _ h => h) (Or.inl ⟨by rfl, ?_⟩) hHeld ?_ ?_ ?_; rotate_left
 ·rintro w' ⟨s0, s1, s2⟩; go_simp; with_reducible rfl
 rotate_left
 ·simp only [Act.put, sa_, s0_, ss_, i64_w, i32_w]; rfl
 refine one_ (i := 11) (N := some 23) ir1.a12 rfl rfl (one_of HT_.out (by kernel_rfl)) (by decide) (fun K hK => ?_)
 refine gs_ Try.func56 #[.slice A0_0 l0_0.length c0_0] ?_
 (with_reducible refine (impl_size_int64.calls _ _ l0_0 (l0_0.length : Int) _ rfl).mono ?_)
 rintro e w6 ⟨rfl, hd⟩
 refine ⟨_, rfl, ?_⟩
 replace HL := am (HL.out.drawn hd)
 clear hd
 refine hK.out _ _ ⟨bc (HL.out.bx 3) 0, bc (HL.out.bx 2) 0, bc (HL.out.bx 1) 0⟩ (fun hHeld => ?_)
 clear hK K
 refine norm_ (a' := ?_) ?_ ?_
 rotate_left
 ·show Act.put _ (some 23) _ = _
  simp only [Act.put, sa_, s0_, ss_, i64_w, i32_w]
  rfl
 refine pu_ 12 (some 24) ?_ ir1.a13 rfl rfl HT_.out (by kernel_rfl) (fun _ _ _ h => h) (Or.inl ⟨by rfl, ?_⟩) ?_ ?_ ?_; rotate_left
 ·intro w'; go_simp; with_reducible rfl
 rotate_left
 ·simp only [Act.put, sa_, s0_, ss_, i64_w, i32_w]; rfl
 refine pu_ 13 (some 25) ?_ ir1.a14 rfl rfl HT_.out (by kernel_rfl) (fun _ _ _ h => h) (Or.inl ⟨by rfl, ?_⟩) ?_ ?_ ?_; rotate_left
 ·intro w'; go_simp; with_reducible rfl
 rotate_left
 ·simp only [Act.put, sa_, s0_, ss_, i64_w, i32_w]; rfl
 refine done_ (done_of HT_.out (by kernel_rfl)) ?_
 go_wp2
 replace HL := am HL.out.drew
 refine start_ (n := 8) (S := fun w' => w'.cell? ⟨B5, 0, none⟩ = some (.int .i64 a1) ∧ w'.cell? ⟨B6, 0, none⟩ = some (.int .i64 a2)) (ds := []) ir3.a0 (by kernel_rfl) rfl rfl ⟨bc (HL.out.bx 2) 0, bc (HL.out.bx 1) 0⟩ (fun hHeld => ?_); refine with_tabW ir3.tab ir3.bits (fun HT_ HW_ => ?_)
 generalize w6.drew = w7 at HL hHeld ⊢
 refine pu_ 0 (some 27) ?_ ir3.a1 rfl rfl HT_.out (by kernel_rfl) (fun _ _ _ h => h) (Or.inl ⟨by rfl, ?_⟩) ?_ ?_ ?_; rotate_left
 ·intro w'; go_simp; with_reducible rfl
 rotate_left
 ·simp only [Act.put, sa_, s0_, ss_, i64_w, i32_w]; rfl
 refine tk_ 2 (some 29) ?_ ir3.a2 rfl rfl HT_.out HW_.out (by kernel_rfl) (fun _ _ _ h => h) (Or.inl ⟨by rfl, ?_⟩) hHeld ?_ ?_ ?_; rotate_left
 ·rintro w' ⟨s0, s1⟩; go_simp; with_reducible rfl
 rotate_left
 ·simp only [Act.put, sa_, s0_, ss_, i64_w, i32_w]; rfl
 refine tk_ 3 (some 30) ?_ ir3.a3 rfl rfl HT_.out HW_.out (by kernel_rfl) (fun _ _ _ h => h) (Or.inl ⟨by rfl, ?_⟩) hHeld ?_ ?_ ?_; rotate_left
 ·rintro w' ⟨s0, s1⟩; go_simp; with_reducible rfl
 rotate_left
 ·simp only [Act.put, sa_, s0_, ss_, i64_w, i32_w]; rfl
 refine pu_ 4 (some 31) ?_ ir3.a4 rfl rfl HT_.out (by kernel_rfl) (fun _ _ _ h => h) (Or.inl ⟨by rfl, ?_⟩) ?_ ?_ ?_; rotate_left
 ·intro w'; go_simp; with_reducible rfl
 rotate_left
 ·simp only [Act.put, sa_, s0_, ss_, i64_w, i32_w]; rfl
 refine join_ (σ := Nat) 1 ir3.a8 (fun s_ => [(28, .int .i64 (l3.length : Int)), (32, .int .i64 (wrap64 ((l3.length : Int) - (wrap64 (a2 - a1))))), (9, .pointer (some ⟨s_, 0, none⟩))]) (fun s_ w' => (w'.cell? ⟨B5, 0, none⟩ = some (.int .i64 a1) ∧ w'.cell? ⟨B6, 0, none⟩ = some (.int .i64 a2)) ∧ Lw w (.box s_ #[.int .i64 0] 2 :: [.box B8 #[.slice none 0 0, .int .i64 0, .int .i64 0, .slice none 0 0, .int .i64 0] 49, .box B6 #[.int .i64 a2] 2, .box B5 #[.int .i64 a1] 2, .box B4 #[.slice A0_0 l0_0.length c0_0, .int .i64 a0_1, .int .i64 a0_2] 31]) w') ?_ ?_
 rotate_left
 ·intro hCont
  refine two_ (i := 1) (j := 6) (Ni := some 28) (Nj := some 9) ir3.a5 ir3.a6 rfl rfl rfl rfl (two_of HT_.out (by kernel_rfl)) (by decide) (by decide) (fun K hK => ?_) (fun K hK => ?_)
  ·skip
   refine gs_ Try.func56 #[.slice A3 l3.length c3] ?_
   (with_reducible refine (impl_size_int64.calls _ _ l3 (l3.length : Int) _ rfl).mono ?_)
   rintro e w8 ⟨rfl, hd⟩
   refine ⟨_, rfl, ?_⟩
   replace HL := am (HL.out.drawn hd)
   clear hd
   refine hK.out _ _ ⟨bc (HL.out.bx 2) 0, bc (HL.out.bx 1) 0⟩ (fun hHeld => ?_)
   clear hK K
   refine norm_ (a' := ?_) ?_ ?_
   rotate_left
   ·show Act.put _ (some 28) _ = _
    simp only [Act.put, sa_, s0_, ss_, i64_w, i32_w]
    rfl
   refine pu_ 5 (some 32) ?_ ir3.a7 rfl rfl HT_.out (by kernel_rfl) (fun _ _ _ h => h) (Or.inl ⟨by rfl, ?_⟩) ?_ ?_ ?_; rotate_left
   ·intro w'; go_simp; with_reducible rfl
   rotate_left
   ·simp only [Act.put, sa_, s0_, ss_, i64_w, i32_w]; rfl
   refine one_ (i := 6) (N := some 9) ir3.a8 rfl rfl (one_of HT_.out (by kernel_rfl)) (by decide) (fun K hK => ?_)
   refine box_step ?hg (N := 9) ?hd (cs := #[.int .i64 0]) (t := 2) ?hr ?_; (case hd => rfl); (case hg => rfl); (case hr => first | (go_simp; done) | (go_simp; rfl))
   intro B9 hg w9 hbox hb
   replace HL := am (HL.out.addBox hg hbox hb)
   clear hb hbox hg
   refine hK.out _ _ ⟨bc (HL.out.bx 3) 0, bc (HL.out.bx 2) 0⟩ (fun hHeld => ?_)
   clear hK K
   refine norm_ (a' := ?_) ?_ ?_
   rotate_left
   ·show Act.put _ (some 9) _ = _
    simp only [Act.put, sa_, s0_, ss_, i64_w, i32_w]
    rfl
   exact norm_ (by simp only [putAll, Act.put, sa_, s0_, ss_]) (hCont B9 _ ⟨hHeld, (HL.out.pick [0, 1, 2, 3, 4])⟩)
  ·skip
   refine box_step ?hg (N := 9) ?hd (cs := #[.int .i64 0]) (t := 2) ?hr ?_; (case hd => rfl); (case hg => rfl); (case hr => first | (go_simp; done) | (go_simp; rfl))
   intro B9 hg w8 hbox hb
   replace HL := am (HL.out.addBox hg hbox hb)
   clear hb hbox hg
   refine hK.out _ _ ⟨bc (HL.out.bx 3) 0, bc (HL.out.bx 2) 0⟩ (fun hHeld => ?_)
   clear hK K
   refine norm_ (a' := ?_) ?_ ?_
   rotate_left
   ·show Act.put _ (some 9) _ = _
    simp only [Act.put, sa_, s0_, ss_, i64_w, i32_w]
    rfl
   refine one_ (i := 1) (N := some 28) ir3.a9 rfl rfl (one_of HT_.out (by kernel_rfl)) (by decide) (fun K hK => ?_)
   refine gs_ Try.func56 #[.slice A3 l3.length c3] ?_
   (with_reducible refine (impl_size_int64.calls _ _ l3 (l3.length : Int) _ rfl).mono ?_)
   rintro e w9 ⟨rfl, hd⟩
   refine ⟨_, rfl, ?_⟩
   replace HL := am (HL.out.drawn hd)
   clear hd
   refine hK.out _ _ ⟨bc (HL.out.bx 3) 0, bc (HL.out.bx 2) 0⟩ (fun hHeld => ?_)
   clear hK K
   refine norm_ (a' := ?_) ?_ ?_
   rotate_left
   ·show Act.put _ (some 28) _ = _
    simp only [Act.put, sa_, s0_, ss_, i64_w, i32_w]
    rfl
   refine pu_ 5 (some 32) ?_ ir3.a8 rfl rfl HT_.out (by kernel_rfl) (fun _ _ _ h => h) (Or.inl ⟨by rfl, ?_⟩) ?_ ?_ ?_; rotate_left
   ·intro w'; go_simp; with_reducible rfl
   rotate_left
   ·simp only [Act.put, sa_, s0_, ss_, i64_w, i32_w]; rfl
   exact norm_ (by simp only [putAll, Act.put, sa_, s0_, ss_]) (hCont B9 _ ⟨hHeld, (HL.out.pick [0, 1, 2, 3, 4])⟩)
 rintro B9 w40 ⟨hHeld, hl⟩
 replace HL := am hl
 clear hl
 refine norm_ (a' := ?_) ?_ ?_
 rotate_left
 ·simp only [putAll, Act.put, sa_, s0_, ss_, i64_w, i32_w]
  rfl
 refine one_ (i := 7) (N := none) ir3.a10 rfl rfl (one_of HT_.out (by kernel_rfl)) (by decide) (fun K hK => ?_)
 obtain ⟨y_0, z_0⟩ := cells1 (HL.out.bx 0)
 refine skip_ (w1 := putc w40 B9 0 [.int .i64 (wrap64 ((l3.length : Int) - (wrap64 (a2 - a1))))]) (by rfl) rfl (by go_simp; rfl) ?_
 replace HL := am (HL.out.fil0 [.int .i64 (wrap64 ((l3.length : Int) - (wrap64 (a2 - a1))))] rfl)
 clear y_0 z_0
 refine hK.out _ _ ⟨bc (HL.out.bx 3) 0, bc (HL.out.bx 2) 0⟩ (fun hHeld => ?_)
 clear hK K
 generalize putc w40 B9 0 [.int .i64 (wrap64 ((l3.length : Int) - (wrap64 (a2 - a1))))] = w41 at HL hHeld ⊢
 refine done_ (done_of HT_.out (by kernel_rfl)) ?_
 go_wp2
 replace HL := am HL.out.drew
 refine start_ (n := 6) (S := fun w' => w'.cell? ⟨B4, 0, none⟩ = some (.slice A0_0 l0_0.length c0_0) ∧ w'.cell? ⟨B9, 0, none⟩ = some (.int .i64 (wrap64 ((l3.length : Int) - (wrap64 (a2 - a1)))))) (ds := []) ir4.a0 (by kernel_rfl) rfl rfl ⟨bc (HL.out.bx 4) 0, bc (HL.out.bx 0) 0⟩ (fun hHeld => ?_); refine with_tabW ir4.tab ir4.bits (fun HT_ HW_ => ?_)
 generalize w41.drew = w42 at HL hHeld ⊢
 refine pu_ 0 (some 33) ?_ ir4.a1 rfl rfl HT_.out (by kernel_rfl) (fun _ _ _ h => h) (Or.inl ⟨by rfl, ?_⟩) ?_ ?_ ?_; rotate_left
 ·intro w'; go_simp; with_reducible rfl
 rotate_left
 ·simp only [Act.put, sa_, s0_, ss_, i64_w, i32_w]; rfl
 refine tk_ 1 (some 34) ?_ ir4.a2 rfl rfl HT_.out HW_.out (by kernel_rfl) (fun _ _ _ h => h) (Or.inl ⟨by rfl, ?_⟩) hHeld ?_ ?_ ?_; rotate_left
 ·rintro w' ⟨s0, s1⟩; go_simp; with_reducible rfl
 rotate_left
 ·simp only [Act.put, sa_, s0_, ss_, i64_w, i32_w]; rfl
 refine tk_ 3 (some 36) ?_ ir4.a3 rfl rfl HT_.out HW_.out (by kernel_rfl) (fun _ _ _ h => h) (Or.inl ⟨by rfl, ?_⟩) hHeld ?_ ?_ ?_; rotate_left
 ·rintro w' ⟨s0, s1⟩; go_simp; with_reducible rfl
 rotate_left
 ·simp only [Act.put, sa_, s0_, ss_, i64_w, i32_w]; rfl
 refine one_ (i := 2) (N := some 35) ir4.a4 rfl rfl (one_of HT_.out (by kernel_rfl)) (by decide) (fun K hK => ?_)
 refine gs_ Try.func56 #[.slice A0_0 l0_0.length c0_0] ?_
 (with_reducible refine (impl_size_int64.calls _ _ l0_0 (l0_0.length : Int) _ rfl).mono ?_)
 rintro e w43 ⟨rfl, hd⟩
 refine ⟨_, rfl, ?_⟩
 replace HL := am (HL.out.drawn hd)
 clear hd
 refine hK.out _ _ ⟨bc (HL.out.bx 4) 0, bc (HL.out.bx 0) 0⟩ (fun hHeld => ?_)
 clear hK K
 refine norm_ (a' := ?_) ?_ ?_
 rotate_left
 ·show Act.put _ (some 35) _ = _
  simp only [Act.put, sa_, s0_, ss_, i64_w, i32_w]
  rfl
 refine pu_ 4 (some 37) ?_ ir4.a5 rfl rfl HT_.out (by kernel_rfl) (fun _ _ _ h => h) (Or.inl ⟨by rfl, ?_⟩) ?_ ?_ ?_; rotate_left
 ·intro w'; go_simp; with_reducible rfl
 rotate_left
 ·simp only [Act.put, sa_, s0_, ss_, i64_w, i32_w]; rfl
 refine pu_ 5 (some 38) ?_ ir4.a6 rfl rfl HT_.out (by kernel_rfl) (fun _ _ _ h => h) (Or.inl ⟨by rfl, ?_⟩) ?_ ?_ ?_; rotate_left
 ·intro w'; go_simp; with_reducible rfl
 rotate_left
 ·simp only [Act.put, sa_, s0_, ss_, i64_w, i32_w]; rfl
 refine done_ (done_of HT_.out (by kernel_rfl)) ?_
 by_cases big : (wrap64 ((l0_0.length : Int) + (wrap64 ((l3.length : Int) - (wrap64 (a2 - a1)))))) > 300
 · rw [if_pos big] at H
   simp only [Option.some.injEq, Prod.mk.injEq] at H
   obtain ⟨rfl, rfl, rfl, rfl, rfl⟩ := H
   have bb : decide (300 < (wrap64 ((l0_0.length : Int) + (wrap64 ((l3.length : Int) - (wrap64 (a2 - a1))))))) = true := decide_eq_true big
   clear big
   rw [bb]
   obtain ⟨hB8_0, fB8_0, hB8_1, fB8_1, hB8_2, fB8_2, hB8_3, fB8_3, hB8_4, fB8_4⟩ := cells5 (HL.out.bx 1)
   go_wp2_with (first | ((with_reducible refine gate_store (t := 49) (p := 8) rfl ?_); refine store_event (t := 49) (p := 8) (v := .tmp 39) (w1 := putc w43 B8 0 [.slice none 0 0, .int .i64 0, .int .i64 0, .slice none 0 0, .int .i64 5]) ?hg ?ho ?hn ?hr ?_; (case ho => rfl); (case hg => rfl); (case hn => rfl); (case hr => first | (go_simp; done) | (go_simp; rfl)); intro w44 hw; replace HL := am (HL.out.fil 1 0 [.slice none 0 0, .int .i64 0, .int .i64 0, .slice none 0 0, .int .i64 5] hw); clear hw; clear hB8_0 fB8_0 hB8_1 fB8_1 hB8_2 fB8_2 hB8_3 fB8_3 hB8_4 fB8_4))
   refine bodyPost_ret (results_cell_row rfl _ _ B8 49 #[.slice none 0 0, .int .i64 0, .int .i64 0, .slice none 0 0, .int .i64 5] (0, 0) _ rfl (HL.out.bx 1) Try.underlying49 rfl (by kernel_rfl)) rfl ?_
   exact ⟨_, _, by first | rfl | (simp; done), ((HL.out.pick [] (L' := [])).nilR (Kd.int .i64) 2).nilR (Kd.int .i64) 2⟩
 rw [if_neg big] at H
 have bb : decide (300 < (wrap64 ((l0_0.length : Int) + (wrap64 ((l3.length : Int) - (wrap64 (a2 - a1))))))) = false := decide_eq_false big
 clear big
 rw [bb]
 replace H := Option.bind_eq_some_iff.mp H
 obtain ⟨cc, E, H⟩ := H
 have Ac := am E
 clear E
 replace H := Option.bind_eq_some_iff.mp H
 obtain ⟨m1, E, H⟩ := H
 have Am := am E
 clear E
 replace H := Option.bind_eq_some_iff.mp H
 obtain ⟨m2, E, H⟩ := H
 have An := am E
 clear E
 replace H := Option.bind_eq_some_iff.mp H
 obtain ⟨gg, E, H⟩ := H
 have Ag := am E
 clear E
 simp only [Option.some.injEq, Prod.mk.injEq] at H
 obtain ⟨rfl, rfl, rfl, rfl, rfl⟩ := H
 go_wp2
 replace HL := am HL.out.drew
 obtain ⟨i0, hi0, _, hsz, _⟩ := info_parts info2
 obtain ⟨y1, hy1⟩ : ∃ y : List Int, y = l0_0.take a1.toNat := ⟨_, rfl⟩
 obtain ⟨y2, hy2⟩ : ∃ y : List Int, y = l0_0.drop a2.toNat := ⟨_, rfl⟩
 obtain ⟨y3, hy3⟩ : ∃ y : List Int, y = (l0_0.take a2.toNat).drop a1.toNat := ⟨_, rfl⟩
 rw [← hy1, ← hy2] at Ac
 rw [← hy3] at Ag
 have hl1 : y1.length = a1.toNat := by rw [hy1, List.length_take]; omega
 have hl2 : y2.length = l0_0.length - a2.toNat := by rw [hy2, List.length_drop]
 have hl3 : y3.length = a2.toNat - a1.toNat := by rw [hy3, List.length_drop, List.length_take]; omega
 have hcut1 := cut_to (P := Try.prog) 22 2 .i64 Try.underlying22 hi0 A0_0 l0_0.length c0_0 a1 q0 q1 HC0.out
 rw [← hl1] at hcut1
 have hcut2 := cut_from (P := Try.prog) 22 2 .i64 Try.underlying22 hi0 1 hsz A0_0 l0_0.length c0_0 a2 q2 q3
 have hcut3 := cut_mid (P := Try.prog) 22 2 .i64 .i64 Try.underlying22 hi0 1 hsz A0_0 l0_0.length c0_0 a1 a2 q0 q4 q3 HC0.out
 obtain ⟨A1_, hA1⟩ : ∃ A, A = (if c0_0 = a2.toNat then A0_0 else (A0_0 : Option Addr).map (·.add (a2.toNat * 1))) := ⟨_, rfl⟩
 obtain ⟨c1_, hc1⟩ : ∃ c, c = c0_0 - a2.toNat := ⟨_, rfl⟩
 obtain ⟨A2_, hA2⟩ : ∃ A, A = (if c0_0 = a1.toNat then A0_0 else (A0_0 : Option Addr).map (·.add (a1.toNat * 1))) := ⟨_, rfl⟩
 obtain ⟨c2_, hc2⟩ : ∃ c, c = c0_0 - a1.toNat := ⟨_, rfl⟩
 rw [← hl2, ← hA1, ← hc1] at hcut2
 rw [← hl3, ← hA2, ← hc2] at hcut3
 have HY1 : Aside0 (Kd.C (Kd.int .i64) w A0_0 y1.length y1) := ⟨by rw [hy1]; exact Kd.C_take HR0.out (by omega)⟩
 have HY2 : Aside0 (Kd.C (Kd.int .i64) w A1_ y2.length y2) := ⟨by rw [hy2, hA1]; exact Kd.C_drop HR0.out (by omega) HC0.out⟩
 have HY3 : Aside0 (Kd.C (Kd.int .i64) w A2_ y3.length y3) := ⟨by rw [hy3, hA2]; exact Kd.C_mid HR0.out (by omega) (by omega) HC0.out⟩
 have hcc := HC0.out
 have HD1 : Aside0 (y1.length ≤ c0_0) := ⟨by omega⟩
 have HD2 : Aside0 (y2.length ≤ c1_) := ⟨by omega⟩
 have HD3 : Aside0 (y3.length ≤ c2_) := ⟨by omega⟩
 clear hy1 hy2 hy3 hl1 hl2 hl3 hA1 hA2 hc1 hc2 hi0 hsz hcc
 have v1 := eq_true q1
 have v3 := eq_true q3
 have v0 := eq_true q0
 have v2 := eq_true q2
 have v4 := eq_true q4
 clear q0 q1 q2 q3 q4
 refine start_ (n := 22) (S := fun w' => w'.cell? ⟨B4, 0, none⟩ = some (.slice A0_0 l0_0.length c0_0) ∧ w'.cell? ⟨B4, 1, none⟩ = some (.int .i64 a0_1) ∧ w'.cell? ⟨B4, 2, none⟩ = some (.int .i64 a0_2) ∧ w'.cell? ⟨B5, 0, none⟩ = some (.int .i64 a1) ∧ w'.cell? ⟨B6, 0, none⟩ = some (.int .i64 a2)) (ds := []) ir7.a0 (by kernel_rfl) rfl rfl ⟨bc (HL.out.bx 4) 0, bc (HL.out.bx 4) 1, bc (HL.out.bx 4) 2, bc (HL.out.bx 3) 0, bc (HL.out.bx 2) 0⟩ (fun hHeld => ?_); refine with_tabW ir7.tab ir7.bits (fun HT_ HW_ => ?_)
 generalize w43.drew = w44 at HL hHeld ⊢
 refine pu_ 0 (some 41) ?_ ir7.a1 rfl rfl HT_.out (by kernel_rfl) (fun _ _ _ h => h) (Or.inl ⟨by rfl, ?_⟩) ?_ ?_ ?_; rotate_left
 ·intro w'; go_simp; with_reducible rfl
 rotate_left
 ·simp only [Act.put, sa_, s0_, ss_, i64_w, i32_w]; rfl
 refine pu_ 4 (some 45) ?_ ir7.a2 rfl rfl HT_.out (by kernel_rfl) (fun _ _ _ h => h) (Or.inl ⟨by rfl, ?_⟩) ?_ ?_ ?_; rotate_left
 ·intro w'; go_simp; with_reducible rfl
 rotate_left
 ·simp only [Act.put, sa_, s0_, ss_, i64_w, i32_w]; rfl
 refine pu_ 5 (some 46) ?_ ir7.a3 rfl rfl HT_.out (by kernel_rfl) (fun _ _ _ h => h) (Or.inl ⟨by rfl, ?_⟩) ?_ ?_ ?_; rotate_left
 ·intro w'; go_simp; with_reducible rfl
 rotate_left
 ·simp only [Act.put, sa_, s0_, ss_, i64_w, i32_w]; rfl
 refine pu_ 11 (some 52) ?_ ir7.a4 rfl rfl HT_.out (by kernel_rfl) (fun _ _ _ h => h) (Or.inl ⟨by rfl, ?_⟩) ?_ ?_ ?_; rotate_left
 ·intro w'; go_simp; with_reducible rfl
 rotate_left
 ·simp only [Act.put, sa_, s0_, ss_, i64_w, i32_w]; rfl
 refine pu_ 12 (some 53) ?_ ir7.a5 rfl rfl HT_.out (by kernel_rfl) (fun _ _ _ h => h) (Or.inl ⟨by rfl, ?_⟩) ?_ ?_ ?_; rotate_left
 ·intro w'; go_simp; with_reducible rfl
 rotate_left
 ·simp only [Act.put, sa_, s0_, ss_, i64_w, i32_w]; rfl
 refine pu_ 15 (some 56) ?_ ir7.a6 rfl rfl HT_.out (by kernel_rfl) (fun _ _ _ h => h) (Or.inl ⟨by rfl, ?_⟩) ?_ ?_ ?_; rotate_left
 ·intro w'; go_simp; with_reducible rfl
 rotate_left
 ·simp only [Act.put, sa_, s0_, ss_, i64_w, i32_w]; rfl
 refine pu_ 16 (some 57) ?_ ir7.a7 rfl rfl HT_.out (by kernel_rfl) (fun _ _ _ h => h) (Or.inl ⟨by rfl, ?_⟩) ?_ ?_ ?_; rotate_left
 ·intro w'; go_simp; with_reducible rfl
 rotate_left
 ·simp only [Act.put, sa_, s0_, ss_, i64_w, i32_w]; rfl
 refine tk_ 1 (some 42) ?_ ir7.a8 rfl rfl HT_.out HW_.out (by kernel_rfl) (fun _ _ _ h => h) (Or.inl ⟨by rfl, ?_⟩) hHeld ?_ ?_ ?_; rotate_left
 ·rintro w' ⟨s0, s1, s2, s3, s4⟩; go_simp; with_reducible rfl
 rotate_left
 ·simp only [Act.put, sa_, s0_, ss_, i64_w, i32_w]; rfl
 refine tk_ 2 (some 43) ?_ ir7.a9 rfl rfl HT_.out HW_.out (by kernel_rfl) (fun _ _ _ h => h) (Or.inl ⟨by rfl, ?_⟩) hHeld ?_ ?_ ?_; rotate_left
 ·rintro w' ⟨s0, s1, s2, s3, s4⟩; go_simp; with_reducible rfl
 rotate_left
 ·simp only [Act.put, sa_, s0_, ss_, i64_w, i32_w]; rfl
 refine tk_ 6 (some 47) ?_ ir7.a10 rfl rfl HT_.out HW_.out (by kernel_rfl) (fun _ _ _ h => h) (Or.inl ⟨by rfl, ?_⟩) hHeld ?_ ?_ ?_; rotate_left
 ·rintro w' ⟨s0, s1, s2, s3, s4⟩; go_simp; with_reducible rfl
 rotate_left
 ·simp only [Act.put, sa_, s0_, ss_, i64_w, i32_w]; rfl
 refine tk_ 7 (some 48) ?_ ir7.a11 rfl rfl HT_.out HW_.out (by kernel_rfl) (fun _ _ _ h => h) (Or.inl ⟨by rfl, ?_⟩) hHeld ?_ ?_ ?_; rotate_left
 ·rintro w' ⟨s0, s1, s2, s3, s4⟩; go_simp; with_reducible rfl
 rotate_left
 ·simp only [Act.put, sa_, s0_, ss_, i64_w, i32_w]; rfl
 refine tk_ 13 (some 54) ?_ ir7.a12 rfl rfl HT_.out HW_.out (by kernel_rfl) (fun _ _ _ h => h) (Or.inl ⟨by rfl, ?_⟩) hHeld ?_ ?_ ?_; rotate_left
 ·rintro w' ⟨s0, s1, s2, s3, s4⟩; go_simp; with_reducible rfl
 rotate_left
 ·simp only [Act.put, sa_, s0_, ss_, i64_w, i32_w]; rfl
 refine tk_ 17 (some 58) ?_ ir7.a13 rfl rfl HT_.out HW_.out (by kernel_rfl) (fun _ _ _ h => h) (Or.inl ⟨by rfl, ?_⟩) hHeld ?_ ?_ ?_; rotate_left
 ·rintro w' ⟨s0, s1, s2, s3, s4⟩; go_simp; with_reducible rfl
 rotate_left
 ·simp only [Act.put, sa_, s0_, ss_, i64_w, i32_w]; rfl
 refine pu_ 3 (some 44) ?_ ir7.a14 rfl rfl HT_.out (by kernel_rfl) (fun _ _ _ h => h) (Or.inl ⟨by rfl, ?_⟩) ?_ ?_ ?_; rotate_left
 ·intro w'; go_simp; with_reducible rfl
 rotate_left
 ·simp only [Act.put, sa_, s0_, ss_, i64_w, i32_w]; rfl
 refine pu_ 8 (some 49) ?_ ir7.a15 rfl rfl HT_.out (by kernel_rfl) (fun _ _ _ h => h) (Or.inl ⟨by rfl, ?_⟩) ?_ ?_ ?_; rotate_left
 ·intro w'; go_simp; with_reducible rfl
 rotate_left
 ·simp only [Act.put, sa_, s0_, ss_, i64_w, i32_w]; rfl
 refine join_ (σ := Value × Nat × Nat) 1 ir7.a25 (fun s_ => [(50, .slice (some ⟨s_.2.1, 0, none⟩) 3 3), (51, s_.1), (55, .int .i64 m1), (59, .int .i64 m2), (60, .agg #[s_.1, .int .i64 m1, .int .i64 m2]), (11, .pointer (some ⟨s_.2.2, 0, none⟩))]) (fun s_ w' => (w'.cell? ⟨B4, 0, none⟩ = some (.slice A0_0 l0_0.length c0_0) ∧ w'.cell? ⟨B4, 1, none⟩ = some (.int .i64 a0_1) ∧ w'.cell? ⟨B4, 2, none⟩ = some (.int .i64 a0_2) ∧ w'.cell? ⟨B5, 0, none⟩ = some (.int .i64 a1) ∧ w'.cell? ⟨B6, 0, none⟩ = some (.int .i64 a2)) ∧ Lw w (.box s_.2.2 #[.slice none 0 0, .int .i64 0, .int .i64 0] 31 :: .R (Kd.int .i64) 2 s_.1 cc :: [.box B9 #[.int .i64 (wrap64 ((l3.length : Int) - (wrap64 (a2 - a1))))] 2, .box B8 #[.slice none 0 0, .int .i64 0, .int .i64 0, .slice none 0 0, .int .i64 0] 49, .box B6 #[.int .i64 a2] 2, .box B5 #[.int .i64 a1] 2, .box B4 #[.slice A0_0 l0_0.length c0_0, .int .i64 a0_1, .int .i64 a0_2] 31]) w') ?_ ?_
 rotate_left
 ·intro hCont
  refine two_ (i := 9) (j := 20) (Ni := some 50) (Nj := some 11) ir7.a16 ir7.a17 rfl rfl rfl rfl (two_of HT_.out (by kernel_rfl)) (by decide) (by decide) (fun K hK => ?_) (fun K hK => ?_)
  ·skip
   refine lit_step (n := 3) (cs := #[.slice A0_0 y1.length c0_0, .slice A3 l3.length c3, .slice A1_ y2.length c1_]) (t := 22) ?hg ?hr ?_; (case hg => rfl); (case hr => first | (go_simp; done) | (go_simp; rfl))
   intro BS hg w45 hbox hb
   replace HL := am (HL.out.addBox hg hbox hb)
   clear hb hbox hg
   refine hK.out _ _ ⟨bc (HL.out.bx 5) 0, bc (HL.out.bx 5) 1, bc (HL.out.bx 5) 2, bc (HL.out.bx 4) 0, bc (HL.out.bx 3) 0⟩ (fun hHeld => ?_)
   clear hK K
   refine norm_ (a' := ?_) ?_ ?_
   rotate_left
   ·show Act.put _ (some 50) _ = _
    simp only [Act.put, sa_, s0_, ss_, i64_w, i32_w]
    rfl
   refine two_ (i := 10) (j := 20) (Ni := some 51) (Nj := some 11) ir7.a18 ir7.a19 rfl rfl rfl rfl (two_of HT_.out (by kernel_rfl)) (by decide) (by decide) (fun K hK => ?_) (fun K hK => ?_)
   ·skip
    refine gs_ Try.func58 #[.slice (some ⟨BS, 0, none⟩) [y1, l3, y2].length 3] ?_
    (with_reducible refine (slices_Concat_sint64_int64.calls k _ _ [y1, l3, y2] cc _ ?q5s0 ?q5s1 Ac.out).mono ?_)
    (case q5s0 => exact (C_three (HL.out.bx 0) (Kd.C_below HY1.out HL.out.bel) HD1.out (Kd.C_below HR3.out HL.out.bel) HC3.out (Kd.C_below HY2.out HL.out.bel) HD2.out))
    (case q5s1 => exact (Nat.le_refl 3))
    rintro e w46 ⟨vc, rfl, ho, hb⟩
    refine ⟨_, rfl, ?_⟩
    replace HL := am (HL.out.addR hb ho)
    clear hb ho
    obtain ⟨Ac_, cc_, ee_⟩ := Kd.R_slice (HL.out.gR 0)
    subst ee_
    refine hK.out _ _ ⟨bc (HL.out.bx 6) 0, bc (HL.out.bx 6) 1, bc (HL.out.bx 6) 2, bc (HL.out.bx 5) 0, bc (HL.out.bx 4) 0⟩ (fun hHeld => ?_)
    clear hK K
    refine norm_ (a' := ?_) ?_ ?_
    rotate_left
    ·show Act.put _ (some 51) _ = _
     simp only [Act.put, sa_, s0_, ss_, i64_w, i32_w]
     rfl
    refine two_ (i := 14) (j := 20) (Ni := some 55) (Nj := some 11) ir7.a20 ir7.a21 rfl rfl rfl rfl (two_of HT_.out (by kernel_rfl)) (by decide) (by decide) (fun K hK => ?_) (fun K hK => ?_)
    ·skip
     refine goesC_ Try.func57 (by kernel_rfl) rfl #[.int .i64 a0_1, .pointer (some ⟨B5, 0, none⟩), .pointer (some ⟨B6, 0, none⟩), .pointer (some ⟨B9, 0, none⟩)] (by rfl) rfl rfl rfl (by simp; rfl) ?_
     refine (impl_replace_1.calls a0_1 _ a1 _ a2 _ (wrap64 ((l3.length : Int) - (wrap64 (a2 - a1)))) m1 _ ⟨bc (HL.out.bx 5) 0, trivial⟩ ⟨bc (HL.out.bx 4) 0, trivial⟩ ⟨bc (HL.out.bx 2) 0, trivial⟩ Am.out).mono ?_
     rintro e w47 ⟨rfl, hd⟩
     refine ⟨_, rfl, ?_⟩
     replace HL := am (HL.out.drawn hd)
     clear hd
     refine hK.out _ _ ⟨bc (HL.out.bx 6) 0, bc (HL.out.bx 6) 1, bc (HL.out.bx 6) 2, bc (HL.out.bx 5) 0, bc (HL.out.bx 4) 0⟩ (fun hHeld => ?_)
     clear hK K
     refine norm_ (a' := ?_) ?_ ?_
     rotate_left
     ·show Act.put _ (some 55) _ = _
      simp only [Act.put, sa_, s0_, ss_, i64_w, i32_w]
      rfl
     refine two_ (i := 18) (j := 20) (Ni := some 59) (Nj := some 11) ir7.a22 ir7.a23 rfl rfl rfl rfl (two_of HT_.out (by kernel_rfl)) (by decide) (by decide) (fun K hK => ?_) (fun K hK => ?_)
     ·skip
      refine goesC_ Try.func57 (by kernel_rfl) rfl #[.int .i64 a0_2, .pointer (some ⟨B5, 0, none⟩), .pointer (some ⟨B6, 0, none⟩), .pointer (some ⟨B9, 0, none⟩)] (by rfl) rfl rfl rfl (by simp; rfl) ?_
      refine (impl_replace_1.calls a0_2 _ a1 _ a2 _ (wrap64 ((l3.length : Int) - (wrap64 (a2 - a1)))) m2 _ ⟨bc (HL.out.bx 5) 0, trivial⟩ ⟨bc (HL.out.bx 4) 0, trivial⟩ ⟨bc (HL.out.bx 2) 0, trivial⟩ An.out).mono ?_
      rintro e w48 ⟨rfl, hd⟩
      refine ⟨_, rfl, ?_⟩
      replace HL := am (HL.out.drawn hd)
      clear hd
      refine hK.out _ _ ⟨bc (HL.out.bx 6) 0, bc (HL.out.bx 6) 1, bc (HL.out.bx 6) 2, bc (HL.out.bx 5) 0, bc (HL.out.bx 4) 0⟩ (fun hHeld => ?_)
      clear hK K
      refine norm_ (a' := ?_) ?_ ?_
      rotate_left
      ·show Act.put _ (some 59) _ = _
       simp only [Act.put, sa_, s0_, ss_, i64_w, i32_w]
       rfl
      refine pu_ 19 (some 60) ?_ ir7.a24 rfl rfl HT_.out (by kernel_rfl) (fun _ _ _ h => h) (Or.inl ⟨by rfl, ?_⟩) ?_ ?_ ?_; rotate_left
      ·intro w'; go_simp; with_reducible rfl
      rotate_left
      ·simp only [Act.put, sa_, s0_, ss_, i64_w, i32_w]; rfl
      refine one_ (i := 20) (N := some 11) ir7.a25 rfl rfl (one_of HT_.out (by kernel_rfl)) (by decide) (fun K hK => ?_)
      refine box_step ?hg (N := 11) ?hd (cs := #[.slice none 0 0, .int .i64 0, .int .i64 0]) (t := 31) ?hr ?_; (case hd => rfl); (case hg => rfl); (case hr => first | (go_simp; done) | (go_simp; rfl))
      intro B11 hg w49 hbox hb
      replace HL := am (HL.out.addBox hg hbox hb)
      clear hb hbox hg
      refine hK.out _ _ ⟨bc (HL.out.bx 7) 0, bc (HL.out.bx 7) 1, bc (HL.out.bx 7) 2, bc (HL.out.bx 6) 0, bc (HL.out.bx 5) 0⟩ (fun hHeld => ?_)
      clear hK K
      refine norm_ (a' := ?_) ?_ ?_
      rotate_left
      ·show Act.put _ (some 11) _ = _
       simp only [Act.put, sa_, s0_, ss_, i64_w, i32_w]
       rfl
      exact norm_ (by simp only [putAll, Act.put, sa_, s0_, ss_]) (hCont (.slice Ac_ cc.length cc_, BS, B11) _ ⟨hHeld, (HL.out.pick [0, 1, 3, 4, 5, 6, 7])⟩)
     ·skip
      refine box_step ?hg (N := 11) ?hd (cs := #[.slice none 0 0, .int .i64 0, .int .i64 0]) (t := 31) ?hr ?_; (case hd => rfl); (case hg => rfl); (case hr => first | (go_simp; done) | (go_simp; rfl))
      intro B11 hg w48 hbox hb
      replace HL := am (HL.out.addBox hg hbox hb)
      clear hb hbox hg
      refine hK.out _ _ ⟨bc (HL.out.bx 7) 0, bc (HL.out.bx 7) 1, bc (HL.out.bx 7) 2, bc (HL.out.bx 6) 0, bc (HL.out.bx 5) 0⟩ (fun hHeld => ?_)
      clear hK K
      refine norm_ (a' := ?_) ?_ ?_
      rotate_left
      ·show Act.put _ (some 11) _ = _
       simp only [Act.put, sa_, s0_, ss_, i64_w, i32_w]
       rfl
      refine one_ (i := 18) (N := some 59) ir7.a26 rfl rfl (one_of HT_.out (by kernel_rfl)) (by decide) (fun K hK => ?_)
      refine goesC_ Try.func57 (by kernel_rfl) rfl #[.int .i64 a0_2, .pointer (some ⟨B5, 0, none⟩), .pointer (some ⟨B6, 0, none⟩), .pointer (some ⟨B9, 0, none⟩)] (by rfl) rfl rfl rfl (by simp; rfl) ?_
      refine (impl_replace_1.calls a0_2 _ a1 _ a2 _ (wrap64 ((l3.length : Int) - (wrap64 (a2 - a1)))) m2 _ ⟨bc (HL.out.bx 6) 0, trivial⟩ ⟨bc (HL.out.bx 5) 0, trivial⟩ ⟨bc (HL.out.bx 3) 0, trivial⟩ An.out).mono ?_
      rintro e w49 ⟨rfl, hd⟩
      refine ⟨_, rfl, ?_⟩
      replace HL := am (HL.out.drawn hd)
      clear hd
      refine hK.out _ _ ⟨bc (HL.out.bx 7) 0, bc (HL.out.bx 7) 1, bc (HL.out.bx 7) 2, bc (HL.out.bx 6) 0, bc (HL.out.bx 5) 0⟩ (fun hHeld => ?_)
      clear hK K
      refine norm_ (a' := ?_) ?_ ?_
      rotate_left
      ·show Act.put _ (some 59) _ = _
       simp only [Act.put, sa_, s0_, ss_, i64_w, i32_w]
       rfl
      refine pu_ 19 (some 60) ?_ ir7.a25 rfl rfl HT_.out (by kernel_rfl) (fun _ _ _ h => h) (Or.inl ⟨by rfl, ?_⟩) ?_ ?_ ?_; rotate_left
      ·intro w'; go_simp; with_reducible rfl
      rotate_left
      ·simp only [Act.put, sa_, s0_, ss_, i64_w, i32_w]; rfl
      exact norm_ (by simp only [putAll, Act.put, sa_, s0_, ss_]) (hCont (.slice Ac_ cc.length cc_, BS, B11) _ ⟨hHeld, (HL.out.pick [0, 1, 3, 4, 5, 6, 7])⟩)
    ·skip
     refine box_step ?hg (N := 11) ?hd (cs := #[.slice none 0 0, .int .i64 0, .int .i64 0]) (t := 31) ?hr ?_; (case hd => rfl); (case hg => rfl); (case hr => first | (go_simp; done) | (go_simp; rfl))
     intro B11 hg w47 hbox hb
     replace HL := am (HL.out.addBox hg hbox hb)
     clear hb hbox hg
     refine hK.out _ _ ⟨bc (HL.out.bx 7) 0, bc (HL.out.bx 7) 1, bc (HL.out.bx 7) 2, bc (HL.out.bx 6) 0, bc (HL.out.bx 5) 0⟩ (fun hHeld => ?_)
     clear hK K
     refine norm_ (a' := ?_) ?_ ?_
     rotate_left
     ·show Act.put _ (some 11) _ = _
      simp only [Act.put, sa_, s0_, ss_, i64_w, i32_w]
      rfl
     refine one_ (i := 14) (N := some 55) ir7.a23 rfl rfl (one_of HT_.out (by kernel_rfl)) (by decide) (fun K hK => ?_)
     refine goesC_ Try.func57 (by kernel_rfl) rfl #[.int .i64 a0_1, .pointer (some ⟨B5, 0, none⟩), .pointer (some ⟨B6, 0, none⟩), .pointer (some ⟨B9, 0, none⟩)] (by rfl) rfl rfl rfl (by simp; rfl) ?_
     refine (impl_replace_1.calls a0_1 _ a1 _ a2 _ (wrap64 ((l3.length : Int) - (wrap64 (a2 - a1)))) m1 _ ⟨bc (HL.out.bx 6) 0, trivial⟩ ⟨bc (HL.out.bx 5) 0, trivial⟩ ⟨bc (HL.out.bx 3) 0, trivial⟩ Am.out).mono ?_
     rintro e w48 ⟨rfl, hd⟩
     refine ⟨_, rfl, ?_⟩
     replace HL := am (HL.out.drawn hd)
     clear hd
     refine hK.out _ _ ⟨bc (HL.out.bx 7) 0, bc (HL.out.bx 7) 1, bc (HL.out.bx 7) 2, bc (HL.out.bx 6) 0, bc (HL.out.bx 5) 0⟩ (fun hHeld => ?_)
     clear hK K
     refine norm_ (a' := ?_) ?_ ?_
     rotate_left
     ·show Act.put _ (some 55) _ = _
      simp only [Act.put, sa_, s0_, ss_, i64_w, i32_w]
      rfl
     refine one_ (i := 18) (N := some 59) ir7.a26 rfl rfl (one_of HT_.out (by kernel_rfl)) (by decide) (fun K hK => ?_)
     refine goesC_ Try.func57 (by kernel_rfl) rfl #[.int .i64 a0_2, .pointer (some ⟨B5, 0, none⟩), .pointer (some ⟨B6, 0, none⟩), .pointer (some ⟨B9, 0, none⟩)] (by rfl) rfl rfl rfl (by simp; rfl) ?_
     refine (impl_replace_1.calls a0_2 _ a1 _ a2 _ (wrap64 ((l3.length : Int) - (wrap64 (a2 - a1)))) m2 _ ⟨bc (HL.out.bx 6) 0, trivial⟩ ⟨bc (HL.out.bx 5) 0, trivial⟩ ⟨bc (HL.out.bx 3) 0, trivial⟩ An.out).mono ?_
     rintro e w49 ⟨rfl, hd⟩
     refine ⟨_, rfl, ?_⟩
     replace HL := am (HL.out.drawn hd)
     clear hd
     refine hK.out _ _ ⟨bc (HL.out.bx 7) 0, bc (HL.out.bx 7) 1, bc (HL.out.bx 7) 2, bc (HL.out.bx 6) 0, bc (HL.out.bx 5) 0⟩ (fun hHeld => ?_)
     clear hK K
     refine norm_ (a' := ?_) ?_ ?_
     rotate_left
     ·show Act.put _ (some 59) _ = _
      simp only [Act.put, sa_, s0_, ss_, i64_w, i32_w]
      rfl
     refine pu_ 19 (some 60) ?_ ir7.a25 rfl rfl HT_.out (by kernel_rfl) (fun _ _ _ h => h) (Or.inl ⟨by rfl, ?_⟩) ?_ ?_ ?_; rotate_left
     ·intro w'; go_simp; with_reducible rfl
     rotate_left
     ·simp only [Act.put, sa_, s0_, ss_, i64_w, i32_w]; rfl
     exact norm_ (by simp only [putAll, Act.put, sa_, s0_, ss_]) (hCont (.slice Ac_ cc.length cc_, BS, B11) _ ⟨hHeld, (HL.out.pick [0, 1, 3, 4, 5, 6, 7])⟩)
   ·skip
    refine box_step ?hg (N := 11) ?hd (cs := #[.slice none 0 0, .int .i64 0, .int .i64 0]) (t := 31) ?hr ?_; (case hd => rfl); (case hg => rfl); (case hr => first | (go_simp; done) | (go_simp; rfl))
    intro B11 hg w46 hbox hb
    replace HL := am (HL.out.addBox hg hbox hb)
    clear hb hbox hg
    refine hK.out _ _ ⟨bc (HL.out.bx 6) 0, bc (HL.out.bx 6) 1, bc (HL.out.bx 6) 2, bc (HL.out.bx 5) 0, bc (HL.out.bx 4) 0⟩ (fun hHeld => ?_)
    clear hK K
    refine norm_ (a' := ?_) ?_ ?_
    rotate_left
    ·show Act.put _ (some 11) _ = _
     simp only [Act.put, sa_, s0_, ss_, i64_w, i32_w]
     rfl
    refine one_ (i := 10) (N := some 51) ir7.a21 rfl rfl (one_of HT_.out (by kernel_rfl)) (by decide) (fun K hK => ?_)
    refine gs_ Try.func58 #[.slice (some ⟨BS, 0, none⟩) [y1, l3, y2].length 3] ?_
    (with_reducible refine (slices_Concat_sint64_int64.calls k _ _ [y1, l3, y2] cc _ ?q6s0 ?q6s1 Ac.out).mono ?_)
    (case q6s0 => exact (C_three (HL.out.bx 1) (Kd.C_below HY1.out HL.out.bel) HD1.out (Kd.C_below HR3.out HL.out.bel) HC3.out (Kd.C_below HY2.out HL.out.bel) HD2.out))
    (case q6s1 => exact (Nat.le_refl 3))
    rintro e w47 ⟨vc, rfl, ho, hb⟩
    refine ⟨_, rfl, ?_⟩
    replace HL := am (HL.out.addR hb ho)
    clear hb ho
    obtain ⟨Ac_, cc_, ee_⟩ := Kd.R_slice (HL.out.gR 0)
    subst ee_
    refine hK.out _ _ ⟨bc (HL.out.bx 7) 0, bc (HL.out.bx 7) 1, bc (HL.out.bx 7) 2, bc (HL.out.bx 6) 0, bc (HL.out.bx 5) 0⟩ (fun hHeld => ?_)
    clear hK K
    refine norm_ (a' := ?_) ?_ ?_
    rotate_left
    ·show Act.put _ (some 51) _ = _
     simp only [Act.put, sa_, s0_, ss_, i64_w, i32_w]
     rfl
    refine one_ (i := 14) (N := some 55) ir7.a23 rfl rfl (one_of HT_.out (by kernel_rfl)) (by decide) (fun K hK => ?_)
    refine goesC_ Try.func57 (by kernel_rfl) rfl #[.int .i64 a0_1, .pointer (some ⟨B5, 0, none⟩), .pointer (some ⟨B6, 0, none⟩), .pointer (some ⟨B9, 0, none⟩)] (by rfl) rfl rfl rfl (by simp; rfl) ?_
    refine (impl_replace_1.calls a0_1 _ a1 _ a2 _ (wrap64 ((l3.length : Int) - (wrap64 (a2 - a1)))) m1 _ ⟨bc (HL.out.bx 6) 0, trivial⟩ ⟨bc (HL.out.bx 5) 0, trivial⟩ ⟨bc (HL.out.bx 3) 0, trivial⟩ Am.out).mono ?_
    rintro e w48 ⟨rfl, hd⟩
    refine ⟨_, rfl, ?_⟩
    replace HL := am (HL.out.drawn hd)
    clear hd
    refine hK.out _ _ ⟨bc (HL.out.bx 7) 0, bc (HL.out.bx 7) 1, bc (HL.out.bx 7) 2, bc (HL.out.bx 6) 0, bc (HL.out.bx 5) 0⟩ (fun hHeld => ?_)
    clear hK K
    refine norm_ (a' := ?_) ?_ ?_
    rotate_left
    ·show Act.put _ (some 55) _ = _
     simp only [Act.put, sa_, s0_, ss_, i64_w, i32_w]
     rfl
    refine one_ (i := 18) (N := some 59) ir7.a26 rfl rfl (one_of HT_.out (by kernel_rfl)) (by decide) (fun K hK => ?_)
    refine goesC_ Try.func57 (by kernel_rfl) rfl #[.int .i64 a0_2, .pointer (some ⟨B5, 0, none⟩), .pointer (some ⟨B6, 0, none⟩), .pointer (some ⟨B9, 0, none⟩)] (by rfl) rfl rfl rfl (by simp; rfl) ?_
    refine (impl_replace_1.calls a0_2 _ a1 _ a2 _ (wrap64 ((l3.length : Int) - (wrap64 (a2 - a1)))) m2 _ ⟨bc (HL.out.bx 6) 0, trivial⟩ ⟨bc (HL.out.bx 5) 0, trivial⟩ ⟨bc (HL.out.bx 3) 0, trivial⟩ An.out).mono ?_
    rintro e w49 ⟨rfl, hd⟩
    refine ⟨_, rfl, ?_⟩
    replace HL := am (HL.out.drawn hd)
    clear hd
    refine hK.out _ _ ⟨bc (HL.out.bx 7) 0, bc (HL.out.bx 7) 1, bc (HL.out.bx 7) 2, bc (HL.out.bx 6) 0, bc (HL.out.bx 5) 0⟩ (fun hHeld => ?_)
    clear hK K
    refine norm_ (a' := ?_) ?_ ?_
    rotate_left
    ·show Act.put _ (some 59) _ = _
     simp only [Act.put, sa_, s0_, ss_, i64_w, i32_w]
     rfl
    refine pu_ 19 (some 60) ?_ ir7.a25 rfl rfl HT_.out (by kernel_rfl) (fun _ _ _ h => h) (Or.inl ⟨by rfl, ?_⟩) ?_ ?_ ?_; rotate_left
    ·intro w'; go_simp; with_reducible rfl
    rotate_left
    ·simp only [Act.put, sa_, s0_, ss_, i64_w, i32_w]; rfl
    exact norm_ (by simp only [putAll, Act.put, sa_, s0_, ss_]) (hCont (.slice Ac_ cc.length cc_, BS, B11) _ ⟨hHeld, (HL.out.pick [1, 0, 3, 4, 5, 6, 7])⟩)
  ·skip
   refine box_step ?hg (N := 11) ?hd (cs := #[.slice none 0 0, .int .i64 0, .int .i64 0]) (t := 31) ?hr ?_; (case hd => rfl); (case hg => rfl); (case hr => first | (go_simp; done) | (go_simp; rfl))
   intro B11 hg w45 hbox hb
   replace HL := am (HL.out.addBox hg hbox hb)
   clear hb hbox hg
   refine hK.out _ _ ⟨bc (HL.out.bx 5) 0, bc (HL.out.bx 5) 1, bc (HL.out.bx 5) 2, bc (HL.out.bx 4) 0, bc (HL.out.bx 3) 0⟩ (fun hHeld => ?_)
   clear hK K
   refine norm_ (a' := ?_) ?_ ?_
   rotate_left
   ·show Act.put _ (some 11) _ = _
    simp only [Act.put, sa_, s0_, ss_, i64_w, i32_w]
    rfl
   refine one_ (i := 9) (N := some 50) ir7.a19 rfl rfl (one_of HT_.out (by kernel_rfl)) (by decide) (fun K hK => ?_)
   refine lit_step (n := 3) (cs := #[.slice A0_0 y1.length c0_0, .slice A3 l3.length c3, .slice A1_ y2.length c1_]) (t := 22) ?hg ?hr ?_; (case hg => rfl); (case hr => first | (go_simp; done) | (go_simp; rfl))
   intro BS hg w46 hbox hb
   replace HL := am (HL.out.addBox hg hbox hb)
   clear hb hbox hg
   refine hK.out _ _ ⟨bc (HL.out.bx 6) 0, bc (HL.out.bx 6) 1, bc (HL.out.bx 6) 2, bc (HL.out.bx 5) 0, bc (HL.out.bx 4) 0⟩ (fun hHeld => ?_)
   clear hK K
   refine norm_ (a' := ?_) ?_ ?_
   rotate_left
   ·show Act.put _ (some 50) _ = _
    simp only [Act.put, sa_, s0_, ss_, i64_w, i32_w]
    rfl
   refine one_ (i := 10) (N := some 51) ir7.a21 rfl rfl (one_of HT_.out (by kernel_rfl)) (by decide) (fun K hK => ?_)
   refine gs_ Try.func58 #[.slice (some ⟨BS, 0, none⟩) [y1, l3, y2].length 3] ?_
   (with_reducible refine (slices_Concat_sint64_int64.calls k _ _ [y1, l3, y2] cc _ ?q7s0 ?q7s1 Ac.out).mono ?_)
   (case q7s0 => exact (C_three (HL.out.bx 0) (Kd.C_below HY1.out HL.out.bel) HD1.out (Kd.C_below HR3.out HL.out.bel) HC3.out (Kd.C_below HY2.out HL.out.bel) HD2.out))
   (case q7s1 => exact (Nat.le_refl 3))
   rintro e w47 ⟨vc, rfl, ho, hb⟩
   refine ⟨_, rfl, ?_⟩
   replace HL := am (HL.out.addR hb ho)
   clear hb ho
   obtain ⟨Ac_, cc_, ee_⟩ := Kd.R_slice (HL.out.gR 0)
   subst ee_
   refine hK.out _ _ ⟨bc (HL.out.bx 7) 0, bc (HL.out.bx 7) 1, bc (HL.out.bx 7) 2, bc (HL.out.bx 6) 0, bc (HL.out.bx 5) 0⟩ (fun hHeld => ?_)
   clear hK K
   refine norm_ (a' := ?_) ?_ ?_
   rotate_left
   ·show Act.put _ (some 51) _ = _
    simp only [Act.put, sa_, s0_, ss_, i64_w, i32_w]
    rfl
   refine one_ (i := 14) (N := some 55) ir7.a23 rfl rfl (one_of HT_.out (by kernel_rfl)) (by decide) (fun K hK => ?_)
   refine goesC_ Try.func57 (by kernel_rfl) rfl #[.int .i64 a0_1, .pointer (some ⟨B5, 0, none⟩), .pointer (some ⟨B6, 0, none⟩), .pointer (some ⟨B9, 0, none⟩)] (by rfl) rfl rfl rfl (by simp; rfl) ?_
   refine (impl_replace_1.calls a0_1 _ a1 _ a2 _ (wrap64 ((l3.length : Int) - (wrap64 (a2 - a1)))) m1 _ ⟨bc (HL.out.bx 6) 0, trivial⟩ ⟨bc (HL.out.bx 5) 0, trivial⟩ ⟨bc (HL.out.bx 3) 0, trivial⟩ Am.out).mono ?_
   rintro e w48 ⟨rfl, hd⟩
   refine ⟨_, rfl, ?_⟩
   replace HL := am (HL.out.drawn hd)
   clear hd
   refine hK.out _ _ ⟨bc (HL.out.bx 7) 0, bc (HL.out.bx 7) 1, bc (HL.out.bx 7) 2, bc (HL.out.bx 6) 0, bc (HL.out.bx 5) 0⟩ (fun hHeld => ?_)
   clear hK K
   refine norm_ (a' := ?_) ?_ ?_
   rotate_left
   ·show Act.put _ (some 55) _ = _
    simp only [Act.put, sa_, s0_, ss_, i64_w, i32_w]
    rfl
   refine one_ (i := 18) (N := some 59) ir7.a26 rfl rfl (one_of HT_.out (by kernel_rfl)) (by decide) (fun K hK => ?_)
   refine goesC_ Try.func57 (by kernel_rfl) rfl #[.int .i64 a0_2, .pointer (some ⟨B5, 0, none⟩), .pointer (some ⟨B6, 0, none⟩), .pointer (some ⟨B9, 0, none⟩)] (by rfl) rfl rfl rfl (by simp; rfl) ?_
   refine (impl_replace_1.calls a0_2 _ a1 _ a2 _ (wrap64 ((l3.length : Int) - (wrap64 (a2 - a1)))) m2 _ ⟨bc (HL.out.bx 6) 0, trivial⟩ ⟨bc (HL.out.bx 5) 0, trivial⟩ ⟨bc (HL.out.bx 3) 0, trivial⟩ An.out).mono ?_
   rintro e w49 ⟨rfl, hd⟩
   refine ⟨_, rfl, ?_⟩
   replace HL := am (HL.out.drawn hd)
   clear hd
   refine hK.out _ _ ⟨bc (HL.out.bx 7) 0, bc (HL.out.bx 7) 1, bc (HL.out.bx 7) 2, bc (HL.out.bx 6) 0, bc (HL.out.bx 5) 0⟩ (fun hHeld => ?_)
   clear hK K
   refine norm_ (a' := ?_) ?_ ?_
   rotate_left
   ·show Act.put _ (some 59) _ = _
    simp only [Act.put, sa_, s0_, ss_, i64_w, i32_w]
    rfl
   refine pu_ 19 (some 60) ?_ ir7.a25 rfl rfl HT_.out (by kernel_rfl) (fun _ _ _ h => h) (Or.inl ⟨by rfl, ?_⟩) ?_ ?_ ?_; rotate_left
   ·intro w'; go_simp; with_reducible rfl
   rotate_left
   ·simp only [Act.put, sa_, s0_, ss_, i64_w, i32_w]; rfl
   exact norm_ (by simp only [putAll, Act.put, sa_, s0_, ss_]) (hCont (.slice Ac_ cc.length cc_, BS, B11) _ ⟨hHeld, (HL.out.pick [2, 0, 3, 4, 5, 6, 7])⟩)
 rintro ⟨vc, BS, B11⟩ w60 ⟨hHeld, hl⟩
 dsimp only at hl ⊢
 replace HL := am hl
 clear hl
 obtain ⟨Ac_, cc_, ee_⟩ := Kd.R_slice (HL.out.gR 1)
 subst ee_
 refine norm_ (a' := ?_) ?_ ?_
 rotate_left
 ·simp only [putAll, Act.put, sa_, s0_, ss_, i64_w, i32_w]
  rfl
 refine one_ (i := 21) (N := none) ir7.a27 rfl rfl (one_of HT_.out (by kernel_rfl)) (by decide) (fun K hK => ?_)
 obtain ⟨y_0, z_0, y_1, z_1, y_2, z_2⟩ := cells3 (HL.out.bx 0)
 refine skip_ (w1 := putc w60 B11 0 [.slice Ac_ cc.length cc_, .int .i64 m1, .int .i64 m2]) (by rfl) rfl (by go_simp; rfl) ?_
 replace HL := am (HL.out.fil0 [.slice Ac_ cc.length cc_, .int .i64 m1, .int .i64 m2] rfl)
 clear y_0 z_0 y_1 z_1 y_2 z_2
 refine hK.out _ _ ⟨bc (HL.out.bx 6) 0, bc (HL.out.bx 6) 1, bc (HL.out.bx 6) 2, bc (HL.out.bx 5) 0, bc (HL.out.bx 4) 0⟩ (fun hHeld => ?_)
 clear hK K
 generalize putc w60 B11 0 [.slice Ac_ cc.length cc_, .int .i64 m1, .int .i64 m2] = w61 at HL hHeld ⊢
 refine done_ (done_of HT_.out (by kernel_rfl)) ?_
 obtain ⟨hB5_0, fB5_0⟩ := cells1 (HL.out.bx 5)
 obtain ⟨hB6_0, fB6_0⟩ := cells1 (HL.out.bx 4)
 obtain ⟨hB4_0, fB4_0, hB4_1, fB4_1, hB4_2, fB4_2⟩ := cells3 (HL.out.bx 6)
 go_wp2
 clear hB5_0 fB5_0 hB6_0 fB6_0 hB4_0 fB4_0 hB4_1 fB4_1 hB4_2 fB4_2
 replace HL := am HL.out.drew
 refine start_ (n := 6) (S := fun w' => w'.cell? ⟨B5, 0, none⟩ = some (.int .i64 a1)) (ds := []) ir9.a0 (by kernel_rfl) rfl rfl (bc (HL.out.bx 5) 0) (fun hHeld => ?_); refine with_tabW ir9.tab ir9.bits (fun HT_ HW_ => ?_)
 generalize w61.drew = w62 at HL hHeld ⊢
 refine tk_ 0 (some 70) ?_ ir9.a1 rfl rfl HT_.out HW_.out (by kernel_rfl) (fun _ _ _ h => h) (Or.inl ⟨by rfl, ?_⟩) hHeld ?_ ?_ ?_; rotate_left
 ·rintro w' s0; go_simp; with_reducible rfl
 rotate_left
 ·simp only [Act.put, sa_, s0_, ss_, i64_w, i32_w]; rfl
 refine pu_ 1 (some 71) ?_ ir9.a2 rfl rfl HT_.out (by kernel_rfl) (fun _ _ _ h => h) (Or.inl ⟨by rfl, ?_⟩) ?_ ?_ ?_; rotate_left
 ·intro w'; go_simp; with_reducible rfl
 rotate_left
 ·simp only [Act.put, sa_, s0_, ss_, i64_w, i32_w]; rfl
 refine one_ (i := 2) (N := some 72) ir9.a3 rfl rfl (one_of HT_.out (by kernel_rfl)) (by decide) (fun K hK => ?_)
 refine gs_ Try.func56 #[.slice A3 l3.length c3] ?_
 (with_reducible refine (impl_size_int64.calls _ _ l3 (l3.length : Int) _ rfl).mono ?_)
 rintro e w63 ⟨rfl, hd⟩
 refine ⟨_, rfl, ?_⟩
 replace HL := am (HL.out.drawn hd)
 clear hd
 refine hK.out _ _ (bc (HL.out.bx 5) 0) (fun hHeld => ?_)
 clear hK K
 refine norm_ (a' := ?_) ?_ ?_
 rotate_left
 ·show Act.put _ (some 72) _ = _
  simp only [Act.put, sa_, s0_, ss_, i64_w, i32_w]
  rfl
 refine pu_ 3 (some 73) ?_ ir9.a4 rfl rfl HT_.out (by kernel_rfl) (fun _ _ _ h => h) (Or.inl ⟨by rfl, ?_⟩) ?_ ?_ ?_; rotate_left
 ·intro w'; go_simp; with_reducible rfl
 rotate_left
 ·simp only [Act.put, sa_, s0_, ss_, i64_w, i32_w]; rfl
 refine pu_ 4 (some 74) ?_ ir9.a5 rfl rfl HT_.out (by kernel_rfl) (fun _ _ _ h => h) (Or.inl ⟨by rfl, ?_⟩) ?_ ?_ ?_; rotate_left
 ·intro w'; go_simp; with_reducible rfl
 rotate_left
 ·simp only [Act.put, sa_, s0_, ss_, i64_w, i32_w]; rfl
 refine one_ (i := 5) (N := none) ir9.a6 rfl rfl (one_of HT_.out (by kernel_rfl)) (by decide) (fun K hK => ?_)
 obtain ⟨y_0, z_0, y_1, z_1, y_2, z_2⟩ := cells3 (HL.out.bx 0)
 refine skip_ (w1 := putc w63 B11 1 [.int .i64 (wrap64 (a1 + (l3.length : Int)))]) (by rfl) rfl (by go_simp; rfl) ?_
 replace HL := am (HL.out.fil 0 1 [.int .i64 (wrap64 (a1 + (l3.length : Int)))] rfl)
 clear y_0 z_0 y_1 z_1 y_2 z_2
 refine hK.out _ _ (bc (HL.out.bx 5) 0) (fun hHeld => ?_)
 clear hK K
 generalize putc w63 B11 1 [.int .i64 (wrap64 (a1 + (l3.length : Int)))] = w64 at HL hHeld ⊢
 refine done_ (done_of HT_.out (by kernel_rfl)) ?_
 go_wp2
 replace HL := am HL.out.drew
 refine start_ (n := 9) (S := fun w' => w'.cell? ⟨B11, 0, none⟩ = some (.slice Ac_ cc.length cc_) ∧ w'.cell? ⟨B11, 1, none⟩ = some (.int .i64 (wrap64 (a1 + (l3.length : Int)))) ∧ w'.cell? ⟨B11, 2, none⟩ = some (.int .i64 m2) ∧ w'.cell? ⟨B4, 0, none⟩ = some (.slice A0_0 l0_0.length c0_0) ∧ w'.cell? ⟨B5, 0, none⟩ = some (.int .i64 a1) ∧ w'.cell? ⟨B6, 0, none⟩ = some (.int .i64 a2)) (ds := []) ir10.a0 (by kernel_rfl) rfl rfl ⟨bc (HL.out.bx 0) 0, bc (HL.out.bx 0) 1, bc (HL.out.bx 0) 2, bc (HL.out.bx 6) 0, bc (HL.out.bx 5) 0, bc (HL.out.bx 4) 0⟩ (fun hHeld => ?_); refine with_tabW ir10.tab ir10.bits (fun HT_ HW_ => ?_)
 generalize w64.drew = w65 at HL hHeld ⊢
 refine pu_ 1 (some 76) ?_ ir10.a1 rfl rfl HT_.out (by kernel_rfl) (fun _ _ _ h => h) (Or.inl ⟨by rfl, ?_⟩) ?_ ?_ ?_; rotate_left
 ·intro w'; go_simp; with_reducible rfl
 rotate_left
 ·simp only [Act.put, sa_, s0_, ss_, i64_w, i32_w]; rfl
 refine tk_ 0 (some 75) ?_ ir10.a2 rfl rfl HT_.out HW_.out (by kernel_rfl) (fun _ _ _ h => h) (Or.inl ⟨by rfl, ?_⟩) hHeld ?_ ?_ ?_; rotate_left
 ·rintro w' ⟨s0, s1, s2, s3, s4, s5⟩; go_simp; with_reducible rfl
 rotate_left
 ·simp only [Act.put, sa_, s0_, ss_, i64_w, i32_w]; rfl
 refine tk_ 2 (some 77) ?_ ir10.a3 rfl rfl HT_.out HW_.out (by kernel_rfl) (fun _ _ _ h => h) (Or.inl ⟨by rfl, ?_⟩) hHeld ?_ ?_ ?_; rotate_left
 ·rintro w' ⟨s0, s1, s2, s3, s4, s5⟩; go_simp; with_reducible rfl
 rotate_left
 ·simp only [Act.put, sa_, s0_, ss_, i64_w, i32_w]; rfl
 refine tk_ 3 (some 78) ?_ ir10.a4 rfl rfl HT_.out HW_.out (by kernel_rfl) (fun _ _ _ h => h) (Or.inl ⟨by rfl, ?_⟩) hHeld ?_ ?_ ?_; rotate_left
 ·rintro w' ⟨s0, s1, s2, s3, s4, s5⟩; go_simp; with_reducible rfl
 rotate_left
 ·simp only [Act.put, sa_, s0_, ss_, i64_w, i32_w]; rfl
 refine tk_ 4 (some 79) ?_ ir10.a5 rfl rfl HT_.out HW_.out (by kernel_rfl) (fun _ _ _ h => h) (Or.inl ⟨by rfl, ?_⟩) hHeld ?_ ?_ ?_; rotate_left
 ·rintro w' ⟨s0, s1, s2, s3, s4, s5⟩; go_simp; with_reducible rfl
 rotate_left
 ·simp only [Act.put, sa_, s0_, ss_, i64_w, i32_w]; rfl
 refine pu_ 5 (some 80) ?_ ir10.a6 rfl rfl HT_.out (by kernel_rfl) (fun _ _ _ h => h) (Or.inl ⟨by rfl, ?_⟩) ?_ ?_ ?_; rotate_left
 ·intro w'; go_simp; with_reducible rfl
 rotate_left
 ·simp only [Act.put, sa_, s0_, ss_, i64_w, i32_w]; rfl
 refine one_ (i := 6) (N := some 81) ir10.a7 rfl rfl (one_of HT_.out (by kernel_rfl)) (by decide) (fun K hK => ?_)
 refine gs_ Try.func52 #[.slice A2_ y3.length c2_] ?_
 (with_reducible refine (slices_Clone_sint64_int64.calls _ _ y3 gg _ ?q9s0 ?q9s1 Ag.out).mono ?_)
 (case q9s0 => exact (Kd.C_below HY3.out HL.out.bel))
 (case q9s1 => exact HD3.out)
 rintro e w66 ⟨vd, rfl, ho, hb⟩
 refine ⟨_, rfl, ?_⟩
 replace HL := am (HL.out.addR hb ho)
 clear hb ho
 obtain ⟨Ad_, cd_, ee_⟩ := Kd.R_slice (HL.out.gR 0)
 subst ee_
 refine hK.out _ _ ⟨bc (HL.out.bx 1) 0, bc (HL.out.bx 1) 1, bc (HL.out.bx 1) 2, bc (HL.out.bx 7) 0, bc (HL.out.bx 6) 0, bc (HL.out.bx 5) 0⟩ (fun hHeld => ?_)
 clear hK K
 refine norm_ (a' := ?_) ?_ ?_
 rotate_left
 ·show Act.put _ (some 81) _ = _
  simp only [Act.put, sa_, s0_, ss_, i64_w, i32_w]
  rfl
 refine pu_ 7 (some 82) ?_ ir10.a8 rfl rfl HT_.out (by kernel_rfl) (fun _ _ _ h => h) (Or.inl ⟨by rfl, ?_⟩) ?_ ?_ ?_; rotate_left
 ·intro w'; go_simp; with_reducible rfl
 rotate_left
 ·simp only [Act.put, sa_, s0_, ss_, i64_w, i32_w]; rfl
 refine one_ (i := 8) (N := none) ir10.a9 rfl rfl (one_of HT_.out (by kernel_rfl)) (by decide) (fun K hK => ?_)
 obtain ⟨y_0, z_0, y_1, z_1, y_2, z_2, y_3, z_3, y_4, z_4⟩ := cells5 (HL.out.bx 4)
 refine skip_ (w1 := putc w66 B8 0 [.slice Ac_ cc.length cc_, .int .i64 (wrap64 (a1 + (l3.length : Int))), .int .i64 m2, .slice Ad_ gg.length cd_, .int .i64 0]) (by rfl) rfl (by go_simp; rfl) ?_
 replace HL := am (HL.out.fil 4 0 [.slice Ac_ cc.length cc_, .int .i64 (wrap64 (a1 + (l3.length : Int))), .int .i64 m2, .slice Ad_ gg.length cd_, .int .i64 0] rfl)
 clear y_0 z_0 y_1 z_1 y_2 z_2 y_3 z_3 y_4 z_4
 refine hK.out _ _ ⟨bc (HL.out.bx 1) 0, bc (HL.out.bx 1) 1, bc (HL.out.bx 1) 2, bc (HL.out.bx 7) 0, bc (HL.out.bx 6) 0, bc (HL.out.bx 5) 0⟩ (fun hHeld => ?_)
 clear hK K
 generalize putc w66 B8 0 [.slice Ac_ cc.length cc_, .int .i64 (wrap64 (a1 + (l3.length : Int))), .int .i64 m2, .slice Ad_ gg.length cd_, .int .i64 0] = w67 at HL hHeld ⊢
 refine done_ (done_of HT_.out (by kernel_rfl)) ?_
 go_wp2
 refine bodyPost_ret (results_cell_row rfl _ _ B8 49 #[.slice Ac_ cc.length cc_, .int .i64 (wrap64 (a1 + (l3.length : Int))), .int .i64 m2, .slice Ad_ gg.length cd_, .int .i64 0] (0, 0) _ rfl (HL.out.bx 4) Try.underlying49 rfl (by kernel_rfl)) rfl ?_
 exact ⟨_, _, by first | rfl | (simp; done), (HL.out.pick [2, 0])⟩

end Go.Proofs.Ytabinbmcfeknjaa.PFnExactUndoRun
