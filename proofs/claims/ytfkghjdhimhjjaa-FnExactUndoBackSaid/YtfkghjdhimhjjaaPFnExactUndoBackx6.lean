-- Written by xprint.py (this claim's own program, over the kit's printer); Lean checks it.
import Derived.Test.YtfkghjdhimhjjaaPFnExactUndoBackx0
import Derived.Test.YtfkghjdhimhjjaaPFnExactUndoBackx4
import Derived.Test.YtfkghjdhimhjjaaPFnExactUndoBackx5
namespace Go.Proofs.Ytfkghjdhimhjjaa.PFnExactUndoBack
open Go.RowKit Go.Proofs.YtfkghjdhimhjjaaW.PrintWords Go.Proofs.YtfkghjdhimhjjaaW.PrintLast Go.Proofs.YtfkghjdhimhjjaaW.PrintMore
attribute [local go_sem] max2_int min2_int max_two min_two max_three min_three max_four min_four   -- for this text's walks alone
set_option linter.unusedVariables false
set_option linter.unusedSimpArgs false   -- squeezed
set_option maxHeartbeats 8000000
set_option maxRecDepth 100000

/-! ### impl_UndoBack: function 16 -/
section
variable {α : Type} {d : Kd α} {e : Nat} {w w1 w2 W : World} {base a b c b' : Nat} {ok T S : Nat → Prop} {v : Value} {xs : List α}
/-- The blocks from a up to b. -/
def Rg (a b k : Nat) : Prop := a ≤ k ∧ k < b
theorem Rg_no {P : Prop} {k : Nat} (h1 : Rg a b k) (h2 : Rg c b' k) (h : b ≤ c ∨ b' ≤ a) : P := absurd h1.1 (fun h3 => by have := h1.1; have := h1.2; have := h2.1; have := h2.2; omega)
theorem Rg_ne {k g : Nat} (h1 : Rg a b k) (h : b ≤ g ∨ g < a) : k ≠ g := by have := h1.1; have := h1.2; omega
theorem R_rg (ha : a = w.heap.size) (hb : b = w2.heap.size) (hW : base ≤ w.heap.size) (h : d.R e w2 w.heap.size ok v xs) : d.R e w2 base (fun k_ => Rg a b k_ ∧ ok k_) v xs := by
 subst ha hb
 exact Kd.R_lower (Kd.R_mono (Kd.R_bound h) (fun k hk => ⟨⟨hk.2.1, hk.2.2.1⟩, hk.1⟩)) hW
theorem S_rg (ha : a = w.heap.size) (hb : b = w2.heap.size) (hW : base ≤ w.heap.size) (h : Kd.S d e w2 w.heap.size ok v xs) : Kd.S d e w2 base (fun k_ => Rg a b k_ ∧ ok k_) v xs := by
 subst ha hb
 exact Kd.S_lower (Kd.S_mono (Kd.S_bound h) (fun k hk => ⟨⟨hk.2.1, hk.2.2.1⟩, hk.1⟩)) hW
theorem R_farR {g j : Nat} (h : d.R e W base (fun k_ => Rg a b k_ ∧ T k_) v xs) (hg : b ≤ g ∨ g < a) (u : Value) : d.R e (W.setCell ⟨g, j, none⟩ u) base (fun k_ => Rg a b k_ ∧ T k_) v xs := Kd.R_far h (fun k_ hk_ => Rg_ne hk_.1 hg) u
theorem S_farR {g j : Nat} (h : Kd.S d e W base (fun k_ => Rg a b k_ ∧ T k_) v xs) (hg : b ≤ g ∨ g < a) (u : Value) : Kd.S d e (W.setCell ⟨g, j, none⟩ u) base (fun k_ => Rg a b k_ ∧ T k_) v xs := Kd.S_far h (fun k_ hk_ => Rg_ne hk_.1 hg) u
theorem nxt_ (h : Below w.heap.size w w2) : ∃ a b : Nat, a = w.heap.size ∧ b = w2.heap.size ∧ a ≤ b := ⟨_, _, rfl, rfl, h.size⟩
theorem sz_set {n : Nat} {p : Addr} {u : Value} (h : n ≤ w.heap.size) : n ≤ (w.setCell p u).heap.size := by rw [World.size_setCell]; exact h
end
def impl_UndoBack.j0 : Nat → Int → Bool → List (S39) → List (S39) → List Int → Int → Int → Option ((List (S39)) × (List (S39)) × List Int × Int × Int × Int)
 | 0, _, _, _, _, _, _, _ => none
 | k + 1, x5, x10, x232000, x232001, x233000, x233001, x233002 => if x10 = true then (some (([] : List (S39)), ([] : List (S39)), ([] : List Int), 0, 0, 1)) else (if x5 < 0 then (some (([] : List (S39)), ([] : List (S39)), ([] : List Int), 0, 0, 4)) else (if 0 ≤ x5 then (if x5 ≤ (x232000.length : Int) then ((impl_ownBufs.f k (x232000.take (x5 : Int).toNat)).bind fun t240 => ((impl_behindBufs.f k x232001 x233000 x233001 x233002).bind fun t243 => (if x5 < (x232000.length : Int) then ((impl_ownBuf.f ((rd_T39 x232000 x5).f0) ((rd_T39 x232000 x5).f1) ((rd_T39 x232000 x5).f2)).bind fun bt247 => (some (t240, t243, bt247.1, bt247.2.1, bt247.2.2, 0))) else (none)))) else (none)) else (none)))
def impl_UndoBack.f (k : Nat) (l0_0 : List (S39)) (l0_1 : List (S39)) (l1_0 : List Int) (a1_1 : Int) (a1_2 : Int) : Option ((List (S39)) × (List (S39)) × List Int × Int × Int × Int) := (impl_UndoRight.f k l0_0 l0_1).bind fun t234 => (if t234 = true then ((impl_BufRight.f k l1_0 a1_1 a1_2).bind fun t235 => (impl_UndoBack.j0 k (wrap64 ((l0_0.length : Int) - 1)) (!t235) l0_0 l0_1 l1_0 a1_1 a1_2)) else (impl_UndoBack.j0 k (wrap64 ((l0_0.length : Int) - 1)) true l0_0 l0_1 l1_0 a1_1 a1_2))
theorem impl_UndoBack.mono_l : ∀ k, (∀ y0 y1 y2 y3 y4 y5 y6, LeO (impl_UndoBack.j0 k y0 y1 y2 y3 y4 y5 y6) (impl_UndoBack.j0 (k + 1) y0 y1 y2 y3 y4 y5 y6))
 | 0 => fun _ _ _ _ _ _ _ r h => by simp [impl_UndoBack.j0] at h
 | k + 1 => by
  have ih0 := impl_UndoBack.mono_l k
  ·intro y0 y1 y2 y3 y4 y5 y6
   unfold impl_UndoBack.j0
   repeat' first
   | (with_reducible exact ih0 _ _ _ _ _ _ _)
   | (with_reducible exact impl_BufRight.mono _ _ _ _)
   | (with_reducible exact impl_UndoRight.mono _ _ _)
   | (with_reducible exact impl_behindBufs.mono _ _ _ _ _)
   | (with_reducible exact impl_ownBufs.mono _ _)
   | (with_reducible exact LeO.refl _)
   | (with_reducible exact LeO.none _)
   | (with_reducible refine LeO.ite ?_ ?_)
   | (with_reducible refine LeO.bind ?_ (fun _ => ?_))
   | exact ih0 _ _ _ _ _ _ _
   | exact impl_BufRight.mono _ _ _ _
   | exact impl_UndoRight.mono _ _ _
   | exact impl_behindBufs.mono _ _ _ _ _
   | exact impl_ownBufs.mono _ _
   | refine LeO.bind ?_ (fun _ => ?_)
theorem impl_UndoBack.mono : ∀ a0 a1 a2 a3 a4 k, LeO (impl_UndoBack.f k a0 a1 a2 a3 a4) (impl_UndoBack.f (k + 1) a0 a1 a2 a3 a4) := by
 intro a0 a1 a2 a3 a4 k
 have ih0 := impl_UndoBack.mono_l k
 unfold impl_UndoBack.f
 repeat' first
   | (with_reducible exact ih0 _ _ _ _ _ _ _)
   | (with_reducible exact impl_BufRight.mono _ _ _ _)
   | (with_reducible exact impl_UndoRight.mono _ _ _)
   | (with_reducible exact impl_behindBufs.mono _ _ _ _ _)
   | (with_reducible exact impl_ownBufs.mono _ _)
   | (with_reducible exact LeO.refl _)
   | (with_reducible exact LeO.none _)
   | (with_reducible refine LeO.ite ?_ ?_)
   | (with_reducible refine LeO.bind ?_ (fun _ => ?_))
   | exact ih0 _ _ _ _ _ _ _
   | exact impl_BufRight.mono _ _ _ _
   | exact impl_UndoRight.mono _ _ _
   | exact impl_behindBufs.mono _ _ _ _ _
   | exact impl_ownBufs.mono _ _
   | refine LeO.bind ?_ (fun _ => ?_)
def impl_UndoBack.T6 : Bool × List (List Nat × List Nat) := (true, [([], []), ([0], [0]), ([], []), ([1, 2], [1, 2]), ([3], [3]), ([], []), ([5], [5]), ([], []), ([6, 7, 4], [6, 7]), ([4, 8], [4, 8]), ([], []), ([10], [10]), ([], []), ([11, 12], [11, 12]), ([13], [13]), ([14, 8], [14]), ([9, 15], [9, 15]), ([16, 15, 0, 1, 2, 3, 4, 5, 6, 7, 8, 9, 10, 11, 12, 13, 14, 15, 16], [16])])
def impl_UndoBack.B6 : List Nat := [0, 1, 0, 7, 15, 0, 32, 0, 255, 511, 0, 1024, 0, 7168, 15360, 32255, 65535, 131071]
theorem impl_UndoBack.tab6 : rtab .any (opsOf Try.f16 6) = impl_UndoBack.T6 := by kernel_rfl
theorem impl_UndoBack.bits6 : waitsOk impl_UndoBack.T6.2 impl_UndoBack.B6 = true := by kernel_rfl
theorem impl_UndoBack.callsA (k : Nat) (A0_0 : Option Addr) (c0_0 : Nat) (l0_0 : List (S39)) (A0_1 : Option Addr) (c0_1 : Nat) (l0_1 : List (S39)) (A1_0 : Option Addr) (c1_0 : Nat) (l1_0 : List Int) (a1_1 : Int) (a1_2 : Int) (r1 : List (S39)) (r2 : List (S39)) (r3 : List Int) (r4 : Int) (r5 : Int) (r6 : Int) (w : World) (hr0_0 : Kd.C k39 w A0_0 l0_0.length l0_0) (hc0_0 : l0_0.length ≤ c0_0) (hr0_1 : Kd.C k39 w A0_1 l0_1.length l0_1) (hc0_1 : l0_1.length ≤ c0_1) (hr1_0 : Kd.C (Kd.int .i64) w A1_0 l1_0.length l1_0) (hc1_0 : l1_0.length ≤ c1_0) (h : impl_UndoBack.f k l0_0 l0_1 l1_0 a1_1 a1_2 = some (r1, r2, r3, r4, r5, r6)) :
  Calls Try.prog 16 #[.agg #[.slice A0_0 l0_0.length c0_0, .slice A0_1 l0_1.length c0_1], .agg #[.slice A1_0 l1_0.length c1_0, .int .i64 a1_1, .int .i64 a1_2]] w fun e w' => ∃ m1_ m2_ : Nat, (w.heap.size ≤ m1_ ∧ m1_ ≤ m2_ ∧ m2_ ≤ w'.heap.size) ∧ ∃ v0_ v1_ v2_ : Value, e = .returned (.agg #[v0_, v1_, v2_, .int .i64 r4, .int .i64 r5, .int .i64 r6]) ∧ Kd.S k39 39 w' w.heap.size (fun k_ => k_ < m1_) v0_ r1 ∧ Kd.T k39 39 w' w.heap.size (fun k_ => m1_ ≤ k_ ∧ k_ < m2_) v1_ r2 ∧ Kd.R (Kd.int .i64) 2 w' w.heap.size (fun k_ => m2_ ≤ k_) v2_ r3 ∧ Below w.heap.size w w' := by
 have hu36 := Try.underlying36
 have hu39 := Try.underlying39
 have hu43 := Try.underlying43
 have HR0_0 := am hr0_0
 have HC0_0 := am hc0_0
 clear hr0_0 hc0_0
 have HR0_1 := am hr0_1
 have HC0_1 := am hc0_1
 clear hr0_1 hc0_1
 have HR1_0 := am hr1_0
 have HC1_0 := am hc1_0
 clear hr1_0 hc1_0
 have HB := am (Below.refl w.heap.size w)
 have H : ((impl_UndoRight.f k l0_0 l0_1).bind fun t234 => (if t234 = true then ((impl_BufRight.f k l1_0 a1_1 a1_2).bind fun t235 => (impl_UndoBack.j0 k (wrap64 ((l0_0.length : Int) - 1)) (!t235) l0_0 l0_1 l1_0 a1_1 a1_2)) else (impl_UndoBack.j0 k (wrap64 ((l0_0.length : Int) - 1)) true l0_0 l0_1 l1_0 a1_1 a1_2))) = some (r1, r2, r3, r4, r5, r6) := h
 clear h
 have HC3 := Aside0.mk H
 clear H
 go_enter Try.func16, Try.ntmps16
 go_upto_region 2 with (first | ((with_reducible refine gate_dst (N := 2) rfl ?_); refine box_event ?hg (N := 2) ?hd (cs := #[.slice A0_0 l0_0.length c0_0, .slice A0_1 l0_1.length c0_1]) (t := 36) ?hr ?_; (case hd => rfl); (case hg => rfl); (case hr => first | (go_simp; done) | (go_simp; rfl)); intro gb231 hg w4 hbox hb; have BK231 := am (hbox); have GW231 := am ((by rw [hg]; exact (below_size (bl HB.out)) : w.heap.size ≤ gb231)); have GE231 := GW231; replace HB := am (below_step (bl HB.out) hb); clear hb hbox hg) | ((with_reducible refine gate_dst (N := 3) rfl ?_); refine box_event ?hg (N := 3) ?hd (cs := #[.slice A1_0 l1_0.length c1_0, .int .i64 a1_1, .int .i64 a1_2]) (t := 39) ?hr ?_; (case hd => rfl); (case hg => rfl); (case hr => first | (go_simp; done) | (go_simp; rfl)); intro gb232 hg w5 hbox hb; have BK232 := am (hbox); have GW232 := am ((by rw [hg]; exact (below_size (bl HB.out)) : w.heap.size ≤ gb232)); have GE232 := GW232; replace HB := am (below_step (bl HB.out) hb); have NB231_232 := am ((by rw [hg]; exact Nat.ne_of_lt (blk_lt (pk BK231.out)) : gb231 ≠ gb232)); have NB232_231 := am ((by rw [hg]; exact Nat.ne_of_gt (blk_lt (pk BK231.out)) : gb232 ≠ gb231)); replace BK231 := am (blk_below (pk BK231.out) hb); clear hb hbox hg) | ((with_reducible refine gate_dst (N := 4) rfl ?_); refine box_event ?hg (N := 4) ?hd (cs := #[.slice none 0 0, .slice none 0 0, .slice none 0 0, .int .i64 0, .int .i64 0, .int .i64 0]) (t := 43) ?hr ?_; (case hd => rfl); (case hg => rfl); (case hr => first | (go_simp; done) | (go_simp; rfl)); intro gb233 hg w6 hbox hb; have BK233 := am (hbox); have GW233 := am ((by rw [hg]; exact (below_size (bl HB.out)) : w.heap.size ≤ gb233)); have GE233 := GW233; replace HB := am (below_step (bl HB.out) hb); have NB231_233 := am ((by rw [hg]; exact Nat.ne_of_lt (blk_lt (pk BK231.out)) : gb231 ≠ gb233)); have NB233_231 := am ((by rw [hg]; exact Nat.ne_of_gt (blk_lt (pk BK231.out)) : gb233 ≠ gb231)); replace BK231 := am (blk_below (pk BK231.out) hb); have NB232_233 := am ((by rw [hg]; exact Nat.ne_of_lt (blk_lt (pk BK232.out)) : gb232 ≠ gb233)); have NB233_232 := am ((by rw [hg]; exact Nat.ne_of_gt (blk_lt (pk BK232.out)) : gb233 ≠ gb232)); replace BK232 := am (blk_below (pk BK232.out) hb); clear hb hbox hg; have hnb7 := NB231_232.out; have hnc7 := NB232_231.out; have hnb8 := NB231_233.out; have hnc8 := NB233_231.out; have hcz9_0 : w6.cell? ⟨gb231, 0, none⟩ = some (.slice A0_0 l0_0.length c0_0) := bc BK231.out 0; have hcz9_1 : w6.cell? ⟨gb231, 1, none⟩ = some (.slice A0_1 l0_1.length c0_1) := bc BK231.out 1; have hfz9_0 := blk_frozen BK231.out 0; have hfz9_1 := blk_frozen BK231.out 1))
 (try simp only [Act.put, sa_, s0_, ss_])
 go_cut [10] (fun v10 wc => ∃ (kq : Nat) (x10_2 : Bool), v10 = .bool x10_2 ∧ Aside0 (impl_UndoBack.j0 kq (wrap64 ((l0_0.length : Int) - 1)) x10_2 l0_0 l0_1 l1_0 a1_1 a1_2 = some (r1, r2, r3, r4, r5, r6)) ∧ Aside0 (kq ≤ k) ∧ Aside0 (wc.heap[gb231]? = some (.cells #[(.slice A0_0 l0_0.length c0_0), (.slice A0_1 l0_1.length c0_1)] 36 (0, 0))) ∧ Aside0 (wc.heap[gb232]? = some (.cells #[(.slice A1_0 l1_0.length c1_0), .int .i64 a1_1, .int .i64 a1_2] 39 (0, 0))) ∧ Aside0 (wc.heap[gb233]? = some (.cells #[(.slice none 0 0), (.slice none 0 0), (.slice none 0 0), .int .i64 0, .int .i64 0, .int .i64 0] 43 (0, 0))) ∧ Aside0 (Below w.heap.size w wc))
 case first =>
  have H := HC3.out
  clear HC3
  replace H := Option.bind_eq_some_iff.mp H
  obtain ⟨t234, A100, H⟩ := H
  replace H : (if t234 = true then ((impl_BufRight.f k l1_0 a1_1 a1_2).bind fun t235 => (impl_UndoBack.j0 k (wrap64 ((l0_0.length : Int) - 1)) (!t235) l0_0 l0_1 l1_0 a1_1 a1_2)) else (impl_UndoBack.j0 k (wrap64 ((l0_0.length : Int) - 1)) true l0_0 l0_1 l1_0 a1_1 a1_2)) = some (r1, r2, r3, r4, r5, r6) := H
  have A10 := Aside0.mk A100
  clear A100
  by_cases c11 : t234 = true
  ·subst c11
   have H1 : ((impl_BufRight.f k l1_0 a1_1 a1_2).bind fun t235 => (impl_UndoBack.j0 k (wrap64 ((l0_0.length : Int) - 1)) (!t235) l0_0 l0_1 l1_0 a1_1 a1_2)) = some (r1, r2, r3, r4, r5, r6) := by rw [if_pos rfl] at H; exact H
   clear H
   have H := H1
   clear H1
   replace H := Option.bind_eq_some_iff.mp H
   obtain ⟨t235, A120, H⟩ := H
   replace H : (impl_UndoBack.j0 k (wrap64 ((l0_0.length : Int) - 1)) (!t235) l0_0 l0_1 l1_0 a1_1 a1_2) = some (r1, r2, r3, r4, r5, r6) := H
   have A12 := Aside0.mk A120
   clear A120
   have H' := Aside0.mk H
   clear H
   have hnb13 := NB231_232.out
   have hnc13 := NB232_231.out
   have hnb14 := NB231_233.out
   have hnc14 := NB233_231.out
   have hcz15_0 : w6.cell? ⟨gb231, 0, none⟩ = some (.slice A0_0 l0_0.length c0_0) := bc BK231.out 0
   have hcz15_1 : w6.cell? ⟨gb231, 1, none⟩ = some (.slice A0_1 l0_1.length c0_1) := bc BK231.out 1
   have hfz15_0 := blk_frozen BK231.out 0
   have hfz15_1 := blk_frozen BK231.out 1
   go_wp2_with (first | ((with_reducible refine gate_callee (f := 18) rfl ?_); refine gl (some 12) Try.func18 #[.agg #[.slice A0_0 l0_0.length c0_0, .slice A0_1 l0_1.length c0_1]] ?_; (with_reducible refine (impl_UndoRight.calls k _ _ l0_0 _ _ l0_1 true _ ?side1 ?side2 ?side3 ?side4 A10.out).mono ?_); (case side1 => repeat (first | exact (Kd.C_below HR0_0.out HB.out) | (with_reducible refine Kd.C_alloc ?_ _) | (with_reducible refine Kd.C_drewN ?_ _) | (with_reducible refine Kd.C_drew ?_))); (case side2 => exact HC0_0.out); (case side3 => repeat (first | exact (Kd.C_below HR0_1.out HB.out) | (with_reducible refine Kd.C_alloc ?_ _) | (with_reducible refine Kd.C_drewN ?_ _) | (with_reducible refine Kd.C_drew ?_))); (case side4 => exact HC0_1.out); rintro e w16 ⟨rfl, hb⟩; refine ⟨_, rfl, ?_⟩; replace BK231 := am (blk_below (pk BK231.out) hb); replace BK232 := am (blk_below (pk BK232.out) hb); replace BK233 := am (blk_below (pk BK233.out) hb); replace HB := am (below_step (bl HB.out) hb); (try clear hb); (try clear hb2); (try clear hk); (try clear hi); have hnb17 := NB232_233.out; have hnc17 := NB233_232.out; have hcz18_0 : w16.cell? ⟨gb232, 0, none⟩ = some (.slice A1_0 l1_0.length c1_0) := bc BK232.out 0; have hcz18_1 : w16.cell? ⟨gb232, 1, none⟩ = some (.int .i64 a1_1) := bc BK232.out 1; have hcz18_2 : w16.cell? ⟨gb232, 2, none⟩ = some (.int .i64 a1_2) := bc BK232.out 2; have hfz18_0 := blk_frozen BK232.out 0; have hfz18_1 := blk_frozen BK232.out 1; have hfz18_2 := blk_frozen BK232.out 2) | (go_at_call 63; (with_reducible refine (impl_BufRight.calls k _ _ l1_0 a1_1 a1_2 t235 _ ?side1 ?side2 A12.out).mono ?_); (case side1 => repeat (first | exact (Kd.C_below HR1_0.out HB.out) | (with_reducible refine Kd.C_alloc ?_ _) | (with_reducible refine Kd.C_drewN ?_ _) | (with_reducible refine Kd.C_drew ?_))); (case side2 => exact HC1_0.out); rintro e w19 ⟨rfl, hb⟩; replace BK231 := am (blk_below (pk BK231.out) hb); replace BK232 := am (blk_below (pk BK232.out) hb); replace BK233 := am (blk_below (pk BK233.out) hb); replace HB := am (below_step (bl HB.out) hb); (try clear hb); (try clear hb2); (try clear hk); (try clear hi)))
   go_meet
   case rel => exact ⟨_, (!t235), (by first | rfl | (simp; done) | (simp [*]; done)), H', ⟨by first | omega | exact Nat.le_refl _⟩, ⟨pk BK231.out⟩, ⟨pk BK232.out⟩, ⟨pk BK233.out⟩, ⟨by repeat (first | (with_reducible first | exact HB.out | apply below_alloc | apply pw_below_drewN | apply below_drew1 | refine below_set ?_ GE231.out | refine below_set ?_ GE232.out | refine below_set ?_ GE233.out) | exact HB.out)⟩⟩
  ·replace c11 := Bool.eq_false_iff.mpr c11
   subst c11
   have H1 : (impl_UndoBack.j0 k (wrap64 ((l0_0.length : Int) - 1)) true l0_0 l0_1 l1_0 a1_1 a1_2) = some (r1, r2, r3, r4, r5, r6) := by rw [if_neg (show ¬ (false = true) by decide)] at H; exact H
   clear H
   have H := H1
   clear H1
   have H' := Aside0.mk H
   clear H
   have hnb20 := NB231_232.out
   have hnc20 := NB232_231.out
   have hnb21 := NB231_233.out
   have hnc21 := NB233_231.out
   have hcz22_0 : w6.cell? ⟨gb231, 0, none⟩ = some (.slice A0_0 l0_0.length c0_0) := bc BK231.out 0
   have hcz22_1 : w6.cell? ⟨gb231, 1, none⟩ = some (.slice A0_1 l0_1.length c0_1) := bc BK231.out 1
   have hfz22_0 := blk_frozen BK231.out 0
   have hfz22_1 := blk_frozen BK231.out 1
   go_wp2_with (first | ((with_reducible refine gate_callee (f := 18) rfl ?_); refine gl (some 12) Try.func18 #[.agg #[.slice A0_0 l0_0.length c0_0, .slice A0_1 l0_1.length c0_1]] ?_; (with_reducible refine (impl_UndoRight.calls k _ _ l0_0 _ _ l0_1 false _ ?side1 ?side2 ?side3 ?side4 A10.out).mono ?_); (case side1 => repeat (first | exact (Kd.C_below HR0_0.out HB.out) | (with_reducible refine Kd.C_alloc ?_ _) | (with_reducible refine Kd.C_drewN ?_ _) | (with_reducible refine Kd.C_drew ?_))); (case side2 => exact HC0_0.out); (case side3 => repeat (first | exact (Kd.C_below HR0_1.out HB.out) | (with_reducible refine Kd.C_alloc ?_ _) | (with_reducible refine Kd.C_drewN ?_ _) | (with_reducible refine Kd.C_drew ?_))); (case side4 => exact HC0_1.out); rintro e w23 ⟨rfl, hb⟩; refine ⟨_, rfl, ?_⟩; replace BK231 := am (blk_below (pk BK231.out) hb); replace BK232 := am (blk_below (pk BK232.out) hb); replace BK233 := am (blk_below (pk BK233.out) hb); replace HB := am (below_step (bl HB.out) hb); (try clear hb); (try clear hb2); (try clear hk); (try clear hi)))
   go_meet
   case rel => exact ⟨_, (true), (by first | rfl | (simp; done) | (simp [*]; done)), H', ⟨by first | omega | exact Nat.le_refl _⟩, ⟨pk BK231.out⟩, ⟨pk BK232.out⟩, ⟨pk BK233.out⟩, ⟨by repeat (first | (with_reducible first | exact HB.out | apply below_alloc | apply pw_below_drewN | apply below_drew1 | refine below_set ?_ GE231.out | refine below_set ?_ GE232.out | refine below_set ?_ GE233.out) | exact HB.out)⟩⟩
 case rest =>
  clear HC3
  try clear c1
  try clear c2
  try clear p2
  try clear p6
  try clear c7
  try clear c8
  try clear c11
  try clear c13
  try clear c14
  try clear c16
  try clear c17
  try clear c18
  try clear c20
  try clear c21
  try clear hcz15_0
  try clear hcz15_1
  try clear hcz18_0
  try clear hcz18_1
  try clear hcz18_2
  try clear hcz22_0
  try clear hcz22_1
  try clear hcz9_0
  try clear hcz9_1
  try clear hfz15_0
  try clear hfz15_1
  try clear hfz18_0
  try clear hfz18_1
  try clear hfz18_2
  try clear hfz22_0
  try clear hfz22_1
  try clear hfz9_0
  try clear hfz9_1
  obtain ⟨kq, x10_2, rfl, HA, HJ2, BK231, BK232, BK233, HB⟩ := hcut
  cases kq with
  | zero => exact absurd HA.out (by simp [impl_UndoBack.j0])
  | succ kj2 =>
   have H := HA.out
   clear HA
   simp only [impl_UndoBack.j0] at H
   by_cases c24 : x10_2 = true
   ·subst c24
    have H1 : (some (([] : List (S39)), ([] : List (S39)), ([] : List Int), 0, 0, 1)) = some (r1, r2, r3, r4, r5, r6) := by rw [if_pos rfl] at H; exact H
    clear H
    have H := H1
    clear H1
    simp only [Option.some.injEq, Prod.mk.injEq] at H
    obtain ⟨rfl, rfl, rfl, rfl, rfl, rfl⟩ := H
    have hnb25 := NB233_231.out
    have hnc25 := NB231_233.out
    have hnb26 := NB233_232.out
    have hnc26 := NB232_233.out
    have hcz27_0 : wc.cell? ⟨gb233, 0, none⟩ = some (.slice none 0 0) := bc BK233.out 0
    have hcz27_1 : wc.cell? ⟨gb233, 1, none⟩ = some (.slice none 0 0) := bc BK233.out 1
    have hcz27_2 : wc.cell? ⟨gb233, 2, none⟩ = some (.slice none 0 0) := bc BK233.out 2
    have hcz27_3 : wc.cell? ⟨gb233, 3, none⟩ = some (.int .i64 0) := bc BK233.out 3
    have hcz27_4 : wc.cell? ⟨gb233, 4, none⟩ = some (.int .i64 0) := bc BK233.out 4
    have hcz27_5 : wc.cell? ⟨gb233, 5, none⟩ = some (.int .i64 0) := bc BK233.out 5
    have hfz27_0 := blk_frozen BK233.out 0
    have hfz27_1 := blk_frozen BK233.out 1
    have hfz27_2 := blk_frozen BK233.out 2
    have hfz27_3 := blk_frozen BK233.out 3
    have hfz27_4 := blk_frozen BK233.out 4
    have hfz27_5 := blk_frozen BK233.out 5
    go_wp2
    refine bodyPost_ret (results_cell_row rfl _ _ gb233 43 #[.slice none 0 0, .slice none 0 0, .slice none 0 0, .int .i64 0, .int .i64 0, .int .i64 1] (0, 0) _ rfl (by refine pk ?_; refine blk_put (cs := #[.slice none 0 0, .slice none 0 0, .slice none 0 0, .int .i64 0, .int .i64 0, .int .i64 0]) ?_ 5 _ rfl; refine pk ?_; refine blk_put (cs := #[.slice none 0 0, .slice none 0 0, .slice none 0 0, .int .i64 0, .int .i64 0, .int .i64 0]) ?_ 4 _ rfl; refine pk ?_; refine blk_put (cs := #[.slice none 0 0, .slice none 0 0, .slice none 0 0, .int .i64 0, .int .i64 0, .int .i64 0]) ?_ 3 _ rfl; refine pk ?_; refine blk_put (cs := #[.slice none 0 0, .slice none 0 0, .slice none 0 0, .int .i64 0, .int .i64 0, .int .i64 0]) ?_ 2 _ rfl; refine pk ?_; refine blk_put (cs := #[.slice none 0 0, .slice none 0 0, .slice none 0 0, .int .i64 0, .int .i64 0, .int .i64 0]) ?_ 1 _ rfl; refine pk ?_; refine blk_put (cs := #[.slice none 0 0, .slice none 0 0, .slice none 0 0, .int .i64 0, .int .i64 0, .int .i64 0]) ?_ 0 _ rfl; refine pk ?_; exact BK233.out) Try.underlying43 rfl (by kernel_rfl)) rfl ?_
    exact ⟨w.heap.size, w.heap.size, ⟨Nat.le_refl _, Nat.le_refl _, below_size (bl HB.out)⟩, _, _, _, by first | rfl | (simp [errW_none, errW_some] <;> rfl) | (simp [*, errW_none, errW_some] <;> rfl), by first | exact Kd.S_nil _ _ _ _ _ | exact Kd.N_nil _ _ _ _ _ | exact Kd.V_nil _ _ _ _ _ | exact Kd.T_nil _ _ _ _ _ | exact Kd.R_nil _ _ _ _ _, Kd.T_of_S (by first | exact Kd.S_nil _ _ _ _ _ | exact Kd.N_nil _ _ _ _ _ | exact Kd.V_nil _ _ _ _ _ | exact Kd.T_nil _ _ _ _ _ | exact Kd.R_nil _ _ _ _ _), by first | exact Kd.R_nil _ _ _ _ _ | exact Kd.N_nil _ _ _ _ _ | exact Kd.V_nil _ _ _ _ _ | exact Kd.T_nil _ _ _ _ _ | exact Kd.S_nil _ _ _ _ _, by repeat (first | (with_reducible first | exact HB.out | apply below_alloc | apply pw_below_drewN | apply below_drew1 | refine below_set ?_ GE231.out | refine below_set ?_ GE232.out | refine below_set ?_ GE233.out) | exact HB.out)⟩
   ·replace c24 := Bool.eq_false_iff.mpr c24
    subst c24
    have H1 : (if (wrap64 ((l0_0.length : Int) - 1)) < 0 then (some (([] : List (S39)), ([] : List (S39)), ([] : List Int), 0, 0, 4)) else (if 0 ≤ (wrap64 ((l0_0.length : Int) - 1)) then (if (wrap64 ((l0_0.length : Int) - 1)) ≤ (l0_0.length : Int) then ((impl_ownBufs.f kj2 (l0_0.take ((wrap64 ((l0_0.length : Int) - 1)) : Int).toNat)).bind fun t240 => ((impl_behindBufs.f kj2 l0_1 l1_0 a1_1 a1_2).bind fun t243 => (if (wrap64 ((l0_0.length : Int) - 1)) < (l0_0.length : Int) then ((impl_ownBuf.f ((rd_T39 l0_0 (wrap64 ((l0_0.length : Int) - 1))).f0) ((rd_T39 l0_0 (wrap64 ((l0_0.length : Int) - 1))).f1) ((rd_T39 l0_0 (wrap64 ((l0_0.length : Int) - 1))).f2)).bind fun bt247 => (some (t240, t243, bt247.1, bt247.2.1, bt247.2.2, 0))) else (none)))) else (none)) else (none))) = some (r1, r2, r3, r4, r5, r6) := by rw [if_neg (show ¬ (false = true) by decide)] at H; exact H
    clear H
    have H := H1
    clear H1
    by_cases c28 : (wrap64 ((l0_0.length : Int) - 1)) < 0
    ·rw [if_pos c28] at H
     have c28b0 : decide ((wrap64 ((l0_0.length : Int) - 1)) < 0) = true := decide_eq_true c28
     clear c28
     simp only [Option.some.injEq, Prod.mk.injEq] at H
     obtain ⟨rfl, rfl, rfl, rfl, rfl, rfl⟩ := H
     have hnb29 := NB233_231.out
     have hnc29 := NB231_233.out
     have hnb30 := NB233_232.out
     have hnc30 := NB232_233.out
     have hcz31_0 : wc.cell? ⟨gb233, 0, none⟩ = some (.slice none 0 0) := bc BK233.out 0
     have hcz31_1 : wc.cell? ⟨gb233, 1, none⟩ = some (.slice none 0 0) := bc BK233.out 1
     have hcz31_2 : wc.cell? ⟨gb233, 2, none⟩ = some (.slice none 0 0) := bc BK233.out 2
     have hcz31_3 : wc.cell? ⟨gb233, 3, none⟩ = some (.int .i64 0) := bc BK233.out 3
     have hcz31_4 : wc.cell? ⟨gb233, 4, none⟩ = some (.int .i64 0) := bc BK233.out 4
     have hcz31_5 : wc.cell? ⟨gb233, 5, none⟩ = some (.int .i64 0) := bc BK233.out 5
     have hfz31_0 := blk_frozen BK233.out 0
     have hfz31_1 := blk_frozen BK233.out 1
     have hfz31_2 := blk_frozen BK233.out 2
     have hfz31_3 := blk_frozen BK233.out 3
     have hfz31_4 := blk_frozen BK233.out 4
     have hfz31_5 := blk_frozen BK233.out 5
     go_wp2
     refine bodyPost_ret (results_cell_row rfl _ _ gb233 43 #[.slice none 0 0, .slice none 0 0, .slice none 0 0, .int .i64 0, .int .i64 0, .int .i64 4] (0, 0) _ rfl (by refine pk ?_; refine blk_put (cs := #[.slice none 0 0, .slice none 0 0, .slice none 0 0, .int .i64 0, .int .i64 0, .int .i64 0]) ?_ 5 _ rfl; refine pk ?_; refine blk_put (cs := #[.slice none 0 0, .slice none 0 0, .slice none 0 0, .int .i64 0, .int .i64 0, .int .i64 0]) ?_ 4 _ rfl; refine pk ?_; refine blk_put (cs := #[.slice none 0 0, .slice none 0 0, .slice none 0 0, .int .i64 0, .int .i64 0, .int .i64 0]) ?_ 3 _ rfl; refine pk ?_; refine blk_put (cs := #[.slice none 0 0, .slice none 0 0, .slice none 0 0, .int .i64 0, .int .i64 0, .int .i64 0]) ?_ 2 _ rfl; refine pk ?_; refine blk_put (cs := #[.slice none 0 0, .slice none 0 0, .slice none 0 0, .int .i64 0, .int .i64 0, .int .i64 0]) ?_ 1 _ rfl; refine pk ?_; refine blk_put (cs := #[.slice none 0 0, .slice none 0 0, .slice none 0 0, .int .i64 0, .int .i64 0, .int .i64 0]) ?_ 0 _ rfl; refine pk ?_; exact BK233.out) Try.underlying43 rfl (by kernel_rfl)) rfl ?_
     exact ⟨w.heap.size, w.heap.size, ⟨Nat.le_refl _, Nat.le_refl _, below_size (bl HB.out)⟩, _, _, _, by first | rfl | (simp [errW_none, errW_some] <;> rfl) | (simp [*, errW_none, errW_some] <;> rfl), by first | exact Kd.S_nil _ _ _ _ _ | exact Kd.N_nil _ _ _ _ _ | exact Kd.V_nil _ _ _ _ _ | exact Kd.T_nil _ _ _ _ _ | exact Kd.R_nil _ _ _ _ _, Kd.T_of_S (by first | exact Kd.S_nil _ _ _ _ _ | exact Kd.N_nil _ _ _ _ _ | exact Kd.V_nil _ _ _ _ _ | exact Kd.T_nil _ _ _ _ _ | exact Kd.R_nil _ _ _ _ _), by first | exact Kd.R_nil _ _ _ _ _ | exact Kd.N_nil _ _ _ _ _ | exact Kd.V_nil _ _ _ _ _ | exact Kd.T_nil _ _ _ _ _ | exact Kd.S_nil _ _ _ _ _, by repeat (first | (with_reducible first | exact HB.out | apply below_alloc | apply pw_below_drewN | apply below_drew1 | refine below_set ?_ GE231.out | refine below_set ?_ GE232.out | refine below_set ?_ GE233.out) | exact HB.out)⟩
    ·rw [if_neg c28] at H
     have c28b0 : decide ((wrap64 ((l0_0.length : Int) - 1)) < 0) = false := decide_eq_false c28
     clear c28
     obtain ⟨ji32, hji32⟩ : ∃ j_ : Int, (wrap64 ((l0_0.length : Int) - 1)) = j_ := ⟨_, rfl⟩
     replace H : (if 0 ≤ (ji32) then (if (ji32) ≤ (l0_0.length : Int) then ((impl_ownBufs.f kj2 (l0_0.take ((ji32) : Int).toNat)).bind fun t240 => ((impl_behindBufs.f kj2 l0_1 l1_0 a1_1 a1_2).bind fun t243 => (if (ji32) < (l0_0.length : Int) then ((impl_ownBuf.f ((rd_T39 l0_0 (ji32)).f0) ((rd_T39 l0_0 (ji32)).f1) ((rd_T39 l0_0 (ji32)).f2)).bind fun bt247 => (some (t240, t243, bt247.1, bt247.2.1, bt247.2.2, 0))) else (none)))) else (none)) else (none)) = some (r1, r2, r3, r4, r5, r6) := by first | (rw [hji32] at H; exact H) | (simp only [hji32] at H ⊢; exact H)
     (try rw [hji32] at c28b0)
     have hji32w : (IntKind.i64.wrap ((l0_0.length : Int) - 1)) = ji32 := (i64_w _).trans hji32
     by_cases c33 : 0 ≤ (ji32)
     ·rw [if_pos c33] at H
      have c33b0 := eq_true c33
      have c33b1 : decide (0 ≤ (ji32)) = true := decide_eq_true c33
      clear c33
      by_cases c34 : (ji32) ≤ (l0_0.length : Int)
      ·rw [if_pos c34] at H
       have c34b0 := eq_true c34
       have c34b1 : decide ((ji32) ≤ (l0_0.length : Int)) = true := decide_eq_true c34
       clear c34
       obtain ⟨y236, hy236⟩ : ∃ y_ : List (S39), y_ = (l0_0.take ((ji32) : Int).toNat) := ⟨_, rfl⟩
       replace H : ((impl_ownBufs.f kj2 y236).bind fun t240 => ((impl_behindBufs.f kj2 l0_1 l1_0 a1_1 a1_2).bind fun t243 => (if (ji32) < (l0_0.length : Int) then ((impl_ownBuf.f ((rd_T39 l0_0 (ji32)).f0) ((rd_T39 l0_0 (ji32)).f1) ((rd_T39 l0_0 (ji32)).f2)).bind fun bt247 => (some (t240, t243, bt247.1, bt247.2.1, bt247.2.2, 0))) else (none)))) = some (r1, r2, r3, r4, r5, r6) := by first | (rw [hy236]; with_reducible exact H) | (have H2_ := (Option.bind_some _ _).symm.trans H; rw [hy236]; with_reducible exact H2_) | (have H2_ := (Option.bind_some _ _).symm.trans H; with_reducible exact H2_) | with_reducible exact H | (rw [hy236]; exact H) | exact H
       have Ny236 := am hy236
       clear hy236
       replace H := Option.bind_eq_some_iff.mp H
       obtain ⟨t240, A350, H⟩ := H
       replace H : ((impl_behindBufs.f kj2 l0_1 l1_0 a1_1 a1_2).bind fun t243 => (if (ji32) < (l0_0.length : Int) then ((impl_ownBuf.f ((rd_T39 l0_0 (ji32)).f0) ((rd_T39 l0_0 (ji32)).f1) ((rd_T39 l0_0 (ji32)).f2)).bind fun bt247 => (some (t240, t243, bt247.1, bt247.2.1, bt247.2.2, 0))) else (none))) = some (r1, r2, r3, r4, r5, r6) := H
       have A35 := Aside0.mk A350
       clear A350
       replace H := Option.bind_eq_some_iff.mp H
       obtain ⟨t243, A360, H⟩ := H
       replace H : (if (ji32) < (l0_0.length : Int) then ((impl_ownBuf.f ((rd_T39 l0_0 (ji32)).f0) ((rd_T39 l0_0 (ji32)).f1) ((rd_T39 l0_0 (ji32)).f2)).bind fun bt247 => (some (t240, t243, bt247.1, bt247.2.1, bt247.2.2, 0))) else (none)) = some (r1, r2, r3, r4, r5, r6) := H
       have A36 := Aside0.mk A360
       clear A360
       by_cases c37 : (ji32) < (l0_0.length : Int)
       ·rw [if_pos c37] at H
        have c37b0 : decide ((ji32) < (l0_0.length : Int)) = true := decide_eq_true c37
        clear c37
        replace H := Option.bind_eq_some_iff.mp H
        obtain ⟨⟨t247, t250, t251⟩, A380, H⟩ := H
        replace H : (some (t240, t243, t247, t250, t251, 0)) = some (r1, r2, r3, r4, r5, r6) := H
        have A38 := Aside0.mk A380
        clear A380
        simp only [Option.some.injEq, Prod.mk.injEq] at H
        obtain ⟨rfl, rfl, rfl, rfl, rfl, rfl⟩ := H
        try go_wp2
        replace BK231 := am (blk_drew BK231.out)
        replace BK232 := am (blk_drew BK232.out)
        replace BK233 := am (blk_drew BK233.out)
        replace HB := am (below_drew1 HB.out)
        have q40 : ((ji32) : Int) ≤ ((l0_0.length : Int) : Int) := of_decide_eq_true (by first | (with_reducible assumption) | assumption)
        obtain ⟨i040, hi040, _, hsz40, _⟩ := info_parts info39
        have hroom40 : l0_0.length ≤ c0_0 := HC0_0.out
        have hC40 : Kd.C k39 _ A0_0 l0_0.length l0_0 := HR0_0.out
        have hcut40 := cut_to (P := Try.prog) 34 39 .i64 Try.underlying34 hi040 A0_0 l0_0.length c0_0 (ji32) (of_decide_eq_true (by first | (with_reducible assumption) | assumption)) q40 hroom40
        have hr40 := Kd.C_take (m := ((ji32) : Int).toNat) hC40 (by omega)
        have hy40 : y236.length = ((ji32) : Int).toNat := (by rw [Ny236.out, List.length_take]; omega)
        rw [← Ny236.out] at hr40
        rw [← hy40] at hcut40
        have HR239 := am hr40
        have HC239 := am (show y236.length ≤ c0_0 from by omega)
        clear hr40 hC40 hroom40 hi040 hsz40
        have KY40 := am hy40
        clear hy40
        replace q40 := eq_true q40
        have p246 : 0 ≤ ((ji32) : Int) := of_decide_eq_true (by first | (with_reducible assumption) | assumption)
        have q246 : (ji32) < (l0_0.length : Int) := of_decide_eq_true (by first | (with_reducible assumption) | assumption)
        obtain ⟨ad246, A246_0, c246_0, e246, hx246_0, hx246_1, hx246_2, hl246_0, hi246_0⟩ := at_T39 HR0_0.out (ji32) p246 q246
        have hw246_2 := hx246_2
        have hw246_1 := hx246_1
        have hw246_0 := hx246_0
        cases e246
        have hxw246_0 := hx246_0
        replace hx246_0 := (HB.out.cell (World.block_lt_of_cell? w _ hx246_0)).trans hx246_0
        have hxw246_1 := hx246_1
        replace hx246_1 := (HB.out.cell (World.block_lt_of_cell? w _ hx246_1)).trans hx246_1
        have hxw246_2 := hx246_2
        replace hx246_2 := (HB.out.cell (World.block_lt_of_cell? w _ hx246_2)).trans hx246_2
        have HR246_0 := am hi246_0
        have HC246_0 := am hl246_0
        clear hi246_0 hl246_0
        replace p246 := eq_true p246
        replace q246 := eq_true q246
        refine start_ (n := 18) (S := fun w' => w'.cell? ⟨gb231, 0, none⟩ = some (.slice (some ad246) l0_0.length c0_0) ∧ w'.cell? ⟨gb231, 1, none⟩ = some (.slice A0_1 l0_1.length c0_1) ∧ w'.cell? ⟨gb232, 0, none⟩ = some (.slice A1_0 l1_0.length c1_0) ∧ w'.cell? ⟨gb232, 1, none⟩ = some (.int .i64 a1_1) ∧ w'.cell? ⟨gb232, 2, none⟩ = some (.int .i64 a1_2) ∧ w'.cell? (ad246.add (((ji32)).toNat * 3)) = some (.slice A246_0 ((rd_T39 l0_0 (ji32)).f0).length c246_0) ∧ w'.cell? ⟨(ad246.add (((ji32)).toNat * 3)).block, (ad246.add (((ji32)).toNat * 3)).off + 1, none⟩ = some (.int .i64 ((rd_T39 l0_0 (ji32)).f1)) ∧ w'.cell? ⟨(ad246.add (((ji32)).toNat * 3)).block, (ad246.add (((ji32)).toNat * 3)).off + 2, none⟩ = some (.int .i64 ((rd_T39 l0_0 (ji32)).f2))) (ds := []) #[false, false, false, false, false, false, false, false, false, false, false, false, false, false, false, false, false, false] (by kernel_rfl) rfl rfl ⟨bc BK231.out 0, bc BK231.out 1, bc BK232.out 0, bc BK232.out 1, bc BK232.out 2, ((HB.out.cell (World.block_lt_of_cell? _ _ hw246_0)).trans hw246_0), ((HB.out.cell (World.block_lt_of_cell? _ _ hw246_1)).trans hw246_1), ((HB.out.cell (World.block_lt_of_cell? _ _ hw246_2)).trans hw246_2)⟩ (fun hHeld => ?_); refine with_tabW impl_UndoBack.tab6 impl_UndoBack.bits6 (fun HT_ HW_ => ?_)
        generalize wc.drew = w39 at BK231 BK232 BK233 HB HR239 HR246_0 hx246_0 hx246_1 hx246_2 hHeld ⊢
        refine pure_ (i := 0) (N := some 24) (v := ?_) (a' := ?_) #[true, false, false, false, false, false, false, false, false, false, false, false, false, false, false, false, false, false] rfl rfl (any_of HT_.out (by kernel_rfl)) (fun _ _ _ h => h) (Or.inl ⟨by rfl, ?_⟩) ?_ ?_; rotate_left
        ·intro w'; go_simp; with_reducible rfl
        rotate_left
        ·simp only [Act.put, sa_, s0_, ss_, i64_w, i32_w]; rfl
        refine pure_ (i := 2) (N := some 26) (v := ?_) (a' := ?_) #[true, false, true, false, false, false, false, false, false, false, false, false, false, false, false, false, false, false] rfl rfl (any_of HT_.out (by kernel_rfl)) (fun _ _ _ h => h) (Or.inl ⟨by rfl, ?_⟩) ?_ ?_; rotate_left
        ·intro w'; go_simp; with_reducible rfl
        rotate_left
        ·simp only [Act.put, sa_, s0_, ss_, i64_w, i32_w]; rfl
        refine pure_ (i := 5) (N := some 29) (v := ?_) (a' := ?_) #[true, false, true, false, false, true, false, false, false, false, false, false, false, false, false, false, false, false] rfl rfl (any_of HT_.out (by kernel_rfl)) (fun _ _ _ h => h) (Or.inl ⟨by rfl, ?_⟩) ?_ ?_; rotate_left
        ·intro w'; go_simp; with_reducible rfl
        rotate_left
        ·simp only [Act.put, sa_, s0_, ss_, i64_w, i32_w]; rfl
        refine pure_ (i := 10) (N := some 34) (v := ?_) (a' := ?_) #[true, false, true, false, false, true, false, false, false, false, true, false, false, false, false, false, false, false] rfl rfl (any_of HT_.out (by kernel_rfl)) (fun _ _ _ h => h) (Or.inl ⟨by rfl, ?_⟩) ?_ ?_; rotate_left
        ·intro w'; go_simp; with_reducible rfl
        rotate_left
        ·simp only [Act.put, sa_, s0_, ss_, i64_w, i32_w]; rfl
        refine pure_ (i := 12) (N := some 36) (v := ?_) (a' := ?_) #[true, false, true, false, false, true, false, false, false, false, true, false, true, false, false, false, false, false] rfl rfl (any_of HT_.out (by kernel_rfl)) (fun _ _ _ h => h) (Or.inl ⟨by rfl, ?_⟩) ?_ ?_; rotate_left
        ·intro w'; go_simp; with_reducible rfl
        rotate_left
        ·simp only [Act.put, sa_, s0_, ss_, i64_w, i32_w]; rfl
        refine take_ (i := 1) (N := some 25) (v := ?_) (a' := ?_) #[true, true, true, false, false, true, false, false, false, false, true, false, true, false, false, false, false, false] rfl rfl (take_ofW HT_.out HW_.out (by kernel_rfl)) (fun _ _ _ h => h) (Or.inl ⟨by rfl, ?_⟩) hHeld ?_ ?_; rotate_left
        ·rintro w' ⟨s0, s1, s2, s3, s4, s5, s6, s7⟩; go_simp; with_reducible rfl
        rotate_left
        ·simp only [Act.put, sa_, s0_, ss_, i64_w, i32_w]; rfl
        refine pure_ (i := 3) (N := some 27) (v := ?_) (a' := ?_) #[true, true, true, true, false, true, false, false, false, false, true, false, true, false, false, false, false, false] rfl rfl (any_of HT_.out (by kernel_rfl)) (fun _ _ _ h => h) (Or.inl ⟨by rfl, ?_⟩) ?_ ?_; rotate_left
        ·intro w'; go_simp; with_reducible rfl
        rotate_left
        ·simp only [Act.put, sa_, s0_, ss_, i64_w, i32_w]; rfl
        refine take_ (i := 6) (N := some 30) (v := ?_) (a' := ?_) #[true, true, true, true, false, true, true, false, false, false, true, false, true, false, false, false, false, false] rfl rfl (take_ofW HT_.out HW_.out (by kernel_rfl)) (fun _ _ _ h => h) (Or.inl ⟨by rfl, ?_⟩) hHeld ?_ ?_; rotate_left
        ·rintro w' ⟨s0, s1, s2, s3, s4, s5, s6, s7⟩; go_simp; with_reducible rfl
        rotate_left
        ·simp only [Act.put, sa_, s0_, ss_, i64_w, i32_w]; rfl
        refine take_ (i := 7) (N := some 31) (v := ?_) (a' := ?_) #[true, true, true, true, false, true, true, true, false, false, true, false, true, false, false, false, false, false] rfl rfl (take_ofW HT_.out HW_.out (by kernel_rfl)) (fun _ _ _ h => h) (Or.inl ⟨by rfl, ?_⟩) hHeld ?_ ?_; rotate_left
        ·rintro w' ⟨s0, s1, s2, s3, s4, s5, s6, s7⟩; go_simp; with_reducible rfl
        rotate_left
        ·simp only [Act.put, sa_, s0_, ss_, i64_w, i32_w]; rfl
        refine take_ (i := 11) (N := some 35) (v := ?_) (a' := ?_) #[true, true, true, true, false, true, true, true, false, false, true, true, true, false, false, false, false, false] rfl rfl (take_ofW HT_.out HW_.out (by kernel_rfl)) (fun _ _ _ h => h) (Or.inl ⟨by rfl, ?_⟩) hHeld ?_ ?_; rotate_left
        ·rintro w' ⟨s0, s1, s2, s3, s4, s5, s6, s7⟩; go_simp; with_reducible rfl
        rotate_left
        ·simp only [Act.put, sa_, s0_, ss_, i64_w, i32_w]; rfl
        refine pure_ (i := 13) (N := some 37) (v := ?_) (a' := ?_) #[true, true, true, true, false, true, true, true, false, false, true, true, true, true, false, false, false, false] rfl rfl (any_of HT_.out (by kernel_rfl)) (fun _ _ _ h => h) (Or.inl ⟨by rfl, ?_⟩) ?_ ?_; rotate_left
        ·intro w'; go_simp; with_reducible rfl
        rotate_left
        ·simp only [Act.put, sa_, s0_, ss_, i64_w, i32_w]; rfl
        refine take_ (i := 14) (N := some 38) (v := ?_) (a' := ?_) #[true, true, true, true, false, true, true, true, false, false, true, true, true, true, true, false, false, false] rfl rfl (take_ofW HT_.out HW_.out (by kernel_rfl)) (fun _ _ _ h => h) (Or.inl ⟨by rfl, ?_⟩) hHeld ?_ ?_; rotate_left
        ·rintro w' ⟨s0, s1, s2, s3, s4, s5, s6, s7⟩; go_simp; with_reducible rfl
        rotate_left
        ·simp only [Act.put, sa_, s0_, ss_, i64_w, i32_w]; rfl
        refine one_ (i := 4) (N := some 28) #[true, true, true, true, true, true, true, true, false, false, true, true, true, true, true, false, false, false] rfl rfl (one_of HT_.out (by kernel_rfl)) (by decide) (fun K hK => ?_)
        refine gs_ Try.func64 #[.slice (some ad246) y236.length c0_0] ?_
        with_reducible refine (impl_ownBufs.calls kj2 _ _ y236 t240 _ ?side1 ?side2 A35.out).mono ?_
        (case side1 => repeat (first | exact (Kd.C_below HR239.out HB.out) | (with_reducible refine Kd.C_alloc ?_ _) | (with_reducible refine Kd.C_drewN ?_ _) | (with_reducible refine Kd.C_drew ?_)))
        (case side2 => exact HC239.out)
        rintro e w41 ⟨v241, rfl, ho0, hb⟩
        refine ⟨_, rfl, ?_⟩
        have HO242 := am (Kd.S_lower (Kd.S_newB ho0 (g := gb232) (o := .cells #[.slice A1_0 l1_0.length c1_0, .int .i64 a1_1, .int .i64 a1_2] 39 (0, 0)) (pk BK232.out)) (below_size (bl HB.out)))
        replace BK231 := am (blk_below (pk BK231.out) hb)
        replace BK232 := am (blk_below (pk BK232.out) hb)
        replace BK233 := am (blk_below (pk BK233.out) hb)
        replace HB := am (below_step (bl HB.out) hb)
        (try clear hb)
        (try clear hb2)
        (try clear hk)
        (try clear hi)
        (try clear ho0)
        refine hK.out _ _ ⟨bc BK231.out 0, bc BK231.out 1, bc BK232.out 0, bc BK232.out 1, bc BK232.out 2, ((HB.out.cell (World.block_lt_of_cell? _ _ hw246_0)).trans hw246_0), ((HB.out.cell (World.block_lt_of_cell? _ _ hw246_1)).trans hw246_1), ((HB.out.cell (World.block_lt_of_cell? _ _ hw246_2)).trans hw246_2)⟩ (fun hHeld => ?_)
        clear hK K
        refine norm_ (a' := ?_) ?_ ?_
        rotate_left
        ·show Act.put _ (some 28) _ = _
         simp only [Act.put, sa_, s0_, ss_, i64_w, i32_w]
         rfl
        refine one_ (i := 8) (N := some 32) #[true, true, true, true, true, true, true, true, true, false, true, true, true, true, true, false, false, false] rfl rfl (one_of HT_.out (by kernel_rfl)) (by decide) (fun K hK => ?_)
        refine gs_ Try.func65 #[.slice A0_1 l0_1.length c0_1, .agg #[.slice A1_0 l1_0.length c1_0, .int .i64 a1_1, .int .i64 a1_2]] ?_
        with_reducible refine (impl_behindBufs.calls kj2 _ _ l0_1 _ _ l1_0 a1_1 a1_2 t243 _ ?side1 ?side2 ?side3 ?side4 A36.out).mono ?_
        (case side1 => repeat (first | exact (Kd.C_below HR0_1.out HB.out) | (with_reducible refine Kd.C_alloc ?_ _) | (with_reducible refine Kd.C_drewN ?_ _) | (with_reducible refine Kd.C_drew ?_)))
        (case side2 => exact HC0_1.out)
        (case side3 => repeat (first | exact (Kd.C_below HR1_0.out HB.out) | (with_reducible refine Kd.C_alloc ?_ _) | (with_reducible refine Kd.C_drewN ?_ _) | (with_reducible refine Kd.C_drew ?_)))
        (case side4 => exact HC1_0.out)
        rintro e w42 ⟨v244, rfl, ho0, hb⟩
        obtain ⟨m1_, mb1_, ha1_, hz1_, hc1_⟩ := nxt_ hb
        have hw1_ : w.heap.size ≤ m1_ := (by rw [ha1_]; exact below_size (bl HB.out))
        refine ⟨_, rfl, ?_⟩
        have HO245 := am (Kd.T_mono (ok' := fun k_ => m1_ ≤ k_) (Kd.T_lower (Kd.T_newB (Kd.T_new' (Kd.T_bound ho0) (Kd.S_lt (ks HO242.out))) (g := gb232) (o := .cells #[.slice A1_0 l1_0.length c1_0, .int .i64 a1_1, .int .i64 a1_2] 39 (0, 0)) (pk BK232.out)) (below_size (bl HB.out))) (fun _ hk => by rw [ha1_]; exact hk.1.1.2.1))
        replace HO242 := am (Kd.S_mono (ok' := fun k_ => k_ < m1_) (Kd.S_elder' (Kd.S_bound (ks HO242.out)) (Kd.T_base ho0) hb) (fun _ hk => by rw [ha1_]; exact hk.1.2.2.1))
        replace BK231 := am (blk_below (pk BK231.out) hb)
        replace BK232 := am (blk_below (pk BK232.out) hb)
        replace BK233 := am (blk_below (pk BK233.out) hb)
        replace HB := am (below_step (bl HB.out) hb)
        (try clear hb)
        (try clear hb2)
        (try clear hk)
        (try clear hi)
        (try clear ho0)
        obtain ⟨Ao43, co43, eo43, _⟩ := Kd.T_slice HO245.out
        (first | subst eo43 | (injection eo43 with f1_ f2_ f3_; have f4_ := f1_.symm; have f5_ := f3_.symm; clear f1_ f2_ f3_; subst f4_; subst f5_))
        obtain ⟨Ao44, co44, eo44⟩ := Kd.S_slice HO242.out
        (first | subst eo44 | (injection eo44 with f1_ f2_ f3_; have f4_ := f1_.symm; have f5_ := f3_.symm; clear f1_ f2_ f3_; subst f4_; subst f5_))
        refine hK.out _ _ ⟨bc BK231.out 0, bc BK231.out 1, bc BK232.out 0, bc BK232.out 1, bc BK232.out 2, ((HB.out.cell (World.block_lt_of_cell? _ _ hw246_0)).trans hw246_0), ((HB.out.cell (World.block_lt_of_cell? _ _ hw246_1)).trans hw246_1), ((HB.out.cell (World.block_lt_of_cell? _ _ hw246_2)).trans hw246_2)⟩ (fun hHeld => ?_)
        clear hK K
        refine norm_ (a' := ?_) ?_ ?_
        rotate_left
        ·show Act.put _ (some 32) _ = _
         simp only [Act.put, sa_, s0_, ss_, i64_w, i32_w]
         rfl
        refine pure_ (i := 9) (N := some 33) (v := ?_) (a' := ?_) #[true, true, true, true, true, true, true, true, true, true, true, true, true, true, true, false, false, false] rfl rfl (any_of HT_.out (by kernel_rfl)) (fun _ _ _ h => h) (Or.inl ⟨by rfl, ?_⟩) ?_ ?_; rotate_left
        ·intro w'; go_simp; with_reducible rfl
        rotate_left
        ·simp only [Act.put, sa_, s0_, ss_, i64_w, i32_w]; rfl
        refine one_ (i := 15) (N := some 39) #[true, true, true, true, true, true, true, true, true, true, true, true, true, true, true, true, false, false] rfl rfl (one_of HT_.out (by kernel_rfl)) (by decide) (fun K hK => ?_)
        refine goes_ Try.func66 (by kernel_rfl) rfl #[.agg #[.slice A246_0 ((rd_T39 l0_0 (ji32)).f0).length c246_0, .int .i64 ((rd_T39 l0_0 (ji32)).f1), .int .i64 ((rd_T39 l0_0 (ji32)).f2)]] (by rfl) rfl rfl (by (try simp only [List.map_toArray, List.map_cons, List.map_nil]); first | done | (simp only [hji32]; rfl) | rfl | (simp only [List.length_drop, List.length_take]; rfl)) ?_
        with_reducible refine (impl_ownBuf.calls _ _ ((rd_T39 l0_0 (ji32)).f0) ((rd_T39 l0_0 (ji32)).f1) ((rd_T39 l0_0 (ji32)).f2) t247 t250 t251 _ ?side1 ?side2 A38.out).mono ?_
        (case side1 => repeat (first | exact (Kd.C_below HR246_0.out HB.out) | (with_reducible refine Kd.C_alloc ?_ _) | (with_reducible refine Kd.C_drewN ?_ _) | (with_reducible refine Kd.C_drew ?_)))
        (case side2 => exact HC246_0.out)
        rintro e w45 ⟨v248, rfl, ho0, hb⟩
        obtain ⟨m2_, mb2_, ha2_, hz2_, hc2_⟩ := nxt_ hb
        refine ⟨_, rfl, ?_⟩
        replace HO242 := am (Kd.S_mono (ok' := fun k_ => k_ < m1_) (Kd.S_elder' (ks HO242.out) (Kd.R_base ho0) hb) (fun _ hk => hk.1))
        replace HO245 := am (Kd.T_mono (ok' := fun k_ => m1_ ≤ k_ ∧ k_ < m2_) (Kd.T_elder' (Kd.T_bound (by (with_reducible repeat (first | apply Kd.T_alloc | apply Kd.T_drewN | apply Kd.T_drew)); exact HO245.out)) (Kd.R_base ho0) hb) (fun _ hk => ⟨hk.1.1, by rw [ha2_]; exact hk.1.2.2.1⟩))
        have HO249 := am (Kd.R_mono (ok' := fun k_ => m2_ ≤ k_) (Kd.R_lower (Kd.R_bound ho0) (below_size (bl HB.out))) (fun _ hk => by rw [ha2_]; exact hk.2.1))
        replace BK231 := am (blk_below (pk BK231.out) hb)
        replace BK232 := am (blk_below (pk BK232.out) hb)
        replace BK233 := am (blk_below (pk BK233.out) hb)
        replace HB := am (below_step (bl HB.out) hb)
        (try clear hb)
        (try clear hb2)
        (try clear hk)
        (try clear hi)
        (try clear ho0)
        obtain ⟨Ao46, co46, eo46⟩ := Kd.R_slice HO249.out
        (first | subst eo46 | (injection eo46 with f1_ f2_ f3_; have f4_ := f1_.symm; have f5_ := f3_.symm; clear f1_ f2_ f3_; subst f4_; subst f5_))
        refine hK.out _ _ ⟨bc BK231.out 0, bc BK231.out 1, bc BK232.out 0, bc BK232.out 1, bc BK232.out 2, ((HB.out.cell (World.block_lt_of_cell? _ _ hw246_0)).trans hw246_0), ((HB.out.cell (World.block_lt_of_cell? _ _ hw246_1)).trans hw246_1), ((HB.out.cell (World.block_lt_of_cell? _ _ hw246_2)).trans hw246_2)⟩ (fun hHeld => ?_)
        clear hK K
        refine norm_ (a' := ?_) ?_ ?_
        rotate_left
        ·show Act.put _ (some 39) _ = _
         simp only [Act.put, sa_, s0_, ss_, i64_w, i32_w]
         rfl
        refine pure_ (i := 16) (N := some 40) (v := ?_) (a' := ?_) #[true, true, true, true, true, true, true, true, true, true, true, true, true, true, true, true, true, false] rfl rfl (any_of HT_.out (by kernel_rfl)) (fun _ _ _ h => h) (Or.inl ⟨by rfl, ?_⟩) ?_ ?_; rotate_left
        ·intro w'; go_simp; with_reducible rfl
        rotate_left
        ·simp only [Act.put, sa_, s0_, ss_, i64_w, i32_w]; rfl
        refine one_ (i := 17) (N := none) #[true, true, true, true, true, true, true, true, true, true, true, true, true, true, true, true, true, true] rfl rfl (one_of HT_.out (by kernel_rfl)) (by decide) (fun K hK => ?_)
        have hs47 : w45.cell? ⟨gb233, 0, none⟩ = some (.slice none 0 0) := bc BK233.out 0
        have hfs47 := blk_frozen BK233.out 0
        have hns47_0 := NB231_233.out
        have hns47_1 := NB232_233.out
        have hms47_0 := NB233_231.out
        have hms47_1 := NB233_232.out
        have hs48 : w45.cell? ⟨gb233, 1, none⟩ = some (.slice none 0 0) := bc BK233.out 1
        have hfs48 := blk_frozen BK233.out 1
        have hs49 : w45.cell? ⟨gb233, 2, none⟩ = some (.slice none 0 0) := bc BK233.out 2
        have hfs49 := blk_frozen BK233.out 2
        have hs50 : w45.cell? ⟨gb233, 3, none⟩ = some (.int .i64 0) := bc BK233.out 3
        have hfs50 := blk_frozen BK233.out 3
        have hs51 : w45.cell? ⟨gb233, 4, none⟩ = some (.int .i64 0) := bc BK233.out 4
        have hfs51 := blk_frozen BK233.out 4
        have hs52 : w45.cell? ⟨gb233, 5, none⟩ = some (.int .i64 0) := bc BK233.out 5
        have hfs52 := blk_frozen BK233.out 5
        refine skip_ (w1 := ?_) (by rfl) rfl ?_ ?_
        rotate_left
        ·go_simp
         rfl
        refine hK.out _ _ ⟨((cell_far (p := ⟨gb233, _, none⟩) NB231_233.out _).trans (((cell_far (p := ⟨gb233, _, none⟩) NB231_233.out _).trans (((cell_far (p := ⟨gb233, _, none⟩) NB231_233.out _).trans (((cell_far (p := ⟨gb233, _, none⟩) NB231_233.out _).trans (((cell_far (p := ⟨gb233, _, none⟩) NB231_233.out _).trans (((cell_far (p := ⟨gb233, _, none⟩) NB231_233.out _).trans (hHeld.1)))))))))))), ((cell_far (p := ⟨gb233, _, none⟩) NB231_233.out _).trans (((cell_far (p := ⟨gb233, _, none⟩) NB231_233.out _).trans (((cell_far (p := ⟨gb233, _, none⟩) NB231_233.out _).trans (((cell_far (p := ⟨gb233, _, none⟩) NB231_233.out _).trans (((cell_far (p := ⟨gb233, _, none⟩) NB231_233.out _).trans (((cell_far (p := ⟨gb233, _, none⟩) NB231_233.out _).trans (hHeld.2.1)))))))))))), ((cell_far (p := ⟨gb233, _, none⟩) NB232_233.out _).trans (((cell_far (p := ⟨gb233, _, none⟩) NB232_233.out _).trans (((cell_far (p := ⟨gb233, _, none⟩) NB232_233.out _).trans (((cell_far (p := ⟨gb233, _, none⟩) NB232_233.out _).trans (((cell_far (p := ⟨gb233, _, none⟩) NB232_233.out _).trans (((cell_far (p := ⟨gb233, _, none⟩) NB232_233.out _).trans (hHeld.2.2.1)))))))))))), ((cell_far (p := ⟨gb233, _, none⟩) NB232_233.out _).trans (((cell_far (p := ⟨gb233, _, none⟩) NB232_233.out _).trans (((cell_far (p := ⟨gb233, _, none⟩) NB232_233.out _).trans (((cell_far (p := ⟨gb233, _, none⟩) NB232_233.out _).trans (((cell_far (p := ⟨gb233, _, none⟩) NB232_233.out _).trans (((cell_far (p := ⟨gb233, _, none⟩) NB232_233.out _).trans (hHeld.2.2.2.1)))))))))))), ((cell_far (p := ⟨gb233, _, none⟩) NB232_233.out _).trans (((cell_far (p := ⟨gb233, _, none⟩) NB232_233.out _).trans (((cell_far (p := ⟨gb233, _, none⟩) NB232_233.out _).trans (((cell_far (p := ⟨gb233, _, none⟩) NB232_233.out _).trans (((cell_far (p := ⟨gb233, _, none⟩) NB232_233.out _).trans (((cell_far (p := ⟨gb233, _, none⟩) NB232_233.out _).trans (hHeld.2.2.2.2.1)))))))))))), ((cell_far (p := ⟨gb233, _, none⟩) (by first | exact Nat.ne_of_lt (Nat.lt_of_lt_of_le (by have := World.block_lt_of_cell? _ _ hw246_0; first | rwa [add_block] at this | exact this) GW233.out) | (rw [add_block]; exact Nat.ne_of_lt (Nat.lt_of_lt_of_le (by have := World.block_lt_of_cell? _ _ hw246_0; first | rwa [add_block] at this | exact this) GW233.out)) | (show (Addr.add _ _).block ≠ _; rw [add_block]; exact Nat.ne_of_lt (Nat.lt_of_lt_of_le (by have := World.block_lt_of_cell? _ _ hw246_0; first | rwa [add_block] at this | exact this) GW233.out)) | (dsimp only; exact Nat.ne_of_lt (Nat.lt_of_lt_of_le (by have := World.block_lt_of_cell? _ _ hw246_0; first | rwa [add_block] at this | exact this) GW233.out))) _).trans (((cell_far (p := ⟨gb233, _, none⟩) (by first | exact Nat.ne_of_lt (Nat.lt_of_lt_of_le (by have := World.block_lt_of_cell? _ _ hw246_0; first | rwa [add_block] at this | exact this) GW233.out) | (rw [add_block]; exact Nat.ne_of_lt (Nat.lt_of_lt_of_le (by have := World.block_lt_of_cell? _ _ hw246_0; first | rwa [add_block] at this | exact this) GW233.out)) | (show (Addr.add _ _).block ≠ _; rw [add_block]; exact Nat.ne_of_lt (Nat.lt_of_lt_of_le (by have := World.block_lt_of_cell? _ _ hw246_0; first | rwa [add_block] at this | exact this) GW233.out)) | (dsimp only; exact Nat.ne_of_lt (Nat.lt_of_lt_of_le (by have := World.block_lt_of_cell? _ _ hw246_0; first | rwa [add_block] at this | exact this) GW233.out))) _).trans (((cell_far (p := ⟨gb233, _, none⟩) (by first | exact Nat.ne_of_lt (Nat.lt_of_lt_of_le (by have := World.block_lt_of_cell? _ _ hw246_0; first | rwa [add_block] at this | exact this) GW233.out) | (rw [add_block]; exact Nat.ne_of_lt (Nat.lt_of_lt_of_le (by have := World.block_lt_of_cell? _ _ hw246_0; first | rwa [add_block] at this | exact this) GW233.out)) | (show (Addr.add _ _).block ≠ _; rw [add_block]; exact Nat.ne_of_lt (Nat.lt_of_lt_of_le (by have := World.block_lt_of_cell? _ _ hw246_0; first | rwa [add_block] at this | exact this) GW233.out)) | (dsimp only; exact Nat.ne_of_lt (Nat.lt_of_lt_of_le (by have := World.block_lt_of_cell? _ _ hw246_0; first | rwa [add_block] at this | exact this) GW233.out))) _).trans (((cell_far (p := ⟨gb233, _, none⟩) (by first | exact Nat.ne_of_lt (Nat.lt_of_lt_of_le (by have := World.block_lt_of_cell? _ _ hw246_0; first | rwa [add_block] at this | exact this) GW233.out) | (rw [add_block]; exact Nat.ne_of_lt (Nat.lt_of_lt_of_le (by have := World.block_lt_of_cell? _ _ hw246_0; first | rwa [add_block] at this | exact this) GW233.out)) | (show (Addr.add _ _).block ≠ _; rw [add_block]; exact Nat.ne_of_lt (Nat.lt_of_lt_of_le (by have := World.block_lt_of_cell? _ _ hw246_0; first | rwa [add_block] at this | exact this) GW233.out)) | (dsimp only; exact Nat.ne_of_lt (Nat.lt_of_lt_of_le (by have := World.block_lt_of_cell? _ _ hw246_0; first | rwa [add_block] at this | exact this) GW233.out))) _).trans (((cell_far (p := ⟨gb233, _, none⟩) (by first | exact Nat.ne_of_lt (Nat.lt_of_lt_of_le (by have := World.block_lt_of_cell? _ _ hw246_0; first | rwa [add_block] at this | exact this) GW233.out) | (rw [add_block]; exact Nat.ne_of_lt (Nat.lt_of_lt_of_le (by have := World.block_lt_of_cell? _ _ hw246_0; first | rwa [add_block] at this | exact this) GW233.out)) | (show (Addr.add _ _).block ≠ _; rw [add_block]; exact Nat.ne_of_lt (Nat.lt_of_lt_of_le (by have := World.block_lt_of_cell? _ _ hw246_0; first | rwa [add_block] at this | exact this) GW233.out)) | (dsimp only; exact Nat.ne_of_lt (Nat.lt_of_lt_of_le (by have := World.block_lt_of_cell? _ _ hw246_0; first | rwa [add_block] at this | exact this) GW233.out))) _).trans (((cell_far (p := ⟨gb233, _, none⟩) (by first | exact Nat.ne_of_lt (Nat.lt_of_lt_of_le (by have := World.block_lt_of_cell? _ _ hw246_0; first | rwa [add_block] at this | exact this) GW233.out) | (rw [add_block]; exact Nat.ne_of_lt (Nat.lt_of_lt_of_le (by have := World.block_lt_of_cell? _ _ hw246_0; first | rwa [add_block] at this | exact this) GW233.out)) | (show (Addr.add _ _).block ≠ _; rw [add_block]; exact Nat.ne_of_lt (Nat.lt_of_lt_of_le (by have := World.block_lt_of_cell? _ _ hw246_0; first | rwa [add_block] at this | exact this) GW233.out)) | (dsimp only; exact Nat.ne_of_lt (Nat.lt_of_lt_of_le (by have := World.block_lt_of_cell? _ _ hw246_0; first | rwa [add_block] at this | exact this) GW233.out))) _).trans (hHeld.2.2.2.2.2.1)))))))))))), ((cell_far (p := ⟨gb233, _, none⟩) (by first | exact Nat.ne_of_lt (Nat.lt_of_lt_of_le (by have := World.block_lt_of_cell? _ _ hw246_1; first | rwa [add_block] at this | exact this) GW233.out) | (rw [add_block]; exact Nat.ne_of_lt (Nat.lt_of_lt_of_le (by have := World.block_lt_of_cell? _ _ hw246_1; first | rwa [add_block] at this | exact this) GW233.out)) | (show (Addr.add _ _).block ≠ _; rw [add_block]; exact Nat.ne_of_lt (Nat.lt_of_lt_of_le (by have := World.block_lt_of_cell? _ _ hw246_1; first | rwa [add_block] at this | exact this) GW233.out)) | (dsimp only; exact Nat.ne_of_lt (Nat.lt_of_lt_of_le (by have := World.block_lt_of_cell? _ _ hw246_1; first | rwa [add_block] at this | exact this) GW233.out))) _).trans (((cell_far (p := ⟨gb233, _, none⟩) (by first | exact Nat.ne_of_lt (Nat.lt_of_lt_of_le (by have := World.block_lt_of_cell? _ _ hw246_1; first | rwa [add_block] at this | exact this) GW233.out) | (rw [add_block]; exact Nat.ne_of_lt (Nat.lt_of_lt_of_le (by have := World.block_lt_of_cell? _ _ hw246_1; first | rwa [add_block] at this | exact this) GW233.out)) | (show (Addr.add _ _).block ≠ _; rw [add_block]; exact Nat.ne_of_lt (Nat.lt_of_lt_of_le (by have := World.block_lt_of_cell? _ _ hw246_1; first | rwa [add_block] at this | exact this) GW233.out)) | (dsimp only; exact Nat.ne_of_lt (Nat.lt_of_lt_of_le (by have := World.block_lt_of_cell? _ _ hw246_1; first | rwa [add_block] at this | exact this) GW233.out))) _).trans (((cell_far (p := ⟨gb233, _, none⟩) (by first | exact Nat.ne_of_lt (Nat.lt_of_lt_of_le (by have := World.block_lt_of_cell? _ _ hw246_1; first | rwa [add_block] at this | exact this) GW233.out) | (rw [add_block]; exact Nat.ne_of_lt (Nat.lt_of_lt_of_le (by have := World.block_lt_of_cell? _ _ hw246_1; first | rwa [add_block] at this | exact this) GW233.out)) | (show (Addr.add _ _).block ≠ _; rw [add_block]; exact Nat.ne_of_lt (Nat.lt_of_lt_of_le (by have := World.block_lt_of_cell? _ _ hw246_1; first | rwa [add_block] at this | exact this) GW233.out)) | (dsimp only; exact Nat.ne_of_lt (Nat.lt_of_lt_of_le (by have := World.block_lt_of_cell? _ _ hw246_1; first | rwa [add_block] at this | exact this) GW233.out))) _).trans (((cell_far (p := ⟨gb233, _, none⟩) (by first | exact Nat.ne_of_lt (Nat.lt_of_lt_of_le (by have := World.block_lt_of_cell? _ _ hw246_1; first | rwa [add_block] at this | exact this) GW233.out) | (rw [add_block]; exact Nat.ne_of_lt (Nat.lt_of_lt_of_le (by have := World.block_lt_of_cell? _ _ hw246_1; first | rwa [add_block] at this | exact this) GW233.out)) | (show (Addr.add _ _).block ≠ _; rw [add_block]; exact Nat.ne_of_lt (Nat.lt_of_lt_of_le (by have := World.block_lt_of_cell? _ _ hw246_1; first | rwa [add_block] at this | exact this) GW233.out)) | (dsimp only; exact Nat.ne_of_lt (Nat.lt_of_lt_of_le (by have := World.block_lt_of_cell? _ _ hw246_1; first | rwa [add_block] at this | exact this) GW233.out))) _).trans (((cell_far (p := ⟨gb233, _, none⟩) (by first | exact Nat.ne_of_lt (Nat.lt_of_lt_of_le (by have := World.block_lt_of_cell? _ _ hw246_1; first | rwa [add_block] at this | exact this) GW233.out) | (rw [add_block]; exact Nat.ne_of_lt (Nat.lt_of_lt_of_le (by have := World.block_lt_of_cell? _ _ hw246_1; first | rwa [add_block] at this | exact this) GW233.out)) | (show (Addr.add _ _).block ≠ _; rw [add_block]; exact Nat.ne_of_lt (Nat.lt_of_lt_of_le (by have := World.block_lt_of_cell? _ _ hw246_1; first | rwa [add_block] at this | exact this) GW233.out)) | (dsimp only; exact Nat.ne_of_lt (Nat.lt_of_lt_of_le (by have := World.block_lt_of_cell? _ _ hw246_1; first | rwa [add_block] at this | exact this) GW233.out))) _).trans (((cell_far (p := ⟨gb233, _, none⟩) (by first | exact Nat.ne_of_lt (Nat.lt_of_lt_of_le (by have := World.block_lt_of_cell? _ _ hw246_1; first | rwa [add_block] at this | exact this) GW233.out) | (rw [add_block]; exact Nat.ne_of_lt (Nat.lt_of_lt_of_le (by have := World.block_lt_of_cell? _ _ hw246_1; first | rwa [add_block] at this | exact this) GW233.out)) | (show (Addr.add _ _).block ≠ _; rw [add_block]; exact Nat.ne_of_lt (Nat.lt_of_lt_of_le (by have := World.block_lt_of_cell? _ _ hw246_1; first | rwa [add_block] at this | exact this) GW233.out)) | (dsimp only; exact Nat.ne_of_lt (Nat.lt_of_lt_of_le (by have := World.block_lt_of_cell? _ _ hw246_1; first | rwa [add_block] at this | exact this) GW233.out))) _).trans (hHeld.2.2.2.2.2.2.1)))))))))))), ((cell_far (p := ⟨gb233, _, none⟩) (by first | exact Nat.ne_of_lt (Nat.lt_of_lt_of_le (by have := World.block_lt_of_cell? _ _ hw246_2; first | rwa [add_block] at this | exact this) GW233.out) | (rw [add_block]; exact Nat.ne_of_lt (Nat.lt_of_lt_of_le (by have := World.block_lt_of_cell? _ _ hw246_2; first | rwa [add_block] at this | exact this) GW233.out)) | (show (Addr.add _ _).block ≠ _; rw [add_block]; exact Nat.ne_of_lt (Nat.lt_of_lt_of_le (by have := World.block_lt_of_cell? _ _ hw246_2; first | rwa [add_block] at this | exact this) GW233.out)) | (dsimp only; exact Nat.ne_of_lt (Nat.lt_of_lt_of_le (by have := World.block_lt_of_cell? _ _ hw246_2; first | rwa [add_block] at this | exact this) GW233.out))) _).trans (((cell_far (p := ⟨gb233, _, none⟩) (by first | exact Nat.ne_of_lt (Nat.lt_of_lt_of_le (by have := World.block_lt_of_cell? _ _ hw246_2; first | rwa [add_block] at this | exact this) GW233.out) | (rw [add_block]; exact Nat.ne_of_lt (Nat.lt_of_lt_of_le (by have := World.block_lt_of_cell? _ _ hw246_2; first | rwa [add_block] at this | exact this) GW233.out)) | (show (Addr.add _ _).block ≠ _; rw [add_block]; exact Nat.ne_of_lt (Nat.lt_of_lt_of_le (by have := World.block_lt_of_cell? _ _ hw246_2; first | rwa [add_block] at this | exact this) GW233.out)) | (dsimp only; exact Nat.ne_of_lt (Nat.lt_of_lt_of_le (by have := World.block_lt_of_cell? _ _ hw246_2; first | rwa [add_block] at this | exact this) GW233.out))) _).trans (((cell_far (p := ⟨gb233, _, none⟩) (by first | exact Nat.ne_of_lt (Nat.lt_of_lt_of_le (by have := World.block_lt_of_cell? _ _ hw246_2; first | rwa [add_block] at this | exact this) GW233.out) | (rw [add_block]; exact Nat.ne_of_lt (Nat.lt_of_lt_of_le (by have := World.block_lt_of_cell? _ _ hw246_2; first | rwa [add_block] at this | exact this) GW233.out)) | (show (Addr.add _ _).block ≠ _; rw [add_block]; exact Nat.ne_of_lt (Nat.lt_of_lt_of_le (by have := World.block_lt_of_cell? _ _ hw246_2; first | rwa [add_block] at this | exact this) GW233.out)) | (dsimp only; exact Nat.ne_of_lt (Nat.lt_of_lt_of_le (by have := World.block_lt_of_cell? _ _ hw246_2; first | rwa [add_block] at this | exact this) GW233.out))) _).trans (((cell_far (p := ⟨gb233, _, none⟩) (by first | exact Nat.ne_of_lt (Nat.lt_of_lt_of_le (by have := World.block_lt_of_cell? _ _ hw246_2; first | rwa [add_block] at this | exact this) GW233.out) | (rw [add_block]; exact Nat.ne_of_lt (Nat.lt_of_lt_of_le (by have := World.block_lt_of_cell? _ _ hw246_2; first | rwa [add_block] at this | exact this) GW233.out)) | (show (Addr.add _ _).block ≠ _; rw [add_block]; exact Nat.ne_of_lt (Nat.lt_of_lt_of_le (by have := World.block_lt_of_cell? _ _ hw246_2; first | rwa [add_block] at this | exact this) GW233.out)) | (dsimp only; exact Nat.ne_of_lt (Nat.lt_of_lt_of_le (by have := World.block_lt_of_cell? _ _ hw246_2; first | rwa [add_block] at this | exact this) GW233.out))) _).trans (((cell_far (p := ⟨gb233, _, none⟩) (by first | exact Nat.ne_of_lt (Nat.lt_of_lt_of_le (by have := World.block_lt_of_cell? _ _ hw246_2; first | rwa [add_block] at this | exact this) GW233.out) | (rw [add_block]; exact Nat.ne_of_lt (Nat.lt_of_lt_of_le (by have := World.block_lt_of_cell? _ _ hw246_2; first | rwa [add_block] at this | exact this) GW233.out)) | (show (Addr.add _ _).block ≠ _; rw [add_block]; exact Nat.ne_of_lt (Nat.lt_of_lt_of_le (by have := World.block_lt_of_cell? _ _ hw246_2; first | rwa [add_block] at this | exact this) GW233.out)) | (dsimp only; exact Nat.ne_of_lt (Nat.lt_of_lt_of_le (by have := World.block_lt_of_cell? _ _ hw246_2; first | rwa [add_block] at this | exact this) GW233.out))) _).trans (((cell_far (p := ⟨gb233, _, none⟩) (by first | exact Nat.ne_of_lt (Nat.lt_of_lt_of_le (by have := World.block_lt_of_cell? _ _ hw246_2; first | rwa [add_block] at this | exact this) GW233.out) | (rw [add_block]; exact Nat.ne_of_lt (Nat.lt_of_lt_of_le (by have := World.block_lt_of_cell? _ _ hw246_2; first | rwa [add_block] at this | exact this) GW233.out)) | (show (Addr.add _ _).block ≠ _; rw [add_block]; exact Nat.ne_of_lt (Nat.lt_of_lt_of_le (by have := World.block_lt_of_cell? _ _ hw246_2; first | rwa [add_block] at this | exact this) GW233.out)) | (dsimp only; exact Nat.ne_of_lt (Nat.lt_of_lt_of_le (by have := World.block_lt_of_cell? _ _ hw246_2; first | rwa [add_block] at this | exact this) GW233.out))) _).trans (hHeld.2.2.2.2.2.2.2))))))))))))⟩ (fun hHeld => ?_)
        clear hK K
        refine done_ (done_of HT_.out (by kernel_rfl)) ?_
        try go_wp2
        refine bodyPost_ret (results_cell_row rfl _ _ gb233 43 #[.slice Ao44 t240.length co44, .slice Ao43 t243.length co43, .slice Ao46 t247.length co46, .int .i64 t250, .int .i64 t251, .int .i64 0] (0, 0) _ rfl (by refine pk ?_; refine blk_put (cs := #[.slice Ao44 t240.length co44, .slice Ao43 t243.length co43, .slice Ao46 t247.length co46, .int .i64 t250, .int .i64 t251, .int .i64 0]) ?_ 5 _ rfl; refine pk ?_; refine blk_put (cs := #[.slice Ao44 t240.length co44, .slice Ao43 t243.length co43, .slice Ao46 t247.length co46, .int .i64 t250, .int .i64 0, .int .i64 0]) ?_ 4 _ rfl; refine pk ?_; refine blk_put (cs := #[.slice Ao44 t240.length co44, .slice Ao43 t243.length co43, .slice Ao46 t247.length co46, .int .i64 0, .int .i64 0, .int .i64 0]) ?_ 3 _ rfl; refine pk ?_; refine blk_put (cs := #[.slice Ao44 t240.length co44, .slice Ao43 t243.length co43, .slice none 0 0, .int .i64 0, .int .i64 0, .int .i64 0]) ?_ 2 _ rfl; refine pk ?_; refine blk_put (cs := #[.slice Ao44 t240.length co44, .slice none 0 0, .slice none 0 0, .int .i64 0, .int .i64 0, .int .i64 0]) ?_ 1 _ rfl; refine pk ?_; refine blk_put (cs := #[.slice none 0 0, .slice none 0 0, .slice none 0 0, .int .i64 0, .int .i64 0, .int .i64 0]) ?_ 0 _ rfl; refine pk ?_; exact BK233.out) Try.underlying43 rfl (by kernel_rfl)) rfl ?_
        exact ⟨m1_, m2_, ⟨hw1_, (by omega), (by (try simp only [World.size_setCell]); omega)⟩, _, _, _, by first | rfl | (simp [errW_none, errW_some] <;> rfl) | (simp only [← hji32]; first | rfl | (simp [errW_none, errW_some] <;> rfl)) | (simp [*, errW_none, errW_some] <;> rfl), ks (Kd.S_mono (Kd.S_far (p := ⟨gb233, 5, none⟩) (Kd.S_far (p := ⟨gb233, 4, none⟩) (Kd.S_far (p := ⟨gb233, 3, none⟩) (Kd.S_far (p := ⟨gb233, 2, none⟩) (Kd.S_far (p := ⟨gb233, 1, none⟩) (Kd.S_far (p := ⟨gb233, 0, none⟩) (Kd.S_types HO242.out BK233.out (by decide)) (fun _ hk => hk.2) (.slice Ao44 t240.length co44)) (fun _ hk => hk.2) (.slice Ao43 t243.length co43)) (fun _ hk => hk.2) (.slice Ao46 t247.length co46)) (fun _ hk => hk.2) (.int .i64 t250)) (fun _ hk => hk.2) (.int .i64 t251)) (fun _ hk => hk.2) (.int .i64 0)) (fun _ hk => hk.1)), by (with_reducible repeat (first | apply Kd.T_alloc | apply Kd.T_drewN | apply Kd.T_drew)); exact Kd.T_mono (Kd.T_far (p := ⟨gb233, 5, none⟩) (Kd.T_far (p := ⟨gb233, 4, none⟩) (Kd.T_far (p := ⟨gb233, 3, none⟩) (Kd.T_far (p := ⟨gb233, 2, none⟩) (Kd.T_far (p := ⟨gb233, 1, none⟩) (Kd.T_far (p := ⟨gb233, 0, none⟩) (Kd.T_types HO245.out BK233.out (by decide)) (fun _ hk => hk.2) (.slice Ao44 t240.length co44)) (fun _ hk => hk.2) (.slice Ao43 t243.length co43)) (fun _ hk => hk.2) (.slice Ao46 t247.length co46)) (fun _ hk => hk.2) (.int .i64 t250)) (fun _ hk => hk.2) (.int .i64 t251)) (fun _ hk => hk.2) (.int .i64 0)) (fun _ hk => hk.1), kr (Kd.R_mono (Kd.R_far (p := ⟨gb233, 5, none⟩) (Kd.R_far (p := ⟨gb233, 4, none⟩) (Kd.R_far (p := ⟨gb233, 3, none⟩) (Kd.R_far (p := ⟨gb233, 2, none⟩) (Kd.R_far (p := ⟨gb233, 1, none⟩) (Kd.R_far (p := ⟨gb233, 0, none⟩) (Kd.R_types HO249.out BK233.out (by decide)) (fun _ hk => hk.2) (.slice Ao44 t240.length co44)) (fun _ hk => hk.2) (.slice Ao43 t243.length co43)) (fun _ hk => hk.2) (.slice Ao46 t247.length co46)) (fun _ hk => hk.2) (.int .i64 t250)) (fun _ hk => hk.2) (.int .i64 t251)) (fun _ hk => hk.2) (.int .i64 0)) (fun _ hk => hk.1)), by repeat (first | (with_reducible first | exact HB.out | apply below_alloc | apply pw_below_drewN | apply below_drew1 | refine below_set ?_ GE231.out | refine below_set ?_ GE232.out | refine below_set ?_ GE233.out) | exact HB.out)⟩
       ·rw [if_neg c37] at H
        exact absurd H (by simp)
      ·rw [if_neg c34] at H
       exact absurd H (by simp)
     ·rw [if_neg c33] at H
      exact absurd H (by simp)
theorem impl_UndoBack.calls (k : Nat) (A0_0 : Option Addr) (c0_0 : Nat) (l0_0 : List (S39)) (A0_1 : Option Addr) (c0_1 : Nat) (l0_1 : List (S39)) (A1_0 : Option Addr) (c1_0 : Nat) (l1_0 : List Int) (a1_1 : Int) (a1_2 : Int) (r1 : List (S39)) (r2 : List (S39)) (r3 : List Int) (r4 : Int) (r5 : Int) (r6 : Int) (w : World) (hr0_0 : Kd.C k39 w A0_0 l0_0.length l0_0) (hc0_0 : l0_0.length ≤ c0_0) (hr0_1 : Kd.C k39 w A0_1 l0_1.length l0_1) (hc0_1 : l0_1.length ≤ c0_1) (hr1_0 : Kd.C (Kd.int .i64) w A1_0 l1_0.length l1_0) (hc1_0 : l1_0.length ≤ c1_0) (h : impl_UndoBack.f k l0_0 l0_1 l1_0 a1_1 a1_2 = some (r1, r2, r3, r4, r5, r6)) :
  Calls Try.prog 16 #[.agg #[.slice A0_0 l0_0.length c0_0, .slice A0_1 l0_1.length c0_1], .agg #[.slice A1_0 l1_0.length c1_0, .int .i64 a1_1, .int .i64 a1_2]] w fun e w' => ∃ v0_ v1_ v2_ : Value, e = .returned (.agg #[v0_, v1_, v2_, .int .i64 r4, .int .i64 r5, .int .i64 r6]) ∧ Kd.S k39 39 w' w.heap.size (fun k_ => some k_ ≠ (v1_ : Value).ownBlock ∧ some k_ ≠ (v2_ : Value).ownBlock) v0_ r1 ∧ Kd.T k39 39 w' w.heap.size (fun k_ => some k_ ≠ (v0_ : Value).ownBlock ∧ some k_ ≠ (v2_ : Value).ownBlock) v1_ r2 ∧ Kd.R (Kd.int .i64) 2 w' w.heap.size (fun _ => True) v2_ r3 ∧ Below w.heap.size w w' := by
 refine (impl_UndoBack.callsA k A0_0 c0_0 l0_0 A0_1 c0_1 l0_1 A1_0 c1_0 l1_0 a1_1 a1_2 r1 r2 r3 r4 r5 r6 w hr0_0 hc0_0 hr0_1 hc0_1 hr1_0 hc1_0 h).mono ?_
 rintro e w' ⟨m1_, m2_, _, v0_, v1_, v2_, he_, h0_, h1_, h2_, hb_⟩
 exact ⟨v0_, v1_, v2_, he_, Kd.S_mono h0_ (fun k_ hk_ => ⟨(fun e_ => by have z_ : (fun k_ => m1_ ≤ k_ ∧ k_ < m2_) k_ := Kd.T_own h1_ k_ e_.symm; have y_ : (fun k_ => k_ < m1_) k_ := hk_; dsimp only at z_ y_; omega), (fun e_ => by have z_ : (fun k_ => m2_ ≤ k_) k_ := Kd.R_own h2_ k_ e_.symm; have y_ : (fun k_ => k_ < m1_) k_ := hk_; dsimp only at z_ y_; omega)⟩), Kd.T_mono h1_ (fun k_ hk_ => ⟨(fun e_ => by have z_ : (fun k_ => k_ < m1_) k_ := Kd.S_own h0_ k_ e_.symm; have y_ : (fun k_ => m1_ ≤ k_ ∧ k_ < m2_) k_ := hk_; dsimp only at z_ y_; omega), (fun e_ => by have z_ : (fun k_ => m2_ ≤ k_) k_ := Kd.R_own h2_ k_ e_.symm; have y_ : (fun k_ => m1_ ≤ k_ ∧ k_ < m2_) k_ := hk_; dsimp only at z_ y_; omega)⟩), Kd.R_mono h2_ (fun k_ hk_ => trivial), hb_⟩


/-! ### laws_szInt64S: function 70 -/
def laws_szInt64S.f (l0 : List Int) (a1 : Int) : Option (Int) := if (wrap64 (a1 - (l0.length : Int))) < 0 then (some (-1)) else (some (wrap64 (a1 - (l0.length : Int))))
theorem laws_szInt64S.calls (A0 : Option Addr) (c0 : Nat) (l0 : List Int) (a1 : Int) (r : Int) (w : World) (hr0 : Kd.C (Kd.int .i64) w A0 l0.length l0) (hc0 : l0.length ≤ c0) (h : laws_szInt64S.f l0 a1 = some r) :
  Calls Try.prog 70 #[.slice A0 l0.length c0, .int .i64 a1] w fun e w' => e = .returned (.int .i64 r) ∧ Drawn0 w w' := by
 have HR0 := am hr0
 have HC0 := am hc0
 clear hr0 hc0
 have H : (if (wrap64 (a1 - (l0.length : Int))) < 0 then (some (-1)) else (some (wrap64 (a1 - (l0.length : Int))))) = some r := h
 clear h
 by_cases c3 : (wrap64 (a1 - (l0.length : Int))) < 0
 ·rw [if_pos c3] at H
  have c3b0 : decide ((wrap64 (a1 - (l0.length : Int))) < 0) = true := decide_eq_true c3
  clear c3
  obtain rfl := Option.some.inj H
  go_enter Try.func70, Try.ntmps70
  go_wp2
  go_ret
  exact ⟨by first | rfl | (simp; done) | (simp [*]; done), by repeat (first | exact Drawn0.refl _ | apply Drawn0.step)⟩
 ·rw [if_neg c3] at H
  have c3b0 : decide ((wrap64 (a1 - (l0.length : Int))) < 0) = false := decide_eq_false c3
  clear c3
  obtain rfl := Option.some.inj H
  go_enter Try.func70, Try.ntmps70
  go_wp2
  go_ret
  exact ⟨by first | rfl | (simp; done) | (simp [*]; done), by repeat (first | exact Drawn0.refl _ | apply Drawn0.step)⟩

/-! ### laws_szBuf: function 32 -/
def laws_szBuf.f (l0_0 : List Int) (a0_1 : Int) (a0_2 : Int) (a1 : Int) : Option (Int) := (laws_szInt64S.f l0_0 a1).bind fun t253 => (if t253 < 0 then (some (-1)) else (some t253))
theorem laws_szBuf.calls (A0_0 : Option Addr) (c0_0 : Nat) (l0_0 : List Int) (a0_1 : Int) (a0_2 : Int) (a1 : Int) (r : Int) (w : World) (hr0_0 : Kd.C (Kd.int .i64) w A0_0 l0_0.length l0_0) (hc0_0 : l0_0.length ≤ c0_0) (h : laws_szBuf.f l0_0 a0_1 a0_2 a1 = some r) :
  Calls Try.prog 32 #[.agg #[.slice A0_0 l0_0.length c0_0, .int .i64 a0_1, .int .i64 a0_2], .int .i64 a1] w fun e w' => e = .returned (.int .i64 r) ∧ Below w.heap.size w w' := by
 have hu65 := Try.underlying65
 have HR0_0 := am hr0_0
 have HC0_0 := am hc0_0
 clear hr0_0 hc0_0
 have HB := am (Below.refl w.heap.size w)
 have H : ((laws_szInt64S.f l0_0 a1).bind fun t253 => (if t253 < 0 then (some (-1)) else (some t253))) = some r := h
 clear h
 replace H := Option.bind_eq_some_iff.mp H
 obtain ⟨t253, A30, H⟩ := H
 replace H : (if t253 < 0 then (some (-1)) else (some t253)) = some r := H
 have A3 := Aside0.mk A30
 clear A30
 by_cases c4 : t253 < 0
 ·rw [if_pos c4] at H
  have c4b0 : decide (t253 < 0) = true := decide_eq_true c4
  clear c4
  obtain rfl := Option.some.inj H
  go_enter Try.func32, Try.ntmps32
  go_wp2_with (first | ((with_reducible refine gate_dst (N := 2) rfl ?_); refine box_event ?hg (N := 2) ?hd (cs := #[.slice A0_0 l0_0.length c0_0, .int .i64 a0_1, .int .i64 a0_2]) (t := 65) ?hr ?_; (case hd => rfl); (case hg => rfl); (case hr => first | (go_simp; done) | (go_simp; rfl)); intro gb252 hg w5 hbox hb; have BK252 := am (hbox); have GW252 := am ((by rw [hg]; exact (below_size (bl HB.out)) : w.heap.size ≤ gb252)); have GE252 := GW252; replace HB := am (below_step (bl HB.out) hb); clear hb hbox hg; have hcz6_0 : w5.cell? ⟨gb252, 0, none⟩ = some (.slice A0_0 l0_0.length c0_0) := bc BK252.out 0; have hcz6_1 : w5.cell? ⟨gb252, 1, none⟩ = some (.int .i64 a0_1) := bc BK252.out 1; have hcz6_2 : w5.cell? ⟨gb252, 2, none⟩ = some (.int .i64 a0_2) := bc BK252.out 2) | ((with_reducible refine gate_callee (f := 70) rfl ?_); refine gl (some 8) Try.func70 #[.slice A0_0 l0_0.length c0_0, .int .i64 a1] ?_; (with_reducible refine (laws_szInt64S.calls _ _ l0_0 a1 t253 _ ?side1 ?side2 A3.out).mono ?_); (case side1 => repeat (first | exact (Kd.C_below HR0_0.out HB.out) | (with_reducible refine Kd.C_alloc ?_ _) | (with_reducible refine Kd.C_drewN ?_ _) | (with_reducible refine Kd.C_drew ?_))); (case side2 => exact HC0_0.out); rintro e w' ⟨rfl, ⟨nd, rfl⟩⟩; refine ⟨_, rfl, ?_⟩))
  go_ret
  exact ⟨by first | rfl | (simp [errW_none, errW_some] <;> rfl) | (simp [*, errW_none, errW_some] <;> rfl), by repeat (first | (with_reducible first | exact HB.out | apply below_alloc | apply pw_below_drewN | apply below_drew1 | refine below_set ?_ GE252.out) | exact HB.out)⟩
 ·rw [if_neg c4] at H
  have c4b0 : decide (t253 < 0) = false := decide_eq_false c4
  clear c4
  obtain rfl := Option.some.inj H
  go_enter Try.func32, Try.ntmps32
  go_wp2_with (first | ((with_reducible refine gate_dst (N := 2) rfl ?_); refine box_event ?hg (N := 2) ?hd (cs := #[.slice A0_0 l0_0.length c0_0, .int .i64 a0_1, .int .i64 a0_2]) (t := 65) ?hr ?_; (case hd => rfl); (case hg => rfl); (case hr => first | (go_simp; done) | (go_simp; rfl)); intro gb252 hg w7 hbox hb; have BK252 := am (hbox); have GW252 := am ((by rw [hg]; exact (below_size (bl HB.out)) : w.heap.size ≤ gb252)); have GE252 := GW252; replace HB := am (below_step (bl HB.out) hb); clear hb hbox hg; have hcz8_0 : w7.cell? ⟨gb252, 0, none⟩ = some (.slice A0_0 l0_0.length c0_0) := bc BK252.out 0; have hcz8_1 : w7.cell? ⟨gb252, 1, none⟩ = some (.int .i64 a0_1) := bc BK252.out 1; have hcz8_2 : w7.cell? ⟨gb252, 2, none⟩ = some (.int .i64 a0_2) := bc BK252.out 2) | ((with_reducible refine gate_callee (f := 70) rfl ?_); refine gl (some 8) Try.func70 #[.slice A0_0 l0_0.length c0_0, .int .i64 a1] ?_; (with_reducible refine (laws_szInt64S.calls _ _ l0_0 a1 t253 _ ?side1 ?side2 A3.out).mono ?_); (case side1 => repeat (first | exact (Kd.C_below HR0_0.out HB.out) | (with_reducible refine Kd.C_alloc ?_ _) | (with_reducible refine Kd.C_drewN ?_ _) | (with_reducible refine Kd.C_drew ?_))); (case side2 => exact HC0_0.out); rintro e w' ⟨rfl, ⟨nd, rfl⟩⟩; refine ⟨_, rfl, ?_⟩))
  go_ret
  exact ⟨by first | rfl | (simp [errW_none, errW_some] <;> rfl) | (simp [*, errW_none, errW_some] <;> rfl), by repeat (first | (with_reducible first | exact HB.out | apply below_alloc | apply pw_below_drewN | apply below_drew1 | refine below_set ?_ GE252.out) | exact HB.out)⟩

/-! ### laws_szBufS: function 88 -/
def laws_szBufS.l0 : Nat → List (S65) → Int → Int → Option (Int)
 | 0, _, _, _ => none
 | k + 1, x0, x1, x5 => if x5 < (x0.length : Int) then (if 0 ≤ x5 then ((laws_szBuf.f ((rd_T65 x0 x5).f0) ((rd_T65 x0 x5).f1) ((rd_T65 x0 x5).f2) x1).bind fun t255 => (if t255 < 0 then (some (-1)) else (laws_szBufS.l0 k x0 t255 (wrap64 (x5 + 1))))) else (none)) else (some x1)
def laws_szBufS.f (k : Nat) (l0 : List (S65)) (a1 : Int) : Option (Int) := if (wrap64 (a1 - (l0.length : Int))) < 0 then (some (-1)) else (laws_szBufS.l0 k l0 (wrap64 (a1 - (l0.length : Int))) 0)
theorem laws_szBufS.mono_l : ∀ k, (∀ y0 y1 y2, LeO (laws_szBufS.l0 k y0 y1 y2) (laws_szBufS.l0 (k + 1) y0 y1 y2))
 | 0 => fun _ _ _ r h => by simp [laws_szBufS.l0] at h
 | k + 1 => by
  have ih0 := laws_szBufS.mono_l k
  ·intro y0 y1 y2
   unfold laws_szBufS.l0
   repeat' first
   | (with_reducible exact ih0 _ _ _)
   | (with_reducible exact LeO.refl _)
   | (with_reducible exact LeO.none _)
   | (with_reducible refine LeO.ite ?_ ?_)
   | (with_reducible refine LeO.bind ?_ (fun _ => ?_))
   | exact ih0 _ _ _
   | refine LeO.bind ?_ (fun _ => ?_)
theorem laws_szBufS.mono : ∀ a0 a1 k, LeO (laws_szBufS.f k a0 a1) (laws_szBufS.f (k + 1) a0 a1) := by
 intro a0 a1 k
 have ih0 := laws_szBufS.mono_l k
 unfold laws_szBufS.f
 repeat' first
   | (with_reducible exact ih0 _ _ _)
   | (with_reducible exact LeO.refl _)
   | (with_reducible exact LeO.none _)
   | (with_reducible refine LeO.ite ?_ ?_)
   | (with_reducible refine LeO.bind ?_ (fun _ => ?_))
   | exact ih0 _ _ _
   | refine LeO.bind ?_ (fun _ => ?_)
theorem laws_szBufS.calls (k : Nat) (A0 : Option Addr) (c0 : Nat) (l0 : List (S65)) (a1 : Int) (r : Int) (w : World) (hr0 : Kd.C k65 w A0 l0.length l0) (hc0 : l0.length ≤ c0) (h : laws_szBufS.f k l0 a1 = some r) :
  Calls Try.prog 88 #[.slice A0 l0.length c0, .int .i64 a1] w fun e w' => e = .returned (.int .i64 r) ∧ Below w.heap.size w w' := by
 have hu65 := Try.underlying65
 have HR0 := am hr0
 have HC0 := am hc0
 clear hr0 hc0
 have HB := am (Below.refl w.heap.size w)
 have H : (if (wrap64 (a1 - (l0.length : Int))) < 0 then (some (-1)) else (laws_szBufS.l0 k l0 (wrap64 (a1 - (l0.length : Int))) 0)) = some r := h
 clear h
 by_cases c3 : (wrap64 (a1 - (l0.length : Int))) < 0
 ·rw [if_pos c3] at H
  have c3b0 : decide ((wrap64 (a1 - (l0.length : Int))) < 0) = true := decide_eq_true c3
  clear c3
  obtain rfl := Option.some.inj H
  go_enter Try.func88, Try.ntmps88
  go_wp2
  go_ret
  exact ⟨by first | rfl | (simp [errW_none, errW_some] <;> rfl) | (simp [*, errW_none, errW_some] <;> rfl), by repeat (first | (with_reducible first | exact HB.out | apply below_alloc | apply pw_below_drewN | apply below_drew1) | exact HB.out)⟩
 ·rw [if_neg c3] at H
  have c3b0 : decide ((wrap64 (a1 - (l0.length : Int))) < 0) = false := decide_eq_false c3
  clear c3
  have H' := Aside0.mk H
  clear H
  go_enter Try.func88, Try.ntmps88
  go_wp2
  go_loopg [1, 5] k (fun kq v1 v5 w' => ∃ (x1_1 : Int) (x5_1 : Int), v1 = .int .i64 x1_1 ∧ v5 = .int .i64 x5_1 ∧ Aside0 (laws_szBufS.l0 kq l0 x1_1 x5_1 = some r) ∧ Aside0 (kq ≤ k) ∧ Aside0 (Below w.heap.size w w'))
  case atStart => exact ⟨(wrap64 (a1 - (l0.length : Int))), (0), (by first | rfl | (simp; done) | (simp [*]; done)), (by first | rfl | (simp; done) | (simp [*]; done)), H', ⟨Nat.le_refl _⟩, ⟨by repeat (first | (with_reducible first | exact HB.out | apply below_alloc | apply pw_below_drewN | apply below_drew1) | exact HB.out)⟩⟩
  case round =>
   clear H'
   try clear p2
   try clear c3
   try clear c3b0
   obtain ⟨x1_1, x5_1, rfl, rfl, HA, HK1, HB⟩ := hrel
   cases gk with
   | zero => exact absurd HA.out (by simp [laws_szBufS.l0])
   | succ k1 =>
    have H := HA.out
    clear HA
    simp only [laws_szBufS.l0] at H
    by_cases c4 : x5_1 < (l0.length : Int)
    ·rw [if_pos c4] at H
     have c4b0 : decide (x5_1 < (l0.length : Int)) = true := decide_eq_true c4
     clear c4
     by_cases c5 : 0 ≤ x5_1
     ·rw [if_pos c5] at H
      have c5b0 : decide (0 ≤ x5_1) = true := decide_eq_true c5
      clear c5
      replace H := Option.bind_eq_some_iff.mp H
      obtain ⟨t255, A60, H⟩ := H
      replace H : (if t255 < 0 then (some (-1)) else (laws_szBufS.l0 k1 l0 t255 (wrap64 (x5_1 + 1)))) = some r := H
      have A6 := Aside0.mk A60
      clear A60
      by_cases c7 : t255 < 0
      ·rw [if_pos c7] at H
       have c7b0 : decide (t255 < 0) = true := decide_eq_true c7
       clear c7
       obtain rfl := Option.some.inj H
       have p254 : 0 ≤ (x5_1 : Int) := of_decide_eq_true (by first | (with_reducible assumption) | assumption)
       have q254 : x5_1 < (l0.length : Int) := of_decide_eq_true (by first | (with_reducible assumption) | assumption)
       obtain ⟨ad254, A254_0, c254_0, e254, hx254_0, hx254_1, hx254_2, hl254_0, hi254_0⟩ := at_T65 HR0.out x5_1 p254 q254
       cases e254
       have hxw254_0 := hx254_0
       replace hx254_0 := (HB.out.cell (World.block_lt_of_cell? w _ hx254_0)).trans hx254_0
       have hxw254_1 := hx254_1
       replace hx254_1 := (HB.out.cell (World.block_lt_of_cell? w _ hx254_1)).trans hx254_1
       have hxw254_2 := hx254_2
       replace hx254_2 := (HB.out.cell (World.block_lt_of_cell? w _ hx254_2)).trans hx254_2
       have HR254_0 := am hi254_0
       have HC254_0 := am hl254_0
       clear hi254_0 hl254_0
       replace p254 := eq_true p254
       replace q254 := eq_true q254
       go_wp2_with (first | ((with_reducible refine gate_callee (f := 32) rfl ?_); refine gl (some 23) Try.func32 #[.agg #[.slice A254_0 ((rd_T65 l0 x5_1).f0).length c254_0, .int .i64 ((rd_T65 l0 x5_1).f1), .int .i64 ((rd_T65 l0 x5_1).f2)], .int .i64 x1_1] ?_; (with_reducible refine (laws_szBuf.calls _ _ ((rd_T65 l0 x5_1).f0) ((rd_T65 l0 x5_1).f1) ((rd_T65 l0 x5_1).f2) x1_1 t255 _ ?side1 ?side2 A6.out).mono ?_); (case side1 => repeat (first | exact (Kd.C_below HR254_0.out HB.out) | (with_reducible refine Kd.C_alloc ?_ _) | (with_reducible refine Kd.C_drewN ?_ _) | (with_reducible refine Kd.C_drew ?_))); (case side2 => exact HC254_0.out); rintro e w8 ⟨rfl, hb⟩; refine ⟨_, rfl, ?_⟩; replace HB := am (below_step (bl HB.out) hb); (try clear hb); (try clear hb2); (try clear hk); (try clear hi)))
       go_ret
       exact ⟨by first | rfl | (simp [errW_none, errW_some] <;> rfl) | (simp [*, errW_none, errW_some] <;> rfl), by repeat (first | (with_reducible first | exact HB.out | apply below_alloc | apply pw_below_drewN | apply below_drew1) | exact HB.out)⟩
      ·rw [if_neg c7] at H
       have c7b0 : decide (t255 < 0) = false := decide_eq_false c7
       clear c7
       have H' := Aside0.mk H
       clear H
       have p254 : 0 ≤ (x5_1 : Int) := of_decide_eq_true (by first | (with_reducible assumption) | assumption)
       have q254 : x5_1 < (l0.length : Int) := of_decide_eq_true (by first | (with_reducible assumption) | assumption)
       obtain ⟨ad254, A254_0, c254_0, e254, hx254_0, hx254_1, hx254_2, hl254_0, hi254_0⟩ := at_T65 HR0.out x5_1 p254 q254
       cases e254
       have hxw254_0 := hx254_0
       replace hx254_0 := (HB.out.cell (World.block_lt_of_cell? w _ hx254_0)).trans hx254_0
       have hxw254_1 := hx254_1
       replace hx254_1 := (HB.out.cell (World.block_lt_of_cell? w _ hx254_1)).trans hx254_1
       have hxw254_2 := hx254_2
       replace hx254_2 := (HB.out.cell (World.block_lt_of_cell? w _ hx254_2)).trans hx254_2
       have HR254_0 := am hi254_0
       have HC254_0 := am hl254_0
       clear hi254_0 hl254_0
       replace p254 := eq_true p254
       replace q254 := eq_true q254
       go_wp2_with (first | ((with_reducible refine gate_callee (f := 32) rfl ?_); refine gl (some 23) Try.func32 #[.agg #[.slice A254_0 ((rd_T65 l0 x5_1).f0).length c254_0, .int .i64 ((rd_T65 l0 x5_1).f1), .int .i64 ((rd_T65 l0 x5_1).f2)], .int .i64 x1_1] ?_; (with_reducible refine (laws_szBuf.calls _ _ ((rd_T65 l0 x5_1).f0) ((rd_T65 l0 x5_1).f1) ((rd_T65 l0 x5_1).f2) x1_1 t255 _ ?side1 ?side2 A6.out).mono ?_); (case side1 => repeat (first | exact (Kd.C_below HR254_0.out HB.out) | (with_reducible refine Kd.C_alloc ?_ _) | (with_reducible refine Kd.C_drewN ?_ _) | (with_reducible refine Kd.C_drew ?_))); (case side2 => exact HC254_0.out); rintro e w9 ⟨rfl, hb⟩; refine ⟨_, rfl, ?_⟩; replace HB := am (below_step (bl HB.out) hb); (try clear hb); (try clear hb2); (try clear hk); (try clear hi)))
       go_roundg k1
       case measure => have := HK1.out; omega
       case rel => exact ⟨(t255), (wrap64 (x5_1 + 1)), (by first | rfl | (simp; done) | (simp [*]; done)), (by first | rfl | (simp; done) | (simp [*]; done)), H', ⟨by have := HK1.out; omega⟩, ⟨by repeat (first | (with_reducible first | exact HB.out | apply below_alloc | apply pw_below_drewN | apply below_drew1) | exact HB.out)⟩⟩
     ·rw [if_neg c5] at H
      exact absurd H (by simp)
    ·rw [if_neg c4] at H
     have c4b0 : decide (x5_1 < (l0.length : Int)) = false := decide_eq_false c4
     clear c4
     obtain rfl := Option.some.inj H
     go_wp2
     go_ret
     exact ⟨by first | rfl | (simp [errW_none, errW_some] <;> rfl) | (simp [*, errW_none, errW_some] <;> rfl), by repeat (first | (with_reducible first | exact HB.out | apply below_alloc | apply pw_below_drewN | apply below_drew1) | exact HB.out)⟩

end Go.Proofs.Ytfkghjdhimhjjaa.PFnExactUndoBack
