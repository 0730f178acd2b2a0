-- Written by xprint.py (this claim's own program, over the kit's printer); Lean checks it.
import Derived.Test.YtegadjijonlmcaaPFnExactHistUpx0
import Derived.Test.YtegadjijonlmcaaPFnExactHistUpx2
import Derived.Test.YtegadjijonlmcaaPFnExactHistUpx3
namespace Go.Proofs.Ytegadjijonlmcaa.PFnExactHistUp
open Go.RowKit Go.Proofs.YtegadjijonlmcaaW.PrintWords Go.Proofs.YtegadjijonlmcaaW.PrintLast Go.Proofs.YtegadjijonlmcaaW.PrintMore
attribute [local go_sem] max2_int min2_int max_two min_two max_three min_three max_four min_four   -- for this text's walks alone
set_option linter.unusedVariables false
set_option linter.unusedSimpArgs false   -- squeezed

/-! ### spec_HistUp: function 40 -/
mutual
def spec_HistUp.j0 : Nat → List Int → List Int → Bool → List (List Int) → Int → List Int → Option ((List (List Int)) × Int × List Int × List Int × Int)
 | 0, _, _, _, _, _, _ => none
 | k + 1, x1, x2, x16, x175000, x175001, x175002 => if x16 = true then (some (([] : List (List Int)), 0, ([] : List Int), ([] : List Int), 2)) else ((spec_HistRight.f k x175000 x175001 x175002).bind fun t176 => (if t176 = true then ((spec_PointsRight.f k x1).bind fun t177 => (if t177 = true then ((spec_PointsRight.f k x2).bind fun t178 => (spec_HistUp.j1 k x1 x2 (!t178) x175000 x175001 x175002)) else (spec_HistUp.j1 k x1 x2 true x175000 x175001 x175002))) else (spec_HistUp.j1 k x1 x2 true x175000 x175001 x175002)))
def spec_HistUp.j1 : Nat → List Int → List Int → Bool → List (List Int) → Int → List Int → Option ((List (List Int)) × Int × List Int × List Int × Int)
 | 0, _, _, _, _, _, _ => none
 | k + 1, x1, x2, x30, x175000, x175001, x175002 => if x30 = true then (some (([] : List (List Int)), 0, ([] : List Int), ([] : List Int), 1)) else (spec_HistUp.l0 k x1 x2 (wrap64 (x175001 - 1)) x175000 x175001 x175002)
def spec_HistUp.l0 : Nat → List Int → List Int → Int → List (List Int) → Int → List Int → Option ((List (List Int)) × Int × List Int × List Int × Int)
 | 0, _, _, _, _, _, _ => none
 | k + 1, x1, x2, x7, x175000, x175001, x175002 => if x7 ≥ 0 then (if 0 ≤ x7 then (if x7 < (x175000.length : Int) then ((spec_l06Begins.f k (rd_L1 x175000 x7) x2).bind fun t180 => (if t180 = true then ((spec_l06Copy.f k x175000 x175001 x175002).bind fun bt181 => (if x175001 = (x175000.length : Int) then ((spec_l01Copy.f x1).bind fun t189 => ((spec_l01Copy.f (rd_L1 x175000 x7)).bind fun t193 => (some (bt181.1, x7, t189, t193, 0)))) else ((spec_l01Copy.f (rd_L1 x175000 x7)).bind fun t197 => (some (bt181.1, x7, bt181.2.2, t197, 0))))) else (spec_HistUp.l0 k x1 x2 (wrap64 (x7 - 1)) x175000 x175001 x175002))) else (none)) else (none)) else (some (([] : List (List Int)), 0, ([] : List Int), ([] : List Int), 4))
end
def spec_HistUp.f (k : Nat) (l0_0 : List (List Int)) (a0_1 : Int) (l0_2 : List Int) (l1 : List Int) (l2 : List Int) : Option ((List (List Int)) × Int × List Int × List Int × Int) := if (l1.length : Int) > 400 then (spec_HistUp.j0 k l1 l2 true l0_0 a0_1 l0_2) else (spec_HistUp.j0 k l1 l2 (decide ((l2.length : Int) > 400)) l0_0 a0_1 l0_2)
theorem spec_HistUp.mono_l : ∀ k, (∀ y0 y1 y2 y3 y4 y5, LeO (spec_HistUp.j0 k y0 y1 y2 y3 y4 y5) (spec_HistUp.j0 (k + 1) y0 y1 y2 y3 y4 y5)) ∧ (∀ y0 y1 y2 y3 y4 y5, LeO (spec_HistUp.j1 k y0 y1 y2 y3 y4 y5) (spec_HistUp.j1 (k + 1) y0 y1 y2 y3 y4 y5)) ∧ (∀ y0 y1 y2 y3 y4 y5, LeO (spec_HistUp.l0 k y0 y1 y2 y3 y4 y5) (spec_HistUp.l0 (k + 1) y0 y1 y2 y3 y4 y5))
 | 0 => ⟨fun _ _ _ _ _ _ r h => by simp [spec_HistUp.j0] at h, fun _ _ _ _ _ _ r h => by simp [spec_HistUp.j1] at h, fun _ _ _ _ _ _ r h => by simp [spec_HistUp.l0] at h⟩
 | k + 1 => by
  obtain ⟨ih0, ih1, ih2⟩ := spec_HistUp.mono_l k
  refine ⟨?_, ?_, ?_⟩
  ·intro y0 y1 y2 y3 y4 y5
   unfold spec_HistUp.j0
   repeat' first
   | (with_reducible exact ih0 _ _ _ _ _ _)
   | (with_reducible exact ih1 _ _ _ _ _ _)
   | (with_reducible exact ih2 _ _ _ _ _ _)
   | (with_reducible exact spec_HistRight.mono _ _ _ _)
   | (with_reducible exact spec_PointsRight.mono _ _)
   | (with_reducible exact spec_l06Begins.mono _ _ _)
   | (with_reducible exact spec_l06Copy.mono _ _ _ _)
   | (with_reducible exact LeO.refl _)
   | (with_reducible exact LeO.none _)
   | (with_reducible refine LeO.ite ?_ ?_)
   | (with_reducible refine LeO.bind ?_ (fun _ => ?_))
   | exact ih0 _ _ _ _ _ _
   | exact ih1 _ _ _ _ _ _
   | exact ih2 _ _ _ _ _ _
   | exact spec_HistRight.mono _ _ _ _
   | exact spec_PointsRight.mono _ _
   | exact spec_l06Begins.mono _ _ _
   | exact spec_l06Copy.mono _ _ _ _
   | exact LeO.none _
   | refine LeO.ite ?_ ?_
   | refine LeO.bind ?_ (fun _ => ?_)
  ·intro y0 y1 y2 y3 y4 y5
   unfold spec_HistUp.j1
   repeat' first
   | (with_reducible exact ih0 _ _ _ _ _ _)
   | (with_reducible exact ih1 _ _ _ _ _ _)
   | (with_reducible exact ih2 _ _ _ _ _ _)
   | (with_reducible exact spec_HistRight.mono _ _ _ _)
   | (with_reducible exact spec_PointsRight.mono _ _)
   | (with_reducible exact spec_l06Begins.mono _ _ _)
   | (with_reducible exact spec_l06Copy.mono _ _ _ _)
   | (with_reducible exact LeO.refl _)
   | (with_reducible exact LeO.none _)
   | (with_reducible refine LeO.ite ?_ ?_)
   | (with_reducible refine LeO.bind ?_ (fun _ => ?_))
   | exact ih0 _ _ _ _ _ _
   | exact ih1 _ _ _ _ _ _
   | exact ih2 _ _ _ _ _ _
   | exact spec_HistRight.mono _ _ _ _
   | exact spec_PointsRight.mono _ _
   | exact spec_l06Begins.mono _ _ _
   | exact spec_l06Copy.mono _ _ _ _
   | exact LeO.none _
   | refine LeO.ite ?_ ?_
   | refine LeO.bind ?_ (fun _ => ?_)
  ·intro y0 y1 y2 y3 y4 y5
   unfold spec_HistUp.l0
   repeat' first
   | (with_reducible exact ih0 _ _ _ _ _ _)
   | (with_reducible exact ih1 _ _ _ _ _ _)
   | (with_reducible exact ih2 _ _ _ _ _ _)
   | (with_reducible exact spec_HistRight.mono _ _ _ _)
   | (with_reducible exact spec_PointsRight.mono _ _)
   | (with_reducible exact spec_l06Begins.mono _ _ _)
   | (with_reducible exact spec_l06Copy.mono _ _ _ _)
   | (with_reducible exact LeO.refl _)
   | (with_reducible exact LeO.none _)
   | (with_reducible refine LeO.ite ?_ ?_)
   | (with_reducible refine LeO.bind ?_ (fun _ => ?_))
   | exact ih0 _ _ _ _ _ _
   | exact ih1 _ _ _ _ _ _
   | exact ih2 _ _ _ _ _ _
   | exact spec_HistRight.mono _ _ _ _
   | exact spec_PointsRight.mono _ _
   | exact spec_l06Begins.mono _ _ _
   | exact spec_l06Copy.mono _ _ _ _
   | exact LeO.none _
   | refine LeO.ite ?_ ?_
   | refine LeO.bind ?_ (fun _ => ?_)
theorem spec_HistUp.mono : ∀ a0 a1 a2 a3 a4 k, LeO (spec_HistUp.f k a0 a1 a2 a3 a4) (spec_HistUp.f (k + 1) a0 a1 a2 a3 a4) := by
 intro a0 a1 a2 a3 a4 k
 obtain ⟨ih0, ih1, ih2⟩ := spec_HistUp.mono_l k
 unfold spec_HistUp.f
 repeat' first
   | (with_reducible exact ih0 _ _ _ _ _ _)
   | (with_reducible exact ih1 _ _ _ _ _ _)
   | (with_reducible exact ih2 _ _ _ _ _ _)
   | (with_reducible exact spec_HistRight.mono _ _ _ _)
   | (with_reducible exact spec_PointsRight.mono _ _)
   | (with_reducible exact spec_l06Begins.mono _ _ _)
   | (with_reducible exact spec_l06Copy.mono _ _ _ _)
   | (with_reducible exact LeO.refl _)
   | (with_reducible exact LeO.none _)
   | (with_reducible refine LeO.ite ?_ ?_)
   | (with_reducible refine LeO.bind ?_ (fun _ => ?_))
   | exact ih0 _ _ _ _ _ _
   | exact ih1 _ _ _ _ _ _
   | exact ih2 _ _ _ _ _ _
   | exact spec_HistRight.mono _ _ _ _
   | exact spec_PointsRight.mono _ _
   | exact spec_l06Begins.mono _ _ _
   | exact spec_l06Copy.mono _ _ _ _
   | exact LeO.none _
   | refine LeO.ite ?_ ?_
   | refine LeO.bind ?_ (fun _ => ?_)
def spec_HistUp.T13 : Bool × List (List Nat × List Nat) := (true, [([], []), ([], []), ([1], [1]), ([], []), ([2, 3], [2, 3]), ([4], [4]), ([5], [5]), ([0, 6], [0, 6]), ([7, 6, 0, 1, 2, 3, 4, 5, 6, 7], [7])])
def spec_HistUp.B13 : List Nat := [0, 0, 2, 0, 14, 30, 62, 127, 255]
theorem spec_HistUp.tab13 : rtab .any (opsOf Try.f40 13) = spec_HistUp.T13 := by kernel_rfl
theorem spec_HistUp.bits13 : waitsOk spec_HistUp.T13.2 spec_HistUp.B13 = true := by kernel_rfl
set_option maxHeartbeats 8000000 in
set_option maxRecDepth 100000 in
theorem spec_HistUp.calls (k : Nat) (A0_0 : Option Addr) (c0_0 : Nat) (l0_0 : List (List Int)) (a0_1 : Int) (A0_2 : Option Addr) (c0_2 : Nat) (l0_2 : List Int) (A1 : Option Addr) (c1 : Nat) (l1 : List Int) (A2 : Option Addr) (c2 : Nat) (l2 : List Int) (r1 : List (List Int)) (r2 : Int) (r3 : List Int) (r4 : List Int) (r5 : Int) (w : World) (hr0_0 : Kd.C (Kd.slice 2 (Kd.int .i64)) w A0_0 l0_0.length l0_0) (hc0_0 : l0_0.length ≤ c0_0) (hr0_2 : Kd.C (Kd.int .i64) w A0_2 l0_2.length l0_2) (hc0_2 : l0_2.length ≤ c0_2) (hr1 : Kd.C (Kd.int .i64) w A1 l1.length l1) (hc1 : l1.length ≤ c1) (hr2 : Kd.C (Kd.int .i64) w A2 l2.length l2) (hc2 : l2.length ≤ c2) (h : spec_HistUp.f k l0_0 a0_1 l0_2 l1 l2 = some (r1, r2, r3, r4, r5)) :
  Calls Try.prog 40 #[.agg #[.slice A0_0 l0_0.length c0_0, .int .i64 a0_1, .slice A0_2 l0_2.length c0_2], .slice A1 l1.length c1, .slice A2 l2.length c2] w fun e w' => ∃ v0_ v2_ v3_ : Value, e = .returned (.agg #[v0_, .int .i64 r2, v2_, v3_, .int .i64 r5]) ∧ Kd.S (Kd.slice 2 (Kd.int .i64)) 22 w' w.heap.size (fun k_ => some k_ ≠ (v2_ : Value).ownBlock ∧ some k_ ≠ (v3_ : Value).ownBlock) v0_ r1 ∧ Kd.R (Kd.int .i64) 2 w' w.heap.size (fun k_ => some k_ ≠ (v3_ : Value).ownBlock) v2_ r3 ∧ Kd.R (Kd.int .i64) 2 w' w.heap.size (fun k_ => some k_ ≠ (v2_ : Value).ownBlock) v3_ r4 ∧ Below w.heap.size w w' := by
 have hu53 := Try.underlying53
 have hu63 := Try.underlying63
 have HR0_0 := am hr0_0
 have HC0_0 := am hc0_0
 clear hr0_0 hc0_0
 have HR0_2 := am hr0_2
 have HC0_2 := am hc0_2
 clear hr0_2 hc0_2
 have HR1 := am hr1
 have HC1 := am hc1
 clear hr1 hc1
 have HR2 := am hr2
 have HC2 := am hc2
 clear hr2 hc2
 have HB := am (Below.refl w.heap.size w)
 have H : (if (l1.length : Int) > 400 then (spec_HistUp.j0 k l1 l2 true l0_0 a0_1 l0_2) else (spec_HistUp.j0 k l1 l2 (decide ((l2.length : Int) > 400)) l0_0 a0_1 l0_2)) = some (r1, r2, r3, r4, r5) := h
 clear h
 have HC4 := Aside0.mk H
 clear H
 go_enter Try.func40, Try.ntmps40
 go_upto_region 1 with (first | ((with_reducible refine gate_dst (N := 3) rfl ?_); (try (refine gate_guard (by rfl) ?_; dsimp only)); refine box_event ?hg (N := 3) ?hd (cs := #[.slice A0_0 l0_0.length c0_0, .int .i64 a0_1, .slice A0_2 l0_2.length c0_2]) (t := 53) ?hr ?_; (case hd => rfl); (case hg => rfl); (case hr => first | (go_simp; done) | (go_simp; rfl)); intro gb174 hg w5 hbox hb; have n0_ := am (below_step (bl HB.out) hb); have n1_ := am (hbox); have n2_ := am ((by rw [hg]; exact (below_size (bl HB.out)) : w.heap.size ≤ gb174)); have n3_ := am ((by rw [hg]; exact (below_size (bl HB.out)) : w.heap.size ≤ gb174)); clear HB; have HB := n0_; have BK174 := n1_; have GW174 := n2_; have GE174 := n3_; clear n0_ n1_ n2_ n3_; clear hb hbox hg) | ((with_reducible refine gate_dst (N := 6) rfl ?_); (try (refine gate_guard (by rfl) ?_; dsimp only)); refine box_event ?hg (N := 6) ?hd (cs := #[.slice none 0 0, .int .i64 0, .slice none 0 0, .slice none 0 0, .int .i64 0]) (t := 63) ?hr ?_; (case hd => rfl); (case hg => rfl); (case hr => first | (go_simp; done) | (go_simp; rfl)); intro gb175 hg w6 hbox hb; have n0_ := am (blk_below (g := gb174) (o := .cells #[.slice A0_0 l0_0.length c0_0, .int .i64 a0_1, .slice A0_2 l0_2.length c0_2] 53 (0, 0)) (pk BK174.out) hb); have n1_ := am (below_step (by repeat (first | (with_reducible first | exact HB.out | apply below_alloc | apply pw_below_drewN | apply below_drew1 | refine below_set ?_ GE174.out) | exact HB.out)) hb); have n2_ := am (hbox); have n3_ := am ((by rw [hg]; exact (below_size (by repeat (first | (with_reducible first | exact HB.out | apply below_alloc | apply pw_below_drewN | apply below_drew1 | refine below_set ?_ GE174.out) | exact HB.out))) : w.heap.size ≤ gb175)); have n4_ := am ((by rw [hg]; exact (below_size (by repeat (first | (with_reducible first | exact HB.out | apply below_alloc | apply pw_below_drewN | apply below_drew1 | refine below_set ?_ GE174.out) | exact HB.out))) : w.heap.size ≤ gb175)); have n5_ := am ((by rw [hg]; exact Nat.ne_of_lt (blk_lt (g := gb174) (o := .cells #[.slice A0_0 l0_0.length c0_0, .int .i64 a0_1, .slice A0_2 l0_2.length c0_2] 53 (0, 0)) (pk BK174.out)) : gb174 ≠ gb175)); have n6_ := am ((by rw [hg]; exact Nat.ne_of_gt (blk_lt (g := gb174) (o := .cells #[.slice A0_0 l0_0.length c0_0, .int .i64 a0_1, .slice A0_2 l0_2.length c0_2] 53 (0, 0)) (pk BK174.out)) : gb175 ≠ gb174)); clear BK174; clear HB; have BK174 := n0_; have HB := n1_; have BK175 := n2_; have GW175 := n3_; have GE175 := n4_; have NB174_175 := n5_; have NB175_174 := n6_; clear n0_ n1_ n2_ n3_ n4_ n5_ n6_; clear hb hbox hg))
 (try simp only [Act.put, List.setIfInBounds_toArray, List.set_cons_zero, List.set_cons_succ])
 go_cut [16] (fun v16 wc => ∃ (kq : Nat) (x16_3 : Bool), v16 = .bool x16_3 ∧ Aside0 (spec_HistUp.j0 kq l1 l2 x16_3 l0_0 a0_1 l0_2 = some (r1, r2, r3, r4, r5)) ∧ Aside0 (kq ≤ k) ∧ Aside0 (wc.heap[gb174]? = some (.cells #[(.slice A0_0 l0_0.length c0_0), .int .i64 a0_1, (.slice A0_2 l0_2.length c0_2)] 53 (0, 0))) ∧ Aside0 (wc.heap[gb175]? = some (.cells #[(.slice none 0 0), .int .i64 0, (.slice none 0 0), (.slice none 0 0), .int .i64 0] 63 (0, 0))) ∧ Aside0 (Below w.heap.size w wc))
 case first =>
  have H := HC4.out
  clear HC4
  by_cases c7 : (l1.length : Int) > 400
  ·rw [if_pos c7] at H
   have c7b0 : decide (400 < (l1.length : Int)) = true := decide_eq_true c7
   have c7b1 : decide (400 < l1.length) = true := decide_eq_true (by omega)
   clear c7
   (first | rw [c7b0] | (simp only [i64_w, i32_w]; rw [c7b0]) | (have e9_ := c7b0; unfold bne at e9_; rw [e9_]) | skip)
   have H' := Aside0.mk H
   clear H
   go_wp2
   go_meet
   case rel => exact ⟨_, (true), (by first | rfl | (simp; done) | (simp [*]; done)), H', ⟨by first | omega | exact Nat.le_refl _⟩, ⟨by (with_reducible repeat (first | refine blk_drewN ?_ _ | refine blk_drew ?_ | refine blk_alloc ?_ _)); exact BK174.out⟩, ⟨by (with_reducible repeat (first | refine blk_drewN ?_ _ | refine blk_drew ?_ | refine blk_alloc ?_ _)); exact BK175.out⟩, ⟨by repeat (first | (with_reducible first | exact HB.out | apply below_alloc | apply pw_below_drewN | apply below_drew1 | refine below_set ?_ GE174.out | refine below_set ?_ GE175.out) | exact HB.out)⟩⟩
  ·rw [if_neg c7] at H
   have c7b0 : decide (400 < (l1.length : Int)) = false := decide_eq_false c7
   have c7b1 : decide (400 < l1.length) = false := decide_eq_false (by omega)
   clear c7
   (first | rw [c7b0] | (simp only [i64_w, i32_w]; rw [c7b0]) | (have e9_ := c7b0; unfold bne at e9_; rw [e9_]) | skip)
   have H' := Aside0.mk H
   clear H
   go_wp2
   go_meet
   case rel => exact ⟨_, (decide ((l2.length : Int) > 400)), (by first | rfl | (simp; done) | (simp [*]; done)), H', ⟨by first | omega | exact Nat.le_refl _⟩, ⟨by (with_reducible repeat (first | refine blk_drewN ?_ _ | refine blk_drew ?_ | refine blk_alloc ?_ _)); exact BK174.out⟩, ⟨by (with_reducible repeat (first | refine blk_drewN ?_ _ | refine blk_drew ?_ | refine blk_alloc ?_ _)); exact BK175.out⟩, ⟨by repeat (first | (with_reducible first | exact HB.out | apply below_alloc | apply pw_below_drewN | apply below_drew1 | refine below_set ?_ GE174.out | refine below_set ?_ GE175.out) | exact HB.out)⟩⟩
 case rest =>
  clear HC4
  try clear c1
  try clear c2
  try clear p2
  try clear c4
  try clear c7
  try clear c7b0
  try clear c7b1
  obtain ⟨kq, x16_3, rfl, HA, HJ3, BK174, BK175, HB⟩ := hcut
  cases kq with
  | zero => exact absurd HA.out (by simp [spec_HistUp.j0])
  | succ kj3 =>
   have H := HA.out
   clear HA
   simp only [spec_HistUp.j0] at H
   by_cases c8 : x16_3 = true
   ·subst c8
    have H1 : (some (([] : List (List Int)), 0, ([] : List Int), ([] : List Int), 2)) = some (r1, r2, r3, r4, r5) := by rw [if_pos rfl] at H; exact H
    clear H
    have H := H1
    clear H1
    simp only [Option.some.injEq, Prod.mk.injEq] at H
    obtain ⟨rfl, rfl, rfl, rfl, rfl⟩ := H
    have hnb9 := NB175_174.out
    have hnc9 := NB174_175.out
    have hcz10_0 : wc.cell? ⟨gb175, 0, none⟩ = some (.slice none 0 0) := (blk_cell BK175.out 0).trans rfl
    have hcz10_1 : wc.cell? ⟨gb175, 1, none⟩ = some (.int .i64 0) := (blk_cell BK175.out 1).trans rfl
    have hcz10_2 : wc.cell? ⟨gb175, 2, none⟩ = some (.slice none 0 0) := (blk_cell BK175.out 2).trans rfl
    have hcz10_3 : wc.cell? ⟨gb175, 3, none⟩ = some (.slice none 0 0) := (blk_cell BK175.out 3).trans rfl
    have hcz10_4 : wc.cell? ⟨gb175, 4, none⟩ = some (.int .i64 0) := (blk_cell BK175.out 4).trans rfl
    have hfz10_0 := blk_frozen BK175.out 0
    have hfz10_1 := blk_frozen BK175.out 1
    have hfz10_2 := blk_frozen BK175.out 2
    have hfz10_3 := blk_frozen BK175.out 3
    have hfz10_4 := blk_frozen BK175.out 4
    go_wp2
    refine bodyPost_ret (results_cell_row rfl _ _ gb175 63 #[.slice none 0 0, .int .i64 0, .slice none 0 0, .slice none 0 0, .int .i64 2] (0, 0) _ rfl (by (with_reducible repeat (first | refine blk_drewN ?_ _ | refine blk_drew ?_ | refine blk_alloc ?_ _)); refine blk_put (cs := #[.slice none 0 0, .int .i64 0, .slice none 0 0, .slice none 0 0, .int .i64 0]) ?_ 4 _ rfl; (with_reducible repeat (first | refine blk_drewN ?_ _ | refine blk_drew ?_ | refine blk_alloc ?_ _)); refine blk_put (cs := #[.slice none 0 0, .int .i64 0, .slice none 0 0, .slice none 0 0, .int .i64 0]) ?_ 3 _ rfl; (with_reducible repeat (first | refine blk_drewN ?_ _ | refine blk_drew ?_ | refine blk_alloc ?_ _)); refine blk_put (cs := #[.slice none 0 0, .int .i64 0, .slice none 0 0, .slice none 0 0, .int .i64 0]) ?_ 2 _ rfl; (with_reducible repeat (first | refine blk_drewN ?_ _ | refine blk_drew ?_ | refine blk_alloc ?_ _)); refine blk_put (cs := #[.slice none 0 0, .int .i64 0, .slice none 0 0, .slice none 0 0, .int .i64 0]) ?_ 1 _ rfl; (with_reducible repeat (first | refine blk_drewN ?_ _ | refine blk_drew ?_ | refine blk_alloc ?_ _)); refine blk_put (cs := #[.slice none 0 0, .int .i64 0, .slice none 0 0, .slice none 0 0, .int .i64 0]) ?_ 0 _ rfl; (with_reducible repeat (first | refine blk_drewN ?_ _ | refine blk_drew ?_ | refine blk_alloc ?_ _)); exact BK175.out) Try.underlying63 rfl (by kernel_rfl)) rfl ?_
    exact ⟨_, _, _, by first | rfl | (simp [errW_none, errW_some] <;> rfl) | (simp [*, errW_none, errW_some] <;> rfl), by first | exact Kd.S_nil _ _ _ _ _ | exact Kd.N_nil _ _ _ _ _ | exact Kd.V_nil _ _ _ _ _ | exact Kd.Q_nil _ _ _ _ _ | exact Kd.R_nil _ _ _ _ _, by first | exact Kd.R_nil _ _ _ _ _ | exact Kd.N_nil _ _ _ _ _ | exact Kd.V_nil _ _ _ _ _ | exact Kd.Q_nil _ _ _ _ _ | exact Kd.S_nil _ _ _ _ _, by first | exact Kd.R_nil _ _ _ _ _ | exact Kd.N_nil _ _ _ _ _ | exact Kd.V_nil _ _ _ _ _ | exact Kd.Q_nil _ _ _ _ _ | exact Kd.S_nil _ _ _ _ _, by repeat (first | (with_reducible first | exact HB.out | apply below_alloc | apply pw_below_drewN | apply below_drew1 | refine below_set ?_ GE174.out | refine below_set ?_ GE175.out) | exact HB.out)⟩
   ·replace c8 := Bool.eq_false_iff.mpr c8
    subst c8
    have H1 : ((spec_HistRight.f kj3 l0_0 a0_1 l0_2).bind fun t176 => (if t176 = true then ((spec_PointsRight.f kj3 l1).bind fun t177 => (if t177 = true then ((spec_PointsRight.f kj3 l2).bind fun t178 => (spec_HistUp.j1 kj3 l1 l2 (!t178) l0_0 a0_1 l0_2)) else (spec_HistUp.j1 kj3 l1 l2 true l0_0 a0_1 l0_2))) else (spec_HistUp.j1 kj3 l1 l2 true l0_0 a0_1 l0_2))) = some (r1, r2, r3, r4, r5) := by rw [if_neg (show ¬ (false = true) by decide)] at H; exact H
    clear H
    have H := H1
    clear H1
    have HC11 := Aside0.mk H
    clear H
    go_upto_region 3 with (fail)
    go_cut [30] (fun v30 wc => ∃ (kq : Nat) (x30_10 : Bool), v30 = .bool x30_10 ∧ Aside0 (spec_HistUp.j1 kq l1 l2 x30_10 l0_0 a0_1 l0_2 = some (r1, r2, r3, r4, r5)) ∧ Aside0 (kq ≤ kj3) ∧ Aside0 (wc.heap[gb174]? = some (.cells #[(.slice A0_0 l0_0.length c0_0), .int .i64 a0_1, (.slice A0_2 l0_2.length c0_2)] 53 (0, 0))) ∧ Aside0 (wc.heap[gb175]? = some (.cells #[(.slice none 0 0), .int .i64 0, (.slice none 0 0), (.slice none 0 0), .int .i64 0] 63 (0, 0))) ∧ Aside0 (Below w.heap.size w wc))
    case first =>
     have H := HC11.out
     clear HC11
     replace H := Option.bind_eq_some_iff.mp H
     obtain ⟨t176, A120, H⟩ := H
     replace H : (if t176 = true then ((spec_PointsRight.f kj3 l1).bind fun t177 => (if t177 = true then ((spec_PointsRight.f kj3 l2).bind fun t178 => (spec_HistUp.j1 kj3 l1 l2 (!t178) l0_0 a0_1 l0_2)) else (spec_HistUp.j1 kj3 l1 l2 true l0_0 a0_1 l0_2))) else (spec_HistUp.j1 kj3 l1 l2 true l0_0 a0_1 l0_2)) = some (r1, r2, r3, r4, r5) := H
     have A12 := Aside0.mk A120
     clear A120
     by_cases c13 : t176 = true
     ·subst c13
      have H1 : ((spec_PointsRight.f kj3 l1).bind fun t177 => (if t177 = true then ((spec_PointsRight.f kj3 l2).bind fun t178 => (spec_HistUp.j1 kj3 l1 l2 (!t178) l0_0 a0_1 l0_2)) else (spec_HistUp.j1 kj3 l1 l2 true l0_0 a0_1 l0_2))) = some (r1, r2, r3, r4, r5) := by rw [if_pos rfl] at H; exact H
      clear H
      have H := H1
      clear H1
      replace H := Option.bind_eq_some_iff.mp H
      obtain ⟨t177, A140, H⟩ := H
      replace H : (if t177 = true then ((spec_PointsRight.f kj3 l2).bind fun t178 => (spec_HistUp.j1 kj3 l1 l2 (!t178) l0_0 a0_1 l0_2)) else (spec_HistUp.j1 kj3 l1 l2 true l0_0 a0_1 l0_2)) = some (r1, r2, r3, r4, r5) := H
      have A14 := Aside0.mk A140
      clear A140
      by_cases c15 : t177 = true
      ·subst c15
       have H1 : ((spec_PointsRight.f kj3 l2).bind fun t178 => (spec_HistUp.j1 kj3 l1 l2 (!t178) l0_0 a0_1 l0_2)) = some (r1, r2, r3, r4, r5) := by rw [if_pos rfl] at H; exact H
       clear H
       have H := H1
       clear H1
       replace H := Option.bind_eq_some_iff.mp H
       obtain ⟨t178, A160, H⟩ := H
       replace H : (spec_HistUp.j1 kj3 l1 l2 (!t178) l0_0 a0_1 l0_2) = some (r1, r2, r3, r4, r5) := H
       have A16 := Aside0.mk A160
       clear A160
       have H' := Aside0.mk H
       clear H
       have hnb17 := NB174_175.out
       have hnc17 := NB175_174.out
       have hcz18_0 : wc.cell? ⟨gb174, 0, none⟩ = some (.slice A0_0 l0_0.length c0_0) := (blk_cell BK174.out 0).trans rfl
       have hcz18_1 : wc.cell? ⟨gb174, 1, none⟩ = some (.int .i64 a0_1) := (blk_cell BK174.out 1).trans rfl
       have hcz18_2 : wc.cell? ⟨gb174, 2, none⟩ = some (.slice A0_2 l0_2.length c0_2) := (blk_cell BK174.out 2).trans rfl
       have hfz18_0 := blk_frozen BK174.out 0
       have hfz18_1 := blk_frozen BK174.out 1
       have hfz18_2 := blk_frozen BK174.out 2
       go_wp2_with (first | ((with_reducible refine gate_callee (f := 73) rfl ?_); refine gl (some 19) Try.func73 #[.agg #[.slice A0_0 l0_0.length c0_0, .int .i64 a0_1, .slice A0_2 l0_2.length c0_2]] ?_; (with_reducible refine (spec_HistRight.calls kj3 _ _ l0_0 a0_1 _ _ l0_2 true _ ?side1 ?side2 ?side3 ?side4 A12.out).mono ?_); (case side1 => repeat (first | exact (Kd.C_below HR0_0.out HB.out) | (with_reducible refine Kd.C_alloc ?_ _) | (with_reducible refine Kd.C_drewN ?_ _) | (with_reducible refine Kd.C_drew ?_))); (case side2 => exact HC0_0.out); (case side3 => repeat (first | exact (Kd.C_below HR0_2.out HB.out) | (with_reducible refine Kd.C_alloc ?_ _) | (with_reducible refine Kd.C_drewN ?_ _) | (with_reducible refine Kd.C_drew ?_))); (case side4 => exact HC0_2.out); rintro e w19 ⟨rfl, hb⟩; refine ⟨_, rfl, ?_⟩; have n0_ := am (blk_below (g := gb174) (o := .cells #[.slice A0_0 l0_0.length c0_0, .int .i64 a0_1, .slice A0_2 l0_2.length c0_2] 53 (0, 0)) (pk BK174.out) hb); have n1_ := am (blk_below (g := gb175) (o := .cells #[.slice none 0 0, .int .i64 0, .slice none 0 0, .slice none 0 0, .int .i64 0] 63 (0, 0)) (pk BK175.out) hb); have n2_ := am (below_step (by repeat (first | (with_reducible first | exact HB.out | apply below_alloc | apply pw_below_drewN | apply below_drew1 | refine below_set ?_ GE174.out | refine below_set ?_ GE175.out) | exact HB.out)) hb); clear BK174; clear BK175; clear HB; have BK174 := n0_; have BK175 := n1_; have HB := n2_; clear n0_ n1_ n2_; (try clear hb); (try clear hb2); (try clear hk); (try clear hi)) | (go_at_call 74; (with_reducible refine (spec_PointsRight.calls kj3 _ _ l1 true _ ?side1 ?side2 A14.out).mono ?_); (case side1 => repeat (first | exact (Kd.C_below HR1.out HB.out) | (with_reducible refine Kd.C_alloc ?_ _) | (with_reducible refine Kd.C_drewN ?_ _) | (with_reducible refine Kd.C_drew ?_))); (case side2 => exact HC1.out); rintro e w' ⟨rfl, ⟨nd, rfl⟩⟩) | (go_at_call 74; (with_reducible refine (spec_PointsRight.calls kj3 _ _ l2 t178 _ ?side1 ?side2 A16.out).mono ?_); (case side1 => repeat (first | exact (Kd.C_below HR2.out (by repeat (first | (with_reducible first | exact HB.out | apply below_alloc | apply pw_below_drewN | apply below_drew1 | refine below_set ?_ GE174.out | refine below_set ?_ GE175.out) | exact HB.out))) | (with_reducible refine Kd.C_alloc ?_ _) | (with_reducible refine Kd.C_drewN ?_ _) | (with_reducible refine Kd.C_drew ?_))); (case side2 => exact HC2.out); rintro e w' ⟨rfl, ⟨nd, rfl⟩⟩))
       go_meet
       case rel => exact ⟨_, (!t178), (by first | rfl | (simp; done) | (simp [*]; done)), H', ⟨by have := HJ3.out; first | omega | exact Nat.le_refl _⟩, ⟨by (with_reducible repeat (first | refine blk_drewN ?_ _ | refine blk_drew ?_ | refine blk_alloc ?_ _)); exact BK174.out⟩, ⟨by (with_reducible repeat (first | refine blk_drewN ?_ _ | refine blk_drew ?_ | refine blk_alloc ?_ _)); exact BK175.out⟩, ⟨by repeat (first | (with_reducible first | exact HB.out | apply below_alloc | apply pw_below_drewN | apply below_drew1 | refine below_set ?_ GE174.out | refine below_set ?_ GE175.out) | exact HB.out)⟩⟩
      ·replace c15 := Bool.eq_false_iff.mpr c15
       subst c15
       have H1 : (spec_HistUp.j1 kj3 l1 l2 true l0_0 a0_1 l0_2) = some (r1, r2, r3, r4, r5) := by rw [if_neg (show ¬ (false = true) by decide)] at H; exact H
       clear H
       have H := H1
       clear H1
       have H' := Aside0.mk H
       clear H
       have hnb20 := NB174_175.out
       have hnc20 := NB175_174.out
       have hcz21_0 : wc.cell? ⟨gb174, 0, none⟩ = some (.slice A0_0 l0_0.length c0_0) := (blk_cell BK174.out 0).trans rfl
       have hcz21_1 : wc.cell? ⟨gb174, 1, none⟩ = some (.int .i64 a0_1) := (blk_cell BK174.out 1).trans rfl
       have hcz21_2 : wc.cell? ⟨gb174, 2, none⟩ = some (.slice A0_2 l0_2.length c0_2) := (blk_cell BK174.out 2).trans rfl
       have hfz21_0 := blk_frozen BK174.out 0
       have hfz21_1 := blk_frozen BK174.out 1
       have hfz21_2 := blk_frozen BK174.out 2
       go_wp2_with (first | ((with_reducible refine gate_callee (f := 73) rfl ?_); refine gl (some 19) Try.func73 #[.agg #[.slice A0_0 l0_0.length c0_0, .int .i64 a0_1, .slice A0_2 l0_2.length c0_2]] ?_; (with_reducible refine (spec_HistRight.calls kj3 _ _ l0_0 a0_1 _ _ l0_2 true _ ?side1 ?side2 ?side3 ?side4 A12.out).mono ?_); (case side1 => repeat (first | exact (Kd.C_below HR0_0.out HB.out) | (with_reducible refine Kd.C_alloc ?_ _) | (with_reducible refine Kd.C_drewN ?_ _) | (with_reducible refine Kd.C_drew ?_))); (case side2 => exact HC0_0.out); (case side3 => repeat (first | exact (Kd.C_below HR0_2.out HB.out) | (with_reducible refine Kd.C_alloc ?_ _) | (with_reducible refine Kd.C_drewN ?_ _) | (with_reducible refine Kd.C_drew ?_))); (case side4 => exact HC0_2.out); rintro e w22 ⟨rfl, hb⟩; refine ⟨_, rfl, ?_⟩; have n0_ := am (blk_below (g := gb174) (o := .cells #[.slice A0_0 l0_0.length c0_0, .int .i64 a0_1, .slice A0_2 l0_2.length c0_2] 53 (0, 0)) (pk BK174.out) hb); have n1_ := am (blk_below (g := gb175) (o := .cells #[.slice none 0 0, .int .i64 0, .slice none 0 0, .slice none 0 0, .int .i64 0] 63 (0, 0)) (pk BK175.out) hb); have n2_ := am (below_step (by repeat (first | (with_reducible first | exact HB.out | apply below_alloc | apply pw_below_drewN | apply below_drew1 | refine below_set ?_ GE174.out | refine below_set ?_ GE175.out) | exact HB.out)) hb); clear BK174; clear BK175; clear HB; have BK174 := n0_; have BK175 := n1_; have HB := n2_; clear n0_ n1_ n2_; (try clear hb); (try clear hb2); (try clear hk); (try clear hi)) | (go_at_call 74; (with_reducible refine (spec_PointsRight.calls kj3 _ _ l1 false _ ?side1 ?side2 A14.out).mono ?_); (case side1 => repeat (first | exact (Kd.C_below HR1.out HB.out) | (with_reducible refine Kd.C_alloc ?_ _) | (with_reducible refine Kd.C_drewN ?_ _) | (with_reducible refine Kd.C_drew ?_))); (case side2 => exact HC1.out); rintro e w' ⟨rfl, ⟨nd, rfl⟩⟩))
       go_meet
       case rel => exact ⟨_, (true), (by first | rfl | (simp; done) | (simp [*]; done)), H', ⟨by have := HJ3.out; first | omega | exact Nat.le_refl _⟩, ⟨by (with_reducible repeat (first | refine blk_drewN ?_ _ | refine blk_drew ?_ | refine blk_alloc ?_ _)); exact BK174.out⟩, ⟨by (with_reducible repeat (first | refine blk_drewN ?_ _ | refine blk_drew ?_ | refine blk_alloc ?_ _)); exact BK175.out⟩, ⟨by repeat (first | (with_reducible first | exact HB.out | apply below_alloc | apply pw_below_drewN | apply below_drew1 | refine below_set ?_ GE174.out | refine below_set ?_ GE175.out) | exact HB.out)⟩⟩
     ·replace c13 := Bool.eq_false_iff.mpr c13
      subst c13
      have H1 : (spec_HistUp.j1 kj3 l1 l2 true l0_0 a0_1 l0_2) = some (r1, r2, r3, r4, r5) := by rw [if_neg (show ¬ (false = true) by decide)] at H; exact H
      clear H
      have H := H1
      clear H1
      have H' := Aside0.mk H
      clear H
      have hnb23 := NB174_175.out
      have hnc23 := NB175_174.out
      have hcz24_0 : wc.cell? ⟨gb174, 0, none⟩ = some (.slice A0_0 l0_0.length c0_0) := (blk_cell BK174.out 0).trans rfl
      have hcz24_1 : wc.cell? ⟨gb174, 1, none⟩ = some (.int .i64 a0_1) := (blk_cell BK174.out 1).trans rfl
      have hcz24_2 : wc.cell? ⟨gb174, 2, none⟩ = some (.slice A0_2 l0_2.length c0_2) := (blk_cell BK174.out 2).trans rfl
      have hfz24_0 := blk_frozen BK174.out 0
      have hfz24_1 := blk_frozen BK174.out 1
      have hfz24_2 := blk_frozen BK174.out 2
      go_wp2_with (first | ((with_reducible refine gate_callee (f := 73) rfl ?_); refine gl (some 19) Try.func73 #[.agg #[.slice A0_0 l0_0.length c0_0, .int .i64 a0_1, .slice A0_2 l0_2.length c0_2]] ?_; (with_reducible refine (spec_HistRight.calls kj3 _ _ l0_0 a0_1 _ _ l0_2 false _ ?side1 ?side2 ?side3 ?side4 A12.out).mono ?_); (case side1 => repeat (first | exact (Kd.C_below HR0_0.out HB.out) | (with_reducible refine Kd.C_alloc ?_ _) | (with_reducible refine Kd.C_drewN ?_ _) | (with_reducible refine Kd.C_drew ?_))); (case side2 => exact HC0_0.out); (case side3 => repeat (first | exact (Kd.C_below HR0_2.out HB.out) | (with_reducible refine Kd.C_alloc ?_ _) | (with_reducible refine Kd.C_drewN ?_ _) | (with_reducible refine Kd.C_drew ?_))); (case side4 => exact HC0_2.out); rintro e w25 ⟨rfl, hb⟩; refine ⟨_, rfl, ?_⟩; have n0_ := am (blk_below (g := gb174) (o := .cells #[.slice A0_0 l0_0.length c0_0, .int .i64 a0_1, .slice A0_2 l0_2.length c0_2] 53 (0, 0)) (pk BK174.out) hb); have n1_ := am (blk_below (g := gb175) (o := .cells #[.slice none 0 0, .int .i64 0, .slice none 0 0, .slice none 0 0, .int .i64 0] 63 (0, 0)) (pk BK175.out) hb); have n2_ := am (below_step (by repeat (first | (with_reducible first | exact HB.out | apply below_alloc | apply pw_below_drewN | apply below_drew1 | refine below_set ?_ GE174.out | refine below_set ?_ GE175.out) | exact HB.out)) hb); clear BK174; clear BK175; clear HB; have BK174 := n0_; have BK175 := n1_; have HB := n2_; clear n0_ n1_ n2_; (try clear hb); (try clear hb2); (try clear hk); (try clear hi)))
      go_meet
      case rel => exact ⟨_, (true), (by first | rfl | (simp; done) | (simp [*]; done)), H', ⟨by have := HJ3.out; first | omega | exact Nat.le_refl _⟩, ⟨by (with_reducible repeat (first | refine blk_drewN ?_ _ | refine blk_drew ?_ | refine blk_alloc ?_ _)); exact BK174.out⟩, ⟨by (with_reducible repeat (first | refine blk_drewN ?_ _ | refine blk_drew ?_ | refine blk_alloc ?_ _)); exact BK175.out⟩, ⟨by repeat (first | (with_reducible first | exact HB.out | apply below_alloc | apply pw_below_drewN | apply below_drew1 | refine below_set ?_ GE174.out | refine below_set ?_ GE175.out) | exact HB.out)⟩⟩
    case rest =>
     clear HC11
     try clear c1
     try clear c2
     try clear p2
     try clear c4
     try clear c7
     try clear c7b0
     try clear c7b1
     try clear c8
     try clear c9
     try clear c13
     try clear c15
     try clear c17
     try clear c20
     try clear c23
     try clear hcz10_0
     try clear hcz10_1
     try clear hcz10_2
     try clear hcz10_3
     try clear hcz10_4
     try clear hcz18_0
     try clear hcz18_1
     try clear hcz18_2
     try clear hcz21_0
     try clear hcz21_1
     try clear hcz21_2
     try clear hcz24_0
     try clear hcz24_1
     try clear hcz24_2
     try clear hfz10_0
     try clear hfz10_1
     try clear hfz10_2
     try clear hfz10_3
     try clear hfz10_4
     try clear hfz18_0
     try clear hfz18_1
     try clear hfz18_2
     try clear hfz21_0
     try clear hfz21_1
     try clear hfz21_2
     try clear hfz24_0
     try clear hfz24_1
     try clear hfz24_2
     try clear p2
     obtain ⟨kq, x30_10, rfl, HA, HJ10, BK174, BK175, HB⟩ := hcut
     cases kq with
     | zero => exact absurd HA.out (by simp [spec_HistUp.j1])
     | succ kj10 =>
      have H := HA.out
      clear HA
      simp only [spec_HistUp.j1] at H
      by_cases c26 : x30_10 = true
      ·subst c26
       have H1 : (some (([] : List (List Int)), 0, ([] : List Int), ([] : List Int), 1)) = some (r1, r2, r3, r4, r5) := by rw [if_pos rfl] at H; exact H
       clear H
       have H := H1
       clear H1
       simp only [Option.some.injEq, Prod.mk.injEq] at H
       obtain ⟨rfl, rfl, rfl, rfl, rfl⟩ := H
       have hnb27 := NB175_174.out
       have hnc27 := NB174_175.out
       have hcz28_0 : wc.cell? ⟨gb175, 0, none⟩ = some (.slice none 0 0) := (blk_cell BK175.out 0).trans rfl
       have hcz28_1 : wc.cell? ⟨gb175, 1, none⟩ = some (.int .i64 0) := (blk_cell BK175.out 1).trans rfl
       have hcz28_2 : wc.cell? ⟨gb175, 2, none⟩ = some (.slice none 0 0) := (blk_cell BK175.out 2).trans rfl
       have hcz28_3 : wc.cell? ⟨gb175, 3, none⟩ = some (.slice none 0 0) := (blk_cell BK175.out 3).trans rfl
       have hcz28_4 : wc.cell? ⟨gb175, 4, none⟩ = some (.int .i64 0) := (blk_cell BK175.out 4).trans rfl
       have hfz28_0 := blk_frozen BK175.out 0
       have hfz28_1 := blk_frozen BK175.out 1
       have hfz28_2 := blk_frozen BK175.out 2
       have hfz28_3 := blk_frozen BK175.out 3
       have hfz28_4 := blk_frozen BK175.out 4
       go_wp2
       refine bodyPost_ret (results_cell_row rfl _ _ gb175 63 #[.slice none 0 0, .int .i64 0, .slice none 0 0, .slice none 0 0, .int .i64 1] (0, 0) _ rfl (by (with_reducible repeat (first | refine blk_drewN ?_ _ | refine blk_drew ?_ | refine blk_alloc ?_ _)); refine blk_put (cs := #[.slice none 0 0, .int .i64 0, .slice none 0 0, .slice none 0 0, .int .i64 0]) ?_ 4 _ rfl; (with_reducible repeat (first | refine blk_drewN ?_ _ | refine blk_drew ?_ | refine blk_alloc ?_ _)); refine blk_put (cs := #[.slice none 0 0, .int .i64 0, .slice none 0 0, .slice none 0 0, .int .i64 0]) ?_ 3 _ rfl; (with_reducible repeat (first | refine blk_drewN ?_ _ | refine blk_drew ?_ | refine blk_alloc ?_ _)); refine blk_put (cs := #[.slice none 0 0, .int .i64 0, .slice none 0 0, .slice none 0 0, .int .i64 0]) ?_ 2 _ rfl; (with_reducible repeat (first | refine blk_drewN ?_ _ | refine blk_drew ?_ | refine blk_alloc ?_ _)); refine blk_put (cs := #[.slice none 0 0, .int .i64 0, .slice none 0 0, .slice none 0 0, .int .i64 0]) ?_ 1 _ rfl; (with_reducible repeat (first | refine blk_drewN ?_ _ | refine blk_drew ?_ | refine blk_alloc ?_ _)); refine blk_put (cs := #[.slice none 0 0, .int .i64 0, .slice none 0 0, .slice none 0 0, .int .i64 0]) ?_ 0 _ rfl; (with_reducible repeat (first | refine blk_drewN ?_ _ | refine blk_drew ?_ | refine blk_alloc ?_ _)); exact BK175.out) Try.underlying63 rfl (by kernel_rfl)) rfl ?_
       exact ⟨_, _, _, by first | rfl | (simp [errW_none, errW_some] <;> rfl) | (simp [*, errW_none, errW_some] <;> rfl), by first | exact Kd.S_nil _ _ _ _ _ | exact Kd.N_nil _ _ _ _ _ | exact Kd.V_nil _ _ _ _ _ | exact Kd.Q_nil _ _ _ _ _ | exact Kd.R_nil _ _ _ _ _, by first | exact Kd.R_nil _ _ _ _ _ | exact Kd.N_nil _ _ _ _ _ | exact Kd.V_nil _ _ _ _ _ | exact Kd.Q_nil _ _ _ _ _ | exact Kd.S_nil _ _ _ _ _, by first | exact Kd.R_nil _ _ _ _ _ | exact Kd.N_nil _ _ _ _ _ | exact Kd.V_nil _ _ _ _ _ | exact Kd.Q_nil _ _ _ _ _ | exact Kd.S_nil _ _ _ _ _, by repeat (first | (with_reducible first | exact HB.out | apply below_alloc | apply pw_below_drewN | apply below_drew1 | refine below_set ?_ GE174.out | refine below_set ?_ GE175.out) | exact HB.out)⟩
      ·replace c26 := Bool.eq_false_iff.mpr c26
       subst c26
       have H1 : (spec_HistUp.l0 kj10 l1 l2 (wrap64 (a0_1 - 1)) l0_0 a0_1 l0_2) = some (r1, r2, r3, r4, r5) := by rw [if_neg (show ¬ (false = true) by decide)] at H; exact H
       clear H
       have H := H1
       clear H1
       have H' := Aside0.mk H
       clear H
       have hnb29 := NB174_175.out
       have hnc29 := NB175_174.out
       have hcz30_0 : wc.cell? ⟨gb174, 0, none⟩ = some (.slice A0_0 l0_0.length c0_0) := (blk_cell BK174.out 0).trans rfl
       have hcz30_1 : wc.cell? ⟨gb174, 1, none⟩ = some (.int .i64 a0_1) := (blk_cell BK174.out 1).trans rfl
       have hcz30_2 : wc.cell? ⟨gb174, 2, none⟩ = some (.slice A0_2 l0_2.length c0_2) := (blk_cell BK174.out 2).trans rfl
       have hfz30_0 := blk_frozen BK174.out 0
       have hfz30_1 := blk_frozen BK174.out 1
       have hfz30_2 := blk_frozen BK174.out 2
       go_wp2
       go_loopg [7] kj10 (fun kq v7 w' => ∃ (x7_3 : Int) (x176001_3 : Int) (x176004_3 : Int), v7 = .int .i64 x7_3 ∧ Aside0 (spec_HistUp.l0 kq l1 l2 x7_3 l0_0 a0_1 l0_2 = some (r1, r2, r3, r4, r5)) ∧ Aside0 (kq ≤ kj10) ∧ Aside0 (w'.heap[gb174]? = some (.cells #[(.slice A0_0 l0_0.length c0_0), .int .i64 a0_1, (.slice A0_2 l0_2.length c0_2)] 53 (0, 0))) ∧ Aside0 (w'.heap[gb175]? = some (.cells #[(.slice none 0 0), .int .i64 x176001_3, (.slice none 0 0), (.slice none 0 0), .int .i64 x176004_3] 63 (0, 0))) ∧ Aside0 (Below w.heap.size w w'))
       case atStart => exact ⟨(wrap64 (a0_1 - 1)), (0), (0), (by first | rfl | (simp; done) | (simp [*]; done)), H', ⟨Nat.le_refl _⟩, ⟨by (with_reducible repeat (first | refine blk_drewN ?_ _ | refine blk_drew ?_ | refine blk_alloc ?_ _)); exact BK174.out⟩, ⟨by (with_reducible repeat (first | refine blk_drewN ?_ _ | refine blk_drew ?_ | refine blk_alloc ?_ _)); exact BK175.out⟩, ⟨by repeat (first | (with_reducible first | exact HB.out | apply below_alloc | apply pw_below_drewN | apply below_drew1 | refine below_set ?_ GE174.out | refine below_set ?_ GE175.out) | exact HB.out)⟩⟩
       case round =>
        clear H'
        try clear c1
        try clear c2
        try clear p2
        try clear c4
        try clear p6
        try clear c7
        try clear c7b0
        try clear c7b1
        try clear c8
        try clear c9
        try clear c13
        try clear c15
        try clear c17
        try clear c20
        try clear c23
        try clear c26
        try clear c27
        try clear c29
        try clear hcz10_0
        try clear hcz10_1
        try clear hcz10_2
        try clear hcz10_3
        try clear hcz10_4
        try clear hcz18_0
        try clear hcz18_1
        try clear hcz18_2
        try clear hcz21_0
        try clear hcz21_1
        try clear hcz21_2
        try clear hcz24_0
        try clear hcz24_1
        try clear hcz24_2
        try clear hcz28_0
        try clear hcz28_1
        try clear hcz28_2
        try clear hcz28_3
        try clear hcz28_4
        try clear hcz30_0
        try clear hcz30_1
        try clear hcz30_2
        try clear hfz10_0
        try clear hfz10_1
        try clear hfz10_2
        try clear hfz10_3
        try clear hfz10_4
        try clear hfz18_0
        try clear hfz18_1
        try clear hfz18_2
        try clear hfz21_0
        try clear hfz21_1
        try clear hfz21_2
        try clear hfz24_0
        try clear hfz24_1
        try clear hfz24_2
        try clear hfz28_0
        try clear hfz28_1
        try clear hfz28_2
        try clear hfz28_3
        try clear hfz28_4
        try clear hfz30_0
        try clear hfz30_1
        try clear hfz30_2
        try clear p2
        obtain ⟨x7_3, x176001_3, x176004_3, rfl, HA, HK3, BK174, BK175, HB⟩ := hrel
        cases gk with
        | zero => exact absurd HA.out (by simp [spec_HistUp.l0])
        | succ k3 =>
         have H := HA.out
         clear HA
         simp only [spec_HistUp.l0] at H
         by_cases c31 : x7_3 ≥ 0
         ·rw [if_pos c31] at H
          have c31b0 : decide (0 ≤ x7_3) = true := decide_eq_true c31
          clear c31
          by_cases c32 : 0 ≤ x7_3
          ·rw [if_pos c32] at H
           have c32b0 : decide (0 ≤ x7_3) = true := decide_eq_true c32
           clear c32
           by_cases c33 : x7_3 < (l0_0.length : Int)
           ·rw [if_pos c33] at H
            have c33b0 : decide (x7_3 < (l0_0.length : Int)) = true := decide_eq_true c33
            clear c33
            replace H := Option.bind_eq_some_iff.mp H
            obtain ⟨t180, A340, H⟩ := H
            replace H : (if t180 = true then ((spec_l06Copy.f k3 l0_0 a0_1 l0_2).bind fun bt181 => (if a0_1 = (l0_0.length : Int) then ((spec_l01Copy.f l1).bind fun t189 => ((spec_l01Copy.f (rd_L1 l0_0 x7_3)).bind fun t193 => (some (bt181.1, x7_3, t189, t193, 0)))) else ((spec_l01Copy.f (rd_L1 l0_0 x7_3)).bind fun t197 => (some (bt181.1, x7_3, bt181.2.2, t197, 0))))) else (spec_HistUp.l0 k3 l1 l2 (wrap64 (x7_3 - 1)) l0_0 a0_1 l0_2)) = some (r1, r2, r3, r4, r5) := H
            have A34 := Aside0.mk A340
            clear A340
            by_cases c35 : t180 = true
            ·subst c35
             have H1 : ((spec_l06Copy.f k3 l0_0 a0_1 l0_2).bind fun bt181 => (if a0_1 = (l0_0.length : Int) then ((spec_l01Copy.f l1).bind fun t189 => ((spec_l01Copy.f (rd_L1 l0_0 x7_3)).bind fun t193 => (some (bt181.1, x7_3, t189, t193, 0)))) else ((spec_l01Copy.f (rd_L1 l0_0 x7_3)).bind fun t197 => (some (bt181.1, x7_3, bt181.2.2, t197, 0))))) = some (r1, r2, r3, r4, r5) := by rw [if_pos rfl] at H; exact H
             clear H
             have H := H1
             clear H1
             replace H := Option.bind_eq_some_iff.mp H
             obtain ⟨⟨t181, t184, t185⟩, A360, H⟩ := H
             replace H : (if a0_1 = (l0_0.length : Int) then ((spec_l01Copy.f l1).bind fun t189 => ((spec_l01Copy.f (rd_L1 l0_0 x7_3)).bind fun t193 => (some (t181, x7_3, t189, t193, 0)))) else ((spec_l01Copy.f (rd_L1 l0_0 x7_3)).bind fun t197 => (some (t181, x7_3, t185, t197, 0)))) = some (r1, r2, r3, r4, r5) := H
             have A36 := Aside0.mk A360
             clear A360
             by_cases c37 : a0_1 = (l0_0.length : Int)
             ·rw [if_pos c37] at H
              have c37b0 : (a0_1 == (l0_0.length : Int)) = true := beq_iff_eq.mpr c37
              have c37b1 : (a0_1 != (l0_0.length : Int)) = false := bne_eq_false_iff_eq.mpr c37
              clear c37
              replace H := Option.bind_eq_some_iff.mp H
              obtain ⟨t189, A380, H⟩ := H
              replace H : ((spec_l01Copy.f (rd_L1 l0_0 x7_3)).bind fun t193 => (some (t181, x7_3, t189, t193, 0))) = some (r1, r2, r3, r4, r5) := H
              have A38 := Aside0.mk A380
              clear A380
              replace H := Option.bind_eq_some_iff.mp H
              obtain ⟨t193, A390, H⟩ := H
              replace H : (some (t181, x7_3, t189, t193, 0)) = some (r1, r2, r3, r4, r5) := H
              have A39 := Aside0.mk A390
              clear A390
              simp only [Option.some.injEq, Prod.mk.injEq] at H
              obtain ⟨rfl, rfl, rfl, rfl, rfl⟩ := H
              have hnb40 := NB174_175.out
              have hnc40 := NB175_174.out
              have hcz41_0 : wr.cell? ⟨gb174, 0, none⟩ = some (.slice A0_0 l0_0.length c0_0) := (blk_cell BK174.out 0).trans rfl
              have hcz41_1 : wr.cell? ⟨gb174, 1, none⟩ = some (.int .i64 a0_1) := (blk_cell BK174.out 1).trans rfl
              have hcz41_2 : wr.cell? ⟨gb174, 2, none⟩ = some (.slice A0_2 l0_2.length c0_2) := (blk_cell BK174.out 2).trans rfl
              have hfz41_0 := blk_frozen BK174.out 0
              have hfz41_1 := blk_frozen BK174.out 1
              have hfz41_2 := blk_frozen BK174.out 2
              have p179 : 0 ≤ (x7_3 : Int) := of_decide_eq_true (by first | (with_reducible assumption) | assumption)
              have q179 : x7_3 < (l0_0.length : Int) := of_decide_eq_true (by first | (with_reducible assumption) | assumption)
              obtain ⟨ad179, A179_0, c179_0, e179, hx179_0, hl179_0, hi179_0⟩ := at_L1 HR0_0.out x7_3 p179 q179
              cases e179
              have hxw179_0 := hx179_0
              replace hx179_0 := (HB.out.cell (World.block_lt_of_cell? w _ hx179_0)).trans hx179_0
              have HR179_0 := am hi179_0
              have HC179_0 := am hl179_0
              clear hi179_0 hl179_0
              replace p179 := eq_true p179
              replace q179 := eq_true q179
              try go_wp2_with (first | ((with_reducible refine gate_callee (f := 83) rfl ?_); refine gl (some 45) Try.func83 #[.slice A179_0 (rd_L1 l0_0 x7_3).length c179_0, .slice A2 l2.length c2] ?_; (with_reducible refine (spec_l06Begins.calls k3 _ _ (rd_L1 l0_0 x7_3) _ _ l2 true _ ?side1 ?side2 ?side3 ?side4 A34.out).mono ?_); (case side1 => repeat (first | exact (Kd.C_below HR179_0.out HB.out) | (with_reducible refine Kd.C_alloc ?_ _) | (with_reducible refine Kd.C_drewN ?_ _) | (with_reducible refine Kd.C_drew ?_))); (case side2 => exact HC179_0.out); (case side3 => repeat (first | exact (Kd.C_below HR2.out HB.out) | (with_reducible refine Kd.C_alloc ?_ _) | (with_reducible refine Kd.C_drewN ?_ _) | (with_reducible refine Kd.C_drew ?_))); (case side4 => exact HC2.out); rintro e w' ⟨rfl, ⟨nd, rfl⟩⟩; refine ⟨_, rfl, ?_⟩; (try (rw [drewN_self wr]; generalize hq_ : World.drewN wr _ = wr; have n0_ : Aside0 (wr.heap[gb174]? = some (.cells #[.slice (some ad179) l0_0.length c0_0, .int .i64 a0_1, .slice A0_2 l0_2.length c0_2] 53 (0, 0))) := ⟨by rw [← hq_]; exact (pk BK174.out)⟩; have n1_ : Aside0 (wr.heap[gb175]? = some (.cells #[.slice none 0 0, .int .i64 x176001_3, .slice none 0 0, .slice none 0 0, .int .i64 x176004_3] 63 (0, 0))) := ⟨by rw [← hq_]; exact (pk BK175.out)⟩; have n2_ : Aside0 (Below w.heap.size w wr) := ⟨by rw [← hq_]; exact (by repeat (first | (with_reducible first | exact HB.out | apply below_alloc | apply pw_below_drewN | apply below_drew1 | refine below_set ?_ GE174.out | refine below_set ?_ GE175.out) | exact HB.out))⟩; clear BK174 BK175 HB hq_; have BK174 := n0_; have BK175 := n1_; have HB := n2_; clear n0_ n1_ n2_)); have hcz42_0 : wr.cell? ⟨gb174, 0, none⟩ = some (.slice (some ad179) l0_0.length c0_0) := (blk_cell BK174.out 0).trans rfl; have hcz42_1 : wr.cell? ⟨gb174, 1, none⟩ = some (.int .i64 a0_1) := (blk_cell BK174.out 1).trans rfl; have hcz42_2 : wr.cell? ⟨gb174, 2, none⟩ = some (.slice A0_2 l0_2.length c0_2) := (blk_cell BK174.out 2).trans rfl; have hfz42_0 := blk_frozen BK174.out 0; have hfz42_1 := blk_frozen BK174.out 1; have hfz42_2 := blk_frozen BK174.out 2) | ((with_reducible refine gate_callee (f := 72) rfl ?_); refine gl (some 47) Try.func72 #[.agg #[.slice (some ad179) l0_0.length c0_0, .int .i64 a0_1, .slice A0_2 l0_2.length c0_2]] ?_; (with_reducible refine (spec_l06Copy.calls k3 _ _ l0_0 a0_1 _ _ l0_2 t181 t184 t185 _ ?side1 ?side2 ?side3 ?side4 A36.out).mono ?_); (case side1 => repeat (first | exact (Kd.C_below HR0_0.out HB.out) | (with_reducible refine Kd.C_alloc ?_ _) | (with_reducible refine Kd.C_drewN ?_ _) | (with_reducible refine Kd.C_drew ?_))); (case side2 => exact HC0_0.out); (case side3 => repeat (first | exact (Kd.C_below HR0_2.out HB.out) | (with_reducible refine Kd.C_alloc ?_ _) | (with_reducible refine Kd.C_drewN ?_ _) | (with_reducible refine Kd.C_drew ?_))); (case side4 => exact HC0_2.out); rintro e w43 ⟨v182, v186, rfl, ho0, ho1, hb⟩; refine ⟨_, rfl, ?_⟩; have n0_ := am (Kd.S_lower ho0 (below_size (by repeat (first | (with_reducible first | exact HB.out | apply below_alloc | apply pw_below_drewN | apply below_drew1 | refine below_set ?_ GE174.out | refine below_set ?_ GE175.out) | exact HB.out)))); have n1_ := am (Kd.R_lower ho1 (below_size (by repeat (first | (with_reducible first | exact HB.out | apply below_alloc | apply pw_below_drewN | apply below_drew1 | refine below_set ?_ GE174.out | refine below_set ?_ GE175.out) | exact HB.out)))); have n2_ := am (blk_below (g := gb174) (o := .cells #[.slice (some ad179) l0_0.length c0_0, .int .i64 a0_1, .slice A0_2 l0_2.length c0_2] 53 (0, 0)) (pk BK174.out) hb); have n3_ := am (blk_below (g := gb175) (o := .cells #[.slice none 0 0, .int .i64 x176001_3, .slice none 0 0, .slice none 0 0, .int .i64 x176004_3] 63 (0, 0)) (pk BK175.out) hb); have n4_ := am (below_step (by repeat (first | (with_reducible first | exact HB.out | apply below_alloc | apply pw_below_drewN | apply below_drew1 | refine below_set ?_ GE174.out | refine below_set ?_ GE175.out) | exact HB.out)) hb); clear BK174; clear BK175; clear HB; have HO183 := n0_; have HO187 := n1_; have BK174 := n2_; have BK175 := n3_; have HB := n4_; clear n0_ n1_ n2_ n3_ n4_; (try clear hb); (try clear hb2); (try clear hk); (try clear hi); (try clear ho0); (try clear ho1)) | ((with_reducible refine gate_dst (N := 8) rfl ?_); (try (refine gate_guard (by rfl) ?_; dsimp only)); refine box_event ?hg (N := 8) ?hd (cs := #[.slice none 0 0, .int .i64 0, .slice none 0 0]) (t := 53) ?hr ?_; (case hd => rfl); (case hg => rfl); (case hr => first | (go_simp; done) | (go_simp; rfl)); intro gb188 hg w44 hbox hb; have n0_ := am (Kd.S_below (by (with_reducible repeat (first | apply Kd.S_alloc | apply Kd.S_drewN | apply Kd.S_drew)); exact HO183.out) hb); have n1_ := am (Kd.R_below (by (with_reducible repeat (first | apply Kd.R_alloc | apply Kd.R_drewN | apply Kd.R_drew)); exact HO187.out) hb); have n2_ := am (blk_below (g := gb174) (o := .cells #[.slice (some ad179) l0_0.length c0_0, .int .i64 a0_1, .slice A0_2 l0_2.length c0_2] 53 (0, 0)) (pk BK174.out) hb); have n3_ := am (blk_below (g := gb175) (o := .cells #[.slice none 0 0, .int .i64 x176001_3, .slice none 0 0, .slice none 0 0, .int .i64 x176004_3] 63 (0, 0)) (pk BK175.out) hb); have n4_ := am (below_step (by repeat (first | (with_reducible first | exact HB.out | apply below_alloc | apply pw_below_drewN | apply below_drew1 | refine below_set ?_ GE174.out | refine below_set ?_ GE175.out) | exact HB.out)) hb); have n5_ := am (hbox); have n6_ := am ((by rw [hg]; exact (below_size (by repeat (first | (with_reducible first | exact HB.out | apply below_alloc | apply pw_below_drewN | apply below_drew1 | refine below_set ?_ GE174.out | refine below_set ?_ GE175.out) | exact HB.out))) : w.heap.size ≤ gb188)); have n7_ := am ((by rw [hg]; exact (below_size (by repeat (first | (with_reducible first | exact HB.out | apply below_alloc | apply pw_below_drewN | apply below_drew1 | refine below_set ?_ GE174.out | refine below_set ?_ GE175.out) | exact HB.out))) : w.heap.size ≤ gb188)); have n8_ := am ((by rw [hg]; exact Nat.ne_of_lt (blk_lt (g := gb174) (o := .cells #[.slice (some ad179) l0_0.length c0_0, .int .i64 a0_1, .slice A0_2 l0_2.length c0_2] 53 (0, 0)) (pk BK174.out)) : gb174 ≠ gb188)); have n9_ := am ((by rw [hg]; exact Nat.ne_of_gt (blk_lt (g := gb174) (o := .cells #[.slice (some ad179) l0_0.length c0_0, .int .i64 a0_1, .slice A0_2 l0_2.length c0_2] 53 (0, 0)) (pk BK174.out)) : gb188 ≠ gb174)); have n10_ := am ((by rw [hg]; exact Nat.ne_of_lt (blk_lt (g := gb175) (o := .cells #[.slice none 0 0, .int .i64 x176001_3, .slice none 0 0, .slice none 0 0, .int .i64 x176004_3] 63 (0, 0)) (pk BK175.out)) : gb175 ≠ gb188)); have n11_ := am ((by rw [hg]; exact Nat.ne_of_gt (blk_lt (g := gb175) (o := .cells #[.slice none 0 0, .int .i64 x176001_3, .slice none 0 0, .slice none 0 0, .int .i64 x176004_3] 63 (0, 0)) (pk BK175.out)) : gb188 ≠ gb175)); clear HO183; clear HO187; clear BK174; clear BK175; clear HB; have HO183 := n0_; have HO187 := n1_; have BK174 := n2_; have BK175 := n3_; have HB := n4_; have BK188 := n5_; have GW188 := n6_; have GE188 := n7_; have NB174_188 := n8_; have NB188_174 := n9_; have NB175_188 := n10_; have NB188_175 := n11_; clear n0_ n1_ n2_ n3_ n4_ n5_ n6_ n7_ n8_ n9_ n10_ n11_; clear hb hbox hg; obtain ⟨Ao45, co45, eo45⟩ := Kd.S_slice HO183.out; subst eo45; have hnb46 := NB188_174.out; have hnc46 := NB174_188.out; have hnb47 := NB188_175.out; have hnc47 := NB175_188.out; have hcz48_0 : w44.cell? ⟨gb188, 0, none⟩ = some (.slice none 0 0) := (blk_cell BK188.out 0).trans rfl; have hcz48_1 : w44.cell? ⟨gb188, 1, none⟩ = some (.int .i64 0) := (blk_cell BK188.out 1).trans rfl; have hcz48_2 : w44.cell? ⟨gb188, 2, none⟩ = some (.slice none 0 0) := (blk_cell BK188.out 2).trans rfl; have hfz48_0 := blk_frozen BK188.out 0; have hfz48_1 := blk_frozen BK188.out 1; have hfz48_2 := blk_frozen BK188.out 2; obtain ⟨Ao49, co49, eo49⟩ := Kd.R_slice HO187.out; subst eo49; have hcz50_0 : w44.cell? ⟨gb174, 0, none⟩ = some (.slice (some ad179) l0_0.length c0_0) := (blk_cell BK174.out 0).trans rfl; have hcz50_1 : w44.cell? ⟨gb174, 1, none⟩ = some (.int .i64 a0_1) := (blk_cell BK174.out 1).trans rfl; have hcz50_2 : w44.cell? ⟨gb174, 2, none⟩ = some (.slice A0_2 l0_2.length c0_2) := (blk_cell BK174.out 2).trans rfl; have hfz50_0 := blk_frozen BK174.out 0; have hfz50_1 := blk_frozen BK174.out 1; have hfz50_2 := blk_frozen BK174.out 2) | ((with_reducible refine gate_callee (f := 76) rfl ?_); refine gl (some 55) Try.func76 #[.slice A1 l1.length c1] ?_; (with_reducible refine (spec_l01Copy.calls _ _ l1 t189 _ ?side1 ?side2 A38.out).mono ?_); (case side1 => exact Kd.C_below HR1.out (by repeat (first | (with_reducible first | exact HB.out | apply below_alloc | apply pw_below_drewN | apply below_drew1 | refine below_set ?_ GE174.out | refine below_set ?_ GE175.out | refine below_set ?_ GE188.out) | exact HB.out))); (case side2 => exact HC1.out); rintro e w51 ⟨v190, rfl, ho0, hb⟩; refine ⟨_, rfl, ?_⟩; have n0_ := am (Kd.S_elder' (by (with_reducible repeat (first | apply Kd.S_alloc | apply Kd.S_drewN | apply Kd.S_drew)); exact (Kd.S_mono (Kd.S_far (p := ⟨gb188, 2, none⟩) (Kd.S_far (p := ⟨gb188, 1, none⟩) (Kd.S_far (p := ⟨gb188, 0, none⟩) (Kd.S_types HO183.out BK188.out (by decide)) (fun _ hk => hk.2) (.slice Ao45 t181.length co45)) (fun _ hk => hk.2) (.int .i64 t184)) (fun _ hk => hk.2) (.slice Ao49 t185.length co49)) (fun _ h_ => h_.1))) (Kd.R_base ho0) hb); have n1_ := am (Kd.R_elder' (by (with_reducible repeat (first | apply Kd.R_alloc | apply Kd.R_drewN | apply Kd.R_drew)); exact (Kd.R_mono (Kd.R_far (p := ⟨gb188, 2, none⟩) (Kd.R_far (p := ⟨gb188, 1, none⟩) (Kd.R_far (p := ⟨gb188, 0, none⟩) (Kd.R_types HO187.out BK188.out (by decide)) (fun _ hk => hk.2) (.slice Ao45 t181.length co45)) (fun _ hk => hk.2) (.int .i64 t184)) (fun _ hk => hk.2) (.slice Ao49 t185.length co49)) (fun _ h_ => h_.1))) (Kd.R_base ho0) hb); have n2_ := am (Kd.R_lower (Kd.R_new' ho0 (Kd.R_lt (by (with_reducible repeat (first | apply Kd.R_alloc | apply Kd.R_drewN | apply Kd.R_drew)); exact (Kd.R_mono (Kd.R_far (p := ⟨gb188, 2, none⟩) (Kd.R_far (p := ⟨gb188, 1, none⟩) (Kd.R_far (p := ⟨gb188, 0, none⟩) (Kd.R_types HO187.out BK188.out (by decide)) (fun _ hk => hk.2) (.slice Ao45 t181.length co45)) (fun _ hk => hk.2) (.int .i64 t184)) (fun _ hk => hk.2) (.slice Ao49 t185.length co49)) (fun _ h_ => h_.1))))) (below_size (by repeat (first | (with_reducible first | exact HB.out | apply below_alloc | apply pw_below_drewN | apply below_drew1 | refine below_set ?_ GE174.out | refine below_set ?_ GE175.out | refine below_set ?_ GE188.out) | exact HB.out)))); have n3_ := am (blk_below (g := gb174) (o := .cells #[.slice (some ad179) l0_0.length c0_0, .int .i64 a0_1, .slice A0_2 l0_2.length c0_2] 53 (0, 0)) (by (with_reducible repeat (first | refine blk_drewN ?_ _ | refine blk_drew ?_ | refine blk_alloc ?_ _)); refine blk_far ?_ NB174_188.out _; (with_reducible repeat (first | refine blk_drewN ?_ _ | refine blk_drew ?_ | refine blk_alloc ?_ _)); refine blk_far ?_ NB174_188.out _; (with_reducible repeat (first | refine blk_drewN ?_ _ | refine blk_drew ?_ | refine blk_alloc ?_ _)); refine blk_far ?_ NB174_188.out _; (with_reducible repeat (first | refine blk_drewN ?_ _ | refine blk_drew ?_ | refine blk_alloc ?_ _)); exact BK174.out) hb); have n4_ := am (blk_below (g := gb175) (o := .cells #[.slice none 0 0, .int .i64 x176001_3, .slice none 0 0, .slice none 0 0, .int .i64 x176004_3] 63 (0, 0)) (by (with_reducible repeat (first | refine blk_drewN ?_ _ | refine blk_drew ?_ | refine blk_alloc ?_ _)); refine blk_far ?_ NB175_188.out _; (with_reducible repeat (first | refine blk_drewN ?_ _ | refine blk_drew ?_ | refine blk_alloc ?_ _)); refine blk_far ?_ NB175_188.out _; (with_reducible repeat (first | refine blk_drewN ?_ _ | refine blk_drew ?_ | refine blk_alloc ?_ _)); refine blk_far ?_ NB175_188.out _; (with_reducible repeat (first | refine blk_drewN ?_ _ | refine blk_drew ?_ | refine blk_alloc ?_ _)); exact BK175.out) hb); have n5_ := am (blk_below (g := gb188) (o := .cells #[.slice Ao45 t181.length co45, .int .i64 t184, .slice Ao49 t185.length co49] 53 (0, 0)) (by (with_reducible repeat (first | refine blk_drewN ?_ _ | refine blk_drew ?_ | refine blk_alloc ?_ _)); refine blk_put (cs := #[.slice Ao45 t181.length co45, .int .i64 t184, .slice none 0 0]) ?_ 2 _ rfl; (with_reducible repeat (first | refine blk_drewN ?_ _ | refine blk_drew ?_ | refine blk_alloc ?_ _)); refine blk_put (cs := #[.slice Ao45 t181.length co45, .int .i64 0, .slice none 0 0]) ?_ 1 _ rfl; (with_reducible repeat (first | refine blk_drewN ?_ _ | refine blk_drew ?_ | refine blk_alloc ?_ _)); refine blk_put (cs := #[.slice none 0 0, .int .i64 0, .slice none 0 0]) ?_ 0 _ rfl; (with_reducible repeat (first | refine blk_drewN ?_ _ | refine blk_drew ?_ | refine blk_alloc ?_ _)); exact BK188.out) hb); have n6_ := am (below_step (by repeat (first | (with_reducible first | exact HB.out | apply below_alloc | apply pw_below_drewN | apply below_drew1 | refine below_set ?_ GE174.out | refine below_set ?_ GE175.out | refine below_set ?_ GE188.out) | exact HB.out)) hb); clear HO183; clear HO187; clear BK174; clear BK175; clear BK188; clear HB; have HO183 := n0_; have HO187 := n1_; have HO191 := n2_; have BK174 := n3_; have BK175 := n4_; have BK188 := n5_; have HB := n6_; clear n0_ n1_ n2_ n3_ n4_ n5_ n6_; (try clear hb); (try clear hb2); (try clear hk); (try clear hi); (try clear ho0); obtain ⟨Ao52, co52, eo52⟩ := Kd.R_slice HO191.out; subst eo52; have hcz53_0 : w51.cell? ⟨gb188, 0, none⟩ = some (.slice Ao45 t181.length co45) := (blk_cell BK188.out 0).trans rfl; have hcz53_1 : w51.cell? ⟨gb188, 1, none⟩ = some (.int .i64 t184) := (blk_cell BK188.out 1).trans rfl; have hcz53_2 : w51.cell? ⟨gb188, 2, none⟩ = some (.slice Ao49 t185.length co49) := (blk_cell BK188.out 2).trans rfl; have hfz53_0 := blk_frozen BK188.out 0; have hfz53_1 := blk_frozen BK188.out 1; have hfz53_2 := blk_frozen BK188.out 2))
              have n0_ : Aside0 (Kd.S (Kd.slice 2 (Kd.int .i64)) 22 ((w51.setCell ⟨gb188, 2, none⟩ (.slice Ao52 t189.length co52)).setCell ⟨gb188, 1, none⟩ (.int .i64 x7_3)) w.heap.size (fun k_ => some k_ ≠ (.slice Ao49 t185.length co49 : Value).ownBlock ∧ some k_ ≠ (.slice Ao52 t189.length co52 : Value).ownBlock) (.slice Ao45 t181.length co45) t181) := ⟨by (with_reducible repeat (first | apply Kd.S_alloc | apply Kd.S_drewN | apply Kd.S_drew)); exact Kd.S_mono (Kd.S_far (p := ⟨gb188, 1, none⟩) (Kd.S_far (p := ⟨gb188, 2, none⟩) (Kd.S_types HO183.out BK188.out (by decide)) (fun _ hk => hk.2) (.slice Ao52 t189.length co52)) (fun _ hk => hk.2) (.int .i64 x7_3)) (fun _ hk => ⟨hk.1.1, hk.1.2⟩)⟩
              have n1_ : Aside0 (Kd.R (Kd.int .i64) 2 ((w51.setCell ⟨gb188, 2, none⟩ (.slice Ao52 t189.length co52)).setCell ⟨gb188, 1, none⟩ (.int .i64 x7_3)) w.heap.size (fun k_ => some k_ ≠ (.slice Ao52 t189.length co52 : Value).ownBlock) (.slice Ao49 t185.length co49) t185) := ⟨by (with_reducible repeat (first | apply Kd.R_alloc | apply Kd.R_drewN | apply Kd.R_drew)); exact Kd.R_mono (Kd.R_far (p := ⟨gb188, 1, none⟩) (Kd.R_far (p := ⟨gb188, 2, none⟩) (Kd.R_types HO187.out BK188.out (by decide)) (fun _ hk => hk.2) (.slice Ao52 t189.length co52)) (fun _ hk => hk.2) (.int .i64 x7_3)) (fun _ hk => hk.1.2)⟩
              have n2_ : Aside0 (Kd.R (Kd.int .i64) 2 ((w51.setCell ⟨gb188, 2, none⟩ (.slice Ao52 t189.length co52)).setCell ⟨gb188, 1, none⟩ (.int .i64 x7_3)) w.heap.size (fun k_ => some k_ ≠ (.slice Ao49 t185.length co49 : Value).ownBlock) (.slice Ao52 t189.length co52) t189) := ⟨by (with_reducible repeat (first | apply Kd.R_alloc | apply Kd.R_drewN | apply Kd.R_drew)); exact Kd.R_mono (Kd.R_far (p := ⟨gb188, 1, none⟩) (Kd.R_far (p := ⟨gb188, 2, none⟩) (Kd.R_types HO191.out BK188.out (by decide)) (fun _ hk => hk.2) (.slice Ao52 t189.length co52)) (fun _ hk => hk.2) (.int .i64 x7_3)) (fun _ hk => hk.1.2)⟩
              have n3_ : Aside0 (((w51.setCell ⟨gb188, 2, none⟩ (.slice Ao52 t189.length co52)).setCell ⟨gb188, 1, none⟩ (.int .i64 x7_3)).heap[gb174]? = some (.cells #[.slice (some ad179) l0_0.length c0_0, .int .i64 a0_1, .slice A0_2 l0_2.length c0_2] 53 (0, 0))) := ⟨by (with_reducible repeat (first | refine blk_drewN ?_ _ | refine blk_drew ?_ | refine blk_alloc ?_ _)); refine blk_far ?_ NB174_188.out _; (with_reducible repeat (first | refine blk_drewN ?_ _ | refine blk_drew ?_ | refine blk_alloc ?_ _)); refine blk_far ?_ NB174_188.out _; (with_reducible repeat (first | refine blk_drewN ?_ _ | refine blk_drew ?_ | refine blk_alloc ?_ _)); exact BK174.out⟩
              have n4_ : Aside0 (((w51.setCell ⟨gb188, 2, none⟩ (.slice Ao52 t189.length co52)).setCell ⟨gb188, 1, none⟩ (.int .i64 x7_3)).heap[gb175]? = some (.cells #[.slice none 0 0, .int .i64 x176001_3, .slice none 0 0, .slice none 0 0, .int .i64 x176004_3] 63 (0, 0))) := ⟨by (with_reducible repeat (first | refine blk_drewN ?_ _ | refine blk_drew ?_ | refine blk_alloc ?_ _)); refine blk_far ?_ NB175_188.out _; (with_reducible repeat (first | refine blk_drewN ?_ _ | refine blk_drew ?_ | refine blk_alloc ?_ _)); refine blk_far ?_ NB175_188.out _; (with_reducible repeat (first | refine blk_drewN ?_ _ | refine blk_drew ?_ | refine blk_alloc ?_ _)); exact BK175.out⟩
              have n5_ : Aside0 (((w51.setCell ⟨gb188, 2, none⟩ (.slice Ao52 t189.length co52)).setCell ⟨gb188, 1, none⟩ (.int .i64 x7_3)).heap[gb188]? = some (.cells #[.slice Ao45 t181.length co45, .int .i64 x7_3, .slice Ao52 t189.length co52] 53 (0, 0))) := ⟨by (with_reducible repeat (first | refine blk_drewN ?_ _ | refine blk_drew ?_ | refine blk_alloc ?_ _)); refine blk_put (cs := #[.slice Ao45 t181.length co45, .int .i64 t184, .slice Ao52 t189.length co52]) ?_ 1 _ rfl; (with_reducible repeat (first | refine blk_drewN ?_ _ | refine blk_drew ?_ | refine blk_alloc ?_ _)); refine blk_put (cs := #[.slice Ao45 t181.length co45, .int .i64 t184, .slice Ao49 t185.length co49]) ?_ 2 _ rfl; (with_reducible repeat (first | refine blk_drewN ?_ _ | refine blk_drew ?_ | refine blk_alloc ?_ _)); exact BK188.out⟩
              have n6_ : Aside0 (Below w.heap.size w ((w51.setCell ⟨gb188, 2, none⟩ (.slice Ao52 t189.length co52)).setCell ⟨gb188, 1, none⟩ (.int .i64 x7_3))) := ⟨by repeat (first | (with_reducible first | exact HB.out | apply below_alloc | apply pw_below_drewN | apply below_drew1 | refine below_set ?_ GE174.out | refine below_set ?_ GE175.out | refine below_set ?_ GE188.out) | exact HB.out)⟩
              (try clear HO183)
              (try clear HO187)
              (try clear HO191)
              (try clear BK174)
              (try clear BK175)
              (try clear BK188)
              (try clear HB)
              generalize ((w51.setCell ⟨gb188, 2, none⟩ (.slice Ao52 t189.length co52)).setCell ⟨gb188, 1, none⟩ (.int .i64 x7_3)) = w54 at n0_ n1_ n2_ n3_ n4_ n5_ n6_ ⊢
              have HO183 := n0_
              have HO187 := n1_
              have HO191 := n2_
              have BK174 := n3_
              have BK175 := n4_
              have BK188 := n5_
              have HB := n6_
              clear n0_ n1_ n2_ n3_ n4_ n5_ n6_
              have n0_ := am (Kd.S_drew HO183.out)
              have n1_ := am (Kd.R_drew HO187.out)
              have n2_ := am (Kd.R_drew HO191.out)
              have n3_ := am (blk_drew BK174.out)
              have n4_ := am (blk_drew BK175.out)
              have n5_ := am (blk_drew BK188.out)
              have n6_ := am (below_drew1 HB.out)
              clear HO183
              clear HO187
              clear HO191
              clear BK174
              clear BK175
              clear BK188
              clear HB
              have HO183 := n0_
              have HO187 := n1_
              have HO191 := n2_
              have BK174 := n3_
              have BK175 := n4_
              have BK188 := n5_
              have HB := n6_
              clear n0_ n1_ n2_ n3_ n4_ n5_ n6_
              have p192 : 0 ≤ (x7_3 : Int) := of_decide_eq_true (by first | (with_reducible assumption) | assumption)
              have q192 : x7_3 < (l0_0.length : Int) := of_decide_eq_true (by first | (with_reducible assumption) | assumption)
              obtain ⟨ad192, A192_0, c192_0, e192, hx192_0, hl192_0, hi192_0⟩ := at_L1 HR0_0.out x7_3 p192 q192
              have hw192_0 := hx192_0
              obtain rfl : ad179 = ad192 := (by injection e192)
              have hxw192_0 := hx192_0
              replace hx192_0 := (HB.out.cell (World.block_lt_of_cell? w _ hx192_0)).trans hx192_0
              have HR192_0 := am hi192_0
              have HC192_0 := am hl192_0
              clear hi192_0 hl192_0
              replace p192 := eq_true p192
              replace q192 := eq_true q192
              refine start_ (n := 9) (S := fun w' => w'.cell? ⟨gb188, 0, none⟩ = some (.slice Ao45 t181.length co45) ∧ w'.cell? ⟨gb188, 1, none⟩ = some (.int .i64 x7_3) ∧ w'.cell? ⟨gb188, 2, none⟩ = some (.slice Ao52 t189.length co52) ∧ w'.cell? ⟨gb174, 0, none⟩ = some (.slice (some ad179) l0_0.length c0_0) ∧ w'.cell? ⟨gb174, 1, none⟩ = some (.int .i64 a0_1) ∧ w'.cell? ⟨gb174, 2, none⟩ = some (.slice A0_2 l0_2.length c0_2) ∧ w'.cell? (ad179.add (x7_3).toNat) = some (.slice A192_0 (rd_L1 l0_0 x7_3).length c192_0)) (ds := []) #[false, false, false, false, false, false, false, false, false] (by kernel_rfl) rfl rfl ⟨(blk_cell BK188.out 0).trans rfl, (blk_cell BK188.out 1).trans rfl, (blk_cell BK188.out 2).trans rfl, (blk_cell BK174.out 0).trans rfl, (blk_cell BK174.out 1).trans rfl, (blk_cell BK174.out 2).trans rfl, ((HB.out.cell (World.block_lt_of_cell? w _ hw192_0)).trans hw192_0)⟩ (fun hHeld => ?_); refine with_tabW spec_HistUp.tab13 spec_HistUp.bits13 (fun HT_ HW_ => ?_)
              generalize w54.drew = w55 at HO183 HO187 HO191 BK174 BK175 BK188 HB HR192_0 hx192_0 hHeld ⊢
              refine pure_ (i := 1) (N := some 60) (v := ?_) (a' := ?_) #[false, true, false, false, false, false, false, false, false] rfl rfl (any_of HT_.out (by kernel_rfl)) (fun _ _ _ h => h) (Or.inl ⟨by rfl, ?_⟩) ?_ ?_
              rotate_left
              ·intro w'
               go_simp
               with_reducible rfl
              rotate_left
              ·simp only [Act.put, List.setIfInBounds_toArray, List.set_cons_zero, List.set_cons_succ, i64_w, i32_w]
               rfl
              refine pure_ (i := 3) (N := some 62) (v := ?_) (a' := ?_) #[false, true, false, true, false, false, false, false, false] rfl rfl (any_of HT_.out (by kernel_rfl)) (fun _ _ _ h => h) (Or.inl ⟨by rfl, ?_⟩) ?_ ?_
              rotate_left
              ·intro w'
               go_simp
               with_reducible rfl
              rotate_left
              ·simp only [Act.put, List.setIfInBounds_toArray, List.set_cons_zero, List.set_cons_succ, i64_w, i32_w]
               rfl
              refine take_ (i := 0) (N := some 59) (v := ?_) (a' := ?_) #[true, true, false, true, false, false, false, false, false] rfl rfl (take_ofW HT_.out HW_.out (by kernel_rfl)) (fun _ _ _ h => h) (Or.inl ⟨by rfl, ?_⟩) hHeld ?_ ?_
              rotate_left
              ·rintro w' ⟨s0, s1, s2, s3, s4, s5, s6⟩
               go_simp
               with_reducible rfl
              rotate_left
              ·simp only [Act.put, List.setIfInBounds_toArray, List.set_cons_zero, List.set_cons_succ, i64_w, i32_w]
               rfl
              refine take_ (i := 2) (N := some 61) (v := ?_) (a' := ?_) #[true, true, true, true, false, false, false, false, false] rfl rfl (take_ofW HT_.out HW_.out (by kernel_rfl)) (fun _ _ _ h => h) (Or.inl ⟨by rfl, ?_⟩) hHeld ?_ ?_
              rotate_left
              ·rintro w' ⟨s0, s1, s2, s3, s4, s5, s6⟩
               go_simp
               with_reducible rfl
              rotate_left
              ·simp only [Act.put, List.setIfInBounds_toArray, List.set_cons_zero, List.set_cons_succ, i64_w, i32_w]
               rfl
              refine pure_ (i := 4) (N := some 63) (v := ?_) (a' := ?_) #[true, true, true, true, true, false, false, false, false] rfl rfl (any_of HT_.out (by kernel_rfl)) (fun _ _ _ h => h) (Or.inl ⟨by rfl, ?_⟩) ?_ ?_
              rotate_left
              ·intro w'
               go_simp
               with_reducible rfl
              rotate_left
              ·simp only [Act.put, List.setIfInBounds_toArray, List.set_cons_zero, List.set_cons_succ, i64_w, i32_w]
               rfl
              refine take_ (i := 5) (N := some 64) (v := ?_) (a' := ?_) #[true, true, true, true, true, true, false, false, false] rfl rfl (take_ofW HT_.out HW_.out (by kernel_rfl)) (fun _ _ _ h => h) (Or.inl ⟨by rfl, ?_⟩) hHeld ?_ ?_
              rotate_left
              ·rintro w' ⟨s0, s1, s2, s3, s4, s5, s6⟩
               go_simp
               with_reducible rfl
              rotate_left
              ·simp only [Act.put, List.setIfInBounds_toArray, List.set_cons_zero, List.set_cons_succ, i64_w, i32_w]
               rfl
              refine one_ (i := 6) (N := some 65) #[true, true, true, true, true, true, true, false, false] rfl rfl (one_of HT_.out (by kernel_rfl)) (by decide) (fun K hK => ?_)
              refine goes_ Try.func76 (by kernel_rfl) rfl #[.slice A192_0 (rd_L1 l0_0 x7_3).length c192_0] (by rfl) rfl rfl (by (try simp only [List.map_toArray, List.map_cons, List.map_nil]); first | done | rfl | (simp only [List.length_drop, List.length_take]; rfl)) ?_
              with_reducible refine (spec_l01Copy.calls _ _ (rd_L1 l0_0 x7_3) t193 _ ?side1 ?side2 A39.out).mono ?_
              (case side1 => repeat (first | exact (Kd.C_below HR192_0.out HB.out) | (with_reducible refine Kd.C_alloc ?_ _) | (with_reducible refine Kd.C_drewN ?_ _) | (with_reducible refine Kd.C_drew ?_)))
              (case side2 => exact HC192_0.out)
              rintro e w56 ⟨v194, rfl, ho0, hb⟩
              refine ⟨_, rfl, ?_⟩
              have n0_ := am (Kd.S_elder' (by (with_reducible repeat (first | apply Kd.S_alloc | apply Kd.S_drewN | apply Kd.S_drew)); exact HO183.out) (Kd.R_base ho0) hb)
              have n1_ := am (Kd.R_elder' (by (with_reducible repeat (first | apply Kd.R_alloc | apply Kd.R_drewN | apply Kd.R_drew)); exact HO187.out) (Kd.R_base ho0) hb)
              have n2_ := am (Kd.R_elder' (by (with_reducible repeat (first | apply Kd.R_alloc | apply Kd.R_drewN | apply Kd.R_drew)); exact HO191.out) (Kd.R_base ho0) hb)
              have n3_ := am (Kd.R_lower (Kd.R_new' (Kd.R_new' ho0 (Kd.R_lt (by (with_reducible repeat (first | apply Kd.R_alloc | apply Kd.R_drewN | apply Kd.R_drew)); exact HO187.out))) (Kd.R_lt (by (with_reducible repeat (first | apply Kd.R_alloc | apply Kd.R_drewN | apply Kd.R_drew)); exact HO191.out))) (below_size (by repeat (first | (with_reducible first | exact HB.out | apply below_alloc | apply pw_below_drewN | apply below_drew1 | refine below_set ?_ GE174.out | refine below_set ?_ GE175.out | refine below_set ?_ GE188.out) | exact HB.out))))
              have n4_ := am (blk_below (g := gb174) (o := .cells #[.slice (some ad179) l0_0.length c0_0, .int .i64 a0_1, .slice A0_2 l0_2.length c0_2] 53 (0, 0)) (pk BK174.out) hb)
              have n5_ := am (blk_below (g := gb175) (o := .cells #[.slice none 0 0, .int .i64 x176001_3, .slice none 0 0, .slice none 0 0, .int .i64 x176004_3] 63 (0, 0)) (pk BK175.out) hb)
              have n6_ := am (blk_below (g := gb188) (o := .cells #[.slice Ao45 t181.length co45, .int .i64 x7_3, .slice Ao52 t189.length co52] 53 (0, 0)) (pk BK188.out) hb)
              have n7_ := am (below_step (by repeat (first | (with_reducible first | exact HB.out | apply below_alloc | apply pw_below_drewN | apply below_drew1 | refine below_set ?_ GE174.out | refine below_set ?_ GE175.out | refine below_set ?_ GE188.out) | exact HB.out)) hb)
              clear HO183
              clear HO187
              clear HO191
              clear BK174
              clear BK175
              clear BK188
              clear HB
              have HO183 := n0_
              have HO187 := n1_
              have HO191 := n2_
              have HO195 := n3_
              have BK174 := n4_
              have BK175 := n5_
              have BK188 := n6_
              have HB := n7_
              clear n0_ n1_ n2_ n3_ n4_ n5_ n6_ n7_
              (try clear hb)
              (try clear hb2)
              (try clear hk)
              (try clear hi)
              (try clear ho0)
              obtain ⟨Ao57, co57, eo57⟩ := Kd.R_slice HO195.out
              (first | subst eo57 | (injection eo57 with f1_ f2_ f3_; have f4_ := f1_.symm; have f5_ := f3_.symm; clear f1_ f2_ f3_; subst f4_; subst f5_))
              refine hK.out _ _ ⟨(blk_cell BK188.out 0).trans rfl, (blk_cell BK188.out 1).trans rfl, (blk_cell BK188.out 2).trans rfl, (blk_cell BK174.out 0).trans rfl, (blk_cell BK174.out 1).trans rfl, (blk_cell BK174.out 2).trans rfl, ((HB.out.cell (World.block_lt_of_cell? w _ hw192_0)).trans hw192_0)⟩ (fun hHeld => ?_)
              clear hK K
              refine norm_ (a' := ?_) ?_ ?_
              rotate_left
              ·show Act.put _ (some 65) _ = _
               simp only [Act.put, List.setIfInBounds_toArray, List.set_cons_zero, List.set_cons_succ, i64_w, i32_w]
               rfl
              refine pure_ (i := 7) (N := some 66) (v := ?_) (a' := ?_) #[true, true, true, true, true, true, true, true, false] rfl rfl (any_of HT_.out (by kernel_rfl)) (fun _ _ _ h => h) (Or.inl ⟨by rfl, ?_⟩) ?_ ?_
              rotate_left
              ·intro w'
               go_simp
               with_reducible rfl
              rotate_left
              ·simp only [Act.put, List.setIfInBounds_toArray, List.set_cons_zero, List.set_cons_succ, i64_w, i32_w]
               rfl
              refine one_ (i := 8) (N := none) #[true, true, true, true, true, true, true, true, true] rfl rfl (one_of HT_.out (by kernel_rfl)) (by decide) (fun K hK => ?_)
              have hs58 : w56.cell? ⟨gb175, 0, none⟩ = some (.slice none 0 0) := (blk_cell BK175.out 0).trans rfl
              have hfs58 := blk_frozen BK175.out 0
              have hns58_0 := NB174_175.out
              have hns58_2 := NB188_175.out
              have hms58_0 := NB175_174.out
              have hms58_2 := NB175_188.out
              have hs59 : w56.cell? ⟨gb175, 1, none⟩ = some (.int .i64 x176001_3) := (blk_cell BK175.out 1).trans rfl
              have hfs59 := blk_frozen BK175.out 1
              have hns59_0 := NB174_175.out
              have hns59_2 := NB188_175.out
              have hms59_0 := NB175_174.out
              have hms59_2 := NB175_188.out
              have hs60 : w56.cell? ⟨gb175, 2, none⟩ = some (.slice none 0 0) := (blk_cell BK175.out 2).trans rfl
              have hfs60 := blk_frozen BK175.out 2
              have hns60_0 := NB174_175.out
              have hns60_2 := NB188_175.out
              have hms60_0 := NB175_174.out
              have hms60_2 := NB175_188.out
              have hs61 : w56.cell? ⟨gb175, 3, none⟩ = some (.slice none 0 0) := (blk_cell BK175.out 3).trans rfl
              have hfs61 := blk_frozen BK175.out 3
              have hns61_0 := NB174_175.out
              have hns61_2 := NB188_175.out
              have hms61_0 := NB175_174.out
              have hms61_2 := NB175_188.out
              have hs62 : w56.cell? ⟨gb175, 4, none⟩ = some (.int .i64 x176004_3) := (blk_cell BK175.out 4).trans rfl
              have hfs62 := blk_frozen BK175.out 4
              have hns62_0 := NB174_175.out
              have hns62_2 := NB188_175.out
              have hms62_0 := NB175_174.out
              have hms62_2 := NB175_188.out
              refine skip_ (w1 := ?_) (by rfl) rfl ?_ ?_
              rotate_left
              ·go_simp
               rfl
              refine hK.out _ _ ⟨((cell_far (p := ⟨gb175, _, none⟩) NB188_175.out _).trans (((cell_far (p := ⟨gb175, _, none⟩) NB188_175.out _).trans (((cell_far (p := ⟨gb175, _, none⟩) NB188_175.out _).trans (((cell_far (p := ⟨gb175, _, none⟩) NB188_175.out _).trans (((cell_far (p := ⟨gb175, _, none⟩) NB188_175.out _).trans (hHeld.1)))))))))), ((cell_far (p := ⟨gb175, _, none⟩) NB188_175.out _).trans (((cell_far (p := ⟨gb175, _, none⟩) NB188_175.out _).trans (((cell_far (p := ⟨gb175, _, none⟩) NB188_175.out _).trans (((cell_far (p := ⟨gb175, _, none⟩) NB188_175.out _).trans (((cell_far (p := ⟨gb175, _, none⟩) NB188_175.out _).trans (hHeld.2.1)))))))))), ((cell_far (p := ⟨gb175, _, none⟩) NB188_175.out _).trans (((cell_far (p := ⟨gb175, _, none⟩) NB188_175.out _).trans (((cell_far (p := ⟨gb175, _, none⟩) NB188_175.out _).trans (((cell_far (p := ⟨gb175, _, none⟩) NB188_175.out _).trans (((cell_far (p := ⟨gb175, _, none⟩) NB188_175.out _).trans (hHeld.2.2.1)))))))))), ((cell_far (p := ⟨gb175, _, none⟩) NB174_175.out _).trans (((cell_far (p := ⟨gb175, _, none⟩) NB174_175.out _).trans (((cell_far (p := ⟨gb175, _, none⟩) NB174_175.out _).trans (((cell_far (p := ⟨gb175, _, none⟩) NB174_175.out _).trans (((cell_far (p := ⟨gb175, _, none⟩) NB174_175.out _).trans (hHeld.2.2.2.1)))))))))), ((cell_far (p := ⟨gb175, _, none⟩) NB174_175.out _).trans (((cell_far (p := ⟨gb175, _, none⟩) NB174_175.out _).trans (((cell_far (p := ⟨gb175, _, none⟩) NB174_175.out _).trans (((cell_far (p := ⟨gb175, _, none⟩) NB174_175.out _).trans (((cell_far (p := ⟨gb175, _, none⟩) NB174_175.out _).trans (hHeld.2.2.2.2.1)))))))))), ((cell_far (p := ⟨gb175, _, none⟩) NB174_175.out _).trans (((cell_far (p := ⟨gb175, _, none⟩) NB174_175.out _).trans (((cell_far (p := ⟨gb175, _, none⟩) NB174_175.out _).trans (((cell_far (p := ⟨gb175, _, none⟩) NB174_175.out _).trans (((cell_far (p := ⟨gb175, _, none⟩) NB174_175.out _).trans (hHeld.2.2.2.2.2.1)))))))))), ((cell_far (p := ⟨gb175, _, none⟩) (by first | exact Nat.ne_of_lt (Nat.lt_of_lt_of_le (by have := World.block_lt_of_cell? _ _ hw192_0; first | rwa [add_block] at this | exact this) GW175.out) | (rw [add_block]; exact Nat.ne_of_lt (Nat.lt_of_lt_of_le (by have := World.block_lt_of_cell? _ _ hw192_0; first | rwa [add_block] at this | exact this) GW175.out)) | (show (Addr.add _ _).block ≠ _; rw [add_block]; exact Nat.ne_of_lt (Nat.lt_of_lt_of_le (by have := World.block_lt_of_cell? _ _ hw192_0; first | rwa [add_block] at this | exact this) GW175.out)) | (dsimp only; exact Nat.ne_of_lt (Nat.lt_of_lt_of_le (by have := World.block_lt_of_cell? _ _ hw192_0; first | rwa [add_block] at this | exact this) GW175.out))) _).trans (((cell_far (p := ⟨gb175, _, none⟩) (by first | exact Nat.ne_of_lt (Nat.lt_of_lt_of_le (by have := World.block_lt_of_cell? _ _ hw192_0; first | rwa [add_block] at this | exact this) GW175.out) | (rw [add_block]; exact Nat.ne_of_lt (Nat.lt_of_lt_of_le (by have := World.block_lt_of_cell? _ _ hw192_0; first | rwa [add_block] at this | exact this) GW175.out)) | (show (Addr.add _ _).block ≠ _; rw [add_block]; exact Nat.ne_of_lt (Nat.lt_of_lt_of_le (by have := World.block_lt_of_cell? _ _ hw192_0; first | rwa [add_block] at this | exact this) GW175.out)) | (dsimp only; exact Nat.ne_of_lt (Nat.lt_of_lt_of_le (by have := World.block_lt_of_cell? _ _ hw192_0; first | rwa [add_block] at this | exact this) GW175.out))) _).trans (((cell_far (p := ⟨gb175, _, none⟩) (by first | exact Nat.ne_of_lt (Nat.lt_of_lt_of_le (by have := World.block_lt_of_cell? _ _ hw192_0; first | rwa [add_block] at this | exact this) GW175.out) | (rw [add_block]; exact Nat.ne_of_lt (Nat.lt_of_lt_of_le (by have := World.block_lt_of_cell? _ _ hw192_0; first | rwa [add_block] at this | exact this) GW175.out)) | (show (Addr.add _ _).block ≠ _; rw [add_block]; exact Nat.ne_of_lt (Nat.lt_of_lt_of_le (by have := World.block_lt_of_cell? _ _ hw192_0; first | rwa [add_block] at this | exact this) GW175.out)) | (dsimp only; exact Nat.ne_of_lt (Nat.lt_of_lt_of_le (by have := World.block_lt_of_cell? _ _ hw192_0; first | rwa [add_block] at this | exact this) GW175.out))) _).trans (((cell_far (p := ⟨gb175, _, none⟩) (by first | exact Nat.ne_of_lt (Nat.lt_of_lt_of_le (by have := World.block_lt_of_cell? _ _ hw192_0; first | rwa [add_block] at this | exact this) GW175.out) | (rw [add_block]; exact Nat.ne_of_lt (Nat.lt_of_lt_of_le (by have := World.block_lt_of_cell? _ _ hw192_0; first | rwa [add_block] at this | exact this) GW175.out)) | (show (Addr.add _ _).block ≠ _; rw [add_block]; exact Nat.ne_of_lt (Nat.lt_of_lt_of_le (by have := World.block_lt_of_cell? _ _ hw192_0; first | rwa [add_block] at this | exact this) GW175.out)) | (dsimp only; exact Nat.ne_of_lt (Nat.lt_of_lt_of_le (by have := World.block_lt_of_cell? _ _ hw192_0; first | rwa [add_block] at this | exact this) GW175.out))) _).trans (((cell_far (p := ⟨gb175, _, none⟩) (by first | exact Nat.ne_of_lt (Nat.lt_of_lt_of_le (by have := World.block_lt_of_cell? _ _ hw192_0; first | rwa [add_block] at this | exact this) GW175.out) | (rw [add_block]; exact Nat.ne_of_lt (Nat.lt_of_lt_of_le (by have := World.block_lt_of_cell? _ _ hw192_0; first | rwa [add_block] at this | exact this) GW175.out)) | (show (Addr.add _ _).block ≠ _; rw [add_block]; exact Nat.ne_of_lt (Nat.lt_of_lt_of_le (by have := World.block_lt_of_cell? _ _ hw192_0; first | rwa [add_block] at this | exact this) GW175.out)) | (dsimp only; exact Nat.ne_of_lt (Nat.lt_of_lt_of_le (by have := World.block_lt_of_cell? _ _ hw192_0; first | rwa [add_block] at this | exact this) GW175.out))) _).trans (hHeld.2.2.2.2.2.2))))))))))⟩ (fun hHeld => ?_)
              clear hK K
              refine done_ (done_of HT_.out (by kernel_rfl)) ?_
              try go_wp2
              refine bodyPost_ret (results_cell_row rfl _ _ gb175 63 #[.slice Ao45 t181.length co45, .int .i64 x7_3, .slice Ao52 t189.length co52, .slice Ao57 t193.length co57, .int .i64 0] (0, 0) _ rfl (by (with_reducible repeat (first | refine blk_drewN ?_ _ | refine blk_drew ?_ | refine blk_alloc ?_ _)); refine blk_put (cs := #[.slice Ao45 t181.length co45, .int .i64 x7_3, .slice Ao52 t189.length co52, .slice Ao57 t193.length co57, .int .i64 x176004_3]) ?_ 4 _ rfl; (with_reducible repeat (first | refine blk_drewN ?_ _ | refine blk_drew ?_ | refine blk_alloc ?_ _)); refine blk_put (cs := #[.slice Ao45 t181.length co45, .int .i64 x7_3, .slice Ao52 t189.length co52, .slice none 0 0, .int .i64 x176004_3]) ?_ 3 _ rfl; (with_reducible repeat (first | refine blk_drewN ?_ _ | refine blk_drew ?_ | refine blk_alloc ?_ _)); refine blk_put (cs := #[.slice Ao45 t181.length co45, .int .i64 x7_3, .slice none 0 0, .slice none 0 0, .int .i64 x176004_3]) ?_ 2 _ rfl; (with_reducible repeat (first | refine blk_drewN ?_ _ | refine blk_drew ?_ | refine blk_alloc ?_ _)); refine blk_put (cs := #[.slice Ao45 t181.length co45, .int .i64 x176001_3, .slice none 0 0, .slice none 0 0, .int .i64 x176004_3]) ?_ 1 _ rfl; (with_reducible repeat (first | refine blk_drewN ?_ _ | refine blk_drew ?_ | refine blk_alloc ?_ _)); refine blk_put (cs := #[.slice none 0 0, .int .i64 x176001_3, .slice none 0 0, .slice none 0 0, .int .i64 x176004_3]) ?_ 0 _ rfl; (with_reducible repeat (first | refine blk_drewN ?_ _ | refine blk_drew ?_ | refine blk_alloc ?_ _)); exact BK175.out) Try.underlying63 rfl (by kernel_rfl)) rfl ?_
              exact ⟨_, _, _, by first | rfl | (simp [errW_none, errW_some] <;> rfl) | (simp [*, errW_none, errW_some] <;> rfl), by (with_reducible repeat (first | apply Kd.S_alloc | apply Kd.S_drewN | apply Kd.S_drew)); exact Kd.S_mono (Kd.S_far (p := ⟨gb175, 4, none⟩) (Kd.S_far (p := ⟨gb175, 3, none⟩) (Kd.S_far (p := ⟨gb175, 2, none⟩) (Kd.S_far (p := ⟨gb175, 1, none⟩) (Kd.S_far (p := ⟨gb175, 0, none⟩) (Kd.S_types HO183.out BK175.out (by decide)) (fun _ hk => hk.2) (.slice Ao45 t181.length co45)) (fun _ hk => hk.2) (.int .i64 x7_3)) (fun _ hk => hk.2) (.slice Ao52 t189.length co52)) (fun _ hk => hk.2) (.slice Ao57 t193.length co57)) (fun _ hk => hk.2) (.int .i64 0)) (fun _ hk => ⟨hk.1.1.2, hk.1.2⟩), by (with_reducible repeat (first | apply Kd.R_alloc | apply Kd.R_drewN | apply Kd.R_drew)); exact Kd.R_mono (Kd.R_far (p := ⟨gb175, 4, none⟩) (Kd.R_far (p := ⟨gb175, 3, none⟩) (Kd.R_far (p := ⟨gb175, 2, none⟩) (Kd.R_far (p := ⟨gb175, 1, none⟩) (Kd.R_far (p := ⟨gb175, 0, none⟩) (Kd.R_types HO191.out BK175.out (by decide)) (fun _ hk => hk.2) (.slice Ao45 t181.length co45)) (fun _ hk => hk.2) (.int .i64 x7_3)) (fun _ hk => hk.2) (.slice Ao52 t189.length co52)) (fun _ hk => hk.2) (.slice Ao57 t193.length co57)) (fun _ hk => hk.2) (.int .i64 0)) (fun _ hk => hk.1.2), by (with_reducible repeat (first | apply Kd.R_alloc | apply Kd.R_drewN | apply Kd.R_drew)); exact Kd.R_mono (Kd.R_far (p := ⟨gb175, 4, none⟩) (Kd.R_far (p := ⟨gb175, 3, none⟩) (Kd.R_far (p := ⟨gb175, 2, none⟩) (Kd.R_far (p := ⟨gb175, 1, none⟩) (Kd.R_far (p := ⟨gb175, 0, none⟩) (Kd.R_types HO195.out BK175.out (by decide)) (fun _ hk => hk.2) (.slice Ao45 t181.length co45)) (fun _ hk => hk.2) (.int .i64 x7_3)) (fun _ hk => hk.2) (.slice Ao52 t189.length co52)) (fun _ hk => hk.2) (.slice Ao57 t193.length co57)) (fun _ hk => hk.2) (.int .i64 0)) (fun _ hk => hk.1.2), by repeat (first | (with_reducible first | exact HB.out | apply below_alloc | apply pw_below_drewN | apply below_drew1 | refine below_set ?_ GE174.out | refine below_set ?_ GE175.out | refine below_set ?_ GE188.out) | exact HB.out)⟩
             ·rw [if_neg c37] at H
              have c37b0 : (a0_1 == (l0_0.length : Int)) = false := beq_eq_false_iff_ne.mpr c37
              have c37b1 : (a0_1 != (l0_0.length : Int)) = true := bne_iff_ne.mpr c37
              replace H := Option.bind_eq_some_iff.mp H
              obtain ⟨t197, A630, H⟩ := H
              replace H : (some (t181, x7_3, t185, t197, 0)) = some (r1, r2, r3, r4, r5) := H
              have A63 := Aside0.mk A630
              clear A630
              simp only [Option.some.injEq, Prod.mk.injEq] at H
              obtain ⟨rfl, rfl, rfl, rfl, rfl⟩ := H
              have hnb64 := NB174_175.out
              have hnc64 := NB175_174.out
              have hcz65_0 : wr.cell? ⟨gb174, 0, none⟩ = some (.slice A0_0 l0_0.length c0_0) := (blk_cell BK174.out 0).trans rfl
              have hcz65_1 : wr.cell? ⟨gb174, 1, none⟩ = some (.int .i64 a0_1) := (blk_cell BK174.out 1).trans rfl
              have hcz65_2 : wr.cell? ⟨gb174, 2, none⟩ = some (.slice A0_2 l0_2.length c0_2) := (blk_cell BK174.out 2).trans rfl
              have hfz65_0 := blk_frozen BK174.out 0
              have hfz65_1 := blk_frozen BK174.out 1
              have hfz65_2 := blk_frozen BK174.out 2
              have p179 : 0 ≤ (x7_3 : Int) := of_decide_eq_true (by first | (with_reducible assumption) | assumption)
              have q179 : x7_3 < (l0_0.length : Int) := of_decide_eq_true (by first | (with_reducible assumption) | assumption)
              obtain ⟨ad179, A179_0, c179_0, e179, hx179_0, hl179_0, hi179_0⟩ := at_L1 HR0_0.out x7_3 p179 q179
              cases e179
              have hxw179_0 := hx179_0
              replace hx179_0 := (HB.out.cell (World.block_lt_of_cell? w _ hx179_0)).trans hx179_0
              have HR179_0 := am hi179_0
              have HC179_0 := am hl179_0
              clear hi179_0 hl179_0
              replace p179 := eq_true p179
              replace q179 := eq_true q179
              try go_wp2_with (first | ((with_reducible refine gate_callee (f := 83) rfl ?_); refine gl (some 45) Try.func83 #[.slice A179_0 (rd_L1 l0_0 x7_3).length c179_0, .slice A2 l2.length c2] ?_; (with_reducible refine (spec_l06Begins.calls k3 _ _ (rd_L1 l0_0 x7_3) _ _ l2 true _ ?side1 ?side2 ?side3 ?side4 A34.out).mono ?_); (case side1 => repeat (first | exact (Kd.C_below HR179_0.out HB.out) | (with_reducible refine Kd.C_alloc ?_ _) | (with_reducible refine Kd.C_drewN ?_ _) | (with_reducible refine Kd.C_drew ?_))); (case side2 => exact HC179_0.out); (case side3 => repeat (first | exact (Kd.C_below HR2.out HB.out) | (with_reducible refine Kd.C_alloc ?_ _) | (with_reducible refine Kd.C_drewN ?_ _) | (with_reducible refine Kd.C_drew ?_))); (case side4 => exact HC2.out); rintro e w' ⟨rfl, ⟨nd, rfl⟩⟩; refine ⟨_, rfl, ?_⟩; (try (rw [drewN_self wr]; generalize hq_ : World.drewN wr _ = wr; have n0_ : Aside0 (wr.heap[gb174]? = some (.cells #[.slice (some ad179) l0_0.length c0_0, .int .i64 a0_1, .slice A0_2 l0_2.length c0_2] 53 (0, 0))) := ⟨by rw [← hq_]; exact (pk BK174.out)⟩; have n1_ : Aside0 (wr.heap[gb175]? = some (.cells #[.slice none 0 0, .int .i64 x176001_3, .slice none 0 0, .slice none 0 0, .int .i64 x176004_3] 63 (0, 0))) := ⟨by rw [← hq_]; exact (pk BK175.out)⟩; have n2_ : Aside0 (Below w.heap.size w wr) := ⟨by rw [← hq_]; exact (by repeat (first | (with_reducible first | exact HB.out | apply below_alloc | apply pw_below_drewN | apply below_drew1 | refine below_set ?_ GE174.out | refine below_set ?_ GE175.out) | exact HB.out))⟩; clear BK174 BK175 HB hq_; have BK174 := n0_; have BK175 := n1_; have HB := n2_; clear n0_ n1_ n2_)); have hcz66_0 : wr.cell? ⟨gb174, 0, none⟩ = some (.slice (some ad179) l0_0.length c0_0) := (blk_cell BK174.out 0).trans rfl; have hcz66_1 : wr.cell? ⟨gb174, 1, none⟩ = some (.int .i64 a0_1) := (blk_cell BK174.out 1).trans rfl; have hcz66_2 : wr.cell? ⟨gb174, 2, none⟩ = some (.slice A0_2 l0_2.length c0_2) := (blk_cell BK174.out 2).trans rfl; have hfz66_0 := blk_frozen BK174.out 0; have hfz66_1 := blk_frozen BK174.out 1; have hfz66_2 := blk_frozen BK174.out 2) | ((with_reducible refine gate_callee (f := 72) rfl ?_); refine gl (some 47) Try.func72 #[.agg #[.slice (some ad179) l0_0.length c0_0, .int .i64 a0_1, .slice A0_2 l0_2.length c0_2]] ?_; (with_reducible refine (spec_l06Copy.calls k3 _ _ l0_0 a0_1 _ _ l0_2 t181 t184 t185 _ ?side1 ?side2 ?side3 ?side4 A36.out).mono ?_); (case side1 => repeat (first | exact (Kd.C_below HR0_0.out HB.out) | (with_reducible refine Kd.C_alloc ?_ _) | (with_reducible refine Kd.C_drewN ?_ _) | (with_reducible refine Kd.C_drew ?_))); (case side2 => exact HC0_0.out); (case side3 => repeat (first | exact (Kd.C_below HR0_2.out HB.out) | (with_reducible refine Kd.C_alloc ?_ _) | (with_reducible refine Kd.C_drewN ?_ _) | (with_reducible refine Kd.C_drew ?_))); (case side4 => exact HC0_2.out); rintro e w67 ⟨v182, v186, rfl, ho0, ho1, hb⟩; refine ⟨_, rfl, ?_⟩; have n0_ := am (Kd.S_lower ho0 (below_size (by repeat (first | (with_reducible first | exact HB.out | apply below_alloc | apply pw_below_drewN | apply below_drew1 | refine below_set ?_ GE174.out | refine below_set ?_ GE175.out) | exact HB.out)))); have n1_ := am (Kd.R_lower ho1 (below_size (by repeat (first | (with_reducible first | exact HB.out | apply below_alloc | apply pw_below_drewN | apply below_drew1 | refine below_set ?_ GE174.out | refine below_set ?_ GE175.out) | exact HB.out)))); have n2_ := am (blk_below (g := gb174) (o := .cells #[.slice (some ad179) l0_0.length c0_0, .int .i64 a0_1, .slice A0_2 l0_2.length c0_2] 53 (0, 0)) (pk BK174.out) hb); have n3_ := am (blk_below (g := gb175) (o := .cells #[.slice none 0 0, .int .i64 x176001_3, .slice none 0 0, .slice none 0 0, .int .i64 x176004_3] 63 (0, 0)) (pk BK175.out) hb); have n4_ := am (below_step (by repeat (first | (with_reducible first | exact HB.out | apply below_alloc | apply pw_below_drewN | apply below_drew1 | refine below_set ?_ GE174.out | refine below_set ?_ GE175.out) | exact HB.out)) hb); clear BK174; clear BK175; clear HB; have HO183 := n0_; have HO187 := n1_; have BK174 := n2_; have BK175 := n3_; have HB := n4_; clear n0_ n1_ n2_ n3_ n4_; (try clear hb); (try clear hb2); (try clear hk); (try clear hi); (try clear ho0); (try clear ho1)) | ((with_reducible refine gate_dst (N := 8) rfl ?_); (try (refine gate_guard (by rfl) ?_; dsimp only)); refine box_event ?hg (N := 8) ?hd (cs := #[.slice none 0 0, .int .i64 0, .slice none 0 0]) (t := 53) ?hr ?_; (case hd => rfl); (case hg => rfl); (case hr => first | (go_simp; done) | (go_simp; rfl)); intro gb188 hg w68 hbox hb; have n0_ := am (Kd.S_below (by (with_reducible repeat (first | apply Kd.S_alloc | apply Kd.S_drewN | apply Kd.S_drew)); exact HO183.out) hb); have n1_ := am (Kd.R_below (by (with_reducible repeat (first | apply Kd.R_alloc | apply Kd.R_drewN | apply Kd.R_drew)); exact HO187.out) hb); have n2_ := am (blk_below (g := gb174) (o := .cells #[.slice (some ad179) l0_0.length c0_0, .int .i64 a0_1, .slice A0_2 l0_2.length c0_2] 53 (0, 0)) (pk BK174.out) hb); have n3_ := am (blk_below (g := gb175) (o := .cells #[.slice none 0 0, .int .i64 x176001_3, .slice none 0 0, .slice none 0 0, .int .i64 x176004_3] 63 (0, 0)) (pk BK175.out) hb); have n4_ := am (below_step (by repeat (first | (with_reducible first | exact HB.out | apply below_alloc | apply pw_below_drewN | apply below_drew1 | refine below_set ?_ GE174.out | refine below_set ?_ GE175.out) | exact HB.out)) hb); have n5_ := am (hbox); have n6_ := am ((by rw [hg]; exact (below_size (by repeat (first | (with_reducible first | exact HB.out | apply below_alloc | apply pw_below_drewN | apply below_drew1 | refine below_set ?_ GE174.out | refine below_set ?_ GE175.out) | exact HB.out))) : w.heap.size ≤ gb188)); have n7_ := am ((by rw [hg]; exact (below_size (by repeat (first | (with_reducible first | exact HB.out | apply below_alloc | apply pw_below_drewN | apply below_drew1 | refine below_set ?_ GE174.out | refine below_set ?_ GE175.out) | exact HB.out))) : w.heap.size ≤ gb188)); have n8_ := am ((by rw [hg]; exact Nat.ne_of_lt (blk_lt (g := gb174) (o := .cells #[.slice (some ad179) l0_0.length c0_0, .int .i64 a0_1, .slice A0_2 l0_2.length c0_2] 53 (0, 0)) (pk BK174.out)) : gb174 ≠ gb188)); have n9_ := am ((by rw [hg]; exact Nat.ne_of_gt (blk_lt (g := gb174) (o := .cells #[.slice (some ad179) l0_0.length c0_0, .int .i64 a0_1, .slice A0_2 l0_2.length c0_2] 53 (0, 0)) (pk BK174.out)) : gb188 ≠ gb174)); have n10_ := am ((by rw [hg]; exact Nat.ne_of_lt (blk_lt (g := gb175) (o := .cells #[.slice none 0 0, .int .i64 x176001_3, .slice none 0 0, .slice none 0 0, .int .i64 x176004_3] 63 (0, 0)) (pk BK175.out)) : gb175 ≠ gb188)); have n11_ := am ((by rw [hg]; exact Nat.ne_of_gt (blk_lt (g := gb175) (o := .cells #[.slice none 0 0, .int .i64 x176001_3, .slice none 0 0, .slice none 0 0, .int .i64 x176004_3] 63 (0, 0)) (pk BK175.out)) : gb188 ≠ gb175)); clear HO183; clear HO187; clear BK174; clear BK175; clear HB; have HO183 := n0_; have HO187 := n1_; have BK174 := n2_; have BK175 := n3_; have HB := n4_; have BK188 := n5_; have GW188 := n6_; have GE188 := n7_; have NB174_188 := n8_; have NB188_174 := n9_; have NB175_188 := n10_; have NB188_175 := n11_; clear n0_ n1_ n2_ n3_ n4_ n5_ n6_ n7_ n8_ n9_ n10_ n11_; clear hb hbox hg; obtain ⟨Ao69, co69, eo69⟩ := Kd.S_slice HO183.out; subst eo69; have hnb70 := NB188_174.out; have hnc70 := NB174_188.out; have hnb71 := NB188_175.out; have hnc71 := NB175_188.out; have hcz72_0 : w68.cell? ⟨gb188, 0, none⟩ = some (.slice none 0 0) := (blk_cell BK188.out 0).trans rfl; have hcz72_1 : w68.cell? ⟨gb188, 1, none⟩ = some (.int .i64 0) := (blk_cell BK188.out 1).trans rfl; have hcz72_2 : w68.cell? ⟨gb188, 2, none⟩ = some (.slice none 0 0) := (blk_cell BK188.out 2).trans rfl; have hfz72_0 := blk_frozen BK188.out 0; have hfz72_1 := blk_frozen BK188.out 1; have hfz72_2 := blk_frozen BK188.out 2; obtain ⟨Ao73, co73, eo73⟩ := Kd.R_slice HO187.out; subst eo73; have hcz74_0 : w68.cell? ⟨gb174, 0, none⟩ = some (.slice (some ad179) l0_0.length c0_0) := (blk_cell BK174.out 0).trans rfl; have hcz74_1 : w68.cell? ⟨gb174, 1, none⟩ = some (.int .i64 a0_1) := (blk_cell BK174.out 1).trans rfl; have hcz74_2 : w68.cell? ⟨gb174, 2, none⟩ = some (.slice A0_2 l0_2.length c0_2) := (blk_cell BK174.out 2).trans rfl; have hfz74_0 := blk_frozen BK174.out 0; have hfz74_1 := blk_frozen BK174.out 1; have hfz74_2 := blk_frozen BK174.out 2))
              have n0_ : Aside0 (Kd.S (Kd.slice 2 (Kd.int .i64)) 22 ((((w68.setCell ⟨gb188, 0, none⟩ (.slice Ao69 t181.length co69)).setCell ⟨gb188, 1, none⟩ (.int .i64 t184)).setCell ⟨gb188, 2, none⟩ (.slice Ao73 t185.length co73)).setCell ⟨gb188, 1, none⟩ (.int .i64 x7_3)) w.heap.size (fun k_ => some k_ ≠ (.slice Ao73 t185.length co73 : Value).ownBlock) (.slice Ao69 t181.length co69) t181) := ⟨by (with_reducible repeat (first | apply Kd.S_alloc | apply Kd.S_drewN | apply Kd.S_drew)); exact Kd.S_mono (Kd.S_far (p := ⟨gb188, 1, none⟩) (Kd.S_far (p := ⟨gb188, 2, none⟩) (Kd.S_far (p := ⟨gb188, 1, none⟩) (Kd.S_far (p := ⟨gb188, 0, none⟩) (Kd.S_types HO183.out BK188.out (by decide)) (fun _ hk => hk.2) (.slice Ao69 t181.length co69)) (fun _ hk => hk.2) (.int .i64 t184)) (fun _ hk => hk.2) (.slice Ao73 t185.length co73)) (fun _ hk => hk.2) (.int .i64 x7_3)) (fun _ hk => hk.1)⟩
              have n1_ : Aside0 (Kd.R (Kd.int .i64) 2 ((((w68.setCell ⟨gb188, 0, none⟩ (.slice Ao69 t181.length co69)).setCell ⟨gb188, 1, none⟩ (.int .i64 t184)).setCell ⟨gb188, 2, none⟩ (.slice Ao73 t185.length co73)).setCell ⟨gb188, 1, none⟩ (.int .i64 x7_3)) w.heap.size (fun _ => True) (.slice Ao73 t185.length co73) t185) := ⟨by (with_reducible repeat (first | apply Kd.R_alloc | apply Kd.R_drewN | apply Kd.R_drew)); exact Kd.R_mono (Kd.R_far (p := ⟨gb188, 1, none⟩) (Kd.R_far (p := ⟨gb188, 2, none⟩) (Kd.R_far (p := ⟨gb188, 1, none⟩) (Kd.R_far (p := ⟨gb188, 0, none⟩) (Kd.R_types HO187.out BK188.out (by decide)) (fun _ hk => hk.2) (.slice Ao69 t181.length co69)) (fun _ hk => hk.2) (.int .i64 t184)) (fun _ hk => hk.2) (.slice Ao73 t185.length co73)) (fun _ hk => hk.2) (.int .i64 x7_3)) (fun _ hk => trivial)⟩
              have n2_ : Aside0 (((((w68.setCell ⟨gb188, 0, none⟩ (.slice Ao69 t181.length co69)).setCell ⟨gb188, 1, none⟩ (.int .i64 t184)).setCell ⟨gb188, 2, none⟩ (.slice Ao73 t185.length co73)).setCell ⟨gb188, 1, none⟩ (.int .i64 x7_3)).heap[gb174]? = some (.cells #[.slice (some ad179) l0_0.length c0_0, .int .i64 a0_1, .slice A0_2 l0_2.length c0_2] 53 (0, 0))) := ⟨by (with_reducible repeat (first | refine blk_drewN ?_ _ | refine blk_drew ?_ | refine blk_alloc ?_ _)); refine blk_far ?_ NB174_188.out _; (with_reducible repeat (first | refine blk_drewN ?_ _ | refine blk_drew ?_ | refine blk_alloc ?_ _)); refine blk_far ?_ NB174_188.out _; (with_reducible repeat (first | refine blk_drewN ?_ _ | refine blk_drew ?_ | refine blk_alloc ?_ _)); refine blk_far ?_ NB174_188.out _; (with_reducible repeat (first | refine blk_drewN ?_ _ | refine blk_drew ?_ | refine blk_alloc ?_ _)); refine blk_far ?_ NB174_188.out _; (with_reducible repeat (first | refine blk_drewN ?_ _ | refine blk_drew ?_ | refine blk_alloc ?_ _)); exact BK174.out⟩
              have n3_ : Aside0 (((((w68.setCell ⟨gb188, 0, none⟩ (.slice Ao69 t181.length co69)).setCell ⟨gb188, 1, none⟩ (.int .i64 t184)).setCell ⟨gb188, 2, none⟩ (.slice Ao73 t185.length co73)).setCell ⟨gb188, 1, none⟩ (.int .i64 x7_3)).heap[gb175]? = some (.cells #[.slice none 0 0, .int .i64 x176001_3, .slice none 0 0, .slice none 0 0, .int .i64 x176004_3] 63 (0, 0))) := ⟨by (with_reducible repeat (first | refine blk_drewN ?_ _ | refine blk_drew ?_ | refine blk_alloc ?_ _)); refine blk_far ?_ NB175_188.out _; (with_reducible repeat (first | refine blk_drewN ?_ _ | refine blk_drew ?_ | refine blk_alloc ?_ _)); refine blk_far ?_ NB175_188.out _; (with_reducible repeat (first | refine blk_drewN ?_ _ | refine blk_drew ?_ | refine blk_alloc ?_ _)); refine blk_far ?_ NB175_188.out _; (with_reducible repeat (first | refine blk_drewN ?_ _ | refine blk_drew ?_ | refine blk_alloc ?_ _)); refine blk_far ?_ NB175_188.out _; (with_reducible repeat (first | refine blk_drewN ?_ _ | refine blk_drew ?_ | refine blk_alloc ?_ _)); exact BK175.out⟩
              have n4_ : Aside0 (((((w68.setCell ⟨gb188, 0, none⟩ (.slice Ao69 t181.length co69)).setCell ⟨gb188, 1, none⟩ (.int .i64 t184)).setCell ⟨gb188, 2, none⟩ (.slice Ao73 t185.length co73)).setCell ⟨gb188, 1, none⟩ (.int .i64 x7_3)).heap[gb188]? = some (.cells #[.slice Ao69 t181.length co69, .int .i64 x7_3, .slice Ao73 t185.length co73] 53 (0, 0))) := ⟨by (with_reducible repeat (first | refine blk_drewN ?_ _ | refine blk_drew ?_ | refine blk_alloc ?_ _)); refine blk_put (cs := #[.slice Ao69 t181.length co69, .int .i64 t184, .slice Ao73 t185.length co73]) ?_ 1 _ rfl; (with_reducible repeat (first | refine blk_drewN ?_ _ | refine blk_drew ?_ | refine blk_alloc ?_ _)); refine blk_put (cs := #[.slice Ao69 t181.length co69, .int .i64 t184, .slice none 0 0]) ?_ 2 _ rfl; (with_reducible repeat (first | refine blk_drewN ?_ _ | refine blk_drew ?_ | refine blk_alloc ?_ _)); refine blk_put (cs := #[.slice Ao69 t181.length co69, .int .i64 0, .slice none 0 0]) ?_ 1 _ rfl; (with_reducible repeat (first | refine blk_drewN ?_ _ | refine blk_drew ?_ | refine blk_alloc ?_ _)); refine blk_put (cs := #[.slice none 0 0, .int .i64 0, .slice none 0 0]) ?_ 0 _ rfl; (with_reducible repeat (first | refine blk_drewN ?_ _ | refine blk_drew ?_ | refine blk_alloc ?_ _)); exact BK188.out⟩
              have n5_ : Aside0 (Below w.heap.size w ((((w68.setCell ⟨gb188, 0, none⟩ (.slice Ao69 t181.length co69)).setCell ⟨gb188, 1, none⟩ (.int .i64 t184)).setCell ⟨gb188, 2, none⟩ (.slice Ao73 t185.length co73)).setCell ⟨gb188, 1, none⟩ (.int .i64 x7_3))) := ⟨by repeat (first | (with_reducible first | exact HB.out | apply below_alloc | apply pw_below_drewN | apply below_drew1 | refine below_set ?_ GE174.out | refine below_set ?_ GE175.out | refine below_set ?_ GE188.out) | exact HB.out)⟩
              (try clear HO183)
              (try clear HO187)
              (try clear BK174)
              (try clear BK175)
              (try clear BK188)
              (try clear HB)
              generalize ((((w68.setCell ⟨gb188, 0, none⟩ (.slice Ao69 t181.length co69)).setCell ⟨gb188, 1, none⟩ (.int .i64 t184)).setCell ⟨gb188, 2, none⟩ (.slice Ao73 t185.length co73)).setCell ⟨gb188, 1, none⟩ (.int .i64 x7_3)) = w75 at n0_ n1_ n2_ n3_ n4_ n5_ ⊢
              have HO183 := n0_
              have HO187 := n1_
              have BK174 := n2_
              have BK175 := n3_
              have BK188 := n4_
              have HB := n5_
              clear n0_ n1_ n2_ n3_ n4_ n5_
              have n0_ := am (Kd.S_drew HO183.out)
              have n1_ := am (Kd.R_drew HO187.out)
              have n2_ := am (blk_drew BK174.out)
              have n3_ := am (blk_drew BK175.out)
              have n4_ := am (blk_drew BK188.out)
              have n5_ := am (below_drew1 HB.out)
              clear HO183
              clear HO187
              clear BK174
              clear BK175
              clear BK188
              clear HB
              have HO183 := n0_
              have HO187 := n1_
              have BK174 := n2_
              have BK175 := n3_
              have BK188 := n4_
              have HB := n5_
              clear n0_ n1_ n2_ n3_ n4_ n5_
              have p196 : 0 ≤ (x7_3 : Int) := of_decide_eq_true (by first | (with_reducible assumption) | assumption)
              have q196 : x7_3 < (l0_0.length : Int) := of_decide_eq_true (by first | (with_reducible assumption) | assumption)
              obtain ⟨ad196, A196_0, c196_0, e196, hx196_0, hl196_0, hi196_0⟩ := at_L1 HR0_0.out x7_3 p196 q196
              have hw196_0 := hx196_0
              obtain rfl : ad179 = ad196 := (by injection e196)
              have hxw196_0 := hx196_0
              replace hx196_0 := (HB.out.cell (World.block_lt_of_cell? w _ hx196_0)).trans hx196_0
              have HR196_0 := am hi196_0
              have HC196_0 := am hl196_0
              clear hi196_0 hl196_0
              replace p196 := eq_true p196
              replace q196 := eq_true q196
              refine start_ (n := 9) (S := fun w' => w'.cell? ⟨gb188, 0, none⟩ = some (.slice Ao69 t181.length co69) ∧ w'.cell? ⟨gb188, 1, none⟩ = some (.int .i64 x7_3) ∧ w'.cell? ⟨gb188, 2, none⟩ = some (.slice Ao73 t185.length co73) ∧ w'.cell? ⟨gb174, 0, none⟩ = some (.slice (some ad179) l0_0.length c0_0) ∧ w'.cell? ⟨gb174, 1, none⟩ = some (.int .i64 a0_1) ∧ w'.cell? ⟨gb174, 2, none⟩ = some (.slice A0_2 l0_2.length c0_2) ∧ w'.cell? (ad179.add (x7_3).toNat) = some (.slice A196_0 (rd_L1 l0_0 x7_3).length c196_0)) (ds := []) #[false, false, false, false, false, false, false, false, false] (by kernel_rfl) rfl rfl ⟨(blk_cell BK188.out 0).trans rfl, (blk_cell BK188.out 1).trans rfl, (blk_cell BK188.out 2).trans rfl, (blk_cell BK174.out 0).trans rfl, (blk_cell BK174.out 1).trans rfl, (blk_cell BK174.out 2).trans rfl, ((HB.out.cell (World.block_lt_of_cell? w _ hw196_0)).trans hw196_0)⟩ (fun hHeld => ?_); refine with_tabW spec_HistUp.tab13 spec_HistUp.bits13 (fun HT_ HW_ => ?_)
              generalize w75.drew = w76 at HO183 HO187 BK174 BK175 BK188 HB HR196_0 hx196_0 hHeld ⊢
              refine pure_ (i := 1) (N := some 60) (v := ?_) (a' := ?_) #[false, true, false, false, false, false, false, false, false] rfl rfl (any_of HT_.out (by kernel_rfl)) (fun _ _ _ h => h) (Or.inl ⟨by rfl, ?_⟩) ?_ ?_
              rotate_left
              ·intro w'
               go_simp
               with_reducible rfl
              rotate_left
              ·simp only [Act.put, List.setIfInBounds_toArray, List.set_cons_zero, List.set_cons_succ, i64_w, i32_w]
               rfl
              refine pure_ (i := 3) (N := some 62) (v := ?_) (a' := ?_) #[false, true, false, true, false, false, false, false, false] rfl rfl (any_of HT_.out (by kernel_rfl)) (fun _ _ _ h => h) (Or.inl ⟨by rfl, ?_⟩) ?_ ?_
              rotate_left
              ·intro w'
               go_simp
               with_reducible rfl
              rotate_left
              ·simp only [Act.put, List.setIfInBounds_toArray, List.set_cons_zero, List.set_cons_succ, i64_w, i32_w]
               rfl
              refine take_ (i := 0) (N := some 59) (v := ?_) (a' := ?_) #[true, true, false, true, false, false, false, false, false] rfl rfl (take_ofW HT_.out HW_.out (by kernel_rfl)) (fun _ _ _ h => h) (Or.inl ⟨by rfl, ?_⟩) hHeld ?_ ?_
              rotate_left
              ·rintro w' ⟨s0, s1, s2, s3, s4, s5, s6⟩
               go_simp
               with_reducible rfl
              rotate_left
              ·simp only [Act.put, List.setIfInBounds_toArray, List.set_cons_zero, List.set_cons_succ, i64_w, i32_w]
               rfl
              refine take_ (i := 2) (N := some 61) (v := ?_) (a' := ?_) #[true, true, true, true, false, false, false, false, false] rfl rfl (take_ofW HT_.out HW_.out (by kernel_rfl)) (fun _ _ _ h => h) (Or.inl ⟨by rfl, ?_⟩) hHeld ?_ ?_
              rotate_left
              ·rintro w' ⟨s0, s1, s2, s3, s4, s5, s6⟩
               go_simp
               with_reducible rfl
              rotate_left
              ·simp only [Act.put, List.setIfInBounds_toArray, List.set_cons_zero, List.set_cons_succ, i64_w, i32_w]
               rfl
              refine pure_ (i := 4) (N := some 63) (v := ?_) (a' := ?_) #[true, true, true, true, true, false, false, false, false] rfl rfl (any_of HT_.out (by kernel_rfl)) (fun _ _ _ h => h) (Or.inl ⟨by rfl, ?_⟩) ?_ ?_
              rotate_left
              ·intro w'
               go_simp
               with_reducible rfl
              rotate_left
              ·simp only [Act.put, List.setIfInBounds_toArray, List.set_cons_zero, List.set_cons_succ, i64_w, i32_w]
               rfl
              refine take_ (i := 5) (N := some 64) (v := ?_) (a' := ?_) #[true, true, true, true, true, true, false, false, false] rfl rfl (take_ofW HT_.out HW_.out (by kernel_rfl)) (fun _ _ _ h => h) (Or.inl ⟨by rfl, ?_⟩) hHeld ?_ ?_
              rotate_left
              ·rintro w' ⟨s0, s1, s2, s3, s4, s5, s6⟩
               go_simp
               with_reducible rfl
              rotate_left
              ·simp only [Act.put, List.setIfInBounds_toArray, List.set_cons_zero, List.set_cons_succ, i64_w, i32_w]
               rfl
              refine one_ (i := 6) (N := some 65) #[true, true, true, true, true, true, true, false, false] rfl rfl (one_of HT_.out (by kernel_rfl)) (by decide) (fun K hK => ?_)
              refine goes_ Try.func76 (by kernel_rfl) rfl #[.slice A196_0 (rd_L1 l0_0 x7_3).length c196_0] (by rfl) rfl rfl (by (try simp only [List.map_toArray, List.map_cons, List.map_nil]); first | done | rfl | (simp only [List.length_drop, List.length_take]; rfl)) ?_
              with_reducible refine (spec_l01Copy.calls _ _ (rd_L1 l0_0 x7_3) t197 _ ?side1 ?side2 A63.out).mono ?_
              (case side1 => repeat (first | exact (Kd.C_below HR196_0.out HB.out) | (with_reducible refine Kd.C_alloc ?_ _) | (with_reducible refine Kd.C_drewN ?_ _) | (with_reducible refine Kd.C_drew ?_)))
              (case side2 => exact HC196_0.out)
              rintro e w77 ⟨v198, rfl, ho0, hb⟩
              refine ⟨_, rfl, ?_⟩
              have n0_ := am (Kd.S_elder' (by (with_reducible repeat (first | apply Kd.S_alloc | apply Kd.S_drewN | apply Kd.S_drew)); exact HO183.out) (Kd.R_base ho0) hb)
              have n1_ := am (Kd.R_elder' (by (with_reducible repeat (first | apply Kd.R_alloc | apply Kd.R_drewN | apply Kd.R_drew)); exact HO187.out) (Kd.R_base ho0) hb)
              have n2_ := am (Kd.R_lower (Kd.R_new' ho0 (Kd.R_lt (by (with_reducible repeat (first | apply Kd.R_alloc | apply Kd.R_drewN | apply Kd.R_drew)); exact HO187.out))) (below_size (by repeat (first | (with_reducible first | exact HB.out | apply below_alloc | apply pw_below_drewN | apply below_drew1 | refine below_set ?_ GE174.out | refine below_set ?_ GE175.out | refine below_set ?_ GE188.out) | exact HB.out))))
              have n3_ := am (blk_below (g := gb174) (o := .cells #[.slice (some ad179) l0_0.length c0_0, .int .i64 a0_1, .slice A0_2 l0_2.length c0_2] 53 (0, 0)) (pk BK174.out) hb)
              have n4_ := am (blk_below (g := gb175) (o := .cells #[.slice none 0 0, .int .i64 x176001_3, .slice none 0 0, .slice none 0 0, .int .i64 x176004_3] 63 (0, 0)) (pk BK175.out) hb)
              have n5_ := am (blk_below (g := gb188) (o := .cells #[.slice Ao69 t181.length co69, .int .i64 x7_3, .slice Ao73 t185.length co73] 53 (0, 0)) (pk BK188.out) hb)
              have n6_ := am (below_step (by repeat (first | (with_reducible first | exact HB.out | apply below_alloc | apply pw_below_drewN | apply below_drew1 | refine below_set ?_ GE174.out | refine below_set ?_ GE175.out | refine below_set ?_ GE188.out) | exact HB.out)) hb)
              clear HO183
              clear HO187
              clear BK174
              clear BK175
              clear BK188
              clear HB
              have HO183 := n0_
              have HO187 := n1_
              have HO199 := n2_
              have BK174 := n3_
              have BK175 := n4_
              have BK188 := n5_
              have HB := n6_
              clear n0_ n1_ n2_ n3_ n4_ n5_ n6_
              (try clear hb)
              (try clear hb2)
              (try clear hk)
              (try clear hi)
              (try clear ho0)
              obtain ⟨Ao78, co78, eo78⟩ := Kd.R_slice HO199.out
              (first | subst eo78 | (injection eo78 with f1_ f2_ f3_; have f4_ := f1_.symm; have f5_ := f3_.symm; clear f1_ f2_ f3_; subst f4_; subst f5_))
              refine hK.out _ _ ⟨(blk_cell BK188.out 0).trans rfl, (blk_cell BK188.out 1).trans rfl, (blk_cell BK188.out 2).trans rfl, (blk_cell BK174.out 0).trans rfl, (blk_cell BK174.out 1).trans rfl, (blk_cell BK174.out 2).trans rfl, ((HB.out.cell (World.block_lt_of_cell? w _ hw196_0)).trans hw196_0)⟩ (fun hHeld => ?_)
              clear hK K
              refine norm_ (a' := ?_) ?_ ?_
              rotate_left
              ·show Act.put _ (some 65) _ = _
               simp only [Act.put, List.setIfInBounds_toArray, List.set_cons_zero, List.set_cons_succ, i64_w, i32_w]
               rfl
              refine pure_ (i := 7) (N := some 66) (v := ?_) (a' := ?_) #[true, true, true, true, true, true, true, true, false] rfl rfl (any_of HT_.out (by kernel_rfl)) (fun _ _ _ h => h) (Or.inl ⟨by rfl, ?_⟩) ?_ ?_
              rotate_left
              ·intro w'
               go_simp
               with_reducible rfl
              rotate_left
              ·simp only [Act.put, List.setIfInBounds_toArray, List.set_cons_zero, List.set_cons_succ, i64_w, i32_w]
               rfl
              refine one_ (i := 8) (N := none) #[true, true, true, true, true, true, true, true, true] rfl rfl (one_of HT_.out (by kernel_rfl)) (by decide) (fun K hK => ?_)
              have hs79 : w77.cell? ⟨gb175, 0, none⟩ = some (.slice none 0 0) := (blk_cell BK175.out 0).trans rfl
              have hfs79 := blk_frozen BK175.out 0
              have hns79_0 := NB174_175.out
              have hns79_2 := NB188_175.out
              have hms79_0 := NB175_174.out
              have hms79_2 := NB175_188.out
              have hs80 : w77.cell? ⟨gb175, 1, none⟩ = some (.int .i64 x176001_3) := (blk_cell BK175.out 1).trans rfl
              have hfs80 := blk_frozen BK175.out 1
              have hns80_0 := NB174_175.out
              have hns80_2 := NB188_175.out
              have hms80_0 := NB175_174.out
              have hms80_2 := NB175_188.out
              have hs81 : w77.cell? ⟨gb175, 2, none⟩ = some (.slice none 0 0) := (blk_cell BK175.out 2).trans rfl
              have hfs81 := blk_frozen BK175.out 2
              have hns81_0 := NB174_175.out
              have hns81_2 := NB188_175.out
              have hms81_0 := NB175_174.out
              have hms81_2 := NB175_188.out
              have hs82 : w77.cell? ⟨gb175, 3, none⟩ = some (.slice none 0 0) := (blk_cell BK175.out 3).trans rfl
              have hfs82 := blk_frozen BK175.out 3
              have hns82_0 := NB174_175.out
              have hns82_2 := NB188_175.out
              have hms82_0 := NB175_174.out
              have hms82_2 := NB175_188.out
              have hs83 : w77.cell? ⟨gb175, 4, none⟩ = some (.int .i64 x176004_3) := (blk_cell BK175.out 4).trans rfl
              have hfs83 := blk_frozen BK175.out 4
              have hns83_0 := NB174_175.out
              have hns83_2 := NB188_175.out
              have hms83_0 := NB175_174.out
              have hms83_2 := NB175_188.out
              refine skip_ (w1 := ?_) (by rfl) rfl ?_ ?_
              rotate_left
              ·go_simp
               rfl
              refine hK.out _ _ ⟨((cell_far (p := ⟨gb175, _, none⟩) NB188_175.out _).trans (((cell_far (p := ⟨gb175, _, none⟩) NB188_175.out _).trans (((cell_far (p := ⟨gb175, _, none⟩) NB188_175.out _).trans (((cell_far (p := ⟨gb175, _, none⟩) NB188_175.out _).trans (((cell_far (p := ⟨gb175, _, none⟩) NB188_175.out _).trans (hHeld.1)))))))))), ((cell_far (p := ⟨gb175, _, none⟩) NB188_175.out _).trans (((cell_far (p := ⟨gb175, _, none⟩) NB188_175.out _).trans (((cell_far (p := ⟨gb175, _, none⟩) NB188_175.out _).trans (((cell_far (p := ⟨gb175, _, none⟩) NB188_175.out _).trans (((cell_far (p := ⟨gb175, _, none⟩) NB188_175.out _).trans (hHeld.2.1)))))))))), ((cell_far (p := ⟨gb175, _, none⟩) NB188_175.out _).trans (((cell_far (p := ⟨gb175, _, none⟩) NB188_175.out _).trans (((cell_far (p := ⟨gb175, _, none⟩) NB188_175.out _).trans (((cell_far (p := ⟨gb175, _, none⟩) NB188_175.out _).trans (((cell_far (p := ⟨gb175, _, none⟩) NB188_175.out _).trans (hHeld.2.2.1)))))))))), ((cell_far (p := ⟨gb175, _, none⟩) NB174_175.out _).trans (((cell_far (p := ⟨gb175, _, none⟩) NB174_175.out _).trans (((cell_far (p := ⟨gb175, _, none⟩) NB174_175.out _).trans (((cell_far (p := ⟨gb175, _, none⟩) NB174_175.out _).trans (((cell_far (p := ⟨gb175, _, none⟩) NB174_175.out _).trans (hHeld.2.2.2.1)))))))))), ((cell_far (p := ⟨gb175, _, none⟩) NB174_175.out _).trans (((cell_far (p := ⟨gb175, _, none⟩) NB174_175.out _).trans (((cell_far (p := ⟨gb175, _, none⟩) NB174_175.out _).trans (((cell_far (p := ⟨gb175, _, none⟩) NB174_175.out _).trans (((cell_far (p := ⟨gb175, _, none⟩) NB174_175.out _).trans (hHeld.2.2.2.2.1)))))))))), ((cell_far (p := ⟨gb175, _, none⟩) NB174_175.out _).trans (((cell_far (p := ⟨gb175, _, none⟩) NB174_175.out _).trans (((cell_far (p := ⟨gb175, _, none⟩) NB174_175.out _).trans (((cell_far (p := ⟨gb175, _, none⟩) NB174_175.out _).trans (((cell_far (p := ⟨gb175, _, none⟩) NB174_175.out _).trans (hHeld.2.2.2.2.2.1)))))))))), ((cell_far (p := ⟨gb175, _, none⟩) (by first | exact Nat.ne_of_lt (Nat.lt_of_lt_of_le (by have := World.block_lt_of_cell? _ _ hw196_0; first | rwa [add_block] at this | exact this) GW175.out) | (rw [add_block]; exact Nat.ne_of_lt (Nat.lt_of_lt_of_le (by have := World.block_lt_of_cell? _ _ hw196_0; first | rwa [add_block] at this | exact this) GW175.out)) | (show (Addr.add _ _).block ≠ _; rw [add_block]; exact Nat.ne_of_lt (Nat.lt_of_lt_of_le (by have := World.block_lt_of_cell? _ _ hw196_0; first | rwa [add_block] at this | exact this) GW175.out)) | (dsimp only; exact Nat.ne_of_lt (Nat.lt_of_lt_of_le (by have := World.block_lt_of_cell? _ _ hw196_0; first | rwa [add_block] at this | exact this) GW175.out))) _).trans (((cell_far (p := ⟨gb175, _, none⟩) (by first | exact Nat.ne_of_lt (Nat.lt_of_lt_of_le (by have := World.block_lt_of_cell? _ _ hw196_0; first | rwa [add_block] at this | exact this) GW175.out) | (rw [add_block]; exact Nat.ne_of_lt (Nat.lt_of_lt_of_le (by have := World.block_lt_of_cell? _ _ hw196_0; first | rwa [add_block] at this | exact this) GW175.out)) | (show (Addr.add _ _).block ≠ _; rw [add_block]; exact Nat.ne_of_lt (Nat.lt_of_lt_of_le (by have := World.block_lt_of_cell? _ _ hw196_0; first | rwa [add_block] at this | exact this) GW175.out)) | (dsimp only; exact Nat.ne_of_lt (Nat.lt_of_lt_of_le (by have := World.block_lt_of_cell? _ _ hw196_0; first | rwa [add_block] at this | exact this) GW175.out))) _).trans (((cell_far (p := ⟨gb175, _, none⟩) (by first | exact Nat.ne_of_lt (Nat.lt_of_lt_of_le (by have := World.block_lt_of_cell? _ _ hw196_0; first | rwa [add_block] at this | exact this) GW175.out) | (rw [add_block]; exact Nat.ne_of_lt (Nat.lt_of_lt_of_le (by have := World.block_lt_of_cell? _ _ hw196_0; first | rwa [add_block] at this | exact this) GW175.out)) | (show (Addr.add _ _).block ≠ _; rw [add_block]; exact Nat.ne_of_lt (Nat.lt_of_lt_of_le (by have := World.block_lt_of_cell? _ _ hw196_0; first | rwa [add_block] at this | exact this) GW175.out)) | (dsimp only; exact Nat.ne_of_lt (Nat.lt_of_lt_of_le (by have := World.block_lt_of_cell? _ _ hw196_0; first | rwa [add_block] at this | exact this) GW175.out))) _).trans (((cell_far (p := ⟨gb175, _, none⟩) (by first | exact Nat.ne_of_lt (Nat.lt_of_lt_of_le (by have := World.block_lt_of_cell? _ _ hw196_0; first | rwa [add_block] at this | exact this) GW175.out) | (rw [add_block]; exact Nat.ne_of_lt (Nat.lt_of_lt_of_le (by have := World.block_lt_of_cell? _ _ hw196_0; first | rwa [add_block] at this | exact this) GW175.out)) | (show (Addr.add _ _).block ≠ _; rw [add_block]; exact Nat.ne_of_lt (Nat.lt_of_lt_of_le (by have := World.block_lt_of_cell? _ _ hw196_0; first | rwa [add_block] at this | exact this) GW175.out)) | (dsimp only; exact Nat.ne_of_lt (Nat.lt_of_lt_of_le (by have := World.block_lt_of_cell? _ _ hw196_0; first | rwa [add_block] at this | exact this) GW175.out))) _).trans (((cell_far (p := ⟨gb175, _, none⟩) (by first | exact Nat.ne_of_lt (Nat.lt_of_lt_of_le (by have := World.block_lt_of_cell? _ _ hw196_0; first | rwa [add_block] at this | exact this) GW175.out) | (rw [add_block]; exact Nat.ne_of_lt (Nat.lt_of_lt_of_le (by have := World.block_lt_of_cell? _ _ hw196_0; first | rwa [add_block] at this | exact this) GW175.out)) | (show (Addr.add _ _).block ≠ _; rw [add_block]; exact Nat.ne_of_lt (Nat.lt_of_lt_of_le (by have := World.block_lt_of_cell? _ _ hw196_0; first | rwa [add_block] at this | exact this) GW175.out)) | (dsimp only; exact Nat.ne_of_lt (Nat.lt_of_lt_of_le (by have := World.block_lt_of_cell? _ _ hw196_0; first | rwa [add_block] at this | exact this) GW175.out))) _).trans (hHeld.2.2.2.2.2.2))))))))))⟩ (fun hHeld => ?_)
              clear hK K
              refine done_ (done_of HT_.out (by kernel_rfl)) ?_
              try go_wp2
              refine bodyPost_ret (results_cell_row rfl _ _ gb175 63 #[.slice Ao69 t181.length co69, .int .i64 x7_3, .slice Ao73 t185.length co73, .slice Ao78 t197.length co78, .int .i64 0] (0, 0) _ rfl (by (with_reducible repeat (first | refine blk_drewN ?_ _ | refine blk_drew ?_ | refine blk_alloc ?_ _)); refine blk_put (cs := #[.slice Ao69 t181.length co69, .int .i64 x7_3, .slice Ao73 t185.length co73, .slice Ao78 t197.length co78, .int .i64 x176004_3]) ?_ 4 _ rfl; (with_reducible repeat (first | refine blk_drewN ?_ _ | refine blk_drew ?_ | refine blk_alloc ?_ _)); refine blk_put (cs := #[.slice Ao69 t181.length co69, .int .i64 x7_3, .slice Ao73 t185.length co73, .slice none 0 0, .int .i64 x176004_3]) ?_ 3 _ rfl; (with_reducible repeat (first | refine blk_drewN ?_ _ | refine blk_drew ?_ | refine blk_alloc ?_ _)); refine blk_put (cs := #[.slice Ao69 t181.length co69, .int .i64 x7_3, .slice none 0 0, .slice none 0 0, .int .i64 x176004_3]) ?_ 2 _ rfl; (with_reducible repeat (first | refine blk_drewN ?_ _ | refine blk_drew ?_ | refine blk_alloc ?_ _)); refine blk_put (cs := #[.slice Ao69 t181.length co69, .int .i64 x176001_3, .slice none 0 0, .slice none 0 0, .int .i64 x176004_3]) ?_ 1 _ rfl; (with_reducible repeat (first | refine blk_drewN ?_ _ | refine blk_drew ?_ | refine blk_alloc ?_ _)); refine blk_put (cs := #[.slice none 0 0, .int .i64 x176001_3, .slice none 0 0, .slice none 0 0, .int .i64 x176004_3]) ?_ 0 _ rfl; (with_reducible repeat (first | refine blk_drewN ?_ _ | refine blk_drew ?_ | refine blk_alloc ?_ _)); exact BK175.out) Try.underlying63 rfl (by kernel_rfl)) rfl ?_
              exact ⟨_, _, _, by first | rfl | (simp [errW_none, errW_some] <;> rfl) | (simp [*, errW_none, errW_some] <;> rfl), by (with_reducible repeat (first | apply Kd.S_alloc | apply Kd.S_drewN | apply Kd.S_drew)); exact Kd.S_mono (Kd.S_far (p := ⟨gb175, 4, none⟩) (Kd.S_far (p := ⟨gb175, 3, none⟩) (Kd.S_far (p := ⟨gb175, 2, none⟩) (Kd.S_far (p := ⟨gb175, 1, none⟩) (Kd.S_far (p := ⟨gb175, 0, none⟩) (Kd.S_types HO183.out BK175.out (by decide)) (fun _ hk => hk.2) (.slice Ao69 t181.length co69)) (fun _ hk => hk.2) (.int .i64 x7_3)) (fun _ hk => hk.2) (.slice Ao73 t185.length co73)) (fun _ hk => hk.2) (.slice Ao78 t197.length co78)) (fun _ hk => hk.2) (.int .i64 0)) (fun _ hk => ⟨hk.1.1, hk.1.2⟩), by (with_reducible repeat (first | apply Kd.R_alloc | apply Kd.R_drewN | apply Kd.R_drew)); exact Kd.R_mono (Kd.R_far (p := ⟨gb175, 4, none⟩) (Kd.R_far (p := ⟨gb175, 3, none⟩) (Kd.R_far (p := ⟨gb175, 2, none⟩) (Kd.R_far (p := ⟨gb175, 1, none⟩) (Kd.R_far (p := ⟨gb175, 0, none⟩) (Kd.R_types HO187.out BK175.out (by decide)) (fun _ hk => hk.2) (.slice Ao69 t181.length co69)) (fun _ hk => hk.2) (.int .i64 x7_3)) (fun _ hk => hk.2) (.slice Ao73 t185.length co73)) (fun _ hk => hk.2) (.slice Ao78 t197.length co78)) (fun _ hk => hk.2) (.int .i64 0)) (fun _ hk => hk.1.2), by (with_reducible repeat (first | apply Kd.R_alloc | apply Kd.R_drewN | apply Kd.R_drew)); exact Kd.R_mono (Kd.R_far (p := ⟨gb175, 4, none⟩) (Kd.R_far (p := ⟨gb175, 3, none⟩) (Kd.R_far (p := ⟨gb175, 2, none⟩) (Kd.R_far (p := ⟨gb175, 1, none⟩) (Kd.R_far (p := ⟨gb175, 0, none⟩) (Kd.R_types HO199.out BK175.out (by decide)) (fun _ hk => hk.2) (.slice Ao69 t181.length co69)) (fun _ hk => hk.2) (.int .i64 x7_3)) (fun _ hk => hk.2) (.slice Ao73 t185.length co73)) (fun _ hk => hk.2) (.slice Ao78 t197.length co78)) (fun _ hk => hk.2) (.int .i64 0)) (fun _ hk => hk.1.2), by repeat (first | (with_reducible first | exact HB.out | apply below_alloc | apply pw_below_drewN | apply below_drew1 | refine below_set ?_ GE174.out | refine below_set ?_ GE175.out | refine below_set ?_ GE188.out) | exact HB.out)⟩
            ·replace c35 := Bool.eq_false_iff.mpr c35
             subst c35
             have H1 : (spec_HistUp.l0 k3 l1 l2 (wrap64 (x7_3 - 1)) l0_0 a0_1 l0_2) = some (r1, r2, r3, r4, r5) := by rw [if_neg (show ¬ (false = true) by decide)] at H; exact H
             clear H
             have H := H1
             clear H1
             have H' := Aside0.mk H
             clear H
             have hnb84 := NB174_175.out
             have hnc84 := NB175_174.out
             have hcz85_0 : wr.cell? ⟨gb174, 0, none⟩ = some (.slice A0_0 l0_0.length c0_0) := (blk_cell BK174.out 0).trans rfl
             have hcz85_1 : wr.cell? ⟨gb174, 1, none⟩ = some (.int .i64 a0_1) := (blk_cell BK174.out 1).trans rfl
             have hcz85_2 : wr.cell? ⟨gb174, 2, none⟩ = some (.slice A0_2 l0_2.length c0_2) := (blk_cell BK174.out 2).trans rfl
             have hfz85_0 := blk_frozen BK174.out 0
             have hfz85_1 := blk_frozen BK174.out 1
             have hfz85_2 := blk_frozen BK174.out 2
             have p179 : 0 ≤ (x7_3 : Int) := of_decide_eq_true (by first | (with_reducible assumption) | assumption)
             have q179 : x7_3 < (l0_0.length : Int) := of_decide_eq_true (by first | (with_reducible assumption) | assumption)
             obtain ⟨ad179, A179_0, c179_0, e179, hx179_0, hl179_0, hi179_0⟩ := at_L1 HR0_0.out x7_3 p179 q179
             cases e179
             have hxw179_0 := hx179_0
             replace hx179_0 := (HB.out.cell (World.block_lt_of_cell? w _ hx179_0)).trans hx179_0
             have HR179_0 := am hi179_0
             have HC179_0 := am hl179_0
             clear hi179_0 hl179_0
             replace p179 := eq_true p179
             replace q179 := eq_true q179
             go_wp2_with (first | ((with_reducible refine gate_callee (f := 83) rfl ?_); refine gl (some 45) Try.func83 #[.slice A179_0 (rd_L1 l0_0 x7_3).length c179_0, .slice A2 l2.length c2] ?_; (with_reducible refine (spec_l06Begins.calls k3 _ _ (rd_L1 l0_0 x7_3) _ _ l2 false _ ?side1 ?side2 ?side3 ?side4 A34.out).mono ?_); (case side1 => repeat (first | exact (Kd.C_below HR179_0.out HB.out) | (with_reducible refine Kd.C_alloc ?_ _) | (with_reducible refine Kd.C_drewN ?_ _) | (with_reducible refine Kd.C_drew ?_))); (case side2 => exact HC179_0.out); (case side3 => repeat (first | exact (Kd.C_below HR2.out HB.out) | (with_reducible refine Kd.C_alloc ?_ _) | (with_reducible refine Kd.C_drewN ?_ _) | (with_reducible refine Kd.C_drew ?_))); (case side4 => exact HC2.out); rintro e w' ⟨rfl, ⟨nd, rfl⟩⟩; refine ⟨_, rfl, ?_⟩))
             go_roundg k3
             case measure => have := HJ3.out; have := HJ10.out; have := HK3.out; omega
             case rel => exact ⟨(wrap64 (x7_3 - 1)), (x176001_3), (x176004_3), (by first | rfl | (simp; done) | (simp [*]; done)), H', ⟨by have := HJ3.out; have := HJ10.out; have := HK3.out; omega⟩, ⟨by (with_reducible repeat (first | refine blk_drewN ?_ _ | refine blk_drew ?_ | refine blk_alloc ?_ _)); exact BK174.out⟩, ⟨by (with_reducible repeat (first | refine blk_drewN ?_ _ | refine blk_drew ?_ | refine blk_alloc ?_ _)); exact BK175.out⟩, ⟨by repeat (first | (with_reducible first | exact HB.out | apply below_alloc | apply pw_below_drewN | apply below_drew1 | refine below_set ?_ GE174.out | refine below_set ?_ GE175.out) | exact HB.out)⟩⟩
           ·rw [if_neg c33] at H
            exact absurd H (by simp)
          ·rw [if_neg c32] at H
           exact absurd H (by simp)
         ·rw [if_neg c31] at H
          have c31b0 : decide (0 ≤ x7_3) = false := decide_eq_false c31
          clear c31
          simp only [Option.some.injEq, Prod.mk.injEq] at H
          obtain ⟨rfl, rfl, rfl, rfl, rfl⟩ := H
          have hnb86 := NB175_174.out
          have hnc86 := NB174_175.out
          have hcz87_0 : wr.cell? ⟨gb175, 0, none⟩ = some (.slice none 0 0) := (blk_cell BK175.out 0).trans rfl
          have hcz87_1 : wr.cell? ⟨gb175, 1, none⟩ = some (.int .i64 x176001_3) := (blk_cell BK175.out 1).trans rfl
          have hcz87_2 : wr.cell? ⟨gb175, 2, none⟩ = some (.slice none 0 0) := (blk_cell BK175.out 2).trans rfl
          have hcz87_3 : wr.cell? ⟨gb175, 3, none⟩ = some (.slice none 0 0) := (blk_cell BK175.out 3).trans rfl
          have hcz87_4 : wr.cell? ⟨gb175, 4, none⟩ = some (.int .i64 x176004_3) := (blk_cell BK175.out 4).trans rfl
          have hfz87_0 := blk_frozen BK175.out 0
          have hfz87_1 := blk_frozen BK175.out 1
          have hfz87_2 := blk_frozen BK175.out 2
          have hfz87_3 := blk_frozen BK175.out 3
          have hfz87_4 := blk_frozen BK175.out 4
          go_wp2
          refine bodyPost_ret (results_cell_row rfl _ _ gb175 63 #[.slice none 0 0, .int .i64 0, .slice none 0 0, .slice none 0 0, .int .i64 4] (0, 0) _ rfl (by (with_reducible repeat (first | refine blk_drewN ?_ _ | refine blk_drew ?_ | refine blk_alloc ?_ _)); refine blk_put (cs := #[.slice none 0 0, .int .i64 0, .slice none 0 0, .slice none 0 0, .int .i64 x176004_3]) ?_ 4 _ rfl; (with_reducible repeat (first | refine blk_drewN ?_ _ | refine blk_drew ?_ | refine blk_alloc ?_ _)); refine blk_put (cs := #[.slice none 0 0, .int .i64 0, .slice none 0 0, .slice none 0 0, .int .i64 x176004_3]) ?_ 3 _ rfl; (with_reducible repeat (first | refine blk_drewN ?_ _ | refine blk_drew ?_ | refine blk_alloc ?_ _)); refine blk_put (cs := #[.slice none 0 0, .int .i64 0, .slice none 0 0, .slice none 0 0, .int .i64 x176004_3]) ?_ 2 _ rfl; (with_reducible repeat (first | refine blk_drewN ?_ _ | refine blk_drew ?_ | refine blk_alloc ?_ _)); refine blk_put (cs := #[.slice none 0 0, .int .i64 x176001_3, .slice none 0 0, .slice none 0 0, .int .i64 x176004_3]) ?_ 1 _ rfl; (with_reducible repeat (first | refine blk_drewN ?_ _ | refine blk_drew ?_ | refine blk_alloc ?_ _)); refine blk_put (cs := #[.slice none 0 0, .int .i64 x176001_3, .slice none 0 0, .slice none 0 0, .int .i64 x176004_3]) ?_ 0 _ rfl; (with_reducible repeat (first | refine blk_drewN ?_ _ | refine blk_drew ?_ | refine blk_alloc ?_ _)); exact BK175.out) Try.underlying63 rfl (by kernel_rfl)) rfl ?_
          exact ⟨_, _, _, by first | rfl | (simp [errW_none, errW_some] <;> rfl) | (simp [*, errW_none, errW_some] <;> rfl), by first | exact Kd.S_nil _ _ _ _ _ | exact Kd.N_nil _ _ _ _ _ | exact Kd.V_nil _ _ _ _ _ | exact Kd.Q_nil _ _ _ _ _ | exact Kd.R_nil _ _ _ _ _, by first | exact Kd.R_nil _ _ _ _ _ | exact Kd.N_nil _ _ _ _ _ | exact Kd.V_nil _ _ _ _ _ | exact Kd.Q_nil _ _ _ _ _ | exact Kd.S_nil _ _ _ _ _, by first | exact Kd.R_nil _ _ _ _ _ | exact Kd.N_nil _ _ _ _ _ | exact Kd.V_nil _ _ _ _ _ | exact Kd.Q_nil _ _ _ _ _ | exact Kd.S_nil _ _ _ _ _, by repeat (first | (with_reducible first | exact HB.out | apply below_alloc | apply pw_below_drewN | apply below_drew1 | refine below_set ?_ GE174.out | refine below_set ?_ GE175.out) | exact HB.out)⟩

end Go.Proofs.Ytegadjijonlmcaa.PFnExactHistUp
