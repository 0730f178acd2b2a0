-- Written by xprint.py (this claim's own program, over the kit's printer); Lean checks it.
import Derived.Test.YtejgkbejdkaccaaPFnExactRingPopx0
import Derived.Test.YtejgkbejdkaccaaPFnExactRingPopx3
import Derived.Test.YtejgkbejdkaccaaPFnExactRingPopx4
import Derived.Test.YtejgkbejdkaccaaPFnExactRingPopx5
namespace Go.Proofs.Ytejgkbejdkaccaa.PFnExactRingPop
open Go.RowKit Go.Proofs.YtejgkbejdkaccaaW.PrintWords Go.Proofs.YtejgkbejdkaccaaW.PrintLast Go.Proofs.YtejgkbejdkaccaaW.PrintMore
attribute [local go_sem] max2_int min2_int max_two min_two max_three min_three max_four min_four   -- for this text's walks alone
set_option linter.unusedVariables false
set_option linter.unusedSimpArgs false   -- squeezed
set_option maxHeartbeats 8000000
set_option maxRecDepth 100000

/-! ### spec_RingPop: function 34 -/
def spec_RingPop.j0 : Nat → Int → Int → Bool → List (List Int) → Int → List Int → Int → Int → Option (List Int × Int × Int × Int × Int × Int)
 | 0, _, _, _, _, _, _, _, _ => none
 | k + 1, x2, x3, x18, x237000, x237001, x238000, x238001, x238002 => if x18 = true then (some (([] : List Int), 0, 0, 0, 0, 1)) else (if (x237000.length : Int) = 0 then (some (([] : List Int), 0, 0, 0, 0, 4)) else ((spec_RingTurn.f k x237000 x237001).bind fun bt241 => ((spec_RingTop.f k bt241.1 bt241.2).bind fun t245 => ((spec_BufReplace.f k x238000 x238001 x238002 x2 x3 t245).bind fun bt248 => (if bt248.2.2.2.2 = 0 then (some (bt248.1, wrap64 (x2 + (t245.length : Int)), bt248.2.2.1, x2, wrap64 (x2 + (t245.length : Int)), 0)) else (some (([] : List Int), 0, 0, 0, 0, bt248.2.2.2.2)))))))
def spec_RingPop.f (k : Nat) (l0_0 : List (List Int)) (a0_1 : Int) (l1_0 : List Int) (a1_1 : Int) (a1_2 : Int) (a2 : Int) (a3 : Int) : Option (List Int × Int × Int × Int × Int × Int) := (spec_RingRight.f k l0_0 a0_1).bind fun t239 => (if t239 = true then ((spec_BufRight.f k l1_0 a1_1 a1_2).bind fun t240 => (spec_RingPop.j0 k a2 a3 (!t240) l0_0 a0_1 l1_0 a1_1 a1_2)) else (spec_RingPop.j0 k a2 a3 true l0_0 a0_1 l1_0 a1_1 a1_2))
theorem spec_RingPop.mono_l : ∀ k, (∀ y0 y1 y2 y3 y4 y5 y6 y7, LeO (spec_RingPop.j0 k y0 y1 y2 y3 y4 y5 y6 y7) (spec_RingPop.j0 (k + 1) y0 y1 y2 y3 y4 y5 y6 y7))
 | 0 => fun _ _ _ _ _ _ _ _ r h => by simp [spec_RingPop.j0] at h
 | k + 1 => by
  have ih0 := spec_RingPop.mono_l k
  ·intro y0 y1 y2 y3 y4 y5 y6 y7
   unfold spec_RingPop.j0
   repeat' first
   | (with_reducible exact ih0 _ _ _ _ _ _ _ _)
   | (with_reducible exact spec_BufReplace.mono _ _ _ _ _ _ _)
   | (with_reducible exact spec_BufRight.mono _ _ _ _)
   | (with_reducible exact spec_RingRight.mono _ _ _)
   | (with_reducible exact spec_RingTop.mono _ _ _)
   | (with_reducible exact spec_RingTurn.mono _ _ _)
   | (with_reducible exact LeO.refl _)
   | (with_reducible exact LeO.none _)
   | (with_reducible refine LeO.ite ?_ ?_)
   | (with_reducible refine LeO.bind ?_ (fun _ => ?_))
   | exact ih0 _ _ _ _ _ _ _ _
   | exact spec_BufReplace.mono _ _ _ _ _ _ _
   | exact spec_BufRight.mono _ _ _ _
   | exact spec_RingRight.mono _ _ _
   | exact spec_RingTop.mono _ _ _
   | exact spec_RingTurn.mono _ _ _
   | refine LeO.bind ?_ (fun _ => ?_)
theorem spec_RingPop.mono : ∀ a0 a1 a2 a3 a4 a5 a6 k, LeO (spec_RingPop.f k a0 a1 a2 a3 a4 a5 a6) (spec_RingPop.f (k + 1) a0 a1 a2 a3 a4 a5 a6) := by
 intro a0 a1 a2 a3 a4 a5 a6 k
 have ih0 := spec_RingPop.mono_l k
 unfold spec_RingPop.f
 repeat' first
   | (with_reducible exact ih0 _ _ _ _ _ _ _ _)
   | (with_reducible exact spec_BufReplace.mono _ _ _ _ _ _ _)
   | (with_reducible exact spec_BufRight.mono _ _ _ _)
   | (with_reducible exact spec_RingRight.mono _ _ _)
   | (with_reducible exact spec_RingTop.mono _ _ _)
   | (with_reducible exact spec_RingTurn.mono _ _ _)
   | (with_reducible exact LeO.refl _)
   | (with_reducible exact LeO.none _)
   | (with_reducible refine LeO.ite ?_ ?_)
   | (with_reducible refine LeO.bind ?_ (fun _ => ?_))
   | exact ih0 _ _ _ _ _ _ _ _
   | exact spec_BufReplace.mono _ _ _ _ _ _ _
   | exact spec_BufRight.mono _ _ _ _
   | exact spec_RingRight.mono _ _ _
   | exact spec_RingTop.mono _ _ _
   | exact spec_RingTurn.mono _ _ _
   | refine LeO.bind ?_ (fun _ => ?_)
theorem spec_RingPop.calls (k : Nat) (A0_0 : Option Addr) (c0_0 : Nat) (l0_0 : List (List Int)) (a0_1 : Int) (A1_0 : Option Addr) (c1_0 : Nat) (l1_0 : List Int) (a1_1 : Int) (a1_2 : Int) (a2 : Int) (a3 : Int) (r1 : List Int) (r2 : Int) (r3 : Int) (r4 : Int) (r5 : Int) (r6 : Int) (w : World) (hr0_0 : Kd.C (Kd.slice 2 (Kd.int .i64)) w A0_0 l0_0.length l0_0) (hc0_0 : l0_0.length ≤ c0_0) (hr1_0 : Kd.C (Kd.int .i64) w A1_0 l1_0.length l1_0) (hc1_0 : l1_0.length ≤ c1_0) (h : spec_RingPop.f k l0_0 a0_1 l1_0 a1_1 a1_2 a2 a3 = some (r1, r2, r3, r4, r5, r6)) :
  Calls Try.prog 34 #[.agg #[.slice A0_0 l0_0.length c0_0, .int .i64 a0_1], .agg #[.slice A1_0 l1_0.length c1_0, .int .i64 a1_1, .int .i64 a1_2], .int .i64 a2, .int .i64 a3] w fun e w' => ∃ v0_ : Value, e = .returned (.agg #[v0_, .int .i64 r2, .int .i64 r3, .int .i64 r4, .int .i64 r5, .int .i64 r6]) ∧ Kd.R (Kd.int .i64) 2 w' w.heap.size (fun _ => True) v0_ r1 ∧ Below w.heap.size w w' := by
 have hu50 := Try.underlying50
 have hu26 := Try.underlying26
 have hu48 := Try.underlying48
 have hu28 := Try.underlying28
 have HR0_0 := am hr0_0
 have HC0_0 := am hc0_0
 clear hr0_0 hc0_0
 have HR1_0 := am hr1_0
 have HC1_0 := am hc1_0
 clear hr1_0 hc1_0
 have HB := am (Below.refl w.heap.size w)
 have H : ((spec_RingRight.f k l0_0 a0_1).bind fun t239 => (if t239 = true then ((spec_BufRight.f k l1_0 a1_1 a1_2).bind fun t240 => (spec_RingPop.j0 k a2 a3 (!t240) l0_0 a0_1 l1_0 a1_1 a1_2)) else (spec_RingPop.j0 k a2 a3 true l0_0 a0_1 l1_0 a1_1 a1_2))) = some (r1, r2, r3, r4, r5, r6) := h
 clear h
 have HC5 := Aside0.mk H
 clear H
 go_enter Try.func34, Try.ntmps34
 go_upto_region 1 with (first | ((with_reducible refine gate_dst (N := 4) rfl ?_); refine box_event ?hg (N := 4) ?hd (cs := #[.slice A0_0 l0_0.length c0_0, .int .i64 a0_1]) (t := 50) ?hr ?_; (case hd => rfl); (case hg => rfl); (case hr => first | (go_simp; done) | (go_simp; rfl)); intro gb236 hg w6 hbox hb; have BK236 := am (hbox); have GW236 := am ((by rw [hg]; exact (below_size (bl HB.out)) : w.heap.size ≤ gb236)); have GE236 := GW236; replace HB := am (below_step (bl HB.out) hb); clear hb hbox hg) | ((with_reducible refine gate_dst (N := 5) rfl ?_); refine box_event ?hg (N := 5) ?hd (cs := #[.slice A1_0 l1_0.length c1_0, .int .i64 a1_1, .int .i64 a1_2]) (t := 26) ?hr ?_; (case hd => rfl); (case hg => rfl); (case hr => first | (go_simp; done) | (go_simp; rfl)); intro gb237 hg w7 hbox hb; have BK237 := am (hbox); have GW237 := am ((by rw [hg]; exact (below_size (bl HB.out)) : w.heap.size ≤ gb237)); have GE237 := GW237; replace HB := am (below_step (bl HB.out) hb); have NB236_237 := am ((by rw [hg]; exact Nat.ne_of_lt (blk_lt (pk BK236.out)) : gb236 ≠ gb237)); have NB237_236 := am ((by rw [hg]; exact Nat.ne_of_gt (blk_lt (pk BK236.out)) : gb237 ≠ gb236)); replace BK236 := am (blk_below (pk BK236.out) hb); clear hb hbox hg) | ((with_reducible refine gate_dst (N := 8) rfl ?_); refine box_event ?hg (N := 8) ?hd (cs := #[.slice none 0 0, .int .i64 0, .int .i64 0, .int .i64 0, .int .i64 0, .int .i64 0]) (t := 48) ?hr ?_; (case hd => rfl); (case hg => rfl); (case hr => first | (go_simp; done) | (go_simp; rfl)); intro gb238 hg w8 hbox hb; have BK238 := am (hbox); have GW238 := am ((by rw [hg]; exact (below_size (bl HB.out)) : w.heap.size ≤ gb238)); have GE238 := GW238; replace HB := am (below_step (bl HB.out) hb); have NB236_238 := am ((by rw [hg]; exact Nat.ne_of_lt (blk_lt (pk BK236.out)) : gb236 ≠ gb238)); have NB238_236 := am ((by rw [hg]; exact Nat.ne_of_gt (blk_lt (pk BK236.out)) : gb238 ≠ gb236)); replace BK236 := am (blk_below (pk BK236.out) hb); have NB237_238 := am ((by rw [hg]; exact Nat.ne_of_lt (blk_lt (pk BK237.out)) : gb237 ≠ gb238)); have NB238_237 := am ((by rw [hg]; exact Nat.ne_of_gt (blk_lt (pk BK237.out)) : gb238 ≠ gb237)); replace BK237 := am (blk_below (pk BK237.out) hb); clear hb hbox hg))
 (try simp only [Act.put, sa_, s0_, ss_])
 go_cut [18] (fun v18 wc => ∃ (kq : Nat) (x18_4 : Bool), v18 = .bool x18_4 ∧ Aside0 (spec_RingPop.j0 kq a2 a3 x18_4 l0_0 a0_1 l1_0 a1_1 a1_2 = some (r1, r2, r3, r4, r5, r6)) ∧ Aside0 (kq ≤ k) ∧ Aside0 (wc.heap[gb236]? = some (.cells #[(.slice A0_0 l0_0.length c0_0), .int .i64 a0_1] 50 (0, 0))) ∧ Aside0 (wc.heap[gb237]? = some (.cells #[(.slice A1_0 l1_0.length c1_0), .int .i64 a1_1, .int .i64 a1_2] 26 (0, 0))) ∧ Aside0 (wc.heap[gb238]? = some (.cells #[(.slice none 0 0), .int .i64 0, .int .i64 0, .int .i64 0, .int .i64 0, .int .i64 0] 48 (0, 0))) ∧ Aside0 (Below w.heap.size w wc))
 case first =>
  have H := HC5.out
  clear HC5
  replace H := Option.bind_eq_some_iff.mp H
  obtain ⟨t239, A90, H⟩ := H
  replace H : (if t239 = true then ((spec_BufRight.f k l1_0 a1_1 a1_2).bind fun t240 => (spec_RingPop.j0 k a2 a3 (!t240) l0_0 a0_1 l1_0 a1_1 a1_2)) else (spec_RingPop.j0 k a2 a3 true l0_0 a0_1 l1_0 a1_1 a1_2)) = some (r1, r2, r3, r4, r5, r6) := H
  have A9 := Aside0.mk A90
  clear A90
  by_cases c10 : t239 = true
  ·subst c10
   have H1 : ((spec_BufRight.f k l1_0 a1_1 a1_2).bind fun t240 => (spec_RingPop.j0 k a2 a3 (!t240) l0_0 a0_1 l1_0 a1_1 a1_2)) = some (r1, r2, r3, r4, r5, r6) := by rw [if_pos rfl] at H; exact H
   clear H
   have H := H1
   clear H1
   replace H := Option.bind_eq_some_iff.mp H
   obtain ⟨t240, A110, H⟩ := H
   replace H : (spec_RingPop.j0 k a2 a3 (!t240) l0_0 a0_1 l1_0 a1_1 a1_2) = some (r1, r2, r3, r4, r5, r6) := H
   have A11 := Aside0.mk A110
   clear A110
   have H' := Aside0.mk H
   clear H
   have hnb12 := NB236_237.out
   have hnc12 := NB237_236.out
   have hnb13 := NB236_238.out
   have hnc13 := NB238_236.out
   have hcz14_0 : w8.cell? ⟨gb236, 0, none⟩ = some (.slice A0_0 l0_0.length c0_0) := bc BK236.out 0
   have hcz14_1 : w8.cell? ⟨gb236, 1, none⟩ = some (.int .i64 a0_1) := bc BK236.out 1
   have hfz14_0 := blk_frozen BK236.out 0
   have hfz14_1 := blk_frozen BK236.out 1
   go_wp2_with (first | ((with_reducible refine gate_callee (f := 51) rfl ?_); refine gl (some 12) Try.func51 #[.agg #[.slice A0_0 l0_0.length c0_0, .int .i64 a0_1]] ?_; (with_reducible refine (spec_RingRight.calls k _ _ l0_0 a0_1 true _ ?side1 ?side2 A9.out).mono ?_); (case side1 => repeat (first | exact (Kd.C_below HR0_0.out HB.out) | (with_reducible refine Kd.C_alloc ?_ _) | (with_reducible refine Kd.C_drewN ?_ _) | (with_reducible refine Kd.C_drew ?_))); (case side2 => exact HC0_0.out); rintro e w15 ⟨rfl, hb⟩; refine ⟨_, rfl, ?_⟩; replace BK236 := am (blk_below (pk BK236.out) hb); replace BK237 := am (blk_below (pk BK237.out) hb); replace BK238 := am (blk_below (pk BK238.out) hb); replace HB := am (below_step (bl HB.out) hb); (try clear hb); (try clear hb2); (try clear hk); (try clear hi); have hnb16 := NB237_238.out; have hnc16 := NB238_237.out; have hcz17_0 : w15.cell? ⟨gb237, 0, none⟩ = some (.slice A1_0 l1_0.length c1_0) := bc BK237.out 0; have hcz17_1 : w15.cell? ⟨gb237, 1, none⟩ = some (.int .i64 a1_1) := bc BK237.out 1; have hcz17_2 : w15.cell? ⟨gb237, 2, none⟩ = some (.int .i64 a1_2) := bc BK237.out 2; have hfz17_0 := blk_frozen BK237.out 0; have hfz17_1 := blk_frozen BK237.out 1; have hfz17_2 := blk_frozen BK237.out 2) | (go_at_call 41; (with_reducible refine (spec_BufRight.calls k _ _ l1_0 a1_1 a1_2 t240 _ ?side1 ?side2 A11.out).mono ?_); (case side1 => repeat (first | exact (Kd.C_below HR1_0.out HB.out) | (with_reducible refine Kd.C_alloc ?_ _) | (with_reducible refine Kd.C_drewN ?_ _) | (with_reducible refine Kd.C_drew ?_))); (case side2 => exact HC1_0.out); rintro e w18 ⟨rfl, hb⟩; replace BK236 := am (blk_below (pk BK236.out) hb); replace BK237 := am (blk_below (pk BK237.out) hb); replace BK238 := am (blk_below (pk BK238.out) hb); replace HB := am (below_step (bl HB.out) hb); (try clear hb); (try clear hb2); (try clear hk); (try clear hi)))
   go_meet
   case rel => exact ⟨_, (!t240), (by first | rfl | (simp; done) | (simp [*]; done)), H', ⟨by first | omega | exact Nat.le_refl _⟩, ⟨pk BK236.out⟩, ⟨pk BK237.out⟩, ⟨pk BK238.out⟩, ⟨by repeat (first | (with_reducible first | exact HB.out | apply below_alloc | apply pw_below_drewN | apply below_drew1 | refine below_set ?_ GE236.out | refine below_set ?_ GE237.out | refine below_set ?_ GE238.out) | exact HB.out)⟩⟩
  ·replace c10 := Bool.eq_false_iff.mpr c10
   subst c10
   have H1 : (spec_RingPop.j0 k a2 a3 true l0_0 a0_1 l1_0 a1_1 a1_2) = some (r1, r2, r3, r4, r5, r6) := by rw [if_neg (show ¬ (false = true) by decide)] at H; exact H
   clear H
   have H := H1
   clear H1
   have H' := Aside0.mk H
   clear H
   have hnb19 := NB236_237.out
   have hnc19 := NB237_236.out
   have hnb20 := NB236_238.out
   have hnc20 := NB238_236.out
   have hcz21_0 : w8.cell? ⟨gb236, 0, none⟩ = some (.slice A0_0 l0_0.length c0_0) := bc BK236.out 0
   have hcz21_1 : w8.cell? ⟨gb236, 1, none⟩ = some (.int .i64 a0_1) := bc BK236.out 1
   have hfz21_0 := blk_frozen BK236.out 0
   have hfz21_1 := blk_frozen BK236.out 1
   go_wp2_with (first | ((with_reducible refine gate_callee (f := 51) rfl ?_); refine gl (some 12) Try.func51 #[.agg #[.slice A0_0 l0_0.length c0_0, .int .i64 a0_1]] ?_; (with_reducible refine (spec_RingRight.calls k _ _ l0_0 a0_1 false _ ?side1 ?side2 A9.out).mono ?_); (case side1 => repeat (first | exact (Kd.C_below HR0_0.out HB.out) | (with_reducible refine Kd.C_alloc ?_ _) | (with_reducible refine Kd.C_drewN ?_ _) | (with_reducible refine Kd.C_drew ?_))); (case side2 => exact HC0_0.out); rintro e w22 ⟨rfl, hb⟩; refine ⟨_, rfl, ?_⟩; replace BK236 := am (blk_below (pk BK236.out) hb); replace BK237 := am (blk_below (pk BK237.out) hb); replace BK238 := am (blk_below (pk BK238.out) hb); replace HB := am (below_step (bl HB.out) hb); (try clear hb); (try clear hb2); (try clear hk); (try clear hi)))
   go_meet
   case rel => exact ⟨_, (true), (by first | rfl | (simp; done) | (simp [*]; done)), H', ⟨by first | omega | exact Nat.le_refl _⟩, ⟨pk BK236.out⟩, ⟨pk BK237.out⟩, ⟨pk BK238.out⟩, ⟨by repeat (first | (with_reducible first | exact HB.out | apply below_alloc | apply pw_below_drewN | apply below_drew1 | refine below_set ?_ GE236.out | refine below_set ?_ GE237.out | refine below_set ?_ GE238.out) | exact HB.out)⟩⟩
 case rest =>
  clear HC5
  try clear c1
  try clear c2
  try clear p2
  try clear c3
  try clear c5
  try clear c10
  try clear c12
  try clear c13
  try clear c16
  try clear c19
  try clear c20
  try clear hcz14_0
  try clear hcz14_1
  try clear hcz17_0
  try clear hcz17_1
  try clear hcz17_2
  try clear hcz21_0
  try clear hcz21_1
  try clear hfz14_0
  try clear hfz14_1
  try clear hfz17_0
  try clear hfz17_1
  try clear hfz17_2
  try clear hfz21_0
  try clear hfz21_1
  obtain ⟨kq, x18_4, rfl, HA, HJ4, BK236, BK237, BK238, HB⟩ := hcut
  cases kq with
  | zero => exact absurd HA.out (by simp [spec_RingPop.j0])
  | succ kj4 =>
   have H := HA.out
   clear HA
   simp only [spec_RingPop.j0] at H
   by_cases c23 : x18_4 = true
   ·subst c23
    have H1 : (some (([] : List Int), 0, 0, 0, 0, 1)) = some (r1, r2, r3, r4, r5, r6) := by rw [if_pos rfl] at H; exact H
    clear H
    have H := H1
    clear H1
    simp only [Option.some.injEq, Prod.mk.injEq] at H
    obtain ⟨rfl, rfl, rfl, rfl, rfl, rfl⟩ := H
    have hnb24 := NB238_236.out
    have hnc24 := NB236_238.out
    have hnb25 := NB238_237.out
    have hnc25 := NB237_238.out
    have hcz26_0 : wc.cell? ⟨gb238, 0, none⟩ = some (.slice none 0 0) := bc BK238.out 0
    have hcz26_1 : wc.cell? ⟨gb238, 1, none⟩ = some (.int .i64 0) := bc BK238.out 1
    have hcz26_2 : wc.cell? ⟨gb238, 2, none⟩ = some (.int .i64 0) := bc BK238.out 2
    have hcz26_3 : wc.cell? ⟨gb238, 3, none⟩ = some (.int .i64 0) := bc BK238.out 3
    have hcz26_4 : wc.cell? ⟨gb238, 4, none⟩ = some (.int .i64 0) := bc BK238.out 4
    have hcz26_5 : wc.cell? ⟨gb238, 5, none⟩ = some (.int .i64 0) := bc BK238.out 5
    have hfz26_0 := blk_frozen BK238.out 0
    have hfz26_1 := blk_frozen BK238.out 1
    have hfz26_2 := blk_frozen BK238.out 2
    have hfz26_3 := blk_frozen BK238.out 3
    have hfz26_4 := blk_frozen BK238.out 4
    have hfz26_5 := blk_frozen BK238.out 5
    go_wp2
    refine bodyPost_ret (results_cell_row rfl _ _ gb238 48 #[.slice none 0 0, .int .i64 0, .int .i64 0, .int .i64 0, .int .i64 0, .int .i64 1] (0, 0) _ rfl (by refine pk ?_; refine blk_put (cs := #[.slice none 0 0, .int .i64 0, .int .i64 0, .int .i64 0, .int .i64 0, .int .i64 0]) ?_ 5 _ rfl; refine pk ?_; refine blk_put (cs := #[.slice none 0 0, .int .i64 0, .int .i64 0, .int .i64 0, .int .i64 0, .int .i64 0]) ?_ 4 _ rfl; refine pk ?_; refine blk_put (cs := #[.slice none 0 0, .int .i64 0, .int .i64 0, .int .i64 0, .int .i64 0, .int .i64 0]) ?_ 3 _ rfl; refine pk ?_; refine blk_put (cs := #[.slice none 0 0, .int .i64 0, .int .i64 0, .int .i64 0, .int .i64 0, .int .i64 0]) ?_ 2 _ rfl; refine pk ?_; refine blk_put (cs := #[.slice none 0 0, .int .i64 0, .int .i64 0, .int .i64 0, .int .i64 0, .int .i64 0]) ?_ 1 _ rfl; refine pk ?_; refine blk_put (cs := #[.slice none 0 0, .int .i64 0, .int .i64 0, .int .i64 0, .int .i64 0, .int .i64 0]) ?_ 0 _ rfl; refine pk ?_; exact BK238.out) Try.underlying48 rfl (by kernel_rfl)) rfl ?_
    exact ⟨_, by first | rfl | (simp [errW_none, errW_some] <;> rfl) | (simp [*, errW_none, errW_some] <;> rfl), by first | exact Kd.R_nil _ _ _ _ _ | exact Kd.N_nil _ _ _ _ _ | exact Kd.V_nil _ _ _ _ _ | exact Kd.Q_nil _ _ _ _ _ | exact Kd.S_nil _ _ _ _ _, by repeat (first | (with_reducible first | exact HB.out | apply below_alloc | apply pw_below_drewN | apply below_drew1 | refine below_set ?_ GE236.out | refine below_set ?_ GE237.out | refine below_set ?_ GE238.out) | exact HB.out)⟩
   ·replace c23 := Bool.eq_false_iff.mpr c23
    subst c23
    have H1 : (if (l0_0.length : Int) = 0 then (some (([] : List Int), 0, 0, 0, 0, 4)) else ((spec_RingTurn.f kj4 l0_0 a0_1).bind fun bt241 => ((spec_RingTop.f kj4 bt241.1 bt241.2).bind fun t245 => ((spec_BufReplace.f kj4 l1_0 a1_1 a1_2 a2 a3 t245).bind fun bt248 => (if bt248.2.2.2.2 = 0 then (some (bt248.1, wrap64 (a2 + (t245.length : Int)), bt248.2.2.1, a2, wrap64 (a2 + (t245.length : Int)), 0)) else (some (([] : List Int), 0, 0, 0, 0, bt248.2.2.2.2))))))) = some (r1, r2, r3, r4, r5, r6) := by rw [if_neg (show ¬ (false = true) by decide)] at H; exact H
    clear H
    have H := H1
    clear H1
    by_cases c27 : (l0_0.length : Int) = 0
    ·rw [if_pos c27] at H
     have c27b0 : ((l0_0.length : Int) == 0) = true := beq_iff_eq.mpr c27
     have c27b1 : ((l0_0.length : Int) != 0) = false := bne_eq_false_iff_eq.mpr c27
     clear c27
     simp only [Option.some.injEq, Prod.mk.injEq] at H
     obtain ⟨rfl, rfl, rfl, rfl, rfl, rfl⟩ := H
     have hnb28 := NB236_237.out
     have hnc28 := NB237_236.out
     have hnb29 := NB236_238.out
     have hnc29 := NB238_236.out
     have hcz30_0 : wc.cell? ⟨gb236, 0, none⟩ = some (.slice A0_0 l0_0.length c0_0) := bc BK236.out 0
     have hcz30_1 : wc.cell? ⟨gb236, 1, none⟩ = some (.int .i64 a0_1) := bc BK236.out 1
     have hfz30_0 := blk_frozen BK236.out 0
     have hfz30_1 := blk_frozen BK236.out 1
     have hnb31 := NB238_237.out
     have hnc31 := NB237_238.out
     have hcz32_0 : wc.cell? ⟨gb238, 0, none⟩ = some (.slice none 0 0) := bc BK238.out 0
     have hcz32_1 : wc.cell? ⟨gb238, 1, none⟩ = some (.int .i64 0) := bc BK238.out 1
     have hcz32_2 : wc.cell? ⟨gb238, 2, none⟩ = some (.int .i64 0) := bc BK238.out 2
     have hcz32_3 : wc.cell? ⟨gb238, 3, none⟩ = some (.int .i64 0) := bc BK238.out 3
     have hcz32_4 : wc.cell? ⟨gb238, 4, none⟩ = some (.int .i64 0) := bc BK238.out 4
     have hcz32_5 : wc.cell? ⟨gb238, 5, none⟩ = some (.int .i64 0) := bc BK238.out 5
     have hfz32_0 := blk_frozen BK238.out 0
     have hfz32_1 := blk_frozen BK238.out 1
     have hfz32_2 := blk_frozen BK238.out 2
     have hfz32_3 := blk_frozen BK238.out 3
     have hfz32_4 := blk_frozen BK238.out 4
     have hfz32_5 := blk_frozen BK238.out 5
     go_wp2
     refine bodyPost_ret (results_cell_row rfl _ _ gb238 48 #[.slice none 0 0, .int .i64 0, .int .i64 0, .int .i64 0, .int .i64 0, .int .i64 4] (0, 0) _ rfl (by refine pk ?_; refine blk_put (cs := #[.slice none 0 0, .int .i64 0, .int .i64 0, .int .i64 0, .int .i64 0, .int .i64 0]) ?_ 5 _ rfl; refine pk ?_; refine blk_put (cs := #[.slice none 0 0, .int .i64 0, .int .i64 0, .int .i64 0, .int .i64 0, .int .i64 0]) ?_ 4 _ rfl; refine pk ?_; refine blk_put (cs := #[.slice none 0 0, .int .i64 0, .int .i64 0, .int .i64 0, .int .i64 0, .int .i64 0]) ?_ 3 _ rfl; refine pk ?_; refine blk_put (cs := #[.slice none 0 0, .int .i64 0, .int .i64 0, .int .i64 0, .int .i64 0, .int .i64 0]) ?_ 2 _ rfl; refine pk ?_; refine blk_put (cs := #[.slice none 0 0, .int .i64 0, .int .i64 0, .int .i64 0, .int .i64 0, .int .i64 0]) ?_ 1 _ rfl; refine pk ?_; refine blk_put (cs := #[.slice none 0 0, .int .i64 0, .int .i64 0, .int .i64 0, .int .i64 0, .int .i64 0]) ?_ 0 _ rfl; refine pk ?_; exact BK238.out) Try.underlying48 rfl (by kernel_rfl)) rfl ?_
     exact ⟨_, by first | rfl | (simp [errW_none, errW_some] <;> rfl) | (simp [*, errW_none, errW_some] <;> rfl), by first | exact Kd.R_nil _ _ _ _ _ | exact Kd.N_nil _ _ _ _ _ | exact Kd.V_nil _ _ _ _ _ | exact Kd.Q_nil _ _ _ _ _ | exact Kd.S_nil _ _ _ _ _, by repeat (first | (with_reducible first | exact HB.out | apply below_alloc | apply pw_below_drewN | apply below_drew1 | refine below_set ?_ GE236.out | refine below_set ?_ GE237.out | refine below_set ?_ GE238.out) | exact HB.out)⟩
    ·rw [if_neg c27] at H
     have c27b0 : ((l0_0.length : Int) == 0) = false := beq_eq_false_iff_ne.mpr c27
     have c27b1 : ((l0_0.length : Int) != 0) = true := bne_iff_ne.mpr c27
     have c27b2 : ¬ (l0_0 = []) := fun h_ => c27 (by rw [h_]; rfl)
     replace H := Option.bind_eq_some_iff.mp H
     obtain ⟨⟨t241, t244⟩, A330, H⟩ := H
     replace H : ((spec_RingTop.f kj4 t241 t244).bind fun t245 => ((spec_BufReplace.f kj4 l1_0 a1_1 a1_2 a2 a3 t245).bind fun bt248 => (if bt248.2.2.2.2 = 0 then (some (bt248.1, wrap64 (a2 + (t245.length : Int)), bt248.2.2.1, a2, wrap64 (a2 + (t245.length : Int)), 0)) else (some (([] : List Int), 0, 0, 0, 0, bt248.2.2.2.2))))) = some (r1, r2, r3, r4, r5, r6) := H
     have A33 := Aside0.mk A330
     clear A330
     replace H := Option.bind_eq_some_iff.mp H
     obtain ⟨t245, A340, H⟩ := H
     replace H : ((spec_BufReplace.f kj4 l1_0 a1_1 a1_2 a2 a3 t245).bind fun bt248 => (if bt248.2.2.2.2 = 0 then (some (bt248.1, wrap64 (a2 + (t245.length : Int)), bt248.2.2.1, a2, wrap64 (a2 + (t245.length : Int)), 0)) else (some (([] : List Int), 0, 0, 0, 0, bt248.2.2.2.2)))) = some (r1, r2, r3, r4, r5, r6) := H
     have A34 := Aside0.mk A340
     clear A340
     replace H := Option.bind_eq_some_iff.mp H
     obtain ⟨⟨t248, t251, t252, t253, t256⟩, A350, H⟩ := H
     replace H : (if t256 = 0 then (some (t248, wrap64 (a2 + (t245.length : Int)), t252, a2, wrap64 (a2 + (t245.length : Int)), 0)) else (some (([] : List Int), 0, 0, 0, 0, t256))) = some (r1, r2, r3, r4, r5, r6) := H
     have A35 := Aside0.mk A350
     clear A350
     by_cases c36 : t256 = 0
     ·rw [if_pos c36] at H
      have c36b0 : (t256 == 0) = true := beq_iff_eq.mpr c36
      have c36b1 : (t256 != 0) = false := bne_eq_false_iff_eq.mpr c36
      clear c36
      simp only [Option.some.injEq, Prod.mk.injEq] at H
      obtain ⟨rfl, rfl, rfl, rfl, rfl, rfl⟩ := H
      have hnb37 := NB236_237.out
      have hnc37 := NB237_236.out
      have hnb38 := NB236_238.out
      have hnc38 := NB238_236.out
      have hcz39_0 : wc.cell? ⟨gb236, 0, none⟩ = some (.slice A0_0 l0_0.length c0_0) := bc BK236.out 0
      have hcz39_1 : wc.cell? ⟨gb236, 1, none⟩ = some (.int .i64 a0_1) := bc BK236.out 1
      have hfz39_0 := blk_frozen BK236.out 0
      have hfz39_1 := blk_frozen BK236.out 1
      go_upto_region 7 with (first | ((with_reducible refine gate_callee (f := 58) rfl ?_); refine gl (some 26) Try.func58 #[.agg #[.slice A0_0 l0_0.length c0_0, .int .i64 a0_1]] ?_; (with_reducible refine (spec_RingTurn.calls kj4 _ _ l0_0 a0_1 t241 t244 _ ?side1 ?side2 A33.out).mono ?_); (case side1 => repeat (first | exact (Kd.C_below HR0_0.out HB.out) | (with_reducible refine Kd.C_alloc ?_ _) | (with_reducible refine Kd.C_drewN ?_ _) | (with_reducible refine Kd.C_drew ?_))); (case side2 => exact HC0_0.out); rintro e w40 ⟨v242, rfl, ho0, hb⟩; refine ⟨_, rfl, ?_⟩; have HO243 := am (Kd.S_lower ho0 (below_size (bl HB.out))); replace BK236 := am (blk_below (pk BK236.out) hb); replace BK237 := am (blk_below (pk BK237.out) hb); replace BK238 := am (blk_below (pk BK238.out) hb); replace HB := am (below_step (bl HB.out) hb); (try clear hb); (try clear hb2); (try clear hk); (try clear hi); (try clear ho0); obtain ⟨Ao41, co41, eo41⟩ := Kd.S_slice HO243.out; subst eo41) | ((with_reducible refine gate_callee (f := 52) rfl ?_); refine gl (some 27) Try.func52 #[.agg #[.slice Ao41 t241.length co41, .int .i64 t244]] ?_; (with_reducible refine (spec_RingTop.calls kj4 _ _ t241 t244 t245 _ ?side1 ?side2 A34.out).mono ?_); (case side1 => repeat (first | exact (Kd.S_reads' HO243.out).2.2 | (with_reducible refine Kd.C_alloc ?_ _) | (with_reducible refine Kd.C_drewN ?_ _) | (with_reducible refine Kd.C_drew ?_))); (case side2 => exact (Kd.S_reads' HO243.out).2.1); rintro e w42 ⟨v246, rfl, ho0, hb⟩; refine ⟨_, rfl, ?_⟩; replace HO243 := am (Kd.S_elder' (ks HO243.out) (Kd.R_base ho0) hb); have HO247 := am (Kd.R_lower ho0 (below_size (bl HB.out))); replace BK236 := am (blk_below (pk BK236.out) hb); replace BK237 := am (blk_below (pk BK237.out) hb); replace BK238 := am (blk_below (pk BK238.out) hb); replace HB := am (below_step (bl HB.out) hb); (try clear hb); (try clear hb2); (try clear hk); (try clear hi); (try clear ho0); have hnb43 := NB237_238.out; have hnc43 := NB238_237.out; have hcz44_0 : w42.cell? ⟨gb237, 0, none⟩ = some (.slice A1_0 l1_0.length c1_0) := bc BK237.out 0; have hcz44_1 : w42.cell? ⟨gb237, 1, none⟩ = some (.int .i64 a1_1) := bc BK237.out 1; have hcz44_2 : w42.cell? ⟨gb237, 2, none⟩ = some (.int .i64 a1_2) := bc BK237.out 2; have hfz44_0 := blk_frozen BK237.out 0; have hfz44_1 := blk_frozen BK237.out 1; have hfz44_2 := blk_frozen BK237.out 2; obtain ⟨Ao45, co45, eo45⟩ := Kd.R_slice HO247.out; subst eo45) | ((with_reducible refine gate_callee (f := 10) rfl ?_); refine gl (some 32) Try.func10 #[.agg #[.slice A1_0 l1_0.length c1_0, .int .i64 a1_1, .int .i64 a1_2], .int .i64 a2, .int .i64 a3, .slice Ao45 t245.length co45] ?_; (with_reducible refine (spec_BufReplace.calls kj4 _ _ l1_0 a1_1 a1_2 a2 a3 _ _ t245 t248 t251 t252 t253 t256 _ ?side1 ?side2 ?side3 ?side4 A35.out).mono ?_); (case side1 => repeat (first | exact (Kd.C_below HR1_0.out HB.out) | (with_reducible refine Kd.C_alloc ?_ _) | (with_reducible refine Kd.C_drewN ?_ _) | (with_reducible refine Kd.C_drew ?_))); (case side2 => exact HC1_0.out); (case side3 => repeat (first | exact (Kd.R_reads' HO247.out).2.2 | (with_reducible refine Kd.C_alloc ?_ _) | (with_reducible refine Kd.C_drewN ?_ _) | (with_reducible refine Kd.C_drew ?_))); (case side4 => exact (Kd.R_reads' HO247.out).2.1); rintro e w46 ⟨v249, v254, rfl, ho0, ho1, hb⟩; refine ⟨_, rfl, ?_⟩; replace HO243 := am (Kd.S_mono (Kd.S_told (Kd.S_told (Kd.S_old (ks HO243.out) hb) (Kd.R_base ho0)) (Kd.R_base ho1)) (fun _ h_ => h_.1)); have HO250 := am (Kd.R_lower (Kd.R_new' ho0 (Kd.R_lt (kr HO247.out))) (below_size (bl HB.out))); have HO255 := am (Kd.R_lower (Kd.R_new' ho1 (Kd.R_lt (kr HO247.out))) (below_size (bl HB.out))); replace HO247 := am (Kd.R_mono (Kd.R_told (Kd.R_told (Kd.R_old (kr HO247.out) hb) (Kd.R_base ho0)) (Kd.R_base ho1)) (fun _ h_ => h_.1)); replace BK236 := am (blk_below (pk BK236.out) hb); replace BK237 := am (blk_below (pk BK237.out) hb); replace BK238 := am (blk_below (pk BK238.out) hb); replace HB := am (below_step (bl HB.out) hb); (try clear hb); (try clear hb2); (try clear hk); (try clear hi); (try clear ho0); (try clear ho1)) | ((with_reducible refine gate_dst (N := 10) rfl ?_); refine box_event ?hg (N := 10) ?hd (cs := #[.slice none 0 0, .int .i64 0, .int .i64 0, .slice none 0 0, .int .i64 0]) (t := 28) ?hr ?_; (case hd => rfl); (case hg => rfl); (case hr => first | (go_simp; done) | (go_simp; rfl)); intro gb257 hg w47 hbox hb; replace HO243 := am (Kd.S_below (ks HO243.out) hb); replace HO247 := am (Kd.R_below (kr HO247.out) hb); replace HO250 := am (Kd.R_below (kr HO250.out) hb); replace HO255 := am (Kd.R_below (kr HO255.out) hb); have BK257 := am (hbox); have GW257 := am ((by rw [hg]; exact (below_size (bl HB.out)) : w.heap.size ≤ gb257)); have GE257 := GW257; replace HB := am (below_step (bl HB.out) hb); have NB236_257 := am ((by rw [hg]; exact Nat.ne_of_lt (blk_lt (pk BK236.out)) : gb236 ≠ gb257)); have NB257_236 := am ((by rw [hg]; exact Nat.ne_of_gt (blk_lt (pk BK236.out)) : gb257 ≠ gb236)); replace BK236 := am (blk_below (pk BK236.out) hb); have NB237_257 := am ((by rw [hg]; exact Nat.ne_of_lt (blk_lt (pk BK237.out)) : gb237 ≠ gb257)); have NB257_237 := am ((by rw [hg]; exact Nat.ne_of_gt (blk_lt (pk BK237.out)) : gb257 ≠ gb237)); replace BK237 := am (blk_below (pk BK237.out) hb); have NB238_257 := am ((by rw [hg]; exact Nat.ne_of_lt (blk_lt (pk BK238.out)) : gb238 ≠ gb257)); have NB257_238 := am ((by rw [hg]; exact Nat.ne_of_gt (blk_lt (pk BK238.out)) : gb257 ≠ gb238)); replace BK238 := am (blk_below (pk BK238.out) hb); clear hb hbox hg; obtain ⟨Ao48, co48, eo48⟩ := Kd.R_slice HO250.out; subst eo48; have hnb49 := NB257_236.out; have hnc49 := NB236_257.out; have hnb50 := NB257_237.out; have hnc50 := NB237_257.out; have hnb51 := NB257_238.out; have hnc51 := NB238_257.out; have hcz52_0 : w47.cell? ⟨gb257, 0, none⟩ = some (.slice none 0 0) := bc BK257.out 0; have hcz52_1 : w47.cell? ⟨gb257, 1, none⟩ = some (.int .i64 0) := bc BK257.out 1; have hcz52_2 : w47.cell? ⟨gb257, 2, none⟩ = some (.int .i64 0) := bc BK257.out 2; have hcz52_3 : w47.cell? ⟨gb257, 3, none⟩ = some (.slice none 0 0) := bc BK257.out 3; have hcz52_4 : w47.cell? ⟨gb257, 4, none⟩ = some (.int .i64 0) := bc BK257.out 4; have hfz52_0 := blk_frozen BK257.out 0; have hfz52_1 := blk_frozen BK257.out 1; have hfz52_2 := blk_frozen BK257.out 2; have hfz52_3 := blk_frozen BK257.out 3; have hfz52_4 := blk_frozen BK257.out 4; obtain ⟨Ao53, co53, eo53⟩ := Kd.R_slice HO255.out; subst eo53; have hcz54_0 : w47.cell? ⟨gb238, 0, none⟩ = some (.slice none 0 0) := bc BK238.out 0; have hcz54_1 : w47.cell? ⟨gb238, 1, none⟩ = some (.int .i64 0) := bc BK238.out 1; have hcz54_2 : w47.cell? ⟨gb238, 2, none⟩ = some (.int .i64 0) := bc BK238.out 2; have hcz54_3 : w47.cell? ⟨gb238, 3, none⟩ = some (.int .i64 0) := bc BK238.out 3; have hcz54_4 : w47.cell? ⟨gb238, 4, none⟩ = some (.int .i64 0) := bc BK238.out 4; have hcz54_5 : w47.cell? ⟨gb238, 5, none⟩ = some (.int .i64 0) := bc BK238.out 5; have hfz54_0 := blk_frozen BK238.out 0; have hfz54_1 := blk_frozen BK238.out 1; have hfz54_2 := blk_frozen BK238.out 2; have hfz54_3 := blk_frozen BK238.out 3; have hfz54_4 := blk_frozen BK238.out 4; have hfz54_5 := blk_frozen BK238.out 5))
      replace HO250 := am (Kd.R_types (Kd.R_types HO250.out BK257.out (by decide)) BK238.out (by decide))
      clear hcz52_0 hcz52_1 hcz52_2 hcz52_3 hcz52_4 hfz52_0 hfz52_1 hfz52_2 hfz52_3 hfz52_4 hcz54_0 hcz54_1 hcz54_2 hcz54_3 hcz54_4 hcz54_5 hfz54_0 hfz54_1 hfz54_2 hfz54_3 hfz54_4 hfz54_5 HO243 HO247 HO255
      have N_ := am (show (((((w47.setCell ⟨gb257, 0, none⟩ (.slice Ao48 t248.length co48)).setCell ⟨gb257, 1, none⟩ (.int .i64 t251)).setCell ⟨gb257, 2, none⟩ (.int .i64 t252)).setCell ⟨gb257, 3, none⟩ (.slice Ao53 t253.length co53)).setCell ⟨gb257, 4, none⟩ (.int .i64 t256)).heap[gb257]? = some (.cells #[.slice Ao48 t248.length co48, .int .i64 t251, .int .i64 t252, .slice Ao53 t253.length co53, .int .i64 t256] 28 (0, 0)) from (by refine blk_put (cs := #[.slice Ao48 t248.length co48, .int .i64 t251, .int .i64 t252, .slice Ao53 t253.length co53, .int .i64 0]) ?_ 4 _ rfl; refine blk_put (cs := #[.slice Ao48 t248.length co48, .int .i64 t251, .int .i64 t252, .slice none 0 0, .int .i64 0]) ?_ 3 _ rfl; refine blk_put (cs := #[.slice Ao48 t248.length co48, .int .i64 t251, .int .i64 0, .slice none 0 0, .int .i64 0]) ?_ 2 _ rfl; refine blk_put (cs := #[.slice Ao48 t248.length co48, .int .i64 0, .int .i64 0, .slice none 0 0, .int .i64 0]) ?_ 1 _ rfl; refine blk_put (cs := #[.slice none 0 0, .int .i64 0, .int .i64 0, .slice none 0 0, .int .i64 0]) ?_ 0 _ rfl; exact BK257.out))
      have M_ := am (show (((((w47.setCell ⟨gb257, 0, none⟩ (.slice Ao48 t248.length co48)).setCell ⟨gb257, 1, none⟩ (.int .i64 t251)).setCell ⟨gb257, 2, none⟩ (.int .i64 t252)).setCell ⟨gb257, 3, none⟩ (.slice Ao53 t253.length co53)).setCell ⟨gb257, 4, none⟩ (.int .i64 t256)).heap[gb238]? = some (.cells #[.slice none 0 0, .int .i64 0, .int .i64 0, .int .i64 0, .int .i64 0, .int .i64 0] 48 (0, 0)) from (by refine blk_far ?_ NB238_257.out _; refine blk_far ?_ NB238_257.out _; refine blk_far ?_ NB238_257.out _; refine blk_far ?_ NB238_257.out _; refine blk_far ?_ NB238_257.out _; exact BK238.out))
      replace HO250 := am (Kd.R_far (p := ⟨gb257, 4, none⟩) (Kd.R_far (p := ⟨gb257, 3, none⟩) (Kd.R_far (p := ⟨gb257, 2, none⟩) (Kd.R_far (p := ⟨gb257, 1, none⟩) (Kd.R_far (p := ⟨gb257, 0, none⟩) HO250.out (fun _ hk => hk.1.2) (.slice Ao48 t248.length co48)) (fun _ hk => hk.1.2) (.int .i64 t251)) (fun _ hk => hk.1.2) (.int .i64 t252)) (fun _ hk => hk.1.2) (.slice Ao53 t253.length co53)) (fun _ hk => hk.1.2) (.int .i64 t256))
      have B_ := am (show Below w.heap.size w (((((w47.setCell ⟨gb257, 0, none⟩ (.slice Ao48 t248.length co48)).setCell ⟨gb257, 1, none⟩ (.int .i64 t251)).setCell ⟨gb257, 2, none⟩ (.int .i64 t252)).setCell ⟨gb257, 3, none⟩ (.slice Ao53 t253.length co53)).setCell ⟨gb257, 4, none⟩ (.int .i64 t256)) from (bl HB.out))
      clear BK257 BK238 HB
      generalize (((((w47.setCell ⟨gb257, 0, none⟩ (.slice Ao48 t248.length co48)).setCell ⟨gb257, 1, none⟩ (.int .i64 t251)).setCell ⟨gb257, 2, none⟩ (.int .i64 t252)).setCell ⟨gb257, 3, none⟩ (.slice Ao53 t253.length co53)).setCell ⟨gb257, 4, none⟩ (.int .i64 t256)) = w60_ at N_ M_ B_ HO250 ⊢
      have BK257 := N_
      have BK238 := M_
      have HB := B_
      clear N_ M_ B_
      have hcza257_0 : w60_.cell? ⟨gb257, 0, none⟩ = some (.slice Ao48 t248.length co48) := bc BK257.out 0
      have hfza257_0 := blk_frozen BK257.out 0
      have hcza257_1 : w60_.cell? ⟨gb257, 1, none⟩ = some (.int .i64 t251) := bc BK257.out 1
      have hfza257_1 := blk_frozen BK257.out 1
      have hcza257_2 : w60_.cell? ⟨gb257, 2, none⟩ = some (.int .i64 t252) := bc BK257.out 2
      have hfza257_2 := blk_frozen BK257.out 2
      have hcza257_3 : w60_.cell? ⟨gb257, 3, none⟩ = some (.slice Ao53 t253.length co53) := bc BK257.out 3
      have hfza257_3 := blk_frozen BK257.out 3
      have hcza257_4 : w60_.cell? ⟨gb257, 4, none⟩ = some (.int .i64 t256) := bc BK257.out 4
      have hfza257_4 := blk_frozen BK257.out 4
      have hcza238_0 : w60_.cell? ⟨gb238, 0, none⟩ = some (.slice none 0 0) := bc BK238.out 0
      have hfza238_0 := blk_frozen BK238.out 0
      have hcza238_1 : w60_.cell? ⟨gb238, 1, none⟩ = some (.int .i64 0) := bc BK238.out 1
      have hfza238_1 := blk_frozen BK238.out 1
      have hcza238_2 : w60_.cell? ⟨gb238, 2, none⟩ = some (.int .i64 0) := bc BK238.out 2
      have hfza238_2 := blk_frozen BK238.out 2
      have hcza238_3 : w60_.cell? ⟨gb238, 3, none⟩ = some (.int .i64 0) := bc BK238.out 3
      have hfza238_3 := blk_frozen BK238.out 3
      have hcza238_4 : w60_.cell? ⟨gb238, 4, none⟩ = some (.int .i64 0) := bc BK238.out 4
      have hfza238_4 := blk_frozen BK238.out 4
      have hcza238_5 : w60_.cell? ⟨gb238, 5, none⟩ = some (.int .i64 0) := bc BK238.out 5
      have hfza238_5 := blk_frozen BK238.out 5
      go_upto_region 10 with (fail)
      clear hcza257_0 hfza257_0 hcza257_1 hfza257_1 hcza257_2 hfza257_2 hcza257_3 hfza257_3 hcza257_4 hfza257_4 hcza238_0 hfza238_0 hcza238_1 hfza238_1 hcza238_2 hfza238_2 hcza238_3 hfza238_3 hcza238_4 hfza238_4 hcza238_5 hfza238_5
      have N_ := am (show (w60_.setCell ⟨gb257, 1, none⟩ (.int .i64 (wrap64 (a2 + (t245.length : Int))))).heap[gb257]? = some (.cells #[.slice Ao48 t248.length co48, .int .i64 (wrap64 (a2 + (t245.length : Int))), .int .i64 t252, .slice Ao53 t253.length co53, .int .i64 t256] 28 (0, 0)) from (by refine blk_put (cs := #[.slice Ao48 t248.length co48, .int .i64 t251, .int .i64 t252, .slice Ao53 t253.length co53, .int .i64 t256]) ?_ 1 _ rfl; exact BK257.out))
      have M_ := am (show (w60_.setCell ⟨gb257, 1, none⟩ (.int .i64 (wrap64 (a2 + (t245.length : Int))))).heap[gb238]? = some (.cells #[.slice none 0 0, .int .i64 0, .int .i64 0, .int .i64 0, .int .i64 0, .int .i64 0] 48 (0, 0)) from (by refine blk_far ?_ NB238_257.out _; exact BK238.out))
      replace HO250 := am (Kd.R_far (p := ⟨gb257, 1, none⟩) HO250.out (fun _ hk => hk.1.2) (.int .i64 (wrap64 (a2 + (t245.length : Int)))))
      have B_ := am (show Below w.heap.size w (w60_.setCell ⟨gb257, 1, none⟩ (.int .i64 (wrap64 (a2 + (t245.length : Int))))) from (bl HB.out))
      clear BK257 BK238 HB
      generalize (w60_.setCell ⟨gb257, 1, none⟩ (.int .i64 (wrap64 (a2 + (t245.length : Int))))) = w61_ at N_ M_ B_ HO250 ⊢
      have BK257 := N_
      have BK238 := M_
      have HB := B_
      clear N_ M_ B_
      have hczb257_0 : w61_.cell? ⟨gb257, 0, none⟩ = some (.slice Ao48 t248.length co48) := bc BK257.out 0
      have hfzb257_0 := blk_frozen BK257.out 0
      have hczb257_1 : w61_.cell? ⟨gb257, 1, none⟩ = some (.int .i64 (wrap64 (a2 + (t245.length : Int)))) := bc BK257.out 1
      have hfzb257_1 := blk_frozen BK257.out 1
      have hczb257_2 : w61_.cell? ⟨gb257, 2, none⟩ = some (.int .i64 t252) := bc BK257.out 2
      have hfzb257_2 := blk_frozen BK257.out 2
      have hczb257_3 : w61_.cell? ⟨gb257, 3, none⟩ = some (.slice Ao53 t253.length co53) := bc BK257.out 3
      have hfzb257_3 := blk_frozen BK257.out 3
      have hczb257_4 : w61_.cell? ⟨gb257, 4, none⟩ = some (.int .i64 t256) := bc BK257.out 4
      have hfzb257_4 := blk_frozen BK257.out 4
      have hczb238_0 : w61_.cell? ⟨gb238, 0, none⟩ = some (.slice none 0 0) := bc BK238.out 0
      have hfzb238_0 := blk_frozen BK238.out 0
      have hczb238_1 : w61_.cell? ⟨gb238, 1, none⟩ = some (.int .i64 0) := bc BK238.out 1
      have hfzb238_1 := blk_frozen BK238.out 1
      have hczb238_2 : w61_.cell? ⟨gb238, 2, none⟩ = some (.int .i64 0) := bc BK238.out 2
      have hfzb238_2 := blk_frozen BK238.out 2
      have hczb238_3 : w61_.cell? ⟨gb238, 3, none⟩ = some (.int .i64 0) := bc BK238.out 3
      have hfzb238_3 := blk_frozen BK238.out 3
      have hczb238_4 : w61_.cell? ⟨gb238, 4, none⟩ = some (.int .i64 0) := bc BK238.out 4
      have hfzb238_4 := blk_frozen BK238.out 4
      have hczb238_5 : w61_.cell? ⟨gb238, 5, none⟩ = some (.int .i64 0) := bc BK238.out 5
      have hfzb238_5 := blk_frozen BK238.out 5
      go_wp2
      refine bodyPost_ret (results_cell_row rfl _ _ gb238 48 #[.slice Ao48 t248.length co48, .int .i64 (wrap64 (a2 + (t245.length : Int))), .int .i64 t252, .int .i64 a2, .int .i64 (wrap64 (a2 + (t245.length : Int))), .int .i64 0] (0, 0) _ rfl (by refine blk_put (cs := #[.slice Ao48 t248.length co48, .int .i64 (wrap64 (a2 + (t245.length : Int))), .int .i64 t252, .int .i64 a2, .int .i64 (wrap64 (a2 + (t245.length : Int))), .int .i64 0]) ?_ 5 _ rfl; refine blk_put (cs := #[.slice Ao48 t248.length co48, .int .i64 (wrap64 (a2 + (t245.length : Int))), .int .i64 t252, .int .i64 a2, .int .i64 0, .int .i64 0]) ?_ 4 _ rfl; refine blk_put (cs := #[.slice Ao48 t248.length co48, .int .i64 (wrap64 (a2 + (t245.length : Int))), .int .i64 t252, .int .i64 0, .int .i64 0, .int .i64 0]) ?_ 3 _ rfl; refine blk_put (cs := #[.slice Ao48 t248.length co48, .int .i64 (wrap64 (a2 + (t245.length : Int))), .int .i64 0, .int .i64 0, .int .i64 0, .int .i64 0]) ?_ 2 _ rfl; refine blk_put (cs := #[.slice Ao48 t248.length co48, .int .i64 0, .int .i64 0, .int .i64 0, .int .i64 0, .int .i64 0]) ?_ 1 _ rfl; refine blk_put (cs := #[.slice none 0 0, .int .i64 0, .int .i64 0, .int .i64 0, .int .i64 0, .int .i64 0]) ?_ 0 _ rfl; exact BK238.out) Try.underlying48 rfl (by kernel_rfl)) rfl ?_
      exact ⟨_, by first | rfl | (simp [errW_none, errW_some] <;> rfl) | (simp [*, errW_none, errW_some] <;> rfl), Kd.R_mono (Kd.R_far (p := ⟨gb238, 5, none⟩) (Kd.R_far (p := ⟨gb238, 4, none⟩) (Kd.R_far (p := ⟨gb238, 3, none⟩) (Kd.R_far (p := ⟨gb238, 2, none⟩) (Kd.R_far (p := ⟨gb238, 1, none⟩) (Kd.R_far (p := ⟨gb238, 0, none⟩) HO250.out (fun _ hk => hk.2) (.slice Ao48 t248.length co48)) (fun _ hk => hk.2) (.int .i64 (wrap64 (a2 + (t245.length : Int))))) (fun _ hk => hk.2) (.int .i64 t252)) (fun _ hk => hk.2) (.int .i64 a2)) (fun _ hk => hk.2) (.int .i64 (wrap64 (a2 + (t245.length : Int))))) (fun _ hk => hk.2) (.int .i64 0)) (fun _ hk => by first | trivial | exact hk.1.1), bl HB.out⟩
     ·rw [if_neg c36] at H
      have c36b0 : (t256 == 0) = false := beq_eq_false_iff_ne.mpr c36
      have c36b1 : (t256 != 0) = true := bne_iff_ne.mpr c36
      simp only [Option.some.injEq, Prod.mk.injEq] at H
      obtain ⟨rfl, rfl, rfl, rfl, rfl, rfl⟩ := H
      have hnb55 := NB236_237.out
      have hnc55 := NB237_236.out
      have hnb56 := NB236_238.out
      have hnc56 := NB238_236.out
      have hcz57_0 : wc.cell? ⟨gb236, 0, none⟩ = some (.slice A0_0 l0_0.length c0_0) := bc BK236.out 0
      have hcz57_1 : wc.cell? ⟨gb236, 1, none⟩ = some (.int .i64 a0_1) := bc BK236.out 1
      have hfz57_0 := blk_frozen BK236.out 0
      have hfz57_1 := blk_frozen BK236.out 1
      go_wp2_with (first | ((with_reducible refine gate_callee (f := 58) rfl ?_); refine gl (some 26) Try.func58 #[.agg #[.slice A0_0 l0_0.length c0_0, .int .i64 a0_1]] ?_; (with_reducible refine (spec_RingTurn.calls kj4 _ _ l0_0 a0_1 t241 t244 _ ?side1 ?side2 A33.out).mono ?_); (case side1 => repeat (first | exact (Kd.C_below HR0_0.out HB.out) | (with_reducible refine Kd.C_alloc ?_ _) | (with_reducible refine Kd.C_drewN ?_ _) | (with_reducible refine Kd.C_drew ?_))); (case side2 => exact HC0_0.out); rintro e w58 ⟨v242, rfl, ho0, hb⟩; refine ⟨_, rfl, ?_⟩; have HO243 := am (Kd.S_lower ho0 (below_size (bl HB.out))); replace BK236 := am (blk_below (pk BK236.out) hb); replace BK237 := am (blk_below (pk BK237.out) hb); replace BK238 := am (blk_below (pk BK238.out) hb); replace HB := am (below_step (bl HB.out) hb); (try clear hb); (try clear hb2); (try clear hk); (try clear hi); (try clear ho0); obtain ⟨Ao59, co59, eo59⟩ := Kd.S_slice HO243.out; subst eo59) | ((with_reducible refine gate_callee (f := 52) rfl ?_); refine gl (some 27) Try.func52 #[.agg #[.slice Ao59 t241.length co59, .int .i64 t244]] ?_; (with_reducible refine (spec_RingTop.calls kj4 _ _ t241 t244 t245 _ ?side1 ?side2 A34.out).mono ?_); (case side1 => repeat (first | exact (Kd.S_reads' HO243.out).2.2 | (with_reducible refine Kd.C_alloc ?_ _) | (with_reducible refine Kd.C_drewN ?_ _) | (with_reducible refine Kd.C_drew ?_))); (case side2 => exact (Kd.S_reads' HO243.out).2.1); rintro e w60 ⟨v246, rfl, ho0, hb⟩; refine ⟨_, rfl, ?_⟩; replace HO243 := am (Kd.S_elder' (ks HO243.out) (Kd.R_base ho0) hb); have HO247 := am (Kd.R_lower ho0 (below_size (bl HB.out))); replace BK236 := am (blk_below (pk BK236.out) hb); replace BK237 := am (blk_below (pk BK237.out) hb); replace BK238 := am (blk_below (pk BK238.out) hb); replace HB := am (below_step (bl HB.out) hb); (try clear hb); (try clear hb2); (try clear hk); (try clear hi); (try clear ho0); have hnb61 := NB237_238.out; have hnc61 := NB238_237.out; have hcz62_0 : w60.cell? ⟨gb237, 0, none⟩ = some (.slice A1_0 l1_0.length c1_0) := bc BK237.out 0; have hcz62_1 : w60.cell? ⟨gb237, 1, none⟩ = some (.int .i64 a1_1) := bc BK237.out 1; have hcz62_2 : w60.cell? ⟨gb237, 2, none⟩ = some (.int .i64 a1_2) := bc BK237.out 2; have hfz62_0 := blk_frozen BK237.out 0; have hfz62_1 := blk_frozen BK237.out 1; have hfz62_2 := blk_frozen BK237.out 2; obtain ⟨Ao63, co63, eo63⟩ := Kd.R_slice HO247.out; subst eo63) | ((with_reducible refine gate_callee (f := 10) rfl ?_); refine gl (some 32) Try.func10 #[.agg #[.slice A1_0 l1_0.length c1_0, .int .i64 a1_1, .int .i64 a1_2], .int .i64 a2, .int .i64 a3, .slice Ao63 t245.length co63] ?_; (with_reducible refine (spec_BufReplace.calls kj4 _ _ l1_0 a1_1 a1_2 a2 a3 _ _ t245 t248 t251 t252 t253 t256 _ ?side1 ?side2 ?side3 ?side4 A35.out).mono ?_); (case side1 => repeat (first | exact (Kd.C_below HR1_0.out HB.out) | (with_reducible refine Kd.C_alloc ?_ _) | (with_reducible refine Kd.C_drewN ?_ _) | (with_reducible refine Kd.C_drew ?_))); (case side2 => exact HC1_0.out); (case side3 => repeat (first | exact (Kd.R_reads' HO247.out).2.2 | (with_reducible refine Kd.C_alloc ?_ _) | (with_reducible refine Kd.C_drewN ?_ _) | (with_reducible refine Kd.C_drew ?_))); (case side4 => exact (Kd.R_reads' HO247.out).2.1); rintro e w64 ⟨v249, v254, rfl, ho0, ho1, hb⟩; refine ⟨_, rfl, ?_⟩; replace HO243 := am (Kd.S_mono (Kd.S_told (Kd.S_told (Kd.S_old (ks HO243.out) hb) (Kd.R_base ho0)) (Kd.R_base ho1)) (fun _ h_ => h_.1)); have HO250 := am (Kd.R_lower (Kd.R_new' ho0 (Kd.R_lt (kr HO247.out))) (below_size (bl HB.out))); have HO255 := am (Kd.R_lower (Kd.R_new' ho1 (Kd.R_lt (kr HO247.out))) (below_size (bl HB.out))); replace HO247 := am (Kd.R_mono (Kd.R_told (Kd.R_told (Kd.R_old (kr HO247.out) hb) (Kd.R_base ho0)) (Kd.R_base ho1)) (fun _ h_ => h_.1)); replace BK236 := am (blk_below (pk BK236.out) hb); replace BK237 := am (blk_below (pk BK237.out) hb); replace BK238 := am (blk_below (pk BK238.out) hb); replace HB := am (below_step (bl HB.out) hb); (try clear hb); (try clear hb2); (try clear hk); (try clear hi); (try clear ho0); (try clear ho1)) | ((with_reducible refine gate_dst (N := 10) rfl ?_); refine box_event ?hg (N := 10) ?hd (cs := #[.slice none 0 0, .int .i64 0, .int .i64 0, .slice none 0 0, .int .i64 0]) (t := 28) ?hr ?_; (case hd => rfl); (case hg => rfl); (case hr => first | (go_simp; done) | (go_simp; rfl)); intro gb257 hg w65 hbox hb; replace HO243 := am (Kd.S_below (ks HO243.out) hb); replace HO247 := am (Kd.R_below (kr HO247.out) hb); replace HO250 := am (Kd.R_below (kr HO250.out) hb); replace HO255 := am (Kd.R_below (kr HO255.out) hb); have BK257 := am (hbox); have GW257 := am ((by rw [hg]; exact (below_size (bl HB.out)) : w.heap.size ≤ gb257)); have GE257 := GW257; replace HB := am (below_step (bl HB.out) hb); have NB236_257 := am ((by rw [hg]; exact Nat.ne_of_lt (blk_lt (pk BK236.out)) : gb236 ≠ gb257)); have NB257_236 := am ((by rw [hg]; exact Nat.ne_of_gt (blk_lt (pk BK236.out)) : gb257 ≠ gb236)); replace BK236 := am (blk_below (pk BK236.out) hb); have NB237_257 := am ((by rw [hg]; exact Nat.ne_of_lt (blk_lt (pk BK237.out)) : gb237 ≠ gb257)); have NB257_237 := am ((by rw [hg]; exact Nat.ne_of_gt (blk_lt (pk BK237.out)) : gb257 ≠ gb237)); replace BK237 := am (blk_below (pk BK237.out) hb); have NB238_257 := am ((by rw [hg]; exact Nat.ne_of_lt (blk_lt (pk BK238.out)) : gb238 ≠ gb257)); have NB257_238 := am ((by rw [hg]; exact Nat.ne_of_gt (blk_lt (pk BK238.out)) : gb257 ≠ gb238)); replace BK238 := am (blk_below (pk BK238.out) hb); clear hb hbox hg; obtain ⟨Ao66, co66, eo66⟩ := Kd.R_slice HO250.out; subst eo66; have hnb67 := NB257_236.out; have hnc67 := NB236_257.out; have hnb68 := NB257_237.out; have hnc68 := NB237_257.out; have hnb69 := NB257_238.out; have hnc69 := NB238_257.out; have hcz70_0 : w65.cell? ⟨gb257, 0, none⟩ = some (.slice none 0 0) := bc BK257.out 0; have hcz70_1 : w65.cell? ⟨gb257, 1, none⟩ = some (.int .i64 0) := bc BK257.out 1; have hcz70_2 : w65.cell? ⟨gb257, 2, none⟩ = some (.int .i64 0) := bc BK257.out 2; have hcz70_3 : w65.cell? ⟨gb257, 3, none⟩ = some (.slice none 0 0) := bc BK257.out 3; have hcz70_4 : w65.cell? ⟨gb257, 4, none⟩ = some (.int .i64 0) := bc BK257.out 4; have hfz70_0 := blk_frozen BK257.out 0; have hfz70_1 := blk_frozen BK257.out 1; have hfz70_2 := blk_frozen BK257.out 2; have hfz70_3 := blk_frozen BK257.out 3; have hfz70_4 := blk_frozen BK257.out 4; obtain ⟨Ao71, co71, eo71⟩ := Kd.R_slice HO255.out; subst eo71; have hcz72_0 : w65.cell? ⟨gb238, 0, none⟩ = some (.slice none 0 0) := bc BK238.out 0; have hcz72_1 : w65.cell? ⟨gb238, 1, none⟩ = some (.int .i64 0) := bc BK238.out 1; have hcz72_2 : w65.cell? ⟨gb238, 2, none⟩ = some (.int .i64 0) := bc BK238.out 2; have hcz72_3 : w65.cell? ⟨gb238, 3, none⟩ = some (.int .i64 0) := bc BK238.out 3; have hcz72_4 : w65.cell? ⟨gb238, 4, none⟩ = some (.int .i64 0) := bc BK238.out 4; have hcz72_5 : w65.cell? ⟨gb238, 5, none⟩ = some (.int .i64 0) := bc BK238.out 5; have hfz72_0 := blk_frozen BK238.out 0; have hfz72_1 := blk_frozen BK238.out 1; have hfz72_2 := blk_frozen BK238.out 2; have hfz72_3 := blk_frozen BK238.out 3; have hfz72_4 := blk_frozen BK238.out 4; have hfz72_5 := blk_frozen BK238.out 5))
      refine bodyPost_ret (results_cell_row rfl _ _ gb238 48 #[.slice none 0 0, .int .i64 0, .int .i64 0, .int .i64 0, .int .i64 0, .int .i64 t256] (0, 0) _ rfl (by refine pk ?_; refine blk_put (cs := #[.slice none 0 0, .int .i64 0, .int .i64 0, .int .i64 0, .int .i64 0, .int .i64 0]) ?_ 5 _ rfl; refine pk ?_; refine blk_put (cs := #[.slice none 0 0, .int .i64 0, .int .i64 0, .int .i64 0, .int .i64 0, .int .i64 0]) ?_ 4 _ rfl; refine pk ?_; refine blk_put (cs := #[.slice none 0 0, .int .i64 0, .int .i64 0, .int .i64 0, .int .i64 0, .int .i64 0]) ?_ 3 _ rfl; refine pk ?_; refine blk_put (cs := #[.slice none 0 0, .int .i64 0, .int .i64 0, .int .i64 0, .int .i64 0, .int .i64 0]) ?_ 2 _ rfl; refine pk ?_; refine blk_put (cs := #[.slice none 0 0, .int .i64 0, .int .i64 0, .int .i64 0, .int .i64 0, .int .i64 0]) ?_ 1 _ rfl; refine pk ?_; refine blk_put (cs := #[.slice none 0 0, .int .i64 0, .int .i64 0, .int .i64 0, .int .i64 0, .int .i64 0]) ?_ 0 _ rfl; refine pk ?_; refine blk_far ?_ NB238_257.out _; refine pk ?_; refine blk_far ?_ NB238_257.out _; refine pk ?_; refine blk_far ?_ NB238_257.out _; refine pk ?_; refine blk_far ?_ NB238_257.out _; refine pk ?_; refine blk_far ?_ NB238_257.out _; refine pk ?_; exact BK238.out) Try.underlying48 rfl (by kernel_rfl)) rfl ?_
      exact ⟨_, by first | rfl | (simp [errW_none, errW_some] <;> rfl) | (simp [*, errW_none, errW_some] <;> rfl), by first | exact Kd.R_nil _ _ _ _ _ | exact Kd.N_nil _ _ _ _ _ | exact Kd.V_nil _ _ _ _ _ | exact Kd.Q_nil _ _ _ _ _ | exact Kd.S_nil _ _ _ _ _, by repeat (first | (with_reducible first | exact HB.out | apply below_alloc | apply pw_below_drewN | apply below_drew1 | refine below_set ?_ GE236.out | refine below_set ?_ GE237.out | refine below_set ?_ GE238.out | refine below_set ?_ GE257.out) | exact HB.out)⟩

/-! ### impl_size_int64: function 55 -/
def impl_size_int64.f (l0 : List Int) : Option (Int) := some (l0.length : Int)
theorem impl_size_int64.calls (A0 : Option Addr) (c0 : Nat) (l0 : List Int) (r : Int) (w : World) (h : impl_size_int64.f l0 = some r) :
  Calls Try.prog 55 #[.slice A0 l0.length c0] w fun e w' => e = .returned (.int .i64 r) ∧ Drawn0 w w' := by
 obtain rfl := Option.some.inj h
 go_enter Try.func55, Try.ntmps55
 go_wp2
 go_ret
 exact ⟨by first | rfl | (simp; done), Drawn0.refl _⟩

/-! ### impl_replace_1: function 70 -/
def impl_replace_1.f (a0 x1 x2 x3 : Int) : Option Int := if a0 ≤ x1 then some a0 else (if a0 < x2 then some x1 else some (wrap64 (a0 + x3)))
theorem impl_replace_1.calls (a0 : Int) (p1 : Addr) (x1 : Int) (p2 : Addr) (x2 : Int) (p3 : Addr) (x3 : Int) (r1 : Int) (w : World) (hp1 : AtP w p1 0 [.int .i64 x1]) (hp2 : AtP w p2 0 [.int .i64 x2]) (hp3 : AtP w p3 0 [.int .i64 x3]) (h : impl_replace_1.f a0 x1 x2 x3 = some r1) :
  Calls Try.prog 70 #[.int .i64 a0, .pointer (some p1), .pointer (some p2), .pointer (some p3)] w fun e w' => e = .returned (.int .i64 r1) ∧ Drawn0 w w' := by
 have hc1 : w.cell? p1 = some (.int .i64 x1) := hp1.1
 have hc2 : w.cell? p2 = some (.int .i64 x2) := hp2.1
 have hc3 : w.cell? p3 = some (.int .i64 x3) := hp3.1
 unfold impl_replace_1.f at h
 by_cases c1 : a0 ≤ x1
 ·rw [if_pos c1] at h
  obtain rfl := Option.some.inj h
  have c1b : decide (a0 ≤ x1) = true := decide_eq_true c1
  go_enter Try.func70, Try.ntmps70
  go_wp2
  go_ret
  exact ⟨rfl, Drawn0.refl _⟩
 ·rw [if_neg c1] at h
  have c1b : decide (a0 ≤ x1) = false := decide_eq_false c1
  by_cases c2 : a0 < x2
  ·rw [if_pos c2] at h
   obtain rfl := Option.some.inj h
   have c2b : decide (a0 < x2) = true := decide_eq_true c2
   go_enter Try.func70, Try.ntmps70
   go_wp2
   go_ret
   exact ⟨rfl, Drawn0.refl _⟩
  ·rw [if_neg c2] at h
   obtain rfl := Option.some.inj h
   have c2b : decide (a0 < x2) = false := decide_eq_false c2
   go_enter Try.func70, Try.ntmps70
   go_wp2
   try go_ret
   exact ⟨by first | rfl | simp, Drawn0.refl _⟩

/-! ### slices_Grow_sint64_int64: function 79 -/
def slices_Grow_sint64_int64.f (l0 : List Int) (a1 : Int) : Option (List Int) := if l0.length = 0 then (if 0 ≤ a1 then (if a1.toNat < 17592186044416 then (some []) else none) else none) else none
theorem slices_Grow_sint64_int64.calls (A0 : Option Addr) (c0 : Nat) (l0 : List Int) (a1 : Int) (r : List Int) (w : World) (hr0 : Kd.C (Kd.int .i64) w A0 l0.length l0) (hc0 : l0.length ≤ c0) (h : slices_Grow_sint64_int64.f l0 a1 = some r) (hA0 : A0 = none := by rfl) (hz0 : c0 = 0 := by rfl) :
  Calls Try.prog 79 #[.slice A0 l0.length c0, .int .i64 a1] w fun e w' => ∃ v0_ : Value, e = .returned (v0_) ∧ Kd.R (Kd.int .i64) 2 w' w.heap.size (fun _ => True) v0_ r ∧ Below w.heap.size w w' := by
 subst hA0 hz0
 unfold slices_Grow_sint64_int64.f at h
 by_cases hl : l0.length = 0
 ·rw [if_pos hl] at h
  obtain rfl := List.eq_nil_of_length_eq_zero hl
  by_cases h0 : 0 ≤ a1
  ·rw [if_pos h0] at h
   by_cases h1 : a1.toNat < 17592186044416
   ·rw [if_pos h1] at h
    obtain rfl := Option.some.inj h
    obtain ⟨k, rfl⟩ : ∃ k : Nat, a1 = (k : Int) := ⟨a1.toNat, by omega⟩
    have c0b : ¬ ((k : Int) < 0) := by omega
    have w0_ : wrap64 ((0 : Int) - 0) = 0 := by unfold wrap64; omega
    have w0n_ : wrap64 (((0 : Nat) : Int) - ((0 : Nat) : Int)) = 0 := by unfold wrap64; omega
    have w1_ : wrap64 ((k : Int) - 0) = k := by unfold wrap64; omega
    show Calls Try.prog 79 #[.slice none 0 0, .int .i64 k] w _
    rcases Nat.eq_zero_or_pos k with rfl | hk
    ·go_enter Try.func79, Try.ntmps79
     go_wp2
     go_ret
     exact ⟨_, rfl, Kd.R_nil _ _ _ _ _, Below.refl _ _⟩
    ·have c2b : (0 : Int) < (k : Int) := by omega
     obtain ⟨G, hG⟩ : ∃ G, G = grownCap w (0 + k) 0 2 := ⟨_, rfl⟩
     have hfit : Builtin.nextslicecap (0 + k) 0 * 8 ≤ 281474976710656 := growslice_fits (by omega) (by omega)
     obtain ⟨i_, hi_, hiz_, his_, hib_⟩ : ∃ i, Try.prog.info? 2 = some i ∧ i.zero = some ((.int .i64 0)) ∧ i.size = 1 ∧ i.bytes = 8 := by
      have hI := info2
      generalize Try.prog.info? 2 = x at hI
      cases x with
      | none => cases hI
      | some i => exact ⟨i, rfl, by simpa using congrArg (fun q => q.map (·.1)) hI, by simpa using congrArg (fun q => q.map (·.2.1)) hI, by simpa using congrArg (fun q => q.map (·.2.2)) hI⟩
     have hrz : ∀ ty, (Builtin.append_ #[22, 3] ty #[.slice none 0 0, .int .i64 (k : Int)]).run Try.prog w = .ok (.slice (some ⟨w.heap.size, 0, none⟩) k G) (w.drew.alloc (.cells (([] : List Value).toArray ++ Builtin.zeroCells ((.int .i64 0) : Value).cells k ++ Builtin.zeroCells ((.int .i64 0) : Value).cells (G - k)) 2)) := fun ty => by
      have h := Lib.run_append_grow_zeros w 22 3 ty 2 i_ ((.int .i64 0)) .i64 .i64 Try.underlying22 Try.underlying3 hi_ hiz_ none 0 0 [] (run_firstCells_none w.drew i_.size 0 0 0) k hk (by omega) (by omega) (by omega) (by rw [hib_]; omega) (by rw [hib_]; exact hfit)
      rw [← hG, Nat.zero_add] at h
      exact h
     have hGk : k ≤ G := by rw [hG]; exact Nat.le_trans (Nat.le_of_eq (Nat.zero_add k).symm) (grownCap_ge w _ _ _)
     have hGm : G ≤ maxLen := by rw [hG]; exact grownCap_le_maxLen w _ _ _ (by unfold maxLen; omega)
     have hG63 : G ≤ 9223372036854775807 := by unfold maxLen at hGm; exact hGm
     clear hG hi_ hiz_ his_ hib_ hfit
     go_enter Try.func79, Try.ntmps79
     go_wp2_with (at_builtin; refine Lib.wpList_append_run _ rfl _ _ _ _ rfl _ _ rfl rfl _ _ (hrz _) ?_)
     go_ret
     exact ⟨_, rfl, ⟨fun _ _ => trivial, [], ⟨rfl, .inr ⟨w.heap.size, G, _, rfl, Nat.le_refl _, (by show (w.heap.push _)[w.heap.size]? = _; exact Array.getElem?_push_size), Nat.zero_le _, hGm, (by simp only [Array.size_append, size_zeroCells]; show k * 1 + (G - k) * 1 = G * 1; omega), (by simp)⟩⟩, Reps.none _ _⟩, (by (with_reducible repeat (first | apply below_alloc | apply pw_below_drewN | apply below_drew1)); exact Below.refl _ _)⟩
   ·rw [if_neg h1] at h; cases h
  ·rw [if_neg h0] at h; cases h
 ·rw [if_neg hl] at h; cases h

/-! ### slices_Concat_sint64_int64: function 71 -/
mutual
def slices_Concat_sint64_int64.l0 : Nat → List (List Int) → Int → List (List Int) → Int → Int → Option (List Int)
 | 0, _, _, _, _, _ => none
 | k + 1, x0, x3, x9, x10, x11 => if x11 < x10 then (if 0 ≤ x11 then (if x11 < (x9.length : Int) then (if (wrap64 (x3 + ((rd_L1 x9 x11).length : Int))) < 0 then (none) else (slices_Concat_sint64_int64.l0 k x0 (wrap64 (x3 + ((rd_L1 x9 x11).length : Int))) x9 x10 (wrap64 (x11 + 1)))) else (none)) else (none)) else ((slices_Grow_sint64_int64.f ([] : List Int) x3).bind fun t259 => (slices_Concat_sint64_int64.l1 k t259 x0 (x0.length : Int) 0))
def slices_Concat_sint64_int64.l1 : Nat → List Int → List (List Int) → Int → Int → Option (List Int)
 | 0, _, _, _, _ => none
 | k + 1, x6, x25, x26, x27 => if x27 < x26 then (if 0 ≤ x27 then (if x27 < (x25.length : Int) then (if x6.length + (rd_L1 x25 x27).length < 17592186044416 then (slices_Concat_sint64_int64.l1 k (x6 ++ (rd_L1 x25 x27)) x25 x26 (wrap64 (x27 + 1))) else (none)) else (none)) else (none)) else (some x6)
end
def slices_Concat_sint64_int64.f (k : Nat) (l0 : List (List Int)) : Option (List Int) := slices_Concat_sint64_int64.l0 k l0 0 l0 (l0.length : Int) 0
theorem slices_Concat_sint64_int64.mono_l : ∀ k, (∀ y0 y1 y2 y3 y4, LeO (slices_Concat_sint64_int64.l0 k y0 y1 y2 y3 y4) (slices_Concat_sint64_int64.l0 (k + 1) y0 y1 y2 y3 y4)) ∧ (∀ y0 y1 y2 y3, LeO (slices_Concat_sint64_int64.l1 k y0 y1 y2 y3) (slices_Concat_sint64_int64.l1 (k + 1) y0 y1 y2 y3))
 | 0 => ⟨fun _ _ _ _ _ r h => by simp [slices_Concat_sint64_int64.l0] at h, fun _ _ _ _ r h => by simp [slices_Concat_sint64_int64.l1] at h⟩
 | k + 1 => by
  obtain ⟨ih0, ih1⟩ := slices_Concat_sint64_int64.mono_l k
  refine ⟨?_, ?_⟩
  ·intro y0 y1 y2 y3 y4
   unfold slices_Concat_sint64_int64.l0
   repeat' first
   | (with_reducible exact ih0 _ _ _ _ _)
   | (with_reducible exact ih1 _ _ _ _)
   | (with_reducible exact LeO.refl _)
   | (with_reducible exact LeO.none _)
   | (with_reducible refine LeO.ite ?_ ?_)
   | (with_reducible refine LeO.bind ?_ (fun _ => ?_))
   | exact ih0 _ _ _ _ _
   | exact ih1 _ _ _ _
   | refine LeO.bind ?_ (fun _ => ?_)
  ·intro y0 y1 y2 y3
   unfold slices_Concat_sint64_int64.l1
   repeat' first
   | (with_reducible exact ih0 _ _ _ _ _)
   | (with_reducible exact ih1 _ _ _ _)
   | (with_reducible exact LeO.refl _)
   | (with_reducible exact LeO.none _)
   | (with_reducible refine LeO.ite ?_ ?_)
   | (with_reducible refine LeO.bind ?_ (fun _ => ?_))
   | exact ih0 _ _ _ _ _
   | exact ih1 _ _ _ _
   | refine LeO.bind ?_ (fun _ => ?_)
theorem slices_Concat_sint64_int64.mono : ∀ a0 k, LeO (slices_Concat_sint64_int64.f k a0) (slices_Concat_sint64_int64.f (k + 1) a0) := by
 intro a0 k
 obtain ⟨ih0, ih1⟩ := slices_Concat_sint64_int64.mono_l k
 unfold slices_Concat_sint64_int64.f
 repeat' first
   | (with_reducible exact ih0 _ _ _ _ _)
   | (with_reducible exact ih1 _ _ _ _)
   | (with_reducible exact LeO.refl _)
   | (with_reducible exact LeO.none _)
   | (with_reducible refine LeO.ite ?_ ?_)
   | (with_reducible refine LeO.bind ?_ (fun _ => ?_))
   | exact ih0 _ _ _ _ _
   | exact ih1 _ _ _ _
   | refine LeO.bind ?_ (fun _ => ?_)
theorem slices_Concat_sint64_int64.calls (k : Nat) (A0 : Option Addr) (c0 : Nat) (l0 : List (List Int)) (r : List Int) (w : World) (hr0 : Kd.C (Kd.slice 2 (Kd.int .i64)) w A0 l0.length l0) (hc0 : l0.length ≤ c0) (h : slices_Concat_sint64_int64.f k l0 = some r) :
  Calls Try.prog 71 #[.slice A0 l0.length c0] w fun e w' => ∃ v0_ : Value, e = .returned (v0_) ∧ Kd.R (Kd.int .i64) 2 w' w.heap.size (fun _ => True) v0_ r ∧ Below w.heap.size w w' := by
 have HR0 := am hr0
 have HC0 := am hc0
 clear hr0 hc0
 have HB := am (Below.refl w.heap.size w)
 have H : (slices_Concat_sint64_int64.l0 k l0 0 l0 (l0.length : Int) 0) = some r := h
 clear h
 have H' := Aside0.mk H
 clear H
 go_enter Try.func71, Try.ntmps71
 go_wp2
 go_loopg [3, 11] k (fun kq v3 v11 w' => ∃ (x3_1 : Int) (x11_1 : Int), v3 = .int .i64 x3_1 ∧ v11 = .int .i64 x11_1 ∧ Aside0 (slices_Concat_sint64_int64.l0 kq l0 x3_1 l0 (l0.length : Int) x11_1 = some r) ∧ Aside0 (kq ≤ k) ∧ Aside0 (Below w.heap.size w w'))
 case atStart => exact ⟨(0), (0), (by first | rfl | (simp; done) | (simp [*]; done)), (by first | rfl | (simp; done) | (simp [*]; done)), H', ⟨Nat.le_refl _⟩, ⟨by repeat (first | (with_reducible first | exact HB.out | apply below_alloc | apply pw_below_drewN | apply below_drew1) | exact HB.out)⟩⟩
 case round =>
  clear H'
  obtain ⟨x3_1, x11_1, rfl, rfl, HA, HK1, HB⟩ := hrel
  cases gk with
  | zero => exact absurd HA.out (by simp [slices_Concat_sint64_int64.l0])
  | succ k1 =>
   have H := HA.out
   clear HA
   simp only [slices_Concat_sint64_int64.l0] at H
   by_cases c2 : x11_1 < (l0.length : Int)
   ·rw [if_pos c2] at H
    have c2b0 : decide (x11_1 < (l0.length : Int)) = true := decide_eq_true c2
    clear c2
    by_cases c3 : 0 ≤ x11_1
    ·rw [if_pos c3] at H
     have c3b0 : decide (0 ≤ x11_1) = true := decide_eq_true c3
     clear c3
     by_cases c4 : x11_1 < (l0.length : Int)
     ·rw [if_pos c4] at H
      have c4b0 : decide (x11_1 < (l0.length : Int)) = true := decide_eq_true c4
      clear c4
      by_cases c5 : (wrap64 (x3_1 + ((rd_L1 l0 x11_1).length : Int))) < 0
      ·rw [if_pos c5] at H
       exact absurd H (by simp)
      ·rw [if_neg c5] at H
       have c5b0 : decide ((wrap64 (x3_1 + ((rd_L1 l0 x11_1).length : Int))) < 0) = false := decide_eq_false c5
       clear c5
       have H' := Aside0.mk H
       clear H
       have p258 : 0 ≤ (x11_1 : Int) := of_decide_eq_true (by first | (with_reducible assumption) | assumption)
       have q258 : x11_1 < (l0.length : Int) := of_decide_eq_true (by first | (with_reducible assumption) | assumption)
       obtain ⟨ad258, A258_0, c258_0, e258, hx258_0, hl258_0, hi258_0⟩ := at_L1 HR0.out x11_1 p258 q258
       cases e258
       have hxw258_0 := hx258_0
       replace hx258_0 := (HB.out.cell (World.block_lt_of_cell? w _ hx258_0)).trans hx258_0
       have HR258_0 := am hi258_0
       have HC258_0 := am hl258_0
       clear hi258_0 hl258_0
       replace p258 := eq_true p258
       replace q258 := eq_true q258
       go_wp2
       go_roundg k1
       case measure => have := HK1.out; omega
       case rel => exact ⟨(wrap64 (x3_1 + ((rd_L1 l0 x11_1).length : Int))), (wrap64 (x11_1 + 1)), (by first | rfl | (simp; done) | (simp [*]; done)), (by first | rfl | (simp; done) | (simp [*]; done)), H', ⟨by have := HK1.out; omega⟩, ⟨by repeat (first | (with_reducible first | exact HB.out | apply below_alloc | apply pw_below_drewN | apply below_drew1) | exact HB.out)⟩⟩
     ·rw [if_neg c4] at H
      exact absurd H (by simp)
    ·rw [if_neg c3] at H
     exact absurd H (by simp)
   ·rw [if_neg c2] at H
    have c2b0 : decide (x11_1 < (l0.length : Int)) = false := decide_eq_false c2
    clear c2
    replace H := Option.bind_eq_some_iff.mp H
    obtain ⟨t259, A60, H⟩ := H
    replace H : (slices_Concat_sint64_int64.l1 k1 t259 l0 (l0.length : Int) 0) = some r := H
    have A6 := Aside0.mk A60
    clear A60
    have H' := Aside0.mk H
    clear H
    go_wp2_with (first | ((with_reducible refine gate_callee (f := 79) rfl ?_); refine gl (some 24) Try.func79 #[.slice none 0 0, .int .i64 x3_1] ?_; (refine (slices_Grow_sint64_int64.calls _ _ ([] : List Int) x3_1 t259 _ ?side1 ?side2 A6.out).mono ?_); (case side1 => exact Kd.C_nil _ _); (case side2 => exact Nat.le_refl _); rintro e w7 ⟨v260, rfl, ho0, hb⟩; refine ⟨_, rfl, ?_⟩; have HO261 := am (Kd.R_lower ho0 (below_size (bl HB.out))); replace HB := am (below_step (bl HB.out) hb); (try clear hb); (try clear hb2); (try clear hk); (try clear hi); (try clear ho0)))
    go_loopg [6, 27] k1 (fun kq v6 v27 w' => ∃ (x6_2 : List Int) (x27_2 : Int), v27 = .int .i64 x27_2 ∧ Aside0 (slices_Concat_sint64_int64.l1 kq x6_2 l0 (l0.length : Int) x27_2 = some r) ∧ Aside0 (kq ≤ k1) ∧ Aside0 (Kd.R (Kd.int .i64) 2 w' w.heap.size (fun _ => True) v6 x6_2) ∧ Aside0 (Below w.heap.size w w'))
    case atStart => exact ⟨(t259), (0), (by first | rfl | (simp; done) | (simp [*]; done)), H', ⟨Nat.le_refl _⟩, ⟨kr HO261.out⟩, ⟨by repeat (first | (with_reducible first | exact HB.out | apply below_alloc | apply pw_below_drewN | apply below_drew1) | exact HB.out)⟩⟩
    case round =>
     clear H'
     try clear c2
     try clear c2b0
     try clear p2
     try clear q2
     try clear hx2
     try clear c3
     try clear c3b0
     try clear c4
     try clear c4b0
     try clear c5
     try clear c5b0
     try clear p6
     try clear c7
     try clear hx258_0
     try clear p258
     try clear q258
     obtain ⟨x6_2, x27_2, rfl, HA, HK2, HO_6, HB⟩ := hrel
     cases gk with
     | zero => exact absurd HA.out (by simp [slices_Concat_sint64_int64.l1])
     | succ k2 =>
      have H := HA.out
      clear HA
      simp only [slices_Concat_sint64_int64.l1] at H
      by_cases c8 : x27_2 < (l0.length : Int)
      ·rw [if_pos c8] at H
       have c8b0 : decide (x27_2 < (l0.length : Int)) = true := decide_eq_true c8
       clear c8
       by_cases c9 : 0 ≤ x27_2
       ·rw [if_pos c9] at H
        have c9b0 : decide (0 ≤ x27_2) = true := decide_eq_true c9
        clear c9
        by_cases c10 : x27_2 < (l0.length : Int)
        ·rw [if_pos c10] at H
         have c10b0 : decide (x27_2 < (l0.length : Int)) = true := decide_eq_true c10
         clear c10
         by_cases c11 : x6_2.length + (rd_L1 l0 x27_2).length < 17592186044416
         ·rw [if_pos c11] at H
          have LMc11 := Aside0.mk c11
          clear c11
          obtain ⟨y263, hy263⟩ : ∃ y_ : List Int, y_ = (x6_2 ++ (rd_L1 l0 x27_2)) := ⟨_, rfl⟩
          replace H : (slices_Concat_sint64_int64.l1 k2 y263 l0 (l0.length : Int) (wrap64 (x27_2 + 1))) = some r := by first | (rw [hy263]; with_reducible exact H) | (have H2_ := (Option.bind_some _ _).symm.trans H; rw [hy263]; with_reducible exact H2_) | (have H2_ := (Option.bind_some _ _).symm.trans H; with_reducible exact H2_) | with_reducible exact H | (rw [hy263]; exact H) | exact H
          have Ny263 := am hy263
          clear hy263
          have H' := Aside0.mk H
          clear H
          have p262 : 0 ≤ (x27_2 : Int) := of_decide_eq_true (by first | (with_reducible assumption) | assumption)
          have q262 : x27_2 < (l0.length : Int) := of_decide_eq_true (by first | (with_reducible assumption) | assumption)
          obtain ⟨ad262, A262_0, c262_0, e262, hx262_0, hl262_0, hi262_0⟩ := at_L1 HR0.out x27_2 p262 q262
          cases e262
          have hxw262_0 := hx262_0
          replace hx262_0 := (HB.out.cell (World.block_lt_of_cell? w _ hx262_0)).trans hx262_0
          have HR262_0 := am hi262_0
          have HC262_0 := am hl262_0
          clear hi262_0 hl262_0
          replace p262 := eq_true p262
          replace q262 := eq_true q262
          go_wp2_with (first | ((with_reducible refine gate_builtin (b := .append) (xs := #[.tmp 31, .tmp 32]) rfl ?_); at_builtin; refine Kd.R_append_rows (Kd.int .i64) (w0 := w) w.heap.size rfl (.tmp 31) (.tmp 32) 22 2 (.int .i64 0) 8 rfl Try.underlying22 info2 rfl (by decide) (by omega) u6 x6_2 (rd_L1 l0 x27_2) _ _ _ (fun _ => True) (fun _ => False) rfl rfl ?aO ?aR (fun _ _ h => h) (fun _ h => h.elim) ?aF ?aB ?aS ?aL ?_; (case aR => repeat (first | exact (Kd.C_below HR262_0.out HB.out) | (with_reducible refine Kd.C_alloc ?_ _) | (with_reducible refine Kd.C_drewN ?_ _) | (with_reducible refine Kd.C_drew ?_))); (case aB => exact (bl HB.out)); (case aF => exact (fun _ _ => trivial)); (case aO => exact (kr HO_6.out)); (case aS => exact (below_size (bl HB.out))); (case aL => have := LMc11.out; omega); intro v264 w12 ho hb hg hat; rw [← Ny263.out] at ho; replace HB := am (hb); have HO265 := am (ho); clear HO_6; clear ho hb hg hat))
          go_roundg k2
          case measure => have := HK1.out; have := HK2.out; omega
          case rel => exact ⟨(y263), (wrap64 (x27_2 + 1)), (by first | rfl | (simp; done) | (simp [*]; done)), H', ⟨by have := HK1.out; have := HK2.out; omega⟩, ⟨kr HO265.out⟩, ⟨by repeat (first | (with_reducible first | exact HB.out | apply below_alloc | apply pw_below_drewN | apply below_drew1) | exact HB.out)⟩⟩
         ·rw [if_neg c11] at H
          exact absurd H (by simp)
        ·rw [if_neg c10] at H
         exact absurd H (by simp)
       ·rw [if_neg c9] at H
        exact absurd H (by simp)
      ·rw [if_neg c8] at H
       have c8b0 : decide (x27_2 < (l0.length : Int)) = false := decide_eq_false c8
       clear c8
       obtain rfl := Option.some.inj H
       go_wp2
       go_ret
       exact ⟨_, by first | rfl | (simp [errW_none, errW_some] <;> rfl) | (simp [*, errW_none, errW_some] <;> rfl), kr HO_6.out, by repeat (first | (with_reducible first | exact HB.out | apply below_alloc | apply pw_below_drewN | apply below_drew1) | exact HB.out)⟩

/-! ### slices_Clone_sint64_int64: function 72 -/
def slices_Clone_sint64_int64.f (l0 : List Int) : Option (List Int) := (some (([] : List Int) : List Int)).bind fun y266 => (if y266.length + l0.length < 17592186044416 then (some (y266 ++ l0)) else (none))
theorem slices_Clone_sint64_int64.calls0 (A0 : Addr) (c0 : Nat) (l0 : List Int) (r : List Int) (w : World) (hr0 : Kd.C (Kd.int .i64) w (some A0) l0.length l0) (hc0 : l0.length ≤ c0) (h : slices_Clone_sint64_int64.f l0 = some r) :
  Calls Try.prog 72 #[.slice (some A0) l0.length c0] w fun e w' => ∃ v0_ : Value, e = .returned (v0_) ∧ Kd.R (Kd.int .i64) 2 w' w.heap.size (fun _ => True) v0_ r ∧ Below w.heap.size w w' := by
 have HR0 := am hr0
 have HC0 := am hc0
 clear hr0 hc0
 have HB := am (Below.refl w.heap.size w)
 have H : ((some (([] : List Int) : List Int)).bind fun y266 => (if y266.length + l0.length < 17592186044416 then (some (y266 ++ l0)) else (none))) = some r := h
 clear h
 obtain ⟨y266, hy266⟩ : ∃ y_ : List Int, y_ = (([] : List Int)) := ⟨_, rfl⟩
 replace H : (if y266.length + l0.length < 17592186044416 then (some (y266 ++ l0)) else (none)) = some r := by first | (rw [hy266]; with_reducible exact H) | (have H2_ := (Option.bind_some _ _).symm.trans H; rw [hy266]; with_reducible exact H2_) | (have H2_ := (Option.bind_some _ _).symm.trans H; with_reducible exact H2_) | with_reducible exact H | (rw [hy266]; exact H) | exact H
 have Ny266 := am hy266
 clear hy266
 by_cases c2 : y266.length + l0.length < 17592186044416
 ·rw [if_pos c2] at H
  have LMc2 := Aside0.mk c2
  clear c2
  obtain ⟨y269, hy269⟩ : ∃ y_ : List Int, y_ = (y266 ++ l0) := ⟨_, rfl⟩
  replace H : (some y269) = some r := by first | (rw [hy269]; with_reducible exact H) | (have H2_ := (Option.bind_some _ _).symm.trans H; rw [hy269]; with_reducible exact H2_) | (have H2_ := (Option.bind_some _ _).symm.trans H; with_reducible exact H2_) | with_reducible exact H | (rw [hy269]; exact H) | exact H
  have Ny269 := am hy269
  clear hy269
  obtain rfl := Option.some.inj H
  have hnil_ : ∀ W_ : World, (binOp .eql 22 (.slice (some A0) l0.length c0) (.slice none 0 0)).run Try.prog W_ = .ok (.bool false) W_ := fun W_ => Lib.run_eql_slice_nil (P := Try.prog) W_ 22 2 (some A0) l0.length c0 0 0 Try.underlying22
  go_enter Try.func72, Try.ntmps72
  go_wp2_with (first | ((with_reducible refine gate_dst (N := 5) rfl ?_); refine Kd.R_lit (Kd.int .i64) _ 2 ?hg (N := 5) ?hd (xs := ([] : List Int)) (inner := []) (ok := fun _ => True) (okp := fun _ => True) ?hr ?hp (fun _ hk => hk) trivial (Below.refl _ _) (Nat.le_refl _) (by simp) ?_; (case hd => rfl); (case hg => rfl); (case hr => first | (go_simp; done) | (go_simp; rfl)); (case hp => exact (Reps.none _ _)); intro v267 w3 ho4 hb hg_ hnew_; clear hg_ hnew_; (first | rw [← Ny266.out] at ho4 | (simp only [Int.reduceToNat] at ho4; rw [← Ny266.out] at ho4)); have HO268 := am (Kd.R_lower ho4 (below_size (bl HB.out))); replace HB := am (below_step (bl HB.out) hb); clear hb ho4) | ((with_reducible refine gate_builtin (b := .append) (xs := #[.tmp 5, .tmp 6]) rfl ?_); at_builtin; refine Kd.R_append_rows (Kd.int .i64) (w0 := w) w.heap.size rfl (.tmp 5) (.tmp 6) 22 2 (.int .i64 0) 8 rfl Try.underlying22 info2 rfl (by decide) (by omega) v267 y266 l0 _ _ _ (fun _ => True) (fun _ => False) rfl rfl ?aO ?aR (fun _ _ h => h) (fun _ h => h.elim) ?aF ?aB ?aS ?aL ?_; (case aR => repeat (first | exact (Kd.C_below HR0.out HB.out) | (with_reducible refine Kd.C_alloc ?_ _) | (with_reducible refine Kd.C_drewN ?_ _) | (with_reducible refine Kd.C_drew ?_))); (case aB => exact (bl HB.out)); (case aF => exact (fun _ _ => trivial)); (case aO => exact (kr HO268.out)); (case aS => exact (below_size (bl HB.out))); (case aL => have := LMc2.out; omega); intro v270 w5 ho hb hg hat; rw [← Ny269.out] at ho; replace HB := am (hb); have HO271 := am (ho); clear HO268; clear ho hb hg hat))
  go_ret
  exact ⟨_, by first | rfl | (simp [errW_none, errW_some] <;> rfl) | (simp [*, errW_none, errW_some] <;> rfl), kr HO271.out, by repeat (first | (with_reducible first | exact HB.out | apply below_alloc | apply pw_below_drewN | apply below_drew1) | exact HB.out)⟩
 ·rw [if_neg c2] at H
  exact absurd H (by simp)

theorem slices_Clone_sint64_int64.calls (A0 : Option Addr) (c0 : Nat) (l0 : List Int) (r : List Int) (w : World) (hr0 : Kd.C (Kd.int .i64) w A0 l0.length l0) (hc0 : l0.length ≤ c0) (h : slices_Clone_sint64_int64.f l0 = some r) :
  Calls Try.prog 72 #[.slice A0 l0.length c0] w fun e w' => ∃ v0_ : Value, e = .returned (v0_) ∧ Kd.R (Kd.int .i64) 2 w' w.heap.size (fun _ => True) v0_ r ∧ Below w.heap.size w w' := by
 cases A0 with
 | some A0 => exact slices_Clone_sint64_int64.calls0 A0 c0 l0 r w hr0 hc0 h
 | none =>
  have hl : l0 = [] := by
   rcases Nat.eq_zero_or_pos l0.length with h0 | h0
   ·exact List.eq_nil_of_length_eq_zero h0
   ·obtain ⟨ad, he, _⟩ := hr0.2.2 h0
    cases he
  subst hl
  obtain rfl : r = [] := by
   have h1 : some ([] : List Int) = some r := h
   exact (Option.some.inj h1).symm
  have hnil_ : ∀ W_ : World, (binOp .eql 22 (.slice none 0 c0) (.slice none 0 0)).run Try.prog W_ = .ok (.bool true) W_ := fun W_ => Lib.run_eql_slice_nil (P := Try.prog) W_ 22 2 none 0 c0 0 0 Try.underlying22
  show Calls Try.prog 72 #[.slice none 0 c0] w _
  go_enter Try.func72, Try.ntmps72
  go_wp2
  go_ret
  exact ⟨_, rfl, Kd.R_nil _ _ _ _ _, Below.refl _ _⟩

end Go.Proofs.Ytejgkbejdkaccaa.PFnExactRingPop
