-- Written by xprint.py (this claim's own program, over the kit's printer); Lean checks it.
import Derived.Test.YtejgkbejdkaccaaPFnExactRingYankx0
import Derived.Test.YtejgkbejdkaccaaPFnExactRingYankx1
import Derived.Test.YtejgkbejdkaccaaPFnExactRingYankx4
import Derived.Test.YtejgkbejdkaccaaPFnExactRingYankx6
import Derived.Test.YtejgkbejdkaccaaPFnExactRingYankx7
namespace Go.Proofs.Ytejgkbejdkaccaa.PFnExactRingYank
open Go.RowKit Go.Proofs.YtejgkbejdkaccaaW.PrintWords Go.Proofs.YtejgkbejdkaccaaW.PrintLast Go.Proofs.YtejgkbejdkaccaaW.PrintMore
attribute [local go_sem] max2_int min2_int max_two min_two max_three min_three max_four min_four   -- for this text's walks alone
set_option linter.unusedVariables false
set_option linter.unusedSimpArgs false   -- squeezed

/-! ### impl_ringCode: function 54 -/
def impl_ringCode.j0 : Nat → Bool → List (List Int) → Int → Option (Int)
 | 0, _, _, _ => none
 | k + 1, x5, x298000, x298001 => if x5 = true then (some 1) else (if (x298000.length : Int) = 0 then (some 4) else (some 0))
def impl_ringCode.f (k : Nat) (l0_0 : List (List Int)) (a0_1 : Int) (l1_0 : List Int) (a1_1 : Int) (a1_2 : Int) : Option (Int) := (impl_RingRight.f k l0_0 a0_1).bind fun t299 => (if t299 = true then ((impl_BufRight.f k l1_0 a1_1 a1_2).bind fun t300 => (impl_ringCode.j0 k (!t300) l0_0 a0_1)) else (impl_ringCode.j0 k true l0_0 a0_1))
theorem impl_ringCode.mono_l : ∀ k, (∀ y0 y1 y2, LeO (impl_ringCode.j0 k y0 y1 y2) (impl_ringCode.j0 (k + 1) y0 y1 y2))
 | 0 => fun _ _ _ r h => by simp [impl_ringCode.j0] at h
 | k + 1 => by
  have ih0 := impl_ringCode.mono_l k
  ·intro y0 y1 y2
   unfold impl_ringCode.j0
   repeat' first
   | (with_reducible exact ih0 _ _ _)
   | (with_reducible exact impl_BufRight.mono _ _ _ _)
   | (with_reducible exact impl_RingRight.mono _ _ _)
   | (with_reducible exact LeO.refl _)
   | (with_reducible exact LeO.none _)
   | (with_reducible refine LeO.ite ?_ ?_)
   | (with_reducible refine LeO.bind ?_ (fun _ => ?_))
   | exact ih0 _ _ _
   | exact impl_BufRight.mono _ _ _ _
   | exact impl_RingRight.mono _ _ _
   | exact LeO.none _
   | refine LeO.ite ?_ ?_
   | refine LeO.bind ?_ (fun _ => ?_)
theorem impl_ringCode.mono : ∀ a0 a1 a2 a3 a4 k, LeO (impl_ringCode.f k a0 a1 a2 a3 a4) (impl_ringCode.f (k + 1) a0 a1 a2 a3 a4) := by
 intro a0 a1 a2 a3 a4 k
 have ih0 := impl_ringCode.mono_l k
 unfold impl_ringCode.f
 repeat' first
   | (with_reducible exact ih0 _ _ _)
   | (with_reducible exact impl_BufRight.mono _ _ _ _)
   | (with_reducible exact impl_RingRight.mono _ _ _)
   | (with_reducible exact LeO.refl _)
   | (with_reducible exact LeO.none _)
   | (with_reducible refine LeO.ite ?_ ?_)
   | (with_reducible refine LeO.bind ?_ (fun _ => ?_))
   | exact ih0 _ _ _
   | exact impl_BufRight.mono _ _ _ _
   | exact impl_RingRight.mono _ _ _
   | exact LeO.none _
   | refine LeO.ite ?_ ?_
   | refine LeO.bind ?_ (fun _ => ?_)
set_option maxHeartbeats 8000000 in
set_option maxRecDepth 100000 in
theorem impl_ringCode.calls (k : Nat) (A0_0 : Option Addr) (c0_0 : Nat) (l0_0 : List (List Int)) (a0_1 : Int) (A1_0 : Option Addr) (c1_0 : Nat) (l1_0 : List Int) (a1_1 : Int) (a1_2 : Int) (r : Int) (w : World) (hr0_0 : Kd.C (Kd.slice 2 (Kd.int .i64)) w A0_0 l0_0.length l0_0) (hc0_0 : l0_0.length ≤ c0_0) (hr1_0 : Kd.C (Kd.int .i64) w A1_0 l1_0.length l1_0) (hc1_0 : l1_0.length ≤ c1_0) (h : impl_ringCode.f k l0_0 a0_1 l1_0 a1_1 a1_2 = some r) :
  Calls Try.prog 54 #[.agg #[.slice A0_0 l0_0.length c0_0, .int .i64 a0_1], .agg #[.slice A1_0 l1_0.length c1_0, .int .i64 a1_1, .int .i64 a1_2]] w fun e w' => e = .returned (.int .i64 r) ∧ Below w.heap.size w w' := by
 have hu50 := Try.underlying50
 have hu26 := Try.underlying26
 have HR0_0 := am hr0_0
 have HC0_0 := am hc0_0
 clear hr0_0 hc0_0
 have HR1_0 := am hr1_0
 have HC1_0 := am hc1_0
 clear hr1_0 hc1_0
 have HB := am (Below.refl w.heap.size w)
 have H : ((impl_RingRight.f k l0_0 a0_1).bind fun t299 => (if t299 = true then ((impl_BufRight.f k l1_0 a1_1 a1_2).bind fun t300 => (impl_ringCode.j0 k (!t300) l0_0 a0_1)) else (impl_ringCode.j0 k true l0_0 a0_1))) = some r := h
 clear h
 have HC3 := Aside0.mk H
 clear H
 go_enter Try.func54, Try.ntmps54
 go_upto_region 1 with (first | ((with_reducible refine gate_dst (N := 2) rfl ?_); refine box_event ?hg (N := 2) ?hd (cs := #[.slice A0_0 l0_0.length c0_0, .int .i64 a0_1]) (t := 50) ?hr ?_; (case hd => rfl); (case hg => rfl); (case hr => first | (go_simp; done) | (go_simp; rfl)); intro gb297 hg w4 hbox hb; have BK297 := am (hbox); have GW297 := am ((by rw [hg]; exact (below_size (bl HB.out)) : w.heap.size ≤ gb297)); have GE297 := GW297; replace HB := am (below_step (bl HB.out) hb); clear hb hbox hg) | ((with_reducible refine gate_dst (N := 3) rfl ?_); refine box_event ?hg (N := 3) ?hd (cs := #[.slice A1_0 l1_0.length c1_0, .int .i64 a1_1, .int .i64 a1_2]) (t := 26) ?hr ?_; (case hd => rfl); (case hg => rfl); (case hr => first | (go_simp; done) | (go_simp; rfl)); intro gb298 hg w5 hbox hb; have BK298 := am (hbox); have GW298 := am ((by rw [hg]; exact (below_size (bl HB.out)) : w.heap.size ≤ gb298)); have GE298 := GW298; replace HB := am (below_step (bl HB.out) hb); have NB297_298 := am ((by rw [hg]; exact Nat.ne_of_lt (blk_lt (pk BK297.out)) : gb297 ≠ gb298)); have NB298_297 := am ((by rw [hg]; exact Nat.ne_of_gt (blk_lt (pk BK297.out)) : gb298 ≠ gb297)); replace BK297 := am (blk_below (pk BK297.out) hb); clear hb hbox hg))
 (try simp only [Act.put, sa_, s0_, ss_])
 go_cut [5] (fun v5 wc => ∃ (kq : Nat) (x5_2 : Bool), v5 = .bool x5_2 ∧ Aside0 (impl_ringCode.j0 kq x5_2 l0_0 a0_1 = some r) ∧ Aside0 (kq ≤ k) ∧ Aside0 (wc.heap[gb297]? = some (.cells #[(.slice A0_0 l0_0.length c0_0), .int .i64 a0_1] 50 (0, 0))) ∧ Aside0 (wc.heap[gb298]? = some (.cells #[(.slice A1_0 l1_0.length c1_0), .int .i64 a1_1, .int .i64 a1_2] 26 (0, 0))) ∧ Aside0 (Below w.heap.size w wc))
 case first =>
  have H := HC3.out
  clear HC3
  replace H := Option.bind_eq_some_iff.mp H
  obtain ⟨t299, A60, H⟩ := H
  replace H : (if t299 = true then ((impl_BufRight.f k l1_0 a1_1 a1_2).bind fun t300 => (impl_ringCode.j0 k (!t300) l0_0 a0_1)) else (impl_ringCode.j0 k true l0_0 a0_1)) = some r := H
  have A6 := Aside0.mk A60
  clear A60
  by_cases c7 : t299 = true
  ·subst c7
   have H1 : ((impl_BufRight.f k l1_0 a1_1 a1_2).bind fun t300 => (impl_ringCode.j0 k (!t300) l0_0 a0_1)) = some r := by rw [if_pos rfl] at H; exact H
   clear H
   have H := H1
   clear H1
   replace H := Option.bind_eq_some_iff.mp H
   obtain ⟨t300, A80, H⟩ := H
   replace H : (impl_ringCode.j0 k (!t300) l0_0 a0_1) = some r := H
   have A8 := Aside0.mk A80
   clear A80
   have H' := Aside0.mk H
   clear H
   have hnb9 := NB297_298.out
   have hnc9 := NB298_297.out
   have hcz10_0 : w5.cell? ⟨gb297, 0, none⟩ = some (.slice A0_0 l0_0.length c0_0) := bc BK297.out 0
   have hcz10_1 : w5.cell? ⟨gb297, 1, none⟩ = some (.int .i64 a0_1) := bc BK297.out 1
   go_wp2_with (first | ((with_reducible refine gate_callee (f := 74) rfl ?_); refine gl (some 7) Try.func74 #[.agg #[.slice A0_0 l0_0.length c0_0, .int .i64 a0_1]] ?_; (with_reducible refine (impl_RingRight.calls k _ _ l0_0 a0_1 true _ ?side1 ?side2 A6.out).mono ?_); (case side1 => repeat (first | exact (Kd.C_below HR0_0.out HB.out) | (with_reducible refine Kd.C_alloc ?_ _) | (with_reducible refine Kd.C_drewN ?_ _) | (with_reducible refine Kd.C_drew ?_))); (case side2 => exact HC0_0.out); rintro e w11 ⟨rfl, hb⟩; refine ⟨_, rfl, ?_⟩; replace BK297 := am (blk_below (pk BK297.out) hb); replace BK298 := am (blk_below (pk BK298.out) hb); replace HB := am (below_step (bl HB.out) hb); (try clear hb); (try clear hb2); (try clear hk); (try clear hi); have hcz12_0 : w11.cell? ⟨gb298, 0, none⟩ = some (.slice A1_0 l1_0.length c1_0) := bc BK298.out 0; have hcz12_1 : w11.cell? ⟨gb298, 1, none⟩ = some (.int .i64 a1_1) := bc BK298.out 1; have hcz12_2 : w11.cell? ⟨gb298, 2, none⟩ = some (.int .i64 a1_2) := bc BK298.out 2) | (go_at_call 38; (with_reducible refine (impl_BufRight.calls k _ _ l1_0 a1_1 a1_2 t300 _ ?side1 ?side2 A8.out).mono ?_); (case side1 => repeat (first | exact (Kd.C_below HR1_0.out HB.out) | (with_reducible refine Kd.C_alloc ?_ _) | (with_reducible refine Kd.C_drewN ?_ _) | (with_reducible refine Kd.C_drew ?_))); (case side2 => exact HC1_0.out); rintro e w13 ⟨rfl, hb⟩; replace BK297 := am (blk_below (pk BK297.out) hb); replace BK298 := am (blk_below (pk BK298.out) hb); replace HB := am (below_step (bl HB.out) hb); (try clear hb); (try clear hb2); (try clear hk); (try clear hi)))
   go_meet
   case rel => exact ⟨_, (!t300), (by first | rfl | (simp; done) | (simp [*]; done)), H', ⟨by first | omega | exact Nat.le_refl _⟩, ⟨pk BK297.out⟩, ⟨pk BK298.out⟩, ⟨by repeat (first | (with_reducible first | exact HB.out | apply below_alloc | apply pw_below_drewN | apply below_drew1 | refine below_set ?_ GE297.out | refine below_set ?_ GE298.out) | exact HB.out)⟩⟩
  ·replace c7 := Bool.eq_false_iff.mpr c7
   subst c7
   have H1 : (impl_ringCode.j0 k true l0_0 a0_1) = some r := by rw [if_neg (show ¬ (false = true) by decide)] at H; exact H
   clear H
   have H := H1
   clear H1
   have H' := Aside0.mk H
   clear H
   have hnb14 := NB297_298.out
   have hnc14 := NB298_297.out
   have hcz15_0 : w5.cell? ⟨gb297, 0, none⟩ = some (.slice A0_0 l0_0.length c0_0) := bc BK297.out 0
   have hcz15_1 : w5.cell? ⟨gb297, 1, none⟩ = some (.int .i64 a0_1) := bc BK297.out 1
   go_wp2_with (first | ((with_reducible refine gate_callee (f := 74) rfl ?_); refine gl (some 7) Try.func74 #[.agg #[.slice A0_0 l0_0.length c0_0, .int .i64 a0_1]] ?_; (with_reducible refine (impl_RingRight.calls k _ _ l0_0 a0_1 false _ ?side1 ?side2 A6.out).mono ?_); (case side1 => repeat (first | exact (Kd.C_below HR0_0.out HB.out) | (with_reducible refine Kd.C_alloc ?_ _) | (with_reducible refine Kd.C_drewN ?_ _) | (with_reducible refine Kd.C_drew ?_))); (case side2 => exact HC0_0.out); rintro e w16 ⟨rfl, hb⟩; refine ⟨_, rfl, ?_⟩; replace BK297 := am (blk_below (pk BK297.out) hb); replace BK298 := am (blk_below (pk BK298.out) hb); replace HB := am (below_step (bl HB.out) hb); (try clear hb); (try clear hb2); (try clear hk); (try clear hi)))
   go_meet
   case rel => exact ⟨_, (true), (by first | rfl | (simp; done) | (simp [*]; done)), H', ⟨by first | omega | exact Nat.le_refl _⟩, ⟨pk BK297.out⟩, ⟨pk BK298.out⟩, ⟨by repeat (first | (with_reducible first | exact HB.out | apply below_alloc | apply pw_below_drewN | apply below_drew1 | refine below_set ?_ GE297.out | refine below_set ?_ GE298.out) | exact HB.out)⟩⟩
 case rest =>
  clear HC3
  try clear c1
  try clear p2
  try clear c5
  try clear c7
  try clear c9
  try clear c14
  try clear hcz10_0
  try clear hcz10_1
  try clear hcz12_0
  try clear hcz12_1
  try clear hcz12_2
  try clear hcz15_0
  try clear hcz15_1
  obtain ⟨kq, x5_2, rfl, HA, HJ2, BK297, BK298, HB⟩ := hcut
  cases kq with
  | zero => exact absurd HA.out (by simp [impl_ringCode.j0])
  | succ kj2 =>
   have H := HA.out
   clear HA
   simp only [impl_ringCode.j0] at H
   by_cases c17 : x5_2 = true
   ·subst c17
    have H1 : (some 1) = some r := by rw [if_pos rfl] at H; exact H
    clear H
    have H := H1
    clear H1
    obtain rfl := Option.some.inj H
    go_wp2
    go_ret
    exact ⟨by first | rfl | (simp [errW_none, errW_some] <;> rfl) | (simp [*, errW_none, errW_some] <;> rfl), by repeat (first | (with_reducible first | exact HB.out | apply below_alloc | apply pw_below_drewN | apply below_drew1 | refine below_set ?_ GE297.out | refine below_set ?_ GE298.out) | exact HB.out)⟩
   ·replace c17 := Bool.eq_false_iff.mpr c17
    subst c17
    have H1 : (if (l0_0.length : Int) = 0 then (some 4) else (some 0)) = some r := by rw [if_neg (show ¬ (false = true) by decide)] at H; exact H
    clear H
    have H := H1
    clear H1
    by_cases c18 : (l0_0.length : Int) = 0
    ·rw [if_pos c18] at H
     have c18b0 : ((l0_0.length : Int) == 0) = true := beq_iff_eq.mpr c18
     have c18b1 : ((l0_0.length : Int) != 0) = false := bne_eq_false_iff_eq.mpr c18
     clear c18
     obtain rfl := Option.some.inj H
     have hnb19 := NB297_298.out
     have hnc19 := NB298_297.out
     have hcz20_0 : wc.cell? ⟨gb297, 0, none⟩ = some (.slice A0_0 l0_0.length c0_0) := bc BK297.out 0
     have hcz20_1 : wc.cell? ⟨gb297, 1, none⟩ = some (.int .i64 a0_1) := bc BK297.out 1
     go_wp2
     go_ret
     exact ⟨by first | rfl | (simp [errW_none, errW_some] <;> rfl) | (simp [*, errW_none, errW_some] <;> rfl), by repeat (first | (with_reducible first | exact HB.out | apply below_alloc | apply pw_below_drewN | apply below_drew1 | refine below_set ?_ GE297.out | refine below_set ?_ GE298.out) | exact HB.out)⟩
    ·rw [if_neg c18] at H
     have c18b0 : ((l0_0.length : Int) == 0) = false := beq_eq_false_iff_ne.mpr c18
     have c18b1 : ((l0_0.length : Int) != 0) = true := bne_iff_ne.mpr c18
     have c18b2 : ¬ (l0_0 = []) := fun h_ => c18 (by rw [h_]; rfl)
     obtain rfl := Option.some.inj H
     have hnb21 := NB297_298.out
     have hnc21 := NB298_297.out
     have hcz22_0 : wc.cell? ⟨gb297, 0, none⟩ = some (.slice A0_0 l0_0.length c0_0) := bc BK297.out 0
     have hcz22_1 : wc.cell? ⟨gb297, 1, none⟩ = some (.int .i64 a0_1) := bc BK297.out 1
     go_wp2
     go_ret
     exact ⟨by first | rfl | (simp [errW_none, errW_some] <;> rfl) | (simp [*, errW_none, errW_some] <;> rfl), by repeat (first | (with_reducible first | exact HB.out | apply below_alloc | apply pw_below_drewN | apply below_drew1 | refine below_set ?_ GE297.out | refine below_set ?_ GE298.out) | exact HB.out)⟩

/-! ### impl_RingYank: function 28 -/
def impl_RingYank.f (k : Nat) (l0_0 : List (List Int)) (a0_1 : Int) (l1_0 : List Int) (a1_1 : Int) (a1_2 : Int) : Option (List Int × Int × Int × Int × Int × Int) := (impl_ringCode.f k l0_0 a0_1 l1_0 a1_1 a1_2).bind fun t304 => (if t304 = 0 then (if 0 ≤ a0_1 then (if a0_1 < (l0_0.length : Int) then ((impl_replace.f k l1_0 a1_1 a1_2 a1_1 a1_1 (rd_L1 l0_0 a0_1)).bind fun bt306 => (if bt306.2.2.2.2 = 0 then ((impl_size_int64.f (rd_L1 l0_0 a0_1)).bind fun t316 => (some (bt306.1, bt306.2.1, bt306.2.2.1, a1_1, wrap64 (a1_1 + t316), 0))) else (some (([] : List Int), 0, 0, 0, 0, bt306.2.2.2.2)))) else (none)) else (none)) else (some (([] : List Int), 0, 0, 0, 0, t304)))
theorem impl_RingYank.mono : ∀ a0 a1 a2 a3 a4 k, LeO (impl_RingYank.f k a0 a1 a2 a3 a4) (impl_RingYank.f (k + 1) a0 a1 a2 a3 a4) := by
 intro a0 a1 a2 a3 a4 k
 unfold impl_RingYank.f
 repeat' first
   | (with_reducible exact impl_replace.mono _ _ _ _ _ _ _)
   | (with_reducible exact impl_ringCode.mono _ _ _ _ _ _)
   | (with_reducible exact LeO.refl _)
   | (with_reducible exact LeO.none _)
   | (with_reducible refine LeO.ite ?_ ?_)
   | (with_reducible refine LeO.bind ?_ (fun _ => ?_))
   | exact impl_replace.mono _ _ _ _ _ _ _
   | exact impl_ringCode.mono _ _ _ _ _ _
   | exact LeO.none _
   | refine LeO.ite ?_ ?_
   | refine LeO.bind ?_ (fun _ => ?_)
def impl_RingYank.T8 : Bool × List (List Nat × List Nat) := (true, [([], []), ([0], [0]), ([], []), ([2], [2]), ([], []), ([4], [4]), ([], []), ([6], [6]), ([5, 7], [5, 7]), ([1, 3, 8], [1, 3, 8]), ([9, 7, 0, 1, 2, 3, 4, 5, 6, 7, 8, 9], [9])])
def impl_RingYank.B8 : List Nat := [0, 1, 0, 4, 0, 16, 0, 64, 240, 511, 1023]
theorem impl_RingYank.tab8 : rtab .any (opsOf Try.f28 8) = impl_RingYank.T8 := by kernel_rfl
theorem impl_RingYank.bits8 : waitsOk impl_RingYank.T8.2 impl_RingYank.B8 = true := by kernel_rfl
set_option maxHeartbeats 8000000 in
set_option maxRecDepth 100000 in
theorem impl_RingYank.calls (k : Nat) (A0_0 : Option Addr) (c0_0 : Nat) (l0_0 : List (List Int)) (a0_1 : Int) (A1_0 : Option Addr) (c1_0 : Nat) (l1_0 : List Int) (a1_1 : Int) (a1_2 : Int) (r1 : List Int) (r2 : Int) (r3 : Int) (r4 : Int) (r5 : Int) (r6 : Int) (w : World) (hr0_0 : Kd.C (Kd.slice 2 (Kd.int .i64)) w A0_0 l0_0.length l0_0) (hc0_0 : l0_0.length ≤ c0_0) (hr1_0 : Kd.C (Kd.int .i64) w A1_0 l1_0.length l1_0) (hc1_0 : l1_0.length ≤ c1_0) (h : impl_RingYank.f k l0_0 a0_1 l1_0 a1_1 a1_2 = some (r1, r2, r3, r4, r5, r6)) :
  Calls Try.prog 28 #[.agg #[.slice A0_0 l0_0.length c0_0, .int .i64 a0_1], .agg #[.slice A1_0 l1_0.length c1_0, .int .i64 a1_1, .int .i64 a1_2]] w fun e w' => ∃ v0_ : Value, e = .returned (.agg #[v0_, .int .i64 r2, .int .i64 r3, .int .i64 r4, .int .i64 r5, .int .i64 r6]) ∧ Kd.R (Kd.int .i64) 2 w' w.heap.size (fun _ => True) v0_ r1 ∧ Below w.heap.size w w' := by
 have hu50 := Try.underlying50
 have hu26 := Try.underlying26
 have hu48 := Try.underlying48
 have hu28 := Try.underlying28
 have HR0_0 := am hr0_0
 have HC0_0 := am hc0_0
 clear hr0_0 hc0_0
 have HR1_0 := am hr1_0
 have HC1_0 := am hc1_0
 clear hr1_0 hc1_0
 have HB := am (Below.refl w.heap.size w)
 have H : ((impl_ringCode.f k l0_0 a0_1 l1_0 a1_1 a1_2).bind fun t304 => (if t304 = 0 then (if 0 ≤ a0_1 then (if a0_1 < (l0_0.length : Int) then ((impl_replace.f k l1_0 a1_1 a1_2 a1_1 a1_1 (rd_L1 l0_0 a0_1)).bind fun bt306 => (if bt306.2.2.2.2 = 0 then ((impl_size_int64.f (rd_L1 l0_0 a0_1)).bind fun t316 => (some (bt306.1, bt306.2.1, bt306.2.2.1, a1_1, wrap64 (a1_1 + t316), 0))) else (some (([] : List Int), 0, 0, 0, 0, bt306.2.2.2.2)))) else (none)) else (none)) else (some (([] : List Int), 0, 0, 0, 0, t304)))) = some (r1, r2, r3, r4, r5, r6) := h
 clear h
 replace H := Option.bind_eq_some_iff.mp H
 obtain ⟨t304, A30, H⟩ := H
 replace H : (if t304 = 0 then (if 0 ≤ a0_1 then (if a0_1 < (l0_0.length : Int) then ((impl_replace.f k l1_0 a1_1 a1_2 a1_1 a1_1 (rd_L1 l0_0 a0_1)).bind fun bt306 => (if bt306.2.2.2.2 = 0 then ((impl_size_int64.f (rd_L1 l0_0 a0_1)).bind fun t316 => (some (bt306.1, bt306.2.1, bt306.2.2.1, a1_1, wrap64 (a1_1 + t316), 0))) else (some (([] : List Int), 0, 0, 0, 0, bt306.2.2.2.2)))) else (none)) else (none)) else (some (([] : List Int), 0, 0, 0, 0, t304))) = some (r1, r2, r3, r4, r5, r6) := H
 have A3 := Aside0.mk A30
 clear A30
 by_cases c4 : t304 = 0
 ·rw [if_pos c4] at H
  have c4b0 : (t304 == 0) = true := beq_iff_eq.mpr c4
  have c4b1 : (t304 != 0) = false := bne_eq_false_iff_eq.mpr c4
  clear c4
  by_cases c5 : 0 ≤ a0_1
  ·rw [if_pos c5] at H
   have c5b0 : decide (0 ≤ a0_1) = true := decide_eq_true c5
   clear c5
   by_cases c6 : a0_1 < (l0_0.length : Int)
   ·rw [if_pos c6] at H
    have c6b0 : decide (a0_1 < (l0_0.length : Int)) = true := decide_eq_true c6
    clear c6
    replace H := Option.bind_eq_some_iff.mp H
    obtain ⟨⟨t306, t309, t310, t311, t314⟩, A70, H⟩ := H
    replace H : (if t314 = 0 then ((impl_size_int64.f (rd_L1 l0_0 a0_1)).bind fun t316 => (some (t306, t309, t310, a1_1, wrap64 (a1_1 + t316), 0))) else (some (([] : List Int), 0, 0, 0, 0, t314))) = some (r1, r2, r3, r4, r5, r6) := H
    have A7 := Aside0.mk A70
    clear A70
    by_cases c8 : t314 = 0
    ·rw [if_pos c8] at H
     have c8b0 : (t314 == 0) = true := beq_iff_eq.mpr c8
     have c8b1 : (t314 != 0) = false := bne_eq_false_iff_eq.mpr c8
     clear c8
     replace H := Option.bind_eq_some_iff.mp H
     obtain ⟨t316, A90, H⟩ := H
     replace H : (some (t306, t309, t310, a1_1, wrap64 (a1_1 + t316), 0)) = some (r1, r2, r3, r4, r5, r6) := H
     have A9 := Aside0.mk A90
     clear A90
     simp only [Option.some.injEq, Prod.mk.injEq] at H
     obtain ⟨rfl, rfl, rfl, rfl, rfl, rfl⟩ := H
     go_enter Try.func28, Try.ntmps28
     try go_wp2_with (first | ((with_reducible refine gate_dst (N := 2) rfl ?_); refine box_event ?hg (N := 2) ?hd (cs := #[.slice A0_0 l0_0.length c0_0, .int .i64 a0_1]) (t := 50) ?hr ?_; (case hd => rfl); (case hg => rfl); (case hr => first | (go_simp; done) | (go_simp; rfl)); intro gb301 hg w10 hbox hb; have BK301 := am (hbox); have GW301 := am ((by rw [hg]; exact (below_size (bl HB.out)) : w.heap.size ≤ gb301)); have GE301 := GW301; replace HB := am (below_step (bl HB.out) hb); clear hb hbox hg) | ((with_reducible refine gate_dst (N := 3) rfl ?_); refine box_event ?hg (N := 3) ?hd (cs := #[.slice A1_0 l1_0.length c1_0, .int .i64 a1_1, .int .i64 a1_2]) (t := 26) ?hr ?_; (case hd => rfl); (case hg => rfl); (case hr => first | (go_simp; done) | (go_simp; rfl)); intro gb302 hg w11 hbox hb; have BK302 := am (hbox); have GW302 := am ((by rw [hg]; exact (below_size (bl HB.out)) : w.heap.size ≤ gb302)); have GE302 := GW302; replace HB := am (below_step (bl HB.out) hb); have NB301_302 := am ((by rw [hg]; exact Nat.ne_of_lt (blk_lt (pk BK301.out)) : gb301 ≠ gb302)); have NB302_301 := am ((by rw [hg]; exact Nat.ne_of_gt (blk_lt (pk BK301.out)) : gb302 ≠ gb301)); replace BK301 := am (blk_below (pk BK301.out) hb); clear hb hbox hg) | ((with_reducible refine gate_dst (N := 4) rfl ?_); refine box_event ?hg (N := 4) ?hd (cs := #[.slice none 0 0, .int .i64 0, .int .i64 0, .int .i64 0, .int .i64 0, .int .i64 0]) (t := 48) ?hr ?_; (case hd => rfl); (case hg => rfl); (case hr => first | (go_simp; done) | (go_simp; rfl)); intro gb303 hg w12 hbox hb; have BK303 := am (hbox); have GW303 := am ((by rw [hg]; exact (below_size (bl HB.out)) : w.heap.size ≤ gb303)); have GE303 := GW303; replace HB := am (below_step (bl HB.out) hb); have NB301_303 := am ((by rw [hg]; exact Nat.ne_of_lt (blk_lt (pk BK301.out)) : gb301 ≠ gb303)); have NB303_301 := am ((by rw [hg]; exact Nat.ne_of_gt (blk_lt (pk BK301.out)) : gb303 ≠ gb301)); replace BK301 := am (blk_below (pk BK301.out) hb); have NB302_303 := am ((by rw [hg]; exact Nat.ne_of_lt (blk_lt (pk BK302.out)) : gb302 ≠ gb303)); have NB303_302 := am ((by rw [hg]; exact Nat.ne_of_gt (blk_lt (pk BK302.out)) : gb303 ≠ gb302)); replace BK302 := am (blk_below (pk BK302.out) hb); clear hb hbox hg; have hnb13 := NB301_302.out; have hnc13 := NB302_301.out; have hnb14 := NB301_303.out; have hnc14 := NB303_301.out; have hcz15_0 : w12.cell? ⟨gb301, 0, none⟩ = some (.slice A0_0 l0_0.length c0_0) := bc BK301.out 0; have hcz15_1 : w12.cell? ⟨gb301, 1, none⟩ = some (.int .i64 a0_1) := bc BK301.out 1; have hfz15_0 := blk_frozen BK301.out 0; have hfz15_1 := blk_frozen BK301.out 1; have hnb16 := NB302_303.out; have hnc16 := NB303_302.out; have hcz17_0 : w12.cell? ⟨gb302, 0, none⟩ = some (.slice A1_0 l1_0.length c1_0) := bc BK302.out 0; have hcz17_1 : w12.cell? ⟨gb302, 1, none⟩ = some (.int .i64 a1_1) := bc BK302.out 1; have hcz17_2 : w12.cell? ⟨gb302, 2, none⟩ = some (.int .i64 a1_2) := bc BK302.out 2; have hfz17_0 := blk_frozen BK302.out 0; have hfz17_1 := blk_frozen BK302.out 1; have hfz17_2 := blk_frozen BK302.out 2) | ((with_reducible refine gate_callee (f := 54) rfl ?_); refine gl (some 10) Try.func54 #[.agg #[.slice A0_0 l0_0.length c0_0, .int .i64 a0_1], .agg #[.slice A1_0 l1_0.length c1_0, .int .i64 a1_1, .int .i64 a1_2]] ?_; (with_reducible refine (impl_ringCode.calls k _ _ l0_0 a0_1 _ _ l1_0 a1_1 a1_2 t304 _ ?side1 ?side2 ?side3 ?side4 A3.out).mono ?_); (case side1 => repeat (first | exact (Kd.C_below HR0_0.out HB.out) | (with_reducible refine Kd.C_alloc ?_ _) | (with_reducible refine Kd.C_drewN ?_ _) | (with_reducible refine Kd.C_drew ?_))); (case side2 => exact HC0_0.out); (case side3 => repeat (first | exact (Kd.C_below HR1_0.out HB.out) | (with_reducible refine Kd.C_alloc ?_ _) | (with_reducible refine Kd.C_drewN ?_ _) | (with_reducible refine Kd.C_drew ?_))); (case side4 => exact HC1_0.out); rintro e w18 ⟨rfl, hb⟩; refine ⟨_, rfl, ?_⟩; replace BK301 := am (blk_below (pk BK301.out) hb); replace BK302 := am (blk_below (pk BK302.out) hb); replace BK303 := am (blk_below (pk BK303.out) hb); replace HB := am (below_step (bl HB.out) hb); (try clear hb); (try clear hb2); (try clear hk); (try clear hi); have hcz19_0 : w18.cell? ⟨gb301, 0, none⟩ = some (.slice A0_0 l0_0.length c0_0) := bc BK301.out 0; have hcz19_1 : w18.cell? ⟨gb301, 1, none⟩ = some (.int .i64 a0_1) := bc BK301.out 1; have hfz19_0 := blk_frozen BK301.out 0; have hfz19_1 := blk_frozen BK301.out 1; have p305 : 0 ≤ (a0_1 : Int) := of_decide_eq_true (by first | (with_reducible assumption) | assumption); have q305 : a0_1 < (l0_0.length : Int) := of_decide_eq_true (by first | (with_reducible assumption) | assumption); obtain ⟨ad305, A305_0, c305_0, e305, hx305_0, hl305_0, hi305_0⟩ := at_L1 HR0_0.out a0_1 p305 q305; cases e305; have hxw305_0 := hx305_0; replace hx305_0 := (HB.out.cell (World.block_lt_of_cell? w _ hx305_0)).trans hx305_0; have HR305_0 := am hi305_0; have HC305_0 := am hl305_0; clear hi305_0 hl305_0; replace p305 := eq_true p305; replace q305 := eq_true q305; have hcz20_0 : w18.cell? ⟨gb302, 0, none⟩ = some (.slice A1_0 l1_0.length c1_0) := bc BK302.out 0; have hcz20_1 : w18.cell? ⟨gb302, 1, none⟩ = some (.int .i64 a1_1) := bc BK302.out 1; have hcz20_2 : w18.cell? ⟨gb302, 2, none⟩ = some (.int .i64 a1_2) := bc BK302.out 2; have hfz20_0 := blk_frozen BK302.out 0; have hfz20_1 := blk_frozen BK302.out 1; have hfz20_2 := blk_frozen BK302.out 2) | ((with_reducible refine gate_callee (f := 47) rfl ?_); refine gl (some 27) Try.func47 #[.agg #[.slice A1_0 l1_0.length c1_0, .int .i64 a1_1, .int .i64 a1_2], .int .i64 a1_1, .int .i64 a1_1, .slice A305_0 (rd_L1 l0_0 a0_1).length c305_0] ?_; (with_reducible refine (impl_replace.calls k (fun k_ => k_ < w.heap.size) _ _ l1_0 a1_1 a1_2 a1_1 a1_1 (fun k_ => k_ < w.heap.size) _ _ (rd_L1 l0_0 a0_1) t306 t309 t310 t311 t314 _ ?side1 ?side2 A7.out).mono ?_); (case side1 => exact Kd.V_mk HC1_0.out (Kd.F_below (Kd.C_F (Kd.heap_int .i64) HR1_0.out) (bl HB.out))); (case side2 => exact Kd.V_mk HC305_0.out (Kd.F_below (Kd.C_F (Kd.heap_int .i64) HR305_0.out) (bl HB.out))); rintro e w21 ⟨v307, v312, rfl, ho0, ho1, hb⟩; refine ⟨_, rfl, ?_⟩; have HO308 := am (Kd.R_lower (Kd.R_mono (ok' := fun k_ => some k_ ≠ (v312 : Value).ownBlock) ho0 (fun _ hk_ => hk_.2)) (below_size (bl HB.out))); have HO313 := am (Kd.R_lower (Kd.R_mono (ok' := fun k_ => some k_ ≠ (v307 : Value).ownBlock) ho1 (fun _ hk_ => hk_.2)) (below_size (bl HB.out))); replace BK301 := am (blk_below (pk BK301.out) hb); replace BK302 := am (blk_below (pk BK302.out) hb); replace BK303 := am (blk_below (pk BK303.out) hb); replace HB := am (below_step (bl HB.out) hb); (try clear hb); (try clear hb2); (try clear hk); (try clear hi); (try clear ho0); (try clear ho1)) | ((with_reducible refine gate_dst (N := 7) rfl ?_); refine box_event ?hg (N := 7) ?hd (cs := #[.slice none 0 0, .int .i64 0, .int .i64 0, .slice none 0 0, .int .i64 0]) (t := 28) ?hr ?_; (case hd => rfl); (case hg => rfl); (case hr => first | (go_simp; done) | (go_simp; rfl)); intro gb315 hg w22 hbox hb; replace HO308 := am (Kd.R_below (kr HO308.out) hb); replace HO313 := am (Kd.R_below (kr HO313.out) hb); have BK315 := am (hbox); have GW315 := am ((by rw [hg]; exact (below_size (bl HB.out)) : w.heap.size ≤ gb315)); have GE315 := GW315; replace HB := am (below_step (bl HB.out) hb); have NB301_315 := am ((by rw [hg]; exact Nat.ne_of_lt (blk_lt (pk BK301.out)) : gb301 ≠ gb315)); have NB315_301 := am ((by rw [hg]; exact Nat.ne_of_gt (blk_lt (pk BK301.out)) : gb315 ≠ gb301)); replace BK301 := am (blk_below (pk BK301.out) hb); have NB302_315 := am ((by rw [hg]; exact Nat.ne_of_lt (blk_lt (pk BK302.out)) : gb302 ≠ gb315)); have NB315_302 := am ((by rw [hg]; exact Nat.ne_of_gt (blk_lt (pk BK302.out)) : gb315 ≠ gb302)); replace BK302 := am (blk_below (pk BK302.out) hb); have NB303_315 := am ((by rw [hg]; exact Nat.ne_of_lt (blk_lt (pk BK303.out)) : gb303 ≠ gb315)); have NB315_303 := am ((by rw [hg]; exact Nat.ne_of_gt (blk_lt (pk BK303.out)) : gb315 ≠ gb303)); replace BK303 := am (blk_below (pk BK303.out) hb); clear hb hbox hg; obtain ⟨Ao23, co23, eo23⟩ := Kd.R_slice HO308.out; subst eo23; have hnb24 := NB315_301.out; have hnc24 := NB301_315.out; have hnb25 := NB315_302.out; have hnc25 := NB302_315.out; have hnb26 := NB315_303.out; have hnc26 := NB303_315.out; have hcz27_0 : w22.cell? ⟨gb315, 0, none⟩ = some (.slice none 0 0) := bc BK315.out 0; have hcz27_1 : w22.cell? ⟨gb315, 1, none⟩ = some (.int .i64 0) := bc BK315.out 1; have hcz27_2 : w22.cell? ⟨gb315, 2, none⟩ = some (.int .i64 0) := bc BK315.out 2; have hcz27_3 : w22.cell? ⟨gb315, 3, none⟩ = some (.slice none 0 0) := bc BK315.out 3; have hcz27_4 : w22.cell? ⟨gb315, 4, none⟩ = some (.int .i64 0) := bc BK315.out 4; have hfz27_0 := blk_frozen BK315.out 0; have hfz27_1 := blk_frozen BK315.out 1; have hfz27_2 := blk_frozen BK315.out 2; have hfz27_3 := blk_frozen BK315.out 3; have hfz27_4 := blk_frozen BK315.out 4; obtain ⟨Ao28, co28, eo28⟩ := Kd.R_slice HO313.out; subst eo28))
     have n0_ : Aside0 (Kd.R (Kd.int .i64) 2 (((((w22.setCell ⟨gb315, 0, none⟩ (.slice Ao23 t306.length co23)).setCell ⟨gb315, 1, none⟩ (.int .i64 t309)).setCell ⟨gb315, 2, none⟩ (.int .i64 t310)).setCell ⟨gb315, 3, none⟩ (.slice Ao28 t311.length co28)).setCell ⟨gb315, 4, none⟩ (.int .i64 t314)) w.heap.size (fun k_ => some k_ ≠ (.slice Ao28 t311.length co28 : Value).ownBlock) (.slice Ao23 t306.length co23) t306) := ⟨kr (Kd.R_mono (Kd.R_far (p := ⟨gb315, 4, none⟩) (Kd.R_far (p := ⟨gb315, 3, none⟩) (Kd.R_far (p := ⟨gb315, 2, none⟩) (Kd.R_far (p := ⟨gb315, 1, none⟩) (Kd.R_far (p := ⟨gb315, 0, none⟩) (Kd.R_types HO308.out BK315.out (by decide)) (fun _ hk => hk.2) (.slice Ao23 t306.length co23)) (fun _ hk => hk.2) (.int .i64 t309)) (fun _ hk => hk.2) (.int .i64 t310)) (fun _ hk => hk.2) (.slice Ao28 t311.length co28)) (fun _ hk => hk.2) (.int .i64 t314)) (fun _ hk => hk.1))⟩
     have n1_ : Aside0 (Kd.R (Kd.int .i64) 2 (((((w22.setCell ⟨gb315, 0, none⟩ (.slice Ao23 t306.length co23)).setCell ⟨gb315, 1, none⟩ (.int .i64 t309)).setCell ⟨gb315, 2, none⟩ (.int .i64 t310)).setCell ⟨gb315, 3, none⟩ (.slice Ao28 t311.length co28)).setCell ⟨gb315, 4, none⟩ (.int .i64 t314)) w.heap.size (fun k_ => some k_ ≠ (.slice Ao23 t306.length co23 : Value).ownBlock) (.slice Ao28 t311.length co28) t311) := ⟨kr (Kd.R_mono (Kd.R_far (p := ⟨gb315, 4, none⟩) (Kd.R_far (p := ⟨gb315, 3, none⟩) (Kd.R_far (p := ⟨gb315, 2, none⟩) (Kd.R_far (p := ⟨gb315, 1, none⟩) (Kd.R_far (p := ⟨gb315, 0, none⟩) (Kd.R_types HO313.out BK315.out (by decide)) (fun _ hk => hk.2) (.slice Ao23 t306.length co23)) (fun _ hk => hk.2) (.int .i64 t309)) (fun _ hk => hk.2) (.int .i64 t310)) (fun _ hk => hk.2) (.slice Ao28 t311.length co28)) (fun _ hk => hk.2) (.int .i64 t314)) (fun _ hk => hk.1))⟩
     have n2_ : Aside0 ((((((w22.setCell ⟨gb315, 0, none⟩ (.slice Ao23 t306.length co23)).setCell ⟨gb315, 1, none⟩ (.int .i64 t309)).setCell ⟨gb315, 2, none⟩ (.int .i64 t310)).setCell ⟨gb315, 3, none⟩ (.slice Ao28 t311.length co28)).setCell ⟨gb315, 4, none⟩ (.int .i64 t314)).heap[gb301]? = some (.cells #[.slice (some ad305) l0_0.length c0_0, .int .i64 a0_1] 50 (0, 0))) := ⟨by (with_reducible repeat (first | refine blk_drewN ?_ _ | refine blk_drew ?_ | refine blk_alloc ?_ _)); refine blk_far ?_ NB301_315.out _; (with_reducible repeat (first | refine blk_drewN ?_ _ | refine blk_drew ?_ | refine blk_alloc ?_ _)); refine blk_far ?_ NB301_315.out _; (with_reducible repeat (first | refine blk_drewN ?_ _ | refine blk_drew ?_ | refine blk_alloc ?_ _)); refine blk_far ?_ NB301_315.out _; (with_reducible repeat (first | refine blk_drewN ?_ _ | refine blk_drew ?_ | refine blk_alloc ?_ _)); refine blk_far ?_ NB301_315.out _; (with_reducible repeat (first | refine blk_drewN ?_ _ | refine blk_drew ?_ | refine blk_alloc ?_ _)); refine blk_far ?_ NB301_315.out _; (with_reducible repeat (first | refine blk_drewN ?_ _ | refine blk_drew ?_ | refine blk_alloc ?_ _)); exact BK301.out⟩
     have n3_ : Aside0 ((((((w22.setCell ⟨gb315, 0, none⟩ (.slice Ao23 t306.length co23)).setCell ⟨gb315, 1, none⟩ (.int .i64 t309)).setCell ⟨gb315, 2, none⟩ (.int .i64 t310)).setCell ⟨gb315, 3, none⟩ (.slice Ao28 t311.length co28)).setCell ⟨gb315, 4, none⟩ (.int .i64 t314)).heap[gb302]? = some (.cells #[.slice A1_0 l1_0.length c1_0, .int .i64 a1_1, .int .i64 a1_2] 26 (0, 0))) := ⟨by (with_reducible repeat (first | refine blk_drewN ?_ _ | refine blk_drew ?_ | refine blk_alloc ?_ _)); refine blk_far ?_ NB302_315.out _; (with_reducible repeat (first | refine blk_drewN ?_ _ | refine blk_drew ?_ | refine blk_alloc ?_ _)); refine blk_far ?_ NB302_315.out _; (with_reducible repeat (first | refine blk_drewN ?_ _ | refine blk_drew ?_ | refine blk_alloc ?_ _)); refine blk_far ?_ NB302_315.out _; (with_reducible repeat (first | refine blk_drewN ?_ _ | refine blk_drew ?_ | refine blk_alloc ?_ _)); refine blk_far ?_ NB302_315.out _; (with_reducible repeat (first | refine blk_drewN ?_ _ | refine blk_drew ?_ | refine blk_alloc ?_ _)); refine blk_far ?_ NB302_315.out _; (with_reducible repeat (first | refine blk_drewN ?_ _ | refine blk_drew ?_ | refine blk_alloc ?_ _)); exact BK302.out⟩
     have n4_ : Aside0 ((((((w22.setCell ⟨gb315, 0, none⟩ (.slice Ao23 t306.length co23)).setCell ⟨gb315, 1, none⟩ (.int .i64 t309)).setCell ⟨gb315, 2, none⟩ (.int .i64 t310)).setCell ⟨gb315, 3, none⟩ (.slice Ao28 t311.length co28)).setCell ⟨gb315, 4, none⟩ (.int .i64 t314)).heap[gb303]? = some (.cells #[.slice none 0 0, .int .i64 0, .int .i64 0, .int .i64 0, .int .i64 0, .int .i64 0] 48 (0, 0))) := ⟨by (with_reducible repeat (first | refine blk_drewN ?_ _ | refine blk_drew ?_ | refine blk_alloc ?_ _)); refine blk_far ?_ NB303_315.out _; (with_reducible repeat (first | refine blk_drewN ?_ _ | refine blk_drew ?_ | refine blk_alloc ?_ _)); refine blk_far ?_ NB303_315.out _; (with_reducible repeat (first | refine blk_drewN ?_ _ | refine blk_drew ?_ | refine blk_alloc ?_ _)); refine blk_far ?_ NB303_315.out _; (with_reducible repeat (first | refine blk_drewN ?_ _ | refine blk_drew ?_ | refine blk_alloc ?_ _)); refine blk_far ?_ NB303_315.out _; (with_reducible repeat (first | refine blk_drewN ?_ _ | refine blk_drew ?_ | refine blk_alloc ?_ _)); refine blk_far ?_ NB303_315.out _; (with_reducible repeat (first | refine blk_drewN ?_ _ | refine blk_drew ?_ | refine blk_alloc ?_ _)); exact BK303.out⟩
     have n5_ : Aside0 ((((((w22.setCell ⟨gb315, 0, none⟩ (.slice Ao23 t306.length co23)).setCell ⟨gb315, 1, none⟩ (.int .i64 t309)).setCell ⟨gb315, 2, none⟩ (.int .i64 t310)).setCell ⟨gb315, 3, none⟩ (.slice Ao28 t311.length co28)).setCell ⟨gb315, 4, none⟩ (.int .i64 t314)).heap[gb315]? = some (.cells #[.slice Ao23 t306.length co23, .int .i64 t309, .int .i64 t310, .slice Ao28 t311.length co28, .int .i64 t314] 28 (0, 0))) := ⟨by (with_reducible repeat (first | refine blk_drewN ?_ _ | refine blk_drew ?_ | refine blk_alloc ?_ _)); refine blk_put (cs := #[.slice Ao23 t306.length co23, .int .i64 t309, .int .i64 t310, .slice Ao28 t311.length co28, .int .i64 0]) ?_ 4 _ rfl; (with_reducible repeat (first | refine blk_drewN ?_ _ | refine blk_drew ?_ | refine blk_alloc ?_ _)); refine blk_put (cs := #[.slice Ao23 t306.length co23, .int .i64 t309, .int .i64 t310, .slice none 0 0, .int .i64 0]) ?_ 3 _ rfl; (with_reducible repeat (first | refine blk_drewN ?_ _ | refine blk_drew ?_ | refine blk_alloc ?_ _)); refine blk_put (cs := #[.slice Ao23 t306.length co23, .int .i64 t309, .int .i64 0, .slice none 0 0, .int .i64 0]) ?_ 2 _ rfl; (with_reducible repeat (first | refine blk_drewN ?_ _ | refine blk_drew ?_ | refine blk_alloc ?_ _)); refine blk_put (cs := #[.slice Ao23 t306.length co23, .int .i64 0, .int .i64 0, .slice none 0 0, .int .i64 0]) ?_ 1 _ rfl; (with_reducible repeat (first | refine blk_drewN ?_ _ | refine blk_drew ?_ | refine blk_alloc ?_ _)); refine blk_put (cs := #[.slice none 0 0, .int .i64 0, .int .i64 0, .slice none 0 0, .int .i64 0]) ?_ 0 _ rfl; (with_reducible repeat (first | refine blk_drewN ?_ _ | refine blk_drew ?_ | refine blk_alloc ?_ _)); exact BK315.out⟩
     have n6_ : Aside0 (Below w.heap.size w (((((w22.setCell ⟨gb315, 0, none⟩ (.slice Ao23 t306.length co23)).setCell ⟨gb315, 1, none⟩ (.int .i64 t309)).setCell ⟨gb315, 2, none⟩ (.int .i64 t310)).setCell ⟨gb315, 3, none⟩ (.slice Ao28 t311.length co28)).setCell ⟨gb315, 4, none⟩ (.int .i64 t314))) := ⟨by repeat (first | (with_reducible first | exact HB.out | apply below_alloc | apply pw_below_drewN | apply below_drew1 | refine below_set ?_ GE301.out | refine below_set ?_ GE302.out | refine below_set ?_ GE303.out | refine below_set ?_ GE315.out) | exact HB.out)⟩
     (try clear HO308)
     (try clear HO313)
     (try clear BK301)
     (try clear BK302)
     (try clear BK303)
     (try clear BK315)
     (try clear HB)
     generalize (((((w22.setCell ⟨gb315, 0, none⟩ (.slice Ao23 t306.length co23)).setCell ⟨gb315, 1, none⟩ (.int .i64 t309)).setCell ⟨gb315, 2, none⟩ (.int .i64 t310)).setCell ⟨gb315, 3, none⟩ (.slice Ao28 t311.length co28)).setCell ⟨gb315, 4, none⟩ (.int .i64 t314)) = w29 at n0_ n1_ n2_ n3_ n4_ n5_ n6_ ⊢
     have HO308 := n0_
     have HO313 := n1_
     have BK301 := n2_
     have BK302 := n3_
     have BK303 := n4_
     have BK315 := n5_
     have HB := n6_
     clear n0_ n1_ n2_ n3_ n4_ n5_ n6_
     replace HO308 := am (Kd.R_drew HO308.out)
     replace HO313 := am (Kd.R_drew HO313.out)
     replace BK301 := am (blk_drew BK301.out)
     replace BK302 := am (blk_drew BK302.out)
     replace BK303 := am (blk_drew BK303.out)
     replace BK315 := am (blk_drew BK315.out)
     replace HB := am (below_drew1 HB.out)
     refine start_ (n := 11) (S := fun w' => w'.cell? ⟨gb315, 0, none⟩ = some (.slice Ao23 t306.length co23) ∧ w'.cell? ⟨gb315, 1, none⟩ = some (.int .i64 t309) ∧ w'.cell? ⟨gb315, 2, none⟩ = some (.int .i64 t310) ∧ w'.cell? ⟨gb315, 3, none⟩ = some (.slice Ao28 t311.length co28) ∧ w'.cell? ⟨gb315, 4, none⟩ = some (.int .i64 t314) ∧ w'.cell? ⟨gb302, 0, none⟩ = some (.slice A1_0 l1_0.length c1_0) ∧ w'.cell? ⟨gb302, 1, none⟩ = some (.int .i64 a1_1) ∧ w'.cell? ⟨gb302, 2, none⟩ = some (.int .i64 a1_2)) (ds := []) #[false, false, false, false, false, false, false, false, false, false, false] (by kernel_rfl) rfl rfl ⟨bc BK315.out 0, bc BK315.out 1, bc BK315.out 2, bc BK315.out 3, bc BK315.out 4, bc BK302.out 0, bc BK302.out 1, bc BK302.out 2⟩ (fun hHeld => ?_); refine with_tabW impl_RingYank.tab8 impl_RingYank.bits8 (fun HT_ HW_ => ?_)
     generalize w29.drew = w30 at HO308 HO313 BK301 BK302 BK303 BK315 HB hHeld ⊢
     refine pure_ (i := 0) (N := some 34) (v := ?_) (a' := ?_) #[true, false, false, false, false, false, false, false, false, false, false] rfl rfl (any_of HT_.out (by kernel_rfl)) (fun _ _ _ h => h) (Or.inl ⟨by rfl, ?_⟩) ?_ ?_; rotate_left
     ·intro w'; go_simp; with_reducible rfl
     rotate_left
     ·simp only [Act.put, sa_, s0_, ss_, i64_w, i32_w]; rfl
     refine pure_ (i := 2) (N := some 36) (v := ?_) (a' := ?_) #[true, false, true, false, false, false, false, false, false, false, false] rfl rfl (any_of HT_.out (by kernel_rfl)) (fun _ _ _ h => h) (Or.inl ⟨by rfl, ?_⟩) ?_ ?_; rotate_left
     ·intro w'; go_simp; with_reducible rfl
     rotate_left
     ·simp only [Act.put, sa_, s0_, ss_, i64_w, i32_w]; rfl
     refine pure_ (i := 4) (N := some 38) (v := ?_) (a' := ?_) #[true, false, true, false, true, false, false, false, false, false, false] rfl rfl (any_of HT_.out (by kernel_rfl)) (fun _ _ _ h => h) (Or.inl ⟨by rfl, ?_⟩) ?_ ?_; rotate_left
     ·intro w'; go_simp; with_reducible rfl
     rotate_left
     ·simp only [Act.put, sa_, s0_, ss_, i64_w, i32_w]; rfl
     refine pure_ (i := 6) (N := some 40) (v := ?_) (a' := ?_) #[true, false, true, false, true, false, true, false, false, false, false] rfl rfl (any_of HT_.out (by kernel_rfl)) (fun _ _ _ h => h) (Or.inl ⟨by rfl, ?_⟩) ?_ ?_; rotate_left
     ·intro w'; go_simp; with_reducible rfl
     rotate_left
     ·simp only [Act.put, sa_, s0_, ss_, i64_w, i32_w]; rfl
     refine take_ (i := 1) (N := some 35) (v := ?_) (a' := ?_) #[true, true, true, false, true, false, true, false, false, false, false] rfl rfl (take_ofW HT_.out HW_.out (by kernel_rfl)) (fun _ _ _ h => h) (Or.inl ⟨by rfl, ?_⟩) hHeld ?_ ?_; rotate_left
     ·rintro w' ⟨s0, s1, s2, s3, s4, s5, s6, s7⟩; go_simp; with_reducible rfl
     rotate_left
     ·simp only [Act.put, sa_, s0_, ss_, i64_w, i32_w]; rfl
     refine take_ (i := 3) (N := some 37) (v := ?_) (a' := ?_) #[true, true, true, true, true, false, true, false, false, false, false] rfl rfl (take_ofW HT_.out HW_.out (by kernel_rfl)) (fun _ _ _ h => h) (Or.inl ⟨by rfl, ?_⟩) hHeld ?_ ?_; rotate_left
     ·rintro w' ⟨s0, s1, s2, s3, s4, s5, s6, s7⟩; go_simp; with_reducible rfl
     rotate_left
     ·simp only [Act.put, sa_, s0_, ss_, i64_w, i32_w]; rfl
     refine take_ (i := 5) (N := some 39) (v := ?_) (a' := ?_) #[true, true, true, true, true, true, true, false, false, false, false] rfl rfl (take_ofW HT_.out HW_.out (by kernel_rfl)) (fun _ _ _ h => h) (Or.inl ⟨by rfl, ?_⟩) hHeld ?_ ?_; rotate_left
     ·rintro w' ⟨s0, s1, s2, s3, s4, s5, s6, s7⟩; go_simp; with_reducible rfl
     rotate_left
     ·simp only [Act.put, sa_, s0_, ss_, i64_w, i32_w]; rfl
     refine one_ (i := 7) (N := some 41) #[true, true, true, true, true, true, true, true, false, false, false] rfl rfl (one_of HT_.out (by kernel_rfl)) (by decide) (fun K hK => ?_)
     refine goes_ Try.func55 (by kernel_rfl) rfl #[.slice A305_0 (rd_L1 l0_0 a0_1).length c305_0] (by rfl) rfl rfl (by (try simp only [List.map_toArray, List.map_cons, List.map_nil]); first | done | rfl | (simp only [List.length_drop, List.length_take]; rfl)) ?_
     with_reducible refine (impl_size_int64.calls _ _ (rd_L1 l0_0 a0_1) t316 _ A9.out).mono ?_
     rintro e w' ⟨rfl, ⟨nd, rfl⟩⟩
     refine ⟨_, rfl, ?_⟩
     refine hK.out _ _ ⟨bc BK315.out 0, bc BK315.out 1, bc BK315.out 2, bc BK315.out 3, bc BK315.out 4, bc BK302.out 0, bc BK302.out 1, bc BK302.out 2⟩ (fun hHeld => ?_)
     clear hK K
     refine norm_ (a' := ?_) ?_ ?_
     rotate_left
     ·show Act.put _ (some 41) _ = _
      simp only [Act.put, sa_, s0_, ss_, i64_w, i32_w]
      rfl
     refine pure_ (i := 8) (N := some 42) (v := ?_) (a' := ?_) #[true, true, true, true, true, true, true, true, true, false, false] rfl rfl (any_of HT_.out (by kernel_rfl)) (fun _ _ _ h => h) (Or.inl ⟨by rfl, ?_⟩) ?_ ?_; rotate_left
     ·intro w'; go_simp; with_reducible rfl
     rotate_left
     ·simp only [Act.put, sa_, s0_, ss_, i64_w, i32_w]; rfl
     refine pure_ (i := 9) (N := some 43) (v := ?_) (a' := ?_) #[true, true, true, true, true, true, true, true, true, true, false] rfl rfl (any_of HT_.out (by kernel_rfl)) (fun _ _ _ h => h) (Or.inl ⟨by rfl, ?_⟩) ?_ ?_; rotate_left
     ·intro w'; go_simp; with_reducible rfl
     rotate_left
     ·simp only [Act.put, sa_, s0_, ss_, i64_w, i32_w]; rfl
     refine one_ (i := 10) (N := none) #[true, true, true, true, true, true, true, true, true, true, true] rfl rfl (one_of HT_.out (by kernel_rfl)) (by decide) (fun K hK => ?_)
     have hs31 : w30.cell? ⟨gb303, 0, none⟩ = some (.slice none 0 0) := bc BK303.out 0
     have hfs31 := blk_frozen BK303.out 0
     have hns31_0 := NB301_303.out
     have hns31_1 := NB302_303.out
     have hns31_3 := NB315_303.out
     have hms31_0 := NB303_301.out
     have hms31_1 := NB303_302.out
     have hms31_3 := NB303_315.out
     have hs32 : w30.cell? ⟨gb303, 1, none⟩ = some (.int .i64 0) := bc BK303.out 1
     have hfs32 := blk_frozen BK303.out 1
     have hns32_0 := NB301_303.out
     have hns32_1 := NB302_303.out
     have hns32_3 := NB315_303.out
     have hms32_0 := NB303_301.out
     have hms32_1 := NB303_302.out
     have hms32_3 := NB303_315.out
     have hs33 : w30.cell? ⟨gb303, 2, none⟩ = some (.int .i64 0) := bc BK303.out 2
     have hfs33 := blk_frozen BK303.out 2
     have hns33_0 := NB301_303.out
     have hns33_1 := NB302_303.out
     have hns33_3 := NB315_303.out
     have hms33_0 := NB303_301.out
     have hms33_1 := NB303_302.out
     have hms33_3 := NB303_315.out
     have hs34 : w30.cell? ⟨gb303, 3, none⟩ = some (.int .i64 0) := bc BK303.out 3
     have hfs34 := blk_frozen BK303.out 3
     have hns34_0 := NB301_303.out
     have hns34_1 := NB302_303.out
     have hns34_3 := NB315_303.out
     have hms34_0 := NB303_301.out
     have hms34_1 := NB303_302.out
     have hms34_3 := NB303_315.out
     have hs35 : w30.cell? ⟨gb303, 4, none⟩ = some (.int .i64 0) := bc BK303.out 4
     have hfs35 := blk_frozen BK303.out 4
     have hns35_0 := NB301_303.out
     have hns35_1 := NB302_303.out
     have hns35_3 := NB315_303.out
     have hms35_0 := NB303_301.out
     have hms35_1 := NB303_302.out
     have hms35_3 := NB303_315.out
     have hs36 : w30.cell? ⟨gb303, 5, none⟩ = some (.int .i64 0) := bc BK303.out 5
     have hfs36 := blk_frozen BK303.out 5
     have hns36_0 := NB301_303.out
     have hns36_1 := NB302_303.out
     have hns36_3 := NB315_303.out
     have hms36_0 := NB303_301.out
     have hms36_1 := NB303_302.out
     have hms36_3 := NB303_315.out
     refine skip_ (w1 := ?_) (by rfl) rfl ?_ ?_
     rotate_left
     ·go_simp
      rfl
     refine hK.out _ _ ⟨((cell_far (p := ⟨gb303, _, none⟩) NB315_303.out _).trans (((cell_far (p := ⟨gb303, _, none⟩) NB315_303.out _).trans (((cell_far (p := ⟨gb303, _, none⟩) NB315_303.out _).trans (((cell_far (p := ⟨gb303, _, none⟩) NB315_303.out _).trans (((cell_far (p := ⟨gb303, _, none⟩) NB315_303.out _).trans (((cell_far (p := ⟨gb303, _, none⟩) NB315_303.out _).trans (hHeld.1)))))))))))), ((cell_far (p := ⟨gb303, _, none⟩) NB315_303.out _).trans (((cell_far (p := ⟨gb303, _, none⟩) NB315_303.out _).trans (((cell_far (p := ⟨gb303, _, none⟩) NB315_303.out _).trans (((cell_far (p := ⟨gb303, _, none⟩) NB315_303.out _).trans (((cell_far (p := ⟨gb303, _, none⟩) NB315_303.out _).trans (((cell_far (p := ⟨gb303, _, none⟩) NB315_303.out _).trans (hHeld.2.1)))))))))))), ((cell_far (p := ⟨gb303, _, none⟩) NB315_303.out _).trans (((cell_far (p := ⟨gb303, _, none⟩) NB315_303.out _).trans (((cell_far (p := ⟨gb303, _, none⟩) NB315_303.out _).trans (((cell_far (p := ⟨gb303, _, none⟩) NB315_303.out _).trans (((cell_far (p := ⟨gb303, _, none⟩) NB315_303.out _).trans (((cell_far (p := ⟨gb303, _, none⟩) NB315_303.out _).trans (hHeld.2.2.1)))))))))))), ((cell_far (p := ⟨gb303, _, none⟩) NB315_303.out _).trans (((cell_far (p := ⟨gb303, _, none⟩) NB315_303.out _).trans (((cell_far (p := ⟨gb303, _, none⟩) NB315_303.out _).trans (((cell_far (p := ⟨gb303, _, none⟩) NB315_303.out _).trans (((cell_far (p := ⟨gb303, _, none⟩) NB315_303.out _).trans (((cell_far (p := ⟨gb303, _, none⟩) NB315_303.out _).trans (hHeld.2.2.2.1)))))))))))), ((cell_far (p := ⟨gb303, _, none⟩) NB315_303.out _).trans (((cell_far (p := ⟨gb303, _, none⟩) NB315_303.out _).trans (((cell_far (p := ⟨gb303, _, none⟩) NB315_303.out _).trans (((cell_far (p := ⟨gb303, _, none⟩) NB315_303.out _).trans (((cell_far (p := ⟨gb303, _, none⟩) NB315_303.out _).trans (((cell_far (p := ⟨gb303, _, none⟩) NB315_303.out _).trans (hHeld.2.2.2.2.1)))))))))))), ((cell_far (p := ⟨gb303, _, none⟩) NB302_303.out _).trans (((cell_far (p := ⟨gb303, _, none⟩) NB302_303.out _).trans (((cell_far (p := ⟨gb303, _, none⟩) NB302_303.out _).trans (((cell_far (p := ⟨gb303, _, none⟩) NB302_303.out _).trans (((cell_far (p := ⟨gb303, _, none⟩) NB302_303.out _).trans (((cell_far (p := ⟨gb303, _, none⟩) NB302_303.out _).trans (hHeld.2.2.2.2.2.1)))))))))))), ((cell_far (p := ⟨gb303, _, none⟩) NB302_303.out _).trans (((cell_far (p := ⟨gb303, _, none⟩) NB302_303.out _).trans (((cell_far (p := ⟨gb303, _, none⟩) NB302_303.out _).trans (((cell_far (p := ⟨gb303, _, none⟩) NB302_303.out _).trans (((cell_far (p := ⟨gb303, _, none⟩) NB302_303.out _).trans (((cell_far (p := ⟨gb303, _, none⟩) NB302_303.out _).trans (hHeld.2.2.2.2.2.2.1)))))))))))), ((cell_far (p := ⟨gb303, _, none⟩) NB302_303.out _).trans (((cell_far (p := ⟨gb303, _, none⟩) NB302_303.out _).trans (((cell_far (p := ⟨gb303, _, none⟩) NB302_303.out _).trans (((cell_far (p := ⟨gb303, _, none⟩) NB302_303.out _).trans (((cell_far (p := ⟨gb303, _, none⟩) NB302_303.out _).trans (((cell_far (p := ⟨gb303, _, none⟩) NB302_303.out _).trans (hHeld.2.2.2.2.2.2.2))))))))))))⟩ (fun hHeld => ?_)
     clear hK K
     refine done_ (done_of HT_.out (by kernel_rfl)) ?_
     (try (rw [drewN_self w30]; generalize hq_ : World.drewN w30 _ = w30; replace HO308 := am (Kd.R_at hq_ HO308.out); replace HO313 := am (Kd.R_at hq_ HO313.out); replace BK301 := am (blk_at hq_ BK301.out); replace BK302 := am (blk_at hq_ BK302.out); replace BK303 := am (blk_at hq_ BK303.out); replace BK315 := am (blk_at hq_ BK315.out); replace HB := am (below_at hq_ HB.out); clear hq_))
     try go_wp2
     refine bodyPost_ret (results_cell_row rfl _ _ gb303 48 #[.slice Ao23 t306.length co23, .int .i64 t309, .int .i64 t310, .int .i64 a1_1, .int .i64 (wrap64 (a1_1 + t316)), .int .i64 0] (0, 0) _ rfl (by (with_reducible repeat (first | refine blk_drewN ?_ _ | refine blk_drew ?_ | refine blk_alloc ?_ _)); refine blk_put (cs := #[.slice Ao23 t306.length co23, .int .i64 t309, .int .i64 t310, .int .i64 a1_1, .int .i64 (wrap64 (a1_1 + t316)), .int .i64 0]) ?_ 5 _ rfl; (with_reducible repeat (first | refine blk_drewN ?_ _ | refine blk_drew ?_ | refine blk_alloc ?_ _)); refine blk_put (cs := #[.slice Ao23 t306.length co23, .int .i64 t309, .int .i64 t310, .int .i64 a1_1, .int .i64 0, .int .i64 0]) ?_ 4 _ rfl; (with_reducible repeat (first | refine blk_drewN ?_ _ | refine blk_drew ?_ | refine blk_alloc ?_ _)); refine blk_put (cs := #[.slice Ao23 t306.length co23, .int .i64 t309, .int .i64 t310, .int .i64 0, .int .i64 0, .int .i64 0]) ?_ 3 _ rfl; (with_reducible repeat (first | refine blk_drewN ?_ _ | refine blk_drew ?_ | refine blk_alloc ?_ _)); refine blk_put (cs := #[.slice Ao23 t306.length co23, .int .i64 t309, .int .i64 0, .int .i64 0, .int .i64 0, .int .i64 0]) ?_ 2 _ rfl; (with_reducible repeat (first | refine blk_drewN ?_ _ | refine blk_drew ?_ | refine blk_alloc ?_ _)); refine blk_put (cs := #[.slice Ao23 t306.length co23, .int .i64 0, .int .i64 0, .int .i64 0, .int .i64 0, .int .i64 0]) ?_ 1 _ rfl; (with_reducible repeat (first | refine blk_drewN ?_ _ | refine blk_drew ?_ | refine blk_alloc ?_ _)); refine blk_put (cs := #[.slice none 0 0, .int .i64 0, .int .i64 0, .int .i64 0, .int .i64 0, .int .i64 0]) ?_ 0 _ rfl; (with_reducible repeat (first | refine blk_drewN ?_ _ | refine blk_drew ?_ | refine blk_alloc ?_ _)); exact BK303.out) Try.underlying48 rfl (by kernel_rfl)) rfl ?_
     exact ⟨_, by first | rfl | (simp [errW_none, errW_some] <;> rfl) | (simp [*, errW_none, errW_some] <;> rfl), kr (Kd.R_mono (Kd.R_far (p := ⟨gb303, 5, none⟩) (Kd.R_far (p := ⟨gb303, 4, none⟩) (Kd.R_far (p := ⟨gb303, 3, none⟩) (Kd.R_far (p := ⟨gb303, 2, none⟩) (Kd.R_far (p := ⟨gb303, 1, none⟩) (Kd.R_far (p := ⟨gb303, 0, none⟩) (Kd.R_types HO308.out BK303.out (by decide)) (fun _ hk => hk.2) (.slice Ao23 t306.length co23)) (fun _ hk => hk.2) (.int .i64 t309)) (fun _ hk => hk.2) (.int .i64 t310)) (fun _ hk => hk.2) (.int .i64 a1_1)) (fun _ hk => hk.2) (.int .i64 (wrap64 (a1_1 + t316)))) (fun _ hk => hk.2) (.int .i64 0)) (fun _ hk => trivial)), by repeat (first | (with_reducible first | exact HB.out | apply below_alloc | apply pw_below_drewN | apply below_drew1 | refine below_set ?_ GE301.out | refine below_set ?_ GE302.out | refine below_set ?_ GE303.out | refine below_set ?_ GE315.out) | exact HB.out)⟩
    ·rw [if_neg c8] at H
     have c8b0 : (t314 == 0) = false := beq_eq_false_iff_ne.mpr c8
     have c8b1 : (t314 != 0) = true := bne_iff_ne.mpr c8
     simp only [Option.some.injEq, Prod.mk.injEq] at H
     obtain ⟨rfl, rfl, rfl, rfl, rfl, rfl⟩ := H
     go_enter Try.func28, Try.ntmps28
     go_wp2_with (first | ((with_reducible refine gate_dst (N := 2) rfl ?_); refine box_event ?hg (N := 2) ?hd (cs := #[.slice A0_0 l0_0.length c0_0, .int .i64 a0_1]) (t := 50) ?hr ?_; (case hd => rfl); (case hg => rfl); (case hr => first | (go_simp; done) | (go_simp; rfl)); intro gb301 hg w37 hbox hb; have BK301 := am (hbox); have GW301 := am ((by rw [hg]; exact (below_size (bl HB.out)) : w.heap.size ≤ gb301)); have GE301 := GW301; replace HB := am (below_step (bl HB.out) hb); clear hb hbox hg) | ((with_reducible refine gate_dst (N := 3) rfl ?_); refine box_event ?hg (N := 3) ?hd (cs := #[.slice A1_0 l1_0.length c1_0, .int .i64 a1_1, .int .i64 a1_2]) (t := 26) ?hr ?_; (case hd => rfl); (case hg => rfl); (case hr => first | (go_simp; done) | (go_simp; rfl)); intro gb302 hg w38 hbox hb; have BK302 := am (hbox); have GW302 := am ((by rw [hg]; exact (below_size (bl HB.out)) : w.heap.size ≤ gb302)); have GE302 := GW302; replace HB := am (below_step (bl HB.out) hb); have NB301_302 := am ((by rw [hg]; exact Nat.ne_of_lt (blk_lt (pk BK301.out)) : gb301 ≠ gb302)); have NB302_301 := am ((by rw [hg]; exact Nat.ne_of_gt (blk_lt (pk BK301.out)) : gb302 ≠ gb301)); replace BK301 := am (blk_below (pk BK301.out) hb); clear hb hbox hg) | ((with_reducible refine gate_dst (N := 4) rfl ?_); refine box_event ?hg (N := 4) ?hd (cs := #[.slice none 0 0, .int .i64 0, .int .i64 0, .int .i64 0, .int .i64 0, .int .i64 0]) (t := 48) ?hr ?_; (case hd => rfl); (case hg => rfl); (case hr => first | (go_simp; done) | (go_simp; rfl)); intro gb303 hg w39 hbox hb; have BK303 := am (hbox); have GW303 := am ((by rw [hg]; exact (below_size (bl HB.out)) : w.heap.size ≤ gb303)); have GE303 := GW303; replace HB := am (below_step (bl HB.out) hb); have NB301_303 := am ((by rw [hg]; exact Nat.ne_of_lt (blk_lt (pk BK301.out)) : gb301 ≠ gb303)); have NB303_301 := am ((by rw [hg]; exact Nat.ne_of_gt (blk_lt (pk BK301.out)) : gb303 ≠ gb301)); replace BK301 := am (blk_below (pk BK301.out) hb); have NB302_303 := am ((by rw [hg]; exact Nat.ne_of_lt (blk_lt (pk BK302.out)) : gb302 ≠ gb303)); have NB303_302 := am ((by rw [hg]; exact Nat.ne_of_gt (blk_lt (pk BK302.out)) : gb303 ≠ gb302)); replace BK302 := am (blk_below (pk BK302.out) hb); clear hb hbox hg; have hnb40 := NB301_302.out; have hnc40 := NB302_301.out; have hnb41 := NB301_303.out; have hnc41 := NB303_301.out; have hcz42_0 : w39.cell? ⟨gb301, 0, none⟩ = some (.slice A0_0 l0_0.length c0_0) := bc BK301.out 0; have hcz42_1 : w39.cell? ⟨gb301, 1, none⟩ = some (.int .i64 a0_1) := bc BK301.out 1; have hfz42_0 := blk_frozen BK301.out 0; have hfz42_1 := blk_frozen BK301.out 1; have hnb43 := NB302_303.out; have hnc43 := NB303_302.out; have hcz44_0 : w39.cell? ⟨gb302, 0, none⟩ = some (.slice A1_0 l1_0.length c1_0) := bc BK302.out 0; have hcz44_1 : w39.cell? ⟨gb302, 1, none⟩ = some (.int .i64 a1_1) := bc BK302.out 1; have hcz44_2 : w39.cell? ⟨gb302, 2, none⟩ = some (.int .i64 a1_2) := bc BK302.out 2; have hfz44_0 := blk_frozen BK302.out 0; have hfz44_1 := blk_frozen BK302.out 1; have hfz44_2 := blk_frozen BK302.out 2) | ((with_reducible refine gate_callee (f := 54) rfl ?_); refine gl (some 10) Try.func54 #[.agg #[.slice A0_0 l0_0.length c0_0, .int .i64 a0_1], .agg #[.slice A1_0 l1_0.length c1_0, .int .i64 a1_1, .int .i64 a1_2]] ?_; (with_reducible refine (impl_ringCode.calls k _ _ l0_0 a0_1 _ _ l1_0 a1_1 a1_2 t304 _ ?side1 ?side2 ?side3 ?side4 A3.out).mono ?_); (case side1 => repeat (first | exact (Kd.C_below HR0_0.out HB.out) | (with_reducible refine Kd.C_alloc ?_ _) | (with_reducible refine Kd.C_drewN ?_ _) | (with_reducible refine Kd.C_drew ?_))); (case side2 => exact HC0_0.out); (case side3 => repeat (first | exact (Kd.C_below HR1_0.out HB.out) | (with_reducible refine Kd.C_alloc ?_ _) | (with_reducible refine Kd.C_drewN ?_ _) | (with_reducible refine Kd.C_drew ?_))); (case side4 => exact HC1_0.out); rintro e w45 ⟨rfl, hb⟩; refine ⟨_, rfl, ?_⟩; replace BK301 := am (blk_below (pk BK301.out) hb); replace BK302 := am (blk_below (pk BK302.out) hb); replace BK303 := am (blk_below (pk BK303.out) hb); replace HB := am (below_step (bl HB.out) hb); (try clear hb); (try clear hb2); (try clear hk); (try clear hi); have hcz46_0 : w45.cell? ⟨gb301, 0, none⟩ = some (.slice A0_0 l0_0.length c0_0) := bc BK301.out 0; have hcz46_1 : w45.cell? ⟨gb301, 1, none⟩ = some (.int .i64 a0_1) := bc BK301.out 1; have hfz46_0 := blk_frozen BK301.out 0; have hfz46_1 := blk_frozen BK301.out 1; have p305 : 0 ≤ (a0_1 : Int) := of_decide_eq_true (by first | (with_reducible assumption) | assumption); have q305 : a0_1 < (l0_0.length : Int) := of_decide_eq_true (by first | (with_reducible assumption) | assumption); obtain ⟨ad305, A305_0, c305_0, e305, hx305_0, hl305_0, hi305_0⟩ := at_L1 HR0_0.out a0_1 p305 q305; cases e305; have hxw305_0 := hx305_0; replace hx305_0 := (HB.out.cell (World.block_lt_of_cell? w _ hx305_0)).trans hx305_0; have HR305_0 := am hi305_0; have HC305_0 := am hl305_0; clear hi305_0 hl305_0; replace p305 := eq_true p305; replace q305 := eq_true q305; have hcz47_0 : w45.cell? ⟨gb302, 0, none⟩ = some (.slice A1_0 l1_0.length c1_0) := bc BK302.out 0; have hcz47_1 : w45.cell? ⟨gb302, 1, none⟩ = some (.int .i64 a1_1) := bc BK302.out 1; have hcz47_2 : w45.cell? ⟨gb302, 2, none⟩ = some (.int .i64 a1_2) := bc BK302.out 2; have hfz47_0 := blk_frozen BK302.out 0; have hfz47_1 := blk_frozen BK302.out 1; have hfz47_2 := blk_frozen BK302.out 2) | ((with_reducible refine gate_callee (f := 47) rfl ?_); refine gl (some 27) Try.func47 #[.agg #[.slice A1_0 l1_0.length c1_0, .int .i64 a1_1, .int .i64 a1_2], .int .i64 a1_1, .int .i64 a1_1, .slice A305_0 (rd_L1 l0_0 a0_1).length c305_0] ?_; (with_reducible refine (impl_replace.calls k (fun k_ => k_ < w.heap.size) _ _ l1_0 a1_1 a1_2 a1_1 a1_1 (fun k_ => k_ < w.heap.size) _ _ (rd_L1 l0_0 a0_1) t306 t309 t310 t311 t314 _ ?side1 ?side2 A7.out).mono ?_); (case side1 => exact Kd.V_mk HC1_0.out (Kd.F_below (Kd.C_F (Kd.heap_int .i64) HR1_0.out) (bl HB.out))); (case side2 => exact Kd.V_mk HC305_0.out (Kd.F_below (Kd.C_F (Kd.heap_int .i64) HR305_0.out) (bl HB.out))); rintro e w48 ⟨v307, v312, rfl, ho0, ho1, hb⟩; refine ⟨_, rfl, ?_⟩; have HO308 := am (Kd.R_lower (Kd.R_mono (ok' := fun k_ => some k_ ≠ (v312 : Value).ownBlock) ho0 (fun _ hk_ => hk_.2)) (below_size (bl HB.out))); have HO313 := am (Kd.R_lower (Kd.R_mono (ok' := fun k_ => some k_ ≠ (v307 : Value).ownBlock) ho1 (fun _ hk_ => hk_.2)) (below_size (bl HB.out))); replace BK301 := am (blk_below (pk BK301.out) hb); replace BK302 := am (blk_below (pk BK302.out) hb); replace BK303 := am (blk_below (pk BK303.out) hb); replace HB := am (below_step (bl HB.out) hb); (try clear hb); (try clear hb2); (try clear hk); (try clear hi); (try clear ho0); (try clear ho1)) | ((with_reducible refine gate_dst (N := 7) rfl ?_); refine box_event ?hg (N := 7) ?hd (cs := #[.slice none 0 0, .int .i64 0, .int .i64 0, .slice none 0 0, .int .i64 0]) (t := 28) ?hr ?_; (case hd => rfl); (case hg => rfl); (case hr => first | (go_simp; done) | (go_simp; rfl)); intro gb315 hg w49 hbox hb; replace HO308 := am (Kd.R_below (kr HO308.out) hb); replace HO313 := am (Kd.R_below (kr HO313.out) hb); have BK315 := am (hbox); have GW315 := am ((by rw [hg]; exact (below_size (bl HB.out)) : w.heap.size ≤ gb315)); have GE315 := GW315; replace HB := am (below_step (bl HB.out) hb); have NB301_315 := am ((by rw [hg]; exact Nat.ne_of_lt (blk_lt (pk BK301.out)) : gb301 ≠ gb315)); have NB315_301 := am ((by rw [hg]; exact Nat.ne_of_gt (blk_lt (pk BK301.out)) : gb315 ≠ gb301)); replace BK301 := am (blk_below (pk BK301.out) hb); have NB302_315 := am ((by rw [hg]; exact Nat.ne_of_lt (blk_lt (pk BK302.out)) : gb302 ≠ gb315)); have NB315_302 := am ((by rw [hg]; exact Nat.ne_of_gt (blk_lt (pk BK302.out)) : gb315 ≠ gb302)); replace BK302 := am (blk_below (pk BK302.out) hb); have NB303_315 := am ((by rw [hg]; exact Nat.ne_of_lt (blk_lt (pk BK303.out)) : gb303 ≠ gb315)); have NB315_303 := am ((by rw [hg]; exact Nat.ne_of_gt (blk_lt (pk BK303.out)) : gb315 ≠ gb303)); replace BK303 := am (blk_below (pk BK303.out) hb); clear hb hbox hg; obtain ⟨Ao50, co50, eo50⟩ := Kd.R_slice HO308.out; subst eo50; have hnb51 := NB315_301.out; have hnc51 := NB301_315.out; have hnb52 := NB315_302.out; have hnc52 := NB302_315.out; have hnb53 := NB315_303.out; have hnc53 := NB303_315.out; have hcz54_0 : w49.cell? ⟨gb315, 0, none⟩ = some (.slice none 0 0) := bc BK315.out 0; have hcz54_1 : w49.cell? ⟨gb315, 1, none⟩ = some (.int .i64 0) := bc BK315.out 1; have hcz54_2 : w49.cell? ⟨gb315, 2, none⟩ = some (.int .i64 0) := bc BK315.out 2; have hcz54_3 : w49.cell? ⟨gb315, 3, none⟩ = some (.slice none 0 0) := bc BK315.out 3; have hcz54_4 : w49.cell? ⟨gb315, 4, none⟩ = some (.int .i64 0) := bc BK315.out 4; have hfz54_0 := blk_frozen BK315.out 0; have hfz54_1 := blk_frozen BK315.out 1; have hfz54_2 := blk_frozen BK315.out 2; have hfz54_3 := blk_frozen BK315.out 3; have hfz54_4 := blk_frozen BK315.out 4; obtain ⟨Ao55, co55, eo55⟩ := Kd.R_slice HO313.out; subst eo55; have hcz56_0 : w49.cell? ⟨gb303, 0, none⟩ = some (.slice none 0 0) := bc BK303.out 0; have hcz56_1 : w49.cell? ⟨gb303, 1, none⟩ = some (.int .i64 0) := bc BK303.out 1; have hcz56_2 : w49.cell? ⟨gb303, 2, none⟩ = some (.int .i64 0) := bc BK303.out 2; have hcz56_3 : w49.cell? ⟨gb303, 3, none⟩ = some (.int .i64 0) := bc BK303.out 3; have hcz56_4 : w49.cell? ⟨gb303, 4, none⟩ = some (.int .i64 0) := bc BK303.out 4; have hcz56_5 : w49.cell? ⟨gb303, 5, none⟩ = some (.int .i64 0) := bc BK303.out 5; have hfz56_0 := blk_frozen BK303.out 0; have hfz56_1 := blk_frozen BK303.out 1; have hfz56_2 := blk_frozen BK303.out 2; have hfz56_3 := blk_frozen BK303.out 3; have hfz56_4 := blk_frozen BK303.out 4; have hfz56_5 := blk_frozen BK303.out 5))
     refine bodyPost_ret (results_cell_row rfl _ _ gb303 48 #[.slice none 0 0, .int .i64 0, .int .i64 0, .int .i64 0, .int .i64 0, .int .i64 t314] (0, 0) _ rfl (by (with_reducible repeat (first | refine blk_drewN ?_ _ | refine blk_drew ?_ | refine blk_alloc ?_ _)); refine blk_put (cs := #[.slice none 0 0, .int .i64 0, .int .i64 0, .int .i64 0, .int .i64 0, .int .i64 0]) ?_ 5 _ rfl; (with_reducible repeat (first | refine blk_drewN ?_ _ | refine blk_drew ?_ | refine blk_alloc ?_ _)); refine blk_put (cs := #[.slice none 0 0, .int .i64 0, .int .i64 0, .int .i64 0, .int .i64 0, .int .i64 0]) ?_ 4 _ rfl; (with_reducible repeat (first | refine blk_drewN ?_ _ | refine blk_drew ?_ | refine blk_alloc ?_ _)); refine blk_put (cs := #[.slice none 0 0, .int .i64 0, .int .i64 0, .int .i64 0, .int .i64 0, .int .i64 0]) ?_ 3 _ rfl; (with_reducible repeat (first | refine blk_drewN ?_ _ | refine blk_drew ?_ | refine blk_alloc ?_ _)); refine blk_put (cs := #[.slice none 0 0, .int .i64 0, .int .i64 0, .int .i64 0, .int .i64 0, .int .i64 0]) ?_ 2 _ rfl; (with_reducible repeat (first | refine blk_drewN ?_ _ | refine blk_drew ?_ | refine blk_alloc ?_ _)); refine blk_put (cs := #[.slice none 0 0, .int .i64 0, .int .i64 0, .int .i64 0, .int .i64 0, .int .i64 0]) ?_ 1 _ rfl; (with_reducible repeat (first | refine blk_drewN ?_ _ | refine blk_drew ?_ | refine blk_alloc ?_ _)); refine blk_put (cs := #[.slice none 0 0, .int .i64 0, .int .i64 0, .int .i64 0, .int .i64 0, .int .i64 0]) ?_ 0 _ rfl; (with_reducible repeat (first | refine blk_drewN ?_ _ | refine blk_drew ?_ | refine blk_alloc ?_ _)); refine blk_far ?_ NB303_315.out _; (with_reducible repeat (first | refine blk_drewN ?_ _ | refine blk_drew ?_ | refine blk_alloc ?_ _)); refine blk_far ?_ NB303_315.out _; (with_reducible repeat (first | refine blk_drewN ?_ _ | refine blk_drew ?_ | refine blk_alloc ?_ _)); refine blk_far ?_ NB303_315.out _; (with_reducible repeat (first | refine blk_drewN ?_ _ | refine blk_drew ?_ | refine blk_alloc ?_ _)); refine blk_far ?_ NB303_315.out _; (with_reducible repeat (first | refine blk_drewN ?_ _ | refine blk_drew ?_ | refine blk_alloc ?_ _)); refine blk_far ?_ NB303_315.out _; (with_reducible repeat (first | refine blk_drewN ?_ _ | refine blk_drew ?_ | refine blk_alloc ?_ _)); exact BK303.out) Try.underlying48 rfl (by kernel_rfl)) rfl ?_
     exact ⟨_, by first | rfl | (simp [errW_none, errW_some] <;> rfl) | (simp [*, errW_none, errW_some] <;> rfl), by first | exact Kd.R_nil _ _ _ _ _ | exact Kd.N_nil _ _ _ _ _ | exact Kd.V_nil _ _ _ _ _ | exact Kd.Q_nil _ _ _ _ _ | exact Kd.S_nil _ _ _ _ _, by repeat (first | (with_reducible first | exact HB.out | apply below_alloc | apply pw_below_drewN | apply below_drew1 | refine below_set ?_ GE301.out | refine below_set ?_ GE302.out | refine below_set ?_ GE303.out | refine below_set ?_ GE315.out) | exact HB.out)⟩
   ·rw [if_neg c6] at H
    exact absurd H (by simp)
  ·rw [if_neg c5] at H
   exact absurd H (by simp)
 ·rw [if_neg c4] at H
  have c4b0 : (t304 == 0) = false := beq_eq_false_iff_ne.mpr c4
  have c4b1 : (t304 != 0) = true := bne_iff_ne.mpr c4
  simp only [Option.some.injEq, Prod.mk.injEq] at H
  obtain ⟨rfl, rfl, rfl, rfl, rfl, rfl⟩ := H
  go_enter Try.func28, Try.ntmps28
  go_wp2_with (first | ((with_reducible refine gate_dst (N := 2) rfl ?_); refine box_event ?hg (N := 2) ?hd (cs := #[.slice A0_0 l0_0.length c0_0, .int .i64 a0_1]) (t := 50) ?hr ?_; (case hd => rfl); (case hg => rfl); (case hr => first | (go_simp; done) | (go_simp; rfl)); intro gb301 hg w57 hbox hb; have BK301 := am (hbox); have GW301 := am ((by rw [hg]; exact (below_size (bl HB.out)) : w.heap.size ≤ gb301)); have GE301 := GW301; replace HB := am (below_step (bl HB.out) hb); clear hb hbox hg) | ((with_reducible refine gate_dst (N := 3) rfl ?_); refine box_event ?hg (N := 3) ?hd (cs := #[.slice A1_0 l1_0.length c1_0, .int .i64 a1_1, .int .i64 a1_2]) (t := 26) ?hr ?_; (case hd => rfl); (case hg => rfl); (case hr => first | (go_simp; done) | (go_simp; rfl)); intro gb302 hg w58 hbox hb; have BK302 := am (hbox); have GW302 := am ((by rw [hg]; exact (below_size (bl HB.out)) : w.heap.size ≤ gb302)); have GE302 := GW302; replace HB := am (below_step (bl HB.out) hb); have NB301_302 := am ((by rw [hg]; exact Nat.ne_of_lt (blk_lt (pk BK301.out)) : gb301 ≠ gb302)); have NB302_301 := am ((by rw [hg]; exact Nat.ne_of_gt (blk_lt (pk BK301.out)) : gb302 ≠ gb301)); replace BK301 := am (blk_below (pk BK301.out) hb); clear hb hbox hg) | ((with_reducible refine gate_dst (N := 4) rfl ?_); refine box_event ?hg (N := 4) ?hd (cs := #[.slice none 0 0, .int .i64 0, .int .i64 0, .int .i64 0, .int .i64 0, .int .i64 0]) (t := 48) ?hr ?_; (case hd => rfl); (case hg => rfl); (case hr => first | (go_simp; done) | (go_simp; rfl)); intro gb303 hg w59 hbox hb; have BK303 := am (hbox); have GW303 := am ((by rw [hg]; exact (below_size (bl HB.out)) : w.heap.size ≤ gb303)); have GE303 := GW303; replace HB := am (below_step (bl HB.out) hb); have NB301_303 := am ((by rw [hg]; exact Nat.ne_of_lt (blk_lt (pk BK301.out)) : gb301 ≠ gb303)); have NB303_301 := am ((by rw [hg]; exact Nat.ne_of_gt (blk_lt (pk BK301.out)) : gb303 ≠ gb301)); replace BK301 := am (blk_below (pk BK301.out) hb); have NB302_303 := am ((by rw [hg]; exact Nat.ne_of_lt (blk_lt (pk BK302.out)) : gb302 ≠ gb303)); have NB303_302 := am ((by rw [hg]; exact Nat.ne_of_gt (blk_lt (pk BK302.out)) : gb303 ≠ gb302)); replace BK302 := am (blk_below (pk BK302.out) hb); clear hb hbox hg; have hnb60 := NB301_302.out; have hnc60 := NB302_301.out; have hnb61 := NB301_303.out; have hnc61 := NB303_301.out; have hcz62_0 : w59.cell? ⟨gb301, 0, none⟩ = some (.slice A0_0 l0_0.length c0_0) := bc BK301.out 0; have hcz62_1 : w59.cell? ⟨gb301, 1, none⟩ = some (.int .i64 a0_1) := bc BK301.out 1; have hfz62_0 := blk_frozen BK301.out 0; have hfz62_1 := blk_frozen BK301.out 1; have hnb63 := NB302_303.out; have hnc63 := NB303_302.out; have hcz64_0 : w59.cell? ⟨gb302, 0, none⟩ = some (.slice A1_0 l1_0.length c1_0) := bc BK302.out 0; have hcz64_1 : w59.cell? ⟨gb302, 1, none⟩ = some (.int .i64 a1_1) := bc BK302.out 1; have hcz64_2 : w59.cell? ⟨gb302, 2, none⟩ = some (.int .i64 a1_2) := bc BK302.out 2; have hfz64_0 := blk_frozen BK302.out 0; have hfz64_1 := blk_frozen BK302.out 1; have hfz64_2 := blk_frozen BK302.out 2) | ((with_reducible refine gate_callee (f := 54) rfl ?_); refine gl (some 10) Try.func54 #[.agg #[.slice A0_0 l0_0.length c0_0, .int .i64 a0_1], .agg #[.slice A1_0 l1_0.length c1_0, .int .i64 a1_1, .int .i64 a1_2]] ?_; (with_reducible refine (impl_ringCode.calls k _ _ l0_0 a0_1 _ _ l1_0 a1_1 a1_2 t304 _ ?side1 ?side2 ?side3 ?side4 A3.out).mono ?_); (case side1 => repeat (first | exact (Kd.C_below HR0_0.out HB.out) | (with_reducible refine Kd.C_alloc ?_ _) | (with_reducible refine Kd.C_drewN ?_ _) | (with_reducible refine Kd.C_drew ?_))); (case side2 => exact HC0_0.out); (case side3 => repeat (first | exact (Kd.C_below HR1_0.out HB.out) | (with_reducible refine Kd.C_alloc ?_ _) | (with_reducible refine Kd.C_drewN ?_ _) | (with_reducible refine Kd.C_drew ?_))); (case side4 => exact HC1_0.out); rintro e w65 ⟨rfl, hb⟩; refine ⟨_, rfl, ?_⟩; replace BK301 := am (blk_below (pk BK301.out) hb); replace BK302 := am (blk_below (pk BK302.out) hb); replace BK303 := am (blk_below (pk BK303.out) hb); replace HB := am (below_step (bl HB.out) hb); (try clear hb); (try clear hb2); (try clear hk); (try clear hi); have hcz66_0 : w65.cell? ⟨gb303, 0, none⟩ = some (.slice none 0 0) := bc BK303.out 0; have hcz66_1 : w65.cell? ⟨gb303, 1, none⟩ = some (.int .i64 0) := bc BK303.out 1; have hcz66_2 : w65.cell? ⟨gb303, 2, none⟩ = some (.int .i64 0) := bc BK303.out 2; have hcz66_3 : w65.cell? ⟨gb303, 3, none⟩ = some (.int .i64 0) := bc BK303.out 3; have hcz66_4 : w65.cell? ⟨gb303, 4, none⟩ = some (.int .i64 0) := bc BK303.out 4; have hcz66_5 : w65.cell? ⟨gb303, 5, none⟩ = some (.int .i64 0) := bc BK303.out 5; have hfz66_0 := blk_frozen BK303.out 0; have hfz66_1 := blk_frozen BK303.out 1; have hfz66_2 := blk_frozen BK303.out 2; have hfz66_3 := blk_frozen BK303.out 3; have hfz66_4 := blk_frozen BK303.out 4; have hfz66_5 := blk_frozen BK303.out 5))
  refine bodyPost_ret (results_cell_row rfl _ _ gb303 48 #[.slice none 0 0, .int .i64 0, .int .i64 0, .int .i64 0, .int .i64 0, .int .i64 t304] (0, 0) _ rfl (by (with_reducible repeat (first | refine blk_drewN ?_ _ | refine blk_drew ?_ | refine blk_alloc ?_ _)); refine blk_put (cs := #[.slice none 0 0, .int .i64 0, .int .i64 0, .int .i64 0, .int .i64 0, .int .i64 0]) ?_ 5 _ rfl; (with_reducible repeat (first | refine blk_drewN ?_ _ | refine blk_drew ?_ | refine blk_alloc ?_ _)); refine blk_put (cs := #[.slice none 0 0, .int .i64 0, .int .i64 0, .int .i64 0, .int .i64 0, .int .i64 0]) ?_ 4 _ rfl; (with_reducible repeat (first | refine blk_drewN ?_ _ | refine blk_drew ?_ | refine blk_alloc ?_ _)); refine blk_put (cs := #[.slice none 0 0, .int .i64 0, .int .i64 0, .int .i64 0, .int .i64 0, .int .i64 0]) ?_ 3 _ rfl; (with_reducible repeat (first | refine blk_drewN ?_ _ | refine blk_drew ?_ | refine blk_alloc ?_ _)); refine blk_put (cs := #[.slice none 0 0, .int .i64 0, .int .i64 0, .int .i64 0, .int .i64 0, .int .i64 0]) ?_ 2 _ rfl; (with_reducible repeat (first | refine blk_drewN ?_ _ | refine blk_drew ?_ | refine blk_alloc ?_ _)); refine blk_put (cs := #[.slice none 0 0, .int .i64 0, .int .i64 0, .int .i64 0, .int .i64 0, .int .i64 0]) ?_ 1 _ rfl; (with_reducible repeat (first | refine blk_drewN ?_ _ | refine blk_drew ?_ | refine blk_alloc ?_ _)); refine blk_put (cs := #[.slice none 0 0, .int .i64 0, .int .i64 0, .int .i64 0, .int .i64 0, .int .i64 0]) ?_ 0 _ rfl; (with_reducible repeat (first | refine blk_drewN ?_ _ | refine blk_drew ?_ | refine blk_alloc ?_ _)); exact BK303.out) Try.underlying48 rfl (by kernel_rfl)) rfl ?_
  exact ⟨_, by first | rfl | (simp [errW_none, errW_some] <;> rfl) | (simp [*, errW_none, errW_some] <;> rfl), by first | exact Kd.R_nil _ _ _ _ _ | exact Kd.N_nil _ _ _ _ _ | exact Kd.V_nil _ _ _ _ _ | exact Kd.Q_nil _ _ _ _ _ | exact Kd.S_nil _ _ _ _ _, by repeat (first | (with_reducible first | exact HB.out | apply below_alloc | apply pw_below_drewN | apply below_drew1 | refine below_set ?_ GE301.out | refine below_set ?_ GE302.out | refine below_set ?_ GE303.out) | exact HB.out)⟩

/-! ### laws_eqYankOut: function 29 -/
def laws_eqYankOut.f (k : Nat) (l0_0 : List Int) (a0_1 : Int) (a0_2 : Int) (a0_3 : Int) (a0_4 : Int) (a0_5 : Int) (l1_0 : List Int) (a1_1 : Int) (a1_2 : Int) (a1_3 : Int) (a1_4 : Int) (a1_5 : Int) : Option (Bool) := (laws_eqBuf.f k l0_0 a0_1 a0_2 l1_0 a1_1 a1_2).bind fun t319 => (if t319 = true then (if a0_3 = a1_3 then (if a0_4 = a1_4 then (if a0_5 = a1_5 then (some true) else (some false)) else (some false)) else (some false)) else (some false))
theorem laws_eqYankOut.mono : ∀ a0 a1 a2 a3 a4 a5 a6 a7 a8 a9 a10 a11 k, LeO (laws_eqYankOut.f k a0 a1 a2 a3 a4 a5 a6 a7 a8 a9 a10 a11) (laws_eqYankOut.f (k + 1) a0 a1 a2 a3 a4 a5 a6 a7 a8 a9 a10 a11) := by
 intro a0 a1 a2 a3 a4 a5 a6 a7 a8 a9 a10 a11 k
 unfold laws_eqYankOut.f
 repeat' first
   | (with_reducible exact laws_eqBuf.mono _ _ _ _ _ _ _)
   | (with_reducible exact LeO.refl _)
   | (with_reducible exact LeO.none _)
   | (with_reducible refine LeO.ite ?_ ?_)
   | (with_reducible refine LeO.bind ?_ (fun _ => ?_))
   | exact laws_eqBuf.mono _ _ _ _ _ _ _
   | exact LeO.none _
   | refine LeO.ite ?_ ?_
   | refine LeO.bind ?_ (fun _ => ?_)
set_option maxHeartbeats 8000000 in
set_option maxRecDepth 100000 in
theorem laws_eqYankOut.calls (k : Nat) (A0_0 : Option Addr) (c0_0 : Nat) (l0_0 : List Int) (a0_1 : Int) (a0_2 : Int) (a0_3 : Int) (a0_4 : Int) (a0_5 : Int) (A1_0 : Option Addr) (c1_0 : Nat) (l1_0 : List Int) (a1_1 : Int) (a1_2 : Int) (a1_3 : Int) (a1_4 : Int) (a1_5 : Int) (r : Bool) (w : World) (hr0_0 : Kd.C (Kd.int .i64) w A0_0 l0_0.length l0_0) (hc0_0 : l0_0.length ≤ c0_0) (hr1_0 : Kd.C (Kd.int .i64) w A1_0 l1_0.length l1_0) (hc1_0 : l1_0.length ≤ c1_0) (h : laws_eqYankOut.f k l0_0 a0_1 a0_2 a0_3 a0_4 a0_5 l1_0 a1_1 a1_2 a1_3 a1_4 a1_5 = some r) :
  Calls Try.prog 29 #[.agg #[.slice A0_0 l0_0.length c0_0, .int .i64 a0_1, .int .i64 a0_2, .int .i64 a0_3, .int .i64 a0_4, .int .i64 a0_5], .agg #[.slice A1_0 l1_0.length c1_0, .int .i64 a1_1, .int .i64 a1_2, .int .i64 a1_3, .int .i64 a1_4, .int .i64 a1_5]] w fun e w' => e = .returned (.bool r) ∧ Below w.heap.size w w' := by
 have hu48 := Try.underlying48
 have hu26 := Try.underlying26
 have HR0_0 := am hr0_0
 have HC0_0 := am hc0_0
 clear hr0_0 hc0_0
 have HR1_0 := am hr1_0
 have HC1_0 := am hc1_0
 clear hr1_0 hc1_0
 have HB := am (Below.refl w.heap.size w)
 have H : ((laws_eqBuf.f k l0_0 a0_1 a0_2 l1_0 a1_1 a1_2).bind fun t319 => (if t319 = true then (if a0_3 = a1_3 then (if a0_4 = a1_4 then (if a0_5 = a1_5 then (some true) else (some false)) else (some false)) else (some false)) else (some false))) = some r := h
 clear h
 replace H := Option.bind_eq_some_iff.mp H
 obtain ⟨t319, A30, H⟩ := H
 replace H : (if t319 = true then (if a0_3 = a1_3 then (if a0_4 = a1_4 then (if a0_5 = a1_5 then (some true) else (some false)) else (some false)) else (some false)) else (some false)) = some r := H
 have A3 := Aside0.mk A30
 clear A30
 by_cases c4 : t319 = true
 ·subst c4
  have H1 : (if a0_3 = a1_3 then (if a0_4 = a1_4 then (if a0_5 = a1_5 then (some true) else (some false)) else (some false)) else (some false)) = some r := by rw [if_pos rfl] at H; exact H
  clear H
  have H := H1
  clear H1
  by_cases c5 : a0_3 = a1_3
  ·rw [if_pos c5] at H
   have c5b0 : (a0_3 == a1_3) = true := beq_iff_eq.mpr c5
   have c5b1 : (a0_3 != a1_3) = false := bne_eq_false_iff_eq.mpr c5
   clear c5
   by_cases c6 : a0_4 = a1_4
   ·rw [if_pos c6] at H
    have c6b0 : (a0_4 == a1_4) = true := beq_iff_eq.mpr c6
    have c6b1 : (a0_4 != a1_4) = false := bne_eq_false_iff_eq.mpr c6
    clear c6
    by_cases c7 : a0_5 = a1_5
    ·rw [if_pos c7] at H
     have c7b0 : (a0_5 == a1_5) = true := beq_iff_eq.mpr c7
     have c7b1 : (a0_5 != a1_5) = false := bne_eq_false_iff_eq.mpr c7
     clear c7
     obtain rfl := Option.some.inj H
     go_enter Try.func29, Try.ntmps29
     go_wp2_with (first | ((with_reducible refine gate_dst (N := 2) rfl ?_); refine box_event ?hg (N := 2) ?hd (cs := #[.slice A0_0 l0_0.length c0_0, .int .i64 a0_1, .int .i64 a0_2, .int .i64 a0_3, .int .i64 a0_4, .int .i64 a0_5]) (t := 48) ?hr ?_; (case hd => rfl); (case hg => rfl); (case hr => first | (go_simp; done) | (go_simp; rfl)); intro gb317 hg w8 hbox hb; have BK317 := am (hbox); have GW317 := am ((by rw [hg]; exact (below_size (bl HB.out)) : w.heap.size ≤ gb317)); have GE317 := GW317; replace HB := am (below_step (bl HB.out) hb); clear hb hbox hg) | ((with_reducible refine gate_dst (N := 3) rfl ?_); refine box_event ?hg (N := 3) ?hd (cs := #[.slice A1_0 l1_0.length c1_0, .int .i64 a1_1, .int .i64 a1_2, .int .i64 a1_3, .int .i64 a1_4, .int .i64 a1_5]) (t := 48) ?hr ?_; (case hd => rfl); (case hg => rfl); (case hr => first | (go_simp; done) | (go_simp; rfl)); intro gb318 hg w9 hbox hb; have BK318 := am (hbox); have GW318 := am ((by rw [hg]; exact (below_size (bl HB.out)) : w.heap.size ≤ gb318)); have GE318 := GW318; replace HB := am (below_step (bl HB.out) hb); have NB317_318 := am ((by rw [hg]; exact Nat.ne_of_lt (blk_lt (pk BK317.out)) : gb317 ≠ gb318)); have NB318_317 := am ((by rw [hg]; exact Nat.ne_of_gt (blk_lt (pk BK317.out)) : gb318 ≠ gb317)); replace BK317 := am (blk_below (pk BK317.out) hb); clear hb hbox hg; have hnb10 := NB317_318.out; have hnc10 := NB318_317.out; have hcz11_0 : w9.cell? ⟨gb317, 0, none⟩ = some (.slice A0_0 l0_0.length c0_0) := bc BK317.out 0; have hcz11_1 : w9.cell? ⟨gb317, 1, none⟩ = some (.int .i64 a0_1) := bc BK317.out 1; have hcz11_2 : w9.cell? ⟨gb317, 2, none⟩ = some (.int .i64 a0_2) := bc BK317.out 2; have hcz11_3 : w9.cell? ⟨gb317, 3, none⟩ = some (.int .i64 a0_3) := bc BK317.out 3; have hcz11_4 : w9.cell? ⟨gb317, 4, none⟩ = some (.int .i64 a0_4) := bc BK317.out 4; have hcz11_5 : w9.cell? ⟨gb317, 5, none⟩ = some (.int .i64 a0_5) := bc BK317.out 5; have hcz12_0 : w9.cell? ⟨gb318, 0, none⟩ = some (.slice A1_0 l1_0.length c1_0) := bc BK318.out 0; have hcz12_1 : w9.cell? ⟨gb318, 1, none⟩ = some (.int .i64 a1_1) := bc BK318.out 1; have hcz12_2 : w9.cell? ⟨gb318, 2, none⟩ = some (.int .i64 a1_2) := bc BK318.out 2; have hcz12_3 : w9.cell? ⟨gb318, 3, none⟩ = some (.int .i64 a1_3) := bc BK318.out 3; have hcz12_4 : w9.cell? ⟨gb318, 4, none⟩ = some (.int .i64 a1_4) := bc BK318.out 4; have hcz12_5 : w9.cell? ⟨gb318, 5, none⟩ = some (.int .i64 a1_5) := bc BK318.out 5) | ((with_reducible refine gate_callee (f := 15) rfl ?_); refine gl (some 9) Try.func15 #[.agg #[.slice A0_0 l0_0.length c0_0, .int .i64 a0_1, .int .i64 a0_2], .agg #[.slice A1_0 l1_0.length c1_0, .int .i64 a1_1, .int .i64 a1_2]] ?_; (with_reducible refine (laws_eqBuf.calls k _ _ l0_0 a0_1 a0_2 _ _ l1_0 a1_1 a1_2 true _ ?side1 ?side2 ?side3 ?side4 A3.out).mono ?_); (case side1 => repeat (first | exact (Kd.C_below HR0_0.out HB.out) | (with_reducible refine Kd.C_alloc ?_ _) | (with_reducible refine Kd.C_drewN ?_ _) | (with_reducible refine Kd.C_drew ?_))); (case side2 => exact HC0_0.out); (case side3 => repeat (first | exact (Kd.C_below HR1_0.out HB.out) | (with_reducible refine Kd.C_alloc ?_ _) | (with_reducible refine Kd.C_drewN ?_ _) | (with_reducible refine Kd.C_drew ?_))); (case side4 => exact HC1_0.out); rintro e w13 ⟨rfl, hb⟩; refine ⟨_, rfl, ?_⟩; replace BK317 := am (blk_below (pk BK317.out) hb); replace BK318 := am (blk_below (pk BK318.out) hb); replace HB := am (below_step (bl HB.out) hb); (try clear hb); (try clear hb2); (try clear hk); (try clear hi); have hcz14_0 : w13.cell? ⟨gb317, 0, none⟩ = some (.slice A0_0 l0_0.length c0_0) := bc BK317.out 0; have hcz14_1 : w13.cell? ⟨gb317, 1, none⟩ = some (.int .i64 a0_1) := bc BK317.out 1; have hcz14_2 : w13.cell? ⟨gb317, 2, none⟩ = some (.int .i64 a0_2) := bc BK317.out 2; have hcz14_3 : w13.cell? ⟨gb317, 3, none⟩ = some (.int .i64 a0_3) := bc BK317.out 3; have hcz14_4 : w13.cell? ⟨gb317, 4, none⟩ = some (.int .i64 a0_4) := bc BK317.out 4; have hcz14_5 : w13.cell? ⟨gb317, 5, none⟩ = some (.int .i64 a0_5) := bc BK317.out 5; have hcz15_0 : w13.cell? ⟨gb318, 0, none⟩ = some (.slice A1_0 l1_0.length c1_0) := bc BK318.out 0; have hcz15_1 : w13.cell? ⟨gb318, 1, none⟩ = some (.int .i64 a1_1) := bc BK318.out 1; have hcz15_2 : w13.cell? ⟨gb318, 2, none⟩ = some (.int .i64 a1_2) := bc BK318.out 2; have hcz15_3 : w13.cell? ⟨gb318, 3, none⟩ = some (.int .i64 a1_3) := bc BK318.out 3; have hcz15_4 : w13.cell? ⟨gb318, 4, none⟩ = some (.int .i64 a1_4) := bc BK318.out 4; have hcz15_5 : w13.cell? ⟨gb318, 5, none⟩ = some (.int .i64 a1_5) := bc BK318.out 5))
     go_ret
     exact ⟨by first | rfl | (simp [errW_none, errW_some] <;> rfl) | (simp [*, errW_none, errW_some] <;> rfl), by repeat (first | (with_reducible first | exact HB.out | apply below_alloc | apply pw_below_drewN | apply below_drew1 | refine below_set ?_ GE317.out | refine below_set ?_ GE318.out) | exact HB.out)⟩
    ·rw [if_neg c7] at H
     have c7b0 : (a0_5 == a1_5) = false := beq_eq_false_iff_ne.mpr c7
     have c7b1 : (a0_5 != a1_5) = true := bne_iff_ne.mpr c7
     obtain rfl := Option.some.inj H
     go_enter Try.func29, Try.ntmps29
     go_wp2_with (first | ((with_reducible refine gate_dst (N := 2) rfl ?_); refine box_event ?hg (N := 2) ?hd (cs := #[.slice A0_0 l0_0.length c0_0, .int .i64 a0_1, .int .i64 a0_2, .int .i64 a0_3, .int .i64 a0_4, .int .i64 a0_5]) (t := 48) ?hr ?_; (case hd => rfl); (case hg => rfl); (case hr => first | (go_simp; done) | (go_simp; rfl)); intro gb317 hg w16 hbox hb; have BK317 := am (hbox); have GW317 := am ((by rw [hg]; exact (below_size (bl HB.out)) : w.heap.size ≤ gb317)); have GE317 := GW317; replace HB := am (below_step (bl HB.out) hb); clear hb hbox hg) | ((with_reducible refine gate_dst (N := 3) rfl ?_); refine box_event ?hg (N := 3) ?hd (cs := #[.slice A1_0 l1_0.length c1_0, .int .i64 a1_1, .int .i64 a1_2, .int .i64 a1_3, .int .i64 a1_4, .int .i64 a1_5]) (t := 48) ?hr ?_; (case hd => rfl); (case hg => rfl); (case hr => first | (go_simp; done) | (go_simp; rfl)); intro gb318 hg w17 hbox hb; have BK318 := am (hbox); have GW318 := am ((by rw [hg]; exact (below_size (bl HB.out)) : w.heap.size ≤ gb318)); have GE318 := GW318; replace HB := am (below_step (bl HB.out) hb); have NB317_318 := am ((by rw [hg]; exact Nat.ne_of_lt (blk_lt (pk BK317.out)) : gb317 ≠ gb318)); have NB318_317 := am ((by rw [hg]; exact Nat.ne_of_gt (blk_lt (pk BK317.out)) : gb318 ≠ gb317)); replace BK317 := am (blk_below (pk BK317.out) hb); clear hb hbox hg; have hnb18 := NB317_318.out; have hnc18 := NB318_317.out; have hcz19_0 : w17.cell? ⟨gb317, 0, none⟩ = some (.slice A0_0 l0_0.length c0_0) := bc BK317.out 0; have hcz19_1 : w17.cell? ⟨gb317, 1, none⟩ = some (.int .i64 a0_1) := bc BK317.out 1; have hcz19_2 : w17.cell? ⟨gb317, 2, none⟩ = some (.int .i64 a0_2) := bc BK317.out 2; have hcz19_3 : w17.cell? ⟨gb317, 3, none⟩ = some (.int .i64 a0_3) := bc BK317.out 3; have hcz19_4 : w17.cell? ⟨gb317, 4, none⟩ = some (.int .i64 a0_4) := bc BK317.out 4; have hcz19_5 : w17.cell? ⟨gb317, 5, none⟩ = some (.int .i64 a0_5) := bc BK317.out 5; have hcz20_0 : w17.cell? ⟨gb318, 0, none⟩ = some (.slice A1_0 l1_0.length c1_0) := bc BK318.out 0; have hcz20_1 : w17.cell? ⟨gb318, 1, none⟩ = some (.int .i64 a1_1) := bc BK318.out 1; have hcz20_2 : w17.cell? ⟨gb318, 2, none⟩ = some (.int .i64 a1_2) := bc BK318.out 2; have hcz20_3 : w17.cell? ⟨gb318, 3, none⟩ = some (.int .i64 a1_3) := bc BK318.out 3; have hcz20_4 : w17.cell? ⟨gb318, 4, none⟩ = some (.int .i64 a1_4) := bc BK318.out 4; have hcz20_5 : w17.cell? ⟨gb318, 5, none⟩ = some (.int .i64 a1_5) := bc BK318.out 5) | ((with_reducible refine gate_callee (f := 15) rfl ?_); refine gl (some 9) Try.func15 #[.agg #[.slice A0_0 l0_0.length c0_0, .int .i64 a0_1, .int .i64 a0_2], .agg #[.slice A1_0 l1_0.length c1_0, .int .i64 a1_1, .int .i64 a1_2]] ?_; (with_reducible refine (laws_eqBuf.calls k _ _ l0_0 a0_1 a0_2 _ _ l1_0 a1_1 a1_2 true _ ?side1 ?side2 ?side3 ?side4 A3.out).mono ?_); (case side1 => repeat (first | exact (Kd.C_below HR0_0.out HB.out) | (with_reducible refine Kd.C_alloc ?_ _) | (with_reducible refine Kd.C_drewN ?_ _) | (with_reducible refine Kd.C_drew ?_))); (case side2 => exact HC0_0.out); (case side3 => repeat (first | exact (Kd.C_below HR1_0.out HB.out) | (with_reducible refine Kd.C_alloc ?_ _) | (with_reducible refine Kd.C_drewN ?_ _) | (with_reducible refine Kd.C_drew ?_))); (case side4 => exact HC1_0.out); rintro e w21 ⟨rfl, hb⟩; refine ⟨_, rfl, ?_⟩; replace BK317 := am (blk_below (pk BK317.out) hb); replace BK318 := am (blk_below (pk BK318.out) hb); replace HB := am (below_step (bl HB.out) hb); (try clear hb); (try clear hb2); (try clear hk); (try clear hi); have hcz22_0 : w21.cell? ⟨gb317, 0, none⟩ = some (.slice A0_0 l0_0.length c0_0) := bc BK317.out 0; have hcz22_1 : w21.cell? ⟨gb317, 1, none⟩ = some (.int .i64 a0_1) := bc BK317.out 1; have hcz22_2 : w21.cell? ⟨gb317, 2, none⟩ = some (.int .i64 a0_2) := bc BK317.out 2; have hcz22_3 : w21.cell? ⟨gb317, 3, none⟩ = some (.int .i64 a0_3) := bc BK317.out 3; have hcz22_4 : w21.cell? ⟨gb317, 4, none⟩ = some (.int .i64 a0_4) := bc BK317.out 4; have hcz22_5 : w21.cell? ⟨gb317, 5, none⟩ = some (.int .i64 a0_5) := bc BK317.out 5; have hcz23_0 : w21.cell? ⟨gb318, 0, none⟩ = some (.slice A1_0 l1_0.length c1_0) := bc BK318.out 0; have hcz23_1 : w21.cell? ⟨gb318, 1, none⟩ = some (.int .i64 a1_1) := bc BK318.out 1; have hcz23_2 : w21.cell? ⟨gb318, 2, none⟩ = some (.int .i64 a1_2) := bc BK318.out 2; have hcz23_3 : w21.cell? ⟨gb318, 3, none⟩ = some (.int .i64 a1_3) := bc BK318.out 3; have hcz23_4 : w21.cell? ⟨gb318, 4, none⟩ = some (.int .i64 a1_4) := bc BK318.out 4; have hcz23_5 : w21.cell? ⟨gb318, 5, none⟩ = some (.int .i64 a1_5) := bc BK318.out 5))
     go_ret
     exact ⟨by first | rfl | (simp [errW_none, errW_some] <;> rfl) | (simp [*, errW_none, errW_some] <;> rfl), by repeat (first | (with_reducible first | exact HB.out | apply below_alloc | apply pw_below_drewN | apply below_drew1 | refine below_set ?_ GE317.out | refine below_set ?_ GE318.out) | exact HB.out)⟩
   ·rw [if_neg c6] at H
    have c6b0 : (a0_4 == a1_4) = false := beq_eq_false_iff_ne.mpr c6
    have c6b1 : (a0_4 != a1_4) = true := bne_iff_ne.mpr c6
    obtain rfl := Option.some.inj H
    go_enter Try.func29, Try.ntmps29
    go_wp2_with (first | ((with_reducible refine gate_dst (N := 2) rfl ?_); refine box_event ?hg (N := 2) ?hd (cs := #[.slice A0_0 l0_0.length c0_0, .int .i64 a0_1, .int .i64 a0_2, .int .i64 a0_3, .int .i64 a0_4, .int .i64 a0_5]) (t := 48) ?hr ?_; (case hd => rfl); (case hg => rfl); (case hr => first | (go_simp; done) | (go_simp; rfl)); intro gb317 hg w24 hbox hb; have BK317 := am (hbox); have GW317 := am ((by rw [hg]; exact (below_size (bl HB.out)) : w.heap.size ≤ gb317)); have GE317 := GW317; replace HB := am (below_step (bl HB.out) hb); clear hb hbox hg) | ((with_reducible refine gate_dst (N := 3) rfl ?_); refine box_event ?hg (N := 3) ?hd (cs := #[.slice A1_0 l1_0.length c1_0, .int .i64 a1_1, .int .i64 a1_2, .int .i64 a1_3, .int .i64 a1_4, .int .i64 a1_5]) (t := 48) ?hr ?_; (case hd => rfl); (case hg => rfl); (case hr => first | (go_simp; done) | (go_simp; rfl)); intro gb318 hg w25 hbox hb; have BK318 := am (hbox); have GW318 := am ((by rw [hg]; exact (below_size (bl HB.out)) : w.heap.size ≤ gb318)); have GE318 := GW318; replace HB := am (below_step (bl HB.out) hb); have NB317_318 := am ((by rw [hg]; exact Nat.ne_of_lt (blk_lt (pk BK317.out)) : gb317 ≠ gb318)); have NB318_317 := am ((by rw [hg]; exact Nat.ne_of_gt (blk_lt (pk BK317.out)) : gb318 ≠ gb317)); replace BK317 := am (blk_below (pk BK317.out) hb); clear hb hbox hg; have hnb26 := NB317_318.out; have hnc26 := NB318_317.out; have hcz27_0 : w25.cell? ⟨gb317, 0, none⟩ = some (.slice A0_0 l0_0.length c0_0) := bc BK317.out 0; have hcz27_1 : w25.cell? ⟨gb317, 1, none⟩ = some (.int .i64 a0_1) := bc BK317.out 1; have hcz27_2 : w25.cell? ⟨gb317, 2, none⟩ = some (.int .i64 a0_2) := bc BK317.out 2; have hcz27_3 : w25.cell? ⟨gb317, 3, none⟩ = some (.int .i64 a0_3) := bc BK317.out 3; have hcz27_4 : w25.cell? ⟨gb317, 4, none⟩ = some (.int .i64 a0_4) := bc BK317.out 4; have hcz27_5 : w25.cell? ⟨gb317, 5, none⟩ = some (.int .i64 a0_5) := bc BK317.out 5; have hcz28_0 : w25.cell? ⟨gb318, 0, none⟩ = some (.slice A1_0 l1_0.length c1_0) := bc BK318.out 0; have hcz28_1 : w25.cell? ⟨gb318, 1, none⟩ = some (.int .i64 a1_1) := bc BK318.out 1; have hcz28_2 : w25.cell? ⟨gb318, 2, none⟩ = some (.int .i64 a1_2) := bc BK318.out 2; have hcz28_3 : w25.cell? ⟨gb318, 3, none⟩ = some (.int .i64 a1_3) := bc BK318.out 3; have hcz28_4 : w25.cell? ⟨gb318, 4, none⟩ = some (.int .i64 a1_4) := bc BK318.out 4; have hcz28_5 : w25.cell? ⟨gb318, 5, none⟩ = some (.int .i64 a1_5) := bc BK318.out 5) | ((with_reducible refine gate_callee (f := 15) rfl ?_); refine gl (some 9) Try.func15 #[.agg #[.slice A0_0 l0_0.length c0_0, .int .i64 a0_1, .int .i64 a0_2], .agg #[.slice A1_0 l1_0.length c1_0, .int .i64 a1_1, .int .i64 a1_2]] ?_; (with_reducible refine (laws_eqBuf.calls k _ _ l0_0 a0_1 a0_2 _ _ l1_0 a1_1 a1_2 true _ ?side1 ?side2 ?side3 ?side4 A3.out).mono ?_); (case side1 => repeat (first | exact (Kd.C_below HR0_0.out HB.out) | (with_reducible refine Kd.C_alloc ?_ _) | (with_reducible refine Kd.C_drewN ?_ _) | (with_reducible refine Kd.C_drew ?_))); (case side2 => exact HC0_0.out); (case side3 => repeat (first | exact (Kd.C_below HR1_0.out HB.out) | (with_reducible refine Kd.C_alloc ?_ _) | (with_reducible refine Kd.C_drewN ?_ _) | (with_reducible refine Kd.C_drew ?_))); (case side4 => exact HC1_0.out); rintro e w29 ⟨rfl, hb⟩; refine ⟨_, rfl, ?_⟩; replace BK317 := am (blk_below (pk BK317.out) hb); replace BK318 := am (blk_below (pk BK318.out) hb); replace HB := am (below_step (bl HB.out) hb); (try clear hb); (try clear hb2); (try clear hk); (try clear hi); have hcz30_0 : w29.cell? ⟨gb317, 0, none⟩ = some (.slice A0_0 l0_0.length c0_0) := bc BK317.out 0; have hcz30_1 : w29.cell? ⟨gb317, 1, none⟩ = some (.int .i64 a0_1) := bc BK317.out 1; have hcz30_2 : w29.cell? ⟨gb317, 2, none⟩ = some (.int .i64 a0_2) := bc BK317.out 2; have hcz30_3 : w29.cell? ⟨gb317, 3, none⟩ = some (.int .i64 a0_3) := bc BK317.out 3; have hcz30_4 : w29.cell? ⟨gb317, 4, none⟩ = some (.int .i64 a0_4) := bc BK317.out 4; have hcz30_5 : w29.cell? ⟨gb317, 5, none⟩ = some (.int .i64 a0_5) := bc BK317.out 5; have hcz31_0 : w29.cell? ⟨gb318, 0, none⟩ = some (.slice A1_0 l1_0.length c1_0) := bc BK318.out 0; have hcz31_1 : w29.cell? ⟨gb318, 1, none⟩ = some (.int .i64 a1_1) := bc BK318.out 1; have hcz31_2 : w29.cell? ⟨gb318, 2, none⟩ = some (.int .i64 a1_2) := bc BK318.out 2; have hcz31_3 : w29.cell? ⟨gb318, 3, none⟩ = some (.int .i64 a1_3) := bc BK318.out 3; have hcz31_4 : w29.cell? ⟨gb318, 4, none⟩ = some (.int .i64 a1_4) := bc BK318.out 4; have hcz31_5 : w29.cell? ⟨gb318, 5, none⟩ = some (.int .i64 a1_5) := bc BK318.out 5))
    go_ret
    exact ⟨by first | rfl | (simp [errW_none, errW_some] <;> rfl) | (simp [*, errW_none, errW_some] <;> rfl), by repeat (first | (with_reducible first | exact HB.out | apply below_alloc | apply pw_below_drewN | apply below_drew1 | refine below_set ?_ GE317.out | refine below_set ?_ GE318.out) | exact HB.out)⟩
  ·rw [if_neg c5] at H
   have c5b0 : (a0_3 == a1_3) = false := beq_eq_false_iff_ne.mpr c5
   have c5b1 : (a0_3 != a1_3) = true := bne_iff_ne.mpr c5
   obtain rfl := Option.some.inj H
   go_enter Try.func29, Try.ntmps29
   go_wp2_with (first | ((with_reducible refine gate_dst (N := 2) rfl ?_); refine box_event ?hg (N := 2) ?hd (cs := #[.slice A0_0 l0_0.length c0_0, .int .i64 a0_1, .int .i64 a0_2, .int .i64 a0_3, .int .i64 a0_4, .int .i64 a0_5]) (t := 48) ?hr ?_; (case hd => rfl); (case hg => rfl); (case hr => first | (go_simp; done) | (go_simp; rfl)); intro gb317 hg w32 hbox hb; have BK317 := am (hbox); have GW317 := am ((by rw [hg]; exact (below_size (bl HB.out)) : w.heap.size ≤ gb317)); have GE317 := GW317; replace HB := am (below_step (bl HB.out) hb); clear hb hbox hg) | ((with_reducible refine gate_dst (N := 3) rfl ?_); refine box_event ?hg (N := 3) ?hd (cs := #[.slice A1_0 l1_0.length c1_0, .int .i64 a1_1, .int .i64 a1_2, .int .i64 a1_3, .int .i64 a1_4, .int .i64 a1_5]) (t := 48) ?hr ?_; (case hd => rfl); (case hg => rfl); (case hr => first | (go_simp; done) | (go_simp; rfl)); intro gb318 hg w33 hbox hb; have BK318 := am (hbox); have GW318 := am ((by rw [hg]; exact (below_size (bl HB.out)) : w.heap.size ≤ gb318)); have GE318 := GW318; replace HB := am (below_step (bl HB.out) hb); have NB317_318 := am ((by rw [hg]; exact Nat.ne_of_lt (blk_lt (pk BK317.out)) : gb317 ≠ gb318)); have NB318_317 := am ((by rw [hg]; exact Nat.ne_of_gt (blk_lt (pk BK317.out)) : gb318 ≠ gb317)); replace BK317 := am (blk_below (pk BK317.out) hb); clear hb hbox hg; have hnb34 := NB317_318.out; have hnc34 := NB318_317.out; have hcz35_0 : w33.cell? ⟨gb317, 0, none⟩ = some (.slice A0_0 l0_0.length c0_0) := bc BK317.out 0; have hcz35_1 : w33.cell? ⟨gb317, 1, none⟩ = some (.int .i64 a0_1) := bc BK317.out 1; have hcz35_2 : w33.cell? ⟨gb317, 2, none⟩ = some (.int .i64 a0_2) := bc BK317.out 2; have hcz35_3 : w33.cell? ⟨gb317, 3, none⟩ = some (.int .i64 a0_3) := bc BK317.out 3; have hcz35_4 : w33.cell? ⟨gb317, 4, none⟩ = some (.int .i64 a0_4) := bc BK317.out 4; have hcz35_5 : w33.cell? ⟨gb317, 5, none⟩ = some (.int .i64 a0_5) := bc BK317.out 5; have hcz36_0 : w33.cell? ⟨gb318, 0, none⟩ = some (.slice A1_0 l1_0.length c1_0) := bc BK318.out 0; have hcz36_1 : w33.cell? ⟨gb318, 1, none⟩ = some (.int .i64 a1_1) := bc BK318.out 1; have hcz36_2 : w33.cell? ⟨gb318, 2, none⟩ = some (.int .i64 a1_2) := bc BK318.out 2; have hcz36_3 : w33.cell? ⟨gb318, 3, none⟩ = some (.int .i64 a1_3) := bc BK318.out 3; have hcz36_4 : w33.cell? ⟨gb318, 4, none⟩ = some (.int .i64 a1_4) := bc BK318.out 4; have hcz36_5 : w33.cell? ⟨gb318, 5, none⟩ = some (.int .i64 a1_5) := bc BK318.out 5) | ((with_reducible refine gate_callee (f := 15) rfl ?_); refine gl (some 9) Try.func15 #[.agg #[.slice A0_0 l0_0.length c0_0, .int .i64 a0_1, .int .i64 a0_2], .agg #[.slice A1_0 l1_0.length c1_0, .int .i64 a1_1, .int .i64 a1_2]] ?_; (with_reducible refine (laws_eqBuf.calls k _ _ l0_0 a0_1 a0_2 _ _ l1_0 a1_1 a1_2 true _ ?side1 ?side2 ?side3 ?side4 A3.out).mono ?_); (case side1 => repeat (first | exact (Kd.C_below HR0_0.out HB.out) | (with_reducible refine Kd.C_alloc ?_ _) | (with_reducible refine Kd.C_drewN ?_ _) | (with_reducible refine Kd.C_drew ?_))); (case side2 => exact HC0_0.out); (case side3 => repeat (first | exact (Kd.C_below HR1_0.out HB.out) | (with_reducible refine Kd.C_alloc ?_ _) | (with_reducible refine Kd.C_drewN ?_ _) | (with_reducible refine Kd.C_drew ?_))); (case side4 => exact HC1_0.out); rintro e w37 ⟨rfl, hb⟩; refine ⟨_, rfl, ?_⟩; replace BK317 := am (blk_below (pk BK317.out) hb); replace BK318 := am (blk_below (pk BK318.out) hb); replace HB := am (below_step (bl HB.out) hb); (try clear hb); (try clear hb2); (try clear hk); (try clear hi); have hcz38_0 : w37.cell? ⟨gb317, 0, none⟩ = some (.slice A0_0 l0_0.length c0_0) := bc BK317.out 0; have hcz38_1 : w37.cell? ⟨gb317, 1, none⟩ = some (.int .i64 a0_1) := bc BK317.out 1; have hcz38_2 : w37.cell? ⟨gb317, 2, none⟩ = some (.int .i64 a0_2) := bc BK317.out 2; have hcz38_3 : w37.cell? ⟨gb317, 3, none⟩ = some (.int .i64 a0_3) := bc BK317.out 3; have hcz38_4 : w37.cell? ⟨gb317, 4, none⟩ = some (.int .i64 a0_4) := bc BK317.out 4; have hcz38_5 : w37.cell? ⟨gb317, 5, none⟩ = some (.int .i64 a0_5) := bc BK317.out 5; have hcz39_0 : w37.cell? ⟨gb318, 0, none⟩ = some (.slice A1_0 l1_0.length c1_0) := bc BK318.out 0; have hcz39_1 : w37.cell? ⟨gb318, 1, none⟩ = some (.int .i64 a1_1) := bc BK318.out 1; have hcz39_2 : w37.cell? ⟨gb318, 2, none⟩ = some (.int .i64 a1_2) := bc BK318.out 2; have hcz39_3 : w37.cell? ⟨gb318, 3, none⟩ = some (.int .i64 a1_3) := bc BK318.out 3; have hcz39_4 : w37.cell? ⟨gb318, 4, none⟩ = some (.int .i64 a1_4) := bc BK318.out 4; have hcz39_5 : w37.cell? ⟨gb318, 5, none⟩ = some (.int .i64 a1_5) := bc BK318.out 5))
   go_ret
   exact ⟨by first | rfl | (simp [errW_none, errW_some] <;> rfl) | (simp [*, errW_none, errW_some] <;> rfl), by repeat (first | (with_reducible first | exact HB.out | apply below_alloc | apply pw_below_drewN | apply below_drew1 | refine below_set ?_ GE317.out | refine below_set ?_ GE318.out) | exact HB.out)⟩
 ·replace c4 := Bool.eq_false_iff.mpr c4
  subst c4
  have H1 : (some false) = some r := by rw [if_neg (show ¬ (false = true) by decide)] at H; exact H
  clear H
  have H := H1
  clear H1
  obtain rfl := Option.some.inj H
  go_enter Try.func29, Try.ntmps29
  go_wp2_with (first | ((with_reducible refine gate_dst (N := 2) rfl ?_); refine box_event ?hg (N := 2) ?hd (cs := #[.slice A0_0 l0_0.length c0_0, .int .i64 a0_1, .int .i64 a0_2, .int .i64 a0_3, .int .i64 a0_4, .int .i64 a0_5]) (t := 48) ?hr ?_; (case hd => rfl); (case hg => rfl); (case hr => first | (go_simp; done) | (go_simp; rfl)); intro gb317 hg w40 hbox hb; have BK317 := am (hbox); have GW317 := am ((by rw [hg]; exact (below_size (bl HB.out)) : w.heap.size ≤ gb317)); have GE317 := GW317; replace HB := am (below_step (bl HB.out) hb); clear hb hbox hg) | ((with_reducible refine gate_dst (N := 3) rfl ?_); refine box_event ?hg (N := 3) ?hd (cs := #[.slice A1_0 l1_0.length c1_0, .int .i64 a1_1, .int .i64 a1_2, .int .i64 a1_3, .int .i64 a1_4, .int .i64 a1_5]) (t := 48) ?hr ?_; (case hd => rfl); (case hg => rfl); (case hr => first | (go_simp; done) | (go_simp; rfl)); intro gb318 hg w41 hbox hb; have BK318 := am (hbox); have GW318 := am ((by rw [hg]; exact (below_size (bl HB.out)) : w.heap.size ≤ gb318)); have GE318 := GW318; replace HB := am (below_step (bl HB.out) hb); have NB317_318 := am ((by rw [hg]; exact Nat.ne_of_lt (blk_lt (pk BK317.out)) : gb317 ≠ gb318)); have NB318_317 := am ((by rw [hg]; exact Nat.ne_of_gt (blk_lt (pk BK317.out)) : gb318 ≠ gb317)); replace BK317 := am (blk_below (pk BK317.out) hb); clear hb hbox hg; have hnb42 := NB317_318.out; have hnc42 := NB318_317.out; have hcz43_0 : w41.cell? ⟨gb317, 0, none⟩ = some (.slice A0_0 l0_0.length c0_0) := bc BK317.out 0; have hcz43_1 : w41.cell? ⟨gb317, 1, none⟩ = some (.int .i64 a0_1) := bc BK317.out 1; have hcz43_2 : w41.cell? ⟨gb317, 2, none⟩ = some (.int .i64 a0_2) := bc BK317.out 2; have hcz43_3 : w41.cell? ⟨gb317, 3, none⟩ = some (.int .i64 a0_3) := bc BK317.out 3; have hcz43_4 : w41.cell? ⟨gb317, 4, none⟩ = some (.int .i64 a0_4) := bc BK317.out 4; have hcz43_5 : w41.cell? ⟨gb317, 5, none⟩ = some (.int .i64 a0_5) := bc BK317.out 5; have hcz44_0 : w41.cell? ⟨gb318, 0, none⟩ = some (.slice A1_0 l1_0.length c1_0) := bc BK318.out 0; have hcz44_1 : w41.cell? ⟨gb318, 1, none⟩ = some (.int .i64 a1_1) := bc BK318.out 1; have hcz44_2 : w41.cell? ⟨gb318, 2, none⟩ = some (.int .i64 a1_2) := bc BK318.out 2; have hcz44_3 : w41.cell? ⟨gb318, 3, none⟩ = some (.int .i64 a1_3) := bc BK318.out 3; have hcz44_4 : w41.cell? ⟨gb318, 4, none⟩ = some (.int .i64 a1_4) := bc BK318.out 4; have hcz44_5 : w41.cell? ⟨gb318, 5, none⟩ = some (.int .i64 a1_5) := bc BK318.out 5) | ((with_reducible refine gate_callee (f := 15) rfl ?_); refine gl (some 9) Try.func15 #[.agg #[.slice A0_0 l0_0.length c0_0, .int .i64 a0_1, .int .i64 a0_2], .agg #[.slice A1_0 l1_0.length c1_0, .int .i64 a1_1, .int .i64 a1_2]] ?_; (with_reducible refine (laws_eqBuf.calls k _ _ l0_0 a0_1 a0_2 _ _ l1_0 a1_1 a1_2 false _ ?side1 ?side2 ?side3 ?side4 A3.out).mono ?_); (case side1 => repeat (first | exact (Kd.C_below HR0_0.out HB.out) | (with_reducible refine Kd.C_alloc ?_ _) | (with_reducible refine Kd.C_drewN ?_ _) | (with_reducible refine Kd.C_drew ?_))); (case side2 => exact HC0_0.out); (case side3 => repeat (first | exact (Kd.C_below HR1_0.out HB.out) | (with_reducible refine Kd.C_alloc ?_ _) | (with_reducible refine Kd.C_drewN ?_ _) | (with_reducible refine Kd.C_drew ?_))); (case side4 => exact HC1_0.out); rintro e w45 ⟨rfl, hb⟩; refine ⟨_, rfl, ?_⟩; replace BK317 := am (blk_below (pk BK317.out) hb); replace BK318 := am (blk_below (pk BK318.out) hb); replace HB := am (below_step (bl HB.out) hb); (try clear hb); (try clear hb2); (try clear hk); (try clear hi)))
  go_ret
  exact ⟨by first | rfl | (simp [errW_none, errW_some] <;> rfl) | (simp [*, errW_none, errW_some] <;> rfl), by repeat (first | (with_reducible first | exact HB.out | apply below_alloc | apply pw_below_drewN | apply below_drew1 | refine below_set ?_ GE317.out | refine below_set ?_ GE318.out) | exact HB.out)⟩

/-! ### laws_eqInt64SS: function 56 -/
def laws_eqInt64SS.l0 : Nat → List (List Int) → List (List Int) → Int → Option (Bool)
 | 0, _, _, _ => none
 | k + 1, x0, x1, x5 => if x5 < (x0.length : Int) then (if 0 ≤ x5 then (if x5 < (x1.length : Int) then ((laws_eqInt64S.f k (rd_L1 x0 x5) (rd_L1 x1 x5)).bind fun t322 => (if t322 = true then (laws_eqInt64SS.l0 k x0 x1 (wrap64 (x5 + 1))) else (some false))) else (none)) else (none)) else (some true)
def laws_eqInt64SS.f (k : Nat) (l0 : List (List Int)) (l1 : List (List Int)) : Option (Bool) := if (l0.length : Int) = (l1.length : Int) then (laws_eqInt64SS.l0 k l0 l1 0) else (some false)
theorem laws_eqInt64SS.mono_l : ∀ k, (∀ y0 y1 y2, LeO (laws_eqInt64SS.l0 k y0 y1 y2) (laws_eqInt64SS.l0 (k + 1) y0 y1 y2))
 | 0 => fun _ _ _ r h => by simp [laws_eqInt64SS.l0] at h
 | k + 1 => by
  have ih0 := laws_eqInt64SS.mono_l k
  ·intro y0 y1 y2
   unfold laws_eqInt64SS.l0
   repeat' first
   | (with_reducible exact ih0 _ _ _)
   | (with_reducible exact laws_eqInt64S.mono _ _ _)
   | (with_reducible exact LeO.refl _)
   | (with_reducible exact LeO.none _)
   | (with_reducible refine LeO.ite ?_ ?_)
   | (with_reducible refine LeO.bind ?_ (fun _ => ?_))
   | exact ih0 _ _ _
   | exact laws_eqInt64S.mono _ _ _
   | exact LeO.none _
   | refine LeO.ite ?_ ?_
   | refine LeO.bind ?_ (fun _ => ?_)
theorem laws_eqInt64SS.mono : ∀ a0 a1 k, LeO (laws_eqInt64SS.f k a0 a1) (laws_eqInt64SS.f (k + 1) a0 a1) := by
 intro a0 a1 k
 have ih0 := laws_eqInt64SS.mono_l k
 unfold laws_eqInt64SS.f
 repeat' first
   | (with_reducible exact ih0 _ _ _)
   | (with_reducible exact laws_eqInt64S.mono _ _ _)
   | (with_reducible exact LeO.refl _)
   | (with_reducible exact LeO.none _)
   | (with_reducible refine LeO.ite ?_ ?_)
   | (with_reducible refine LeO.bind ?_ (fun _ => ?_))
   | exact ih0 _ _ _
   | exact laws_eqInt64S.mono _ _ _
   | exact LeO.none _
   | refine LeO.ite ?_ ?_
   | refine LeO.bind ?_ (fun _ => ?_)
set_option maxHeartbeats 8000000 in
set_option maxRecDepth 100000 in
theorem laws_eqInt64SS.calls (k : Nat) (A0 : Option Addr) (c0 : Nat) (l0 : List (List Int)) (A1 : Option Addr) (c1 : Nat) (l1 : List (List Int)) (r : Bool) (w : World) (hr0 : Kd.C (Kd.slice 2 (Kd.int .i64)) w A0 l0.length l0) (hc0 : l0.length ≤ c0) (hr1 : Kd.C (Kd.slice 2 (Kd.int .i64)) w A1 l1.length l1) (hc1 : l1.length ≤ c1) (h : laws_eqInt64SS.f k l0 l1 = some r) :
  Calls Try.prog 56 #[.slice A0 l0.length c0, .slice A1 l1.length c1] w fun e w' => e = .returned (.bool r) ∧ Drawn0 w w' := by
 have HR0 := am hr0
 have HC0 := am hc0
 clear hr0 hc0
 have HR1 := am hr1
 have HC1 := am hc1
 clear hr1 hc1
 have H : (if (l0.length : Int) = (l1.length : Int) then (laws_eqInt64SS.l0 k l0 l1 0) else (some false)) = some r := h
 clear h
 by_cases c3 : (l0.length : Int) = (l1.length : Int)
 ·rw [if_pos c3] at H
  have c3b0 : ((l0.length : Int) == (l1.length : Int)) = true := beq_iff_eq.mpr c3
  have c3b1 : ((l0.length : Int) != (l1.length : Int)) = false := bne_eq_false_iff_eq.mpr c3
  have c3b2 : (l0.length == l1.length) = true := by first | simpa using c3 | (simp at c3 ⊢; omega)
  clear c3
  have H' := Aside0.mk H
  clear H
  go_enter Try.func56, Try.ntmps56
  go_wp2
  repeat (go_quiet (fail); try go_wp2)
  go_loopg [5] k (fun kq v5 w' => ∃ (x5_1 : Int), v5 = .int .i64 x5_1 ∧ Aside0 (laws_eqInt64SS.l0 kq l0 l1 x5_1 = some r) ∧ Aside0 (kq ≤ k) ∧ Drawn0 w w')
  case atStart => exact ⟨(0), (by first | rfl | (simp; done) | (simp [*]; done)), H', ⟨Nat.le_refl _⟩, by repeat (first | exact Drawn0.refl _ | apply Drawn0.step)⟩
  case round =>
   clear H'
   try clear c1
   try clear p2
   try clear c3
   try clear c3b0
   try clear c3b1
   try clear c3b2
   obtain ⟨x5_1, rfl, HA, HK1, ⟨m1, rfl⟩⟩ := hrel
   cases gk with
   | zero => exact absurd HA.out (by simp [laws_eqInt64SS.l0])
   | succ k1 =>
    have H := HA.out
    clear HA
    simp only [laws_eqInt64SS.l0] at H
    by_cases c4 : x5_1 < (l0.length : Int)
    ·rw [if_pos c4] at H
     have c4b0 : decide (x5_1 < (l0.length : Int)) = true := decide_eq_true c4
     clear c4
     by_cases c5 : 0 ≤ x5_1
     ·rw [if_pos c5] at H
      have c5b0 : decide (0 ≤ x5_1) = true := decide_eq_true c5
      clear c5
      by_cases c6 : x5_1 < (l1.length : Int)
      ·rw [if_pos c6] at H
       have c6b0 : decide (x5_1 < (l1.length : Int)) = true := decide_eq_true c6
       clear c6
       replace H := Option.bind_eq_some_iff.mp H
       obtain ⟨t322, A70, H⟩ := H
       replace H : (if t322 = true then (laws_eqInt64SS.l0 k1 l0 l1 (wrap64 (x5_1 + 1))) else (some false)) = some r := H
       have A7 := Aside0.mk A70
       clear A70
       by_cases c8 : t322 = true
       ·subst c8
        have H1 : (laws_eqInt64SS.l0 k1 l0 l1 (wrap64 (x5_1 + 1))) = some r := by rw [if_pos rfl] at H; exact H
        clear H
        have H := H1
        clear H1
        have H' := Aside0.mk H
        clear H
        have p320 : 0 ≤ (x5_1 : Int) := of_decide_eq_true (by first | (with_reducible assumption) | assumption)
        have q320 : x5_1 < (l0.length : Int) := of_decide_eq_true (by first | (with_reducible assumption) | assumption)
        obtain ⟨ad320, A320_0, c320_0, e320, hx320_0, hl320_0, hi320_0⟩ := at_L1 HR0.out x5_1 p320 q320
        cases e320
        have HR320_0 := am hi320_0
        have HC320_0 := am hl320_0
        clear hi320_0 hl320_0
        replace p320 := eq_true p320
        replace q320 := eq_true q320
        have p321 : 0 ≤ (x5_1 : Int) := of_decide_eq_true (by first | (with_reducible assumption) | assumption)
        have q321 : x5_1 < (l1.length : Int) := of_decide_eq_true (by first | (with_reducible assumption) | assumption)
        obtain ⟨ad321, A321_0, c321_0, e321, hx321_0, hl321_0, hi321_0⟩ := at_L1 HR1.out x5_1 p321 q321
        cases e321
        have HR321_0 := am hi321_0
        have HC321_0 := am hl321_0
        clear hi321_0 hl321_0
        replace p321 := eq_true p321
        replace q321 := eq_true q321
        go_wp2_with (first | (go_at_call 16; (with_reducible refine (laws_eqInt64S.calls k1 _ _ (rd_L1 l0 x5_1) _ _ (rd_L1 l1 x5_1) true _ ?side1 ?side2 ?side3 ?side4 A7.out).mono ?_); (case side1 => repeat (first | exact HR320_0.out | (with_reducible refine Kd.C_alloc ?_ _) | (with_reducible refine Kd.C_drewN ?_ _) | (with_reducible refine Kd.C_drew ?_))); (case side2 => exact HC320_0.out); (case side3 => repeat (first | exact HR321_0.out | (with_reducible refine Kd.C_alloc ?_ _) | (with_reducible refine Kd.C_drewN ?_ _) | (with_reducible refine Kd.C_drew ?_))); (case side4 => exact HC321_0.out); rintro e w' ⟨rfl, ⟨nd, rfl⟩⟩; (try first | exact ⟨rfl, _, World.drewN_drewN _ _ _⟩ | exact ⟨rfl, _, Eq.trans (World.drewN_drewN _ _ _) (congrArg (World.drewN _) (Nat.add_assoc _ _ _))⟩)))
        repeat (go_quiet (first | (go_at_call 16; (with_reducible refine (laws_eqInt64S.calls k1 _ _ (rd_L1 l0 x5_1) _ _ (rd_L1 l1 x5_1) true _ ?side1 ?side2 ?side3 ?side4 A7.out).mono ?_); (case side1 => repeat (first | exact HR320_0.out | (with_reducible refine Kd.C_alloc ?_ _) | (with_reducible refine Kd.C_drewN ?_ _) | (with_reducible refine Kd.C_drew ?_))); (case side2 => exact HC320_0.out); (case side3 => repeat (first | exact HR321_0.out | (with_reducible refine Kd.C_alloc ?_ _) | (with_reducible refine Kd.C_drewN ?_ _) | (with_reducible refine Kd.C_drew ?_))); (case side4 => exact HC321_0.out); rintro e w' ⟨rfl, ⟨nd, rfl⟩⟩; (try first | exact ⟨rfl, _, World.drewN_drewN _ _ _⟩ | exact ⟨rfl, _, Eq.trans (World.drewN_drewN _ _ _) (congrArg (World.drewN _) (Nat.add_assoc _ _ _))⟩))); try go_wp2_with (first | (go_at_call 16; (with_reducible refine (laws_eqInt64S.calls k1 _ _ (rd_L1 l0 x5_1) _ _ (rd_L1 l1 x5_1) true _ ?side1 ?side2 ?side3 ?side4 A7.out).mono ?_); (case side1 => repeat (first | exact HR320_0.out | (with_reducible refine Kd.C_alloc ?_ _) | (with_reducible refine Kd.C_drewN ?_ _) | (with_reducible refine Kd.C_drew ?_))); (case side2 => exact HC320_0.out); (case side3 => repeat (first | exact HR321_0.out | (with_reducible refine Kd.C_alloc ?_ _) | (with_reducible refine Kd.C_drewN ?_ _) | (with_reducible refine Kd.C_drew ?_))); (case side4 => exact HC321_0.out); rintro e w' ⟨rfl, ⟨nd, rfl⟩⟩; (try first | exact ⟨rfl, _, World.drewN_drewN _ _ _⟩ | exact ⟨rfl, _, Eq.trans (World.drewN_drewN _ _ _) (congrArg (World.drewN _) (Nat.add_assoc _ _ _))⟩))))
        go_roundg k1
        case measure => have := HK1.out; omega
        case rel => exact ⟨(wrap64 (x5_1 + 1)), (by first | rfl | (simp; done) | (simp [*]; done)), H', ⟨by have := HK1.out; omega⟩, by repeat (first | exact Drawn0.refl _ | apply Drawn0.step)⟩
       ·replace c8 := Bool.eq_false_iff.mpr c8
        subst c8
        have H1 : (some false) = some r := by rw [if_neg (show ¬ (false = true) by decide)] at H; exact H
        clear H
        have H := H1
        clear H1
        obtain rfl := Option.some.inj H
        have p320 : 0 ≤ (x5_1 : Int) := of_decide_eq_true (by first | (with_reducible assumption) | assumption)
        have q320 : x5_1 < (l0.length : Int) := of_decide_eq_true (by first | (with_reducible assumption) | assumption)
        obtain ⟨ad320, A320_0, c320_0, e320, hx320_0, hl320_0, hi320_0⟩ := at_L1 HR0.out x5_1 p320 q320
        cases e320
        have HR320_0 := am hi320_0
        have HC320_0 := am hl320_0
        clear hi320_0 hl320_0
        replace p320 := eq_true p320
        replace q320 := eq_true q320
        have p321 : 0 ≤ (x5_1 : Int) := of_decide_eq_true (by first | (with_reducible assumption) | assumption)
        have q321 : x5_1 < (l1.length : Int) := of_decide_eq_true (by first | (with_reducible assumption) | assumption)
        obtain ⟨ad321, A321_0, c321_0, e321, hx321_0, hl321_0, hi321_0⟩ := at_L1 HR1.out x5_1 p321 q321
        cases e321
        have HR321_0 := am hi321_0
        have HC321_0 := am hl321_0
        clear hi321_0 hl321_0
        replace p321 := eq_true p321
        replace q321 := eq_true q321
        go_wp2_with (first | (go_at_call 16; (with_reducible refine (laws_eqInt64S.calls k1 _ _ (rd_L1 l0 x5_1) _ _ (rd_L1 l1 x5_1) false _ ?side1 ?side2 ?side3 ?side4 A7.out).mono ?_); (case side1 => repeat (first | exact HR320_0.out | (with_reducible refine Kd.C_alloc ?_ _) | (with_reducible refine Kd.C_drewN ?_ _) | (with_reducible refine Kd.C_drew ?_))); (case side2 => exact HC320_0.out); (case side3 => repeat (first | exact HR321_0.out | (with_reducible refine Kd.C_alloc ?_ _) | (with_reducible refine Kd.C_drewN ?_ _) | (with_reducible refine Kd.C_drew ?_))); (case side4 => exact HC321_0.out); rintro e w' ⟨rfl, ⟨nd, rfl⟩⟩; (try first | exact ⟨rfl, _, World.drewN_drewN _ _ _⟩ | exact ⟨rfl, _, Eq.trans (World.drewN_drewN _ _ _) (congrArg (World.drewN _) (Nat.add_assoc _ _ _))⟩)))
        repeat (go_quiet (first | (go_at_call 16; (with_reducible refine (laws_eqInt64S.calls k1 _ _ (rd_L1 l0 x5_1) _ _ (rd_L1 l1 x5_1) false _ ?side1 ?side2 ?side3 ?side4 A7.out).mono ?_); (case side1 => repeat (first | exact HR320_0.out | (with_reducible refine Kd.C_alloc ?_ _) | (with_reducible refine Kd.C_drewN ?_ _) | (with_reducible refine Kd.C_drew ?_))); (case side2 => exact HC320_0.out); (case side3 => repeat (first | exact HR321_0.out | (with_reducible refine Kd.C_alloc ?_ _) | (with_reducible refine Kd.C_drewN ?_ _) | (with_reducible refine Kd.C_drew ?_))); (case side4 => exact HC321_0.out); rintro e w' ⟨rfl, ⟨nd, rfl⟩⟩; (try first | exact ⟨rfl, _, World.drewN_drewN _ _ _⟩ | exact ⟨rfl, _, Eq.trans (World.drewN_drewN _ _ _) (congrArg (World.drewN _) (Nat.add_assoc _ _ _))⟩))); try go_wp2_with (first | (go_at_call 16; (with_reducible refine (laws_eqInt64S.calls k1 _ _ (rd_L1 l0 x5_1) _ _ (rd_L1 l1 x5_1) false _ ?side1 ?side2 ?side3 ?side4 A7.out).mono ?_); (case side1 => repeat (first | exact HR320_0.out | (with_reducible refine Kd.C_alloc ?_ _) | (with_reducible refine Kd.C_drewN ?_ _) | (with_reducible refine Kd.C_drew ?_))); (case side2 => exact HC320_0.out); (case side3 => repeat (first | exact HR321_0.out | (with_reducible refine Kd.C_alloc ?_ _) | (with_reducible refine Kd.C_drewN ?_ _) | (with_reducible refine Kd.C_drew ?_))); (case side4 => exact HC321_0.out); rintro e w' ⟨rfl, ⟨nd, rfl⟩⟩; (try first | exact ⟨rfl, _, World.drewN_drewN _ _ _⟩ | exact ⟨rfl, _, Eq.trans (World.drewN_drewN _ _ _) (congrArg (World.drewN _) (Nat.add_assoc _ _ _))⟩))))
        go_ret
        exact ⟨by first | rfl | (simp; done) | (simp [*]; done), by repeat (first | exact Drawn0.refl _ | apply Drawn0.step)⟩
      ·rw [if_neg c6] at H
       exact absurd H (by simp)
     ·rw [if_neg c5] at H
      exact absurd H (by simp)
    ·rw [if_neg c4] at H
     have c4b0 : decide (x5_1 < (l0.length : Int)) = false := decide_eq_false c4
     clear c4
     obtain rfl := Option.some.inj H
     go_wp2
     repeat (go_quiet (fail); try go_wp2)
     go_ret
     exact ⟨by first | rfl | (simp; done) | (simp [*]; done), by repeat (first | exact Drawn0.refl _ | apply Drawn0.step)⟩
 ·rw [if_neg c3] at H
  have c3b0 : ((l0.length : Int) == (l1.length : Int)) = false := beq_eq_false_iff_ne.mpr c3
  have c3b1 : ((l0.length : Int) != (l1.length : Int)) = true := bne_iff_ne.mpr c3
  have c3b2 : (l0.length == l1.length) = false := by first | simpa using c3 | (simp at c3 ⊢; omega)
  obtain rfl := Option.some.inj H
  go_enter Try.func56, Try.ntmps56
  go_wp2
  repeat (go_quiet (fail); try go_wp2)
  go_ret
  exact ⟨by first | rfl | (simp; done) | (simp [*]; done), by repeat (first | exact Drawn0.refl _ | apply Drawn0.step)⟩

/-! ### laws_eqRing: function 30 -/
def laws_eqRing.f (k : Nat) (l0_0 : List (List Int)) (a0_1 : Int) (l1_0 : List (List Int)) (a1_1 : Int) : Option (Bool) := (laws_eqInt64SS.f k l0_0 l1_0).bind fun t325 => (if t325 = true then (if a0_1 = a1_1 then (some true) else (some false)) else (some false))
theorem laws_eqRing.mono : ∀ a0 a1 a2 a3 k, LeO (laws_eqRing.f k a0 a1 a2 a3) (laws_eqRing.f (k + 1) a0 a1 a2 a3) := by
 intro a0 a1 a2 a3 k
 unfold laws_eqRing.f
 repeat' first
   | (with_reducible exact laws_eqInt64SS.mono _ _ _)
   | (with_reducible exact LeO.refl _)
   | (with_reducible exact LeO.none _)
   | (with_reducible refine LeO.ite ?_ ?_)
   | (with_reducible refine LeO.bind ?_ (fun _ => ?_))
   | exact laws_eqInt64SS.mono _ _ _
   | exact LeO.none _
   | refine LeO.ite ?_ ?_
   | refine LeO.bind ?_ (fun _ => ?_)
set_option maxHeartbeats 8000000 in
set_option maxRecDepth 100000 in
theorem laws_eqRing.calls (k : Nat) (A0_0 : Option Addr) (c0_0 : Nat) (l0_0 : List (List Int)) (a0_1 : Int) (A1_0 : Option Addr) (c1_0 : Nat) (l1_0 : List (List Int)) (a1_1 : Int) (r : Bool) (w : World) (hr0_0 : Kd.C (Kd.slice 2 (Kd.int .i64)) w A0_0 l0_0.length l0_0) (hc0_0 : l0_0.length ≤ c0_0) (hr1_0 : Kd.C (Kd.slice 2 (Kd.int .i64)) w A1_0 l1_0.length l1_0) (hc1_0 : l1_0.length ≤ c1_0) (h : laws_eqRing.f k l0_0 a0_1 l1_0 a1_1 = some r) :
  Calls Try.prog 30 #[.agg #[.slice A0_0 l0_0.length c0_0, .int .i64 a0_1], .agg #[.slice A1_0 l1_0.length c1_0, .int .i64 a1_1]] w fun e w' => e = .returned (.bool r) ∧ Below w.heap.size w w' := by
 have hu50 := Try.underlying50
 have HR0_0 := am hr0_0
 have HC0_0 := am hc0_0
 clear hr0_0 hc0_0
 have HR1_0 := am hr1_0
 have HC1_0 := am hc1_0
 clear hr1_0 hc1_0
 have HB := am (Below.refl w.heap.size w)
 have H : ((laws_eqInt64SS.f k l0_0 l1_0).bind fun t325 => (if t325 = true then (if a0_1 = a1_1 then (some true) else (some false)) else (some false))) = some r := h
 clear h
 replace H := Option.bind_eq_some_iff.mp H
 obtain ⟨t325, A30, H⟩ := H
 replace H : (if t325 = true then (if a0_1 = a1_1 then (some true) else (some false)) else (some false)) = some r := H
 have A3 := Aside0.mk A30
 clear A30
 by_cases c4 : t325 = true
 ·subst c4
  have H1 : (if a0_1 = a1_1 then (some true) else (some false)) = some r := by rw [if_pos rfl] at H; exact H
  clear H
  have H := H1
  clear H1
  by_cases c5 : a0_1 = a1_1
  ·rw [if_pos c5] at H
   have c5b0 : (a0_1 == a1_1) = true := beq_iff_eq.mpr c5
   have c5b1 : (a0_1 != a1_1) = false := bne_eq_false_iff_eq.mpr c5
   clear c5
   obtain rfl := Option.some.inj H
   go_enter Try.func30, Try.ntmps30
   go_wp2_with (first | ((with_reducible refine gate_dst (N := 2) rfl ?_); refine box_event ?hg (N := 2) ?hd (cs := #[.slice A0_0 l0_0.length c0_0, .int .i64 a0_1]) (t := 50) ?hr ?_; (case hd => rfl); (case hg => rfl); (case hr => first | (go_simp; done) | (go_simp; rfl)); intro gb323 hg w6 hbox hb; have BK323 := am (hbox); have GW323 := am ((by rw [hg]; exact (below_size (bl HB.out)) : w.heap.size ≤ gb323)); have GE323 := GW323; replace HB := am (below_step (bl HB.out) hb); clear hb hbox hg) | ((with_reducible refine gate_dst (N := 3) rfl ?_); refine box_event ?hg (N := 3) ?hd (cs := #[.slice A1_0 l1_0.length c1_0, .int .i64 a1_1]) (t := 50) ?hr ?_; (case hd => rfl); (case hg => rfl); (case hr => first | (go_simp; done) | (go_simp; rfl)); intro gb324 hg w7 hbox hb; have BK324 := am (hbox); have GW324 := am ((by rw [hg]; exact (below_size (bl HB.out)) : w.heap.size ≤ gb324)); have GE324 := GW324; replace HB := am (below_step (bl HB.out) hb); have NB323_324 := am ((by rw [hg]; exact Nat.ne_of_lt (blk_lt (pk BK323.out)) : gb323 ≠ gb324)); have NB324_323 := am ((by rw [hg]; exact Nat.ne_of_gt (blk_lt (pk BK323.out)) : gb324 ≠ gb323)); replace BK323 := am (blk_below (pk BK323.out) hb); clear hb hbox hg; have hnb8 := NB323_324.out; have hnc8 := NB324_323.out; have hcz9_0 : w7.cell? ⟨gb323, 0, none⟩ = some (.slice A0_0 l0_0.length c0_0) := bc BK323.out 0; have hcz9_1 : w7.cell? ⟨gb323, 1, none⟩ = some (.int .i64 a0_1) := bc BK323.out 1; have hcz10_0 : w7.cell? ⟨gb324, 0, none⟩ = some (.slice A1_0 l1_0.length c1_0) := bc BK324.out 0; have hcz10_1 : w7.cell? ⟨gb324, 1, none⟩ = some (.int .i64 a1_1) := bc BK324.out 1) | ((with_reducible refine gate_callee (f := 56) rfl ?_); refine gl (some 9) Try.func56 #[.slice A0_0 l0_0.length c0_0, .slice A1_0 l1_0.length c1_0] ?_; (with_reducible refine (laws_eqInt64SS.calls k _ _ l0_0 _ _ l1_0 true _ ?side1 ?side2 ?side3 ?side4 A3.out).mono ?_); (case side1 => repeat (first | exact (Kd.C_below HR0_0.out HB.out) | (with_reducible refine Kd.C_alloc ?_ _) | (with_reducible refine Kd.C_drewN ?_ _) | (with_reducible refine Kd.C_drew ?_))); (case side2 => exact HC0_0.out); (case side3 => repeat (first | exact (Kd.C_below HR1_0.out HB.out) | (with_reducible refine Kd.C_alloc ?_ _) | (with_reducible refine Kd.C_drewN ?_ _) | (with_reducible refine Kd.C_drew ?_))); (case side4 => exact HC1_0.out); rintro e w' ⟨rfl, ⟨nd, rfl⟩⟩; refine ⟨_, rfl, ?_⟩))
   go_ret
   exact ⟨by first | rfl | (simp [errW_none, errW_some] <;> rfl) | (simp [*, errW_none, errW_some] <;> rfl), by repeat (first | (with_reducible first | exact HB.out | apply below_alloc | apply pw_below_drewN | apply below_drew1 | refine below_set ?_ GE323.out | refine below_set ?_ GE324.out) | exact HB.out)⟩
  ·rw [if_neg c5] at H
   have c5b0 : (a0_1 == a1_1) = false := beq_eq_false_iff_ne.mpr c5
   have c5b1 : (a0_1 != a1_1) = true := bne_iff_ne.mpr c5
   obtain rfl := Option.some.inj H
   go_enter Try.func30, Try.ntmps30
   go_wp2_with (first | ((with_reducible refine gate_dst (N := 2) rfl ?_); refine box_event ?hg (N := 2) ?hd (cs := #[.slice A0_0 l0_0.length c0_0, .int .i64 a0_1]) (t := 50) ?hr ?_; (case hd => rfl); (case hg => rfl); (case hr => first | (go_simp; done) | (go_simp; rfl)); intro gb323 hg w11 hbox hb; have BK323 := am (hbox); have GW323 := am ((by rw [hg]; exact (below_size (bl HB.out)) : w.heap.size ≤ gb323)); have GE323 := GW323; replace HB := am (below_step (bl HB.out) hb); clear hb hbox hg) | ((with_reducible refine gate_dst (N := 3) rfl ?_); refine box_event ?hg (N := 3) ?hd (cs := #[.slice A1_0 l1_0.length c1_0, .int .i64 a1_1]) (t := 50) ?hr ?_; (case hd => rfl); (case hg => rfl); (case hr => first | (go_simp; done) | (go_simp; rfl)); intro gb324 hg w12 hbox hb; have BK324 := am (hbox); have GW324 := am ((by rw [hg]; exact (below_size (bl HB.out)) : w.heap.size ≤ gb324)); have GE324 := GW324; replace HB := am (below_step (bl HB.out) hb); have NB323_324 := am ((by rw [hg]; exact Nat.ne_of_lt (blk_lt (pk BK323.out)) : gb323 ≠ gb324)); have NB324_323 := am ((by rw [hg]; exact Nat.ne_of_gt (blk_lt (pk BK323.out)) : gb324 ≠ gb323)); replace BK323 := am (blk_below (pk BK323.out) hb); clear hb hbox hg; have hnb13 := NB323_324.out; have hnc13 := NB324_323.out; have hcz14_0 : w12.cell? ⟨gb323, 0, none⟩ = some (.slice A0_0 l0_0.length c0_0) := bc BK323.out 0; have hcz14_1 : w12.cell? ⟨gb323, 1, none⟩ = some (.int .i64 a0_1) := bc BK323.out 1; have hcz15_0 : w12.cell? ⟨gb324, 0, none⟩ = some (.slice A1_0 l1_0.length c1_0) := bc BK324.out 0; have hcz15_1 : w12.cell? ⟨gb324, 1, none⟩ = some (.int .i64 a1_1) := bc BK324.out 1) | ((with_reducible refine gate_callee (f := 56) rfl ?_); refine gl (some 9) Try.func56 #[.slice A0_0 l0_0.length c0_0, .slice A1_0 l1_0.length c1_0] ?_; (with_reducible refine (laws_eqInt64SS.calls k _ _ l0_0 _ _ l1_0 true _ ?side1 ?side2 ?side3 ?side4 A3.out).mono ?_); (case side1 => repeat (first | exact (Kd.C_below HR0_0.out HB.out) | (with_reducible refine Kd.C_alloc ?_ _) | (with_reducible refine Kd.C_drewN ?_ _) | (with_reducible refine Kd.C_drew ?_))); (case side2 => exact HC0_0.out); (case side3 => repeat (first | exact (Kd.C_below HR1_0.out HB.out) | (with_reducible refine Kd.C_alloc ?_ _) | (with_reducible refine Kd.C_drewN ?_ _) | (with_reducible refine Kd.C_drew ?_))); (case side4 => exact HC1_0.out); rintro e w' ⟨rfl, ⟨nd, rfl⟩⟩; refine ⟨_, rfl, ?_⟩))
   go_ret
   exact ⟨by first | rfl | (simp [errW_none, errW_some] <;> rfl) | (simp [*, errW_none, errW_some] <;> rfl), by repeat (first | (with_reducible first | exact HB.out | apply below_alloc | apply pw_below_drewN | apply below_drew1 | refine below_set ?_ GE323.out | refine below_set ?_ GE324.out) | exact HB.out)⟩
 ·replace c4 := Bool.eq_false_iff.mpr c4
  subst c4
  have H1 : (some false) = some r := by rw [if_neg (show ¬ (false = true) by decide)] at H; exact H
  clear H
  have H := H1
  clear H1
  obtain rfl := Option.some.inj H
  go_enter Try.func30, Try.ntmps30
  go_wp2_with (first | ((with_reducible refine gate_dst (N := 2) rfl ?_); refine box_event ?hg (N := 2) ?hd (cs := #[.slice A0_0 l0_0.length c0_0, .int .i64 a0_1]) (t := 50) ?hr ?_; (case hd => rfl); (case hg => rfl); (case hr => first | (go_simp; done) | (go_simp; rfl)); intro gb323 hg w16 hbox hb; have BK323 := am (hbox); have GW323 := am ((by rw [hg]; exact (below_size (bl HB.out)) : w.heap.size ≤ gb323)); have GE323 := GW323; replace HB := am (below_step (bl HB.out) hb); clear hb hbox hg) | ((with_reducible refine gate_dst (N := 3) rfl ?_); refine box_event ?hg (N := 3) ?hd (cs := #[.slice A1_0 l1_0.length c1_0, .int .i64 a1_1]) (t := 50) ?hr ?_; (case hd => rfl); (case hg => rfl); (case hr => first | (go_simp; done) | (go_simp; rfl)); intro gb324 hg w17 hbox hb; have BK324 := am (hbox); have GW324 := am ((by rw [hg]; exact (below_size (bl HB.out)) : w.heap.size ≤ gb324)); have GE324 := GW324; replace HB := am (below_step (bl HB.out) hb); have NB323_324 := am ((by rw [hg]; exact Nat.ne_of_lt (blk_lt (pk BK323.out)) : gb323 ≠ gb324)); have NB324_323 := am ((by rw [hg]; exact Nat.ne_of_gt (blk_lt (pk BK323.out)) : gb324 ≠ gb323)); replace BK323 := am (blk_below (pk BK323.out) hb); clear hb hbox hg; have hnb18 := NB323_324.out; have hnc18 := NB324_323.out; have hcz19_0 : w17.cell? ⟨gb323, 0, none⟩ = some (.slice A0_0 l0_0.length c0_0) := bc BK323.out 0; have hcz19_1 : w17.cell? ⟨gb323, 1, none⟩ = some (.int .i64 a0_1) := bc BK323.out 1; have hcz20_0 : w17.cell? ⟨gb324, 0, none⟩ = some (.slice A1_0 l1_0.length c1_0) := bc BK324.out 0; have hcz20_1 : w17.cell? ⟨gb324, 1, none⟩ = some (.int .i64 a1_1) := bc BK324.out 1) | ((with_reducible refine gate_callee (f := 56) rfl ?_); refine gl (some 9) Try.func56 #[.slice A0_0 l0_0.length c0_0, .slice A1_0 l1_0.length c1_0] ?_; (with_reducible refine (laws_eqInt64SS.calls k _ _ l0_0 _ _ l1_0 false _ ?side1 ?side2 ?side3 ?side4 A3.out).mono ?_); (case side1 => repeat (first | exact (Kd.C_below HR0_0.out HB.out) | (with_reducible refine Kd.C_alloc ?_ _) | (with_reducible refine Kd.C_drewN ?_ _) | (with_reducible refine Kd.C_drew ?_))); (case side2 => exact HC0_0.out); (case side3 => repeat (first | exact (Kd.C_below HR1_0.out HB.out) | (with_reducible refine Kd.C_alloc ?_ _) | (with_reducible refine Kd.C_drewN ?_ _) | (with_reducible refine Kd.C_drew ?_))); (case side4 => exact HC1_0.out); rintro e w' ⟨rfl, ⟨nd, rfl⟩⟩; refine ⟨_, rfl, ?_⟩))
  go_ret
  exact ⟨by first | rfl | (simp [errW_none, errW_some] <;> rfl) | (simp [*, errW_none, errW_some] <;> rfl), by repeat (first | (with_reducible first | exact HB.out | apply below_alloc | apply pw_below_drewN | apply below_drew1 | refine below_set ?_ GE323.out | refine below_set ?_ GE324.out) | exact HB.out)⟩

/-! ### laws_markInt64SS: function 57 -/
section
variable {α : Type} {d : Kd α} {e : Nat} {w w1 w2 W : World} {base a b c b' : Nat} {ok T S : Nat → Prop} {v : Value} {xs : List α}
/-- The blocks from a up to b. -/
def Rg (a b k : Nat) : Prop := a ≤ k ∧ k < b
theorem Rg_no {P : Prop} {k : Nat} (h1 : Rg a b k) (h2 : Rg c b' k) (h : b ≤ c ∨ b' ≤ a) : P := absurd h1.1 (fun h3 => by have := h1.1; have := h1.2; have := h2.1; have := h2.2; omega)
theorem Rg_ne {k g : Nat} (h1 : Rg a b k) (h : b ≤ g ∨ g < a) : k ≠ g := by have := h1.1; have := h1.2; omega
theorem R_rg (ha : a = w.heap.size) (hb : b = w2.heap.size) (hW : base ≤ w.heap.size) (h : d.R e w2 w.heap.size ok v xs) : d.R e w2 base (fun k_ => Rg a b k_ ∧ ok k_) v xs := by
 subst ha hb
 exact Kd.R_lower (Kd.R_mono (Kd.R_bound h) (fun k hk => ⟨⟨hk.2.1, hk.2.2.1⟩, hk.1⟩)) hW
theorem S_rg (ha : a = w.heap.size) (hb : b = w2.heap.size) (hW : base ≤ w.heap.size) (h : Kd.S d e w2 w.heap.size ok v xs) : Kd.S d e w2 base (fun k_ => Rg a b k_ ∧ ok k_) v xs := by
 subst ha hb
 exact Kd.S_lower (Kd.S_mono (Kd.S_bound h) (fun k hk => ⟨⟨hk.2.1, hk.2.2.1⟩, hk.1⟩)) hW
theorem R_farR {g j : Nat} (h : d.R e W base (fun k_ => Rg a b k_ ∧ T k_) v xs) (hg : b ≤ g ∨ g < a) (u : Value) : d.R e (W.setCell ⟨g, j, none⟩ u) base (fun k_ => Rg a b k_ ∧ T k_) v xs := Kd.R_far h (fun k_ hk_ => Rg_ne hk_.1 hg) u
theorem S_farR {g j : Nat} (h : Kd.S d e W base (fun k_ => Rg a b k_ ∧ T k_) v xs) (hg : b ≤ g ∨ g < a) (u : Value) : Kd.S d e (W.setCell ⟨g, j, none⟩ u) base (fun k_ => Rg a b k_ ∧ T k_) v xs := Kd.S_far h (fun k_ hk_ => Rg_ne hk_.1 hg) u
theorem nxt_ (h : Below w.heap.size w w2) : ∃ a b : Nat, a = w.heap.size ∧ b = w2.heap.size ∧ a ≤ b := ⟨_, _, rfl, rfl, h.size⟩
theorem sz_set {n : Nat} {p : Addr} {u : Value} (h : n ≤ w.heap.size) : n ≤ (w.setCell p u).heap.size := by rw [World.size_setCell]; exact h
end
def laws_markInt64SS.l0 : Nat → List (List Int) → Int → Int → Option (Int × List (List Int))
 | 0, _, _, _ => none
 | k + 1, x0, x1, x5 => if x5 < (x0.length : Int) then (if 0 ≤ x5 then ((laws_markInt64S.f k (x0.getD x5.toNat []) x1).bind fun bt => laws_markInt64SS.l0 k (x0.set x5.toNat bt.2) bt.1 (wrap64 (x5 + 1))) else none) else some (x1, x0)
def laws_markInt64SS.f (k : Nat) (l0 : List (List Int)) (a1 : Int) : Option (Int × List (List Int)) := laws_markInt64SS.l0 k l0 a1 0
set_option maxHeartbeats 8000000 in
set_option maxRecDepth 100000 in
theorem laws_markInt64SS.marks (k : Nat) (P : Nat → Prop) (u : Value) (l0 : List (List Int)) (a1 r1 : Int) (r2 : List (List Int)) (w0 w : World) (hB : Below w0.heap.size w0 w) (ho : Kd.S (Kd.slice 2 (Kd.int .i64)) 22 w w0.heap.size P u l0) (h : laws_markInt64SS.f k l0 a1 = some (r1, r2)) :
 Calls Try.prog 57 #[u, .int .i64 a1] w fun e w' => e = .returned (.int .i64 r1) ∧ Kd.S (Kd.slice 2 (Kd.int .i64)) 22 w' w0.heap.size P u r2 ∧ Below w0.heap.size w0 w' ∧ Kept w w' P := by
 have HO0 := am ho
 have HK := am (Kept.refl w P)
 have HB := am hB
 clear hB ho
 have H' := am (show laws_markInt64SS.l0 k l0 a1 0 = some (r1, r2) from h)
 clear h
 obtain ⟨Au, cu, rfl⟩ := Kd.S_slice HO0.out
 go_enter Try.func57, Try.ntmps57
 go_wp2
 go_loopg [1, 5] k (fun kq v1 v5 w' => ∃ (x0_1 : List (List Int)) (x1_1 : Int) (x5_1 : Int), x0_1.length = l0.length ∧ v1 = .int .i64 x1_1 ∧ v5 = .int .i64 x5_1 ∧ Aside0 (laws_markInt64SS.l0 kq x0_1 x1_1 x5_1 = some (r1, r2)) ∧ Aside0 (kq ≤ k) ∧ Aside0 (Kd.S (Kd.slice 2 (Kd.int .i64)) 22 w' w0.heap.size P (.slice Au l0.length cu) x0_1) ∧ Aside0 (Kept w w' P) ∧ Aside0 (Below w0.heap.size w0 w'))
 case atStart => exact ⟨l0, a1, 0, rfl, (by first | rfl | (simp; done) | (simp [*]; done)), (by first | rfl | (simp; done) | (simp [*]; done)), H', ⟨Nat.le_refl _⟩, ⟨ks HO0.out⟩, ⟨by repeat (first | (with_reducible first | exact HK.out | apply Kept.alloc | apply Kept.drewN | apply Kept.drew) | exact HK.out)⟩, ⟨by repeat (first | (with_reducible first | exact HB.out | apply below_alloc | apply pw_below_drewN | apply below_drew1) | exact HB.out)⟩⟩
 case round =>
 clear H'
 obtain ⟨x0_1, x1_1, x5_1, hlen, rfl, rfl, HA, HK1, HO_0, HK, HB⟩ := hrel
 cases gk with
 | zero => exact absurd HA.out (by simp [laws_markInt64SS.l0])
 | succ k1 =>
  have H := HA.out
  clear HA
  simp only [laws_markInt64SS.l0] at H
  by_cases c3 : x5_1 < (x0_1.length : Int)
  ·rw [if_pos c3] at H
   have c3b0 : decide (x5_1 < (l0.length : Int)) = true := decide_eq_true (by omega)
   by_cases c4 : 0 ≤ x5_1
   ·rw [if_pos c4] at H
    have c4b0 : decide (0 ≤ x5_1) = true := decide_eq_true c4
    obtain ⟨⟨t1, t2⟩, A0, H⟩ := Option.bind_eq_some_iff.mp H
    have H' := Aside0.mk H
    clear H
    obtain ⟨g, cap, eo, hbg, hgl, hcl0⟩ := Kd.S_form HO_0.out (by omega)
    injection eo with ea_ en_ ec_
    clear en_
    subst ea_
    subst ec_
    obtain ⟨oki, ce, hcl, hM, hcc, hfr, hoki, hH⟩ := Kd.S_elem HO_0.out ([] : List Int) x5_1 c4 (by omega)
    obtain ⟨ve, rfl, hR⟩ := hM
    generalize x0_1.getD x5_1.toNat [] = xe at hR A0
    have A := Aside0.mk A0
    clear A0
    have hv := hcc 0 _ rfl
    rw [show (Kd.slice 2 (Kd.int .i64)).sz = 1 from rfl, Nat.mul_one, Nat.add_zero] at hv
    obtain ⟨Ae, cce, rfl⟩ := Kd.R_slice hR
    have p5 : (0 ≤ (x5_1 : Int)) = True := eq_true c4
    have q5 : ((x5_1 : Int) < ((l0.length : Int) : Int)) = True := eq_true (by omega)
    have HR := am hR
    have HH := am hH
    have HI := am hoki
    clear hR hH hcc hfr hcl hbg hgl hcl0 hoki HO_0
    go_wp2_with (first | (go_at_call 18; (refine (laws_markInt64S.calls k1 oki _ _ x1_1 t1 t2 w0 _ ?side1 ?side2 A.out).mono ?_); (case side1 => repeat (first | (with_reducible first | exact HB.out | apply below_alloc | apply pw_below_drewN | apply below_drew1) | exact HB.out)); (case side2 => (with_reducible repeat (first | apply Kd.R_alloc | apply Kd.R_drewN | apply Kd.R_drew)); exact HR.out); rintro e w8 ⟨rfl, hy, hb, hkp⟩; have HO_0 := am (Kd.H_back (d := Kd.slice 2 (Kd.int .i64)) (x' := t2) (okp := oki) (Kd.H_step (by (with_reducible repeat (first | apply Kd.H_alloc | apply Kd.H_drewN | apply Kd.H_drew)); exact HH.out) (fun k_ _ hn hlt => hkp.2 k_ hlt hn)) (show (Kd.slice 2 (Kd.int .i64)).M w8 w0.heap.size oki t2 [.slice Ae xe.length cce] from ⟨_, rfl, Kd.R_reok (ok := oki) rfl hy (fun k_ e_ => HR.out.1 k_ e_)⟩) (fun _ h_ => h_)); replace HB := am hb; replace HK := am (Kept.then_ (S := P) (by repeat (first | (with_reducible first | exact HK.out | apply Kept.alloc | apply Kept.drewN | apply Kept.drew) | exact HK.out)) hkp (fun k_ hk_ => .inl (HI.out k_ hk_).1)); clear HR HH hy hb hkp))
    go_roundg k1
    case measure => have := HK1.out; omega
    case rel => exact ⟨_, t1, (wrap64 (x5_1 + 1)), (by rw [List.length_set]; exact hlen), (by first | rfl | (simp; done) | (simp [*]; done)), (by first | rfl | (simp; done) | (simp [*]; done)), H', ⟨by have := HK1.out; omega⟩, ⟨ks HO_0.out⟩, ⟨by repeat (first | (with_reducible first | exact HK.out | apply Kept.alloc | apply Kept.drewN | apply Kept.drew) | exact HK.out)⟩, ⟨by repeat (first | (with_reducible first | exact HB.out | apply below_alloc | apply pw_below_drewN | apply below_drew1) | exact HB.out)⟩⟩
   ·rw [if_neg c4] at H
    exact absurd H (by simp)
  ·rw [if_neg c3] at H
   have c3b0 : decide (x5_1 < (l0.length : Int)) = false := decide_eq_false (by omega)
   simp only [Option.some.injEq, Prod.mk.injEq] at H
   obtain ⟨rfl, rfl⟩ := H
   go_wp2
   go_ret
   exact ⟨by first | rfl | (simp [*]; done), ks HO_0.out, by repeat (first | (with_reducible first | exact HB.out | apply below_alloc | apply pw_below_drewN | apply below_drew1) | exact HB.out), by repeat (first | (with_reducible first | exact HK.out | apply Kept.alloc | apply Kept.drewN | apply Kept.drew) | exact HK.out)⟩

end Go.Proofs.Ytejgkbejdkaccaa.PFnExactRingYank
