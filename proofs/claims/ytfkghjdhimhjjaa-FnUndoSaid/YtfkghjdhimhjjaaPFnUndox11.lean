-- Written by xprint.py (this claim's own program, over the kit's printer); Lean checks it.
import Derived.Test.YtfkghjdhimhjjaaPFnUndox0
import Derived.Test.YtfkghjdhimhjjaaPFnUndox10
namespace Go.Proofs.Ytfkghjdhimhjjaa.PFnUndo
open Go.RowKit Go.Proofs.YtfkghjdhimhjjaaW.PrintWords Go.Proofs.YtfkghjdhimhjjaaW.PrintLast Go.Proofs.YtfkghjdhimhjjaaW.PrintMore
attribute [local go_sem] max2_int min2_int max_two min_two max_three min_three max_four min_four   -- for this text's walks alone
set_option linter.unusedVariables false
set_option linter.unusedSimpArgs false   -- squeezed

/-! ### laws_lwUndo: function 20 -/
@[reducible] def b20_0 : Array Bool := (br true [0, 12]).toArray
@[reducible] def b20_1 : Array Bool := (br true [1, 11]).toArray
@[reducible] def b20_2 : Array Bool := (br true [1, 1, 1, 9]).toArray
@[reducible] def b20_3 : Array Bool := (br true [1, 1, 1, 2, 1, 6]).toArray
@[reducible] def b20_4 : Array Bool := (br true [1, 1, 1, 2, 1, 1, 1, 4]).toArray
@[reducible] def b20_5 : Array Bool := (br true [3, 2, 1, 1, 1, 4]).toArray
@[reducible] def b20_6 : Array Bool := (br true [4, 1, 1, 1, 1, 4]).toArray
@[reducible] def b20_7 : Array Bool := (br true [6, 1, 1, 4]).toArray
@[reducible] def b20_8 : Array Bool := (br true [8, 4]).toArray
@[reducible] def b20_9 : Array Bool := (br true [9, 3]).toArray
@[reducible] def b20_10 : Array Bool := (br true [10, 2]).toArray
@[reducible] def b20_11 : Array Bool := (br true [11, 1]).toArray
@[reducible] def b20_12 : Array Bool := (br true [12]).toArray
mutual
def laws_lwUndo.j0 : Nat → Bool → List (S39) → List (S39) → List (S39) → List (S39) → Option (Bool)
 | 0, _, _, _, _, _ => none
 | k + 1, x22, x492000, x492001, x493000, x493001 => if x22 = true then (some false) else (laws_lwUndo.l0 k 0 x492000 x492001 x493000 x493001)
def laws_lwUndo.l0 : Nat → Int → List (S39) → List (S39) → List (S39) → List (S39) → Option (Bool)
 | 0, _, _, _, _, _ => none
 | k + 1, x5, x492000, x492001, x493000, x493001 => if x5 < (x492000.length : Int) then (if 0 ≤ x5 then (if x5 < (x493000.length : Int) then ((laws_lwBuf.f k ((rd_T39 x492000 x5).f0) ((rd_T39 x492000 x5).f1) ((rd_T39 x492000 x5).f2) ((rd_T39 x493000 x5).f0) ((rd_T39 x493000 x5).f1) ((rd_T39 x493000 x5).f2)).bind fun t495 => (if t495 = true then (laws_lwUndo.l0 k (wrap64 (x5 + 1)) x492000 x492001 x493000 x493001) else (some false))) else (none)) else (none)) else (laws_lwUndo.l1 k 0 x492000 x492001 x493000 x493001)
def laws_lwUndo.l1 : Nat → Int → List (S39) → List (S39) → List (S39) → List (S39) → Option (Bool)
 | 0, _, _, _, _, _ => none
 | k + 1, x6, x492000, x492001, x493000, x493001 => if x6 < (x492001.length : Int) then (if 0 ≤ x6 then (if x6 < (x493001.length : Int) then ((laws_lwBuf.f k ((rd_T39 x492001 x6).f0) ((rd_T39 x492001 x6).f1) ((rd_T39 x492001 x6).f2) ((rd_T39 x493001 x6).f0) ((rd_T39 x493001 x6).f1) ((rd_T39 x493001 x6).f2)).bind fun t498 => (if t498 = true then (laws_lwUndo.l1 k (wrap64 (x6 + 1)) x492000 x492001 x493000 x493001) else (some false))) else (none)) else (none)) else (some true)
end
def laws_lwUndo.f (k : Nat) (l0_0 : List (S39)) (l0_1 : List (S39)) (l1_0 : List (S39)) (l1_1 : List (S39)) : Option (Bool) := if (l0_0.length : Int) = (l1_0.length : Int) then (laws_lwUndo.j0 k ((l0_1.length : Int) != (l1_1.length : Int)) l0_0 l0_1 l1_0 l1_1) else (laws_lwUndo.j0 k true l0_0 l0_1 l1_0 l1_1)
theorem laws_lwUndo.mono_l : ∀ k, (∀ y0 y1 y2 y3 y4, LeO (laws_lwUndo.j0 k y0 y1 y2 y3 y4) (laws_lwUndo.j0 (k + 1) y0 y1 y2 y3 y4)) ∧ (∀ y0 y1 y2 y3 y4, LeO (laws_lwUndo.l0 k y0 y1 y2 y3 y4) (laws_lwUndo.l0 (k + 1) y0 y1 y2 y3 y4)) ∧ (∀ y0 y1 y2 y3 y4, LeO (laws_lwUndo.l1 k y0 y1 y2 y3 y4) (laws_lwUndo.l1 (k + 1) y0 y1 y2 y3 y4))
 | 0 => ⟨fun _ _ _ _ _ r h => by simp [laws_lwUndo.j0] at h, fun _ _ _ _ _ r h => by simp [laws_lwUndo.l0] at h, fun _ _ _ _ _ r h => by simp [laws_lwUndo.l1] at h⟩
 | k + 1 => by
  obtain ⟨ih0, ih1, ih2⟩ := laws_lwUndo.mono_l k
  refine ⟨?_, ?_, ?_⟩
  ·intro y0 y1 y2 y3 y4
   unfold laws_lwUndo.j0
   repeat' first
   | (with_reducible exact ih0 _ _ _ _ _)
   | (with_reducible exact ih1 _ _ _ _ _)
   | (with_reducible exact ih2 _ _ _ _ _)
   | (with_reducible exact laws_lwBuf.mono _ _ _ _ _ _ _)
   | (with_reducible exact LeO.refl _)
   | (with_reducible exact LeO.none _)
   | (with_reducible refine LeO.ite ?_ ?_)
   | (with_reducible refine LeO.bind ?_ (fun _ => ?_))
   | exact ih0 _ _ _ _ _
   | exact ih1 _ _ _ _ _
   | exact ih2 _ _ _ _ _
   | exact laws_lwBuf.mono _ _ _ _ _ _ _
   | exact LeO.none _
   | refine LeO.ite ?_ ?_
   | refine LeO.bind ?_ (fun _ => ?_)
  ·intro y0 y1 y2 y3 y4
   unfold laws_lwUndo.l0
   repeat' first
   | (with_reducible exact ih0 _ _ _ _ _)
   | (with_reducible exact ih1 _ _ _ _ _)
   | (with_reducible exact ih2 _ _ _ _ _)
   | (with_reducible exact laws_lwBuf.mono _ _ _ _ _ _ _)
   | (with_reducible exact LeO.refl _)
   | (with_reducible exact LeO.none _)
   | (with_reducible refine LeO.ite ?_ ?_)
   | (with_reducible refine LeO.bind ?_ (fun _ => ?_))
   | exact ih0 _ _ _ _ _
   | exact ih1 _ _ _ _ _
   | exact ih2 _ _ _ _ _
   | exact laws_lwBuf.mono _ _ _ _ _ _ _
   | exact LeO.none _
   | refine LeO.ite ?_ ?_
   | refine LeO.bind ?_ (fun _ => ?_)
  ·intro y0 y1 y2 y3 y4
   unfold laws_lwUndo.l1
   repeat' first
   | (with_reducible exact ih0 _ _ _ _ _)
   | (with_reducible exact ih1 _ _ _ _ _)
   | (with_reducible exact ih2 _ _ _ _ _)
   | (with_reducible exact laws_lwBuf.mono _ _ _ _ _ _ _)
   | (with_reducible exact LeO.refl _)
   | (with_reducible exact LeO.none _)
   | (with_reducible refine LeO.ite ?_ ?_)
   | (with_reducible refine LeO.bind ?_ (fun _ => ?_))
   | exact ih0 _ _ _ _ _
   | exact ih1 _ _ _ _ _
   | exact ih2 _ _ _ _ _
   | exact laws_lwBuf.mono _ _ _ _ _ _ _
   | exact LeO.none _
   | refine LeO.ite ?_ ?_
   | refine LeO.bind ?_ (fun _ => ?_)
theorem laws_lwUndo.mono : ∀ a0 a1 a2 a3 k, LeO (laws_lwUndo.f k a0 a1 a2 a3) (laws_lwUndo.f (k + 1) a0 a1 a2 a3) := by
 intro a0 a1 a2 a3 k
 obtain ⟨ih0, ih1, ih2⟩ := laws_lwUndo.mono_l k
 unfold laws_lwUndo.f
 repeat' first
   | (with_reducible exact ih0 _ _ _ _ _)
   | (with_reducible exact ih1 _ _ _ _ _)
   | (with_reducible exact ih2 _ _ _ _ _)
   | (with_reducible exact laws_lwBuf.mono _ _ _ _ _ _ _)
   | (with_reducible exact LeO.refl _)
   | (with_reducible exact LeO.none _)
   | (with_reducible refine LeO.ite ?_ ?_)
   | (with_reducible refine LeO.bind ?_ (fun _ => ?_))
   | exact ih0 _ _ _ _ _
   | exact ih1 _ _ _ _ _
   | exact ih2 _ _ _ _ _
   | exact laws_lwBuf.mono _ _ _ _ _ _ _
   | exact LeO.none _
   | refine LeO.ite ?_ ?_
   | refine LeO.bind ?_ (fun _ => ?_)
def laws_lwUndo.T6 : Bool × List (List Nat × List Nat) := (true, [([], []), ([0], [0]), ([], []), ([1, 2], [1, 2]), ([3], [3]), ([], []), ([5], [5]), ([], []), ([6, 7], [6, 7]), ([8], [8]), ([4, 9], [4, 9]), ([10], [10])])
def laws_lwUndo.B6 : List Nat := [0, 1, 0, 7, 15, 0, 32, 0, 224, 480, 1023, 2047]
theorem laws_lwUndo.tab6 : rtab .any (opsOf Try.f20 6) = laws_lwUndo.T6 := by kernel_rfl
theorem laws_lwUndo.bits6 : waitsOk laws_lwUndo.T6.2 laws_lwUndo.B6 = true := by kernel_rfl
def laws_lwUndo.T11 : Bool × List (List Nat × List Nat) := (true, [([], []), ([0], [0]), ([], []), ([1, 2], [1, 2]), ([3], [3]), ([], []), ([5], [5]), ([], []), ([6, 7], [6, 7]), ([8], [8]), ([4, 9], [4, 9]), ([10], [10])])
def laws_lwUndo.B11 : List Nat := [0, 1, 0, 7, 15, 0, 32, 0, 224, 480, 1023, 2047]
theorem laws_lwUndo.tab11 : rtab .any (opsOf Try.f20 11) = laws_lwUndo.T11 := by kernel_rfl
theorem laws_lwUndo.bits11 : waitsOk laws_lwUndo.T11.2 laws_lwUndo.B11 = true := by kernel_rfl
set_option maxHeartbeats 8000000 in
set_option maxRecDepth 100000 in
theorem laws_lwUndo.calls (k : Nat) (A0_0 : Option Addr) (c0_0 : Nat) (l0_0 : List (S39)) (A0_1 : Option Addr) (c0_1 : Nat) (l0_1 : List (S39)) (A1_0 : Option Addr) (c1_0 : Nat) (l1_0 : List (S39)) (A1_1 : Option Addr) (c1_1 : Nat) (l1_1 : List (S39)) (r : Bool) (w : World) (hr0_0 : Kd.C k39 w A0_0 l0_0.length l0_0) (hc0_0 : l0_0.length ≤ c0_0) (hr0_1 : Kd.C k39 w A0_1 l0_1.length l0_1) (hc0_1 : l0_1.length ≤ c0_1) (hr1_0 : Kd.C k39 w A1_0 l1_0.length l1_0) (hc1_0 : l1_0.length ≤ c1_0) (hr1_1 : Kd.C k39 w A1_1 l1_1.length l1_1) (hc1_1 : l1_1.length ≤ c1_1) (h : laws_lwUndo.f k l0_0 l0_1 l1_0 l1_1 = some r) :
  Calls Try.prog 20 #[.agg #[.slice A0_0 l0_0.length c0_0, .slice A0_1 l0_1.length c0_1], .agg #[.slice A1_0 l1_0.length c1_0, .slice A1_1 l1_1.length c1_1]] w fun e w' => e = .returned (.bool r) ∧ Below w.heap.size w w' := by
 have hu36 := Try.underlying36
 have hu39 := Try.underlying39
 have HR0_0 := am hr0_0
 have HC0_0 := am hc0_0
 clear hr0_0 hc0_0
 have HR0_1 := am hr0_1
 have HC0_1 := am hc0_1
 clear hr0_1 hc0_1
 have HR1_0 := am hr1_0
 have HC1_0 := am hc1_0
 clear hr1_0 hc1_0
 have HR1_1 := am hr1_1
 have HC1_1 := am hc1_1
 clear hr1_1 hc1_1
 have HB := am (Below.refl w.heap.size w)
 have H : (if (l0_0.length : Int) = (l1_0.length : Int) then (laws_lwUndo.j0 k ((l0_1.length : Int) != (l1_1.length : Int)) l0_0 l0_1 l1_0 l1_1) else (laws_lwUndo.j0 k true l0_0 l0_1 l1_0 l1_1)) = some r := h
 clear h
 have HC3 := Aside0.mk H
 clear H
 go_enter Try.func20, Try.ntmps20
 go_upto_region 1 with (first | ((with_reducible refine gate_dst (N := 2) rfl ?_); (try (refine gate_guard (by rfl) ?_; dsimp only)); refine box_event ?hg (N := 2) ?hd (cs := #[.slice A0_0 l0_0.length c0_0, .slice A0_1 l0_1.length c0_1]) (t := 36) ?hr ?_; (case hd => rfl); (case hg => rfl); (case hr => first | (go_simp; done) | (go_simp; rfl)); intro gb491 hg w4 hbox hb; have BK491 := am (hbox); have GW491 := am ((by rw [hg]; exact (below_size (bl HB.out)) : w.heap.size ≤ gb491)); have GE491 := GW491; replace HB := am (below_step (bl HB.out) hb); clear hb hbox hg) | ((with_reducible refine gate_dst (N := 3) rfl ?_); (try (refine gate_guard (by rfl) ?_; dsimp only)); refine box_event ?hg (N := 3) ?hd (cs := #[.slice A1_0 l1_0.length c1_0, .slice A1_1 l1_1.length c1_1]) (t := 36) ?hr ?_; (case hd => rfl); (case hg => rfl); (case hr => first | (go_simp; done) | (go_simp; rfl)); intro gb492 hg w5 hbox hb; have BK492 := am (hbox); have GW492 := am ((by rw [hg]; exact (below_size (bl HB.out)) : w.heap.size ≤ gb492)); have GE492 := GW492; replace HB := am (below_step (bl HB.out) hb); have NB491_492 := am ((by rw [hg]; exact Nat.ne_of_lt (blk_lt (pk BK491.out)) : gb491 ≠ gb492)); have NB492_491 := am ((by rw [hg]; exact Nat.ne_of_gt (blk_lt (pk BK491.out)) : gb492 ≠ gb491)); replace BK491 := am (blk_below (pk BK491.out) hb); clear hb hbox hg))
 (try simp only [Act.put, sa_, s0_, ss_])
 go_cut [22] (fun v22 wc => ∃ (kq : Nat) (x22_2 : Bool), v22 = .bool x22_2 ∧ Aside0 (laws_lwUndo.j0 kq x22_2 l0_0 l0_1 l1_0 l1_1 = some r) ∧ Aside0 (kq ≤ k) ∧ Aside0 (wc.heap[gb491]? = some (.cells #[(.slice A0_0 l0_0.length c0_0), (.slice A0_1 l0_1.length c0_1)] 36 (0, 0))) ∧ Aside0 (wc.heap[gb492]? = some (.cells #[(.slice A1_0 l1_0.length c1_0), (.slice A1_1 l1_1.length c1_1)] 36 (0, 0))) ∧ Aside0 (Below w.heap.size w wc))
 case first =>
  have H := HC3.out
  clear HC3
  by_cases c6 : (l0_0.length : Int) = (l1_0.length : Int)
  ·rw [if_pos c6] at H
   have c6b0 : ((l0_0.length : Int) == (l1_0.length : Int)) = true := beq_iff_eq.mpr c6
   have c6b1 : ((l0_0.length : Int) != (l1_0.length : Int)) = false := bne_eq_false_iff_eq.mpr c6
   have c6b2 : (l0_0.length == l1_0.length) = true := by first | simpa using c6 | (simp at c6 ⊢; omega)
   clear c6
   (first | rw [c6b0] | (simp only [i64_w, i32_w]; rw [c6b0]) | (have e9_ := c6b0; unfold bne at e9_; rw [e9_]) | skip)
   have H' := Aside0.mk H
   clear H
   have hnb7 := NB491_492.out
   have hnc7 := NB492_491.out
   have hcz8_0 : w5.cell? ⟨gb491, 0, none⟩ = some (.slice A0_0 l0_0.length c0_0) := bc BK491.out 0
   have hcz8_1 : w5.cell? ⟨gb491, 1, none⟩ = some (.slice A0_1 l0_1.length c0_1) := bc BK491.out 1
   have hcz9_0 : w5.cell? ⟨gb492, 0, none⟩ = some (.slice A1_0 l1_0.length c1_0) := bc BK492.out 0
   have hcz9_1 : w5.cell? ⟨gb492, 1, none⟩ = some (.slice A1_1 l1_1.length c1_1) := bc BK492.out 1
   go_wp2
   go_meet
   case rel => exact ⟨_, (((l0_1.length : Int) != (l1_1.length : Int))), (by first | rfl | (simp; done) | (simp [*]; done)), H', ⟨by first | omega | exact Nat.le_refl _⟩, ⟨pk BK491.out⟩, ⟨pk BK492.out⟩, ⟨by repeat (first | (with_reducible first | exact HB.out | apply below_alloc | apply pw_below_drewN | apply below_drew1 | refine below_set ?_ GE491.out | refine below_set ?_ GE492.out) | exact HB.out)⟩⟩
  ·rw [if_neg c6] at H
   have c6b0 : ((l0_0.length : Int) == (l1_0.length : Int)) = false := beq_eq_false_iff_ne.mpr c6
   have c6b1 : ((l0_0.length : Int) != (l1_0.length : Int)) = true := bne_iff_ne.mpr c6
   have c6b2 : (l0_0.length == l1_0.length) = false := by first | simpa using c6 | (simp at c6 ⊢; omega)
   (first | rw [c6b0] | (simp only [i64_w, i32_w]; rw [c6b0]) | (have e9_ := c6b0; unfold bne at e9_; rw [e9_]) | skip)
   have H' := Aside0.mk H
   clear H
   have hnb10 := NB491_492.out
   have hnc10 := NB492_491.out
   have hcz11_0 : w5.cell? ⟨gb491, 0, none⟩ = some (.slice A0_0 l0_0.length c0_0) := bc BK491.out 0
   have hcz11_1 : w5.cell? ⟨gb491, 1, none⟩ = some (.slice A0_1 l0_1.length c0_1) := bc BK491.out 1
   have hcz12_0 : w5.cell? ⟨gb492, 0, none⟩ = some (.slice A1_0 l1_0.length c1_0) := bc BK492.out 0
   have hcz12_1 : w5.cell? ⟨gb492, 1, none⟩ = some (.slice A1_1 l1_1.length c1_1) := bc BK492.out 1
   go_wp2
   go_meet
   case rel => exact ⟨_, (true), (by first | rfl | (simp; done) | (simp [*]; done)), H', ⟨by first | omega | exact Nat.le_refl _⟩, ⟨pk BK491.out⟩, ⟨pk BK492.out⟩, ⟨by repeat (first | (with_reducible first | exact HB.out | apply below_alloc | apply pw_below_drewN | apply below_drew1 | refine below_set ?_ GE491.out | refine below_set ?_ GE492.out) | exact HB.out)⟩⟩
 case rest =>
  clear HC3
  try clear c1
  try clear c2
  try clear p2
  try clear c6
  try clear c6b0
  try clear c6b1
  try clear c6b2
  try clear c7
  try clear c10
  try clear hcz11_0
  try clear hcz11_1
  try clear hcz12_0
  try clear hcz12_1
  try clear hcz8_0
  try clear hcz8_1
  try clear hcz9_0
  try clear hcz9_1
  obtain ⟨kq, x22_2, rfl, HA, HJ2, BK491, BK492, HB⟩ := hcut
  cases kq with
  | zero => exact absurd HA.out (by simp [laws_lwUndo.j0])
  | succ kj2 =>
   have H := HA.out
   clear HA
   simp only [laws_lwUndo.j0] at H
   by_cases c13 : x22_2 = true
   ·subst c13
    have H1 : (some false) = some r := by rw [if_pos rfl] at H; exact H
    clear H
    have H := H1
    clear H1
    obtain rfl := Option.some.inj H
    go_wp2
    go_ret
    exact ⟨by first | rfl | (simp [errW_none, errW_some] <;> rfl) | (simp [*, errW_none, errW_some] <;> rfl), by repeat (first | (with_reducible first | exact HB.out | apply below_alloc | apply pw_below_drewN | apply below_drew1 | refine below_set ?_ GE491.out | refine below_set ?_ GE492.out) | exact HB.out)⟩
   ·replace c13 := Bool.eq_false_iff.mpr c13
    subst c13
    have H1 : (laws_lwUndo.l0 kj2 0 l0_0 l0_1 l1_0 l1_1) = some r := by rw [if_neg (show ¬ (false = true) by decide)] at H; exact H
    clear H
    have H := H1
    clear H1
    have H' := Aside0.mk H
    clear H
    go_wp2
    go_loopg [5] kj2 (fun kq v5 w' => ∃ (x5_2 : Int), v5 = .int .i64 x5_2 ∧ Aside0 (laws_lwUndo.l0 kq x5_2 l0_0 l0_1 l1_0 l1_1 = some r) ∧ Aside0 (kq ≤ kj2) ∧ Aside0 (w'.heap[gb491]? = some (.cells #[(.slice A0_0 l0_0.length c0_0), (.slice A0_1 l0_1.length c0_1)] 36 (0, 0))) ∧ Aside0 (w'.heap[gb492]? = some (.cells #[(.slice A1_0 l1_0.length c1_0), (.slice A1_1 l1_1.length c1_1)] 36 (0, 0))) ∧ Aside0 (Below w.heap.size w w'))
    case atStart => exact ⟨(0), (by first | rfl | (simp; done) | (simp [*]; done)), H', ⟨Nat.le_refl _⟩, ⟨pk BK491.out⟩, ⟨pk BK492.out⟩, ⟨by repeat (first | (with_reducible first | exact HB.out | apply below_alloc | apply pw_below_drewN | apply below_drew1 | refine below_set ?_ GE491.out | refine below_set ?_ GE492.out) | exact HB.out)⟩⟩
    case round =>
     clear H'
     try clear c1
     try clear c2
     try clear p2
     try clear c6
     try clear c6b0
     try clear c6b1
     try clear c6b2
     try clear c7
     try clear c10
     try clear c13
     try clear hcz11_0
     try clear hcz11_1
     try clear hcz12_0
     try clear hcz12_1
     try clear hcz8_0
     try clear hcz8_1
     try clear hcz9_0
     try clear hcz9_1
     try clear p2
     obtain ⟨x5_2, rfl, HA, HK2, BK491, BK492, HB⟩ := hrel
     cases gk with
     | zero => exact absurd HA.out (by simp [laws_lwUndo.l0])
     | succ k2 =>
      have H := HA.out
      clear HA
      simp only [laws_lwUndo.l0] at H
      by_cases c14 : x5_2 < (l0_0.length : Int)
      ·rw [if_pos c14] at H
       have c14b0 : decide (x5_2 < (l0_0.length : Int)) = true := decide_eq_true c14
       clear c14
       by_cases c15 : 0 ≤ x5_2
       ·rw [if_pos c15] at H
        have c15b0 : decide (0 ≤ x5_2) = true := decide_eq_true c15
        clear c15
        by_cases c16 : x5_2 < (l1_0.length : Int)
        ·rw [if_pos c16] at H
         have c16b0 : decide (x5_2 < (l1_0.length : Int)) = true := decide_eq_true c16
         clear c16
         replace H := Option.bind_eq_some_iff.mp H
         obtain ⟨t495, A170, H⟩ := H
         replace H : (if t495 = true then (laws_lwUndo.l0 k2 (wrap64 (x5_2 + 1)) l0_0 l0_1 l1_0 l1_1) else (some false)) = some r := H
         have A17 := Aside0.mk A170
         clear A170
         by_cases c18 : t495 = true
         ·subst c18
          have H1 : (laws_lwUndo.l0 k2 (wrap64 (x5_2 + 1)) l0_0 l0_1 l1_0 l1_1) = some r := by rw [if_pos rfl] at H; exact H
          clear H
          have H := H1
          clear H1
          have H' := Aside0.mk H
          clear H
          have hnb19 := NB491_492.out
          have hnc19 := NB492_491.out
          have hcz20_0 : wr.cell? ⟨gb491, 0, none⟩ = some (.slice A0_0 l0_0.length c0_0) := bc BK491.out 0
          have hcz20_1 : wr.cell? ⟨gb491, 1, none⟩ = some (.slice A0_1 l0_1.length c0_1) := bc BK491.out 1
          try go_wp2
          replace BK491 := am (blk_drew BK491.out)
          replace BK492 := am (blk_drew BK492.out)
          replace HB := am (below_drew1 HB.out)
          have p493 : 0 ≤ (x5_2 : Int) := of_decide_eq_true (by first | (with_reducible assumption) | assumption)
          have q493 : x5_2 < (l0_0.length : Int) := of_decide_eq_true (by first | (with_reducible assumption) | assumption)
          obtain ⟨ad493, A493_0, c493_0, e493, hx493_0, hx493_1, hx493_2, hl493_0, hi493_0⟩ := at_T39 HR0_0.out x5_2 p493 q493
          have hw493_2 := hx493_2
          have hw493_1 := hx493_1
          have hw493_0 := hx493_0
          cases e493
          have hxw493_0 := hx493_0
          replace hx493_0 := (HB.out.cell (World.block_lt_of_cell? w _ hx493_0)).trans hx493_0
          have hxw493_1 := hx493_1
          replace hx493_1 := (HB.out.cell (World.block_lt_of_cell? w _ hx493_1)).trans hx493_1
          have hxw493_2 := hx493_2
          replace hx493_2 := (HB.out.cell (World.block_lt_of_cell? w _ hx493_2)).trans hx493_2
          have HR493_0 := am hi493_0
          have HC493_0 := am hl493_0
          clear hi493_0 hl493_0
          replace p493 := eq_true p493
          replace q493 := eq_true q493
          have p494 : 0 ≤ (x5_2 : Int) := of_decide_eq_true (by first | (with_reducible assumption) | assumption)
          have q494 : x5_2 < (l1_0.length : Int) := of_decide_eq_true (by first | (with_reducible assumption) | assumption)
          obtain ⟨ad494, A494_0, c494_0, e494, hx494_0, hx494_1, hx494_2, hl494_0, hi494_0⟩ := at_T39 HR1_0.out x5_2 p494 q494
          have hw494_2 := hx494_2
          have hw494_1 := hx494_1
          have hw494_0 := hx494_0
          cases e494
          have hxw494_0 := hx494_0
          replace hx494_0 := (HB.out.cell (World.block_lt_of_cell? w _ hx494_0)).trans hx494_0
          have hxw494_1 := hx494_1
          replace hx494_1 := (HB.out.cell (World.block_lt_of_cell? w _ hx494_1)).trans hx494_1
          have hxw494_2 := hx494_2
          replace hx494_2 := (HB.out.cell (World.block_lt_of_cell? w _ hx494_2)).trans hx494_2
          have HR494_0 := am hi494_0
          have HC494_0 := am hl494_0
          clear hi494_0 hl494_0
          replace p494 := eq_true p494
          replace q494 := eq_true q494
          refine start_ (n := 12) (S := fun w' => w'.cell? ⟨gb491, 0, none⟩ = some (.slice (some ad493) l0_0.length c0_0) ∧ w'.cell? ⟨gb491, 1, none⟩ = some (.slice A0_1 l0_1.length c0_1) ∧ w'.cell? ⟨gb492, 0, none⟩ = some (.slice (some ad494) l1_0.length c1_0) ∧ w'.cell? ⟨gb492, 1, none⟩ = some (.slice A1_1 l1_1.length c1_1) ∧ w'.cell? (ad493.add ((x5_2).toNat * 3)) = some (.slice A493_0 ((rd_T39 l0_0 x5_2).f0).length c493_0) ∧ w'.cell? ⟨(ad493.add ((x5_2).toNat * 3)).block, (ad493.add ((x5_2).toNat * 3)).off + 1, none⟩ = some (.int .i64 ((rd_T39 l0_0 x5_2).f1)) ∧ w'.cell? ⟨(ad493.add ((x5_2).toNat * 3)).block, (ad493.add ((x5_2).toNat * 3)).off + 2, none⟩ = some (.int .i64 ((rd_T39 l0_0 x5_2).f2)) ∧ w'.cell? (ad494.add ((x5_2).toNat * 3)) = some (.slice A494_0 ((rd_T39 l1_0 x5_2).f0).length c494_0) ∧ w'.cell? ⟨(ad494.add ((x5_2).toNat * 3)).block, (ad494.add ((x5_2).toNat * 3)).off + 1, none⟩ = some (.int .i64 ((rd_T39 l1_0 x5_2).f1)) ∧ w'.cell? ⟨(ad494.add ((x5_2).toNat * 3)).block, (ad494.add ((x5_2).toNat * 3)).off + 2, none⟩ = some (.int .i64 ((rd_T39 l1_0 x5_2).f2))) (ds := []) b20_0 (by kernel_rfl) rfl rfl ⟨bc BK491.out 0, bc BK491.out 1, bc BK492.out 0, bc BK492.out 1, ((HB.out.cell (World.block_lt_of_cell? _ _ hw493_0)).trans hw493_0), ((HB.out.cell (World.block_lt_of_cell? _ _ hw493_1)).trans hw493_1), ((HB.out.cell (World.block_lt_of_cell? _ _ hw493_2)).trans hw493_2), ((HB.out.cell (World.block_lt_of_cell? _ _ hw494_0)).trans hw494_0), ((HB.out.cell (World.block_lt_of_cell? _ _ hw494_1)).trans hw494_1), ((HB.out.cell (World.block_lt_of_cell? _ _ hw494_2)).trans hw494_2)⟩ (fun hHeld => ?_); refine with_tabW laws_lwUndo.tab6 laws_lwUndo.bits6 (fun HT_ HW_ => ?_)
          generalize wr.drew = w21 at BK491 BK492 HB HR493_0 HR494_0 hx493_0 hx493_1 hx493_2 hx494_0 hx494_1 hx494_2 hHeld ⊢
          refine pu_ 0 (some 30) ?_ b20_1 rfl rfl HT_.out (by kernel_rfl) (fun _ _ _ h => h) (Or.inl ⟨by rfl, ?_⟩) ?_ ?_ ?_; rotate_left
          ·intro w'; go_simp; with_reducible rfl
          rotate_left
          ·simp only [Act.put, sa_, s0_, ss_, i64_w, i32_w]; rfl
          refine pu_ 2 (some 32) ?_ b20_2 rfl rfl HT_.out (by kernel_rfl) (fun _ _ _ h => h) (Or.inl ⟨by rfl, ?_⟩) ?_ ?_ ?_; rotate_left
          ·intro w'; go_simp; with_reducible rfl
          rotate_left
          ·simp only [Act.put, sa_, s0_, ss_, i64_w, i32_w]; rfl
          refine pu_ 5 (some 35) ?_ b20_3 rfl rfl HT_.out (by kernel_rfl) (fun _ _ _ h => h) (Or.inl ⟨by rfl, ?_⟩) ?_ ?_ ?_; rotate_left
          ·intro w'; go_simp; with_reducible rfl
          rotate_left
          ·simp only [Act.put, sa_, s0_, ss_, i64_w, i32_w]; rfl
          refine pu_ 7 (some 37) ?_ b20_4 rfl rfl HT_.out (by kernel_rfl) (fun _ _ _ h => h) (Or.inl ⟨by rfl, ?_⟩) ?_ ?_ ?_; rotate_left
          ·intro w'; go_simp; with_reducible rfl
          rotate_left
          ·simp only [Act.put, sa_, s0_, ss_, i64_w, i32_w]; rfl
          refine tk_ 1 (some 31) ?_ b20_5 rfl rfl HT_.out HW_.out (by kernel_rfl) (fun _ _ _ h => h) (Or.inl ⟨by rfl, ?_⟩) hHeld ?_ ?_ ?_; rotate_left
          ·rintro w' ⟨s0, s1, s2, s3, s4, s5, s6, s7, s8, s9⟩; go_simp; with_reducible rfl
          rotate_left
          ·simp only [Act.put, sa_, s0_, ss_, i64_w, i32_w]; rfl
          refine pu_ 3 (some 33) ?_ b20_6 rfl rfl HT_.out (by kernel_rfl) (fun _ _ _ h => h) (Or.inl ⟨by rfl, ?_⟩) ?_ ?_ ?_; rotate_left
          ·intro w'; go_simp; with_reducible rfl
          rotate_left
          ·simp only [Act.put, sa_, s0_, ss_, i64_w, i32_w]; rfl
          refine tk_ 4 (some 34) ?_ b20_7 rfl rfl HT_.out HW_.out (by kernel_rfl) (fun _ _ _ h => h) (Or.inl ⟨by rfl, ?_⟩) hHeld ?_ ?_ ?_; rotate_left
          ·rintro w' ⟨s0, s1, s2, s3, s4, s5, s6, s7, s8, s9⟩; go_simp; with_reducible rfl
          rotate_left
          ·simp only [Act.put, sa_, s0_, ss_, i64_w, i32_w]; rfl
          refine tk_ 6 (some 36) ?_ b20_8 rfl rfl HT_.out HW_.out (by kernel_rfl) (fun _ _ _ h => h) (Or.inl ⟨by rfl, ?_⟩) hHeld ?_ ?_ ?_; rotate_left
          ·rintro w' ⟨s0, s1, s2, s3, s4, s5, s6, s7, s8, s9⟩; go_simp; with_reducible rfl
          rotate_left
          ·simp only [Act.put, sa_, s0_, ss_, i64_w, i32_w]; rfl
          refine pu_ 8 (some 38) ?_ b20_9 rfl rfl HT_.out (by kernel_rfl) (fun _ _ _ h => h) (Or.inl ⟨by rfl, ?_⟩) ?_ ?_ ?_; rotate_left
          ·intro w'; go_simp; with_reducible rfl
          rotate_left
          ·simp only [Act.put, sa_, s0_, ss_, i64_w, i32_w]; rfl
          refine tk_ 9 (some 39) ?_ b20_10 rfl rfl HT_.out HW_.out (by kernel_rfl) (fun _ _ _ h => h) (Or.inl ⟨by rfl, ?_⟩) hHeld ?_ ?_ ?_; rotate_left
          ·rintro w' ⟨s0, s1, s2, s3, s4, s5, s6, s7, s8, s9⟩; go_simp; with_reducible rfl
          rotate_left
          ·simp only [Act.put, sa_, s0_, ss_, i64_w, i32_w]; rfl
          refine one_ (i := 10) (N := some 40) b20_11 rfl rfl (one_of HT_.out (by kernel_rfl)) (by decide) (fun K hK => ?_)
          refine goes_ Try.func19 (by kernel_rfl) rfl #[.agg #[.slice A493_0 ((rd_T39 l0_0 x5_2).f0).length c493_0, .int .i64 ((rd_T39 l0_0 x5_2).f1), .int .i64 ((rd_T39 l0_0 x5_2).f2)], .agg #[.slice A494_0 ((rd_T39 l1_0 x5_2).f0).length c494_0, .int .i64 ((rd_T39 l1_0 x5_2).f1), .int .i64 ((rd_T39 l1_0 x5_2).f2)]] (by rfl) rfl rfl (by (try simp only [List.map_toArray, List.map_cons, List.map_nil]); first | done | rfl | (simp only [List.length_drop, List.length_take]; rfl)) ?_
          with_reducible refine (laws_lwBuf.calls k2 _ _ ((rd_T39 l0_0 x5_2).f0) ((rd_T39 l0_0 x5_2).f1) ((rd_T39 l0_0 x5_2).f2) _ _ ((rd_T39 l1_0 x5_2).f0) ((rd_T39 l1_0 x5_2).f1) ((rd_T39 l1_0 x5_2).f2) true _ ?side1 ?side2 ?side3 ?side4 A17.out).mono ?_
          (case side1 => repeat (first | exact (Kd.C_below HR493_0.out HB.out) | (with_reducible refine Kd.C_alloc ?_ _) | (with_reducible refine Kd.C_drewN ?_ _) | (with_reducible refine Kd.C_drew ?_)))
          (case side2 => exact HC493_0.out)
          (case side3 => repeat (first | exact (Kd.C_below HR494_0.out HB.out) | (with_reducible refine Kd.C_alloc ?_ _) | (with_reducible refine Kd.C_drewN ?_ _) | (with_reducible refine Kd.C_drew ?_)))
          (case side4 => exact HC494_0.out)
          rintro e w22 ⟨rfl, hb⟩
          refine ⟨_, rfl, ?_⟩
          replace BK491 := am (blk_below (pk BK491.out) hb)
          replace BK492 := am (blk_below (pk BK492.out) hb)
          replace HB := am (below_step (bl HB.out) hb)
          (try clear hb)
          (try clear hb2)
          (try clear hk)
          (try clear hi)
          refine hK.out _ _ ⟨bc BK491.out 0, bc BK491.out 1, bc BK492.out 0, bc BK492.out 1, ((HB.out.cell (World.block_lt_of_cell? _ _ hw493_0)).trans hw493_0), ((HB.out.cell (World.block_lt_of_cell? _ _ hw493_1)).trans hw493_1), ((HB.out.cell (World.block_lt_of_cell? _ _ hw493_2)).trans hw493_2), ((HB.out.cell (World.block_lt_of_cell? _ _ hw494_0)).trans hw494_0), ((HB.out.cell (World.block_lt_of_cell? _ _ hw494_1)).trans hw494_1), ((HB.out.cell (World.block_lt_of_cell? _ _ hw494_2)).trans hw494_2)⟩ (fun hHeld => ?_)
          clear hK K
          refine norm_ (a' := ?_) ?_ ?_
          rotate_left
          ·show Act.put _ (some 40) _ = _
           simp only [Act.put, sa_, s0_, ss_, i64_w, i32_w]
           rfl
          refine pu_ 11 (some 41) ?_ b20_12 rfl rfl HT_.out (by kernel_rfl) (fun _ _ _ h => h) (Or.inl ⟨by rfl, ?_⟩) ?_ ?_ ?_; rotate_left
          ·intro w'; go_simp; with_reducible rfl
          rotate_left
          ·simp only [Act.put, sa_, s0_, ss_, i64_w, i32_w]; rfl
          refine done_ (done_of HT_.out (by kernel_rfl)) ?_
          try go_wp2
          go_roundg k2
          case measure => have := HJ2.out; have := HK2.out; omega
          case rel => exact ⟨(wrap64 (x5_2 + 1)), (by first | rfl | (simp; done) | (simp [*]; done)), H', ⟨by have := HJ2.out; have := HK2.out; omega⟩, ⟨pk BK491.out⟩, ⟨pk BK492.out⟩, ⟨by repeat (first | (with_reducible first | exact HB.out | apply below_alloc | apply pw_below_drewN | apply below_drew1 | refine below_set ?_ GE491.out | refine below_set ?_ GE492.out) | exact HB.out)⟩⟩
         ·replace c18 := Bool.eq_false_iff.mpr c18
          subst c18
          have H1 : (some false) = some r := by rw [if_neg (show ¬ (false = true) by decide)] at H; exact H
          clear H
          have H := H1
          clear H1
          obtain rfl := Option.some.inj H
          have hnb23 := NB491_492.out
          have hnc23 := NB492_491.out
          have hcz24_0 : wr.cell? ⟨gb491, 0, none⟩ = some (.slice A0_0 l0_0.length c0_0) := bc BK491.out 0
          have hcz24_1 : wr.cell? ⟨gb491, 1, none⟩ = some (.slice A0_1 l0_1.length c0_1) := bc BK491.out 1
          try go_wp2
          replace BK491 := am (blk_drew BK491.out)
          replace BK492 := am (blk_drew BK492.out)
          replace HB := am (below_drew1 HB.out)
          have p493 : 0 ≤ (x5_2 : Int) := of_decide_eq_true (by first | (with_reducible assumption) | assumption)
          have q493 : x5_2 < (l0_0.length : Int) := of_decide_eq_true (by first | (with_reducible assumption) | assumption)
          obtain ⟨ad493, A493_0, c493_0, e493, hx493_0, hx493_1, hx493_2, hl493_0, hi493_0⟩ := at_T39 HR0_0.out x5_2 p493 q493
          have hw493_2 := hx493_2
          have hw493_1 := hx493_1
          have hw493_0 := hx493_0
          cases e493
          have hxw493_0 := hx493_0
          replace hx493_0 := (HB.out.cell (World.block_lt_of_cell? w _ hx493_0)).trans hx493_0
          have hxw493_1 := hx493_1
          replace hx493_1 := (HB.out.cell (World.block_lt_of_cell? w _ hx493_1)).trans hx493_1
          have hxw493_2 := hx493_2
          replace hx493_2 := (HB.out.cell (World.block_lt_of_cell? w _ hx493_2)).trans hx493_2
          have HR493_0 := am hi493_0
          have HC493_0 := am hl493_0
          clear hi493_0 hl493_0
          replace p493 := eq_true p493
          replace q493 := eq_true q493
          have p494 : 0 ≤ (x5_2 : Int) := of_decide_eq_true (by first | (with_reducible assumption) | assumption)
          have q494 : x5_2 < (l1_0.length : Int) := of_decide_eq_true (by first | (with_reducible assumption) | assumption)
          obtain ⟨ad494, A494_0, c494_0, e494, hx494_0, hx494_1, hx494_2, hl494_0, hi494_0⟩ := at_T39 HR1_0.out x5_2 p494 q494
          have hw494_2 := hx494_2
          have hw494_1 := hx494_1
          have hw494_0 := hx494_0
          cases e494
          have hxw494_0 := hx494_0
          replace hx494_0 := (HB.out.cell (World.block_lt_of_cell? w _ hx494_0)).trans hx494_0
          have hxw494_1 := hx494_1
          replace hx494_1 := (HB.out.cell (World.block_lt_of_cell? w _ hx494_1)).trans hx494_1
          have hxw494_2 := hx494_2
          replace hx494_2 := (HB.out.cell (World.block_lt_of_cell? w _ hx494_2)).trans hx494_2
          have HR494_0 := am hi494_0
          have HC494_0 := am hl494_0
          clear hi494_0 hl494_0
          replace p494 := eq_true p494
          replace q494 := eq_true q494
          refine start_ (n := 12) (S := fun w' => w'.cell? ⟨gb491, 0, none⟩ = some (.slice (some ad493) l0_0.length c0_0) ∧ w'.cell? ⟨gb491, 1, none⟩ = some (.slice A0_1 l0_1.length c0_1) ∧ w'.cell? ⟨gb492, 0, none⟩ = some (.slice (some ad494) l1_0.length c1_0) ∧ w'.cell? ⟨gb492, 1, none⟩ = some (.slice A1_1 l1_1.length c1_1) ∧ w'.cell? (ad493.add ((x5_2).toNat * 3)) = some (.slice A493_0 ((rd_T39 l0_0 x5_2).f0).length c493_0) ∧ w'.cell? ⟨(ad493.add ((x5_2).toNat * 3)).block, (ad493.add ((x5_2).toNat * 3)).off + 1, none⟩ = some (.int .i64 ((rd_T39 l0_0 x5_2).f1)) ∧ w'.cell? ⟨(ad493.add ((x5_2).toNat * 3)).block, (ad493.add ((x5_2).toNat * 3)).off + 2, none⟩ = some (.int .i64 ((rd_T39 l0_0 x5_2).f2)) ∧ w'.cell? (ad494.add ((x5_2).toNat * 3)) = some (.slice A494_0 ((rd_T39 l1_0 x5_2).f0).length c494_0) ∧ w'.cell? ⟨(ad494.add ((x5_2).toNat * 3)).block, (ad494.add ((x5_2).toNat * 3)).off + 1, none⟩ = some (.int .i64 ((rd_T39 l1_0 x5_2).f1)) ∧ w'.cell? ⟨(ad494.add ((x5_2).toNat * 3)).block, (ad494.add ((x5_2).toNat * 3)).off + 2, none⟩ = some (.int .i64 ((rd_T39 l1_0 x5_2).f2))) (ds := []) b20_0 (by kernel_rfl) rfl rfl ⟨bc BK491.out 0, bc BK491.out 1, bc BK492.out 0, bc BK492.out 1, ((HB.out.cell (World.block_lt_of_cell? _ _ hw493_0)).trans hw493_0), ((HB.out.cell (World.block_lt_of_cell? _ _ hw493_1)).trans hw493_1), ((HB.out.cell (World.block_lt_of_cell? _ _ hw493_2)).trans hw493_2), ((HB.out.cell (World.block_lt_of_cell? _ _ hw494_0)).trans hw494_0), ((HB.out.cell (World.block_lt_of_cell? _ _ hw494_1)).trans hw494_1), ((HB.out.cell (World.block_lt_of_cell? _ _ hw494_2)).trans hw494_2)⟩ (fun hHeld => ?_); refine with_tabW laws_lwUndo.tab6 laws_lwUndo.bits6 (fun HT_ HW_ => ?_)
          generalize wr.drew = w25 at BK491 BK492 HB HR493_0 HR494_0 hx493_0 hx493_1 hx493_2 hx494_0 hx494_1 hx494_2 hHeld ⊢
          refine pu_ 0 (some 30) ?_ b20_1 rfl rfl HT_.out (by kernel_rfl) (fun _ _ _ h => h) (Or.inl ⟨by rfl, ?_⟩) ?_ ?_ ?_; rotate_left
          ·intro w'; go_simp; with_reducible rfl
          rotate_left
          ·simp only [Act.put, sa_, s0_, ss_, i64_w, i32_w]; rfl
          refine pu_ 2 (some 32) ?_ b20_2 rfl rfl HT_.out (by kernel_rfl) (fun _ _ _ h => h) (Or.inl ⟨by rfl, ?_⟩) ?_ ?_ ?_; rotate_left
          ·intro w'; go_simp; with_reducible rfl
          rotate_left
          ·simp only [Act.put, sa_, s0_, ss_, i64_w, i32_w]; rfl
          refine pu_ 5 (some 35) ?_ b20_3 rfl rfl HT_.out (by kernel_rfl) (fun _ _ _ h => h) (Or.inl ⟨by rfl, ?_⟩) ?_ ?_ ?_; rotate_left
          ·intro w'; go_simp; with_reducible rfl
          rotate_left
          ·simp only [Act.put, sa_, s0_, ss_, i64_w, i32_w]; rfl
          refine pu_ 7 (some 37) ?_ b20_4 rfl rfl HT_.out (by kernel_rfl) (fun _ _ _ h => h) (Or.inl ⟨by rfl, ?_⟩) ?_ ?_ ?_; rotate_left
          ·intro w'; go_simp; with_reducible rfl
          rotate_left
          ·simp only [Act.put, sa_, s0_, ss_, i64_w, i32_w]; rfl
          refine tk_ 1 (some 31) ?_ b20_5 rfl rfl HT_.out HW_.out (by kernel_rfl) (fun _ _ _ h => h) (Or.inl ⟨by rfl, ?_⟩) hHeld ?_ ?_ ?_; rotate_left
          ·rintro w' ⟨s0, s1, s2, s3, s4, s5, s6, s7, s8, s9⟩; go_simp; with_reducible rfl
          rotate_left
          ·simp only [Act.put, sa_, s0_, ss_, i64_w, i32_w]; rfl
          refine pu_ 3 (some 33) ?_ b20_6 rfl rfl HT_.out (by kernel_rfl) (fun _ _ _ h => h) (Or.inl ⟨by rfl, ?_⟩) ?_ ?_ ?_; rotate_left
          ·intro w'; go_simp; with_reducible rfl
          rotate_left
          ·simp only [Act.put, sa_, s0_, ss_, i64_w, i32_w]; rfl
          refine tk_ 4 (some 34) ?_ b20_7 rfl rfl HT_.out HW_.out (by kernel_rfl) (fun _ _ _ h => h) (Or.inl ⟨by rfl, ?_⟩) hHeld ?_ ?_ ?_; rotate_left
          ·rintro w' ⟨s0, s1, s2, s3, s4, s5, s6, s7, s8, s9⟩; go_simp; with_reducible rfl
          rotate_left
          ·simp only [Act.put, sa_, s0_, ss_, i64_w, i32_w]; rfl
          refine tk_ 6 (some 36) ?_ b20_8 rfl rfl HT_.out HW_.out (by kernel_rfl) (fun _ _ _ h => h) (Or.inl ⟨by rfl, ?_⟩) hHeld ?_ ?_ ?_; rotate_left
          ·rintro w' ⟨s0, s1, s2, s3, s4, s5, s6, s7, s8, s9⟩; go_simp; with_reducible rfl
          rotate_left
          ·simp only [Act.put, sa_, s0_, ss_, i64_w, i32_w]; rfl
          refine pu_ 8 (some 38) ?_ b20_9 rfl rfl HT_.out (by kernel_rfl) (fun _ _ _ h => h) (Or.inl ⟨by rfl, ?_⟩) ?_ ?_ ?_; rotate_left
          ·intro w'; go_simp; with_reducible rfl
          rotate_left
          ·simp only [Act.put, sa_, s0_, ss_, i64_w, i32_w]; rfl
          refine tk_ 9 (some 39) ?_ b20_10 rfl rfl HT_.out HW_.out (by kernel_rfl) (fun _ _ _ h => h) (Or.inl ⟨by rfl, ?_⟩) hHeld ?_ ?_ ?_; rotate_left
          ·rintro w' ⟨s0, s1, s2, s3, s4, s5, s6, s7, s8, s9⟩; go_simp; with_reducible rfl
          rotate_left
          ·simp only [Act.put, sa_, s0_, ss_, i64_w, i32_w]; rfl
          refine one_ (i := 10) (N := some 40) b20_11 rfl rfl (one_of HT_.out (by kernel_rfl)) (by decide) (fun K hK => ?_)
          refine goes_ Try.func19 (by kernel_rfl) rfl #[.agg #[.slice A493_0 ((rd_T39 l0_0 x5_2).f0).length c493_0, .int .i64 ((rd_T39 l0_0 x5_2).f1), .int .i64 ((rd_T39 l0_0 x5_2).f2)], .agg #[.slice A494_0 ((rd_T39 l1_0 x5_2).f0).length c494_0, .int .i64 ((rd_T39 l1_0 x5_2).f1), .int .i64 ((rd_T39 l1_0 x5_2).f2)]] (by rfl) rfl rfl (by (try simp only [List.map_toArray, List.map_cons, List.map_nil]); first | done | rfl | (simp only [List.length_drop, List.length_take]; rfl)) ?_
          with_reducible refine (laws_lwBuf.calls k2 _ _ ((rd_T39 l0_0 x5_2).f0) ((rd_T39 l0_0 x5_2).f1) ((rd_T39 l0_0 x5_2).f2) _ _ ((rd_T39 l1_0 x5_2).f0) ((rd_T39 l1_0 x5_2).f1) ((rd_T39 l1_0 x5_2).f2) false _ ?side1 ?side2 ?side3 ?side4 A17.out).mono ?_
          (case side1 => repeat (first | exact (Kd.C_below HR493_0.out HB.out) | (with_reducible refine Kd.C_alloc ?_ _) | (with_reducible refine Kd.C_drewN ?_ _) | (with_reducible refine Kd.C_drew ?_)))
          (case side2 => exact HC493_0.out)
          (case side3 => repeat (first | exact (Kd.C_below HR494_0.out HB.out) | (with_reducible refine Kd.C_alloc ?_ _) | (with_reducible refine Kd.C_drewN ?_ _) | (with_reducible refine Kd.C_drew ?_)))
          (case side4 => exact HC494_0.out)
          rintro e w26 ⟨rfl, hb⟩
          refine ⟨_, rfl, ?_⟩
          replace BK491 := am (blk_below (pk BK491.out) hb)
          replace BK492 := am (blk_below (pk BK492.out) hb)
          replace HB := am (below_step (bl HB.out) hb)
          (try clear hb)
          (try clear hb2)
          (try clear hk)
          (try clear hi)
          refine hK.out _ _ ⟨bc BK491.out 0, bc BK491.out 1, bc BK492.out 0, bc BK492.out 1, ((HB.out.cell (World.block_lt_of_cell? _ _ hw493_0)).trans hw493_0), ((HB.out.cell (World.block_lt_of_cell? _ _ hw493_1)).trans hw493_1), ((HB.out.cell (World.block_lt_of_cell? _ _ hw493_2)).trans hw493_2), ((HB.out.cell (World.block_lt_of_cell? _ _ hw494_0)).trans hw494_0), ((HB.out.cell (World.block_lt_of_cell? _ _ hw494_1)).trans hw494_1), ((HB.out.cell (World.block_lt_of_cell? _ _ hw494_2)).trans hw494_2)⟩ (fun hHeld => ?_)
          clear hK K
          refine norm_ (a' := ?_) ?_ ?_
          rotate_left
          ·show Act.put _ (some 40) _ = _
           simp only [Act.put, sa_, s0_, ss_, i64_w, i32_w]
           rfl
          refine pu_ 11 (some 41) ?_ b20_12 rfl rfl HT_.out (by kernel_rfl) (fun _ _ _ h => h) (Or.inl ⟨by rfl, ?_⟩) ?_ ?_ ?_; rotate_left
          ·intro w'; go_simp; with_reducible rfl
          rotate_left
          ·simp only [Act.put, sa_, s0_, ss_, i64_w, i32_w]; rfl
          refine done_ (done_of HT_.out (by kernel_rfl)) ?_
          try go_wp2
          go_ret
          exact ⟨by first | rfl | (simp [errW_none, errW_some] <;> rfl) | (simp [*, errW_none, errW_some] <;> rfl), by repeat (first | (with_reducible first | exact HB.out | apply below_alloc | apply pw_below_drewN | apply below_drew1 | refine below_set ?_ GE491.out | refine below_set ?_ GE492.out) | exact HB.out)⟩
        ·rw [if_neg c16] at H
         exact absurd H (by simp)
       ·rw [if_neg c15] at H
        exact absurd H (by simp)
      ·rw [if_neg c14] at H
       have c14b0 : decide (x5_2 < (l0_0.length : Int)) = false := decide_eq_false c14
       clear c14
       have H' := Aside0.mk H
       clear H
       have hnb27 := NB491_492.out
       have hnc27 := NB492_491.out
       have hcz28_0 : wr.cell? ⟨gb491, 0, none⟩ = some (.slice A0_0 l0_0.length c0_0) := bc BK491.out 0
       have hcz28_1 : wr.cell? ⟨gb491, 1, none⟩ = some (.slice A0_1 l0_1.length c0_1) := bc BK491.out 1
       go_wp2
       go_loopg [6] k2 (fun kq v6 w' => ∃ (x6_3 : Int), v6 = .int .i64 x6_3 ∧ Aside0 (laws_lwUndo.l1 kq x6_3 l0_0 l0_1 l1_0 l1_1 = some r) ∧ Aside0 (kq ≤ k2) ∧ Aside0 (w'.heap[gb491]? = some (.cells #[(.slice A0_0 l0_0.length c0_0), (.slice A0_1 l0_1.length c0_1)] 36 (0, 0))) ∧ Aside0 (w'.heap[gb492]? = some (.cells #[(.slice A1_0 l1_0.length c1_0), (.slice A1_1 l1_1.length c1_1)] 36 (0, 0))) ∧ Aside0 (Below w.heap.size w w'))
       case atStart => exact ⟨(0), (by first | rfl | (simp; done) | (simp [*]; done)), H', ⟨Nat.le_refl _⟩, ⟨pk BK491.out⟩, ⟨pk BK492.out⟩, ⟨by repeat (first | (with_reducible first | exact HB.out | apply below_alloc | apply pw_below_drewN | apply below_drew1 | refine below_set ?_ GE491.out | refine below_set ?_ GE492.out) | exact HB.out)⟩⟩
       case round =>
        clear H'
        try clear c1
        try clear c2
        try clear p2
        try clear c4
        try clear p4
        try clear q4
        try clear hx4
        try clear c6
        try clear c6b0
        try clear c6b1
        try clear c6b2
        try clear p6
        try clear c7
        try clear c10
        try clear c13
        try clear c14
        try clear c14b0
        try clear c15
        try clear c15b0
        try clear c16
        try clear c16b0
        try clear c18
        try clear c19
        try clear c20
        try clear c23
        try clear c27
        try clear hcz11_0
        try clear hcz11_1
        try clear hcz12_0
        try clear hcz12_1
        try clear hcz20_0
        try clear hcz20_1
        try clear hcz24_0
        try clear hcz24_1
        try clear hcz28_0
        try clear hcz28_1
        try clear hcz8_0
        try clear hcz8_1
        try clear hcz9_0
        try clear hcz9_1
        try clear hx493_0
        try clear hx493_1
        try clear hx493_2
        try clear hx494_0
        try clear hx494_1
        try clear hx494_2
        try clear p2
        try clear p493
        try clear p494
        try clear q493
        try clear q494
        obtain ⟨x6_3, rfl, HA, HK3, BK491, BK492, HB⟩ := hrel
        cases gk with
        | zero => exact absurd HA.out (by simp [laws_lwUndo.l1])
        | succ k3 =>
         have H := HA.out
         clear HA
         simp only [laws_lwUndo.l1] at H
         by_cases c29 : x6_3 < (l0_1.length : Int)
         ·rw [if_pos c29] at H
          have c29b0 : decide (x6_3 < (l0_1.length : Int)) = true := decide_eq_true c29
          clear c29
          by_cases c30 : 0 ≤ x6_3
          ·rw [if_pos c30] at H
           have c30b0 : decide (0 ≤ x6_3) = true := decide_eq_true c30
           clear c30
           by_cases c31 : x6_3 < (l1_1.length : Int)
           ·rw [if_pos c31] at H
            have c31b0 : decide (x6_3 < (l1_1.length : Int)) = true := decide_eq_true c31
            clear c31
            replace H := Option.bind_eq_some_iff.mp H
            obtain ⟨t498, A320, H⟩ := H
            replace H : (if t498 = true then (laws_lwUndo.l1 k3 (wrap64 (x6_3 + 1)) l0_0 l0_1 l1_0 l1_1) else (some false)) = some r := H
            have A32 := Aside0.mk A320
            clear A320
            by_cases c33 : t498 = true
            ·subst c33
             have H1 : (laws_lwUndo.l1 k3 (wrap64 (x6_3 + 1)) l0_0 l0_1 l1_0 l1_1) = some r := by rw [if_pos rfl] at H; exact H
             clear H
             have H := H1
             clear H1
             have H' := Aside0.mk H
             clear H
             have hnb34 := NB491_492.out
             have hnc34 := NB492_491.out
             have hcz35_0 : wr.cell? ⟨gb491, 0, none⟩ = some (.slice A0_0 l0_0.length c0_0) := bc BK491.out 0
             have hcz35_1 : wr.cell? ⟨gb491, 1, none⟩ = some (.slice A0_1 l0_1.length c0_1) := bc BK491.out 1
             try go_wp2
             replace BK491 := am (blk_drew BK491.out)
             replace BK492 := am (blk_drew BK492.out)
             replace HB := am (below_drew1 HB.out)
             have p496 : 0 ≤ (x6_3 : Int) := of_decide_eq_true (by first | (with_reducible assumption) | assumption)
             have q496 : x6_3 < (l0_1.length : Int) := of_decide_eq_true (by first | (with_reducible assumption) | assumption)
             obtain ⟨ad496, A496_0, c496_0, e496, hx496_0, hx496_1, hx496_2, hl496_0, hi496_0⟩ := at_T39 HR0_1.out x6_3 p496 q496
             have hw496_2 := hx496_2
             have hw496_1 := hx496_1
             have hw496_0 := hx496_0
             cases e496
             have hxw496_0 := hx496_0
             replace hx496_0 := (HB.out.cell (World.block_lt_of_cell? w _ hx496_0)).trans hx496_0
             have hxw496_1 := hx496_1
             replace hx496_1 := (HB.out.cell (World.block_lt_of_cell? w _ hx496_1)).trans hx496_1
             have hxw496_2 := hx496_2
             replace hx496_2 := (HB.out.cell (World.block_lt_of_cell? w _ hx496_2)).trans hx496_2
             have HR496_0 := am hi496_0
             have HC496_0 := am hl496_0
             clear hi496_0 hl496_0
             replace p496 := eq_true p496
             replace q496 := eq_true q496
             have p497 : 0 ≤ (x6_3 : Int) := of_decide_eq_true (by first | (with_reducible assumption) | assumption)
             have q497 : x6_3 < (l1_1.length : Int) := of_decide_eq_true (by first | (with_reducible assumption) | assumption)
             obtain ⟨ad497, A497_0, c497_0, e497, hx497_0, hx497_1, hx497_2, hl497_0, hi497_0⟩ := at_T39 HR1_1.out x6_3 p497 q497
             have hw497_2 := hx497_2
             have hw497_1 := hx497_1
             have hw497_0 := hx497_0
             cases e497
             have hxw497_0 := hx497_0
             replace hx497_0 := (HB.out.cell (World.block_lt_of_cell? w _ hx497_0)).trans hx497_0
             have hxw497_1 := hx497_1
             replace hx497_1 := (HB.out.cell (World.block_lt_of_cell? w _ hx497_1)).trans hx497_1
             have hxw497_2 := hx497_2
             replace hx497_2 := (HB.out.cell (World.block_lt_of_cell? w _ hx497_2)).trans hx497_2
             have HR497_0 := am hi497_0
             have HC497_0 := am hl497_0
             clear hi497_0 hl497_0
             replace p497 := eq_true p497
             replace q497 := eq_true q497
             refine start_ (n := 12) (S := fun w' => w'.cell? ⟨gb491, 0, none⟩ = some (.slice A0_0 l0_0.length c0_0) ∧ w'.cell? ⟨gb491, 1, none⟩ = some (.slice (some ad496) l0_1.length c0_1) ∧ w'.cell? ⟨gb492, 0, none⟩ = some (.slice A1_0 l1_0.length c1_0) ∧ w'.cell? ⟨gb492, 1, none⟩ = some (.slice (some ad497) l1_1.length c1_1) ∧ w'.cell? (ad496.add ((x6_3).toNat * 3)) = some (.slice A496_0 ((rd_T39 l0_1 x6_3).f0).length c496_0) ∧ w'.cell? ⟨(ad496.add ((x6_3).toNat * 3)).block, (ad496.add ((x6_3).toNat * 3)).off + 1, none⟩ = some (.int .i64 ((rd_T39 l0_1 x6_3).f1)) ∧ w'.cell? ⟨(ad496.add ((x6_3).toNat * 3)).block, (ad496.add ((x6_3).toNat * 3)).off + 2, none⟩ = some (.int .i64 ((rd_T39 l0_1 x6_3).f2)) ∧ w'.cell? (ad497.add ((x6_3).toNat * 3)) = some (.slice A497_0 ((rd_T39 l1_1 x6_3).f0).length c497_0) ∧ w'.cell? ⟨(ad497.add ((x6_3).toNat * 3)).block, (ad497.add ((x6_3).toNat * 3)).off + 1, none⟩ = some (.int .i64 ((rd_T39 l1_1 x6_3).f1)) ∧ w'.cell? ⟨(ad497.add ((x6_3).toNat * 3)).block, (ad497.add ((x6_3).toNat * 3)).off + 2, none⟩ = some (.int .i64 ((rd_T39 l1_1 x6_3).f2))) (ds := []) b20_0 (by kernel_rfl) rfl rfl ⟨bc BK491.out 0, bc BK491.out 1, bc BK492.out 0, bc BK492.out 1, ((HB.out.cell (World.block_lt_of_cell? _ _ hw496_0)).trans hw496_0), ((HB.out.cell (World.block_lt_of_cell? _ _ hw496_1)).trans hw496_1), ((HB.out.cell (World.block_lt_of_cell? _ _ hw496_2)).trans hw496_2), ((HB.out.cell (World.block_lt_of_cell? _ _ hw497_0)).trans hw497_0), ((HB.out.cell (World.block_lt_of_cell? _ _ hw497_1)).trans hw497_1), ((HB.out.cell (World.block_lt_of_cell? _ _ hw497_2)).trans hw497_2)⟩ (fun hHeld => ?_); refine with_tabW laws_lwUndo.tab11 laws_lwUndo.bits11 (fun HT_ HW_ => ?_)
             generalize wr.drew = w36 at BK491 BK492 HB HR496_0 HR497_0 hx496_0 hx496_1 hx496_2 hx497_0 hx497_1 hx497_2 hHeld ⊢
             refine pu_ 0 (some 49) ?_ b20_1 rfl rfl HT_.out (by kernel_rfl) (fun _ _ _ h => h) (Or.inl ⟨by rfl, ?_⟩) ?_ ?_ ?_; rotate_left
             ·intro w'; go_simp; with_reducible rfl
             rotate_left
             ·simp only [Act.put, sa_, s0_, ss_, i64_w, i32_w]; rfl
             refine pu_ 2 (some 51) ?_ b20_2 rfl rfl HT_.out (by kernel_rfl) (fun _ _ _ h => h) (Or.inl ⟨by rfl, ?_⟩) ?_ ?_ ?_; rotate_left
             ·intro w'; go_simp; with_reducible rfl
             rotate_left
             ·simp only [Act.put, sa_, s0_, ss_, i64_w, i32_w]; rfl
             refine pu_ 5 (some 54) ?_ b20_3 rfl rfl HT_.out (by kernel_rfl) (fun _ _ _ h => h) (Or.inl ⟨by rfl, ?_⟩) ?_ ?_ ?_; rotate_left
             ·intro w'; go_simp; with_reducible rfl
             rotate_left
             ·simp only [Act.put, sa_, s0_, ss_, i64_w, i32_w]; rfl
             refine pu_ 7 (some 56) ?_ b20_4 rfl rfl HT_.out (by kernel_rfl) (fun _ _ _ h => h) (Or.inl ⟨by rfl, ?_⟩) ?_ ?_ ?_; rotate_left
             ·intro w'; go_simp; with_reducible rfl
             rotate_left
             ·simp only [Act.put, sa_, s0_, ss_, i64_w, i32_w]; rfl
             refine tk_ 1 (some 50) ?_ b20_5 rfl rfl HT_.out HW_.out (by kernel_rfl) (fun _ _ _ h => h) (Or.inl ⟨by rfl, ?_⟩) hHeld ?_ ?_ ?_; rotate_left
             ·rintro w' ⟨s0, s1, s2, s3, s4, s5, s6, s7, s8, s9⟩; go_simp; with_reducible rfl
             rotate_left
             ·simp only [Act.put, sa_, s0_, ss_, i64_w, i32_w]; rfl
             refine pu_ 3 (some 52) ?_ b20_6 rfl rfl HT_.out (by kernel_rfl) (fun _ _ _ h => h) (Or.inl ⟨by rfl, ?_⟩) ?_ ?_ ?_; rotate_left
             ·intro w'; go_simp; with_reducible rfl
             rotate_left
             ·simp only [Act.put, sa_, s0_, ss_, i64_w, i32_w]; rfl
             refine tk_ 4 (some 53) ?_ b20_7 rfl rfl HT_.out HW_.out (by kernel_rfl) (fun _ _ _ h => h) (Or.inl ⟨by rfl, ?_⟩) hHeld ?_ ?_ ?_; rotate_left
             ·rintro w' ⟨s0, s1, s2, s3, s4, s5, s6, s7, s8, s9⟩; go_simp; with_reducible rfl
             rotate_left
             ·simp only [Act.put, sa_, s0_, ss_, i64_w, i32_w]; rfl
             refine tk_ 6 (some 55) ?_ b20_8 rfl rfl HT_.out HW_.out (by kernel_rfl) (fun _ _ _ h => h) (Or.inl ⟨by rfl, ?_⟩) hHeld ?_ ?_ ?_; rotate_left
             ·rintro w' ⟨s0, s1, s2, s3, s4, s5, s6, s7, s8, s9⟩; go_simp; with_reducible rfl
             rotate_left
             ·simp only [Act.put, sa_, s0_, ss_, i64_w, i32_w]; rfl
             refine pu_ 8 (some 57) ?_ b20_9 rfl rfl HT_.out (by kernel_rfl) (fun _ _ _ h => h) (Or.inl ⟨by rfl, ?_⟩) ?_ ?_ ?_; rotate_left
             ·intro w'; go_simp; with_reducible rfl
             rotate_left
             ·simp only [Act.put, sa_, s0_, ss_, i64_w, i32_w]; rfl
             refine tk_ 9 (some 58) ?_ b20_10 rfl rfl HT_.out HW_.out (by kernel_rfl) (fun _ _ _ h => h) (Or.inl ⟨by rfl, ?_⟩) hHeld ?_ ?_ ?_; rotate_left
             ·rintro w' ⟨s0, s1, s2, s3, s4, s5, s6, s7, s8, s9⟩; go_simp; with_reducible rfl
             rotate_left
             ·simp only [Act.put, sa_, s0_, ss_, i64_w, i32_w]; rfl
             refine one_ (i := 10) (N := some 59) b20_11 rfl rfl (one_of HT_.out (by kernel_rfl)) (by decide) (fun K hK => ?_)
             refine goes_ Try.func19 (by kernel_rfl) rfl #[.agg #[.slice A496_0 ((rd_T39 l0_1 x6_3).f0).length c496_0, .int .i64 ((rd_T39 l0_1 x6_3).f1), .int .i64 ((rd_T39 l0_1 x6_3).f2)], .agg #[.slice A497_0 ((rd_T39 l1_1 x6_3).f0).length c497_0, .int .i64 ((rd_T39 l1_1 x6_3).f1), .int .i64 ((rd_T39 l1_1 x6_3).f2)]] (by rfl) rfl rfl (by (try simp only [List.map_toArray, List.map_cons, List.map_nil]); first | done | rfl | (simp only [List.length_drop, List.length_take]; rfl)) ?_
             with_reducible refine (laws_lwBuf.calls k3 _ _ ((rd_T39 l0_1 x6_3).f0) ((rd_T39 l0_1 x6_3).f1) ((rd_T39 l0_1 x6_3).f2) _ _ ((rd_T39 l1_1 x6_3).f0) ((rd_T39 l1_1 x6_3).f1) ((rd_T39 l1_1 x6_3).f2) true _ ?side1 ?side2 ?side3 ?side4 A32.out).mono ?_
             (case side1 => repeat (first | exact (Kd.C_below HR496_0.out HB.out) | (with_reducible refine Kd.C_alloc ?_ _) | (with_reducible refine Kd.C_drewN ?_ _) | (with_reducible refine Kd.C_drew ?_)))
             (case side2 => exact HC496_0.out)
             (case side3 => repeat (first | exact (Kd.C_below HR497_0.out HB.out) | (with_reducible refine Kd.C_alloc ?_ _) | (with_reducible refine Kd.C_drewN ?_ _) | (with_reducible refine Kd.C_drew ?_)))
             (case side4 => exact HC497_0.out)
             rintro e w37 ⟨rfl, hb⟩
             refine ⟨_, rfl, ?_⟩
             replace BK491 := am (blk_below (pk BK491.out) hb)
             replace BK492 := am (blk_below (pk BK492.out) hb)
             replace HB := am (below_step (bl HB.out) hb)
             (try clear hb)
             (try clear hb2)
             (try clear hk)
             (try clear hi)
             refine hK.out _ _ ⟨bc BK491.out 0, bc BK491.out 1, bc BK492.out 0, bc BK492.out 1, ((HB.out.cell (World.block_lt_of_cell? _ _ hw496_0)).trans hw496_0), ((HB.out.cell (World.block_lt_of_cell? _ _ hw496_1)).trans hw496_1), ((HB.out.cell (World.block_lt_of_cell? _ _ hw496_2)).trans hw496_2), ((HB.out.cell (World.block_lt_of_cell? _ _ hw497_0)).trans hw497_0), ((HB.out.cell (World.block_lt_of_cell? _ _ hw497_1)).trans hw497_1), ((HB.out.cell (World.block_lt_of_cell? _ _ hw497_2)).trans hw497_2)⟩ (fun hHeld => ?_)
             clear hK K
             refine norm_ (a' := ?_) ?_ ?_
             rotate_left
             ·show Act.put _ (some 59) _ = _
              simp only [Act.put, sa_, s0_, ss_, i64_w, i32_w]
              rfl
             refine pu_ 11 (some 60) ?_ b20_12 rfl rfl HT_.out (by kernel_rfl) (fun _ _ _ h => h) (Or.inl ⟨by rfl, ?_⟩) ?_ ?_ ?_; rotate_left
             ·intro w'; go_simp; with_reducible rfl
             rotate_left
             ·simp only [Act.put, sa_, s0_, ss_, i64_w, i32_w]; rfl
             refine done_ (done_of HT_.out (by kernel_rfl)) ?_
             try go_wp2
             go_roundg k3
             case measure => have := HJ2.out; have := HK2.out; have := HK3.out; omega
             case rel => exact ⟨(wrap64 (x6_3 + 1)), (by first | rfl | (simp; done) | (simp [*]; done)), H', ⟨by have := HJ2.out; have := HK2.out; have := HK3.out; omega⟩, ⟨pk BK491.out⟩, ⟨pk BK492.out⟩, ⟨by repeat (first | (with_reducible first | exact HB.out | apply below_alloc | apply pw_below_drewN | apply below_drew1 | refine below_set ?_ GE491.out | refine below_set ?_ GE492.out) | exact HB.out)⟩⟩
            ·replace c33 := Bool.eq_false_iff.mpr c33
             subst c33
             have H1 : (some false) = some r := by rw [if_neg (show ¬ (false = true) by decide)] at H; exact H
             clear H
             have H := H1
             clear H1
             obtain rfl := Option.some.inj H
             have hnb38 := NB491_492.out
             have hnc38 := NB492_491.out
             have hcz39_0 : wr.cell? ⟨gb491, 0, none⟩ = some (.slice A0_0 l0_0.length c0_0) := bc BK491.out 0
             have hcz39_1 : wr.cell? ⟨gb491, 1, none⟩ = some (.slice A0_1 l0_1.length c0_1) := bc BK491.out 1
             try go_wp2
             replace BK491 := am (blk_drew BK491.out)
             replace BK492 := am (blk_drew BK492.out)
             replace HB := am (below_drew1 HB.out)
             have p496 : 0 ≤ (x6_3 : Int) := of_decide_eq_true (by first | (with_reducible assumption) | assumption)
             have q496 : x6_3 < (l0_1.length : Int) := of_decide_eq_true (by first | (with_reducible assumption) | assumption)
             obtain ⟨ad496, A496_0, c496_0, e496, hx496_0, hx496_1, hx496_2, hl496_0, hi496_0⟩ := at_T39 HR0_1.out x6_3 p496 q496
             have hw496_2 := hx496_2
             have hw496_1 := hx496_1
             have hw496_0 := hx496_0
             cases e496
             have hxw496_0 := hx496_0
             replace hx496_0 := (HB.out.cell (World.block_lt_of_cell? w _ hx496_0)).trans hx496_0
             have hxw496_1 := hx496_1
             replace hx496_1 := (HB.out.cell (World.block_lt_of_cell? w _ hx496_1)).trans hx496_1
             have hxw496_2 := hx496_2
             replace hx496_2 := (HB.out.cell (World.block_lt_of_cell? w _ hx496_2)).trans hx496_2
             have HR496_0 := am hi496_0
             have HC496_0 := am hl496_0
             clear hi496_0 hl496_0
             replace p496 := eq_true p496
             replace q496 := eq_true q496
             have p497 : 0 ≤ (x6_3 : Int) := of_decide_eq_true (by first | (with_reducible assumption) | assumption)
             have q497 : x6_3 < (l1_1.length : Int) := of_decide_eq_true (by first | (with_reducible assumption) | assumption)
             obtain ⟨ad497, A497_0, c497_0, e497, hx497_0, hx497_1, hx497_2, hl497_0, hi497_0⟩ := at_T39 HR1_1.out x6_3 p497 q497
             have hw497_2 := hx497_2
             have hw497_1 := hx497_1
             have hw497_0 := hx497_0
             cases e497
             have hxw497_0 := hx497_0
             replace hx497_0 := (HB.out.cell (World.block_lt_of_cell? w _ hx497_0)).trans hx497_0
             have hxw497_1 := hx497_1
             replace hx497_1 := (HB.out.cell (World.block_lt_of_cell? w _ hx497_1)).trans hx497_1
             have hxw497_2 := hx497_2
             replace hx497_2 := (HB.out.cell (World.block_lt_of_cell? w _ hx497_2)).trans hx497_2
             have HR497_0 := am hi497_0
             have HC497_0 := am hl497_0
             clear hi497_0 hl497_0
             replace p497 := eq_true p497
             replace q497 := eq_true q497
             refine start_ (n := 12) (S := fun w' => w'.cell? ⟨gb491, 0, none⟩ = some (.slice A0_0 l0_0.length c0_0) ∧ w'.cell? ⟨gb491, 1, none⟩ = some (.slice (some ad496) l0_1.length c0_1) ∧ w'.cell? ⟨gb492, 0, none⟩ = some (.slice A1_0 l1_0.length c1_0) ∧ w'.cell? ⟨gb492, 1, none⟩ = some (.slice (some ad497) l1_1.length c1_1) ∧ w'.cell? (ad496.add ((x6_3).toNat * 3)) = some (.slice A496_0 ((rd_T39 l0_1 x6_3).f0).length c496_0) ∧ w'.cell? ⟨(ad496.add ((x6_3).toNat * 3)).block, (ad496.add ((x6_3).toNat * 3)).off + 1, none⟩ = some (.int .i64 ((rd_T39 l0_1 x6_3).f1)) ∧ w'.cell? ⟨(ad496.add ((x6_3).toNat * 3)).block, (ad496.add ((x6_3).toNat * 3)).off + 2, none⟩ = some (.int .i64 ((rd_T39 l0_1 x6_3).f2)) ∧ w'.cell? (ad497.add ((x6_3).toNat * 3)) = some (.slice A497_0 ((rd_T39 l1_1 x6_3).f0).length c497_0) ∧ w'.cell? ⟨(ad497.add ((x6_3).toNat * 3)).block, (ad497.add ((x6_3).toNat * 3)).off + 1, none⟩ = some (.int .i64 ((rd_T39 l1_1 x6_3).f1)) ∧ w'.cell? ⟨(ad497.add ((x6_3).toNat * 3)).block, (ad497.add ((x6_3).toNat * 3)).off + 2, none⟩ = some (.int .i64 ((rd_T39 l1_1 x6_3).f2))) (ds := []) b20_0 (by kernel_rfl) rfl rfl ⟨bc BK491.out 0, bc BK491.out 1, bc BK492.out 0, bc BK492.out 1, ((HB.out.cell (World.block_lt_of_cell? _ _ hw496_0)).trans hw496_0), ((HB.out.cell (World.block_lt_of_cell? _ _ hw496_1)).trans hw496_1), ((HB.out.cell (World.block_lt_of_cell? _ _ hw496_2)).trans hw496_2), ((HB.out.cell (World.block_lt_of_cell? _ _ hw497_0)).trans hw497_0), ((HB.out.cell (World.block_lt_of_cell? _ _ hw497_1)).trans hw497_1), ((HB.out.cell (World.block_lt_of_cell? _ _ hw497_2)).trans hw497_2)⟩ (fun hHeld => ?_); refine with_tabW laws_lwUndo.tab11 laws_lwUndo.bits11 (fun HT_ HW_ => ?_)
             generalize wr.drew = w40 at BK491 BK492 HB HR496_0 HR497_0 hx496_0 hx496_1 hx496_2 hx497_0 hx497_1 hx497_2 hHeld ⊢
             refine pu_ 0 (some 49) ?_ b20_1 rfl rfl HT_.out (by kernel_rfl) (fun _ _ _ h => h) (Or.inl ⟨by rfl, ?_⟩) ?_ ?_ ?_; rotate_left
             ·intro w'; go_simp; with_reducible rfl
             rotate_left
             ·simp only [Act.put, sa_, s0_, ss_, i64_w, i32_w]; rfl
             refine pu_ 2 (some 51) ?_ b20_2 rfl rfl HT_.out (by kernel_rfl) (fun _ _ _ h => h) (Or.inl ⟨by rfl, ?_⟩) ?_ ?_ ?_; rotate_left
             ·intro w'; go_simp; with_reducible rfl
             rotate_left
             ·simp only [Act.put, sa_, s0_, ss_, i64_w, i32_w]; rfl
             refine pu_ 5 (some 54) ?_ b20_3 rfl rfl HT_.out (by kernel_rfl) (fun _ _ _ h => h) (Or.inl ⟨by rfl, ?_⟩) ?_ ?_ ?_; rotate_left
             ·intro w'; go_simp; with_reducible rfl
             rotate_left
             ·simp only [Act.put, sa_, s0_, ss_, i64_w, i32_w]; rfl
             refine pu_ 7 (some 56) ?_ b20_4 rfl rfl HT_.out (by kernel_rfl) (fun _ _ _ h => h) (Or.inl ⟨by rfl, ?_⟩) ?_ ?_ ?_; rotate_left
             ·intro w'; go_simp; with_reducible rfl
             rotate_left
             ·simp only [Act.put, sa_, s0_, ss_, i64_w, i32_w]; rfl
             refine tk_ 1 (some 50) ?_ b20_5 rfl rfl HT_.out HW_.out (by kernel_rfl) (fun _ _ _ h => h) (Or.inl ⟨by rfl, ?_⟩) hHeld ?_ ?_ ?_; rotate_left
             ·rintro w' ⟨s0, s1, s2, s3, s4, s5, s6, s7, s8, s9⟩; go_simp; with_reducible rfl
             rotate_left
             ·simp only [Act.put, sa_, s0_, ss_, i64_w, i32_w]; rfl
             refine pu_ 3 (some 52) ?_ b20_6 rfl rfl HT_.out (by kernel_rfl) (fun _ _ _ h => h) (Or.inl ⟨by rfl, ?_⟩) ?_ ?_ ?_; rotate_left
             ·intro w'; go_simp; with_reducible rfl
             rotate_left
             ·simp only [Act.put, sa_, s0_, ss_, i64_w, i32_w]; rfl
             refine tk_ 4 (some 53) ?_ b20_7 rfl rfl HT_.out HW_.out (by kernel_rfl) (fun _ _ _ h => h) (Or.inl ⟨by rfl, ?_⟩) hHeld ?_ ?_ ?_; rotate_left
             ·rintro w' ⟨s0, s1, s2, s3, s4, s5, s6, s7, s8, s9⟩; go_simp; with_reducible rfl
             rotate_left
             ·simp only [Act.put, sa_, s0_, ss_, i64_w, i32_w]; rfl
             refine tk_ 6 (some 55) ?_ b20_8 rfl rfl HT_.out HW_.out (by kernel_rfl) (fun _ _ _ h => h) (Or.inl ⟨by rfl, ?_⟩) hHeld ?_ ?_ ?_; rotate_left
             ·rintro w' ⟨s0, s1, s2, s3, s4, s5, s6, s7, s8, s9⟩; go_simp; with_reducible rfl
             rotate_left
             ·simp only [Act.put, sa_, s0_, ss_, i64_w, i32_w]; rfl
             refine pu_ 8 (some 57) ?_ b20_9 rfl rfl HT_.out (by kernel_rfl) (fun _ _ _ h => h) (Or.inl ⟨by rfl, ?_⟩) ?_ ?_ ?_; rotate_left
             ·intro w'; go_simp; with_reducible rfl
             rotate_left
             ·simp only [Act.put, sa_, s0_, ss_, i64_w, i32_w]; rfl
             refine tk_ 9 (some 58) ?_ b20_10 rfl rfl HT_.out HW_.out (by kernel_rfl) (fun _ _ _ h => h) (Or.inl ⟨by rfl, ?_⟩) hHeld ?_ ?_ ?_; rotate_left
             ·rintro w' ⟨s0, s1, s2, s3, s4, s5, s6, s7, s8, s9⟩; go_simp; with_reducible rfl
             rotate_left
             ·simp only [Act.put, sa_, s0_, ss_, i64_w, i32_w]; rfl
             refine one_ (i := 10) (N := some 59) b20_11 rfl rfl (one_of HT_.out (by kernel_rfl)) (by decide) (fun K hK => ?_)
             refine goes_ Try.func19 (by kernel_rfl) rfl #[.agg #[.slice A496_0 ((rd_T39 l0_1 x6_3).f0).length c496_0, .int .i64 ((rd_T39 l0_1 x6_3).f1), .int .i64 ((rd_T39 l0_1 x6_3).f2)], .agg #[.slice A497_0 ((rd_T39 l1_1 x6_3).f0).length c497_0, .int .i64 ((rd_T39 l1_1 x6_3).f1), .int .i64 ((rd_T39 l1_1 x6_3).f2)]] (by rfl) rfl rfl (by (try simp only [List.map_toArray, List.map_cons, List.map_nil]); first | done | rfl | (simp only [List.length_drop, List.length_take]; rfl)) ?_
             with_reducible refine (laws_lwBuf.calls k3 _ _ ((rd_T39 l0_1 x6_3).f0) ((rd_T39 l0_1 x6_3).f1) ((rd_T39 l0_1 x6_3).f2) _ _ ((rd_T39 l1_1 x6_3).f0) ((rd_T39 l1_1 x6_3).f1) ((rd_T39 l1_1 x6_3).f2) false _ ?side1 ?side2 ?side3 ?side4 A32.out).mono ?_
             (case side1 => repeat (first | exact (Kd.C_below HR496_0.out HB.out) | (with_reducible refine Kd.C_alloc ?_ _) | (with_reducible refine Kd.C_drewN ?_ _) | (with_reducible refine Kd.C_drew ?_)))
             (case side2 => exact HC496_0.out)
             (case side3 => repeat (first | exact (Kd.C_below HR497_0.out HB.out) | (with_reducible refine Kd.C_alloc ?_ _) | (with_reducible refine Kd.C_drewN ?_ _) | (with_reducible refine Kd.C_drew ?_)))
             (case side4 => exact HC497_0.out)
             rintro e w41 ⟨rfl, hb⟩
             refine ⟨_, rfl, ?_⟩
             replace BK491 := am (blk_below (pk BK491.out) hb)
             replace BK492 := am (blk_below (pk BK492.out) hb)
             replace HB := am (below_step (bl HB.out) hb)
             (try clear hb)
             (try clear hb2)
             (try clear hk)
             (try clear hi)
             refine hK.out _ _ ⟨bc BK491.out 0, bc BK491.out 1, bc BK492.out 0, bc BK492.out 1, ((HB.out.cell (World.block_lt_of_cell? _ _ hw496_0)).trans hw496_0), ((HB.out.cell (World.block_lt_of_cell? _ _ hw496_1)).trans hw496_1), ((HB.out.cell (World.block_lt_of_cell? _ _ hw496_2)).trans hw496_2), ((HB.out.cell (World.block_lt_of_cell? _ _ hw497_0)).trans hw497_0), ((HB.out.cell (World.block_lt_of_cell? _ _ hw497_1)).trans hw497_1), ((HB.out.cell (World.block_lt_of_cell? _ _ hw497_2)).trans hw497_2)⟩ (fun hHeld => ?_)
             clear hK K
             refine norm_ (a' := ?_) ?_ ?_
             rotate_left
             ·show Act.put _ (some 59) _ = _
              simp only [Act.put, sa_, s0_, ss_, i64_w, i32_w]
              rfl
             refine pu_ 11 (some 60) ?_ b20_12 rfl rfl HT_.out (by kernel_rfl) (fun _ _ _ h => h) (Or.inl ⟨by rfl, ?_⟩) ?_ ?_ ?_; rotate_left
             ·intro w'; go_simp; with_reducible rfl
             rotate_left
             ·simp only [Act.put, sa_, s0_, ss_, i64_w, i32_w]; rfl
             refine done_ (done_of HT_.out (by kernel_rfl)) ?_
             try go_wp2
             go_ret
             exact ⟨by first | rfl | (simp [errW_none, errW_some] <;> rfl) | (simp [*, errW_none, errW_some] <;> rfl), by repeat (first | (with_reducible first | exact HB.out | apply below_alloc | apply pw_below_drewN | apply below_drew1 | refine below_set ?_ GE491.out | refine below_set ?_ GE492.out) | exact HB.out)⟩
           ·rw [if_neg c31] at H
            exact absurd H (by simp)
          ·rw [if_neg c30] at H
           exact absurd H (by simp)
         ·rw [if_neg c29] at H
          have c29b0 : decide (x6_3 < (l0_1.length : Int)) = false := decide_eq_false c29
          clear c29
          obtain rfl := Option.some.inj H
          have hnb42 := NB491_492.out
          have hnc42 := NB492_491.out
          have hcz43_0 : wr.cell? ⟨gb491, 0, none⟩ = some (.slice A0_0 l0_0.length c0_0) := bc BK491.out 0
          have hcz43_1 : wr.cell? ⟨gb491, 1, none⟩ = some (.slice A0_1 l0_1.length c0_1) := bc BK491.out 1
          go_wp2
          go_ret
          exact ⟨by first | rfl | (simp [errW_none, errW_some] <;> rfl) | (simp [*, errW_none, errW_some] <;> rfl), by repeat (first | (with_reducible first | exact HB.out | apply below_alloc | apply pw_below_drewN | apply below_drew1 | refine below_set ?_ GE491.out | refine below_set ?_ GE492.out) | exact HB.out)⟩

end Go.Proofs.Ytfkghjdhimhjjaa.PFnUndo
