-- Written by xprint.py (this claim's own program, over the kit's printer); Lean checks it.
import Derived.Test.YtnhmoacjmieggaaPFnKeysx0
namespace Go.Proofs.Ytnhmoacjmieggaa.PFnKeys
open Go.RowKit Go.Proofs.YtnhmoacjmieggaaW.PrintWords Go.Proofs.YtnhmoacjmieggaaW.PrintLast Go.Proofs.YtnhmoacjmieggaaW.PrintMore
attribute [local go_sem] max2_int min2_int max_two min_two max_three min_three max_four min_four   -- for this text's walks alone
set_option linter.unusedVariables false
set_option linter.unusedSimpArgs false   -- squeezed
set_option maxHeartbeats 8000000
set_option maxRecDepth 100000

/-! ### stringslite_HasPrefix: function 61 -/
def stringslite_HasPrefix.f (a0 : ByteArray) (a1 : ByteArray) : Option (Bool) := if (a0.size : Int) ≥ (a1.size : Int) then (if 0 ≤ (a1.size : Int) then (if (a1.size : Int) ≤ (a0.size : Int) then (some ((a0.extract 0 ((a1.size : Int) : Int).toNat).toList == a1.toList)) else (none)) else (none)) else (some false)
theorem stringslite_HasPrefix.calls (a0 : ByteArray) (a1 : ByteArray) (r : Bool) (w : World) (h : stringslite_HasPrefix.f a0 a1 = some r) :
  Calls Try.prog 61 #[.string a0, .string a1] w fun e w' => e = .returned (.bool r) ∧ Drawn0 w w' := by
 have H : (if (a0.size : Int) ≥ (a1.size : Int) then (if 0 ≤ (a1.size : Int) then (if (a1.size : Int) ≤ (a0.size : Int) then (some ((a0.extract 0 ((a1.size : Int) : Int).toNat).toList == a1.toList)) else (none)) else (none)) else (some false)) = some r := h
 clear h
 by_cases c3 : (a0.size : Int) ≥ (a1.size : Int)
 ·rw [if_pos c3] at H
  have c3b0 : decide ((a1.size : Int) ≤ (a0.size : Int)) = true := decide_eq_true c3
  have c3b1 : decide (a1.size ≤ a0.size) = true := decide_eq_true (Int.ofNat_le.mp c3)
  clear c3
  by_cases c4 : 0 ≤ (a1.size : Int)
  ·rw [if_pos c4] at H
   have c4b0 := eq_true c4
   have c4b1 : decide (0 ≤ (a1.size : Int)) = true := decide_eq_true c4
   clear c4
   by_cases c5 : (a1.size : Int) ≤ (a0.size : Int)
   ·rw [if_pos c5] at H
    have c5b0 := eq_true c5
    have c5b1 : decide ((a1.size : Int) ≤ (a0.size : Int)) = true := decide_eq_true c5
    clear c5
    obtain rfl := Option.some.inj H
    go_enter Try.func61, Try.ntmps61
    go_wp2
    go_ret
    exact ⟨by first | rfl | (simp; done) | (simp [*]; done), by repeat (first | exact Drawn0.refl _ | apply Drawn0.step)⟩
   ·rw [if_neg c5] at H
    exact absurd H (by simp)
  ·rw [if_neg c4] at H
   exact absurd H (by simp)
 ·rw [if_neg c3] at H
  have c3b0 : decide ((a1.size : Int) ≤ (a0.size : Int)) = false := decide_eq_false c3
  have c3b1 : decide (a1.size ≤ a0.size) = false := decide_eq_false (fun h => c3 (Int.ofNat_le.mpr h))
  clear c3
  obtain rfl := Option.some.inj H
  go_enter Try.func61, Try.ntmps61
  go_wp2
  go_ret
  exact ⟨by first | rfl | (simp; done) | (simp [*]; done), by repeat (first | exact Drawn0.refl _ | apply Drawn0.step)⟩

/-! ### strings_HasPrefix: function 57 -/
def strings_HasPrefix.f (a0 : ByteArray) (a1 : ByteArray) : Option (Bool) := (stringslite_HasPrefix.f a0 a1).bind fun t405 => (some t405)
theorem strings_HasPrefix.calls (a0 : ByteArray) (a1 : ByteArray) (r : Bool) (w : World) (h : strings_HasPrefix.f a0 a1 = some r) :
  Calls Try.prog 57 #[.string a0, .string a1] w fun e w' => e = .returned (.bool r) ∧ Drawn0 w w' := by
 have H : ((stringslite_HasPrefix.f a0 a1).bind fun t405 => (some t405)) = some r := h
 clear h
 replace H := Option.bind_eq_some_iff.mp H
 obtain ⟨t405, A30, H⟩ := H
 replace H : (some t405) = some r := H
 have A3 := Aside0.mk A30
 clear A30
 obtain rfl := Option.some.inj H
 go_enter Try.func57, Try.ntmps57
 go_wp2_with (first | ((with_reducible refine gate_callee (f := 61) rfl ?_); refine gl (some 7) Try.func61 #[.string a0, .string a1] ?_; (with_reducible refine (stringslite_HasPrefix.calls a0 a1 t405 _ A3.out).mono ?_); rintro e w' ⟨rfl, ⟨nd, rfl⟩⟩; refine ⟨_, rfl, ?_⟩))
 go_ret
 exact ⟨by first | rfl | (simp; done) | (simp [*]; done), by repeat (first | exact Drawn0.refl _ | apply Drawn0.step)⟩

/-! ### impl_look: function 49 -/
mutual
def impl_look.l0 : Nat → Int → ByteArray → Bool → List (S40) → Int → Int → Int → ByteArray → Int → Option (Int × ByteArray × Int)
 | 0, _, _, _, _, _, _, _, _, _ => none
 | k + 1, x1, x2, x3, x14, x15, x16, x408000, x408001, x408002 => if x16 < x15 then (if 0 ≤ x16 then (if x16 < (x14.length : Int) then (if ((rd_T40 x14 x16).f0) = x1 then (if x3 = true then (if (((rd_T40 x14 x16).f1).size : Int) > (x2.size : Int) then ((strings_HasPrefix.f ((rd_T40 x14 x16).f1) x2).bind fun t410 => (impl_look.j1 k x1 x2 x3 (((rd_T40 x14 x16).f1).size : Int) x14 x15 x16 t410 x408000 x408001 x408002 ((rd_T40 x14 x16).f0) ((rd_T40 x14 x16).f1) ((rd_T40 x14 x16).f2))) else (impl_look.j1 k x1 x2 x3 (((rd_T40 x14 x16).f1).size : Int) x14 x15 x16 false x408000 x408001 x408002 ((rd_T40 x14 x16).f0) ((rd_T40 x14 x16).f1) ((rd_T40 x14 x16).f2))) else (impl_look.j1 k x1 x2 x3 (((rd_T40 x14 x16).f1).size : Int) x14 x15 x16 false x408000 x408001 x408002 ((rd_T40 x14 x16).f0) ((rd_T40 x14 x16).f1) ((rd_T40 x14 x16).f2))) else (impl_look.l0 k x1 x2 x3 x14 x15 (wrap64 (x16 + 1)) x408000 x408001 x408002)) else (none)) else (none)) else (some (x408000, x408001, x408002))
def impl_look.j1 : Nat → Int → ByteArray → Bool → Int → List (S40) → Int → Int → Bool → Int → ByteArray → Int → Int → ByteArray → ByteArray → Option (Int × ByteArray × Int)
 | 0, _, _, _, _, _, _, _, _, _, _, _, _, _, _ => none
 | k + 1, x1, x2, x3, x12, x14, x15, x16, x28, x408000, x408001, x408002, x410000, x410001, x410002 => if x28 = true then (some (2, (⟨#[]⟩ : ByteArray), 0)) else ((strings_HasPrefix.f x2 x410001).bind fun t411 => (if t411 = true then (if x12 > x408002 then (impl_look.l0 k x1 x2 x3 x14 x15 (wrap64 (x16 + 1)) 3 x410002 x12) else (impl_look.l0 k x1 x2 x3 x14 x15 (wrap64 (x16 + 1)) x408000 x408001 x408002)) else (impl_look.l0 k x1 x2 x3 x14 x15 (wrap64 (x16 + 1)) x408000 x408001 x408002)))
end
def impl_look.f (k : Nat) (l0 : List (S40)) (a1 : Int) (a2 : ByteArray) (a3 : Bool) : Option (Int × ByteArray × Int) := impl_look.l0 k a1 a2 a3 l0 (l0.length : Int) 0 1 (⟨#[]⟩ : ByteArray) 0
theorem impl_look.mono_l : ∀ k, (∀ y0 y1 y2 y3 y4 y5 y6 y7 y8, LeO (impl_look.l0 k y0 y1 y2 y3 y4 y5 y6 y7 y8) (impl_look.l0 (k + 1) y0 y1 y2 y3 y4 y5 y6 y7 y8)) ∧ (∀ y0 y1 y2 y3 y4 y5 y6 y7 y8 y9 y10 y11 y12 y13, LeO (impl_look.j1 k y0 y1 y2 y3 y4 y5 y6 y7 y8 y9 y10 y11 y12 y13) (impl_look.j1 (k + 1) y0 y1 y2 y3 y4 y5 y6 y7 y8 y9 y10 y11 y12 y13))
 | 0 => ⟨fun _ _ _ _ _ _ _ _ _ r h => by simp [impl_look.l0] at h, fun _ _ _ _ _ _ _ _ _ _ _ _ _ _ r h => by simp [impl_look.j1] at h⟩
 | k + 1 => by
  obtain ⟨ih0, ih1⟩ := impl_look.mono_l k
  refine ⟨?_, ?_⟩
  ·intro y0 y1 y2 y3 y4 y5 y6 y7 y8
   unfold impl_look.l0
   repeat' first
   | (with_reducible exact ih0 _ _ _ _ _ _ _ _ _)
   | (with_reducible exact ih1 _ _ _ _ _ _ _ _ _ _ _ _ _ _)
   | (with_reducible exact LeO.refl _)
   | (with_reducible exact LeO.none _)
   | (with_reducible refine LeO.ite ?_ ?_)
   | (with_reducible refine LeO.bind ?_ (fun _ => ?_))
   | exact ih0 _ _ _ _ _ _ _ _ _
   | exact ih1 _ _ _ _ _ _ _ _ _ _ _ _ _ _
   | refine LeO.bind ?_ (fun _ => ?_)
  ·intro y0 y1 y2 y3 y4 y5 y6 y7 y8 y9 y10 y11 y12 y13
   unfold impl_look.j1
   repeat' first
   | (with_reducible exact ih0 _ _ _ _ _ _ _ _ _)
   | (with_reducible exact ih1 _ _ _ _ _ _ _ _ _ _ _ _ _ _)
   | (with_reducible exact LeO.refl _)
   | (with_reducible exact LeO.none _)
   | (with_reducible refine LeO.ite ?_ ?_)
   | (with_reducible refine LeO.bind ?_ (fun _ => ?_))
   | exact ih0 _ _ _ _ _ _ _ _ _
   | exact ih1 _ _ _ _ _ _ _ _ _ _ _ _ _ _
   | refine LeO.bind ?_ (fun _ => ?_)
theorem impl_look.mono : ∀ a0 a1 a2 a3 k, LeO (impl_look.f k a0 a1 a2 a3) (impl_look.f (k + 1) a0 a1 a2 a3) := by
 intro a0 a1 a2 a3 k
 obtain ⟨ih0, ih1⟩ := impl_look.mono_l k
 unfold impl_look.f
 repeat' first
   | (with_reducible exact ih0 _ _ _ _ _ _ _ _ _)
   | (with_reducible exact ih1 _ _ _ _ _ _ _ _ _ _ _ _ _ _)
   | (with_reducible exact LeO.refl _)
   | (with_reducible exact LeO.none _)
   | (with_reducible refine LeO.ite ?_ ?_)
   | (with_reducible refine LeO.bind ?_ (fun _ => ?_))
   | exact ih0 _ _ _ _ _ _ _ _ _
   | exact ih1 _ _ _ _ _ _ _ _ _ _ _ _ _ _
   | refine LeO.bind ?_ (fun _ => ?_)
theorem impl_look.calls (k : Nat) (A0 : Option Addr) (c0 : Nat) (l0 : List (S40)) (a1 : Int) (a2 : ByteArray) (a3 : Bool) (r1 : Int) (r2 : ByteArray) (r3 : Int) (w : World) (hr0 : Kd.C k40 w A0 l0.length l0) (hc0 : l0.length ≤ c0) (h : impl_look.f k l0 a1 a2 a3 = some (r1, r2, r3)) :
  Calls Try.prog 49 #[.slice A0 l0.length c0, .int .i64 a1, .string a2, .bool a3] w fun e w' => e = .returned (.agg #[.int .i64 r1, .string r2, .int .i64 r3]) ∧ Below w.heap.size w w' := by
 have hu79 := Try.underlying79
 have hu40 := Try.underlying40
 have HR0 := am hr0
 have HC0 := am hc0
 clear hr0 hc0
 have HB := am (Below.refl w.heap.size w)
 have H : (impl_look.l0 k a1 a2 a3 l0 (l0.length : Int) 0 1 (⟨#[]⟩ : ByteArray) 0) = some (r1, r2, r3) := h
 clear h
 have H' := Aside0.mk H
 clear H
 go_enter Try.func49, Try.ntmps49
 go_wp2_with (first | ((with_reducible refine gate_dst (N := 8) rfl ?_); (try (refine gate_guard (by rfl) ?_; dsimp only)); refine box_event ?hg (N := 8) ?hd (cs := #[.int .i64 0, .string (⟨#[]⟩ : ByteArray), .int .i64 0]) (t := 79) ?hr ?_; (case hd => rfl); (case hg => rfl); (case hr => first | (go_simp; done) | (go_simp; rfl)); intro gb406 hg w5 hbox hb; have BK406 := am (hbox); have GW406 := am ((by rw [hg]; exact (below_size (bl HB.out)) : w.heap.size ≤ gb406)); have GE406 := GW406; replace HB := am (below_step (bl HB.out) hb); clear hb hbox hg) | ((with_reducible refine gate_dst (N := 9) rfl ?_); (try (refine gate_guard (by rfl) ?_; dsimp only)); refine box_event ?hg (N := 9) ?hd (cs := #[.int .i64 0, .string (⟨#[]⟩ : ByteArray), .int .i64 0]) (t := 79) ?hr ?_; (case hd => rfl); (case hg => rfl); (case hr => first | (go_simp; done) | (go_simp; rfl)); intro gb407 hg w6 hbox hb; have BK407 := am (hbox); have GW407 := am ((by rw [hg]; exact (below_size (bl HB.out)) : w.heap.size ≤ gb407)); have GE407 := GW407; replace HB := am (below_step (bl HB.out) hb); have NB406_407 := am ((by rw [hg]; exact Nat.ne_of_lt (blk_lt (pk BK406.out)) : gb406 ≠ gb407)); have NB407_406 := am ((by rw [hg]; exact Nat.ne_of_gt (blk_lt (pk BK406.out)) : gb407 ≠ gb406)); replace BK406 := am (blk_below (pk BK406.out) hb); clear hb hbox hg; have hnb7 := NB407_406.out; have hnc7 := NB406_407.out; have hcz8_0 : w6.cell? ⟨gb407, 0, none⟩ = some (.int .i64 0) := bc BK407.out 0; have hcz8_1 : w6.cell? ⟨gb407, 1, none⟩ = some (.string (⟨#[]⟩ : ByteArray)) := bc BK407.out 1; have hcz8_2 : w6.cell? ⟨gb407, 2, none⟩ = some (.int .i64 0) := bc BK407.out 2; have hfz8_0 := blk_frozen BK407.out 0; have hfz8_1 := blk_frozen BK407.out 1; have hfz8_2 := blk_frozen BK407.out 2))
 go_loopg [16] k (fun kq v16 w' => ∃ (x16_1 : Int) (x407000_1 : Int) (x407001_1 : ByteArray) (x407002_1 : Int) (x408000_1 : Int) (x408001_1 : ByteArray) (x408002_1 : Int), v16 = .int .i64 x16_1 ∧ Aside0 (impl_look.l0 kq a1 a2 a3 l0 (l0.length : Int) x16_1 x408000_1 x408001_1 x408002_1 = some (r1, r2, r3)) ∧ Aside0 (kq ≤ k) ∧ Aside0 (w'.heap[gb406]? = some (.cells #[.int .i64 x407000_1, .string x407001_1, .int .i64 x407002_1] 79 (0, 0))) ∧ Aside0 (w'.heap[gb407]? = some (.cells #[.int .i64 x408000_1, .string x408001_1, .int .i64 x408002_1] 79 (0, 0))) ∧ Aside0 (Below w.heap.size w w'))
 case atStart => exact ⟨(0), (0), ((⟨#[]⟩ : ByteArray)), (0), (1), ((⟨#[]⟩ : ByteArray)), (0), (by first | rfl | (simp; done) | (simp [*]; done)), H', ⟨Nat.le_refl _⟩, ⟨by refine pk ?_; refine blk_far ?_ NB406_407.out _; refine pk ?_; refine blk_far ?_ NB406_407.out _; refine pk ?_; refine blk_far ?_ NB406_407.out _; refine pk ?_; exact BK406.out⟩, ⟨by refine pk ?_; refine blk_put (cs := #[.int .i64 1, .string (⟨#[]⟩ : ByteArray), .int .i64 0]) ?_ 2 _ rfl; refine pk ?_; refine blk_put (cs := #[.int .i64 1, .string (⟨#[]⟩ : ByteArray), .int .i64 0]) ?_ 1 _ rfl; refine pk ?_; refine blk_put (cs := #[.int .i64 0, .string (⟨#[]⟩ : ByteArray), .int .i64 0]) ?_ 0 _ rfl; refine pk ?_; exact BK407.out⟩, ⟨by repeat (first | (with_reducible first | exact HB.out | apply below_alloc | apply pw_below_drewN | apply below_drew1 | refine below_set ?_ GE406.out | refine below_set ?_ GE407.out) | exact HB.out)⟩⟩
 case round =>
  clear H'
  try clear p2
  try clear c4
  try clear c7
  try clear hcz8_0
  try clear hcz8_1
  try clear hcz8_2
  try clear hfz8_0
  try clear hfz8_1
  try clear hfz8_2
  obtain ⟨x16_1, x407000_1, x407001_1, x407002_1, x408000_1, x408001_1, x408002_1, rfl, HA, HK1, BK406, BK407, HB⟩ := hrel
  cases gk with
  | zero => exact absurd HA.out (by simp [impl_look.l0])
  | succ k1 =>
   have H := HA.out
   clear HA
   simp only [impl_look.l0] at H
   by_cases c9 : x16_1 < (l0.length : Int)
   ·rw [if_pos c9] at H
    have c9b0 : decide (x16_1 < (l0.length : Int)) = true := decide_eq_true c9
    clear c9
    by_cases c10 : 0 ≤ x16_1
    ·rw [if_pos c10] at H
     have c10b0 : decide (0 ≤ x16_1) = true := decide_eq_true c10
     clear c10
     by_cases c11 : x16_1 < (l0.length : Int)
     ·rw [if_pos c11] at H
      have c11b0 : decide (x16_1 < (l0.length : Int)) = true := decide_eq_true c11
      clear c11
      by_cases c12 : ((rd_T40 l0 x16_1).f0) = a1
      ·rw [if_pos c12] at H
       have c12b0 : (((rd_T40 l0 x16_1).f0) == a1) = true := beq_iff_eq.mpr c12
       have c12b1 : (((rd_T40 l0 x16_1).f0) != a1) = false := bne_eq_false_iff_eq.mpr c12
       clear c12
       have HC13 := Aside0.mk H
       clear H
       have p408 : 0 ≤ (x16_1 : Int) := of_decide_eq_true (by first | (with_reducible assumption) | assumption)
       have q408 : x16_1 < (l0.length : Int) := of_decide_eq_true (by first | (with_reducible assumption) | assumption)
       obtain ⟨ad408, e408, hx408_0, hx408_1, hx408_2⟩ := at_T40 HR0.out x16_1 p408 q408
       cases e408
       replace hx408_0 := (HB.out.cell (World.block_lt_of_cell? w _ hx408_0)).trans hx408_0
       replace hx408_1 := (HB.out.cell (World.block_lt_of_cell? w _ hx408_1)).trans hx408_1
       replace hx408_2 := (HB.out.cell (World.block_lt_of_cell? w _ hx408_2)).trans hx408_2
       replace p408 := eq_true p408
       replace q408 := eq_true q408
       go_upto_region 7 with (first | ((with_reducible refine gate_dst (N := 11) rfl ?_); (try (refine gate_guard (by rfl) ?_; dsimp only)); refine box_event ?hg (N := 11) ?hd (cs := #[.int .i64 0, .string (⟨#[]⟩ : ByteArray), .string (⟨#[]⟩ : ByteArray)]) (t := 40) ?hr ?_; (case hd => rfl); (case hg => rfl); (case hr => first | (go_simp; done) | (go_simp; rfl)); intro gb409 hg w14 hbox hb; have BK409 := am (hbox); have GW409 := am ((by rw [hg]; exact (below_size (bl HB.out)) : w.heap.size ≤ gb409)); have GE409 := GW409; replace HB := am (below_step (bl HB.out) hb); have NB406_409 := am ((by rw [hg]; exact Nat.ne_of_lt (blk_lt (pk BK406.out)) : gb406 ≠ gb409)); have NB409_406 := am ((by rw [hg]; exact Nat.ne_of_gt (blk_lt (pk BK406.out)) : gb409 ≠ gb406)); replace BK406 := am (blk_below (pk BK406.out) hb); have NB407_409 := am ((by rw [hg]; exact Nat.ne_of_lt (blk_lt (pk BK407.out)) : gb407 ≠ gb409)); have NB409_407 := am ((by rw [hg]; exact Nat.ne_of_gt (blk_lt (pk BK407.out)) : gb409 ≠ gb407)); replace BK407 := am (blk_below (pk BK407.out) hb); clear hb hbox hg; have hnb15 := NB409_406.out; have hnc15 := NB406_409.out; have hnb16 := NB409_407.out; have hnc16 := NB407_409.out; have hcz17_0 : w14.cell? ⟨gb409, 0, none⟩ = some (.int .i64 0) := bc BK409.out 0; have hcz17_1 : w14.cell? ⟨gb409, 1, none⟩ = some (.string (⟨#[]⟩ : ByteArray)) := bc BK409.out 1; have hcz17_2 : w14.cell? ⟨gb409, 2, none⟩ = some (.string (⟨#[]⟩ : ByteArray)) := bc BK409.out 2; have hfz17_0 := blk_frozen BK409.out 0; have hfz17_1 := blk_frozen BK409.out 1; have hfz17_2 := blk_frozen BK409.out 2))
       (try simp only [Act.put, sa_, s0_, ss_])
       go_cut [28] (fun v28 wc => ∃ (kq : Nat) (x28_12 : Bool), v28 = .bool x28_12 ∧ Aside0 (impl_look.j1 kq a1 a2 a3 (((rd_T40 l0 x16_1).f1).size : Int) l0 (l0.length : Int) x16_1 x28_12 x408000_1 x408001_1 x408002_1 ((rd_T40 l0 x16_1).f0) ((rd_T40 l0 x16_1).f1) ((rd_T40 l0 x16_1).f2) = some (r1, r2, r3)) ∧ Aside0 (kq ≤ k1) ∧ Aside0 (wc.heap[gb406]? = some (.cells #[.int .i64 x407000_1, .string x407001_1, .int .i64 x407002_1] 79 (0, 0))) ∧ Aside0 (wc.heap[gb407]? = some (.cells #[.int .i64 x408000_1, .string x408001_1, .int .i64 x408002_1] 79 (0, 0))) ∧ Aside0 (wc.heap[gb409]? = some (.cells #[.int .i64 ((rd_T40 l0 x16_1).f0), .string ((rd_T40 l0 x16_1).f1), .string ((rd_T40 l0 x16_1).f2)] 40 (0, 0))) ∧ Aside0 (Below w.heap.size w wc))
       case first =>
        have H := HC13.out
        clear HC13
        by_cases c18 : a3 = true
        ·subst c18
         have H1 : (if (((rd_T40 l0 x16_1).f1).size : Int) > (a2.size : Int) then ((strings_HasPrefix.f ((rd_T40 l0 x16_1).f1) a2).bind fun t410 => (impl_look.j1 k1 a1 a2 true (((rd_T40 l0 x16_1).f1).size : Int) l0 (l0.length : Int) x16_1 t410 x408000_1 x408001_1 x408002_1 ((rd_T40 l0 x16_1).f0) ((rd_T40 l0 x16_1).f1) ((rd_T40 l0 x16_1).f2))) else (impl_look.j1 k1 a1 a2 true (((rd_T40 l0 x16_1).f1).size : Int) l0 (l0.length : Int) x16_1 false x408000_1 x408001_1 x408002_1 ((rd_T40 l0 x16_1).f0) ((rd_T40 l0 x16_1).f1) ((rd_T40 l0 x16_1).f2))) = some (r1, r2, r3) := by rw [if_pos rfl] at H; exact H
         clear H
         have H := H1
         clear H1
         by_cases c19 : (((rd_T40 l0 x16_1).f1).size : Int) > (a2.size : Int)
         ·rw [if_pos c19] at H
          have c19b0 : decide ((a2.size : Int) < (((rd_T40 l0 x16_1).f1).size : Int)) = true := decide_eq_true c19
          have c19b1 : decide (a2.size < ((rd_T40 l0 x16_1).f1).size) = true := decide_eq_true (Int.ofNat_lt.mp c19)
          clear c19
          (first | rw [c19b0] | (simp only [i64_w, i32_w]; rw [c19b0]) | (have e9_ := c19b0; unfold bne at e9_; rw [e9_]) | skip)
          replace H := Option.bind_eq_some_iff.mp H
          obtain ⟨t410, A200, H⟩ := H
          replace H : (impl_look.j1 k1 a1 a2 true (((rd_T40 l0 x16_1).f1).size : Int) l0 (l0.length : Int) x16_1 t410 x408000_1 x408001_1 x408002_1 ((rd_T40 l0 x16_1).f0) ((rd_T40 l0 x16_1).f1) ((rd_T40 l0 x16_1).f2)) = some (r1, r2, r3) := H
          have A20 := Aside0.mk A200
          clear A200
          have H' := Aside0.mk H
          clear H
          have hnb21 := NB409_406.out
          have hnc21 := NB406_409.out
          have hnb22 := NB409_407.out
          have hnc22 := NB407_409.out
          have hcz23_0 : w14.cell? ⟨gb409, 0, none⟩ = some (.int .i64 0) := bc BK409.out 0
          have hcz23_1 : w14.cell? ⟨gb409, 1, none⟩ = some (.string (⟨#[]⟩ : ByteArray)) := bc BK409.out 1
          have hcz23_2 : w14.cell? ⟨gb409, 2, none⟩ = some (.string (⟨#[]⟩ : ByteArray)) := bc BK409.out 2
          have hfz23_0 := blk_frozen BK409.out 0
          have hfz23_1 := blk_frozen BK409.out 1
          have hfz23_2 := blk_frozen BK409.out 2
          go_wp2_with (first | (go_at_call 57; (with_reducible refine (strings_HasPrefix.calls ((rd_T40 l0 x16_1).f1) a2 t410 _ A20.out).mono ?_); rintro e w' ⟨rfl, ⟨nd, rfl⟩⟩))
          go_meet
          case rel => exact ⟨_, (t410), (by first | rfl | (simp; done) | (simp [*]; done)), H', ⟨by have := HK1.out; first | omega | exact Nat.le_refl _⟩, ⟨by refine pk ?_; refine blk_far ?_ NB406_409.out _; refine pk ?_; refine blk_far ?_ NB406_409.out _; refine pk ?_; refine blk_far ?_ NB406_409.out _; refine pk ?_; exact BK406.out⟩, ⟨by refine pk ?_; refine blk_far ?_ NB407_409.out _; refine pk ?_; refine blk_far ?_ NB407_409.out _; refine pk ?_; refine blk_far ?_ NB407_409.out _; refine pk ?_; exact BK407.out⟩, ⟨by refine pk ?_; refine blk_put (cs := #[.int .i64 ((rd_T40 l0 x16_1).f0), .string ((rd_T40 l0 x16_1).f1), .string (⟨#[]⟩ : ByteArray)]) ?_ 2 _ rfl; refine pk ?_; refine blk_put (cs := #[.int .i64 ((rd_T40 l0 x16_1).f0), .string (⟨#[]⟩ : ByteArray), .string (⟨#[]⟩ : ByteArray)]) ?_ 1 _ rfl; refine pk ?_; refine blk_put (cs := #[.int .i64 0, .string (⟨#[]⟩ : ByteArray), .string (⟨#[]⟩ : ByteArray)]) ?_ 0 _ rfl; refine pk ?_; exact BK409.out⟩, ⟨by repeat (first | (with_reducible first | exact HB.out | apply below_alloc | apply pw_below_drewN | apply below_drew1 | refine below_set ?_ GE406.out | refine below_set ?_ GE407.out | refine below_set ?_ GE409.out) | exact HB.out)⟩⟩
         ·rw [if_neg c19] at H
          have c19b0 : decide ((a2.size : Int) < (((rd_T40 l0 x16_1).f1).size : Int)) = false := decide_eq_false c19
          have c19b1 : decide (a2.size < ((rd_T40 l0 x16_1).f1).size) = false := decide_eq_false (fun h => c19 (Int.ofNat_lt.mpr h))
          clear c19
          (first | rw [c19b0] | (simp only [i64_w, i32_w]; rw [c19b0]) | (have e9_ := c19b0; unfold bne at e9_; rw [e9_]) | skip)
          have H' := Aside0.mk H
          clear H
          have hnb24 := NB409_406.out
          have hnc24 := NB406_409.out
          have hnb25 := NB409_407.out
          have hnc25 := NB407_409.out
          have hcz26_0 : w14.cell? ⟨gb409, 0, none⟩ = some (.int .i64 0) := bc BK409.out 0
          have hcz26_1 : w14.cell? ⟨gb409, 1, none⟩ = some (.string (⟨#[]⟩ : ByteArray)) := bc BK409.out 1
          have hcz26_2 : w14.cell? ⟨gb409, 2, none⟩ = some (.string (⟨#[]⟩ : ByteArray)) := bc BK409.out 2
          have hfz26_0 := blk_frozen BK409.out 0
          have hfz26_1 := blk_frozen BK409.out 1
          have hfz26_2 := blk_frozen BK409.out 2
          go_wp2
          go_meet
          case rel => exact ⟨_, (false), (by first | rfl | (simp; done) | (simp [*]; done)), H', ⟨by have := HK1.out; first | omega | exact Nat.le_refl _⟩, ⟨by refine pk ?_; refine blk_far ?_ NB406_409.out _; refine pk ?_; refine blk_far ?_ NB406_409.out _; refine pk ?_; refine blk_far ?_ NB406_409.out _; refine pk ?_; exact BK406.out⟩, ⟨by refine pk ?_; refine blk_far ?_ NB407_409.out _; refine pk ?_; refine blk_far ?_ NB407_409.out _; refine pk ?_; refine blk_far ?_ NB407_409.out _; refine pk ?_; exact BK407.out⟩, ⟨by refine pk ?_; refine blk_put (cs := #[.int .i64 ((rd_T40 l0 x16_1).f0), .string ((rd_T40 l0 x16_1).f1), .string (⟨#[]⟩ : ByteArray)]) ?_ 2 _ rfl; refine pk ?_; refine blk_put (cs := #[.int .i64 ((rd_T40 l0 x16_1).f0), .string (⟨#[]⟩ : ByteArray), .string (⟨#[]⟩ : ByteArray)]) ?_ 1 _ rfl; refine pk ?_; refine blk_put (cs := #[.int .i64 0, .string (⟨#[]⟩ : ByteArray), .string (⟨#[]⟩ : ByteArray)]) ?_ 0 _ rfl; refine pk ?_; exact BK409.out⟩, ⟨by repeat (first | (with_reducible first | exact HB.out | apply below_alloc | apply pw_below_drewN | apply below_drew1 | refine below_set ?_ GE406.out | refine below_set ?_ GE407.out | refine below_set ?_ GE409.out) | exact HB.out)⟩⟩
        ·replace c18 := Bool.eq_false_iff.mpr c18
         subst c18
         have H1 : (impl_look.j1 k1 a1 a2 false (((rd_T40 l0 x16_1).f1).size : Int) l0 (l0.length : Int) x16_1 false x408000_1 x408001_1 x408002_1 ((rd_T40 l0 x16_1).f0) ((rd_T40 l0 x16_1).f1) ((rd_T40 l0 x16_1).f2)) = some (r1, r2, r3) := by rw [if_neg (show ¬ (false = true) by decide)] at H; exact H
         clear H
         have H := H1
         clear H1
         have H' := Aside0.mk H
         clear H
         go_wp2
         go_meet
         case rel => exact ⟨_, (false), (by first | rfl | (simp; done) | (simp [*]; done)), H', ⟨by have := HK1.out; first | omega | exact Nat.le_refl _⟩, ⟨by refine pk ?_; refine blk_far ?_ NB406_409.out _; refine pk ?_; refine blk_far ?_ NB406_409.out _; refine pk ?_; refine blk_far ?_ NB406_409.out _; refine pk ?_; exact BK406.out⟩, ⟨by refine pk ?_; refine blk_far ?_ NB407_409.out _; refine pk ?_; refine blk_far ?_ NB407_409.out _; refine pk ?_; refine blk_far ?_ NB407_409.out _; refine pk ?_; exact BK407.out⟩, ⟨by refine pk ?_; refine blk_put (cs := #[.int .i64 ((rd_T40 l0 x16_1).f0), .string ((rd_T40 l0 x16_1).f1), .string (⟨#[]⟩ : ByteArray)]) ?_ 2 _ rfl; refine pk ?_; refine blk_put (cs := #[.int .i64 ((rd_T40 l0 x16_1).f0), .string (⟨#[]⟩ : ByteArray), .string (⟨#[]⟩ : ByteArray)]) ?_ 1 _ rfl; refine pk ?_; refine blk_put (cs := #[.int .i64 0, .string (⟨#[]⟩ : ByteArray), .string (⟨#[]⟩ : ByteArray)]) ?_ 0 _ rfl; refine pk ?_; exact BK409.out⟩, ⟨by repeat (first | (with_reducible first | exact HB.out | apply below_alloc | apply pw_below_drewN | apply below_drew1 | refine below_set ?_ GE406.out | refine below_set ?_ GE407.out | refine below_set ?_ GE409.out) | exact HB.out)⟩⟩
       case rest =>
        clear HC13
        try clear c1
        try clear c2
        try clear p2
        try clear c4
        try clear p4
        try clear q4
        try clear hx4
        try clear c7
        try clear c9
        try clear c9b0
        try clear c10
        try clear c10b0
        try clear c11
        try clear c11b0
        try clear c12
        try clear c12b0
        try clear c12b1
        try clear c15
        try clear c16
        try clear c18
        try clear c19
        try clear c19b0
        try clear c19b1
        try clear c21
        try clear c22
        try clear c24
        try clear c25
        try clear hcz17_0
        try clear hcz17_1
        try clear hcz17_2
        try clear hcz23_0
        try clear hcz23_1
        try clear hcz23_2
        try clear hcz26_0
        try clear hcz26_1
        try clear hcz26_2
        try clear hcz8_0
        try clear hcz8_1
        try clear hcz8_2
        try clear hfz17_0
        try clear hfz17_1
        try clear hfz17_2
        try clear hfz23_0
        try clear hfz23_1
        try clear hfz23_2
        try clear hfz26_0
        try clear hfz26_1
        try clear hfz26_2
        try clear hfz8_0
        try clear hfz8_1
        try clear hfz8_2
        try clear hx408_0
        try clear hx408_1
        try clear hx408_2
        try clear p2
        try clear p408
        try clear q408
        obtain ⟨kq, x28_12, rfl, HA, HJ12, BK406, BK407, BK409, HB⟩ := hcut
        cases kq with
        | zero => exact absurd HA.out (by simp [impl_look.j1])
        | succ kj12 =>
         have H := HA.out
         clear HA
         simp only [impl_look.j1] at H
         by_cases c27 : x28_12 = true
         ·subst c27
          have H1 : (some (2, (⟨#[]⟩ : ByteArray), 0)) = some (r1, r2, r3) := by rw [if_pos rfl] at H; exact H
          clear H
          have H := H1
          clear H1
          simp only [Option.some.injEq, Prod.mk.injEq] at H
          obtain ⟨rfl, rfl, rfl⟩ := H
          have hnb28 := NB406_407.out
          have hnc28 := NB407_406.out
          have hnb29 := NB406_409.out
          have hnc29 := NB409_406.out
          have hcz30_0 : wc.cell? ⟨gb406, 0, none⟩ = some (.int .i64 x407000_1) := bc BK406.out 0
          have hcz30_1 : wc.cell? ⟨gb406, 1, none⟩ = some (.string x407001_1) := bc BK406.out 1
          have hcz30_2 : wc.cell? ⟨gb406, 2, none⟩ = some (.int .i64 x407002_1) := bc BK406.out 2
          have hfz30_0 := blk_frozen BK406.out 0
          have hfz30_1 := blk_frozen BK406.out 1
          have hfz30_2 := blk_frozen BK406.out 2
          go_wp2
          refine bodyPost_ret (results_cell_row rfl _ _ gb406 79 #[.int .i64 2, .string (⟨#[]⟩ : ByteArray), .int .i64 0] (0, 0) _ rfl (by refine pk ?_; refine blk_put (cs := #[.int .i64 2, .string (⟨#[]⟩ : ByteArray), .int .i64 x407002_1]) ?_ 2 _ rfl; refine pk ?_; refine blk_put (cs := #[.int .i64 2, .string x407001_1, .int .i64 x407002_1]) ?_ 1 _ rfl; refine pk ?_; refine blk_put (cs := #[.int .i64 x407000_1, .string x407001_1, .int .i64 x407002_1]) ?_ 0 _ rfl; refine pk ?_; exact BK406.out) Try.underlying79 rfl (by kernel_rfl)) rfl ?_
          exact ⟨by first | rfl | (simp [errW_none, errW_some] <;> rfl) | (simp [*, errW_none, errW_some] <;> rfl), by repeat (first | (with_reducible first | exact HB.out | apply below_alloc | apply pw_below_drewN | apply below_drew1 | refine below_set ?_ GE406.out | refine below_set ?_ GE407.out | refine below_set ?_ GE409.out) | exact HB.out)⟩
         ·replace c27 := Bool.eq_false_iff.mpr c27
          subst c27
          have H1 : ((strings_HasPrefix.f a2 ((rd_T40 l0 x16_1).f1)).bind fun t411 => (if t411 = true then (if (((rd_T40 l0 x16_1).f1).size : Int) > x408002_1 then (impl_look.l0 kj12 a1 a2 a3 l0 (l0.length : Int) (wrap64 (x16_1 + 1)) 3 ((rd_T40 l0 x16_1).f2) (((rd_T40 l0 x16_1).f1).size : Int)) else (impl_look.l0 kj12 a1 a2 a3 l0 (l0.length : Int) (wrap64 (x16_1 + 1)) x408000_1 x408001_1 x408002_1)) else (impl_look.l0 kj12 a1 a2 a3 l0 (l0.length : Int) (wrap64 (x16_1 + 1)) x408000_1 x408001_1 x408002_1))) = some (r1, r2, r3) := by rw [if_neg (show ¬ (false = true) by decide)] at H; exact H
          clear H
          have H := H1
          clear H1
          replace H := Option.bind_eq_some_iff.mp H
          obtain ⟨t411, A310, H⟩ := H
          replace H : (if t411 = true then (if (((rd_T40 l0 x16_1).f1).size : Int) > x408002_1 then (impl_look.l0 kj12 a1 a2 a3 l0 (l0.length : Int) (wrap64 (x16_1 + 1)) 3 ((rd_T40 l0 x16_1).f2) (((rd_T40 l0 x16_1).f1).size : Int)) else (impl_look.l0 kj12 a1 a2 a3 l0 (l0.length : Int) (wrap64 (x16_1 + 1)) x408000_1 x408001_1 x408002_1)) else (impl_look.l0 kj12 a1 a2 a3 l0 (l0.length : Int) (wrap64 (x16_1 + 1)) x408000_1 x408001_1 x408002_1)) = some (r1, r2, r3) := H
          have A31 := Aside0.mk A310
          clear A310
          by_cases c32 : t411 = true
          ·subst c32
           have H1 : (if (((rd_T40 l0 x16_1).f1).size : Int) > x408002_1 then (impl_look.l0 kj12 a1 a2 a3 l0 (l0.length : Int) (wrap64 (x16_1 + 1)) 3 ((rd_T40 l0 x16_1).f2) (((rd_T40 l0 x16_1).f1).size : Int)) else (impl_look.l0 kj12 a1 a2 a3 l0 (l0.length : Int) (wrap64 (x16_1 + 1)) x408000_1 x408001_1 x408002_1)) = some (r1, r2, r3) := by rw [if_pos rfl] at H; exact H
           clear H
           have H := H1
           clear H1
           by_cases c33 : (((rd_T40 l0 x16_1).f1).size : Int) > x408002_1
           ·rw [if_pos c33] at H
            have c33b0 : decide (x408002_1 < (((rd_T40 l0 x16_1).f1).size : Int)) = true := decide_eq_true c33
            clear c33
            have H' := Aside0.mk H
            clear H
            have hnb34 := NB409_406.out
            have hnc34 := NB406_409.out
            have hnb35 := NB409_407.out
            have hnc35 := NB407_409.out
            have hcz36_0 : wc.cell? ⟨gb409, 0, none⟩ = some (.int .i64 ((rd_T40 l0 x16_1).f0)) := bc BK409.out 0
            have hcz36_1 : wc.cell? ⟨gb409, 1, none⟩ = some (.string ((rd_T40 l0 x16_1).f1)) := bc BK409.out 1
            have hcz36_2 : wc.cell? ⟨gb409, 2, none⟩ = some (.string ((rd_T40 l0 x16_1).f2)) := bc BK409.out 2
            have hfz36_0 := blk_frozen BK409.out 0
            have hfz36_1 := blk_frozen BK409.out 1
            have hfz36_2 := blk_frozen BK409.out 2
            go_wp2_with (first | ((with_reducible refine gate_callee (f := 57) rfl ?_); refine gl (some 49) Try.func57 #[.string a2, .string ((rd_T40 l0 x16_1).f1)] ?_; (with_reducible refine (strings_HasPrefix.calls a2 ((rd_T40 l0 x16_1).f1) true _ A31.out).mono ?_); rintro e w' ⟨rfl, ⟨nd, rfl⟩⟩; refine ⟨_, rfl, ?_⟩; (try (rw [drewN_self wc]; generalize hq_ : World.drewN wc _ = wc; replace BK406 : Aside0 (wc.heap[gb406]? = some (.cells #[.int .i64 x407000_1, .string x407001_1, .int .i64 x407002_1] 79 (0, 0))) := ⟨by rw [← hq_]; exact (pk BK406.out)⟩; replace BK407 : Aside0 (wc.heap[gb407]? = some (.cells #[.int .i64 x408000_1, .string x408001_1, .int .i64 x408002_1] 79 (0, 0))) := ⟨by rw [← hq_]; exact (pk BK407.out)⟩; replace BK409 : Aside0 (wc.heap[gb409]? = some (.cells #[.int .i64 ((rd_T40 l0 x16_1).f0), .string ((rd_T40 l0 x16_1).f1), .string ((rd_T40 l0 x16_1).f2)] 40 (0, 0))) := ⟨by rw [← hq_]; exact (pk BK409.out)⟩; replace HB : Aside0 (Below w.heap.size w wc) := ⟨by rw [← hq_]; exact (bl HB.out)⟩; clear hq_)); have hnb37 := NB407_406.out; have hnc37 := NB406_407.out; have hcz38_0 : wc.cell? ⟨gb407, 0, none⟩ = some (.int .i64 x408000_1) := bc BK407.out 0; have hcz38_1 : wc.cell? ⟨gb407, 1, none⟩ = some (.string x408001_1) := bc BK407.out 1; have hcz38_2 : wc.cell? ⟨gb407, 2, none⟩ = some (.int .i64 x408002_1) := bc BK407.out 2; have hfz38_0 := blk_frozen BK407.out 0; have hfz38_1 := blk_frozen BK407.out 1; have hfz38_2 := blk_frozen BK407.out 2; have hcz39_0 : wc.cell? ⟨gb409, 0, none⟩ = some (.int .i64 ((rd_T40 l0 x16_1).f0)) := bc BK409.out 0; have hcz39_1 : wc.cell? ⟨gb409, 1, none⟩ = some (.string ((rd_T40 l0 x16_1).f1)) := bc BK409.out 1; have hcz39_2 : wc.cell? ⟨gb409, 2, none⟩ = some (.string ((rd_T40 l0 x16_1).f2)) := bc BK409.out 2; have hfz39_0 := blk_frozen BK409.out 0; have hfz39_1 := blk_frozen BK409.out 1; have hfz39_2 := blk_frozen BK409.out 2))
            go_roundg kj12
            case measure => have := HK1.out; have := HJ12.out; omega
            case rel => exact ⟨(wrap64 (x16_1 + 1)), (x407000_1), (x407001_1), (x407002_1), (3), (((rd_T40 l0 x16_1).f2)), ((((rd_T40 l0 x16_1).f1).size : Int)), (by first | rfl | (simp; done) | (simp [*]; done)), H', ⟨by have := HK1.out; have := HJ12.out; omega⟩, ⟨by refine pk ?_; refine blk_far ?_ NB406_407.out _; refine pk ?_; refine blk_far ?_ NB406_407.out _; refine pk ?_; refine blk_far ?_ NB406_407.out _; refine pk ?_; exact BK406.out⟩, ⟨by refine pk ?_; refine blk_put (cs := #[.int .i64 3, .string ((rd_T40 l0 x16_1).f2), .int .i64 x408002_1]) ?_ 2 _ rfl; refine pk ?_; refine blk_put (cs := #[.int .i64 3, .string x408001_1, .int .i64 x408002_1]) ?_ 1 _ rfl; refine pk ?_; refine blk_put (cs := #[.int .i64 x408000_1, .string x408001_1, .int .i64 x408002_1]) ?_ 0 _ rfl; refine pk ?_; exact BK407.out⟩, ⟨by repeat (first | (with_reducible first | exact HB.out | apply below_alloc | apply pw_below_drewN | apply below_drew1 | refine below_set ?_ GE406.out | refine below_set ?_ GE407.out | refine below_set ?_ GE409.out) | exact HB.out)⟩⟩
           ·rw [if_neg c33] at H
            have c33b0 : decide (x408002_1 < (((rd_T40 l0 x16_1).f1).size : Int)) = false := decide_eq_false c33
            clear c33
            have H' := Aside0.mk H
            clear H
            have hnb40 := NB409_406.out
            have hnc40 := NB406_409.out
            have hnb41 := NB409_407.out
            have hnc41 := NB407_409.out
            have hcz42_0 : wc.cell? ⟨gb409, 0, none⟩ = some (.int .i64 ((rd_T40 l0 x16_1).f0)) := bc BK409.out 0
            have hcz42_1 : wc.cell? ⟨gb409, 1, none⟩ = some (.string ((rd_T40 l0 x16_1).f1)) := bc BK409.out 1
            have hcz42_2 : wc.cell? ⟨gb409, 2, none⟩ = some (.string ((rd_T40 l0 x16_1).f2)) := bc BK409.out 2
            have hfz42_0 := blk_frozen BK409.out 0
            have hfz42_1 := blk_frozen BK409.out 1
            have hfz42_2 := blk_frozen BK409.out 2
            go_wp2_with (first | ((with_reducible refine gate_callee (f := 57) rfl ?_); refine gl (some 49) Try.func57 #[.string a2, .string ((rd_T40 l0 x16_1).f1)] ?_; (with_reducible refine (strings_HasPrefix.calls a2 ((rd_T40 l0 x16_1).f1) true _ A31.out).mono ?_); rintro e w' ⟨rfl, ⟨nd, rfl⟩⟩; refine ⟨_, rfl, ?_⟩; have hnb43 := NB407_406.out; have hnc43 := NB406_407.out; have hcz44_0 : wc.cell? ⟨gb407, 0, none⟩ = some (.int .i64 x408000_1) := bc BK407.out 0; have hcz44_1 : wc.cell? ⟨gb407, 1, none⟩ = some (.string x408001_1) := bc BK407.out 1; have hcz44_2 : wc.cell? ⟨gb407, 2, none⟩ = some (.int .i64 x408002_1) := bc BK407.out 2; have hfz44_0 := blk_frozen BK407.out 0; have hfz44_1 := blk_frozen BK407.out 1; have hfz44_2 := blk_frozen BK407.out 2))
            go_roundg kj12
            case measure => have := HK1.out; have := HJ12.out; omega
            case rel => exact ⟨(wrap64 (x16_1 + 1)), (x407000_1), (x407001_1), (x407002_1), (x408000_1), (x408001_1), (x408002_1), (by first | rfl | (simp; done) | (simp [*]; done)), H', ⟨by have := HK1.out; have := HJ12.out; omega⟩, ⟨pk BK406.out⟩, ⟨pk BK407.out⟩, ⟨by repeat (first | (with_reducible first | exact HB.out | apply below_alloc | apply pw_below_drewN | apply below_drew1 | refine below_set ?_ GE406.out | refine below_set ?_ GE407.out | refine below_set ?_ GE409.out) | exact HB.out)⟩⟩
          ·replace c32 := Bool.eq_false_iff.mpr c32
           subst c32
           have H1 : (impl_look.l0 kj12 a1 a2 a3 l0 (l0.length : Int) (wrap64 (x16_1 + 1)) x408000_1 x408001_1 x408002_1) = some (r1, r2, r3) := by rw [if_neg (show ¬ (false = true) by decide)] at H; exact H
           clear H
           have H := H1
           clear H1
           have H' := Aside0.mk H
           clear H
           have hnb45 := NB409_406.out
           have hnc45 := NB406_409.out
           have hnb46 := NB409_407.out
           have hnc46 := NB407_409.out
           have hcz47_0 : wc.cell? ⟨gb409, 0, none⟩ = some (.int .i64 ((rd_T40 l0 x16_1).f0)) := bc BK409.out 0
           have hcz47_1 : wc.cell? ⟨gb409, 1, none⟩ = some (.string ((rd_T40 l0 x16_1).f1)) := bc BK409.out 1
           have hcz47_2 : wc.cell? ⟨gb409, 2, none⟩ = some (.string ((rd_T40 l0 x16_1).f2)) := bc BK409.out 2
           have hfz47_0 := blk_frozen BK409.out 0
           have hfz47_1 := blk_frozen BK409.out 1
           have hfz47_2 := blk_frozen BK409.out 2
           go_wp2_with (first | ((with_reducible refine gate_callee (f := 57) rfl ?_); refine gl (some 49) Try.func57 #[.string a2, .string ((rd_T40 l0 x16_1).f1)] ?_; (with_reducible refine (strings_HasPrefix.calls a2 ((rd_T40 l0 x16_1).f1) false _ A31.out).mono ?_); rintro e w' ⟨rfl, ⟨nd, rfl⟩⟩; refine ⟨_, rfl, ?_⟩))
           go_roundg kj12
           case measure => have := HK1.out; have := HJ12.out; omega
           case rel => exact ⟨(wrap64 (x16_1 + 1)), (x407000_1), (x407001_1), (x407002_1), (x408000_1), (x408001_1), (x408002_1), (by first | rfl | (simp; done) | (simp [*]; done)), H', ⟨by have := HK1.out; have := HJ12.out; omega⟩, ⟨pk BK406.out⟩, ⟨pk BK407.out⟩, ⟨by repeat (first | (with_reducible first | exact HB.out | apply below_alloc | apply pw_below_drewN | apply below_drew1 | refine below_set ?_ GE406.out | refine below_set ?_ GE407.out | refine below_set ?_ GE409.out) | exact HB.out)⟩⟩
      ·rw [if_neg c12] at H
       have c12b0 : (((rd_T40 l0 x16_1).f0) == a1) = false := beq_eq_false_iff_ne.mpr c12
       have c12b1 : (((rd_T40 l0 x16_1).f0) != a1) = true := bne_iff_ne.mpr c12
       have H' := Aside0.mk H
       clear H
       have p408 : 0 ≤ (x16_1 : Int) := of_decide_eq_true (by first | (with_reducible assumption) | assumption)
       have q408 : x16_1 < (l0.length : Int) := of_decide_eq_true (by first | (with_reducible assumption) | assumption)
       obtain ⟨ad408, e408, hx408_0, hx408_1, hx408_2⟩ := at_T40 HR0.out x16_1 p408 q408
       cases e408
       replace hx408_0 := (HB.out.cell (World.block_lt_of_cell? w _ hx408_0)).trans hx408_0
       replace hx408_1 := (HB.out.cell (World.block_lt_of_cell? w _ hx408_1)).trans hx408_1
       replace hx408_2 := (HB.out.cell (World.block_lt_of_cell? w _ hx408_2)).trans hx408_2
       replace p408 := eq_true p408
       replace q408 := eq_true q408
       go_wp2_with (first | ((with_reducible refine gate_dst (N := 11) rfl ?_); (try (refine gate_guard (by rfl) ?_; dsimp only)); refine box_event ?hg (N := 11) ?hd (cs := #[.int .i64 0, .string (⟨#[]⟩ : ByteArray), .string (⟨#[]⟩ : ByteArray)]) (t := 40) ?hr ?_; (case hd => rfl); (case hg => rfl); (case hr => first | (go_simp; done) | (go_simp; rfl)); intro gb409 hg w48 hbox hb; have BK409 := am (hbox); have GW409 := am ((by rw [hg]; exact (below_size (bl HB.out)) : w.heap.size ≤ gb409)); have GE409 := GW409; replace HB := am (below_step (bl HB.out) hb); have NB406_409 := am ((by rw [hg]; exact Nat.ne_of_lt (blk_lt (pk BK406.out)) : gb406 ≠ gb409)); have NB409_406 := am ((by rw [hg]; exact Nat.ne_of_gt (blk_lt (pk BK406.out)) : gb409 ≠ gb406)); replace BK406 := am (blk_below (pk BK406.out) hb); have NB407_409 := am ((by rw [hg]; exact Nat.ne_of_lt (blk_lt (pk BK407.out)) : gb407 ≠ gb409)); have NB409_407 := am ((by rw [hg]; exact Nat.ne_of_gt (blk_lt (pk BK407.out)) : gb409 ≠ gb407)); replace BK407 := am (blk_below (pk BK407.out) hb); clear hb hbox hg; have hnb49 := NB409_406.out; have hnc49 := NB406_409.out; have hnb50 := NB409_407.out; have hnc50 := NB407_409.out; have hcz51_0 : w48.cell? ⟨gb409, 0, none⟩ = some (.int .i64 0) := bc BK409.out 0; have hcz51_1 : w48.cell? ⟨gb409, 1, none⟩ = some (.string (⟨#[]⟩ : ByteArray)) := bc BK409.out 1; have hcz51_2 : w48.cell? ⟨gb409, 2, none⟩ = some (.string (⟨#[]⟩ : ByteArray)) := bc BK409.out 2; have hfz51_0 := blk_frozen BK409.out 0; have hfz51_1 := blk_frozen BK409.out 1; have hfz51_2 := blk_frozen BK409.out 2))
       go_roundg k1
       case measure => have := HK1.out; omega
       case rel => exact ⟨(wrap64 (x16_1 + 1)), (x407000_1), (x407001_1), (x407002_1), (x408000_1), (x408001_1), (x408002_1), (by first | rfl | (simp; done) | (simp [*]; done)), H', ⟨by have := HK1.out; omega⟩, ⟨by refine pk ?_; refine blk_far ?_ NB406_409.out _; refine pk ?_; refine blk_far ?_ NB406_409.out _; refine pk ?_; refine blk_far ?_ NB406_409.out _; refine pk ?_; exact BK406.out⟩, ⟨by refine pk ?_; refine blk_far ?_ NB407_409.out _; refine pk ?_; refine blk_far ?_ NB407_409.out _; refine pk ?_; refine blk_far ?_ NB407_409.out _; refine pk ?_; exact BK407.out⟩, ⟨by repeat (first | (with_reducible first | exact HB.out | apply below_alloc | apply pw_below_drewN | apply below_drew1 | refine below_set ?_ GE406.out | refine below_set ?_ GE407.out | refine below_set ?_ GE409.out) | exact HB.out)⟩⟩
     ·rw [if_neg c11] at H
      exact absurd H (by simp)
    ·rw [if_neg c10] at H
     exact absurd H (by simp)
   ·rw [if_neg c9] at H
    have c9b0 : decide (x16_1 < (l0.length : Int)) = false := decide_eq_false c9
    clear c9
    simp only [Option.some.injEq, Prod.mk.injEq] at H
    obtain ⟨rfl, rfl, rfl⟩ := H
    have hnb52 := NB407_406.out
    have hnc52 := NB406_407.out
    have hcz53_0 : wr.cell? ⟨gb407, 0, none⟩ = some (.int .i64 x408000_1) := bc BK407.out 0
    have hcz53_1 : wr.cell? ⟨gb407, 1, none⟩ = some (.string x408001_1) := bc BK407.out 1
    have hcz53_2 : wr.cell? ⟨gb407, 2, none⟩ = some (.int .i64 x408002_1) := bc BK407.out 2
    have hfz53_0 := blk_frozen BK407.out 0
    have hfz53_1 := blk_frozen BK407.out 1
    have hfz53_2 := blk_frozen BK407.out 2
    have hcz54_0 : wr.cell? ⟨gb406, 0, none⟩ = some (.int .i64 x407000_1) := bc BK406.out 0
    have hcz54_1 : wr.cell? ⟨gb406, 1, none⟩ = some (.string x407001_1) := bc BK406.out 1
    have hcz54_2 : wr.cell? ⟨gb406, 2, none⟩ = some (.int .i64 x407002_1) := bc BK406.out 2
    have hfz54_0 := blk_frozen BK406.out 0
    have hfz54_1 := blk_frozen BK406.out 1
    have hfz54_2 := blk_frozen BK406.out 2
    go_wp2
    refine bodyPost_ret (results_cell_row rfl _ _ gb406 79 #[.int .i64 x408000_1, .string x408001_1, .int .i64 x408002_1] (0, 0) _ rfl (by refine pk ?_; refine blk_put (cs := #[.int .i64 x408000_1, .string x408001_1, .int .i64 x407002_1]) ?_ 2 _ rfl; refine pk ?_; refine blk_put (cs := #[.int .i64 x408000_1, .string x407001_1, .int .i64 x407002_1]) ?_ 1 _ rfl; refine pk ?_; refine blk_put (cs := #[.int .i64 x407000_1, .string x407001_1, .int .i64 x407002_1]) ?_ 0 _ rfl; refine pk ?_; exact BK406.out) Try.underlying79 rfl (by kernel_rfl)) rfl ?_
    exact ⟨by first | rfl | (simp [errW_none, errW_some] <;> rfl) | (simp [*, errW_none, errW_some] <;> rfl), by repeat (first | (with_reducible first | exact HB.out | apply below_alloc | apply pw_below_drewN | apply below_drew1 | refine below_set ?_ GE406.out | refine below_set ?_ GE407.out) | exact HB.out)⟩

/-! ### impl_feed: function 36 -/
def impl_feed.l0 : Nat → List (S40) → Int → ByteArray → Bool → List (S38) → Option ((List (S38)) × ByteArray)
 | 0, _, _, _, _, _ => none
 | k + 1, x0, x1, x2, x3, x10 => if x2.toList = ([] : List UInt8) then (some (x10, (⟨#[]⟩ : ByteArray))) else ((impl_look.f k x0 x1 x2 (!x3)).bind fun bt415 => (if bt415.1 = 2 then (some (x10, x2)) else (if bt415.1 = 3 then (if 0 ≤ bt415.2.2 then (if bt415.2.2 ≤ (x2.size : Int) then (if x10.length < 4398046511104 then (impl_feed.l0 k x0 x1 (x2.extract (bt415.2.2 : Int).toNat x2.size) x3 (x10 ++ [(⟨bt415.2.1, x2.extract 0 (bt415.2.2 : Int).toNat⟩ : S38)])) else (none)) else (none)) else (none)) else (if 0 ≤ 1 then (if 1 ≤ (x2.size : Int) then (if x10.length < 4398046511104 then (impl_feed.l0 k x0 x1 (x2.extract 1 x2.size) x3 (x10 ++ [(⟨(⟨#[]⟩ : ByteArray), x2.extract 0 1⟩ : S38)])) else (none)) else (none)) else (none)))))
def impl_feed.f (k : Nat) (l0 : List (S40)) (a1 : Int) (a2 : ByteArray) (a3 : Bool) : Option ((List (S38)) × ByteArray) := impl_feed.l0 k l0 a1 a2 a3 (([] : List (S38)))
theorem impl_feed.mono_l : ∀ k, (∀ y0 y1 y2 y3 y4, LeO (impl_feed.l0 k y0 y1 y2 y3 y4) (impl_feed.l0 (k + 1) y0 y1 y2 y3 y4))
 | 0 => fun _ _ _ _ _ r h => by simp [impl_feed.l0] at h
 | k + 1 => by
  have ih0 := impl_feed.mono_l k
  ·intro y0 y1 y2 y3 y4
   unfold impl_feed.l0
   repeat' first
   | (with_reducible exact ih0 _ _ _ _ _)
   | (with_reducible exact impl_look.mono _ _ _ _ _)
   | (with_reducible exact LeO.refl _)
   | (with_reducible exact LeO.none _)
   | (with_reducible refine LeO.ite ?_ ?_)
   | (with_reducible refine LeO.bind ?_ (fun _ => ?_))
   | exact ih0 _ _ _ _ _
   | exact impl_look.mono _ _ _ _ _
   | refine LeO.bind ?_ (fun _ => ?_)
theorem impl_feed.mono : ∀ a0 a1 a2 a3 k, LeO (impl_feed.f k a0 a1 a2 a3) (impl_feed.f (k + 1) a0 a1 a2 a3) := by
 intro a0 a1 a2 a3 k
 have ih0 := impl_feed.mono_l k
 unfold impl_feed.f
 repeat' first
   | (with_reducible exact ih0 _ _ _ _ _)
   | (with_reducible exact impl_look.mono _ _ _ _ _)
   | (with_reducible exact LeO.refl _)
   | (with_reducible exact LeO.none _)
   | (with_reducible refine LeO.ite ?_ ?_)
   | (with_reducible refine LeO.bind ?_ (fun _ => ?_))
   | exact ih0 _ _ _ _ _
   | exact impl_look.mono _ _ _ _ _
   | refine LeO.bind ?_ (fun _ => ?_)
def impl_feed.T10 : Bool × List (List Nat × List Nat) := (true, [([], []), ([], []), ([1], [1]), ([], []), ([], []), ([4], [4]), ([3, 5], [3, 5]), ([2, 6], [2, 6]), ([7], [7]), ([0, 8], [0, 8]), ([9, 9, 0, 1, 2, 3, 4, 5, 6, 7, 8, 9], [0, 9])])
def impl_feed.B10 : List Nat := [0, 0, 2, 0, 0, 16, 56, 126, 254, 511, 1023]
theorem impl_feed.tab10 : rtab .any (opsOf Try.f36 10) = impl_feed.T10 := by kernel_rfl
theorem impl_feed.bits10 : waitsOk impl_feed.T10.2 impl_feed.B10 = true := by kernel_rfl
theorem impl_feed.calls (k : Nat) (A0 : Option Addr) (c0 : Nat) (l0 : List (S40)) (a1 : Int) (a2 : ByteArray) (a3 : Bool) (r1 : List (S38)) (r2 : ByteArray) (w : World) (hr0 : Kd.C k40 w A0 l0.length l0) (hc0 : l0.length ≤ c0) (h : impl_feed.f k l0 a1 a2 a3 = some (r1, r2)) :
  Calls Try.prog 36 #[.slice A0 l0.length c0, .int .i64 a1, .string a2, .bool a3] w fun e w' => ∃ v0_ : Value, e = .returned (.tuple #[v0_, .string r2]) ∧ Kd.R k38 38 w' w.heap.size (fun _ => True) v0_ r1 ∧ Below w.heap.size w w' := by
 have hu79 := Try.underlying79
 have hu38 := Try.underlying38
 have HR0 := am hr0
 have HC0 := am hc0
 clear hr0 hc0
 have HB := am (Below.refl w.heap.size w)
 have H : (impl_feed.l0 k l0 a1 a2 a3 (([] : List (S38)))) = some (r1, r2) := h
 clear h
 obtain ⟨y412, hy412⟩ : ∃ y_ : List (S38), y_ = (([] : List (S38))) := ⟨_, rfl⟩
 replace H : (impl_feed.l0 k l0 a1 a2 a3 y412) = some (r1, r2) := by first | (rw [hy412]; with_reducible exact H) | (have H2_ := (Option.bind_some _ _).symm.trans H; rw [hy412]; with_reducible exact H2_) | (have H2_ := (Option.bind_some _ _).symm.trans H; with_reducible exact H2_) | with_reducible exact H | (rw [hy412]; exact H) | exact H
 have Ny412 := am hy412
 clear hy412
 have H' := Aside0.mk H
 clear H
 go_enter Try.func36, Try.ntmps36
 go_wp2_with (first | ((with_reducible refine gate_dst (N := 12) rfl ?_); refine Kd.R_lit k38 _ 38 ?hg (N := 12) ?hd (xs := ([] : List (S38))) (inner := []) (ok := fun _ => True) (okp := fun _ => True) ?hr ?hp (fun _ hk => hk) trivial (Below.refl _ _) (Nat.le_refl _) (by simp) ?_; (case hd => rfl); (case hg => rfl); (case hr => first | (go_simp; done) | (go_simp; rfl)); (case hp => exact (Reps.none _ _)); intro v413 w5 ho6 hb hg_ hnew_; clear hg_ hnew_; (first | rw [← Ny412.out] at ho6 | (simp only [Int.reduceToNat] at ho6; rw [← Ny412.out] at ho6)); have HO414 := am (Kd.R_lower ho6 (below_size (bl HB.out))); replace HB := am (below_step (bl HB.out) hb); clear hb ho6))
 go_loopg [2, 10] k (fun kq v2 v10 w' => ∃ (x2_1 : ByteArray) (x10_1 : List (S38)), v2 = .string x2_1 ∧ Aside0 (impl_feed.l0 kq l0 a1 x2_1 a3 x10_1 = some (r1, r2)) ∧ Aside0 (kq ≤ k) ∧ Aside0 (Kd.R k38 38 w' w.heap.size (fun _ => True) v10 x10_1) ∧ Aside0 (Below w.heap.size w w'))
 case atStart => exact ⟨(a2), (y412), (by first | rfl | (simp; done) | (simp [*]; done)), H', ⟨Nat.le_refl _⟩, ⟨kr HO414.out⟩, ⟨by repeat (first | (with_reducible first | exact HB.out | apply below_alloc | apply pw_below_drewN | apply below_drew1) | exact HB.out)⟩⟩
 case round =>
  clear H'
  try clear p2
  try clear c3
  obtain ⟨x2_1, x10_1, rfl, HA, HK1, HO_10, HB⟩ := hrel
  cases gk with
  | zero => exact absurd HA.out (by simp [impl_feed.l0])
  | succ k1 =>
   have H := HA.out
   clear HA
   simp only [impl_feed.l0] at H
   by_cases c7 : x2_1.toList = ([] : List UInt8)
   ·rw [if_pos c7] at H
    have c7b0 : (x2_1.toList == ([] : List UInt8)) = true := beq_iff_eq.mpr c7
    have c7b1 : (x2_1.toList != ([] : List UInt8)) = false := bne_eq_false_iff_eq.mpr c7
    clear c7
    simp only [Option.some.injEq, Prod.mk.injEq] at H
    obtain ⟨rfl, rfl⟩ := H
    go_wp2
    go_ret2
    exact ⟨_, by first | rfl | (simp [errW_none, errW_some] <;> rfl) | (simp [*, errW_none, errW_some] <;> rfl), kr HO_10.out, by repeat (first | (with_reducible first | exact HB.out | apply below_alloc | apply pw_below_drewN | apply below_drew1) | exact HB.out)⟩
   ·rw [if_neg c7] at H
    have c7b0 : (x2_1.toList == ([] : List UInt8)) = false := beq_eq_false_iff_ne.mpr c7
    have c7b1 : (x2_1.toList != ([] : List UInt8)) = true := bne_iff_ne.mpr c7
    replace H := Option.bind_eq_some_iff.mp H
    obtain ⟨⟨t415, t416, t417⟩, A80, H⟩ := H
    replace H : (if t415 = 2 then (some (x10_1, x2_1)) else (if t415 = 3 then (if 0 ≤ t417 then (if t417 ≤ (x2_1.size : Int) then (if x10_1.length < 4398046511104 then (impl_feed.l0 k1 l0 a1 (x2_1.extract (t417 : Int).toNat x2_1.size) a3 (x10_1 ++ [(⟨t416, x2_1.extract 0 (t417 : Int).toNat⟩ : S38)])) else (none)) else (none)) else (none)) else (if 0 ≤ 1 then (if 1 ≤ (x2_1.size : Int) then (if x10_1.length < 4398046511104 then (impl_feed.l0 k1 l0 a1 (x2_1.extract 1 x2_1.size) a3 (x10_1 ++ [(⟨(⟨#[]⟩ : ByteArray), x2_1.extract 0 1⟩ : S38)])) else (none)) else (none)) else (none)))) = some (r1, r2) := H
    have A8 := Aside0.mk A80
    clear A80
    by_cases c9 : t415 = 2
    ·rw [if_pos c9] at H
     have c9b0 : (t415 == 2) = true := beq_iff_eq.mpr c9
     have c9b1 : (t415 != 2) = false := bne_eq_false_iff_eq.mpr c9
     clear c9
     simp only [Option.some.injEq, Prod.mk.injEq] at H
     obtain ⟨rfl, rfl⟩ := H
     go_wp2_with (first | ((with_reducible refine gate_callee (f := 49) rfl ?_); refine gl (some 20) Try.func49 #[.slice A0 l0.length c0, .int .i64 a1, .string x2_1, .bool (!a3)] ?_; (with_reducible refine (impl_look.calls k1 _ _ l0 a1 x2_1 (!a3) t415 t416 t417 _ ?side1 ?side2 A8.out).mono ?_); (case side1 => repeat (first | exact (Kd.C_below HR0.out HB.out) | (with_reducible refine Kd.C_alloc ?_ _) | (with_reducible refine Kd.C_drewN ?_ _) | (with_reducible refine Kd.C_drew ?_))); (case side2 => exact HC0.out); rintro e w10 ⟨rfl, hb⟩; refine ⟨_, rfl, ?_⟩; replace HO_10 := am (Kd.R_below (kr HO_10.out) hb); replace HB := am (below_step (bl HB.out) hb); (try clear hb); (try clear hb2); (try clear hk); (try clear hi)) | ((with_reducible refine gate_dst (N := 11) rfl ?_); refine box_event ?hg (N := 11) ?hd (cs := #[.int .i64 0, .string (⟨#[]⟩ : ByteArray), .int .i64 0]) (t := 79) ?hr ?_; (case hd => rfl); (case hg => rfl); (case hr => first | (go_simp; done) | (go_simp; rfl)); intro gb418 hg w11 hbox hb; replace HO_10 := am (Kd.R_below (kr HO_10.out) hb); have BK418 := am (hbox); have GW418 := am ((by rw [hg]; exact (below_size (bl HB.out)) : w.heap.size ≤ gb418)); have GE418 := GW418; replace HB := am (below_step (bl HB.out) hb); clear hb hbox hg; have hcz12_0 : w11.cell? ⟨gb418, 0, none⟩ = some (.int .i64 0) := bc BK418.out 0; have hcz12_1 : w11.cell? ⟨gb418, 1, none⟩ = some (.string (⟨#[]⟩ : ByteArray)) := bc BK418.out 1; have hcz12_2 : w11.cell? ⟨gb418, 2, none⟩ = some (.int .i64 0) := bc BK418.out 2; have hfz12_0 := blk_frozen BK418.out 0; have hfz12_1 := blk_frozen BK418.out 1; have hfz12_2 := blk_frozen BK418.out 2))
     go_ret2
     exact ⟨_, by first | rfl | (simp [errW_none, errW_some] <;> rfl) | (simp [*, errW_none, errW_some] <;> rfl), kr (Kd.R_mono (Kd.R_far (p := ⟨gb418, 2, none⟩) (Kd.R_far (p := ⟨gb418, 1, none⟩) (Kd.R_far (p := ⟨gb418, 0, none⟩) (Kd.R_types HO_10.out BK418.out (by decide)) (fun _ hk => hk.2) (.int .i64 t415)) (fun _ hk => hk.2) (.string t416)) (fun _ hk => hk.2) (.int .i64 t417)) (fun _ hk => trivial)), by repeat (first | (with_reducible first | exact HB.out | apply below_alloc | apply pw_below_drewN | apply below_drew1 | refine below_set ?_ GE418.out) | exact HB.out)⟩
    ·rw [if_neg c9] at H
     have c9b0 : (t415 == 2) = false := beq_eq_false_iff_ne.mpr c9
     have c9b1 : (t415 != 2) = true := bne_iff_ne.mpr c9
     by_cases c13 : t415 = 3
     ·rw [if_pos c13] at H
      have c13b0 : (t415 == 3) = true := beq_iff_eq.mpr c13
      have c13b1 : (t415 != 3) = false := bne_eq_false_iff_eq.mpr c13
      clear c13
      by_cases c14 : 0 ≤ t417
      ·rw [if_pos c14] at H
       have c14b0 := eq_true c14
       have c14b1 : decide (0 ≤ t417) = true := decide_eq_true c14
       clear c14
       by_cases c15 : t417 ≤ (x2_1.size : Int)
       ·rw [if_pos c15] at H
        have c15b0 := eq_true c15
        have c15b1 : decide (t417 ≤ (x2_1.size : Int)) = true := decide_eq_true c15
        clear c15
        by_cases c16 : x10_1.length < 4398046511104
        ·rw [if_pos c16] at H
         have LMc16 := Aside0.mk c16
         clear c16
         obtain ⟨y419, hy419⟩ : ∃ y_ : List (S38), y_ = (x10_1 ++ [(⟨t416, x2_1.extract 0 (t417 : Int).toNat⟩ : S38)]) := ⟨_, rfl⟩
         replace H : (impl_feed.l0 k1 l0 a1 (x2_1.extract (t417 : Int).toNat x2_1.size) a3 y419) = some (r1, r2) := by first | (rw [hy419]; with_reducible exact H) | (have H2_ := (Option.bind_some _ _).symm.trans H; rw [hy419]; with_reducible exact H2_) | (have H2_ := (Option.bind_some _ _).symm.trans H; with_reducible exact H2_) | with_reducible exact H | (rw [hy419]; exact H) | exact H
         have Ny419 := am hy419
         clear hy419
         have c17b0 := eq_true (of_decide_eq_true (by first | (with_reducible assumption) | assumption) : 0 ≤ t417)
         have c18b0 := eq_true (of_decide_eq_true (by first | (with_reducible assumption) | assumption) : t417 ≤ (x2_1.size : Int))
         have H' := Aside0.mk H
         clear H
         try go_wp2_with (first | ((with_reducible refine gate_callee (f := 49) rfl ?_); refine gl (some 20) Try.func49 #[.slice A0 l0.length c0, .int .i64 a1, .string x2_1, .bool (!a3)] ?_; (with_reducible refine (impl_look.calls k1 _ _ l0 a1 x2_1 (!a3) t415 t416 t417 _ ?side1 ?side2 A8.out).mono ?_); (case side1 => repeat (first | exact (Kd.C_below HR0.out HB.out) | (with_reducible refine Kd.C_alloc ?_ _) | (with_reducible refine Kd.C_drewN ?_ _) | (with_reducible refine Kd.C_drew ?_))); (case side2 => exact HC0.out); rintro e w19 ⟨rfl, hb⟩; refine ⟨_, rfl, ?_⟩; replace HO_10 := am (Kd.R_below (kr HO_10.out) hb); replace HB := am (below_step (bl HB.out) hb); (try clear hb); (try clear hb2); (try clear hk); (try clear hi)) | ((with_reducible refine gate_dst (N := 11) rfl ?_); refine box_event ?hg (N := 11) ?hd (cs := #[.int .i64 0, .string (⟨#[]⟩ : ByteArray), .int .i64 0]) (t := 79) ?hr ?_; (case hd => rfl); (case hg => rfl); (case hr => first | (go_simp; done) | (go_simp; rfl)); intro gb418 hg w20 hbox hb; replace HO_10 := am (Kd.R_below (kr HO_10.out) hb); have BK418 := am (hbox); have GW418 := am ((by rw [hg]; exact (below_size (bl HB.out)) : w.heap.size ≤ gb418)); have GE418 := GW418; replace HB := am (below_step (bl HB.out) hb); clear hb hbox hg; have hcz21_0 : w20.cell? ⟨gb418, 0, none⟩ = some (.int .i64 0) := bc BK418.out 0; have hcz21_1 : w20.cell? ⟨gb418, 1, none⟩ = some (.string (⟨#[]⟩ : ByteArray)) := bc BK418.out 1; have hcz21_2 : w20.cell? ⟨gb418, 2, none⟩ = some (.int .i64 0) := bc BK418.out 2; have hfz21_0 := blk_frozen BK418.out 0; have hfz21_1 := blk_frozen BK418.out 1; have hfz21_2 := blk_frozen BK418.out 2))
         have n0_ : Aside0 (Kd.R k38 38 (((w20.setCell ⟨gb418, 0, none⟩ (.int .i64 t415)).setCell ⟨gb418, 1, none⟩ (.string t416)).setCell ⟨gb418, 2, none⟩ (.int .i64 t417)) w.heap.size (fun _ => True) u10 x10_1) := ⟨kr (Kd.R_mono (Kd.R_far (p := ⟨gb418, 2, none⟩) (Kd.R_far (p := ⟨gb418, 1, none⟩) (Kd.R_far (p := ⟨gb418, 0, none⟩) (Kd.R_types HO_10.out BK418.out (by decide)) (fun _ hk => hk.2) (.int .i64 t415)) (fun _ hk => hk.2) (.string t416)) (fun _ hk => hk.2) (.int .i64 t417)) (fun _ hk => trivial))⟩
         have n1_ : Aside0 ((((w20.setCell ⟨gb418, 0, none⟩ (.int .i64 t415)).setCell ⟨gb418, 1, none⟩ (.string t416)).setCell ⟨gb418, 2, none⟩ (.int .i64 t417)).heap[gb418]? = some (.cells #[.int .i64 t415, .string t416, .int .i64 t417] 79 (0, 0))) := ⟨by refine pk ?_; refine blk_put (cs := #[.int .i64 t415, .string t416, .int .i64 0]) ?_ 2 _ rfl; refine pk ?_; refine blk_put (cs := #[.int .i64 t415, .string (⟨#[]⟩ : ByteArray), .int .i64 0]) ?_ 1 _ rfl; refine pk ?_; refine blk_put (cs := #[.int .i64 0, .string (⟨#[]⟩ : ByteArray), .int .i64 0]) ?_ 0 _ rfl; refine pk ?_; exact BK418.out⟩
         have n2_ : Aside0 (Below w.heap.size w (((w20.setCell ⟨gb418, 0, none⟩ (.int .i64 t415)).setCell ⟨gb418, 1, none⟩ (.string t416)).setCell ⟨gb418, 2, none⟩ (.int .i64 t417))) := ⟨by repeat (first | (with_reducible first | exact HB.out | apply below_alloc | apply pw_below_drewN | apply below_drew1 | refine below_set ?_ GE418.out) | exact HB.out)⟩
         (try clear HO_10)
         (try clear BK418)
         (try clear HB)
         generalize (((w20.setCell ⟨gb418, 0, none⟩ (.int .i64 t415)).setCell ⟨gb418, 1, none⟩ (.string t416)).setCell ⟨gb418, 2, none⟩ (.int .i64 t417)) = w22 at n0_ n1_ n2_ ⊢
         have HO_10 := n0_
         have BK418 := n1_
         have HB := n2_
         clear n0_ n1_ n2_
         replace HO_10 := am (Kd.R_drew HO_10.out)
         replace BK418 := am (blk_drew BK418.out)
         replace HB := am (below_drew1 HB.out)
         refine start_ (n := 11) (S := fun w' => w'.cell? ⟨gb418, 0, none⟩ = some (.int .i64 t415) ∧ w'.cell? ⟨gb418, 1, none⟩ = some (.string t416) ∧ w'.cell? ⟨gb418, 2, none⟩ = some (.int .i64 t417)) (ds := []) #[false, false, false, false, false, false, false, false, false, false, false] (by kernel_rfl) rfl rfl ⟨bc BK418.out 0, bc BK418.out 1, bc BK418.out 2⟩ (fun hHeld => ?_); refine with_tabW impl_feed.tab10 impl_feed.bits10 (fun HT_ HW_ => ?_)
         generalize w22.drew = w23 at HO_10 BK418 HB hHeld ⊢
         refine pure_ (i := 0) (N := some 37) (v := ?_) (a' := ?_) #[true, false, false, false, false, false, false, false, false, false, false] rfl rfl (any_of HT_.out (by kernel_rfl)) (fun _ _ _ h => h) (Or.inl ⟨by rfl, ?_⟩) ?_ ?_; rotate_left
         ·intro w'; go_simp; with_reducible rfl
         rotate_left
         ·simp only [Act.put, sa_, s0_, ss_, i64_w, i32_w]; rfl
         refine pure_ (i := 1) (N := some 38) (v := ?_) (a' := ?_) #[true, true, false, false, false, false, false, false, false, false, false] rfl rfl (any_of HT_.out (by kernel_rfl)) (fun _ _ _ h => h) (Or.inl ⟨by rfl, ?_⟩) ?_ ?_; rotate_left
         ·intro w'; go_simp; with_reducible rfl
         rotate_left
         ·simp only [Act.put, sa_, s0_, ss_, i64_w, i32_w]; rfl
         refine pure_ (i := 3) (N := some 40) (v := ?_) (a' := ?_) #[true, true, false, true, false, false, false, false, false, false, false] rfl rfl (any_of HT_.out (by kernel_rfl)) (fun _ _ _ h => h) (Or.inl ⟨by rfl, ?_⟩) ?_ ?_; rotate_left
         ·intro w'; go_simp; with_reducible rfl
         rotate_left
         ·simp only [Act.put, sa_, s0_, ss_, i64_w, i32_w]; rfl
         refine pure_ (i := 4) (N := some 41) (v := ?_) (a' := ?_) #[true, true, false, true, true, false, false, false, false, false, false] rfl rfl (any_of HT_.out (by kernel_rfl)) (fun _ _ _ h => h) (Or.inl ⟨by rfl, ?_⟩) ?_ ?_; rotate_left
         ·intro w'; go_simp; with_reducible rfl
         rotate_left
         ·simp only [Act.put, sa_, s0_, ss_, i64_w, i32_w]; rfl
         refine take_ (i := 2) (N := some 39) (v := ?_) (a' := ?_) #[true, true, true, true, true, false, false, false, false, false, false] rfl rfl (take_ofW HT_.out HW_.out (by kernel_rfl)) (fun _ _ _ h => h) (Or.inl ⟨by rfl, ?_⟩) hHeld ?_ ?_; rotate_left
         ·rintro w' ⟨s0, s1, s2⟩; go_simp; with_reducible rfl
         rotate_left
         ·simp only [Act.put, sa_, s0_, ss_, i64_w, i32_w]; rfl
         refine take_ (i := 5) (N := some 42) (v := ?_) (a' := ?_) #[true, true, true, true, true, true, false, false, false, false, false] rfl rfl (take_ofW HT_.out HW_.out (by kernel_rfl)) (fun _ _ _ h => h) (Or.inl ⟨by rfl, ?_⟩) hHeld ?_ ?_; rotate_left
         ·rintro w' ⟨s0, s1, s2⟩; go_simp; with_reducible rfl
         rotate_left
         ·simp only [Act.put, sa_, s0_, ss_, i64_w, i32_w]; rfl
         refine pure_ (i := 6) (N := some 43) (v := ?_) (a' := ?_) #[true, true, true, true, true, true, true, false, false, false, false] rfl rfl (any_of HT_.out (by kernel_rfl)) (fun _ _ _ h => h) (Or.inl ⟨by rfl, ?_⟩) ?_ ?_; rotate_left
         ·intro w'; go_simp; with_reducible rfl
         rotate_left
         ·simp only [Act.put, sa_, s0_, ss_, i64_w, i32_w]; rfl
         refine pure_ (i := 7) (N := some 44) (v := ?_) (a' := ?_) #[true, true, true, true, true, true, true, true, false, false, false] rfl rfl (any_of HT_.out (by kernel_rfl)) (fun _ _ _ h => h) (Or.inl ⟨by rfl, ?_⟩) ?_ ?_; rotate_left
         ·intro w'; go_simp; with_reducible rfl
         rotate_left
         ·simp only [Act.put, sa_, s0_, ss_, i64_w, i32_w]; rfl
         refine one_ (i := 8) (N := some 45) #[true, true, true, true, true, true, true, true, true, false, false] rfl rfl (one_of HT_.out (by kernel_rfl)) (by decide) (fun K hK => ?_)
         refine value_ (w1 := ?_) (v := ?_) (by rfl) rfl ?_ ?_
         rotate_left 2
         ·go_simp
          constructor
          ·rfl
          ·rfl
         refine hK.out _ _ ⟨(blk_cell (blk_alloc BK418.out _) 0).trans rfl, (blk_cell (blk_alloc BK418.out _) 1).trans rfl, (blk_cell (blk_alloc BK418.out _) 2).trans rfl⟩ (fun hHeld => ?_)
         clear hK K
         refine norm_ (a' := ?_) ?_ ?_
         rotate_left
         ·show Act.put _ (some 45) _ = _
          simp only [Act.put, sa_, s0_, ss_, i64_w, i32_w]
          rfl
         refine one_ (i := 9) (N := some 46) #[true, true, true, true, true, true, true, true, true, true, false] rfl rfl (one_of HT_.out (by kernel_rfl)) (by decide) (fun K hK => ?_)
         refine Kd.R_append_step k38 (w0 := w) w.heap.size (by rfl) (.tmp 37) (.tmp 45) 33 38 (.agg #[(.string ⟨#[]⟩), (.string ⟨#[]⟩)]) 32 rfl Try.underlying33 info38 rfl (by decide) (by omega) u10 x10_1 (⟨t416, x2_1.extract 0 (t417 : Int).toNat⟩ : S38) [.string t416, .string (x2_1.extract 0 (t417 : Int).toNat)] (fun _ => True) (fun _ => False) rfl rfl ?aP (fun _ hk => hk.elim) ?aF ?aO ?aB ?aS ?aL ?_
         (case aP => exact k38_mkM _ _ _ (⟨t416, x2_1.extract 0 (t417 : Int).toNat⟩ : S38))
         (case aB => exact (bl HB.out))
         (case aF => exact (fun _ _ => trivial))
         (case aO => exact (kr HO_10.out))
         (case aS => exact (below_size (bl HB.out)))
         (case aL => have := LMc16.out; omega)
         intro v420 w24 ho hb hg hat
         rw [← Ny419.out] at ho
         replace BK418 := am (blk_grown (g := gb418) (o := .cells #[.int .i64 t415, .string t416, .int .i64 t417] 79 (0, 0)) (pk BK418.out) hg (Kd.R_ne HO_10.out BK418.out (by decide)))
         replace HB := am (hb)
         have HO421 := am (ho)
         clear HO_10 ho hb hg hat
         refine hK.out _ _ ⟨bc BK418.out 0, bc BK418.out 1, bc BK418.out 2⟩ (fun hHeld => ?_)
         clear hK K
         refine norm_ (a' := ?_) ?_ ?_
         rotate_left
         ·show Act.put _ (some 46) _ = _
          simp only [Act.put, sa_, s0_, ss_, i64_w, i32_w]
          rfl
         refine pure_ (i := 10) (N := some 10) (v := ?_) (a' := ?_) #[true, true, true, true, true, true, true, true, true, true, true] rfl rfl (any_of HT_.out (by kernel_rfl)) (fun _ _ _ h => h) (Or.inl ⟨by rfl, ?_⟩) ?_ ?_; rotate_left
         ·intro w'; go_simp; with_reducible rfl
         rotate_left
         ·simp only [Act.put, sa_, s0_, ss_, i64_w, i32_w]; rfl
         refine done_ (done_of HT_.out (by kernel_rfl)) ?_
         have hcz25_0 : w24.cell? ⟨gb418, 0, none⟩ = some (.int .i64 t415) := bc BK418.out 0
         have hcz25_1 : w24.cell? ⟨gb418, 1, none⟩ = some (.string t416) := bc BK418.out 1
         have hcz25_2 : w24.cell? ⟨gb418, 2, none⟩ = some (.int .i64 t417) := bc BK418.out 2
         have hfz25_0 := blk_frozen BK418.out 0
         have hfz25_1 := blk_frozen BK418.out 1
         have hfz25_2 := blk_frozen BK418.out 2
         try go_wp2
         go_roundg k1
         case measure => have := HK1.out; omega
         case rel => exact ⟨(x2_1.extract (t417 : Int).toNat x2_1.size), (y419), (by first | rfl | (simp; done) | (simp [*]; done)), H', ⟨by have := HK1.out; omega⟩, ⟨kr HO421.out⟩, ⟨by repeat (first | (with_reducible first | exact HB.out | apply below_alloc | apply pw_below_drewN | apply below_drew1 | refine below_set ?_ GE418.out) | exact HB.out)⟩⟩
        ·rw [if_neg c16] at H
         exact absurd H (by simp)
       ·rw [if_neg c15] at H
        exact absurd H (by simp)
      ·rw [if_neg c14] at H
       exact absurd H (by simp)
     ·rw [if_neg c13] at H
      have c13b0 : (t415 == 3) = false := beq_eq_false_iff_ne.mpr c13
      have c13b1 : (t415 != 3) = true := bne_iff_ne.mpr c13
      by_cases c26 : 0 ≤ 1
      ·rw [if_pos c26] at H
       have c26b0 := eq_true c26
       have c26b1 : decide (0 ≤ 1) = true := decide_eq_true c26
       clear c26
       by_cases c27 : 1 ≤ (x2_1.size : Int)
       ·rw [if_pos c27] at H
        have c27b0 := eq_true c27
        have c27b1 : decide (1 ≤ (x2_1.size : Int)) = true := decide_eq_true c27
        clear c27
        by_cases c28 : x10_1.length < 4398046511104
        ·rw [if_pos c28] at H
         have LMc28 := Aside0.mk c28
         clear c28
         obtain ⟨y422, hy422⟩ : ∃ y_ : List (S38), y_ = (x10_1 ++ [(⟨(⟨#[]⟩ : ByteArray), x2_1.extract 0 1⟩ : S38)]) := ⟨_, rfl⟩
         replace H : (impl_feed.l0 k1 l0 a1 (x2_1.extract 1 x2_1.size) a3 y422) = some (r1, r2) := by first | (rw [hy422]; with_reducible exact H) | (have H2_ := (Option.bind_some _ _).symm.trans H; rw [hy422]; with_reducible exact H2_) | (have H2_ := (Option.bind_some _ _).symm.trans H; with_reducible exact H2_) | with_reducible exact H | (rw [hy422]; exact H) | exact H
         have Ny422 := am hy422
         clear hy422
         have c29b0 := eq_true (of_decide_eq_true (by first | (with_reducible assumption) | assumption) : 1 ≤ (x2_1.size : Int))
         have H' := Aside0.mk H
         clear H
         go_wp2_with (first | ((with_reducible refine gate_callee (f := 49) rfl ?_); refine gl (some 20) Try.func49 #[.slice A0 l0.length c0, .int .i64 a1, .string x2_1, .bool (!a3)] ?_; (with_reducible refine (impl_look.calls k1 _ _ l0 a1 x2_1 (!a3) t415 t416 t417 _ ?side1 ?side2 A8.out).mono ?_); (case side1 => repeat (first | exact (Kd.C_below HR0.out HB.out) | (with_reducible refine Kd.C_alloc ?_ _) | (with_reducible refine Kd.C_drewN ?_ _) | (with_reducible refine Kd.C_drew ?_))); (case side2 => exact HC0.out); rintro e w30 ⟨rfl, hb⟩; refine ⟨_, rfl, ?_⟩; replace HO_10 := am (Kd.R_below (kr HO_10.out) hb); replace HB := am (below_step (bl HB.out) hb); (try clear hb); (try clear hb2); (try clear hk); (try clear hi)) | ((with_reducible refine gate_dst (N := 11) rfl ?_); refine box_event ?hg (N := 11) ?hd (cs := #[.int .i64 0, .string (⟨#[]⟩ : ByteArray), .int .i64 0]) (t := 79) ?hr ?_; (case hd => rfl); (case hg => rfl); (case hr => first | (go_simp; done) | (go_simp; rfl)); intro gb418 hg w31 hbox hb; replace HO_10 := am (Kd.R_below (kr HO_10.out) hb); have BK418 := am (hbox); have GW418 := am ((by rw [hg]; exact (below_size (bl HB.out)) : w.heap.size ≤ gb418)); have GE418 := GW418; replace HB := am (below_step (bl HB.out) hb); clear hb hbox hg; have hcz32_0 : w31.cell? ⟨gb418, 0, none⟩ = some (.int .i64 0) := bc BK418.out 0; have hcz32_1 : w31.cell? ⟨gb418, 1, none⟩ = some (.string (⟨#[]⟩ : ByteArray)) := bc BK418.out 1; have hcz32_2 : w31.cell? ⟨gb418, 2, none⟩ = some (.int .i64 0) := bc BK418.out 2; have hfz32_0 := blk_frozen BK418.out 0; have hfz32_1 := blk_frozen BK418.out 1; have hfz32_2 := blk_frozen BK418.out 2) | ((with_reducible refine gate_builtin (b := .append) (xs := #[.tmp 23, .tmp 27]) rfl ?_); at_builtin; refine Kd.R_append k38 (w0 := w) w.heap.size rfl (.tmp 23) (.tmp 27) 33 38 (.agg #[(.string ⟨#[]⟩), (.string ⟨#[]⟩)]) 32 rfl Try.underlying33 info38 rfl (by decide) (by omega) u10 x10_1 (⟨(⟨#[]⟩ : ByteArray), x2_1.extract 0 1⟩ : S38) [.string (⟨#[]⟩ : ByteArray), .string (x2_1.extract 0 1)] (fun _ => True) (fun _ => False) rfl (by first | (go_simp; done) | (go_simp; rfl)) ?aP (fun _ hk => hk.elim) ?aF ?aO ?aB ?aS ?aL ?_; (case aP => exact k38_mkM _ _ _ (⟨(⟨#[]⟩ : ByteArray), x2_1.extract 0 1⟩ : S38)); (case aB => exact (bl HB.out)); (case aF => exact (fun _ _ => trivial)); (case aO => exact (kr (Kd.R_mono (Kd.R_far (p := ⟨gb418, 2, none⟩) (Kd.R_far (p := ⟨gb418, 1, none⟩) (Kd.R_far (p := ⟨gb418, 0, none⟩) (Kd.R_types HO_10.out BK418.out (by decide)) (fun _ hk => hk.2) (.int .i64 t415)) (fun _ hk => hk.2) (.string t416)) (fun _ hk => hk.2) (.int .i64 t417)) (fun _ hk => trivial)))); (case aS => exact (below_size (bl HB.out))); (case aL => have := LMc28.out; omega); intro v423 w33 ho hb hg hat; rw [← Ny422.out] at ho; replace BK418 := am (blk_grown (g := gb418) (o := .cells #[.int .i64 t415, .string t416, .int .i64 t417] 79 (0, 0)) (by refine pk ?_; refine blk_put (cs := #[.int .i64 t415, .string t416, .int .i64 0]) ?_ 2 _ rfl; refine pk ?_; refine blk_put (cs := #[.int .i64 t415, .string (⟨#[]⟩ : ByteArray), .int .i64 0]) ?_ 1 _ rfl; refine pk ?_; refine blk_put (cs := #[.int .i64 0, .string (⟨#[]⟩ : ByteArray), .int .i64 0]) ?_ 0 _ rfl; refine pk ?_; exact BK418.out) hg (Kd.R_ne HO_10.out BK418.out (by decide))); replace HB := am (hb); have HO424 := am (ho); clear HO_10; clear ho hb hg hat))
         go_roundg k1
         case measure => have := HK1.out; omega
         case rel => exact ⟨(x2_1.extract 1 x2_1.size), (y422), (by first | rfl | (simp; done) | (simp [*]; done)), H', ⟨by have := HK1.out; omega⟩, ⟨kr HO424.out⟩, ⟨by repeat (first | (with_reducible first | exact HB.out | apply below_alloc | apply pw_below_drewN | apply below_drew1 | refine below_set ?_ GE418.out) | exact HB.out)⟩⟩
        ·rw [if_neg c28] at H
         exact absurd H (by simp)
       ·rw [if_neg c27] at H
        exact absurd H (by simp)
      ·rw [if_neg c26] at H
       exact absurd H (by simp)

end Go.Proofs.Ytnhmoacjmieggaa.PFnKeys
