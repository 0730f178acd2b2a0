-- Written by xprint.py (this claim's own program, over the kit's printer); Lean checks it.
import Derived.Test.YtpllahncpjpfmaaPFnExactKeyBindx0
import Derived.Test.YtpllahncpjpfmaaPFnExactKeyBindx6
namespace Go.Proofs.Ytpllahncpjpfmaa.PFnExactKeyBind
open Go.RowKit Go.Proofs.YtpllahncpjpfmaaW.PrintWords Go.Proofs.YtpllahncpjpfmaaW.PrintLast Go.Proofs.YtpllahncpjpfmaaW.PrintMore
attribute [local go_sem] max2_int min2_int max_two min_two max_three min_three max_four min_four   -- for this text's walks alone
set_option linter.unusedVariables false
set_option linter.unusedSimpArgs false   -- squeezed

/-! ### impl_KeysRight: function 20 -/
@[reducible] def b20_0 : Array Bool := (br true [0, 17]).toArray
@[reducible] def b20_1 : Array Bool := (br true [1, 16]).toArray
@[reducible] def b20_2 : Array Bool := (br true [2, 15]).toArray
@[reducible] def b20_3 : Array Bool := (br true [3, 14]).toArray
@[reducible] def b20_4 : Array Bool := (br true [4, 13]).toArray
@[reducible] def b20_5 : Array Bool := (br true [5, 12]).toArray
@[reducible] def b20_6 : Array Bool := (br true [6, 11]).toArray
@[reducible] def b20_7 : Array Bool := (br true [7, 10]).toArray
@[reducible] def b20_8 : Array Bool := (br true [8, 9]).toArray
@[reducible] def b20_9 : Array Bool := (br true [9, 8]).toArray
@[reducible] def b20_10 : Array Bool := (br true [10, 7]).toArray
@[reducible] def b20_11 : Array Bool := (br true [11, 6]).toArray
@[reducible] def b20_12 : Array Bool := (br true [12, 5]).toArray
@[reducible] def b20_13 : Array Bool := (br true [13, 4]).toArray
@[reducible] def b20_14 : Array Bool := (br true [14, 3]).toArray
@[reducible] def b20_15 : Array Bool := (br true [15, 2]).toArray
@[reducible] def b20_16 : Array Bool := (br true [16, 1]).toArray
@[reducible] def b20_17 : Array Bool := (br true [17]).toArray
def impl_KeysRight.l0 : Nat → List (S34) → List (S34) → Int → Int → Option (Bool)
 | 0, _, _, _, _ => none
 | k + 1, x0, x5, x6, x7 => if x7 < x6 then (if 0 ≤ x7 then (if x7 < (x5.length : Int) then ((impl_keyRight.f k ((rd_T34 x5 x7).f0) ((rd_T34 x5 x7).f1) ((rd_T34 x5 x7).f2)).bind fun t209 => (if t209 = true then (if x7 > 0 then (if 0 ≤ (wrap64 (x7 - 1)) then (if (wrap64 (x7 - 1)) < (x0.length : Int) then ((impl_compareKeys.f k ((rd_T34 x0 (wrap64 (x7 - 1))).f0) ((rd_T34 x0 (wrap64 (x7 - 1))).f1) ((rd_T34 x0 (wrap64 (x7 - 1))).f2) ((rd_T34 x5 x7).f0) ((rd_T34 x5 x7).f1) ((rd_T34 x5 x7).f2)).bind fun t211 => (if t211 ≥ 0 then (some false) else (impl_KeysRight.l0 k x0 x5 x6 (wrap64 (x7 + 1))))) else (none)) else (none)) else (impl_KeysRight.l0 k x0 x5 x6 (wrap64 (x7 + 1)))) else (some false))) else (none)) else (none)) else (some (decide ((x0.length : Int) ≤ 60)))
def impl_KeysRight.f (k : Nat) (l0 : List (S34)) : Option (Bool) := impl_KeysRight.l0 k l0 l0 (l0.length : Int) 0
theorem impl_KeysRight.mono_l : ∀ k, (∀ y0 y1 y2 y3, LeO (impl_KeysRight.l0 k y0 y1 y2 y3) (impl_KeysRight.l0 (k + 1) y0 y1 y2 y3))
 | 0 => fun _ _ _ _ r h => by simp [impl_KeysRight.l0] at h
 | k + 1 => by
  have ih0 := impl_KeysRight.mono_l k
  ·intro y0 y1 y2 y3
   unfold impl_KeysRight.l0
   repeat' first
   | (with_reducible exact ih0 _ _ _ _)
   | (with_reducible exact impl_compareKeys.mono _ _ _ _ _ _ _)
   | (with_reducible exact impl_keyRight.mono _ _ _ _)
   | (with_reducible exact LeO.refl _)
   | (with_reducible exact LeO.none _)
   | (with_reducible refine LeO.ite ?_ ?_)
   | (with_reducible refine LeO.bind ?_ (fun _ => ?_))
   | exact ih0 _ _ _ _
   | exact impl_compareKeys.mono _ _ _ _ _ _ _
   | exact impl_keyRight.mono _ _ _ _
   | refine LeO.bind ?_ (fun _ => ?_)
theorem impl_KeysRight.mono : ∀ a0 k, LeO (impl_KeysRight.f k a0) (impl_KeysRight.f (k + 1) a0) := by
 intro a0 k
 have ih0 := impl_KeysRight.mono_l k
 unfold impl_KeysRight.f
 repeat' first
   | (with_reducible exact ih0 _ _ _ _)
   | (with_reducible exact impl_compareKeys.mono _ _ _ _ _ _ _)
   | (with_reducible exact impl_keyRight.mono _ _ _ _)
   | (with_reducible exact LeO.refl _)
   | (with_reducible exact LeO.none _)
   | (with_reducible refine LeO.ite ?_ ?_)
   | (with_reducible refine LeO.bind ?_ (fun _ => ?_))
   | exact ih0 _ _ _ _
   | exact impl_compareKeys.mono _ _ _ _ _ _ _
   | exact impl_keyRight.mono _ _ _ _
   | refine LeO.bind ?_ (fun _ => ?_)
def impl_KeysRight.T4 : Bool × List (List Nat × List Nat) := (true, [([], []), ([0], [0]), ([1], [1]), ([2, 1], [2]), ([3], [3]), ([4, 3], [3, 4]), ([5, 3, 3], [3, 5]), ([6], [6]), ([6], [6]), ([8, 6], [6, 8]), ([7, 9, 6], [6, 7, 9]), ([10, 6], [6, 10]), ([6], [6]), ([11, 12, 6, 6], [6, 11, 12]), ([13, 6], [6, 13]), ([6, 14, 3], [3, 6, 14]), ([3, 15], [3, 15])])
def impl_KeysRight.B4 : List Nat := [0, 1, 3, 7, 15, 31, 63, 127, 127, 383, 1023, 2047, 127, 8191, 16383, 32767, 65535]
theorem impl_KeysRight.tab4 : rtab .any (opsOf Try.f20 4) = impl_KeysRight.T4 := by kernel_rfl
theorem impl_KeysRight.bits4 : waitsOk impl_KeysRight.T4.2 impl_KeysRight.B4 = true := by kernel_rfl
set_option maxHeartbeats 8000000 in
set_option maxRecDepth 100000 in
theorem impl_KeysRight.calls (k : Nat) (A0 : Option Addr) (c0 : Nat) (l0 : List (S34)) (r : Bool) (w : World) (hr0 : Kd.C k34 w A0 l0.length l0) (hc0 : l0.length ≤ c0) (h : impl_KeysRight.f k l0 = some r) :
  Calls Try.prog 20 #[.slice A0 l0.length c0] w fun e w' => e = .returned (.bool r) ∧ Below w.heap.size w w' := by
 have hu34 := Try.underlying34
 have HR0 := am hr0
 have HC0 := am hc0
 clear hr0 hc0
 have HB := am (Below.refl w.heap.size w)
 have H : (impl_KeysRight.l0 k l0 l0 (l0.length : Int) 0) = some r := h
 clear h
 have H' := Aside0.mk H
 clear H
 go_enter Try.func20, Try.ntmps20
 go_wp2
 go_loopg [7] k (fun kq v7 w' => ∃ (x7_1 : Int), v7 = .int .i64 x7_1 ∧ Aside0 (impl_KeysRight.l0 kq l0 l0 (l0.length : Int) x7_1 = some r) ∧ Aside0 (kq ≤ k) ∧ Aside0 (Below w.heap.size w w'))
 case atStart => exact ⟨(0), (by first | rfl | (simp; done) | (simp [*]; done)), H', ⟨Nat.le_refl _⟩, ⟨by repeat (first | (with_reducible first | exact HB.out | apply below_alloc | apply pw_below_drewN | apply below_drew1) | exact HB.out)⟩⟩
 case round =>
  clear H'
  obtain ⟨x7_1, rfl, HA, HK1, HB⟩ := hrel
  cases gk with
  | zero => exact absurd HA.out (by simp [impl_KeysRight.l0])
  | succ k1 =>
   have H := HA.out
   clear HA
   simp only [impl_KeysRight.l0] at H
   by_cases c2 : x7_1 < (l0.length : Int)
   ·rw [if_pos c2] at H
    have c2b0 : decide (x7_1 < (l0.length : Int)) = true := decide_eq_true c2
    clear c2
    by_cases c3 : 0 ≤ x7_1
    ·rw [if_pos c3] at H
     have c3b0 : decide (0 ≤ x7_1) = true := decide_eq_true c3
     clear c3
     by_cases c4 : x7_1 < (l0.length : Int)
     ·rw [if_pos c4] at H
      have c4b0 : decide (x7_1 < (l0.length : Int)) = true := decide_eq_true c4
      clear c4
      replace H := Option.bind_eq_some_iff.mp H
      obtain ⟨t209, A50, H⟩ := H
      replace H : (if t209 = true then (if x7_1 > 0 then (if 0 ≤ (wrap64 (x7_1 - 1)) then (if (wrap64 (x7_1 - 1)) < (l0.length : Int) then ((impl_compareKeys.f k1 ((rd_T34 l0 (wrap64 (x7_1 - 1))).f0) ((rd_T34 l0 (wrap64 (x7_1 - 1))).f1) ((rd_T34 l0 (wrap64 (x7_1 - 1))).f2) ((rd_T34 l0 x7_1).f0) ((rd_T34 l0 x7_1).f1) ((rd_T34 l0 x7_1).f2)).bind fun t211 => (if t211 ≥ 0 then (some false) else (impl_KeysRight.l0 k1 l0 l0 (l0.length : Int) (wrap64 (x7_1 + 1))))) else (none)) else (none)) else (impl_KeysRight.l0 k1 l0 l0 (l0.length : Int) (wrap64 (x7_1 + 1)))) else (some false)) = some r := H
      have A5 := Aside0.mk A50
      clear A50
      by_cases c6 : t209 = true
      ·subst c6
       have H1 : (if x7_1 > 0 then (if 0 ≤ (wrap64 (x7_1 - 1)) then (if (wrap64 (x7_1 - 1)) < (l0.length : Int) then ((impl_compareKeys.f k1 ((rd_T34 l0 (wrap64 (x7_1 - 1))).f0) ((rd_T34 l0 (wrap64 (x7_1 - 1))).f1) ((rd_T34 l0 (wrap64 (x7_1 - 1))).f2) ((rd_T34 l0 x7_1).f0) ((rd_T34 l0 x7_1).f1) ((rd_T34 l0 x7_1).f2)).bind fun t211 => (if t211 ≥ 0 then (some false) else (impl_KeysRight.l0 k1 l0 l0 (l0.length : Int) (wrap64 (x7_1 + 1))))) else (none)) else (none)) else (impl_KeysRight.l0 k1 l0 l0 (l0.length : Int) (wrap64 (x7_1 + 1)))) = some r := by rw [if_pos rfl] at H; exact H
       clear H
       have H := H1
       clear H1
       by_cases c7 : x7_1 > 0
       ·rw [if_pos c7] at H
        have c7b0 : decide (0 < x7_1) = true := decide_eq_true c7
        clear c7
        obtain ⟨ji8, hji8⟩ : ∃ j_ : Int, (wrap64 (x7_1 - 1)) = j_ := ⟨_, rfl⟩
        replace H : (if 0 ≤ (ji8) then (if (ji8) < (l0.length : Int) then ((impl_compareKeys.f k1 ((rd_T34 l0 (ji8)).f0) ((rd_T34 l0 (ji8)).f1) ((rd_T34 l0 (ji8)).f2) ((rd_T34 l0 x7_1).f0) ((rd_T34 l0 x7_1).f1) ((rd_T34 l0 x7_1).f2)).bind fun t211 => (if t211 ≥ 0 then (some false) else (impl_KeysRight.l0 k1 l0 l0 (l0.length : Int) (wrap64 (x7_1 + 1))))) else (none)) else (none)) = some r := by first | (rw [hji8] at H; exact H) | (simp only [hji8] at H ⊢; exact H)
        (try rw [hji8] at A5)
        have hji8w : (IntKind.i64.wrap (x7_1 - 1)) = ji8 := (i64_w _).trans hji8
        by_cases c9 : 0 ≤ (ji8)
        ·rw [if_pos c9] at H
         have c9b0 : decide (0 ≤ (ji8)) = true := decide_eq_true c9
         clear c9
         by_cases c10 : (ji8) < (l0.length : Int)
         ·rw [if_pos c10] at H
          have c10b0 : decide ((ji8) < (l0.length : Int)) = true := decide_eq_true c10
          clear c10
          replace H := Option.bind_eq_some_iff.mp H
          obtain ⟨t211, A110, H⟩ := H
          replace H : (if t211 ≥ 0 then (some false) else (impl_KeysRight.l0 k1 l0 l0 (l0.length : Int) (wrap64 (x7_1 + 1)))) = some r := H
          have A11 := Aside0.mk A110
          clear A110
          by_cases c12 : t211 ≥ 0
          ·rw [if_pos c12] at H
           have c12b0 : decide (0 ≤ t211) = true := decide_eq_true c12
           clear c12
           obtain rfl := Option.some.inj H
           have p207 : 0 ≤ (x7_1 : Int) := of_decide_eq_true (by first | (with_reducible assumption) | assumption)
           have q207 : x7_1 < (l0.length : Int) := of_decide_eq_true (by first | (with_reducible assumption) | assumption)
           obtain ⟨ad207, e207, hx207_0, hx207_1, hx207_2⟩ := at_T34 HR0.out x7_1 p207 q207
           cases e207
           replace hx207_0 := (HB.out.cell (World.block_lt_of_cell? w _ hx207_0)).trans hx207_0
           replace hx207_1 := (HB.out.cell (World.block_lt_of_cell? w _ hx207_1)).trans hx207_1
           replace hx207_2 := (HB.out.cell (World.block_lt_of_cell? w _ hx207_2)).trans hx207_2
           replace p207 := eq_true p207
           replace q207 := eq_true q207
           try go_wp2_with (first | ((with_reducible refine gate_dst (N := 4) rfl ?_); refine box_event ?hg (N := 4) ?hd (cs := #[.int .i64 0, .string (⟨#[]⟩ : ByteArray), .string (⟨#[]⟩ : ByteArray)]) (t := 34) ?hr ?_; (case hd => rfl); (case hg => rfl); (case hr => first | (go_simp; done) | (go_simp; rfl)); intro gb208 hg w13 hbox hb; have BK208 := am (hbox); have GW208 := am ((by rw [hg]; exact (below_size (bl HB.out)) : w.heap.size ≤ gb208)); have GE208 := GW208; replace HB := am (below_step (bl HB.out) hb); clear hb hbox hg; have hcz14_0 : w13.cell? ⟨gb208, 0, none⟩ = some (.int .i64 0) := bc BK208.out 0; have hcz14_1 : w13.cell? ⟨gb208, 1, none⟩ = some (.string (⟨#[]⟩ : ByteArray)) := bc BK208.out 1; have hcz14_2 : w13.cell? ⟨gb208, 2, none⟩ = some (.string (⟨#[]⟩ : ByteArray)) := bc BK208.out 2; have hfz14_0 := blk_frozen BK208.out 0; have hfz14_1 := blk_frozen BK208.out 1; have hfz14_2 := blk_frozen BK208.out 2))
           have n0_ : Aside0 ((((w13.setCell ⟨gb208, 0, none⟩ (.int .i64 ((rd_T34 l0 x7_1).f0))).setCell ⟨gb208, 1, none⟩ (.string ((rd_T34 l0 x7_1).f1))).setCell ⟨gb208, 2, none⟩ (.string ((rd_T34 l0 x7_1).f2))).heap[gb208]? = some (.cells #[.int .i64 ((rd_T34 l0 x7_1).f0), .string ((rd_T34 l0 x7_1).f1), .string ((rd_T34 l0 x7_1).f2)] 34 (0, 0))) := ⟨by refine pk ?_; refine blk_put (cs := #[.int .i64 ((rd_T34 l0 x7_1).f0), .string ((rd_T34 l0 x7_1).f1), .string (⟨#[]⟩ : ByteArray)]) ?_ 2 _ rfl; refine pk ?_; refine blk_put (cs := #[.int .i64 ((rd_T34 l0 x7_1).f0), .string (⟨#[]⟩ : ByteArray), .string (⟨#[]⟩ : ByteArray)]) ?_ 1 _ rfl; refine pk ?_; refine blk_put (cs := #[.int .i64 0, .string (⟨#[]⟩ : ByteArray), .string (⟨#[]⟩ : ByteArray)]) ?_ 0 _ rfl; refine pk ?_; exact BK208.out⟩
           have n1_ : Aside0 (Below w.heap.size w (((w13.setCell ⟨gb208, 0, none⟩ (.int .i64 ((rd_T34 l0 x7_1).f0))).setCell ⟨gb208, 1, none⟩ (.string ((rd_T34 l0 x7_1).f1))).setCell ⟨gb208, 2, none⟩ (.string ((rd_T34 l0 x7_1).f2)))) := ⟨by repeat (first | (with_reducible first | exact HB.out | apply below_alloc | apply pw_below_drewN | apply below_drew1 | refine below_set ?_ GE208.out) | exact HB.out)⟩
           (try clear BK208)
           (try clear HB)
           generalize (((w13.setCell ⟨gb208, 0, none⟩ (.int .i64 ((rd_T34 l0 x7_1).f0))).setCell ⟨gb208, 1, none⟩ (.string ((rd_T34 l0 x7_1).f1))).setCell ⟨gb208, 2, none⟩ (.string ((rd_T34 l0 x7_1).f2))) = w15 at n0_ n1_ ⊢
           have BK208 := n0_
           have HB := n1_
           clear n0_ n1_
           replace BK208 := am (blk_drew BK208.out)
           replace HB := am (below_drew1 HB.out)
           have p210 : 0 ≤ ((ji8) : Int) := of_decide_eq_true (by first | (with_reducible assumption) | assumption)
           have q210 : (ji8) < (l0.length : Int) := of_decide_eq_true (by first | (with_reducible assumption) | assumption)
           obtain ⟨ad210, e210, hx210_0, hx210_1, hx210_2⟩ := at_T34 HR0.out (ji8) p210 q210
           have hw210_2 := hx210_2
           have hw210_1 := hx210_1
           have hw210_0 := hx210_0
           obtain rfl : ad207 = ad210 := (by injection e210)
           replace hx210_0 := (HB.out.cell (World.block_lt_of_cell? w _ hx210_0)).trans hx210_0
           replace hx210_1 := (HB.out.cell (World.block_lt_of_cell? w _ hx210_1)).trans hx210_1
           replace hx210_2 := (HB.out.cell (World.block_lt_of_cell? w _ hx210_2)).trans hx210_2
           replace p210 := eq_true p210
           replace q210 := eq_true q210
           refine start_ (n := 17) (S := fun w' => w'.cell? ⟨gb208, 0, none⟩ = some (.int .i64 ((rd_T34 l0 x7_1).f0)) ∧ w'.cell? ⟨gb208, 1, none⟩ = some (.string ((rd_T34 l0 x7_1).f1)) ∧ w'.cell? ⟨gb208, 2, none⟩ = some (.string ((rd_T34 l0 x7_1).f2)) ∧ w'.cell? (ad207.add (((ji8)).toNat * 3)) = some (.int .i64 ((rd_T34 l0 (ji8)).f0)) ∧ w'.cell? ⟨(ad207.add (((ji8)).toNat * 3)).block, (ad207.add (((ji8)).toNat * 3)).off + 1, none⟩ = some (.string ((rd_T34 l0 (ji8)).f1)) ∧ w'.cell? ⟨(ad207.add (((ji8)).toNat * 3)).block, (ad207.add (((ji8)).toNat * 3)).off + 2, none⟩ = some (.string ((rd_T34 l0 (ji8)).f2))) (ds := []) b20_0 (by kernel_rfl) rfl rfl ⟨bc BK208.out 0, bc BK208.out 1, bc BK208.out 2, ((HB.out.cell (World.block_lt_of_cell? _ _ hw210_0)).trans hw210_0), ((HB.out.cell (World.block_lt_of_cell? _ _ hw210_1)).trans hw210_1), ((HB.out.cell (World.block_lt_of_cell? _ _ hw210_2)).trans hw210_2)⟩ (fun hHeld => ?_); refine with_tabW impl_KeysRight.tab4 impl_KeysRight.bits4 (fun HT_ HW_ => ?_)
           generalize w15.drew = w16 at BK208 HB hx210_0 hx210_1 hx210_2 hHeld ⊢
           refine tk_ 0 (some 12) ?_ b20_1 rfl rfl HT_.out HW_.out (by kernel_rfl) (fun _ _ _ h => h) (Or.inl ⟨by rfl, ?_⟩) hHeld ?_ ?_ ?_; rotate_left
           ·rintro w' ⟨s0, s1, s2, s3, s4, s5⟩; go_simp; with_reducible rfl
           rotate_left
           ·simp only [Act.put, sa_, s0_, ss_, i64_w, i32_w]; rfl
           refine one_ (i := 1) (N := some 13) b20_2 rfl rfl (one_of HT_.out (by kernel_rfl)) (by decide) (fun K hK => ?_)
           refine gs_ Try.func26 #[.agg #[.int .i64 ((rd_T34 l0 x7_1).f0), .string ((rd_T34 l0 x7_1).f1), .string ((rd_T34 l0 x7_1).f2)]] ?_
           with_reducible refine (impl_keyRight.calls k1 ((rd_T34 l0 x7_1).f0) ((rd_T34 l0 x7_1).f1) ((rd_T34 l0 x7_1).f2) true _ A5.out).mono ?_
           rintro e w17 ⟨rfl, hb⟩
           refine ⟨_, rfl, ?_⟩
           replace BK208 := am (blk_below (pk BK208.out) hb)
           replace HB := am (below_step (bl HB.out) hb)
           (try clear hb)
           (try clear hb2)
           (try clear hk)
           (try clear hi)
           refine hK.out _ _ ⟨bc BK208.out 0, bc BK208.out 1, bc BK208.out 2, ((HB.out.cell (World.block_lt_of_cell? _ _ hw210_0)).trans hw210_0), ((HB.out.cell (World.block_lt_of_cell? _ _ hw210_1)).trans hw210_1), ((HB.out.cell (World.block_lt_of_cell? _ _ hw210_2)).trans hw210_2)⟩ (fun hHeld => ?_)
           clear hK K
           refine norm_ (a' := ?_) ?_ ?_
           rotate_left
           ·show Act.put _ (some 13) _ = _
            simp only [Act.put, sa_, s0_, ss_, i64_w, i32_w]
            rfl
           refine pu_ 2 (some 14) ?_ b20_3 rfl rfl HT_.out (by kernel_rfl) (fun _ _ _ h => h) (Or.inl ⟨by rfl, ?_⟩) ?_ ?_ ?_; rotate_left
           ·intro w'; go_simp; with_reducible rfl
           rotate_left
           ·simp only [Act.put, sa_, s0_, ss_, i64_w, i32_w]; rfl
           refine pu_ 3 (some 15) ?_ b20_4 rfl rfl HT_.out (by kernel_rfl) (fun _ _ _ h => h) (Or.inl ⟨by rfl, ?_⟩) ?_ ?_ ?_; rotate_left
           ·intro w'; go_simp; with_reducible rfl
           rotate_left
           ·simp only [Act.put, sa_, s0_, ss_, i64_w, i32_w]; rfl
           refine pu_ 4 (some 16) ?_ b20_5 rfl rfl HT_.out (by kernel_rfl) (fun _ _ _ h => h) (Or.inl ⟨by rfl, ?_⟩) ?_ ?_ ?_; rotate_left
           ·intro w'; go_simp; with_reducible rfl
           rotate_left
           ·simp only [Act.put, sa_, s0_, ss_, i64_w, i32_w]; rfl
           refine pu_ 5 (some 17) ?_ b20_6 rfl rfl HT_.out (by kernel_rfl) (fun _ _ _ h => h) (Or.inl ⟨by rfl, ?_⟩) ?_ ?_ ?_; rotate_left
           ·intro w'; go_simp; with_reducible rfl
           rotate_left
           ·simp only [Act.put, sa_, s0_, ss_, i64_w, i32_w]; rfl
           refine pu_ 6 (some 18) ?_ b20_7 rfl rfl HT_.out (by kernel_rfl) (fun _ _ _ h => h) (Or.inl ⟨by rfl, ?_⟩) ?_ ?_ ?_; rotate_left
           ·intro w'; go_simp; with_reducible rfl
           rotate_left
           ·simp only [Act.put, sa_, s0_, ss_, i64_w, i32_w]; rfl
           refine pu_ 7 (some 19) ?_ b20_8 rfl rfl HT_.out (by kernel_rfl) (fun _ _ _ h => h) (Or.inl ⟨by rfl, ?_⟩) ?_ ?_ ?_; rotate_left
           ·intro w'; go_simp; with_reducible rfl
           rotate_left
           ·simp only [Act.put, sa_, s0_, ss_, i64_w, i32_w]; rfl
           refine pu_ 8 (some 20) ?_ b20_9 rfl rfl HT_.out (by kernel_rfl) (fun _ _ _ h => h) (Or.inl ⟨by rfl, ?_⟩) ?_ ?_ ?_; rotate_left
           ·intro w'; go_simp; with_reducible rfl
           rotate_left
           ·simp only [Act.put, sa_, s0_, ss_, i64_w, i32_w]; rfl
           refine pu_ 9 (some 21) ?_ b20_10 rfl rfl HT_.out (by kernel_rfl) (fun _ _ _ h => h) (Or.inl ⟨by rfl, ?_⟩) ?_ ?_ ?_; rotate_left
           ·intro w'; go_simp; with_reducible rfl
           rotate_left
           ·simp only [Act.put, sa_, s0_, ss_, i64_w, i32_w]; rfl
           refine pu_ 10 (some 22) ?_ b20_11 rfl rfl HT_.out (by kernel_rfl) (fun _ _ _ h => h) (Or.inl ⟨by rfl, ?_⟩) ?_ ?_ ?_; rotate_left
           ·intro w'; go_simp; with_reducible rfl
           rotate_left
           ·simp only [Act.put, sa_, s0_, ss_, i64_w, i32_w]; rfl
           refine tk_ 11 (some 23) ?_ b20_12 rfl rfl HT_.out HW_.out (by kernel_rfl) (fun _ _ _ h => h) (Or.inl ⟨by rfl, ?_⟩) hHeld ?_ ?_ ?_; rotate_left
           ·rintro w' ⟨s0, s1, s2, s3, s4, s5⟩; go_simp; with_reducible rfl
           rotate_left
           ·simp only [Act.put, sa_, s0_, ss_, i64_w, i32_w]; rfl
           refine tk_ 12 (some 24) ?_ b20_13 rfl rfl HT_.out HW_.out (by kernel_rfl) (fun _ _ _ h => h) (Or.inl ⟨by rfl, ?_⟩) hHeld ?_ ?_ ?_; rotate_left
           ·rintro w' ⟨s0, s1, s2, s3, s4, s5⟩; go_simp; with_reducible rfl
           rotate_left
           ·simp only [Act.put, sa_, s0_, ss_, i64_w, i32_w]; rfl
           refine one_ (i := 13) (N := some 25) b20_14 rfl rfl (one_of HT_.out (by kernel_rfl)) (by decide) (fun K hK => ?_)
           refine goes_ Try.func28 (by kernel_rfl) rfl #[.agg #[.int .i64 ((rd_T34 l0 (ji8)).f0), .string ((rd_T34 l0 (ji8)).f1), .string ((rd_T34 l0 (ji8)).f2)], .agg #[.int .i64 ((rd_T34 l0 x7_1).f0), .string ((rd_T34 l0 x7_1).f1), .string ((rd_T34 l0 x7_1).f2)]] (by rfl) rfl rfl (by (try simp only [List.map_toArray, List.map_cons, List.map_nil]); first | done | (simp only [hji8]; rfl) | rfl | (simp only [List.length_drop, List.length_take]; rfl)) ?_
           with_reducible refine (impl_compareKeys.calls k1 ((rd_T34 l0 (ji8)).f0) ((rd_T34 l0 (ji8)).f1) ((rd_T34 l0 (ji8)).f2) ((rd_T34 l0 x7_1).f0) ((rd_T34 l0 x7_1).f1) ((rd_T34 l0 x7_1).f2) t211 _ A11.out).mono ?_
           rintro e w18 ⟨rfl, hb⟩
           refine ⟨_, rfl, ?_⟩
           replace BK208 := am (blk_below (pk BK208.out) hb)
           replace HB := am (below_step (bl HB.out) hb)
           (try clear hb)
           (try clear hb2)
           (try clear hk)
           (try clear hi)
           refine hK.out _ _ ⟨bc BK208.out 0, bc BK208.out 1, bc BK208.out 2, ((HB.out.cell (World.block_lt_of_cell? _ _ hw210_0)).trans hw210_0), ((HB.out.cell (World.block_lt_of_cell? _ _ hw210_1)).trans hw210_1), ((HB.out.cell (World.block_lt_of_cell? _ _ hw210_2)).trans hw210_2)⟩ (fun hHeld => ?_)
           clear hK K
           refine norm_ (a' := ?_) ?_ ?_
           rotate_left
           ·show Act.put _ (some 25) _ = _
            simp only [Act.put, sa_, s0_, ss_, i64_w, i32_w]
            rfl
           refine pu_ 14 (some 26) ?_ b20_15 rfl rfl HT_.out (by kernel_rfl) (fun _ _ _ h => h) (Or.inl ⟨by rfl, ?_⟩) ?_ ?_ ?_; rotate_left
           ·intro w'; go_simp; with_reducible rfl
           rotate_left
           ·simp only [Act.put, sa_, s0_, ss_, i64_w, i32_w]; rfl
           refine pu_ 15 (some 27) ?_ b20_16 rfl rfl HT_.out (by kernel_rfl) (fun _ _ _ h => h) (Or.inl ⟨by rfl, ?_⟩) ?_ ?_ ?_; rotate_left
           ·intro w'; go_simp; with_reducible rfl
           rotate_left
           ·simp only [Act.put, sa_, s0_, ss_, i64_w, i32_w]; rfl
           refine pu_ 16 (some 28) ?_ b20_17 rfl rfl HT_.out (by kernel_rfl) (fun _ _ _ h => h) (Or.inl ⟨by rfl, ?_⟩) ?_ ?_ ?_; rotate_left
           ·intro w'; go_simp; with_reducible rfl
           rotate_left
           ·simp only [Act.put, sa_, s0_, ss_, i64_w, i32_w]; rfl
           refine done_ (done_of HT_.out (by kernel_rfl)) ?_
           try go_wp2
           go_ret
           exact ⟨by first | rfl | (simp [errW_none, errW_some] <;> rfl) | (simp only [← hji8]; first | rfl | (simp [errW_none, errW_some] <;> rfl)) | (simp [*, errW_none, errW_some] <;> rfl), by repeat (first | (with_reducible first | exact HB.out | apply below_alloc | apply pw_below_drewN | apply below_drew1 | refine below_set ?_ GE208.out) | exact HB.out)⟩
          ·rw [if_neg c12] at H
           have c12b0 : decide (0 ≤ t211) = false := decide_eq_false c12
           clear c12
           have H' := Aside0.mk H
           clear H
           have p207 : 0 ≤ (x7_1 : Int) := of_decide_eq_true (by first | (with_reducible assumption) | assumption)
           have q207 : x7_1 < (l0.length : Int) := of_decide_eq_true (by first | (with_reducible assumption) | assumption)
           obtain ⟨ad207, e207, hx207_0, hx207_1, hx207_2⟩ := at_T34 HR0.out x7_1 p207 q207
           cases e207
           replace hx207_0 := (HB.out.cell (World.block_lt_of_cell? w _ hx207_0)).trans hx207_0
           replace hx207_1 := (HB.out.cell (World.block_lt_of_cell? w _ hx207_1)).trans hx207_1
           replace hx207_2 := (HB.out.cell (World.block_lt_of_cell? w _ hx207_2)).trans hx207_2
           replace p207 := eq_true p207
           replace q207 := eq_true q207
           try go_wp2_with (first | ((with_reducible refine gate_dst (N := 4) rfl ?_); refine box_event ?hg (N := 4) ?hd (cs := #[.int .i64 0, .string (⟨#[]⟩ : ByteArray), .string (⟨#[]⟩ : ByteArray)]) (t := 34) ?hr ?_; (case hd => rfl); (case hg => rfl); (case hr => first | (go_simp; done) | (go_simp; rfl)); intro gb208 hg w19 hbox hb; have BK208 := am (hbox); have GW208 := am ((by rw [hg]; exact (below_size (bl HB.out)) : w.heap.size ≤ gb208)); have GE208 := GW208; replace HB := am (below_step (bl HB.out) hb); clear hb hbox hg; have hcz20_0 : w19.cell? ⟨gb208, 0, none⟩ = some (.int .i64 0) := bc BK208.out 0; have hcz20_1 : w19.cell? ⟨gb208, 1, none⟩ = some (.string (⟨#[]⟩ : ByteArray)) := bc BK208.out 1; have hcz20_2 : w19.cell? ⟨gb208, 2, none⟩ = some (.string (⟨#[]⟩ : ByteArray)) := bc BK208.out 2; have hfz20_0 := blk_frozen BK208.out 0; have hfz20_1 := blk_frozen BK208.out 1; have hfz20_2 := blk_frozen BK208.out 2))
           have n0_ : Aside0 ((((w19.setCell ⟨gb208, 0, none⟩ (.int .i64 ((rd_T34 l0 x7_1).f0))).setCell ⟨gb208, 1, none⟩ (.string ((rd_T34 l0 x7_1).f1))).setCell ⟨gb208, 2, none⟩ (.string ((rd_T34 l0 x7_1).f2))).heap[gb208]? = some (.cells #[.int .i64 ((rd_T34 l0 x7_1).f0), .string ((rd_T34 l0 x7_1).f1), .string ((rd_T34 l0 x7_1).f2)] 34 (0, 0))) := ⟨by refine pk ?_; refine blk_put (cs := #[.int .i64 ((rd_T34 l0 x7_1).f0), .string ((rd_T34 l0 x7_1).f1), .string (⟨#[]⟩ : ByteArray)]) ?_ 2 _ rfl; refine pk ?_; refine blk_put (cs := #[.int .i64 ((rd_T34 l0 x7_1).f0), .string (⟨#[]⟩ : ByteArray), .string (⟨#[]⟩ : ByteArray)]) ?_ 1 _ rfl; refine pk ?_; refine blk_put (cs := #[.int .i64 0, .string (⟨#[]⟩ : ByteArray), .string (⟨#[]⟩ : ByteArray)]) ?_ 0 _ rfl; refine pk ?_; exact BK208.out⟩
           have n1_ : Aside0 (Below w.heap.size w (((w19.setCell ⟨gb208, 0, none⟩ (.int .i64 ((rd_T34 l0 x7_1).f0))).setCell ⟨gb208, 1, none⟩ (.string ((rd_T34 l0 x7_1).f1))).setCell ⟨gb208, 2, none⟩ (.string ((rd_T34 l0 x7_1).f2)))) := ⟨by repeat (first | (with_reducible first | exact HB.out | apply below_alloc | apply pw_below_drewN | apply below_drew1 | refine below_set ?_ GE208.out) | exact HB.out)⟩
           (try clear BK208)
           (try clear HB)
           generalize (((w19.setCell ⟨gb208, 0, none⟩ (.int .i64 ((rd_T34 l0 x7_1).f0))).setCell ⟨gb208, 1, none⟩ (.string ((rd_T34 l0 x7_1).f1))).setCell ⟨gb208, 2, none⟩ (.string ((rd_T34 l0 x7_1).f2))) = w21 at n0_ n1_ ⊢
           have BK208 := n0_
           have HB := n1_
           clear n0_ n1_
           replace BK208 := am (blk_drew BK208.out)
           replace HB := am (below_drew1 HB.out)
           have p210 : 0 ≤ ((ji8) : Int) := of_decide_eq_true (by first | (with_reducible assumption) | assumption)
           have q210 : (ji8) < (l0.length : Int) := of_decide_eq_true (by first | (with_reducible assumption) | assumption)
           obtain ⟨ad210, e210, hx210_0, hx210_1, hx210_2⟩ := at_T34 HR0.out (ji8) p210 q210
           have hw210_2 := hx210_2
           have hw210_1 := hx210_1
           have hw210_0 := hx210_0
           obtain rfl : ad207 = ad210 := (by injection e210)
           replace hx210_0 := (HB.out.cell (World.block_lt_of_cell? w _ hx210_0)).trans hx210_0
           replace hx210_1 := (HB.out.cell (World.block_lt_of_cell? w _ hx210_1)).trans hx210_1
           replace hx210_2 := (HB.out.cell (World.block_lt_of_cell? w _ hx210_2)).trans hx210_2
           replace p210 := eq_true p210
           replace q210 := eq_true q210
           refine start_ (n := 17) (S := fun w' => w'.cell? ⟨gb208, 0, none⟩ = some (.int .i64 ((rd_T34 l0 x7_1).f0)) ∧ w'.cell? ⟨gb208, 1, none⟩ = some (.string ((rd_T34 l0 x7_1).f1)) ∧ w'.cell? ⟨gb208, 2, none⟩ = some (.string ((rd_T34 l0 x7_1).f2)) ∧ w'.cell? (ad207.add (((ji8)).toNat * 3)) = some (.int .i64 ((rd_T34 l0 (ji8)).f0)) ∧ w'.cell? ⟨(ad207.add (((ji8)).toNat * 3)).block, (ad207.add (((ji8)).toNat * 3)).off + 1, none⟩ = some (.string ((rd_T34 l0 (ji8)).f1)) ∧ w'.cell? ⟨(ad207.add (((ji8)).toNat * 3)).block, (ad207.add (((ji8)).toNat * 3)).off + 2, none⟩ = some (.string ((rd_T34 l0 (ji8)).f2))) (ds := []) b20_0 (by kernel_rfl) rfl rfl ⟨bc BK208.out 0, bc BK208.out 1, bc BK208.out 2, ((HB.out.cell (World.block_lt_of_cell? _ _ hw210_0)).trans hw210_0), ((HB.out.cell (World.block_lt_of_cell? _ _ hw210_1)).trans hw210_1), ((HB.out.cell (World.block_lt_of_cell? _ _ hw210_2)).trans hw210_2)⟩ (fun hHeld => ?_); refine with_tabW impl_KeysRight.tab4 impl_KeysRight.bits4 (fun HT_ HW_ => ?_)
           generalize w21.drew = w22 at BK208 HB hx210_0 hx210_1 hx210_2 hHeld ⊢
           refine tk_ 0 (some 12) ?_ b20_1 rfl rfl HT_.out HW_.out (by kernel_rfl) (fun _ _ _ h => h) (Or.inl ⟨by rfl, ?_⟩) hHeld ?_ ?_ ?_; rotate_left
           ·rintro w' ⟨s0, s1, s2, s3, s4, s5⟩; go_simp; with_reducible rfl
           rotate_left
           ·simp only [Act.put, sa_, s0_, ss_, i64_w, i32_w]; rfl
           refine one_ (i := 1) (N := some 13) b20_2 rfl rfl (one_of HT_.out (by kernel_rfl)) (by decide) (fun K hK => ?_)
           refine gs_ Try.func26 #[.agg #[.int .i64 ((rd_T34 l0 x7_1).f0), .string ((rd_T34 l0 x7_1).f1), .string ((rd_T34 l0 x7_1).f2)]] ?_
           with_reducible refine (impl_keyRight.calls k1 ((rd_T34 l0 x7_1).f0) ((rd_T34 l0 x7_1).f1) ((rd_T34 l0 x7_1).f2) true _ A5.out).mono ?_
           rintro e w23 ⟨rfl, hb⟩
           refine ⟨_, rfl, ?_⟩
           replace BK208 := am (blk_below (pk BK208.out) hb)
           replace HB := am (below_step (bl HB.out) hb)
           (try clear hb)
           (try clear hb2)
           (try clear hk)
           (try clear hi)
           refine hK.out _ _ ⟨bc BK208.out 0, bc BK208.out 1, bc BK208.out 2, ((HB.out.cell (World.block_lt_of_cell? _ _ hw210_0)).trans hw210_0), ((HB.out.cell (World.block_lt_of_cell? _ _ hw210_1)).trans hw210_1), ((HB.out.cell (World.block_lt_of_cell? _ _ hw210_2)).trans hw210_2)⟩ (fun hHeld => ?_)
           clear hK K
           refine norm_ (a' := ?_) ?_ ?_
           rotate_left
           ·show Act.put _ (some 13) _ = _
            simp only [Act.put, sa_, s0_, ss_, i64_w, i32_w]
            rfl
           refine pu_ 2 (some 14) ?_ b20_3 rfl rfl HT_.out (by kernel_rfl) (fun _ _ _ h => h) (Or.inl ⟨by rfl, ?_⟩) ?_ ?_ ?_; rotate_left
           ·intro w'; go_simp; with_reducible rfl
           rotate_left
           ·simp only [Act.put, sa_, s0_, ss_, i64_w, i32_w]; rfl
           refine pu_ 3 (some 15) ?_ b20_4 rfl rfl HT_.out (by kernel_rfl) (fun _ _ _ h => h) (Or.inl ⟨by rfl, ?_⟩) ?_ ?_ ?_; rotate_left
           ·intro w'; go_simp; with_reducible rfl
           rotate_left
           ·simp only [Act.put, sa_, s0_, ss_, i64_w, i32_w]; rfl
           refine pu_ 4 (some 16) ?_ b20_5 rfl rfl HT_.out (by kernel_rfl) (fun _ _ _ h => h) (Or.inl ⟨by rfl, ?_⟩) ?_ ?_ ?_; rotate_left
           ·intro w'; go_simp; with_reducible rfl
           rotate_left
           ·simp only [Act.put, sa_, s0_, ss_, i64_w, i32_w]; rfl
           refine pu_ 5 (some 17) ?_ b20_6 rfl rfl HT_.out (by kernel_rfl) (fun _ _ _ h => h) (Or.inl ⟨by rfl, ?_⟩) ?_ ?_ ?_; rotate_left
           ·intro w'; go_simp; with_reducible rfl
           rotate_left
           ·simp only [Act.put, sa_, s0_, ss_, i64_w, i32_w]; rfl
           refine pu_ 6 (some 18) ?_ b20_7 rfl rfl HT_.out (by kernel_rfl) (fun _ _ _ h => h) (Or.inl ⟨by rfl, ?_⟩) ?_ ?_ ?_; rotate_left
           ·intro w'; go_simp; with_reducible rfl
           rotate_left
           ·simp only [Act.put, sa_, s0_, ss_, i64_w, i32_w]; rfl
           refine pu_ 7 (some 19) ?_ b20_8 rfl rfl HT_.out (by kernel_rfl) (fun _ _ _ h => h) (Or.inl ⟨by rfl, ?_⟩) ?_ ?_ ?_; rotate_left
           ·intro w'; go_simp; with_reducible rfl
           rotate_left
           ·simp only [Act.put, sa_, s0_, ss_, i64_w, i32_w]; rfl
           refine pu_ 8 (some 20) ?_ b20_9 rfl rfl HT_.out (by kernel_rfl) (fun _ _ _ h => h) (Or.inl ⟨by rfl, ?_⟩) ?_ ?_ ?_; rotate_left
           ·intro w'; go_simp; with_reducible rfl
           rotate_left
           ·simp only [Act.put, sa_, s0_, ss_, i64_w, i32_w]; rfl
           refine pu_ 9 (some 21) ?_ b20_10 rfl rfl HT_.out (by kernel_rfl) (fun _ _ _ h => h) (Or.inl ⟨by rfl, ?_⟩) ?_ ?_ ?_; rotate_left
           ·intro w'; go_simp; with_reducible rfl
           rotate_left
           ·simp only [Act.put, sa_, s0_, ss_, i64_w, i32_w]; rfl
           refine pu_ 10 (some 22) ?_ b20_11 rfl rfl HT_.out (by kernel_rfl) (fun _ _ _ h => h) (Or.inl ⟨by rfl, ?_⟩) ?_ ?_ ?_; rotate_left
           ·intro w'; go_simp; with_reducible rfl
           rotate_left
           ·simp only [Act.put, sa_, s0_, ss_, i64_w, i32_w]; rfl
           refine tk_ 11 (some 23) ?_ b20_12 rfl rfl HT_.out HW_.out (by kernel_rfl) (fun _ _ _ h => h) (Or.inl ⟨by rfl, ?_⟩) hHeld ?_ ?_ ?_; rotate_left
           ·rintro w' ⟨s0, s1, s2, s3, s4, s5⟩; go_simp; with_reducible rfl
           rotate_left
           ·simp only [Act.put, sa_, s0_, ss_, i64_w, i32_w]; rfl
           refine tk_ 12 (some 24) ?_ b20_13 rfl rfl HT_.out HW_.out (by kernel_rfl) (fun _ _ _ h => h) (Or.inl ⟨by rfl, ?_⟩) hHeld ?_ ?_ ?_; rotate_left
           ·rintro w' ⟨s0, s1, s2, s3, s4, s5⟩; go_simp; with_reducible rfl
           rotate_left
           ·simp only [Act.put, sa_, s0_, ss_, i64_w, i32_w]; rfl
           refine one_ (i := 13) (N := some 25) b20_14 rfl rfl (one_of HT_.out (by kernel_rfl)) (by decide) (fun K hK => ?_)
           refine goes_ Try.func28 (by kernel_rfl) rfl #[.agg #[.int .i64 ((rd_T34 l0 (ji8)).f0), .string ((rd_T34 l0 (ji8)).f1), .string ((rd_T34 l0 (ji8)).f2)], .agg #[.int .i64 ((rd_T34 l0 x7_1).f0), .string ((rd_T34 l0 x7_1).f1), .string ((rd_T34 l0 x7_1).f2)]] (by rfl) rfl rfl (by (try simp only [List.map_toArray, List.map_cons, List.map_nil]); first | done | (simp only [hji8]; rfl) | rfl | (simp only [List.length_drop, List.length_take]; rfl)) ?_
           with_reducible refine (impl_compareKeys.calls k1 ((rd_T34 l0 (ji8)).f0) ((rd_T34 l0 (ji8)).f1) ((rd_T34 l0 (ji8)).f2) ((rd_T34 l0 x7_1).f0) ((rd_T34 l0 x7_1).f1) ((rd_T34 l0 x7_1).f2) t211 _ A11.out).mono ?_
           rintro e w24 ⟨rfl, hb⟩
           refine ⟨_, rfl, ?_⟩
           replace BK208 := am (blk_below (pk BK208.out) hb)
           replace HB := am (below_step (bl HB.out) hb)
           (try clear hb)
           (try clear hb2)
           (try clear hk)
           (try clear hi)
           refine hK.out _ _ ⟨bc BK208.out 0, bc BK208.out 1, bc BK208.out 2, ((HB.out.cell (World.block_lt_of_cell? _ _ hw210_0)).trans hw210_0), ((HB.out.cell (World.block_lt_of_cell? _ _ hw210_1)).trans hw210_1), ((HB.out.cell (World.block_lt_of_cell? _ _ hw210_2)).trans hw210_2)⟩ (fun hHeld => ?_)
           clear hK K
           refine norm_ (a' := ?_) ?_ ?_
           rotate_left
           ·show Act.put _ (some 25) _ = _
            simp only [Act.put, sa_, s0_, ss_, i64_w, i32_w]
            rfl
           refine pu_ 14 (some 26) ?_ b20_15 rfl rfl HT_.out (by kernel_rfl) (fun _ _ _ h => h) (Or.inl ⟨by rfl, ?_⟩) ?_ ?_ ?_; rotate_left
           ·intro w'; go_simp; with_reducible rfl
           rotate_left
           ·simp only [Act.put, sa_, s0_, ss_, i64_w, i32_w]; rfl
           refine pu_ 15 (some 27) ?_ b20_16 rfl rfl HT_.out (by kernel_rfl) (fun _ _ _ h => h) (Or.inl ⟨by rfl, ?_⟩) ?_ ?_ ?_; rotate_left
           ·intro w'; go_simp; with_reducible rfl
           rotate_left
           ·simp only [Act.put, sa_, s0_, ss_, i64_w, i32_w]; rfl
           refine pu_ 16 (some 28) ?_ b20_17 rfl rfl HT_.out (by kernel_rfl) (fun _ _ _ h => h) (Or.inl ⟨by rfl, ?_⟩) ?_ ?_ ?_; rotate_left
           ·intro w'; go_simp; with_reducible rfl
           rotate_left
           ·simp only [Act.put, sa_, s0_, ss_, i64_w, i32_w]; rfl
           refine done_ (done_of HT_.out (by kernel_rfl)) ?_
           try go_wp2
           go_roundg k1
           case measure => have := HK1.out; omega
           case rel => exact ⟨(wrap64 (x7_1 + 1)), (by first | rfl | (simp; done) | (simp [*]; done)), H', ⟨by have := HK1.out; omega⟩, ⟨by repeat (first | (with_reducible first | exact HB.out | apply below_alloc | apply pw_below_drewN | apply below_drew1 | refine below_set ?_ GE208.out) | exact HB.out)⟩⟩
         ·rw [if_neg c10] at H
          exact absurd H (by simp)
        ·rw [if_neg c9] at H
         exact absurd H (by simp)
       ·rw [if_neg c7] at H
        have c7b0 : decide (0 < x7_1) = false := decide_eq_false c7
        clear c7
        have H' := Aside0.mk H
        clear H
        have p207 : 0 ≤ (x7_1 : Int) := of_decide_eq_true (by first | (with_reducible assumption) | assumption)
        have q207 : x7_1 < (l0.length : Int) := of_decide_eq_true (by first | (with_reducible assumption) | assumption)
        obtain ⟨ad207, e207, hx207_0, hx207_1, hx207_2⟩ := at_T34 HR0.out x7_1 p207 q207
        cases e207
        replace hx207_0 := (HB.out.cell (World.block_lt_of_cell? w _ hx207_0)).trans hx207_0
        replace hx207_1 := (HB.out.cell (World.block_lt_of_cell? w _ hx207_1)).trans hx207_1
        replace hx207_2 := (HB.out.cell (World.block_lt_of_cell? w _ hx207_2)).trans hx207_2
        replace p207 := eq_true p207
        replace q207 := eq_true q207
        try go_wp2_with (first | ((with_reducible refine gate_dst (N := 4) rfl ?_); refine box_event ?hg (N := 4) ?hd (cs := #[.int .i64 0, .string (⟨#[]⟩ : ByteArray), .string (⟨#[]⟩ : ByteArray)]) (t := 34) ?hr ?_; (case hd => rfl); (case hg => rfl); (case hr => first | (go_simp; done) | (go_simp; rfl)); intro gb208 hg w25 hbox hb; have BK208 := am (hbox); have GW208 := am ((by rw [hg]; exact (below_size (bl HB.out)) : w.heap.size ≤ gb208)); have GE208 := GW208; replace HB := am (below_step (bl HB.out) hb); clear hb hbox hg; have hcz26_0 : w25.cell? ⟨gb208, 0, none⟩ = some (.int .i64 0) := bc BK208.out 0; have hcz26_1 : w25.cell? ⟨gb208, 1, none⟩ = some (.string (⟨#[]⟩ : ByteArray)) := bc BK208.out 1; have hcz26_2 : w25.cell? ⟨gb208, 2, none⟩ = some (.string (⟨#[]⟩ : ByteArray)) := bc BK208.out 2; have hfz26_0 := blk_frozen BK208.out 0; have hfz26_1 := blk_frozen BK208.out 1; have hfz26_2 := blk_frozen BK208.out 2))
        have n0_ : Aside0 ((((w25.setCell ⟨gb208, 0, none⟩ (.int .i64 ((rd_T34 l0 x7_1).f0))).setCell ⟨gb208, 1, none⟩ (.string ((rd_T34 l0 x7_1).f1))).setCell ⟨gb208, 2, none⟩ (.string ((rd_T34 l0 x7_1).f2))).heap[gb208]? = some (.cells #[.int .i64 ((rd_T34 l0 x7_1).f0), .string ((rd_T34 l0 x7_1).f1), .string ((rd_T34 l0 x7_1).f2)] 34 (0, 0))) := ⟨by refine pk ?_; refine blk_put (cs := #[.int .i64 ((rd_T34 l0 x7_1).f0), .string ((rd_T34 l0 x7_1).f1), .string (⟨#[]⟩ : ByteArray)]) ?_ 2 _ rfl; refine pk ?_; refine blk_put (cs := #[.int .i64 ((rd_T34 l0 x7_1).f0), .string (⟨#[]⟩ : ByteArray), .string (⟨#[]⟩ : ByteArray)]) ?_ 1 _ rfl; refine pk ?_; refine blk_put (cs := #[.int .i64 0, .string (⟨#[]⟩ : ByteArray), .string (⟨#[]⟩ : ByteArray)]) ?_ 0 _ rfl; refine pk ?_; exact BK208.out⟩
        have n1_ : Aside0 (Below w.heap.size w (((w25.setCell ⟨gb208, 0, none⟩ (.int .i64 ((rd_T34 l0 x7_1).f0))).setCell ⟨gb208, 1, none⟩ (.string ((rd_T34 l0 x7_1).f1))).setCell ⟨gb208, 2, none⟩ (.string ((rd_T34 l0 x7_1).f2)))) := ⟨by repeat (first | (with_reducible first | exact HB.out | apply below_alloc | apply pw_below_drewN | apply below_drew1 | refine below_set ?_ GE208.out) | exact HB.out)⟩
        (try clear BK208)
        (try clear HB)
        generalize (((w25.setCell ⟨gb208, 0, none⟩ (.int .i64 ((rd_T34 l0 x7_1).f0))).setCell ⟨gb208, 1, none⟩ (.string ((rd_T34 l0 x7_1).f1))).setCell ⟨gb208, 2, none⟩ (.string ((rd_T34 l0 x7_1).f2))) = w27 at n0_ n1_ ⊢
        have BK208 := n0_
        have HB := n1_
        clear n0_ n1_
        replace BK208 := am (blk_drew BK208.out)
        replace HB := am (below_drew1 HB.out)
        refine start_ (n := 17) (S := fun w' => w'.cell? ⟨gb208, 0, none⟩ = some (.int .i64 ((rd_T34 l0 x7_1).f0)) ∧ w'.cell? ⟨gb208, 1, none⟩ = some (.string ((rd_T34 l0 x7_1).f1)) ∧ w'.cell? ⟨gb208, 2, none⟩ = some (.string ((rd_T34 l0 x7_1).f2))) (ds := []) b20_0 (by kernel_rfl) rfl rfl ⟨bc BK208.out 0, bc BK208.out 1, bc BK208.out 2⟩ (fun hHeld => ?_); refine with_tabW impl_KeysRight.tab4 impl_KeysRight.bits4 (fun HT_ HW_ => ?_)
        generalize w27.drew = w28 at BK208 HB hHeld ⊢
        refine tk_ 0 (some 12) ?_ b20_1 rfl rfl HT_.out HW_.out (by kernel_rfl) (fun _ _ _ h => h) (Or.inl ⟨by rfl, ?_⟩) hHeld ?_ ?_ ?_; rotate_left
        ·rintro w' ⟨s0, s1, s2⟩; go_simp; with_reducible rfl
        rotate_left
        ·simp only [Act.put, sa_, s0_, ss_, i64_w, i32_w]; rfl
        refine one_ (i := 1) (N := some 13) b20_2 rfl rfl (one_of HT_.out (by kernel_rfl)) (by decide) (fun K hK => ?_)
        refine gs_ Try.func26 #[.agg #[.int .i64 ((rd_T34 l0 x7_1).f0), .string ((rd_T34 l0 x7_1).f1), .string ((rd_T34 l0 x7_1).f2)]] ?_
        with_reducible refine (impl_keyRight.calls k1 ((rd_T34 l0 x7_1).f0) ((rd_T34 l0 x7_1).f1) ((rd_T34 l0 x7_1).f2) true _ A5.out).mono ?_
        rintro e w29 ⟨rfl, hb⟩
        refine ⟨_, rfl, ?_⟩
        replace BK208 := am (blk_below (pk BK208.out) hb)
        replace HB := am (below_step (bl HB.out) hb)
        (try clear hb)
        (try clear hb2)
        (try clear hk)
        (try clear hi)
        refine hK.out _ _ ⟨bc BK208.out 0, bc BK208.out 1, bc BK208.out 2⟩ (fun hHeld => ?_)
        clear hK K
        refine norm_ (a' := ?_) ?_ ?_
        rotate_left
        ·show Act.put _ (some 13) _ = _
         simp only [Act.put, sa_, s0_, ss_, i64_w, i32_w]
         rfl
        refine pu_ 2 (some 14) ?_ b20_3 rfl rfl HT_.out (by kernel_rfl) (fun _ _ _ h => h) (Or.inl ⟨by rfl, ?_⟩) ?_ ?_ ?_; rotate_left
        ·intro w'; go_simp; with_reducible rfl
        rotate_left
        ·simp only [Act.put, sa_, s0_, ss_, i64_w, i32_w]; rfl
        refine pu_ 3 (some 15) ?_ b20_4 rfl rfl HT_.out (by kernel_rfl) (fun _ _ _ h => h) (Or.inl ⟨by rfl, ?_⟩) ?_ ?_ ?_; rotate_left
        ·intro w'; go_simp; with_reducible rfl
        rotate_left
        ·simp only [Act.put, sa_, s0_, ss_, i64_w, i32_w]; rfl
        refine pu_ 4 (some 16) ?_ b20_5 rfl rfl HT_.out (by kernel_rfl) (fun _ _ _ h => h) (Or.inl ⟨by rfl, ?_⟩) ?_ ?_ ?_; rotate_left
        ·intro w'; go_simp; with_reducible rfl
        rotate_left
        ·simp only [Act.put, sa_, s0_, ss_, i64_w, i32_w]; rfl
        refine pu_ 5 (some 17) ?_ b20_6 rfl rfl HT_.out (by kernel_rfl) (fun _ _ _ h => h) (Or.inl ⟨by rfl, ?_⟩) ?_ ?_ ?_; rotate_left
        ·intro w'; go_simp; with_reducible rfl
        rotate_left
        ·simp only [Act.put, sa_, s0_, ss_, i64_w, i32_w]; rfl
        refine pu_ 6 (some 18) ?_ b20_7 rfl rfl HT_.out (by kernel_rfl) (fun _ _ _ h => h) (Or.inl ⟨by rfl, ?_⟩) ?_ ?_ ?_; rotate_left
        ·intro w'; go_simp; with_reducible rfl
        rotate_left
        ·simp only [Act.put, sa_, s0_, ss_, i64_w, i32_w]; rfl
        refine pu_ 7 (some 19) undef b20_8 rfl rfl HT_.out (by kernel_rfl) (fun _ _ _ h => h) (Or.inr ⟨by rfl, rfl⟩) ?_ ?_ ?_; rotate_left
        ·simp only [Act.put, sa_, s0_, ss_, i64_w, i32_w]; rfl
        refine pu_ 8 (some 20) undef b20_9 rfl rfl HT_.out (by kernel_rfl) (fun _ _ _ h => h) (Or.inr ⟨by rfl, rfl⟩) ?_ ?_ ?_; rotate_left
        ·simp only [Act.put, sa_, s0_, ss_, i64_w, i32_w]; rfl
        refine pu_ 9 (some 21) undef b20_10 rfl rfl HT_.out (by kernel_rfl) (fun _ _ _ h => h) (Or.inr ⟨by rfl, rfl⟩) ?_ ?_ ?_; rotate_left
        ·simp only [Act.put, sa_, s0_, ss_, i64_w, i32_w]; rfl
        refine pu_ 10 (some 22) undef b20_11 rfl rfl HT_.out (by kernel_rfl) (fun _ _ _ h => h) (Or.inr ⟨by rfl, rfl⟩) ?_ ?_ ?_; rotate_left
        ·simp only [Act.put, sa_, s0_, ss_, i64_w, i32_w]; rfl
        refine pu_ 11 (some 23) undef b20_12 rfl rfl HT_.out (by kernel_rfl) (fun _ _ _ h => h) (Or.inr ⟨by rfl, rfl⟩) ?_ ?_ ?_; rotate_left
        ·simp only [Act.put, sa_, s0_, ss_, i64_w, i32_w]; rfl
        refine pu_ 12 (some 24) undef b20_13 rfl rfl HT_.out (by kernel_rfl) (fun _ _ _ h => h) (Or.inr ⟨by rfl, rfl⟩) ?_ ?_ ?_; rotate_left
        ·simp only [Act.put, sa_, s0_, ss_, i64_w, i32_w]; rfl
        refine pu_ 13 (some 25) undef b20_14 rfl rfl HT_.out (by kernel_rfl) (fun _ _ _ h => h) (Or.inr ⟨by rfl, rfl⟩) ?_ ?_ ?_; rotate_left
        ·simp only [Act.put, sa_, s0_, ss_, i64_w, i32_w]; rfl
        refine pu_ 14 (some 26) undef b20_15 rfl rfl HT_.out (by kernel_rfl) (fun _ _ _ h => h) (Or.inr ⟨by rfl, rfl⟩) ?_ ?_ ?_; rotate_left
        ·simp only [Act.put, sa_, s0_, ss_, i64_w, i32_w]; rfl
        refine pu_ 15 (some 27) ?_ b20_16 rfl rfl HT_.out (by kernel_rfl) (fun _ _ _ h => h) (Or.inl ⟨by rfl, ?_⟩) ?_ ?_ ?_; rotate_left
        ·intro w'; go_simp; with_reducible rfl
        rotate_left
        ·simp only [Act.put, sa_, s0_, ss_, i64_w, i32_w]; rfl
        refine pu_ 16 (some 28) ?_ b20_17 rfl rfl HT_.out (by kernel_rfl) (fun _ _ _ h => h) (Or.inl ⟨by rfl, ?_⟩) ?_ ?_ ?_; rotate_left
        ·intro w'; go_simp; with_reducible rfl
        rotate_left
        ·simp only [Act.put, sa_, s0_, ss_, i64_w, i32_w]; rfl
        refine done_ (done_of HT_.out (by kernel_rfl)) ?_
        try go_wp2
        go_roundg k1
        case measure => have := HK1.out; omega
        case rel => exact ⟨(wrap64 (x7_1 + 1)), (by first | rfl | (simp; done) | (simp [*]; done)), H', ⟨by have := HK1.out; omega⟩, ⟨by repeat (first | (with_reducible first | exact HB.out | apply below_alloc | apply pw_below_drewN | apply below_drew1 | refine below_set ?_ GE208.out) | exact HB.out)⟩⟩
      ·replace c6 := Bool.eq_false_iff.mpr c6
       subst c6
       have H1 : (some false) = some r := by rw [if_neg (show ¬ (false = true) by decide)] at H; exact H
       clear H
       have H := H1
       clear H1
       obtain rfl := Option.some.inj H
       have p207 : 0 ≤ (x7_1 : Int) := of_decide_eq_true (by first | (with_reducible assumption) | assumption)
       have q207 : x7_1 < (l0.length : Int) := of_decide_eq_true (by first | (with_reducible assumption) | assumption)
       obtain ⟨ad207, e207, hx207_0, hx207_1, hx207_2⟩ := at_T34 HR0.out x7_1 p207 q207
       cases e207
       replace hx207_0 := (HB.out.cell (World.block_lt_of_cell? w _ hx207_0)).trans hx207_0
       replace hx207_1 := (HB.out.cell (World.block_lt_of_cell? w _ hx207_1)).trans hx207_1
       replace hx207_2 := (HB.out.cell (World.block_lt_of_cell? w _ hx207_2)).trans hx207_2
       replace p207 := eq_true p207
       replace q207 := eq_true q207
       try go_wp2_with (first | ((with_reducible refine gate_dst (N := 4) rfl ?_); refine box_event ?hg (N := 4) ?hd (cs := #[.int .i64 0, .string (⟨#[]⟩ : ByteArray), .string (⟨#[]⟩ : ByteArray)]) (t := 34) ?hr ?_; (case hd => rfl); (case hg => rfl); (case hr => first | (go_simp; done) | (go_simp; rfl)); intro gb208 hg w30 hbox hb; have BK208 := am (hbox); have GW208 := am ((by rw [hg]; exact (below_size (bl HB.out)) : w.heap.size ≤ gb208)); have GE208 := GW208; replace HB := am (below_step (bl HB.out) hb); clear hb hbox hg; have hcz31_0 : w30.cell? ⟨gb208, 0, none⟩ = some (.int .i64 0) := bc BK208.out 0; have hcz31_1 : w30.cell? ⟨gb208, 1, none⟩ = some (.string (⟨#[]⟩ : ByteArray)) := bc BK208.out 1; have hcz31_2 : w30.cell? ⟨gb208, 2, none⟩ = some (.string (⟨#[]⟩ : ByteArray)) := bc BK208.out 2; have hfz31_0 := blk_frozen BK208.out 0; have hfz31_1 := blk_frozen BK208.out 1; have hfz31_2 := blk_frozen BK208.out 2))
       have n0_ : Aside0 ((((w30.setCell ⟨gb208, 0, none⟩ (.int .i64 ((rd_T34 l0 x7_1).f0))).setCell ⟨gb208, 1, none⟩ (.string ((rd_T34 l0 x7_1).f1))).setCell ⟨gb208, 2, none⟩ (.string ((rd_T34 l0 x7_1).f2))).heap[gb208]? = some (.cells #[.int .i64 ((rd_T34 l0 x7_1).f0), .string ((rd_T34 l0 x7_1).f1), .string ((rd_T34 l0 x7_1).f2)] 34 (0, 0))) := ⟨by refine pk ?_; refine blk_put (cs := #[.int .i64 ((rd_T34 l0 x7_1).f0), .string ((rd_T34 l0 x7_1).f1), .string (⟨#[]⟩ : ByteArray)]) ?_ 2 _ rfl; refine pk ?_; refine blk_put (cs := #[.int .i64 ((rd_T34 l0 x7_1).f0), .string (⟨#[]⟩ : ByteArray), .string (⟨#[]⟩ : ByteArray)]) ?_ 1 _ rfl; refine pk ?_; refine blk_put (cs := #[.int .i64 0, .string (⟨#[]⟩ : ByteArray), .string (⟨#[]⟩ : ByteArray)]) ?_ 0 _ rfl; refine pk ?_; exact BK208.out⟩
       have n1_ : Aside0 (Below w.heap.size w (((w30.setCell ⟨gb208, 0, none⟩ (.int .i64 ((rd_T34 l0 x7_1).f0))).setCell ⟨gb208, 1, none⟩ (.string ((rd_T34 l0 x7_1).f1))).setCell ⟨gb208, 2, none⟩ (.string ((rd_T34 l0 x7_1).f2)))) := ⟨by repeat (first | (with_reducible first | exact HB.out | apply below_alloc | apply pw_below_drewN | apply below_drew1 | refine below_set ?_ GE208.out) | exact HB.out)⟩
       (try clear BK208)
       (try clear HB)
       generalize (((w30.setCell ⟨gb208, 0, none⟩ (.int .i64 ((rd_T34 l0 x7_1).f0))).setCell ⟨gb208, 1, none⟩ (.string ((rd_T34 l0 x7_1).f1))).setCell ⟨gb208, 2, none⟩ (.string ((rd_T34 l0 x7_1).f2))) = w32 at n0_ n1_ ⊢
       have BK208 := n0_
       have HB := n1_
       clear n0_ n1_
       replace BK208 := am (blk_drew BK208.out)
       replace HB := am (below_drew1 HB.out)
       refine start_ (n := 17) (S := fun w' => w'.cell? ⟨gb208, 0, none⟩ = some (.int .i64 ((rd_T34 l0 x7_1).f0)) ∧ w'.cell? ⟨gb208, 1, none⟩ = some (.string ((rd_T34 l0 x7_1).f1)) ∧ w'.cell? ⟨gb208, 2, none⟩ = some (.string ((rd_T34 l0 x7_1).f2))) (ds := []) b20_0 (by kernel_rfl) rfl rfl ⟨bc BK208.out 0, bc BK208.out 1, bc BK208.out 2⟩ (fun hHeld => ?_); refine with_tabW impl_KeysRight.tab4 impl_KeysRight.bits4 (fun HT_ HW_ => ?_)
       generalize w32.drew = w33 at BK208 HB hHeld ⊢
       refine tk_ 0 (some 12) ?_ b20_1 rfl rfl HT_.out HW_.out (by kernel_rfl) (fun _ _ _ h => h) (Or.inl ⟨by rfl, ?_⟩) hHeld ?_ ?_ ?_; rotate_left
       ·rintro w' ⟨s0, s1, s2⟩; go_simp; with_reducible rfl
       rotate_left
       ·simp only [Act.put, sa_, s0_, ss_, i64_w, i32_w]; rfl
       refine one_ (i := 1) (N := some 13) b20_2 rfl rfl (one_of HT_.out (by kernel_rfl)) (by decide) (fun K hK => ?_)
       refine gs_ Try.func26 #[.agg #[.int .i64 ((rd_T34 l0 x7_1).f0), .string ((rd_T34 l0 x7_1).f1), .string ((rd_T34 l0 x7_1).f2)]] ?_
       with_reducible refine (impl_keyRight.calls k1 ((rd_T34 l0 x7_1).f0) ((rd_T34 l0 x7_1).f1) ((rd_T34 l0 x7_1).f2) false _ A5.out).mono ?_
       rintro e w34 ⟨rfl, hb⟩
       refine ⟨_, rfl, ?_⟩
       replace BK208 := am (blk_below (pk BK208.out) hb)
       replace HB := am (below_step (bl HB.out) hb)
       (try clear hb)
       (try clear hb2)
       (try clear hk)
       (try clear hi)
       refine hK.out _ _ ⟨bc BK208.out 0, bc BK208.out 1, bc BK208.out 2⟩ (fun hHeld => ?_)
       clear hK K
       refine norm_ (a' := ?_) ?_ ?_
       rotate_left
       ·show Act.put _ (some 13) _ = _
        simp only [Act.put, sa_, s0_, ss_, i64_w, i32_w]
        rfl
       refine pu_ 2 (some 14) ?_ b20_3 rfl rfl HT_.out (by kernel_rfl) (fun _ _ _ h => h) (Or.inl ⟨by rfl, ?_⟩) ?_ ?_ ?_; rotate_left
       ·intro w'; go_simp; with_reducible rfl
       rotate_left
       ·simp only [Act.put, sa_, s0_, ss_, i64_w, i32_w]; rfl
       refine pu_ 3 (some 15) ?_ b20_4 rfl rfl HT_.out (by kernel_rfl) (fun _ _ _ h => h) (Or.inl ⟨by rfl, ?_⟩) ?_ ?_ ?_; rotate_left
       ·intro w'; go_simp; with_reducible rfl
       rotate_left
       ·simp only [Act.put, sa_, s0_, ss_, i64_w, i32_w]; rfl
       refine pu_ 4 (some 16) undef b20_5 rfl rfl HT_.out (by kernel_rfl) (fun _ _ _ h => h) (Or.inr ⟨by rfl, rfl⟩) ?_ ?_ ?_; rotate_left
       ·simp only [Act.put, sa_, s0_, ss_, i64_w, i32_w]; rfl
       refine pu_ 5 (some 17) undef b20_6 rfl rfl HT_.out (by kernel_rfl) (fun _ _ _ h => h) (Or.inr ⟨by rfl, rfl⟩) ?_ ?_ ?_; rotate_left
       ·simp only [Act.put, sa_, s0_, ss_, i64_w, i32_w]; rfl
       refine pu_ 6 (some 18) undef b20_7 rfl rfl HT_.out (by kernel_rfl) (fun _ _ _ h => h) (Or.inr ⟨by rfl, rfl⟩) ?_ ?_ ?_; rotate_left
       ·simp only [Act.put, sa_, s0_, ss_, i64_w, i32_w]; rfl
       refine pu_ 7 (some 19) undef b20_8 rfl rfl HT_.out (by kernel_rfl) (fun _ _ _ h => h) (Or.inr ⟨by rfl, rfl⟩) ?_ ?_ ?_; rotate_left
       ·simp only [Act.put, sa_, s0_, ss_, i64_w, i32_w]; rfl
       refine pu_ 8 (some 20) undef b20_9 rfl rfl HT_.out (by kernel_rfl) (fun _ _ _ h => h) (Or.inr ⟨by rfl, rfl⟩) ?_ ?_ ?_; rotate_left
       ·simp only [Act.put, sa_, s0_, ss_, i64_w, i32_w]; rfl
       refine pu_ 9 (some 21) undef b20_10 rfl rfl HT_.out (by kernel_rfl) (fun _ _ _ h => h) (Or.inr ⟨by rfl, rfl⟩) ?_ ?_ ?_; rotate_left
       ·simp only [Act.put, sa_, s0_, ss_, i64_w, i32_w]; rfl
       refine pu_ 10 (some 22) undef b20_11 rfl rfl HT_.out (by kernel_rfl) (fun _ _ _ h => h) (Or.inr ⟨by rfl, rfl⟩) ?_ ?_ ?_; rotate_left
       ·simp only [Act.put, sa_, s0_, ss_, i64_w, i32_w]; rfl
       refine pu_ 11 (some 23) undef b20_12 rfl rfl HT_.out (by kernel_rfl) (fun _ _ _ h => h) (Or.inr ⟨by rfl, rfl⟩) ?_ ?_ ?_; rotate_left
       ·simp only [Act.put, sa_, s0_, ss_, i64_w, i32_w]; rfl
       refine pu_ 12 (some 24) undef b20_13 rfl rfl HT_.out (by kernel_rfl) (fun _ _ _ h => h) (Or.inr ⟨by rfl, rfl⟩) ?_ ?_ ?_; rotate_left
       ·simp only [Act.put, sa_, s0_, ss_, i64_w, i32_w]; rfl
       refine pu_ 13 (some 25) undef b20_14 rfl rfl HT_.out (by kernel_rfl) (fun _ _ _ h => h) (Or.inr ⟨by rfl, rfl⟩) ?_ ?_ ?_; rotate_left
       ·simp only [Act.put, sa_, s0_, ss_, i64_w, i32_w]; rfl
       refine pu_ 14 (some 26) undef b20_15 rfl rfl HT_.out (by kernel_rfl) (fun _ _ _ h => h) (Or.inr ⟨by rfl, rfl⟩) ?_ ?_ ?_; rotate_left
       ·simp only [Act.put, sa_, s0_, ss_, i64_w, i32_w]; rfl
       refine pu_ 15 (some 27) undef b20_16 rfl rfl HT_.out (by kernel_rfl) (fun _ _ _ h => h) (Or.inr ⟨by rfl, rfl⟩) ?_ ?_ ?_; rotate_left
       ·simp only [Act.put, sa_, s0_, ss_, i64_w, i32_w]; rfl
       refine pu_ 16 (some 28) ?_ b20_17 rfl rfl HT_.out (by kernel_rfl) (fun _ _ _ h => h) (Or.inl ⟨by rfl, ?_⟩) ?_ ?_ ?_; rotate_left
       ·intro w'; go_simp; with_reducible rfl
       rotate_left
       ·simp only [Act.put, sa_, s0_, ss_, i64_w, i32_w]; rfl
       refine done_ (done_of HT_.out (by kernel_rfl)) ?_
       try go_wp2
       go_ret
       exact ⟨by first | rfl | (simp [errW_none, errW_some] <;> rfl) | (simp [*, errW_none, errW_some] <;> rfl), by repeat (first | (with_reducible first | exact HB.out | apply below_alloc | apply pw_below_drewN | apply below_drew1 | refine below_set ?_ GE208.out) | exact HB.out)⟩
     ·rw [if_neg c4] at H
      exact absurd H (by simp)
    ·rw [if_neg c3] at H
     exact absurd H (by simp)
   ·rw [if_neg c2] at H
    have c2b0 : decide (x7_1 < (l0.length : Int)) = false := decide_eq_false c2
    clear c2
    obtain rfl := Option.some.inj H
    go_wp2
    go_ret
    exact ⟨by first | rfl | (simp [errW_none, errW_some] <;> rfl) | (simp [*, errW_none, errW_some] <;> rfl), by repeat (first | (with_reducible first | exact HB.out | apply below_alloc | apply pw_below_drewN | apply below_drew1) | exact HB.out)⟩

end Go.Proofs.Ytpllahncpjpfmaa.PFnExactKeyBind
