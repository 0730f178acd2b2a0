-- Written by xprint.py (this claim's own program, over the kit's printer); Lean checks it.
import Derived.Test.YtcjclihkaaaihaaPFnExactNodesVarsx0
import Derived.Test.YtcjclihkaaaihaaPFnExactNodesVarsx5
import Derived.Test.YtcjclihkaaaihaaPFnExactNodesVarsx6
namespace Go.Proofs.Ytcjclihkaaaihaa.PFnExactNodesVars
open Go.RowKit Go.Proofs.YtcjclihkaaaihaaW.PrintWords Go.Proofs.YtcjclihkaaaihaaW.PrintLast Go.Proofs.YtcjclihkaaaihaaW.PrintMore
attribute [local go_sem] max2_int min2_int max_two min_two max_three min_three max_four min_four   -- for this text's walks alone
set_option linter.unusedVariables false
set_option linter.unusedSimpArgs false   -- squeezed
set_option maxHeartbeats 8000000
set_option maxRecDepth 100000

/-! ### impl_fieldsRight: function 101 -/
@[reducible] def b101_0 : Array Bool := (br true [0, 10]).toArray
@[reducible] def b101_1 : Array Bool := (br true [1, 9]).toArray
@[reducible] def b101_2 : Array Bool := (br true [2, 8]).toArray
@[reducible] def b101_3 : Array Bool := (br true [3, 7]).toArray
@[reducible] def b101_4 : Array Bool := (br true [4, 6]).toArray
@[reducible] def b101_5 : Array Bool := (br true [7, 3]).toArray
@[reducible] def b101_6 : Array Bool := (br true [8, 2]).toArray
@[reducible] def b101_7 : Array Bool := (br true [9, 1]).toArray
@[reducible] def b101_8 : Array Bool := (br true [10]).toArray
def impl_fieldsRight.j0 : Nat → Int → Bool → Int → Int → ByteArray → Int → Option (Bool)
 | 0, _, _, _, _, _, _ => none
 | k + 1, x4, x5, x187000, x187001, x187002, x187003 => if x5 = true then (if x187001 = 0 then ((impl_isVarName.f k x187002).bind fun t187 => (some t187)) else (some false)) else (if x4 = 10 then (if x187001 = 0 then ((impl_moves.f).bind fun t188 => ((slices_Contains_sstring_string.f k t188 x187002).bind fun t191 => (some t191))) else (some false)) else (if x4 = 11 then (if x187002.toList = ([] : List UInt8) then ((impl_within.f x187001 0 999999999).bind fun t192 => (some t192)) else (some false)) else (if x187002.toList = ([] : List UInt8) then (some (x187001 == 0)) else (some false))))
def impl_fieldsRight.f (k : Nat) (a0_0 : Int) (a0_1 : Int) (a0_2 : ByteArray) (a0_3 : Int) : Option (Bool) := if a0_0 = 2 then (impl_fieldsRight.j0 k a0_0 (a0_0 == 2) a0_0 a0_1 a0_2 a0_3) else (impl_fieldsRight.j0 k a0_0 (a0_0 == 12) a0_0 a0_1 a0_2 a0_3)
theorem impl_fieldsRight.mono_l : ∀ k, (∀ y0 y1 y2 y3 y4 y5, LeO (impl_fieldsRight.j0 k y0 y1 y2 y3 y4 y5) (impl_fieldsRight.j0 (k + 1) y0 y1 y2 y3 y4 y5))
 | 0 => fun _ _ _ _ _ _ r h => by simp [impl_fieldsRight.j0] at h
 | k + 1 => by
  have ih0 := impl_fieldsRight.mono_l k
  ·intro y0 y1 y2 y3 y4 y5
   unfold impl_fieldsRight.j0
   repeat' first
   | (with_reducible exact ih0 _ _ _ _ _ _)
   | (with_reducible exact impl_isVarName.mono _ _)
   | (with_reducible exact slices_Contains_sstring_string.mono _ _ _)
   | (with_reducible exact LeO.refl _)
   | (with_reducible exact LeO.none _)
   | (with_reducible refine LeO.ite ?_ ?_)
   | (with_reducible refine LeO.bind ?_ (fun _ => ?_))
   | exact ih0 _ _ _ _ _ _
   | exact impl_isVarName.mono _ _
   | exact slices_Contains_sstring_string.mono _ _ _
   | refine LeO.bind ?_ (fun _ => ?_)
theorem impl_fieldsRight.mono : ∀ a0 a1 a2 a3 k, LeO (impl_fieldsRight.f k a0 a1 a2 a3) (impl_fieldsRight.f (k + 1) a0 a1 a2 a3) := by
 intro a0 a1 a2 a3 k
 have ih0 := impl_fieldsRight.mono_l k
 unfold impl_fieldsRight.f
 repeat' first
   | (with_reducible exact ih0 _ _ _ _ _ _)
   | (with_reducible exact impl_isVarName.mono _ _)
   | (with_reducible exact slices_Contains_sstring_string.mono _ _ _)
   | (with_reducible exact LeO.refl _)
   | (with_reducible exact LeO.none _)
   | (with_reducible refine LeO.ite ?_ ?_)
   | (with_reducible refine LeO.bind ?_ (fun _ => ?_))
   | exact ih0 _ _ _ _ _ _
   | exact impl_isVarName.mono _ _
   | exact slices_Contains_sstring_string.mono _ _ _
   | refine LeO.bind ?_ (fun _ => ?_)
def impl_fieldsRight.T6 : Bool × List (List Nat × List Nat) := (true, [([], []), ([0], [0]), ([1], [1]), ([2], [2]), ([3, 3], [3]), ([3], [3]), ([5, 3], [3, 5]), ([4, 6, 4, 3], [3, 4, 6]), ([3, 7], [3, 7]), ([8, 7, 0, 1, 2, 3, 4, 5, 6, 7, 8], [8])])
def impl_fieldsRight.B6 : List Nat := [0, 1, 3, 7, 15, 15, 47, 127, 255, 511]
theorem impl_fieldsRight.tab6 : rtab .any (opsOf Try.f101 6) = impl_fieldsRight.T6 := by kernel_rfl
theorem impl_fieldsRight.bits6 : waitsOk impl_fieldsRight.T6.2 impl_fieldsRight.B6 = true := by kernel_rfl
theorem impl_fieldsRight.calls (k : Nat) (a0_0 : Int) (a0_1 : Int) (a0_2 : ByteArray) (a0_3 : Int) (r : Bool) (w : World) (h : impl_fieldsRight.f k a0_0 a0_1 a0_2 a0_3 = some r) :
  Calls Try.prog 101 #[.agg #[.int .i64 a0_0, .int .i64 a0_1, .string a0_2, .int .i64 a0_3]] w fun e w' => e = .returned (.bool r) ∧ Below w.heap.size w w' := by
 have hu95 := Try.underlying95
 have HB := am (Below.refl w.heap.size w)
 have H : (if a0_0 = 2 then (impl_fieldsRight.j0 k a0_0 (a0_0 == 2) a0_0 a0_1 a0_2 a0_3) else (impl_fieldsRight.j0 k a0_0 (a0_0 == 12) a0_0 a0_1 a0_2 a0_3)) = some r := h
 clear h
 have HC2 := Aside0.mk H
 clear H
 go_enter Try.func101, Try.ntmps101
 go_upto_if 5 with (first | ((with_reducible refine gate_dst (N := 1) rfl ?_); refine box_event ?hg (N := 1) ?hd (cs := #[.int .i64 a0_0, .int .i64 a0_1, .string a0_2, .int .i64 a0_3]) (t := 95) ?hr ?_; (case hd => rfl); (case hg => rfl); (case hr => first | (go_simp; done) | (go_simp; rfl)); intro gb186 hg w3 hbox hb; have BK186 := am (hbox); have GW186 := am ((by rw [hg]; exact (below_size (bl HB.out)) : w.heap.size ≤ gb186)); have GE186 := GW186; replace HB := am (below_step (bl HB.out) hb); clear hb hbox hg; have hcz4_0 : w3.cell? ⟨gb186, 0, none⟩ = some (.int .i64 a0_0) := bc BK186.out 0; have hcz4_1 : w3.cell? ⟨gb186, 1, none⟩ = some (.int .i64 a0_1) := bc BK186.out 1; have hcz4_2 : w3.cell? ⟨gb186, 2, none⟩ = some (.string a0_2) := bc BK186.out 2; have hcz4_3 : w3.cell? ⟨gb186, 3, none⟩ = some (.int .i64 a0_3) := bc BK186.out 3))
 (try simp only [Act.put, sa_, s0_, ss_])
 go_cut [5] (fun v5 wc => ∃ (kq : Nat) (x5_1 : Bool), v5 = .bool x5_1 ∧ Aside0 (impl_fieldsRight.j0 kq a0_0 x5_1 a0_0 a0_1 a0_2 a0_3 = some r) ∧ Aside0 (kq ≤ k) ∧ Aside0 (wc.heap[gb186]? = some (.cells #[.int .i64 a0_0, .int .i64 a0_1, .string a0_2, .int .i64 a0_3] 95 (0, 0))) ∧ Aside0 (Below w.heap.size w wc))
 case first =>
  have H := HC2.out
  clear HC2
  by_cases c5 : a0_0 = 2
  ·rw [if_pos c5] at H
   have c5b0 : (a0_0 == 2) = true := beq_iff_eq.mpr c5
   have c5b1 : (a0_0 != 2) = false := bne_eq_false_iff_eq.mpr c5
   clear c5
   (first | rw [c5b0] | (simp only [i64_w, i32_w]; rw [c5b0]) | (have e9_ := c5b0; unfold bne at e9_; rw [e9_]) | skip)
   have H' := Aside0.mk H
   clear H
   go_wp2
   go_meet
   case rel => exact ⟨_, ((a0_0 == 2)), (by first | rfl | (simp; done) | (simp [*]; done)), H', ⟨by first | omega | exact Nat.le_refl _⟩, ⟨pk BK186.out⟩, ⟨by repeat (first | (with_reducible first | exact HB.out | apply below_alloc | apply pw_below_drewN | apply below_drew1 | refine below_set ?_ GE186.out) | exact HB.out)⟩⟩
  ·rw [if_neg c5] at H
   have c5b0 : (a0_0 == 2) = false := beq_eq_false_iff_ne.mpr c5
   have c5b1 : (a0_0 != 2) = true := bne_iff_ne.mpr c5
   (first | rw [c5b0] | (simp only [i64_w, i32_w]; rw [c5b0]) | (have e9_ := c5b0; unfold bne at e9_; rw [e9_]) | skip)
   have H' := Aside0.mk H
   clear H
   go_wp2
   go_meet
   case rel => exact ⟨_, ((a0_0 == 12)), (by first | rfl | (simp; done) | (simp [*]; done)), H', ⟨by first | omega | exact Nat.le_refl _⟩, ⟨pk BK186.out⟩, ⟨by repeat (first | (with_reducible first | exact HB.out | apply below_alloc | apply pw_below_drewN | apply below_drew1 | refine below_set ?_ GE186.out) | exact HB.out)⟩⟩
 case rest =>
  clear HC2
  try clear c1
  try clear p2
  try clear c5
  try clear c5b0
  try clear c5b1
  try clear hcz4_0
  try clear hcz4_1
  try clear hcz4_2
  try clear hcz4_3
  obtain ⟨kq, x5_1, rfl, HA, HJ1, BK186, HB⟩ := hcut
  cases kq with
  | zero => exact absurd HA.out (by simp [impl_fieldsRight.j0])
  | succ kj1 =>
   have H := HA.out
   clear HA
   simp only [impl_fieldsRight.j0] at H
   by_cases c6 : x5_1 = true
   ·subst c6
    have H1 : (if a0_1 = 0 then ((impl_isVarName.f kj1 a0_2).bind fun t187 => (some t187)) else (some false)) = some r := by rw [if_pos rfl] at H; exact H
    clear H
    have H := H1
    clear H1
    by_cases c7 : a0_1 = 0
    ·rw [if_pos c7] at H
     have c7b0 : (a0_1 == 0) = true := beq_iff_eq.mpr c7
     have c7b1 : (a0_1 != 0) = false := bne_eq_false_iff_eq.mpr c7
     clear c7
     replace H := Option.bind_eq_some_iff.mp H
     obtain ⟨t187, A80, H⟩ := H
     replace H : (some t187) = some r := H
     have A8 := Aside0.mk A80
     clear A80
     obtain rfl := Option.some.inj H
     have hcz9_0 : wc.cell? ⟨gb186, 0, none⟩ = some (.int .i64 a0_0) := bc BK186.out 0
     have hcz9_1 : wc.cell? ⟨gb186, 1, none⟩ = some (.int .i64 a0_1) := bc BK186.out 1
     have hcz9_2 : wc.cell? ⟨gb186, 2, none⟩ = some (.string a0_2) := bc BK186.out 2
     have hcz9_3 : wc.cell? ⟨gb186, 3, none⟩ = some (.int .i64 a0_3) := bc BK186.out 3
     go_wp2_with (first | (go_at_call 111; (with_reducible refine (impl_isVarName.calls kj1 a0_2 t187 _ A8.out).mono ?_); rintro e w10 ⟨rfl, hb⟩; replace BK186 := am (blk_below (pk BK186.out) hb); replace HB := am (below_step (bl HB.out) hb); (try clear hb); (try clear hb2); (try clear hk); (try clear hi)))
     go_ret
     exact ⟨by first | rfl | (simp [errW_none, errW_some] <;> rfl) | (simp [*, errW_none, errW_some] <;> rfl), by repeat (first | (with_reducible first | exact HB.out | apply below_alloc | apply pw_below_drewN | apply below_drew1 | refine below_set ?_ GE186.out) | exact HB.out)⟩
    ·rw [if_neg c7] at H
     have c7b0 : (a0_1 == 0) = false := beq_eq_false_iff_ne.mpr c7
     have c7b1 : (a0_1 != 0) = true := bne_iff_ne.mpr c7
     obtain rfl := Option.some.inj H
     have hcz11_0 : wc.cell? ⟨gb186, 0, none⟩ = some (.int .i64 a0_0) := bc BK186.out 0
     have hcz11_1 : wc.cell? ⟨gb186, 1, none⟩ = some (.int .i64 a0_1) := bc BK186.out 1
     have hcz11_2 : wc.cell? ⟨gb186, 2, none⟩ = some (.string a0_2) := bc BK186.out 2
     have hcz11_3 : wc.cell? ⟨gb186, 3, none⟩ = some (.int .i64 a0_3) := bc BK186.out 3
     go_wp2
     go_ret
     exact ⟨by first | rfl | (simp [errW_none, errW_some] <;> rfl) | (simp [*, errW_none, errW_some] <;> rfl), by repeat (first | (with_reducible first | exact HB.out | apply below_alloc | apply pw_below_drewN | apply below_drew1 | refine below_set ?_ GE186.out) | exact HB.out)⟩
   ·replace c6 := Bool.eq_false_iff.mpr c6
    subst c6
    have H1 : (if a0_0 = 10 then (if a0_1 = 0 then ((impl_moves.f).bind fun t188 => ((slices_Contains_sstring_string.f kj1 t188 a0_2).bind fun t191 => (some t191))) else (some false)) else (if a0_0 = 11 then (if a0_2.toList = ([] : List UInt8) then ((impl_within.f a0_1 0 999999999).bind fun t192 => (some t192)) else (some false)) else (if a0_2.toList = ([] : List UInt8) then (some (a0_1 == 0)) else (some false)))) = some r := by rw [if_neg (show ¬ (false = true) by decide)] at H; exact H
    clear H
    have H := H1
    clear H1
    by_cases c12 : a0_0 = 10
    ·rw [if_pos c12] at H
     have c12b0 : (a0_0 == 10) = true := beq_iff_eq.mpr c12
     have c12b1 : (a0_0 != 10) = false := bne_eq_false_iff_eq.mpr c12
     clear c12
     by_cases c13 : a0_1 = 0
     ·rw [if_pos c13] at H
      have c13b0 : (a0_1 == 0) = true := beq_iff_eq.mpr c13
      have c13b1 : (a0_1 != 0) = false := bne_eq_false_iff_eq.mpr c13
      clear c13
      replace H := Option.bind_eq_some_iff.mp H
      obtain ⟨t188, A140, H⟩ := H
      replace H : ((slices_Contains_sstring_string.f kj1 t188 a0_2).bind fun t191 => (some t191)) = some r := H
      have A14 := Aside0.mk A140
      clear A140
      replace H := Option.bind_eq_some_iff.mp H
      obtain ⟨t191, A150, H⟩ := H
      replace H : (some t191) = some r := H
      have A15 := Aside0.mk A150
      clear A150
      obtain rfl := Option.some.inj H
      try go_wp2
      replace BK186 := am (blk_drew BK186.out)
      replace HB := am (below_drew1 HB.out)
      refine start_ (n := 10) (S := fun w' => w'.cell? ⟨gb186, 0, none⟩ = some (.int .i64 a0_0) ∧ w'.cell? ⟨gb186, 1, none⟩ = some (.int .i64 a0_1) ∧ w'.cell? ⟨gb186, 2, none⟩ = some (.string a0_2) ∧ w'.cell? ⟨gb186, 3, none⟩ = some (.int .i64 a0_3)) (ds := []) b101_0 (by kernel_rfl) rfl rfl ⟨bc BK186.out 0, bc BK186.out 1, bc BK186.out 2, bc BK186.out 3⟩ (fun hHeld => ?_); refine with_tabW impl_fieldsRight.tab6 impl_fieldsRight.bits6 (fun HT_ HW_ => ?_)
      generalize wc.drew = w16 at BK186 HB hHeld ⊢
      refine pu_ 0 (some 18) ?_ b101_1 rfl rfl HT_.out (by kernel_rfl) (fun _ _ _ h => h) (Or.inl ⟨by rfl, ?_⟩) ?_ ?_ ?_; rotate_left
      ·intro w'; go_simp; with_reducible rfl
      rotate_left
      ·simp only [Act.put, sa_, s0_, ss_, i64_w, i32_w]; rfl
      refine tk_ 1 (some 19) ?_ b101_2 rfl rfl HT_.out HW_.out (by kernel_rfl) (fun _ _ _ h => h) (Or.inl ⟨by rfl, ?_⟩) hHeld ?_ ?_ ?_; rotate_left
      ·rintro w' ⟨s0, s1, s2, s3⟩; go_simp; with_reducible rfl
      rotate_left
      ·simp only [Act.put, sa_, s0_, ss_, i64_w, i32_w]; rfl
      refine pu_ 2 (some 20) ?_ b101_3 rfl rfl HT_.out (by kernel_rfl) (fun _ _ _ h => h) (Or.inl ⟨by rfl, ?_⟩) ?_ ?_ ?_; rotate_left
      ·intro w'; go_simp; with_reducible rfl
      rotate_left
      ·simp only [Act.put, sa_, s0_, ss_, i64_w, i32_w]; rfl
      refine pu_ 3 (some 21) ?_ b101_4 rfl rfl HT_.out (by kernel_rfl) (fun _ _ _ h => h) (Or.inl ⟨by rfl, ?_⟩) ?_ ?_ ?_; rotate_left
      ·intro w'; go_simp; with_reducible rfl
      rotate_left
      ·simp only [Act.put, sa_, s0_, ss_, i64_w, i32_w]; rfl
      refine pure_ (i := 5) (N := some 23) (v := ?_) (a' := ?_) #[true, true, true, true, false, true, false, false, false, false] rfl rfl (any_of HT_.out (by kernel_rfl)) (fun _ _ _ h => h) (Or.inl ⟨by rfl, ?_⟩) ?_ ?_; rotate_left
      ·intro w'; go_simp; with_reducible rfl
      rotate_left
      ·simp only [Act.put, sa_, s0_, ss_, i64_w, i32_w]; rfl
      refine take_ (i := 6) (N := some 24) (v := ?_) (a' := ?_) #[true, true, true, true, false, true, true, false, false, false] rfl rfl (take_ofW HT_.out HW_.out (by kernel_rfl)) (fun _ _ _ h => h) (Or.inl ⟨by rfl, ?_⟩) hHeld ?_ ?_; rotate_left
      ·rintro w' ⟨s0, s1, s2, s3⟩; go_simp; with_reducible rfl
      rotate_left
      ·simp only [Act.put, sa_, s0_, ss_, i64_w, i32_w]; rfl
      refine one_ (i := 4) (N := some 22) b101_5 rfl rfl (one_of HT_.out (by kernel_rfl)) (by decide) (fun K hK => ?_)
      refine gs_ Try.func112 #[] ?_
      with_reducible refine (impl_moves.calls  t188 _ A14.out).mono ?_
      rintro e w17 ⟨v189, rfl, ho0, hb⟩
      refine ⟨_, rfl, ?_⟩
      have HO190 := am (Kd.R_lower ho0 (below_size (bl HB.out)))
      replace BK186 := am (blk_below (pk BK186.out) hb)
      replace HB := am (below_step (bl HB.out) hb)
      (try clear hb)
      (try clear hb2)
      (try clear hk)
      (try clear hi)
      (try clear ho0)
      obtain ⟨Ao18, co18, eo18⟩ := Kd.R_slice HO190.out
      (first | subst eo18 | (injection eo18 with f1_ f2_ f3_; have f4_ := f1_.symm; have f5_ := f3_.symm; clear f1_ f2_ f3_; subst f4_; subst f5_))
      refine hK.out _ _ ⟨bc BK186.out 0, bc BK186.out 1, bc BK186.out 2, bc BK186.out 3⟩ (fun hHeld => ?_)
      clear hK K
      refine norm_ (a' := ?_) ?_ ?_
      rotate_left
      ·show Act.put _ (some 22) _ = _
       simp only [Act.put, sa_, s0_, ss_, i64_w, i32_w]
       rfl
      refine one_ (i := 7) (N := some 25) b101_6 rfl rfl (one_of HT_.out (by kernel_rfl)) (by decide) (fun K hK => ?_)
      refine gs_ Try.func87 #[.slice Ao18 t188.length co18, .string a0_2] ?_
      with_reducible refine (slices_Contains_sstring_string.calls kj1 _ _ t188 a0_2 t191 _ ?side1 ?side2 A15.out).mono ?_
      (case side1 => repeat (first | exact (Kd.R_reads' HO190.out).2.2 | (with_reducible refine Kd.C_alloc ?_ _) | (with_reducible refine Kd.C_drewN ?_ _) | (with_reducible refine Kd.C_drew ?_)))
      (case side2 => exact (Kd.R_reads' HO190.out).2.1)
      rintro e w' ⟨rfl, ⟨nd, rfl⟩⟩
      refine ⟨_, rfl, ?_⟩
      refine hK.out _ _ ⟨bc BK186.out 0, bc BK186.out 1, bc BK186.out 2, bc BK186.out 3⟩ (fun hHeld => ?_)
      clear hK K
      refine norm_ (a' := ?_) ?_ ?_
      rotate_left
      ·show Act.put _ (some 25) _ = _
       simp only [Act.put, sa_, s0_, ss_, i64_w, i32_w]
       rfl
      refine pu_ 8 (some 26) ?_ b101_7 rfl rfl HT_.out (by kernel_rfl) (fun _ _ _ h => h) (Or.inl ⟨by rfl, ?_⟩) ?_ ?_ ?_; rotate_left
      ·intro w'; go_simp; with_reducible rfl
      rotate_left
      ·simp only [Act.put, sa_, s0_, ss_, i64_w, i32_w]; rfl
      refine pu_ 9 (some 2) ?_ b101_8 rfl rfl HT_.out (by kernel_rfl) (fun _ _ _ h => h) (Or.inl ⟨by rfl, ?_⟩) ?_ ?_ ?_; rotate_left
      ·intro w'; go_simp; with_reducible rfl
      rotate_left
      ·simp only [Act.put, sa_, s0_, ss_, i64_w, i32_w]; rfl
      refine done_ (done_of HT_.out (by kernel_rfl)) ?_
      (try (rw [drewN_self w17]; generalize hq_ : World.drewN w17 _ = w17; replace HO190 := am (Kd.R_at hq_ HO190.out); replace BK186 := am (blk_at hq_ BK186.out); replace HB := am (below_at hq_ HB.out); clear hq_))
      try go_wp2
      go_ret
      exact ⟨by first | rfl | (simp [errW_none, errW_some] <;> rfl) | (simp [*, errW_none, errW_some] <;> rfl), by repeat (first | (with_reducible first | exact HB.out | apply below_alloc | apply pw_below_drewN | apply below_drew1 | refine below_set ?_ GE186.out) | exact HB.out)⟩
     ·rw [if_neg c13] at H
      have c13b0 : (a0_1 == 0) = false := beq_eq_false_iff_ne.mpr c13
      have c13b1 : (a0_1 != 0) = true := bne_iff_ne.mpr c13
      obtain rfl := Option.some.inj H
      try go_wp2
      replace BK186 := am (blk_drew BK186.out)
      replace HB := am (below_drew1 HB.out)
      refine start_ (n := 10) (S := fun w' => w'.cell? ⟨gb186, 0, none⟩ = some (.int .i64 a0_0) ∧ w'.cell? ⟨gb186, 1, none⟩ = some (.int .i64 a0_1) ∧ w'.cell? ⟨gb186, 2, none⟩ = some (.string a0_2) ∧ w'.cell? ⟨gb186, 3, none⟩ = some (.int .i64 a0_3)) (ds := []) b101_0 (by kernel_rfl) rfl rfl ⟨bc BK186.out 0, bc BK186.out 1, bc BK186.out 2, bc BK186.out 3⟩ (fun hHeld => ?_); refine with_tabW impl_fieldsRight.tab6 impl_fieldsRight.bits6 (fun HT_ HW_ => ?_)
      generalize wc.drew = w19 at BK186 HB hHeld ⊢
      refine pu_ 0 (some 18) ?_ b101_1 rfl rfl HT_.out (by kernel_rfl) (fun _ _ _ h => h) (Or.inl ⟨by rfl, ?_⟩) ?_ ?_ ?_; rotate_left
      ·intro w'; go_simp; with_reducible rfl
      rotate_left
      ·simp only [Act.put, sa_, s0_, ss_, i64_w, i32_w]; rfl
      refine tk_ 1 (some 19) ?_ b101_2 rfl rfl HT_.out HW_.out (by kernel_rfl) (fun _ _ _ h => h) (Or.inl ⟨by rfl, ?_⟩) hHeld ?_ ?_ ?_; rotate_left
      ·rintro w' ⟨s0, s1, s2, s3⟩; go_simp; with_reducible rfl
      rotate_left
      ·simp only [Act.put, sa_, s0_, ss_, i64_w, i32_w]; rfl
      refine pu_ 2 (some 20) ?_ b101_3 rfl rfl HT_.out (by kernel_rfl) (fun _ _ _ h => h) (Or.inl ⟨by rfl, ?_⟩) ?_ ?_ ?_; rotate_left
      ·intro w'; go_simp; with_reducible rfl
      rotate_left
      ·simp only [Act.put, sa_, s0_, ss_, i64_w, i32_w]; rfl
      refine pu_ 3 (some 21) ?_ b101_4 rfl rfl HT_.out (by kernel_rfl) (fun _ _ _ h => h) (Or.inl ⟨by rfl, ?_⟩) ?_ ?_ ?_; rotate_left
      ·intro w'; go_simp; with_reducible rfl
      rotate_left
      ·simp only [Act.put, sa_, s0_, ss_, i64_w, i32_w]; rfl
      refine pure_ (i := 4) (N := some 22) (v := undef) (a' := ?_) #[true, true, true, true, true, false, false, false, false, false] rfl rfl (any_of HT_.out (by kernel_rfl)) (fun _ _ _ h => h) (Or.inr ⟨by rfl, rfl⟩) ?_ ?_; rotate_left
      ·simp only [Act.put, sa_, s0_, ss_, i64_w, i32_w]; rfl
      refine pure_ (i := 5) (N := some 23) (v := undef) (a' := ?_) #[true, true, true, true, true, true, false, false, false, false] rfl rfl (any_of HT_.out (by kernel_rfl)) (fun _ _ _ h => h) (Or.inr ⟨by rfl, rfl⟩) ?_ ?_; rotate_left
      ·simp only [Act.put, sa_, s0_, ss_, i64_w, i32_w]; rfl
      refine pu_ 6 (some 24) undef b101_5 rfl rfl HT_.out (by kernel_rfl) (fun _ _ _ h => h) (Or.inr ⟨by rfl, rfl⟩) ?_ ?_ ?_; rotate_left
      ·simp only [Act.put, sa_, s0_, ss_, i64_w, i32_w]; rfl
      refine pu_ 7 (some 25) undef b101_6 rfl rfl HT_.out (by kernel_rfl) (fun _ _ _ h => h) (Or.inr ⟨by rfl, rfl⟩) ?_ ?_ ?_; rotate_left
      ·simp only [Act.put, sa_, s0_, ss_, i64_w, i32_w]; rfl
      refine pu_ 8 (some 26) ?_ b101_7 rfl rfl HT_.out (by kernel_rfl) (fun _ _ _ h => h) (Or.inl ⟨by rfl, ?_⟩) ?_ ?_ ?_; rotate_left
      ·intro w'; go_simp; with_reducible rfl
      rotate_left
      ·simp only [Act.put, sa_, s0_, ss_, i64_w, i32_w]; rfl
      refine pu_ 9 (some 2) ?_ b101_8 rfl rfl HT_.out (by kernel_rfl) (fun _ _ _ h => h) (Or.inl ⟨by rfl, ?_⟩) ?_ ?_ ?_; rotate_left
      ·intro w'; go_simp; with_reducible rfl
      rotate_left
      ·simp only [Act.put, sa_, s0_, ss_, i64_w, i32_w]; rfl
      refine done_ (done_of HT_.out (by kernel_rfl)) ?_
      try go_wp2
      go_ret
      exact ⟨by first | rfl | (simp [errW_none, errW_some] <;> rfl) | (simp [*, errW_none, errW_some] <;> rfl), by repeat (first | (with_reducible first | exact HB.out | apply below_alloc | apply pw_below_drewN | apply below_drew1 | refine below_set ?_ GE186.out) | exact HB.out)⟩
    ·rw [if_neg c12] at H
     have c12b0 : (a0_0 == 10) = false := beq_eq_false_iff_ne.mpr c12
     have c12b1 : (a0_0 != 10) = true := bne_iff_ne.mpr c12
     by_cases c20 : a0_0 = 11
     ·rw [if_pos c20] at H
      have c20b0 : (a0_0 == 11) = true := beq_iff_eq.mpr c20
      have c20b1 : (a0_0 != 11) = false := bne_eq_false_iff_eq.mpr c20
      clear c20
      by_cases c21 : a0_2.toList = ([] : List UInt8)
      ·rw [if_pos c21] at H
       have c21b0 : (a0_2.toList == ([] : List UInt8)) = true := beq_iff_eq.mpr c21
       have c21b1 : (a0_2.toList != ([] : List UInt8)) = false := bne_eq_false_iff_eq.mpr c21
       clear c21
       replace H := Option.bind_eq_some_iff.mp H
       obtain ⟨t192, A220, H⟩ := H
       replace H : (some t192) = some r := H
       have A22 := Aside0.mk A220
       clear A220
       obtain rfl := Option.some.inj H
       have hcz23_0 : wc.cell? ⟨gb186, 0, none⟩ = some (.int .i64 a0_0) := bc BK186.out 0
       have hcz23_1 : wc.cell? ⟨gb186, 1, none⟩ = some (.int .i64 a0_1) := bc BK186.out 1
       have hcz23_2 : wc.cell? ⟨gb186, 2, none⟩ = some (.string a0_2) := bc BK186.out 2
       have hcz23_3 : wc.cell? ⟨gb186, 3, none⟩ = some (.int .i64 a0_3) := bc BK186.out 3
       go_wp2_with (first | (go_at_call 51; (with_reducible refine (impl_within.calls a0_1 0 999999999 t192 _ A22.out).mono ?_); rintro e w' ⟨rfl, ⟨nd, rfl⟩⟩))
       go_ret
       exact ⟨by first | rfl | (simp [errW_none, errW_some] <;> rfl) | (simp [*, errW_none, errW_some] <;> rfl), by repeat (first | (with_reducible first | exact HB.out | apply below_alloc | apply pw_below_drewN | apply below_drew1 | refine below_set ?_ GE186.out) | exact HB.out)⟩
      ·rw [if_neg c21] at H
       have c21b0 : (a0_2.toList == ([] : List UInt8)) = false := beq_eq_false_iff_ne.mpr c21
       have c21b1 : (a0_2.toList != ([] : List UInt8)) = true := bne_iff_ne.mpr c21
       obtain rfl := Option.some.inj H
       have hcz24_0 : wc.cell? ⟨gb186, 0, none⟩ = some (.int .i64 a0_0) := bc BK186.out 0
       have hcz24_1 : wc.cell? ⟨gb186, 1, none⟩ = some (.int .i64 a0_1) := bc BK186.out 1
       have hcz24_2 : wc.cell? ⟨gb186, 2, none⟩ = some (.string a0_2) := bc BK186.out 2
       have hcz24_3 : wc.cell? ⟨gb186, 3, none⟩ = some (.int .i64 a0_3) := bc BK186.out 3
       go_wp2
       go_ret
       exact ⟨by first | rfl | (simp [errW_none, errW_some] <;> rfl) | (simp [*, errW_none, errW_some] <;> rfl), by repeat (first | (with_reducible first | exact HB.out | apply below_alloc | apply pw_below_drewN | apply below_drew1 | refine below_set ?_ GE186.out) | exact HB.out)⟩
     ·rw [if_neg c20] at H
      have c20b0 : (a0_0 == 11) = false := beq_eq_false_iff_ne.mpr c20
      have c20b1 : (a0_0 != 11) = true := bne_iff_ne.mpr c20
      by_cases c25 : a0_2.toList = ([] : List UInt8)
      ·rw [if_pos c25] at H
       have c25b0 : (a0_2.toList == ([] : List UInt8)) = true := beq_iff_eq.mpr c25
       have c25b1 : (a0_2.toList != ([] : List UInt8)) = false := bne_eq_false_iff_eq.mpr c25
       clear c25
       obtain rfl := Option.some.inj H
       have hcz26_0 : wc.cell? ⟨gb186, 0, none⟩ = some (.int .i64 a0_0) := bc BK186.out 0
       have hcz26_1 : wc.cell? ⟨gb186, 1, none⟩ = some (.int .i64 a0_1) := bc BK186.out 1
       have hcz26_2 : wc.cell? ⟨gb186, 2, none⟩ = some (.string a0_2) := bc BK186.out 2
       have hcz26_3 : wc.cell? ⟨gb186, 3, none⟩ = some (.int .i64 a0_3) := bc BK186.out 3
       go_wp2
       go_ret
       exact ⟨by first | rfl | (simp [errW_none, errW_some] <;> rfl) | (simp [*, errW_none, errW_some] <;> rfl), by repeat (first | (with_reducible first | exact HB.out | apply below_alloc | apply pw_below_drewN | apply below_drew1 | refine below_set ?_ GE186.out) | exact HB.out)⟩
      ·rw [if_neg c25] at H
       have c25b0 : (a0_2.toList == ([] : List UInt8)) = false := beq_eq_false_iff_ne.mpr c25
       have c25b1 : (a0_2.toList != ([] : List UInt8)) = true := bne_iff_ne.mpr c25
       obtain rfl := Option.some.inj H
       have hcz27_0 : wc.cell? ⟨gb186, 0, none⟩ = some (.int .i64 a0_0) := bc BK186.out 0
       have hcz27_1 : wc.cell? ⟨gb186, 1, none⟩ = some (.int .i64 a0_1) := bc BK186.out 1
       have hcz27_2 : wc.cell? ⟨gb186, 2, none⟩ = some (.string a0_2) := bc BK186.out 2
       have hcz27_3 : wc.cell? ⟨gb186, 3, none⟩ = some (.int .i64 a0_3) := bc BK186.out 3
       go_wp2
       go_ret
       exact ⟨by first | rfl | (simp [errW_none, errW_some] <;> rfl) | (simp [*, errW_none, errW_some] <;> rfl), by repeat (first | (with_reducible first | exact HB.out | apply below_alloc | apply pw_below_drewN | apply below_drew1 | refine below_set ?_ GE186.out) | exact HB.out)⟩

/-! ### impl_isKid: function 102 -/
def impl_isKid.f (a0_0 : Int) (a0_1 : Int) (a0_2 : ByteArray) (a0_3 : Int) (a1 : Int) (a2_0 : Int) (a2_1 : Int) (a2_2 : ByteArray) (a2_3 : Int) : Option (Bool) := if a0_0 = 1 then ((impl_within.f a2_0 2 10).bind fun t195 => (some t195)) else (if a1 > 0 then (if a0_0 = 3 then (some (a2_0 == 1)) else (if a0_0 = 4 then (some (a2_0 == 1)) else ((impl_within.f a2_0 11 26).bind fun t196 => (some t196)))) else ((impl_within.f a2_0 11 26).bind fun t197 => (some t197)))
theorem impl_isKid.calls (a0_0 : Int) (a0_1 : Int) (a0_2 : ByteArray) (a0_3 : Int) (a1 : Int) (a2_0 : Int) (a2_1 : Int) (a2_2 : ByteArray) (a2_3 : Int) (r : Bool) (w : World) (h : impl_isKid.f a0_0 a0_1 a0_2 a0_3 a1 a2_0 a2_1 a2_2 a2_3 = some r) :
  Calls Try.prog 102 #[.agg #[.int .i64 a0_0, .int .i64 a0_1, .string a0_2, .int .i64 a0_3], .int .i64 a1, .agg #[.int .i64 a2_0, .int .i64 a2_1, .string a2_2, .int .i64 a2_3]] w fun e w' => e = .returned (.bool r) ∧ Below w.heap.size w w' := by
 have hu95 := Try.underlying95
 have HB := am (Below.refl w.heap.size w)
 have H : (if a0_0 = 1 then ((impl_within.f a2_0 2 10).bind fun t195 => (some t195)) else (if a1 > 0 then (if a0_0 = 3 then (some (a2_0 == 1)) else (if a0_0 = 4 then (some (a2_0 == 1)) else ((impl_within.f a2_0 11 26).bind fun t196 => (some t196)))) else ((impl_within.f a2_0 11 26).bind fun t197 => (some t197)))) = some r := h
 clear h
 by_cases c4 : a0_0 = 1
 ·rw [if_pos c4] at H
  have c4b0 : (a0_0 == 1) = true := beq_iff_eq.mpr c4
  have c4b1 : (a0_0 != 1) = false := bne_eq_false_iff_eq.mpr c4
  clear c4
  replace H := Option.bind_eq_some_iff.mp H
  obtain ⟨t195, A50, H⟩ := H
  replace H : (some t195) = some r := H
  have A5 := Aside0.mk A50
  clear A50
  obtain rfl := Option.some.inj H
  go_enter Try.func102, Try.ntmps102
  go_wp2_with (first | ((with_reducible refine gate_dst (N := 3) rfl ?_); refine box_event ?hg (N := 3) ?hd (cs := #[.int .i64 a0_0, .int .i64 a0_1, .string a0_2, .int .i64 a0_3]) (t := 95) ?hr ?_; (case hd => rfl); (case hg => rfl); (case hr => first | (go_simp; done) | (go_simp; rfl)); intro gb193 hg w6 hbox hb; have BK193 := am (hbox); have GW193 := am ((by rw [hg]; exact (below_size (bl HB.out)) : w.heap.size ≤ gb193)); have GE193 := GW193; replace HB := am (below_step (bl HB.out) hb); clear hb hbox hg) | ((with_reducible refine gate_dst (N := 5) rfl ?_); refine box_event ?hg (N := 5) ?hd (cs := #[.int .i64 a2_0, .int .i64 a2_1, .string a2_2, .int .i64 a2_3]) (t := 95) ?hr ?_; (case hd => rfl); (case hg => rfl); (case hr => first | (go_simp; done) | (go_simp; rfl)); intro gb194 hg w7 hbox hb; have BK194 := am (hbox); have GW194 := am ((by rw [hg]; exact (below_size (bl HB.out)) : w.heap.size ≤ gb194)); have GE194 := GW194; replace HB := am (below_step (bl HB.out) hb); have NB193_194 := am ((by rw [hg]; exact Nat.ne_of_lt (blk_lt (pk BK193.out)) : gb193 ≠ gb194)); have NB194_193 := am ((by rw [hg]; exact Nat.ne_of_gt (blk_lt (pk BK193.out)) : gb194 ≠ gb193)); replace BK193 := am (blk_below (pk BK193.out) hb); clear hb hbox hg; have hnb8 := NB193_194.out; have hnc8 := NB194_193.out; have hcz9_0 : w7.cell? ⟨gb193, 0, none⟩ = some (.int .i64 a0_0) := bc BK193.out 0; have hcz9_1 : w7.cell? ⟨gb193, 1, none⟩ = some (.int .i64 a0_1) := bc BK193.out 1; have hcz9_2 : w7.cell? ⟨gb193, 2, none⟩ = some (.string a0_2) := bc BK193.out 2; have hcz9_3 : w7.cell? ⟨gb193, 3, none⟩ = some (.int .i64 a0_3) := bc BK193.out 3; have hcz10_0 : w7.cell? ⟨gb194, 0, none⟩ = some (.int .i64 a2_0) := bc BK194.out 0; have hcz10_1 : w7.cell? ⟨gb194, 1, none⟩ = some (.int .i64 a2_1) := bc BK194.out 1; have hcz10_2 : w7.cell? ⟨gb194, 2, none⟩ = some (.string a2_2) := bc BK194.out 2; have hcz10_3 : w7.cell? ⟨gb194, 3, none⟩ = some (.int .i64 a2_3) := bc BK194.out 3) | ((with_reducible refine gate_callee (f := 51) rfl ?_); refine gl (some 13) Try.func51 #[.int .i64 a2_0, .int .i64 2, .int .i64 10] ?_; (with_reducible refine (impl_within.calls a2_0 2 10 t195 _ A5.out).mono ?_); rintro e w' ⟨rfl, ⟨nd, rfl⟩⟩; refine ⟨_, rfl, ?_⟩))
  go_ret
  exact ⟨by first | rfl | (simp [errW_none, errW_some] <;> rfl) | (simp [*, errW_none, errW_some] <;> rfl), by repeat (first | (with_reducible first | exact HB.out | apply below_alloc | apply pw_below_drewN | apply below_drew1 | refine below_set ?_ GE193.out | refine below_set ?_ GE194.out) | exact HB.out)⟩
 ·rw [if_neg c4] at H
  have c4b0 : (a0_0 == 1) = false := beq_eq_false_iff_ne.mpr c4
  have c4b1 : (a0_0 != 1) = true := bne_iff_ne.mpr c4
  by_cases c11 : a1 > 0
  ·rw [if_pos c11] at H
   have c11b0 : decide (0 < a1) = true := decide_eq_true c11
   clear c11
   by_cases c12 : a0_0 = 3
   ·rw [if_pos c12] at H
    have c12b0 : (a0_0 == 3) = true := beq_iff_eq.mpr c12
    have c12b1 : (a0_0 != 3) = false := bne_eq_false_iff_eq.mpr c12
    clear c12
    obtain rfl := Option.some.inj H
    go_enter Try.func102, Try.ntmps102
    go_wp2_with (first | ((with_reducible refine gate_dst (N := 3) rfl ?_); refine box_event ?hg (N := 3) ?hd (cs := #[.int .i64 a0_0, .int .i64 a0_1, .string a0_2, .int .i64 a0_3]) (t := 95) ?hr ?_; (case hd => rfl); (case hg => rfl); (case hr => first | (go_simp; done) | (go_simp; rfl)); intro gb193 hg w13 hbox hb; have BK193 := am (hbox); have GW193 := am ((by rw [hg]; exact (below_size (bl HB.out)) : w.heap.size ≤ gb193)); have GE193 := GW193; replace HB := am (below_step (bl HB.out) hb); clear hb hbox hg) | ((with_reducible refine gate_dst (N := 5) rfl ?_); refine box_event ?hg (N := 5) ?hd (cs := #[.int .i64 a2_0, .int .i64 a2_1, .string a2_2, .int .i64 a2_3]) (t := 95) ?hr ?_; (case hd => rfl); (case hg => rfl); (case hr => first | (go_simp; done) | (go_simp; rfl)); intro gb194 hg w14 hbox hb; have BK194 := am (hbox); have GW194 := am ((by rw [hg]; exact (below_size (bl HB.out)) : w.heap.size ≤ gb194)); have GE194 := GW194; replace HB := am (below_step (bl HB.out) hb); have NB193_194 := am ((by rw [hg]; exact Nat.ne_of_lt (blk_lt (pk BK193.out)) : gb193 ≠ gb194)); have NB194_193 := am ((by rw [hg]; exact Nat.ne_of_gt (blk_lt (pk BK193.out)) : gb194 ≠ gb193)); replace BK193 := am (blk_below (pk BK193.out) hb); clear hb hbox hg; have hnb15 := NB193_194.out; have hnc15 := NB194_193.out; have hcz16_0 : w14.cell? ⟨gb193, 0, none⟩ = some (.int .i64 a0_0) := bc BK193.out 0; have hcz16_1 : w14.cell? ⟨gb193, 1, none⟩ = some (.int .i64 a0_1) := bc BK193.out 1; have hcz16_2 : w14.cell? ⟨gb193, 2, none⟩ = some (.string a0_2) := bc BK193.out 2; have hcz16_3 : w14.cell? ⟨gb193, 3, none⟩ = some (.int .i64 a0_3) := bc BK193.out 3; have hcz17_0 : w14.cell? ⟨gb194, 0, none⟩ = some (.int .i64 a2_0) := bc BK194.out 0; have hcz17_1 : w14.cell? ⟨gb194, 1, none⟩ = some (.int .i64 a2_1) := bc BK194.out 1; have hcz17_2 : w14.cell? ⟨gb194, 2, none⟩ = some (.string a2_2) := bc BK194.out 2; have hcz17_3 : w14.cell? ⟨gb194, 3, none⟩ = some (.int .i64 a2_3) := bc BK194.out 3))
    go_ret
    exact ⟨by first | rfl | (simp [errW_none, errW_some] <;> rfl) | (simp [*, errW_none, errW_some] <;> rfl), by repeat (first | (with_reducible first | exact HB.out | apply below_alloc | apply pw_below_drewN | apply below_drew1 | refine below_set ?_ GE193.out | refine below_set ?_ GE194.out) | exact HB.out)⟩
   ·rw [if_neg c12] at H
    have c12b0 : (a0_0 == 3) = false := beq_eq_false_iff_ne.mpr c12
    have c12b1 : (a0_0 != 3) = true := bne_iff_ne.mpr c12
    by_cases c18 : a0_0 = 4
    ·rw [if_pos c18] at H
     have c18b0 : (a0_0 == 4) = true := beq_iff_eq.mpr c18
     have c18b1 : (a0_0 != 4) = false := bne_eq_false_iff_eq.mpr c18
     clear c18
     obtain rfl := Option.some.inj H
     go_enter Try.func102, Try.ntmps102
     go_wp2_with (first | ((with_reducible refine gate_dst (N := 3) rfl ?_); refine box_event ?hg (N := 3) ?hd (cs := #[.int .i64 a0_0, .int .i64 a0_1, .string a0_2, .int .i64 a0_3]) (t := 95) ?hr ?_; (case hd => rfl); (case hg => rfl); (case hr => first | (go_simp; done) | (go_simp; rfl)); intro gb193 hg w19 hbox hb; have BK193 := am (hbox); have GW193 := am ((by rw [hg]; exact (below_size (bl HB.out)) : w.heap.size ≤ gb193)); have GE193 := GW193; replace HB := am (below_step (bl HB.out) hb); clear hb hbox hg) | ((with_reducible refine gate_dst (N := 5) rfl ?_); refine box_event ?hg (N := 5) ?hd (cs := #[.int .i64 a2_0, .int .i64 a2_1, .string a2_2, .int .i64 a2_3]) (t := 95) ?hr ?_; (case hd => rfl); (case hg => rfl); (case hr => first | (go_simp; done) | (go_simp; rfl)); intro gb194 hg w20 hbox hb; have BK194 := am (hbox); have GW194 := am ((by rw [hg]; exact (below_size (bl HB.out)) : w.heap.size ≤ gb194)); have GE194 := GW194; replace HB := am (below_step (bl HB.out) hb); have NB193_194 := am ((by rw [hg]; exact Nat.ne_of_lt (blk_lt (pk BK193.out)) : gb193 ≠ gb194)); have NB194_193 := am ((by rw [hg]; exact Nat.ne_of_gt (blk_lt (pk BK193.out)) : gb194 ≠ gb193)); replace BK193 := am (blk_below (pk BK193.out) hb); clear hb hbox hg; have hnb21 := NB193_194.out; have hnc21 := NB194_193.out; have hcz22_0 : w20.cell? ⟨gb193, 0, none⟩ = some (.int .i64 a0_0) := bc BK193.out 0; have hcz22_1 : w20.cell? ⟨gb193, 1, none⟩ = some (.int .i64 a0_1) := bc BK193.out 1; have hcz22_2 : w20.cell? ⟨gb193, 2, none⟩ = some (.string a0_2) := bc BK193.out 2; have hcz22_3 : w20.cell? ⟨gb193, 3, none⟩ = some (.int .i64 a0_3) := bc BK193.out 3; have hcz23_0 : w20.cell? ⟨gb194, 0, none⟩ = some (.int .i64 a2_0) := bc BK194.out 0; have hcz23_1 : w20.cell? ⟨gb194, 1, none⟩ = some (.int .i64 a2_1) := bc BK194.out 1; have hcz23_2 : w20.cell? ⟨gb194, 2, none⟩ = some (.string a2_2) := bc BK194.out 2; have hcz23_3 : w20.cell? ⟨gb194, 3, none⟩ = some (.int .i64 a2_3) := bc BK194.out 3))
     go_ret
     exact ⟨by first | rfl | (simp [errW_none, errW_some] <;> rfl) | (simp [*, errW_none, errW_some] <;> rfl), by repeat (first | (with_reducible first | exact HB.out | apply below_alloc | apply pw_below_drewN | apply below_drew1 | refine below_set ?_ GE193.out | refine below_set ?_ GE194.out) | exact HB.out)⟩
    ·rw [if_neg c18] at H
     have c18b0 : (a0_0 == 4) = false := beq_eq_false_iff_ne.mpr c18
     have c18b1 : (a0_0 != 4) = true := bne_iff_ne.mpr c18
     replace H := Option.bind_eq_some_iff.mp H
     obtain ⟨t196, A240, H⟩ := H
     replace H : (some t196) = some r := H
     have A24 := Aside0.mk A240
     clear A240
     obtain rfl := Option.some.inj H
     go_enter Try.func102, Try.ntmps102
     go_wp2_with (first | ((with_reducible refine gate_dst (N := 3) rfl ?_); refine box_event ?hg (N := 3) ?hd (cs := #[.int .i64 a0_0, .int .i64 a0_1, .string a0_2, .int .i64 a0_3]) (t := 95) ?hr ?_; (case hd => rfl); (case hg => rfl); (case hr => first | (go_simp; done) | (go_simp; rfl)); intro gb193 hg w25 hbox hb; have BK193 := am (hbox); have GW193 := am ((by rw [hg]; exact (below_size (bl HB.out)) : w.heap.size ≤ gb193)); have GE193 := GW193; replace HB := am (below_step (bl HB.out) hb); clear hb hbox hg) | ((with_reducible refine gate_dst (N := 5) rfl ?_); refine box_event ?hg (N := 5) ?hd (cs := #[.int .i64 a2_0, .int .i64 a2_1, .string a2_2, .int .i64 a2_3]) (t := 95) ?hr ?_; (case hd => rfl); (case hg => rfl); (case hr => first | (go_simp; done) | (go_simp; rfl)); intro gb194 hg w26 hbox hb; have BK194 := am (hbox); have GW194 := am ((by rw [hg]; exact (below_size (bl HB.out)) : w.heap.size ≤ gb194)); have GE194 := GW194; replace HB := am (below_step (bl HB.out) hb); have NB193_194 := am ((by rw [hg]; exact Nat.ne_of_lt (blk_lt (pk BK193.out)) : gb193 ≠ gb194)); have NB194_193 := am ((by rw [hg]; exact Nat.ne_of_gt (blk_lt (pk BK193.out)) : gb194 ≠ gb193)); replace BK193 := am (blk_below (pk BK193.out) hb); clear hb hbox hg; have hnb27 := NB193_194.out; have hnc27 := NB194_193.out; have hcz28_0 : w26.cell? ⟨gb193, 0, none⟩ = some (.int .i64 a0_0) := bc BK193.out 0; have hcz28_1 : w26.cell? ⟨gb193, 1, none⟩ = some (.int .i64 a0_1) := bc BK193.out 1; have hcz28_2 : w26.cell? ⟨gb193, 2, none⟩ = some (.string a0_2) := bc BK193.out 2; have hcz28_3 : w26.cell? ⟨gb193, 3, none⟩ = some (.int .i64 a0_3) := bc BK193.out 3; have hcz29_0 : w26.cell? ⟨gb194, 0, none⟩ = some (.int .i64 a2_0) := bc BK194.out 0; have hcz29_1 : w26.cell? ⟨gb194, 1, none⟩ = some (.int .i64 a2_1) := bc BK194.out 1; have hcz29_2 : w26.cell? ⟨gb194, 2, none⟩ = some (.string a2_2) := bc BK194.out 2; have hcz29_3 : w26.cell? ⟨gb194, 3, none⟩ = some (.int .i64 a2_3) := bc BK194.out 3) | ((with_reducible refine gate_callee (f := 51) rfl ?_); refine gl (some 32) Try.func51 #[.int .i64 a2_0, .int .i64 11, .int .i64 26] ?_; (with_reducible refine (impl_within.calls a2_0 11 26 t196 _ A24.out).mono ?_); rintro e w' ⟨rfl, ⟨nd, rfl⟩⟩; refine ⟨_, rfl, ?_⟩))
     go_ret
     exact ⟨by first | rfl | (simp [errW_none, errW_some] <;> rfl) | (simp [*, errW_none, errW_some] <;> rfl), by repeat (first | (with_reducible first | exact HB.out | apply below_alloc | apply pw_below_drewN | apply below_drew1 | refine below_set ?_ GE193.out | refine below_set ?_ GE194.out) | exact HB.out)⟩
  ·rw [if_neg c11] at H
   have c11b0 : decide (0 < a1) = false := decide_eq_false c11
   clear c11
   replace H := Option.bind_eq_some_iff.mp H
   obtain ⟨t197, A300, H⟩ := H
   replace H : (some t197) = some r := H
   have A30 := Aside0.mk A300
   clear A300
   obtain rfl := Option.some.inj H
   go_enter Try.func102, Try.ntmps102
   go_wp2_with (first | ((with_reducible refine gate_dst (N := 3) rfl ?_); refine box_event ?hg (N := 3) ?hd (cs := #[.int .i64 a0_0, .int .i64 a0_1, .string a0_2, .int .i64 a0_3]) (t := 95) ?hr ?_; (case hd => rfl); (case hg => rfl); (case hr => first | (go_simp; done) | (go_simp; rfl)); intro gb193 hg w31 hbox hb; have BK193 := am (hbox); have GW193 := am ((by rw [hg]; exact (below_size (bl HB.out)) : w.heap.size ≤ gb193)); have GE193 := GW193; replace HB := am (below_step (bl HB.out) hb); clear hb hbox hg) | ((with_reducible refine gate_dst (N := 5) rfl ?_); refine box_event ?hg (N := 5) ?hd (cs := #[.int .i64 a2_0, .int .i64 a2_1, .string a2_2, .int .i64 a2_3]) (t := 95) ?hr ?_; (case hd => rfl); (case hg => rfl); (case hr => first | (go_simp; done) | (go_simp; rfl)); intro gb194 hg w32 hbox hb; have BK194 := am (hbox); have GW194 := am ((by rw [hg]; exact (below_size (bl HB.out)) : w.heap.size ≤ gb194)); have GE194 := GW194; replace HB := am (below_step (bl HB.out) hb); have NB193_194 := am ((by rw [hg]; exact Nat.ne_of_lt (blk_lt (pk BK193.out)) : gb193 ≠ gb194)); have NB194_193 := am ((by rw [hg]; exact Nat.ne_of_gt (blk_lt (pk BK193.out)) : gb194 ≠ gb193)); replace BK193 := am (blk_below (pk BK193.out) hb); clear hb hbox hg; have hnb33 := NB193_194.out; have hnc33 := NB194_193.out; have hcz34_0 : w32.cell? ⟨gb193, 0, none⟩ = some (.int .i64 a0_0) := bc BK193.out 0; have hcz34_1 : w32.cell? ⟨gb193, 1, none⟩ = some (.int .i64 a0_1) := bc BK193.out 1; have hcz34_2 : w32.cell? ⟨gb193, 2, none⟩ = some (.string a0_2) := bc BK193.out 2; have hcz34_3 : w32.cell? ⟨gb193, 3, none⟩ = some (.int .i64 a0_3) := bc BK193.out 3; have hcz35_0 : w32.cell? ⟨gb194, 0, none⟩ = some (.int .i64 a2_0) := bc BK194.out 0; have hcz35_1 : w32.cell? ⟨gb194, 1, none⟩ = some (.int .i64 a2_1) := bc BK194.out 1; have hcz35_2 : w32.cell? ⟨gb194, 2, none⟩ = some (.string a2_2) := bc BK194.out 2; have hcz35_3 : w32.cell? ⟨gb194, 3, none⟩ = some (.int .i64 a2_3) := bc BK194.out 3) | ((with_reducible refine gate_callee (f := 51) rfl ?_); refine gl (some 32) Try.func51 #[.int .i64 a2_0, .int .i64 11, .int .i64 26] ?_; (with_reducible refine (impl_within.calls a2_0 11 26 t197 _ A30.out).mono ?_); rintro e w' ⟨rfl, ⟨nd, rfl⟩⟩; refine ⟨_, rfl, ?_⟩))
   go_ret
   exact ⟨by first | rfl | (simp [errW_none, errW_some] <;> rfl) | (simp [*, errW_none, errW_some] <;> rfl), by repeat (first | (with_reducible first | exact HB.out | apply below_alloc | apply pw_below_drewN | apply below_drew1 | refine below_set ?_ GE193.out | refine below_set ?_ GE194.out) | exact HB.out)⟩

-- NOT PRINTED: function 85 (impl_tree)

-- NOT PRINTED: function 86 (impl_survey_1)

end Go.Proofs.Ytcjclihkaaaihaa.PFnExactNodesVars
