-- Written by xprint.py (this claim's own program, over the kit's printer); Lean checks it.
import Derived.Test.YtcjclihkaaaihaaPFnExactViewRowsx0
import Derived.Test.YtcjclihkaaaihaaPFnExactViewRowsx5
namespace Go.Proofs.Ytcjclihkaaaihaa.PFnExactViewRows
open Go.RowKit Go.Proofs.YtcjclihkaaaihaaW.PrintWords Go.Proofs.YtcjclihkaaaihaaW.PrintLast Go.Proofs.YtcjclihkaaaihaaW.PrintMore
attribute [local go_sem] max2_int min2_int max_two min_two max_three min_three max_four min_four   -- for this text's walks alone
set_option linter.unusedVariables false
set_option linter.unusedSimpArgs false   -- squeezed
set_option maxHeartbeats 8000000
set_option maxRecDepth 100000

/-! ### impl_WidthOf: function 76 -/
mutual
def impl_WidthOf.j0 : Nat → Int → Bool → Option (Int)
 | 0, _, _ => none
 | k + 1, x0, x11 => if x11 = true then (some 0) else ((impl_isControl.f x0).bind fun t164 => (if t164 = true then (some 2) else ((some (([(⟨4352, 4447⟩ : S120), (⟨11904, 42191⟩ : S120), (⟨44032, 55203⟩ : S120), (⟨63744, 64255⟩ : S120), (⟨65281, 65376⟩ : S120), (⟨127744, 129791⟩ : S120)] : List (S120)) : List (S120))).bind fun y165 => (impl_WidthOf.l0 k x0 y165 (y165.length : Int) 0))))
def impl_WidthOf.l0 : Nat → Int → List (S120) → Int → Int → Option (Int)
 | 0, _, _, _, _ => none
 | k + 1, x0, x20, x21, x22 => if x22 < x21 then (if 0 ≤ x22 then (if x22 < (x20.length : Int) then ((impl_within.f x0 ((rd_T120 x20 x22).f0) ((rd_T120 x20 x22).f1)).bind fun t170 => (if t170 = true then (some 2) else (impl_WidthOf.l0 k x0 x20 x21 (wrap64 (x22 + 1))))) else (none)) else (none)) else (some 1)
end
def impl_WidthOf.f (k : Nat) (a0 : Int) : Option (Int) := (impl_isPoint.f a0).bind fun t162 => (if t162 = true then ((impl_within.f a0 768 879).bind fun t163 => (impl_WidthOf.j0 k a0 t163)) else (impl_WidthOf.j0 k a0 true))
theorem impl_WidthOf.mono_l : ∀ k, (∀ y0 y1, LeO (impl_WidthOf.j0 k y0 y1) (impl_WidthOf.j0 (k + 1) y0 y1)) ∧ (∀ y0 y1 y2 y3, LeO (impl_WidthOf.l0 k y0 y1 y2 y3) (impl_WidthOf.l0 (k + 1) y0 y1 y2 y3))
 | 0 => ⟨fun _ _ r h => by simp [impl_WidthOf.j0] at h, fun _ _ _ _ r h => by simp [impl_WidthOf.l0] at h⟩
 | k + 1 => by
  obtain ⟨ih0, ih1⟩ := impl_WidthOf.mono_l k
  refine ⟨?_, ?_⟩
  ·intro y0 y1
   unfold impl_WidthOf.j0
   repeat' first
   | (with_reducible exact ih0 _ _)
   | (with_reducible exact ih1 _ _ _ _)
   | (with_reducible exact LeO.refl _)
   | (with_reducible exact LeO.none _)
   | (with_reducible refine LeO.ite ?_ ?_)
   | (with_reducible refine LeO.bind ?_ (fun _ => ?_))
   | exact ih0 _ _
   | exact ih1 _ _ _ _
   | refine LeO.bind ?_ (fun _ => ?_)
  ·intro y0 y1 y2 y3
   unfold impl_WidthOf.l0
   repeat' first
   | (with_reducible exact ih0 _ _)
   | (with_reducible exact ih1 _ _ _ _)
   | (with_reducible exact LeO.refl _)
   | (with_reducible exact LeO.none _)
   | (with_reducible refine LeO.ite ?_ ?_)
   | (with_reducible refine LeO.bind ?_ (fun _ => ?_))
   | exact ih0 _ _
   | exact ih1 _ _ _ _
   | refine LeO.bind ?_ (fun _ => ?_)
theorem impl_WidthOf.mono : ∀ a0 k, LeO (impl_WidthOf.f k a0) (impl_WidthOf.f (k + 1) a0) := by
 intro a0 k
 obtain ⟨ih0, ih1⟩ := impl_WidthOf.mono_l k
 unfold impl_WidthOf.f
 repeat' first
   | (with_reducible exact ih0 _ _)
   | (with_reducible exact ih1 _ _ _ _)
   | (with_reducible exact LeO.refl _)
   | (with_reducible exact LeO.none _)
   | (with_reducible refine LeO.ite ?_ ?_)
   | (with_reducible refine LeO.bind ?_ (fun _ => ?_))
   | exact ih0 _ _
   | exact ih1 _ _ _ _
   | refine LeO.bind ?_ (fun _ => ?_)
theorem impl_WidthOf.calls (k : Nat) (a0 : Int) (r : Int) (w : World) (h : impl_WidthOf.f k a0 = some r) :
  Calls Try.prog 76 #[.int .i64 a0] w fun e w' => e = .returned (.int .i64 r) ∧ Below w.heap.size w w' := by
 have hu120 := Try.underlying120
 have HB := am (Below.refl w.heap.size w)
 have H : ((impl_isPoint.f a0).bind fun t162 => (if t162 = true then ((impl_within.f a0 768 879).bind fun t163 => (impl_WidthOf.j0 k a0 t163)) else (impl_WidthOf.j0 k a0 true))) = some r := h
 clear h
 have HC2 := Aside0.mk H
 clear H
 go_enter Try.func76, Try.ntmps76
 go_upto_region 1 with (fail)
 go_cut [11] (fun v11 wc => ∃ (kq : Nat) (x11_1 : Bool), v11 = .bool x11_1 ∧ Aside0 (impl_WidthOf.j0 kq a0 x11_1 = some r) ∧ Aside0 (kq ≤ k) ∧ Aside0 (Below w.heap.size w wc))
 case first =>
  have H := HC2.out
  clear HC2
  replace H := Option.bind_eq_some_iff.mp H
  obtain ⟨t162, A30, H⟩ := H
  replace H : (if t162 = true then ((impl_within.f a0 768 879).bind fun t163 => (impl_WidthOf.j0 k a0 t163)) else (impl_WidthOf.j0 k a0 true)) = some r := H
  have A3 := Aside0.mk A30
  clear A30
  by_cases c4 : t162 = true
  ·subst c4
   have H1 : ((impl_within.f a0 768 879).bind fun t163 => (impl_WidthOf.j0 k a0 t163)) = some r := by rw [if_pos rfl] at H; exact H
   clear H
   have H := H1
   clear H1
   replace H := Option.bind_eq_some_iff.mp H
   obtain ⟨t163, A50, H⟩ := H
   replace H : (impl_WidthOf.j0 k a0 t163) = some r := H
   have A5 := Aside0.mk A50
   clear A50
   have H' := Aside0.mk H
   clear H
   go_wp2_with (first | ((with_reducible refine gate_callee (f := 92) rfl ?_); refine gl (some 6) Try.func92 #[.int .i64 a0] ?_; (with_reducible refine (impl_isPoint.calls a0 true _ A3.out).mono ?_); rintro e w' ⟨rfl, ⟨nd, rfl⟩⟩; refine ⟨_, rfl, ?_⟩) | (go_at_call 51; (with_reducible refine (impl_within.calls a0 768 879 t163 _ A5.out).mono ?_); rintro e w' ⟨rfl, ⟨nd, rfl⟩⟩))
   go_meet
   case rel => exact ⟨_, (t163), (by first | rfl | (simp; done) | (simp [*]; done)), H', ⟨by first | omega | exact Nat.le_refl _⟩, ⟨by repeat (first | (with_reducible first | exact HB.out | apply below_alloc | apply pw_below_drewN | apply below_drew1) | exact HB.out)⟩⟩
  ·replace c4 := Bool.eq_false_iff.mpr c4
   subst c4
   have H1 : (impl_WidthOf.j0 k a0 true) = some r := by rw [if_neg (show ¬ (false = true) by decide)] at H; exact H
   clear H
   have H := H1
   clear H1
   have H' := Aside0.mk H
   clear H
   go_wp2_with (first | ((with_reducible refine gate_callee (f := 92) rfl ?_); refine gl (some 6) Try.func92 #[.int .i64 a0] ?_; (with_reducible refine (impl_isPoint.calls a0 false _ A3.out).mono ?_); rintro e w' ⟨rfl, ⟨nd, rfl⟩⟩; refine ⟨_, rfl, ?_⟩))
   go_meet
   case rel => exact ⟨_, (true), (by first | rfl | (simp; done) | (simp [*]; done)), H', ⟨by first | omega | exact Nat.le_refl _⟩, ⟨by repeat (first | (with_reducible first | exact HB.out | apply below_alloc | apply pw_below_drewN | apply below_drew1) | exact HB.out)⟩⟩
 case rest =>
  clear HC2
  try clear p2
  try clear c4
  obtain ⟨kq, x11_1, rfl, HA, HJ1, HB⟩ := hcut
  cases kq with
  | zero => exact absurd HA.out (by simp [impl_WidthOf.j0])
  | succ kj1 =>
   have H := HA.out
   clear HA
   simp only [impl_WidthOf.j0] at H
   by_cases c6 : x11_1 = true
   ·subst c6
    have H1 : (some 0) = some r := by rw [if_pos rfl] at H; exact H
    clear H
    have H := H1
    clear H1
    obtain rfl := Option.some.inj H
    go_wp2
    go_ret
    exact ⟨by first | rfl | (simp [errW_none, errW_some] <;> rfl) | (simp [*, errW_none, errW_some] <;> rfl), by repeat (first | (with_reducible first | exact HB.out | apply below_alloc | apply pw_below_drewN | apply below_drew1) | exact HB.out)⟩
   ·replace c6 := Bool.eq_false_iff.mpr c6
    subst c6
    have H1 : ((impl_isControl.f a0).bind fun t164 => (if t164 = true then (some 2) else ((some (([(⟨4352, 4447⟩ : S120), (⟨11904, 42191⟩ : S120), (⟨44032, 55203⟩ : S120), (⟨63744, 64255⟩ : S120), (⟨65281, 65376⟩ : S120), (⟨127744, 129791⟩ : S120)] : List (S120)) : List (S120))).bind fun y165 => (impl_WidthOf.l0 kj1 a0 y165 (y165.length : Int) 0)))) = some r := by rw [if_neg (show ¬ (false = true) by decide)] at H; exact H
    clear H
    have H := H1
    clear H1
    replace H := Option.bind_eq_some_iff.mp H
    obtain ⟨t164, A70, H⟩ := H
    replace H : (if t164 = true then (some 2) else ((some (([(⟨4352, 4447⟩ : S120), (⟨11904, 42191⟩ : S120), (⟨44032, 55203⟩ : S120), (⟨63744, 64255⟩ : S120), (⟨65281, 65376⟩ : S120), (⟨127744, 129791⟩ : S120)] : List (S120)) : List (S120))).bind fun y165 => (impl_WidthOf.l0 kj1 a0 y165 (y165.length : Int) 0))) = some r := H
    have A7 := Aside0.mk A70
    clear A70
    by_cases c8 : t164 = true
    ·subst c8
     have H1 : (some 2) = some r := by rw [if_pos rfl] at H; exact H
     clear H
     have H := H1
     clear H1
     obtain rfl := Option.some.inj H
     go_wp2_with (first | ((with_reducible refine gate_callee (f := 95) rfl ?_); refine gl (some 13) Try.func95 #[.int .i64 a0] ?_; (with_reducible refine (impl_isControl.calls a0 true _ A7.out).mono ?_); rintro e w' ⟨rfl, ⟨nd, rfl⟩⟩; refine ⟨_, rfl, ?_⟩))
     go_ret
     exact ⟨by first | rfl | (simp [errW_none, errW_some] <;> rfl) | (simp [*, errW_none, errW_some] <;> rfl), by repeat (first | (with_reducible first | exact HB.out | apply below_alloc | apply pw_below_drewN | apply below_drew1) | exact HB.out)⟩
    ·replace c8 := Bool.eq_false_iff.mpr c8
     subst c8
     have H1 : ((some (([(⟨4352, 4447⟩ : S120), (⟨11904, 42191⟩ : S120), (⟨44032, 55203⟩ : S120), (⟨63744, 64255⟩ : S120), (⟨65281, 65376⟩ : S120), (⟨127744, 129791⟩ : S120)] : List (S120)) : List (S120))).bind fun y165 => (impl_WidthOf.l0 kj1 a0 y165 (y165.length : Int) 0)) = some r := by rw [if_neg (show ¬ (false = true) by decide)] at H; exact H
     clear H
     have H := H1
     clear H1
     obtain ⟨y165, hy165⟩ : ∃ y_ : List (S120), y_ = (([(⟨4352, 4447⟩ : S120), (⟨11904, 42191⟩ : S120), (⟨44032, 55203⟩ : S120), (⟨63744, 64255⟩ : S120), (⟨65281, 65376⟩ : S120), (⟨127744, 129791⟩ : S120)] : List (S120))) := ⟨_, rfl⟩
     replace H : (impl_WidthOf.l0 kj1 a0 y165 (y165.length : Int) 0) = some r := by first | (rw [hy165]; with_reducible exact H) | (have H2_ := (Option.bind_some _ _).symm.trans H; rw [hy165]; with_reducible exact H2_) | (have H2_ := (Option.bind_some _ _).symm.trans H; with_reducible exact H2_) | with_reducible exact H | (rw [hy165]; exact H) | exact H
     have Ny165 := am hy165
     clear hy165
     have H' := Aside0.mk H
     clear H
     go_wp2_with (first | ((with_reducible refine gate_callee (f := 95) rfl ?_); refine gl (some 13) Try.func95 #[.int .i64 a0] ?_; (with_reducible refine (impl_isControl.calls a0 false _ A7.out).mono ?_); rintro e w' ⟨rfl, ⟨nd, rfl⟩⟩; refine ⟨_, rfl, ?_⟩) | ((with_reducible refine gate_dst (N := 20) rfl ?_); refine Kd.R_lit k120 _ 120 ?hg (N := 20) ?hd (xs := ([(⟨4352, 4447⟩ : S120), (⟨11904, 42191⟩ : S120), (⟨44032, 55203⟩ : S120), (⟨63744, 64255⟩ : S120), (⟨65281, 65376⟩ : S120), (⟨127744, 129791⟩ : S120)] : List (S120))) (inner := [.int .i64 4352, .int .i64 4447, .int .i64 11904, .int .i64 42191, .int .i64 44032, .int .i64 55203, .int .i64 63744, .int .i64 64255, .int .i64 65281, .int .i64 65376, .int .i64 127744, .int .i64 129791]) (ok := fun _ => True) (okp := fun _ => True) ?hr ?hp (fun _ hk => hk) trivial (Below.refl _ _) (Nat.le_refl _) (by simp) ?_; (case hd => rfl); (case hg => rfl); (case hr => first | (go_simp; done) | (go_simp; rfl)); (case hp => exact (Reps.c2 (show Kd.M k120 _ _ _ (⟨4352, 4447⟩ : S120) [.int .i64 4352, .int .i64 4447] from (k120_mkM _ _ _ (⟨4352, 4447⟩ : S120) )) (Reps.c2 (show Kd.M k120 _ _ _ (⟨11904, 42191⟩ : S120) [.int .i64 11904, .int .i64 42191] from (k120_mkM _ _ _ (⟨11904, 42191⟩ : S120) )) (Reps.c2 (show Kd.M k120 _ _ _ (⟨44032, 55203⟩ : S120) [.int .i64 44032, .int .i64 55203] from (k120_mkM _ _ _ (⟨44032, 55203⟩ : S120) )) (Reps.c2 (show Kd.M k120 _ _ _ (⟨63744, 64255⟩ : S120) [.int .i64 63744, .int .i64 64255] from (k120_mkM _ _ _ (⟨63744, 64255⟩ : S120) )) (Reps.c2 (show Kd.M k120 _ _ _ (⟨65281, 65376⟩ : S120) [.int .i64 65281, .int .i64 65376] from (k120_mkM _ _ _ (⟨65281, 65376⟩ : S120) )) (Reps.c2 (show Kd.M k120 _ _ _ (⟨127744, 129791⟩ : S120) [.int .i64 127744, .int .i64 129791] from (k120_mkM _ _ _ (⟨127744, 129791⟩ : S120) )) (Reps.none _ _)))))))); intro v166 w9 ho10 hb hg_ hnew_; clear hg_ hnew_; (first | rw [← Ny165.out] at ho10 | (simp only [Int.reduceToNat] at ho10; rw [← Ny165.out] at ho10)); have HO167 := am (Kd.R_lower ho10 (below_size (bl HB.out))); replace HB := am (below_step (bl HB.out) hb); clear hb ho10; obtain ⟨Ao11, co11, eo11⟩ := Kd.R_slice HO167.out; subst eo11))
     go_loopg [22] kj1 (fun kq v22 w' => ∃ (x22_2 : Int), v22 = .int .i64 x22_2 ∧ Aside0 (impl_WidthOf.l0 kq a0 y165 (y165.length : Int) x22_2 = some r) ∧ Aside0 (kq ≤ kj1) ∧ Aside0 (Kd.R k120 120 w' w.heap.size (fun _ => True) (.slice Ao11 y165.length co11) y165) ∧ Aside0 (Below w.heap.size w w'))
     case atStart => exact ⟨(0), (by first | rfl | (simp; done) | (simp [*]; done)), H', ⟨Nat.le_refl _⟩, ⟨kr HO167.out⟩, ⟨by repeat (first | (with_reducible first | exact HB.out | apply below_alloc | apply pw_below_drewN | apply below_drew1) | exact HB.out)⟩⟩
     case round =>
      clear H'
      try clear c2
      try clear p2
      try clear c4
      try clear c6
      try clear c7
      try clear c8
      try clear c9
      try clear p2
      obtain ⟨x22_2, rfl, HA, HK2, HO_20, HB⟩ := hrel
      cases gk with
      | zero => exact absurd HA.out (by simp [impl_WidthOf.l0])
      | succ k2 =>
       have H := HA.out
       clear HA
       simp only [impl_WidthOf.l0] at H
       by_cases c12 : x22_2 < (y165.length : Int)
       ·rw [if_pos c12] at H
        have c12b0 : decide (x22_2 < (y165.length : Int)) = true := decide_eq_true c12
        clear c12
        by_cases c13 : 0 ≤ x22_2
        ·rw [if_pos c13] at H
         have c13b0 : decide (0 ≤ x22_2) = true := decide_eq_true c13
         clear c13
         by_cases c14 : x22_2 < (y165.length : Int)
         ·rw [if_pos c14] at H
          have c14b0 : decide (x22_2 < (y165.length : Int)) = true := decide_eq_true c14
          clear c14
          replace H := Option.bind_eq_some_iff.mp H
          obtain ⟨t170, A150, H⟩ := H
          replace H : (if t170 = true then (some 2) else (impl_WidthOf.l0 k2 a0 y165 (y165.length : Int) (wrap64 (x22_2 + 1)))) = some r := H
          have A15 := Aside0.mk A150
          clear A150
          by_cases c16 : t170 = true
          ·subst c16
           have H1 : (some 2) = some r := by rw [if_pos rfl] at H; exact H
           clear H
           have H := H1
           clear H1
           obtain rfl := Option.some.inj H
           have p168 : 0 ≤ (x22_2 : Int) := of_decide_eq_true (by first | (with_reducible assumption) | assumption)
           have q168 : x22_2 < (y165.length : Int) := of_decide_eq_true (by first | (with_reducible assumption) | assumption)
           obtain ⟨ad168, e168, hx168_0, hx168_1⟩ := at_T120 (Kd.R_reads' HO_20.out).2.2 x22_2 p168 q168
           cases e168
           replace p168 := eq_true p168
           replace q168 := eq_true q168
           go_wp2_with (first | ((with_reducible refine gate_dst (N := 4) rfl ?_); refine box_event ?hg (N := 4) ?hd (cs := #[.int .i64 0, .int .i64 0]) (t := 120) ?hr ?_; (case hd => rfl); (case hg => rfl); (case hr => first | (go_simp; done) | (go_simp; rfl)); intro gb169 hg w17 hbox hb; replace HO_20 := am (Kd.R_below (Kd.R_elderB (kr HO_20.out) gb169 (Nat.le_of_eq hg.symm)) hb); have BK169 := am (hbox); have GW169 := am ((by rw [hg]; exact (below_size (bl HB.out)) : w.heap.size ≤ gb169)); have GE169 := GW169; replace HB := am (below_step (bl HB.out) hb); clear hb hbox hg; have hcz18_0 : w17.cell? ⟨gb169, 0, none⟩ = some (.int .i64 0) := bc BK169.out 0; have hcz18_1 : w17.cell? ⟨gb169, 1, none⟩ = some (.int .i64 0) := bc BK169.out 1; have hfz18_0 := blk_frozen BK169.out 0; have hfz18_1 := blk_frozen BK169.out 1) | ((with_reducible refine gate_callee (f := 51) rfl ?_); refine gl (some 31) Try.func51 #[.int .i64 a0, .int .i64 ((rd_T120 y165 x22_2).f0), .int .i64 ((rd_T120 y165 x22_2).f1)] ?_; (with_reducible refine (impl_within.calls a0 ((rd_T120 y165 x22_2).f0) ((rd_T120 y165 x22_2).f1) true _ A15.out).mono ?_); rintro e w' ⟨rfl, ⟨nd, rfl⟩⟩; refine ⟨_, rfl, ?_⟩))
           go_ret
           exact ⟨by first | rfl | (simp [errW_none, errW_some] <;> rfl) | (simp [*, errW_none, errW_some] <;> rfl), by repeat (first | (with_reducible first | exact HB.out | apply below_alloc | apply pw_below_drewN | apply below_drew1 | refine below_set ?_ GE169.out) | exact HB.out)⟩
          ·replace c16 := Bool.eq_false_iff.mpr c16
           subst c16
           have H1 : (impl_WidthOf.l0 k2 a0 y165 (y165.length : Int) (wrap64 (x22_2 + 1))) = some r := by rw [if_neg (show ¬ (false = true) by decide)] at H; exact H
           clear H
           have H := H1
           clear H1
           have H' := Aside0.mk H
           clear H
           have p168 : 0 ≤ (x22_2 : Int) := of_decide_eq_true (by first | (with_reducible assumption) | assumption)
           have q168 : x22_2 < (y165.length : Int) := of_decide_eq_true (by first | (with_reducible assumption) | assumption)
           obtain ⟨ad168, e168, hx168_0, hx168_1⟩ := at_T120 (Kd.R_reads' HO_20.out).2.2 x22_2 p168 q168
           cases e168
           replace p168 := eq_true p168
           replace q168 := eq_true q168
           go_wp2_with (first | ((with_reducible refine gate_dst (N := 4) rfl ?_); refine box_event ?hg (N := 4) ?hd (cs := #[.int .i64 0, .int .i64 0]) (t := 120) ?hr ?_; (case hd => rfl); (case hg => rfl); (case hr => first | (go_simp; done) | (go_simp; rfl)); intro gb169 hg w19 hbox hb; replace HO_20 := am (Kd.R_below (Kd.R_elderB (kr HO_20.out) gb169 (Nat.le_of_eq hg.symm)) hb); have BK169 := am (hbox); have GW169 := am ((by rw [hg]; exact (below_size (bl HB.out)) : w.heap.size ≤ gb169)); have GE169 := GW169; replace HB := am (below_step (bl HB.out) hb); clear hb hbox hg; have hcz20_0 : w19.cell? ⟨gb169, 0, none⟩ = some (.int .i64 0) := bc BK169.out 0; have hcz20_1 : w19.cell? ⟨gb169, 1, none⟩ = some (.int .i64 0) := bc BK169.out 1; have hfz20_0 := blk_frozen BK169.out 0; have hfz20_1 := blk_frozen BK169.out 1) | ((with_reducible refine gate_callee (f := 51) rfl ?_); refine gl (some 31) Try.func51 #[.int .i64 a0, .int .i64 ((rd_T120 y165 x22_2).f0), .int .i64 ((rd_T120 y165 x22_2).f1)] ?_; (with_reducible refine (impl_within.calls a0 ((rd_T120 y165 x22_2).f0) ((rd_T120 y165 x22_2).f1) false _ A15.out).mono ?_); rintro e w' ⟨rfl, ⟨nd, rfl⟩⟩; refine ⟨_, rfl, ?_⟩))
           go_roundg k2
           case measure => have := HJ1.out; have := HK2.out; omega
           case rel => exact ⟨(wrap64 (x22_2 + 1)), (by first | rfl | (simp; done) | (simp [*]; done)), H', ⟨by have := HJ1.out; have := HK2.out; omega⟩, ⟨kr (Kd.R_mono (Kd.R_far (p := ⟨gb169, 1, none⟩) (Kd.R_far (p := ⟨gb169, 0, none⟩) (Kd.R_mono HO_20.out (fun k_ hk => (⟨hk, hk.2⟩ : _ ∧ k_ ≠ gb169))) (fun _ hk => hk.2) (.int .i64 ((rd_T120 y165 x22_2).f0))) (fun _ hk => hk.2) (.int .i64 ((rd_T120 y165 x22_2).f1))) (fun _ hk => trivial))⟩, ⟨by repeat (first | (with_reducible first | exact HB.out | apply below_alloc | apply pw_below_drewN | apply below_drew1 | refine below_set ?_ GE169.out) | exact HB.out)⟩⟩
         ·rw [if_neg c14] at H
          exact absurd H (by simp)
        ·rw [if_neg c13] at H
         exact absurd H (by simp)
       ·rw [if_neg c12] at H
        have c12b0 : decide (x22_2 < (y165.length : Int)) = false := decide_eq_false c12
        clear c12
        obtain rfl := Option.some.inj H
        go_wp2
        go_ret
        exact ⟨by first | rfl | (simp [errW_none, errW_some] <;> rfl) | (simp [*, errW_none, errW_some] <;> rfl), by repeat (first | (with_reducible first | exact HB.out | apply below_alloc | apply pw_below_drewN | apply below_drew1) | exact HB.out)⟩

-- NOT PRINTED: function 93 (impl_layout_next)

/-! ### impl_shown: function 94 -/
def impl_shown.f (a0 : Int) : Option (List Int) := (impl_isControl.f a0).bind fun t171 => (if t171 = true then (some (([94, Go.bits .xor .i64 a0 64] : List Int))) else (some (([a0] : List Int))))
theorem impl_shown.calls (a0 : Int) (r : List Int) (w : World) (h : impl_shown.f a0 = some r) :
  Calls Try.prog 94 #[.int .i64 a0] w fun e w' => ∃ v0_ : Value, e = .returned (v0_) ∧ Kd.R (Kd.int .i64) 2 w' w.heap.size (fun _ => True) v0_ r ∧ Below w.heap.size w w' := by
 have HB := am (Below.refl w.heap.size w)
 have H : ((impl_isControl.f a0).bind fun t171 => (if t171 = true then (some (([94, Go.bits .xor .i64 a0 64] : List Int))) else (some (([a0] : List Int))))) = some r := h
 clear h
 replace H := Option.bind_eq_some_iff.mp H
 obtain ⟨t171, A20, H⟩ := H
 replace H : (if t171 = true then (some (([94, Go.bits .xor .i64 a0 64] : List Int))) else (some (([a0] : List Int)))) = some r := H
 have A2 := Aside0.mk A20
 clear A20
 by_cases c3 : t171 = true
 ·subst c3
  have H1 : (some (([94, Go.bits .xor .i64 a0 64] : List Int))) = some r := by rw [if_pos rfl] at H; exact H
  clear H
  have H := H1
  clear H1
  obtain ⟨y172, hy172⟩ : ∃ y_ : List Int, y_ = (([94, Go.bits .xor .i64 a0 64] : List Int)) := ⟨_, rfl⟩
  replace H : (some y172) = some r := by first | (rw [hy172]; with_reducible exact H) | (have H2_ := (Option.bind_some _ _).symm.trans H; rw [hy172]; with_reducible exact H2_) | (have H2_ := (Option.bind_some _ _).symm.trans H; with_reducible exact H2_) | with_reducible exact H | (rw [hy172]; exact H) | exact H
  have Ny172 := am hy172
  clear hy172
  obtain rfl := Option.some.inj H
  go_enter Try.func94, Try.ntmps94
  go_wp2_with (first | ((with_reducible refine gate_callee (f := 95) rfl ?_); refine gl (some 4) Try.func95 #[.int .i64 a0] ?_; (with_reducible refine (impl_isControl.calls a0 true _ A2.out).mono ?_); rintro e w' ⟨rfl, ⟨nd, rfl⟩⟩; refine ⟨_, rfl, ?_⟩) | ((with_reducible refine gate_dst (N := 7) rfl ?_); refine Kd.R_lit (Kd.int .i64) _ 2 ?hg (N := 7) ?hd (xs := ([94, Go.bits .xor .i64 a0 64] : List Int)) (inner := [.int .i64 94, .int .i64 (Go.bits .xor .i64 a0 64)]) (ok := fun _ => True) (okp := fun _ => True) ?hr ?hp (fun _ hk => hk) trivial (Below.refl _ _) (Nat.le_refl _) (by simp) ?_; (case hd => rfl); (case hg => rfl); (case hr => first | (go_simp; done) | (go_simp; rfl)); (case hp => exact (Reps.one (show Kd.M (Kd.int .i64) _ _ _ 94 [.int .i64 94] from rfl) (Reps.one (show Kd.M (Kd.int .i64) _ _ _ (Go.bits .xor .i64 a0 64) [.int .i64 (Go.bits .xor .i64 a0 64)] from rfl) (Reps.none _ _)))); intro v173 w4 ho5 hb hg_ hnew_; clear hg_ hnew_; (first | rw [← Ny172.out] at ho5 | (simp only [Int.reduceToNat] at ho5; rw [← Ny172.out] at ho5)); have HO174 := am (Kd.R_lower ho5 (below_size (bl HB.out))); replace HB := am (below_step (bl HB.out) hb); clear hb ho5))
  go_ret
  exact ⟨_, by first | rfl | (simp [errW_none, errW_some] <;> rfl) | (simp [*, errW_none, errW_some] <;> rfl), kr HO174.out, by repeat (first | (with_reducible first | exact HB.out | apply below_alloc | apply pw_below_drewN | apply below_drew1) | exact HB.out)⟩
 ·replace c3 := Bool.eq_false_iff.mpr c3
  subst c3
  have H1 : (some (([a0] : List Int))) = some r := by rw [if_neg (show ¬ (false = true) by decide)] at H; exact H
  clear H
  have H := H1
  clear H1
  obtain ⟨y175, hy175⟩ : ∃ y_ : List Int, y_ = (([a0] : List Int)) := ⟨_, rfl⟩
  replace H : (some y175) = some r := by first | (rw [hy175]; with_reducible exact H) | (have H2_ := (Option.bind_some _ _).symm.trans H; rw [hy175]; with_reducible exact H2_) | (have H2_ := (Option.bind_some _ _).symm.trans H; with_reducible exact H2_) | with_reducible exact H | (rw [hy175]; exact H) | exact H
  have Ny175 := am hy175
  clear hy175
  obtain rfl := Option.some.inj H
  go_enter Try.func94, Try.ntmps94
  go_wp2_with (first | ((with_reducible refine gate_callee (f := 95) rfl ?_); refine gl (some 4) Try.func95 #[.int .i64 a0] ?_; (with_reducible refine (impl_isControl.calls a0 false _ A2.out).mono ?_); rintro e w' ⟨rfl, ⟨nd, rfl⟩⟩; refine ⟨_, rfl, ?_⟩) | ((with_reducible refine gate_dst (N := 9) rfl ?_); refine Kd.R_lit (Kd.int .i64) _ 2 ?hg (N := 9) ?hd (xs := ([a0] : List Int)) (inner := [.int .i64 a0]) (ok := fun _ => True) (okp := fun _ => True) ?hr ?hp (fun _ hk => hk) trivial (Below.refl _ _) (Nat.le_refl _) (by simp) ?_; (case hd => rfl); (case hg => rfl); (case hr => first | (go_simp; done) | (go_simp; rfl)); (case hp => exact (Reps.one (show Kd.M (Kd.int .i64) _ _ _ a0 [.int .i64 a0] from rfl) (Reps.none _ _))); intro v176 w6 ho7 hb hg_ hnew_; clear hg_ hnew_; (first | rw [← Ny175.out] at ho7 | (simp only [Int.reduceToNat] at ho7; rw [← Ny175.out] at ho7)); have HO177 := am (Kd.R_lower ho7 (below_size (bl HB.out))); replace HB := am (below_step (bl HB.out) hb); clear hb ho7))
  go_ret
  exact ⟨_, by first | rfl | (simp [errW_none, errW_some] <;> rfl) | (simp [*, errW_none, errW_some] <;> rfl), kr HO177.out, by repeat (first | (with_reducible first | exact HB.out | apply below_alloc | apply pw_below_drewN | apply below_drew1) | exact HB.out)⟩

-- NOT PRINTED: function 74 (impl_layout_point)

/-! ### impl_Buf_region: function 75 -/
def impl_Buf_region.f (l0_0 : List Int) (a0_1 : Int) (a0_2 : Int) : Option (Int × Int) := some (mn a0_2 a0_1, mx a0_2 a0_1)
theorem impl_Buf_region.calls (p0 : Addr) (A0_0 : Option Addr) (c0_0 : Nat) (l0_0 : List Int) (a0_1 : Int) (a0_2 : Int) (r1 : Int) (r2 : Int) (w : World) (hr0_0 : Kd.C (Kd.int .i64) w A0_0 l0_0.length l0_0) (hc0_0 : l0_0.length ≤ c0_0) (hp0 : AtP w p0 0 [.slice A0_0 l0_0.length c0_0, .int .i64 a0_1, .int .i64 a0_2]) (h : impl_Buf_region.f l0_0 a0_1 a0_2 = some (r1, r2)) :
  Calls Try.prog 75 #[.pointer (some p0)] w fun e w' => e = .returned (.tuple #[.int .i64 r1, .int .i64 r2]) ∧ Below w.heap.size w w' := by
 have HR0_0 := am hr0_0
 have HC0_0 := am hc0_0
 clear hr0_0 hc0_0
 have BP0 := am hp0
 clear hp0
 have HB := am (Below.refl w.heap.size w)
 have H : (some (mn a0_2 a0_1, mx a0_2 a0_1)) = some (r1, r2) := h
 clear h
 obtain ⟨ji2, hji2⟩ : ∃ j_ : Int, (mn a0_2 a0_1) = j_ := ⟨_, rfl⟩
 replace H : (some (ji2, mx a0_2 a0_1)) = some (r1, r2) := by first | (rw [hji2] at H; exact H) | (simp only [hji2] at H ⊢; exact H)
 have hji2_ : (if a0_1 < a0_2 then a0_1 else a0_2) = ji2 := hji2
 obtain ⟨ji3, hji3⟩ : ∃ j_ : Int, (mx a0_2 a0_1) = j_ := ⟨_, rfl⟩
 replace H : (some (ji2, ji3)) = some (r1, r2) := by first | (rw [hji3] at H; exact H) | (simp only [hji3] at H ⊢; exact H)
 have hji3_ : (if a0_2 < a0_1 then a0_1 else a0_2) = ji3 := hji3
 simp only [Option.some.injEq, Prod.mk.injEq] at H
 obtain ⟨rfl, rfl⟩ := H
 obtain ⟨hcz4_0, hcz4_1, hcz4_2, _⟩ := (show w.cell? p0 = some (.slice A0_0 l0_0.length c0_0) ∧ w.cell? ⟨p0.block, p0.off + 1, none⟩ = some (.int .i64 a0_1) ∧ w.cell? ⟨p0.block, p0.off + 2, none⟩ = some (.int .i64 a0_2) ∧ True from BP0.out)
 go_enter Try.func75, Try.ntmps75
 go_wp2
 repeat (go_quiet (fail); try go_wp2)
 go_ret2
 exact ⟨by first | rfl | (simp [errW_none, errW_some] <;> rfl) | (simp only [← hji2, ← hji3]; first | rfl | (simp [errW_none, errW_some] <;> rfl)) | (simp [*, errW_none, errW_some] <;> rfl), by repeat (first | (with_reducible first | exact HB.out | apply below_alloc | apply pw_below_drewN | apply below_drew1) | exact HB.out)⟩

-- NOT PRINTED: function 49 (impl_lay)

end Go.Proofs.Ytcjclihkaaaihaa.PFnExactViewRows
