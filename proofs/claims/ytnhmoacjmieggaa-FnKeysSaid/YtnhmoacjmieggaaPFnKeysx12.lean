-- Written by xprint.py (this claim's own program, over the kit's printer); Lean checks it.
import Derived.Test.YtnhmoacjmieggaaPFnKeysx0
import Derived.Test.YtnhmoacjmieggaaPFnKeysx8
import Derived.Test.YtnhmoacjmieggaaPFnKeysx9
import Derived.Test.YtnhmoacjmieggaaPFnKeysx10
import Derived.Test.YtnhmoacjmieggaaPFnKeysx11
namespace Go.Proofs.Ytnhmoacjmieggaa.PFnKeys
open Go.RowKit Go.Proofs.YtnhmoacjmieggaaW.PrintWords Go.Proofs.YtnhmoacjmieggaaW.PrintLast Go.Proofs.YtnhmoacjmieggaaW.PrintMore
attribute [local go_sem] max2_int min2_int max_two min_two max_three min_three max_four min_four   -- for this text's walks alone
set_option linter.unusedVariables false
set_option linter.unusedSimpArgs false   -- squeezed

/-! ### impl_KeyFeed: function 15 -/
def impl_KeyFeed.j0 : Nat → List (S40) → Int → ByteArray → Bool → Bool → Option ((List (S38)) × ByteArray × Int)
 | 0, _, _, _, _, _ => none
 | k + 1, x0, x1, x2, x3, x11 => if x11 = true then (some (([] : List (S38)), (⟨#[]⟩ : ByteArray), 2)) else ((impl_KeysRight.f k x0).bind fun t431 => (if t431 = true then ((impl_within.f x1 1 9).bind fun t432 => (if t432 = true then ((impl_feed.f k x0 x1 x2 x3).bind fun bt433 => (some (bt433.1, bt433.2, 0))) else (some (([] : List (S38)), (⟨#[]⟩ : ByteArray), 1)))) else (some (([] : List (S38)), (⟨#[]⟩ : ByteArray), 1))))
def impl_KeyFeed.f (k : Nat) (l0 : List (S40)) (a1 : Int) (a2 : ByteArray) (a3 : Bool) : Option ((List (S38)) × ByteArray × Int) := (impl_isMany.f (l0.length : Int)).bind fun t426 => (if t426 = true then (impl_KeyFeed.j0 k l0 a1 a2 a3 true) else ((impl_isLong.f k (([a2] : List ByteArray))).bind fun t430 => (impl_KeyFeed.j0 k l0 a1 a2 a3 t430)))
theorem impl_KeyFeed.mono_l : ∀ k, (∀ y0 y1 y2 y3 y4, LeO (impl_KeyFeed.j0 k y0 y1 y2 y3 y4) (impl_KeyFeed.j0 (k + 1) y0 y1 y2 y3 y4))
 | 0 => fun _ _ _ _ _ r h => by simp [impl_KeyFeed.j0] at h
 | k + 1 => by
  have ih0 := impl_KeyFeed.mono_l k
  ·intro y0 y1 y2 y3 y4
   unfold impl_KeyFeed.j0
   repeat' first
   | (with_reducible exact ih0 _ _ _ _ _)
   | (with_reducible exact impl_KeysRight.mono _ _)
   | (with_reducible exact impl_feed.mono _ _ _ _ _)
   | (with_reducible exact impl_isLong.mono _ _)
   | (with_reducible exact LeO.refl _)
   | (with_reducible exact LeO.none _)
   | (with_reducible refine LeO.ite ?_ ?_)
   | (with_reducible refine LeO.bind ?_ (fun _ => ?_))
   | exact ih0 _ _ _ _ _
   | exact impl_KeysRight.mono _ _
   | exact impl_feed.mono _ _ _ _ _
   | exact impl_isLong.mono _ _
   | refine LeO.bind ?_ (fun _ => ?_)
theorem impl_KeyFeed.mono : ∀ a0 a1 a2 a3 k, LeO (impl_KeyFeed.f k a0 a1 a2 a3) (impl_KeyFeed.f (k + 1) a0 a1 a2 a3) := by
 intro a0 a1 a2 a3 k
 have ih0 := impl_KeyFeed.mono_l k
 unfold impl_KeyFeed.f
 repeat' first
   | (with_reducible exact ih0 _ _ _ _ _)
   | (with_reducible exact impl_KeysRight.mono _ _)
   | (with_reducible exact impl_feed.mono _ _ _ _ _)
   | (with_reducible exact impl_isLong.mono _ _)
   | (with_reducible exact LeO.refl _)
   | (with_reducible exact LeO.none _)
   | (with_reducible refine LeO.ite ?_ ?_)
   | (with_reducible refine LeO.bind ?_ (fun _ => ?_))
   | exact ih0 _ _ _ _ _
   | exact impl_KeysRight.mono _ _
   | exact impl_feed.mono _ _ _ _ _
   | exact impl_isLong.mono _ _
   | refine LeO.bind ?_ (fun _ => ?_)
set_option maxHeartbeats 8000000 in
set_option maxRecDepth 100000 in
theorem impl_KeyFeed.calls (k : Nat) (A0 : Option Addr) (c0 : Nat) (l0 : List (S40)) (a1 : Int) (a2 : ByteArray) (a3 : Bool) (r1 : List (S38)) (r2 : ByteArray) (r3 : Int) (w : World) (hr0 : Kd.C k40 w A0 l0.length l0) (hc0 : l0.length ≤ c0) (h : impl_KeyFeed.f k l0 a1 a2 a3 = some (r1, r2, r3)) :
  Calls Try.prog 15 #[.slice A0 l0.length c0, .int .i64 a1, .string a2, .bool a3] w fun e w' => ∃ v0_ : Value, e = .returned (.agg #[v0_, .string r2, .int .i64 r3]) ∧ Kd.R k38 38 w' w.heap.size (fun _ => True) v0_ r1 ∧ Below w.heap.size w w' := by
 have hu35 := Try.underlying35
 have HR0 := am hr0
 have HC0 := am hc0
 clear hr0 hc0
 have HB := am (Below.refl w.heap.size w)
 have H : ((impl_isMany.f (l0.length : Int)).bind fun t426 => (if t426 = true then (impl_KeyFeed.j0 k l0 a1 a2 a3 true) else ((impl_isLong.f k (([a2] : List ByteArray))).bind fun t430 => (impl_KeyFeed.j0 k l0 a1 a2 a3 t430)))) = some (r1, r2, r3) := h
 clear h
 have HC5 := Aside0.mk H
 clear H
 go_enter Try.func15, Try.ntmps15
 go_upto_region 1 with (first | ((with_reducible refine gate_dst (N := 8) rfl ?_); (try (refine gate_guard (by rfl) ?_; dsimp only)); refine box_event ?hg (N := 8) ?hd (cs := #[.slice none 0 0, .string (⟨#[]⟩ : ByteArray), .int .i64 0]) (t := 35) ?hr ?_; (case hd => rfl); (case hg => rfl); (case hr => first | (go_simp; done) | (go_simp; rfl)); intro gb425 hg w6 hbox hb; have BK425 := am (hbox); have GW425 := am ((by rw [hg]; exact (below_size (bl HB.out)) : w.heap.size ≤ gb425)); have GE425 := GW425; replace HB := am (below_step (bl HB.out) hb); clear hb hbox hg))
 (try simp only [Act.put, sa_, s0_, ss_])
 go_cut [11] (fun v11 wc => ∃ (kq : Nat) (x11_4 : Bool), v11 = .bool x11_4 ∧ Aside0 (impl_KeyFeed.j0 kq l0 a1 a2 a3 x11_4 = some (r1, r2, r3)) ∧ Aside0 (kq ≤ k) ∧ Aside0 (wc.heap[gb425]? = some (.cells #[(.slice none 0 0), .string (⟨#[]⟩ : ByteArray), .int .i64 0] 35 (0, 0))) ∧ Aside0 (Below w.heap.size w wc))
 case first =>
  have H := HC5.out
  clear HC5
  replace H := Option.bind_eq_some_iff.mp H
  obtain ⟨t426, A70, H⟩ := H
  replace H : (if t426 = true then (impl_KeyFeed.j0 k l0 a1 a2 a3 true) else ((impl_isLong.f k (([a2] : List ByteArray))).bind fun t430 => (impl_KeyFeed.j0 k l0 a1 a2 a3 t430))) = some (r1, r2, r3) := H
  have A7 := Aside0.mk A70
  clear A70
  by_cases c8 : t426 = true
  ·subst c8
   have H1 : (impl_KeyFeed.j0 k l0 a1 a2 a3 true) = some (r1, r2, r3) := by rw [if_pos rfl] at H; exact H
   clear H
   have H := H1
   clear H1
   have H' := Aside0.mk H
   clear H
   go_wp2_with (first | ((with_reducible refine gate_callee (f := 21) rfl ?_); refine gl (some 14) Try.func21 #[.int .i64 (l0.length : Int)] ?_; (with_reducible refine (impl_isMany.calls (l0.length : Int) true _ A7.out).mono ?_); rintro e w' ⟨rfl, ⟨nd, rfl⟩⟩; refine ⟨_, rfl, ?_⟩))
   go_meet
   case rel => exact ⟨_, (true), (by first | rfl | (simp; done) | (simp [*]; done)), H', ⟨by first | omega | exact Nat.le_refl _⟩, ⟨pk BK425.out⟩, ⟨by repeat (first | (with_reducible first | exact HB.out | apply below_alloc | apply pw_below_drewN | apply below_drew1 | refine below_set ?_ GE425.out) | exact HB.out)⟩⟩
  ·replace c8 := Bool.eq_false_iff.mpr c8
   subst c8
   have H1 : ((impl_isLong.f k (([a2] : List ByteArray))).bind fun t430 => (impl_KeyFeed.j0 k l0 a1 a2 a3 t430)) = some (r1, r2, r3) := by rw [if_neg (show ¬ (false = true) by decide)] at H; exact H
   clear H
   have H := H1
   clear H1
   obtain ⟨y427, hy427⟩ : ∃ y_ : List ByteArray, y_ = (([a2] : List ByteArray)) := ⟨_, rfl⟩
   replace H : ((impl_isLong.f k y427).bind fun t430 => (impl_KeyFeed.j0 k l0 a1 a2 a3 t430)) = some (r1, r2, r3) := by first | (rw [hy427]; with_reducible exact H) | (have H2_ := (Option.bind_some _ _).symm.trans H; rw [hy427]; with_reducible exact H2_) | (have H2_ := (Option.bind_some _ _).symm.trans H; with_reducible exact H2_) | with_reducible exact H | (rw [hy427]; exact H) | exact H
   have Ny427 := am hy427
   clear hy427
   replace H := Option.bind_eq_some_iff.mp H
   obtain ⟨t430, A90, H⟩ := H
   replace H : (impl_KeyFeed.j0 k l0 a1 a2 a3 t430) = some (r1, r2, r3) := H
   have A9 := Aside0.mk A90
   clear A90
   have H' := Aside0.mk H
   clear H
   go_wp2_with (first | ((with_reducible refine gate_callee (f := 21) rfl ?_); refine gl (some 14) Try.func21 #[.int .i64 (l0.length : Int)] ?_; (with_reducible refine (impl_isMany.calls (l0.length : Int) false _ A7.out).mono ?_); rintro e w' ⟨rfl, ⟨nd, rfl⟩⟩; refine ⟨_, rfl, ?_⟩) | ((with_reducible refine gate_dst (N := 17) rfl ?_); (try (refine gate_guard (by rfl) ?_; dsimp only)); refine Kd.R_lit Kd.string _ 9 ?hg (N := 17) ?hd (xs := ([a2] : List ByteArray)) (inner := [.string a2]) (ok := fun _ => True) (okp := fun _ => True) ?hr ?hp (fun _ hk => hk) trivial (Below.refl _ _) (Nat.le_refl _) (by simp) ?_; (case hd => rfl); (case hg => rfl); (case hr => first | (go_simp; done) | (go_simp; rfl)); (case hp => exact (Reps.one (show Kd.M Kd.string _ _ _ a2 [.string a2] from rfl) (Reps.none _ _))); intro v428 w10 ho11 hb hg_ hnew_; clear hg_ hnew_; (first | rw [← Ny427.out] at ho11 | (simp only [Int.reduceToNat] at ho11; rw [← Ny427.out] at ho11)); have HO429 := am (Kd.R_lower ho11 (below_size (bl HB.out))); replace BK425 := am (blk_below (pk BK425.out) hb); replace HB := am (below_step (bl HB.out) hb); clear hb ho11; obtain ⟨Ao12, co12, eo12⟩ := Kd.R_slice HO429.out; subst eo12) | (go_at_call 22; (with_reducible refine (impl_isLong.calls k _ _ y427 t430 _ ?side1 ?side2 A9.out).mono ?_); (case side1 => repeat (first | exact (Kd.R_reads' HO429.out).2.2 | (with_reducible refine Kd.C_alloc ?_ _) | (with_reducible refine Kd.C_drewN ?_ _) | (with_reducible refine Kd.C_drew ?_))); (case side2 => exact (Kd.R_reads' HO429.out).2.1); rintro e w' ⟨rfl, ⟨nd, rfl⟩⟩))
   go_meet
   case rel => exact ⟨_, (t430), (by first | rfl | (simp; done) | (simp [*]; done)), H', ⟨by first | omega | exact Nat.le_refl _⟩, ⟨pk BK425.out⟩, ⟨by repeat (first | (with_reducible first | exact HB.out | apply below_alloc | apply pw_below_drewN | apply below_drew1 | refine below_set ?_ GE425.out) | exact HB.out)⟩⟩
 case rest =>
  clear HC5
  try clear c1
  try clear c2
  try clear p2
  try clear c8
  obtain ⟨kq, x11_4, rfl, HA, HJ4, BK425, HB⟩ := hcut
  cases kq with
  | zero => exact absurd HA.out (by simp [impl_KeyFeed.j0])
  | succ kj4 =>
   have H := HA.out
   clear HA
   simp only [impl_KeyFeed.j0] at H
   by_cases c13 : x11_4 = true
   ·subst c13
    have H1 : (some (([] : List (S38)), (⟨#[]⟩ : ByteArray), 2)) = some (r1, r2, r3) := by rw [if_pos rfl] at H; exact H
    clear H
    have H := H1
    clear H1
    simp only [Option.some.injEq, Prod.mk.injEq] at H
    obtain ⟨rfl, rfl, rfl⟩ := H
    have hcz14_0 : wc.cell? ⟨gb425, 0, none⟩ = some (.slice none 0 0) := bc BK425.out 0
    have hcz14_1 : wc.cell? ⟨gb425, 1, none⟩ = some (.string (⟨#[]⟩ : ByteArray)) := bc BK425.out 1
    have hcz14_2 : wc.cell? ⟨gb425, 2, none⟩ = some (.int .i64 0) := bc BK425.out 2
    have hfz14_0 := blk_frozen BK425.out 0
    have hfz14_1 := blk_frozen BK425.out 1
    have hfz14_2 := blk_frozen BK425.out 2
    go_wp2
    refine bodyPost_ret (results_cell_row rfl _ _ gb425 35 #[.slice none 0 0, .string (⟨#[]⟩ : ByteArray), .int .i64 2] (0, 0) _ rfl (by refine pk ?_; refine blk_put (cs := #[.slice none 0 0, .string (⟨#[]⟩ : ByteArray), .int .i64 0]) ?_ 2 _ rfl; refine pk ?_; refine blk_put (cs := #[.slice none 0 0, .string (⟨#[]⟩ : ByteArray), .int .i64 0]) ?_ 1 _ rfl; refine pk ?_; refine blk_put (cs := #[.slice none 0 0, .string (⟨#[]⟩ : ByteArray), .int .i64 0]) ?_ 0 _ rfl; refine pk ?_; exact BK425.out) Try.underlying35 rfl (by kernel_rfl)) rfl ?_
    exact ⟨_, by first | rfl | (simp [errW_none, errW_some] <;> rfl) | (simp [*, errW_none, errW_some] <;> rfl), by first | exact Kd.R_nil _ _ _ _ _ | exact Kd.N_nil _ _ _ _ _ | exact Kd.V_nil _ _ _ _ _ | exact Kd.Q_nil _ _ _ _ _ | exact Kd.S_nil _ _ _ _ _, by repeat (first | (with_reducible first | exact HB.out | apply below_alloc | apply pw_below_drewN | apply below_drew1 | refine below_set ?_ GE425.out) | exact HB.out)⟩
   ·replace c13 := Bool.eq_false_iff.mpr c13
    subst c13
    have H1 : ((impl_KeysRight.f kj4 l0).bind fun t431 => (if t431 = true then ((impl_within.f a1 1 9).bind fun t432 => (if t432 = true then ((impl_feed.f kj4 l0 a1 a2 a3).bind fun bt433 => (some (bt433.1, bt433.2, 0))) else (some (([] : List (S38)), (⟨#[]⟩ : ByteArray), 1)))) else (some (([] : List (S38)), (⟨#[]⟩ : ByteArray), 1)))) = some (r1, r2, r3) := by rw [if_neg (show ¬ (false = true) by decide)] at H; exact H
    clear H
    have H := H1
    clear H1
    replace H := Option.bind_eq_some_iff.mp H
    obtain ⟨t431, A150, H⟩ := H
    replace H : (if t431 = true then ((impl_within.f a1 1 9).bind fun t432 => (if t432 = true then ((impl_feed.f kj4 l0 a1 a2 a3).bind fun bt433 => (some (bt433.1, bt433.2, 0))) else (some (([] : List (S38)), (⟨#[]⟩ : ByteArray), 1)))) else (some (([] : List (S38)), (⟨#[]⟩ : ByteArray), 1))) = some (r1, r2, r3) := H
    have A15 := Aside0.mk A150
    clear A150
    by_cases c16 : t431 = true
    ·subst c16
     have H1 : ((impl_within.f a1 1 9).bind fun t432 => (if t432 = true then ((impl_feed.f kj4 l0 a1 a2 a3).bind fun bt433 => (some (bt433.1, bt433.2, 0))) else (some (([] : List (S38)), (⟨#[]⟩ : ByteArray), 1)))) = some (r1, r2, r3) := by rw [if_pos rfl] at H; exact H
     clear H
     have H := H1
     clear H1
     replace H := Option.bind_eq_some_iff.mp H
     obtain ⟨t432, A170, H⟩ := H
     replace H : (if t432 = true then ((impl_feed.f kj4 l0 a1 a2 a3).bind fun bt433 => (some (bt433.1, bt433.2, 0))) else (some (([] : List (S38)), (⟨#[]⟩ : ByteArray), 1))) = some (r1, r2, r3) := H
     have A17 := Aside0.mk A170
     clear A170
     by_cases c18 : t432 = true
     ·subst c18
      have H1 : ((impl_feed.f kj4 l0 a1 a2 a3).bind fun bt433 => (some (bt433.1, bt433.2, 0))) = some (r1, r2, r3) := by rw [if_pos rfl] at H; exact H
      clear H
      have H := H1
      clear H1
      replace H := Option.bind_eq_some_iff.mp H
      obtain ⟨⟨t433, t434⟩, A190, H⟩ := H
      replace H : (some (t433, t434, 0)) = some (r1, r2, r3) := H
      have A19 := Aside0.mk A190
      clear A190
      simp only [Option.some.injEq, Prod.mk.injEq] at H
      obtain ⟨rfl, rfl, rfl⟩ := H
      go_wp2_with (first | ((with_reducible refine gate_callee (f := 24) rfl ?_); refine gl (some 23) Try.func24 #[.slice A0 l0.length c0] ?_; (with_reducible refine (impl_KeysRight.calls kj4 _ _ l0 true _ ?side1 ?side2 A15.out).mono ?_); (case side1 => repeat (first | exact (Kd.C_below HR0.out HB.out) | (with_reducible refine Kd.C_alloc ?_ _) | (with_reducible refine Kd.C_drewN ?_ _) | (with_reducible refine Kd.C_drew ?_))); (case side2 => exact HC0.out); rintro e w20 ⟨rfl, hb⟩; refine ⟨_, rfl, ?_⟩; replace BK425 := am (blk_below (pk BK425.out) hb); replace HB := am (below_step (bl HB.out) hb); (try clear hb); (try clear hb2); (try clear hk); (try clear hi)) | (go_at_call 35; (with_reducible refine (impl_within.calls a1 1 9 true _ A17.out).mono ?_); rintro e w' ⟨rfl, ⟨nd, rfl⟩⟩; (try (rw [drewN_self w20]; generalize hq_ : World.drewN w20 _ = w20; replace BK425 : Aside0 (w20.heap[gb425]? = some (.cells #[.slice none 0 0, .string (⟨#[]⟩ : ByteArray), .int .i64 0] 35 (0, 0))) := ⟨by rw [← hq_]; exact (pk BK425.out)⟩; replace HB : Aside0 (Below w.heap.size w w20) := ⟨by rw [← hq_]; exact (bl HB.out)⟩; clear hq_))) | ((with_reducible refine gate_callee (f := 36) rfl ?_); refine gl (some 36) Try.func36 #[.slice A0 l0.length c0, .int .i64 a1, .string a2, .bool a3] ?_; (with_reducible refine (impl_feed.calls kj4 _ _ l0 a1 a2 a3 t433 t434 _ ?side1 ?side2 A19.out).mono ?_); (case side1 => repeat (first | exact (Kd.C_below HR0.out HB.out) | (with_reducible refine Kd.C_alloc ?_ _) | (with_reducible refine Kd.C_drewN ?_ _) | (with_reducible refine Kd.C_drew ?_))); (case side2 => exact HC0.out); rintro e w21 ⟨v435, rfl, ho0, hb⟩; refine ⟨_, rfl, ?_⟩; have HO436 := am (Kd.R_lower ho0 (below_size (bl HB.out))); replace BK425 := am (blk_below (pk BK425.out) hb); replace HB := am (below_step (bl HB.out) hb); (try clear hb); (try clear hb2); (try clear hk); (try clear hi); (try clear ho0); obtain ⟨Ao22, co22, eo22⟩ := Kd.R_slice HO436.out; subst eo22; have hcz23_0 : w21.cell? ⟨gb425, 0, none⟩ = some (.slice none 0 0) := bc BK425.out 0; have hcz23_1 : w21.cell? ⟨gb425, 1, none⟩ = some (.string (⟨#[]⟩ : ByteArray)) := bc BK425.out 1; have hcz23_2 : w21.cell? ⟨gb425, 2, none⟩ = some (.int .i64 0) := bc BK425.out 2; have hfz23_0 := blk_frozen BK425.out 0; have hfz23_1 := blk_frozen BK425.out 1; have hfz23_2 := blk_frozen BK425.out 2))
      refine bodyPost_ret (results_cell_row rfl _ _ gb425 35 #[.slice Ao22 t433.length co22, .string t434, .int .i64 0] (0, 0) _ rfl (by refine pk ?_; refine blk_put (cs := #[.slice Ao22 t433.length co22, .string t434, .int .i64 0]) ?_ 2 _ rfl; refine pk ?_; refine blk_put (cs := #[.slice Ao22 t433.length co22, .string (⟨#[]⟩ : ByteArray), .int .i64 0]) ?_ 1 _ rfl; refine pk ?_; refine blk_put (cs := #[.slice none 0 0, .string (⟨#[]⟩ : ByteArray), .int .i64 0]) ?_ 0 _ rfl; refine pk ?_; exact BK425.out) Try.underlying35 rfl (by kernel_rfl)) rfl ?_
      exact ⟨_, by first | rfl | (simp [errW_none, errW_some] <;> rfl) | (simp [*, errW_none, errW_some] <;> rfl), kr (Kd.R_mono (Kd.R_far (p := ⟨gb425, 2, none⟩) (Kd.R_far (p := ⟨gb425, 1, none⟩) (Kd.R_far (p := ⟨gb425, 0, none⟩) (Kd.R_types HO436.out BK425.out (by decide)) (fun _ hk => hk.2) (.slice Ao22 t433.length co22)) (fun _ hk => hk.2) (.string t434)) (fun _ hk => hk.2) (.int .i64 0)) (fun _ hk => trivial)), by repeat (first | (with_reducible first | exact HB.out | apply below_alloc | apply pw_below_drewN | apply below_drew1 | refine below_set ?_ GE425.out) | exact HB.out)⟩
     ·replace c18 := Bool.eq_false_iff.mpr c18
      subst c18
      have H1 : (some (([] : List (S38)), (⟨#[]⟩ : ByteArray), 1)) = some (r1, r2, r3) := by rw [if_neg (show ¬ (false = true) by decide)] at H; exact H
      clear H
      have H := H1
      clear H1
      simp only [Option.some.injEq, Prod.mk.injEq] at H
      obtain ⟨rfl, rfl, rfl⟩ := H
      go_wp2_with (first | ((with_reducible refine gate_callee (f := 24) rfl ?_); refine gl (some 23) Try.func24 #[.slice A0 l0.length c0] ?_; (with_reducible refine (impl_KeysRight.calls kj4 _ _ l0 true _ ?side1 ?side2 A15.out).mono ?_); (case side1 => repeat (first | exact (Kd.C_below HR0.out HB.out) | (with_reducible refine Kd.C_alloc ?_ _) | (with_reducible refine Kd.C_drewN ?_ _) | (with_reducible refine Kd.C_drew ?_))); (case side2 => exact HC0.out); rintro e w24 ⟨rfl, hb⟩; refine ⟨_, rfl, ?_⟩; replace BK425 := am (blk_below (pk BK425.out) hb); replace HB := am (below_step (bl HB.out) hb); (try clear hb); (try clear hb2); (try clear hk); (try clear hi)) | (go_at_call 35; (with_reducible refine (impl_within.calls a1 1 9 false _ A17.out).mono ?_); rintro e w' ⟨rfl, ⟨nd, rfl⟩⟩; (try (rw [drewN_self w24]; generalize hq_ : World.drewN w24 _ = w24; replace BK425 : Aside0 (w24.heap[gb425]? = some (.cells #[.slice none 0 0, .string (⟨#[]⟩ : ByteArray), .int .i64 0] 35 (0, 0))) := ⟨by rw [← hq_]; exact (pk BK425.out)⟩; replace HB : Aside0 (Below w.heap.size w w24) := ⟨by rw [← hq_]; exact (bl HB.out)⟩; clear hq_)); have hcz25_0 : w24.cell? ⟨gb425, 0, none⟩ = some (.slice none 0 0) := bc BK425.out 0; have hcz25_1 : w24.cell? ⟨gb425, 1, none⟩ = some (.string (⟨#[]⟩ : ByteArray)) := bc BK425.out 1; have hcz25_2 : w24.cell? ⟨gb425, 2, none⟩ = some (.int .i64 0) := bc BK425.out 2; have hfz25_0 := blk_frozen BK425.out 0; have hfz25_1 := blk_frozen BK425.out 1; have hfz25_2 := blk_frozen BK425.out 2))
      refine bodyPost_ret (results_cell_row rfl _ _ gb425 35 #[.slice none 0 0, .string (⟨#[]⟩ : ByteArray), .int .i64 1] (0, 0) _ rfl (by refine pk ?_; refine blk_put (cs := #[.slice none 0 0, .string (⟨#[]⟩ : ByteArray), .int .i64 0]) ?_ 2 _ rfl; refine pk ?_; refine blk_put (cs := #[.slice none 0 0, .string (⟨#[]⟩ : ByteArray), .int .i64 0]) ?_ 1 _ rfl; refine pk ?_; refine blk_put (cs := #[.slice none 0 0, .string (⟨#[]⟩ : ByteArray), .int .i64 0]) ?_ 0 _ rfl; refine pk ?_; exact BK425.out) Try.underlying35 rfl (by kernel_rfl)) rfl ?_
      exact ⟨_, by first | rfl | (simp [errW_none, errW_some] <;> rfl) | (simp [*, errW_none, errW_some] <;> rfl), by first | exact Kd.R_nil _ _ _ _ _ | exact Kd.N_nil _ _ _ _ _ | exact Kd.V_nil _ _ _ _ _ | exact Kd.Q_nil _ _ _ _ _ | exact Kd.S_nil _ _ _ _ _, by repeat (first | (with_reducible first | exact HB.out | apply below_alloc | apply pw_below_drewN | apply below_drew1 | refine below_set ?_ GE425.out) | exact HB.out)⟩
    ·replace c16 := Bool.eq_false_iff.mpr c16
     subst c16
     have H1 : (some (([] : List (S38)), (⟨#[]⟩ : ByteArray), 1)) = some (r1, r2, r3) := by rw [if_neg (show ¬ (false = true) by decide)] at H; exact H
     clear H
     have H := H1
     clear H1
     simp only [Option.some.injEq, Prod.mk.injEq] at H
     obtain ⟨rfl, rfl, rfl⟩ := H
     go_wp2_with (first | ((with_reducible refine gate_callee (f := 24) rfl ?_); refine gl (some 23) Try.func24 #[.slice A0 l0.length c0] ?_; (with_reducible refine (impl_KeysRight.calls kj4 _ _ l0 false _ ?side1 ?side2 A15.out).mono ?_); (case side1 => repeat (first | exact (Kd.C_below HR0.out HB.out) | (with_reducible refine Kd.C_alloc ?_ _) | (with_reducible refine Kd.C_drewN ?_ _) | (with_reducible refine Kd.C_drew ?_))); (case side2 => exact HC0.out); rintro e w26 ⟨rfl, hb⟩; refine ⟨_, rfl, ?_⟩; replace BK425 := am (blk_below (pk BK425.out) hb); replace HB := am (below_step (bl HB.out) hb); (try clear hb); (try clear hb2); (try clear hk); (try clear hi); have hcz27_0 : w26.cell? ⟨gb425, 0, none⟩ = some (.slice none 0 0) := bc BK425.out 0; have hcz27_1 : w26.cell? ⟨gb425, 1, none⟩ = some (.string (⟨#[]⟩ : ByteArray)) := bc BK425.out 1; have hcz27_2 : w26.cell? ⟨gb425, 2, none⟩ = some (.int .i64 0) := bc BK425.out 2; have hfz27_0 := blk_frozen BK425.out 0; have hfz27_1 := blk_frozen BK425.out 1; have hfz27_2 := blk_frozen BK425.out 2))
     refine bodyPost_ret (results_cell_row rfl _ _ gb425 35 #[.slice none 0 0, .string (⟨#[]⟩ : ByteArray), .int .i64 1] (0, 0) _ rfl (by refine pk ?_; refine blk_put (cs := #[.slice none 0 0, .string (⟨#[]⟩ : ByteArray), .int .i64 0]) ?_ 2 _ rfl; refine pk ?_; refine blk_put (cs := #[.slice none 0 0, .string (⟨#[]⟩ : ByteArray), .int .i64 0]) ?_ 1 _ rfl; refine pk ?_; refine blk_put (cs := #[.slice none 0 0, .string (⟨#[]⟩ : ByteArray), .int .i64 0]) ?_ 0 _ rfl; refine pk ?_; exact BK425.out) Try.underlying35 rfl (by kernel_rfl)) rfl ?_
     exact ⟨_, by first | rfl | (simp [errW_none, errW_some] <;> rfl) | (simp [*, errW_none, errW_some] <;> rfl), by first | exact Kd.R_nil _ _ _ _ _ | exact Kd.N_nil _ _ _ _ _ | exact Kd.V_nil _ _ _ _ _ | exact Kd.Q_nil _ _ _ _ _ | exact Kd.S_nil _ _ _ _ _, by repeat (first | (with_reducible first | exact HB.out | apply below_alloc | apply pw_below_drewN | apply below_drew1 | refine below_set ?_ GE425.out) | exact HB.out)⟩

end Go.Proofs.Ytnhmoacjmieggaa.PFnKeys
