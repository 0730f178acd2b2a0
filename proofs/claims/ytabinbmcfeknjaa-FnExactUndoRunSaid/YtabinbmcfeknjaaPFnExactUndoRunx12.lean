-- Written by xprint.py (this claim's own program, over the kit's printer); Lean checks it.
import Derived.Test.YtabinbmcfeknjaaPFnExactUndoRunx0
namespace Go.Proofs.Ytabinbmcfeknjaa.PFnExactUndoRun
open Go.RowKit Go.Proofs.YtabinbmcfeknjaaW.PrintWords Go.Proofs.YtabinbmcfeknjaaW.PrintLast Go.Proofs.YtabinbmcfeknjaaW.PrintMore
attribute [local go_sem] max2_int min2_int max_two min_two max_three min_three max_four min_four   -- for this text's walks alone
set_option linter.unusedVariables false
set_option linter.unusedSimpArgs false   -- squeezed
set_option maxHeartbeats 8000000
set_option maxRecDepth 100000

/-! ### laws_markInt64S: function 36 -/
def laws_markInt64S.l0 : Nat → List Int → Int → Int → Option (Int × List Int)
 | 0, _, _, _ => none
 | k + 1, x0, x1, x5 => if x5 < (x0.length : Int) then (if 0 ≤ x5 then (laws_markInt64S.l0 k (x0.set (x5 : Int).toNat x1) (wrap64 (x1 + 1)) (wrap64 (x5 + 1))) else (none)) else (some (x1, x0))
def laws_markInt64S.f (k : Nat) (l0 : List Int) (a1 : Int) : Option (Int × List Int) := laws_markInt64S.l0 k l0 a1 0
theorem laws_markInt64S.calls (k : Nat) (P0_ : Nat → Prop) (u9000_ : Value) (l0 : List Int) (a1 : Int) (r1 : Int) (r2 : List Int) (w0 w : World) (hB : Below w0.heap.size w0 w) (ho0 : Kd.R (Kd.int .i64) 2 w w0.heap.size P0_ u9000_ l0) (h : laws_markInt64S.f k l0 a1 = some (r1, r2)) :
  Calls Try.prog 36 #[u9000_, .int .i64 a1] w fun e w' => e = .returned (.int .i64 r1) ∧ Kd.R (Kd.int .i64) 2 w' w0.heap.size (fun k_ => (P0_ k_ ∨ w.heap.size ≤ k_)) u9000_ r2 ∧ Below w0.heap.size w0 w' ∧ Kept w w' (fun k_ => P0_ k_) := by
 have HO0 := am (show Kd.R (Kd.int .i64) 2 w w0.heap.size (fun k_ => (P0_ k_ ∨ w.heap.size ≤ k_)) u9000_ l0 from Kd.R_mono ho0 (fun k_ hk => (.inl hk)))
 have HK := am (Kept.refl w (fun k_ => P0_ k_))
 have HW0 := am hB.size
 have HB := am hB
 clear hB
 have H : (laws_markInt64S.l0 k l0 a1 0) = some (r1, r2) := h
 clear h
 have H' := Aside0.mk H
 clear H
 go_enter Try.func36, Try.ntmps36
 go_wp2
 go_loopg [1, 5] k (fun kq v1 v5 w' => ∃ (x0_1 : List Int) (x1_1 : Int) (x5_1 : Int), v1 = .int .i64 x1_1 ∧ v5 = .int .i64 x5_1 ∧ Aside0 (laws_markInt64S.l0 kq x0_1 x1_1 x5_1 = some (r1, r2)) ∧ Aside0 (kq ≤ k) ∧ Aside0 (Kd.R (Kd.int .i64) 2 w' w0.heap.size (fun k_ => (P0_ k_ ∨ w.heap.size ≤ k_)) u9000_ x0_1) ∧ Aside0 (Kept w w' (fun k_ => P0_ k_)) ∧ Aside0 (Below w0.heap.size w0 w'))
 case atStart => exact ⟨(l0), (a1), (0), (by first | rfl | (simp; done) | (simp [*]; done)), (by first | rfl | (simp; done) | (simp [*]; done)), H', ⟨Nat.le_refl _⟩, ⟨kr HO0.out⟩, ⟨by repeat (first | (with_reducible first | exact HK.out | apply Kept.alloc | apply Kept.drewN | apply Kept.drew) | exact HK.out)⟩, ⟨by repeat (first | (with_reducible first | exact HB.out | apply below_alloc | apply pw_below_drewN | apply below_drew1) | exact HB.out)⟩⟩
 case round =>
  clear H'
  try clear p2
  obtain ⟨x0_1, x1_1, x5_1, rfl, rfl, HA, HK1, HO_0, HK, HB⟩ := hrel
  cases gk with
  | zero => exact absurd HA.out (by simp [laws_markInt64S.l0])
  | succ k1 =>
   have H := HA.out
   clear HA
   simp only [laws_markInt64S.l0] at H
   by_cases c3 : x5_1 < (x0_1.length : Int)
   ·rw [if_pos c3] at H
    have c3b0 : decide (x5_1 < (x0_1.length : Int)) = true := decide_eq_true c3
    clear c3
    by_cases c4 : 0 ≤ x5_1
    ·rw [if_pos c4] at H
     have c4b0 : decide (0 ≤ x5_1) = true := decide_eq_true c4
     clear c4
     obtain ⟨y365, hy365⟩ : ∃ y_ : List Int, y_ = (x0_1.set (x5_1 : Int).toNat x1_1) := ⟨_, rfl⟩
     replace H : (laws_markInt64S.l0 k1 y365 (wrap64 (x1_1 + 1)) (wrap64 (x5_1 + 1))) = some (r1, r2) := by first | (rw [hy365]; with_reducible exact H) | (have H2_ := (Option.bind_some _ _).symm.trans H; rw [hy365]; with_reducible exact H2_) | (have H2_ := (Option.bind_some _ _).symm.trans H; with_reducible exact H2_) | with_reducible exact H | (rw [hy365]; exact H) | exact H
     have Ny365 := am hy365
     clear hy365
     have H' := Aside0.mk H
     clear H
     obtain ⟨Ao6, co6, eo6⟩ := Kd.R_slice HO_0.out
     subst eo6
     have p5 : 0 ≤ (x5_1 : Int) := of_decide_eq_true (by first | (with_reducible assumption) | assumption)
     have q5 : (x5_1 : Int) < ((x0_1.length : Int) : Int) := of_decide_eq_true (by first | (with_reducible assumption) | assumption)
     obtain ⟨go5, co5, eo5, gb5, gl5, cl5, HG5⟩ := Kd.R_form HO_0.out (by omega)
     (first | cases eo5 | (injection eo5 with ea_ en_ ec_; (first | subst ea_ | (injection ea_ with ea_; subst ea_)); subst ec_; clear en_))
     have GB5 := Aside0.mk gb5
     have GG5 := Aside0.mk HG5
     clear gb5 gl5 HG5
     have HMgo5 := am (show (P0_ go5 ∨ w.heap.size ≤ go5) from (HO_0.out.1 _ rfl))
     obtain ⟨hx5_0, hf5_0⟩ := Kd.R_celln 0 HO_0.out (x5_1 : Int) p5 q5
     replace p5 := eq_true p5
     replace q5 := eq_true q5
     have HP7 := Kd.R_putg HO_0.out (x5_1 : Int) x1_1
     go_wp2_with (first | ((with_reducible refine gate_store (t := 2) (p := 15) rfl ?_); refine store_event (t := 2) (p := 15) (v := ?vo_w8) (w1 := (wr.setCell ⟨go5, (x5_1 : Int).toNat, none⟩ (.int .i64 x1_1))) ?hg ?ho ?hn ?hr ?_; (case ho => rfl); (case hg => rfl); (case hn => rfl); (case hr => first | (go_simp; done) | (go_simp; rfl)); intro w8 hw; have hg : wr.grownBy w8 (some go5) := (by rw [hw]; exact HP7.2); have hp_ : Kd.R (Kd.int .i64) 2 w8 w0.heap.size (fun k_ => (P0_ k_ ∨ w.heap.size ≤ k_)) (.slice (some ⟨go5, 0, none⟩) x0_1.length co6) y365 := (by rw [hw, Ny365.out]; exact HP7.1); clear HP7; replace HB := am ((by rw [hw]; exact below_set (HB.out) GB5.out : Below w0.heap.size w0 w8)); replace HK := am (Kept.of_grown (S := (fun k_ => P0_ k_)) hg (by repeat (first | (with_reducible first | exact HK.out | apply Kept.alloc | apply Kept.drewN | apply Kept.drew) | exact HK.out)) (fun k_ e_ => (HO_0.out.1 k_ e_))); replace HO_0 := am (hp_); clear hg hw hp_))
     go_roundg k1
     case measure => have := HK1.out; omega
     case rel => exact ⟨(y365), (wrap64 (x1_1 + 1)), (wrap64 (x5_1 + 1)), (by first | rfl | (simp; done) | (simp [*]; done)), (by first | rfl | (simp; done) | (simp [*]; done)), H', ⟨by have := HK1.out; omega⟩, ⟨kr HO_0.out⟩, ⟨by repeat (first | (with_reducible first | exact HK.out | apply Kept.alloc | apply Kept.drewN | apply Kept.drew) | exact HK.out)⟩, ⟨by repeat (first | (with_reducible first | exact HB.out | apply below_alloc | apply pw_below_drewN | apply below_drew1) | exact HB.out)⟩⟩
    ·rw [if_neg c4] at H
     exact absurd H (by simp)
   ·rw [if_neg c3] at H
    have c3b0 : decide (x5_1 < (x0_1.length : Int)) = false := decide_eq_false c3
    clear c3
    simp only [Option.some.injEq, Prod.mk.injEq] at H
    obtain ⟨rfl, rfl⟩ := H
    obtain ⟨Ao9, co9, eo9⟩ := Kd.R_slice HO_0.out
    subst eo9
    go_wp2
    go_ret
    exact ⟨by first | rfl | (simp [errW_none, errW_some] <;> rfl) | (simp [*, errW_none, errW_some] <;> rfl), kr HO_0.out, by repeat (first | (with_reducible first | exact HB.out | apply below_alloc | apply pw_below_drewN | apply below_drew1) | exact HB.out), by repeat (first | (with_reducible first | exact HK.out | apply Kept.alloc | apply Kept.drewN | apply Kept.drew) | exact HK.out)⟩

/-! ### laws_markBuf: function 13 -/
def laws_markBuf.f (k : Nat) (l0_0 : List Int) (a0_1 : Int) (a0_2 : Int) (a1 : Int) : Option (Int × List Int) := (laws_markInt64S.f k l0_0 a1).bind fun bt368 => (some (bt368.1, bt368.2))
theorem laws_markBuf.calls (k : Nat) (P0_0_ : Nat → Prop) (u9000_ : Value) (l0_0 : List Int) (a0_1 : Int) (a0_2 : Int) (a1 : Int) (r1 : Int) (r2 : List Int) (w0 w : World) (hB : Below w0.heap.size w0 w) (ho0_0 : Kd.R (Kd.int .i64) 2 w w0.heap.size P0_0_ u9000_ l0_0) (h : laws_markBuf.f k l0_0 a0_1 a0_2 a1 = some (r1, r2)) :
  Calls Try.prog 13 #[.agg #[u9000_, .int .i64 a0_1, .int .i64 a0_2], .int .i64 a1] w fun e w' => e = .returned (.int .i64 r1) ∧ Kd.R (Kd.int .i64) 2 w' w0.heap.size (fun k_ => (P0_0_ k_ ∨ w.heap.size ≤ k_)) u9000_ r2 ∧ Below w0.heap.size w0 w' ∧ Kept w w' (fun k_ => P0_0_ k_) := by
 have hu31 := Try.underlying31
 have HO0_0 := am (show Kd.R (Kd.int .i64) 2 w w0.heap.size (fun k_ => (P0_0_ k_ ∨ w.heap.size ≤ k_)) u9000_ l0_0 from Kd.R_mono ho0_0 (fun k_ hk => (.inl hk)))
 have HK := am (Kept.refl w (fun k_ => P0_0_ k_))
 have HW0 := am hB.size
 have HB := am hB
 clear hB
 have H : ((laws_markInt64S.f k l0_0 a1).bind fun bt368 => (some (bt368.1, bt368.2))) = some (r1, r2) := h
 clear h
 replace H := Option.bind_eq_some_iff.mp H
 obtain ⟨⟨t368, t369⟩, A30, H⟩ := H
 replace H : (some (t368, t369)) = some (r1, r2) := H
 have A3 := Aside0.mk A30
 clear A30
 simp only [Option.some.injEq, Prod.mk.injEq] at H
 obtain ⟨rfl, rfl⟩ := H
 obtain ⟨Ao4, co4, eo4⟩ := Kd.R_slice HO0_0.out
 subst eo4
 go_enter Try.func13, Try.ntmps13
 go_wp2_with (first | ((with_reducible refine gate_dst (N := 2) rfl ?_); refine box_event ?hg (N := 2) ?hd (cs := #[.slice Ao4 l0_0.length co4, .int .i64 a0_1, .int .i64 a0_2]) (t := 31) ?hr ?_; (case hd => rfl); (case hg => rfl); (case hr => first | (go_simp; done) | (go_simp; rfl)); intro gb367 hg w5 hbox hb; replace HO0_0 := am (Kd.R_below (kr HO0_0.out) hb); have BK367 := am (hbox); have GW367 := am ((by rw [hg]; exact (by first | exact HK.out.1 | exact (show Kept w _ (fun k_ => P0_0_ k_) from by repeat (first | (with_reducible first | exact HK.out | apply Kept.alloc | apply Kept.drewN | apply Kept.drew) | exact HK.out)).1) : w.heap.size ≤ gb367)); replace HK := am (Kept.below (S := (fun k_ => P0_0_ k_)) (by repeat (first | (with_reducible first | exact HK.out | apply Kept.alloc | apply Kept.drewN | apply Kept.drew) | exact HK.out)) hb); have GE367 := am ((by rw [hg]; exact (below_size (bl HB.out)) : w0.heap.size ≤ gb367)); replace HB := am (below_step (bl HB.out) hb); clear hb hbox hg; have hcz6_0 : w5.cell? ⟨gb367, 0, none⟩ = some (.slice Ao4 l0_0.length co4) := bc BK367.out 0; have hcz6_1 : w5.cell? ⟨gb367, 1, none⟩ = some (.int .i64 a0_1) := bc BK367.out 1; have hcz6_2 : w5.cell? ⟨gb367, 2, none⟩ = some (.int .i64 a0_2) := bc BK367.out 2) | ((with_reducible refine gate_callee (f := 36) rfl ?_); refine gl (some 8) Try.func36 #[.slice Ao4 l0_0.length co4, .int .i64 a1] ?_; (with_reducible refine (laws_markInt64S.calls k (fun k_ => some k_ = (.slice Ao4 l0_0.length co4 : Value).ownBlock) (.slice Ao4 l0_0.length co4) l0_0 a1 t368 t369 w0 _ ?side1 ?side2 A3.out).mono ?_); (case side1 => repeat (first | (with_reducible first | exact HB.out | apply below_alloc | apply pw_below_drewN | apply below_drew1 | refine below_set ?_ GE367.out) | exact HB.out)); (case side2 => exact Kd.R_tight rfl HO0_0.out); rintro e w7 ⟨rfl, hy0, hb, hkp⟩; refine ⟨_, rfl, ?_⟩; replace BK367 := am (blk_kept (pk BK367.out) hkp (fun hs_ => (fun e_ => (Kd.R_ne HO0_0.out BK367.out (by decide)) e_) hs_)); replace HK := am (Kept.then_ (S := (fun k_ => P0_0_ k_)) (by repeat (first | (with_reducible first | exact HK.out | apply Kept.alloc | apply Kept.drewN | apply Kept.drew | refine Kept.setCell ?_ (.inr GW367.out) _) | exact HK.out)) hkp (fun k_ hs_ => (fun e_ => (HO0_0.out.1 k_ e_.symm)) hs_)); replace HO0_0 := am (Kd.R_reok rfl hy0 (fun k_ e_ => HO0_0.out.1 k_ e_)); replace HB := am (hb); (try clear hb); (try clear hkp); (try clear hy0)))
 go_ret
 exact ⟨by first | rfl | (simp [errW_none, errW_some] <;> rfl) | (simp [*, errW_none, errW_some] <;> rfl), kr HO0_0.out, by repeat (first | (with_reducible first | exact HB.out | apply below_alloc | apply pw_below_drewN | apply below_drew1 | refine below_set ?_ GE367.out) | exact HB.out), by repeat (first | (with_reducible first | exact HK.out | apply Kept.alloc | apply Kept.drewN | apply Kept.drew | refine Kept.setCell ?_ (.inr GW367.out) _) | exact HK.out)⟩

theorem laws_markBuf.marks (k : Nat) (P0_0_ : Nat → Prop) (u0_0_ : Value) (l0_0 : List Int) (a0_1 : Int) (a0_2 : Int) (a1 r1 : Int) (r0_0_ : List Int) (w0 w : World) (hB : Below w0.heap.size w0 w) (ho0_0 : Kd.R (Kd.int .i64) 2 w w0.heap.size P0_0_ u0_0_ l0_0) (h : laws_markBuf.f k l0_0 a0_1 a0_2 a1 = some (r1, r0_0_)) :
 Calls Try.prog 13 #[.agg #[u0_0_, .int .i64 a0_1, .int .i64 a0_2], .int .i64 a1] w fun e w' => e = .returned (.int .i64 r1) ∧ Kd.R (Kd.int .i64) 2 w' w0.heap.size P0_0_ u0_0_ r0_0_ ∧ Below w0.heap.size w0 w' ∧ Kept w w' (fun k_ => P0_0_ k_) := by
 refine (laws_markBuf.calls k P0_0_ u0_0_ l0_0 a0_1 a0_2 a1 r1 r0_0_ w0 w hB ho0_0 h).mono ?_
 rintro e w' ⟨h1, h20_0, h3, h4⟩
 exact ⟨h1, Kd.R_reok rfl h20_0 (fun k_ e_ => ho0_0.1 k_ e_), h3, h4⟩

/-! ### laws_markInt64SS: function 14 -/
def laws_markInt64SS.l0 : Nat → List (List Int) → Int → Int → Option (Int × List (List Int))
 | 0, _, _, _ => none
 | k + 1, x0, x1, x5 => if x5 < (x0.length : Int) then (if 0 ≤ x5 then ((laws_markInt64S.f k (x0.getD x5.toNat []) x1).bind fun bt => laws_markInt64SS.l0 k (x0.set x5.toNat bt.2) bt.1 (wrap64 (x5 + 1))) else none) else some (x1, x0)
def laws_markInt64SS.f (k : Nat) (l0 : List (List Int)) (a1 : Int) : Option (Int × List (List Int)) := laws_markInt64SS.l0 k l0 a1 0
theorem laws_markInt64SS.marks (k : Nat) (P : Nat → Prop) (u : Value) (l0 : List (List Int)) (a1 r1 : Int) (r2 : List (List Int)) (w0 w : World) (hB : Below w0.heap.size w0 w) (ho : Kd.S (Kd.slice 2 (Kd.int .i64)) 22 w w0.heap.size P u l0) (h : laws_markInt64SS.f k l0 a1 = some (r1, r2)) :
 Calls Try.prog 14 #[u, .int .i64 a1] w fun e w' => e = .returned (.int .i64 r1) ∧ Kd.S (Kd.slice 2 (Kd.int .i64)) 22 w' w0.heap.size P u r2 ∧ Below w0.heap.size w0 w' ∧ Kept w w' P := by
 have HO0 := am ho
 have HK := am (Kept.refl w P)
 have HB := am hB
 clear hB ho
 have H' := am (show laws_markInt64SS.l0 k l0 a1 0 = some (r1, r2) from h)
 clear h
 obtain ⟨Au, cu, rfl⟩ := Kd.S_slice HO0.out
 go_enter Try.func14, Try.ntmps14
 go_wp2
 go_loopg [1, 5] k (fun kq v1 v5 w' => ∃ (x0_1 : List (List Int)) (x1_1 : Int) (x5_1 : Int), x0_1.length = l0.length ∧ v1 = .int .i64 x1_1 ∧ v5 = .int .i64 x5_1 ∧ Aside0 (laws_markInt64SS.l0 kq x0_1 x1_1 x5_1 = some (r1, r2)) ∧ Aside0 (kq ≤ k) ∧ Aside0 (Kd.S (Kd.slice 2 (Kd.int .i64)) 22 w' w0.heap.size P (.slice Au l0.length cu) x0_1) ∧ Aside0 (Kept w w' P) ∧ Aside0 (Below w0.heap.size w0 w'))
 case atStart => exact ⟨l0, a1, 0, rfl, (by first | rfl | (simp; done) | (simp [*]; done)), (by first | rfl | (simp; done) | (simp [*]; done)), H', ⟨Nat.le_refl _⟩, ⟨ks HO0.out⟩, ⟨by repeat (first | (with_reducible first | exact HK.out | apply Kept.alloc | apply Kept.drewN | apply Kept.drew) | exact HK.out)⟩, ⟨by repeat (first | (with_reducible first | exact HB.out | apply below_alloc | apply pw_below_drewN | apply below_drew1) | exact HB.out)⟩⟩
 case round =>
 clear H'
 obtain ⟨x0_1, x1_1, x5_1, hlen, rfl, rfl, HA, HK1, HO_0, HK, HB⟩ := hrel
 cases gk with
 | zero => exact absurd HA.out (by simp [laws_markInt64SS.l0])
 | succ k1 =>
  have H := HA.out
  clear HA
  simp only [laws_markInt64SS.l0] at H
  by_cases c3 : x5_1 < (x0_1.length : Int)
  ·rw [if_pos c3] at H
   have c3b0 : decide (x5_1 < (l0.length : Int)) = true := decide_eq_true (by omega)
   by_cases c4 : 0 ≤ x5_1
   ·rw [if_pos c4] at H
    have c4b0 : decide (0 ≤ x5_1) = true := decide_eq_true c4
    obtain ⟨⟨t1, t2⟩, A0, H⟩ := Option.bind_eq_some_iff.mp H
    have H' := Aside0.mk H
    clear H
    obtain ⟨g, cap, eo, hbg, hgl, hcl0⟩ := Kd.S_form HO_0.out (by omega)
    injection eo with ea_ en_ ec_
    clear en_
    subst ea_
    subst ec_
    obtain ⟨oki, ce, hcl, hM, hcc, hfr, hoki, hH⟩ := Kd.S_elem HO_0.out ([] : List Int) x5_1 c4 (by omega)
    obtain ⟨ve, rfl, hR⟩ := hM
    generalize x0_1.getD x5_1.toNat [] = xe at hR A0
    have A := Aside0.mk A0
    clear A0
    have hv := hcc 0 _ rfl
    rw [show (Kd.slice 2 (Kd.int .i64)).sz = 1 from rfl, Nat.mul_one, Nat.add_zero] at hv
    obtain ⟨Ae, cce, rfl⟩ := Kd.R_slice hR
    have p5 : (0 ≤ (x5_1 : Int)) = True := eq_true c4
    have q5 : ((x5_1 : Int) < ((l0.length : Int) : Int)) = True := eq_true (by omega)
    have HR := am hR
    have HH := am hH
    have HI := am hoki
    clear hR hH hcc hfr hcl hbg hgl hcl0 hoki HO_0
    go_wp2_with (first | (go_at_call 36; (refine (laws_markInt64S.calls k1 oki _ _ x1_1 t1 t2 w0 _ ?side1 ?side2 A.out).mono ?_); (case side1 => repeat (first | (with_reducible first | exact HB.out | apply below_alloc | apply pw_below_drewN | apply below_drew1) | exact HB.out)); (case side2 => (with_reducible repeat (first | apply Kd.R_alloc | apply Kd.R_drewN | apply Kd.R_drew)); exact HR.out); rintro e w8 ⟨rfl, hy, hb, hkp⟩; have HO_0 := am (Kd.H_back (d := Kd.slice 2 (Kd.int .i64)) (x' := t2) (okp := oki) (Kd.H_step (by (with_reducible repeat (first | apply Kd.H_alloc | apply Kd.H_drewN | apply Kd.H_drew)); exact HH.out) (fun k_ _ hn hlt => hkp.2 k_ hlt hn)) (show (Kd.slice 2 (Kd.int .i64)).M w8 w0.heap.size oki t2 [.slice Ae xe.length cce] from ⟨_, rfl, Kd.R_reok (ok := oki) rfl hy (fun k_ e_ => HR.out.1 k_ e_)⟩) (fun _ h_ => h_)); replace HB := am hb; replace HK := am (Kept.then_ (S := P) (by repeat (first | (with_reducible first | exact HK.out | apply Kept.alloc | apply Kept.drewN | apply Kept.drew) | exact HK.out)) hkp (fun k_ hk_ => .inl (HI.out k_ hk_).1)); clear HR HH hy hb hkp))
    go_roundg k1
    case measure => have := HK1.out; omega
    case rel => exact ⟨_, t1, (wrap64 (x5_1 + 1)), (by rw [List.length_set]; exact hlen), (by first | rfl | (simp; done) | (simp [*]; done)), (by first | rfl | (simp; done) | (simp [*]; done)), H', ⟨by have := HK1.out; omega⟩, ⟨ks HO_0.out⟩, ⟨by repeat (first | (with_reducible first | exact HK.out | apply Kept.alloc | apply Kept.drewN | apply Kept.drew) | exact HK.out)⟩, ⟨by repeat (first | (with_reducible first | exact HB.out | apply below_alloc | apply pw_below_drewN | apply below_drew1) | exact HB.out)⟩⟩
   ·rw [if_neg c4] at H
    exact absurd H (by simp)
  ·rw [if_neg c3] at H
   have c3b0 : decide (x5_1 < (l0.length : Int)) = false := decide_eq_false (by omega)
   simp only [Option.some.injEq, Prod.mk.injEq] at H
   obtain ⟨rfl, rfl⟩ := H
   go_wp2
   go_ret
   exact ⟨by first | rfl | (simp [*]; done), ks HO_0.out, by repeat (first | (with_reducible first | exact HB.out | apply below_alloc | apply pw_below_drewN | apply below_drew1) | exact HB.out), by repeat (first | (with_reducible first | exact HK.out | apply Kept.alloc | apply Kept.drewN | apply Kept.drew) | exact HK.out)⟩
/-! ### laws_markBufS: function 61 -/
def laws_markBufS.l0 : Nat → List S31 → Int → Int → Option (Int × List S31)
 | 0, _, _, _ => none
 | k + 1, x0, x1, x5 => if x5 < (x0.length : Int) then (if 0 ≤ x5 then ((laws_markInt64S.f k (x0.getD x5.toNat z31).f0 x1).bind fun bt => laws_markBufS.l0 k (x0.set x5.toNat ⟨bt.2, bt.1, wrap64 (bt.1 + 1)⟩) (wrap64 (wrap64 (bt.1 + 1) + 1)) (wrap64 (x5 + 1))) else none) else some (x1, x0)
def laws_markBufS.f (k : Nat) (l0 : List S31) (a1 : Int) : Option (Int × List S31) := laws_markBufS.l0 k l0 a1 0
theorem laws_markBufS.marksT (k : Nat) (P : Nat → Prop) (u : Value) (l0 : List S31) (a1 r1 : Int) (r2 : List S31) (w0 w : World) (hB : Below w0.heap.size w0 w) (ho : Kd.T k31 31 w w0.heap.size P u l0) (h : laws_markBufS.f k l0 a1 = some (r1, r2)) :
 Calls Try.prog 61 #[u, .int .i64 a1] w fun e w' => e = .returned (.int .i64 r1) ∧ Kd.T k31 31 w' w0.heap.size P u r2 ∧ Below w0.heap.size w0 w' ∧ Kept w w' P := by
 have HO0 := am ho
 have HK := am (Kept.refl w P)
 have HB := am hB
 clear hB ho
 have H' := am (show laws_markBufS.l0 k l0 a1 0 = some (r1, r2) from h)
 clear h
 obtain ⟨Au, cu, rfl, _⟩ := Kd.T_slice HO0.out
 go_enter Try.func61, Try.ntmps61
 go_wp2
 go_loopg [1, 5] k (fun kq v1 v5 w' => ∃ (x0_1 : List S31) (x1_1 : Int) (x5_1 : Int), x0_1.length = l0.length ∧ v1 = .int .i64 x1_1 ∧ v5 = .int .i64 x5_1 ∧ Aside0 (laws_markBufS.l0 kq x0_1 x1_1 x5_1 = some (r1, r2)) ∧ Aside0 (kq ≤ k) ∧ Aside0 (Kd.T k31 31 w' w0.heap.size P (.slice Au l0.length cu) x0_1) ∧ Aside0 (Kept w w' P) ∧ Aside0 (Below w0.heap.size w0 w'))
 case atStart => exact ⟨l0, a1, 0, rfl, (by first | rfl | (simp; done) | (simp [*]; done)), (by first | rfl | (simp; done) | (simp [*]; done)), H', ⟨Nat.le_refl _⟩, ⟨by (with_reducible repeat (first | apply Kd.T_alloc | apply Kd.T_drewN | apply Kd.T_drew)); exact HO0.out⟩, ⟨by repeat (first | (with_reducible first | exact HK.out | apply Kept.alloc | apply Kept.drewN | apply Kept.drew) | exact HK.out)⟩, ⟨by repeat (first | (with_reducible first | exact HB.out | apply below_alloc | apply pw_below_drewN | apply below_drew1) | exact HB.out)⟩⟩
 case round =>
 clear H'
 obtain ⟨x0_1, x1_1, x5_1, hlen, rfl, rfl, HA, HK1, HO_0, HK, HB⟩ := hrel
 cases gk with
 | zero => exact absurd HA.out (by simp [laws_markBufS.l0])
 | succ k1 =>
  have H := HA.out
  clear HA
  simp only [laws_markBufS.l0] at H
  by_cases c3 : x5_1 < (x0_1.length : Int)
  ·rw [if_pos c3] at H
   have c3b0 : decide (x5_1 < (l0.length : Int)) = true := decide_eq_true (by omega)
   by_cases c4 : 0 ≤ x5_1
   ·rw [if_pos c4] at H
    have c4b0 : decide (0 ≤ x5_1) = true := decide_eq_true c4
    obtain ⟨⟨t1, t2⟩, A0, H⟩ := Option.bind_eq_some_iff.mp H
    have H' := Aside0.mk H
    clear H
    obtain ⟨g, og_, cap, eo, hbg, hgl, hcl0⟩ := Kd.T_form HO_0.out (by omega)
    injection eo with ea_ en_ ec_
    clear en_
    subst ea_
    subst ec_
    have HPg := am ((Kd.T_Q HO_0.out).1 g rfl)
    have GEg := am hbg
    have hlt0 : (x5_1 : Int) < (l0.length : Int) := by omega
    obtain ⟨oki, ce, hcl, hM, hcc, hfr, hoki, hH⟩ := Kd.T_elem HO_0.out z31 x5_1 c4 hlt0
    obtain ⟨ve, rfl, hR⟩ := k31_openM hM
    generalize x0_1.getD x5_1.toNat z31 = xe at hR A0 hcc hH hM hcl
    have A := Aside0.mk A0
    clear A0
    have hv := hcc 0 _ rfl
    rw [show k31.sz = 3 from rfl, Nat.add_zero] at hv
    obtain ⟨Ae, cce, rfl⟩ := Kd.R_slice hR
    have p5 : (0 ≤ (x5_1 : Int)) = True := eq_true c4
    have q5 : ((x5_1 : Int) < ((l0.length : Int) : Int)) = True := eq_true (by omega)
    have HR := am hR
    have HH := am hH
    have HI := am hoki
    have HC4 := Aside0.mk c4
    have HL0 := am hlt0
    have hilt : x5_1.toNat < x0_1.length := by omega
    have HG := am (show ∀ e_ : S31, (x0_1.set x5_1.toNat e_).getD x5_1.toNat z31 = e_ from fun e_ => by rw [List.getD_eq_getElem?_getD, List.getElem?_set_self hilt]; rfl)
    clear hilt hR hH hcc hfr hcl hM hbg hgl hcl0 hoki HO_0 hlt0
    go_wp2_with (first | (go_at_call 36; (refine (laws_markInt64S.calls k1 oki _ _ x1_1 t1 t2 w0 _ ?side1 ?side2 A.out).mono ?_); (case side1 => repeat (first | (with_reducible first | exact HB.out | apply below_alloc | apply pw_below_drewN | apply below_drew1) | exact HB.out)); (case side2 => (with_reducible repeat (first | apply Kd.R_alloc | apply Kd.R_drewN | apply Kd.R_drew)); exact HR.out); rintro e w8 ⟨rfl, hy, hb, hkp⟩; have n0_ := am (Kd.HT_step (by (with_reducible repeat (first | apply Kd.HT_alloc | apply Kd.HT_drewN | apply Kd.HT_drew)); exact HH.out) (fun k_ _ hn hlt => hkp.2 k_ hlt hn)); have n1_ := am hb; have n2_ := am (Kept.then_ (S := P) (by repeat (first | (with_reducible first | exact HK.out | apply Kept.alloc | apply Kept.drewN | apply Kept.drew) | exact HK.out)) hkp (fun k_ hk_ => .inl (HI.out k_ hk_).1)); have n3_ := am (Kd.R_reok (ok := oki) rfl hy (fun k_ e_ => HR.out.1 k_ e_)); clear HR HH HB HK hy hb hkp; have HB := n1_; have HK := n2_; have HO_0 := am (Kd.HT_back (d := k31) (x' := (⟨t2, xe.f1, xe.f2⟩ : S31)) (okp := oki) n0_.out (k31_mkM _ _ _ (⟨t2, xe.f1, xe.f2⟩ : S31) n3_.out) (fun _ h_ => h_)); clear n0_ n1_ n2_ n3_; obtain ⟨oq1, cq1, hl1, hM1, hcc1, hfr1, ho1, hH1⟩ := Kd.T_elem HO_0.out z31 x5_1 HC4.out HL0.out; rw [HG.out] at hM1; obtain ⟨vq1, rfl, hR1⟩ := k31_openM hM1; have hx1 := hcc1 1 _ rfl; have hf1 := hfr1 1; rw [show k31.sz = 3 from rfl] at hx1 hf1; clear hl1 hM1 hcc1 hfr1 ho1 hH1 hR1; have hs_ := Kd.T_put HO_0.out z31 x5_1 HC4.out HL0.out (seg := [.int .i64 t1]) (j := 1) (show 1 + 1 ≤ 3 from by decide) (x' := (⟨t2, t1, xe.f2⟩ : S31)) (fun okp_ c_ hM_ => by rw [HG.out] at hM_; obtain ⟨v0_, rfl, hR_⟩ := k31_openM hM_; exact k31_mkM _ _ _ (⟨t2, t1, xe.f2⟩ : S31) hR_); rw [List.set_set] at hs_; have HP := am hs_; clear hs_) | ((with_reducible refine gate_store (t := 2) (p := 23) rfl ?_); refine store_event (t := 2) (p := 23) (v := ?vo) (w1 := (w8.setCell ⟨g, og_ + x5_1.toNat * 3 + 1, none⟩ (.int .i64 t1))) ?hg ?ho ?hn ?hr ?_; (case ho => rfl); (case hg => rfl); (case hn => rfl); (case hr => first | (go_simp; done) | (go_simp; rfl)); intro w9 hw; have hp9 : Kd.T k31 31 w9 w0.heap.size P (.slice (some ⟨g, og_, none⟩) l0.length cu) (x0_1.set x5_1.toNat ⟨t2, t1, xe.f2⟩) := (by rw [hw]; exact HP.out.1); have hg9 : w8.grownBy w9 (some g) := (by rw [hw]; exact HP.out.2); have n1_ := am (show Below w0.heap.size w0 w9 from (by rw [hw]; exact below_set HB.out GEg.out)); have n2_ := am (Kept.of_grown hg9 HK.out (fun k_ e_ => .inl (by injection e_ with e_; rw [← e_]; exact HPg.out))); clear hw HP HO_0 HB HK hx1 hf1 hg9; have HO_0 := am hp9; have HB := n1_; have HK := n2_; clear n1_ n2_ hp9; obtain ⟨oq2, cq2, hl2, hM2, hcc2, hfr2, ho2, hH2⟩ := Kd.T_elem HO_0.out z31 x5_1 HC4.out HL0.out; rw [HG.out] at hM2; obtain ⟨vq2, rfl, hR2⟩ := k31_openM hM2; have hx2 := hcc2 2 _ rfl; have hf2 := hfr2 2; rw [show k31.sz = 3 from rfl] at hx2 hf2; clear hl2 hM2 hcc2 hfr2 ho2 hH2 hR2; have hs_ := Kd.T_put HO_0.out z31 x5_1 HC4.out HL0.out (seg := [.int .i64 (wrap64 (t1 + 1))]) (j := 2) (show 2 + 1 ≤ 3 from by decide) (x' := (⟨t2, t1, wrap64 (t1 + 1)⟩ : S31)) (fun okp_ c_ hM_ => by rw [HG.out] at hM_; obtain ⟨v0_, rfl, hR_⟩ := k31_openM hM_; exact k31_mkM _ _ _ (⟨t2, t1, wrap64 (t1 + 1)⟩ : S31) hR_); rw [List.set_set] at hs_; have HP := am hs_; clear hs_) | ((with_reducible refine gate_store (t := 2) (p := 30) rfl ?_); refine store_event (t := 2) (p := 30) (v := ?vo2) (w1 := (w9.setCell ⟨g, og_ + x5_1.toNat * 3 + 2, none⟩ (.int .i64 (wrap64 (t1 + 1))))) ?hg ?ho ?hn ?hr ?_; (case ho => rfl); (case hg => rfl); (case hn => rfl); (case hr => first | (go_simp; done) | (go_simp; rfl)); intro w10 hw; have hp10 : Kd.T k31 31 w10 w0.heap.size P (.slice (some ⟨g, og_, none⟩) l0.length cu) (x0_1.set x5_1.toNat ⟨t2, t1, wrap64 (t1 + 1)⟩) := (by rw [hw]; exact HP.out.1); have hg10 : w9.grownBy w10 (some g) := (by rw [hw]; exact HP.out.2); have n1_ := am (show Below w0.heap.size w0 w10 from (by rw [hw]; exact below_set HB.out GEg.out)); have n2_ := am (Kept.of_grown hg10 HK.out (fun k_ e_ => .inl (by injection e_ with e_; rw [← e_]; exact HPg.out))); clear hw HP HO_0 HB HK hx2 hf2 hg10; have HO_0 := am hp10; have HB := n1_; have HK := n2_; clear n1_ n2_ hp10))
    go_roundg k1
    case measure => have := HK1.out; omega
    case rel => exact ⟨_, (wrap64 (wrap64 (t1 + 1) + 1)), (wrap64 (x5_1 + 1)), (by rw [List.length_set]; exact hlen), (by first | rfl | (simp; done) | (simp [*]; done)), (by first | rfl | (simp; done) | (simp [*]; done)), H', ⟨by have := HK1.out; omega⟩, ⟨by (with_reducible repeat (first | apply Kd.T_alloc | apply Kd.T_drewN | apply Kd.T_drew)); exact HO_0.out⟩, ⟨by repeat (first | (with_reducible first | exact HK.out | apply Kept.alloc | apply Kept.drewN | apply Kept.drew) | exact HK.out)⟩, ⟨by repeat (first | (with_reducible first | exact HB.out | apply below_alloc | apply pw_below_drewN | apply below_drew1) | exact HB.out)⟩⟩
   ·rw [if_neg c4] at H
    exact absurd H (by simp)
  ·rw [if_neg c3] at H
   have c3b0 : decide (x5_1 < (l0.length : Int)) = false := decide_eq_false (by omega)
   simp only [Option.some.injEq, Prod.mk.injEq] at H
   obtain ⟨rfl, rfl⟩ := H
   go_wp2
   go_ret
   exact ⟨by first | rfl | (simp [*]; done), by (with_reducible repeat (first | apply Kd.T_alloc | apply Kd.T_drewN | apply Kd.T_drew)); exact HO_0.out, by repeat (first | (with_reducible first | exact HB.out | apply below_alloc | apply pw_below_drewN | apply below_drew1) | exact HB.out), by repeat (first | (with_reducible first | exact HK.out | apply Kept.alloc | apply Kept.drewN | apply Kept.drew) | exact HK.out)⟩

/-! ### laws_markUndo: function 37 -/
def laws_markUndo.f (k : Nat) (l0_0 : List (S31)) (l0_1 : List (S31)) (a1 : Int) : Option (Int × List (S31) × List (S31)) := (laws_markBufS.f k l0_0 a1).bind fun b0 => (laws_markBufS.f k l0_1 b0.1).bind fun b1 => some (b1.1, b0.2, b1.2)
theorem laws_markUndo.marksT (k : Nat) (P0_0_ : Nat → Prop) (u0_0_ : Value) (P0_1_ : Nat → Prop) (u0_1_ : Value) (l0_0 : List (S31)) (l0_1 : List (S31)) (a1 r1 : Int) (r0_0_ : List (S31)) (r0_1_ : List (S31)) (w0 w : World) (hB : Below w0.heap.size w0 w) (ho0_0 : Kd.T k31 31 w w0.heap.size P0_0_ u0_0_ l0_0) (ho0_1 : Kd.T k31 31 w w0.heap.size P0_1_ u0_1_ l0_1) (hp0_0_0_1 : ∀ k_, P0_0_ k_ → ¬ P0_1_ k_) (h : laws_markUndo.f k l0_0 l0_1 a1 = some (r1, r0_0_, r0_1_)) :
 Calls Try.prog 37 #[.agg #[u0_0_, u0_1_], .int .i64 a1] w fun e w' => e = .returned (.int .i64 r1) ∧ Kd.T k31 31 w' w0.heap.size P0_0_ u0_0_ r0_0_ ∧ Kd.T k31 31 w' w0.heap.size P0_1_ u0_1_ r0_1_ ∧ Below w0.heap.size w0 w' ∧ Kept w w' (fun k_ => P0_0_ k_ ∨ P0_1_ k_) := by
 have HO0_0 := am (Kd.T_mono (ok' := fun k_ => P0_0_ k_ ∧ k_ < w.heap.size) (Kd.T_bound ho0_0) (fun k_ hk_ => ⟨hk_.1, hk_.2.2.1⟩))
 have HO0_1 := am (Kd.T_mono (ok' := fun k_ => P0_1_ k_ ∧ k_ < w.heap.size) (Kd.T_bound ho0_1) (fun k_ hk_ => ⟨hk_.1, hk_.2.2.1⟩))
 obtain ⟨A0_0_, c0_0_, eu0_0, _⟩ := Kd.T_slice HO0_0.out
 subst eu0_0
 obtain ⟨A0_1_, c0_1_, eu0_1, _⟩ := Kd.T_slice HO0_1.out
 subst eu0_1
 have HK := am (Kept.refl w (fun k_ => P0_0_ k_ ∨ P0_1_ k_))
 have HB := am hB
 clear hB ho0_0 ho0_1
 have H : ((laws_markBufS.f k l0_0 a1).bind fun b0 => (laws_markBufS.f k l0_1 b0.1).bind fun b1 => some (b1.1, b0.2, b1.2)) = some (r1, r0_0_, r0_1_) := h
 clear h
 obtain ⟨⟨t0, t0_0_0⟩, E0, H⟩ := Option.bind_eq_some_iff.mp H
 (try dsimp only at H)
 have A0 := Aside0.mk E0
 clear E0
 obtain ⟨⟨t1, t1_0_1⟩, E1, H⟩ := Option.bind_eq_some_iff.mp H
 (try dsimp only at H)
 have A1 := Aside0.mk E1
 clear E1
 simp only [Option.some.injEq, Prod.mk.injEq] at H
 obtain ⟨rfl, rfl, rfl⟩ := H
 go_enter Try.func37, Try.ntmps37
 go_wp2_with (first | ((with_reducible refine gate_dst (N := 2) rfl ?_); refine box_event ?hg (N := 2) ?hd (cs := #[.slice A0_0_ l0_0.length c0_0_, .slice A0_1_ l0_1.length c0_1_]) (t := 30) ?hr ?_; (case hd => rfl); (case hg => rfl); (case hr => first | (go_simp; done) | (go_simp; rfl)); intro gb hg wb hbox hb; have BK := am hbox; have GB : w.heap.size ≤ gb := (by rw [hg]; exact Nat.le_refl _); replace HO0_0 := am (Kd.T_below (by (with_reducible repeat (first | apply Kd.T_alloc | apply Kd.T_drewN | apply Kd.T_drew)); exact HO0_0.out) hb); replace HO0_1 := am (Kd.T_below (by (with_reducible repeat (first | apply Kd.T_alloc | apply Kd.T_drewN | apply Kd.T_drew)); exact HO0_1.out) hb); replace HB := am (below_then HB.out HB.out.size hb); replace HK := am (Kept.below (by repeat (first | (with_reducible first | exact HK.out | apply Kept.alloc | apply Kept.drewN | apply Kept.drew) | exact HK.out)) hb); clear hb hbox hg; have hc_0 : wb.cell? ⟨gb, 0, none⟩ = some (.slice A0_0_ l0_0.length c0_0_) := (blk_cell BK.out 0).trans rfl; have hc_1 : wb.cell? ⟨gb, 1, none⟩ = some (.slice A0_1_ l0_1.length c0_1_) := (blk_cell BK.out 1).trans rfl) | ((go_at_call 61); (with_reducible refine (laws_markBufS.marksT k (fun k_ => P0_0_ k_ ∧ k_ < w.heap.size) (.slice A0_0_ l0_0.length c0_0_) l0_0 a1 t0 t0_0_0 w0 _ ?s0 ?s1 A0.out).mono ?_); (case s0 => repeat (first | (with_reducible first | exact HB.out | apply below_alloc | apply pw_below_drewN | apply below_drew1) | exact HB.out)); (case s1 => ((with_reducible repeat (first | apply Kd.T_alloc | apply Kd.T_drewN | apply Kd.T_drew)); exact HO0_0.out)); rintro e wm0 ⟨rfl, hy0_0, hb, hkp⟩; replace HO0_0 := am (hy0_0); replace HO0_1 := am (Kd.T_kept (ok := fun k_ => P0_1_ k_ ∧ k_ < w.heap.size) (by (with_reducible repeat (first | apply Kd.T_alloc | apply Kd.T_drewN | apply Kd.T_drew)); exact HO0_1.out) hkp (fun k_ hk_ hs_ => hp0_0_0_1 k_ hs_.1 hk_.1)); replace BK := am (blk_kept (g := gb) (o := .cells #[.slice A0_0_ l0_0.length c0_0_, .slice A0_1_ l0_1.length c0_1_] 30 (0, 0)) (pk BK.out) hkp (fun hs_ => absurd hs_.2 (Nat.not_lt.2 GB))); replace HB := am (hb); replace HK := am (Kept.then_ (S := (fun k_ => P0_0_ k_ ∨ P0_1_ k_)) (by repeat (first | (with_reducible first | exact HK.out | apply Kept.alloc | apply Kept.drewN | apply Kept.drew) | exact HK.out)) hkp (fun k_ hs_ => (.inl (.inl hs_.1)))); clear hb hkp; have hc_0 : wm0.cell? ⟨gb, 0, none⟩ = some (.slice A0_0_ l0_0.length c0_0_) := (blk_cell BK.out 0).trans rfl; have hc_1 : wm0.cell? ⟨gb, 1, none⟩ = some (.slice A0_1_ l0_1.length c0_1_) := (blk_cell BK.out 1).trans rfl) | ((go_at_call 61); (with_reducible refine (laws_markBufS.marksT k (fun k_ => P0_1_ k_ ∧ k_ < w.heap.size) (.slice A0_1_ l0_1.length c0_1_) l0_1 t0 t1 t1_0_1 w0 _ ?s0 ?s1 A1.out).mono ?_); (case s0 => repeat (first | (with_reducible first | exact HB.out | apply below_alloc | apply pw_below_drewN | apply below_drew1) | exact HB.out)); (case s1 => ((with_reducible repeat (first | apply Kd.T_alloc | apply Kd.T_drewN | apply Kd.T_drew)); exact HO0_1.out)); rintro e wm1 ⟨rfl, hy0_1, hb, hkp⟩; replace HO0_0 := am (Kd.T_kept (ok := fun k_ => P0_0_ k_ ∧ k_ < w.heap.size) (by (with_reducible repeat (first | apply Kd.T_alloc | apply Kd.T_drewN | apply Kd.T_drew)); exact HO0_0.out) hkp (fun k_ hk_ hs_ => hp0_0_0_1 k_ hk_.1 hs_.1)); replace HO0_1 := am (hy0_1); replace BK := am (blk_kept (g := gb) (o := .cells #[.slice A0_0_ l0_0.length c0_0_, .slice A0_1_ l0_1.length c0_1_] 30 (0, 0)) (pk BK.out) hkp (fun hs_ => absurd hs_.2 (Nat.not_lt.2 GB))); replace HB := am (hb); replace HK := am (Kept.then_ (S := (fun k_ => P0_0_ k_ ∨ P0_1_ k_)) (by repeat (first | (with_reducible first | exact HK.out | apply Kept.alloc | apply Kept.drewN | apply Kept.drew) | exact HK.out)) hkp (fun k_ hs_ => (.inl (.inr hs_.1)))); clear hb hkp; have hc_0 : wm1.cell? ⟨gb, 0, none⟩ = some (.slice A0_0_ l0_0.length c0_0_) := (blk_cell BK.out 0).trans rfl; have hc_1 : wm1.cell? ⟨gb, 1, none⟩ = some (.slice A0_1_ l0_1.length c0_1_) := (blk_cell BK.out 1).trans rfl))
 go_ret
 exact ⟨by first | rfl | (simp [*]; done), Kd.T_mono (ok := fun k_ => P0_0_ k_ ∧ k_ < w.heap.size) (by (with_reducible repeat (first | apply Kd.T_alloc | apply Kd.T_drewN | apply Kd.T_drew)); exact HO0_0.out) (fun k_ hk_ => hk_.1), Kd.T_mono (ok := fun k_ => P0_1_ k_ ∧ k_ < w.heap.size) (by (with_reducible repeat (first | apply Kd.T_alloc | apply Kd.T_drewN | apply Kd.T_drew)); exact HO0_1.out) (fun k_ hk_ => hk_.1), by repeat (first | (with_reducible first | exact HB.out | apply below_alloc | apply pw_below_drewN | apply below_drew1) | exact HB.out), by repeat (first | (with_reducible first | exact HK.out | apply Kept.alloc | apply Kept.drewN | apply Kept.drew) | exact HK.out)⟩

/-! ### laws_markUndoOut: function 15 -/
def laws_markUndoOut.f (k : Nat) (l0_0 : List (S31)) (l0_1 : List (S31)) (l0_2 : List Int) (a0_3 : Int) (a0_4 : Int) (a0_5 : Int) (a1 : Int) : Option (Int × List (S31) × List (S31) × List Int) := (laws_markUndo.f k l0_0 l0_1 a1).bind fun b0 => (laws_markBuf.f k l0_2 a0_3 a0_4 b0.1).bind fun b1 => some (b1.1, b0.2.1, b0.2.2, b1.2)
theorem laws_markUndoOut.marksT (k : Nat) (P0_0_ : Nat → Prop) (u0_0_ : Value) (P0_1_ : Nat → Prop) (u0_1_ : Value) (P0_2_ : Nat → Prop) (u0_2_ : Value) (l0_0 : List (S31)) (l0_1 : List (S31)) (l0_2 : List Int) (a0_3 : Int) (a0_4 : Int) (a0_5 : Int) (a1 r1 : Int) (r0_0_ : List (S31)) (r0_1_ : List (S31)) (r0_2_ : List Int) (w0 w : World) (hB : Below w0.heap.size w0 w) (ho0_0 : Kd.T k31 31 w w0.heap.size P0_0_ u0_0_ l0_0) (ho0_1 : Kd.T k31 31 w w0.heap.size P0_1_ u0_1_ l0_1) (ho0_2 : Kd.R (Kd.int .i64) 2 w w0.heap.size P0_2_ u0_2_ l0_2) (hp0_0_0_1 : ∀ k_, P0_0_ k_ → ¬ P0_1_ k_) (hp0_0_0_2 : ∀ k_, P0_0_ k_ → ¬ P0_2_ k_) (hp0_1_0_2 : ∀ k_, P0_1_ k_ → ¬ P0_2_ k_) (h : laws_markUndoOut.f k l0_0 l0_1 l0_2 a0_3 a0_4 a0_5 a1 = some (r1, r0_0_, r0_1_, r0_2_)) :
 Calls Try.prog 15 #[.agg #[u0_0_, u0_1_, u0_2_, .int .i64 a0_3, .int .i64 a0_4, .int .i64 a0_5], .int .i64 a1] w fun e w' => e = .returned (.int .i64 r1) ∧ Kd.T k31 31 w' w0.heap.size P0_0_ u0_0_ r0_0_ ∧ Kd.T k31 31 w' w0.heap.size P0_1_ u0_1_ r0_1_ ∧ Kd.R (Kd.int .i64) 2 w' w0.heap.size P0_2_ u0_2_ r0_2_ ∧ Below w0.heap.size w0 w' ∧ Kept w w' (fun k_ => P0_0_ k_ ∨ P0_1_ k_ ∨ P0_2_ k_) := by
 have HO0_0 := am (Kd.T_mono (ok' := fun k_ => P0_0_ k_ ∧ k_ < w.heap.size) (Kd.T_bound ho0_0) (fun k_ hk_ => ⟨hk_.1, hk_.2.2.1⟩))
 have HO0_1 := am (Kd.T_mono (ok' := fun k_ => P0_1_ k_ ∧ k_ < w.heap.size) (Kd.T_bound ho0_1) (fun k_ hk_ => ⟨hk_.1, hk_.2.2.1⟩))
 have HO0_2 := am (Kd.R_mono (ok' := fun k_ => P0_2_ k_ ∧ k_ < w.heap.size) (Kd.R_bound ho0_2) (fun k_ hk_ => ⟨hk_.1, hk_.2.2.1⟩))
 obtain ⟨A0_0_, c0_0_, eu0_0, _⟩ := Kd.T_slice HO0_0.out
 subst eu0_0
 obtain ⟨A0_1_, c0_1_, eu0_1, _⟩ := Kd.T_slice HO0_1.out
 subst eu0_1
 obtain ⟨A0_2_, c0_2_, eu0_2⟩ := Kd.R_slice HO0_2.out
 subst eu0_2
 have HK := am (Kept.refl w (fun k_ => P0_0_ k_ ∨ P0_1_ k_ ∨ P0_2_ k_))
 have HB := am hB
 clear hB ho0_0 ho0_1 ho0_2
 have H : ((laws_markUndo.f k l0_0 l0_1 a1).bind fun b0 => (laws_markBuf.f k l0_2 a0_3 a0_4 b0.1).bind fun b1 => some (b1.1, b0.2.1, b0.2.2, b1.2)) = some (r1, r0_0_, r0_1_, r0_2_) := h
 clear h
 obtain ⟨⟨t0, t0_0_0, t0_0_1⟩, E0, H⟩ := Option.bind_eq_some_iff.mp H
 (try dsimp only at H)
 have A0 := Aside0.mk E0
 clear E0
 obtain ⟨⟨t1, t1_0_2⟩, E1, H⟩ := Option.bind_eq_some_iff.mp H
 (try dsimp only at H)
 have A1 := Aside0.mk E1
 clear E1
 simp only [Option.some.injEq, Prod.mk.injEq] at H
 obtain ⟨rfl, rfl, rfl, rfl⟩ := H
 go_enter Try.func15, Try.ntmps15
 go_wp2_with (first | ((with_reducible refine gate_dst (N := 2) rfl ?_); refine box_event ?hg (N := 2) ?hd (cs := #[.slice A0_0_ l0_0.length c0_0_, .slice A0_1_ l0_1.length c0_1_, .slice A0_2_ l0_2.length c0_2_, .int .i64 a0_3, .int .i64 a0_4, .int .i64 a0_5]) (t := 33) ?hr ?_; (case hd => rfl); (case hg => rfl); (case hr => first | (go_simp; done) | (go_simp; rfl)); intro gb hg wb hbox hb; have BK := am hbox; have GB : w.heap.size ≤ gb := (by rw [hg]; exact Nat.le_refl _); replace HO0_0 := am (Kd.T_below (by (with_reducible repeat (first | apply Kd.T_alloc | apply Kd.T_drewN | apply Kd.T_drew)); exact HO0_0.out) hb); replace HO0_1 := am (Kd.T_below (by (with_reducible repeat (first | apply Kd.T_alloc | apply Kd.T_drewN | apply Kd.T_drew)); exact HO0_1.out) hb); replace HO0_2 := am (Kd.R_below (kr HO0_2.out) hb); replace HB := am (below_then HB.out HB.out.size hb); replace HK := am (Kept.below (by repeat (first | (with_reducible first | exact HK.out | apply Kept.alloc | apply Kept.drewN | apply Kept.drew) | exact HK.out)) hb); clear hb hbox hg; have hc_0 : wb.cell? ⟨gb, 0, none⟩ = some (.slice A0_0_ l0_0.length c0_0_) := (blk_cell BK.out 0).trans rfl; have hc_1 : wb.cell? ⟨gb, 1, none⟩ = some (.slice A0_1_ l0_1.length c0_1_) := (blk_cell BK.out 1).trans rfl; have hc_2 : wb.cell? ⟨gb, 2, none⟩ = some (.slice A0_2_ l0_2.length c0_2_) := (blk_cell BK.out 2).trans rfl; have hc_3 : wb.cell? ⟨gb, 3, none⟩ = some (.int .i64 a0_3) := (blk_cell BK.out 3).trans rfl; have hc_4 : wb.cell? ⟨gb, 4, none⟩ = some (.int .i64 a0_4) := (blk_cell BK.out 4).trans rfl; have hc_5 : wb.cell? ⟨gb, 5, none⟩ = some (.int .i64 a0_5) := (blk_cell BK.out 5).trans rfl) | ((go_at_call 37); (with_reducible refine (laws_markUndo.marksT k (fun k_ => P0_0_ k_ ∧ k_ < w.heap.size) (.slice A0_0_ l0_0.length c0_0_) (fun k_ => P0_1_ k_ ∧ k_ < w.heap.size) (.slice A0_1_ l0_1.length c0_1_) l0_0 l0_1 a1 t0 t0_0_0 t0_0_1 w0 _ ?s0 ?s1 ?s2 ?s3 A0.out).mono ?_); (case s0 => repeat (first | (with_reducible first | exact HB.out | apply below_alloc | apply pw_below_drewN | apply below_drew1) | exact HB.out)); (case s1 => ((with_reducible repeat (first | apply Kd.T_alloc | apply Kd.T_drewN | apply Kd.T_drew)); exact HO0_0.out)); (case s2 => ((with_reducible repeat (first | apply Kd.T_alloc | apply Kd.T_drewN | apply Kd.T_drew)); exact HO0_1.out)); (case s3 => exact fun k_ h1_ h2_ => hp0_0_0_1 k_ h1_.1 h2_.1); rintro e wm0 ⟨rfl, hy0_0, hy0_1, hb, hkp⟩; replace HO0_0 := am (hy0_0); replace HO0_1 := am (hy0_1); replace HO0_2 := am (Kd.R_kept (ok := fun k_ => P0_2_ k_ ∧ k_ < w.heap.size) (kr HO0_2.out) hkp (fun k_ hk_ hs_ => Or.elim hs_ (fun z_ => hp0_0_0_2 k_ z_.1 hk_.1) (fun z_ => hp0_1_0_2 k_ z_.1 hk_.1))); replace BK := am (blk_kept (g := gb) (o := .cells #[.slice A0_0_ l0_0.length c0_0_, .slice A0_1_ l0_1.length c0_1_, .slice A0_2_ l0_2.length c0_2_, .int .i64 a0_3, .int .i64 a0_4, .int .i64 a0_5] 33 (0, 0)) (pk BK.out) hkp (fun hs_ => Or.elim hs_ (fun z_ => absurd z_.2 (Nat.not_lt.2 GB)) (fun z_ => absurd z_.2 (Nat.not_lt.2 GB)))); replace HB := am (hb); replace HK := am (Kept.then_ (S := (fun k_ => P0_0_ k_ ∨ P0_1_ k_ ∨ P0_2_ k_)) (by repeat (first | (with_reducible first | exact HK.out | apply Kept.alloc | apply Kept.drewN | apply Kept.drew) | exact HK.out)) hkp (fun k_ hs_ => Or.elim hs_ (fun z_ => (.inl (.inl z_.1))) (fun z_ => (.inl (.inr (.inl z_.1)))))); clear hb hkp; have hc_0 : wm0.cell? ⟨gb, 0, none⟩ = some (.slice A0_0_ l0_0.length c0_0_) := (blk_cell BK.out 0).trans rfl; have hc_1 : wm0.cell? ⟨gb, 1, none⟩ = some (.slice A0_1_ l0_1.length c0_1_) := (blk_cell BK.out 1).trans rfl; have hc_2 : wm0.cell? ⟨gb, 2, none⟩ = some (.slice A0_2_ l0_2.length c0_2_) := (blk_cell BK.out 2).trans rfl; have hc_3 : wm0.cell? ⟨gb, 3, none⟩ = some (.int .i64 a0_3) := (blk_cell BK.out 3).trans rfl; have hc_4 : wm0.cell? ⟨gb, 4, none⟩ = some (.int .i64 a0_4) := (blk_cell BK.out 4).trans rfl; have hc_5 : wm0.cell? ⟨gb, 5, none⟩ = some (.int .i64 a0_5) := (blk_cell BK.out 5).trans rfl) | ((go_at_call 13); (with_reducible refine (laws_markBuf.marks k (fun k_ => P0_2_ k_ ∧ k_ < w.heap.size) (.slice A0_2_ l0_2.length c0_2_) l0_2 a0_3 a0_4 t0 t1 t1_0_2 w0 _ ?s0 ?s1 A1.out).mono ?_); (case s0 => repeat (first | (with_reducible first | exact HB.out | apply below_alloc | apply pw_below_drewN | apply below_drew1) | exact HB.out)); (case s1 => ((with_reducible repeat (first | apply Kd.R_alloc | apply Kd.R_drewN | apply Kd.R_drew)); exact HO0_2.out)); rintro e wm1 ⟨rfl, hy0_2, hb, hkp⟩; replace HO0_0 := am (Kd.T_kept (ok := fun k_ => P0_0_ k_ ∧ k_ < w.heap.size) (by (with_reducible repeat (first | apply Kd.T_alloc | apply Kd.T_drewN | apply Kd.T_drew)); exact HO0_0.out) hkp (fun k_ hk_ hs_ => hp0_0_0_2 k_ hk_.1 hs_.1)); replace HO0_1 := am (Kd.T_kept (ok := fun k_ => P0_1_ k_ ∧ k_ < w.heap.size) (by (with_reducible repeat (first | apply Kd.T_alloc | apply Kd.T_drewN | apply Kd.T_drew)); exact HO0_1.out) hkp (fun k_ hk_ hs_ => hp0_1_0_2 k_ hk_.1 hs_.1)); replace HO0_2 := am (hy0_2); replace BK := am (blk_kept (g := gb) (o := .cells #[.slice A0_0_ l0_0.length c0_0_, .slice A0_1_ l0_1.length c0_1_, .slice A0_2_ l0_2.length c0_2_, .int .i64 a0_3, .int .i64 a0_4, .int .i64 a0_5] 33 (0, 0)) (pk BK.out) hkp (fun hs_ => absurd hs_.2 (Nat.not_lt.2 GB))); replace HB := am (hb); replace HK := am (Kept.then_ (S := (fun k_ => P0_0_ k_ ∨ P0_1_ k_ ∨ P0_2_ k_)) (by repeat (first | (with_reducible first | exact HK.out | apply Kept.alloc | apply Kept.drewN | apply Kept.drew) | exact HK.out)) hkp (fun k_ hs_ => (.inl (.inr (.inr hs_.1))))); clear hb hkp; have hc_0 : wm1.cell? ⟨gb, 0, none⟩ = some (.slice A0_0_ l0_0.length c0_0_) := (blk_cell BK.out 0).trans rfl; have hc_1 : wm1.cell? ⟨gb, 1, none⟩ = some (.slice A0_1_ l0_1.length c0_1_) := (blk_cell BK.out 1).trans rfl; have hc_2 : wm1.cell? ⟨gb, 2, none⟩ = some (.slice A0_2_ l0_2.length c0_2_) := (blk_cell BK.out 2).trans rfl; have hc_3 : wm1.cell? ⟨gb, 3, none⟩ = some (.int .i64 a0_3) := (blk_cell BK.out 3).trans rfl; have hc_4 : wm1.cell? ⟨gb, 4, none⟩ = some (.int .i64 a0_4) := (blk_cell BK.out 4).trans rfl; have hc_5 : wm1.cell? ⟨gb, 5, none⟩ = some (.int .i64 a0_5) := (blk_cell BK.out 5).trans rfl))
 go_ret
 exact ⟨by first | rfl | (simp [*]; done), Kd.T_mono (ok := fun k_ => P0_0_ k_ ∧ k_ < w.heap.size) (by (with_reducible repeat (first | apply Kd.T_alloc | apply Kd.T_drewN | apply Kd.T_drew)); exact HO0_0.out) (fun k_ hk_ => hk_.1), Kd.T_mono (ok := fun k_ => P0_1_ k_ ∧ k_ < w.heap.size) (by (with_reducible repeat (first | apply Kd.T_alloc | apply Kd.T_drewN | apply Kd.T_drew)); exact HO0_1.out) (fun k_ hk_ => hk_.1), Kd.R_mono (ok := fun k_ => P0_2_ k_ ∧ k_ < w.heap.size) (kr HO0_2.out) (fun k_ hk_ => hk_.1), by repeat (first | (with_reducible first | exact HB.out | apply below_alloc | apply pw_below_drewN | apply below_drew1) | exact HB.out), by repeat (first | (with_reducible first | exact HK.out | apply Kept.alloc | apply Kept.drewN | apply Kept.drew) | exact HK.out)⟩

/-! ### laws_heldInt64S: function 63 -/
def laws_heldInt64S.l0 : Nat → List Int → Int → Int → Option (Int)
 | 0, _, _, _ => none
 | k + 1, x0, x1, x5 => if x5 < (x0.length : Int) then (if 0 ≤ x5 then (if (rd x0 x5) = x1 then (laws_heldInt64S.l0 k x0 (wrap64 (x1 + 1)) (wrap64 (x5 + 1))) else (some (-1))) else (none)) else (some x1)
def laws_heldInt64S.f (k : Nat) (l0 : List Int) (a1 : Int) : Option (Int) := laws_heldInt64S.l0 k l0 a1 0
theorem laws_heldInt64S.calls (k : Nat) (A0 : Option Addr) (c0 : Nat) (l0 : List Int) (a1 : Int) (r : Int) (w : World) (hr0 : Kd.C (Kd.int .i64) w A0 l0.length l0) (hc0 : l0.length ≤ c0) (h : laws_heldInt64S.f k l0 a1 = some r) :
  Calls Try.prog 63 #[.slice A0 l0.length c0, .int .i64 a1] w fun e w' => e = .returned (.int .i64 r) ∧ Drawn0 w w' := by
 have HR0 := am hr0
 have HC0 := am hc0
 clear hr0 hc0
 have H : (laws_heldInt64S.l0 k l0 a1 0) = some r := h
 clear h
 have H' := Aside0.mk H
 clear H
 go_enter Try.func63, Try.ntmps63
 go_wp2
 go_loopg [1, 5] k (fun kq v1 v5 w' => ∃ (x1_1 : Int) (x5_1 : Int), v1 = .int .i64 x1_1 ∧ v5 = .int .i64 x5_1 ∧ Aside0 (laws_heldInt64S.l0 kq l0 x1_1 x5_1 = some r) ∧ Aside0 (kq ≤ k) ∧ Drawn0 w w')
 case atStart => exact ⟨(a1), (0), (by first | rfl | (simp; done) | (simp [*]; done)), (by first | rfl | (simp; done) | (simp [*]; done)), H', ⟨Nat.le_refl _⟩, by repeat (first | exact Drawn0.refl _ | apply Drawn0.step)⟩
 case round =>
  clear H'
  try clear p2
  obtain ⟨x1_1, x5_1, rfl, rfl, HA, HK1, ⟨m1, rfl⟩⟩ := hrel
  cases gk with
  | zero => exact absurd HA.out (by simp [laws_heldInt64S.l0])
  | succ k1 =>
   have H := HA.out
   clear HA
   simp only [laws_heldInt64S.l0] at H
   by_cases c3 : x5_1 < (l0.length : Int)
   ·rw [if_pos c3] at H
    have c3b0 : decide (x5_1 < (l0.length : Int)) = true := decide_eq_true c3
    clear c3
    by_cases c4 : 0 ≤ x5_1
    ·rw [if_pos c4] at H
     have c4b0 : decide (0 ≤ x5_1) = true := decide_eq_true c4
     clear c4
     by_cases c5 : (rd l0 x5_1) = x1_1
     ·rw [if_pos c5] at H
      have c5b0 : ((rd l0 x5_1) == x1_1) = true := beq_iff_eq.mpr c5
      have c5b1 : ((rd l0 x5_1) != x1_1) = false := bne_eq_false_iff_eq.mpr c5
      clear c5
      have H' := Aside0.mk H
      clear H
      have p370 : 0 ≤ (x5_1 : Int) := of_decide_eq_true (by first | (with_reducible assumption) | assumption)
      have q370 : x5_1 < (l0.length : Int) := of_decide_eq_true (by first | (with_reducible assumption) | assumption)
      obtain ⟨ad370, e370, hx370_0⟩ := Kd.at_int HR0.out x5_1 p370 q370
      cases e370
      replace p370 := eq_true p370
      replace q370 := eq_true q370
      go_wp2
      go_roundg k1
      case measure => have := HK1.out; omega
      case rel => exact ⟨(wrap64 (x1_1 + 1)), (wrap64 (x5_1 + 1)), (by first | rfl | (simp; done) | (simp [*]; done)), (by first | rfl | (simp; done) | (simp [*]; done)), H', ⟨by have := HK1.out; omega⟩, by repeat (first | exact Drawn0.refl _ | apply Drawn0.step)⟩
     ·rw [if_neg c5] at H
      have c5b0 : ((rd l0 x5_1) == x1_1) = false := beq_eq_false_iff_ne.mpr c5
      have c5b1 : ((rd l0 x5_1) != x1_1) = true := bne_iff_ne.mpr c5
      obtain rfl := Option.some.inj H
      have p370 : 0 ≤ (x5_1 : Int) := of_decide_eq_true (by first | (with_reducible assumption) | assumption)
      have q370 : x5_1 < (l0.length : Int) := of_decide_eq_true (by first | (with_reducible assumption) | assumption)
      obtain ⟨ad370, e370, hx370_0⟩ := Kd.at_int HR0.out x5_1 p370 q370
      cases e370
      replace p370 := eq_true p370
      replace q370 := eq_true q370
      go_wp2
      go_ret
      exact ⟨by first | rfl | (simp; done) | (simp [*]; done), by repeat (first | exact Drawn0.refl _ | apply Drawn0.step)⟩
    ·rw [if_neg c4] at H
     exact absurd H (by simp)
   ·rw [if_neg c3] at H
    have c3b0 : decide (x5_1 < (l0.length : Int)) = false := decide_eq_false c3
    clear c3
    obtain rfl := Option.some.inj H
    go_wp2
    go_ret
    exact ⟨by first | rfl | (simp; done) | (simp [*]; done), by repeat (first | exact Drawn0.refl _ | apply Drawn0.step)⟩

/-! ### laws_heldBufS: function 62 -/
def laws_heldBufS.l0 : Nat → List (S31) → Int → Int → Option (Int)
 | 0, _, _, _ => none
 | k + 1, x0, x1, x5 => if x5 < (x0.length : Int) then (if 0 ≤ x5 then ((laws_heldInt64S.f k ((rd_T31 x0 x5).f0) x1).bind fun t372 => (if t372 < 0 then (some (-1)) else (if ((rd_T31 x0 x5).f1) = t372 then (if ((rd_T31 x0 x5).f2) = (wrap64 (t372 + 1)) then (laws_heldBufS.l0 k x0 (wrap64 ((wrap64 (t372 + 1)) + 1)) (wrap64 (x5 + 1))) else (some (-1))) else (some (-1))))) else (none)) else (some x1)
def laws_heldBufS.f (k : Nat) (l0 : List (S31)) (a1 : Int) : Option (Int) := laws_heldBufS.l0 k l0 a1 0
theorem laws_heldBufS.calls (k : Nat) (A0 : Option Addr) (c0 : Nat) (l0 : List (S31)) (a1 : Int) (r : Int) (w : World) (hr0 : Kd.C k31 w A0 l0.length l0) (hc0 : l0.length ≤ c0) (h : laws_heldBufS.f k l0 a1 = some r) :
  Calls Try.prog 62 #[.slice A0 l0.length c0, .int .i64 a1] w fun e w' => e = .returned (.int .i64 r) ∧ Drawn0 w w' := by
 have HR0 := am hr0
 have HC0 := am hc0
 clear hr0 hc0
 have H : (laws_heldBufS.l0 k l0 a1 0) = some r := h
 clear h
 have H' := Aside0.mk H
 clear H
 go_enter Try.func62, Try.ntmps62
 go_wp2
 go_loopg [1, 5] k (fun kq v1 v5 w' => ∃ (x1_1 : Int) (x5_1 : Int), v1 = .int .i64 x1_1 ∧ v5 = .int .i64 x5_1 ∧ Aside0 (laws_heldBufS.l0 kq l0 x1_1 x5_1 = some r) ∧ Aside0 (kq ≤ k) ∧ Drawn0 w w')
 case atStart => exact ⟨(a1), (0), (by first | rfl | (simp; done) | (simp [*]; done)), (by first | rfl | (simp; done) | (simp [*]; done)), H', ⟨Nat.le_refl _⟩, by repeat (first | exact Drawn0.refl _ | apply Drawn0.step)⟩
 case round =>
  clear H'
  try clear p2
  obtain ⟨x1_1, x5_1, rfl, rfl, HA, HK1, ⟨m1, rfl⟩⟩ := hrel
  cases gk with
  | zero => exact absurd HA.out (by simp [laws_heldBufS.l0])
  | succ k1 =>
   have H := HA.out
   clear HA
   simp only [laws_heldBufS.l0] at H
   by_cases c3 : x5_1 < (l0.length : Int)
   ·rw [if_pos c3] at H
    have c3b0 : decide (x5_1 < (l0.length : Int)) = true := decide_eq_true c3
    clear c3
    by_cases c4 : 0 ≤ x5_1
    ·rw [if_pos c4] at H
     have c4b0 : decide (0 ≤ x5_1) = true := decide_eq_true c4
     clear c4
     replace H := Option.bind_eq_some_iff.mp H
     obtain ⟨t372, A50, H⟩ := H
     replace H : (if t372 < 0 then (some (-1)) else (if ((rd_T31 l0 x5_1).f1) = t372 then (if ((rd_T31 l0 x5_1).f2) = (wrap64 (t372 + 1)) then (laws_heldBufS.l0 k1 l0 (wrap64 ((wrap64 (t372 + 1)) + 1)) (wrap64 (x5_1 + 1))) else (some (-1))) else (some (-1)))) = some r := H
     have A5 := Aside0.mk A50
     clear A50
     by_cases c6 : t372 < 0
     ·rw [if_pos c6] at H
      have c6b0 : decide (t372 < 0) = true := decide_eq_true c6
      clear c6
      obtain rfl := Option.some.inj H
      have p371 : 0 ≤ (x5_1 : Int) := of_decide_eq_true (by first | (with_reducible assumption) | assumption)
      have q371 : x5_1 < (l0.length : Int) := of_decide_eq_true (by first | (with_reducible assumption) | assumption)
      obtain ⟨ad371, A371_0, c371_0, e371, hx371_0, hx371_1, hx371_2, hl371_0, hi371_0⟩ := at_T31 HR0.out x5_1 p371 q371
      cases e371
      have HR371_0 := am hi371_0
      have HC371_0 := am hl371_0
      clear hi371_0 hl371_0
      replace p371 := eq_true p371
      replace q371 := eq_true q371
      go_wp2_with (first | ((with_reducible refine gate_callee (f := 63) rfl ?_); refine gl (some 18) Try.func63 #[.slice A371_0 ((rd_T31 l0 x5_1).f0).length c371_0, .int .i64 x1_1] ?_; (with_reducible refine (laws_heldInt64S.calls k1 _ _ ((rd_T31 l0 x5_1).f0) x1_1 t372 _ ?side1 ?side2 A5.out).mono ?_); (case side1 => repeat (first | exact HR371_0.out | (with_reducible refine Kd.C_alloc ?_ _) | (with_reducible refine Kd.C_drewN ?_ _) | (with_reducible refine Kd.C_drew ?_))); (case side2 => exact HC371_0.out); rintro e w' ⟨rfl, ⟨nd, rfl⟩⟩; refine ⟨_, rfl, ?_⟩))
      go_ret
      exact ⟨by first | rfl | (simp; done) | (simp [*]; done), by repeat (first | exact Drawn0.refl _ | apply Drawn0.step)⟩
     ·rw [if_neg c6] at H
      have c6b0 : decide (t372 < 0) = false := decide_eq_false c6
      clear c6
      by_cases c7 : ((rd_T31 l0 x5_1).f1) = t372
      ·rw [if_pos c7] at H
       have c7b0 : (((rd_T31 l0 x5_1).f1) == t372) = true := beq_iff_eq.mpr c7
       have c7b1 : (((rd_T31 l0 x5_1).f1) != t372) = false := bne_eq_false_iff_eq.mpr c7
       clear c7
       by_cases c8 : ((rd_T31 l0 x5_1).f2) = (wrap64 (t372 + 1))
       ·rw [if_pos c8] at H
        have c8b0 : (((rd_T31 l0 x5_1).f2) == (wrap64 (t372 + 1))) = true := beq_iff_eq.mpr c8
        have c8b1 : (((rd_T31 l0 x5_1).f2) != (wrap64 (t372 + 1))) = false := bne_eq_false_iff_eq.mpr c8
        clear c8
        have H' := Aside0.mk H
        clear H
        have p371 : 0 ≤ (x5_1 : Int) := of_decide_eq_true (by first | (with_reducible assumption) | assumption)
        have q371 : x5_1 < (l0.length : Int) := of_decide_eq_true (by first | (with_reducible assumption) | assumption)
        obtain ⟨ad371, A371_0, c371_0, e371, hx371_0, hx371_1, hx371_2, hl371_0, hi371_0⟩ := at_T31 HR0.out x5_1 p371 q371
        cases e371
        have HR371_0 := am hi371_0
        have HC371_0 := am hl371_0
        clear hi371_0 hl371_0
        replace p371 := eq_true p371
        replace q371 := eq_true q371
        go_wp2_with (first | ((with_reducible refine gate_callee (f := 63) rfl ?_); refine gl (some 18) Try.func63 #[.slice A371_0 ((rd_T31 l0 x5_1).f0).length c371_0, .int .i64 x1_1] ?_; (with_reducible refine (laws_heldInt64S.calls k1 _ _ ((rd_T31 l0 x5_1).f0) x1_1 t372 _ ?side1 ?side2 A5.out).mono ?_); (case side1 => repeat (first | exact HR371_0.out | (with_reducible refine Kd.C_alloc ?_ _) | (with_reducible refine Kd.C_drewN ?_ _) | (with_reducible refine Kd.C_drew ?_))); (case side2 => exact HC371_0.out); rintro e w' ⟨rfl, ⟨nd, rfl⟩⟩; refine ⟨_, rfl, ?_⟩; have p373 : 0 ≤ (x5_1 : Int) := of_decide_eq_true (by first | (with_reducible assumption) | assumption); have q373 : x5_1 < (l0.length : Int) := of_decide_eq_true (by first | (with_reducible assumption) | assumption); obtain ⟨ad373, A373_0, c373_0, e373, hx373_0, hx373_1, hx373_2, hl373_0, hi373_0⟩ := at_T31 HR0.out x5_1 p373 q373; obtain rfl : ad371 = ad373 := (by injection e373); have HR373_0 := am hi373_0; have HC373_0 := am hl373_0; clear hi373_0 hl373_0; replace p373 := eq_true p373; replace q373 := eq_true q373; (first | have ea_ := Option.some.inj (hx371_0.symm.trans hx373_0) | have ea_ := Option.some.inj (hxw371_0.symm.trans hxw373_0)); injection ea_ with ea_ en_ ec_; subst ea_; subst ec_; clear en_; have p374 : 0 ≤ (x5_1 : Int) := of_decide_eq_true (by first | (with_reducible assumption) | assumption); have q374 : x5_1 < (l0.length : Int) := of_decide_eq_true (by first | (with_reducible assumption) | assumption); obtain ⟨ad374, A374_0, c374_0, e374, hx374_0, hx374_1, hx374_2, hl374_0, hi374_0⟩ := at_T31 HR0.out x5_1 p374 q374; obtain rfl : ad371 = ad374 := (by injection e374); have HR374_0 := am hi374_0; have HC374_0 := am hl374_0; clear hi374_0 hl374_0; replace p374 := eq_true p374; replace q374 := eq_true q374; (first | have ea_ := Option.some.inj (hx371_0.symm.trans hx374_0) | have ea_ := Option.some.inj (hxw371_0.symm.trans hxw374_0)); injection ea_ with ea_ en_ ec_; subst ea_; subst ec_; clear en_))
        go_roundg k1
        case measure => have := HK1.out; omega
        case rel => exact ⟨(wrap64 ((wrap64 (t372 + 1)) + 1)), (wrap64 (x5_1 + 1)), (by first | rfl | (simp; done) | (simp [*]; done)), (by first | rfl | (simp; done) | (simp [*]; done)), H', ⟨by have := HK1.out; omega⟩, by repeat (first | exact Drawn0.refl _ | apply Drawn0.step)⟩
       ·rw [if_neg c8] at H
        have c8b0 : (((rd_T31 l0 x5_1).f2) == (wrap64 (t372 + 1))) = false := beq_eq_false_iff_ne.mpr c8
        have c8b1 : (((rd_T31 l0 x5_1).f2) != (wrap64 (t372 + 1))) = true := bne_iff_ne.mpr c8
        obtain rfl := Option.some.inj H
        have p371 : 0 ≤ (x5_1 : Int) := of_decide_eq_true (by first | (with_reducible assumption) | assumption)
        have q371 : x5_1 < (l0.length : Int) := of_decide_eq_true (by first | (with_reducible assumption) | assumption)
        obtain ⟨ad371, A371_0, c371_0, e371, hx371_0, hx371_1, hx371_2, hl371_0, hi371_0⟩ := at_T31 HR0.out x5_1 p371 q371
        cases e371
        have HR371_0 := am hi371_0
        have HC371_0 := am hl371_0
        clear hi371_0 hl371_0
        replace p371 := eq_true p371
        replace q371 := eq_true q371
        go_wp2_with (first | ((with_reducible refine gate_callee (f := 63) rfl ?_); refine gl (some 18) Try.func63 #[.slice A371_0 ((rd_T31 l0 x5_1).f0).length c371_0, .int .i64 x1_1] ?_; (with_reducible refine (laws_heldInt64S.calls k1 _ _ ((rd_T31 l0 x5_1).f0) x1_1 t372 _ ?side1 ?side2 A5.out).mono ?_); (case side1 => repeat (first | exact HR371_0.out | (with_reducible refine Kd.C_alloc ?_ _) | (with_reducible refine Kd.C_drewN ?_ _) | (with_reducible refine Kd.C_drew ?_))); (case side2 => exact HC371_0.out); rintro e w' ⟨rfl, ⟨nd, rfl⟩⟩; refine ⟨_, rfl, ?_⟩; have p373 : 0 ≤ (x5_1 : Int) := of_decide_eq_true (by first | (with_reducible assumption) | assumption); have q373 : x5_1 < (l0.length : Int) := of_decide_eq_true (by first | (with_reducible assumption) | assumption); obtain ⟨ad373, A373_0, c373_0, e373, hx373_0, hx373_1, hx373_2, hl373_0, hi373_0⟩ := at_T31 HR0.out x5_1 p373 q373; obtain rfl : ad371 = ad373 := (by injection e373); have HR373_0 := am hi373_0; have HC373_0 := am hl373_0; clear hi373_0 hl373_0; replace p373 := eq_true p373; replace q373 := eq_true q373; (first | have ea_ := Option.some.inj (hx371_0.symm.trans hx373_0) | have ea_ := Option.some.inj (hxw371_0.symm.trans hxw373_0)); injection ea_ with ea_ en_ ec_; subst ea_; subst ec_; clear en_; have p374 : 0 ≤ (x5_1 : Int) := of_decide_eq_true (by first | (with_reducible assumption) | assumption); have q374 : x5_1 < (l0.length : Int) := of_decide_eq_true (by first | (with_reducible assumption) | assumption); obtain ⟨ad374, A374_0, c374_0, e374, hx374_0, hx374_1, hx374_2, hl374_0, hi374_0⟩ := at_T31 HR0.out x5_1 p374 q374; obtain rfl : ad371 = ad374 := (by injection e374); have HR374_0 := am hi374_0; have HC374_0 := am hl374_0; clear hi374_0 hl374_0; replace p374 := eq_true p374; replace q374 := eq_true q374; (first | have ea_ := Option.some.inj (hx371_0.symm.trans hx374_0) | have ea_ := Option.some.inj (hxw371_0.symm.trans hxw374_0)); injection ea_ with ea_ en_ ec_; subst ea_; subst ec_; clear en_))
        go_ret
        exact ⟨by first | rfl | (simp; done) | (simp [*]; done), by repeat (first | exact Drawn0.refl _ | apply Drawn0.step)⟩
      ·rw [if_neg c7] at H
       have c7b0 : (((rd_T31 l0 x5_1).f1) == t372) = false := beq_eq_false_iff_ne.mpr c7
       have c7b1 : (((rd_T31 l0 x5_1).f1) != t372) = true := bne_iff_ne.mpr c7
       obtain rfl := Option.some.inj H
       have p371 : 0 ≤ (x5_1 : Int) := of_decide_eq_true (by first | (with_reducible assumption) | assumption)
       have q371 : x5_1 < (l0.length : Int) := of_decide_eq_true (by first | (with_reducible assumption) | assumption)
       obtain ⟨ad371, A371_0, c371_0, e371, hx371_0, hx371_1, hx371_2, hl371_0, hi371_0⟩ := at_T31 HR0.out x5_1 p371 q371
       cases e371
       have HR371_0 := am hi371_0
       have HC371_0 := am hl371_0
       clear hi371_0 hl371_0
       replace p371 := eq_true p371
       replace q371 := eq_true q371
       go_wp2_with (first | ((with_reducible refine gate_callee (f := 63) rfl ?_); refine gl (some 18) Try.func63 #[.slice A371_0 ((rd_T31 l0 x5_1).f0).length c371_0, .int .i64 x1_1] ?_; (with_reducible refine (laws_heldInt64S.calls k1 _ _ ((rd_T31 l0 x5_1).f0) x1_1 t372 _ ?side1 ?side2 A5.out).mono ?_); (case side1 => repeat (first | exact HR371_0.out | (with_reducible refine Kd.C_alloc ?_ _) | (with_reducible refine Kd.C_drewN ?_ _) | (with_reducible refine Kd.C_drew ?_))); (case side2 => exact HC371_0.out); rintro e w' ⟨rfl, ⟨nd, rfl⟩⟩; refine ⟨_, rfl, ?_⟩; have p373 : 0 ≤ (x5_1 : Int) := of_decide_eq_true (by first | (with_reducible assumption) | assumption); have q373 : x5_1 < (l0.length : Int) := of_decide_eq_true (by first | (with_reducible assumption) | assumption); obtain ⟨ad373, A373_0, c373_0, e373, hx373_0, hx373_1, hx373_2, hl373_0, hi373_0⟩ := at_T31 HR0.out x5_1 p373 q373; obtain rfl : ad371 = ad373 := (by injection e373); have HR373_0 := am hi373_0; have HC373_0 := am hl373_0; clear hi373_0 hl373_0; replace p373 := eq_true p373; replace q373 := eq_true q373; (first | have ea_ := Option.some.inj (hx371_0.symm.trans hx373_0) | have ea_ := Option.some.inj (hxw371_0.symm.trans hxw373_0)); injection ea_ with ea_ en_ ec_; subst ea_; subst ec_; clear en_))
       go_ret
       exact ⟨by first | rfl | (simp; done) | (simp [*]; done), by repeat (first | exact Drawn0.refl _ | apply Drawn0.step)⟩
    ·rw [if_neg c4] at H
     exact absurd H (by simp)
   ·rw [if_neg c3] at H
    have c3b0 : decide (x5_1 < (l0.length : Int)) = false := decide_eq_false c3
    clear c3
    obtain rfl := Option.some.inj H
    go_wp2
    go_ret
    exact ⟨by first | rfl | (simp; done) | (simp [*]; done), by repeat (first | exact Drawn0.refl _ | apply Drawn0.step)⟩

end Go.Proofs.Ytabinbmcfeknjaa.PFnExactUndoRun
