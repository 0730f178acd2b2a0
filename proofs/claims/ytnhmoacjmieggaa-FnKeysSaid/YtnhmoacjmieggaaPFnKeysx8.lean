-- Written by xprint.py (this claim's own program, over the kit's printer); Lean checks it.
import Derived.Test.YtnhmoacjmieggaaPFnKeysx0
import Derived.Test.YtnhmoacjmieggaaPFnKeysx2
import Derived.Test.YtnhmoacjmieggaaPFnKeysx7
namespace Go.Proofs.Ytnhmoacjmieggaa.PFnKeys
open Go.RowKit Go.Proofs.YtnhmoacjmieggaaW.PrintWords Go.Proofs.YtnhmoacjmieggaaW.PrintLast Go.Proofs.YtnhmoacjmieggaaW.PrintMore
attribute [local go_sem] max2_int min2_int max_two min_two max_three min_three max_four min_four   -- for this text's walks alone
set_option linter.unusedVariables false
set_option linter.unusedSimpArgs false   -- squeezed
set_option maxHeartbeats 8000000
set_option maxRecDepth 100000

/-! ### spec_l07Feed: function 34 -/
@[reducible] def b34_0 : Array Bool := (br true [0, 12]).toArray
@[reducible] def b34_1 : Array Bool := (br true [1, 11]).toArray
@[reducible] def b34_2 : Array Bool := (br true [1, 1, 1, 9]).toArray
@[reducible] def b34_3 : Array Bool := (br true [1, 1, 1, 1, 1, 7]).toArray
@[reducible] def b34_4 : Array Bool := (br true [1, 1, 1, 1, 2, 6]).toArray
@[reducible] def b34_5 : Array Bool := (br true [1, 1, 1, 1, 3, 5]).toArray
@[reducible] def b34_6 : Array Bool := (br true [3, 1, 3, 5]).toArray
@[reducible] def b34_7 : Array Bool := (br true [7, 5]).toArray
@[reducible] def b34_8 : Array Bool := (br true [8, 4]).toArray
@[reducible] def b34_9 : Array Bool := (br true [9, 3]).toArray
@[reducible] def b34_10 : Array Bool := (br true [10, 2]).toArray
@[reducible] def b34_11 : Array Bool := (br true [11, 1]).toArray
@[reducible] def b34_12 : Array Bool := (br true [12]).toArray
def spec_l07Feed.l0 : Nat → List (S40) → Int → ByteArray → Bool → List (S38) → ByteArray → Int → Option ((List (S38)) × ByteArray × Int)
 | 0, _, _, _, _, _, _, _ => none
 | k + 1, x0, x1, x2, x3, x362000, x362001, x362002 => if (x2.size : Int) > 0 then ((spec_l07Look.f k x0 x1 x2 x3).bind fun bt362 => (if bt362.1 = 2 then (some (x362000, x2, x362002)) else (if bt362.1 = 3 then (if 0 ≤ bt362.2.2 then (if bt362.2.2 ≤ (x2.size : Int) then (if x362000.length < 4398046511104 then (spec_l07Feed.l0 k x0 x1 (x2.extract (bt362.2.2 : Int).toNat x2.size) x3 (x362000 ++ [(⟨bt362.2.1, x2.extract 0 (bt362.2.2 : Int).toNat⟩ : S38)]) x362001 x362002) else (none)) else (none)) else (none)) else (if 0 ≤ 1 then (if 1 ≤ (x2.size : Int) then (if x362000.length < 4398046511104 then (spec_l07Feed.l0 k x0 x1 (x2.extract 1 x2.size) x3 (x362000 ++ [(⟨bt362.2.1, x2.extract 0 1⟩ : S38)]) x362001 x362002) else (none)) else (none)) else (none))))) else (some (x362000, x362001, x362002))
def spec_l07Feed.f (k : Nat) (l0 : List (S40)) (a1 : Int) (a2 : ByteArray) (a3 : Bool) : Option ((List (S38)) × ByteArray × Int) := spec_l07Feed.l0 k l0 a1 a2 a3 ([] : List (S38)) (⟨#[]⟩ : ByteArray) 0
theorem spec_l07Feed.mono_l : ∀ k, (∀ y0 y1 y2 y3 y4 y5 y6, LeO (spec_l07Feed.l0 k y0 y1 y2 y3 y4 y5 y6) (spec_l07Feed.l0 (k + 1) y0 y1 y2 y3 y4 y5 y6))
 | 0 => fun _ _ _ _ _ _ _ r h => by simp [spec_l07Feed.l0] at h
 | k + 1 => by
  have ih0 := spec_l07Feed.mono_l k
  ·intro y0 y1 y2 y3 y4 y5 y6
   unfold spec_l07Feed.l0
   repeat' first
   | (with_reducible exact ih0 _ _ _ _ _ _ _)
   | (with_reducible exact spec_l07Look.mono _ _ _ _ _)
   | (with_reducible exact LeO.refl _)
   | (with_reducible exact LeO.none _)
   | (with_reducible refine LeO.ite ?_ ?_)
   | (with_reducible refine LeO.bind ?_ (fun _ => ?_))
   | exact ih0 _ _ _ _ _ _ _
   | exact spec_l07Look.mono _ _ _ _ _
   | refine LeO.bind ?_ (fun _ => ?_)
theorem spec_l07Feed.mono : ∀ a0 a1 a2 a3 k, LeO (spec_l07Feed.f k a0 a1 a2 a3) (spec_l07Feed.f (k + 1) a0 a1 a2 a3) := by
 intro a0 a1 a2 a3 k
 have ih0 := spec_l07Feed.mono_l k
 unfold spec_l07Feed.f
 repeat' first
   | (with_reducible exact ih0 _ _ _ _ _ _ _)
   | (with_reducible exact spec_l07Look.mono _ _ _ _ _)
   | (with_reducible exact LeO.refl _)
   | (with_reducible exact LeO.none _)
   | (with_reducible refine LeO.ite ?_ ?_)
   | (with_reducible refine LeO.bind ?_ (fun _ => ?_))
   | exact ih0 _ _ _ _ _ _ _
   | exact spec_l07Look.mono _ _ _ _ _
   | refine LeO.bind ?_ (fun _ => ?_)
def spec_l07Feed.T10 : Bool × List (List Nat × List Nat) := (true, [([], []), ([0], [0]), ([], []), ([2], [2]), ([], []), ([], []), ([4, 5], [4, 5]), ([3, 6], [3, 6]), ([7], [7]), ([1, 8], [1, 8]), ([0, 1, 2, 3, 4, 5, 6, 7, 8, 9], []), ([10, 9, 9, 0, 1, 2, 3, 4, 5, 6, 7, 8, 9], [9, 10])])
def spec_l07Feed.B10 : List Nat := [0, 1, 0, 4, 0, 0, 48, 124, 252, 511, 1023, 2047]
theorem spec_l07Feed.tab10 : rtab .any (opsOf Try.f34 10) = spec_l07Feed.T10 := by kernel_rfl
theorem spec_l07Feed.bits10 : waitsOk spec_l07Feed.T10.2 spec_l07Feed.B10 = true := by kernel_rfl
theorem spec_l07Feed.calls (k : Nat) (A0 : Option Addr) (c0 : Nat) (l0 : List (S40)) (a1 : Int) (a2 : ByteArray) (a3 : Bool) (r1 : List (S38)) (r2 : ByteArray) (r3 : Int) (w : World) (hr0 : Kd.C k40 w A0 l0.length l0) (hc0 : l0.length ≤ c0) (h : spec_l07Feed.f k l0 a1 a2 a3 = some (r1, r2, r3)) :
  Calls Try.prog 34 #[.slice A0 l0.length c0, .int .i64 a1, .string a2, .bool a3] w fun e w' => ∃ v0_ : Value, e = .returned (.agg #[v0_, .string r2, .int .i64 r3]) ∧ Kd.R k38 38 w' w.heap.size (fun _ => True) v0_ r1 ∧ Below w.heap.size w w' := by
 have hu35 := Try.underlying35
 have hu79 := Try.underlying79
 have hu38 := Try.underlying38
 have HR0 := am hr0
 have HC0 := am hc0
 clear hr0 hc0
 have HB := am (Below.refl w.heap.size w)
 have H : (spec_l07Feed.l0 k l0 a1 a2 a3 ([] : List (S38)) (⟨#[]⟩ : ByteArray) 0) = some (r1, r2, r3) := h
 clear h
 have H' := Aside0.mk H
 clear H
 go_enter Try.func34, Try.ntmps34
 go_wp2_with (first | ((with_reducible refine gate_dst (N := 8) rfl ?_); refine box_event ?hg (N := 8) ?hd (cs := #[.slice none 0 0, .string (⟨#[]⟩ : ByteArray), .int .i64 0]) (t := 35) ?hr ?_; (case hd => rfl); (case hg => rfl); (case hr => first | (go_simp; done) | (go_simp; rfl)); intro gb360 hg w5 hbox hb; have BK360 := am (hbox); have GW360 := am ((by rw [hg]; exact (below_size (bl HB.out)) : w.heap.size ≤ gb360)); have GE360 := GW360; replace HB := am (below_step (bl HB.out) hb); clear hb hbox hg) | ((with_reducible refine gate_dst (N := 9) rfl ?_); refine box_event ?hg (N := 9) ?hd (cs := #[.slice none 0 0, .string (⟨#[]⟩ : ByteArray), .int .i64 0]) (t := 35) ?hr ?_; (case hd => rfl); (case hg => rfl); (case hr => first | (go_simp; done) | (go_simp; rfl)); intro gb361 hg w6 hbox hb; have BK361 := am (hbox); have GW361 := am ((by rw [hg]; exact (below_size (bl HB.out)) : w.heap.size ≤ gb361)); have GE361 := GW361; replace HB := am (below_step (bl HB.out) hb); have NB360_361 := am ((by rw [hg]; exact Nat.ne_of_lt (blk_lt (pk BK360.out)) : gb360 ≠ gb361)); have NB361_360 := am ((by rw [hg]; exact Nat.ne_of_gt (blk_lt (pk BK360.out)) : gb361 ≠ gb360)); replace BK360 := am (blk_below (pk BK360.out) hb); clear hb hbox hg; have hnb7 := NB361_360.out; have hnc7 := NB360_361.out; have hcz8_0 : w6.cell? ⟨gb361, 0, none⟩ = some (.slice none 0 0) := bc BK361.out 0; have hcz8_1 : w6.cell? ⟨gb361, 1, none⟩ = some (.string (⟨#[]⟩ : ByteArray)) := bc BK361.out 1; have hcz8_2 : w6.cell? ⟨gb361, 2, none⟩ = some (.int .i64 0) := bc BK361.out 2; have hfz8_0 := blk_frozen BK361.out 0; have hfz8_1 := blk_frozen BK361.out 1; have hfz8_2 := blk_frozen BK361.out 2))
 go_loopg [2] k (fun kq v2 w' => ∃ (x2_1 : ByteArray) (x361001_1 : ByteArray) (x361002_1 : Int) (x362000_1 : List (S38)) (x362001_1 : ByteArray) (u362000 : Value), v2 = .string x2_1 ∧ Aside0 (spec_l07Feed.l0 kq l0 a1 x2_1 a3 x362000_1 x362001_1 0 = some (r1, r2, r3)) ∧ Aside0 (kq ≤ k) ∧ Aside0 (Kd.R k38 38 w' w.heap.size (fun _ => True) u362000 x362000_1) ∧ Aside0 (w'.heap[gb360]? = some (.cells #[(.slice none 0 0), .string x361001_1, .int .i64 x361002_1] 35 (0, 0))) ∧ Aside0 (w'.heap[gb361]? = some (.cells #[u362000, .string x362001_1, .int .i64 0] 35 (0, 0))) ∧ Aside0 (Below w.heap.size w w'))
 case atStart => exact ⟨(a2), ((⟨#[]⟩ : ByteArray)), (0), (([] : List (S38))), ((⟨#[]⟩ : ByteArray)), (.slice none 0 0), (by first | rfl | (simp; done) | (simp [*]; done)), H', ⟨Nat.le_refl _⟩, ⟨by first | exact Kd.R_nil _ _ _ _ _ | exact Kd.N_nil _ _ _ _ _ | exact Kd.V_nil _ _ _ _ _ | exact Kd.Q_nil _ _ _ _ _ | exact Kd.S_nil _ _ _ _ _⟩, ⟨by refine pk ?_; refine blk_far ?_ NB360_361.out _; refine pk ?_; refine blk_far ?_ NB360_361.out _; refine pk ?_; refine blk_far ?_ NB360_361.out _; refine pk ?_; exact BK360.out⟩, ⟨by refine pk ?_; refine blk_put (cs := #[.slice none 0 0, .string (⟨#[]⟩ : ByteArray), .int .i64 0]) ?_ 2 _ rfl; refine pk ?_; refine blk_put (cs := #[.slice none 0 0, .string (⟨#[]⟩ : ByteArray), .int .i64 0]) ?_ 1 _ rfl; refine pk ?_; refine blk_put (cs := #[.slice none 0 0, .string (⟨#[]⟩ : ByteArray), .int .i64 0]) ?_ 0 _ rfl; refine pk ?_; exact BK361.out⟩, ⟨by repeat (first | (with_reducible first | exact HB.out | apply below_alloc | apply pw_below_drewN | apply below_drew1 | refine below_set ?_ GE360.out | refine below_set ?_ GE361.out) | exact HB.out)⟩⟩
 case round =>
  clear H'
  try clear p2
  try clear c3
  try clear c7
  try clear hcz8_0
  try clear hcz8_1
  try clear hcz8_2
  try clear hfz8_0
  try clear hfz8_1
  try clear hfz8_2
  obtain ⟨x2_1, x361001_1, x361002_1, x362000_1, x362001_1, u362000, rfl, HA, HK1, HO_362000, BK360, BK361, HB⟩ := hrel
  cases gk with
  | zero => exact absurd HA.out (by simp [spec_l07Feed.l0])
  | succ k1 =>
   have H := HA.out
   clear HA
   simp only [spec_l07Feed.l0] at H
   by_cases c9 : (x2_1.size : Int) > 0
   ·rw [if_pos c9] at H
    have c9b0 : decide (0 < (x2_1.size : Int)) = true := decide_eq_true c9
    have c9b1 : decide (0 < x2_1.size) = true := decide_eq_true (by omega)
    clear c9
    replace H := Option.bind_eq_some_iff.mp H
    obtain ⟨⟨t362, t363, t364⟩, A100, H⟩ := H
    replace H : (if t362 = 2 then (some (x362000_1, x2_1, 0)) else (if t362 = 3 then (if 0 ≤ t364 then (if t364 ≤ (x2_1.size : Int) then (if x362000_1.length < 4398046511104 then (spec_l07Feed.l0 k1 l0 a1 (x2_1.extract (t364 : Int).toNat x2_1.size) a3 (x362000_1 ++ [(⟨t363, x2_1.extract 0 (t364 : Int).toNat⟩ : S38)]) x362001_1 0) else (none)) else (none)) else (none)) else (if 0 ≤ 1 then (if 1 ≤ (x2_1.size : Int) then (if x362000_1.length < 4398046511104 then (spec_l07Feed.l0 k1 l0 a1 (x2_1.extract 1 x2_1.size) a3 (x362000_1 ++ [(⟨t363, x2_1.extract 0 1⟩ : S38)]) x362001_1 0) else (none)) else (none)) else (none)))) = some (r1, r2, r3) := H
    have A10 := Aside0.mk A100
    clear A100
    by_cases c11 : t362 = 2
    ·rw [if_pos c11] at H
     have c11b0 : (t362 == 2) = true := beq_iff_eq.mpr c11
     have c11b1 : (t362 != 2) = false := bne_eq_false_iff_eq.mpr c11
     clear c11
     simp only [Option.some.injEq, Prod.mk.injEq] at H
     obtain ⟨rfl, rfl, rfl⟩ := H
     go_wp2_with (first | ((with_reducible refine gate_callee (f := 48) rfl ?_); refine gl (some 20) Try.func48 #[.slice A0 l0.length c0, .int .i64 a1, .string x2_1, .bool a3] ?_; (with_reducible refine (spec_l07Look.calls k1 _ _ l0 a1 x2_1 a3 t362 t363 t364 _ ?side1 ?side2 A10.out).mono ?_); (case side1 => repeat (first | exact (Kd.C_below HR0.out HB.out) | (with_reducible refine Kd.C_alloc ?_ _) | (with_reducible refine Kd.C_drewN ?_ _) | (with_reducible refine Kd.C_drew ?_))); (case side2 => exact HC0.out); rintro e w12 ⟨rfl, hb⟩; refine ⟨_, rfl, ?_⟩; replace HO_362000 := am (Kd.R_below (kr HO_362000.out) hb); replace BK360 := am (blk_below (pk BK360.out) hb); replace BK361 := am (blk_below (pk BK361.out) hb); replace HB := am (below_step (bl HB.out) hb); (try clear hb); (try clear hb2); (try clear hk); (try clear hi)) | ((with_reducible refine gate_dst (N := 10) rfl ?_); refine box_event ?hg (N := 10) ?hd (cs := #[.int .i64 0, .string (⟨#[]⟩ : ByteArray), .int .i64 0]) (t := 79) ?hr ?_; (case hd => rfl); (case hg => rfl); (case hr => first | (go_simp; done) | (go_simp; rfl)); intro gb365 hg w13 hbox hb; replace HO_362000 := am (Kd.R_below (kr HO_362000.out) hb); have BK365 := am (hbox); have GW365 := am ((by rw [hg]; exact (below_size (bl HB.out)) : w.heap.size ≤ gb365)); have GE365 := GW365; replace HB := am (below_step (bl HB.out) hb); have NB360_365 := am ((by rw [hg]; exact Nat.ne_of_lt (blk_lt (pk BK360.out)) : gb360 ≠ gb365)); have NB365_360 := am ((by rw [hg]; exact Nat.ne_of_gt (blk_lt (pk BK360.out)) : gb365 ≠ gb360)); replace BK360 := am (blk_below (pk BK360.out) hb); have NB361_365 := am ((by rw [hg]; exact Nat.ne_of_lt (blk_lt (pk BK361.out)) : gb361 ≠ gb365)); have NB365_361 := am ((by rw [hg]; exact Nat.ne_of_gt (blk_lt (pk BK361.out)) : gb365 ≠ gb361)); replace BK361 := am (blk_below (pk BK361.out) hb); clear hb hbox hg; have hnb14 := NB365_360.out; have hnc14 := NB360_365.out; have hnb15 := NB365_361.out; have hnc15 := NB361_365.out; have hcz16_0 : w13.cell? ⟨gb365, 0, none⟩ = some (.int .i64 0) := bc BK365.out 0; have hcz16_1 : w13.cell? ⟨gb365, 1, none⟩ = some (.string (⟨#[]⟩ : ByteArray)) := bc BK365.out 1; have hcz16_2 : w13.cell? ⟨gb365, 2, none⟩ = some (.int .i64 0) := bc BK365.out 2; have hfz16_0 := blk_frozen BK365.out 0; have hfz16_1 := blk_frozen BK365.out 1; have hfz16_2 := blk_frozen BK365.out 2; have hnb17 := NB361_360.out; have hnc17 := NB360_361.out; have hcz18_0 : w13.cell? ⟨gb361, 0, none⟩ = some (u362000) := bc BK361.out 0; have hcz18_1 : w13.cell? ⟨gb361, 1, none⟩ = some (.string x362001_1) := bc BK361.out 1; have hcz18_2 : w13.cell? ⟨gb361, 2, none⟩ = some (.int .i64 0) := bc BK361.out 2; have hfz18_0 := blk_frozen BK361.out 0; have hfz18_1 := blk_frozen BK361.out 1; have hfz18_2 := blk_frozen BK361.out 2; obtain ⟨Ao19, co19, eo19⟩ := Kd.R_slice HO_362000.out; subst eo19; have hcz20_0 : w13.cell? ⟨gb360, 0, none⟩ = some (.slice none 0 0) := bc BK360.out 0; have hcz20_1 : w13.cell? ⟨gb360, 1, none⟩ = some (.string x361001_1) := bc BK360.out 1; have hcz20_2 : w13.cell? ⟨gb360, 2, none⟩ = some (.int .i64 x361002_1) := bc BK360.out 2; have hfz20_0 := blk_frozen BK360.out 0; have hfz20_1 := blk_frozen BK360.out 1; have hfz20_2 := blk_frozen BK360.out 2))
     refine bodyPost_ret (results_cell_row rfl _ _ gb360 35 #[.slice Ao19 x362000_1.length co19, .string x2_1, .int .i64 0] (0, 0) _ rfl (by refine pk ?_; refine blk_put (cs := #[.slice Ao19 x362000_1.length co19, .string x2_1, .int .i64 x361002_1]) ?_ 2 _ rfl; refine pk ?_; refine blk_put (cs := #[.slice Ao19 x362000_1.length co19, .string x361001_1, .int .i64 x361002_1]) ?_ 1 _ rfl; refine pk ?_; refine blk_put (cs := #[.slice none 0 0, .string x361001_1, .int .i64 x361002_1]) ?_ 0 _ rfl; refine pk ?_; refine blk_far ?_ NB360_361.out _; refine pk ?_; refine blk_far ?_ NB360_365.out _; refine pk ?_; refine blk_far ?_ NB360_365.out _; refine pk ?_; refine blk_far ?_ NB360_365.out _; refine pk ?_; exact BK360.out) Try.underlying35 rfl (by kernel_rfl)) rfl ?_
     exact ⟨_, by first | rfl | (simp [errW_none, errW_some] <;> rfl) | (simp [*, errW_none, errW_some] <;> rfl), kr (Kd.R_mono (Kd.R_far (p := ⟨gb360, 2, none⟩) (Kd.R_far (p := ⟨gb360, 1, none⟩) (Kd.R_far (p := ⟨gb360, 0, none⟩) (Kd.R_far (p := ⟨gb361, 1, none⟩) (Kd.R_far (p := ⟨gb365, 2, none⟩) (Kd.R_far (p := ⟨gb365, 1, none⟩) (Kd.R_far (p := ⟨gb365, 0, none⟩) (Kd.R_types (Kd.R_types (Kd.R_types HO_362000.out BK365.out (by decide)) BK361.out (by decide)) BK360.out (by decide)) (fun _ hk => hk.1.1.2) (.int .i64 t362)) (fun _ hk => hk.1.1.2) (.string t363)) (fun _ hk => hk.1.1.2) (.int .i64 t364)) (fun _ hk => hk.1.2) (.string x2_1)) (fun _ hk => hk.2) (.slice Ao19 x362000_1.length co19)) (fun _ hk => hk.2) (.string x2_1)) (fun _ hk => hk.2) (.int .i64 0)) (fun _ hk => trivial)), by repeat (first | (with_reducible first | exact HB.out | apply below_alloc | apply pw_below_drewN | apply below_drew1 | refine below_set ?_ GE360.out | refine below_set ?_ GE361.out | refine below_set ?_ GE365.out) | exact HB.out)⟩
    ·rw [if_neg c11] at H
     have c11b0 : (t362 == 2) = false := beq_eq_false_iff_ne.mpr c11
     have c11b1 : (t362 != 2) = true := bne_iff_ne.mpr c11
     by_cases c21 : t362 = 3
     ·rw [if_pos c21] at H
      have c21b0 : (t362 == 3) = true := beq_iff_eq.mpr c21
      have c21b1 : (t362 != 3) = false := bne_eq_false_iff_eq.mpr c21
      clear c21
      by_cases c22 : 0 ≤ t364
      ·rw [if_pos c22] at H
       have c22b0 := eq_true c22
       have c22b1 : decide (0 ≤ t364) = true := decide_eq_true c22
       clear c22
       by_cases c23 : t364 ≤ (x2_1.size : Int)
       ·rw [if_pos c23] at H
        have c23b0 := eq_true c23
        have c23b1 : decide (t364 ≤ (x2_1.size : Int)) = true := decide_eq_true c23
        clear c23
        by_cases c24 : x362000_1.length < 4398046511104
        ·rw [if_pos c24] at H
         have LMc24 := Aside0.mk c24
         clear c24
         obtain ⟨y366, hy366⟩ : ∃ y_ : List (S38), y_ = (x362000_1 ++ [(⟨t363, x2_1.extract 0 (t364 : Int).toNat⟩ : S38)]) := ⟨_, rfl⟩
         replace H : (spec_l07Feed.l0 k1 l0 a1 (x2_1.extract (t364 : Int).toNat x2_1.size) a3 y366 x362001_1 0) = some (r1, r2, r3) := by first | (rw [hy366]; with_reducible exact H) | (have H2_ := (Option.bind_some _ _).symm.trans H; rw [hy366]; with_reducible exact H2_) | (have H2_ := (Option.bind_some _ _).symm.trans H; with_reducible exact H2_) | with_reducible exact H | (rw [hy366]; exact H) | exact H
         have Ny366 := am hy366
         clear hy366
         have c25b0 := eq_true (of_decide_eq_true (by first | (with_reducible assumption) | assumption) : 0 ≤ t364)
         have c26b0 := eq_true (of_decide_eq_true (by first | (with_reducible assumption) | assumption) : t364 ≤ (x2_1.size : Int))
         have H' := Aside0.mk H
         clear H
         try go_wp2_with (first | ((with_reducible refine gate_callee (f := 48) rfl ?_); refine gl (some 20) Try.func48 #[.slice A0 l0.length c0, .int .i64 a1, .string x2_1, .bool a3] ?_; (with_reducible refine (spec_l07Look.calls k1 _ _ l0 a1 x2_1 a3 t362 t363 t364 _ ?side1 ?side2 A10.out).mono ?_); (case side1 => repeat (first | exact (Kd.C_below HR0.out HB.out) | (with_reducible refine Kd.C_alloc ?_ _) | (with_reducible refine Kd.C_drewN ?_ _) | (with_reducible refine Kd.C_drew ?_))); (case side2 => exact HC0.out); rintro e w27 ⟨rfl, hb⟩; refine ⟨_, rfl, ?_⟩; replace HO_362000 := am (Kd.R_below (kr HO_362000.out) hb); replace BK360 := am (blk_below (pk BK360.out) hb); replace BK361 := am (blk_below (pk BK361.out) hb); replace HB := am (below_step (bl HB.out) hb); (try clear hb); (try clear hb2); (try clear hk); (try clear hi)) | ((with_reducible refine gate_dst (N := 10) rfl ?_); refine box_event ?hg (N := 10) ?hd (cs := #[.int .i64 0, .string (⟨#[]⟩ : ByteArray), .int .i64 0]) (t := 79) ?hr ?_; (case hd => rfl); (case hg => rfl); (case hr => first | (go_simp; done) | (go_simp; rfl)); intro gb365 hg w28 hbox hb; replace HO_362000 := am (Kd.R_below (kr HO_362000.out) hb); have BK365 := am (hbox); have GW365 := am ((by rw [hg]; exact (below_size (bl HB.out)) : w.heap.size ≤ gb365)); have GE365 := GW365; replace HB := am (below_step (bl HB.out) hb); have NB360_365 := am ((by rw [hg]; exact Nat.ne_of_lt (blk_lt (pk BK360.out)) : gb360 ≠ gb365)); have NB365_360 := am ((by rw [hg]; exact Nat.ne_of_gt (blk_lt (pk BK360.out)) : gb365 ≠ gb360)); replace BK360 := am (blk_below (pk BK360.out) hb); have NB361_365 := am ((by rw [hg]; exact Nat.ne_of_lt (blk_lt (pk BK361.out)) : gb361 ≠ gb365)); have NB365_361 := am ((by rw [hg]; exact Nat.ne_of_gt (blk_lt (pk BK361.out)) : gb365 ≠ gb361)); replace BK361 := am (blk_below (pk BK361.out) hb); clear hb hbox hg; have hnb29 := NB365_360.out; have hnc29 := NB360_365.out; have hnb30 := NB365_361.out; have hnc30 := NB361_365.out; have hcz31_0 : w28.cell? ⟨gb365, 0, none⟩ = some (.int .i64 0) := bc BK365.out 0; have hcz31_1 : w28.cell? ⟨gb365, 1, none⟩ = some (.string (⟨#[]⟩ : ByteArray)) := bc BK365.out 1; have hcz31_2 : w28.cell? ⟨gb365, 2, none⟩ = some (.int .i64 0) := bc BK365.out 2; have hfz31_0 := blk_frozen BK365.out 0; have hfz31_1 := blk_frozen BK365.out 1; have hfz31_2 := blk_frozen BK365.out 2))
         have n0_ : Aside0 (Kd.R k38 38 (((w28.setCell ⟨gb365, 0, none⟩ (.int .i64 t362)).setCell ⟨gb365, 1, none⟩ (.string t363)).setCell ⟨gb365, 2, none⟩ (.int .i64 t364)) w.heap.size (fun _ => True) u362000 x362000_1) := ⟨kr (Kd.R_mono (Kd.R_far (p := ⟨gb365, 2, none⟩) (Kd.R_far (p := ⟨gb365, 1, none⟩) (Kd.R_far (p := ⟨gb365, 0, none⟩) (Kd.R_types HO_362000.out BK365.out (by decide)) (fun _ hk => hk.2) (.int .i64 t362)) (fun _ hk => hk.2) (.string t363)) (fun _ hk => hk.2) (.int .i64 t364)) (fun _ hk => trivial))⟩
         have n1_ : Aside0 ((((w28.setCell ⟨gb365, 0, none⟩ (.int .i64 t362)).setCell ⟨gb365, 1, none⟩ (.string t363)).setCell ⟨gb365, 2, none⟩ (.int .i64 t364)).heap[gb360]? = some (.cells #[.slice none 0 0, .string x361001_1, .int .i64 x361002_1] 35 (0, 0))) := ⟨by refine pk ?_; refine blk_far ?_ NB360_365.out _; refine pk ?_; refine blk_far ?_ NB360_365.out _; refine pk ?_; refine blk_far ?_ NB360_365.out _; refine pk ?_; exact BK360.out⟩
         have n2_ : Aside0 ((((w28.setCell ⟨gb365, 0, none⟩ (.int .i64 t362)).setCell ⟨gb365, 1, none⟩ (.string t363)).setCell ⟨gb365, 2, none⟩ (.int .i64 t364)).heap[gb361]? = some (.cells #[u362000, .string x362001_1, .int .i64 0] 35 (0, 0))) := ⟨by refine pk ?_; refine blk_far ?_ NB361_365.out _; refine pk ?_; refine blk_far ?_ NB361_365.out _; refine pk ?_; refine blk_far ?_ NB361_365.out _; refine pk ?_; exact BK361.out⟩
         have n3_ : Aside0 ((((w28.setCell ⟨gb365, 0, none⟩ (.int .i64 t362)).setCell ⟨gb365, 1, none⟩ (.string t363)).setCell ⟨gb365, 2, none⟩ (.int .i64 t364)).heap[gb365]? = some (.cells #[.int .i64 t362, .string t363, .int .i64 t364] 79 (0, 0))) := ⟨by refine pk ?_; refine blk_put (cs := #[.int .i64 t362, .string t363, .int .i64 0]) ?_ 2 _ rfl; refine pk ?_; refine blk_put (cs := #[.int .i64 t362, .string (⟨#[]⟩ : ByteArray), .int .i64 0]) ?_ 1 _ rfl; refine pk ?_; refine blk_put (cs := #[.int .i64 0, .string (⟨#[]⟩ : ByteArray), .int .i64 0]) ?_ 0 _ rfl; refine pk ?_; exact BK365.out⟩
         have n4_ : Aside0 (Below w.heap.size w (((w28.setCell ⟨gb365, 0, none⟩ (.int .i64 t362)).setCell ⟨gb365, 1, none⟩ (.string t363)).setCell ⟨gb365, 2, none⟩ (.int .i64 t364))) := ⟨by repeat (first | (with_reducible first | exact HB.out | apply below_alloc | apply pw_below_drewN | apply below_drew1 | refine below_set ?_ GE360.out | refine below_set ?_ GE361.out | refine below_set ?_ GE365.out) | exact HB.out)⟩
         (try clear HO_362000)
         (try clear BK360)
         (try clear BK361)
         (try clear BK365)
         (try clear HB)
         generalize (((w28.setCell ⟨gb365, 0, none⟩ (.int .i64 t362)).setCell ⟨gb365, 1, none⟩ (.string t363)).setCell ⟨gb365, 2, none⟩ (.int .i64 t364)) = w32 at n0_ n1_ n2_ n3_ n4_ ⊢
         have HO_362000 := n0_
         have BK360 := n1_
         have BK361 := n2_
         have BK365 := n3_
         have HB := n4_
         clear n0_ n1_ n2_ n3_ n4_
         replace HO_362000 := am (Kd.R_drew HO_362000.out)
         replace BK360 := am (blk_drew BK360.out)
         replace BK361 := am (blk_drew BK361.out)
         replace BK365 := am (blk_drew BK365.out)
         replace HB := am (below_drew1 HB.out)
         refine start_ (n := 12) (S := fun w' => w'.cell? ⟨gb361, 0, none⟩ = some (u362000) ∧ w'.cell? ⟨gb361, 1, none⟩ = some (.string x362001_1) ∧ w'.cell? ⟨gb361, 2, none⟩ = some (.int .i64 0) ∧ w'.cell? ⟨gb365, 0, none⟩ = some (.int .i64 t362) ∧ w'.cell? ⟨gb365, 1, none⟩ = some (.string t363) ∧ w'.cell? ⟨gb365, 2, none⟩ = some (.int .i64 t364)) (ds := [11]) b34_0 (by kernel_rfl) rfl rfl ⟨bc BK361.out 0, bc BK361.out 1, bc BK361.out 2, bc BK365.out 0, bc BK365.out 1, bc BK365.out 2⟩ (fun hHeld => ?_); refine with_tabW spec_l07Feed.tab10 spec_l07Feed.bits10 (fun HT_ HW_ => ?_)
         generalize w32.drew = w33 at HO_362000 BK360 BK361 BK365 HB hHeld ⊢
         refine pu_ 0 (some 32) ?_ b34_1 rfl rfl HT_.out (by kernel_rfl) (fun _ _ _ h => h) (Or.inl ⟨by rfl, ?_⟩) ?_ ?_ ?_; rotate_left
         ·intro w'; go_simp; with_reducible rfl
         rotate_left
         ·simp only [Act.put, sa_, s0_, ss_, i64_w, i32_w]; rfl
         refine pu_ 2 (some 34) ?_ b34_2 rfl rfl HT_.out (by kernel_rfl) (fun _ _ _ h => h) (Or.inl ⟨by rfl, ?_⟩) ?_ ?_ ?_; rotate_left
         ·intro w'; go_simp; with_reducible rfl
         rotate_left
         ·simp only [Act.put, sa_, s0_, ss_, i64_w, i32_w]; rfl
         refine pu_ 4 (some 36) ?_ b34_3 rfl rfl HT_.out (by kernel_rfl) (fun _ _ _ h => h) (Or.inl ⟨by rfl, ?_⟩) ?_ ?_ ?_; rotate_left
         ·intro w'; go_simp; with_reducible rfl
         rotate_left
         ·simp only [Act.put, sa_, s0_, ss_, i64_w, i32_w]; rfl
         refine pu_ 5 (some 37) ?_ b34_4 rfl rfl HT_.out (by kernel_rfl) (fun _ _ _ h => h) (Or.inl ⟨by rfl, ?_⟩) ?_ ?_ ?_; rotate_left
         ·intro w'; go_simp; with_reducible rfl
         rotate_left
         ·simp only [Act.put, sa_, s0_, ss_, i64_w, i32_w]; rfl
         refine pu_ 6 (some 38) ?_ b34_5 rfl rfl HT_.out (by kernel_rfl) (fun _ _ _ h => h) (Or.inl ⟨by rfl, ?_⟩) ?_ ?_ ?_; rotate_left
         ·intro w'; go_simp; with_reducible rfl
         rotate_left
         ·simp only [Act.put, sa_, s0_, ss_, i64_w, i32_w]; rfl
         refine tk_ 1 (some 33) ?_ b34_6 rfl rfl HT_.out HW_.out (by kernel_rfl) (fun _ _ _ h => h) (Or.inl ⟨by rfl, ?_⟩) hHeld ?_ ?_ ?_; rotate_left
         ·rintro w' ⟨s0, s1, s2, s3, s4, s5⟩; go_simp; with_reducible rfl
         rotate_left
         ·simp only [Act.put, sa_, s0_, ss_, i64_w, i32_w]; rfl
         refine tk_ 3 (some 35) ?_ b34_7 rfl rfl HT_.out HW_.out (by kernel_rfl) (fun _ _ _ h => h) (Or.inl ⟨by rfl, ?_⟩) hHeld ?_ ?_ ?_; rotate_left
         ·rintro w' ⟨s0, s1, s2, s3, s4, s5⟩; go_simp; with_reducible rfl
         rotate_left
         ·simp only [Act.put, sa_, s0_, ss_, i64_w, i32_w]; rfl
         refine pu_ 7 (some 39) ?_ b34_8 rfl rfl HT_.out (by kernel_rfl) (fun _ _ _ h => h) (Or.inl ⟨by rfl, ?_⟩) ?_ ?_ ?_; rotate_left
         ·intro w'; go_simp; with_reducible rfl
         rotate_left
         ·simp only [Act.put, sa_, s0_, ss_, i64_w, i32_w]; rfl
         refine one_ (i := 8) (N := some 40) b34_9 rfl rfl (one_of HT_.out (by kernel_rfl)) (by decide) (fun K hK => ?_)
         refine value_ (w1 := ?_) (v := ?_) (by rfl) rfl ?_ ?_
         rotate_left 2
         ·go_simp
          constructor
          ·rfl
          ·rfl
         refine hK.out _ _ ⟨(blk_cell (blk_alloc BK361.out _) 0).trans rfl, (blk_cell (blk_alloc BK361.out _) 1).trans rfl, (blk_cell (blk_alloc BK361.out _) 2).trans rfl, (blk_cell (blk_alloc BK365.out _) 0).trans rfl, (blk_cell (blk_alloc BK365.out _) 1).trans rfl, (blk_cell (blk_alloc BK365.out _) 2).trans rfl⟩ (fun hHeld => ?_)
         clear hK K
         refine norm_ (a' := ?_) ?_ ?_
         rotate_left
         ·show Act.put _ (some 40) _ = _
          simp only [Act.put, sa_, s0_, ss_, i64_w, i32_w]
          rfl
         refine one_ (i := 9) (N := some 41) b34_10 rfl rfl (one_of HT_.out (by kernel_rfl)) (by decide) (fun K hK => ?_)
         refine Kd.R_append_step k38 (w0 := w) w.heap.size (by rfl) (.tmp 33) (.tmp 40) 33 38 (.agg #[(.string ⟨#[]⟩), (.string ⟨#[]⟩)]) 32 rfl Try.underlying33 info38 rfl (by decide) (by omega) u362000 x362000_1 (⟨t363, x2_1.extract 0 (t364 : Int).toNat⟩ : S38) [.string t363, .string (x2_1.extract 0 (t364 : Int).toNat)] (fun _ => True) (fun _ => False) rfl rfl ?aP (fun _ hk => hk.elim) ?aF ?aO ?aB ?aS ?aL ?_
         (case aP => exact k38_mkM _ _ _ (⟨t363, x2_1.extract 0 (t364 : Int).toNat⟩ : S38))
         (case aB => exact (bl HB.out))
         (case aF => exact (fun _ _ => trivial))
         (case aO => exact (kr HO_362000.out))
         (case aS => exact (below_size (bl HB.out)))
         (case aL => have := LMc24.out; omega)
         intro v367 w34 ho hb hg hat
         rw [← Ny366.out] at ho
         replace BK360 := am (blk_grown (g := gb360) (o := .cells #[.slice none 0 0, .string x361001_1, .int .i64 x361002_1] 35 (0, 0)) (pk BK360.out) hg (Kd.R_ne HO_362000.out BK360.out (by decide)))
         replace BK361 := am (blk_grown (g := gb361) (o := .cells #[u362000, .string x362001_1, .int .i64 0] 35 (0, 0)) (pk BK361.out) hg (Kd.R_ne HO_362000.out BK361.out (by decide)))
         replace BK365 := am (blk_grown (g := gb365) (o := .cells #[.int .i64 t362, .string t363, .int .i64 t364] 79 (0, 0)) (pk BK365.out) hg (Kd.R_ne HO_362000.out BK365.out (by decide)))
         replace HB := am (hb)
         have HO368 := am (ho)
         clear HO_362000 ho hb hg hat
         obtain ⟨Ao35, co35, eo35⟩ := Kd.R_slice HO368.out
         (first | subst eo35 | (injection eo35 with f1_ f2_ f3_; have f4_ := f1_.symm; have f5_ := f3_.symm; clear f1_ f2_ f3_; subst f4_; subst f5_))
         refine hK.out _ _ ⟨bc BK361.out 0, bc BK361.out 1, bc BK361.out 2, bc BK365.out 0, bc BK365.out 1, bc BK365.out 2⟩ (fun hHeld => ?_)
         clear hK K
         refine norm_ (a' := ?_) ?_ ?_
         rotate_left
         ·show Act.put _ (some 41) _ = _
          simp only [Act.put, sa_, s0_, ss_, i64_w, i32_w]
          rfl
         refine pu_ 10 (some 42) ?_ b34_11 rfl rfl HT_.out (by kernel_rfl) (fun _ _ _ h => h) (Or.inl ⟨by rfl, ?_⟩) ?_ ?_ ?_; rotate_left
         ·intro w'; go_simp; with_reducible rfl
         rotate_left
         ·simp only [Act.put, sa_, s0_, ss_, i64_w, i32_w]; rfl
         refine last_ (i := 11) (N := none) b34_12 rfl rfl (one_of HT_.out (by kernel_rfl)) (by decide) (fun K hK => ?_)
         have hs36 : w34.cell? ⟨gb361, 0, none⟩ = some (u362000) := bc BK361.out 0
         have hfs36 := blk_frozen BK361.out 0
         have hns36_0 := NB360_361.out
         have hns36_2 := NB365_361.out
         have hms36_0 := NB361_360.out
         have hms36_2 := NB361_365.out
         refine skip_ (w1 := ?_) (by rfl) rfl ?_ ?_
         rotate_left
         ·go_simp
          rfl
         refine hK.out _ _ ?_
         clear hK K
         refine done_ (done_of HT_.out (by kernel_rfl)) ?_
         try go_wp2
         go_roundg k1
         case measure => have := HK1.out; omega
         case rel => exact ⟨(x2_1.extract (t364 : Int).toNat x2_1.size), (x361001_1), (x361002_1), (y366), (x362001_1), (.slice Ao35 y366.length co35), (by first | rfl | (simp; done) | (simp [*]; done)), H', ⟨by have := HK1.out; omega⟩, ⟨kr (Kd.R_mono (Kd.R_far (p := ⟨gb361, 0, none⟩) (Kd.R_types HO368.out BK361.out (by decide)) (fun _ hk => hk.2) (.slice Ao35 y366.length co35)) (fun _ hk => trivial))⟩, ⟨by refine pk ?_; refine blk_far ?_ NB360_361.out _; refine pk ?_; exact BK360.out⟩, ⟨by refine pk ?_; refine blk_put (cs := #[u362000, .string x362001_1, .int .i64 0]) ?_ 0 _ rfl; refine pk ?_; exact BK361.out⟩, ⟨by repeat (first | (with_reducible first | exact HB.out | apply below_alloc | apply pw_below_drewN | apply below_drew1 | refine below_set ?_ GE360.out | refine below_set ?_ GE361.out | refine below_set ?_ GE365.out) | exact HB.out)⟩⟩
        ·rw [if_neg c24] at H
         exact absurd H (by simp)
       ·rw [if_neg c23] at H
        exact absurd H (by simp)
      ·rw [if_neg c22] at H
       exact absurd H (by simp)
     ·rw [if_neg c21] at H
      have c21b0 : (t362 == 3) = false := beq_eq_false_iff_ne.mpr c21
      have c21b1 : (t362 != 3) = true := bne_iff_ne.mpr c21
      by_cases c37 : 0 ≤ 1
      ·rw [if_pos c37] at H
       have c37b0 := eq_true c37
       have c37b1 : decide (0 ≤ 1) = true := decide_eq_true c37
       clear c37
       by_cases c38 : 1 ≤ (x2_1.size : Int)
       ·rw [if_pos c38] at H
        have c38b0 := eq_true c38
        have c38b1 : decide (1 ≤ (x2_1.size : Int)) = true := decide_eq_true c38
        clear c38
        by_cases c39 : x362000_1.length < 4398046511104
        ·rw [if_pos c39] at H
         have LMc39 := Aside0.mk c39
         clear c39
         obtain ⟨y369, hy369⟩ : ∃ y_ : List (S38), y_ = (x362000_1 ++ [(⟨t363, x2_1.extract 0 1⟩ : S38)]) := ⟨_, rfl⟩
         replace H : (spec_l07Feed.l0 k1 l0 a1 (x2_1.extract 1 x2_1.size) a3 y369 x362001_1 0) = some (r1, r2, r3) := by first | (rw [hy369]; with_reducible exact H) | (have H2_ := (Option.bind_some _ _).symm.trans H; rw [hy369]; with_reducible exact H2_) | (have H2_ := (Option.bind_some _ _).symm.trans H; with_reducible exact H2_) | with_reducible exact H | (rw [hy369]; exact H) | exact H
         have Ny369 := am hy369
         clear hy369
         have c40b0 := eq_true (of_decide_eq_true (by first | (with_reducible assumption) | assumption) : 1 ≤ (x2_1.size : Int))
         have H' := Aside0.mk H
         clear H
         try go_wp2_with (first | ((with_reducible refine gate_callee (f := 48) rfl ?_); refine gl (some 20) Try.func48 #[.slice A0 l0.length c0, .int .i64 a1, .string x2_1, .bool a3] ?_; (with_reducible refine (spec_l07Look.calls k1 _ _ l0 a1 x2_1 a3 t362 t363 t364 _ ?side1 ?side2 A10.out).mono ?_); (case side1 => repeat (first | exact (Kd.C_below HR0.out HB.out) | (with_reducible refine Kd.C_alloc ?_ _) | (with_reducible refine Kd.C_drewN ?_ _) | (with_reducible refine Kd.C_drew ?_))); (case side2 => exact HC0.out); rintro e w41 ⟨rfl, hb⟩; refine ⟨_, rfl, ?_⟩; replace HO_362000 := am (Kd.R_below (kr HO_362000.out) hb); replace BK360 := am (blk_below (pk BK360.out) hb); replace BK361 := am (blk_below (pk BK361.out) hb); replace HB := am (below_step (bl HB.out) hb); (try clear hb); (try clear hb2); (try clear hk); (try clear hi)) | ((with_reducible refine gate_dst (N := 10) rfl ?_); refine box_event ?hg (N := 10) ?hd (cs := #[.int .i64 0, .string (⟨#[]⟩ : ByteArray), .int .i64 0]) (t := 79) ?hr ?_; (case hd => rfl); (case hg => rfl); (case hr => first | (go_simp; done) | (go_simp; rfl)); intro gb365 hg w42 hbox hb; replace HO_362000 := am (Kd.R_below (kr HO_362000.out) hb); have BK365 := am (hbox); have GW365 := am ((by rw [hg]; exact (below_size (bl HB.out)) : w.heap.size ≤ gb365)); have GE365 := GW365; replace HB := am (below_step (bl HB.out) hb); have NB360_365 := am ((by rw [hg]; exact Nat.ne_of_lt (blk_lt (pk BK360.out)) : gb360 ≠ gb365)); have NB365_360 := am ((by rw [hg]; exact Nat.ne_of_gt (blk_lt (pk BK360.out)) : gb365 ≠ gb360)); replace BK360 := am (blk_below (pk BK360.out) hb); have NB361_365 := am ((by rw [hg]; exact Nat.ne_of_lt (blk_lt (pk BK361.out)) : gb361 ≠ gb365)); have NB365_361 := am ((by rw [hg]; exact Nat.ne_of_gt (blk_lt (pk BK361.out)) : gb365 ≠ gb361)); replace BK361 := am (blk_below (pk BK361.out) hb); clear hb hbox hg; have hnb43 := NB365_360.out; have hnc43 := NB360_365.out; have hnb44 := NB365_361.out; have hnc44 := NB361_365.out; have hcz45_0 : w42.cell? ⟨gb365, 0, none⟩ = some (.int .i64 0) := bc BK365.out 0; have hcz45_1 : w42.cell? ⟨gb365, 1, none⟩ = some (.string (⟨#[]⟩ : ByteArray)) := bc BK365.out 1; have hcz45_2 : w42.cell? ⟨gb365, 2, none⟩ = some (.int .i64 0) := bc BK365.out 2; have hfz45_0 := blk_frozen BK365.out 0; have hfz45_1 := blk_frozen BK365.out 1; have hfz45_2 := blk_frozen BK365.out 2))
         have n0_ : Aside0 (Kd.R k38 38 (((w42.setCell ⟨gb365, 0, none⟩ (.int .i64 t362)).setCell ⟨gb365, 1, none⟩ (.string t363)).setCell ⟨gb365, 2, none⟩ (.int .i64 t364)) w.heap.size (fun _ => True) u362000 x362000_1) := ⟨kr (Kd.R_mono (Kd.R_far (p := ⟨gb365, 2, none⟩) (Kd.R_far (p := ⟨gb365, 1, none⟩) (Kd.R_far (p := ⟨gb365, 0, none⟩) (Kd.R_types HO_362000.out BK365.out (by decide)) (fun _ hk => hk.2) (.int .i64 t362)) (fun _ hk => hk.2) (.string t363)) (fun _ hk => hk.2) (.int .i64 t364)) (fun _ hk => trivial))⟩
         have n1_ : Aside0 ((((w42.setCell ⟨gb365, 0, none⟩ (.int .i64 t362)).setCell ⟨gb365, 1, none⟩ (.string t363)).setCell ⟨gb365, 2, none⟩ (.int .i64 t364)).heap[gb360]? = some (.cells #[.slice none 0 0, .string x361001_1, .int .i64 x361002_1] 35 (0, 0))) := ⟨by refine pk ?_; refine blk_far ?_ NB360_365.out _; refine pk ?_; refine blk_far ?_ NB360_365.out _; refine pk ?_; refine blk_far ?_ NB360_365.out _; refine pk ?_; exact BK360.out⟩
         have n2_ : Aside0 ((((w42.setCell ⟨gb365, 0, none⟩ (.int .i64 t362)).setCell ⟨gb365, 1, none⟩ (.string t363)).setCell ⟨gb365, 2, none⟩ (.int .i64 t364)).heap[gb361]? = some (.cells #[u362000, .string x362001_1, .int .i64 0] 35 (0, 0))) := ⟨by refine pk ?_; refine blk_far ?_ NB361_365.out _; refine pk ?_; refine blk_far ?_ NB361_365.out _; refine pk ?_; refine blk_far ?_ NB361_365.out _; refine pk ?_; exact BK361.out⟩
         have n3_ : Aside0 ((((w42.setCell ⟨gb365, 0, none⟩ (.int .i64 t362)).setCell ⟨gb365, 1, none⟩ (.string t363)).setCell ⟨gb365, 2, none⟩ (.int .i64 t364)).heap[gb365]? = some (.cells #[.int .i64 t362, .string t363, .int .i64 t364] 79 (0, 0))) := ⟨by refine pk ?_; refine blk_put (cs := #[.int .i64 t362, .string t363, .int .i64 0]) ?_ 2 _ rfl; refine pk ?_; refine blk_put (cs := #[.int .i64 t362, .string (⟨#[]⟩ : ByteArray), .int .i64 0]) ?_ 1 _ rfl; refine pk ?_; refine blk_put (cs := #[.int .i64 0, .string (⟨#[]⟩ : ByteArray), .int .i64 0]) ?_ 0 _ rfl; refine pk ?_; exact BK365.out⟩
         have n4_ : Aside0 (Below w.heap.size w (((w42.setCell ⟨gb365, 0, none⟩ (.int .i64 t362)).setCell ⟨gb365, 1, none⟩ (.string t363)).setCell ⟨gb365, 2, none⟩ (.int .i64 t364))) := ⟨by repeat (first | (with_reducible first | exact HB.out | apply below_alloc | apply pw_below_drewN | apply below_drew1 | refine below_set ?_ GE360.out | refine below_set ?_ GE361.out | refine below_set ?_ GE365.out) | exact HB.out)⟩
         (try clear HO_362000)
         (try clear BK360)
         (try clear BK361)
         (try clear BK365)
         (try clear HB)
         generalize (((w42.setCell ⟨gb365, 0, none⟩ (.int .i64 t362)).setCell ⟨gb365, 1, none⟩ (.string t363)).setCell ⟨gb365, 2, none⟩ (.int .i64 t364)) = w46 at n0_ n1_ n2_ n3_ n4_ ⊢
         have HO_362000 := n0_
         have BK360 := n1_
         have BK361 := n2_
         have BK365 := n3_
         have HB := n4_
         clear n0_ n1_ n2_ n3_ n4_
         replace HO_362000 := am (Kd.R_drew HO_362000.out)
         replace BK360 := am (blk_drew BK360.out)
         replace BK361 := am (blk_drew BK361.out)
         replace BK365 := am (blk_drew BK365.out)
         replace HB := am (below_drew1 HB.out)
         refine start_ (n := 12) (S := fun w' => w'.cell? ⟨gb361, 0, none⟩ = some (u362000) ∧ w'.cell? ⟨gb361, 1, none⟩ = some (.string x362001_1) ∧ w'.cell? ⟨gb361, 2, none⟩ = some (.int .i64 0) ∧ w'.cell? ⟨gb365, 0, none⟩ = some (.int .i64 t362) ∧ w'.cell? ⟨gb365, 1, none⟩ = some (.string t363) ∧ w'.cell? ⟨gb365, 2, none⟩ = some (.int .i64 t364)) (ds := [11]) b34_0 (by kernel_rfl) rfl rfl ⟨bc BK361.out 0, bc BK361.out 1, bc BK361.out 2, bc BK365.out 0, bc BK365.out 1, bc BK365.out 2⟩ (fun hHeld => ?_); refine with_tabW spec_l07Feed.tab10 spec_l07Feed.bits10 (fun HT_ HW_ => ?_)
         generalize w46.drew = w47 at HO_362000 BK360 BK361 BK365 HB hHeld ⊢
         refine pu_ 0 (some 32) ?_ b34_1 rfl rfl HT_.out (by kernel_rfl) (fun _ _ _ h => h) (Or.inl ⟨by rfl, ?_⟩) ?_ ?_ ?_; rotate_left
         ·intro w'; go_simp; with_reducible rfl
         rotate_left
         ·simp only [Act.put, sa_, s0_, ss_, i64_w, i32_w]; rfl
         refine pu_ 2 (some 34) ?_ b34_2 rfl rfl HT_.out (by kernel_rfl) (fun _ _ _ h => h) (Or.inl ⟨by rfl, ?_⟩) ?_ ?_ ?_; rotate_left
         ·intro w'; go_simp; with_reducible rfl
         rotate_left
         ·simp only [Act.put, sa_, s0_, ss_, i64_w, i32_w]; rfl
         refine pu_ 4 (some 36) ?_ b34_3 rfl rfl HT_.out (by kernel_rfl) (fun _ _ _ h => h) (Or.inl ⟨by rfl, ?_⟩) ?_ ?_ ?_; rotate_left
         ·intro w'; go_simp; with_reducible rfl
         rotate_left
         ·simp only [Act.put, sa_, s0_, ss_, i64_w, i32_w]; rfl
         refine pu_ 5 (some 37) ?_ b34_4 rfl rfl HT_.out (by kernel_rfl) (fun _ _ _ h => h) (Or.inl ⟨by rfl, ?_⟩) ?_ ?_ ?_; rotate_left
         ·intro w'; go_simp; with_reducible rfl
         rotate_left
         ·simp only [Act.put, sa_, s0_, ss_, i64_w, i32_w]; rfl
         refine pu_ 6 (some 38) ?_ b34_5 rfl rfl HT_.out (by kernel_rfl) (fun _ _ _ h => h) (Or.inl ⟨by rfl, ?_⟩) ?_ ?_ ?_; rotate_left
         ·intro w'; go_simp; with_reducible rfl
         rotate_left
         ·simp only [Act.put, sa_, s0_, ss_, i64_w, i32_w]; rfl
         refine tk_ 1 (some 33) ?_ b34_6 rfl rfl HT_.out HW_.out (by kernel_rfl) (fun _ _ _ h => h) (Or.inl ⟨by rfl, ?_⟩) hHeld ?_ ?_ ?_; rotate_left
         ·rintro w' ⟨s0, s1, s2, s3, s4, s5⟩; go_simp; with_reducible rfl
         rotate_left
         ·simp only [Act.put, sa_, s0_, ss_, i64_w, i32_w]; rfl
         refine tk_ 3 (some 35) ?_ b34_7 rfl rfl HT_.out HW_.out (by kernel_rfl) (fun _ _ _ h => h) (Or.inl ⟨by rfl, ?_⟩) hHeld ?_ ?_ ?_; rotate_left
         ·rintro w' ⟨s0, s1, s2, s3, s4, s5⟩; go_simp; with_reducible rfl
         rotate_left
         ·simp only [Act.put, sa_, s0_, ss_, i64_w, i32_w]; rfl
         refine pu_ 7 (some 39) ?_ b34_8 rfl rfl HT_.out (by kernel_rfl) (fun _ _ _ h => h) (Or.inl ⟨by rfl, ?_⟩) ?_ ?_ ?_; rotate_left
         ·intro w'; go_simp; with_reducible rfl
         rotate_left
         ·simp only [Act.put, sa_, s0_, ss_, i64_w, i32_w]; rfl
         refine one_ (i := 8) (N := some 40) b34_9 rfl rfl (one_of HT_.out (by kernel_rfl)) (by decide) (fun K hK => ?_)
         refine value_ (w1 := ?_) (v := ?_) (by rfl) rfl ?_ ?_
         rotate_left 2
         ·go_simp
          constructor
          ·rfl
          ·rfl
         refine hK.out _ _ ⟨(blk_cell (blk_alloc BK361.out _) 0).trans rfl, (blk_cell (blk_alloc BK361.out _) 1).trans rfl, (blk_cell (blk_alloc BK361.out _) 2).trans rfl, (blk_cell (blk_alloc BK365.out _) 0).trans rfl, (blk_cell (blk_alloc BK365.out _) 1).trans rfl, (blk_cell (blk_alloc BK365.out _) 2).trans rfl⟩ (fun hHeld => ?_)
         clear hK K
         refine norm_ (a' := ?_) ?_ ?_
         rotate_left
         ·show Act.put _ (some 40) _ = _
          simp only [Act.put, sa_, s0_, ss_, i64_w, i32_w]
          rfl
         refine one_ (i := 9) (N := some 41) b34_10 rfl rfl (one_of HT_.out (by kernel_rfl)) (by decide) (fun K hK => ?_)
         refine Kd.R_append_step k38 (w0 := w) w.heap.size (by rfl) (.tmp 33) (.tmp 40) 33 38 (.agg #[(.string ⟨#[]⟩), (.string ⟨#[]⟩)]) 32 rfl Try.underlying33 info38 rfl (by decide) (by omega) u362000 x362000_1 (⟨t363, x2_1.extract 0 1⟩ : S38) [.string t363, .string (x2_1.extract 0 1)] (fun _ => True) (fun _ => False) rfl rfl ?aP (fun _ hk => hk.elim) ?aF ?aO ?aB ?aS ?aL ?_
         (case aP => exact k38_mkM _ _ _ (⟨t363, x2_1.extract 0 1⟩ : S38))
         (case aB => exact (bl HB.out))
         (case aF => exact (fun _ _ => trivial))
         (case aO => exact (kr HO_362000.out))
         (case aS => exact (below_size (bl HB.out)))
         (case aL => have := LMc39.out; omega)
         intro v370 w48 ho hb hg hat
         rw [← Ny369.out] at ho
         replace BK360 := am (blk_grown (g := gb360) (o := .cells #[.slice none 0 0, .string x361001_1, .int .i64 x361002_1] 35 (0, 0)) (pk BK360.out) hg (Kd.R_ne HO_362000.out BK360.out (by decide)))
         replace BK361 := am (blk_grown (g := gb361) (o := .cells #[u362000, .string x362001_1, .int .i64 0] 35 (0, 0)) (pk BK361.out) hg (Kd.R_ne HO_362000.out BK361.out (by decide)))
         replace BK365 := am (blk_grown (g := gb365) (o := .cells #[.int .i64 t362, .string t363, .int .i64 t364] 79 (0, 0)) (pk BK365.out) hg (Kd.R_ne HO_362000.out BK365.out (by decide)))
         replace HB := am (hb)
         have HO371 := am (ho)
         clear HO_362000 ho hb hg hat
         obtain ⟨Ao49, co49, eo49⟩ := Kd.R_slice HO371.out
         (first | subst eo49 | (injection eo49 with f1_ f2_ f3_; have f4_ := f1_.symm; have f5_ := f3_.symm; clear f1_ f2_ f3_; subst f4_; subst f5_))
         refine hK.out _ _ ⟨bc BK361.out 0, bc BK361.out 1, bc BK361.out 2, bc BK365.out 0, bc BK365.out 1, bc BK365.out 2⟩ (fun hHeld => ?_)
         clear hK K
         refine norm_ (a' := ?_) ?_ ?_
         rotate_left
         ·show Act.put _ (some 41) _ = _
          simp only [Act.put, sa_, s0_, ss_, i64_w, i32_w]
          rfl
         refine pu_ 10 (some 42) ?_ b34_11 rfl rfl HT_.out (by kernel_rfl) (fun _ _ _ h => h) (Or.inl ⟨by rfl, ?_⟩) ?_ ?_ ?_; rotate_left
         ·intro w'; go_simp; with_reducible rfl
         rotate_left
         ·simp only [Act.put, sa_, s0_, ss_, i64_w, i32_w]; rfl
         refine last_ (i := 11) (N := none) b34_12 rfl rfl (one_of HT_.out (by kernel_rfl)) (by decide) (fun K hK => ?_)
         have hs50 : w48.cell? ⟨gb361, 0, none⟩ = some (u362000) := bc BK361.out 0
         have hfs50 := blk_frozen BK361.out 0
         have hns50_0 := NB360_361.out
         have hns50_2 := NB365_361.out
         have hms50_0 := NB361_360.out
         have hms50_2 := NB361_365.out
         refine skip_ (w1 := ?_) (by rfl) rfl ?_ ?_
         rotate_left
         ·go_simp
          rfl
         refine hK.out _ _ ?_
         clear hK K
         refine done_ (done_of HT_.out (by kernel_rfl)) ?_
         try go_wp2
         go_roundg k1
         case measure => have := HK1.out; omega
         case rel => exact ⟨(x2_1.extract 1 x2_1.size), (x361001_1), (x361002_1), (y369), (x362001_1), (.slice Ao49 y369.length co49), (by first | rfl | (simp; done) | (simp [*]; done)), H', ⟨by have := HK1.out; omega⟩, ⟨kr (Kd.R_mono (Kd.R_far (p := ⟨gb361, 0, none⟩) (Kd.R_types HO371.out BK361.out (by decide)) (fun _ hk => hk.2) (.slice Ao49 y369.length co49)) (fun _ hk => trivial))⟩, ⟨by refine pk ?_; refine blk_far ?_ NB360_361.out _; refine pk ?_; exact BK360.out⟩, ⟨by refine pk ?_; refine blk_put (cs := #[u362000, .string x362001_1, .int .i64 0]) ?_ 0 _ rfl; refine pk ?_; exact BK361.out⟩, ⟨by repeat (first | (with_reducible first | exact HB.out | apply below_alloc | apply pw_below_drewN | apply below_drew1 | refine below_set ?_ GE360.out | refine below_set ?_ GE361.out | refine below_set ?_ GE365.out) | exact HB.out)⟩⟩
        ·rw [if_neg c39] at H
         exact absurd H (by simp)
       ·rw [if_neg c38] at H
        exact absurd H (by simp)
      ·rw [if_neg c37] at H
       exact absurd H (by simp)
   ·rw [if_neg c9] at H
    have c9b0 : decide (0 < (x2_1.size : Int)) = false := decide_eq_false c9
    have c9b1 : decide (0 < x2_1.size) = false := decide_eq_false (by omega)
    clear c9
    simp only [Option.some.injEq, Prod.mk.injEq] at H
    obtain ⟨rfl, rfl, rfl⟩ := H
    have hnb51 := NB361_360.out
    have hnc51 := NB360_361.out
    have hcz52_0 : wr.cell? ⟨gb361, 0, none⟩ = some (u362000) := bc BK361.out 0
    have hcz52_1 : wr.cell? ⟨gb361, 1, none⟩ = some (.string x362001_1) := bc BK361.out 1
    have hcz52_2 : wr.cell? ⟨gb361, 2, none⟩ = some (.int .i64 0) := bc BK361.out 2
    have hfz52_0 := blk_frozen BK361.out 0
    have hfz52_1 := blk_frozen BK361.out 1
    have hfz52_2 := blk_frozen BK361.out 2
    obtain ⟨Ao53, co53, eo53⟩ := Kd.R_slice HO_362000.out
    subst eo53
    have hcz54_0 : wr.cell? ⟨gb360, 0, none⟩ = some (.slice none 0 0) := bc BK360.out 0
    have hcz54_1 : wr.cell? ⟨gb360, 1, none⟩ = some (.string x361001_1) := bc BK360.out 1
    have hcz54_2 : wr.cell? ⟨gb360, 2, none⟩ = some (.int .i64 x361002_1) := bc BK360.out 2
    have hfz54_0 := blk_frozen BK360.out 0
    have hfz54_1 := blk_frozen BK360.out 1
    have hfz54_2 := blk_frozen BK360.out 2
    go_wp2
    refine bodyPost_ret (results_cell_row rfl _ _ gb360 35 #[.slice Ao53 x362000_1.length co53, .string x362001_1, .int .i64 0] (0, 0) _ rfl (by refine pk ?_; refine blk_put (cs := #[.slice Ao53 x362000_1.length co53, .string x362001_1, .int .i64 x361002_1]) ?_ 2 _ rfl; refine pk ?_; refine blk_put (cs := #[.slice Ao53 x362000_1.length co53, .string x361001_1, .int .i64 x361002_1]) ?_ 1 _ rfl; refine pk ?_; refine blk_put (cs := #[.slice none 0 0, .string x361001_1, .int .i64 x361002_1]) ?_ 0 _ rfl; refine pk ?_; exact BK360.out) Try.underlying35 rfl (by kernel_rfl)) rfl ?_
    exact ⟨_, by first | rfl | (simp [errW_none, errW_some] <;> rfl) | (simp [*, errW_none, errW_some] <;> rfl), kr (Kd.R_mono (Kd.R_far (p := ⟨gb360, 2, none⟩) (Kd.R_far (p := ⟨gb360, 1, none⟩) (Kd.R_far (p := ⟨gb360, 0, none⟩) (Kd.R_types HO_362000.out BK360.out (by decide)) (fun _ hk => hk.2) (.slice Ao53 x362000_1.length co53)) (fun _ hk => hk.2) (.string x362001_1)) (fun _ hk => hk.2) (.int .i64 0)) (fun _ hk => trivial)), by repeat (first | (with_reducible first | exact HB.out | apply below_alloc | apply pw_below_drewN | apply below_drew1 | refine below_set ?_ GE360.out | refine below_set ?_ GE361.out) | exact HB.out)⟩

/-! ### spec_KeyFeed: function 14 -/
def spec_KeyFeed.j0 : Nat → List (S40) → Int → ByteArray → Bool → Bool → Option ((List (S38)) × ByteArray × Int)
 | 0, _, _, _, _, _ => none
 | k + 1, x0, x1, x2, x3, x16 => if x16 = true then (some (([] : List (S38)), (⟨#[]⟩ : ByteArray), 2)) else ((spec_KeysRight.f k x0).bind fun t373 => (if t373 = true then (if x1 < 1 then (some (([] : List (S38)), (⟨#[]⟩ : ByteArray), 1)) else (if x1 > 9 then (some (([] : List (S38)), (⟨#[]⟩ : ByteArray), 1)) else ((spec_l07Feed.f k x0 x1 x2 x3).bind fun bt374 => (some (bt374.1, bt374.2.1, bt374.2.2))))) else (some (([] : List (S38)), (⟨#[]⟩ : ByteArray), 1))))
def spec_KeyFeed.f (k : Nat) (l0 : List (S40)) (a1 : Int) (a2 : ByteArray) (a3 : Bool) : Option ((List (S38)) × ByteArray × Int) := if (l0.length : Int) > 400 then (spec_KeyFeed.j0 k l0 a1 a2 a3 true) else (spec_KeyFeed.j0 k l0 a1 a2 a3 (decide ((a2.size : Int) > 20000)))
theorem spec_KeyFeed.mono_l : ∀ k, (∀ y0 y1 y2 y3 y4, LeO (spec_KeyFeed.j0 k y0 y1 y2 y3 y4) (spec_KeyFeed.j0 (k + 1) y0 y1 y2 y3 y4))
 | 0 => fun _ _ _ _ _ r h => by simp [spec_KeyFeed.j0] at h
 | k + 1 => by
  have ih0 := spec_KeyFeed.mono_l k
  ·intro y0 y1 y2 y3 y4
   unfold spec_KeyFeed.j0
   repeat' first
   | (with_reducible exact ih0 _ _ _ _ _)
   | (with_reducible exact spec_KeysRight.mono _ _)
   | (with_reducible exact spec_l07Feed.mono _ _ _ _ _)
   | (with_reducible exact LeO.refl _)
   | (with_reducible exact LeO.none _)
   | (with_reducible refine LeO.ite ?_ ?_)
   | (with_reducible refine LeO.bind ?_ (fun _ => ?_))
   | exact ih0 _ _ _ _ _
   | exact spec_KeysRight.mono _ _
   | exact spec_l07Feed.mono _ _ _ _ _
   | refine LeO.bind ?_ (fun _ => ?_)
theorem spec_KeyFeed.mono : ∀ a0 a1 a2 a3 k, LeO (spec_KeyFeed.f k a0 a1 a2 a3) (spec_KeyFeed.f (k + 1) a0 a1 a2 a3) := by
 intro a0 a1 a2 a3 k
 have ih0 := spec_KeyFeed.mono_l k
 unfold spec_KeyFeed.f
 repeat' first
   | (with_reducible exact ih0 _ _ _ _ _)
   | (with_reducible exact spec_KeysRight.mono _ _)
   | (with_reducible exact spec_l07Feed.mono _ _ _ _ _)
   | (with_reducible exact LeO.refl _)
   | (with_reducible exact LeO.none _)
   | (with_reducible refine LeO.ite ?_ ?_)
   | (with_reducible refine LeO.bind ?_ (fun _ => ?_))
   | exact ih0 _ _ _ _ _
   | exact spec_KeysRight.mono _ _
   | exact spec_l07Feed.mono _ _ _ _ _
   | refine LeO.bind ?_ (fun _ => ?_)
theorem spec_KeyFeed.calls (k : Nat) (A0 : Option Addr) (c0 : Nat) (l0 : List (S40)) (a1 : Int) (a2 : ByteArray) (a3 : Bool) (r1 : List (S38)) (r2 : ByteArray) (r3 : Int) (w : World) (hr0 : Kd.C k40 w A0 l0.length l0) (hc0 : l0.length ≤ c0) (h : spec_KeyFeed.f k l0 a1 a2 a3 = some (r1, r2, r3)) :
  Calls Try.prog 14 #[.slice A0 l0.length c0, .int .i64 a1, .string a2, .bool a3] w fun e w' => ∃ v0_ : Value, e = .returned (.agg #[v0_, .string r2, .int .i64 r3]) ∧ Kd.R k38 38 w' w.heap.size (fun _ => True) v0_ r1 ∧ Below w.heap.size w w' := by
 have hu35 := Try.underlying35
 have HR0 := am hr0
 have HC0 := am hc0
 clear hr0 hc0
 have HB := am (Below.refl w.heap.size w)
 have H : (if (l0.length : Int) > 400 then (spec_KeyFeed.j0 k l0 a1 a2 a3 true) else (spec_KeyFeed.j0 k l0 a1 a2 a3 (decide ((a2.size : Int) > 20000)))) = some (r1, r2, r3) := h
 clear h
 have HC5 := Aside0.mk H
 clear H
 go_enter Try.func14, Try.ntmps14
 go_upto_region 1 with (first | ((with_reducible refine gate_dst (N := 8) rfl ?_); (try (refine gate_guard (by rfl) ?_; dsimp only)); refine box_event ?hg (N := 8) ?hd (cs := #[.slice none 0 0, .string (⟨#[]⟩ : ByteArray), .int .i64 0]) (t := 35) ?hr ?_; (case hd => rfl); (case hg => rfl); (case hr => first | (go_simp; done) | (go_simp; rfl)); intro gb372 hg w6 hbox hb; have BK372 := am (hbox); have GW372 := am ((by rw [hg]; exact (below_size (bl HB.out)) : w.heap.size ≤ gb372)); have GE372 := GW372; replace HB := am (below_step (bl HB.out) hb); clear hb hbox hg))
 (try simp only [Act.put, sa_, s0_, ss_])
 go_cut [16] (fun v16 wc => ∃ (kq : Nat) (x16_4 : Bool), v16 = .bool x16_4 ∧ Aside0 (spec_KeyFeed.j0 kq l0 a1 a2 a3 x16_4 = some (r1, r2, r3)) ∧ Aside0 (kq ≤ k) ∧ Aside0 (wc.heap[gb372]? = some (.cells #[(.slice none 0 0), .string (⟨#[]⟩ : ByteArray), .int .i64 0] 35 (0, 0))) ∧ Aside0 (Below w.heap.size w wc))
 case first =>
  have H := HC5.out
  clear HC5
  by_cases c7 : (l0.length : Int) > 400
  ·rw [if_pos c7] at H
   have c7b0 : decide (400 < (l0.length : Int)) = true := decide_eq_true c7
   have c7b1 : decide (400 < l0.length) = true := decide_eq_true (by omega)
   clear c7
   (first | rw [c7b0] | (simp only [i64_w, i32_w]; rw [c7b0]) | (have e9_ := c7b0; unfold bne at e9_; rw [e9_]) | skip)
   have H' := Aside0.mk H
   clear H
   go_wp2
   go_meet
   case rel => exact ⟨_, (true), (by first | rfl | (simp; done) | (simp [*]; done)), H', ⟨by first | omega | exact Nat.le_refl _⟩, ⟨pk BK372.out⟩, ⟨by repeat (first | (with_reducible first | exact HB.out | apply below_alloc | apply pw_below_drewN | apply below_drew1 | refine below_set ?_ GE372.out) | exact HB.out)⟩⟩
  ·rw [if_neg c7] at H
   have c7b0 : decide (400 < (l0.length : Int)) = false := decide_eq_false c7
   have c7b1 : decide (400 < l0.length) = false := decide_eq_false (by omega)
   clear c7
   (first | rw [c7b0] | (simp only [i64_w, i32_w]; rw [c7b0]) | (have e9_ := c7b0; unfold bne at e9_; rw [e9_]) | skip)
   have H' := Aside0.mk H
   clear H
   go_wp2
   go_meet
   case rel => exact ⟨_, (decide ((a2.size : Int) > 20000)), (by first | rfl | (simp; done) | (simp [*]; done)), H', ⟨by first | omega | exact Nat.le_refl _⟩, ⟨pk BK372.out⟩, ⟨by repeat (first | (with_reducible first | exact HB.out | apply below_alloc | apply pw_below_drewN | apply below_drew1 | refine below_set ?_ GE372.out) | exact HB.out)⟩⟩
 case rest =>
  clear HC5
  try clear c1
  try clear p2
  try clear c7
  try clear c7b0
  try clear c7b1
  obtain ⟨kq, x16_4, rfl, HA, HJ4, BK372, HB⟩ := hcut
  cases kq with
  | zero => exact absurd HA.out (by simp [spec_KeyFeed.j0])
  | succ kj4 =>
   have H := HA.out
   clear HA
   simp only [spec_KeyFeed.j0] at H
   by_cases c8 : x16_4 = true
   ·subst c8
    have H1 : (some (([] : List (S38)), (⟨#[]⟩ : ByteArray), 2)) = some (r1, r2, r3) := by rw [if_pos rfl] at H; exact H
    clear H
    have H := H1
    clear H1
    simp only [Option.some.injEq, Prod.mk.injEq] at H
    obtain ⟨rfl, rfl, rfl⟩ := H
    have hcz9_0 : wc.cell? ⟨gb372, 0, none⟩ = some (.slice none 0 0) := bc BK372.out 0
    have hcz9_1 : wc.cell? ⟨gb372, 1, none⟩ = some (.string (⟨#[]⟩ : ByteArray)) := bc BK372.out 1
    have hcz9_2 : wc.cell? ⟨gb372, 2, none⟩ = some (.int .i64 0) := bc BK372.out 2
    have hfz9_0 := blk_frozen BK372.out 0
    have hfz9_1 := blk_frozen BK372.out 1
    have hfz9_2 := blk_frozen BK372.out 2
    go_wp2
    refine bodyPost_ret (results_cell_row rfl _ _ gb372 35 #[.slice none 0 0, .string (⟨#[]⟩ : ByteArray), .int .i64 2] (0, 0) _ rfl (by refine pk ?_; refine blk_put (cs := #[.slice none 0 0, .string (⟨#[]⟩ : ByteArray), .int .i64 0]) ?_ 2 _ rfl; refine pk ?_; refine blk_put (cs := #[.slice none 0 0, .string (⟨#[]⟩ : ByteArray), .int .i64 0]) ?_ 1 _ rfl; refine pk ?_; refine blk_put (cs := #[.slice none 0 0, .string (⟨#[]⟩ : ByteArray), .int .i64 0]) ?_ 0 _ rfl; refine pk ?_; exact BK372.out) Try.underlying35 rfl (by kernel_rfl)) rfl ?_
    exact ⟨_, by first | rfl | (simp [errW_none, errW_some] <;> rfl) | (simp [*, errW_none, errW_some] <;> rfl), by first | exact Kd.R_nil _ _ _ _ _ | exact Kd.N_nil _ _ _ _ _ | exact Kd.V_nil _ _ _ _ _ | exact Kd.Q_nil _ _ _ _ _ | exact Kd.S_nil _ _ _ _ _, by repeat (first | (with_reducible first | exact HB.out | apply below_alloc | apply pw_below_drewN | apply below_drew1 | refine below_set ?_ GE372.out) | exact HB.out)⟩
   ·replace c8 := Bool.eq_false_iff.mpr c8
    subst c8
    have H1 : ((spec_KeysRight.f kj4 l0).bind fun t373 => (if t373 = true then (if a1 < 1 then (some (([] : List (S38)), (⟨#[]⟩ : ByteArray), 1)) else (if a1 > 9 then (some (([] : List (S38)), (⟨#[]⟩ : ByteArray), 1)) else ((spec_l07Feed.f kj4 l0 a1 a2 a3).bind fun bt374 => (some (bt374.1, bt374.2.1, bt374.2.2))))) else (some (([] : List (S38)), (⟨#[]⟩ : ByteArray), 1)))) = some (r1, r2, r3) := by rw [if_neg (show ¬ (false = true) by decide)] at H; exact H
    clear H
    have H := H1
    clear H1
    replace H := Option.bind_eq_some_iff.mp H
    obtain ⟨t373, A100, H⟩ := H
    replace H : (if t373 = true then (if a1 < 1 then (some (([] : List (S38)), (⟨#[]⟩ : ByteArray), 1)) else (if a1 > 9 then (some (([] : List (S38)), (⟨#[]⟩ : ByteArray), 1)) else ((spec_l07Feed.f kj4 l0 a1 a2 a3).bind fun bt374 => (some (bt374.1, bt374.2.1, bt374.2.2))))) else (some (([] : List (S38)), (⟨#[]⟩ : ByteArray), 1))) = some (r1, r2, r3) := H
    have A10 := Aside0.mk A100
    clear A100
    by_cases c11 : t373 = true
    ·subst c11
     have H1 : (if a1 < 1 then (some (([] : List (S38)), (⟨#[]⟩ : ByteArray), 1)) else (if a1 > 9 then (some (([] : List (S38)), (⟨#[]⟩ : ByteArray), 1)) else ((spec_l07Feed.f kj4 l0 a1 a2 a3).bind fun bt374 => (some (bt374.1, bt374.2.1, bt374.2.2))))) = some (r1, r2, r3) := by rw [if_pos rfl] at H; exact H
     clear H
     have H := H1
     clear H1
     by_cases c12 : a1 < 1
     ·rw [if_pos c12] at H
      have c12b0 : decide (a1 < 1) = true := decide_eq_true c12
      clear c12
      simp only [Option.some.injEq, Prod.mk.injEq] at H
      obtain ⟨rfl, rfl, rfl⟩ := H
      go_wp2_with (first | ((with_reducible refine gate_callee (f := 20) rfl ?_); refine gl (some 19) Try.func20 #[.slice A0 l0.length c0] ?_; (with_reducible refine (spec_KeysRight.calls kj4 _ _ l0 true _ ?side1 ?side2 A10.out).mono ?_); (case side1 => repeat (first | exact (Kd.C_below HR0.out HB.out) | (with_reducible refine Kd.C_alloc ?_ _) | (with_reducible refine Kd.C_drewN ?_ _) | (with_reducible refine Kd.C_drew ?_))); (case side2 => exact HC0.out); rintro e w13 ⟨rfl, hb⟩; refine ⟨_, rfl, ?_⟩; replace BK372 := am (blk_below (pk BK372.out) hb); replace HB := am (below_step (bl HB.out) hb); (try clear hb); (try clear hb2); (try clear hk); (try clear hi); have hcz14_0 : w13.cell? ⟨gb372, 0, none⟩ = some (.slice none 0 0) := bc BK372.out 0; have hcz14_1 : w13.cell? ⟨gb372, 1, none⟩ = some (.string (⟨#[]⟩ : ByteArray)) := bc BK372.out 1; have hcz14_2 : w13.cell? ⟨gb372, 2, none⟩ = some (.int .i64 0) := bc BK372.out 2; have hfz14_0 := blk_frozen BK372.out 0; have hfz14_1 := blk_frozen BK372.out 1; have hfz14_2 := blk_frozen BK372.out 2))
      refine bodyPost_ret (results_cell_row rfl _ _ gb372 35 #[.slice none 0 0, .string (⟨#[]⟩ : ByteArray), .int .i64 1] (0, 0) _ rfl (by refine pk ?_; refine blk_put (cs := #[.slice none 0 0, .string (⟨#[]⟩ : ByteArray), .int .i64 0]) ?_ 2 _ rfl; refine pk ?_; refine blk_put (cs := #[.slice none 0 0, .string (⟨#[]⟩ : ByteArray), .int .i64 0]) ?_ 1 _ rfl; refine pk ?_; refine blk_put (cs := #[.slice none 0 0, .string (⟨#[]⟩ : ByteArray), .int .i64 0]) ?_ 0 _ rfl; refine pk ?_; exact BK372.out) Try.underlying35 rfl (by kernel_rfl)) rfl ?_
      exact ⟨_, by first | rfl | (simp [errW_none, errW_some] <;> rfl) | (simp [*, errW_none, errW_some] <;> rfl), by first | exact Kd.R_nil _ _ _ _ _ | exact Kd.N_nil _ _ _ _ _ | exact Kd.V_nil _ _ _ _ _ | exact Kd.Q_nil _ _ _ _ _ | exact Kd.S_nil _ _ _ _ _, by repeat (first | (with_reducible first | exact HB.out | apply below_alloc | apply pw_below_drewN | apply below_drew1 | refine below_set ?_ GE372.out) | exact HB.out)⟩
     ·rw [if_neg c12] at H
      have c12b0 : decide (a1 < 1) = false := decide_eq_false c12
      clear c12
      by_cases c15 : a1 > 9
      ·rw [if_pos c15] at H
       have c15b0 : decide (9 < a1) = true := decide_eq_true c15
       clear c15
       simp only [Option.some.injEq, Prod.mk.injEq] at H
       obtain ⟨rfl, rfl, rfl⟩ := H
       go_wp2_with (first | ((with_reducible refine gate_callee (f := 20) rfl ?_); refine gl (some 19) Try.func20 #[.slice A0 l0.length c0] ?_; (with_reducible refine (spec_KeysRight.calls kj4 _ _ l0 true _ ?side1 ?side2 A10.out).mono ?_); (case side1 => repeat (first | exact (Kd.C_below HR0.out HB.out) | (with_reducible refine Kd.C_alloc ?_ _) | (with_reducible refine Kd.C_drewN ?_ _) | (with_reducible refine Kd.C_drew ?_))); (case side2 => exact HC0.out); rintro e w16 ⟨rfl, hb⟩; refine ⟨_, rfl, ?_⟩; replace BK372 := am (blk_below (pk BK372.out) hb); replace HB := am (below_step (bl HB.out) hb); (try clear hb); (try clear hb2); (try clear hk); (try clear hi); have hcz17_0 : w16.cell? ⟨gb372, 0, none⟩ = some (.slice none 0 0) := bc BK372.out 0; have hcz17_1 : w16.cell? ⟨gb372, 1, none⟩ = some (.string (⟨#[]⟩ : ByteArray)) := bc BK372.out 1; have hcz17_2 : w16.cell? ⟨gb372, 2, none⟩ = some (.int .i64 0) := bc BK372.out 2; have hfz17_0 := blk_frozen BK372.out 0; have hfz17_1 := blk_frozen BK372.out 1; have hfz17_2 := blk_frozen BK372.out 2))
       refine bodyPost_ret (results_cell_row rfl _ _ gb372 35 #[.slice none 0 0, .string (⟨#[]⟩ : ByteArray), .int .i64 1] (0, 0) _ rfl (by refine pk ?_; refine blk_put (cs := #[.slice none 0 0, .string (⟨#[]⟩ : ByteArray), .int .i64 0]) ?_ 2 _ rfl; refine pk ?_; refine blk_put (cs := #[.slice none 0 0, .string (⟨#[]⟩ : ByteArray), .int .i64 0]) ?_ 1 _ rfl; refine pk ?_; refine blk_put (cs := #[.slice none 0 0, .string (⟨#[]⟩ : ByteArray), .int .i64 0]) ?_ 0 _ rfl; refine pk ?_; exact BK372.out) Try.underlying35 rfl (by kernel_rfl)) rfl ?_
       exact ⟨_, by first | rfl | (simp [errW_none, errW_some] <;> rfl) | (simp [*, errW_none, errW_some] <;> rfl), by first | exact Kd.R_nil _ _ _ _ _ | exact Kd.N_nil _ _ _ _ _ | exact Kd.V_nil _ _ _ _ _ | exact Kd.Q_nil _ _ _ _ _ | exact Kd.S_nil _ _ _ _ _, by repeat (first | (with_reducible first | exact HB.out | apply below_alloc | apply pw_below_drewN | apply below_drew1 | refine below_set ?_ GE372.out) | exact HB.out)⟩
      ·rw [if_neg c15] at H
       have c15b0 : decide (9 < a1) = false := decide_eq_false c15
       clear c15
       replace H := Option.bind_eq_some_iff.mp H
       obtain ⟨⟨t374, t377, t378⟩, A180, H⟩ := H
       replace H : (some (t374, t377, t378)) = some (r1, r2, r3) := H
       have A18 := Aside0.mk A180
       clear A180
       simp only [Option.some.injEq, Prod.mk.injEq] at H
       obtain ⟨rfl, rfl, rfl⟩ := H
       go_wp2_with (first | ((with_reducible refine gate_callee (f := 20) rfl ?_); refine gl (some 19) Try.func20 #[.slice A0 l0.length c0] ?_; (with_reducible refine (spec_KeysRight.calls kj4 _ _ l0 true _ ?side1 ?side2 A10.out).mono ?_); (case side1 => repeat (first | exact (Kd.C_below HR0.out HB.out) | (with_reducible refine Kd.C_alloc ?_ _) | (with_reducible refine Kd.C_drewN ?_ _) | (with_reducible refine Kd.C_drew ?_))); (case side2 => exact HC0.out); rintro e w19 ⟨rfl, hb⟩; refine ⟨_, rfl, ?_⟩; replace BK372 := am (blk_below (pk BK372.out) hb); replace HB := am (below_step (bl HB.out) hb); (try clear hb); (try clear hb2); (try clear hk); (try clear hi)) | ((with_reducible refine gate_callee (f := 34) rfl ?_); refine gl (some 34) Try.func34 #[.slice A0 l0.length c0, .int .i64 a1, .string a2, .bool a3] ?_; (with_reducible refine (spec_l07Feed.calls kj4 _ _ l0 a1 a2 a3 t374 t377 t378 _ ?side1 ?side2 A18.out).mono ?_); (case side1 => repeat (first | exact (Kd.C_below HR0.out HB.out) | (with_reducible refine Kd.C_alloc ?_ _) | (with_reducible refine Kd.C_drewN ?_ _) | (with_reducible refine Kd.C_drew ?_))); (case side2 => exact HC0.out); rintro e w20 ⟨v375, rfl, ho0, hb⟩; refine ⟨_, rfl, ?_⟩; have HO376 := am (Kd.R_lower ho0 (below_size (bl HB.out))); replace BK372 := am (blk_below (pk BK372.out) hb); replace HB := am (below_step (bl HB.out) hb); (try clear hb); (try clear hb2); (try clear hk); (try clear hi); (try clear ho0); obtain ⟨Ao21, co21, eo21⟩ := Kd.R_slice HO376.out; subst eo21; have hcz22_0 : w20.cell? ⟨gb372, 0, none⟩ = some (.slice none 0 0) := bc BK372.out 0; have hcz22_1 : w20.cell? ⟨gb372, 1, none⟩ = some (.string (⟨#[]⟩ : ByteArray)) := bc BK372.out 1; have hcz22_2 : w20.cell? ⟨gb372, 2, none⟩ = some (.int .i64 0) := bc BK372.out 2; have hfz22_0 := blk_frozen BK372.out 0; have hfz22_1 := blk_frozen BK372.out 1; have hfz22_2 := blk_frozen BK372.out 2))
       refine bodyPost_ret (results_cell_row rfl _ _ gb372 35 #[.slice Ao21 t374.length co21, .string t377, .int .i64 t378] (0, 0) _ rfl (by refine pk ?_; refine blk_put (cs := #[.slice Ao21 t374.length co21, .string t377, .int .i64 0]) ?_ 2 _ rfl; refine pk ?_; refine blk_put (cs := #[.slice Ao21 t374.length co21, .string (⟨#[]⟩ : ByteArray), .int .i64 0]) ?_ 1 _ rfl; refine pk ?_; refine blk_put (cs := #[.slice none 0 0, .string (⟨#[]⟩ : ByteArray), .int .i64 0]) ?_ 0 _ rfl; refine pk ?_; exact BK372.out) Try.underlying35 rfl (by kernel_rfl)) rfl ?_
       exact ⟨_, by first | rfl | (simp [errW_none, errW_some] <;> rfl) | (simp [*, errW_none, errW_some] <;> rfl), kr (Kd.R_mono (Kd.R_far (p := ⟨gb372, 2, none⟩) (Kd.R_far (p := ⟨gb372, 1, none⟩) (Kd.R_far (p := ⟨gb372, 0, none⟩) (Kd.R_types HO376.out BK372.out (by decide)) (fun _ hk => hk.2) (.slice Ao21 t374.length co21)) (fun _ hk => hk.2) (.string t377)) (fun _ hk => hk.2) (.int .i64 t378)) (fun _ hk => trivial)), by repeat (first | (with_reducible first | exact HB.out | apply below_alloc | apply pw_below_drewN | apply below_drew1 | refine below_set ?_ GE372.out) | exact HB.out)⟩
    ·replace c11 := Bool.eq_false_iff.mpr c11
     subst c11
     have H1 : (some (([] : List (S38)), (⟨#[]⟩ : ByteArray), 1)) = some (r1, r2, r3) := by rw [if_neg (show ¬ (false = true) by decide)] at H; exact H
     clear H
     have H := H1
     clear H1
     simp only [Option.some.injEq, Prod.mk.injEq] at H
     obtain ⟨rfl, rfl, rfl⟩ := H
     go_wp2_with (first | ((with_reducible refine gate_callee (f := 20) rfl ?_); refine gl (some 19) Try.func20 #[.slice A0 l0.length c0] ?_; (with_reducible refine (spec_KeysRight.calls kj4 _ _ l0 false _ ?side1 ?side2 A10.out).mono ?_); (case side1 => repeat (first | exact (Kd.C_below HR0.out HB.out) | (with_reducible refine Kd.C_alloc ?_ _) | (with_reducible refine Kd.C_drewN ?_ _) | (with_reducible refine Kd.C_drew ?_))); (case side2 => exact HC0.out); rintro e w23 ⟨rfl, hb⟩; refine ⟨_, rfl, ?_⟩; replace BK372 := am (blk_below (pk BK372.out) hb); replace HB := am (below_step (bl HB.out) hb); (try clear hb); (try clear hb2); (try clear hk); (try clear hi); have hcz24_0 : w23.cell? ⟨gb372, 0, none⟩ = some (.slice none 0 0) := bc BK372.out 0; have hcz24_1 : w23.cell? ⟨gb372, 1, none⟩ = some (.string (⟨#[]⟩ : ByteArray)) := bc BK372.out 1; have hcz24_2 : w23.cell? ⟨gb372, 2, none⟩ = some (.int .i64 0) := bc BK372.out 2; have hfz24_0 := blk_frozen BK372.out 0; have hfz24_1 := blk_frozen BK372.out 1; have hfz24_2 := blk_frozen BK372.out 2))
     refine bodyPost_ret (results_cell_row rfl _ _ gb372 35 #[.slice none 0 0, .string (⟨#[]⟩ : ByteArray), .int .i64 1] (0, 0) _ rfl (by refine pk ?_; refine blk_put (cs := #[.slice none 0 0, .string (⟨#[]⟩ : ByteArray), .int .i64 0]) ?_ 2 _ rfl; refine pk ?_; refine blk_put (cs := #[.slice none 0 0, .string (⟨#[]⟩ : ByteArray), .int .i64 0]) ?_ 1 _ rfl; refine pk ?_; refine blk_put (cs := #[.slice none 0 0, .string (⟨#[]⟩ : ByteArray), .int .i64 0]) ?_ 0 _ rfl; refine pk ?_; exact BK372.out) Try.underlying35 rfl (by kernel_rfl)) rfl ?_
     exact ⟨_, by first | rfl | (simp [errW_none, errW_some] <;> rfl) | (simp [*, errW_none, errW_some] <;> rfl), by first | exact Kd.R_nil _ _ _ _ _ | exact Kd.N_nil _ _ _ _ _ | exact Kd.V_nil _ _ _ _ _ | exact Kd.Q_nil _ _ _ _ _ | exact Kd.S_nil _ _ _ _ _, by repeat (first | (with_reducible first | exact HB.out | apply below_alloc | apply pw_below_drewN | apply below_drew1 | refine below_set ?_ GE372.out) | exact HB.out)⟩

/-! ### impl_isMany: function 21 -/
def impl_isMany.f (a0 : Int) : Option (Bool) := some (decide (a0 > 400))
theorem impl_isMany.calls (a0 : Int) (r : Bool) (w : World) (h : impl_isMany.f a0 = some r) :
  Calls Try.prog 21 #[.int .i64 a0] w fun e w' => e = .returned (.bool r) ∧ Drawn0 w w' := by
 have H : (some (decide (a0 > 400))) = some r := h
 clear h
 obtain rfl := Option.some.inj H
 go_enter Try.func21, Try.ntmps21
 go_wp2
 go_ret
 exact ⟨by first | rfl | (simp; done) | (simp [*]; done), by repeat (first | exact Drawn0.refl _ | apply Drawn0.step)⟩

/-! ### impl_isLong_1: function 44 -/
def impl_isLong_1.f (a0 : ByteArray) : Option (Bool) := some (decide ((a0.size : Int) > 20000))
theorem impl_isLong_1.calls (a0 : ByteArray) (r : Bool) (w : World) (h : impl_isLong_1.f a0 = some r) :
  Calls Try.prog 44 #[.string a0] w fun e w' => e = .returned (.bool r) ∧ Drawn0 w w' := by
 have H : (some (decide ((a0.size : Int) > 20000))) = some r := h
 clear h
 obtain rfl := Option.some.inj H
 go_enter Try.func44, Try.ntmps44
 go_wp2
 go_ret
 exact ⟨by first | rfl | (simp; done) | (simp [*]; done), by repeat (first | exact Drawn0.refl _ | apply Drawn0.step)⟩

/-! ### slices_IndexFunc_sstring_string: function 56 -/
def slices_IndexFunc_sstring_string.l0 : Nat → List ByteArray → Int → Int → Option (Int)
 | 0, _, _, _ => none
 | k + 1, x0, x7, x8 => if x8 < x7 then (if 0 ≤ x8 then (if x8 < (x0.length : Int) then ((impl_isLong_1.f (rdOf ByteArray.empty x0 x8)).bind fun t380 => (if t380 = true then (some x8) else (slices_IndexFunc_sstring_string.l0 k x0 x7 (wrap64 (x8 + 1))))) else (none)) else (none)) else (some (-1))
def slices_IndexFunc_sstring_string.f (k : Nat) (l0 : List ByteArray)  : Option (Int) := slices_IndexFunc_sstring_string.l0 k l0 (l0.length : Int) 0
theorem slices_IndexFunc_sstring_string.mono_l : ∀ k, (∀ y0 y1 y2, LeO (slices_IndexFunc_sstring_string.l0 k y0 y1 y2) (slices_IndexFunc_sstring_string.l0 (k + 1) y0 y1 y2))
 | 0 => fun _ _ _ r h => by simp [slices_IndexFunc_sstring_string.l0] at h
 | k + 1 => by
  have ih0 := slices_IndexFunc_sstring_string.mono_l k
  ·intro y0 y1 y2
   unfold slices_IndexFunc_sstring_string.l0
   repeat' first
   | (with_reducible exact ih0 _ _ _)
   | (with_reducible exact LeO.refl _)
   | (with_reducible exact LeO.none _)
   | (with_reducible refine LeO.ite ?_ ?_)
   | (with_reducible refine LeO.bind ?_ (fun _ => ?_))
   | exact ih0 _ _ _
   | refine LeO.bind ?_ (fun _ => ?_)
theorem slices_IndexFunc_sstring_string.mono : ∀ a0 k, LeO (slices_IndexFunc_sstring_string.f k a0) (slices_IndexFunc_sstring_string.f (k + 1) a0) := by
 intro a0 k
 have ih0 := slices_IndexFunc_sstring_string.mono_l k
 unfold slices_IndexFunc_sstring_string.f
 repeat' first
   | (with_reducible exact ih0 _ _ _)
   | (with_reducible exact LeO.refl _)
   | (with_reducible exact LeO.none _)
   | (with_reducible refine LeO.ite ?_ ?_)
   | (with_reducible refine LeO.bind ?_ (fun _ => ?_))
   | exact ih0 _ _ _
   | refine LeO.bind ?_ (fun _ => ?_)
theorem slices_IndexFunc_sstring_string.calls (k : Nat) (A0 : Option Addr) (c0 : Nat) (l0 : List ByteArray)  (r : Int) (w : World) (hr0 : Kd.C Kd.string w A0 l0.length l0) (hc0 : l0.length ≤ c0) (h : slices_IndexFunc_sstring_string.f k l0 = some r) :
  Calls Try.prog 56 #[.slice A0 l0.length c0, .func (.func 44) #[] #[]] w fun e w' => e = .returned (.int .i64 r) ∧ Drawn0 w w' := by
 have HR0 := am hr0
 have HC0 := am hc0
 clear hr0 hc0
 have H : (slices_IndexFunc_sstring_string.l0 k l0 (l0.length : Int) 0) = some r := h
 clear h
 have H' := Aside0.mk H
 clear H
 go_enter Try.func56, Try.ntmps56
 go_wp2
 go_loopg [8] k (fun kq v8 w' => ∃ (x8_1 : Int), v8 = .int .i64 x8_1 ∧ Aside0 (slices_IndexFunc_sstring_string.l0 kq l0 (l0.length : Int) x8_1 = some r) ∧ Aside0 (kq ≤ k) ∧ Drawn0 w w')
 case atStart => exact ⟨(0), (by first | rfl | (simp; done) | (simp [*]; done)), H', ⟨Nat.le_refl _⟩, by repeat (first | exact Drawn0.refl _ | apply Drawn0.step)⟩
 case round =>
  clear H'
  try clear p2
  obtain ⟨x8_1, rfl, HA, HK1, ⟨m1, rfl⟩⟩ := hrel
  cases gk with
  | zero => exact absurd HA.out (by simp [slices_IndexFunc_sstring_string.l0])
  | succ k1 =>
   have H := HA.out
   clear HA
   simp only [slices_IndexFunc_sstring_string.l0] at H
   by_cases c3 : x8_1 < (l0.length : Int)
   ·rw [if_pos c3] at H
    have c3b0 : decide (x8_1 < (l0.length : Int)) = true := decide_eq_true c3
    clear c3
    by_cases c4 : 0 ≤ x8_1
    ·rw [if_pos c4] at H
     have c4b0 : decide (0 ≤ x8_1) = true := decide_eq_true c4
     clear c4
     by_cases c5 : x8_1 < (l0.length : Int)
     ·rw [if_pos c5] at H
      have c5b0 : decide (x8_1 < (l0.length : Int)) = true := decide_eq_true c5
      clear c5
      replace H := Option.bind_eq_some_iff.mp H
      obtain ⟨t380, A60, H⟩ := H
      replace H : (if t380 = true then (some x8_1) else (slices_IndexFunc_sstring_string.l0 k1 l0 (l0.length : Int) (wrap64 (x8_1 + 1)))) = some r := H
      have A6 := Aside0.mk A60
      clear A60
      by_cases c7 : t380 = true
      ·subst c7
       have H1 : (some x8_1) = some r := by rw [if_pos rfl] at H; exact H
       clear H
       have H := H1
       clear H1
       obtain rfl := Option.some.inj H
       have p379 : 0 ≤ (x8_1 : Int) := of_decide_eq_true (by first | (with_reducible assumption) | assumption)
       have q379 : x8_1 < (l0.length : Int) := of_decide_eq_true (by first | (with_reducible assumption) | assumption)
       obtain ⟨ad379, e379, hx379_0⟩ := Kd.at_string HR0.out x8_1 p379 q379
       cases e379
       replace p379 := eq_true p379
       replace q379 := eq_true q379
       go_wp2_with (first | (go_at_call 44; (with_reducible refine (impl_isLong_1.calls (rdOf ByteArray.empty l0 x8_1) true _ A6.out).mono ?_); rintro e w' ⟨rfl, ⟨nd, rfl⟩⟩))
       go_ret
       exact ⟨by first | rfl | (simp; done) | (simp [*]; done), by repeat (first | exact Drawn0.refl _ | apply Drawn0.step)⟩
      ·replace c7 := Bool.eq_false_iff.mpr c7
       subst c7
       have H1 : (slices_IndexFunc_sstring_string.l0 k1 l0 (l0.length : Int) (wrap64 (x8_1 + 1))) = some r := by rw [if_neg (show ¬ (false = true) by decide)] at H; exact H
       clear H
       have H := H1
       clear H1
       have H' := Aside0.mk H
       clear H
       have p379 : 0 ≤ (x8_1 : Int) := of_decide_eq_true (by first | (with_reducible assumption) | assumption)
       have q379 : x8_1 < (l0.length : Int) := of_decide_eq_true (by first | (with_reducible assumption) | assumption)
       obtain ⟨ad379, e379, hx379_0⟩ := Kd.at_string HR0.out x8_1 p379 q379
       cases e379
       replace p379 := eq_true p379
       replace q379 := eq_true q379
       go_wp2_with (first | (go_at_call 44; (with_reducible refine (impl_isLong_1.calls (rdOf ByteArray.empty l0 x8_1) false _ A6.out).mono ?_); rintro e w' ⟨rfl, ⟨nd, rfl⟩⟩))
       go_roundg k1
       case measure => have := HK1.out; omega
       case rel => exact ⟨(wrap64 (x8_1 + 1)), (by first | rfl | (simp; done) | (simp [*]; done)), H', ⟨by have := HK1.out; omega⟩, by repeat (first | exact Drawn0.refl _ | apply Drawn0.step)⟩
     ·rw [if_neg c5] at H
      exact absurd H (by simp)
    ·rw [if_neg c4] at H
     exact absurd H (by simp)
   ·rw [if_neg c3] at H
    have c3b0 : decide (x8_1 < (l0.length : Int)) = false := decide_eq_false c3
    clear c3
    obtain rfl := Option.some.inj H
    go_wp2
    go_ret
    exact ⟨by first | rfl | (simp; done) | (simp [*]; done), by repeat (first | exact Drawn0.refl _ | apply Drawn0.step)⟩

end Go.Proofs.Ytnhmoacjmieggaa.PFnKeys
