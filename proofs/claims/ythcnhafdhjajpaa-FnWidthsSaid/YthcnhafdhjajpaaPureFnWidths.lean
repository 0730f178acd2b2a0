/- Proved: for every code of at most 2^20 bytes, the points drawn from it are as wide together as what is shown of them. No conditions. -/
import Derived.Test.YthcnhafdhjajpaaPFnWidthsx6
namespace Go.Proofs.Ythcnhafdhjajpaa.Pure
open Go.RowKit Go.Proofs.Ythcnhafdhjajpaa.PFnWidths Go.Proofs.YthcnhafdhjajpaaW.PrintWords Go.Proofs.YthcnhafdhjajpaaW.PrintLast Go.Proofs.YthcnhafdhjajpaaW.PrintMore
set_option linter.unusedVariables false
set_option linter.unusedSimpArgs false

/-! ### plain words -/
theorem wrap_in {x : Int} (h0 : -9223372036854775808 ≤ x) (h1 : x ≤ 9223372036854775807) : wrap64 x = x := by unfold wrap64; omega
theorem wrap_succ {i : Nat} (h : i < 4611686018427387904) : wrap64 ((i : Int) + 1) = ((i + 1 : Nat) : Int) := by unfold wrap64; omega
theorem rd_nat (l : List Int) (i : Nat) : rd l (i : Int) = l.getD i 0 := by simp [rd]
theorem drop_rd {l : List Int} {i : Nat} (h : i < l.length) : l.drop i = rd l (i : Int) :: l.drop (i + 1) := by
  rw [rd_nat, List.drop_eq_getElem_cons h, List.getD_eq_getElem?_getD, List.getElem?_eq_getElem h]
  rfl
theorem int_lt {i n : Nat} (h : i < n) : (i : Int) < (n : Int) := by omega
theorem int_nlt {i n : Nat} (h : ¬ i < n) : ¬ (i : Int) < (n : Int) := by omega
theorem int_nn (i : Nat) : (0 : Int) ≤ (i : Int) := by omega
theorem maxLen_le {n : Nat} (h : n ≤ maxLen) : n ≤ 9223372036854775807 := by unfold maxLen at h; exact h
theorem some_b {a b : Bool} (h : a = true ↔ b = true) : some a = some b := congrArg some (Bool.eq_iff_iff.2 h)
def isPt (a : Int) : Bool := decide (0 ≤ a ∧ a ≤ 1114111 ∧ ¬ (55296 ≤ a ∧ a ≤ 57343))
def ptsOK (l : List Int) : Bool := decide (l.length ≤ 300) && l.all isPt
def bufOK (l : List Int) (c m : Int) : Bool := ptsOK l && decide (0 ≤ c ∧ c ≤ l.length) && decide (0 ≤ m ∧ m ≤ l.length)
def isCtl (a : Int) : Bool := decide (a < 32 ∨ a = 127)
def isWide2 (a : Int) : Bool := decide ((4352 ≤ a ∧ a ≤ 4447) ∨ (11904 ≤ a ∧ a ≤ 42191) ∨ (44032 ≤ a ∧ a ≤ 55203) ∨ (63744 ≤ a ∧ a ≤ 64255) ∨ (65281 ≤ a ∧ a ≤ 65376) ∨ (127744 ≤ a ∧ a ≤ 129791))
def wid (a : Int) : Int := if isPt a = true ∧ ¬ (768 ≤ a ∧ a ≤ 879) then (if isCtl a = true ∨ isWide2 a = true then 2 else 1) else 0
def cl2 (a : Int) : Int := if (97 ≤ a ∧ a ≤ 122) ∨ (65 ≤ a ∧ a ≤ 90) ∨ (48 ≤ a ∧ a ≤ 57) ∨ a = 95 ∨ 128 ≤ a then 2 else 3
def cls (a : Int) : Int := if isPt a = true then (if a = 32 ∨ a = 9 ∨ a = 10 then 1 else cl2 a) else 0
theorem ptsOK_len {l : List Int} (h : ptsOK l = true) : l.length ≤ 300 := by
  unfold ptsOK at h
  simp only [Bool.and_eq_true, decide_eq_true_eq] at h
  exact h.1
theorem bufOK_len {l : List Int} {c m : Int} (h : bufOK l c m = true) : l.length ≤ 300 := by
  unfold bufOK at h
  simp only [Bool.and_eq_true] at h
  exact ptsOK_len h.1.1
theorem bufOK_all {l : List Int} {c m : Int} (h : bufOK l c m = true) : l.length ≤ 300 ∧ 0 ≤ c ∧ c ≤ l.length ∧ 0 ≤ m ∧ m ≤ l.length := by
  have hl := bufOK_len h
  unfold bufOK at h
  simp only [Bool.and_eq_true, decide_eq_true_eq] at h
  exact ⟨hl, h.1.2.1, h.1.2.2, h.2.1, h.2.2⟩
/-! ### draws: what they yield is some value, within bounds -/
theorem u64_in {t : Int} (h0 : 0 ≤ t) (h1 : t ≤ 4611686018427387904) : IntKind.u64.wrap t = t := by
  rw [Go.IntKind.wrap_u64]
  omega
theorem tmod_in (X : Int) {t : Int} (h0 : 1 < t) (h1 : t ≤ 4611686018427387904) : 0 ≤ wrap64 (Int.tmod (IntKind.u64.wrap X) (IntKind.u64.wrap t)) ∧ wrap64 (Int.tmod (IntKind.u64.wrap X) (IntKind.u64.wrap t)) < t := by
  have hX : 0 ≤ IntKind.u64.wrap X := by rw [Go.IntKind.wrap_u64]; omega
  rw [u64_in (by omega) h1, Int.tmod_eq_emod_of_nonneg hX]
  have a1 := Int.emod_nonneg (IntKind.u64.wrap X) (show t ≠ 0 by omega)
  have a2 := Int.emod_lt_of_pos (IntKind.u64.wrap X) (show 0 < t by omega)
  rw [wrap_in (by omega) (by omega)]
  exact ⟨a1, a2⟩
theorem spec_l01Src_n.eq (b : List Int) (a m z t : Int) (hb : b.length ≤ 1048576) (h0 : 0 ≤ a) (h1 : a ≤ b.length) (ht : t ≤ 4611686018427387904) : ∃ v a' m', spec_l01Src_n.f b a m z t = some (v, a', m', z) ∧ 0 ≤ v ∧ (v < t ∨ v = 0) ∧ 0 ≤ a' ∧ a' ≤ b.length := by
  unfold spec_l01Src_n.f
  by_cases h : t ≤ 1
  · rw [if_pos h]
    exact ⟨_, _, _, rfl, by omega, by omega, h0, h1⟩
  · have e : ¬ IntKind.u64.wrap t = 0 := by
      rw [u64_in (by omega) ht]
      omega
    rw [if_neg h]
    by_cases g : a < (b.length : Int)
    · rw [if_pos g, if_pos h0, if_neg e]
      refine ⟨_, _, _, rfl, (tmod_in _ (by omega) ht).1, Or.inl (tmod_in _ (by omega) ht).2, ?_, ?_⟩
      · rw [wrap_in (by omega) (by omega)]; omega
      · rw [wrap_in (by omega) (by omega)]; omega
    · rw [if_neg g, if_neg e]
      exact ⟨_, _, _, rfl, (tmod_in _ (by omega) ht).1, Or.inl (tmod_in _ (by omega) ht).2, h0, h1⟩
theorem spec_l01Src_one.eq (b : List Int) (a m z t : Int) (hb : b.length ≤ 1048576) (h0 : 0 ≤ a) (h1 : a ≤ b.length) (ht : t ≤ 4611686018427387904) : ∃ v a' m', spec_l01Src_one.f b a m z t = some (v, a', m', z) ∧ 0 ≤ a' ∧ a' ≤ b.length := by
  obtain ⟨v, a', m', e, _, _, g1, g2⟩ := spec_l01Src_n.eq b a m z t hb h0 h1 ht
  unfold spec_l01Src_one.f
  rw [e]
  exact ⟨_, _, _, rfl, g1, g2⟩
theorem spec_l01Src_point.eq (b : List Int) (a m z : Int) (hb : b.length ≤ 1048576) (h0 : 0 ≤ a) (h1 : a ≤ b.length) : ∃ v a' m', spec_l01Src_point.f b a m z = some (v, a', m', z) ∧ 0 ≤ a' ∧ a' ≤ b.length := by
  obtain ⟨v, a1, m1, e, v0, v1, g1, g2⟩ := spec_l01Src_n.eq b a m z 14 hb h0 h1 (by omega)
  unfold spec_l01Src_point.f
  rw [e]
  simp only [Option.bind_some]
  by_cases c0 : v = 0
  · rw [if_pos c0]; exact ⟨_, _, _, rfl, g1, g2⟩
  rw [if_neg c0]
  by_cases c1 : v = 1
  · rw [if_pos c1]; exact ⟨_, _, _, rfl, g1, g2⟩
  rw [if_neg c1]
  by_cases c2 : v = 2
  · rw [if_pos c2]
    obtain ⟨q, a2, m2, e2, q0, q1, k1, k2⟩ := spec_l01Src_n.eq b a1 m1 z 5 hb g1 g2 (by omega)
    rw [e2]
    simp only [Option.bind_some, List.length_cons, List.length_nil]
    rw [if_pos (by omega), if_pos (by omega)]
    exact ⟨_, _, _, rfl, k1, k2⟩
  rw [if_neg c2]
  by_cases c3 : v = 3
  · rw [if_pos c3]
    obtain ⟨q, a2, m2, e2, q0, q1, k1, k2⟩ := spec_l01Src_n.eq b a1 m1 z 20 hb g1 g2 (by omega)
    rw [e2]
    simp only [Option.bind_some, List.length_cons, List.length_nil]
    rw [if_pos (by omega), if_pos (by omega)]
    exact ⟨_, _, _, rfl, k1, k2⟩
  rw [if_neg c3]
  by_cases c4 : v = 4
  · rw [if_pos c4]
    obtain ⟨q, a2, m2, e2, q0, q1, k1, k2⟩ := spec_l01Src_n.eq b a1 m1 z 8 hb g1 g2 (by omega)
    rw [e2]
    simp only [Option.bind_some, List.length_cons, List.length_nil]
    rw [if_pos (by omega), if_pos (by omega)]
    exact ⟨_, _, _, rfl, k1, k2⟩
  rw [if_neg c4]
  by_cases c5 : v = 5
  · rw [if_pos c5]
    obtain ⟨q, a2, m2, e2, q0, q1, k1, k2⟩ := spec_l01Src_n.eq b a1 m1 z 5 hb g1 g2 (by omega)
    rw [e2]
    simp only [Option.bind_some, List.length_cons, List.length_nil]
    rw [if_pos (by omega), if_pos (by omega)]
    exact ⟨_, _, _, rfl, k1, k2⟩
  rw [if_neg c5]
  by_cases c6 : v = 6
  · rw [if_pos c6]
    obtain ⟨q, a2, m2, e2, q0, q1, k1, k2⟩ := spec_l01Src_n.eq b a1 m1 z 10 hb g1 g2 (by omega)
    rw [e2]
    exact ⟨_, _, _, rfl, k1, k2⟩
  rw [if_neg c6]
  obtain ⟨q, a2, m2, e2, q0, q1, k1, k2⟩ := spec_l01Src_n.eq b a1 m1 z 6 hb g1 g2 (by omega)
  rw [e2]
  exact ⟨_, _, _, rfl, k1, k2⟩
theorem spec_l01Src_points.loop (b : List Int) (z : Int) (hb : b.length ≤ 1048576) (t : Nat) : ∀ (k : Nat) (acc : List Int) (a m : Int), acc.length + t ≤ 1000000 → 0 ≤ a → a ≤ b.length → t < k → ∃ p a' m', spec_l01Src_points.l0 k (t : Int) acc b a m z = some (p, a', m', z) ∧ p.length = acc.length + t ∧ 0 ≤ a' ∧ a' ≤ b.length := by
  induction t with
  | zero =>
    intro k acc a m ha h0 h1 hk
    obtain ⟨k, rfl⟩ : ∃ m, k = m + 1 := ⟨k - 1, by omega⟩
    exact ⟨acc, a, m, rfl, rfl, h0, h1⟩
  | succ t ih =>
    intro k acc a m ha h0 h1 hk
    obtain ⟨k, rfl⟩ : ∃ m, k = m + 1 := ⟨k - 1, by omega⟩
    obtain ⟨v, a1, m1, e, g1, g2⟩ := spec_l01Src_point.eq b a m z hb h0 h1
    obtain ⟨p, a2, m2, e2, hp, k1, k2⟩ := ih k (acc ++ [v]) a1 m1 (by rw [List.length_append, List.length_singleton]; omega) g1 g2 (by omega)
    rw [spec_l01Src_points.l0, if_pos (by omega), e, show wrap64 (((t + 1 : Nat) : Int) - 1) = (t : Int) by rw [wrap_in (by omega) (by omega)]; omega]
    simp only [Option.bind_some]
    rw [if_pos (by omega), e2]
    exact ⟨p, a2, m2, rfl, by rw [hp, List.length_append, List.length_singleton]; omega, k1, k2⟩
theorem spec_l01Src_points.eq (b : List Int) (a m z t : Int) (hb : b.length ≤ 1048576) (h0 : 0 ≤ a) (h1 : a ≤ b.length) (ht0 : 0 ≤ t) (ht : t ≤ 1000) {k : Nat} (hk : 2000 < k) : ∃ p a' m', spec_l01Src_points.f k b a m z t = some (p, a', m', z) ∧ p.length = t.toNat ∧ 0 ≤ a' ∧ a' ≤ b.length := by
  obtain ⟨n, rfl⟩ : ∃ n : Nat, t = (n : Int) := ⟨t.toNat, by omega⟩
  obtain ⟨p, a', m', e, hp, g1, g2⟩ := spec_l01Src_points.loop b z hb n k [] a m (by simp only [List.length_nil]; omega) h0 h1 (by omega)
  refine ⟨p, a', m', e, ?_, g1, g2⟩
  rw [hp, List.length_nil]
  omega
theorem spec_l01Source.loop (l : List Int) (hl : l.length ≤ 1048576) (d : Nat) : ∀ (k i : Nat) (m : Int), i ≤ l.length → l.length - i = d → d < k → ∃ m' z, spec_l01Source.l0 k l (i : Int) l 0 m 0 = some (l, 0, m', z) ∧ 0 ≤ z ∧ z ≤ 12 := by
  have hz : wrap64 ((l.length : Int) / 20) = (l.length : Int) / 20 := wrap_in (by omega) (by omega)
  have hend : ∀ m : Int, ∃ m' z, (if wrap64 ((l.length : Int) / 20) > 12 then some (l, (0 : Int), m, (12 : Int)) else some (l, 0, m, wrap64 ((l.length : Int) / 20))) = some (l, 0, m', z) ∧ 0 ≤ z ∧ z ≤ 12 := by
    intro m
    rw [hz]
    by_cases g : (l.length : Int) / 20 > 12
    · rw [if_pos g]; exact ⟨_, _, rfl, by omega, by omega⟩
    · rw [if_neg g]; exact ⟨_, _, rfl, by omega, by omega⟩
  induction d with
  | zero =>
    intro k i m hi hd hk
    obtain ⟨k, rfl⟩ : ∃ m, k = m + 1 := ⟨k - 1, by omega⟩
    rw [spec_l01Source.l0, if_neg (by omega)]
    exact hend m
  | succ d ih =>
    intro k i m hi hd hk
    obtain ⟨k, rfl⟩ : ∃ m, k = m + 1 := ⟨k - 1, by omega⟩
    rw [spec_l01Source.l0, if_pos (by omega)]
    by_cases g : (i : Int) < 64
    · rw [if_pos g, if_pos (by omega), wrap_succ (by omega)]
      exact ih k (i + 1) _ (by omega) (by omega) (by omega)
    · rw [if_neg g]
      exact hend m
theorem spec_l01Source.eq (l : List Int) (hl : l.length ≤ 1048576) {k : Nat} (hk : 1048577 < k) : ∃ m' z, spec_l01Source.f k l = some (l, 0, m', z) ∧ 0 ≤ z ∧ z ≤ 12 := by
  obtain ⟨m', z, h⟩ := spec_l01Source.loop l hl l.length k 0 88172645463325252 (by omega) (by omega) (by omega)
  exact ⟨m', z, h⟩
theorem spec_l01Src_some.eq (b : List Int) (a m z : Int) (hb : b.length ≤ 1048576) (h0 : 0 ≤ a) (h1 : a ≤ b.length) (hz : 0 ≤ z) (hz2 : z ≤ 12) {k : Nat} (hk : 3000 < k) : ∃ p a' m', spec_l01Src_some.f k b a m z = some (p, a', m', z) ∧ p.length ≤ 303 ∧ 0 ≤ a' ∧ a' ≤ b.length := by
  have hj : ∀ (x : List Int) (a m : Int), x.length ≤ 302 → 0 ≤ a → a ≤ b.length → ∃ p a' m', spec_l01Src_some.j0 k x b a m z = some (p, a', m', z) ∧ p.length ≤ 303 ∧ 0 ≤ a' ∧ a' ≤ b.length := by
    intro x a m hx h0 h1
    obtain ⟨k, rfl⟩ : ∃ m, k = m + 1 := ⟨k - 1, by omega⟩
    obtain ⟨v, a1, m1, e, g1, g2⟩ := spec_l01Src_one.eq b a m z 20 hb h0 h1 (by omega)
    rw [spec_l01Src_some.j0, e]
    simp only [Option.bind_some]
    cases v
    · rw [if_neg (by decide)]
      exact ⟨_, _, _, rfl, by omega, g1, g2⟩
    · obtain ⟨q, a2, m2, e2, q0, q1, k1, k2⟩ := spec_l01Src_n.eq b a1 m1 z 5 hb g1 g2 (by omega)
      rw [if_pos rfl, e2]
      simp only [Option.bind_some, List.length_cons, List.length_nil]
      rw [if_pos (by omega), if_pos (by omega), if_pos (by omega)]
      exact ⟨_, _, _, rfl, by rw [List.length_append, List.length_singleton]; omega, k1, k2⟩
  unfold spec_l01Src_some.f
  rw [wrap_in (x := 12 + z) (by omega) (by omega)]
  obtain ⟨v, a1, m1, e, v0, v1, g1, g2⟩ := spec_l01Src_n.eq b a m z (12 + z) hb h0 h1 (by omega)
  rw [e]
  simp only [Option.bind_some]
  obtain ⟨p, a2, m2, e2, hp, k1, k2⟩ := spec_l01Src_points.eq b a1 m1 z v hb g1 g2 v0 (by omega) (k := k) (by omega)
  rw [e2]
  simp only [Option.bind_some]
  obtain ⟨o, a3, m3, e3, l1, l2⟩ := spec_l01Src_one.eq b a2 m2 z 50 hb k1 k2 (by omega)
  rw [e3]
  simp only [Option.bind_some]
  cases o
  · rw [if_neg (by decide)]
    exact hj p a3 m3 (by omega) l1 l2
  · obtain ⟨q, a4, m4, e4, q0, q1, n1, n2⟩ := spec_l01Src_n.eq b a3 m3 z 3 hb l1 l2 (by omega)
    rw [if_pos rfl, e4]
    simp only [Option.bind_some]
    rw [wrap_in (x := 299 + q) (by omega) (by omega)]
    obtain ⟨p2, a5, m5, e5, hp2, r1, r2⟩ := spec_l01Src_points.eq b a4 m4 z (299 + q) hb n1 n2 (by omega) (by omega) (k := k) (by omega)
    rw [e5]
    simp only [Option.bind_some]
    exact hj p2 a5 m5 (by omega) r1 r2
theorem spec_DrawShownOf.eq (l : List Int) (hl : l.length ≤ 1048576) {k : Nat} (hk : 2000000 < k) : ∃ p, spec_DrawShownOf.f k l = some p ∧ p.length ≤ 303 := by
  obtain ⟨m, z, e, hz, hz2⟩ := spec_l01Source.eq l hl (k := k) (by omega)
  obtain ⟨p, a', m', e2, hp, _⟩ := spec_l01Src_some.eq l 0 m z hl (by omega) (by omega) hz hz2 (k := k) (by omega)
  unfold spec_DrawShownOf.f
  rw [e]
  simp only [Option.bind_some]
  rw [e2]
  exact ⟨p, rfl, hp⟩
theorem impl_within.eq (a b c : Int) : impl_within.f a b c = some (decide (b ≤ a ∧ a ≤ c)) := by
  unfold impl_within.f
  by_cases h : b ≤ a <;> simp [h]
theorem impl_isPoint.eq (a : Int) : impl_isPoint.f a = some (isPt a) := by
  simp only [impl_isPoint.f, impl_within.eq, Option.bind_some, isPt, decide_eq_true_eq]
  split <;> (refine some_b ?_; simp only [Bool.not_eq_true', decide_eq_true_eq, decide_eq_false_iff_not, Bool.false_eq_true]; first | omega | (rw [false_iff]; omega))
theorem slices_IndexFunc_sint64_int64.loop (l : List Int) (hl : l.length ≤ 300) (d : Nat) : ∀ (k i : Nat), i ≤ l.length → l.length - i = d → d < k → ∃ r : Int, slices_IndexFunc_sint64_int64.l0 k l (l.length : Int) (i : Int) = some r ∧ (0 ≤ r ↔ (l.drop i).all isPt = false) := by
  induction d with
  | zero =>
    intro k i hi hd hk
    obtain ⟨k, rfl⟩ : ∃ m, k = m + 1 := ⟨k - 1, by omega⟩
    refine ⟨-1, ?_, ?_⟩
    · simp only [slices_IndexFunc_sint64_int64.l0]
      rw [if_neg (by omega)]
    · rw [List.drop_eq_nil_of_le (by omega)]
      simp
  | succ d ih =>
    intro k i hi hd hk
    obtain ⟨k, rfl⟩ : ∃ m, k = m + 1 := ⟨k - 1, by omega⟩
    have hlt : i < l.length := by omega
    have hp : impl_PointsRight_1.f (rd l (i : Int)) = some (!isPt (rd l (i : Int))) := by
      unfold impl_PointsRight_1.f
      rw [impl_isPoint.eq]
      rfl
    simp only [slices_IndexFunc_sint64_int64.l0]
    rw [if_pos (int_lt hlt), if_pos (int_nn i), if_pos (int_lt hlt), hp, wrap_succ (by omega), drop_rd hlt]
    simp only [Option.bind_some, List.all_cons]
    cases isPt (rd l (i : Int))
    · exact ⟨i, by simp, by simp⟩
    · simpa using ih k (i + 1) (by omega) (by omega) (by omega)
theorem impl_PointsRight.eq (l : List Int) {k : Nat} (hk : 300 < k) : impl_PointsRight.f k l = some (ptsOK l) := by
  unfold impl_PointsRight.f ptsOK
  by_cases h : l.length ≤ 300
  · rw [if_pos (by omega)]
    obtain ⟨r, h1, h2⟩ := slices_IndexFunc_sint64_int64.loop l h l.length k 0 (by omega) (by omega) (by omega)
    unfold slices_ContainsFunc_sint64_int64.f slices_IndexFunc_sint64_int64.f
    rw [show ((0 : Nat) : Int) = 0 from rfl] at h1
    rw [h1]
    simp only [Option.bind_some, h, decide_true, Bool.true_and]
    rw [List.drop_zero] at h2
    refine some_b ?_
    cases hq : l.all isPt
    · have := h2.2 hq; simp; omega
    · have : ¬ 0 ≤ r := fun h3 => by rw [h2.1 h3] at hq; cases hq
      simp; omega
  · rw [if_neg (by omega)]
    simp [h]
theorem impl_isControl.eq (a : Int) : impl_isControl.f a = some (isCtl a) := by
  unfold impl_isControl.f isCtl
  by_cases h : a < 32
  · simp [h]
  · by_cases h2 : a = 127 <;> simp [h, h2]
def shw (a : Int) : List Int := if isCtl a = true then [94, Go.bits .xor .i64 a 64] else [a]
def shwL : List Int → List Int
  | [] => []
  | a :: l => shw a ++ shwL l
theorem shwL_nil : shwL [] = [] := rfl
theorem shwL_cons (a : Int) (l : List Int) : shwL (a :: l) = shw a ++ shwL l := rfl
theorem shw_len (a : Int) : (shw a).length ≤ 2 := by
  unfold shw
  split <;> simp
theorem shwL_len (l : List Int) : (shwL l).length ≤ 2 * l.length := by
  induction l with
  | nil => simp [shwL_nil]
  | cons a l ih =>
    have := shw_len a
    rw [shwL_cons, List.length_append, List.length_cons]
    omega
theorem impl_shown.eq (a : Int) : impl_shown.f a = some (shw a) := by
  unfold impl_shown.f shw
  rw [impl_isControl.eq]
  simp only [Option.bind_some]
  split <;> rfl
theorem impl_ShownOf.loop (l : List Int) (hl : l.length ≤ 1048576) (d : Nat) : ∀ (k i : Nat) (s : List Int), i ≤ l.length → l.length - i = d → d < k → s.length ≤ 2 * i → impl_ShownOf.l0 k s l (l.length : Int) (i : Int) = some (s ++ shwL (l.drop i)) := by
  induction d with
  | zero =>
    intro k i s hi hd hk hs
    obtain ⟨k, rfl⟩ : ∃ m, k = m + 1 := ⟨k - 1, by omega⟩
    simp only [impl_ShownOf.l0]
    rw [if_neg (by omega), List.drop_eq_nil_of_le (by omega), shwL_nil, List.append_nil]
  | succ d ih =>
    intro k i s hi hd hk hs
    obtain ⟨k, rfl⟩ : ∃ m, k = m + 1 := ⟨k - 1, by omega⟩
    have hlt : i < l.length := by omega
    have hw := shw_len (rd l (i : Int))
    simp only [impl_ShownOf.l0]
    rw [if_pos (int_lt hlt), if_pos (int_nn i), if_pos (int_lt hlt), impl_shown.eq]
    simp only [Option.bind_some]
    rw [if_pos (by omega), wrap_succ (by omega), ih k (i + 1) _ (by omega) (by omega) (by omega) (by rw [List.length_append]; omega), drop_rd hlt, shwL_cons, List.append_assoc]
theorem impl_ShownOf.eq (l : List Int) {k : Nat} (hk : 400 < k) : impl_ShownOf.f k l = some (if ptsOK l = true then shwL l else []) := by
  unfold impl_ShownOf.f
  rw [impl_PointsRight.eq _ (by omega)]
  simp only [Option.bind_some]
  by_cases g : ptsOK l = true
  · have hl := ptsOK_len g
    have := impl_ShownOf.loop l (by omega) l.length k 0 [] (by omega) (by omega) (by omega) (by simp)
    rw [List.nil_append, List.drop_zero] at this
    rw [if_pos g, if_pos g]
    exact this
  · rw [if_neg g, if_neg g]
theorem spec_l01Point.eq (a : Int) : spec_l01Point.f a = some (isPt a) := by
  simp only [spec_l01Point.f, isPt]
  (repeat' split) <;> (refine some_b ?_; simp only [Bool.not_eq_true', Bool.not_false, decide_eq_true_eq, decide_eq_false_iff_not, Bool.false_eq_true]; first | omega | (rw [false_iff]; omega) | (rw [true_iff]; omega))
theorem spec_PointsRight.loop (l : List Int) (hl : l.length ≤ 300) (d : Nat) : ∀ (k i : Nat), i ≤ l.length → l.length - i = d → d < k → spec_PointsRight.l0 k l (i : Int) = some ((l.drop i).all isPt) := by
  induction d with
  | zero =>
    intro k i hi hd hk
    obtain ⟨k, rfl⟩ : ∃ m, k = m + 1 := ⟨k - 1, by omega⟩
    simp only [spec_PointsRight.l0]
    rw [if_neg (by omega), List.drop_eq_nil_of_le (by omega)]
    rfl
  | succ d ih =>
    intro k i hi hd hk
    obtain ⟨k, rfl⟩ : ∃ m, k = m + 1 := ⟨k - 1, by omega⟩
    have hlt : i < l.length := by omega
    simp only [spec_PointsRight.l0]
    rw [if_pos (int_lt hlt), if_pos (int_nn i), spec_l01Point.eq, wrap_succ (by omega), ih k (i + 1) (by omega) (by omega) (by omega), drop_rd hlt]
    simp only [Option.bind_some, List.all_cons]
    cases isPt (rd l (i : Int)) <;> simp
theorem spec_PointsRight.eq (l : List Int) {k : Nat} (hk : 300 < k) : spec_PointsRight.f k l = some (ptsOK l) := by
  unfold spec_PointsRight.f ptsOK
  by_cases h : l.length ≤ 300
  · rw [if_neg (by omega)]
    have := spec_PointsRight.loop l h l.length k 0 (by omega) (by omega) (by omega)
    simp only [h, decide_true, Bool.true_and]
    simpa using this
  · rw [if_pos (by omega)]
    simp [h]
set_option maxHeartbeats 4000000 in
theorem spec_WidthOf.eq (a : Int) {k : Nat} (hk : 0 < k) : spec_WidthOf.f k a = some (wid a) := by
  obtain ⟨k, rfl⟩ : ∃ m, k = m + 1 := ⟨k - 1, by omega⟩
  have hj : ∀ b : Bool, spec_WidthOf.j0 (k + 1) a b = some (if b = true then 0 else if isCtl a = true ∨ isWide2 a = true then 2 else 1) := by
    intro b
    cases b
    · simp only [spec_WidthOf.j0, isCtl, isWide2, decide_eq_true_eq, Bool.false_eq_true, if_false]
      rcases (by omega : a < 32 ∨ (32 ≤ a ∧ a < 127) ∨ a = 127 ∨ (127 < a ∧ a < 4352) ∨ (4352 ≤ a ∧ a ≤ 4447) ∨ (4447 < a ∧ a < 11904) ∨ (11904 ≤ a ∧ a ≤ 42191) ∨ (42191 < a ∧ a < 44032) ∨ (44032 ≤ a ∧ a ≤ 55203) ∨ (55203 < a ∧ a < 63744) ∨ (63744 ≤ a ∧ a ≤ 64255) ∨ (64255 < a ∧ a < 65281) ∨ (65281 ≤ a ∧ a ≤ 65376) ∨ (65376 < a ∧ a < 127744) ∨ (127744 ≤ a ∧ a ≤ 129791) ∨ 129791 < a) with h | h | h | h | h | h | h | h | h | h | h | h | h | h | h | h <;> simp (disch := omega) only [if_pos, if_neg]
    · rfl
  unfold spec_WidthOf.f wid
  rw [spec_l01Point.eq]
  simp only [Option.bind_some, hj]
  by_cases h1 : isPt a = true
  · by_cases h2 : 768 ≤ a
    · by_cases h3 : a ≤ 879
      · simp [h1, h2, h3]
      · simp [h1, h2, h3]
    · simp [h1, h2]
  · simp [h1]
def sumW : List Int → Int
  | [] => 0
  | a :: l => wid a + sumW l
theorem wid_in (a : Int) : 0 ≤ wid a ∧ wid a ≤ 2 := by
  unfold wid
  split
  · split <;> omega
  · omega
theorem spec_WidthSum.loop (l : List Int) (hl : l.length ≤ 1048576) (d : Nat) : ∀ (k i : Nat) (s : Int), i ≤ l.length → l.length - i = d → d + 20 < k → 0 ≤ s → s ≤ 2 * (i : Int) → spec_WidthSum.l0 k l s (i : Int) = some (s + sumW (l.drop i)) := by
  induction d with
  | zero =>
    intro k i s hi hd hk h0 h1
    obtain ⟨k, rfl⟩ : ∃ m, k = m + 1 := ⟨k - 1, by omega⟩
    simp only [spec_WidthSum.l0]
    rw [if_neg (by omega), List.drop_eq_nil_of_le (by omega)]
    simp [sumW]
  | succ d ih =>
    intro k i s hi hd hk h0 h1
    obtain ⟨k, rfl⟩ : ∃ m, k = m + 1 := ⟨k - 1, by omega⟩
    have hlt : i < l.length := by omega
    have hw := wid_in (rd l (i : Int))
    simp only [spec_WidthSum.l0]
    rw [if_pos (int_lt hlt), if_pos (int_nn i), spec_WidthOf.eq _ (by omega)]
    simp only [Option.bind_some]
    rw [wrap_succ (by omega), wrap_in (by omega) (by omega), ih k (i + 1) _ (by omega) (by omega) (by omega) (by omega) (by omega), drop_rd hlt]
    simp only [sumW]
    congr 1
    omega
theorem spec_WidthSum.eq {k : Nat} (l : List Int) (hk : 400 < k) : spec_WidthSum.f k l = some (if ptsOK l = true then sumW l else 0) := by
  obtain ⟨k, rfl⟩ : ∃ m, k = m + 1 := ⟨k - 1, by omega⟩
  unfold spec_WidthSum.f
  by_cases h : l.length ≤ 400
  · rw [if_neg (by omega), spec_PointsRight.eq _ (by omega)]
    simp only [Option.bind_some, spec_WidthSum.j0]
    by_cases g : ptsOK l = true
    · have hl := ptsOK_len g
      have := spec_WidthSum.loop l (by omega) l.length k 0 0 (by omega) (by omega) (by omega) (by omega) (by omega)
      simp only [Int.zero_add, List.drop_zero] at this
      rw [g, if_neg (by simp), if_pos rfl]
      exact this
    · have g : ptsOK l = false := by simpa using g
      simp [g]
  · have g : ptsOK l = false := by
      by_cases g : ptsOK l = true
      · have := ptsOK_len g; omega
      · simpa using g
    rw [if_pos (by omega)]
    simp [spec_WidthSum.j0, g]
def widTab : List S66 := [(⟨4352, 4447⟩ : S66), (⟨11904, 42191⟩ : S66), (⟨44032, 55203⟩ : S66), (⟨63744, 64255⟩ : S66), (⟨65281, 65376⟩ : S66), (⟨127744, 129791⟩ : S66)]
theorem impl_WidthOf.step (k : Nat) (a : Int) (i : Nat) (hi : i < 6) : impl_WidthOf.l0 (k + 1) a widTab 6 (i : Int) = if (rd_T66 widTab (i : Int)).f0 ≤ a ∧ a ≤ (rd_T66 widTab (i : Int)).f1 then some 2 else impl_WidthOf.l0 k a widTab 6 ((i + 1 : Nat) : Int) := by
  rw [impl_WidthOf.l0, if_pos (by omega), if_pos (by omega), if_pos (show (i : Int) < (widTab.length : Int) by show (i : Int) < ((6 : Nat) : Int); omega), impl_within.eq, wrap_succ (by omega)]
  simp only [Option.bind_some, decide_eq_true_eq]
theorem impl_WidthOf.loop (k : Nat) (a : Int) : impl_WidthOf.l0 (k + 7) a widTab 6 0 = some (if isWide2 a = true then 2 else 1) := by
  have e0 := impl_WidthOf.step (k + 6) a 0 (by decide)
  have e1 := impl_WidthOf.step (k + 5) a 1 (by decide)
  have e2 := impl_WidthOf.step (k + 4) a 2 (by decide)
  have e3 := impl_WidthOf.step (k + 3) a 3 (by decide)
  have e4 := impl_WidthOf.step (k + 2) a 4 (by decide)
  have e5 := impl_WidthOf.step (k + 1) a 5 (by decide)
  have e6 : impl_WidthOf.l0 (k + 1) a widTab 6 ((5 + 1 : Nat) : Int) = some 1 := by
    rw [impl_WidthOf.l0, if_neg (by decide)]
  rw [e6] at e5; rw [e5] at e4; rw [e4] at e3; rw [e3] at e2; rw [e2] at e1; rw [e1] at e0
  refine (show impl_WidthOf.l0 (k + 7) a widTab 6 0 = _ from e0).trans ?_
  show (if (4352 : Int) ≤ a ∧ a ≤ 4447 then some (2 : Int) else if (11904 : Int) ≤ a ∧ a ≤ 42191 then some 2 else if (44032 : Int) ≤ a ∧ a ≤ 55203 then some 2 else if (63744 : Int) ≤ a ∧ a ≤ 64255 then some 2 else if (65281 : Int) ≤ a ∧ a ≤ 65376 then some 2 else if (127744 : Int) ≤ a ∧ a ≤ 129791 then some 2 else some 1) = _
  unfold isWide2
  simp only [decide_eq_true_eq]
  (repeat' split) <;> first | rfl | omega
theorem impl_WidthOf.eq (a : Int) {k : Nat} (hk : 8 < k) : impl_WidthOf.f k a = some (wid a) := by
  obtain ⟨k, rfl⟩ : ∃ m, k = m + 8 := ⟨k - 8, by omega⟩
  have hj : ∀ b : Bool, impl_WidthOf.j0 (k + 8) a b = some (if b = true then 0 else if isCtl a = true ∨ isWide2 a = true then 2 else 1) := by
    intro b
    cases b
    · rw [impl_WidthOf.j0, if_neg (by decide), impl_isControl.eq]
      simp only [Option.bind_some, Bool.false_eq_true, if_false]
      have hl := impl_WidthOf.loop k a
      cases isCtl a
      · rw [if_neg (by decide)]
        refine Eq.trans (show _ = impl_WidthOf.l0 (k + 7) a widTab 6 0 from rfl) ?_
        rw [hl]
        simp
      · rfl
    · rw [impl_WidthOf.j0]
      rfl
  unfold impl_WidthOf.f wid
  rw [impl_isPoint.eq]
  simp only [Option.bind_some, impl_within.eq, hj, decide_eq_true_eq]
  by_cases h1 : isPt a = true
  · by_cases h2 : 768 ≤ a ∧ a ≤ 879
    · simp [h1, h2]
    · simp [h1, h2]
  · simp [h1]
theorem impl_WidthSum.loop (l : List Int) (hl : l.length ≤ 1048576) (d : Nat) : ∀ (k i : Nat) (s : Int), i ≤ l.length → l.length - i = d → d + 20 < k → 0 ≤ s → s ≤ 2 * (i : Int) → impl_WidthSum.l0 k s l (l.length : Int) (i : Int) = some (s + sumW (l.drop i)) := by
  induction d with
  | zero =>
    intro k i s hi hd hk h0 h1
    obtain ⟨k, rfl⟩ : ∃ m, k = m + 1 := ⟨k - 1, by omega⟩
    simp only [impl_WidthSum.l0]
    rw [if_neg (by omega), List.drop_eq_nil_of_le (by omega)]
    simp [sumW]
  | succ d ih =>
    intro k i s hi hd hk h0 h1
    obtain ⟨k, rfl⟩ : ∃ m, k = m + 1 := ⟨k - 1, by omega⟩
    have hlt : i < l.length := by omega
    have hw := wid_in (rd l (i : Int))
    simp only [impl_WidthSum.l0]
    rw [if_pos (int_lt hlt), if_pos (int_nn i), if_pos (int_lt hlt), impl_WidthOf.eq _ (by omega)]
    simp only [Option.bind_some]
    rw [wrap_succ (by omega), wrap_in (by omega) (by omega), ih k (i + 1) _ (by omega) (by omega) (by omega) (by omega) (by omega), drop_rd hlt]
    simp only [sumW]
    congr 1
    omega
theorem impl_WidthSum.eq {k : Nat} (l : List Int) (hk : 400 < k) : impl_WidthSum.f k l = some (if ptsOK l = true then sumW l else 0) := by
  unfold impl_WidthSum.f
  rw [impl_PointsRight.eq _ (by omega)]
  simp only [Option.bind_some]
  by_cases g : ptsOK l = true
  · have hl := ptsOK_len g
    have := impl_WidthSum.loop l (by omega) l.length k 0 0 (by omega) (by omega) (by omega) (by omega) (by omega)
    simp only [Int.zero_add, List.drop_zero] at this
    rw [if_pos g, if_pos g]
    exact this
  · rw [if_neg g, if_neg g]
theorem laws_lwCopy.eq {l : List Int} (h : l.length ≤ 2000000) : laws_lwCopy.f l = some l := by
  unfold laws_lwCopy.f
  simp only [Option.bind_some, List.length_nil, List.nil_append]
  rw [if_pos (by omega)]
theorem ctl_tab : ∀ n : Nat, n < 128 → (n < 32 ∨ n = 127) → wid (Go.bits .xor .i64 (n : Int) 64) = 1 ∧ 32 ≤ Go.bits .xor .i64 (n : Int) 64 ∧ Go.bits .xor .i64 (n : Int) 64 ≠ 127 := by decide
def seen (a : Int) : Prop := 32 ≤ a ∧ a ≠ 127
theorem shw_ok {a : Int} (h : isPt a = true) : sumW (shw a) = wid a ∧ ∀ x ∈ shw a, seen x := by
  have hp : 0 ≤ a ∧ a ≤ 1114111 ∧ ¬ (55296 ≤ a ∧ a ≤ 57343) := by unfold isPt at h; exact of_decide_eq_true h
  unfold shw
  by_cases hc : isCtl a = true
  · have hc2 : a < 32 ∨ a = 127 := by unfold isCtl at hc; exact of_decide_eq_true hc
    obtain ⟨n, rfl⟩ : ∃ n : Nat, a = (n : Int) := ⟨a.toNat, by omega⟩
    obtain ⟨t1, t2, t3⟩ := ctl_tab n (by omega) (by omega)
    rw [if_pos hc]
    constructor
    · simp only [sumW]
      rw [t1, show wid 94 = 1 by decide]
      unfold wid
      rw [if_pos ⟨h, by omega⟩, if_pos (Or.inl hc)]
      rfl
    · intro x hx
      rcases List.mem_cons.1 hx with rfl | hx
      · exact ⟨by decide, by decide⟩
      · rcases List.mem_cons.1 hx with rfl | hx
        · exact ⟨t2, t3⟩
        · cases hx
  · have hc2 : ¬ (a < 32 ∨ a = 127) := by unfold isCtl at hc; simpa using hc
    rw [if_neg hc]
    constructor
    · simp only [sumW]
      omega
    · intro x hx
      rcases List.mem_cons.1 hx with rfl | hx
      · exact ⟨by omega, by omega⟩
      · cases hx
theorem sumW_app (a b : List Int) : sumW (a ++ b) = sumW a + sumW b := by
  induction a with
  | nil => simp [sumW]
  | cons x a ih =>
    rw [List.cons_append]
    simp only [sumW]
    omega
theorem shwL_ok (l : List Int) (h : ∀ a ∈ l, isPt a = true) : sumW (shwL l) = sumW l ∧ (∀ x ∈ shwL l, seen x) ∧ l.length ≤ (shwL l).length := by
  induction l with
  | nil => exact ⟨rfl, ⟨fun x hx => absurd hx (by rw [shwL_nil]; exact List.not_mem_nil), Nat.le_refl _⟩⟩
  | cons a l ih =>
    obtain ⟨h1, h2, h3⟩ := ih (fun y hy => h y (List.mem_cons_of_mem _ hy))
    obtain ⟨g1, g2⟩ := shw_ok (h a (List.mem_cons_self))
    have g3 : 1 ≤ (shw a).length := by unfold shw; split <;> simp
    rw [shwL_cons]
    refine ⟨?_, fun x hx => (List.mem_append.1 hx).elim (g2 x) (h2 x), by rw [List.length_append, List.length_cons]; omega⟩
    rw [sumW_app, g1, h1]
    simp only [sumW]
theorem laws_FnWidths.loop (p s : List Int) (hp : ptsOK p = true) (hs : s.length ≤ 700) (hv : ∀ x ∈ s, seen x) (hsum : sumW s = sumW p) (hlen : p.length ≤ s.length) (d : Nat) : ∀ (k i : Nat) (c : Int), i ≤ s.length → s.length - i = d → 2 * d + 1000 < k → 0 ≤ c → c ≤ 2 * (i : Int) → c + sumW (s.drop i) = sumW s → laws_FnWidths.l0 k p s c (i : Int) = some true := by
  have hl := ptsOK_len hp
  induction d with
  | zero =>
    intro k i c hi hd hk h0 h1 hc
    obtain ⟨k, rfl⟩ : ∃ m, k = m + 1 := ⟨k - 1, by omega⟩
    rw [List.drop_eq_nil_of_le (by omega)] at hc
    simp only [sumW] at hc
    rw [laws_FnWidths.l0, if_neg (by omega), if_pos (by omega), laws_lwCopy.eq (by omega)]
    simp only [Option.bind_some]
    rw [impl_WidthSum.eq _ (by omega), spec_WidthSum.eq _ (by omega), if_pos hp]
    simp only [Option.bind_some]
    rw [if_pos (by omega)]
    refine congrArg some ?_
    rw [beq_iff_eq]
    omega
  | succ d ih =>
    intro k i c hi hd hk h0 h1 hc
    obtain ⟨k, rfl⟩ : ∃ m, k = m + 2 := ⟨k - 2, by omega⟩
    have hlt : i < s.length := by omega
    have hx : seen (rd s (i : Int)) := by
      have : rd s (i : Int) = s[i] := by rw [rd_nat, List.getD_eq_getElem?_getD, List.getElem?_eq_getElem hlt]; rfl
      rw [this]
      exact hv _ (List.getElem_mem hlt)
    have hw := wid_in (rd s (i : Int))
    rw [drop_rd hlt] at hc
    simp only [sumW] at hc
    rw [laws_FnWidths.l0, if_pos (by omega), laws_FnWidths.j2, if_pos (by omega), if_pos (by omega), if_neg (by have := hx.1; omega), if_neg hx.2, impl_WidthOf.eq _ (by omega)]
    simp only [Option.bind_some]
    rw [wrap_succ (by omega), wrap_in (by omega) (by omega)]
    exact ih k (i + 1) _ (by omega) (by omega) (by omega) (by omega) (by omega) (by omega)

theorem FnWidths : laws_FnWidths.Pure := by
  intro l ⟨hl, _⟩
  have hl := maxLen_le hl
  refine ⟨4000000, ?_⟩
  unfold laws_FnWidths.f
  by_cases h : (l.length : Int) > 1048576
  · rw [if_pos h]
  · obtain ⟨p, hp, hpl⟩ := spec_DrawShownOf.eq l (by omega) (k := 4000000) (by omega)
    rw [if_neg h, hp]
    simp only [Option.bind_some]
    rw [laws_lwCopy.eq (by omega)]
    simp only [Option.bind_some]
    rw [impl_ShownOf.eq p (by omega), spec_PointsRight.eq p (by omega)]
    simp only [Option.bind_some]
    by_cases g : ptsOK p = true
    · rw [if_pos g, if_pos g, laws_FnWidths.j0]
      have ha : ∀ a ∈ p, isPt a = true := by
        unfold ptsOK at g
        simp only [Bool.and_eq_true, decide_eq_true_eq] at g
        exact fun a ha => List.all_eq_true.1 g.2 a ha
      obtain ⟨s1, s2, s3⟩ := shwL_ok p ha
      have s4 := shwL_len p
      have := laws_FnWidths.loop p (shwL p) g (by omega) s2 s1 s3 (shwL p).length 3999999 0 0 (by omega) (by omega) (by omega) (by omega) (by omega) (by rw [List.drop_zero]; omega)
      exact this
    · rw [if_neg g, if_neg g]
      simp only [List.length_nil]
      rw [if_pos (show ((0 : Nat) : Int) = 0 from rfl)]
      rw [impl_WidthSum.eq p (by omega), if_neg g]
      rfl

end Go.Proofs.Ythcnhafdhjajpaa.Pure
