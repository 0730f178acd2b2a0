/- Proved: for every code of at most 2^20 bytes, each place of the buffer drawn from it comes back from its spot, spots go on with places, and the last one is in the last line. No conditions. -/
import Derived.Test.YthcnhafdhjajpaaPFnPlacesx6
namespace Go.Proofs.Ythcnhafdhjajpaa.Pure
open Go.RowKit Go.Proofs.Ythcnhafdhjajpaa.PFnPlaces Go.Proofs.YthcnhafdhjajpaaW.PrintWords Go.Proofs.YthcnhafdhjajpaaW.PrintLast Go.Proofs.YthcnhafdhjajpaaW.PrintMore
set_option linter.unusedVariables false
set_option linter.unusedSimpArgs false

/-! ### plain words -/
theorem wrap_in {x : Int} (h0 : -9223372036854775808 ≤ x) (h1 : x ≤ 9223372036854775807) : wrap64 x = x := by unfold wrap64; omega
theorem wrap_succ {i : Nat} (h : i < 4611686018427387904) : wrap64 ((i : Int) + 1) = ((i + 1 : Nat) : Int) := by unfold wrap64; omega
theorem rd_nat (l : List Int) (i : Nat) : rd l (i : Int) = l.getD i 0 := by simp [rd]
theorem drop_rd {l : List Int} {i : Nat} (h : i < l.length) : l.drop i = rd l (i : Int) :: l.drop (i + 1) := by
  rw [rd_nat, List.drop_eq_getElem_cons h, List.getD_eq_getElem?_getD, List.getElem?_eq_getElem h]
  rfl
theorem int_lt {i n : Nat} (h : i < n) : (i : Int) < (n : Int) := by omega
theorem int_nlt {i n : Nat} (h : ¬ i < n) : ¬ (i : Int) < (n : Int) := by omega
theorem int_nn (i : Nat) : (0 : Int) ≤ (i : Int) := by omega
theorem maxLen_le {n : Nat} (h : n ≤ maxLen) : n ≤ 9223372036854775807 := by unfold maxLen at h; exact h
theorem some_b {a b : Bool} (h : a = true ↔ b = true) : some a = some b := congrArg some (Bool.eq_iff_iff.2 h)
def isPt (a : Int) : Bool := decide (0 ≤ a ∧ a ≤ 1114111 ∧ ¬ (55296 ≤ a ∧ a ≤ 57343))
def ptsOK (l : List Int) : Bool := decide (l.length ≤ 300) && l.all isPt
def bufOK (l : List Int) (c m : Int) : Bool := ptsOK l && decide (0 ≤ c ∧ c ≤ l.length) && decide (0 ≤ m ∧ m ≤ l.length)
def isCtl (a : Int) : Bool := decide (a < 32 ∨ a = 127)
def isWide2 (a : Int) : Bool := decide ((4352 ≤ a ∧ a ≤ 4447) ∨ (11904 ≤ a ∧ a ≤ 42191) ∨ (44032 ≤ a ∧ a ≤ 55203) ∨ (63744 ≤ a ∧ a ≤ 64255) ∨ (65281 ≤ a ∧ a ≤ 65376) ∨ (127744 ≤ a ∧ a ≤ 129791))
def wid (a : Int) : Int := if isPt a = true ∧ ¬ (768 ≤ a ∧ a ≤ 879) then (if isCtl a = true ∨ isWide2 a = true then 2 else 1) else 0
def cl2 (a : Int) : Int := if (97 ≤ a ∧ a ≤ 122) ∨ (65 ≤ a ∧ a ≤ 90) ∨ (48 ≤ a ∧ a ≤ 57) ∨ a = 95 ∨ 128 ≤ a then 2 else 3
def cls (a : Int) : Int := if isPt a = true then (if a = 32 ∨ a = 9 ∨ a = 10 then 1 else cl2 a) else 0
theorem ptsOK_len {l : List Int} (h : ptsOK l = true) : l.length ≤ 300 := by
  unfold ptsOK at h
  simp only [Bool.and_eq_true, decide_eq_true_eq] at h
  exact h.1
theorem bufOK_len {l : List Int} {c m : Int} (h : bufOK l c m = true) : l.length ≤ 300 := by
  unfold bufOK at h
  simp only [Bool.and_eq_true] at h
  exact ptsOK_len h.1.1
theorem bufOK_all {l : List Int} {c m : Int} (h : bufOK l c m = true) : l.length ≤ 300 ∧ 0 ≤ c ∧ c ≤ l.length ∧ 0 ≤ m ∧ m ≤ l.length := by
  have hl := bufOK_len h
  unfold bufOK at h
  simp only [Bool.and_eq_true, decide_eq_true_eq] at h
  exact ⟨hl, h.1.2.1, h.1.2.2, h.2.1, h.2.2⟩
/-! ### draws: what they yield is some value, within bounds -/
theorem u64_in {t : Int} (h0 : 0 ≤ t) (h1 : t ≤ 4611686018427387904) : IntKind.u64.wrap t = t := by
  rw [Go.IntKind.wrap_u64]
  omega
theorem tmod_in (X : Int) {t : Int} (h0 : 1 < t) (h1 : t ≤ 4611686018427387904) : 0 ≤ wrap64 (Int.tmod (IntKind.u64.wrap X) (IntKind.u64.wrap t)) ∧ wrap64 (Int.tmod (IntKind.u64.wrap X) (IntKind.u64.wrap t)) < t := by
  have hX : 0 ≤ IntKind.u64.wrap X := by rw [Go.IntKind.wrap_u64]; omega
  rw [u64_in (by omega) h1, Int.tmod_eq_emod_of_nonneg hX]
  have a1 := Int.emod_nonneg (IntKind.u64.wrap X) (show t ≠ 0 by omega)
  have a2 := Int.emod_lt_of_pos (IntKind.u64.wrap X) (show 0 < t by omega)
  rw [wrap_in (by omega) (by omega)]
  exact ⟨a1, a2⟩
theorem spec_l01Src_n.eq (b : List Int) (a m z t : Int) (hb : b.length ≤ 1048576) (h0 : 0 ≤ a) (h1 : a ≤ b.length) (ht : t ≤ 4611686018427387904) : ∃ v a' m', spec_l01Src_n.f b a m z t = some (v, a', m', z) ∧ 0 ≤ v ∧ (v < t ∨ v = 0) ∧ 0 ≤ a' ∧ a' ≤ b.length := by
  unfold spec_l01Src_n.f
  by_cases h : t ≤ 1
  · rw [if_pos h]
    exact ⟨_, _, _, rfl, by omega, by omega, h0, h1⟩
  · have e : ¬ IntKind.u64.wrap t = 0 := by
      rw [u64_in (by omega) ht]
      omega
    rw [if_neg h]
    by_cases g : a < (b.length : Int)
    · rw [if_pos g, if_pos h0, if_neg e]
      refine ⟨_, _, _, rfl, (tmod_in _ (by omega) ht).1, Or.inl (tmod_in _ (by omega) ht).2, ?_, ?_⟩
      · rw [wrap_in (by omega) (by omega)]; omega
      · rw [wrap_in (by omega) (by omega)]; omega
    · rw [if_neg g, if_neg e]
      exact ⟨_, _, _, rfl, (tmod_in _ (by omega) ht).1, Or.inl (tmod_in _ (by omega) ht).2, h0, h1⟩
theorem spec_l01Src_one.eq (b : List Int) (a m z t : Int) (hb : b.length ≤ 1048576) (h0 : 0 ≤ a) (h1 : a ≤ b.length) (ht : t ≤ 4611686018427387904) : ∃ v a' m', spec_l01Src_one.f b a m z t = some (v, a', m', z) ∧ 0 ≤ a' ∧ a' ≤ b.length := by
  obtain ⟨v, a', m', e, _, _, g1, g2⟩ := spec_l01Src_n.eq b a m z t hb h0 h1 ht
  unfold spec_l01Src_one.f
  rw [e]
  exact ⟨_, _, _, rfl, g1, g2⟩
theorem spec_l01Src_point.eq (b : List Int) (a m z : Int) (hb : b.length ≤ 1048576) (h0 : 0 ≤ a) (h1 : a ≤ b.length) : ∃ v a' m', spec_l01Src_point.f b a m z = some (v, a', m', z) ∧ 0 ≤ a' ∧ a' ≤ b.length := by
  obtain ⟨v, a1, m1, e, v0, v1, g1, g2⟩ := spec_l01Src_n.eq b a m z 14 hb h0 h1 (by omega)
  unfold spec_l01Src_point.f
  rw [e]
  simp only [Option.bind_some]
  by_cases c0 : v = 0
  · rw [if_pos c0]; exact ⟨_, _, _, rfl, g1, g2⟩
  rw [if_neg c0]
  by_cases c1 : v = 1
  · rw [if_pos c1]; exact ⟨_, _, _, rfl, g1, g2⟩
  rw [if_neg c1]
  by_cases c2 : v = 2
  · rw [if_pos c2]
    obtain ⟨q, a2, m2, e2, q0, q1, k1, k2⟩ := spec_l01Src_n.eq b a1 m1 z 5 hb g1 g2 (by omega)
    rw [e2]
    simp only [Option.bind_some, List.length_cons, List.length_nil]
    rw [if_pos (by omega), if_pos (by omega)]
    exact ⟨_, _, _, rfl, k1, k2⟩
  rw [if_neg c2]
  by_cases c3 : v = 3
  · rw [if_pos c3]
    obtain ⟨q, a2, m2, e2, q0, q1, k1, k2⟩ := spec_l01Src_n.eq b a1 m1 z 20 hb g1 g2 (by omega)
    rw [e2]
    simp only [Option.bind_some, List.length_cons, List.length_nil]
    rw [if_pos (by omega), if_pos (by omega)]
    exact ⟨_, _, _, rfl, k1, k2⟩
  rw [if_neg c3]
  by_cases c4 : v = 4
  · rw [if_pos c4]
    obtain ⟨q, a2, m2, e2, q0, q1, k1, k2⟩ := spec_l01Src_n.eq b a1 m1 z 8 hb g1 g2 (by omega)
    rw [e2]
    simp only [Option.bind_some, List.length_cons, List.length_nil]
    rw [if_pos (by omega), if_pos (by omega)]
    exact ⟨_, _, _, rfl, k1, k2⟩
  rw [if_neg c4]
  by_cases c5 : v = 5
  · rw [if_pos c5]
    obtain ⟨q, a2, m2, e2, q0, q1, k1, k2⟩ := spec_l01Src_n.eq b a1 m1 z 5 hb g1 g2 (by omega)
    rw [e2]
    simp only [Option.bind_some, List.length_cons, List.length_nil]
    rw [if_pos (by omega), if_pos (by omega)]
    exact ⟨_, _, _, rfl, k1, k2⟩
  rw [if_neg c5]
  by_cases c6 : v = 6
  · rw [if_pos c6]
    obtain ⟨q, a2, m2, e2, q0, q1, k1, k2⟩ := spec_l01Src_n.eq b a1 m1 z 10 hb g1 g2 (by omega)
    rw [e2]
    exact ⟨_, _, _, rfl, k1, k2⟩
  rw [if_neg c6]
  obtain ⟨q, a2, m2, e2, q0, q1, k1, k2⟩ := spec_l01Src_n.eq b a1 m1 z 6 hb g1 g2 (by omega)
  rw [e2]
  exact ⟨_, _, _, rfl, k1, k2⟩
theorem spec_l01Src_points.loop (b : List Int) (z : Int) (hb : b.length ≤ 1048576) (t : Nat) : ∀ (k : Nat) (acc : List Int) (a m : Int), acc.length + t ≤ 1000000 → 0 ≤ a → a ≤ b.length → t < k → ∃ p a' m', spec_l01Src_points.l0 k (t : Int) acc b a m z = some (p, a', m', z) ∧ p.length = acc.length + t ∧ 0 ≤ a' ∧ a' ≤ b.length := by
  induction t with
  | zero =>
    intro k acc a m ha h0 h1 hk
    obtain ⟨k, rfl⟩ : ∃ m, k = m + 1 := ⟨k - 1, by omega⟩
    exact ⟨acc, a, m, rfl, rfl, h0, h1⟩
  | succ t ih =>
    intro k acc a m ha h0 h1 hk
    obtain ⟨k, rfl⟩ : ∃ m, k = m + 1 := ⟨k - 1, by omega⟩
    obtain ⟨v, a1, m1, e, g1, g2⟩ := spec_l01Src_point.eq b a m z hb h0 h1
    obtain ⟨p, a2, m2, e2, hp, k1, k2⟩ := ih k (acc ++ [v]) a1 m1 (by rw [List.length_append, List.length_singleton]; omega) g1 g2 (by omega)
    rw [spec_l01Src_points.l0, if_pos (by omega), e, show wrap64 (((t + 1 : Nat) : Int) - 1) = (t : Int) by rw [wrap_in (by omega) (by omega)]; omega]
    simp only [Option.bind_some]
    rw [if_pos (by omega), e2]
    exact ⟨p, a2, m2, rfl, by rw [hp, List.length_append, List.length_singleton]; omega, k1, k2⟩
theorem spec_l01Src_points.eq (b : List Int) (a m z t : Int) (hb : b.length ≤ 1048576) (h0 : 0 ≤ a) (h1 : a ≤ b.length) (ht0 : 0 ≤ t) (ht : t ≤ 1000) {k : Nat} (hk : 2000 < k) : ∃ p a' m', spec_l01Src_points.f k b a m z t = some (p, a', m', z) ∧ p.length = t.toNat ∧ 0 ≤ a' ∧ a' ≤ b.length := by
  obtain ⟨n, rfl⟩ : ∃ n : Nat, t = (n : Int) := ⟨t.toNat, by omega⟩
  obtain ⟨p, a', m', e, hp, g1, g2⟩ := spec_l01Src_points.loop b z hb n k [] a m (by simp only [List.length_nil]; omega) h0 h1 (by omega)
  refine ⟨p, a', m', e, ?_, g1, g2⟩
  rw [hp, List.length_nil]
  omega
theorem spec_l01Source.loop (l : List Int) (hl : l.length ≤ 1048576) (d : Nat) : ∀ (k i : Nat) (m : Int), i ≤ l.length → l.length - i = d → d < k → ∃ m' z, spec_l01Source.l0 k l (i : Int) l 0 m 0 = some (l, 0, m', z) ∧ 0 ≤ z ∧ z ≤ 12 := by
  have hz : wrap64 ((l.length : Int) / 20) = (l.length : Int) / 20 := wrap_in (by omega) (by omega)
  have hend : ∀ m : Int, ∃ m' z, (if wrap64 ((l.length : Int) / 20) > 12 then some (l, (0 : Int), m, (12 : Int)) else some (l, 0, m, wrap64 ((l.length : Int) / 20))) = some (l, 0, m', z) ∧ 0 ≤ z ∧ z ≤ 12 := by
    intro m
    rw [hz]
    by_cases g : (l.length : Int) / 20 > 12
    · rw [if_pos g]; exact ⟨_, _, rfl, by omega, by omega⟩
    · rw [if_neg g]; exact ⟨_, _, rfl, by omega, by omega⟩
  induction d with
  | zero =>
    intro k i m hi hd hk
    obtain ⟨k, rfl⟩ : ∃ m, k = m + 1 := ⟨k - 1, by omega⟩
    rw [spec_l01Source.l0, if_neg (by omega)]
    exact hend m
  | succ d ih =>
    intro k i m hi hd hk
    obtain ⟨k, rfl⟩ : ∃ m, k = m + 1 := ⟨k - 1, by omega⟩
    rw [spec_l01Source.l0, if_pos (by omega)]
    by_cases g : (i : Int) < 64
    · rw [if_pos g, if_pos (by omega), wrap_succ (by omega)]
      exact ih k (i + 1) _ (by omega) (by omega) (by omega)
    · rw [if_neg g]
      exact hend m
theorem spec_l01Source.eq (l : List Int) (hl : l.length ≤ 1048576) {k : Nat} (hk : 1048577 < k) : ∃ m' z, spec_l01Source.f k l = some (l, 0, m', z) ∧ 0 ≤ z ∧ z ≤ 12 := by
  obtain ⟨m', z, h⟩ := spec_l01Source.loop l hl l.length k 0 88172645463325252 (by omega) (by omega) (by omega)
  exact ⟨m', z, h⟩
theorem spec_l01Src_l02Buf.j0_eq (b : List Int) (a m z : Int) (p : List Int) (hb : b.length ≤ 1048576) (h0 : 0 ≤ a) (h1 : a ≤ b.length) (hp : p.length ≤ 302) {k : Nat} (hk : 0 < k) : ∃ p' c d a' m', spec_l01Src_l02Buf.j0 k b a m z p 0 0 = some (p', c, d, a', m', z) ∧ p'.length ≤ 303 ∧ 0 ≤ a' ∧ a' ≤ b.length := by
  obtain ⟨k, rfl⟩ : ∃ m, k = m + 1 := ⟨k - 1, by omega⟩
  rw [spec_l01Src_l02Buf.j0, wrap_in (x := (p.length : Int) + 1) (by omega) (by omega)]
  obtain ⟨v, a1, m1, e1, v0, v1, g1, g2⟩ := spec_l01Src_n.eq b a m z ((p.length : Int) + 1) hb h0 h1 (by omega)
  rw [e1]
  simp only [Option.bind_some]
  obtain ⟨u, a2, m2, e2, u0, u1, k1, k2⟩ := spec_l01Src_n.eq b a1 m1 z ((p.length : Int) + 1) hb g1 g2 (by omega)
  rw [e2]
  simp only [Option.bind_some]
  obtain ⟨o, a3, m3, e3, l1, l2⟩ := spec_l01Src_one.eq b a2 m2 z 15 hb k1 k2 (by omega)
  rw [e3]
  simp only [Option.bind_some]
  cases o
  · rw [if_neg (by decide)]
    exact ⟨_, _, _, _, _, rfl, by omega, l1, l2⟩
  · obtain ⟨q, a4, m4, e4, q0, q1, n1, n2⟩ := spec_l01Src_n.eq b a3 m3 z 3 hb l1 l2 (by omega)
    obtain ⟨r, a5, m5, e5, r0, r1, s1, s2⟩ := spec_l01Src_n.eq b a4 m4 z 2 hb n1 n2 (by omega)
    rw [if_pos rfl, e4]
    simp only [Option.bind_some]
    rw [e5]
    simp only [Option.bind_some, List.length_cons, List.length_nil]
    by_cases c0 : q = 0
    · rw [if_pos c0, if_pos (by omega), if_pos (by omega)]
      exact ⟨_, _, _, _, _, rfl, by omega, s1, s2⟩
    · rw [if_neg c0]
      by_cases c1 : q = 1
      · rw [if_pos c1, if_pos (by omega), if_pos (by omega)]
        exact ⟨_, _, _, _, _, rfl, by omega, s1, s2⟩
      · rw [if_neg c1, if_pos (by omega)]
        exact ⟨_, _, _, _, _, rfl, by rw [List.length_append, List.length_singleton]; omega, n1, n2⟩
theorem spec_l01Src_l02Buf.eq (b : List Int) (a m z : Int) (hb : b.length ≤ 1048576) (h0 : 0 ≤ a) (h1 : a ≤ b.length) (hz : 0 ≤ z) (hz2 : z ≤ 12) {k : Nat} (hk : 3000 < k) : ∃ p c d a' m', spec_l01Src_l02Buf.f k b a m z = some (p, c, d, a', m', z) ∧ p.length ≤ 303 ∧ 0 ≤ a' ∧ a' ≤ b.length := by
  unfold spec_l01Src_l02Buf.f
  rw [wrap_in (x := 2 * z) (by omega) (by omega), wrap_in (x := 14 + 2 * z) (by omega) (by omega)]
  obtain ⟨v, a1, m1, e, v0, v1, g1, g2⟩ := spec_l01Src_n.eq b a m z (14 + 2 * z) hb h0 h1 (by omega)
  rw [e]
  simp only [Option.bind_some]
  obtain ⟨p, a2, m2, e2, hp, k1, k2⟩ := spec_l01Src_points.eq b a1 m1 z v hb g1 g2 v0 (by omega) (k := k) (by omega)
  rw [e2]
  simp only [Option.bind_some]
  obtain ⟨o, a3, m3, e3, l1, l2⟩ := spec_l01Src_one.eq b a2 m2 z 50 hb k1 k2 (by omega)
  rw [e3]
  simp only [Option.bind_some]
  cases o
  · rw [if_neg (by decide)]
    exact spec_l01Src_l02Buf.j0_eq b a3 m3 z p hb l1 l2 (by omega) (by omega)
  · obtain ⟨q, a4, m4, e4, q0, q1, n1, n2⟩ := spec_l01Src_n.eq b a3 m3 z 4 hb l1 l2 (by omega)
    rw [if_pos rfl, e4]
    simp only [Option.bind_some]
    rw [wrap_in (x := 298 + q) (by omega) (by omega)]
    obtain ⟨p2, a5, m5, e5, hp2, r1, r2⟩ := spec_l01Src_points.eq b a4 m4 z (298 + q) hb n1 n2 (by omega) (by omega) (k := k) (by omega)
    rw [e5]
    simp only [Option.bind_some]
    exact spec_l01Src_l02Buf.j0_eq b a5 m5 z p2 hb r1 r2 (by omega) (by omega)
theorem spec_DrawLineCount.eq (l : List Int) (hl : l.length ≤ 1048576) {k : Nat} (hk : 2000000 < k) : ∃ p c d, spec_DrawLineCount.f k l = some (p, c, d) ∧ p.length ≤ 303 := by
  obtain ⟨m, z, e, hz, hz2⟩ := spec_l01Source.eq l hl (k := k) (by omega)
  obtain ⟨p, c, d, a', m', e2, hp, _⟩ := spec_l01Src_l02Buf.eq l 0 m z hl (by omega) (by omega) hz hz2 (k := k) (by omega)
  unfold spec_DrawLineCount.f
  rw [e]
  simp only [Option.bind_some]
  rw [e2]
  exact ⟨p, c, d, rfl, hp⟩
/-! ### lines of points -/
def stL (l : List Int) : Nat → Nat
  | 0 => 0
  | n + 1 => if rd l (n : Int) = 10 then n + 1 else stL l n
def ctL (l : List Int) : Nat → Nat
  | 0 => 0
  | n + 1 => if rd l (n : Int) = 10 then ctL l n + 1 else ctL l n
def lnL (l : List Int) : Nat → List Int
  | 0 => [0]
  | n + 1 => if rd l (n : Int) = 10 then lnL l n ++ [((n + 1 : Nat) : Int)] else lnL l n
def enF (l : List Int) : Nat → Nat → Nat
  | 0, n => n
  | f + 1, n => if rd l (n : Int) = 10 then n else enF l f (n + 1)
/-- where the line of a place ends -/
def enL (l : List Int) (n : Nat) : Nat := enF l (l.length - n) n
theorem stL_le (l : List Int) (n : Nat) : stL l n ≤ n := by
  induction n with
  | zero => exact Nat.le_refl _
  | succ n ih =>
    unfold stL
    split <;> omega
theorem ctL_le (l : List Int) (n : Nat) : ctL l n ≤ n := by
  induction n with
  | zero => exact Nat.le_refl _
  | succ n ih =>
    unfold ctL
    split <;> omega
theorem ctL_mono (l : List Int) (n m : Nat) (h : n ≤ m) : ctL l n ≤ ctL l m := by
  induction m with
  | zero => obtain rfl : n = 0 := by omega
            exact Nat.le_refl _
  | succ m ih =>
    by_cases e : n = m + 1
    · rw [e]; exact Nat.le_refl _
    · have := ih (by omega)
      show ctL l n ≤ if rd l (m : Int) = 10 then ctL l m + 1 else ctL l m
      split <;> omega
theorem lnL_length (l : List Int) (n : Nat) : (lnL l n).length = ctL l n + 1 := by
  induction n with
  | zero => rfl
  | succ n ih =>
    unfold lnL ctL
    split
    · rw [List.length_append, ih]; rfl
    · exact ih
theorem enF_le (l : List Int) (f : Nat) : ∀ n, n ≤ enF l f n ∧ enF l f n ≤ n + f := by
  induction f with
  | zero => intro n; exact ⟨Nat.le_refl _, Nat.le_refl _⟩
  | succ f ih =>
    intro n
    unfold enF
    split
    · omega
    · have := ih (n + 1); omega
theorem enL_ge (l : List Int) (n : Nat) : n ≤ enL l n := (enF_le l _ n).1
theorem enL_le (l : List Int) (n : Nat) (h : n ≤ l.length) : enL l n ≤ l.length := by have := (enF_le l (l.length - n) n).2; unfold enL; omega
theorem enL_here {l : List Int} {n : Nat} (h : n < l.length) (h10 : rd l (n : Int) = 10) : enL l n = n := by
  unfold enL
  obtain ⟨f, hf⟩ : ∃ f, l.length - n = f + 1 := ⟨l.length - n - 1, by omega⟩
  rw [hf]
  simp only [enF]
  rw [if_pos h10]
theorem enL_next {l : List Int} {n : Nat} (h : n < l.length) (h10 : ¬ rd l (n : Int) = 10) : enL l n = enL l (n + 1) := by
  unfold enL
  obtain ⟨f, hf⟩ : ∃ f, l.length - n = f + 1 := ⟨l.length - n - 1, by omega⟩
  rw [hf, show l.length - (n + 1) = f by omega]
  simp only [enF]
  rw [if_neg h10]
theorem enL_end {l : List Int} {n : Nat} (h : ¬ n < l.length) : enL l n = n := by
  unfold enL
  rw [show l.length - n = 0 by omega]
  rfl
theorem rd_app_left {a b : List Int} {i : Nat} (h : i < a.length) : rd (a ++ b) (i : Int) = rd a (i : Int) := by
  rw [rd_nat, rd_nat, List.getD_eq_getElem?_getD, List.getD_eq_getElem?_getD, List.getElem?_append_left h]
theorem rd_app_last (a : List Int) (x : Int) : rd (a ++ [x]) (a.length : Int) = x := by
  rw [rd_nat, List.getD_eq_getElem?_getD, List.getElem?_append_right (Nat.le_refl _), Nat.sub_self]
  rfl
theorem lnL_last (l : List Int) (n : Nat) : rd (lnL l n) (ctL l n : Int) = (stL l n : Int) := by
  induction n with
  | zero => rfl
  | succ n ih =>
    unfold lnL ctL stL
    split
    · have := rd_app_last (lnL l n) ((n + 1 : Nat) : Int)
      rw [lnL_length] at this
      exact this
    · exact ih
theorem lnL_at (l : List Int) (a n : Nat) (h : a ≤ n) : rd (lnL l n) (ctL l a : Int) = (stL l a : Int) := by
  induction n with
  | zero => obtain rfl : a = 0 := by omega
            rfl
  | succ n ih =>
    by_cases e : a = n + 1
    · rw [e]; exact lnL_last l (n + 1)
    · have h1 := ih (by omega)
      unfold lnL
      split
      · rw [rd_app_left (by rw [lnL_length]; have := ctL_mono l a n (by omega); omega)]
        exact h1
      · exact h1
theorem lnL_stay (l : List Int) (i n m : Nat) (h : n ≤ m) (hi : i ≤ ctL l n) : rd (lnL l m) (i : Int) = rd (lnL l n) (i : Int) := by
  induction m with
  | zero => obtain rfl : n = 0 := by omega
            rfl
  | succ m ih =>
    by_cases e : n = m + 1
    · rw [e]
    · have h1 := ih (by omega)
      show rd (if rd l (m : Int) = 10 then lnL l m ++ [((m + 1 : Nat) : Int)] else lnL l m) (i : Int) = _
      split
      · rw [rd_app_left (by rw [lnL_length]; have := ctL_mono l n m (by omega); omega)]
        exact h1
      · exact h1
theorem lnL_lt (l : List Int) (a : Nat) : ∀ i, i < ctL l a → rd (lnL l a) (i : Int) < (stL l a : Int) := by
  induction a with
  | zero => intro i hi; exact absurd hi (by simp [ctL])
  | succ a ih =>
    intro i hi
    have hs := stL_le l a
    unfold ctL at hi
    unfold lnL stL
    split at hi
    · rename_i h10
      rw [if_pos h10, if_pos h10, rd_app_left (by rw [lnL_length]; omega)]
      by_cases e : i = ctL l a
      · rw [e, lnL_last]; omega
      · have := ih i (by omega); omega
    · rename_i h10
      rw [if_neg h10, if_neg h10]
      exact ih i hi
/-- between a line's begin and a place of it stands no 10 -/
theorem stL_none (l : List Int) (n : Nat) : ∀ i, stL l n ≤ i → i < n → ¬ rd l (i : Int) = 10 := by
  induction n with
  | zero => intro i _ h; omega
  | succ n ih =>
    intro i h1 h2
    unfold stL at h1
    split at h1
    · omega
    · by_cases e : i = n
      · rw [e]; assumption
      · exact ih i h1 (by omega)
theorem enL_of (l : List Int) (n : Nat) (hn : n < l.length) (h10 : rd l (n : Int) = 10) (d : Nat) : ∀ s, n - s = d → s ≤ n → (∀ i, s ≤ i → i < n → ¬ rd l (i : Int) = 10) → enL l s = n := by
  induction d with
  | zero => intro s hd hs _; obtain rfl : s = n := by omega
            exact enL_here hn h10
  | succ d ih =>
    intro s hd hs h
    rw [enL_next (by omega) (h s (Nat.le_refl _) (by omega))]
    exact ih (s + 1) (by omega) (by omega) (fun i h1 h2 => h i (by omega) h2)
theorem lnL_ends (l : List Int) (n : Nat) (hn : n ≤ l.length) : ∀ j, j < ctL l n → ∃ a b : Nat, rd (lnL l n) (j : Int) = (a : Int) ∧ rd (lnL l n) ((j + 1 : Nat) : Int) = (b : Int) ∧ enL l a + 1 = b ∧ b ≤ n := by
  induction n with
  | zero => intro j hj; exact absurd hj (by simp [ctL])
  | succ n ih =>
    intro j hj
    unfold ctL at hj
    unfold lnL
    split at hj
    · rename_i h10
      rw [if_pos h10]
      by_cases e : j = ctL l n
      · refine ⟨stL l n, n + 1, ?_, ?_, ?_, Nat.le_refl _⟩
        · rw [e, rd_app_left (by rw [lnL_length]; omega), lnL_last]
        · rw [e, show ctL l n + 1 = (lnL l n).length from (lnL_length l n).symm, rd_app_last]
        · rw [enL_of l n (by omega) h10 (n - stL l n) (stL l n) rfl (stL_le l n) (stL_none l n)]
      · obtain ⟨a, b, h1, h2, h3, h4⟩ := ih (by omega) j (by omega)
        exact ⟨a, b, by rw [rd_app_left (by rw [lnL_length]; omega)]; exact h1, by rw [rd_app_left (by rw [lnL_length]; omega)]; exact h2, h3, by omega⟩
    · rename_i h10
      rw [if_neg h10]
      obtain ⟨a, b, h1, h2, h3, h4⟩ := ih (by omega) j hj
      exact ⟨a, b, h1, h2, h3, by omega⟩
/-- where line j begins -/
def bgL (l : List Int) : Nat → Nat
  | 0 => 0
  | j + 1 => enL l (bgL l j) + 1
theorem lnL_bg (l : List Int) : ∀ j, j ≤ ctL l l.length → rd (lnL l l.length) (j : Int) = (bgL l j : Int) ∧ bgL l j ≤ l.length := by
  intro j
  induction j with
  | zero =>
    intro _
    refine ⟨?_, Nat.zero_le _⟩
    have := lnL_at l 0 l.length (Nat.zero_le _)
    exact this
  | succ j ih =>
    intro hj
    obtain ⟨a, b, h1, h2, h3, h4⟩ := lnL_ends l l.length (Nat.le_refl _) j (by omega)
    obtain ⟨h5, _⟩ := ih (by omega)
    rw [h1] at h5
    have h6 : a = bgL l j := by omega
    rw [h2]
    subst h6
    refine ⟨?_, ?_⟩
    · show (b : Int) = ((enL l (bgL l j) + 1 : Nat) : Int)
      rw [h3]
    · show enL l (bgL l j) + 1 ≤ _
      omega
/-- the place of a spot -/
def plL (l : List Int) (line col : Int) : Int :=
  let a := bgL l (min (max line 0) (ctL l l.length : Int)).toNat
  (a : Int) + min (max col 0) ((enL l a : Int) - (a : Int))
theorem ctL_none (l : List Int) (s n : Nat) (hs : s ≤ n) (h : ∀ i : Nat, s ≤ i → i < n → ¬ rd l (i : Int) = 10) : ctL l n = ctL l s := by
  induction n with
  | zero => obtain rfl : s = 0 := by omega
            rfl
  | succ n ih =>
    by_cases e : s = n + 1
    · rw [e]
    · have := ih (by omega) (fun i h1 h2 => h i h1 (by omega))
      show (if rd l (n : Int) = 10 then ctL l n + 1 else ctL l n) = _
      rw [if_neg (h n (by omega) (by omega))]
      exact this
theorem enF_none (l : List Int) (f : Nat) : ∀ n i : Nat, n ≤ i → i < enF l f n → ¬ rd l (i : Int) = 10 := by
  induction f with
  | zero => intro n i h1 h2; simp only [enF] at h2; omega
  | succ f ih =>
    intro n i h1 h2
    simp only [enF] at h2
    split at h2
    · omega
    · by_cases e : i = n
      · rw [e]; assumption
      · exact ih (n + 1) i (by omega) h2
theorem enF_ten (l : List Int) (f : Nat) : ∀ n : Nat, enF l f n < n + f → rd l (enF l f n : Int) = 10 := by
  induction f with
  | zero => intro n h; simp only [enF] at h; omega
  | succ f ih =>
    intro n h
    simp only [enF] at h ⊢
    split
    · assumption
    · rename_i g
      rw [if_neg g] at h
      exact ih (n + 1) (by omega)
theorem ct_line (l : List Int) (a n : Nat) (h1 : a ≤ n) (h2 : n ≤ enL l a) : ctL l n = ctL l a :=
  ctL_none l a n h1 (fun i g1 g2 => enF_none l (l.length - a) a i g1 (by unfold enL at h2; omega))
theorem ct_bg (l : List Int) : ∀ j, j ≤ ctL l l.length → ctL l (bgL l j) = j := by
  intro j
  induction j with
  | zero => intro _; rfl
  | succ j ih =>
    intro hj
    have hb := (lnL_bg l (j + 1) hj).2
    have hb1 := (lnL_bg l j (by omega)).2
    have hb2 : enL l (bgL l j) + 1 ≤ l.length := hb
    have h10 : rd l (enL l (bgL l j) : Int) = 10 := enF_ten l (l.length - bgL l j) (bgL l j) (by unfold enL at hb2; omega)
    have h := ct_line l (bgL l j) (enL l (bgL l j)) (enL_ge l _) (Nat.le_refl _)
    show (if rd l (enL l (bgL l j) : Int) = 10 then ctL l (enL l (bgL l j)) + 1 else ctL l (enL l (bgL l j))) = j + 1
    rw [if_pos h10, h, ih (by omega)]
theorem bg_ct (l : List Int) (c : Nat) (hc : c ≤ l.length) : bgL l (ctL l c) = stL l c := by
  have h1 := lnL_at l c l.length hc
  have h2 := (lnL_bg l (ctL l c) (ctL_mono l c l.length hc)).1
  omega
theorem enL_of_none (l : List Int) (s c : Nat) (hs : s ≤ c) (hc : c ≤ l.length) (h : ∀ i : Nat, s ≤ i → i < c → ¬ rd l (i : Int) = 10) : c ≤ enL l s := by
  by_cases e : c ≤ enL l s
  · exact e
  · exfalso
    have g := enL_ge l s
    exact h (enL l s) g (by omega) (enF_ten l (l.length - s) s (by unfold enL at e; omega))
theorem plL_self (l : List Int) (c : Nat) (hc : c ≤ l.length) : plL l (ctL l c : Int) ((c : Int) - (stL l c : Int)) = (c : Int) := by
  have h1 := ctL_mono l c l.length hc
  have h2 := stL_le l c
  have h3 := enL_of_none l (stL l c) c h2 hc (stL_none l c)
  unfold plL
  rw [show (min (max (ctL l c : Int) 0) (ctL l l.length : Int)).toNat = ctL l c by omega, bg_ct l c hc]
  simp only
  omega
/-- a place of a line's column -/
theorem plL_at (l : List Int) (i : Nat) (col : Int) (hi : i ≤ ctL l l.length) (hc : 0 ≤ col) : ∃ n : Nat, plL l (i : Int) col = (n : Int) ∧ n ≤ l.length ∧ ctL l n = i := by
  have hb := (lnL_bg l i hi).2
  have g1 := enL_ge l (bgL l i)
  have g2 := enL_le l (bgL l i) hb
  refine ⟨(min (col + bgL l i) (enL l (bgL l i) : Int)).toNat, ?_, by omega, ?_⟩
  · unfold plL
    rw [show (min (max (i : Int) 0) (ctL l l.length : Int)).toNat = i by omega]
    simp only
    omega
  · rw [ct_line l (bgL l i) _ (by omega) (by omega)]
    exact ct_bg l i hi
theorem plL_clamp (l : List Int) (line col : Int) : plL l line col = plL l (min (max line 0) (ctL l l.length : Int)) col := by
  unfold plL
  rw [show (min (max (min (max line 0) (ctL l l.length : Int)) 0) (ctL l l.length : Int)).toNat = (min (max line 0) (ctL l l.length : Int)).toNat by omega]
theorem spec_l01Point.eq (a : Int) : spec_l01Point.f a = some (isPt a) := by
  simp only [spec_l01Point.f, isPt]
  (repeat' split) <;> (refine some_b ?_; simp only [Bool.not_eq_true', Bool.not_false, decide_eq_true_eq, decide_eq_false_iff_not, Bool.false_eq_true]; first | omega | (rw [false_iff]; omega) | (rw [true_iff]; omega))
theorem spec_PointsRight.loop (l : List Int) (hl : l.length ≤ 300) (d : Nat) : ∀ (k i : Nat), i ≤ l.length → l.length - i = d → d < k → spec_PointsRight.l0 k l (i : Int) = some ((l.drop i).all isPt) := by
  induction d with
  | zero =>
    intro k i hi hd hk
    obtain ⟨k, rfl⟩ : ∃ m, k = m + 1 := ⟨k - 1, by omega⟩
    simp only [spec_PointsRight.l0]
    rw [if_neg (by omega), List.drop_eq_nil_of_le (by omega)]
    rfl
  | succ d ih =>
    intro k i hi hd hk
    obtain ⟨k, rfl⟩ : ∃ m, k = m + 1 := ⟨k - 1, by omega⟩
    have hlt : i < l.length := by omega
    simp only [spec_PointsRight.l0]
    rw [if_pos (int_lt hlt), if_pos (int_nn i), spec_l01Point.eq, wrap_succ (by omega), ih k (i + 1) (by omega) (by omega) (by omega), drop_rd hlt]
    simp only [Option.bind_some, List.all_cons]
    cases isPt (rd l (i : Int)) <;> simp
theorem spec_PointsRight.eq (l : List Int) {k : Nat} (hk : 300 < k) : spec_PointsRight.f k l = some (ptsOK l) := by
  unfold spec_PointsRight.f ptsOK
  by_cases h : l.length ≤ 300
  · rw [if_neg (by omega)]
    have := spec_PointsRight.loop l h l.length k 0 (by omega) (by omega) (by omega)
    simp only [h, decide_true, Bool.true_and]
    simpa using this
  · rw [if_pos (by omega)]
    simp [h]
theorem spec_BufRight.eq (l : List Int) (c m : Int) {k : Nat} (hk : 300 < k) : spec_BufRight.f k l c m = some (bufOK l c m) := by
  unfold spec_BufRight.f bufOK
  rw [spec_PointsRight.eq l hk]
  simp only [Option.bind_some]
  cases ptsOK l
  · simp
  · simp only [if_true, Bool.true_and]
    (repeat' split) <;> (refine some_b ?_; simp only [Bool.and_eq_true, decide_eq_true_eq, Bool.false_eq_true]; first | omega | (rw [false_iff]; omega))
theorem impl_within.eq (a b c : Int) : impl_within.f a b c = some (decide (b ≤ a ∧ a ≤ c)) := by
  unfold impl_within.f
  by_cases h : b ≤ a <;> simp [h]
theorem impl_isPoint.eq (a : Int) : impl_isPoint.f a = some (isPt a) := by
  simp only [impl_isPoint.f, impl_within.eq, Option.bind_some, isPt, decide_eq_true_eq]
  split <;> (refine some_b ?_; simp only [Bool.not_eq_true', decide_eq_true_eq, decide_eq_false_iff_not, Bool.false_eq_true]; first | omega | (rw [false_iff]; omega))
theorem slices_IndexFunc_sint64_int64.loop (l : List Int) (hl : l.length ≤ 300) (d : Nat) : ∀ (k i : Nat), i ≤ l.length → l.length - i = d → d < k → ∃ r : Int, slices_IndexFunc_sint64_int64.l0 k l (l.length : Int) (i : Int) = some r ∧ (0 ≤ r ↔ (l.drop i).all isPt = false) := by
  induction d with
  | zero =>
    intro k i hi hd hk
    obtain ⟨k, rfl⟩ : ∃ m, k = m + 1 := ⟨k - 1, by omega⟩
    refine ⟨-1, ?_, ?_⟩
    · simp only [slices_IndexFunc_sint64_int64.l0]
      rw [if_neg (by omega)]
    · rw [List.drop_eq_nil_of_le (by omega)]
      simp
  | succ d ih =>
    intro k i hi hd hk
    obtain ⟨k, rfl⟩ : ∃ m, k = m + 1 := ⟨k - 1, by omega⟩
    have hlt : i < l.length := by omega
    have hp : impl_PointsRight_1.f (rd l (i : Int)) = some (!isPt (rd l (i : Int))) := by
      unfold impl_PointsRight_1.f
      rw [impl_isPoint.eq]
      rfl
    simp only [slices_IndexFunc_sint64_int64.l0]
    rw [if_pos (int_lt hlt), if_pos (int_nn i), if_pos (int_lt hlt), hp, wrap_succ (by omega), drop_rd hlt]
    simp only [Option.bind_some, List.all_cons]
    cases isPt (rd l (i : Int))
    · exact ⟨i, by simp, by simp⟩
    · simpa using ih k (i + 1) (by omega) (by omega) (by omega)
theorem impl_PointsRight.eq (l : List Int) {k : Nat} (hk : 300 < k) : impl_PointsRight.f k l = some (ptsOK l) := by
  unfold impl_PointsRight.f ptsOK
  by_cases h : l.length ≤ 300
  · rw [if_pos (by omega)]
    obtain ⟨r, h1, h2⟩ := slices_IndexFunc_sint64_int64.loop l h l.length k 0 (by omega) (by omega) (by omega)
    unfold slices_ContainsFunc_sint64_int64.f slices_IndexFunc_sint64_int64.f
    rw [show ((0 : Nat) : Int) = 0 from rfl] at h1
    rw [h1]
    simp only [Option.bind_some, h, decide_true, Bool.true_and]
    rw [List.drop_zero] at h2
    refine some_b ?_
    cases hq : l.all isPt
    · have := h2.2 hq; simp; omega
    · have : ¬ 0 ≤ r := fun h3 => by rw [h2.1 h3] at hq; cases hq
      simp; omega
  · rw [if_neg (by omega)]
    simp [h]
theorem impl_Buf_isPlace.eq (l : List Int) (c m a : Int) : impl_Buf_isPlace.f l c m a = some (decide (0 ≤ a ∧ a ≤ l.length)) := by
  simp only [impl_Buf_isPlace.f, impl_size_int64.f, impl_within.eq, Option.bind_some]
theorem impl_BufRight.eq (l : List Int) (c m : Int) {k : Nat} (hk : 300 < k) : impl_BufRight.f k l c m = some (bufOK l c m) := by
  unfold impl_BufRight.f bufOK
  rw [impl_PointsRight.eq l hk]
  simp only [Option.bind_some, impl_Buf_isPlace.eq]
  cases ptsOK l
  · simp
  · simp only [if_true, Bool.true_and]
    by_cases h : 0 ≤ c ∧ c ≤ (l.length : Int) <;> simp [h]
theorem impl_Buf_start.loop (l : List Int) (c m : Int) (hl : l.length ≤ 1048576) (n : Nat) : ∀ k, n ≤ l.length → n < k → impl_Buf_start.l0 k (n : Int) l c m = some (stL l n : Int) := by
  induction n with
  | zero =>
    intro k _ hk
    obtain ⟨k, rfl⟩ : ∃ m, k = m + 1 := ⟨k - 1, by omega⟩
    rfl
  | succ n ih =>
    intro k hn hk
    obtain ⟨k, rfl⟩ : ∃ m, k = m + 1 := ⟨k - 1, by omega⟩
    have e : wrap64 (((n + 1 : Nat) : Int) - 1) = (n : Int) := by unfold wrap64; omega
    simp only [impl_Buf_start.l0, stL]
    rw [e, if_pos (by omega), if_pos (int_nn n), if_pos (by omega)]
    split
    · rfl
    · exact ih k (by omega) (by omega)
theorem impl_Buf_start.eq {l : List Int} {c m : Int} {n k : Nat} (hl : l.length ≤ 1048576) (hn : n ≤ l.length) (hk : n < k) : impl_Buf_start.f k l c m (n : Int) = some (stL l n : Int) := impl_Buf_start.loop l c m hl n k hn hk
theorem impl_Buf_lines.loop (l : List Int) (hl : l.length ≤ 1048576) (d : Nat) : ∀ k i, i ≤ l.length → l.length - i = d → d < k → impl_Buf_lines.l0 k (lnL l i) l (l.length : Int) (i : Int) = some (lnL l l.length) := by
  induction d with
  | zero =>
    intro k i hi hd hk
    obtain ⟨k, rfl⟩ : ∃ m, k = m + 1 := ⟨k - 1, by omega⟩
    obtain rfl : i = l.length := by omega
    simp only [impl_Buf_lines.l0]
    rw [if_neg (by omega)]
  | succ d ih =>
    intro k i hi hd hk
    obtain ⟨k, rfl⟩ : ∃ m, k = m + 1 := ⟨k - 1, by omega⟩
    have hc := ctL_le l i
    have hn := lnL_length l i
    have h := ih k (i + 1) (by omega) (by omega) (by omega)
    simp only [lnL] at h
    simp only [impl_Buf_lines.l0]
    rw [if_pos (by omega), if_pos (int_nn i), if_pos (by omega), wrap_succ (i := i) (by omega)]
    split
    · rename_i h10
      rw [if_pos h10] at h
      rw [if_pos (by omega)]
      exact h
    · rename_i h10
      rw [if_neg h10] at h
      exact h
theorem impl_Buf_lines.eq {l : List Int} {c m : Int} {k : Nat} (hl : l.length ≤ 1048576) (hk : l.length < k) : impl_Buf_lines.f k l c m = some (lnL l l.length) := impl_Buf_lines.loop l hl l.length k 0 (Nat.zero_le _) (by omega) hk
theorem slices_Index_sint64_int64.loop (l : List Int) (v : Int) (j : Nat) (hl : l.length ≤ 1048600) (hj : j < l.length) (hv : rd l (j : Int) = v) (hn : ∀ i, i < j → rd l (i : Int) ≠ v) (d : Nat) : ∀ k i, i ≤ j → j - i = d → d < k → slices_Index_sint64_int64.l0 k l v (l.length : Int) (i : Int) = some (j : Int) := by
  induction d with
  | zero =>
    intro k i hi hd hk
    obtain ⟨k, rfl⟩ : ∃ m, k = m + 1 := ⟨k - 1, by omega⟩
    obtain rfl : i = j := by omega
    simp only [slices_Index_sint64_int64.l0]
    rw [if_pos (by omega), if_pos (int_nn i), if_pos (by omega), if_pos hv.symm]
  | succ d ih =>
    intro k i hi hd hk
    obtain ⟨k, rfl⟩ : ∃ m, k = m + 1 := ⟨k - 1, by omega⟩
    simp only [slices_Index_sint64_int64.l0]
    rw [if_pos (by omega), if_pos (int_nn i), if_pos (by omega), if_neg (fun e => hn i (by omega) e.symm), wrap_succ (by omega)]
    exact ih k (i + 1) (by omega) (by omega) (by omega)
theorem slices_Index_sint64_int64.eq {l : List Int} {v : Int} {j k : Nat} (hl : l.length ≤ 1048600) (hj : j < l.length) (hv : rd l (j : Int) = v) (hn : ∀ i, i < j → rd l (i : Int) ≠ v) (hk : j < k) : slices_Index_sint64_int64.f k l v = some (j : Int) := slices_Index_sint64_int64.loop l v j hl hj hv hn j k 0 (Nat.zero_le _) (by omega) hk
theorem impl_Buf_spot.eq {l : List Int} {c m : Int} {n k : Nat} (hl : l.length ≤ 1048576) (hn : n ≤ l.length) (hk : l.length + 1 < k) : impl_Buf_spot.f k l c m (n : Int) = some ((ctL l n : Int), (n : Int) - (stL l n : Int)) := by
  have hc := ctL_le l n
  have hs := stL_le l n
  have hm := ctL_mono l n l.length hn
  have hcl := ctL_le l l.length
  unfold impl_Buf_spot.f
  rw [impl_Buf_start.eq hl hn (by omega), impl_Buf_lines.eq hl (by omega)]
  simp only [Option.bind_some]
  rw [slices_Index_sint64_int64.eq (j := ctL l n) (by rw [lnL_length]; omega) (by rw [lnL_length]; omega) (lnL_at l n l.length hn) (fun i hi => by
    have h1 := lnL_lt l n i hi
    rw [lnL_stay l i n l.length hn (by omega)]
    omega) (by omega)]
  simp only [Option.bind_some]
  rw [wrap_in (by omega) (by omega)]
def spotV (l : List Int) (c m a : Int) : Int × Int := if bufOK l c m = true ∧ 0 ≤ a ∧ a ≤ (l.length : Int) then ((ctL l a.toNat : Int), a - (stL l a.toNat : Int)) else (0, 0)
theorem impl_SpotOf.eq {l : List Int} (c m a : Int) {k : Nat} (hk : 700 < k) : impl_SpotOf.f k l c m a = some (spotV l c m a) := by
  unfold impl_SpotOf.f spotV
  rw [impl_BufRight.eq _ _ _ (by omega)]
  simp only [Option.bind_some]
  by_cases h : bufOK l c m = true
  · have hl := bufOK_len h
    rw [if_pos h, impl_Buf_isPlace.eq]
    simp only [Option.bind_some, decide_eq_true_eq]
    by_cases h1 : 0 ≤ a ∧ a ≤ (l.length : Int)
    · rw [if_pos h1, if_pos ⟨h, h1⟩]
      obtain ⟨n, rfl⟩ : ∃ n : Nat, a = (n : Int) := ⟨a.toNat, by omega⟩
      rw [impl_Buf_spot.eq (by omega) (by omega) (by omega)]
      rfl
    · rw [if_neg h1, if_neg (fun e => h1 e.2)]
  · rw [if_neg h, if_neg (by simp [h])]
theorem impl_size_int64.eq (l : List Int) : impl_size_int64.f l = some (l.length : Int) := rfl
theorem impl_Buf_end.loop (l : List Int) (c m : Int) (hl : l.length ≤ 1048576) (d : Nat) : ∀ (k n : Nat), n ≤ l.length → l.length - n = d → d < k → impl_Buf_end.l0 k (n : Int) l c m = some (enL l n : Int) := by
  induction d with
  | zero =>
    intro k n hn hd hk
    obtain ⟨k, rfl⟩ : ∃ m, k = m + 1 := ⟨k - 1, by omega⟩
    simp only [impl_Buf_end.l0, impl_size_int64.eq, Option.bind_some]
    rw [if_neg (by omega), enL_end (by omega)]
  | succ d ih =>
    intro k n hn hd hk
    obtain ⟨k, rfl⟩ : ∃ m, k = m + 1 := ⟨k - 1, by omega⟩
    have hlt : n < l.length := by omega
    simp only [impl_Buf_end.l0, impl_size_int64.eq, Option.bind_some]
    rw [if_pos (int_lt hlt), if_pos (int_nn n), if_pos (int_lt hlt)]
    by_cases h : rd l (n : Int) = 10
    · rw [if_pos h, enL_here hlt h]
    · rw [if_neg h, wrap_succ (by omega), ih k (n + 1) (by omega) (by omega) (by omega), enL_next hlt h]
theorem impl_Buf_end.eq {l : List Int} {c m : Int} {n k : Nat} (hl : l.length ≤ 1048576) (hn : n ≤ l.length) (hk : l.length < k) : impl_Buf_end.f k l c m (n : Int) = some (enL l n : Int) := impl_Buf_end.loop l c m hl (l.length - n) k n hn rfl (by omega)
def placeV (l : List Int) (c m line col : Int) : Int := if bufOK l c m = true then plL l line col else 0
theorem impl_Buf_place.eq (l : List Int) (c m line col : Int) {k : Nat} (hl : l.length ≤ 300) (hk : 700 < k) : impl_Buf_place.f k l c m line col = some (plL l line col) := by
  unfold impl_Buf_place.f
  have hc := ctL_le l l.length
  rw [impl_Buf_lines.eq (by omega) (by omega)]
  simp only [Option.bind_some, impl_size_int64.eq, lnL_length]
  have e1 : mn (mx line 0) (wrap64 (((ctL l l.length + 1 : Nat) : Int) - 1)) = (((min (max line 0) (ctL l l.length : Int)).toNat : Nat) : Int) := by
    rw [wrap_in (by omega) (by omega)]
    unfold mn mx
    split <;> split <;> omega
  rw [e1, if_pos (by omega), if_pos (by omega)]
  obtain ⟨h1, h2⟩ := lnL_bg l (min (max line 0) (ctL l l.length : Int)).toNat (by omega)
  have h3 := enL_ge l (bgL l (min (max line 0) (ctL l l.length : Int)).toNat)
  have h4 := enL_le l (bgL l (min (max line 0) (ctL l l.length : Int)).toNat) h2
  rw [h1, impl_Buf_end.eq (by omega) h2 (by omega)]
  simp only [Option.bind_some]
  refine congrArg some ?_
  unfold plL
  rw [wrap_in (show -9223372036854775808 ≤ (enL l (bgL l (min (max line 0) (ctL l l.length : Int)).toNat) : Int) - (bgL l (min (max line 0) (ctL l l.length : Int)).toNat : Int) by omega) (by omega)]
  have e2 : mn (mx col 0) ((enL l (bgL l (min (max line 0) (ctL l l.length : Int)).toNat) : Int) - (bgL l (min (max line 0) (ctL l l.length : Int)).toNat : Int)) = min (max col 0) ((enL l (bgL l (min (max line 0) (ctL l l.length : Int)).toNat) : Int) - (bgL l (min (max line 0) (ctL l l.length : Int)).toNat : Int)) := by
    unfold mn mx
    split <;> split <;> omega
  rw [e2, wrap_in (by omega) (by omega)]
theorem impl_PlaceOf.eq (l : List Int) (c m line col : Int) {k : Nat} (hk : 700 < k) : impl_PlaceOf.f k l c m line col = some (placeV l c m line col) := by
  unfold impl_PlaceOf.f placeV
  rw [impl_BufRight.eq _ _ _ (by omega)]
  simp only [Option.bind_some]
  by_cases h : bufOK l c m = true
  · have hl := bufOK_len h
    rw [if_pos h, if_pos h, impl_Buf_place.eq _ _ _ _ _ hl hk]
    rfl
  · rw [if_neg h, if_neg h]
theorem impl_LineCount.eq (l : List Int) (c m : Int) {k : Nat} (hk : 300 < k) : impl_LineCount.f k l c m = some (if bufOK l c m = true then (ctL l l.length : Int) + 1 else 0) := by
  unfold impl_LineCount.f
  rw [impl_BufRight.eq _ _ _ (by omega)]
  simp only [Option.bind_some]
  by_cases h : bufOK l c m = true
  · have hl := bufOK_len h
    rw [if_pos h, if_pos h, impl_Buf_lines.eq (by omega) (by omega)]
    simp only [Option.bind_some]
    rw [impl_size_int64.eq, lnL_length]
    simp
  · rw [if_neg h, if_neg h]
theorem laws_FnPlaces.loop (l : List Int) (c m : Int) (hb : bufOK l c m = true) (d : Nat) : ∀ (k i : Nat) (x y : Int), l.length + 1 - i = d → i ≤ l.length + 1 → 2 * d + 1000 < k → (0 < i → x = (ctL l (i - 1) : Int) ∧ y = ((i - 1 : Nat) : Int) - (stL l (i - 1) : Int)) → laws_FnPlaces.l0 k (l.length : Int) (i : Int) l c m x y = some true := by
  have hl := bufOK_len hb
  induction d with
  | zero =>
    intro k i x y hd hi hk hx
    obtain ⟨k, rfl⟩ : ∃ m, k = m + 1 := ⟨k - 1, by omega⟩
    obtain ⟨h1, _⟩ := hx (by omega)
    have hc := ctL_le l l.length
    rw [laws_FnPlaces.l0, if_neg (by omega), impl_LineCount.eq _ _ _ (by omega), if_pos hb]
    simp only [Option.bind_some]
    rw [show i - 1 = l.length by omega] at h1
    rw [h1, wrap_in (by omega) (by omega)]
    simp
  | succ d ih =>
    intro k i x y hd hi hk hx
    obtain ⟨k, rfl⟩ : ∃ m, k = m + 2 := ⟨k - 2, by omega⟩
    have hil : i ≤ l.length := by omega
    have hp := plL_self l i hil
    have e1 : spotV l c m (i : Int) = ((ctL l i : Int), (i : Int) - (stL l i : Int)) := by
      unfold spotV
      rw [if_pos (show bufOK l c m = true ∧ 0 ≤ (i : Int) ∧ (i : Int) ≤ (l.length : Int) from ⟨hb, by omega, by omega⟩), Int.toNat_natCast]
    have e2 : placeV l c m (ctL l i : Int) ((i : Int) - (stL l i : Int)) = (i : Int) := by
      unfold placeV
      rw [if_pos hb, hp]
    have h := ih k (i + 1) (ctL l i : Int) ((i : Int) - (stL l i : Int)) (by omega) (by omega) (by omega) (fun _ => ⟨by rw [Nat.add_sub_cancel], by rw [Nat.add_sub_cancel]⟩)
    rw [laws_FnPlaces.l0, if_pos (by omega), laws_FnPlaces.j2, impl_SpotOf.eq _ _ _ (by omega), e1]
    simp only [Option.bind_some]
    rw [impl_PlaceOf.eq _ _ _ _ _ (by omega), e2]
    simp only [Option.bind_some, if_true]
    rw [wrap_succ (i := i) (by omega), h]
    by_cases hi0 : i = 0
    · rw [if_neg (by omega)]
    · obtain ⟨n, rfl⟩ : ∃ n, i = n + 1 := ⟨i - 1, by omega⟩
      obtain ⟨h1, h2⟩ := hx (by omega)
      rw [Nat.add_sub_cancel] at h1 h2
      subst h1
      subst h2
      have hc := ctL_le l n
      have hs := stL_le l n
      have f1 : ctL l (n + 1) = if rd l (n : Int) = 10 then ctL l n + 1 else ctL l n := rfl
      have f2 : stL l (n + 1) = if rd l (n : Int) = 10 then n + 1 else stL l n := rfl
      rw [if_pos (by omega), wrap_in (x := (ctL l n : Int) + 1) (by omega) (by omega), wrap_in (x := (n : Int) - (stL l n : Int) + 1) (by omega) (by omega)]
      by_cases h10 : rd l (n : Int) = 10
      · rw [if_pos h10] at f1 f2
        rw [f1, f2, if_neg (by omega), if_neg (by omega), if_pos (by omega), if_pos (by omega), if_pos (by omega)]
      · rw [if_neg h10] at f1 f2
        rw [f1, f2, if_neg (by omega), if_pos rfl, if_pos (by omega), if_neg (by omega)]

theorem FnPlaces : laws_FnPlaces.Pure := by
  intro l ⟨hl, _⟩
  have hl := maxLen_le hl
  refine ⟨4000000, ?_⟩
  unfold laws_FnPlaces.f
  by_cases h : (l.length : Int) > 1048576
  · rw [if_pos h]
  · obtain ⟨p, c, d, hp, hpl⟩ := spec_DrawLineCount.eq l (by omega) (k := 4000000) (by omega)
    rw [if_neg h, hp]
    simp only [Option.bind_some]
    rw [spec_BufRight.eq _ _ _ (by omega)]
    simp only [Option.bind_some]
    by_cases g : bufOK p c d = true
    · rw [if_pos g, laws_FnPlaces.j0]
      exact laws_FnPlaces.loop p c d g (p.length + 1) 3999999 0 0 0 (by omega) (by omega) (by omega) (fun e => absurd e (by omega))
    · rw [if_neg g, impl_LineCount.eq _ _ _ (by omega), if_neg g]
      rfl

end Go.Proofs.Ythcnhafdhjajpaa.Pure
