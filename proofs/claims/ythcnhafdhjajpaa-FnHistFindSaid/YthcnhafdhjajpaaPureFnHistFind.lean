/- Proved: for every code of at most 2^20 bytes, what is found in the history drawn from it has the part, and nothing between it and where the search began has. No conditions. -/
import Derived.Test.YthcnhafdhjajpaaPFnHistFindx11
namespace Go.Proofs.Ythcnhafdhjajpaa.Pure
open Go.RowKit Go.Proofs.Ythcnhafdhjajpaa.PFnHistFind Go.Proofs.YthcnhafdhjajpaaW.PrintWords Go.Proofs.YthcnhafdhjajpaaW.PrintLast Go.Proofs.YthcnhafdhjajpaaW.PrintMore
set_option linter.unusedVariables false
set_option linter.unusedSimpArgs false

/-! ### plain words -/
theorem wrap_in {x : Int} (h0 : -9223372036854775808 ≤ x) (h1 : x ≤ 9223372036854775807) : wrap64 x = x := by unfold wrap64; omega
theorem wrap_succ {i : Nat} (h : i < 4611686018427387904) : wrap64 ((i : Int) + 1) = ((i + 1 : Nat) : Int) := by unfold wrap64; omega
theorem rd_nat (l : List Int) (i : Nat) : rd l (i : Int) = l.getD i 0 := by simp [rd]
theorem drop_rd {l : List Int} {i : Nat} (h : i < l.length) : l.drop i = rd l (i : Int) :: l.drop (i + 1) := by
  rw [rd_nat, List.drop_eq_getElem_cons h, List.getD_eq_getElem?_getD, List.getElem?_eq_getElem h]
  rfl
theorem int_lt {i n : Nat} (h : i < n) : (i : Int) < (n : Int) := by omega
theorem int_nlt {i n : Nat} (h : ¬ i < n) : ¬ (i : Int) < (n : Int) := by omega
theorem int_nn (i : Nat) : (0 : Int) ≤ (i : Int) := by omega
theorem maxLen_le {n : Nat} (h : n ≤ maxLen) : n ≤ 9223372036854775807 := by unfold maxLen at h; exact h
theorem some_b {a b : Bool} (h : a = true ↔ b = true) : some a = some b := congrArg some (Bool.eq_iff_iff.2 h)
def isPt (a : Int) : Bool := decide (0 ≤ a ∧ a ≤ 1114111 ∧ ¬ (55296 ≤ a ∧ a ≤ 57343))
def ptsOK (l : List Int) : Bool := decide (l.length ≤ 300) && l.all isPt
def bufOK (l : List Int) (c m : Int) : Bool := ptsOK l && decide (0 ≤ c ∧ c ≤ l.length) && decide (0 ≤ m ∧ m ≤ l.length)
def isCtl (a : Int) : Bool := decide (a < 32 ∨ a = 127)
def isWide2 (a : Int) : Bool := decide ((4352 ≤ a ∧ a ≤ 4447) ∨ (11904 ≤ a ∧ a ≤ 42191) ∨ (44032 ≤ a ∧ a ≤ 55203) ∨ (63744 ≤ a ∧ a ≤ 64255) ∨ (65281 ≤ a ∧ a ≤ 65376) ∨ (127744 ≤ a ∧ a ≤ 129791))
def wid (a : Int) : Int := if isPt a = true ∧ ¬ (768 ≤ a ∧ a ≤ 879) then (if isCtl a = true ∨ isWide2 a = true then 2 else 1) else 0
def cl2 (a : Int) : Int := if (97 ≤ a ∧ a ≤ 122) ∨ (65 ≤ a ∧ a ≤ 90) ∨ (48 ≤ a ∧ a ≤ 57) ∨ a = 95 ∨ 128 ≤ a then 2 else 3
def cls (a : Int) : Int := if isPt a = true then (if a = 32 ∨ a = 9 ∨ a = 10 then 1 else cl2 a) else 0
theorem ptsOK_len {l : List Int} (h : ptsOK l = true) : l.length ≤ 300 := by
  unfold ptsOK at h
  simp only [Bool.and_eq_true, decide_eq_true_eq] at h
  exact h.1
theorem bufOK_len {l : List Int} {c m : Int} (h : bufOK l c m = true) : l.length ≤ 300 := by
  unfold bufOK at h
  simp only [Bool.and_eq_true] at h
  exact ptsOK_len h.1.1
theorem bufOK_all {l : List Int} {c m : Int} (h : bufOK l c m = true) : l.length ≤ 300 ∧ 0 ≤ c ∧ c ≤ l.length ∧ 0 ≤ m ∧ m ≤ l.length := by
  have hl := bufOK_len h
  unfold bufOK at h
  simp only [Bool.and_eq_true, decide_eq_true_eq] at h
  exact ⟨hl, h.1.2.1, h.1.2.2, h.2.1, h.2.2⟩
/-! ### draws: what they yield is some value, within bounds -/
theorem u64_in {t : Int} (h0 : 0 ≤ t) (h1 : t ≤ 4611686018427387904) : IntKind.u64.wrap t = t := by
  rw [Go.IntKind.wrap_u64]
  omega
theorem tmod_in (X : Int) {t : Int} (h0 : 1 < t) (h1 : t ≤ 4611686018427387904) : 0 ≤ wrap64 (Int.tmod (IntKind.u64.wrap X) (IntKind.u64.wrap t)) ∧ wrap64 (Int.tmod (IntKind.u64.wrap X) (IntKind.u64.wrap t)) < t := by
  have hX : 0 ≤ IntKind.u64.wrap X := by rw [Go.IntKind.wrap_u64]; omega
  rw [u64_in (by omega) h1, Int.tmod_eq_emod_of_nonneg hX]
  have a1 := Int.emod_nonneg (IntKind.u64.wrap X) (show t ≠ 0 by omega)
  have a2 := Int.emod_lt_of_pos (IntKind.u64.wrap X) (show 0 < t by omega)
  rw [wrap_in (by omega) (by omega)]
  exact ⟨a1, a2⟩
theorem spec_l01Src_n.eq (b : List Int) (a m z t : Int) (hb : b.length ≤ 1048576) (h0 : 0 ≤ a) (h1 : a ≤ b.length) (ht : t ≤ 4611686018427387904) : ∃ v a' m', spec_l01Src_n.f b a m z t = some (v, a', m', z) ∧ 0 ≤ v ∧ (v < t ∨ v = 0) ∧ 0 ≤ a' ∧ a' ≤ b.length := by
  unfold spec_l01Src_n.f
  by_cases h : t ≤ 1
  · rw [if_pos h]
    exact ⟨_, _, _, rfl, by omega, by omega, h0, h1⟩
  · have e : ¬ IntKind.u64.wrap t = 0 := by
      rw [u64_in (by omega) ht]
      omega
    rw [if_neg h]
    by_cases g : a < (b.length : Int)
    · rw [if_pos g, if_pos h0, if_neg e]
      refine ⟨_, _, _, rfl, (tmod_in _ (by omega) ht).1, Or.inl (tmod_in _ (by omega) ht).2, ?_, ?_⟩
      · rw [wrap_in (by omega) (by omega)]; omega
      · rw [wrap_in (by omega) (by omega)]; omega
    · rw [if_neg g, if_neg e]
      exact ⟨_, _, _, rfl, (tmod_in _ (by omega) ht).1, Or.inl (tmod_in _ (by omega) ht).2, h0, h1⟩
theorem spec_l01Src_one.eq (b : List Int) (a m z t : Int) (hb : b.length ≤ 1048576) (h0 : 0 ≤ a) (h1 : a ≤ b.length) (ht : t ≤ 4611686018427387904) : ∃ v a' m', spec_l01Src_one.f b a m z t = some (v, a', m', z) ∧ 0 ≤ a' ∧ a' ≤ b.length := by
  obtain ⟨v, a', m', e, _, _, g1, g2⟩ := spec_l01Src_n.eq b a m z t hb h0 h1 ht
  unfold spec_l01Src_one.f
  rw [e]
  exact ⟨_, _, _, rfl, g1, g2⟩
theorem spec_l01Src_point.eq (b : List Int) (a m z : Int) (hb : b.length ≤ 1048576) (h0 : 0 ≤ a) (h1 : a ≤ b.length) : ∃ v a' m', spec_l01Src_point.f b a m z = some (v, a', m', z) ∧ 0 ≤ a' ∧ a' ≤ b.length := by
  obtain ⟨v, a1, m1, e, v0, v1, g1, g2⟩ := spec_l01Src_n.eq b a m z 14 hb h0 h1 (by omega)
  unfold spec_l01Src_point.f
  rw [e]
  simp only [Option.bind_some]
  by_cases c0 : v = 0
  · rw [if_pos c0]; exact ⟨_, _, _, rfl, g1, g2⟩
  rw [if_neg c0]
  by_cases c1 : v = 1
  · rw [if_pos c1]; exact ⟨_, _, _, rfl, g1, g2⟩
  rw [if_neg c1]
  by_cases c2 : v = 2
  · rw [if_pos c2]
    obtain ⟨q, a2, m2, e2, q0, q1, k1, k2⟩ := spec_l01Src_n.eq b a1 m1 z 5 hb g1 g2 (by omega)
    rw [e2]
    simp only [Option.bind_some, List.length_cons, List.length_nil]
    rw [if_pos (by omega), if_pos (by omega)]
    exact ⟨_, _, _, rfl, k1, k2⟩
  rw [if_neg c2]
  by_cases c3 : v = 3
  · rw [if_pos c3]
    obtain ⟨q, a2, m2, e2, q0, q1, k1, k2⟩ := spec_l01Src_n.eq b a1 m1 z 20 hb g1 g2 (by omega)
    rw [e2]
    simp only [Option.bind_some, List.length_cons, List.length_nil]
    rw [if_pos (by omega), if_pos (by omega)]
    exact ⟨_, _, _, rfl, k1, k2⟩
  rw [if_neg c3]
  by_cases c4 : v = 4
  · rw [if_pos c4]
    obtain ⟨q, a2, m2, e2, q0, q1, k1, k2⟩ := spec_l01Src_n.eq b a1 m1 z 8 hb g1 g2 (by omega)
    rw [e2]
    simp only [Option.bind_some, List.length_cons, List.length_nil]
    rw [if_pos (by omega), if_pos (by omega)]
    exact ⟨_, _, _, rfl, k1, k2⟩
  rw [if_neg c4]
  by_cases c5 : v = 5
  · rw [if_pos c5]
    obtain ⟨q, a2, m2, e2, q0, q1, k1, k2⟩ := spec_l01Src_n.eq b a1 m1 z 5 hb g1 g2 (by omega)
    rw [e2]
    simp only [Option.bind_some, List.length_cons, List.length_nil]
    rw [if_pos (by omega), if_pos (by omega)]
    exact ⟨_, _, _, rfl, k1, k2⟩
  rw [if_neg c5]
  by_cases c6 : v = 6
  · rw [if_pos c6]
    obtain ⟨q, a2, m2, e2, q0, q1, k1, k2⟩ := spec_l01Src_n.eq b a1 m1 z 10 hb g1 g2 (by omega)
    rw [e2]
    exact ⟨_, _, _, rfl, k1, k2⟩
  rw [if_neg c6]
  obtain ⟨q, a2, m2, e2, q0, q1, k1, k2⟩ := spec_l01Src_n.eq b a1 m1 z 6 hb g1 g2 (by omega)
  rw [e2]
  exact ⟨_, _, _, rfl, k1, k2⟩
theorem spec_l01Src_points.loop (b : List Int) (z : Int) (hb : b.length ≤ 1048576) (t : Nat) : ∀ (k : Nat) (acc : List Int) (a m : Int), acc.length + t ≤ 1000000 → 0 ≤ a → a ≤ b.length → t < k → ∃ p a' m', spec_l01Src_points.l0 k (t : Int) acc b a m z = some (p, a', m', z) ∧ p.length = acc.length + t ∧ 0 ≤ a' ∧ a' ≤ b.length := by
  induction t with
  | zero =>
    intro k acc a m ha h0 h1 hk
    obtain ⟨k, rfl⟩ : ∃ m, k = m + 1 := ⟨k - 1, by omega⟩
    exact ⟨acc, a, m, rfl, rfl, h0, h1⟩
  | succ t ih =>
    intro k acc a m ha h0 h1 hk
    obtain ⟨k, rfl⟩ : ∃ m, k = m + 1 := ⟨k - 1, by omega⟩
    obtain ⟨v, a1, m1, e, g1, g2⟩ := spec_l01Src_point.eq b a m z hb h0 h1
    obtain ⟨p, a2, m2, e2, hp, k1, k2⟩ := ih k (acc ++ [v]) a1 m1 (by rw [List.length_append, List.length_singleton]; omega) g1 g2 (by omega)
    rw [spec_l01Src_points.l0, if_pos (by omega), e, show wrap64 (((t + 1 : Nat) : Int) - 1) = (t : Int) by rw [wrap_in (by omega) (by omega)]; omega]
    simp only [Option.bind_some]
    rw [if_pos (by omega), e2]
    exact ⟨p, a2, m2, rfl, by rw [hp, List.length_append, List.length_singleton]; omega, k1, k2⟩
theorem spec_l01Src_points.eq (b : List Int) (a m z t : Int) (hb : b.length ≤ 1048576) (h0 : 0 ≤ a) (h1 : a ≤ b.length) (ht0 : 0 ≤ t) (ht : t ≤ 1000) {k : Nat} (hk : 2000 < k) : ∃ p a' m', spec_l01Src_points.f k b a m z t = some (p, a', m', z) ∧ p.length = t.toNat ∧ 0 ≤ a' ∧ a' ≤ b.length := by
  obtain ⟨n, rfl⟩ : ∃ n : Nat, t = (n : Int) := ⟨t.toNat, by omega⟩
  obtain ⟨p, a', m', e, hp, g1, g2⟩ := spec_l01Src_points.loop b z hb n k [] a m (by simp only [List.length_nil]; omega) h0 h1 (by omega)
  refine ⟨p, a', m', e, ?_, g1, g2⟩
  rw [hp, List.length_nil]
  omega
theorem spec_l01Source.loop (l : List Int) (hl : l.length ≤ 1048576) (d : Nat) : ∀ (k i : Nat) (m : Int), i ≤ l.length → l.length - i = d → d < k → ∃ m' z, spec_l01Source.l0 k l (i : Int) l 0 m 0 = some (l, 0, m', z) ∧ 0 ≤ z ∧ z ≤ 12 := by
  have hz : wrap64 ((l.length : Int) / 20) = (l.length : Int) / 20 := wrap_in (by omega) (by omega)
  have hend : ∀ m : Int, ∃ m' z, (if wrap64 ((l.length : Int) / 20) > 12 then some (l, (0 : Int), m, (12 : Int)) else some (l, 0, m, wrap64 ((l.length : Int) / 20))) = some (l, 0, m', z) ∧ 0 ≤ z ∧ z ≤ 12 := by
    intro m
    rw [hz]
    by_cases g : (l.length : Int) / 20 > 12
    · rw [if_pos g]; exact ⟨_, _, rfl, by omega, by omega⟩
    · rw [if_neg g]; exact ⟨_, _, rfl, by omega, by omega⟩
  induction d with
  | zero =>
    intro k i m hi hd hk
    obtain ⟨k, rfl⟩ : ∃ m, k = m + 1 := ⟨k - 1, by omega⟩
    rw [spec_l01Source.l0, if_neg (by omega)]
    exact hend m
  | succ d ih =>
    intro k i m hi hd hk
    obtain ⟨k, rfl⟩ : ∃ m, k = m + 1 := ⟨k - 1, by omega⟩
    rw [spec_l01Source.l0, if_pos (by omega)]
    by_cases g : (i : Int) < 64
    · rw [if_pos g, if_pos (by omega), wrap_succ (by omega)]
      exact ih k (i + 1) _ (by omega) (by omega) (by omega)
    · rw [if_neg g]
      exact hend m
theorem spec_l01Source.eq (l : List Int) (hl : l.length ≤ 1048576) {k : Nat} (hk : 1048577 < k) : ∃ m' z, spec_l01Source.f k l = some (l, 0, m', z) ∧ 0 ≤ z ∧ z ≤ 12 := by
  obtain ⟨m', z, h⟩ := spec_l01Source.loop l hl l.length k 0 88172645463325252 (by omega) (by omega) (by omega)
  exact ⟨m', z, h⟩
theorem spec_l01Src_edge.eq (b : List Int) (a m z : Int) (hb : b.length ≤ 1048576) (h0 : 0 ≤ a) (h1 : a ≤ b.length) : ∃ v a' m', spec_l01Src_edge.f b a m z = some (v, a', m', z) ∧ 0 ≤ a' ∧ a' ≤ b.length := by
  obtain ⟨q, a2, m2, e2, q0, q1, k1, k2⟩ := spec_l01Src_n.eq b a m z 14 hb h0 h1 (by omega)
  unfold spec_l01Src_edge.f
  simp only [Option.bind_some]
  rw [e2]
  simp only [Option.bind_some, List.length_cons, List.length_nil]
  rw [if_pos (by omega), if_pos (by omega)]
  exact ⟨_, _, _, rfl, k1, k2⟩
theorem spec_l01Src_pick.eq (b : List Int) (a m z : Int) (l : List ByteArray) (hl : 0 < l.length) (hl2 : l.length ≤ 100) (hb : b.length ≤ 1048576) (h0 : 0 ≤ a) (h1 : a ≤ b.length) : ∃ x a' m', spec_l01Src_pick.f b a m z l = some (x, a', m', z) ∧ x ∈ l ∧ 0 ≤ a' ∧ a' ≤ b.length := by
  obtain ⟨q, a2, m2, e2, q0, q1, k1, k2⟩ := spec_l01Src_n.eq b a m z (l.length : Int) hb h0 h1 (by omega)
  unfold spec_l01Src_pick.f
  rw [e2]
  simp only [Option.bind_some]
  rw [if_pos q0, if_pos (by omega)]
  refine ⟨_, _, _, rfl, ?_, k1, k2⟩
  obtain ⟨n, rfl⟩ : ∃ n : Nat, q = (n : Int) := ⟨q.toNat, by omega⟩
  have hn : n < l.length := by omega
  unfold rdOf
  rw [Int.toNat_natCast, List.getD_eq_getElem?_getD, List.getElem?_eq_getElem hn]
  exact List.getElem_mem hn
theorem pts_step (d : Array UInt8) (k i : Nat) (acc : List Int) (h : i < d.size) (hs : d.size ≤ 100) (ha : acc.length ≤ 100) (hc : (d[i]).toNat < 128) : spec_l01Points.l0 (k+1) ⟨d⟩ acc (i : Int) = spec_l01Points.l0 k ⟨d⟩ (acc ++ [((d[i]).toNat : Int)]) ((i + 1 : Nat) : Int) := by
  have z : (ByteArray.mk d).size = d.size := rfl
  have e : ((ByteArray.mk d).extract i (ByteArray.mk d).size).size = d.size - i := by rw [ByteArray.size_extract, z]; omega
  have b : bt ((ByteArray.mk d).extract i (ByteArray.mk d).size) 0 = ((d[i]).toNat : Int) := by
    unfold bt
    rw [dif_pos (by show 0 < _; rw [e]; omega)]
    have : ((ByteArray.mk d).extract i (ByteArray.mk d).size)[(0 : Int).toNat]'(by show 0 < _; rw [e]; omega) = d[i] := by
      show ((ByteArray.mk d).extract i (ByteArray.mk d).size)[0]'(by rw [e]; omega) = d[i]
      rw [ByteArray.getElem_extract]
      rfl
    rw [this]
  have w : wrap64 ((d[i]).toNat : Int) = ((d[i]).toNat : Int) := wrap_in (by omega) (by omega)
  rw [spec_l01Points.l0, if_pos (by rw [z]; omega), if_pos (by omega), if_pos (by rw [z]; omega), Int.toNat_natCast]
  unfold spec_l01First.f
  rw [if_pos (by rw [e]; omega), b, w, if_pos (by omega)]
  simp only [Option.bind_some]
  rw [if_pos (by omega), wrap_succ (by omega)]
theorem pts_end (d : Array UInt8) (k i : Nat) (acc : List Int) (h : i = d.size) : spec_l01Points.l0 (k+1) ⟨d⟩ acc (i : Int) = some acc := by
  rw [spec_l01Points.l0, if_neg (by rw [h]; show ¬ ((d.size : Int) < (d.size : Int)); omega)]
theorem pts_0 (k : Nat) : spec_l01Points.f (k + 20) ⟨#[]⟩ = some [] := (pts_end #[] (k + 19) 0 [] rfl)
theorem pts_ls (k : Nat) : spec_l01Points.f (k + 20) ⟨#[108, 115]⟩ = some [108, 115] := (Eq.trans (pts_step #[108, 115] (k + 19) 0 [] (by decide) (by decide) (by decide) (by decide)) (Eq.trans (pts_step #[108, 115] (k + 18) 1 [108] (by decide) (by decide) (by decide) (by decide)) (pts_end #[108, 115] (k + 17) 2 [108, 115] rfl)))
theorem pts_lsl (k : Nat) : spec_l01Points.f (k + 20) ⟨#[108, 115, 32, 45, 108]⟩ = some [108, 115, 32, 45, 108] := (Eq.trans (pts_step #[108, 115, 32, 45, 108] (k + 19) 0 [] (by decide) (by decide) (by decide) (by decide)) (Eq.trans (pts_step #[108, 115, 32, 45, 108] (k + 18) 1 [108] (by decide) (by decide) (by decide) (by decide)) (Eq.trans (pts_step #[108, 115, 32, 45, 108] (k + 17) 2 [108, 115] (by decide) (by decide) (by decide) (by decide)) (Eq.trans (pts_step #[108, 115, 32, 45, 108] (k + 16) 3 [108, 115, 32] (by decide) (by decide) (by decide) (by decide)) (Eq.trans (pts_step #[108, 115, 32, 45, 108] (k + 15) 4 [108, 115, 32, 45] (by decide) (by decide) (by decide) (by decide)) (pts_end #[108, 115, 32, 45, 108] (k + 14) 5 [108, 115, 32, 45, 108] rfl))))))
theorem pts_cda (k : Nat) : spec_l01Points.f (k + 20) ⟨#[99, 100, 32, 97]⟩ = some [99, 100, 32, 97] := (Eq.trans (pts_step #[99, 100, 32, 97] (k + 19) 0 [] (by decide) (by decide) (by decide) (by decide)) (Eq.trans (pts_step #[99, 100, 32, 97] (k + 18) 1 [99] (by decide) (by decide) (by decide) (by decide)) (Eq.trans (pts_step #[99, 100, 32, 97] (k + 17) 2 [99, 100] (by decide) (by decide) (by decide) (by decide)) (Eq.trans (pts_step #[99, 100, 32, 97] (k + 16) 3 [99, 100, 32] (by decide) (by decide) (by decide) (by decide)) (pts_end #[99, 100, 32, 97] (k + 15) 4 [99, 100, 32, 97] rfl)))))
theorem pts_cd (k : Nat) : spec_l01Points.f (k + 20) ⟨#[99, 100]⟩ = some [99, 100] := (Eq.trans (pts_step #[99, 100] (k + 19) 0 [] (by decide) (by decide) (by decide) (by decide)) (Eq.trans (pts_step #[99, 100] (k + 18) 1 [99] (by decide) (by decide) (by decide) (by decide)) (pts_end #[99, 100] (k + 17) 2 [99, 100] rfl)))
theorem pts_mk (k : Nat) : spec_l01Points.f (k + 20) ⟨#[109, 97, 107, 101]⟩ = some [109, 97, 107, 101] := (Eq.trans (pts_step #[109, 97, 107, 101] (k + 19) 0 [] (by decide) (by decide) (by decide) (by decide)) (Eq.trans (pts_step #[109, 97, 107, 101] (k + 18) 1 [109] (by decide) (by decide) (by decide) (by decide)) (Eq.trans (pts_step #[109, 97, 107, 101] (k + 17) 2 [109, 97] (by decide) (by decide) (by decide) (by decide)) (Eq.trans (pts_step #[109, 97, 107, 101] (k + 16) 3 [109, 97, 107] (by decide) (by decide) (by decide) (by decide)) (pts_end #[109, 97, 107, 101] (k + 15) 4 [109, 97, 107, 101] rfl)))))
theorem pts_mkx (k : Nat) : spec_l01Points.f (k + 20) ⟨#[109, 97, 107, 101, 32, 120]⟩ = some [109, 97, 107, 101, 32, 120] := (Eq.trans (pts_step #[109, 97, 107, 101, 32, 120] (k + 19) 0 [] (by decide) (by decide) (by decide) (by decide)) (Eq.trans (pts_step #[109, 97, 107, 101, 32, 120] (k + 18) 1 [109] (by decide) (by decide) (by decide) (by decide)) (Eq.trans (pts_step #[109, 97, 107, 101, 32, 120] (k + 17) 2 [109, 97] (by decide) (by decide) (by decide) (by decide)) (Eq.trans (pts_step #[109, 97, 107, 101, 32, 120] (k + 16) 3 [109, 97, 107] (by decide) (by decide) (by decide) (by decide)) (Eq.trans (pts_step #[109, 97, 107, 101, 32, 120] (k + 15) 4 [109, 97, 107, 101] (by decide) (by decide) (by decide) (by decide)) (Eq.trans (pts_step #[109, 97, 107, 101, 32, 120] (k + 14) 5 [109, 97, 107, 101, 32] (by decide) (by decide) (by decide) (by decide)) (pts_end #[109, 97, 107, 101, 32, 120] (k + 13) 6 [109, 97, 107, 101, 32, 120] rfl)))))))
theorem pts_l (k : Nat) : spec_l01Points.f (k + 20) ⟨#[108]⟩ = some [108] := (Eq.trans (pts_step #[108] (k + 19) 0 [] (by decide) (by decide) (by decide) (by decide)) (pts_end #[108] (k + 18) 1 [108] rfl))
theorem pts_c (k : Nat) : spec_l01Points.f (k + 20) ⟨#[99]⟩ = some [99] := (Eq.trans (pts_step #[99] (k + 19) 0 [] (by decide) (by decide) (by decide) (by decide)) (pts_end #[99] (k + 18) 1 [99] rfl))
theorem pts_m (k : Nat) : spec_l01Points.f (k + 20) ⟨#[109]⟩ = some [109] := (Eq.trans (pts_step #[109] (k + 19) 0 [] (by decide) (by decide) (by decide) (by decide)) (pts_end #[109] (k + 18) 1 [109] rfl))
theorem pts_x (k : Nat) : spec_l01Points.f (k + 20) ⟨#[120]⟩ = some [120] := (Eq.trans (pts_step #[120] (k + 19) 0 [] (by decide) (by decide) (by decide) (by decide)) (pts_end #[120] (k + 18) 1 [120] rfl))
theorem pts_a (k : Nat) : spec_l01Points.f (k + 20) ⟨#[97]⟩ = some [97] := (Eq.trans (pts_step #[97] (k + 19) 0 [] (by decide) (by decide) (by decide) (by decide)) (pts_end #[97] (k + 18) 1 [97] rfl))
theorem pts_zz (k : Nat) : spec_l01Points.f (k + 20) ⟨#[122, 122]⟩ = some [122, 122] := (Eq.trans (pts_step #[122, 122] (k + 19) 0 [] (by decide) (by decide) (by decide) (by decide)) (Eq.trans (pts_step #[122, 122] (k + 18) 1 [122] (by decide) (by decide) (by decide) (by decide)) (pts_end #[122, 122] (k + 17) 2 [122, 122] rfl)))
theorem spec_l01Src_l06Line.eq (b : List Int) (a m z : Int) (hb : b.length ≤ 1048576) (h0 : 0 ≤ a) (h1 : a ≤ b.length) {k : Nat} (hk : 30 < k) : ∃ p a' m', spec_l01Src_l06Line.f k b a m z = some (p, a', m', z) ∧ 0 ≤ a' ∧ a' ≤ b.length := by
  obtain ⟨k, rfl⟩ : ∃ m, k = m + 20 := ⟨k - 20, by omega⟩
  unfold spec_l01Src_l06Line.f
  obtain ⟨x, a1, m1, e, hx, g1, g2⟩ := spec_l01Src_pick.eq b a m z [(⟨#[108, 115]⟩ : ByteArray), (⟨#[108, 115, 32, 45, 108]⟩ : ByteArray), (⟨#[99, 100, 32, 97]⟩ : ByteArray), (⟨#[99, 100]⟩ : ByteArray), (⟨#[109, 97, 107, 101]⟩ : ByteArray), (⟨#[109, 97, 107, 101, 32, 120]⟩ : ByteArray), (⟨#[108]⟩ : ByteArray)] (by simp) (by simp) hb h0 h1
  rw [e]
  simp only [Option.bind_some]
  have : ∃ p, spec_l01Points.f (k + 20) x = some p := by
    simp only [List.mem_cons, List.not_mem_nil, or_false] at hx
    rcases hx with rfl | rfl | rfl | rfl | rfl | rfl | rfl
    · exact ⟨_, pts_ls k⟩
    · exact ⟨_, pts_lsl k⟩
    · exact ⟨_, pts_cda k⟩
    · exact ⟨_, pts_cd k⟩
    · exact ⟨_, pts_mk k⟩
    · exact ⟨_, pts_mkx k⟩
    · exact ⟨_, pts_l k⟩
  obtain ⟨p, hp⟩ := this
  rw [hp]
  exact ⟨_, _, _, rfl, g1, g2⟩
theorem spec_l01Src_l06Part.eq (b : List Int) (a m z : Int) (hb : b.length ≤ 1048576) (h0 : 0 ≤ a) (h1 : a ≤ b.length) {k : Nat} (hk : 30 < k) : ∃ p a' m', spec_l01Src_l06Part.f k b a m z = some (p, a', m', z) ∧ p.length ≤ 2 ∧ 0 ≤ a' ∧ a' ≤ b.length := by
  obtain ⟨k, rfl⟩ : ∃ m, k = m + 20 := ⟨k - 20, by omega⟩
  unfold spec_l01Src_l06Part.f
  obtain ⟨x, a1, m1, e, hx, g1, g2⟩ := spec_l01Src_pick.eq b a m z [(⟨#[]⟩ : ByteArray), (⟨#[108]⟩ : ByteArray), (⟨#[108, 115]⟩ : ByteArray), (⟨#[99]⟩ : ByteArray), (⟨#[99, 100]⟩ : ByteArray), (⟨#[109]⟩ : ByteArray), (⟨#[120]⟩ : ByteArray), (⟨#[97]⟩ : ByteArray), (⟨#[122, 122]⟩ : ByteArray)] (by simp) (by simp) hb h0 h1
  rw [e]
  simp only [Option.bind_some]
  have : ∃ p, spec_l01Points.f (k + 20) x = some p ∧ p.length ≤ 2 := by
    simp only [List.mem_cons, List.not_mem_nil, or_false] at hx
    rcases hx with rfl | rfl | rfl | rfl | rfl | rfl | rfl | rfl | rfl
    · exact ⟨_, pts_0 k, by decide⟩
    · exact ⟨_, pts_l k, by decide⟩
    · exact ⟨_, pts_ls k, by decide⟩
    · exact ⟨_, pts_c k, by decide⟩
    · exact ⟨_, pts_cd k, by decide⟩
    · exact ⟨_, pts_m k, by decide⟩
    · exact ⟨_, pts_x k, by decide⟩
    · exact ⟨_, pts_a k, by decide⟩
    · exact ⟨_, pts_zz k, by decide⟩
  obtain ⟨p, hp, hp2⟩ := this
  rw [hp]
  exact ⟨_, _, _, rfl, hp2, g1, g2⟩
theorem spec_l01Src_l06Hist.j2_eq (b : List Int) (a m z : Int) (l : List (List Int)) (x : Int) (hl : l.length ≤ 40) (hb : b.length ≤ 1048576) (h0 : 0 ≤ a) (h1 : a ≤ b.length) {k : Nat} (hk : 3000 < k) : ∃ l' c d a' m', spec_l01Src_l06Hist.j2 k b a m z l x = some (l', c, d, a', m', z) ∧ l'.length ≤ 41 ∧ 0 ≤ a' ∧ a' ≤ b.length := by
  obtain ⟨k, rfl⟩ : ∃ m, k = m + 1 := ⟨k - 1, by omega⟩
  rw [spec_l01Src_l06Hist.j2]
  obtain ⟨v, a1, m1, e1, v0, v1, g1, g2⟩ := spec_l01Src_n.eq b a m z 4 hb h0 h1 (by omega)
  rw [e1]
  simp only [Option.bind_some]
  obtain ⟨p, a2, m2, e2, hp, k1, k2⟩ := spec_l01Src_points.eq b a1 m1 z v hb g1 g2 v0 (by omega) (k := k) (by omega)
  rw [e2]
  simp only [Option.bind_some]
  obtain ⟨o, a3, m3, e3, l1, l2⟩ := spec_l01Src_one.eq b a2 m2 z 20 hb k1 k2 (by omega)
  rw [e3]
  simp only [Option.bind_some]
  cases o
  · rw [if_neg (by decide)]
    exact ⟨_, _, _, _, _, rfl, by omega, l1, l2⟩
  · obtain ⟨q, a4, m4, e4, q0, q1, n1, n2⟩ := spec_l01Src_n.eq b a3 m3 z 3 hb l1 l2 (by omega)
    obtain ⟨r, a5, m5, e5, r0, r1, s1, s2⟩ := spec_l01Src_n.eq b a4 m4 z 2 hb n1 n2 (by omega)
    rw [if_pos rfl, e4]
    simp only [Option.bind_some]
    rw [e5]
    simp only [Option.bind_some, List.length_cons, List.length_nil]
    by_cases c0 : q = 0
    · rw [if_pos c0, if_pos (by omega), if_pos (by omega)]
      exact ⟨_, _, _, _, _, rfl, by omega, s1, s2⟩
    · rw [if_neg c0]
      by_cases c1 : q = 1
      · rw [if_pos c1, if_pos (by omega)]
        exact ⟨_, _, _, _, _, rfl, by rw [List.length_append, List.length_singleton]; omega, n1, n2⟩
      · rw [if_neg c1]
        exact ⟨_, _, _, _, _, rfl, by omega, n1, n2⟩
theorem spec_l01Src_l06Hist.loop (b : List Int) (z x : Int) (hb : b.length ≤ 1048576) (t : Nat) : ∀ (k : Nat) (l : List (List Int)) (a m : Int), l.length + t ≤ 40 → 0 ≤ a → a ≤ b.length → t + 4000 < k → ∃ l' c d a' m', spec_l01Src_l06Hist.l0 k (t : Int) b a m z l x = some (l', c, d, a', m', z) ∧ l'.length ≤ 41 ∧ 0 ≤ a' ∧ a' ≤ b.length := by
  induction t with
  | zero =>
    intro k l a m hl h0 h1 hk
    obtain ⟨k, rfl⟩ : ∃ m, k = m + 1 := ⟨k - 1, by omega⟩
    rw [spec_l01Src_l06Hist.l0, if_neg (by omega), wrap_in (x := (l.length : Int) + 1) (by omega) (by omega)]
    obtain ⟨v, a1, m1, e1, v0, v1, g1, g2⟩ := spec_l01Src_n.eq b a m z ((l.length : Int) + 1) hb h0 h1 (by omega)
    rw [e1]
    simp only [Option.bind_some]
    obtain ⟨o, a3, m3, e3, l1, l2⟩ := spec_l01Src_one.eq b a1 m1 z 2 hb g1 g2 (by omega)
    rw [e3]
    simp only [Option.bind_some]
    cases o
    · rw [if_neg (by decide)]
      exact spec_l01Src_l06Hist.j2_eq b a3 m3 z l v (by omega) hb l1 l2 (by omega)
    · rw [if_pos rfl]
      exact spec_l01Src_l06Hist.j2_eq b a3 m3 z l _ (by omega) hb l1 l2 (by omega)
  | succ t ih =>
    intro k l a m hl h0 h1 hk
    obtain ⟨k, rfl⟩ : ∃ m, k = m + 1 := ⟨k - 1, by omega⟩
    obtain ⟨p, a1, m1, e1, g1, g2⟩ := spec_l01Src_l06Line.eq b a m z hb h0 h1 (k := k) (by omega)
    rw [spec_l01Src_l06Hist.l0, if_pos (by omega), e1, show wrap64 (((t + 1 : Nat) : Int) - 1) = (t : Int) by rw [wrap_in (by omega) (by omega)]; omega]
    simp only [Option.bind_some]
    rw [if_pos (by omega)]
    exact ih k (l ++ [p]) a1 m1 (by rw [List.length_append, List.length_singleton]; omega) g1 g2 (by omega)
theorem spec_l01Src_l06Hist.eq (b : List Int) (a m z : Int) (hb : b.length ≤ 1048576) (h0 : 0 ≤ a) (h1 : a ≤ b.length) {k : Nat} (hk : 5000 < k) : ∃ l' c d a' m', spec_l01Src_l06Hist.f k b a m z = some (l', c, d, a', m', z) ∧ l'.length ≤ 41 ∧ 0 ≤ a' ∧ a' ≤ b.length := by
  have hj : ∀ (t a m : Int), 0 ≤ t → t ≤ 40 → 0 ≤ a → a ≤ b.length → ∃ l' c d a' m', spec_l01Src_l06Hist.j0 k t b a m z 0 = some (l', c, d, a', m', z) ∧ l'.length ≤ 41 ∧ 0 ≤ a' ∧ a' ≤ b.length := by
    intro t a m t0 t1 h0 h1
    obtain ⟨k, rfl⟩ : ∃ m, k = m + 1 := ⟨k - 1, by omega⟩
    obtain ⟨n, rfl⟩ : ∃ n : Nat, t = (n : Int) := ⟨t.toNat, by omega⟩
    rw [spec_l01Src_l06Hist.j0]
    exact spec_l01Src_l06Hist.loop b z 0 hb n k [] a m (by simp only [List.length_nil]; omega) h0 h1 (by omega)
  unfold spec_l01Src_l06Hist.f
  obtain ⟨v, a1, m1, e1, v0, v1, g1, g2⟩ := spec_l01Src_n.eq b a m z 6 hb h0 h1 (by omega)
  rw [e1]
  simp only [Option.bind_some]
  obtain ⟨o, a3, m3, e3, l1, l2⟩ := spec_l01Src_one.eq b a1 m1 z 12 hb g1 g2 (by omega)
  rw [e3]
  simp only [Option.bind_some]
  cases o
  · rw [if_neg (by decide)]
    exact hj v a3 m3 v0 (by omega) l1 l2
  · obtain ⟨q, a4, m4, e4, q0, q1, n1, n2⟩ := spec_l01Src_n.eq b a3 m3 z 3 hb l1 l2 (by omega)
    rw [if_pos rfl, e4]
    simp only [Option.bind_some]
    rw [wrap_in (x := 29 + q) (by omega) (by omega)]
    exact hj _ a4 m4 (by omega) (by omega) n1 n2
theorem spec_DrawHistFind.eq (l : List Int) (hl : l.length ≤ 1048576) {k : Nat} (hk : 2000000 < k) : ∃ L a d p i, spec_DrawHistFind.f k l = some (L, a, d, p, i) ∧ L.length ≤ 41 ∧ p.length ≤ 2 := by
  obtain ⟨m, z, e, hz, hz2⟩ := spec_l01Source.eq l hl (k := k) (by omega)
  unfold spec_DrawHistFind.f
  rw [e]
  simp only [Option.bind_some]
  obtain ⟨L, c, d, a1, m1, e1, hL, g1, g2⟩ := spec_l01Src_l06Hist.eq l 0 m z hl (by omega) (by omega) (k := k) (by omega)
  rw [e1]
  simp only [Option.bind_some]
  obtain ⟨o, a3, m3, e3, l1, l2⟩ := spec_l01Src_one.eq l a1 m1 z 12 hl g1 g2 (by omega)
  rw [e3]
  simp only [Option.bind_some]
  obtain ⟨p, a4, m4, e4, hp, n1, n2⟩ := spec_l01Src_l06Part.eq l a3 m3 z hl l1 l2 (k := k) (by omega)
  rw [e4]
  simp only [Option.bind_some]
  cases o
  · obtain ⟨q, a5, m5, e5, q0, q1, r1, r2⟩ := spec_l01Src_n.eq l a4 m4 z 8 hl n1 n2 (by omega)
    rw [if_neg (by decide), e5]
    exact ⟨_, _, _, _, _, rfl, hL, hp⟩
  · obtain ⟨q, a5, m5, e5, r1, r2⟩ := spec_l01Src_edge.eq l a4 m4 z hl n1 n2
    rw [if_pos rfl, e5]
    exact ⟨_, _, _, _, _, rfl, hL, hp⟩
theorem spec_l01Point.eq (a : Int) : spec_l01Point.f a = some (isPt a) := by
  simp only [spec_l01Point.f, isPt]
  (repeat' split) <;> (refine some_b ?_; simp only [Bool.not_eq_true', Bool.not_false, decide_eq_true_eq, decide_eq_false_iff_not, Bool.false_eq_true]; first | omega | (rw [false_iff]; omega) | (rw [true_iff]; omega))
theorem spec_PointsRight.loop (l : List Int) (hl : l.length ≤ 300) (d : Nat) : ∀ (k i : Nat), i ≤ l.length → l.length - i = d → d < k → spec_PointsRight.l0 k l (i : Int) = some ((l.drop i).all isPt) := by
  induction d with
  | zero =>
    intro k i hi hd hk
    obtain ⟨k, rfl⟩ : ∃ m, k = m + 1 := ⟨k - 1, by omega⟩
    simp only [spec_PointsRight.l0]
    rw [if_neg (by omega), List.drop_eq_nil_of_le (by omega)]
    rfl
  | succ d ih =>
    intro k i hi hd hk
    obtain ⟨k, rfl⟩ : ∃ m, k = m + 1 := ⟨k - 1, by omega⟩
    have hlt : i < l.length := by omega
    simp only [spec_PointsRight.l0]
    rw [if_pos (int_lt hlt), if_pos (int_nn i), spec_l01Point.eq, wrap_succ (by omega), ih k (i + 1) (by omega) (by omega) (by omega), drop_rd hlt]
    simp only [Option.bind_some, List.all_cons]
    cases isPt (rd l (i : Int)) <;> simp
theorem spec_PointsRight.eq (l : List Int) {k : Nat} (hk : 300 < k) : spec_PointsRight.f k l = some (ptsOK l) := by
  unfold spec_PointsRight.f ptsOK
  by_cases h : l.length ≤ 300
  · rw [if_neg (by omega)]
    have := spec_PointsRight.loop l h l.length k 0 (by omega) (by omega) (by omega)
    simp only [h, decide_true, Bool.true_and]
    simpa using this
  · rw [if_pos (by omega)]
    simp [h]
theorem rdLL {l : List (List Int)} {i : Nat} (h : i < l.length) : rd_L3 l (i : Int) = l[i] := by
  unfold rd_L3
  rw [Int.toNat_natCast, List.getD_eq_getElem?_getD, List.getElem?_eq_getElem h]
  rfl
def itemOK (x : List Int) : Bool := decide (0 < x.length) && ptsOK x
theorem drop_LL {l : List (List Int)} {i : Nat} (h : i < l.length) : l.drop i = l[i] :: l.drop (i + 1) := List.drop_eq_getElem_cons h
theorem spec_l04Items.loop (l : List (List Int)) (hl : l.length ≤ 1048576) (d : Nat) : ∀ (k i : Nat), i ≤ l.length → l.length - i = d → d + 301 < k → spec_l04Items.l0 k l (i : Int) = some ((l.drop i).all itemOK) := by
  induction d with
  | zero =>
    intro k i hi hd hk
    obtain ⟨k, rfl⟩ : ∃ m, k = m + 1 := ⟨k - 1, by omega⟩
    simp only [spec_l04Items.l0]
    rw [if_neg (by omega), List.drop_eq_nil_of_le (by omega)]
    rfl
  | succ d ih =>
    intro k i hi hd hk
    obtain ⟨k, rfl⟩ : ∃ m, k = m + 1 := ⟨k - 1, by omega⟩
    have hlt : i < l.length := by omega
    simp only [spec_l04Items.l0]
    rw [if_pos (int_lt hlt), if_pos (int_nn i), rdLL hlt, spec_PointsRight.eq _ (by omega), wrap_succ (by omega), ih k (i + 1) (by omega) (by omega) (by omega), drop_LL hlt]
    simp only [Option.bind_some, List.all_cons, itemOK]
    by_cases h : l[i].length = 0
    · rw [if_pos (by omega)]
      simp [h]
    · rw [if_neg (by omega)]
      cases ptsOK l[i]
      · simp
      · simp [Nat.pos_of_ne_zero h]
theorem spec_l04Items.eq {l : List (List Int)} {n : Int} {k : Nat} (hl : l.length ≤ 1048576) (hk : l.length + 301 < k) : spec_l04Items.f k l n = some (decide ((l.length : Int) ≤ n) && l.all itemOK) := by
  unfold spec_l04Items.f
  by_cases h : (l.length : Int) ≤ n
  · rw [if_neg (by omega)]
    have := spec_l04Items.loop l hl l.length k 0 (by omega) (by omega) hk
    rw [List.drop_zero] at this
    simpa [h] using this
  · rw [if_pos (by omega)]
    simp [h]
theorem impl_within.eq (a b c : Int) : impl_within.f a b c = some (decide (b ≤ a ∧ a ≤ c)) := by
  unfold impl_within.f
  by_cases h : b ≤ a <;> simp [h]
theorem impl_isPoint.eq (a : Int) : impl_isPoint.f a = some (isPt a) := by
  simp only [impl_isPoint.f, impl_within.eq, Option.bind_some, isPt, decide_eq_true_eq]
  split <;> (refine some_b ?_; simp only [Bool.not_eq_true', decide_eq_true_eq, decide_eq_false_iff_not, Bool.false_eq_true]; first | omega | (rw [false_iff]; omega))
theorem slices_IndexFunc_sint64_int64.loop (l : List Int) (hl : l.length ≤ 300) (d : Nat) : ∀ (k i : Nat), i ≤ l.length → l.length - i = d → d < k → ∃ r : Int, slices_IndexFunc_sint64_int64.l0 k l (l.length : Int) (i : Int) = some r ∧ (0 ≤ r ↔ (l.drop i).all isPt = false) := by
  induction d with
  | zero =>
    intro k i hi hd hk
    obtain ⟨k, rfl⟩ : ∃ m, k = m + 1 := ⟨k - 1, by omega⟩
    refine ⟨-1, ?_, ?_⟩
    · simp only [slices_IndexFunc_sint64_int64.l0]
      rw [if_neg (by omega)]
    · rw [List.drop_eq_nil_of_le (by omega)]
      simp
  | succ d ih =>
    intro k i hi hd hk
    obtain ⟨k, rfl⟩ : ∃ m, k = m + 1 := ⟨k - 1, by omega⟩
    have hlt : i < l.length := by omega
    have hp : impl_PointsRight_1.f (rd l (i : Int)) = some (!isPt (rd l (i : Int))) := by
      unfold impl_PointsRight_1.f
      rw [impl_isPoint.eq]
      rfl
    simp only [slices_IndexFunc_sint64_int64.l0]
    rw [if_pos (int_lt hlt), if_pos (int_nn i), if_pos (int_lt hlt), hp, wrap_succ (by omega), drop_rd hlt]
    simp only [Option.bind_some, List.all_cons]
    cases isPt (rd l (i : Int))
    · exact ⟨i, by simp, by simp⟩
    · simpa using ih k (i + 1) (by omega) (by omega) (by omega)
theorem impl_PointsRight.eq (l : List Int) {k : Nat} (hk : 300 < k) : impl_PointsRight.f k l = some (ptsOK l) := by
  unfold impl_PointsRight.f ptsOK
  by_cases h : l.length ≤ 300
  · rw [if_pos (by omega)]
    obtain ⟨r, h1, h2⟩ := slices_IndexFunc_sint64_int64.loop l h l.length k 0 (by omega) (by omega) (by omega)
    unfold slices_ContainsFunc_sint64_int64.f slices_IndexFunc_sint64_int64.f
    rw [show ((0 : Nat) : Int) = 0 from rfl] at h1
    rw [h1]
    simp only [Option.bind_some, h, decide_true, Bool.true_and]
    rw [List.drop_zero] at h2
    refine some_b ?_
    cases hq : l.all isPt
    · have := h2.2 hq; simp; omega
    · have : ¬ 0 ≤ r := fun h3 => by rw [h2.1 h3] at hq; cases hq
      simp; omega
  · rw [if_neg (by omega)]
    simp [h]
theorem impl_isItem.eq (l : List Int) {k : Nat} (hk : 300 < k) : impl_isItem.f k l = some (itemOK l) := by
  unfold impl_isItem.f itemOK
  rw [impl_PointsRight.eq _ hk]
  simp only [Option.bind_some]
  by_cases h : 0 < l.length
  · rw [if_pos (by omega)]; simp [h]
  · rw [if_neg (by omega)]; simp [h]
theorem slices_IndexFunc_ssint64_sint64.loop (l : List (List Int)) (hl : l.length ≤ 1048576) (d : Nat) : ∀ (k i : Nat), i ≤ l.length → l.length - i = d → d + 301 < k → ∃ r : Int, slices_IndexFunc_ssint64_sint64.l0 k l (l.length : Int) (i : Int) = some r ∧ (0 ≤ r ↔ (l.drop i).all itemOK = false) := by
  induction d with
  | zero =>
    intro k i hi hd hk
    obtain ⟨k, rfl⟩ : ∃ m, k = m + 1 := ⟨k - 1, by omega⟩
    refine ⟨-1, ?_, ?_⟩
    · simp only [slices_IndexFunc_ssint64_sint64.l0]
      rw [if_neg (by omega)]
    · rw [List.drop_eq_nil_of_le (by omega)]
      simp
  | succ d ih =>
    intro k i hi hd hk
    obtain ⟨k, rfl⟩ : ∃ m, k = m + 1 := ⟨k - 1, by omega⟩
    have hlt : i < l.length := by omega
    have hp : impl_areItems_1.f k l[i] = some (!itemOK l[i]) := by
      unfold impl_areItems_1.f
      rw [impl_isItem.eq _ (by omega)]
      rfl
    simp only [slices_IndexFunc_ssint64_sint64.l0]
    rw [if_pos (int_lt hlt), if_pos (int_nn i), if_pos (int_lt hlt), rdLL hlt, hp, wrap_succ (by omega), drop_LL hlt]
    simp only [Option.bind_some, List.all_cons]
    cases itemOK l[i]
    · exact ⟨i, by simp, by simp⟩
    · simpa using ih k (i + 1) (by omega) (by omega) (by omega)
theorem impl_areItems.eq {l : List (List Int)} {k : Nat} (hl : l.length ≤ 1048576) (hk : l.length + 301 < k) : impl_areItems.f k l = some (l.all itemOK) := by
  unfold impl_areItems.f
  obtain ⟨r, h1, h2⟩ := slices_IndexFunc_ssint64_sint64.loop l hl l.length k 0 (by omega) (by omega) (by omega)
  unfold slices_ContainsFunc_ssint64_sint64.f slices_IndexFunc_ssint64_sint64.f
  rw [show ((0 : Nat) : Int) = 0 from rfl] at h1
  rw [h1]
  simp only [Option.bind_some]
  rw [List.drop_zero] at h2
  refine some_b ?_
  cases hq : l.all itemOK
  · have := h2.2 hq; simp; omega
  · have : ¬ 0 ≤ r := fun h3 => by rw [h2.1 h3] at hq; cases hq
    simp; omega
def histOK (l : List (List Int)) (a : Int) (d : List Int) : Bool := decide (l.length ≤ 30) && l.all itemOK && decide (0 ≤ a ∧ a ≤ (l.length : Int)) && ptsOK d
theorem spec_HistRight.eq {l : List (List Int)} (a : Int) (d : List Int) {k : Nat} (hl : l.length ≤ 1048576) (hk : l.length + 301 < k) : spec_HistRight.f k l a d = some (histOK l a d) := by
  unfold spec_HistRight.f histOK
  rw [spec_l04Items.eq hl hk, spec_PointsRight.eq _ (by omega)]
  simp only [Option.bind_some]
  cases l.all itemOK
  · simp
  · by_cases h : l.length ≤ 30
    · have h' : (l.length : Int) ≤ 30 := by omega
      simp only [h, h', decide_true, Bool.and_true, Bool.true_and, if_true]
      by_cases h1 : a ≥ 0
      · rw [if_pos h1]
        by_cases h2 : a ≤ (l.length : Int)
        · rw [if_pos h2, decide_eq_true (show 0 ≤ a ∧ a ≤ (l.length : Int) by omega), Bool.true_and]
        · rw [if_neg h2, decide_eq_false (show ¬ (0 ≤ a ∧ a ≤ (l.length : Int)) by omega), Bool.false_and]
      · rw [if_neg h1, decide_eq_false (show ¬ (0 ≤ a ∧ a ≤ (l.length : Int)) by omega), Bool.false_and]
    · have h' : ¬ (l.length : Int) ≤ 30 := by omega
      simp [h, h']
theorem impl_HistRight.eq {l : List (List Int)} (a : Int) (d : List Int) {k : Nat} (hl : l.length ≤ 1048576) (hk : l.length + 301 < k) : impl_HistRight.f k l a d = some (histOK l a d) := by
  unfold impl_HistRight.f histOK
  by_cases h : l.length ≤ 30
  · rw [if_pos (by omega), impl_areItems.eq hl hk, show impl_size_sint64.f l = some (l.length : Int) from rfl]
    simp only [Option.bind_some, impl_within.eq, impl_PointsRight.eq d (show 300 < k by omega)]
    cases l.all itemOK
    · simp
    · by_cases h1 : 0 ≤ a ∧ a ≤ (l.length : Int)
      · simp [h, h1]
      · rw [decide_eq_false h1]
        simp [h]
  · rw [if_neg (by omega)]
    simp [h]
theorem spec_l01Same.loop (a b : List Int) (hab : a.length = b.length) (hl : a.length ≤ 1048576) (d : Nat) : ∀ (k i : Nat), i ≤ a.length → a.length - i = d → d < k → spec_l01Same.l0 k a b (i : Int) = some (decide (a.drop i = b.drop i)) := by
  induction d with
  | zero =>
    intro k i hi hd hk
    obtain ⟨k, rfl⟩ : ∃ m, k = m + 1 := ⟨k - 1, by omega⟩
    simp only [spec_l01Same.l0]
    rw [if_neg (by omega), List.drop_eq_nil_of_le (by omega), List.drop_eq_nil_of_le (by omega)]
    rfl
  | succ d ih =>
    intro k i hi hd hk
    obtain ⟨k, rfl⟩ : ∃ m, k = m + 1 := ⟨k - 1, by omega⟩
    have hlt : i < a.length := by omega
    simp only [spec_l01Same.l0]
    rw [if_pos (int_lt hlt), if_pos (int_nn i), if_pos (by omega), wrap_succ (by omega), ih k (i + 1) (by omega) (by omega) (by omega), drop_rd hlt, drop_rd (show i < b.length by omega)]
    by_cases h : rd a (i : Int) = rd b (i : Int)
    · rw [if_pos h, h]
      simp
    · rw [if_neg h]
      simp [h]
theorem spec_l01Same.eq {a b : List Int} {k : Nat} (hl : a.length ≤ 1048576) (hk : a.length < k) : spec_l01Same.f k a b = some (decide (a = b)) := by
  unfold spec_l01Same.f
  by_cases h : a.length = b.length
  · rw [if_pos (by omega)]
    have := spec_l01Same.loop a b h hl a.length k 0 (by omega) (by omega) hk
    simpa using this
  · rw [if_neg (by omega)]
    refine congrArg some (decide_eq_false (fun e => h (by rw [e]))).symm
theorem slices_Equal_sint64_int64.loop (a b : List Int) (hab : a.length = b.length) (hl : a.length ≤ 1048576) (d : Nat) : ∀ (k i : Nat), i ≤ a.length → a.length - i = d → d < k → slices_Equal_sint64_int64.l0 k a b (a.length : Int) (i : Int) = some (decide (a.drop i = b.drop i)) := by
  induction d with
  | zero =>
    intro k i hi hd hk
    obtain ⟨k, rfl⟩ : ∃ m, k = m + 1 := ⟨k - 1, by omega⟩
    simp only [slices_Equal_sint64_int64.l0]
    rw [if_neg (by omega), List.drop_eq_nil_of_le (by omega), List.drop_eq_nil_of_le (by omega)]
    rfl
  | succ d ih =>
    intro k i hi hd hk
    obtain ⟨k, rfl⟩ : ∃ m, k = m + 1 := ⟨k - 1, by omega⟩
    have hlt : i < a.length := by omega
    simp only [slices_Equal_sint64_int64.l0]
    rw [if_pos (int_lt hlt), if_pos (int_nn i), if_pos (int_lt hlt), if_pos (by omega), wrap_succ (by omega), ih k (i + 1) (by omega) (by omega) (by omega), drop_rd hlt, drop_rd (show i < b.length by omega)]
    by_cases h : rd a (i : Int) = rd b (i : Int)
    · rw [if_pos h, h]
      simp
    · rw [if_neg h]
      simp [h]
theorem slices_Equal_sint64_int64.eq {a b : List Int} {k : Nat} (hl : a.length ≤ 1048576) (hk : a.length < k) : slices_Equal_sint64_int64.f k a b = some (decide (a = b)) := by
  unfold slices_Equal_sint64_int64.f
  by_cases h : a.length = b.length
  · rw [if_pos (by omega)]
    have := slices_Equal_sint64_int64.loop a b h hl a.length k 0 (by omega) (by omega) hk
    simpa using this
  · rw [if_neg (by omega)]
    refine congrArg some (decide_eq_false (fun e => h (by rw [e]))).symm
/-- does p stand in x, at j or at one of the d - 1 places behind it -/
def hldF (x p : List Int) : Nat → Nat → Bool
  | 0, _ => false
  | d + 1, j => if (x.drop j).take p.length = p then true else hldF x p d (j + 1)
theorem hldF_zero (x p : List Int) (j : Nat) : hldF x p 0 j = false := rfl
theorem hldF_pos {x p : List Int} {d j : Nat} (h : (x.drop j).take p.length = p) : hldF x p (d + 1) j = true := if_pos h
theorem hldF_neg {x p : List Int} {d j : Nat} (h : ¬ (x.drop j).take p.length = p) : hldF x p (d + 1) j = hldF x p d (j + 1) := if_neg h
def hldB (x p : List Int) : Bool := hldF x p (x.length + 1 - p.length) 0
def fndL (l : List (List Int)) (p : List Int) : Nat → Int
  | 0 => -1
  | n + 1 => if hldB (l.getD n []) p = true then (n : Int) else fndL l p n
theorem fndL_succ (l : List (List Int)) (p : List Int) (n : Nat) : fndL l p (n + 1) = if hldB (l.getD n []) p = true then (n : Int) else fndL l p n := rfl
theorem getD_LL {l : List (List Int)} {n : Nat} (h : n < l.length) : l.getD n [] = l[n] := by
  rw [List.getD_eq_getElem?_getD, List.getElem?_eq_getElem h]
  rfl
theorem hist_item {l : List (List Int)} {a : Int} {d : List Int} (h : histOK l a d = true) : l.length ≤ 30 ∧ ∀ x ∈ l, x.length ≤ 300 := by
  unfold histOK at h
  simp only [Bool.and_eq_true, decide_eq_true_eq] at h
  refine ⟨h.1.1.1, fun x hx => ?_⟩
  have := List.all_eq_true.1 h.1.1.2 x hx
  unfold itemOK at this
  simp only [Bool.and_eq_true] at this
  exact ptsOK_len this.2
theorem spec_HistFind.inner (l : List (List Int)) (a : Int) (dr p x : List Int) (n K : Nat) (hx : x.length ≤ 300) (hp : p.length ≤ 400) (hK : 500 < K) (hout : ∀ k, K < k → spec_HistFind.l0 k p ((n : Int) - 1) l a dr = some (fndL l p n)) (hn : n ≤ 30) (d : Nat) : ∀ (k j : Nat), x.length + 1 - p.length - j = d → j ≤ x.length + 1 → d + 1 + K < k → spec_HistFind.l1 k p (n : Int) x (j : Int) l a dr = some (if hldF x p d j = true then (n : Int) else fndL l p n) := by
  induction d with
  | zero =>
    intro k j hd hj hk
    obtain ⟨k, rfl⟩ : ∃ m, k = m + 1 := ⟨k - 1, by omega⟩
    simp only [spec_HistFind.l1]
    rw [wrap_in (show -9223372036854775808 ≤ (j : Int) + (p.length : Int) by omega) (by omega), if_neg (by omega), wrap_in (by omega) (by omega), hout k (by omega), hldF_zero]
    simp
  | succ d ih =>
    intro k j hd hj hk
    obtain ⟨k, rfl⟩ : ∃ m, k = m + 1 := ⟨k - 1, by omega⟩
    simp only [spec_HistFind.l1]
    rw [wrap_in (show -9223372036854775808 ≤ (j : Int) + (p.length : Int) by omega) (by omega), if_pos (by omega), if_pos (by omega), if_pos (by omega)]
    have e : (x.take (((j : Int) + (p.length : Int)) : Int).toNat).drop (j : Int).toNat = (x.drop j).take p.length := by
      rw [show (((j : Int) + (p.length : Int)) : Int).toNat = j + p.length by omega, Int.toNat_natCast, List.drop_take, Nat.add_sub_cancel_left]
    rw [e, spec_l01Same.eq (by rw [List.length_take]; omega) (by rw [List.length_take]; omega)]
    simp only [Option.bind_some, decide_eq_true_eq]
    by_cases h : (x.drop j).take p.length = p
    · rw [if_pos h, hldF_pos h, if_pos rfl]
    · rw [if_neg h, hldF_neg h, wrap_succ (by omega)]
      exact ih k (j + 1) (by omega) (by omega) (by omega)
theorem spec_HistFind.loop (l : List (List Int)) (a : Int) (dr p : List Int) (hl : l.length ≤ 30) (hL : ∀ x ∈ l, x.length ≤ 300) (hp : p.length ≤ 400) (n : Nat) : ∀ k, n ≤ l.length → 310 * n + 600 < k → spec_HistFind.l0 k p ((n : Int) - 1) l a dr = some (fndL l p n) := by
  induction n with
  | zero =>
    intro k hn hk
    obtain ⟨k, rfl⟩ : ∃ m, k = m + 1 := ⟨k - 1, by omega⟩
    simp only [spec_HistFind.l0]
    rw [if_neg (by omega)]
    rfl
  | succ n ih =>
    intro k hn hk
    obtain ⟨k, rfl⟩ : ∃ m, k = m + 1 := ⟨k - 1, by omega⟩
    have hlt : n < l.length := by omega
    have hx := hL l[n] (List.getElem_mem hlt)
    simp only [spec_HistFind.l0]
    rw [show ((n + 1 : Nat) : Int) - 1 = (n : Int) by omega, if_pos (by omega), if_pos (by omega), if_pos (by omega), rdLL hlt]
    obtain ⟨K, hK⟩ : ∃ K, K = 310 * n + 600 := ⟨_, rfl⟩
    have := spec_HistFind.inner l a dr p l[n] n K hx hp (by omega) (fun k hk => ih k (by omega) (by omega)) (by omega) (l[n].length + 1 - p.length) k 0 (by omega) (by omega) (by omega)
    rw [fndL_succ, getD_LL hlt]
    exact this
def findV (l : List (List Int)) (a : Int) (d p : List Int) (i : Int) : Int := if p.length > 400 then 0 else if histOK l a d = true ∧ ptsOK p = true then fndL l p (min (max i 0) (l.length : Int)).toNat else -1
theorem spec_HistFind.eq {l : List (List Int)} (a : Int) (d p : List Int) (i : Int) {k : Nat} (hl : l.length ≤ 1048576) (hk : l.length + 20000 < k) : spec_HistFind.f k l a d p i = some (findV l a d p i) := by
  obtain ⟨k, rfl⟩ : ∃ m, k = m + 1 := ⟨k - 1, by omega⟩
  unfold spec_HistFind.f findV
  by_cases h1 : p.length > 400
  · rw [if_pos (by omega), if_pos h1]
  · rw [if_neg (by omega), if_neg h1, spec_HistRight.eq _ _ hl (by omega)]
    simp only [Option.bind_some]
    by_cases h2 : histOK l a d = true
    · rw [if_pos h2, spec_PointsRight.eq _ (by omega)]
      simp only [Option.bind_some]
      obtain ⟨hl, hL⟩ := hist_item h2
      by_cases h3 : ptsOK p = true
      · rw [if_pos ⟨h2, h3⟩, h3]
        simp only [spec_HistFind.j0, Bool.not_true, Bool.false_eq_true, if_false]
        have e1 : spec_l01Max.f 0 i = some (max i 0) := by
          unfold spec_l01Max.f
          split <;> refine congrArg some ?_ <;> omega
        rw [e1]
        simp only [Option.bind_some]
        have e2 : spec_l01Min.f (max i 0) (l.length : Int) = some (((min (max i 0) (l.length : Int)).toNat : Nat) : Int) := by
          unfold spec_l01Min.f
          split <;> refine congrArg some ?_ <;> omega
        rw [e2]
        simp only [Option.bind_some]
        rw [wrap_in (by omega) (by omega)]
        exact spec_HistFind.loop l a d p hl hL (by omega) _ k (by omega) (by omega)
      · rw [if_neg (fun e => h3 e.2)]
        have h3 : ptsOK p = false := by simpa using h3
        rw [h3]
        simp only [spec_HistFind.j0, Bool.not_false, if_true]
    · rw [if_neg h2, if_neg (fun e => h2 e.1)]
      simp only [spec_HistFind.j0, if_true]
theorem impl_holds.loop (x p : List Int) (hx : x.length ≤ 300) (hp : p.length ≤ 400) (d : Nat) : ∀ (k j : Nat), x.length + 1 - p.length - j = d → j ≤ x.length + 1 → d + 500 < k → impl_holds.l0 k x p (j : Int) = some (hldF x p d j) := by
  induction d with
  | zero =>
    intro k j hd hj hk
    obtain ⟨k, rfl⟩ : ∃ m, k = m + 1 := ⟨k - 1, by omega⟩
    simp only [impl_holds.l0]
    rw [wrap_in (show -9223372036854775808 ≤ (j : Int) + (p.length : Int) by omega) (by omega), if_neg (by omega), hldF_zero]
  | succ d ih =>
    intro k j hd hj hk
    obtain ⟨k, rfl⟩ : ∃ m, k = m + 1 := ⟨k - 1, by omega⟩
    simp only [impl_holds.l0]
    rw [wrap_in (show -9223372036854775808 ≤ (j : Int) + (p.length : Int) by omega) (by omega), if_pos (by omega), if_pos (by omega), if_pos (by omega)]
    have hb : impl_begins.f k (x.drop (j : Int).toNat) p = some (decide ((x.drop j).take p.length = p)) := by
      unfold impl_begins.f
      rw [Int.toNat_natCast, if_pos (by rw [List.length_drop]; omega), if_pos (by omega), if_pos (by rw [List.length_drop]; omega), Int.toNat_natCast, slices_Equal_sint64_int64.eq (by rw [List.length_take]; omega) (by rw [List.length_take]; omega)]
      rfl
    rw [hb]
    simp only [Option.bind_some, decide_eq_true_eq]
    by_cases h : (x.drop j).take p.length = p
    · rw [if_pos h, hldF_pos h]
    · rw [if_neg h, hldF_neg h, wrap_succ (by omega)]
      exact ih k (j + 1) (by omega) (by omega) (by omega)
theorem impl_holds.eq {x p : List Int} {k : Nat} (hx : x.length ≤ 300) (hp : p.length ≤ 400) (hk : 900 < k) : impl_holds.f k x p = some (hldB x p) := impl_holds.loop x p hx hp (x.length + 1 - p.length) k 0 (by omega) (by omega) (by omega)
theorem impl_HistFind.loop (l : List (List Int)) (a : Int) (dr p : List Int) (hl : l.length ≤ 30) (hL : ∀ x ∈ l, x.length ≤ 300) (hp : p.length ≤ 400) (n : Nat) : ∀ k, n ≤ l.length → n + 1000 < k → impl_HistFind.l0 k p ((n : Int) - 1) l a dr = some (fndL l p n) := by
  induction n with
  | zero =>
    intro k hn hk
    obtain ⟨k, rfl⟩ : ∃ m, k = m + 1 := ⟨k - 1, by omega⟩
    simp only [impl_HistFind.l0]
    rw [if_neg (by omega)]
    rfl
  | succ n ih =>
    intro k hn hk
    obtain ⟨k, rfl⟩ : ∃ m, k = m + 1 := ⟨k - 1, by omega⟩
    have hlt : n < l.length := by omega
    have hx := hL l[n] (List.getElem_mem hlt)
    simp only [impl_HistFind.l0]
    rw [show ((n + 1 : Nat) : Int) - 1 = (n : Int) by omega, if_pos (by omega), if_pos (by omega), if_pos (by omega), rdLL hlt, impl_holds.eq hx hp (by omega)]
    simp only [Option.bind_some]
    rw [fndL_succ, getD_LL hlt]
    by_cases h : hldB l[n] p = true
    · rw [if_pos h, if_pos h]
      refine congrArg some ?_
      unfold mx
      split <;> omega
    · rw [if_neg h, if_neg h, wrap_in (by omega) (by omega)]
      exact ih k (by omega) (by omega)
theorem impl_HistFind.eq {l : List (List Int)} (a : Int) (d p : List Int) (i : Int) {k : Nat} (hl : l.length ≤ 1048576) (hk : l.length + 20000 < k) : impl_HistFind.f k l a d p i = some (findV l a d p i) := by
  unfold impl_HistFind.f findV impl_isMany.f
  simp only [Option.bind_some, decide_eq_true_eq]
  by_cases h1 : p.length > 400
  · rw [if_pos (by omega), if_pos h1]
  · rw [if_neg (by omega), if_neg h1, impl_HistRight.eq _ _ hl (by omega)]
    simp only [Option.bind_some]
    by_cases h2 : histOK l a d = true
    · rw [if_pos h2, impl_PointsRight.eq _ (by omega)]
      simp only [Option.bind_some]
      obtain ⟨hl, hL⟩ := hist_item h2
      by_cases h3 : ptsOK p = true
      · rw [if_pos h3, if_pos ⟨h2, h3⟩, show impl_size_sint64.f l = some (l.length : Int) from rfl]
        simp only [Option.bind_some]
        have e : mn (mx i 0) (l.length : Int) = (((min (max i 0) (l.length : Int)).toNat : Nat) : Int) := by
          unfold mn mx
          split <;> split <;> omega
        rw [e, wrap_in (by omega) (by omega)]
        exact impl_HistFind.loop l a d p hl hL (by omega) _ k (by omega) (by omega)
      · rw [if_neg h3, if_neg (fun e => h3 e.2)]
    · rw [if_neg h2, if_neg (fun e => h2 e.1)]
theorem laws_lwSame.loop (a b : List Int) (hab : a.length = b.length) (hl : a.length ≤ 1048576) (d : Nat) : ∀ (k i : Nat), i ≤ a.length → a.length - i = d → d < k → laws_lwSame.l0 k a b (i : Int) = some (decide (a.drop i = b.drop i)) := by
  induction d with
  | zero =>
    intro k i hi hd hk
    obtain ⟨k, rfl⟩ : ∃ m, k = m + 1 := ⟨k - 1, by omega⟩
    simp only [laws_lwSame.l0]
    rw [if_neg (by omega), List.drop_eq_nil_of_le (by omega), List.drop_eq_nil_of_le (by omega)]
    rfl
  | succ d ih =>
    intro k i hi hd hk
    obtain ⟨k, rfl⟩ : ∃ m, k = m + 1 := ⟨k - 1, by omega⟩
    have hlt : i < a.length := by omega
    simp only [laws_lwSame.l0]
    rw [if_pos (int_lt hlt), if_pos (int_nn i), if_pos (by omega), wrap_succ (by omega), ih k (i + 1) (by omega) (by omega) (by omega), drop_rd hlt, drop_rd (show i < b.length by omega)]
    by_cases h : rd a (i : Int) = rd b (i : Int)
    · rw [if_pos h, h]
      simp
    · rw [if_neg h]
      simp [h]
theorem laws_lwSame.eq {a b : List Int} {k : Nat} (hl : a.length ≤ 1048576) (hk : a.length < k) : laws_lwSame.f k a b = some (decide (a = b)) := by
  unfold laws_lwSame.f
  by_cases h : a.length = b.length
  · rw [if_pos (by omega)]
    have := laws_lwSame.loop a b h hl a.length k 0 (by omega) (by omega) hk
    simpa using this
  · rw [if_neg (by omega)]
    refine congrArg some (decide_eq_false (fun e => h (by rw [e]))).symm
theorem laws_lwCopy.eq {l : List Int} (h : l.length ≤ 2000000) : laws_lwCopy.f l = some l := by
  unfold laws_lwCopy.f
  simp only [Option.bind_some, List.length_nil, List.nil_append]
  rw [if_pos (by omega)]
def resF (l : List (List Int)) (p : List Int) (fr : Int) : Nat → Int
  | 0 => -1
  | n + 1 => if (n : Int) < fr ∧ hldB (l.getD n []) p = true then (n : Int) else resF l p fr n
theorem resF_fnd (l : List (List Int)) (p : List Int) (fr : Int) (n : Nat) : resF l p fr n = fndL l p (min (n : Int) (max fr 0)).toNat := by
  induction n with
  | zero => rw [show (min ((0 : Nat) : Int) (max fr 0)).toNat = 0 by omega]; rfl
  | succ n ih =>
    unfold resF
    by_cases h : (n : Int) < fr
    · rw [show (min ((n + 1 : Nat) : Int) (max fr 0)).toNat = n + 1 by omega, fndL_succ, ih, show (min (n : Int) (max fr 0)).toNat = n by omega]
      by_cases g : hldB (l.getD n []) p = true
      · rw [if_pos ⟨h, g⟩, if_pos g]
      · rw [if_neg (fun e => g e.2), if_neg g]
    · rw [if_neg (fun e => h e.1), ih]
      refine congrArg (fndL l p) ?_
      omega
theorem laws_FnHistFind.inner (l : List (List Int)) (a : Int) (dr p x : List Int) (fr at_ : Int) (n K : Nat) (hnl : n < l.length) (hxn : rd_L3 l (n : Int) = x) (hx : x.length ≤ 300) (hp : p.length ≤ 400) (hK : 500 < K) (hout : ∀ k, K < k → laws_FnHistFind.l0 k p fr at_ ((n : Int) - 1) l a dr = some (at_ == resF l p fr n)) (hn : n ≤ 41) (d : Nat) : ∀ (k j : Nat) (b : Bool), x.length + 1 - p.length - j = d → j ≤ x.length + 1 → d + 1 + K < k → laws_FnHistFind.l1 k p fr at_ (n : Int) b (j : Int) l a dr = some (at_ == (if (n : Int) < fr ∧ (b || hldF x p d j) = true then (n : Int) else resF l p fr n)) := by
  induction d with
  | zero =>
    intro k j b hd hj hk
    obtain ⟨k, rfl⟩ : ∃ m, k = m + 1 := ⟨k - 1, by omega⟩
    rw [laws_FnHistFind.l1, if_pos (by omega), if_pos (by omega), hxn, wrap_in (x := (j : Int) + (p.length : Int)) (by omega) (by omega), if_neg (by omega), wrap_in (x := (n : Int) - 1) (by omega) (by omega), hout k (by omega), hldF_zero, Bool.or_false]
    by_cases h : (n : Int) < fr
    · rw [if_pos h]
      cases b
      · rw [if_neg (by decide), if_neg (fun e => absurd e.2 (by decide))]
      · rw [if_pos rfl, if_pos ⟨h, rfl⟩]
    · rw [if_neg h, if_neg (fun e => h e.1)]
  | succ d ih =>
    intro k j b hd hj hk
    obtain ⟨k, rfl⟩ : ∃ m, k = m + 1 := ⟨k - 1, by omega⟩
    rw [laws_FnHistFind.l1, if_pos (by omega), if_pos (by omega), hxn, wrap_in (x := (j : Int) + (p.length : Int)) (by omega) (by omega), if_pos (by omega), wrap_succ (by omega)]
    cases b
    · have e : (x.take (((j : Int) + (p.length : Int)) : Int).toNat).drop (j : Int).toNat = (x.drop j).take p.length := by
        rw [show (((j : Int) + (p.length : Int)) : Int).toNat = j + p.length by omega, Int.toNat_natCast, List.drop_take, Nat.add_sub_cancel_left]
      rw [if_neg (by decide), if_pos (by omega), if_pos (by omega), e, laws_lwSame.eq (by rw [List.length_take]; omega) (by rw [List.length_take]; omega)]
      simp only [Option.bind_some]
      rw [ih k (j + 1) _ (by omega) (by omega) (by omega), Bool.false_or]
      by_cases h : (x.drop j).take p.length = p
      · rw [hldF_pos h, decide_eq_true h, Bool.true_or]
      · rw [hldF_neg h, decide_eq_false h, Bool.false_or]
    · rw [if_pos rfl, ih k (j + 1) true (by omega) (by omega) (by omega), Bool.true_or, Bool.true_or]
theorem laws_FnHistFind.loop (l : List (List Int)) (a : Int) (dr p : List Int) (fr at_ : Int) (hl : l.length ≤ 30) (hL : ∀ x ∈ l, x.length ≤ 300) (hp : p.length ≤ 400) (n : Nat) : ∀ k, n ≤ l.length → 320 * n + 600 < k → laws_FnHistFind.l0 k p fr at_ ((n : Int) - 1) l a dr = some (at_ == resF l p fr n) := by
  induction n with
  | zero =>
    intro k hn hk
    obtain ⟨k, rfl⟩ : ∃ m, k = m + 1 := ⟨k - 1, by omega⟩
    rw [laws_FnHistFind.l0, if_neg (by omega)]
    rfl
  | succ n ih =>
    intro k hn hk
    obtain ⟨k, rfl⟩ : ∃ m, k = m + 2 := ⟨k - 2, by omega⟩
    have hlt : n < l.length := by omega
    have hx := hL l[n] (List.getElem_mem hlt)
    obtain ⟨K, hK⟩ : ∃ K, K = 320 * n + 600 := ⟨_, rfl⟩
    rw [show ((n + 1 : Nat) : Int) - 1 = (n : Int) by omega, laws_FnHistFind.l0, if_pos (by omega), laws_FnHistFind.j4]
    have := laws_FnHistFind.inner l a dr p l[n] fr at_ n K hlt (rdLL hlt) hx hp (by omega) (fun k hk => ih k (by omega) (by omega)) (by omega) (l[n].length + 1 - p.length) k 0 false (by omega) (by omega) (by omega)
    refine Eq.trans this ?_
    show some (at_ == _) = some (at_ == (if (n : Int) < fr ∧ hldB (l.getD n []) p = true then (n : Int) else resF l p fr n))
    rw [getD_LL hlt, Bool.false_or]
    rfl

theorem FnHistFind : laws_FnHistFind.Pure := by
  intro l ⟨hl, _⟩
  have hl := maxLen_le hl
  refine ⟨4000000, ?_⟩
  unfold laws_FnHistFind.f
  by_cases h : (l.length : Int) > 1048576
  · rw [if_pos h]
  · obtain ⟨L, a, d, p, i, hd, hL, hp⟩ := spec_DrawHistFind.eq l (by omega) (k := 4000000) (by omega)
    rw [if_neg h, hd]
    simp only [Option.bind_some]
    rw [laws_lwCopy.eq (by omega)]
    simp only [Option.bind_some]
    rw [impl_HistFind.eq a d p i (by omega) (by omega), spec_HistFind.eq a d p i (by omega) (by omega)]
    simp only [Option.bind_some, if_true]
    rw [laws_FnHistFind.j0, spec_HistRight.eq a d (by omega) (by omega), spec_PointsRight.eq p (by omega)]
    simp only [Option.bind_some]
    by_cases g : histOK L a d = true
    · rw [if_pos g, laws_FnHistFind.j1]
      by_cases g2 : ptsOK p = true
      · obtain ⟨o1, o2⟩ := hist_item g
        rw [g2, if_neg (by decide), laws_FnHistFind.j2, wrap_in (by omega) (by omega), laws_FnHistFind.loop L a d p i _ o1 o2 (by omega) L.length _ (by omega) (by omega), resF_fnd]
        unfold findV
        rw [if_neg (by omega), if_pos ⟨g, g2⟩, show (min (max i 0) (L.length : Int)).toNat = (min (L.length : Int) (max i 0)).toNat by omega]
        simp
      · rw [Bool.not_eq_true] at g2
        rw [g2]
        rfl
    · rw [if_neg g, laws_FnHistFind.j1]
      rfl

end Go.Proofs.Ythcnhafdhjajpaa.Pure
