/- Proved: for every code of at most 2^20 bytes, what the program's KeyFeed tells of the keys and bytes drawn from it is, put together with what is left, these bytes; each name told is bound to its keys; with a timeout nothing is left. No conditions. -/
import Derived.Test.YtnhmoacjmieggaaPFnKeysx13
namespace Go.Proofs.Ytnhmoacjmieggaa.Pure
open Go.RowKit Go.Proofs.Ytnhmoacjmieggaa.PFnKeys Go.Proofs.YtnhmoacjmieggaaW.PrintWords Go.Proofs.YtnhmoacjmieggaaW.PrintLast Go.Proofs.YtnhmoacjmieggaaW.PrintMore
set_option linter.unusedVariables false
set_option linter.unusedSimpArgs false

/-! ### plain words -/
theorem wrap_in {x : Int} (h0 : -9223372036854775808 ≤ x) (h1 : x ≤ 9223372036854775807) : wrap64 x = x := by unfold wrap64; omega
theorem wrap_succ {i : Nat} (h : i < 4611686018427387904) : wrap64 ((i : Int) + 1) = ((i + 1 : Nat) : Int) := by unfold wrap64; omega
theorem int_lt {i n : Nat} (h : i < n) : (i : Int) < (n : Int) := by omega
theorem int_nn (i : Nat) : (0 : Int) ≤ (i : Int) := by omega
theorem maxLen_le {n : Nat} (h : n ≤ maxLen) : n ≤ 9223372036854775807 := by unfold maxLen at h; exact h
/-! ### draws: what they yield is some value, within bounds -/
theorem u64_in {t : Int} (h0 : 0 ≤ t) (h1 : t ≤ 4611686018427387904) : IntKind.u64.wrap t = t := by
  rw [Go.IntKind.wrap_u64]
  omega
theorem tmod_in (X : Int) {t : Int} (h0 : 1 < t) (h1 : t ≤ 4611686018427387904) : 0 ≤ wrap64 (Int.tmod (IntKind.u64.wrap X) (IntKind.u64.wrap t)) ∧ wrap64 (Int.tmod (IntKind.u64.wrap X) (IntKind.u64.wrap t)) < t := by
  have hX : 0 ≤ IntKind.u64.wrap X := by rw [Go.IntKind.wrap_u64]; omega
  rw [u64_in (by omega) h1, Int.tmod_eq_emod_of_nonneg hX]
  have a1 := Int.emod_nonneg (IntKind.u64.wrap X) (show t ≠ 0 by omega)
  have a2 := Int.emod_lt_of_pos (IntKind.u64.wrap X) (show 0 < t by omega)
  rw [wrap_in (by omega) (by omega)]
  exact ⟨a1, a2⟩
theorem spec_l01Src_n.eq (b : List Int) (a m z t : Int) (hb : b.length ≤ 1048576) (h0 : 0 ≤ a) (h1 : a ≤ b.length) (ht : t ≤ 4611686018427387904) : ∃ v a' m', spec_l01Src_n.f b a m z t = some (v, a', m', z) ∧ 0 ≤ v ∧ (v < t ∨ v = 0) ∧ 0 ≤ a' ∧ a' ≤ b.length := by
  unfold spec_l01Src_n.f
  by_cases h : t ≤ 1
  · rw [if_pos h]
    exact ⟨_, _, _, rfl, by omega, by omega, h0, h1⟩
  · have e : ¬ IntKind.u64.wrap t = 0 := by
      rw [u64_in (by omega) ht]
      omega
    rw [if_neg h]
    by_cases g : a < (b.length : Int)
    · rw [if_pos g, if_pos h0, if_neg e]
      refine ⟨_, _, _, rfl, (tmod_in _ (by omega) ht).1, Or.inl (tmod_in _ (by omega) ht).2, ?_, ?_⟩
      · rw [wrap_in (by omega) (by omega)]; omega
      · rw [wrap_in (by omega) (by omega)]; omega
    · rw [if_neg g, if_neg e]
      exact ⟨_, _, _, rfl, (tmod_in _ (by omega) ht).1, Or.inl (tmod_in _ (by omega) ht).2, h0, h1⟩
theorem spec_l01Src_one.eq (b : List Int) (a m z t : Int) (hb : b.length ≤ 1048576) (h0 : 0 ≤ a) (h1 : a ≤ b.length) (ht : t ≤ 4611686018427387904) : ∃ v a' m', spec_l01Src_one.f b a m z t = some (v, a', m', z) ∧ 0 ≤ a' ∧ a' ≤ b.length := by
  obtain ⟨v, a', m', e, _, _, g1, g2⟩ := spec_l01Src_n.eq b a m z t hb h0 h1 ht
  unfold spec_l01Src_one.f
  rw [e]
  exact ⟨_, _, _, rfl, g1, g2⟩
theorem spec_l01Source.loop (l : List Int) (hl : l.length ≤ 1048576) (d : Nat) : ∀ (k i : Nat) (m : Int), i ≤ l.length → l.length - i = d → d < k → ∃ m' z, spec_l01Source.l0 k l (i : Int) l 0 m 0 = some (l, 0, m', z) ∧ 0 ≤ z ∧ z ≤ 12 := by
  have hz : wrap64 ((l.length : Int) / 20) = (l.length : Int) / 20 := wrap_in (by omega) (by omega)
  have hend : ∀ m : Int, ∃ m' z, (if wrap64 ((l.length : Int) / 20) > 12 then some (l, (0 : Int), m, (12 : Int)) else some (l, 0, m, wrap64 ((l.length : Int) / 20))) = some (l, 0, m', z) ∧ 0 ≤ z ∧ z ≤ 12 := by
    intro m
    rw [hz]
    by_cases g : (l.length : Int) / 20 > 12
    · rw [if_pos g]; exact ⟨_, _, rfl, by omega, by omega⟩
    · rw [if_neg g]; exact ⟨_, _, rfl, by omega, by omega⟩
  induction d with
  | zero =>
    intro k i m hi hd hk
    obtain ⟨k, rfl⟩ : ∃ m, k = m + 1 := ⟨k - 1, by omega⟩
    rw [spec_l01Source.l0, if_neg (by omega)]
    exact hend m
  | succ d ih =>
    intro k i m hi hd hk
    obtain ⟨k, rfl⟩ : ∃ m, k = m + 1 := ⟨k - 1, by omega⟩
    rw [spec_l01Source.l0, if_pos (by omega)]
    by_cases g : (i : Int) < 64
    · rw [if_pos g, if_pos (by omega), wrap_succ (by omega)]
      exact ih k (i + 1) _ (by omega) (by omega) (by omega)
    · rw [if_neg g]
      exact hend m
theorem spec_l01Source.eq (l : List Int) (hl : l.length ≤ 1048576) {k : Nat} (hk : 1048577 < k) : ∃ m' z, spec_l01Source.f k l = some (l, 0, m', z) ∧ 0 ≤ z ∧ z ≤ 12 := by
  obtain ⟨m', z, h⟩ := spec_l01Source.loop l hl l.length k 0 88172645463325252 (by omega) (by omega) (by omega)
  exact ⟨m', z, h⟩
theorem spec_l01Src_pick.eq (b : List Int) (a m z : Int) (l : List ByteArray) (hl : 0 < l.length) (hl2 : l.length ≤ 100) (hb : b.length ≤ 1048576) (h0 : 0 ≤ a) (h1 : a ≤ b.length) : ∃ x a' m', spec_l01Src_pick.f b a m z l = some (x, a', m', z) ∧ x ∈ l ∧ 0 ≤ a' ∧ a' ≤ b.length := by
  obtain ⟨q, a2, m2, e2, q0, q1, k1, k2⟩ := spec_l01Src_n.eq b a m z (l.length : Int) hb h0 h1 (by omega)
  unfold spec_l01Src_pick.f
  rw [e2]
  simp only [Option.bind_some]
  rw [if_pos q0, if_pos (by omega)]
  refine ⟨_, _, _, rfl, ?_, k1, k2⟩
  obtain ⟨n, rfl⟩ : ∃ n : Nat, q = (n : Int) := ⟨q.toNat, by omega⟩
  have hn : n < l.length := by omega
  unfold rdOf
  rw [Int.toNat_natCast, List.getD_eq_getElem?_getD, List.getElem?_eq_getElem hn]
  exact List.getElem_mem hn
theorem rdKeyB {l : List (S40)} {i : Nat} (h : i < l.length) : rd_T40 l (i : Int) = l[i] := by
  unfold rd_T40
  rw [Int.toNat_natCast, List.getD_eq_getElem?_getD, List.getElem?_eq_getElem h]
  rfl
theorem impl_within.eq (a b c : Int) : impl_within.f a b c = some (decide (b ≤ a ∧ a ≤ c)) := by
  unfold impl_within.f
  by_cases h : b ≤ a <;> simp [h]
theorem cmpB (x : List UInt8) : ∀ y, Lib.compareBytes x y < 0 ↔ Op.bytesLess x y = true := by
  induction x with
  | nil => intro y; cases y <;> simp [Lib.compareBytes, Op.bytesLess]
  | cons a x ih =>
    intro y
    cases y with
    | nil => simp [Lib.compareBytes, Op.bytesLess]
    | cons b y =>
      unfold Lib.compareBytes Op.bytesLess
      by_cases h1 : a < b
      · simp [h1]
      · by_cases h2 : b < a
        · have h3 : ¬ a = b := fun e => by subst e; exact h1 h2
          simp [h1, h2, h3]
        · have h3 : a = b := UInt8.le_antisymm (UInt8.not_lt.1 h2) (UInt8.not_lt.1 h1)
          subst h3
          simp [h1, ih y]
def chOK (c : Int) : Bool := decide ((97 ≤ c ∧ c ≤ 122) ∨ c = 45)
def nmF (s : ByteArray) : Nat → Nat → Bool
  | 0, _ => true
  | d + 1, i => chOK (bt s (i : Int)) && nmF s d (i + 1)
def nameOK (s : ByteArray) : Bool := decide (1 ≤ s.size ∧ s.size ≤ 20) && nmF s s.size 0
theorem spec_l07Name.loop (s : ByteArray) (hs : s.size ≤ 1048576) (d : Nat) : ∀ (k i : Nat), i ≤ s.size → s.size - i = d → d < k → spec_l07Name.l0 k s (i : Int) = some (nmF s d i) := by
  induction d with
  | zero =>
    intro k i hi hd hk
    obtain ⟨k, rfl⟩ : ∃ m, k = m + 1 := ⟨k - 1, by omega⟩
    rw [spec_l07Name.l0, if_neg (by omega)]
    rfl
  | succ d ih =>
    intro k i hi hd hk
    obtain ⟨k, rfl⟩ : ∃ m, k = m + 1 := ⟨k - 1, by omega⟩
    have h := ih k (i + 1) (by omega) (by omega) (by omega)
    rw [spec_l07Name.l0, if_pos (by omega), if_pos (int_nn i), wrap_succ (by omega), h]
    show _ = some (chOK (bt s (i : Int)) && nmF s d (i + 1))
    unfold chOK
    generalize bt s (i : Int) = c
    by_cases h1 : c ≥ 97
    · rw [if_pos h1]
      by_cases h2 : c ≤ 122
      · rw [if_pos h2, decide_eq_true (show (97 ≤ c ∧ c ≤ 122) ∨ c = 45 by omega), Bool.true_and]
      · rw [if_neg h2, if_neg (by omega), decide_eq_false (show ¬ ((97 ≤ c ∧ c ≤ 122) ∨ c = 45) by omega), Bool.false_and]
    · rw [if_neg h1]
      by_cases h2 : c = 45
      · rw [if_pos h2, decide_eq_true (show (97 ≤ c ∧ c ≤ 122) ∨ c = 45 by omega), Bool.true_and]
      · rw [if_neg h2, decide_eq_false (show ¬ ((97 ≤ c ∧ c ≤ 122) ∨ c = 45) by omega), Bool.false_and]
theorem spec_l07Name.eq (s : ByteArray) (hs : s.size ≤ 1048576) {k : Nat} (hk : s.size + 2 < k) : spec_l07Name.f k s = some (nameOK s) := by
  obtain ⟨k, rfl⟩ : ∃ m, k = m + 1 := ⟨k - 1, by omega⟩
  have hj : ∀ b : Bool, spec_l07Name.j0 (k + 1) s b = some (!b && nmF s s.size 0) := by
    intro b
    have := spec_l07Name.loop s hs s.size k 0 (by omega) (by omega) (by omega)
    cases b
    · rw [spec_l07Name.j0]
      exact this
    · rw [spec_l07Name.j0]
      rfl
  unfold spec_l07Name.f nameOK
  rw [hj, hj]
  by_cases h1 : (s.size : Int) < 1
  · rw [if_pos h1, decide_eq_false (show ¬ (1 ≤ s.size ∧ s.size ≤ 20) by omega)]
    rfl
  · rw [if_neg h1]
    by_cases h2 : (s.size : Int) > 20
    · rw [decide_eq_true h2, decide_eq_false (show ¬ (1 ≤ s.size ∧ s.size ≤ 20) by omega)]
      rfl
    · rw [decide_eq_false h2, decide_eq_true (show 1 ≤ s.size ∧ s.size ≤ 20 by omega)]
      rfl
theorem impl_isKeyName.loop (s : ByteArray) (hs : s.size ≤ 1048576) (d : Nat) : ∀ (k i : Nat), i ≤ s.size → s.size - i = d → d < k → impl_isKeyName.l0 k s (s.size : Int) (i : Int) = some (nmF s d i && decide (1 ≤ s.size ∧ s.size ≤ 20)) := by
  induction d with
  | zero =>
    intro k i hi hd hk
    obtain ⟨k, rfl⟩ : ∃ m, k = m + 1 := ⟨k - 1, by omega⟩
    rw [impl_isKeyName.l0, if_neg (by omega), impl_within.eq]
    simp only [Option.bind_some, nmF, Bool.true_and]
    exact congrArg some (decide_eq_decide.2 (by omega))
  | succ d ih =>
    intro k i hi hd hk
    obtain ⟨k, rfl⟩ : ∃ m, k = m + 1 := ⟨k - 1, by omega⟩
    have h := ih k (i + 1) (by omega) (by omega) (by omega)
    rw [impl_isKeyName.l0, if_pos (by omega), if_pos (int_nn i), if_pos (by omega), wrap_succ (by omega), h]
    show _ = some (chOK (bt s (i : Int)) && nmF s d (i + 1) && decide (1 ≤ s.size ∧ s.size ≤ 20))
    unfold chOK
    generalize bt s (i : Int) = c
    by_cases h1 : c ≥ 97
    · rw [if_pos h1]
      by_cases h2 : c ≤ 122
      · rw [if_pos h2, decide_eq_true (show (97 ≤ c ∧ c ≤ 122) ∨ c = 45 by omega), Bool.true_and]
      · rw [if_neg h2, if_neg (by omega), decide_eq_false (show ¬ ((97 ≤ c ∧ c ≤ 122) ∨ c = 45) by omega), Bool.false_and, Bool.false_and]
    · rw [if_neg h1]
      by_cases h2 : c = 45
      · rw [if_pos h2, decide_eq_true (show (97 ≤ c ∧ c ≤ 122) ∨ c = 45 by omega), Bool.true_and]
      · rw [if_neg h2, decide_eq_false (show ¬ ((97 ≤ c ∧ c ≤ 122) ∨ c = 45) by omega), Bool.false_and, Bool.false_and]
theorem impl_isKeyName.eq (s : ByteArray) (hs : s.size ≤ 1048576) {k : Nat} (hk : s.size < k) : impl_isKeyName.f k s = some (nameOK s) := by
  have := impl_isKeyName.loop s hs s.size k 0 (by omega) (by omega) hk
  unfold nameOK
  rw [Bool.and_comm]
  exact this
def keyOK (x : S40) : Bool := decide (1 ≤ x.f0 ∧ x.f0 ≤ 9) && (decide (1 ≤ x.f1.size ∧ x.f1.size ≤ 6) && nameOK x.f2)
def befK (x y : S40) : Bool := decide (x.f0 < y.f0 ∨ (x.f0 = y.f0 ∧ Op.bytesLess x.f1.toList y.f1.toList = true))
def krF (l : List S40) : Nat → Nat → Bool
  | 0, _ => true
  | d + 1, i => keyOK (rd_T40 l (i : Int)) && ((decide (i = 0) || befK (rd_T40 l ((i - 1 : Nat) : Int)) (rd_T40 l (i : Int))) && krF l d (i + 1))
def keysOK (l : List S40) : Bool := decide (l.length ≤ 60) && krF l l.length 0
theorem spec_l07Before.eq (x y : S40) : spec_l07Before.f x.f0 x.f1 x.f2 y.f0 y.f1 y.f2 = some (befK x y) := by
  unfold spec_l07Before.f befK
  by_cases h1 : x.f0 < y.f0
  · rw [if_pos h1, decide_eq_true (Or.inl h1)]
  · rw [if_neg h1]
    by_cases h2 : x.f0 = y.f0
    · rw [if_pos h2]
      refine congrArg some ?_
      rw [Bool.eq_iff_iff, decide_eq_true_eq]
      exact ⟨fun e => Or.inr ⟨h2, e⟩, fun e => (e.resolve_left h1).2⟩
    · rw [if_neg h2, decide_eq_false (fun e => e.elim h1 (fun g => h2 g.1))]
theorem cmp_Or_int.eq (a b : Int) {k : Nat} (hk : 3 < k) : cmp_Or_int.f k [a, b] = some (if a = 0 then b else a) := by
  obtain ⟨k, rfl⟩ : ∃ m, k = m + 3 := ⟨k - 3, by omega⟩
  have r0 : rd [a, b] 0 = a := rfl
  have r1 : rd [a, b] 1 = b := rfl
  have w0 : wrap64 (0 + 1) = 1 := by unfold wrap64; omega
  have w1 : wrap64 (1 + 1) = 2 := by unfold wrap64; omega
  show cmp_Or_int.l0 (k + 3) 0 [a, b] 2 0 = _
  rw [cmp_Or_int.l0, if_pos (by decide), if_pos (by decide), if_pos (by simp), r0, w0]
  by_cases h : a = 0
  · rw [if_pos h, if_pos h, cmp_Or_int.l0, if_pos (by decide), if_pos (by decide), if_pos (by simp), r1, w1]
    by_cases h2 : b = 0
    · rw [if_pos h2, cmp_Or_int.l0, if_neg (by decide), h2]
    · rw [if_neg h2]
  · rw [if_neg h, if_neg h]
theorem impl_compareKeys.eq (x y : S40) {k : Nat} (hk : 3 < k) : ∃ c, impl_compareKeys.f k x.f0 x.f1 x.f2 y.f0 y.f1 y.f2 = some c ∧ (c ≥ 0 ↔ befK x y = false) := by
  unfold impl_compareKeys.f strings_Compare.f bytealg_CompareString.f cmp_Compare_int64.f cmp_isNaN_int64.f
  simp only [Option.bind_some, bne_self_eq_false, Bool.false_eq_true, if_false]
  have hb := cmpB x.f1.data.toList y.f1.data.toList
  unfold befK
  rw [Lib.toList_data, Lib.toList_data]
  by_cases h1 : x.f0 < y.f0
  · rw [if_pos h1]
    simp only [Option.bind_some]
    rw [cmp_Or_int.eq _ _ hk, if_neg (by decide)]
    refine ⟨_, rfl, ?_⟩
    rw [decide_eq_true (Or.inl h1)]
    decide
  · rw [if_neg h1]
    by_cases h2 : x.f0 > y.f0
    · rw [if_pos h2]
      simp only [Option.bind_some]
      rw [cmp_Or_int.eq _ _ hk, if_neg (by decide)]
      refine ⟨_, rfl, ?_⟩
      rw [decide_eq_false (fun e => e.elim h1 (fun g => by omega))]
      decide
    · rw [if_neg h2]
      simp only [Option.bind_some]
      rw [cmp_Or_int.eq _ _ hk, if_pos rfl]
      refine ⟨_, rfl, ?_⟩
      have e : x.f0 = y.f0 := by omega
      rw [decide_eq_false_iff_not]
      constructor
      · intro g q
        have := hb.2 (q.resolve_left h1).2
        omega
      · intro g
        by_cases q : Lib.compareBytes x.f1.data.toList y.f1.data.toList < 0
        · exact absurd (Or.inr ⟨e, hb.1 q⟩) g
        · omega
theorem impl_keyRight.eq (x : S40) (hs : x.f2.size ≤ 1048576) {k : Nat} (hk : x.f2.size < k) : impl_keyRight.f k x.f0 x.f1 x.f2 = some (keyOK x) := by
  unfold impl_keyRight.f keyOK
  simp only [impl_within.eq, Option.bind_some, decide_eq_true_eq]
  by_cases h1 : 1 ≤ x.f0 ∧ x.f0 ≤ 9
  · rw [if_pos h1, decide_eq_true h1, Bool.true_and]
    by_cases h2 : 1 ≤ x.f1.size ∧ x.f1.size ≤ 6
    · rw [if_pos (by omega), impl_isKeyName.eq _ hs hk, decide_eq_true h2, Bool.true_and]
      rfl
    · rw [if_neg (by omega), decide_eq_false h2, Bool.false_and]
  · rw [if_neg h1, decide_eq_false h1, Bool.false_and]
theorem rdKey_mem {l : List S40} {i : Nat} (h : i < l.length) : rd_T40 l (i : Int) ∈ l := by
  rw [rdKeyB h]
  exact List.getElem_mem h
theorem spec_KeysRight.loop (l : List S40) (hl : l.length ≤ 1048576) (hL : ∀ x ∈ l, x.f2.size ≤ 1048576) (d : Nat) : ∀ (k i : Nat), i ≤ l.length → l.length - i = d → d + 1048600 < k → spec_KeysRight.l0 k l (i : Int) = some (krF l d i) := by
  induction d with
  | zero =>
    intro k i hi hd hk
    obtain ⟨k, rfl⟩ : ∃ m, k = m + 1 := ⟨k - 1, by omega⟩
    rw [spec_KeysRight.l0, if_neg (by omega)]
    rfl
  | succ d ih =>
    intro k i hi hd hk
    obtain ⟨k, rfl⟩ : ∃ m, k = m + 1 := ⟨k - 1, by omega⟩
    have hlt : i < l.length := by omega
    have hx := hL _ (rdKey_mem hlt)
    have h := ih k (i + 1) (by omega) (by omega) (by omega)
    rw [spec_KeysRight.l0, if_pos (int_lt hlt), if_pos (int_nn i), wrap_succ (by omega), h, spec_l07Name.eq _ hx (by omega)]
    show _ = some (keyOK (rd_T40 l (i : Int)) && ((decide (i = 0) || befK (rd_T40 l ((i - 1 : Nat) : Int)) (rd_T40 l (i : Int))) && krF l d (i + 1)))
    simp only [Option.bind_some]
    unfold keyOK
    by_cases h1 : (rd_T40 l (i : Int)).f0 < 1
    · rw [if_pos h1, decide_eq_false (show ¬ (1 ≤ (rd_T40 l (i : Int)).f0 ∧ (rd_T40 l (i : Int)).f0 ≤ 9) by omega), Bool.false_and, Bool.false_and]
    rw [if_neg h1]
    by_cases h2 : (rd_T40 l (i : Int)).f0 > 9
    · rw [if_pos h2, decide_eq_false (show ¬ (1 ≤ (rd_T40 l (i : Int)).f0 ∧ (rd_T40 l (i : Int)).f0 ≤ 9) by omega), Bool.false_and, Bool.false_and]
    rw [if_neg h2, decide_eq_true (show 1 ≤ (rd_T40 l (i : Int)).f0 ∧ (rd_T40 l (i : Int)).f0 ≤ 9 by omega), Bool.true_and]
    by_cases h3 : ((rd_T40 l (i : Int)).f1.size : Int) < 1
    · rw [if_pos h3, decide_eq_false (show ¬ (1 ≤ (rd_T40 l (i : Int)).f1.size ∧ (rd_T40 l (i : Int)).f1.size ≤ 6) by omega), Bool.false_and, Bool.false_and]
    rw [if_neg h3]
    by_cases h4 : ((rd_T40 l (i : Int)).f1.size : Int) > 6
    · rw [if_pos h4, decide_eq_false (show ¬ (1 ≤ (rd_T40 l (i : Int)).f1.size ∧ (rd_T40 l (i : Int)).f1.size ≤ 6) by omega), Bool.false_and, Bool.false_and]
    rw [if_neg h4, decide_eq_true (show 1 ≤ (rd_T40 l (i : Int)).f1.size ∧ (rd_T40 l (i : Int)).f1.size ≤ 6 by omega), Bool.true_and]
    by_cases h5 : nameOK (rd_T40 l (i : Int)).f2 = true
    · rw [if_pos h5, h5, Bool.true_and]
      by_cases h6 : i = 0
      · rw [if_neg (by omega), decide_eq_true h6, Bool.true_or, Bool.true_and]
      · rw [if_pos (by omega), wrap_in (by omega) (by omega), if_pos (by omega), if_pos (by omega), show (i : Int) - 1 = ((i - 1 : Nat) : Int) by omega, spec_l07Before.eq, decide_eq_false h6, Bool.false_or]
        simp only [Option.bind_some]
        by_cases h7 : befK (rd_T40 l ((i - 1 : Nat) : Int)) (rd_T40 l (i : Int)) = true
        · rw [if_pos h7, h7, Bool.true_and]
        · rw [if_neg h7]
          rw [Bool.not_eq_true] at h7
          rw [h7, Bool.false_and]
    · rw [if_neg h5]
      rw [Bool.not_eq_true] at h5
      rw [h5, Bool.false_and]
theorem spec_KeysRight.eq {l : List S40} (hl : l.length ≤ 1048576) (hL : ∀ x ∈ l, x.f2.size ≤ 1048576) {k : Nat} (hk : 3000000 < k) : spec_KeysRight.f k l = some (keysOK l) := by
  unfold spec_KeysRight.f keysOK
  by_cases h : l.length ≤ 60
  · have := spec_KeysRight.loop l hl hL l.length k 0 (by omega) (by omega) (by omega)
    rw [if_neg (by omega), decide_eq_true h, Bool.true_and]
    exact this
  · rw [if_pos (by omega), decide_eq_false h, Bool.false_and]
theorem impl_KeysRight.loop (l : List S40) (hl : l.length ≤ 1048576) (hL : ∀ x ∈ l, x.f2.size ≤ 1048576) (d : Nat) : ∀ (k i : Nat), i ≤ l.length → l.length - i = d → d + 1048600 < k → impl_KeysRight.l0 k l l (l.length : Int) (i : Int) = some (krF l d i && decide (l.length ≤ 60)) := by
  induction d with
  | zero =>
    intro k i hi hd hk
    obtain ⟨k, rfl⟩ : ∃ m, k = m + 1 := ⟨k - 1, by omega⟩
    rw [impl_KeysRight.l0, if_neg (by omega)]
    simp only [krF, Bool.true_and]
    exact congrArg some (decide_eq_decide.2 (by omega))
  | succ d ih =>
    intro k i hi hd hk
    obtain ⟨k, rfl⟩ : ∃ m, k = m + 1 := ⟨k - 1, by omega⟩
    have hlt : i < l.length := by omega
    have hx := hL _ (rdKey_mem hlt)
    have h := ih k (i + 1) (by omega) (by omega) (by omega)
    rw [impl_KeysRight.l0, if_pos (int_lt hlt), if_pos (int_nn i), if_pos (int_lt hlt), wrap_succ (by omega), h, impl_keyRight.eq _ hx (by omega)]
    show _ = some (keyOK (rd_T40 l (i : Int)) && ((decide (i = 0) || befK (rd_T40 l ((i - 1 : Nat) : Int)) (rd_T40 l (i : Int))) && krF l d (i + 1)) && decide (l.length ≤ 60))
    simp only [Option.bind_some]
    by_cases h5 : keyOK (rd_T40 l (i : Int)) = true
    · rw [if_pos h5, h5, Bool.true_and]
      by_cases h6 : i = 0
      · rw [if_neg (by omega), decide_eq_true h6, Bool.true_or, Bool.true_and]
      · obtain ⟨c, hc, hb⟩ := impl_compareKeys.eq (rd_T40 l ((i - 1 : Nat) : Int)) (rd_T40 l (i : Int)) (k := k) (by omega)
        rw [if_pos (by omega), wrap_in (by omega) (by omega), if_pos (by omega), if_pos (by omega), show (i : Int) - 1 = ((i - 1 : Nat) : Int) by omega, hc, decide_eq_false h6, Bool.false_or]
        simp only [Option.bind_some]
        by_cases h7 : c ≥ 0
        · rw [if_pos h7, hb.1 h7, Bool.false_and, Bool.false_and]
        · have h8 : befK (rd_T40 l ((i - 1 : Nat) : Int)) (rd_T40 l (i : Int)) = true := by
            rw [← Bool.not_eq_false]
            exact fun e => h7 (hb.2 e)
          rw [if_neg h7, h8, Bool.true_and]
    · rw [if_neg h5]
      rw [Bool.not_eq_true] at h5
      rw [h5, Bool.false_and, Bool.false_and]
theorem impl_KeysRight.eq {l : List S40} (hl : l.length ≤ 1048576) (hL : ∀ x ∈ l, x.f2.size ≤ 1048576) {k : Nat} (hk : 3000000 < k) : impl_KeysRight.f k l = some (keysOK l) := by
  have := impl_KeysRight.loop l hl hL l.length k 0 (by omega) (by omega) (by omega)
  unfold keysOK
  rw [Bool.and_comm]
  exact this
theorem impl_isLong.eq (q : ByteArray) {k : Nat} (hk : 3 < k) : impl_isLong.f k [q] = some (decide ((q.size : Int) > 20000)) := by
  obtain ⟨k, rfl⟩ : ∃ m, k = m + 3 := ⟨k - 3, by omega⟩
  have w0 : wrap64 (0 + 1) = 1 := by unfold wrap64; omega
  have e : slices_IndexFunc_sstring_string.f (k + 3) [q] = some (if (q.size : Int) > 20000 then 0 else -1) := by
    show slices_IndexFunc_sstring_string.l0 (k + 3) [q] 1 0 = _
    rw [slices_IndexFunc_sstring_string.l0, if_pos (by decide), if_pos (by decide), if_pos (by simp), w0]
    show (impl_isLong_1.f q).bind _ = _
    unfold impl_isLong_1.f
    simp only [Option.bind_some, decide_eq_true_eq]
    by_cases h : (q.size : Int) > 20000
    · rw [if_pos h, if_pos h]
    · rw [if_neg h, if_neg h, slices_IndexFunc_sstring_string.l0, if_neg (by decide)]
  unfold impl_isLong.f slices_ContainsFunc_sstring_string.f
  rw [e]
  simp only [Option.bind_some]
  by_cases h : (q.size : Int) > 20000
  · rw [if_pos h, decide_eq_true h]
    rfl
  · rw [if_neg h, decide_eq_false h]
    rfl
theorem strings_HasPrefix.eq (a b : ByteArray) : strings_HasPrefix.f a b = some (if b.size ≤ a.size then (a.extract 0 b.size).toList == b.toList else false) := by
  unfold strings_HasPrefix.f stringslite_HasPrefix.f
  by_cases h : b.size ≤ a.size
  · rw [if_pos (by omega), if_pos (by omega), if_pos (by omega), if_pos h, Int.toNat_natCast]
    rfl
  · rw [if_neg (by omega), if_neg h]
    rfl
def eB : ByteArray := ⟨#[]⟩
theorem tl_nil (q : ByteArray) : q.toList = [] ↔ q.size = 0 := by
  rw [ByteArray.toList_eq]
  show q.data.toList = [] ↔ q.data.size = 0
  rw [← Array.length_toList, List.length_eq_zero_iff]
def lkI (q : ByteArray) (a : Int) (b : ByteArray) (c : Int) : Prop := (a = 1 ∧ b = eB ∧ c = 0) ∨ (a = 3 ∧ 1 ≤ c ∧ c ≤ (q.size : Int))
theorem look2.loop (l : List S40) (m : Int) (q : ByteArray) (t : Bool) (hl : l.length ≤ 1048576) (d : Nat) : ∀ (k k' i : Nat) (a : Int) (b : ByteArray) (c : Int), i ≤ l.length → l.length - i = d → 2 * d < k → 2 * d < k' → lkI q a b c → ∃ v : Int × ByteArray × Int, spec_l07Look.l0 k l m q t (i : Int) a b c = some v ∧ impl_look.l0 k' m q (!t) l (l.length : Int) (i : Int) a b c = some v ∧ (v.1 = 2 ∨ lkI q v.1 v.2.1 v.2.2) := by
  induction d with
  | zero =>
    intro k k' i a b c hi hd hk hk' hI
    obtain ⟨k, rfl⟩ : ∃ m, k = m + 1 := ⟨k - 1, by omega⟩
    obtain ⟨k', rfl⟩ : ∃ m, k' = m + 1 := ⟨k' - 1, by omega⟩
    rw [spec_l07Look.l0, if_neg (by omega), impl_look.l0, if_neg (by omega)]
    exact ⟨_, rfl, rfl, Or.inr hI⟩
  | succ d ih =>
    intro k k' i a b c hi hd hk hk' hI
    obtain ⟨k, rfl⟩ : ∃ m, k = m + 2 := ⟨k - 2, by omega⟩
    obtain ⟨k', rfl⟩ : ∃ m, k' = m + 2 := ⟨k' - 2, by omega⟩
    have hlt : i < l.length := by omega
    have ih1 := ih (k + 1) (k' + 1) (i + 1) a b c (by omega) (by omega) (by omega) (by omega) hI
    have ih2 := ih (k + 1) k' (i + 1) a b c (by omega) (by omega) (by omega) (by omega) hI
    have ih3 := ih k k' (i + 1) a b c (by omega) (by omega) (by omega) (by omega) hI
    rw [spec_l07Look.l0, if_pos (int_lt hlt), if_pos (int_nn i), impl_look.l0, if_pos (int_lt hlt), if_pos (int_nn i), if_pos (int_lt hlt), wrap_succ (by omega)]
    generalize rd_T40 l (i : Int) = x
    by_cases h1 : x.f0 = m
    · rw [if_pos h1, if_pos h1]
      by_cases h2 : (x.f1.size : Int) > (q.size : Int)
      · rw [if_pos h2, if_pos h2]
        have hp : ∀ z, strings_HasPrefix.f q x.f1 = z → z = some false := by
          intro z hz
          rw [strings_HasPrefix.eq, if_neg (by omega)] at hz
          exact hz.symm
        have hp := hp _ rfl
        cases t
        · rw [if_neg (show ¬ false = true by decide), if_pos (show (0 : Int) ≤ (q.size : Int) by omega), if_pos (show (q.size : Int) ≤ (x.f1.size : Int) by omega), if_pos (show (!false) = true by decide), strings_HasPrefix.eq, if_pos (show q.size ≤ x.f1.size by omega), Int.toNat_natCast]
          simp only [Option.bind_some]
          rw [spec_l07Look.j1, impl_look.j1, wrap_succ (by omega)]
          by_cases h3 : ((x.f1.extract 0 q.size).toList == q.toList) = true
          · rw [if_pos h3, if_pos h3]
            exact ⟨_, rfl, rfl, Or.inl rfl⟩
          · rw [if_neg h3, if_neg h3, hp]
            simp only [Option.bind_some, Bool.false_eq_true, if_false]
            exact ih3
        · rw [if_pos (show true = true by decide), if_neg (show ¬ (!true) = true by decide)]
          rw [spec_l07Look.j1, impl_look.j1, wrap_succ (by omega), if_neg (show ¬ false = true by decide), if_neg (show ¬ false = true by decide), hp]
          simp only [Option.bind_some, Bool.false_eq_true, if_false]
          exact ih3
      · have hj : (if (!t) = true then (if (x.f1.size : Int) > (q.size : Int) then (strings_HasPrefix.f x.f1 q).bind fun t176 => impl_look.j1 (k' + 1) m q (!t) (x.f1.size : Int) l (l.length : Int) (i : Int) t176 a b c x.f0 x.f1 x.f2 else impl_look.j1 (k' + 1) m q (!t) (x.f1.size : Int) l (l.length : Int) (i : Int) false a b c x.f0 x.f1 x.f2) else impl_look.j1 (k' + 1) m q (!t) (x.f1.size : Int) l (l.length : Int) (i : Int) false a b c x.f0 x.f1 x.f2) = impl_look.j1 (k' + 1) m q (!t) (x.f1.size : Int) l (l.length : Int) (i : Int) false a b c x.f0 x.f1 x.f2 := by
          rw [if_neg h2]
          split <;> rfl
        rw [hj, if_neg h2, if_pos (show (0 : Int) ≤ (x.f1.size : Int) by omega), if_pos (show (x.f1.size : Int) ≤ (q.size : Int) by omega), Int.toNat_natCast, impl_look.j1, if_neg (show ¬ false = true by decide), wrap_succ (by omega), strings_HasPrefix.eq, if_pos (show x.f1.size ≤ q.size by omega)]
        simp only [Option.bind_some]
        by_cases h3 : (q.extract 0 x.f1.size).toList = x.f1.toList
        · rw [if_pos h3, if_pos (show ((q.extract 0 x.f1.size).toList == x.f1.toList) = true by rw [beq_iff_eq]; exact h3)]
          by_cases h4 : (x.f1.size : Int) > c
          · rw [if_pos h4, if_pos h4]
            refine ih (k + 1) k' (i + 1) _ _ _ (by omega) (by omega) (by omega) (by omega) (Or.inr ⟨rfl, ?_, by omega⟩)
            rcases hI with e | e <;> omega
          · rw [if_neg h4, if_neg h4]
            exact ih2
        · rw [if_neg h3, if_neg (show ¬ ((q.extract 0 x.f1.size).toList == x.f1.toList) = true by rw [beq_iff_eq]; exact h3)]
          exact ih2
    · rw [if_neg h1, if_neg h1]
      exact ih1
theorem look2.eq (l : List S40) (m : Int) (q : ByteArray) (t : Bool) (hl : l.length ≤ 1048576) {k k' : Nat} (hk : 2 * l.length < k) (hk' : 2 * l.length < k') : ∃ v : Int × ByteArray × Int, spec_l07Look.f k l m q t = some v ∧ impl_look.f k' l m q (!t) = some v ∧ (v.1 = 2 ∨ lkI q v.1 v.2.1 v.2.2) := by
  unfold spec_l07Look.f impl_look.f
  exact look2.loop l m q t hl l.length k k' 0 1 eB 0 (by omega) (by omega) (by omega) (by omega) (Or.inl ⟨rfl, rfl, rfl⟩)
theorem feed2.loop (l : List S40) (m : Int) (t : Bool) (hl : l.length ≤ 1048576) (n : Nat) : ∀ (q : ByteArray) (acc : List S38) (k k' : Nat), q.size ≤ n → acc.length + q.size ≤ 1048576 → n + 2 * l.length + 2 < k → n + 2 * l.length + 2 < k' → ∃ v : List S38 × ByteArray, spec_l07Feed.l0 k l m q t acc eB 0 = some (v.1, v.2, 0) ∧ impl_feed.l0 k' l m q t acc = some v ∧ v.1.length ≤ acc.length + q.size := by
  induction n with
  | zero =>
    intro q acc k k' hq ha hk hk'
    obtain ⟨k, rfl⟩ : ∃ m, k = m + 1 := ⟨k - 1, by omega⟩
    obtain ⟨k', rfl⟩ : ∃ m, k' = m + 1 := ⟨k' - 1, by omega⟩
    rw [spec_l07Feed.l0, if_neg (by omega), impl_feed.l0, if_pos ((tl_nil q).2 (by omega))]
    exact ⟨(acc, eB), rfl, rfl, by show acc.length ≤ _; omega⟩
  | succ n ih =>
    intro q acc k k' hq ha hk hk'
    obtain ⟨k, rfl⟩ : ∃ m, k = m + 1 := ⟨k - 1, by omega⟩
    obtain ⟨k', rfl⟩ : ∃ m, k' = m + 1 := ⟨k' - 1, by omega⟩
    by_cases h0 : q.size = 0
    · rw [spec_l07Feed.l0, if_neg (by omega), impl_feed.l0, if_pos ((tl_nil q).2 h0)]
      exact ⟨(acc, eB), rfl, rfl, by show acc.length ≤ _; omega⟩
    · obtain ⟨⟨v1, v2, v3⟩, e1, e2, e3⟩ := look2.eq l m q t hl (k := k) (k' := k') (by omega) (by omega)
      rw [spec_l07Feed.l0, if_pos (by omega), impl_feed.l0, if_neg (fun e => h0 ((tl_nil q).1 e)), e1, e2]
      simp only [Option.bind_some]
      simp only at e3
      by_cases g2 : v1 = 2
      · rw [if_pos g2, if_pos g2]
        exact ⟨(acc, q), rfl, rfl, by show acc.length ≤ _; omega⟩
      · rw [if_neg g2, if_neg g2]
        rcases e3 with e3 | ⟨r1, r2, r3⟩ | ⟨r1, r2, r3⟩
        · exact absurd e3 g2
        · have g3 : ¬ v1 = 3 := by omega
          have z1 : (1 : Int) ≤ (q.size : Int) := by omega
          have z2 : acc.length < 4398046511104 := by omega
          have hs : (q.extract 1 q.size).size = q.size - 1 := by rw [ByteArray.size_extract]; omega
          have hb : v2 = (⟨#[]⟩ : ByteArray) := r2
          rw [if_neg g3, if_neg g3, if_pos (show (0 : Nat) ≤ 1 by decide), if_pos z1, if_pos z2, if_pos (show (0 : Nat) ≤ 1 by decide), if_pos z1, if_pos z2, hb]
          obtain ⟨w, w1, w2, w3⟩ := ih (q.extract 1 q.size) (acc ++ [⟨(⟨#[]⟩ : ByteArray), q.extract 0 1⟩]) k k' (by omega) (by rw [List.length_append, List.length_singleton]; omega) (by omega) (by omega)
          rw [List.length_append, List.length_singleton] at w3
          exact ⟨w, w1, w2, by omega⟩
        · obtain ⟨n3, rfl⟩ : ∃ n3 : Nat, v3 = (n3 : Int) := ⟨v3.toNat, by omega⟩
          have z0 : (0 : Int) ≤ (n3 : Int) := by omega
          have z2 : acc.length < 4398046511104 := by omega
          have hs : (q.extract n3 q.size).size = q.size - n3 := by rw [ByteArray.size_extract]; omega
          rw [if_pos r1, if_pos r1, if_pos z0, if_pos r3, if_pos z2, if_pos z0, if_pos r3, if_pos z2, Int.toNat_natCast]
          obtain ⟨w, w1, w2, w3⟩ := ih (q.extract n3 q.size) (acc ++ [⟨v2, q.extract 0 n3⟩]) k k' (by omega) (by rw [List.length_append, List.length_singleton]; omega) (by omega) (by omega)
          rw [List.length_append, List.length_singleton] at w3
          exact ⟨w, w1, w2, by omega⟩
theorem KeyFeed2.eq {l : List S40} (m : Int) (q : ByteArray) (t : Bool) (hl : l.length ≤ 1048576) (hL : ∀ x ∈ l, x.f2.size ≤ 1048576) (hq : q.size ≤ 1048576) {k k' : Nat} (hk : 3500000 < k) (hk' : 3500000 < k') : ∃ v : List S38 × ByteArray × Int, spec_KeyFeed.f k l m q t = some v ∧ impl_KeyFeed.f k' l m q t = some v ∧ v.1.length ≤ 1048576 := by
  obtain ⟨k, rfl⟩ : ∃ m, k = m + 1 := ⟨k - 1, by omega⟩
  obtain ⟨k', rfl⟩ : ∃ m, k' = m + 1 := ⟨k' - 1, by omega⟩
  have N : ∀ c : Int, ((([] : List S38), (⟨#[]⟩ : ByteArray), c) : List S38 × ByteArray × Int).1.length ≤ 1048576 := fun c => Nat.zero_le _
  unfold spec_KeyFeed.f impl_KeyFeed.f impl_isMany.f
  simp only [Option.bind_some, decide_eq_true_eq]
  by_cases h1 : (l.length : Int) > 400
  · rw [if_pos h1, if_pos h1, spec_KeyFeed.j0, impl_KeyFeed.j0]
    exact ⟨_, rfl, rfl, N 2⟩
  · rw [if_neg h1, if_neg h1, impl_isLong.eq q (by omega)]
    simp only [Option.bind_some]
    rw [spec_KeyFeed.j0, impl_KeyFeed.j0]
    by_cases h2 : (q.size : Int) > 20000
    · rw [decide_eq_true h2]
      exact ⟨_, rfl, rfl, N 2⟩
    · rw [decide_eq_false h2, if_neg (show ¬ false = true by decide), if_neg (show ¬ false = true by decide), spec_KeysRight.eq hl hL (by omega), impl_KeysRight.eq hl hL (by omega), impl_within.eq]
      simp only [Option.bind_some]
      by_cases h3 : keysOK l = true
      · rw [if_pos h3, if_pos h3]
        by_cases h4 : 1 ≤ m ∧ m ≤ 9
        · rw [if_neg (show ¬ m < 1 by omega), if_neg (show ¬ m > 9 by omega), if_pos (decide_eq_true h4)]
          obtain ⟨w, w1, w2, w3⟩ := feed2.loop l m t hl q.size q [] k k' (by omega) (by simp; omega) (by omega) (by omega)
          rw [show spec_l07Feed.f k l m q t = _ from w1, show impl_feed.f k' l m q t = _ from w2]
          exact ⟨(w.1, w.2, 0), rfl, rfl, by show w.1.length ≤ _; simp at w3; omega⟩
        · rw [decide_eq_false h4, if_neg (show ¬ false = true by decide)]
          by_cases h5 : m < 1
          · rw [if_pos h5]
            exact ⟨_, rfl, rfl, N 1⟩
          · rw [if_neg h5, if_pos (show m > 9 by omega)]
            exact ⟨_, rfl, rfl, N 1⟩
      · rw [if_neg h3, if_neg h3]
        exact ⟨_, rfl, rfl, N 1⟩
def kB (l : List S40) : Prop := ∀ x ∈ l, x.f2.size ≤ 100
theorem kB_nil : kB [] := fun _ h => absurd h (List.not_mem_nil)
theorem kB_app {a b : List S40} (ha : kB a) (hb : kB b) : kB (a ++ b) := fun x hx => (List.mem_append.1 hx).elim (ha x) (hb x)
theorem kB_one {x : S40} (h : x.f2.size ≤ 100) : kB [x] := fun y hy => by rw [List.mem_singleton.1 hy]; exact h
theorem kB_big {l : List S40} (h : kB l) : ∀ x ∈ l, x.f2.size ≤ 1048576 := fun x hx => Nat.le_trans (h x hx) (by omega)
theorem spec_KeyBind.loop (l same : List S40) (hl : l.length ≤ 1000) (hs : kB l) (hS : same.length ≤ 60 ∧ kB same) (m : Int) (s n : ByteArray) (hn : n.size ≤ 100) (d : Nat) : ∀ (k i : Nat) (out : List S40) (b : Bool), i ≤ l.length → l.length - i = d → out.length ≤ 2 * i → kB out → 2 * d + 3000010 < k → ∃ v, spec_KeyBind.l0 k l same out b (i : Int) m s n = some v ∧ v.length ≤ 60 ∧ kB v := by
  have hfin : ∀ (k : Nat) (o : List S40), o.length ≤ 2002 → kB o → 3000000 < k → ∃ v, ((spec_KeysRight.f k o).bind fun t => if t = true then some o else some same) = some v ∧ v.length ≤ 60 ∧ kB v := by
    intro k o ho hb hk
    rw [spec_KeysRight.eq (by omega) (kB_big hb) hk]
    simp only [Option.bind_some]
    by_cases h : keysOK o = true
    · rw [if_pos h]
      refine ⟨o, rfl, ?_, hb⟩
      unfold keysOK at h
      rw [Bool.and_eq_true, decide_eq_true_eq] at h
      exact h.1
    · rw [if_neg h]
      exact ⟨same, rfl, hS⟩
  induction d with
  | zero =>
    intro k i out b hi hd ho hb hk
    obtain ⟨k, rfl⟩ : ∃ m, k = m + 1 := ⟨k - 1, by omega⟩
    rw [spec_KeyBind.l0, if_neg (by omega)]
    cases b
    · rw [if_neg (by decide), if_pos (by omega)]
      simp only [Option.bind_some]
      exact hfin k _ (by rw [List.length_append, List.length_singleton]; omega) (kB_app hb (kB_one hn)) (by omega)
    · rw [if_pos rfl]
      exact hfin k _ (by omega) hb (by omega)
  | succ d ih =>
    intro k i out b hi hd ho hb hk
    obtain ⟨k, rfl⟩ : ∃ m, k = m + 2 := ⟨k - 2, by omega⟩
    have hlt : i < l.length := by omega
    have hx := hs _ (rdKey_mem hlt)
    have hj : ∀ (o : List S40) (b' : Bool), o.length ≤ 2 * i + 1 → kB o → ∃ v, (if 0 ≤ (i : Int) then (if (i : Int) < (l.length : Int) then (if ((rd_T40 l (i : Int)).f0) = m then (if ((rd_T40 l (i : Int)).f1).toList = s.toList then (spec_KeyBind.l0 k l same o b' (wrap64 ((i : Int) + 1)) m s n) else (if o.length < 3518437208883 then (spec_KeyBind.l0 k l same (o ++ [(⟨(rd_T40 l (i : Int)).f0, (rd_T40 l (i : Int)).f1, (rd_T40 l (i : Int)).f2⟩ : S40)]) b' (wrap64 ((i : Int) + 1)) m s n) else (none))) else (if o.length < 3518437208883 then (spec_KeyBind.l0 k l same (o ++ [(⟨(rd_T40 l (i : Int)).f0, (rd_T40 l (i : Int)).f1, (rd_T40 l (i : Int)).f2⟩ : S40)]) b' (wrap64 ((i : Int) + 1)) m s n) else (none))) else (none)) else (none)) = some v ∧ v.length ≤ 60 ∧ kB v := by
      intro o b' h1 h2
      have e : (⟨(rd_T40 l (i : Int)).f0, (rd_T40 l (i : Int)).f1, (rd_T40 l (i : Int)).f2⟩ : S40) = rd_T40 l (i : Int) := rfl
      rw [if_pos (int_nn i), if_pos (int_lt hlt), wrap_succ (by omega), e]
      have i1 := ih k (i + 1) o b' (by omega) (by omega) (by omega) h2 (by omega)
      have i2 := ih k (i + 1) (o ++ [rd_T40 l (i : Int)]) b' (by omega) (by omega) (by rw [List.length_append, List.length_singleton]; omega) (kB_app h2 (kB_one hx)) (by omega)
      rw [if_pos (show o.length < 3518437208883 by omega)]
      split
      · split
        · exact i1
        · exact i2
      · exact i2
    have hj1 : ∀ c : Bool, ∃ v, spec_KeyBind.j1 (k + 1) l same out b (i : Int) c m s n = some v ∧ v.length ≤ 60 ∧ kB v := by
      intro c
      rw [spec_KeyBind.j1]
      cases c
      · rw [if_neg (by decide)]
        exact hj out b (by omega) hb
      · rw [if_pos rfl, if_pos (by omega)]
        simp only [Option.bind_some]
        exact hj _ true (by rw [List.length_append, List.length_singleton]; omega) (kB_app hb (kB_one hn))
    rw [spec_KeyBind.l0, if_pos (int_lt hlt)]
    cases b
    · rw [if_neg (by decide), if_pos (int_nn i), show spec_l07Before.f (rd_T40 l (i : Int)).f0 (rd_T40 l (i : Int)).f1 (rd_T40 l (i : Int)).f2 m s n = _ from spec_l07Before.eq _ (⟨m, s, n⟩ : S40)]
      simp only [Option.bind_some]
      exact hj1 _
    · rw [if_pos rfl]
      exact hj1 false
theorem spec_KeyBind.draw {l : List S40} (hl : l.length ≤ 60) (hs : kB l) (m : Int) (s n : ByteArray) (hn : n.size ≤ 100) {k : Nat} (hk : 3100000 < k) : ∃ v, spec_KeyBind.f k l m s n = some v ∧ v.length ≤ 60 ∧ kB v := by
  unfold spec_KeyBind.f
  rw [if_neg (by omega)]
  simp only [Option.bind_some, List.length_nil, List.nil_append]
  rw [if_pos (by omega), spec_KeysRight.eq (by omega) (kB_big hs) (by omega)]
  simp only [Option.bind_some]
  by_cases h : keysOK l = true
  · rw [if_pos h]
    exact spec_KeyBind.loop l l (by omega) hs ⟨hl, hs⟩ m s n hn l.length k 0 [] false (by omega) (by omega) (by simp) kB_nil (by omega)
  · rw [if_neg h]
    exact ⟨l, rfl, hl, hs⟩
theorem spec_l01Src_l07Bytes.loop (b : List Int) (z : Int) (hb : b.length ≤ 1048576) (t : Nat) : ∀ (k : Nat) (acc : ByteArray) (a m : Int), acc.size + t ≤ 1000 → 0 ≤ a → a ≤ b.length → t < k → ∃ v a' m', spec_l01Src_l07Bytes.l0 k (t : Int) acc b a m z = some (v, a', m', z) ∧ v.size ≤ acc.size + t ∧ 0 ≤ a' ∧ a' ≤ b.length := by
  induction t with
  | zero =>
    intro k acc a m h h0 h1 hk
    obtain ⟨k, rfl⟩ : ∃ m, k = m + 1 := ⟨k - 1, by omega⟩
    rw [spec_l01Src_l07Bytes.l0, if_neg (by omega)]
    exact ⟨_, _, _, rfl, by omega, h0, h1⟩
  | succ t ih =>
    intro k acc a m h h0 h1 hk
    obtain ⟨k, rfl⟩ : ∃ m, k = m + 1 := ⟨k - 1, by omega⟩
    obtain ⟨x, a1, m1, e1, hx, g1, g2⟩ := spec_l01Src_pick.eq b a m z [(⟨#[27]⟩ : ByteArray), (⟨#[91]⟩ : ByteArray), (⟨#[65]⟩ : ByteArray), (⟨#[97]⟩ : ByteArray), (⟨#[120]⟩ : ByteArray), (⟨#[1]⟩ : ByteArray)] (by decide) (by decide) hb h0 h1
    have hs : x.size ≤ 1 := by
      simp only [List.mem_cons, List.not_mem_nil, or_false] at hx
      rcases hx with rfl | rfl | rfl | rfl | rfl | rfl <;> decide
    have hsz : (acc ++ x).size = acc.size + x.size := ByteArray.size_append
    rw [spec_l01Src_l07Bytes.l0, if_pos (by omega), e1, show wrap64 (((t + 1 : Nat) : Int) - 1) = (t : Int) by rw [wrap_in (by omega) (by omega)]; omega]
    simp only [Option.bind_some]
    rw [if_pos (by omega)]
    obtain ⟨v, a2, m2, e2, hv, k1, k2⟩ := ih k (acc ++ x) a1 m1 (by omega) g1 g2 (by omega)
    exact ⟨v, a2, m2, e2, by omega, k1, k2⟩
theorem spec_l01Src_l07Bytes.draw (b : List Int) (a m z t : Int) (hb : b.length ≤ 1048576) (h0 : 0 ≤ a) (h1 : a ≤ b.length) (ht0 : 0 ≤ t) (ht : t ≤ 100) {k : Nat} (hk : 200 < k) : ∃ v a' m', spec_l01Src_l07Bytes.f k b a m z t = some (v, a', m', z) ∧ v.size ≤ 100 ∧ 0 ≤ a' ∧ a' ≤ b.length := by
  obtain ⟨n, rfl⟩ : ∃ n : Nat, t = (n : Int) := ⟨t.toNat, by omega⟩
  have hz : (⟨#[]⟩ : ByteArray).size = 0 := rfl
  obtain ⟨v, a', m', e, hv, g1, g2⟩ := spec_l01Src_l07Bytes.loop b z hb n k (⟨#[]⟩ : ByteArray) a m (by rw [hz]; omega) h0 h1 (by omega)
  exact ⟨v, a', m', e, by rw [hz] at hv; omega, g1, g2⟩
theorem spec_l01Src_l07Key.draw (b : List Int) (a m z : Int) (hb : b.length ≤ 1048576) (h0 : 0 ≤ a) (h1 : a ≤ b.length) {k : Nat} (hk : 200 < k) : ∃ c s n a' m', spec_l01Src_l07Key.f k b a m z = some (c, s, n, a', m', z) ∧ n.size ≤ 100 ∧ 0 ≤ a' ∧ a' ≤ b.length := by
  unfold spec_l01Src_l07Key.f
  obtain ⟨q1, a1, m1, e1, u0, u1, g0, g1⟩ := spec_l01Src_n.eq b a m z 2 hb h0 h1 (by omega)
  rw [e1]
  simp only [Option.bind_some]
  obtain ⟨q2, a2, m2, e2, w0, w1, g2, g3⟩ := spec_l01Src_n.eq b a1 m1 z 3 hb g0 g1 (by omega)
  rw [e2]
  simp only [Option.bind_some]
  rw [wrap_in (x := 1 + q2) (by omega) (by omega)]
  obtain ⟨s, a3, m3, e3, hs, g4, g5⟩ := spec_l01Src_l07Bytes.draw b a2 m2 z (1 + q2) hb g2 g3 (by omega) (by omega) hk
  rw [e3]
  simp only [Option.bind_some]
  obtain ⟨x, a4, m4, e4, hx, g6, g7⟩ := spec_l01Src_pick.eq b a3 m3 z [(⟨#[108, 101, 102, 116]⟩ : ByteArray), (⟨#[114, 105, 103, 104, 116]⟩ : ByteArray), (⟨#[107, 105, 108, 108, 45, 108, 105, 110, 101]⟩ : ByteArray), (⟨#[98, 101, 108, 108]⟩ : ByteArray), (⟨#[117, 112]⟩ : ByteArray)] (by decide) (by decide) hb g4 g5
  rw [e4]
  have hz : x.size ≤ 100 := by
    simp only [List.mem_cons, List.not_mem_nil, or_false] at hx
    rcases hx with rfl | rfl | rfl | rfl | rfl <;> decide
  exact ⟨_, _, _, _, _, rfl, hz, g6, g7⟩
theorem spec_l01Src_l07Keys.loop1 (b : List Int) (z : Int) (hb : b.length ≤ 1048576) (d : Nat) : ∀ (k : Nat) (l : List S40) (i a m : Int), l.length ≤ 61 → 61 - l.length = d → kB l → 0 ≤ a → a ≤ b.length → d < k → ∃ v a' m', spec_l01Src_l07Keys.l1 k l i b a m z = some (v, a', m', z) ∧ v.length ≤ 100 ∧ kB v ∧ 0 ≤ a' ∧ a' ≤ b.length := by
  induction d with
  | zero =>
    intro k l i a m hl hd hs h0 h1 hk
    obtain ⟨k, rfl⟩ : ∃ m, k = m + 1 := ⟨k - 1, by omega⟩
    obtain ⟨q, a1, m1, e1, u0, u1, g0, g1⟩ := spec_l01Src_n.eq b a m z 3 hb h0 h1 (by omega)
    rw [spec_l01Src_l07Keys.l1, e1]
    simp only [Option.bind_some]
    rw [wrap_in (x := 59 + q) (by omega) (by omega), if_neg (by omega)]
    exact ⟨_, _, _, rfl, by omega, hs, g0, g1⟩
  | succ d ih =>
    intro k l i a m hl hd hs h0 h1 hk
    obtain ⟨k, rfl⟩ : ∃ m, k = m + 1 := ⟨k - 1, by omega⟩
    obtain ⟨q, a1, m1, e1, u0, u1, g0, g1⟩ := spec_l01Src_n.eq b a m z 3 hb h0 h1 (by omega)
    rw [spec_l01Src_l07Keys.l1, e1]
    simp only [Option.bind_some, List.length_singleton]
    rw [wrap_in (x := 59 + q) (by omega) (by omega)]
    by_cases h : (l.length : Int) < 59 + q
    · rw [if_pos h, if_pos (by omega)]
      exact ih k _ _ a1 m1 (by rw [List.length_append, List.length_singleton]; omega) (by rw [List.length_append, List.length_singleton]; omega) (kB_app hs (kB_one (show (⟨#[120]⟩ : ByteArray).size ≤ 100 by decide))) g0 g1 (by omega)
    · rw [if_neg h]
      exact ⟨_, _, _, rfl, by omega, hs, g0, g1⟩
theorem spec_l01Src_l07Keys.j1_some (b : List Int) (z : Int) (hb : b.length ≤ 1048576) (l : List S40) (a m : Int) (hl : l.length ≤ 100) (hs : kB l) (h0 : 0 ≤ a) (h1 : a ≤ b.length) {k : Nat} (hk : 200 < k) : ∃ v a' m', spec_l01Src_l07Keys.j1 k l b a m z = some (v, a', m', z) ∧ v.length ≤ 100 ∧ kB v ∧ 0 ≤ a' ∧ a' ≤ b.length := by
  obtain ⟨k, rfl⟩ : ∃ m, k = m + 1 := ⟨k - 1, by omega⟩
  obtain ⟨o, a1, m1, e1, g0, g1⟩ := spec_l01Src_one.eq b a m z 40 hb h0 h1 (by omega)
  rw [spec_l01Src_l07Keys.j1, e1]
  simp only [Option.bind_some]
  cases o
  · rw [if_neg (by decide)]
    exact ⟨_, _, _, rfl, hl, hs, g0, g1⟩
  · rw [if_pos rfl]
    exact spec_l01Src_l07Keys.loop1 b z hb 61 k [] 0 a1 m1 (by simp) (by simp) kB_nil g0 g1 (by omega)
theorem spec_l01Src_l07Keys.loop0 (b : List Int) (z : Int) (hb : b.length ≤ 1048576) (t : Nat) : ∀ (k : Nat) (l : List S40) (a m : Int), l.length ≤ 60 → kB l → 0 ≤ a → a ≤ b.length → t ≤ 100 → t + 3100100 < k → ∃ v a' m', spec_l01Src_l07Keys.l0 k l (t : Int) b a m z = some (v, a', m', z) ∧ v.length ≤ 100 ∧ kB v ∧ 0 ≤ a' ∧ a' ≤ b.length := by
  induction t with
  | zero =>
    intro k l a m hl hs h0 h1 ht hk
    obtain ⟨k, rfl⟩ : ∃ m, k = m + 1 := ⟨k - 1, by omega⟩
    rw [spec_l01Src_l07Keys.l0, if_neg (by omega)]
    obtain ⟨o, a1, m1, e1, g0, g1⟩ := spec_l01Src_one.eq b a m z 15 hb h0 h1 (by omega)
    rw [e1]
    simp only [Option.bind_some, List.length_nil, List.nil_append, List.length_singleton]
    have hj : ∀ (x : S40) (a m : Int), x.f2.size ≤ 100 → 0 ≤ a → a ≤ b.length → ∃ v a' m', (if 0 + l.length < 3518437208883 then (if l.length + 1 < 3518437208883 then spec_l01Src_l07Keys.j1 k (l ++ [x]) b a m z else none) else none) = some (v, a', m', z) ∧ v.length ≤ 100 ∧ kB v ∧ 0 ≤ a' ∧ a' ≤ b.length := by
      intro x a m hx h0 h1
      rw [if_pos (by omega), if_pos (by omega)]
      exact spec_l01Src_l07Keys.j1_some b z hb _ a m (by rw [List.length_append, List.length_singleton]; omega) (kB_app hs (kB_one hx)) h0 h1 (by omega)
    cases o
    · rw [if_neg (by decide)]
      exact spec_l01Src_l07Keys.j1_some b z hb l a1 m1 (by omega) hs g0 g1 (by omega)
    · rw [if_pos rfl]
      obtain ⟨c, s, n, a2, m2, e2, hn, g2, g3⟩ := spec_l01Src_l07Key.draw b a1 m1 z hb g0 g1 (k := k) (by omega)
      rw [e2]
      simp only [Option.bind_some]
      obtain ⟨q, a3, m3, e3, u0, u1, g4, g5⟩ := spec_l01Src_n.eq b a2 m2 z 4 hb g2 g3 (by omega)
      rw [e3]
      simp only [Option.bind_some]
      by_cases c0 : q = 0
      · rw [if_pos c0]
        obtain ⟨q2, a4, m4, e4, w0, w1, g6, g7⟩ := spec_l01Src_n.eq b a3 m3 z 2 hb g4 g5 (by omega)
        rw [e4]
        simp only [Option.bind_some]
        exact hj _ _ _ hn g6 g7
      rw [if_neg c0]
      by_cases c1 : q = 1
      · rw [if_pos c1]
        obtain ⟨q2, a4, m4, e4, w0, w1, g6, g7⟩ := spec_l01Src_n.eq b a3 m3 z 2 hb g4 g5 (by omega)
        rw [e4]
        simp only [Option.bind_some]
        rw [wrap_in (x := 7 * q2) (by omega) (by omega)]
        obtain ⟨s2, a5, m5, e5, hs2, g8, g9⟩ := spec_l01Src_l07Bytes.draw b a4 m4 z (7 * q2) hb g6 g7 (by omega) (by omega) (k := k) (by omega)
        rw [e5]
        simp only [Option.bind_some]
        exact hj _ _ _ hn g8 g9
      rw [if_neg c1]
      by_cases c2 : q = 2
      · rw [if_pos c2]
        obtain ⟨x, a4, m4, e4, hx, g6, g7⟩ := spec_l01Src_pick.eq b a3 m3 z [(⟨#[]⟩ : ByteArray), (⟨#[65]⟩ : ByteArray), (⟨#[97, 98, 99, 100, 101, 102, 103, 104, 105, 106, 107, 108, 109, 110, 111, 112, 113, 114, 115, 116, 117]⟩ : ByteArray)] (by decide) (by decide) hb g4 g5
        rw [e4]
        simp only [Option.bind_some]
        have hz : x.size ≤ 100 := by
          simp only [List.mem_cons, List.not_mem_nil, or_false] at hx
          rcases hx with rfl | rfl | rfl <;> decide
        exact hj _ _ _ hz g6 g7
      rw [if_neg c2]
      exact hj _ _ _ hn g4 g5
  | succ t ih =>
    intro k l a m hl hs h0 h1 ht hk
    obtain ⟨k, rfl⟩ : ∃ m, k = m + 1 := ⟨k - 1, by omega⟩
    obtain ⟨c, s, n, a2, m2, e2, hn, g2, g3⟩ := spec_l01Src_l07Key.draw b a m z hb h0 h1 (k := k) (by omega)
    obtain ⟨v, ev, v1, v2⟩ := spec_KeyBind.draw hl hs c s n hn (k := k) (by omega)
    rw [spec_l01Src_l07Keys.l0, if_pos (by omega), e2, show wrap64 (((t + 1 : Nat) : Int) - 1) = (t : Int) by rw [wrap_in (by omega) (by omega)]; omega]
    simp only [Option.bind_some]
    rw [ev]
    simp only [Option.bind_some]
    exact ih k v a2 m2 v1 v2 g2 g3 (by omega) (by omega)
theorem spec_l01Src_l07Keys.draw (b : List Int) (a m z : Int) (hb : b.length ≤ 1048576) (h0 : 0 ≤ a) (h1 : a ≤ b.length) (hz : 0 ≤ z ∧ z ≤ 12) {k : Nat} (hk : 3200000 < k) : ∃ v a' m', spec_l01Src_l07Keys.f k b a m z = some (v, a', m', z) ∧ v.length ≤ 100 ∧ kB v ∧ 0 ≤ a' ∧ a' ≤ b.length := by
  unfold spec_l01Src_l07Keys.f
  rw [wrap_in (x := 8 + z) (by omega) (by omega)]
  obtain ⟨q, a1, m1, e1, u0, u1, g0, g1⟩ := spec_l01Src_n.eq b a m z (8 + z) hb h0 h1 (by omega)
  rw [e1]
  simp only [Option.bind_some]
  obtain ⟨n, rfl⟩ : ∃ n : Nat, q = (n : Int) := ⟨q.toNat, by omega⟩
  exact spec_l01Src_l07Keys.loop0 b z hb n k [] a1 m1 (by simp) kB_nil g0 g1 (by omega) (by omega)
theorem spec_DrawKeyFeed.draw (l : List Int) (hl : l.length ≤ 1048576) {k : Nat} (hk : 3200000 < k) : ∃ L m q t, spec_DrawKeyFeed.f k l = some (L, m, q, t) ∧ L.length ≤ 100 ∧ kB L ∧ q.size ≤ 100 := by
  unfold spec_DrawKeyFeed.f
  obtain ⟨m0, z, e0, z0, z1⟩ := spec_l01Source.eq l hl (k := k) (by omega)
  rw [e0]
  simp only [Option.bind_some]
  obtain ⟨L, a1, m1, e1, hL, hB, g0, g1⟩ := spec_l01Src_l07Keys.draw l 0 m0 z hl (by omega) (by omega) ⟨z0, z1⟩ hk
  rw [e1]
  simp only [Option.bind_some]
  obtain ⟨q2, a2, m2, e2, u0, u1, g2, g3⟩ := spec_l01Src_n.eq l a1 m1 z 2 hl g0 g1 (by omega)
  rw [e2]
  simp only [Option.bind_some]
  obtain ⟨o, a3, m3, e3, g4, g5⟩ := spec_l01Src_one.eq l a2 m2 z 25 hl g2 g3 (by omega)
  rw [e3]
  simp only [Option.bind_some]
  rw [wrap_in (x := 10 + z) (by omega) (by omega)]
  have hq : ∀ (c a m : Int), 0 ≤ a → a ≤ l.length → ∃ (x : List S40 × Int × ByteArray × Bool), ((spec_l01Src_n.f l a m z (10 + z)).bind fun p => (spec_l01Src_l07Bytes.f k l p.2.1 p.2.2.1 p.2.2.2 p.1).bind fun p2 => (spec_l01Src_one.f l p2.2.1 p2.2.2.1 p2.2.2.2 3).bind fun p3 => some (L, c, p2.1, p3.1)) = some x ∧ x.1 = L ∧ x.2.2.1.size ≤ 100 := by
    intro c a m h0 h1
    obtain ⟨q4, a4, m4, e4, w0, w1, g6, g7⟩ := spec_l01Src_n.eq l a m z (10 + z) hl h0 h1 (by omega)
    rw [e4]
    simp only [Option.bind_some]
    obtain ⟨s, a5, m5, e5, hs, g8, g9⟩ := spec_l01Src_l07Bytes.draw l a4 m4 z q4 hl g6 g7 (by omega) (by omega) (k := k) (by omega)
    rw [e5]
    simp only [Option.bind_some]
    obtain ⟨o, a6, m6, e6, _, _⟩ := spec_l01Src_one.eq l a5 m5 z 3 hl g8 g9 (by omega)
    rw [e6]
    exact ⟨_, rfl, rfl, hs⟩
  cases o
  · rw [if_neg (by decide)]
    obtain ⟨⟨x1, x2, x3, x4⟩, e, rfl, h⟩ := hq (wrap64 (1 + q2)) a3 m3 g4 g5
    exact ⟨_, _, _, _, e, hL, hB, h⟩
  · rw [if_pos rfl]
    obtain ⟨q5, a5, m5, e5, w0, w1, g6, g7⟩ := spec_l01Src_n.eq l a3 m3 z 2 hl g4 g5 (by omega)
    rw [e5]
    simp only [Option.bind_some]
    rw [wrap_in (x := 10 + z) (by omega) (by omega)]
    obtain ⟨⟨x1, x2, x3, x4⟩, e, rfl, h⟩ := hq (wrap64 (10 * q5)) a5 m5 g6 g7
    exact ⟨_, _, _, _, e, hL, hB, h⟩
def tlB (q : ByteArray) : List UInt8 := q.data.toList
theorem tlB_app (a b : ByteArray) : tlB (a ++ b) = tlB a ++ tlB b := by unfold tlB; simp
theorem tlB_len (q : ByteArray) : (tlB q).length = q.size := Array.length_toList
theorem tlB_cut (q : ByteArray) (n : Nat) (h : n ≤ q.size) : tlB (q.extract 0 n) ++ tlB (q.extract n q.size) = tlB q := by
  have e : (List.drop n q.data.toList).length ≤ q.size - n := by
    rw [List.length_drop, Array.length_toList]
    exact Nat.le_refl _
  unfold tlB
  simp [ByteArray.data_extract]
  rw [List.take_of_length_le e, List.take_append_drop]
def catF : List S38 → List UInt8
  | [] => []
  | x :: l => tlB x.f1 ++ catF l
theorem catF_app (a : List S38) (x : S38) : catF (a ++ [x]) = catF a ++ tlB x.f1 := by
  induction a with
  | nil => simp [catF]
  | cons y a ih => rw [List.cons_append, catF, catF, ih, List.append_assoc]
def fedB (l : List S40) (m : Int) (x : S38) : Prop := (x.f0.toList = [] ∧ x.f1.size = 1) ∨ ∃ y, y ∈ l ∧ y.f0 = m ∧ y.f1.toList = x.f1.toList ∧ y.f2.toList = x.f0.toList
def lkP (l : List S40) (m : Int) (q : ByteArray) (a : Int) (b : ByteArray) (c : Int) : Prop := (a = 1 ∧ b = eB ∧ c = 0) ∨ (a = 3 ∧ 1 ≤ c ∧ c ≤ (q.size : Int) ∧ ∃ y, y ∈ l ∧ y.f0 = m ∧ y.f1.toList = (q.extract 0 c.toNat).toList ∧ y.f2 = b)
theorem look3.loop (l : List S40) (m : Int) (q : ByteArray) (t : Bool) (hl : l.length ≤ 1048576) (d : Nat) : ∀ (k i : Nat) (a : Int) (b : ByteArray) (c : Int), i ≤ l.length → l.length - i = d → 2 * d < k → lkP l m q a b c → ∃ v : Int × ByteArray × Int, spec_l07Look.l0 k l m q t (i : Int) a b c = some v ∧ ((v.1 = 2 ∧ t = false ∧ ∃ y, y ∈ l ∧ q.size < y.f1.size) ∨ lkP l m q v.1 v.2.1 v.2.2) := by
  induction d with
  | zero =>
    intro k i a b c hi hd hk hI
    obtain ⟨k, rfl⟩ : ∃ m, k = m + 1 := ⟨k - 1, by omega⟩
    rw [spec_l07Look.l0, if_neg (by omega)]
    exact ⟨_, rfl, Or.inr hI⟩
  | succ d ih =>
    intro k i a b c hi hd hk hI
    obtain ⟨k, rfl⟩ : ∃ m, k = m + 2 := ⟨k - 2, by omega⟩
    have hlt : i < l.length := by omega
    have hx := rdKey_mem hlt
    rw [spec_l07Look.l0, if_pos (int_lt hlt), if_pos (int_nn i), wrap_succ (by omega)]
    generalize rd_T40 l (i : Int) = x at hx
    by_cases h1 : x.f0 = m
    · rw [if_pos h1]
      by_cases h2 : (x.f1.size : Int) > (q.size : Int)
      · rw [if_pos h2]
        cases t
        · rw [if_neg (show ¬ false = true by decide), if_pos (show (0 : Int) ≤ (q.size : Int) by omega), if_pos (show (q.size : Int) ≤ (x.f1.size : Int) by omega), Int.toNat_natCast]
          rw [spec_l07Look.j1, wrap_succ (by omega)]
          by_cases h3 : ((x.f1.extract 0 q.size).toList == q.toList) = true
          · rw [if_pos h3]
            exact ⟨_, rfl, Or.inl ⟨rfl, rfl, x, hx, by omega⟩⟩
          · rw [if_neg h3]
            exact ih k (i + 1) a b c (by omega) (by omega) (by omega) hI
        · rw [if_pos (show true = true by decide)]
          rw [spec_l07Look.j1, wrap_succ (by omega), if_neg (show ¬ false = true by decide)]
          exact ih k (i + 1) a b c (by omega) (by omega) (by omega) hI
      · rw [if_neg h2, if_pos (show (0 : Int) ≤ (x.f1.size : Int) by omega), if_pos (show (x.f1.size : Int) ≤ (q.size : Int) by omega), Int.toNat_natCast]
        by_cases h3 : (q.extract 0 x.f1.size).toList = x.f1.toList
        · rw [if_pos h3]
          by_cases h4 : (x.f1.size : Int) > c
          · rw [if_pos h4]
            refine ih (k + 1) (i + 1) _ _ _ (by omega) (by omega) (by omega) (Or.inr ⟨rfl, ?_, by omega, x, hx, h1, ?_, rfl⟩)
            · rcases hI with e | e <;> omega
            · rw [Int.toNat_natCast]
              exact h3.symm
          · rw [if_neg h4]
            exact ih (k + 1) (i + 1) a b c (by omega) (by omega) (by omega) hI
        · rw [if_neg h3]
          exact ih (k + 1) (i + 1) a b c (by omega) (by omega) (by omega) hI
    · rw [if_neg h1]
      exact ih (k + 1) (i + 1) a b c (by omega) (by omega) (by omega) hI
theorem look3.eq (l : List S40) (m : Int) (q : ByteArray) (t : Bool) (hl : l.length ≤ 1048576) {k : Nat} (hk : 2 * l.length < k) : ∃ v : Int × ByteArray × Int, spec_l07Look.f k l m q t = some v ∧ ((v.1 = 2 ∧ t = false ∧ ∃ y, y ∈ l ∧ q.size < y.f1.size) ∨ lkP l m q v.1 v.2.1 v.2.2) := by
  unfold spec_l07Look.f
  exact look3.loop l m q t hl l.length k 0 1 eB 0 (by omega) (by omega) (by omega) (Or.inl ⟨rfl, rfl, rfl⟩)
def fedP (l : List S40) (m : Int) (t : Bool) (q : List UInt8) (v : List S38 × ByteArray) : Prop := catF v.1 ++ tlB v.2 = q ∧ (∀ x ∈ v.1, fedB l m x) ∧ (v.2.size = 0 ∨ t = false) ∧ (v.2.size = 0 ∨ ∃ y, y ∈ l ∧ v.2.size < y.f1.size)
theorem feed3.loop (l : List S40) (m : Int) (t : Bool) (hl : l.length ≤ 1048576) (Q : List UInt8) (n : Nat) : ∀ (q : ByteArray) (acc : List S38) (k : Nat), q.size ≤ n → acc.length + q.size ≤ 1048576 → n + 2 * l.length + 2 < k → catF acc ++ tlB q = Q → (∀ x ∈ acc, fedB l m x) → ∃ v : List S38 × ByteArray, spec_l07Feed.l0 k l m q t acc eB 0 = some (v.1, v.2, 0) ∧ fedP l m t Q v := by
  have hz : ∀ q : ByteArray, q.size = 0 → tlB q = [] := fun q h => List.eq_nil_of_length_eq_zero ((tlB_len q).trans h)
  induction n with
  | zero =>
    intro q acc k hq ha hk hc hb
    obtain ⟨k, rfl⟩ : ∃ m, k = m + 1 := ⟨k - 1, by omega⟩
    rw [spec_l07Feed.l0, if_neg (by omega)]
    refine ⟨(acc, eB), rfl, ?_, hb, Or.inl rfl, Or.inl rfl⟩
    rw [← hc, hz q (by omega)]
    rfl
  | succ n ih =>
    intro q acc k hq ha hk hc hb
    obtain ⟨k, rfl⟩ : ∃ m, k = m + 1 := ⟨k - 1, by omega⟩
    by_cases h0 : q.size = 0
    · rw [spec_l07Feed.l0, if_neg (by omega)]
      refine ⟨(acc, eB), rfl, ?_, hb, Or.inl rfl, Or.inl rfl⟩
      rw [← hc, hz q h0]
      rfl
    · obtain ⟨⟨v1, v2, v3⟩, e1, e3⟩ := look3.eq l m q t hl (k := k) (by omega)
      rw [spec_l07Feed.l0, if_pos (by omega), e1]
      simp only [Option.bind_some]
      simp only at e3
      rcases e3 with ⟨r1, r2, y, r3, r4⟩ | ⟨r1, r2, r3⟩ | ⟨r1, r2, r3, y, y1, y2, y3, y4⟩
      · rw [if_pos r1]
        exact ⟨(acc, q), rfl, hc, hb, Or.inr r2, Or.inr ⟨y, r3, r4⟩⟩
      · have g2 : ¬ v1 = 2 := by omega
        have g3 : ¬ v1 = 3 := by omega
        have z1 : (1 : Int) ≤ (q.size : Int) := by omega
        have z2 : acc.length < 4398046511104 := by omega
        have hs : (q.extract 1 q.size).size = q.size - 1 := by rw [ByteArray.size_extract]; omega
        have hb2 : v2 = (⟨#[]⟩ : ByteArray) := r2
        rw [if_neg g2, if_neg g3, if_pos (show (0 : Nat) ≤ 1 by decide), if_pos z1, if_pos z2, hb2]
        refine ih (q.extract 1 q.size) (acc ++ [⟨(⟨#[]⟩ : ByteArray), q.extract 0 1⟩]) k (by omega) (by rw [List.length_append, List.length_singleton]; omega) (by omega) ?_ ?_
        · rw [catF_app, List.append_assoc]
          show catF acc ++ (tlB (q.extract 0 1) ++ _) = _
          rw [tlB_cut q 1 (by omega), hc]
        · intro x hx
          rcases List.mem_append.1 hx with hx | hx
          · exact hb x hx
          · rw [List.mem_singleton.1 hx]
            refine Or.inl ⟨(tl_nil _).2 rfl, ?_⟩
            show (q.extract 0 1).size = 1
            rw [ByteArray.size_extract]
            omega
      · have g2 : ¬ v1 = 2 := by omega
        obtain ⟨n3, rfl⟩ : ∃ n3 : Nat, v3 = (n3 : Int) := ⟨v3.toNat, by omega⟩
        have z0 : (0 : Int) ≤ (n3 : Int) := by omega
        have z2 : acc.length < 4398046511104 := by omega
        have hs : (q.extract n3 q.size).size = q.size - n3 := by rw [ByteArray.size_extract]; omega
        rw [Int.toNat_natCast] at y3
        rw [if_neg g2, if_pos r1, if_pos z0, if_pos r3, if_pos z2, Int.toNat_natCast]
        refine ih (q.extract n3 q.size) (acc ++ [⟨v2, q.extract 0 n3⟩]) k (by omega) (by rw [List.length_append, List.length_singleton]; omega) (by omega) ?_ ?_
        · rw [catF_app, List.append_assoc]
          show catF acc ++ (tlB (q.extract 0 n3) ++ _) = _
          rw [tlB_cut q n3 (by omega), hc]
        · intro x hx
          rcases List.mem_append.1 hx with hx | hx
          · exact hb x hx
          · rw [List.mem_singleton.1 hx]
            exact Or.inr ⟨y, y1, y2, y3, by rw [y4]⟩
theorem krF_all {l : List S40} (d : Nat) : ∀ i, krF l d i = true → ∀ j, i ≤ j → j < i + d → keyOK (rd_T40 l (j : Int)) = true := by
  induction d with
  | zero => intro i _ j h1 h2; omega
  | succ d ih =>
    intro i h j h1 h2
    rw [krF, Bool.and_eq_true, Bool.and_eq_true] at h
    by_cases e : j = i
    · rw [e]; exact h.1
    · exact ih (i + 1) h.2.2 j (by omega) (by omega)
theorem keysOK_at {l : List S40} (h : keysOK l = true) {x : S40} (hx : x ∈ l) : x.f1.size ≤ 6 := by
  unfold keysOK at h
  rw [Bool.and_eq_true] at h
  obtain ⟨i, hi, rfl⟩ := List.getElem_of_mem hx
  have := krF_all l.length 0 h.2 i (by omega) (by omega)
  rw [rdKeyB hi] at this
  unfold keyOK at this
  rw [Bool.and_eq_true, Bool.and_eq_true, decide_eq_true_eq, decide_eq_true_eq] at this
  exact this.2.1.2
theorem spec_KeyFeed.P {l : List S40} (m : Int) (q : ByteArray) (t : Bool) (hl : l.length ≤ 1048576) (hL : ∀ x ∈ l, x.f2.size ≤ 1048576) (hq : q.size ≤ 1048576) {k : Nat} (hk : 3500000 < k) {v : List S38 × ByteArray × Int} (hv : spec_KeyFeed.f k l m q t = some v) : v.2.2 = 0 → fedP l m t (tlB q) (v.1, v.2.1) ∧ v.2.1.size < 6 := by
  obtain ⟨k, rfl⟩ : ∃ m, k = m + 1 := ⟨k - 1, by omega⟩
  have no : ∀ (b : ByteArray) (c : Int), c ≠ 0 → some ((([] : List S38), b, c) : List S38 × ByteArray × Int) = some v → v.2.2 = 0 → fedP l m t (tlB q) (v.1, v.2.1) ∧ v.2.1.size < 6 := by
    intro b c hc h e
    obtain rfl := Option.some.inj h
    exact absurd e hc
  have hj : ∀ c : Bool, spec_KeyFeed.j0 (k + 1) l m q t c = some v → v.2.2 = 0 → fedP l m t (tlB q) (v.1, v.2.1) ∧ v.2.1.size < 6 := by
    intro c h
    rw [spec_KeyFeed.j0] at h
    cases c
    · rw [if_neg (show ¬ false = true by decide), spec_KeysRight.eq hl hL (by omega)] at h
      simp only [Option.bind_some] at h
      by_cases h3 : keysOK l = true
      · rw [if_pos h3] at h
        by_cases h5 : m < 1
        · rw [if_pos h5] at h
          exact no _ _ (by decide) h
        rw [if_neg h5] at h
        by_cases h6 : m > 9
        · rw [if_pos h6] at h
          exact no _ _ (by decide) h
        rw [if_neg h6] at h
        obtain ⟨w, w1, w2⟩ := feed3.loop l m t hl (tlB q) q.size q [] k (by omega) (by simp; omega) (by omega) rfl (fun x hx => absurd hx (List.not_mem_nil))
        rw [show spec_l07Feed.f k l m q t = _ from w1] at h
        obtain rfl := Option.some.inj h
        intro _
        refine ⟨w2, ?_⟩
        obtain ⟨_, _, _, w3⟩ := w2
        show w.2.size < 6
        rcases w3 with e | ⟨y, y1, y2⟩
        · omega
        · have := keysOK_at h3 y1
          omega
      · rw [if_neg h3] at h
        exact no _ _ (by decide) h
    · rw [if_pos rfl] at h
      exact no _ _ (by decide) h
  unfold spec_KeyFeed.f at hv
  split at hv
  · exact hj _ hv
  · exact hj _ hv
theorem laws_FnKeys.inner (L : List S40) (m : Int) (q : ByteArray) (t : Bool) (X : List S38) (R : ByteArray) (c : Int) (x9 : ByteArray) (i : Nat) (hi : i < X.length) (hX : X.length ≤ 1048576) (hL : L.length ≤ 1048576) (d : Nat) : ∀ (k j : Nat) (b : Bool), j ≤ L.length → L.length - j = d → (b = true ∨ ∃ n, j ≤ n ∧ n < L.length ∧ (rd_T40 L (n : Int)).f0 = m ∧ (rd_T40 L (n : Int)).f1.toList = (rd_T38 X (i : Int)).f1.toList ∧ (rd_T40 L (n : Int)).f2.toList = (rd_T38 X (i : Int)).f0.toList) → laws_FnKeys.l1 (k + d + 1) L m q t x9 (i : Int) b (j : Int) X R c = laws_FnKeys.l0 k L m q t x9 ((i + 1 : Nat) : Int) X R c := by
  induction d with
  | zero =>
    intro k j b hj hd h
    have hb : b = true := by
      rcases h with h | ⟨n, n1, n2, _⟩
      · exact h
      · omega
    rw [hb, laws_FnKeys.l1, if_neg (by omega), if_pos rfl, wrap_succ (by omega)]
  | succ d ih =>
    intro k j b hj hd h
    have hlt : j < L.length := by omega
    have e : k + (d + 1) + 1 = (k + d + 1) + 1 := by omega
    have step : ∀ b', (b' = true ∨ ∃ n, j + 1 ≤ n ∧ n < L.length ∧ (rd_T40 L (n : Int)).f0 = m ∧ (rd_T40 L (n : Int)).f1.toList = (rd_T38 X (i : Int)).f1.toList ∧ (rd_T40 L (n : Int)).f2.toList = (rd_T38 X (i : Int)).f0.toList) → laws_FnKeys.l1 (k + d + 1) L m q t x9 (i : Int) b' ((j + 1 : Nat) : Int) X R c = laws_FnKeys.l0 k L m q t x9 ((i + 1 : Nat) : Int) X R c := fun b' h' => ih k (j + 1) b' (by omega) (by omega) h'
    rw [e, laws_FnKeys.l1, if_pos (int_lt hlt), wrap_succ (by omega)]
    cases b
    · rw [if_neg (by decide), if_pos (int_nn j)]
      have h := h.resolve_left (by decide)
      obtain ⟨n, n1, n2, n3, n4, n5⟩ := h
      by_cases hn : n = j
      · subst hn
        rw [if_pos n3, if_pos (int_nn i), if_pos (int_lt hi), if_pos n4]
        exact step _ (Or.inl (by rw [beq_iff_eq]; exact n5))
      · have h' : ∃ n, j + 1 ≤ n ∧ n < L.length ∧ (rd_T40 L (n : Int)).f0 = m ∧ (rd_T40 L (n : Int)).f1.toList = (rd_T38 X (i : Int)).f1.toList ∧ (rd_T40 L (n : Int)).f2.toList = (rd_T38 X (i : Int)).f0.toList := ⟨n, by omega, n2, n3, n4, n5⟩
        rw [if_pos (int_nn i), if_pos (int_lt hi)]
        split
        · split
          · exact step _ (Or.inr h')
          · exact step _ (Or.inr h')
        · exact step _ (Or.inr h')
    · rw [if_pos rfl]
      exact step _ (Or.inl rfl)
theorem laws_FnKeys.outer (L : List S40) (m : Int) (q : ByteArray) (t : Bool) (X : List S38) (R : ByteArray) (c : Int) (hL : L.length ≤ 1000) (hX : X.length ≤ 1048576) (hP : fedP L m t (tlB q) (X, R)) (h6 : R.size < 6) (hq : q.size ≤ 1048576) (d : Nat) : ∀ (k i : Nat) (x9 : ByteArray), i ≤ X.length → X.length - i = d → tlB x9 = catF (X.take i) → 2000 * d < k → laws_FnKeys.l0 k L m q t x9 (i : Int) X R c = some true := by
  obtain ⟨p1, p2, p3, p4⟩ := hP
  have p1 : catF X ++ tlB R = tlB q := p1
  have p3 : R.size = 0 ∨ t = false := p3
  have hcat : ∀ (A B : List S38), catF (A ++ B) = catF A ++ catF B := by
    intro A B
    induction A with
    | nil => rfl
    | cons y A ih => rw [List.cons_append, catF, catF, ih, List.append_assoc]
  have hlen : ∀ i, (catF (X.take i)).length + R.size ≤ 1048576 := by
    intro i
    have e : catF X = catF (X.take i) ++ catF (X.drop i) := by rw [← hcat, List.take_append_drop]
    have := congrArg List.length p1
    rw [e, List.length_append, List.length_append, tlB_len, tlB_len] at this
    omega
  induction d with
  | zero =>
    intro k i x9 hi hd h9 hk
    obtain ⟨k, rfl⟩ : ∃ m, k = m + 1 := ⟨k - 1, by omega⟩
    have s9 := hlen i
    rw [← h9, tlB_len] at s9
    have hfin : (x9 ++ R).toList = q.toList := by
      rw [ByteArray.toList_eq, ByteArray.toList_eq]
      show tlB (x9 ++ R) = tlB q
      rw [tlB_app, h9, List.take_of_length_le (by omega), p1]
    rw [laws_FnKeys.l0, if_neg (by omega), if_pos (by omega), if_pos hfin, decide_eq_true (show (R.size : Int) < 6 by omega)]
    cases t
    · rw [if_neg (by decide)]
    · rw [if_pos rfl, if_pos ((tl_nil R).2 (p3.resolve_right (by decide)))]
  | succ d ih =>
    intro k i x9 hi hd h9 hk
    obtain ⟨k, rfl⟩ : ∃ m, k = m + 3 := ⟨k - 3, by omega⟩
    have hlt : i < X.length := by omega
    have hx : rd_T38 X (i : Int) = X[i] := by unfold rd_T38; rw [Int.toNat_natCast, List.getD_eq_getElem?_getD, List.getElem?_eq_getElem hlt]; rfl
    have hm : rd_T38 X (i : Int) ∈ X := by rw [hx]; exact List.getElem_mem hlt
    have htk : X.take (i + 1) = X.take i ++ [rd_T38 X (i : Int)] := by rw [hx]; exact List.take_succ_eq_append_getElem hlt
    have s9 := hlen (i + 1)
    have h91 : tlB (x9 ++ (rd_T38 X (i : Int)).f1) = catF (X.take (i + 1)) := by rw [tlB_app, h9, htk, catF_app]
    have z9 : (tlB (x9 ++ (rd_T38 X (i : Int)).f1)).length = x9.size + (rd_T38 X (i : Int)).f1.size := by rw [tlB_len, ByteArray.size_append]
    rw [h91] at z9
    have hb := p2 _ hm
    rw [laws_FnKeys.l0, if_pos (int_lt hlt), laws_FnKeys.j3, if_pos (int_nn i), if_pos (int_lt hlt), if_pos (by omega)]
    have go : ∀ b : Bool, (b = true ∨ ∃ n, 0 ≤ n ∧ n < L.length ∧ (rd_T40 L (n : Int)).f0 = m ∧ (rd_T40 L (n : Int)).f1.toList = (rd_T38 X (i : Int)).f1.toList ∧ (rd_T40 L (n : Int)).f2.toList = (rd_T38 X (i : Int)).f0.toList) → laws_FnKeys.j4 (k + 1) L m q t (x9 ++ (rd_T38 X (i : Int)).f1) (i : Int) b X R c = some true := by
      intro b h
      rw [laws_FnKeys.j4]
      obtain ⟨k2, rfl⟩ : ∃ k2, k = k2 + L.length + 1 := ⟨k - L.length - 1, by omega⟩
      have := laws_FnKeys.inner L m q t X R c (x9 ++ (rd_T38 X (i : Int)).f1) i hlt hX (by omega) L.length k2 0 b (by omega) (by omega) h
      refine Eq.trans this ?_
      exact ih k2 (i + 1) _ (by omega) (by omega) h91 (by omega)
    have hn : ∀ y, y ∈ L → y.f0 = m ∧ y.f1.toList = (rd_T38 X (i : Int)).f1.toList ∧ y.f2.toList = (rd_T38 X (i : Int)).f0.toList → ∃ n, 0 ≤ n ∧ n < L.length ∧ (rd_T40 L (n : Int)).f0 = m ∧ (rd_T40 L (n : Int)).f1.toList = (rd_T38 X (i : Int)).f1.toList ∧ (rd_T40 L (n : Int)).f2.toList = (rd_T38 X (i : Int)).f0.toList := by
      intro y hy h
      obtain ⟨n, hn, rfl⟩ := List.getElem_of_mem hy
      refine ⟨n, by omega, hn, ?_⟩
      rw [rdKeyB hn]
      exact h
    by_cases h0 : (rd_T38 X (i : Int)).f0.toList = []
    · rw [if_pos h0]
      refine go _ ?_
      rcases hb with ⟨_, b2⟩ | ⟨y, y1, y2⟩
      · refine Or.inl ?_
        rw [beq_iff_eq]
        omega
      · exact Or.inr (hn y y1 y2)
    · rw [if_neg h0]
      refine go _ ?_
      rcases hb with ⟨b1, _⟩ | ⟨y, y1, y2⟩
      · exact absurd b1 h0
      · exact Or.inr (hn y y1 y2)

theorem FnKeys : laws_FnKeys.Pure := by
  intro l ⟨hl, _⟩
  have hl := maxLen_le hl
  refine ⟨3000000000, ?_⟩
  unfold laws_FnKeys.f
  by_cases h : (l.length : Int) > 1048576
  · rw [if_pos h]
  · obtain ⟨L, m, q, t, hd, h1, h2, h3⟩ := spec_DrawKeyFeed.draw l (by omega) (k := 3000000000) (by omega)
    obtain ⟨⟨v1, v2, v3⟩, e1, e2, e3⟩ := KeyFeed2.eq m q t (by omega) (kB_big h2) (by omega) (k := 3000000000) (k' := 3000000000) (by omega) (by omega)
    have hP := spec_KeyFeed.P m q t (by omega) (kB_big h2) (by omega) (by omega) e1
    have e3 : v1.length ≤ 1048576 := e3
    rw [if_neg h, hd]
    simp only [Option.bind_some, List.length_nil, List.nil_append]
    rw [e1]
    simp only [Option.bind_some]
    rw [if_pos (by omega), e2]
    simp only [Option.bind_some, if_true, bne_self_eq_false]
    rw [show (3000000000 : Nat) = 2999999999 + 1 from rfl, laws_FnKeys.j0, if_neg (by decide), show (2999999999 : Nat) = 2999999998 + 1 from rfl, laws_FnKeys.j1]
    by_cases hc : v3 = 0
    · rw [if_pos hc]
      obtain ⟨g1, g2⟩ := hP hc
      exact laws_FnKeys.outer L m q t v1 v2 v3 (by omega) e3 g1 g2 (by omega) v1.length 2999999998 0 (⟨#[]⟩ : ByteArray) (by omega) (by omega) rfl (by omega)
    · rw [if_neg hc]

end Go.Proofs.Ytnhmoacjmieggaa.Pure
