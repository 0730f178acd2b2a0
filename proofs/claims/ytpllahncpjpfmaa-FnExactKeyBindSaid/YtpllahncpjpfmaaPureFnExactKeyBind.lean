/- Proved: the program's KeyBind returns what the reference's returns, for every list of keys and key of size at most 2^20 in all, leaves the list as it was, and its answer is memory of its own. -/
import Derived.Test.YtpllahncpjpfmaaPFnExactKeyBindx10
namespace Go.Proofs.Ytpllahncpjpfmaa.Pure
open Go.RowKit Go.Proofs.Ytpllahncpjpfmaa.PFnExactKeyBind Go.Proofs.YtpllahncpjpfmaaW.PrintWords Go.Proofs.YtpllahncpjpfmaaW.PrintLast Go.Proofs.YtpllahncpjpfmaaW.PrintMore
set_option linter.unusedVariables false
set_option linter.unusedSimpArgs false

/-! ### plain words -/
theorem wrap_in {x : Int} (h0 : -9223372036854775808 ≤ x) (h1 : x ≤ 9223372036854775807) : wrap64 x = x := by unfold wrap64; omega
theorem wrap_succ {i : Nat} (h : i < 4611686018427387904) : wrap64 ((i : Int) + 1) = ((i + 1 : Nat) : Int) := by unfold wrap64; omega
theorem int_lt {i n : Nat} (h : i < n) : (i : Int) < (n : Int) := by omega
theorem int_nn (i : Nat) : (0 : Int) ≤ (i : Int) := by omega
theorem maxLen_le {n : Nat} (h : n ≤ maxLen) : n ≤ 9223372036854775807 := by unfold maxLen at h; exact h
def cvKey (b : S31) : S34 := ⟨b.f0, b.f1, b.f2⟩
def szKeys : List (S31) → Nat
  | [] => 0
  | x :: l => x.f1.size + x.f2.size + szKeys l
theorem szKeys_nil : szKeys [] = 0 := rfl
theorem szKeys_cons (x : S31) (l : List (S31)) : szKeys (x :: l) = x.f1.size + x.f2.size + szKeys l := rfl
theorem szKeys_mem {l : List (S31)} {x : S31} (h : x ∈ l) : x.f1.size + x.f2.size ≤ szKeys l := by
  induction l with
  | nil => cases h
  | cons y l ih =>
    rw [szKeys_cons]
    rcases List.mem_cons.1 h with rfl | h
    · omega
    · have := ih h; omega
theorem rdKeyA {l : List (S31)} {i : Nat} (h : i < l.length) : rd_T31 l (i : Int) = l[i] := by
  unfold rd_T31
  rw [Int.toNat_natCast, List.getD_eq_getElem?_getD, List.getElem?_eq_getElem h]
  rfl
theorem rdKeyB {l : List (S34)} {i : Nat} (h : i < l.length) : rd_T34 l (i : Int) = l[i] := by
  unfold rd_T34
  rw [Int.toNat_natCast, List.getD_eq_getElem?_getD, List.getElem?_eq_getElem h]
  rfl
theorem laws_szKey.eq {m : Int} {s t : ByteArray} {a : Int} (h0 : 0 ≤ a) (h1 : a ≤ 1048576) (hs : s.size ≤ 9223372036854775807) (ht : t.size ≤ 9223372036854775807) : laws_szKey.f m s t a = some (if a < ((s.size + t.size : Nat) : Int) then -1 else a - ((s.size + t.size : Nat) : Int)) := by
  unfold laws_szKey.f
  rw [wrap_in (x := a - (s.size : Int)) (by omega) (by omega)]
  by_cases h : a - (s.size : Int) < 0
  · rw [if_pos h, if_pos (by omega)]
  · rw [if_neg h, wrap_in (by omega) (by omega)]
    by_cases h2 : a - (s.size : Int) - (t.size : Int) < 0
    · rw [if_pos h2, if_pos (by omega)]
    · rw [if_neg h2, if_neg (by omega)]
      refine congrArg some ?_
      omega
theorem laws_szKeyS.loop (l : List (S31)) (hl : l.length ≤ 1048576) (hL : ∀ x ∈ l, x.f1.size ≤ 9223372036854775807 ∧ x.f2.size ≤ 9223372036854775807) (d : Nat) : ∀ (k i : Nat) (a : Int), 0 ≤ a → a ≤ 1048576 → i ≤ l.length → l.length - i = d → d < k → laws_szKeyS.l0 k l a (i : Int) = some (if a < (szKeys (l.drop i) : Int) then -1 else a - (szKeys (l.drop i) : Int)) := by
  induction d with
  | zero =>
    intro k i a h0 h1 hi hd hk
    obtain ⟨k, rfl⟩ : ∃ m, k = m + 1 := ⟨k - 1, by omega⟩
    simp only [laws_szKeyS.l0]
    rw [if_neg (by omega), List.drop_eq_nil_of_le (by omega), szKeys_nil, if_neg (by omega)]
    simp
  | succ d ih =>
    intro k i a h0 h1 hi hd hk
    obtain ⟨k, rfl⟩ : ∃ m, k = m + 1 := ⟨k - 1, by omega⟩
    have hlt : i < l.length := by omega
    have hx := hL l[i] (List.getElem_mem hlt)
    simp only [laws_szKeyS.l0]
    rw [if_pos (int_lt hlt), if_pos (int_nn i), rdKeyA hlt, laws_szKey.eq h0 h1 hx.1 hx.2]
    simp only [Option.bind_some]
    rw [List.drop_eq_getElem_cons hlt, szKeys_cons]
    by_cases h : a < ((l[i].f1.size + l[i].f2.size : Nat) : Int)
    · rw [if_pos h, if_pos (by omega), if_pos (by omega)]
    · rw [if_neg h, if_neg (by omega), wrap_succ (by omega), ih k (i + 1) _ (by omega) (by omega) (by omega) (by omega) (by omega)]
      by_cases h2 : a - ((l[i].f1.size + l[i].f2.size : Nat) : Int) < (szKeys (l.drop (i + 1)) : Int)
      · rw [if_pos h2, if_pos (by omega)]
      · rw [if_neg h2, if_neg (by omega)]
        refine congrArg some ?_
        omega
theorem laws_szKeyS.eq {l : List (S31)} {a : Int} {k : Nat} (h0 : 0 ≤ a) (h1 : a ≤ 1048576) (hl : l.length ≤ 9223372036854775807) (hL : ∀ x ∈ l, x.f1.size ≤ 9223372036854775807 ∧ x.f2.size ≤ 9223372036854775807) (hk : 1048577 < k) : laws_szKeyS.f k l a = some (if a < ((l.length + szKeys l : Nat) : Int) then -1 else a - ((l.length + szKeys l : Nat) : Int)) := by
  unfold laws_szKeyS.f
  rw [wrap_in (by omega) (by omega)]
  by_cases h : a < (l.length : Int)
  · rw [if_pos (by omega), if_pos (by omega)]
  · rw [if_neg (by omega)]
    have := laws_szKeyS.loop l (by omega) hL l.length k 0 (a - (l.length : Int)) (by omega) (by omega) (by omega) (by omega) (by omega)
    rw [List.drop_zero] at this
    refine (show _ = _ from this).trans ?_
    by_cases h2 : a - (l.length : Int) < (szKeys l : Int)
    · rw [if_pos h2, if_pos (by omega)]
    · rw [if_neg h2, if_neg (by omega)]
      refine congrArg some ?_
      omega
theorem laws_toKeyS.loop (l : List (S31)) (hl : l.length ≤ 1048576) (d : Nat) : ∀ (k i : Nat), i ≤ l.length → l.length - i = d → d < k → laws_toKeyS.l0 k l ((l.take i).map cvKey ++ List.replicate (l.length - i) z34) (i : Int) = some (l.map cvKey) := by
  induction d with
  | zero =>
    intro k i hi hd hk
    obtain ⟨k, rfl⟩ : ∃ m, k = m + 1 := ⟨k - 1, by omega⟩
    obtain rfl : i = l.length := by omega
    simp only [laws_toKeyS.l0]
    rw [if_neg (by omega)]
    simp
  | succ d ih =>
    intro k i hi hd hk
    obtain ⟨k, rfl⟩ : ∃ m, k = m + 1 := ⟨k - 1, by omega⟩
    have hlt : i < l.length := by omega
    simp only [laws_toKeyS.l0]
    rw [if_pos (int_lt hlt), if_pos (int_nn i), rdKeyA hlt]
    simp only [laws_toKey.f, Option.bind_some]
    rw [if_pos (by simp; omega), wrap_succ (by omega), Int.toNat_natCast]
    have hs : ((l.take i).map cvKey ++ List.replicate (l.length - i) z34).set i (cvKey l[i]) = (l.take (i + 1)).map cvKey ++ List.replicate (l.length - (i + 1)) z34 := by
      have h1 : ((l.take i).map cvKey).length = i := by simp; omega
      rw [List.set_append_right _ _ (by omega), h1, Nat.sub_self, show l.length - i = (l.length - (i + 1)) + 1 by omega, List.replicate_succ, List.set_cons_zero, List.take_succ_eq_append_getElem hlt, List.map_append, List.append_assoc]
      rfl
    refine (congrArg (fun z => laws_toKeyS.l0 k l z ((i + 1 : Nat) : Int)) hs).trans ?_
    exact ih k (i + 1) (by omega) (by omega) (by omega)
theorem laws_toKeyS.eq {l : List (S31)} {k : Nat} (h : l.length ≤ 1048576) (hk : 1048577 < k) : laws_toKeyS.f k l = some (l.map cvKey) := by
  unfold laws_toKeyS.f
  rw [if_pos (by omega), if_pos (by omega), Int.toNat_natCast]
  have := laws_toKeyS.loop l h l.length k 0 (by omega) (by omega) (by omega)
  simpa using this
theorem laws_eqKeyS.loop (a : List (S34)) (hl : a.length ≤ 1048576) (d : Nat) : ∀ (k i : Nat), i ≤ a.length → a.length - i = d → d < k → laws_eqKeyS.l0 k a a (i : Int) = some true := by
  induction d with
  | zero =>
    intro k i hi hd hk
    obtain ⟨k, rfl⟩ : ∃ m, k = m + 1 := ⟨k - 1, by omega⟩
    simp only [laws_eqKeyS.l0]
    rw [if_neg (by omega)]
  | succ d ih =>
    intro k i hi hd hk
    obtain ⟨k, rfl⟩ : ∃ m, k = m + 1 := ⟨k - 1, by omega⟩
    have hlt : i < a.length := by omega
    simp only [laws_eqKeyS.l0]
    rw [if_pos (int_lt hlt), if_pos (int_nn i), if_pos (int_lt hlt), rdKeyB hlt, wrap_succ (by omega)]
    unfold laws_eqKey.f
    simp only [if_true, Option.bind_some]
    exact ih k (i + 1) (by omega) (by omega) (by omega)
theorem laws_eqKeyS.refl {a : List (S34)} {k : Nat} (hl : a.length ≤ 1048576) (hk : 1048577 < k) : laws_eqKeyS.f k a a = some true := by
  unfold laws_eqKeyS.f
  rw [if_pos rfl]
  exact laws_eqKeyS.loop a hl a.length k 0 (by omega) (by omega) (by omega)
theorem impl_within.eq (a b c : Int) : impl_within.f a b c = some (decide (b ≤ a ∧ a ≤ c)) := by
  unfold impl_within.f
  by_cases h : b ≤ a <;> simp [h]
theorem cmpB (x : List UInt8) : ∀ y, Lib.compareBytes x y < 0 ↔ Op.bytesLess x y = true := by
  induction x with
  | nil => intro y; cases y <;> simp [Lib.compareBytes, Op.bytesLess]
  | cons a x ih =>
    intro y
    cases y with
    | nil => simp [Lib.compareBytes, Op.bytesLess]
    | cons b y =>
      unfold Lib.compareBytes Op.bytesLess
      by_cases h1 : a < b
      · simp [h1]
      · by_cases h2 : b < a
        · have h3 : ¬ a = b := fun e => by subst e; exact h1 h2
          simp [h1, h2, h3]
        · have h3 : a = b := UInt8.le_antisymm (UInt8.not_lt.1 h2) (UInt8.not_lt.1 h1)
          subst h3
          simp [h1, ih y]
def chOK (c : Int) : Bool := decide ((97 ≤ c ∧ c ≤ 122) ∨ c = 45)
def nmF (s : ByteArray) : Nat → Nat → Bool
  | 0, _ => true
  | d + 1, i => chOK (bt s (i : Int)) && nmF s d (i + 1)
def nameOK (s : ByteArray) : Bool := decide (1 ≤ s.size ∧ s.size ≤ 20) && nmF s s.size 0
theorem spec_l07Name.loop (s : ByteArray) (hs : s.size ≤ 1048576) (d : Nat) : ∀ (k i : Nat), i ≤ s.size → s.size - i = d → d < k → spec_l07Name.l0 k s (i : Int) = some (nmF s d i) := by
  induction d with
  | zero =>
    intro k i hi hd hk
    obtain ⟨k, rfl⟩ : ∃ m, k = m + 1 := ⟨k - 1, by omega⟩
    rw [spec_l07Name.l0, if_neg (by omega)]
    rfl
  | succ d ih =>
    intro k i hi hd hk
    obtain ⟨k, rfl⟩ : ∃ m, k = m + 1 := ⟨k - 1, by omega⟩
    have h := ih k (i + 1) (by omega) (by omega) (by omega)
    rw [spec_l07Name.l0, if_pos (by omega), if_pos (int_nn i), wrap_succ (by omega), h]
    show _ = some (chOK (bt s (i : Int)) && nmF s d (i + 1))
    unfold chOK
    generalize bt s (i : Int) = c
    by_cases h1 : c ≥ 97
    · rw [if_pos h1]
      by_cases h2 : c ≤ 122
      · rw [if_pos h2, decide_eq_true (show (97 ≤ c ∧ c ≤ 122) ∨ c = 45 by omega), Bool.true_and]
      · rw [if_neg h2, if_neg (by omega), decide_eq_false (show ¬ ((97 ≤ c ∧ c ≤ 122) ∨ c = 45) by omega), Bool.false_and]
    · rw [if_neg h1]
      by_cases h2 : c = 45
      · rw [if_pos h2, decide_eq_true (show (97 ≤ c ∧ c ≤ 122) ∨ c = 45 by omega), Bool.true_and]
      · rw [if_neg h2, decide_eq_false (show ¬ ((97 ≤ c ∧ c ≤ 122) ∨ c = 45) by omega), Bool.false_and]
theorem spec_l07Name.eq (s : ByteArray) (hs : s.size ≤ 1048576) {k : Nat} (hk : s.size + 2 < k) : spec_l07Name.f k s = some (nameOK s) := by
  obtain ⟨k, rfl⟩ : ∃ m, k = m + 1 := ⟨k - 1, by omega⟩
  have hj : ∀ b : Bool, spec_l07Name.j0 (k + 1) s b = some (!b && nmF s s.size 0) := by
    intro b
    have := spec_l07Name.loop s hs s.size k 0 (by omega) (by omega) (by omega)
    cases b
    · rw [spec_l07Name.j0]
      exact this
    · rw [spec_l07Name.j0]
      rfl
  unfold spec_l07Name.f nameOK
  rw [hj, hj]
  by_cases h1 : (s.size : Int) < 1
  · rw [if_pos h1, decide_eq_false (show ¬ (1 ≤ s.size ∧ s.size ≤ 20) by omega)]
    rfl
  · rw [if_neg h1]
    by_cases h2 : (s.size : Int) > 20
    · rw [decide_eq_true h2, decide_eq_false (show ¬ (1 ≤ s.size ∧ s.size ≤ 20) by omega)]
      rfl
    · rw [decide_eq_false h2, decide_eq_true (show 1 ≤ s.size ∧ s.size ≤ 20 by omega)]
      rfl
theorem impl_isKeyName.loop (s : ByteArray) (hs : s.size ≤ 1048576) (d : Nat) : ∀ (k i : Nat), i ≤ s.size → s.size - i = d → d < k → impl_isKeyName.l0 k s (s.size : Int) (i : Int) = some (nmF s d i && decide (1 ≤ s.size ∧ s.size ≤ 20)) := by
  induction d with
  | zero =>
    intro k i hi hd hk
    obtain ⟨k, rfl⟩ : ∃ m, k = m + 1 := ⟨k - 1, by omega⟩
    rw [impl_isKeyName.l0, if_neg (by omega), impl_within.eq]
    simp only [Option.bind_some, nmF, Bool.true_and]
    exact congrArg some (decide_eq_decide.2 (by omega))
  | succ d ih =>
    intro k i hi hd hk
    obtain ⟨k, rfl⟩ : ∃ m, k = m + 1 := ⟨k - 1, by omega⟩
    have h := ih k (i + 1) (by omega) (by omega) (by omega)
    rw [impl_isKeyName.l0, if_pos (by omega), if_pos (int_nn i), if_pos (by omega), wrap_succ (by omega), h]
    show _ = some (chOK (bt s (i : Int)) && nmF s d (i + 1) && decide (1 ≤ s.size ∧ s.size ≤ 20))
    unfold chOK
    generalize bt s (i : Int) = c
    by_cases h1 : c ≥ 97
    · rw [if_pos h1]
      by_cases h2 : c ≤ 122
      · rw [if_pos h2, decide_eq_true (show (97 ≤ c ∧ c ≤ 122) ∨ c = 45 by omega), Bool.true_and]
      · rw [if_neg h2, if_neg (by omega), decide_eq_false (show ¬ ((97 ≤ c ∧ c ≤ 122) ∨ c = 45) by omega), Bool.false_and, Bool.false_and]
    · rw [if_neg h1]
      by_cases h2 : c = 45
      · rw [if_pos h2, decide_eq_true (show (97 ≤ c ∧ c ≤ 122) ∨ c = 45 by omega), Bool.true_and]
      · rw [if_neg h2, decide_eq_false (show ¬ ((97 ≤ c ∧ c ≤ 122) ∨ c = 45) by omega), Bool.false_and, Bool.false_and]
theorem impl_isKeyName.eq (s : ByteArray) (hs : s.size ≤ 1048576) {k : Nat} (hk : s.size < k) : impl_isKeyName.f k s = some (nameOK s) := by
  have := impl_isKeyName.loop s hs s.size k 0 (by omega) (by omega) hk
  unfold nameOK
  rw [Bool.and_comm]
  exact this
def keyOK (x : S34) : Bool := decide (1 ≤ x.f0 ∧ x.f0 ≤ 9) && (decide (1 ≤ x.f1.size ∧ x.f1.size ≤ 6) && nameOK x.f2)
def befK (x y : S34) : Bool := decide (x.f0 < y.f0 ∨ (x.f0 = y.f0 ∧ Op.bytesLess x.f1.toList y.f1.toList = true))
def krF (l : List S34) : Nat → Nat → Bool
  | 0, _ => true
  | d + 1, i => keyOK (rd_T34 l (i : Int)) && ((decide (i = 0) || befK (rd_T34 l ((i - 1 : Nat) : Int)) (rd_T34 l (i : Int))) && krF l d (i + 1))
def keysOK (l : List S34) : Bool := decide (l.length ≤ 60) && krF l l.length 0
theorem spec_l07Before.eq (x y : S34) : spec_l07Before.f x.f0 x.f1 x.f2 y.f0 y.f1 y.f2 = some (befK x y) := by
  unfold spec_l07Before.f befK
  by_cases h1 : x.f0 < y.f0
  · rw [if_pos h1, decide_eq_true (Or.inl h1)]
  · rw [if_neg h1]
    by_cases h2 : x.f0 = y.f0
    · rw [if_pos h2]
      refine congrArg some ?_
      rw [Bool.eq_iff_iff, decide_eq_true_eq]
      exact ⟨fun e => Or.inr ⟨h2, e⟩, fun e => (e.resolve_left h1).2⟩
    · rw [if_neg h2, decide_eq_false (fun e => e.elim h1 (fun g => h2 g.1))]
theorem cmp_Or_int.eq (a b : Int) {k : Nat} (hk : 3 < k) : cmp_Or_int.f k [a, b] = some (if a = 0 then b else a) := by
  obtain ⟨k, rfl⟩ : ∃ m, k = m + 3 := ⟨k - 3, by omega⟩
  have r0 : rd [a, b] 0 = a := rfl
  have r1 : rd [a, b] 1 = b := rfl
  have w0 : wrap64 (0 + 1) = 1 := by unfold wrap64; omega
  have w1 : wrap64 (1 + 1) = 2 := by unfold wrap64; omega
  show cmp_Or_int.l0 (k + 3) 0 [a, b] 2 0 = _
  rw [cmp_Or_int.l0, if_pos (by decide), if_pos (by decide), if_pos (by simp), r0, w0]
  by_cases h : a = 0
  · rw [if_pos h, if_pos h, cmp_Or_int.l0, if_pos (by decide), if_pos (by decide), if_pos (by simp), r1, w1]
    by_cases h2 : b = 0
    · rw [if_pos h2, cmp_Or_int.l0, if_neg (by decide), h2]
    · rw [if_neg h2]
  · rw [if_neg h, if_neg h]
theorem impl_compareKeys.eq (x y : S34) {k : Nat} (hk : 3 < k) : ∃ c, impl_compareKeys.f k x.f0 x.f1 x.f2 y.f0 y.f1 y.f2 = some c ∧ (c ≥ 0 ↔ befK x y = false) := by
  unfold impl_compareKeys.f strings_Compare.f bytealg_CompareString.f cmp_Compare_int64.f cmp_isNaN_int64.f
  simp only [Option.bind_some, bne_self_eq_false, Bool.false_eq_true, if_false]
  have hb := cmpB x.f1.data.toList y.f1.data.toList
  unfold befK
  rw [Lib.toList_data, Lib.toList_data]
  by_cases h1 : x.f0 < y.f0
  · rw [if_pos h1]
    simp only [Option.bind_some]
    rw [cmp_Or_int.eq _ _ hk, if_neg (by decide)]
    refine ⟨_, rfl, ?_⟩
    rw [decide_eq_true (Or.inl h1)]
    decide
  · rw [if_neg h1]
    by_cases h2 : x.f0 > y.f0
    · rw [if_pos h2]
      simp only [Option.bind_some]
      rw [cmp_Or_int.eq _ _ hk, if_neg (by decide)]
      refine ⟨_, rfl, ?_⟩
      rw [decide_eq_false (fun e => e.elim h1 (fun g => by omega))]
      decide
    · rw [if_neg h2]
      simp only [Option.bind_some]
      rw [cmp_Or_int.eq _ _ hk, if_pos rfl]
      refine ⟨_, rfl, ?_⟩
      have e : x.f0 = y.f0 := by omega
      rw [decide_eq_false_iff_not]
      constructor
      · intro g q
        have := hb.2 (q.resolve_left h1).2
        omega
      · intro g
        by_cases q : Lib.compareBytes x.f1.data.toList y.f1.data.toList < 0
        · exact absurd (Or.inr ⟨e, hb.1 q⟩) g
        · omega
theorem impl_keyRight.eq (x : S34) (hs : x.f2.size ≤ 1048576) {k : Nat} (hk : x.f2.size < k) : impl_keyRight.f k x.f0 x.f1 x.f2 = some (keyOK x) := by
  unfold impl_keyRight.f keyOK
  simp only [impl_within.eq, Option.bind_some, decide_eq_true_eq]
  by_cases h1 : 1 ≤ x.f0 ∧ x.f0 ≤ 9
  · rw [if_pos h1, decide_eq_true h1, Bool.true_and]
    by_cases h2 : 1 ≤ x.f1.size ∧ x.f1.size ≤ 6
    · rw [if_pos (by omega), impl_isKeyName.eq _ hs hk, decide_eq_true h2, Bool.true_and]
      rfl
    · rw [if_neg (by omega), decide_eq_false h2, Bool.false_and]
  · rw [if_neg h1, decide_eq_false h1, Bool.false_and]
theorem rdKey_mem {l : List S34} {i : Nat} (h : i < l.length) : rd_T34 l (i : Int) ∈ l := by
  rw [rdKeyB h]
  exact List.getElem_mem h
theorem spec_KeysRight.loop (l : List S34) (hl : l.length ≤ 1048576) (hL : ∀ x ∈ l, x.f2.size ≤ 1048576) (d : Nat) : ∀ (k i : Nat), i ≤ l.length → l.length - i = d → d + 1048600 < k → spec_KeysRight.l0 k l (i : Int) = some (krF l d i) := by
  induction d with
  | zero =>
    intro k i hi hd hk
    obtain ⟨k, rfl⟩ : ∃ m, k = m + 1 := ⟨k - 1, by omega⟩
    rw [spec_KeysRight.l0, if_neg (by omega)]
    rfl
  | succ d ih =>
    intro k i hi hd hk
    obtain ⟨k, rfl⟩ : ∃ m, k = m + 1 := ⟨k - 1, by omega⟩
    have hlt : i < l.length := by omega
    have hx := hL _ (rdKey_mem hlt)
    have h := ih k (i + 1) (by omega) (by omega) (by omega)
    rw [spec_KeysRight.l0, if_pos (int_lt hlt), if_pos (int_nn i), wrap_succ (by omega), h, spec_l07Name.eq _ hx (by omega)]
    show _ = some (keyOK (rd_T34 l (i : Int)) && ((decide (i = 0) || befK (rd_T34 l ((i - 1 : Nat) : Int)) (rd_T34 l (i : Int))) && krF l d (i + 1)))
    simp only [Option.bind_some]
    unfold keyOK
    by_cases h1 : (rd_T34 l (i : Int)).f0 < 1
    · rw [if_pos h1, decide_eq_false (show ¬ (1 ≤ (rd_T34 l (i : Int)).f0 ∧ (rd_T34 l (i : Int)).f0 ≤ 9) by omega), Bool.false_and, Bool.false_and]
    rw [if_neg h1]
    by_cases h2 : (rd_T34 l (i : Int)).f0 > 9
    · rw [if_pos h2, decide_eq_false (show ¬ (1 ≤ (rd_T34 l (i : Int)).f0 ∧ (rd_T34 l (i : Int)).f0 ≤ 9) by omega), Bool.false_and, Bool.false_and]
    rw [if_neg h2, decide_eq_true (show 1 ≤ (rd_T34 l (i : Int)).f0 ∧ (rd_T34 l (i : Int)).f0 ≤ 9 by omega), Bool.true_and]
    by_cases h3 : ((rd_T34 l (i : Int)).f1.size : Int) < 1
    · rw [if_pos h3, decide_eq_false (show ¬ (1 ≤ (rd_T34 l (i : Int)).f1.size ∧ (rd_T34 l (i : Int)).f1.size ≤ 6) by omega), Bool.false_and, Bool.false_and]
    rw [if_neg h3]
    by_cases h4 : ((rd_T34 l (i : Int)).f1.size : Int) > 6
    · rw [if_pos h4, decide_eq_false (show ¬ (1 ≤ (rd_T34 l (i : Int)).f1.size ∧ (rd_T34 l (i : Int)).f1.size ≤ 6) by omega), Bool.false_and, Bool.false_and]
    rw [if_neg h4, decide_eq_true (show 1 ≤ (rd_T34 l (i : Int)).f1.size ∧ (rd_T34 l (i : Int)).f1.size ≤ 6 by omega), Bool.true_and]
    by_cases h5 : nameOK (rd_T34 l (i : Int)).f2 = true
    · rw [if_pos h5, h5, Bool.true_and]
      by_cases h6 : i = 0
      · rw [if_neg (by omega), decide_eq_true h6, Bool.true_or, Bool.true_and]
      · rw [if_pos (by omega), wrap_in (by omega) (by omega), if_pos (by omega), if_pos (by omega), show (i : Int) - 1 = ((i - 1 : Nat) : Int) by omega, spec_l07Before.eq, decide_eq_false h6, Bool.false_or]
        simp only [Option.bind_some]
        by_cases h7 : befK (rd_T34 l ((i - 1 : Nat) : Int)) (rd_T34 l (i : Int)) = true
        · rw [if_pos h7, h7, Bool.true_and]
        · rw [if_neg h7]
          rw [Bool.not_eq_true] at h7
          rw [h7, Bool.false_and]
    · rw [if_neg h5]
      rw [Bool.not_eq_true] at h5
      rw [h5, Bool.false_and]
theorem spec_KeysRight.eq {l : List S34} (hl : l.length ≤ 1048576) (hL : ∀ x ∈ l, x.f2.size ≤ 1048576) {k : Nat} (hk : 3000000 < k) : spec_KeysRight.f k l = some (keysOK l) := by
  unfold spec_KeysRight.f keysOK
  by_cases h : l.length ≤ 60
  · have := spec_KeysRight.loop l hl hL l.length k 0 (by omega) (by omega) (by omega)
    rw [if_neg (by omega), decide_eq_true h, Bool.true_and]
    exact this
  · rw [if_pos (by omega), decide_eq_false h, Bool.false_and]
theorem impl_KeysRight.loop (l : List S34) (hl : l.length ≤ 1048576) (hL : ∀ x ∈ l, x.f2.size ≤ 1048576) (d : Nat) : ∀ (k i : Nat), i ≤ l.length → l.length - i = d → d + 1048600 < k → impl_KeysRight.l0 k l l (l.length : Int) (i : Int) = some (krF l d i && decide (l.length ≤ 60)) := by
  induction d with
  | zero =>
    intro k i hi hd hk
    obtain ⟨k, rfl⟩ : ∃ m, k = m + 1 := ⟨k - 1, by omega⟩
    rw [impl_KeysRight.l0, if_neg (by omega)]
    simp only [krF, Bool.true_and]
    exact congrArg some (decide_eq_decide.2 (by omega))
  | succ d ih =>
    intro k i hi hd hk
    obtain ⟨k, rfl⟩ : ∃ m, k = m + 1 := ⟨k - 1, by omega⟩
    have hlt : i < l.length := by omega
    have hx := hL _ (rdKey_mem hlt)
    have h := ih k (i + 1) (by omega) (by omega) (by omega)
    rw [impl_KeysRight.l0, if_pos (int_lt hlt), if_pos (int_nn i), if_pos (int_lt hlt), wrap_succ (by omega), h, impl_keyRight.eq _ hx (by omega)]
    show _ = some (keyOK (rd_T34 l (i : Int)) && ((decide (i = 0) || befK (rd_T34 l ((i - 1 : Nat) : Int)) (rd_T34 l (i : Int))) && krF l d (i + 1)) && decide (l.length ≤ 60))
    simp only [Option.bind_some]
    by_cases h5 : keyOK (rd_T34 l (i : Int)) = true
    · rw [if_pos h5, h5, Bool.true_and]
      by_cases h6 : i = 0
      · rw [if_neg (by omega), decide_eq_true h6, Bool.true_or, Bool.true_and]
      · obtain ⟨c, hc, hb⟩ := impl_compareKeys.eq (rd_T34 l ((i - 1 : Nat) : Int)) (rd_T34 l (i : Int)) (k := k) (by omega)
        rw [if_pos (by omega), wrap_in (by omega) (by omega), if_pos (by omega), if_pos (by omega), show (i : Int) - 1 = ((i - 1 : Nat) : Int) by omega, hc, decide_eq_false h6, Bool.false_or]
        simp only [Option.bind_some]
        by_cases h7 : c ≥ 0
        · rw [if_pos h7, hb.1 h7, Bool.false_and, Bool.false_and]
        · have h8 : befK (rd_T34 l ((i - 1 : Nat) : Int)) (rd_T34 l (i : Int)) = true := by
            rw [← Bool.not_eq_false]
            exact fun e => h7 (hb.2 e)
          rw [if_neg h7, h8, Bool.true_and]
    · rw [if_neg h5]
      rw [Bool.not_eq_true] at h5
      rw [h5, Bool.false_and, Bool.false_and]
theorem impl_KeysRight.eq {l : List S34} (hl : l.length ≤ 1048576) (hL : ∀ x ∈ l, x.f2.size ≤ 1048576) {k : Nat} (hk : 3000000 < k) : impl_KeysRight.f k l = some (keysOK l) := by
  have := impl_KeysRight.loop l hl hL l.length k 0 (by omega) (by omega) (by omega)
  unfold keysOK
  rw [Bool.and_comm]
  exact this
theorem bl_irr (x : List UInt8) : Op.bytesLess x x = false := by
  induction x with
  | nil => rfl
  | cons a x ih =>
    unfold Op.bytesLess
    rw [ih]
    simp
theorem bl_trans (x : List UInt8) : ∀ y z, Op.bytesLess x y = true → Op.bytesLess y z = true → Op.bytesLess x z = true := by
  induction x with
  | nil =>
    intro y z h1 h2
    cases y with
    | nil => exact h2
    | cons b y =>
      cases z with
      | nil => simp [Op.bytesLess] at h2
      | cons c z => rfl
  | cons a x ih =>
    intro y z h1 h2
    cases y with
    | nil => simp [Op.bytesLess] at h1
    | cons b y =>
      cases z with
      | nil => simp [Op.bytesLess] at h2
      | cons c z =>
        unfold Op.bytesLess at h1 h2 ⊢
        simp only [Bool.or_eq_true, Bool.and_eq_true, decide_eq_true_eq, beq_iff_eq] at h1 h2 ⊢
        rcases h1 with h1 | ⟨rfl, h1⟩
        · rcases h2 with h2 | ⟨rfl, h2⟩
          · exact Or.inl (UInt8.lt_trans h1 h2)
          · exact Or.inl h1
        · rcases h2 with h2 | ⟨rfl, h2⟩
          · exact Or.inl h2
          · exact Or.inr ⟨rfl, ih y z h1 h2⟩
theorem bl_tri (x : List UInt8) : ∀ y, Op.bytesLess x y = false → x ≠ y → Op.bytesLess y x = true := by
  induction x with
  | nil =>
    intro y h1 h2
    cases y with
    | nil => exact absurd rfl h2
    | cons b y => simp [Op.bytesLess] at h1
  | cons a x ih =>
    intro y h1 h2
    cases y with
    | nil => rfl
    | cons b y =>
      unfold Op.bytesLess at h1 ⊢
      simp only [Bool.or_eq_false_iff, Bool.and_eq_false_iff, decide_eq_false_iff_not, beq_eq_false_iff_ne, Bool.or_eq_true, Bool.and_eq_true, decide_eq_true_eq, beq_iff_eq] at h1 ⊢
      by_cases e : a = b
      · subst e
        refine Or.inr ⟨rfl, ih y ?_ (fun g => h2 (by rw [g]))⟩
        exact h1.2.resolve_left (fun g => g rfl)
      · refine Or.inl ?_
        rcases UInt8.lt_or_lt_of_ne e with g | g
        · exact absurd g h1.1
        · exact g
theorem cb_zero (x : List UInt8) : ∀ y, Lib.compareBytes x y = 0 ↔ x = y := by
  induction x with
  | nil => intro y; cases y <;> simp [Lib.compareBytes]
  | cons a x ih =>
    intro y
    cases y with
    | nil => simp [Lib.compareBytes]
    | cons b y =>
      unfold Lib.compareBytes
      by_cases h1 : a < b
      · have : a ≠ b := fun e => by subst e; exact UInt8.lt_irrefl _ h1
        simp [h1, this]
      · by_cases h2 : b < a
        · have : a ≠ b := fun e => by subst e; exact h1 h2
          simp [h1, h2, this]
        · have h3 : a = b := UInt8.le_antisymm (UInt8.not_lt.1 h2) (UInt8.not_lt.1 h1)
          subst h3
          simp [h1, ih y]
def smK (x y : S34) : Bool := decide (x.f0 = y.f0 ∧ x.f1.toList = y.f1.toList)
theorem befK_iff (x y : S34) : befK x y = true ↔ (x.f0 < y.f0 ∨ (x.f0 = y.f0 ∧ Op.bytesLess x.f1.toList y.f1.toList = true)) := by unfold befK; exact decide_eq_true_iff
theorem smK_iff (x y : S34) : smK x y = true ↔ (x.f0 = y.f0 ∧ x.f1.toList = y.f1.toList) := by unfold smK; exact decide_eq_true_iff
theorem bef_trans {x y z : S34} (h1 : befK x y = true) (h2 : befK y z = true) : befK x z = true := by
  rw [befK_iff] at *
  rcases h1 with h1 | ⟨e1, h1⟩
  · rcases h2 with h2 | ⟨e2, h2⟩
    · exact Or.inl (by omega)
    · exact Or.inl (by omega)
  · rcases h2 with h2 | ⟨e2, h2⟩
    · exact Or.inl (by omega)
    · exact Or.inr ⟨e1.trans e2, bl_trans _ _ _ h1 h2⟩
theorem bef_not_sm {x y : S34} (h : befK x y = true) : smK x y = false := by
  refine Bool.eq_false_iff.2 (fun g => ?_)
  rw [befK_iff] at h
  rw [smK_iff] at g
  rcases h with h | ⟨e, h⟩
  · omega
  · rw [g.2, bl_irr] at h
    cases h
theorem bef_tri {x y : S34} (h : befK x y = false) (h2 : smK x y = false) : befK y x = true := by
  rw [Bool.eq_false_iff, ne_eq, befK_iff] at h
  rw [Bool.eq_false_iff, ne_eq, smK_iff] at h2
  rw [befK_iff]
  by_cases e : x.f0 = y.f0
  · refine Or.inr ⟨e.symm, bl_tri _ _ ?_ (fun g => h2 ⟨e, g⟩)⟩
    exact Bool.eq_false_iff.2 (fun g => h (Or.inr ⟨e, g⟩))
  · refine Or.inl ?_
    have : ¬ x.f0 < y.f0 := fun g => h (Or.inl g)
    omega
theorem bef_smL {x y z : S34} (h : smK x y = true) : befK x z = befK y z := by
  rw [smK_iff] at h
  unfold befK
  rw [h.1, h.2]
theorem sm_symm {x y : S34} (h : smK x y = false) : smK y x = false := by
  rw [Bool.eq_false_iff, ne_eq, smK_iff] at h ⊢
  exact fun g => h ⟨g.1.symm, g.2.symm⟩
theorem krF_iff {l : List S34} (d : Nat) : ∀ i, krF l d i = true ↔ ∀ j, i ≤ j → j < i + d → keyOK (rd_T34 l (j : Int)) = true ∧ (j = 0 ∨ befK (rd_T34 l ((j - 1 : Nat) : Int)) (rd_T34 l (j : Int)) = true) := by
  induction d with
  | zero => intro i; exact ⟨fun _ j h1 h2 => by omega, fun _ => rfl⟩
  | succ d ih =>
    intro i
    rw [krF, Bool.and_eq_true, Bool.and_eq_true, Bool.or_eq_true, decide_eq_true_eq, ih (i + 1)]
    constructor
    · rintro ⟨h1, h2, h3⟩ j g1 g2
      by_cases e : j = i
      · subst e; exact ⟨h1, h2⟩
      · exact h3 j (by omega) (by omega)
    · intro h
      exact ⟨(h i (by omega) (by omega)).1, (h i (by omega) (by omega)).2, fun j g1 g2 => h j (by omega) (by omega)⟩
theorem keysOK_iff (l : List S34) : keysOK l = true ↔ l.length ≤ 60 ∧ (∀ x ∈ l, keyOK x = true) ∧ l.Pairwise (fun a b => befK a b = true) := by
  unfold keysOK
  rw [Bool.and_eq_true, decide_eq_true_eq, krF_iff]
  refine and_congr_right (fun h60 => ?_)
  constructor
  · intro h
    refine ⟨fun x hx => ?_, ?_⟩
    · obtain ⟨i, hi, rfl⟩ := List.getElem_of_mem hx
      have := (h i (by omega) (by omega)).1
      rwa [rdKeyB hi] at this
    · rw [List.pairwise_iff_getElem]
      intro i j hi hj hij
      have step : ∀ d, ∀ (h2 : i + d + 1 < l.length), befK l[i] l[i + d + 1] = true := by
        intro d
        induction d with
        | zero =>
          intro h2
          have := (h (i + 1) (by omega) (by omega)).2.resolve_left (by omega)
          rw [show i + 1 - 1 = i by omega, rdKeyB hi, rdKeyB h2] at this
          exact this
        | succ d ih =>
          intro h2
          have := (h (i + (d + 1) + 1) (by omega) (by omega)).2.resolve_left (by omega)
          rw [show i + (d + 1) + 1 - 1 = i + d + 1 by omega, rdKeyB (by omega), rdKeyB h2] at this
          exact bef_trans (ih (by omega)) this
      have := step (j - i - 1) (by omega)
      have e : i + (j - i - 1) + 1 = j := by omega
      simp only [e] at this
      exact this
  · rintro ⟨h1, h2⟩ j _ hj
    have hj : j < l.length := by omega
    rw [rdKeyB hj]
    refine ⟨h1 _ (List.getElem_mem hj), ?_⟩
    by_cases e : j = 0
    · exact Or.inl e
    · rw [List.pairwise_iff_getElem] at h2
      rw [rdKeyB (show j - 1 < l.length by omega)]
      exact Or.inr (h2 (j - 1) j (by omega) hj (by omega))
theorem impl_compareKeys.eq2 (x y : S34) {k : Nat} (hk : 3 < k) : ∃ c, impl_compareKeys.f k x.f0 x.f1 x.f2 y.f0 y.f1 y.f2 = some c ∧ (c < 0 ↔ befK x y = true) ∧ (c = 0 ↔ smK x y = true) := by
  obtain ⟨c, hc, h⟩ := impl_compareKeys.eq x y hk
  refine ⟨c, hc, ⟨fun g => ?_, fun g => ?_⟩, ?_⟩
  · cases e : befK x y
    · have := h.2 e; omega
    · rfl
  · by_cases e : c < 0
    · exact e
    · have := h.1 (by omega)
      rw [g] at this
      cases this
  · unfold impl_compareKeys.f strings_Compare.f bytealg_CompareString.f cmp_Compare_int64.f cmp_isNaN_int64.f at hc
    simp only [Option.bind_some, bne_self_eq_false, Bool.false_eq_true, if_false] at hc
    have hz := cb_zero x.f1.data.toList y.f1.data.toList
    rw [smK_iff, Lib.toList_data, Lib.toList_data]
    by_cases h1 : x.f0 < y.f0
    · rw [if_pos h1] at hc
      simp only [Option.bind_some] at hc
      rw [cmp_Or_int.eq _ _ hk, if_neg (by decide)] at hc
      obtain rfl := Option.some.inj hc
      exact ⟨fun e => absurd e (by decide), fun e => by omega⟩
    · rw [if_neg h1] at hc
      by_cases h2 : x.f0 > y.f0
      · rw [if_pos h2] at hc
        simp only [Option.bind_some] at hc
        rw [cmp_Or_int.eq _ _ hk, if_neg (by decide)] at hc
        obtain rfl := Option.some.inj hc
        exact ⟨fun e => absurd e (by decide), fun e => by omega⟩
      · rw [if_neg h2] at hc
        simp only [Option.bind_some] at hc
        rw [cmp_Or_int.eq _ _ hk, if_pos rfl] at hc
        obtain rfl := Option.some.inj hc
        have e : x.f0 = y.f0 := by omega
        exact ⟨fun g => ⟨e, hz.1 g⟩, fun g => hz.2 g.2⟩
theorem slices_Clone_simpl_Key_impl_Key.eq {l : List S34} (h : l.length ≤ 2000000) : slices_Clone_simpl_Key_impl_Key.f l = some l := by
  unfold slices_Clone_simpl_Key_impl_Key.f
  simp only [Option.bind_some, List.length_nil, List.nil_append]
  rw [if_pos (by omega)]
def nsK (k x : S34) : Bool := !smK x k
def kbO (l : List S34) (k : S34) : List S34 := l.takeWhile (fun x => befK x k) ++ k :: (l.dropWhile (fun x => befK x k)).filter (nsK k)
theorem split_ok {l : List S34} (h : keysOK l = true) (k : S34) : ∃ A B, l = A ++ B ∧ l.takeWhile (fun x => befK x k) = A ∧ l.dropWhile (fun x => befK x k) = B ∧ (∀ a ∈ A, befK a k = true) ∧ (∀ b ∈ B, befK b k = false) := by
  refine ⟨l.takeWhile (fun x => befK x k), l.dropWhile (fun x => befK x k), (List.takeWhile_append_dropWhile).symm, rfl, rfl, fun a ha => ?_, fun b hb => ?_⟩
  · exact List.all_eq_true.1 (List.all_takeWhile (p := fun x => befK x k) (l := l)) a ha
  · obtain ⟨_, _, hp⟩ := (keysOK_iff l).1 h
    rw [← List.takeWhile_append_dropWhile (p := fun x => befK x k) (l := l)] at hp
    have hp := (List.pairwise_append.1 hp).2.1
    have hh : ∀ x, (l.dropWhile (fun x => befK x k)).head? = some x → befK x k = false := by
      intro x hx
      have := List.head?_dropWhile_not (p := fun x => befK x k) l
      rw [hx] at this
      simpa using this
    generalize l.dropWhile (fun x => befK x k) = B at hb hp hh
    cases B with
    | nil => exact absurd hb List.not_mem_nil
    | cons c B =>
      have hc := hh c rfl
      rcases List.mem_cons.1 hb with rfl | hb
      · exact hc
      · refine Bool.eq_false_iff.2 (fun g => ?_)
        have := bef_trans ((List.pairwise_cons.1 hp).1 b hb) g
        rw [hc] at this
        cases this
theorem tail_ns {b k : S34} {B : List S34} (hp : (b :: B).Pairwise (fun a b => befK a b = true)) (hB : ∀ x ∈ b :: B, befK x k = false) : B.filter (nsK k) = B ∧ ∀ x ∈ B, befK k x = true := by
  have h : ∀ x ∈ B, befK k x = true := by
    intro x hx
    have hbx := (List.pairwise_cons.1 hp).1 x hx
    cases e : smK b k
    · exact bef_trans (bef_tri (hB b (List.mem_cons_self ..)) e) hbx
    · rw [← bef_smL e]; exact hbx
  refine ⟨List.filter_eq_self.2 (fun x hx => ?_), h⟩
  unfold nsK
  rw [sm_symm (bef_not_sm (h x hx))]
  rfl
theorem kbO_ok {l : List S34} (h : keysOK l = true) (k : S34) : keysOK (kbO l k) = true ↔ keyOK k = true ∧ (kbO l k).length ≤ 60 := by
  obtain ⟨A, B, hl, hA, hB, ha, hb⟩ := split_ok h k
  obtain ⟨h60, hk, hp⟩ := (keysOK_iff l).1 h
  unfold kbO
  rw [hA, hB, keysOK_iff]
  constructor
  · rintro ⟨h1, h2, _⟩
    exact ⟨h2 k (List.mem_append_right _ (List.mem_cons_self ..)), h1⟩
  · rintro ⟨h1, h2⟩
    rw [hl] at hk hp
    obtain ⟨p1, p2, p3⟩ := List.pairwise_append.1 hp
    refine ⟨h2, fun x hx => ?_, ?_⟩
    · rcases List.mem_append.1 hx with hx | hx
      · exact hk x (List.mem_append_left _ hx)
      · rcases List.mem_cons.1 hx with rfl | hx
        · exact h1
        · exact hk x (List.mem_append_right _ (List.mem_filter.1 hx).1)
    · refine List.pairwise_append.2 ⟨p1, List.pairwise_cons.2 ⟨fun x hx => ?_, p2.sublist List.filter_sublist⟩, fun a ha' x hx => ?_⟩
      · obtain ⟨hx, hn⟩ := List.mem_filter.1 hx
        refine bef_tri (hb x hx) ?_
        unfold nsK at hn
        simpa using hn
      · rcases List.mem_cons.1 hx with rfl | hx
        · exact ha a ha'
        · exact p3 a ha' x (List.mem_filter.1 hx).1
def kbV (l : List S34) (k : S34) : List S34 := if 400 < l.length then [] else if keysOK l = true ∧ keyOK k = true ∧ (kbO l k).length ≤ 60 then kbO l k else l
theorem kbV_len (l : List S34) (k : S34) : (kbV l k).length ≤ 400 := by
  unfold kbV
  by_cases h : 400 < l.length
  · rw [if_pos h]; exact Nat.zero_le _
  · rw [if_neg h]
    by_cases h2 : keysOK l = true ∧ keyOK k = true ∧ (kbO l k).length ≤ 60
    · rw [if_pos h2]; omega
    · rw [if_neg h2]; omega
theorem spec_KeyBind.ahead (l same : List S34) (x : S34) (A B : List S34) (hl : l = A ++ B) (hlen : l.length ≤ 1000) (ha : ∀ a ∈ A, befK a x = true) (d : Nat) : ∀ (k i : Nat), i + d = A.length → spec_KeyBind.l0 (k + 2 * d) l same (l.take i) false (i : Int) x.f0 x.f1 x.f2 = spec_KeyBind.l0 k l same A false (A.length : Int) x.f0 x.f1 x.f2 := by
  have hAl : A.length ≤ l.length := by rw [hl, List.length_append]; omega
  induction d with
  | zero =>
    intro k i hi
    obtain rfl : i = A.length := by omega
    have : l.take A.length = A := by rw [hl, List.take_left']; rfl
    rw [this]
    rfl
  | succ d ih =>
    intro k i hi
    have hlt : i < l.length := by omega
    have hAi : l[i] ∈ A := by
      have e : l[i] = A[i]'(by omega) := by
        simp only [hl]
        rw [List.getElem_append_left]
      rw [e]
      exact List.getElem_mem _
    have hb := ha _ hAi
    have hs := bef_not_sm hb
    rw [Bool.eq_false_iff, ne_eq, smK_iff] at hs
    rw [show k + 2 * (d + 1) = (k + 2 * d) + 1 + 1 by omega, spec_KeyBind.l0, if_pos (int_lt hlt), if_neg (by decide), if_pos (int_nn i), spec_l07Before.eq, rdKeyB hlt, hb]
    simp only [Option.bind_some, Bool.not_true]
    rw [spec_KeyBind.j1, if_neg (by decide), if_pos (int_nn i), if_pos (int_lt hlt), rdKeyB hlt, wrap_succ (by omega), if_pos (show (l.take i).length < 3518437208883 by rw [List.length_take]; omega)]
    have e : l.take i ++ [(⟨l[i].f0, l[i].f1, l[i].f2⟩ : S34)] = l.take (i + 1) := (List.take_succ_eq_append_getElem hlt).symm
    rw [e]
    have i1 := ih k (i + 1) (by omega)
    by_cases h1 : l[i].f0 = x.f0
    · rw [if_pos h1, if_neg (fun g => hs ⟨h1, g⟩)]
      exact i1
    · rw [if_neg h1]
      exact i1
theorem spec_KeyBind.behind (l same : List S34) (x : S34) (hlen : l.length ≤ 1000) (d : Nat) : ∀ (k i : Nat) (acc : List S34), i + d = l.length → acc.length ≤ 2 * i + 2 → spec_KeyBind.l0 (k + 2 * d + 1) l same acc true (i : Int) x.f0 x.f1 x.f2 = (spec_KeysRight.f k (acc ++ (l.drop i).filter (nsK x))).bind fun t => if t = true then some (acc ++ (l.drop i).filter (nsK x)) else some same := by
  induction d with
  | zero =>
    intro k i acc hi ha
    rw [List.drop_of_length_le (by omega), List.filter_nil, List.append_nil, spec_KeyBind.l0, if_neg (by omega), if_pos rfl]
  | succ d ih =>
    intro k i acc hi ha
    have hlt : i < l.length := by omega
    rw [show k + 2 * (d + 1) + 1 = (k + 2 * d + 1) + 1 + 1 by omega, spec_KeyBind.l0, if_pos (int_lt hlt), if_pos rfl, spec_KeyBind.j1, if_neg (by decide), if_pos (int_nn i), if_pos (int_lt hlt), rdKeyB hlt, wrap_succ (by omega), if_pos (show acc.length < 3518437208883 by omega), List.drop_eq_getElem_cons hlt, List.filter_cons]
    have i1 := ih k (i + 1) acc (by omega) (by omega)
    have i2 := ih k (i + 1) (acc ++ [l[i]]) (by omega) (by rw [List.length_append, List.length_singleton]; omega)
    rw [List.append_assoc, List.singleton_append] at i2
    have e : (⟨l[i].f0, l[i].f1, l[i].f2⟩ : S34) = l[i] := rfl
    rw [e]
    by_cases h1 : l[i].f0 = x.f0
    · rw [if_pos h1]
      by_cases h2 : l[i].f1.toList = x.f1.toList
      · rw [if_pos h2, if_neg (by unfold nsK; rw [(smK_iff _ _).2 ⟨h1, h2⟩]; decide)]
        exact i1
      · rw [if_neg h2, if_pos (by unfold nsK smK; rw [decide_eq_false (fun g => h2 g.2)]; rfl)]
        exact i2
    · rw [if_neg h1, if_pos (by unfold nsK smK; rw [decide_eq_false (fun g => h1 g.1)]; rfl)]
      exact i2
theorem spec_KeyBind.eq {l : List S34} (x : S34) (hl : l.length ≤ 1048576) (hL : ∀ y ∈ l, y.f2.size ≤ 1048576) (hx : x.f2.size ≤ 1048576) {k : Nat} (hk : 4000000 < k) : spec_KeyBind.f k l x.f0 x.f1 x.f2 = some (kbV l x) := by
  unfold spec_KeyBind.f kbV
  by_cases h1 : 400 < l.length
  · rw [if_pos (by omega), if_pos h1]
  rw [if_neg (by omega), if_neg h1]
  simp only [Option.bind_some, List.length_nil, List.nil_append]
  rw [if_pos (by omega), spec_KeysRight.eq hl hL (by omega)]
  simp only [Option.bind_some]
  by_cases h2 : keysOK l = true
  · rw [if_pos h2]
    obtain ⟨A, B, e, hA, hB, ha, hb⟩ := split_ok h2 x
    obtain ⟨h60, _, _⟩ := (keysOK_iff l).1 h2
    have hkb : kbO l x = A ++ x :: B.filter (nsK x) := by unfold kbO; rw [hA, hB]
    have hAB : A.length + B.length = l.length := by rw [e, List.length_append]
    have hdr : l.drop A.length = B := by rw [e, List.drop_left']; rfl
    have hol : (kbO l x).length ≤ 61 := by
      rw [hkb, List.length_append, List.length_cons]
      have := List.length_filter_le (nsK x) B
      omega
    have hoL : ∀ y ∈ kbO l x, y.f2.size ≤ 1048576 := by
      intro y hy
      rw [hkb] at hy
      rcases List.mem_append.1 hy with hy | hy
      · exact hL y (by rw [e]; exact List.mem_append_left _ hy)
      · rcases List.mem_cons.1 hy with rfl | hy
        · exact hx
        · exact hL y (by rw [e]; exact List.mem_append_right _ (List.mem_filter.1 hy).1)
    have hend : ∀ k', 3000000 < k' → ((spec_KeysRight.f k' (kbO l x)).bind fun t => if t = true then some (kbO l x) else some l) = some (if keysOK l = true ∧ keyOK x = true ∧ (kbO l x).length ≤ 60 then kbO l x else l) := by
      intro k' hk'
      rw [spec_KeysRight.eq (by omega) hoL hk', Option.bind_some]
      by_cases g : keysOK (kbO l x) = true
      · rw [if_pos g, if_pos ⟨h2, (kbO_ok h2 x).1 g⟩]
      · rw [if_neg g, if_neg (fun q => g ((kbO_ok h2 x).2 q.2))]
    obtain ⟨k1, rfl⟩ : ∃ k1, k = k1 + 2 * A.length := ⟨k - 2 * A.length, by omega⟩
    have a1 := spec_KeyBind.ahead l l x A B e (by omega) ha A.length k1 0 (by omega)
    refine Eq.trans a1 ?_
    cases hBc : B with
    | nil =>
      have hAl : A.length = l.length := by rw [hBc, List.length_nil] at hAB; omega
      obtain ⟨k2, rfl⟩ : ∃ k2, k1 = k2 + 1 := ⟨k1 - 1, by omega⟩
      rw [spec_KeyBind.l0, if_neg (by omega), if_neg (by decide), if_pos (show A.length < 3518437208883 by omega)]
      simp only [Option.bind_some]
      have := hend k2 (by omega)
      rw [hkb, hBc, List.filter_nil] at this
      rw [hkb, hBc, List.filter_nil]
      exact this
    | cons b B' =>
      have hlt : A.length < l.length := by rw [hBc, List.length_cons] at hAB; omega
      have hbe : l[A.length] = b := by
        have := List.drop_eq_getElem_cons hlt
        rw [hdr, hBc] at this
        exact (List.cons.inj this).1.symm
      have hdr2 : l.drop (A.length + 1) = B' := by
        have := List.drop_eq_getElem_cons hlt
        rw [hdr, hBc] at this
        exact (List.cons.inj this).2.symm
      have hbb : befK b x = false := hb b (by rw [hBc]; exact List.mem_cons_self ..)
      obtain ⟨k2, rfl⟩ : ∃ k2, k1 = k2 + 2 * (l.length - (A.length + 1)) + 1 + 1 + 1 := ⟨k1 - (2 * (l.length - (A.length + 1)) + 3), by omega⟩
      rw [spec_KeyBind.l0, if_pos (int_lt hlt), if_neg (by decide), if_pos (int_nn _), rdKeyB hlt, hbe, show spec_l07Before.f b.f0 b.f1 b.f2 x.f0 x.f1 x.f2 = _ from spec_l07Before.eq _ _, hbb]
      simp only [Option.bind_some, Bool.not_false]
      rw [spec_KeyBind.j1, if_pos rfl, if_pos (show A.length < 3518437208883 by omega)]
      simp only [Option.bind_some]
      rw [if_pos (int_nn _), if_pos (int_lt hlt), rdKeyB hlt, hbe, wrap_succ (by omega), if_pos (show (A ++ [(⟨x.f0, x.f1, x.f2⟩ : S34)]).length < 3518437208883 by rw [List.length_append, List.length_singleton]; omega)]
      have ex : (⟨x.f0, x.f1, x.f2⟩ : S34) = x := rfl
      have eb : (⟨b.f0, b.f1, b.f2⟩ : S34) = b := rfl
      rw [ex, eb]
      have b1 := spec_KeyBind.behind l l x (by omega) (l.length - (A.length + 1)) k2 (A.length + 1) (A ++ [x]) (by omega) (by rw [List.length_append, List.length_singleton]; omega)
      have b2 := spec_KeyBind.behind l l x (by omega) (l.length - (A.length + 1)) k2 (A.length + 1) (A ++ [x] ++ [b]) (by omega) (by simp only [List.length_append, List.length_singleton]; omega)
      have hfin := hend k2 (by omega)
      rw [hkb, hBc, List.filter_cons] at hfin
      rw [hkb, hBc, List.filter_cons]
      rw [hdr2] at b1 b2
      by_cases g : smK b x = true
      · have hn : ¬ nsK x b = true := by unfold nsK; rw [g]; decide
        rw [if_neg hn] at hfin ⊢
        obtain ⟨g1, g2⟩ := (smK_iff _ _).1 g
        rw [if_pos g1, if_pos g2, b1, List.append_assoc]
        exact hfin
      · have g' := Bool.eq_false_iff.2 g
        have hn : nsK x b = true := by unfold nsK; rw [g']; rfl
        rw [if_pos hn] at hfin ⊢
        rw [smK_iff] at g
        have hgo : (spec_KeyBind.l0 (k2 + 2 * (l.length - (A.length + 1)) + 1) l l (A ++ [x] ++ [b]) true ((A.length + 1 : Nat) : Int) x.f0 x.f1 x.f2) = some (if keysOK l = true ∧ keyOK x = true ∧ (A ++ x :: b :: List.filter (nsK x) B').length ≤ 60 then A ++ x :: b :: List.filter (nsK x) B' else l) := by
          rw [b2, List.append_assoc, List.append_assoc]
          exact hfin
        by_cases g1 : b.f0 = x.f0
        · rw [if_pos g1, if_neg (fun q => g ⟨g1, q⟩)]
          exact hgo
        · rw [if_neg g1]
          exact hgo
  · rw [if_neg h2, if_neg (fun q => h2 q.1)]
theorem bs_half {i j : Nat} (h : i < j) (hj : j ≤ 1000) : wrap64 ((IntKind.u64.wrap (wrap64 ((i : Int) + (j : Int)))) / 2) = (((i + j) / 2 : Nat) : Int) := by
  rw [wrap_in (x := (i : Int) + (j : Int)) (by omega) (by omega), show IntKind.u64.wrap ((i : Int) + (j : Int)) = (i : Int) + (j : Int) by rw [Go.IntKind.wrap_u64]; omega, wrap_in (by omega) (by omega)]
  omega
def hdSm : List S34 → S34 → Bool
  | [], _ => false
  | b :: _, x => smK b x
theorem slices_BinarySearchFunc_K.loop (l : List S34) (x : S34) (A B : List S34) (hl : l = A ++ B) (hlen : l.length ≤ 1000) (ha : ∀ a ∈ A, befK a x = true) (hb : ∀ b ∈ B, befK b x = false) (d : Nat) : ∀ (k i j : Nat), j - i ≤ d → i ≤ A.length → A.length ≤ j → j ≤ l.length → d + 10 < k → slices_BinarySearchFunc_simpl_Key_impl_Key_impl_Key.l0 k l (l.length : Int) (i : Int) (j : Int) x.f0 x.f1 x.f2 = some ((A.length : Int), hdSm B x) := by
  have hAB : A.length + B.length = l.length := by rw [hl, List.length_append]
  have hat : ∀ h, (hh : h < l.length) → (befK l[h] x = true ↔ h < A.length) := by
    intro h hh
    by_cases g : h < A.length
    · have e : l[h] = A[h] := by simp only [hl]; rw [List.getElem_append_left]
      exact ⟨fun _ => g, fun _ => by rw [e]; exact ha _ (List.getElem_mem _)⟩
    · have e : l[h] = B[h - A.length]'(by omega) := by simp only [hl]; rw [List.getElem_append_right (by omega)]
      refine ⟨fun q => ?_, fun q => absurd q g⟩
      rw [e, hb _ (List.getElem_mem _)] at q
      cases q
  have hfin : ∀ (k : Nat), 9 < k → slices_BinarySearchFunc_simpl_Key_impl_Key_impl_Key.l0 k l (l.length : Int) (A.length : Int) (A.length : Int) x.f0 x.f1 x.f2 = some ((A.length : Int), hdSm B x) := by
    intro k hk
    obtain ⟨k, rfl⟩ : ∃ m, k = m + 1 := ⟨k - 1, by omega⟩
    rw [slices_BinarySearchFunc_simpl_Key_impl_Key_impl_Key.l0, if_neg (by omega)]
    cases hB : B with
    | nil =>
      rw [hB, List.length_nil] at hAB
      rw [if_neg (by omega)]
      rfl
    | cons b B' =>
      rw [hB, List.length_cons] at hAB
      have hlt : A.length < l.length := by omega
      have e : l[A.length] = b := by simp only [hl, hB]; rw [List.getElem_append_right (Nat.le_refl _)]; simp
      rw [if_pos (int_lt hlt), if_pos (int_nn _), if_pos (int_lt hlt), rdKeyB hlt, e]
      obtain ⟨c, h1, _, h3⟩ := impl_compareKeys.eq2 b x (k := k) (by omega)
      rw [h1]
      simp only [Option.bind_some]
      refine congrArg some (Prod.ext rfl ?_)
      show (c == 0) = smK b x
      rw [Bool.eq_iff_iff, beq_iff_eq]
      exact h3
  induction d with
  | zero =>
    intro k i j h1 h2 h3 h4 hk
    obtain rfl : i = A.length := by omega
    obtain rfl : j = A.length := by omega
    exact hfin k (by omega)
  | succ d ih =>
    intro k i j h1 h2 h3 h4 hk
    by_cases hij : i < j
    · obtain ⟨k, rfl⟩ : ∃ m, k = m + 1 := ⟨k - 1, by omega⟩
      have hh : (i + j) / 2 < l.length := by omega
      rw [slices_BinarySearchFunc_simpl_Key_impl_Key_impl_Key.l0, if_pos (int_lt hij), bs_half hij (by omega), if_pos (int_nn _), if_pos (int_lt hh), rdKeyB hh, wrap_succ (by omega)]
      obtain ⟨c, g1, g2, _⟩ := impl_compareKeys.eq2 l[(i + j) / 2] x (k := k) (by omega)
      rw [g1]
      simp only [Option.bind_some]
      have g3 := g2.trans (hat _ hh)
      by_cases g : c < 0
      · rw [if_pos g]
        have := g3.1 g
        exact ih k ((i + j) / 2 + 1) j (by omega) (by omega) h3 h4 (by omega)
      · rw [if_neg g]
        have : ¬ (i + j) / 2 < A.length := fun q => g (g3.2 q)
        exact ih k i ((i + j) / 2) (by omega) h2 (by omega) (by omega) (by omega)
    · obtain rfl : i = A.length := by omega
      obtain rfl : j = A.length := by omega
      exact hfin k (by omega)
theorem impl_KeyBind.eq {l : List S34} (x : S34) (hl : l.length ≤ 1048576) (hL : ∀ y ∈ l, y.f2.size ≤ 1048576) (hx : x.f2.size ≤ 1048576) {k : Nat} (hk : 4000000 < k) : impl_KeyBind.f k l x.f0 x.f1 x.f2 = some (kbV l x) := by
  unfold impl_KeyBind.f kbV impl_isMany.f
  simp only [Option.bind_some, decide_eq_true_eq]
  by_cases h1 : 400 < l.length
  · rw [if_pos (by omega), if_pos h1]
  rw [if_neg (by omega), if_neg h1, slices_Clone_simpl_Key_impl_Key.eq (by omega), impl_KeysRight.eq hl hL (by omega)]
  simp only [Option.bind_some]
  by_cases h2 : keysOK l = true
  · rw [if_pos h2, impl_keyRight.eq x hx (by omega)]
    simp only [Option.bind_some]
    by_cases h3 : keyOK x = true
    · obtain ⟨A, B, e, hA, hB, ha, hb⟩ := split_ok h2 x
      obtain ⟨h60, _, hp⟩ := (keysOK_iff l).1 h2
      have hkb : kbO l x = A ++ x :: B.filter (nsK x) := by unfold kbO; rw [hA, hB]
      have hAB : A.length + B.length = l.length := by rw [e, List.length_append]
      have hbs := slices_BinarySearchFunc_K.loop l x A B e (by omega) ha hb l.length k 0 l.length (by omega) (by omega) (by omega) (by omega) (by omega)
      rw [if_pos h3, show slices_BinarySearchFunc_simpl_Key_impl_Key_impl_Key.f k l x.f0 x.f1 x.f2 = _ from hbs]
      simp only [Option.bind_some]
      rw [if_pos (int_nn _), Int.toNat_natCast]
      have ex : (⟨x.f0, x.f1, x.f2⟩ : S34) = x := rfl
      rw [ex]
      rw [e] at hp
      have hp2 := (List.pairwise_append.1 hp).2.1
      have tk : l.take A.length = A := by rw [e, List.take_left']; rfl
      have dr : l.drop A.length = B := by rw [e, List.drop_left']; rfl
      cases hBc : B with
      | nil =>
        rw [hBc, List.length_nil] at hAB
        rw [if_neg (show ¬ hdSm [] x = true from Bool.false_ne_true), tk, dr, hBc]
        rw [hBc, List.filter_nil] at hkb
        have hol : (kbO l x).length = l.length + 1 := by rw [hkb, List.length_append, List.length_singleton]; omega
        by_cases g : l.length < 60
        · rw [if_pos g, if_pos (show A.length ≤ l.length by omega), if_pos (⟨h2, h3, by omega⟩ : keysOK l = true ∧ keyOK x = true ∧ (kbO l x).length ≤ 60), hkb]
        · rw [if_neg g, if_neg (fun q : keysOK l = true ∧ keyOK x = true ∧ (kbO l x).length ≤ 60 => by omega)]
      | cons b B' =>
        rw [hBc] at hp2 hb
        rw [hBc, List.length_cons] at hAB
        obtain ⟨t1, t2⟩ := tail_ns hp2 hb
        rw [hBc, List.filter_cons, t1] at hkb
        (try dsimp only)
        by_cases g : smK b x = true
        · rw [if_neg (by unfold nsK; rw [g]; decide)] at hkb
          have hol : (kbO l x).length = l.length := by rw [hkb, List.length_append, List.length_cons]; omega
          rw [if_pos (show hdSm (b :: B') x = true from g), if_pos (show A.length < l.length by omega), if_pos (⟨h2, h3, by omega⟩ : keysOK l = true ∧ keyOK x = true ∧ (kbO l x).length ≤ 60), hkb]
          refine congrArg some ?_
          rw [e, hBc, List.set_append_right _ _ (Nat.le_refl _), Nat.sub_self, List.set_cons_zero]
        · rw [if_pos (by unfold nsK; rw [Bool.eq_false_iff.2 g]; rfl)] at hkb
          have hol : (kbO l x).length = l.length + 1 := by rw [hkb, List.length_append, List.length_cons, List.length_cons]; omega
          rw [if_neg (show ¬ hdSm (b :: B') x = true from g)]
          by_cases g2 : l.length < 60
          · rw [if_pos g2, if_pos (show A.length ≤ l.length by omega), if_pos (⟨h2, h3, by omega⟩ : keysOK l = true ∧ keyOK x = true ∧ (kbO l x).length ≤ 60), tk, dr, hkb, hBc]
          · rw [if_neg g2, if_neg (fun q : keysOK l = true ∧ keyOK x = true ∧ (kbO l x).length ≤ 60 => by omega)]
    · rw [if_neg h3, if_neg (fun q => h3 q.2.1)]
  · rw [if_neg h2, if_neg (fun q => h2 q.1)]
def mtF : Nat → Int → ByteArray → ByteArray
  | 0, _, s => (⟨#[109]⟩ : ByteArray) ++ s
  | d + 1, n, s => if n > 0 then mtF d (Int.tdiv n 10) (strOfNums [(wrap64 (48 + (Int.tmod n 10))) % 256] ++ s) else (⟨#[109]⟩ : ByteArray) ++ s
def mtV (n : Int) : ByteArray := if n ≤ 0 then (⟨#[109, 48]⟩ : ByteArray) else mtF 12 n (⟨#[]⟩ : ByteArray)
theorem strOfNums_one (x : Int) : (strOfNums [x]).size = 1 := rfl
theorem laws_markText.loop (d : Nat) : ∀ (n k : Nat) (s : ByteArray), n < 10 ^ d → n ≤ 1000000000000 → d < k → s.size + d ≤ 1000000 → laws_markText.l0 k (n : Int) s = some (mtF d (n : Int) s) := by
  induction d with
  | zero =>
    intro n k s hn hn2 hk hs
    obtain ⟨k, rfl⟩ : ∃ m, k = m + 1 := ⟨k - 1, by omega⟩
    rw [laws_markText.l0, if_neg (by have : n < 1 := hn; omega), if_pos (by omega), mtF]
  | succ d ih =>
    intro n k s hn hn2 hk hs
    obtain ⟨k, rfl⟩ : ∃ m, k = m + 1 := ⟨k - 1, by omega⟩
    rw [laws_markText.l0, mtF]
    by_cases h : (n : Int) > 0
    · have e : Int.tdiv (n : Int) 10 = ((n / 10 : Nat) : Int) := rfl
      have hb : n / 10 < 10 ^ d := by
        rw [Nat.pow_succ] at hn
        exact Nat.div_lt_of_lt_mul (by rw [Nat.mul_comm]; exact hn)
      rw [if_pos h, if_pos h]
      simp only [Option.bind_some]
      rw [strOfNums_one, if_pos (by omega), e, wrap_in (x := ((n / 10 : Nat) : Int)) (by omega) (by omega), ih (n / 10) k _ hb (by omega) (by omega) ?_]
      · rw [ByteArray.size_append, strOfNums_one]
        omega
    · rw [if_neg h, if_neg h, if_pos (by omega)]
theorem laws_markText.eq {n : Int} {k : Nat} (h0 : 0 ≤ n) (h1 : n ≤ 100000000000) (hk : 20 < k) : laws_markText.f k n = some (mtV n) := by
  unfold laws_markText.f mtV
  by_cases h : n ≤ 0
  · rw [if_pos h, if_pos h]
  · rw [if_neg h, if_neg h]
    obtain ⟨m, rfl⟩ : ∃ m : Nat, n = (m : Int) := ⟨n.toNat, by omega⟩
    exact laws_markText.loop 12 m k _ (by have : (10 : Nat) ^ 12 = 1000000000000 := by decide
                                          omega) (by omega) (by omega) (by show 0 + 12 ≤ _; omega)
/-- the marks of keys -/
def mkKy : Nat → Int → List S34
  | 0, _ => []
  | n + 1, a => ⟨a, mtV (a + 1), mtV (a + 1 + 1)⟩ :: mkKy n (a + 3)
theorem mkKy_len (n : Nat) : ∀ a, (mkKy n a).length = n := by
  induction n with
  | zero => intro a; rfl
  | succ n ih => intro a; rw [mkKy, List.length_cons, ih]
theorem laws_markKeyS.loop2 (d : Nat) : ∀ (x : List S34) (k i : Nat) (a : Int), x.length ≤ 1048576 → i ≤ x.length → x.length - i = d → 1 ≤ a → a + 3 * (d : Int) ≤ 10000000 → d + 30 < k → laws_markKeyS.l0 k x a (i : Int) = some (a + 3 * (d : Int), x.take i ++ mkKy d a) := by
  induction d with
  | zero =>
    intro x k i a hx hi hd h1 h2 hk
    obtain ⟨k, rfl⟩ : ∃ m, k = m + 1 := ⟨k - 1, by omega⟩
    rw [laws_markKeyS.l0, if_neg (by omega), mkKy, List.append_nil, List.take_of_length_le (by omega)]
    refine congrArg some (congrArg (fun z => (z, x)) ?_)
    omega
  | succ d ih =>
    intro x k i a hx hi hd h1 h2 hk
    obtain ⟨k, rfl⟩ : ∃ m, k = m + 1 := ⟨k - 1, by omega⟩
    have hlt : i < x.length := by omega
    rw [laws_markKeyS.l0, if_pos (int_lt hlt), if_pos (int_nn i), wrap_in (x := a + 1) (by omega) (by omega), wrap_in (x := a + 1 + 1) (by omega) (by omega), wrap_in (x := a + 1 + 1 + 1) (by omega) (by omega), laws_markText.eq (n := a + 1) (by omega) (by omega) (by omega), laws_markText.eq (n := a + 1 + 1) (by omega) (by omega) (by omega), wrap_succ (by omega), Int.toNat_natCast]
    simp only [Option.bind_some]
    have hl1 : i < (x.set i ⟨a, (rd_T34 x (i : Int)).f1, (rd_T34 x (i : Int)).f2⟩).length := by rw [List.length_set]; exact hlt
    rw [rdKeyB hl1, List.getElem_set_self]
    dsimp only
    simp only [List.set_set]
    have hl2 : i < (x.set i (⟨a, mtV (a + 1), (rd_T34 x (i : Int)).f2⟩ : S34)).length := by rw [List.length_set]; exact hlt
    rw [rdKeyB hl2, List.getElem_set_self]
    dsimp only
    have hs : (x.set i (⟨a, mtV (a + 1), mtV (a + 1 + 1)⟩ : S34)).length = x.length := List.length_set
    have := ih (x.set i ⟨a, mtV (a + 1), mtV (a + 1 + 1)⟩) k (i + 1) (a + 1 + 1 + 1) (by omega) (by omega) (by omega) (by omega) (by omega) (by omega)
    refine (show _ = _ from this).trans ?_
    have ht : (x.set i (⟨a, mtV (a + 1), mtV (a + 1 + 1)⟩ : S34)).take (i + 1) = x.take i ++ [⟨a, mtV (a + 1), mtV (a + 1 + 1)⟩] := by
      rw [List.take_succ_eq_append_getElem (by omega), List.getElem_set_self, List.take_set_of_le (Nat.le_refl i)]
    rw [ht, mkKy, List.append_assoc, show a + 1 + 1 + 1 = a + 3 by omega]
    refine congrArg some ?_
    rw [show a + 3 + 3 * (d : Int) = a + 3 * ((d + 1 : Nat) : Int) by omega]
    rfl
theorem laws_markKeyS.eq {x : List S34} {k : Nat} (hx : x.length ≤ 1048576) (hk : 2000000 < k) : laws_markKeyS.f k x 1 = some (1 + 3 * (x.length : Int), mkKy x.length 1) := by
  unfold laws_markKeyS.f
  exact laws_markKeyS.loop2 x.length x k 0 1 hx (by omega) (by omega) (by omega) (by omega) (by omega)
theorem laws_heldKeyS.loop (d : Nat) : ∀ (y : List S34) (k i : Nat) (a : Int), y.length ≤ 1048576 → i ≤ y.length → y.drop i = mkKy d a → 1 ≤ a → a + 3 * (d : Int) ≤ 10000000 → d + 30 < k → laws_heldKeyS.l0 k y a (i : Int) = some (a + 3 * (d : Int)) := by
  induction d with
  | zero =>
    intro y k i a hy hi hd h1 h2 hk
    obtain ⟨k, rfl⟩ : ∃ m, k = m + 1 := ⟨k - 1, by omega⟩
    have : y.length ≤ i := List.drop_eq_nil_iff.1 hd
    rw [laws_heldKeyS.l0, if_neg (by omega)]
    refine congrArg some ?_
    omega
  | succ d ih =>
    intro y k i a hy hi hd h1 h2 hk
    obtain ⟨k, rfl⟩ : ∃ m, k = m + 1 := ⟨k - 1, by omega⟩
    have hlt : i < y.length := by
      rcases Nat.lt_or_ge i y.length with e | e
      · exact e
      · rw [List.drop_eq_nil_of_le e] at hd
        cases hd
    rw [List.drop_eq_getElem_cons hlt, mkKy] at hd
    obtain ⟨e1, e2⟩ := List.cons.inj hd
    rw [laws_heldKeyS.l0, if_pos (int_lt hlt), if_pos (int_nn i), rdKeyB hlt, e1]
    simp only [if_true]
    rw [wrap_in (x := a + 1) (by omega) (by omega), laws_markText.eq (n := a + 1) (by omega) (by omega) (by omega)]
    simp only [Option.bind_some, if_true]
    rw [wrap_in (x := a + 1 + 1) (by omega) (by omega), laws_markText.eq (n := a + 1 + 1) (by omega) (by omega) (by omega), wrap_in (x := a + 1 + 1 + 1) (by omega) (by omega), wrap_succ (by omega)]
    simp only [Option.bind_some, if_true]
    rw [show a + 1 + 1 + 1 = a + 3 by omega, ih y k (i + 1) (a + 3) hy (by omega) e2 (by omega) (by omega) (by omega)]
    refine congrArg some ?_
    omega
theorem laws_heldKeyS.eq {n : Nat} {k : Nat} (hx : n ≤ 1048576) (hk : 2000000 < k) : laws_heldKeyS.f k (mkKy n 1) 1 = some (1 + 3 * (n : Int)) := by
  unfold laws_heldKeyS.f
  exact laws_heldKeyS.loop n (mkKy n 1) k 0 1 (by rw [mkKy_len]; exact hx) (by omega) rfl (by omega) (by omega) (by omega)

theorem FnExactKeyBind : laws_FnExactKeyBind.Pure := by
  intro l m s n ⟨hl, hL⟩ ⟨_, hs, hn⟩
  have hl := maxLen_le hl
  have hs := maxLen_le hs
  have hn := maxLen_le hn
  have hL2 : ∀ x ∈ l, x.f1.size ≤ 9223372036854775807 ∧ x.f2.size ≤ 9223372036854775807 := fun x hx => ⟨maxLen_le (hL x hx).2.1, maxLen_le (hL x hx).2.2⟩
  refine ⟨8000006, ?_⟩
  unfold laws_FnExactKeyBind.f
  rw [laws_szKeyS.eq (by omega) (by omega) hl hL2 (by omega)]
  simp only [Option.bind_some]
  by_cases h : (1048576 : Int) < ((l.length + szKeys l : Nat) : Int)
  · rw [if_pos h, if_pos (by omega)]
  rw [if_neg h, if_neg (by omega), laws_szKey.eq (by omega) (by omega) hs hn]
  simp only [Option.bind_some]
  by_cases h2 : (1048576 : Int) - ((l.length + szKeys l : Nat) : Int) < ((s.size + n.size : Nat) : Int)
  · rw [if_pos h2, if_pos (by omega)]
  · have o1 : (l.map cvKey).length ≤ 1048576 := by rw [List.length_map]; omega
    have o2 : ∀ x ∈ l.map cvKey, x.f2.size ≤ 1048576 := by
      intro x hx
      obtain ⟨y, hy, rfl⟩ := List.mem_map.1 hx
      have := szKeys_mem hy
      show y.f2.size ≤ _
      omega
    have hv := kbV_len (l.map cvKey) ⟨m, s, n⟩
    have sp := fun (k : Nat) (hk : 4000000 < k) => spec_KeyBind.eq (⟨m, s, n⟩ : S34) o1 o2 (by show n.size ≤ _; omega) hk
    have im := fun (k : Nat) (hk : 4000000 < k) => impl_KeyBind.eq (⟨m, s, n⟩ : S34) o1 o2 (by show n.size ≤ _; omega) hk
    have tk : laws_toKey.f m s n = some (m, s, n) := rfl
    (try dsimp only at sp im)
    rw [if_neg h2, if_neg (by omega), laws_toKeyS.eq (by omega) (by omega), tk]
    simp only [Option.bind_some]
    rw [sp _ (by omega), Option.bind_some, im _ (by omega), Option.bind_some, laws_eqKeyS.refl (by omega) (by omega), Option.bind_some, if_pos rfl]
    rw [show (8000006 : Nat) = 8000005 + 1 from rfl, laws_FnExactKeyBind.j0, laws_toKeyS.eq (by omega) (by omega), Option.bind_some, laws_eqKeyS.refl o1 (by omega), Option.bind_some, if_pos rfl]
    rw [show (8000005 : Nat) = 8000004 + 1 from rfl, laws_FnExactKeyBind.j1, laws_markKeyS.eq o1 (by omega), Option.bind_some, if_neg (by show ¬ (1 + 3 * ((l.map cvKey).length : Int) < 0); omega), laws_eqKeyS.refl (by omega) (by omega), Option.bind_some, Bool.not_true]
    rw [show (8000004 : Nat) = 8000003 + 1 from rfl, laws_FnExactKeyBind.j2, if_neg (by decide)]
    rw [show (8000003 : Nat) = 8000002 + 1 from rfl, laws_FnExactKeyBind.j3, laws_markKeyS.eq (by omega) (by omega), Option.bind_some]
    (try dsimp only)
    rw [laws_heldKeyS.eq (by omega) (by omega), Option.bind_some, if_neg (by omega)]
    rw [show (8000002 : Nat) = 8000001 + 1 from rfl, laws_FnExactKeyBind.j4, if_pos rfl, laws_toKeyS.eq (by omega) (by omega), Option.bind_some, tk, Option.bind_some]
    (try dsimp only)
    rw [im _ (by omega), Option.bind_some, laws_eqKeyS.refl (by omega) (by omega), Option.bind_some, if_pos rfl]
    rw [show (8000001 : Nat) = 8000000 + 1 from rfl, laws_FnExactKeyBind.j5, laws_heldKeyS.eq (by omega) (by omega), Option.bind_some, if_neg (by omega), if_pos rfl]

end Go.Proofs.Ytpllahncpjpfmaa.Pure
