/- Proved: the program's KeyDrop returns what the reference's returns, for every list of keys of size at most 2^20 in all, every map and keys of at most 2^20 bytes, leaves the list as it was, and its answer is memory of its own. -/
import Derived.Test.YtpllahncpjpfmaaPFnExactKeyDropx9
namespace Go.Proofs.Ytpllahncpjpfmaa.Pure
open Go.RowKit Go.Proofs.Ytpllahncpjpfmaa.PFnExactKeyDrop Go.Proofs.YtpllahncpjpfmaaW.PrintWords Go.Proofs.YtpllahncpjpfmaaW.PrintLast Go.Proofs.YtpllahncpjpfmaaW.PrintMore
set_option linter.unusedVariables false
set_option linter.unusedSimpArgs false

/-! ### plain words -/
theorem wrap_in {x : Int} (h0 : -9223372036854775808 ≤ x) (h1 : x ≤ 9223372036854775807) : wrap64 x = x := by unfold wrap64; omega
theorem wrap_succ {i : Nat} (h : i < 4611686018427387904) : wrap64 ((i : Int) + 1) = ((i + 1 : Nat) : Int) := by unfold wrap64; omega
theorem int_lt {i n : Nat} (h : i < n) : (i : Int) < (n : Int) := by omega
theorem int_nn (i : Nat) : (0 : Int) ≤ (i : Int) := by omega
theorem maxLen_le {n : Nat} (h : n ≤ maxLen) : n ≤ 9223372036854775807 := by unfold maxLen at h; exact h
def cvKey (b : S31) : S34 := ⟨b.f0, b.f1, b.f2⟩
def szKeys : List (S31) → Nat
  | [] => 0
  | x :: l => x.f1.size + x.f2.size + szKeys l
theorem szKeys_nil : szKeys [] = 0 := rfl
theorem szKeys_cons (x : S31) (l : List (S31)) : szKeys (x :: l) = x.f1.size + x.f2.size + szKeys l := rfl
theorem szKeys_mem {l : List (S31)} {x : S31} (h : x ∈ l) : x.f1.size + x.f2.size ≤ szKeys l := by
  induction l with
  | nil => cases h
  | cons y l ih =>
    rw [szKeys_cons]
    rcases List.mem_cons.1 h with rfl | h
    · omega
    · have := ih h; omega
theorem rdKeyA {l : List (S31)} {i : Nat} (h : i < l.length) : rd_T31 l (i : Int) = l[i] := by
  unfold rd_T31
  rw [Int.toNat_natCast, List.getD_eq_getElem?_getD, List.getElem?_eq_getElem h]
  rfl
theorem rdKeyB {l : List (S34)} {i : Nat} (h : i < l.length) : rd_T34 l (i : Int) = l[i] := by
  unfold rd_T34
  rw [Int.toNat_natCast, List.getD_eq_getElem?_getD, List.getElem?_eq_getElem h]
  rfl
theorem laws_szKey.eq {m : Int} {s t : ByteArray} {a : Int} (h0 : 0 ≤ a) (h1 : a ≤ 1048576) (hs : s.size ≤ 9223372036854775807) (ht : t.size ≤ 9223372036854775807) : laws_szKey.f m s t a = some (if a < ((s.size + t.size : Nat) : Int) then -1 else a - ((s.size + t.size : Nat) : Int)) := by
  unfold laws_szKey.f
  rw [wrap_in (x := a - (s.size : Int)) (by omega) (by omega)]
  by_cases h : a - (s.size : Int) < 0
  · rw [if_pos h, if_pos (by omega)]
  · rw [if_neg h, wrap_in (by omega) (by omega)]
    by_cases h2 : a - (s.size : Int) - (t.size : Int) < 0
    · rw [if_pos h2, if_pos (by omega)]
    · rw [if_neg h2, if_neg (by omega)]
      refine congrArg some ?_
      omega
theorem laws_szKeyS.loop (l : List (S31)) (hl : l.length ≤ 1048576) (hL : ∀ x ∈ l, x.f1.size ≤ 9223372036854775807 ∧ x.f2.size ≤ 9223372036854775807) (d : Nat) : ∀ (k i : Nat) (a : Int), 0 ≤ a → a ≤ 1048576 → i ≤ l.length → l.length - i = d → d < k → laws_szKeyS.l0 k l a (i : Int) = some (if a < (szKeys (l.drop i) : Int) then -1 else a - (szKeys (l.drop i) : Int)) := by
  induction d with
  | zero =>
    intro k i a h0 h1 hi hd hk
    obtain ⟨k, rfl⟩ : ∃ m, k = m + 1 := ⟨k - 1, by omega⟩
    simp only [laws_szKeyS.l0]
    rw [if_neg (by omega), List.drop_eq_nil_of_le (by omega), szKeys_nil, if_neg (by omega)]
    simp
  | succ d ih =>
    intro k i a h0 h1 hi hd hk
    obtain ⟨k, rfl⟩ : ∃ m, k = m + 1 := ⟨k - 1, by omega⟩
    have hlt : i < l.length := by omega
    have hx := hL l[i] (List.getElem_mem hlt)
    simp only [laws_szKeyS.l0]
    rw [if_pos (int_lt hlt), if_pos (int_nn i), rdKeyA hlt, laws_szKey.eq h0 h1 hx.1 hx.2]
    simp only [Option.bind_some]
    rw [List.drop_eq_getElem_cons hlt, szKeys_cons]
    by_cases h : a < ((l[i].f1.size + l[i].f2.size : Nat) : Int)
    · rw [if_pos h, if_pos (by omega), if_pos (by omega)]
    · rw [if_neg h, if_neg (by omega), wrap_succ (by omega), ih k (i + 1) _ (by omega) (by omega) (by omega) (by omega) (by omega)]
      by_cases h2 : a - ((l[i].f1.size + l[i].f2.size : Nat) : Int) < (szKeys (l.drop (i + 1)) : Int)
      · rw [if_pos h2, if_pos (by omega)]
      · rw [if_neg h2, if_neg (by omega)]
        refine congrArg some ?_
        omega
theorem laws_szKeyS.eq {l : List (S31)} {a : Int} {k : Nat} (h0 : 0 ≤ a) (h1 : a ≤ 1048576) (hl : l.length ≤ 9223372036854775807) (hL : ∀ x ∈ l, x.f1.size ≤ 9223372036854775807 ∧ x.f2.size ≤ 9223372036854775807) (hk : 1048577 < k) : laws_szKeyS.f k l a = some (if a < ((l.length + szKeys l : Nat) : Int) then -1 else a - ((l.length + szKeys l : Nat) : Int)) := by
  unfold laws_szKeyS.f
  rw [wrap_in (by omega) (by omega)]
  by_cases h : a < (l.length : Int)
  · rw [if_pos (by omega), if_pos (by omega)]
  · rw [if_neg (by omega)]
    have := laws_szKeyS.loop l (by omega) hL l.length k 0 (a - (l.length : Int)) (by omega) (by omega) (by omega) (by omega) (by omega)
    rw [List.drop_zero] at this
    refine (show _ = _ from this).trans ?_
    by_cases h2 : a - (l.length : Int) < (szKeys l : Int)
    · rw [if_pos h2, if_pos (by omega)]
    · rw [if_neg h2, if_neg (by omega)]
      refine congrArg some ?_
      omega
theorem laws_toKeyS.loop (l : List (S31)) (hl : l.length ≤ 1048576) (d : Nat) : ∀ (k i : Nat), i ≤ l.length → l.length - i = d → d < k → laws_toKeyS.l0 k l ((l.take i).map cvKey ++ List.replicate (l.length - i) z34) (i : Int) = some (l.map cvKey) := by
  induction d with
  | zero =>
    intro k i hi hd hk
    obtain ⟨k, rfl⟩ : ∃ m, k = m + 1 := ⟨k - 1, by omega⟩
    obtain rfl : i = l.length := by omega
    simp only [laws_toKeyS.l0]
    rw [if_neg (by omega)]
    simp
  | succ d ih =>
    intro k i hi hd hk
    obtain ⟨k, rfl⟩ : ∃ m, k = m + 1 := ⟨k - 1, by omega⟩
    have hlt : i < l.length := by omega
    simp only [laws_toKeyS.l0]
    rw [if_pos (int_lt hlt), if_pos (int_nn i), rdKeyA hlt]
    simp only [laws_toKey.f, Option.bind_some]
    rw [if_pos (by simp; omega), wrap_succ (by omega), Int.toNat_natCast]
    have hs : ((l.take i).map cvKey ++ List.replicate (l.length - i) z34).set i (cvKey l[i]) = (l.take (i + 1)).map cvKey ++ List.replicate (l.length - (i + 1)) z34 := by
      have h1 : ((l.take i).map cvKey).length = i := by simp; omega
      rw [List.set_append_right _ _ (by omega), h1, Nat.sub_self, show l.length - i = (l.length - (i + 1)) + 1 by omega, List.replicate_succ, List.set_cons_zero, List.take_succ_eq_append_getElem hlt, List.map_append, List.append_assoc]
      rfl
    refine (congrArg (fun z => laws_toKeyS.l0 k l z ((i + 1 : Nat) : Int)) hs).trans ?_
    exact ih k (i + 1) (by omega) (by omega) (by omega)
theorem laws_toKeyS.eq {l : List (S31)} {k : Nat} (h : l.length ≤ 1048576) (hk : 1048577 < k) : laws_toKeyS.f k l = some (l.map cvKey) := by
  unfold laws_toKeyS.f
  rw [if_pos (by omega), if_pos (by omega), Int.toNat_natCast]
  have := laws_toKeyS.loop l h l.length k 0 (by omega) (by omega) (by omega)
  simpa using this
theorem laws_eqKeyS.loop (a : List (S34)) (hl : a.length ≤ 1048576) (d : Nat) : ∀ (k i : Nat), i ≤ a.length → a.length - i = d → d < k → laws_eqKeyS.l0 k a a (i : Int) = some true := by
  induction d with
  | zero =>
    intro k i hi hd hk
    obtain ⟨k, rfl⟩ : ∃ m, k = m + 1 := ⟨k - 1, by omega⟩
    simp only [laws_eqKeyS.l0]
    rw [if_neg (by omega)]
  | succ d ih =>
    intro k i hi hd hk
    obtain ⟨k, rfl⟩ : ∃ m, k = m + 1 := ⟨k - 1, by omega⟩
    have hlt : i < a.length := by omega
    simp only [laws_eqKeyS.l0]
    rw [if_pos (int_lt hlt), if_pos (int_nn i), if_pos (int_lt hlt), rdKeyB hlt, wrap_succ (by omega)]
    unfold laws_eqKey.f
    simp only [if_true, Option.bind_some]
    exact ih k (i + 1) (by omega) (by omega) (by omega)
theorem laws_eqKeyS.refl {a : List (S34)} {k : Nat} (hl : a.length ≤ 1048576) (hk : 1048577 < k) : laws_eqKeyS.f k a a = some true := by
  unfold laws_eqKeyS.f
  rw [if_pos rfl]
  exact laws_eqKeyS.loop a hl a.length k 0 (by omega) (by omega) (by omega)
theorem impl_within.eq (a b c : Int) : impl_within.f a b c = some (decide (b ≤ a ∧ a ≤ c)) := by
  unfold impl_within.f
  by_cases h : b ≤ a <;> simp [h]
theorem cmpB (x : List UInt8) : ∀ y, Lib.compareBytes x y < 0 ↔ Op.bytesLess x y = true := by
  induction x with
  | nil => intro y; cases y <;> simp [Lib.compareBytes, Op.bytesLess]
  | cons a x ih =>
    intro y
    cases y with
    | nil => simp [Lib.compareBytes, Op.bytesLess]
    | cons b y =>
      unfold Lib.compareBytes Op.bytesLess
      by_cases h1 : a < b
      · simp [h1]
      · by_cases h2 : b < a
        · have h3 : ¬ a = b := fun e => by subst e; exact h1 h2
          simp [h1, h2, h3]
        · have h3 : a = b := UInt8.le_antisymm (UInt8.not_lt.1 h2) (UInt8.not_lt.1 h1)
          subst h3
          simp [h1, ih y]
def chOK (c : Int) : Bool := decide ((97 ≤ c ∧ c ≤ 122) ∨ c = 45)
def nmF (s : ByteArray) : Nat → Nat → Bool
  | 0, _ => true
  | d + 1, i => chOK (bt s (i : Int)) && nmF s d (i + 1)
def nameOK (s : ByteArray) : Bool := decide (1 ≤ s.size ∧ s.size ≤ 20) && nmF s s.size 0
theorem spec_l07Name.loop (s : ByteArray) (hs : s.size ≤ 1048576) (d : Nat) : ∀ (k i : Nat), i ≤ s.size → s.size - i = d → d < k → spec_l07Name.l0 k s (i : Int) = some (nmF s d i) := by
  induction d with
  | zero =>
    intro k i hi hd hk
    obtain ⟨k, rfl⟩ : ∃ m, k = m + 1 := ⟨k - 1, by omega⟩
    rw [spec_l07Name.l0, if_neg (by omega)]
    rfl
  | succ d ih =>
    intro k i hi hd hk
    obtain ⟨k, rfl⟩ : ∃ m, k = m + 1 := ⟨k - 1, by omega⟩
    have h := ih k (i + 1) (by omega) (by omega) (by omega)
    rw [spec_l07Name.l0, if_pos (by omega), if_pos (int_nn i), wrap_succ (by omega), h]
    show _ = some (chOK (bt s (i : Int)) && nmF s d (i + 1))
    unfold chOK
    generalize bt s (i : Int) = c
    by_cases h1 : c ≥ 97
    · rw [if_pos h1]
      by_cases h2 : c ≤ 122
      · rw [if_pos h2, decide_eq_true (show (97 ≤ c ∧ c ≤ 122) ∨ c = 45 by omega), Bool.true_and]
      · rw [if_neg h2, if_neg (by omega), decide_eq_false (show ¬ ((97 ≤ c ∧ c ≤ 122) ∨ c = 45) by omega), Bool.false_and]
    · rw [if_neg h1]
      by_cases h2 : c = 45
      · rw [if_pos h2, decide_eq_true (show (97 ≤ c ∧ c ≤ 122) ∨ c = 45 by omega), Bool.true_and]
      · rw [if_neg h2, decide_eq_false (show ¬ ((97 ≤ c ∧ c ≤ 122) ∨ c = 45) by omega), Bool.false_and]
theorem spec_l07Name.eq (s : ByteArray) (hs : s.size ≤ 1048576) {k : Nat} (hk : s.size + 2 < k) : spec_l07Name.f k s = some (nameOK s) := by
  obtain ⟨k, rfl⟩ : ∃ m, k = m + 1 := ⟨k - 1, by omega⟩
  have hj : ∀ b : Bool, spec_l07Name.j0 (k + 1) s b = some (!b && nmF s s.size 0) := by
    intro b
    have := spec_l07Name.loop s hs s.size k 0 (by omega) (by omega) (by omega)
    cases b
    · rw [spec_l07Name.j0]
      exact this
    · rw [spec_l07Name.j0]
      rfl
  unfold spec_l07Name.f nameOK
  rw [hj, hj]
  by_cases h1 : (s.size : Int) < 1
  · rw [if_pos h1, decide_eq_false (show ¬ (1 ≤ s.size ∧ s.size ≤ 20) by omega)]
    rfl
  · rw [if_neg h1]
    by_cases h2 : (s.size : Int) > 20
    · rw [decide_eq_true h2, decide_eq_false (show ¬ (1 ≤ s.size ∧ s.size ≤ 20) by omega)]
      rfl
    · rw [decide_eq_false h2, decide_eq_true (show 1 ≤ s.size ∧ s.size ≤ 20 by omega)]
      rfl
theorem impl_isKeyName.loop (s : ByteArray) (hs : s.size ≤ 1048576) (d : Nat) : ∀ (k i : Nat), i ≤ s.size → s.size - i = d → d < k → impl_isKeyName.l0 k s (s.size : Int) (i : Int) = some (nmF s d i && decide (1 ≤ s.size ∧ s.size ≤ 20)) := by
  induction d with
  | zero =>
    intro k i hi hd hk
    obtain ⟨k, rfl⟩ : ∃ m, k = m + 1 := ⟨k - 1, by omega⟩
    rw [impl_isKeyName.l0, if_neg (by omega), impl_within.eq]
    simp only [Option.bind_some, nmF, Bool.true_and]
    exact congrArg some (decide_eq_decide.2 (by omega))
  | succ d ih =>
    intro k i hi hd hk
    obtain ⟨k, rfl⟩ : ∃ m, k = m + 1 := ⟨k - 1, by omega⟩
    have h := ih k (i + 1) (by omega) (by omega) (by omega)
    rw [impl_isKeyName.l0, if_pos (by omega), if_pos (int_nn i), if_pos (by omega), wrap_succ (by omega), h]
    show _ = some (chOK (bt s (i : Int)) && nmF s d (i + 1) && decide (1 ≤ s.size ∧ s.size ≤ 20))
    unfold chOK
    generalize bt s (i : Int) = c
    by_cases h1 : c ≥ 97
    · rw [if_pos h1]
      by_cases h2 : c ≤ 122
      · rw [if_pos h2, decide_eq_true (show (97 ≤ c ∧ c ≤ 122) ∨ c = 45 by omega), Bool.true_and]
      · rw [if_neg h2, if_neg (by omega), decide_eq_false (show ¬ ((97 ≤ c ∧ c ≤ 122) ∨ c = 45) by omega), Bool.false_and, Bool.false_and]
    · rw [if_neg h1]
      by_cases h2 : c = 45
      · rw [if_pos h2, decide_eq_true (show (97 ≤ c ∧ c ≤ 122) ∨ c = 45 by omega), Bool.true_and]
      · rw [if_neg h2, decide_eq_false (show ¬ ((97 ≤ c ∧ c ≤ 122) ∨ c = 45) by omega), Bool.false_and, Bool.false_and]
theorem impl_isKeyName.eq (s : ByteArray) (hs : s.size ≤ 1048576) {k : Nat} (hk : s.size < k) : impl_isKeyName.f k s = some (nameOK s) := by
  have := impl_isKeyName.loop s hs s.size k 0 (by omega) (by omega) hk
  unfold nameOK
  rw [Bool.and_comm]
  exact this
def keyOK (x : S34) : Bool := decide (1 ≤ x.f0 ∧ x.f0 ≤ 9) && (decide (1 ≤ x.f1.size ∧ x.f1.size ≤ 6) && nameOK x.f2)
def befK (x y : S34) : Bool := decide (x.f0 < y.f0 ∨ (x.f0 = y.f0 ∧ Op.bytesLess x.f1.toList y.f1.toList = true))
def krF (l : List S34) : Nat → Nat → Bool
  | 0, _ => true
  | d + 1, i => keyOK (rd_T34 l (i : Int)) && ((decide (i = 0) || befK (rd_T34 l ((i - 1 : Nat) : Int)) (rd_T34 l (i : Int))) && krF l d (i + 1))
def keysOK (l : List S34) : Bool := decide (l.length ≤ 60) && krF l l.length 0
theorem spec_l07Before.eq (x y : S34) : spec_l07Before.f x.f0 x.f1 x.f2 y.f0 y.f1 y.f2 = some (befK x y) := by
  unfold spec_l07Before.f befK
  by_cases h1 : x.f0 < y.f0
  · rw [if_pos h1, decide_eq_true (Or.inl h1)]
  · rw [if_neg h1]
    by_cases h2 : x.f0 = y.f0
    · rw [if_pos h2]
      refine congrArg some ?_
      rw [Bool.eq_iff_iff, decide_eq_true_eq]
      exact ⟨fun e => Or.inr ⟨h2, e⟩, fun e => (e.resolve_left h1).2⟩
    · rw [if_neg h2, decide_eq_false (fun e => e.elim h1 (fun g => h2 g.1))]
theorem cmp_Or_int.eq (a b : Int) {k : Nat} (hk : 3 < k) : cmp_Or_int.f k [a, b] = some (if a = 0 then b else a) := by
  obtain ⟨k, rfl⟩ : ∃ m, k = m + 3 := ⟨k - 3, by omega⟩
  have r0 : rd [a, b] 0 = a := rfl
  have r1 : rd [a, b] 1 = b := rfl
  have w0 : wrap64 (0 + 1) = 1 := by unfold wrap64; omega
  have w1 : wrap64 (1 + 1) = 2 := by unfold wrap64; omega
  show cmp_Or_int.l0 (k + 3) 0 [a, b] 2 0 = _
  rw [cmp_Or_int.l0, if_pos (by decide), if_pos (by decide), if_pos (by simp), r0, w0]
  by_cases h : a = 0
  · rw [if_pos h, if_pos h, cmp_Or_int.l0, if_pos (by decide), if_pos (by decide), if_pos (by simp), r1, w1]
    by_cases h2 : b = 0
    · rw [if_pos h2, cmp_Or_int.l0, if_neg (by decide), h2]
    · rw [if_neg h2]
  · rw [if_neg h, if_neg h]
theorem impl_compareKeys.eq (x y : S34) {k : Nat} (hk : 3 < k) : ∃ c, impl_compareKeys.f k x.f0 x.f1 x.f2 y.f0 y.f1 y.f2 = some c ∧ (c ≥ 0 ↔ befK x y = false) := by
  unfold impl_compareKeys.f strings_Compare.f bytealg_CompareString.f cmp_Compare_int64.f cmp_isNaN_int64.f
  simp only [Option.bind_some, bne_self_eq_false, Bool.false_eq_true, if_false]
  have hb := cmpB x.f1.data.toList y.f1.data.toList
  unfold befK
  rw [Lib.toList_data, Lib.toList_data]
  by_cases h1 : x.f0 < y.f0
  · rw [if_pos h1]
    simp only [Option.bind_some]
    rw [cmp_Or_int.eq _ _ hk, if_neg (by decide)]
    refine ⟨_, rfl, ?_⟩
    rw [decide_eq_true (Or.inl h1)]
    decide
  · rw [if_neg h1]
    by_cases h2 : x.f0 > y.f0
    · rw [if_pos h2]
      simp only [Option.bind_some]
      rw [cmp_Or_int.eq _ _ hk, if_neg (by decide)]
      refine ⟨_, rfl, ?_⟩
      rw [decide_eq_false (fun e => e.elim h1 (fun g => by omega))]
      decide
    · rw [if_neg h2]
      simp only [Option.bind_some]
      rw [cmp_Or_int.eq _ _ hk, if_pos rfl]
      refine ⟨_, rfl, ?_⟩
      have e : x.f0 = y.f0 := by omega
      rw [decide_eq_false_iff_not]
      constructor
      · intro g q
        have := hb.2 (q.resolve_left h1).2
        omega
      · intro g
        by_cases q : Lib.compareBytes x.f1.data.toList y.f1.data.toList < 0
        · exact absurd (Or.inr ⟨e, hb.1 q⟩) g
        · omega
theorem impl_keyRight.eq (x : S34) (hs : x.f2.size ≤ 1048576) {k : Nat} (hk : x.f2.size < k) : impl_keyRight.f k x.f0 x.f1 x.f2 = some (keyOK x) := by
  unfold impl_keyRight.f keyOK
  simp only [impl_within.eq, Option.bind_some, decide_eq_true_eq]
  by_cases h1 : 1 ≤ x.f0 ∧ x.f0 ≤ 9
  · rw [if_pos h1, decide_eq_true h1, Bool.true_and]
    by_cases h2 : 1 ≤ x.f1.size ∧ x.f1.size ≤ 6
    · rw [if_pos (by omega), impl_isKeyName.eq _ hs hk, decide_eq_true h2, Bool.true_and]
      rfl
    · rw [if_neg (by omega), decide_eq_false h2, Bool.false_and]
  · rw [if_neg h1, decide_eq_false h1, Bool.false_and]
theorem rdKey_mem {l : List S34} {i : Nat} (h : i < l.length) : rd_T34 l (i : Int) ∈ l := by
  rw [rdKeyB h]
  exact List.getElem_mem h
theorem spec_KeysRight.loop (l : List S34) (hl : l.length ≤ 1048576) (hL : ∀ x ∈ l, x.f2.size ≤ 1048576) (d : Nat) : ∀ (k i : Nat), i ≤ l.length → l.length - i = d → d + 1048600 < k → spec_KeysRight.l0 k l (i : Int) = some (krF l d i) := by
  induction d with
  | zero =>
    intro k i hi hd hk
    obtain ⟨k, rfl⟩ : ∃ m, k = m + 1 := ⟨k - 1, by omega⟩
    rw [spec_KeysRight.l0, if_neg (by omega)]
    rfl
  | succ d ih =>
    intro k i hi hd hk
    obtain ⟨k, rfl⟩ : ∃ m, k = m + 1 := ⟨k - 1, by omega⟩
    have hlt : i < l.length := by omega
    have hx := hL _ (rdKey_mem hlt)
    have h := ih k (i + 1) (by omega) (by omega) (by omega)
    rw [spec_KeysRight.l0, if_pos (int_lt hlt), if_pos (int_nn i), wrap_succ (by omega), h, spec_l07Name.eq _ hx (by omega)]
    show _ = some (keyOK (rd_T34 l (i : Int)) && ((decide (i = 0) || befK (rd_T34 l ((i - 1 : Nat) : Int)) (rd_T34 l (i : Int))) && krF l d (i + 1)))
    simp only [Option.bind_some]
    unfold keyOK
    by_cases h1 : (rd_T34 l (i : Int)).f0 < 1
    · rw [if_pos h1, decide_eq_false (show ¬ (1 ≤ (rd_T34 l (i : Int)).f0 ∧ (rd_T34 l (i : Int)).f0 ≤ 9) by omega), Bool.false_and, Bool.false_and]
    rw [if_neg h1]
    by_cases h2 : (rd_T34 l (i : Int)).f0 > 9
    · rw [if_pos h2, decide_eq_false (show ¬ (1 ≤ (rd_T34 l (i : Int)).f0 ∧ (rd_T34 l (i : Int)).f0 ≤ 9) by omega), Bool.false_and, Bool.false_and]
    rw [if_neg h2, decide_eq_true (show 1 ≤ (rd_T34 l (i : Int)).f0 ∧ (rd_T34 l (i : Int)).f0 ≤ 9 by omega), Bool.true_and]
    by_cases h3 : ((rd_T34 l (i : Int)).f1.size : Int) < 1
    · rw [if_pos h3, decide_eq_false (show ¬ (1 ≤ (rd_T34 l (i : Int)).f1.size ∧ (rd_T34 l (i : Int)).f1.size ≤ 6) by omega), Bool.false_and, Bool.false_and]
    rw [if_neg h3]
    by_cases h4 : ((rd_T34 l (i : Int)).f1.size : Int) > 6
    · rw [if_pos h4, decide_eq_false (show ¬ (1 ≤ (rd_T34 l (i : Int)).f1.size ∧ (rd_T34 l (i : Int)).f1.size ≤ 6) by omega), Bool.false_and, Bool.false_and]
    rw [if_neg h4, decide_eq_true (show 1 ≤ (rd_T34 l (i : Int)).f1.size ∧ (rd_T34 l (i : Int)).f1.size ≤ 6 by omega), Bool.true_and]
    by_cases h5 : nameOK (rd_T34 l (i : Int)).f2 = true
    · rw [if_pos h5, h5, Bool.true_and]
      by_cases h6 : i = 0
      · rw [if_neg (by omega), decide_eq_true h6, Bool.true_or, Bool.true_and]
      · rw [if_pos (by omega), wrap_in (by omega) (by omega), if_pos (by omega), if_pos (by omega), show (i : Int) - 1 = ((i - 1 : Nat) : Int) by omega, spec_l07Before.eq, decide_eq_false h6, Bool.false_or]
        simp only [Option.bind_some]
        by_cases h7 : befK (rd_T34 l ((i - 1 : Nat) : Int)) (rd_T34 l (i : Int)) = true
        · rw [if_pos h7, h7, Bool.true_and]
        · rw [if_neg h7]
          rw [Bool.not_eq_true] at h7
          rw [h7, Bool.false_and]
    · rw [if_neg h5]
      rw [Bool.not_eq_true] at h5
      rw [h5, Bool.false_and]
theorem spec_KeysRight.eq {l : List S34} (hl : l.length ≤ 1048576) (hL : ∀ x ∈ l, x.f2.size ≤ 1048576) {k : Nat} (hk : 3000000 < k) : spec_KeysRight.f k l = some (keysOK l) := by
  unfold spec_KeysRight.f keysOK
  by_cases h : l.length ≤ 60
  · have := spec_KeysRight.loop l hl hL l.length k 0 (by omega) (by omega) (by omega)
    rw [if_neg (by omega), decide_eq_true h, Bool.true_and]
    exact this
  · rw [if_pos (by omega), decide_eq_false h, Bool.false_and]
theorem impl_KeysRight.loop (l : List S34) (hl : l.length ≤ 1048576) (hL : ∀ x ∈ l, x.f2.size ≤ 1048576) (d : Nat) : ∀ (k i : Nat), i ≤ l.length → l.length - i = d → d + 1048600 < k → impl_KeysRight.l0 k l l (l.length : Int) (i : Int) = some (krF l d i && decide (l.length ≤ 60)) := by
  induction d with
  | zero =>
    intro k i hi hd hk
    obtain ⟨k, rfl⟩ : ∃ m, k = m + 1 := ⟨k - 1, by omega⟩
    rw [impl_KeysRight.l0, if_neg (by omega)]
    simp only [krF, Bool.true_and]
    exact congrArg some (decide_eq_decide.2 (by omega))
  | succ d ih =>
    intro k i hi hd hk
    obtain ⟨k, rfl⟩ : ∃ m, k = m + 1 := ⟨k - 1, by omega⟩
    have hlt : i < l.length := by omega
    have hx := hL _ (rdKey_mem hlt)
    have h := ih k (i + 1) (by omega) (by omega) (by omega)
    rw [impl_KeysRight.l0, if_pos (int_lt hlt), if_pos (int_nn i), if_pos (int_lt hlt), wrap_succ (by omega), h, impl_keyRight.eq _ hx (by omega)]
    show _ = some (keyOK (rd_T34 l (i : Int)) && ((decide (i = 0) || befK (rd_T34 l ((i - 1 : Nat) : Int)) (rd_T34 l (i : Int))) && krF l d (i + 1)) && decide (l.length ≤ 60))
    simp only [Option.bind_some]
    by_cases h5 : keyOK (rd_T34 l (i : Int)) = true
    · rw [if_pos h5, h5, Bool.true_and]
      by_cases h6 : i = 0
      · rw [if_neg (by omega), decide_eq_true h6, Bool.true_or, Bool.true_and]
      · obtain ⟨c, hc, hb⟩ := impl_compareKeys.eq (rd_T34 l ((i - 1 : Nat) : Int)) (rd_T34 l (i : Int)) (k := k) (by omega)
        rw [if_pos (by omega), wrap_in (by omega) (by omega), if_pos (by omega), if_pos (by omega), show (i : Int) - 1 = ((i - 1 : Nat) : Int) by omega, hc, decide_eq_false h6, Bool.false_or]
        simp only [Option.bind_some]
        by_cases h7 : c ≥ 0
        · rw [if_pos h7, hb.1 h7, Bool.false_and, Bool.false_and]
        · have h8 : befK (rd_T34 l ((i - 1 : Nat) : Int)) (rd_T34 l (i : Int)) = true := by
            rw [← Bool.not_eq_false]
            exact fun e => h7 (hb.2 e)
          rw [if_neg h7, h8, Bool.true_and]
    · rw [if_neg h5]
      rw [Bool.not_eq_true] at h5
      rw [h5, Bool.false_and, Bool.false_and]
theorem impl_KeysRight.eq {l : List S34} (hl : l.length ≤ 1048576) (hL : ∀ x ∈ l, x.f2.size ≤ 1048576) {k : Nat} (hk : 3000000 < k) : impl_KeysRight.f k l = some (keysOK l) := by
  have := impl_KeysRight.loop l hl hL l.length k 0 (by omega) (by omega) (by omega)
  unfold keysOK
  rw [Bool.and_comm]
  exact this
theorem impl_isLong.eq (q : ByteArray) {k : Nat} (hk : 3 < k) : impl_isLong.f k [q] = some (decide ((q.size : Int) > 20000)) := by
  obtain ⟨k, rfl⟩ : ∃ m, k = m + 3 := ⟨k - 3, by omega⟩
  have w0 : wrap64 (0 + 1) = 1 := by unfold wrap64; omega
  have e : slices_IndexFunc_sstring_string.f (k + 3) [q] = some (if (q.size : Int) > 20000 then 0 else -1) := by
    show slices_IndexFunc_sstring_string.l0 (k + 3) [q] 1 0 = _
    rw [slices_IndexFunc_sstring_string.l0, if_pos (by decide), if_pos (by decide), if_pos (by simp), w0]
    show (impl_isLong_1.f q).bind _ = _
    unfold impl_isLong_1.f
    simp only [Option.bind_some, decide_eq_true_eq]
    by_cases h : (q.size : Int) > 20000
    · rw [if_pos h, if_pos h]
    · rw [if_neg h, if_neg h, slices_IndexFunc_sstring_string.l0, if_neg (by decide)]
  unfold impl_isLong.f slices_ContainsFunc_sstring_string.f
  rw [e]
  simp only [Option.bind_some]
  by_cases h : (q.size : Int) > 20000
  · rw [if_pos h, decide_eq_true h]
    rfl
  · rw [if_neg h, decide_eq_false h]
    rfl
theorem slices_Clone_simpl_Key_impl_Key.eq {l : List S34} (h : l.length ≤ 2000000) : slices_Clone_simpl_Key_impl_Key.f l = some l := by
  unfold slices_Clone_simpl_Key_impl_Key.f
  simp only [Option.bind_some, List.length_nil, List.nil_append]
  rw [if_pos (by omega)]
def kpK (m : Int) (q : ByteArray) (x : S34) : Bool := !hitK m q x
theorem dfK_keeps (m : Int) (q : ByteArray) (l : List S34) (d : Nat) : ∀ (j i : Nat) (x : List S34), x.length = l.length → i ≤ j → j + d = l.length → x.take i = (l.take j).filter (kpK m q) → x.drop j = l.drop j → (dfK m q d j i x).2.take (dfK m q d j i x).1 = l.filter (kpK m q) := by
  induction d with
  | zero =>
    intro j i x hx hi hj h1 h2
    rw [dfK]
    show x.take i = _
    rw [h1, List.take_of_length_le (by omega)]
  | succ d ih =>
    intro j i x hx hi hj h1 h2
    have hlt : j < x.length := by omega
    have hll : j < l.length := by omega
    rw [List.drop_eq_getElem_cons hlt, List.drop_eq_getElem_cons hll] at h2
    obtain ⟨e1, e2⟩ := List.cons.inj h2
    rw [dfK, rdKeyB hlt, e1]
    have hf : (l.take (j + 1)).filter (kpK m q) = (l.take j).filter (kpK m q) ++ (if kpK m q l[j] = true then [l[j]] else []) := by
      rw [List.take_succ_eq_append_getElem hll, List.filter_append, List.filter_cons, List.filter_nil]
    by_cases h : hitK m q l[j] = true
    · rw [if_pos h]
      refine ih (j + 1) i x hx (by omega) (by omega) ?_ e2
      rw [hf, if_neg (by unfold kpK; rw [h]; decide), List.append_nil, h1]
    · rw [if_neg h]
      have hk : kpK m q l[j] = true := by unfold kpK; rw [Bool.eq_false_iff.mpr h]; rfl
      refine ih (j + 1) (i + 1) (x.set i l[j]) (by rw [List.length_set]; exact hx) (by omega) (by omega) ?_ ?_
      · rw [hf, if_pos hk, List.take_succ_eq_append_getElem (by rw [List.length_set]; omega), List.getElem_set_self, List.take_set_of_le (Nat.le_refl i), h1]
      · rw [List.drop_set_of_lt (by omega), e2]
theorem ixK_spec (m : Int) (q : ByteArray) (l : List S34) (d : Nat) : ∀ i, i + d = l.length → (∀ x ∈ l.take i, kpK m q x = true) → (ixK m q l d i = -1 ∧ ∀ x ∈ l, kpK m q x = true) ∨ ∃ n, ∃ h : n < l.length, ixK m q l d i = (n : Int) ∧ (∀ x ∈ l.take n, kpK m q x = true) ∧ hitK m q l[n] = true := by
  induction d with
  | zero =>
    intro i hi h
    rw [List.take_of_length_le (by omega)] at h
    exact Or.inl ⟨rfl, h⟩
  | succ d ih =>
    intro i hi h
    have hlt : i < l.length := by omega
    rw [ixK, rdKeyB hlt]
    by_cases hh : hitK m q l[i] = true
    · rw [if_pos hh]
      exact Or.inr ⟨i, hlt, rfl, h, hh⟩
    · rw [if_neg hh]
      refine ih (i + 1) (by omega) (fun x hx => ?_)
      rw [List.take_succ_eq_append_getElem hlt] at hx
      rcases List.mem_append.1 hx with hx | hx
      · exact h x hx
      · rw [List.mem_singleton.1 hx]
        unfold kpK
        rw [Bool.eq_false_iff.mpr hh]
        rfl
theorem delK_eq (m : Int) (q : ByteArray) (l : List S34) : delK m q l = l.filter (kpK m q) := by
  unfold delK
  rcases ixK_spec m q l l.length 0 (by omega) (fun x hx => absurd hx (by rw [List.take_zero]; exact List.not_mem_nil)) with ⟨e, h⟩ | ⟨n, hn, e, h1, h2⟩
  · rw [if_pos e]
    exact (List.filter_eq_self.2 h).symm
  · rw [e, if_neg (by omega), Int.toNat_natCast]
    refine dfK_keeps m q l _ (n + 1) n l rfl (by omega) (by omega) ?_ rfl
    rw [List.take_succ_eq_append_getElem hn, List.filter_append, List.filter_eq_self.2 h1, List.filter_cons, if_neg (by unfold kpK; rw [h2]; decide), List.filter_nil, List.append_nil]
def kdV (l : List S34) (m : Int) (q : ByteArray) : List S34 := if 400 < l.length ∨ 20000 < q.size then [] else if keysOK l = true then l.filter (kpK m q) else l
theorem kdV_len (l : List S34) (m : Int) (q : ByteArray) : (kdV l m q).length ≤ 400 := by
  unfold kdV
  by_cases h : 400 < l.length ∨ 20000 < q.size
  · rw [if_pos h]; exact Nat.zero_le _
  · rw [if_neg h]
    by_cases h2 : keysOK l = true
    · rw [if_pos h2]
      have := List.length_filter_le (kpK m q) l
      omega
    · rw [if_neg h2]; omega
theorem spec_KeyDrop.loop (l : List S34) (m : Int) (q : ByteArray) (hl : l.length ≤ 1048576) (b : Bool) (d : Nat) : ∀ (k i : Nat), i ≤ l.length → l.length - i = d → d < k → spec_KeyDrop.l0 k l m q ((l.take i).filter (fun x => !b || kpK m q x)) b (i : Int) = some (l.filter (fun x => !b || kpK m q x)) := by
  induction d with
  | zero =>
    intro k i hi hd hk
    obtain ⟨k, rfl⟩ : ∃ m, k = m + 1 := ⟨k - 1, by omega⟩
    rw [spec_KeyDrop.l0, if_neg (by omega), List.take_of_length_le (by omega)]
  | succ d ih =>
    intro k i hi hd hk
    obtain ⟨k, rfl⟩ : ∃ m, k = m + 1 := ⟨k - 1, by omega⟩
    have hlt : i < l.length := by omega
    have i1 := ih k (i + 1) (by omega) (by omega) (by omega)
    have hf : (l.take (i + 1)).filter (fun x => !b || kpK m q x) = (l.take i).filter (fun x => !b || kpK m q x) ++ (if (!b || kpK m q l[i]) = true then [l[i]] else []) := by
      rw [List.take_succ_eq_append_getElem hlt, List.filter_append, List.filter_cons, List.filter_nil]
    have hz : ((l.take i).filter (fun x => !b || kpK m q x)).length < 3518437208883 := by
      have h1 := List.length_filter_le (fun x => !b || kpK m q x) (l.take i)
      rw [List.length_take] at h1
      omega
    rw [hf] at i1
    generalize (l.take i).filter (fun x => !b || kpK m q x) = acc at i1 hz
    rw [spec_KeyDrop.l0, if_pos (int_lt hlt), wrap_succ (by omega), if_pos (int_nn i), rdKeyB hlt, if_pos hz]
    cases b
    · rw [if_neg (by decide), if_pos (int_nn i)]
      rw [if_pos (show (!false || kpK m q l[i]) = true from rfl)] at i1
      exact i1
    · rw [if_pos rfl]
      by_cases h1 : l[i].f0 = m
      · rw [if_pos h1]
        by_cases h2 : l[i].f1.toList = q.toList
        · rw [if_pos h2]
          have : ¬ (!true || kpK m q l[i]) = true := by unfold kpK hitK; rw [decide_eq_true (⟨h1, h2⟩ : l[i].f0 = m ∧ l[i].f1.toList = q.toList)]; decide
          rw [if_neg this, List.append_nil] at i1
          exact i1
        · rw [if_neg h2]
          have : (!true || kpK m q l[i]) = true := by unfold kpK hitK; rw [decide_eq_false (fun e : l[i].f0 = m ∧ l[i].f1.toList = q.toList => h2 e.2)]; rfl
          rw [if_pos this] at i1
          exact i1
      · rw [if_neg h1]
        have : (!true || kpK m q l[i]) = true := by unfold kpK hitK; rw [decide_eq_false (fun e : l[i].f0 = m ∧ l[i].f1.toList = q.toList => h1 e.1)]; rfl
        rw [if_pos this] at i1
        exact i1
theorem spec_KeyDrop.eq {l : List S34} (m : Int) (q : ByteArray) (hl : l.length ≤ 1048576) (hL : ∀ x ∈ l, x.f2.size ≤ 1048576) {k : Nat} (hk : 3500000 < k) : spec_KeyDrop.f k l m q = some (kdV l m q) := by
  obtain ⟨k, rfl⟩ : ∃ m, k = m + 1 := ⟨k - 1, by omega⟩
  unfold spec_KeyDrop.f kdV
  simp only [Option.bind_some]
  by_cases h1 : 400 < l.length
  · rw [if_pos (by omega), if_pos (Or.inl h1), spec_KeyDrop.j0, if_pos rfl]
  rw [if_neg (by omega), spec_KeyDrop.j0]
  by_cases h2 : 20000 < q.size
  · rw [decide_eq_true (show (q.size : Int) > 20000 by omega), if_pos rfl, if_pos (Or.inr h2)]
  rw [decide_eq_false (show ¬ (q.size : Int) > 20000 by omega), if_neg (by decide), if_neg (show ¬ (400 < l.length ∨ 20000 < q.size) from fun e => e.elim h1 h2), spec_KeysRight.eq hl hL (by omega)]
  simp only [Option.bind_some]
  have := spec_KeyDrop.loop l m q hl (keysOK l) l.length k 0 (by omega) (by omega) (by omega)
  refine Eq.trans this ?_
  cases keysOK l
  · rw [if_neg (by decide)]
    exact congrArg some (List.filter_eq_self.2 (fun _ _ => rfl))
  · rw [if_pos rfl]
    rfl
theorem impl_KeyDrop.eq {l : List S34} (m : Int) (q : ByteArray) (hl : l.length ≤ 1048576) (hL : ∀ x ∈ l, x.f2.size ≤ 1048576) {k : Nat} (hk : 3500000 < k) : impl_KeyDrop.f k l m q = some (kdV l m q) := by
  unfold impl_KeyDrop.f kdV impl_isMany.f
  simp only [Option.bind_some, decide_eq_true_eq]
  by_cases h1 : 400 < l.length
  · rw [if_pos (by omega), if_pos (Or.inl h1)]
  rw [if_neg (by omega), impl_isLong.eq q (by omega)]
  simp only [Option.bind_some, decide_eq_true_eq]
  by_cases h2 : 20000 < q.size
  · rw [if_pos (by omega), if_pos (Or.inr h2)]
  rw [if_neg (by omega), if_neg (show ¬ (400 < l.length ∨ 20000 < q.size) from fun e => e.elim h1 h2), slices_Clone_simpl_Key_impl_Key.eq (by omega), impl_KeysRight.eq hl hL (by omega)]
  simp only [Option.bind_some]
  by_cases h3 : keysOK l = true
  · rw [if_pos h3, if_pos h3, if_pos (by omega), delK_eq]
  · rw [if_neg h3, if_neg h3]
def mtF : Nat → Int → ByteArray → ByteArray
  | 0, _, s => (⟨#[109]⟩ : ByteArray) ++ s
  | d + 1, n, s => if n > 0 then mtF d (Int.tdiv n 10) (strOfNums [(wrap64 (48 + (Int.tmod n 10))) % 256] ++ s) else (⟨#[109]⟩ : ByteArray) ++ s
def mtV (n : Int) : ByteArray := if n ≤ 0 then (⟨#[109, 48]⟩ : ByteArray) else mtF 12 n (⟨#[]⟩ : ByteArray)
theorem strOfNums_one (x : Int) : (strOfNums [x]).size = 1 := rfl
theorem laws_markText.loop (d : Nat) : ∀ (n k : Nat) (s : ByteArray), n < 10 ^ d → n ≤ 1000000000000 → d < k → s.size + d ≤ 1000000 → laws_markText.l0 k (n : Int) s = some (mtF d (n : Int) s) := by
  induction d with
  | zero =>
    intro n k s hn hn2 hk hs
    obtain ⟨k, rfl⟩ : ∃ m, k = m + 1 := ⟨k - 1, by omega⟩
    rw [laws_markText.l0, if_neg (by have : n < 1 := hn; omega), if_pos (by omega), mtF]
  | succ d ih =>
    intro n k s hn hn2 hk hs
    obtain ⟨k, rfl⟩ : ∃ m, k = m + 1 := ⟨k - 1, by omega⟩
    rw [laws_markText.l0, mtF]
    by_cases h : (n : Int) > 0
    · have e : Int.tdiv (n : Int) 10 = ((n / 10 : Nat) : Int) := rfl
      have hb : n / 10 < 10 ^ d := by
        rw [Nat.pow_succ] at hn
        exact Nat.div_lt_of_lt_mul (by rw [Nat.mul_comm]; exact hn)
      rw [if_pos h, if_pos h]
      simp only [Option.bind_some]
      rw [strOfNums_one, if_pos (by omega), e, wrap_in (x := ((n / 10 : Nat) : Int)) (by omega) (by omega), ih (n / 10) k _ hb (by omega) (by omega) ?_]
      · rw [ByteArray.size_append, strOfNums_one]
        omega
    · rw [if_neg h, if_neg h, if_pos (by omega)]
theorem laws_markText.eq {n : Int} {k : Nat} (h0 : 0 ≤ n) (h1 : n ≤ 100000000000) (hk : 20 < k) : laws_markText.f k n = some (mtV n) := by
  unfold laws_markText.f mtV
  by_cases h : n ≤ 0
  · rw [if_pos h, if_pos h]
  · rw [if_neg h, if_neg h]
    obtain ⟨m, rfl⟩ : ∃ m : Nat, n = (m : Int) := ⟨n.toNat, by omega⟩
    exact laws_markText.loop 12 m k _ (by have : (10 : Nat) ^ 12 = 1000000000000 := by decide
                                          omega) (by omega) (by omega) (by show 0 + 12 ≤ _; omega)
/-- the marks of keys -/
def mkKy : Nat → Int → List S34
  | 0, _ => []
  | n + 1, a => ⟨a, mtV (a + 1), mtV (a + 1 + 1)⟩ :: mkKy n (a + 3)
theorem mkKy_len (n : Nat) : ∀ a, (mkKy n a).length = n := by
  induction n with
  | zero => intro a; rfl
  | succ n ih => intro a; rw [mkKy, List.length_cons, ih]
theorem laws_markKeyS.loop2 (d : Nat) : ∀ (x : List S34) (k i : Nat) (a : Int), x.length ≤ 1048576 → i ≤ x.length → x.length - i = d → 1 ≤ a → a + 3 * (d : Int) ≤ 10000000 → d + 30 < k → laws_markKeyS.l0 k x a (i : Int) = some (a + 3 * (d : Int), x.take i ++ mkKy d a) := by
  induction d with
  | zero =>
    intro x k i a hx hi hd h1 h2 hk
    obtain ⟨k, rfl⟩ : ∃ m, k = m + 1 := ⟨k - 1, by omega⟩
    rw [laws_markKeyS.l0, if_neg (by omega), mkKy, List.append_nil, List.take_of_length_le (by omega)]
    refine congrArg some (congrArg (fun z => (z, x)) ?_)
    omega
  | succ d ih =>
    intro x k i a hx hi hd h1 h2 hk
    obtain ⟨k, rfl⟩ : ∃ m, k = m + 1 := ⟨k - 1, by omega⟩
    have hlt : i < x.length := by omega
    rw [laws_markKeyS.l0, if_pos (int_lt hlt), if_pos (int_nn i), wrap_in (x := a + 1) (by omega) (by omega), wrap_in (x := a + 1 + 1) (by omega) (by omega), wrap_in (x := a + 1 + 1 + 1) (by omega) (by omega), laws_markText.eq (n := a + 1) (by omega) (by omega) (by omega), laws_markText.eq (n := a + 1 + 1) (by omega) (by omega) (by omega), wrap_succ (by omega), Int.toNat_natCast]
    simp only [Option.bind_some]
    have hl1 : i < (x.set i ⟨a, (rd_T34 x (i : Int)).f1, (rd_T34 x (i : Int)).f2⟩).length := by rw [List.length_set]; exact hlt
    rw [rdKeyB hl1, List.getElem_set_self]
    dsimp only
    simp only [List.set_set]
    have hl2 : i < (x.set i (⟨a, mtV (a + 1), (rd_T34 x (i : Int)).f2⟩ : S34)).length := by rw [List.length_set]; exact hlt
    rw [rdKeyB hl2, List.getElem_set_self]
    dsimp only
    have hs : (x.set i (⟨a, mtV (a + 1), mtV (a + 1 + 1)⟩ : S34)).length = x.length := List.length_set
    have := ih (x.set i ⟨a, mtV (a + 1), mtV (a + 1 + 1)⟩) k (i + 1) (a + 1 + 1 + 1) (by omega) (by omega) (by omega) (by omega) (by omega) (by omega)
    refine (show _ = _ from this).trans ?_
    have ht : (x.set i (⟨a, mtV (a + 1), mtV (a + 1 + 1)⟩ : S34)).take (i + 1) = x.take i ++ [⟨a, mtV (a + 1), mtV (a + 1 + 1)⟩] := by
      rw [List.take_succ_eq_append_getElem (by omega), List.getElem_set_self, List.take_set_of_le (Nat.le_refl i)]
    rw [ht, mkKy, List.append_assoc, show a + 1 + 1 + 1 = a + 3 by omega]
    refine congrArg some ?_
    rw [show a + 3 + 3 * (d : Int) = a + 3 * ((d + 1 : Nat) : Int) by omega]
    rfl
theorem laws_markKeyS.eq {x : List S34} {k : Nat} (hx : x.length ≤ 1048576) (hk : 2000000 < k) : laws_markKeyS.f k x 1 = some (1 + 3 * (x.length : Int), mkKy x.length 1) := by
  unfold laws_markKeyS.f
  exact laws_markKeyS.loop2 x.length x k 0 1 hx (by omega) (by omega) (by omega) (by omega) (by omega)
theorem laws_heldKeyS.loop (d : Nat) : ∀ (y : List S34) (k i : Nat) (a : Int), y.length ≤ 1048576 → i ≤ y.length → y.drop i = mkKy d a → 1 ≤ a → a + 3 * (d : Int) ≤ 10000000 → d + 30 < k → laws_heldKeyS.l0 k y a (i : Int) = some (a + 3 * (d : Int)) := by
  induction d with
  | zero =>
    intro y k i a hy hi hd h1 h2 hk
    obtain ⟨k, rfl⟩ : ∃ m, k = m + 1 := ⟨k - 1, by omega⟩
    have : y.length ≤ i := List.drop_eq_nil_iff.1 hd
    rw [laws_heldKeyS.l0, if_neg (by omega)]
    refine congrArg some ?_
    omega
  | succ d ih =>
    intro y k i a hy hi hd h1 h2 hk
    obtain ⟨k, rfl⟩ : ∃ m, k = m + 1 := ⟨k - 1, by omega⟩
    have hlt : i < y.length := by
      rcases Nat.lt_or_ge i y.length with e | e
      · exact e
      · rw [List.drop_eq_nil_of_le e] at hd
        cases hd
    rw [List.drop_eq_getElem_cons hlt, mkKy] at hd
    obtain ⟨e1, e2⟩ := List.cons.inj hd
    rw [laws_heldKeyS.l0, if_pos (int_lt hlt), if_pos (int_nn i), rdKeyB hlt, e1]
    simp only [if_true]
    rw [wrap_in (x := a + 1) (by omega) (by omega), laws_markText.eq (n := a + 1) (by omega) (by omega) (by omega)]
    simp only [Option.bind_some, if_true]
    rw [wrap_in (x := a + 1 + 1) (by omega) (by omega), laws_markText.eq (n := a + 1 + 1) (by omega) (by omega) (by omega), wrap_in (x := a + 1 + 1 + 1) (by omega) (by omega), wrap_succ (by omega)]
    simp only [Option.bind_some, if_true]
    rw [show a + 1 + 1 + 1 = a + 3 by omega, ih y k (i + 1) (a + 3) hy (by omega) e2 (by omega) (by omega) (by omega)]
    refine congrArg some ?_
    omega
theorem laws_heldKeyS.eq {n : Nat} {k : Nat} (hx : n ≤ 1048576) (hk : 2000000 < k) : laws_heldKeyS.f k (mkKy n 1) 1 = some (1 + 3 * (n : Int)) := by
  unfold laws_heldKeyS.f
  exact laws_heldKeyS.loop n (mkKy n 1) k 0 1 (by rw [mkKy_len]; exact hx) (by omega) rfl (by omega) (by omega) (by omega)

theorem FnExactKeyDrop : laws_FnExactKeyDrop.Pure := by
  intro l m q ⟨hl, hL⟩ _ hq
  have hl := maxLen_le hl
  have hL2 : ∀ x ∈ l, x.f1.size ≤ 9223372036854775807 ∧ x.f2.size ≤ 9223372036854775807 := fun x hx => ⟨maxLen_le (hL x hx).2.1, maxLen_le (hL x hx).2.2⟩
  refine ⟨8000006, ?_⟩
  unfold laws_FnExactKeyDrop.f
  by_cases hq2 : (q.size : Int) > 1048576
  · rw [if_pos hq2]
  rw [if_neg hq2, laws_szKeyS.eq (by omega) (by omega) hl hL2 (by omega)]
  simp only [Option.bind_some]
  by_cases h : (1048576 : Int) < ((l.length + szKeys l : Nat) : Int)
  · rw [if_pos h, if_pos (by omega)]
  · have o1 : (l.map cvKey).length ≤ 1048576 := by rw [List.length_map]; omega
    have o2 : ∀ x ∈ l.map cvKey, x.f2.size ≤ 1048576 := by
      intro x hx
      obtain ⟨y, hy, rfl⟩ := List.mem_map.1 hx
      have := szKeys_mem hy
      show y.f2.size ≤ _
      omega
    have hv := kdV_len (l.map cvKey) m q
    rw [if_neg h, if_neg (by omega), laws_toKeyS.eq (by omega) (by omega)]
    simp only [Option.bind_some]
    rw [spec_KeyDrop.eq m q o1 o2 (by omega), Option.bind_some, impl_KeyDrop.eq m q o1 o2 (by omega), Option.bind_some, laws_eqKeyS.refl (by omega) (by omega), Option.bind_some, if_pos rfl]
    rw [show (8000006 : Nat) = 8000005 + 1 from rfl, laws_FnExactKeyDrop.j0, laws_toKeyS.eq (by omega) (by omega), Option.bind_some, laws_eqKeyS.refl o1 (by omega), Option.bind_some, if_pos rfl]
    rw [show (8000005 : Nat) = 8000004 + 1 from rfl, laws_FnExactKeyDrop.j1, laws_markKeyS.eq o1 (by omega), Option.bind_some, if_neg (by show ¬ (1 + 3 * ((l.map cvKey).length : Int) < 0); omega), laws_eqKeyS.refl (by omega) (by omega), Option.bind_some, Bool.not_true]
    rw [show (8000004 : Nat) = 8000003 + 1 from rfl, laws_FnExactKeyDrop.j2, if_neg (by decide)]
    rw [show (8000003 : Nat) = 8000002 + 1 from rfl, laws_FnExactKeyDrop.j3, laws_markKeyS.eq (by omega) (by omega), Option.bind_some]
    (try dsimp only)
    rw [laws_heldKeyS.eq (by omega) (by omega), Option.bind_some, if_neg (by omega)]
    rw [show (8000002 : Nat) = 8000001 + 1 from rfl, laws_FnExactKeyDrop.j4, if_pos rfl, laws_toKeyS.eq (by omega) (by omega), Option.bind_some, impl_KeyDrop.eq m q o1 o2 (by omega), Option.bind_some, laws_eqKeyS.refl (by omega) (by omega), Option.bind_some, if_pos rfl]
    rw [show (8000001 : Nat) = 8000000 + 1 from rfl, laws_FnExactKeyDrop.j5, laws_heldKeyS.eq (by omega) (by omega), Option.bind_some, if_neg (by omega), if_pos rfl]

end Go.Proofs.Ytpllahncpjpfmaa.Pure
