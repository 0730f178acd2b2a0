/- Proved: the program's KeyFeed returns what the reference's returns, for every list of keys of size at most 2^20 in all, every map, text and ending, leaves the list as it was, and shares nothing with it. -/
import Derived.Test.YtgkgicmobpnefaaPFnExactKeyFeedx12
namespace Go.Proofs.Ytgkgicmobpnefaa.Pure
open Go.RowKit Go.Proofs.Ytgkgicmobpnefaa.PFnExactKeyFeed Go.Proofs.YtgkgicmobpnefaaW.PrintWords Go.Proofs.YtgkgicmobpnefaaW.PrintLast Go.Proofs.YtgkgicmobpnefaaW.PrintMore
set_option linter.unusedVariables false
set_option linter.unusedSimpArgs false

/-! ### plain words -/
theorem wrap_in {x : Int} (h0 : -9223372036854775808 ≤ x) (h1 : x ≤ 9223372036854775807) : wrap64 x = x := by unfold wrap64; omega
theorem wrap_succ {i : Nat} (h : i < 4611686018427387904) : wrap64 ((i : Int) + 1) = ((i + 1 : Nat) : Int) := by unfold wrap64; omega
theorem rd_nat (l : List Int) (i : Nat) : rd l (i : Int) = l.getD i 0 := by simp [rd]
theorem drop_rd {l : List Int} {i : Nat} (h : i < l.length) : l.drop i = rd l (i : Int) :: l.drop (i + 1) := by
  rw [rd_nat, List.drop_eq_getElem_cons h, List.getD_eq_getElem?_getD, List.getElem?_eq_getElem h]
  rfl
theorem int_lt {i n : Nat} (h : i < n) : (i : Int) < (n : Int) := by omega
theorem int_nlt {i n : Nat} (h : ¬ i < n) : ¬ (i : Int) < (n : Int) := by omega
theorem int_nn (i : Nat) : (0 : Int) ≤ (i : Int) := by omega
theorem maxLen_le {n : Nat} (h : n ≤ maxLen) : n ≤ 9223372036854775807 := by unfold maxLen at h; exact h
theorem some_b {a b : Bool} (h : a = true ↔ b = true) : some a = some b := congrArg some (Bool.eq_iff_iff.2 h)
def isPt (a : Int) : Bool := decide (0 ≤ a ∧ a ≤ 1114111 ∧ ¬ (55296 ≤ a ∧ a ≤ 57343))
def ptsOK (l : List Int) : Bool := decide (l.length ≤ 300) && l.all isPt
def bufOK (l : List Int) (c m : Int) : Bool := ptsOK l && decide (0 ≤ c ∧ c ≤ l.length) && decide (0 ≤ m ∧ m ≤ l.length)
def isCtl (a : Int) : Bool := decide (a < 32 ∨ a = 127)
def isWide2 (a : Int) : Bool := decide ((4352 ≤ a ∧ a ≤ 4447) ∨ (11904 ≤ a ∧ a ≤ 42191) ∨ (44032 ≤ a ∧ a ≤ 55203) ∨ (63744 ≤ a ∧ a ≤ 64255) ∨ (65281 ≤ a ∧ a ≤ 65376) ∨ (127744 ≤ a ∧ a ≤ 129791))
def wid (a : Int) : Int := if isPt a = true ∧ ¬ (768 ≤ a ∧ a ≤ 879) then (if isCtl a = true ∨ isWide2 a = true then 2 else 1) else 0
def cl2 (a : Int) : Int := if (97 ≤ a ∧ a ≤ 122) ∨ (65 ≤ a ∧ a ≤ 90) ∨ (48 ≤ a ∧ a ≤ 57) ∨ a = 95 ∨ 128 ≤ a then 2 else 3
def cls (a : Int) : Int := if isPt a = true then (if a = 32 ∨ a = 9 ∨ a = 10 then 1 else cl2 a) else 0
theorem ptsOK_len {l : List Int} (h : ptsOK l = true) : l.length ≤ 300 := by
  unfold ptsOK at h
  simp only [Bool.and_eq_true, decide_eq_true_eq] at h
  exact h.1
theorem bufOK_len {l : List Int} {c m : Int} (h : bufOK l c m = true) : l.length ≤ 300 := by
  unfold bufOK at h
  simp only [Bool.and_eq_true] at h
  exact ptsOK_len h.1.1
theorem bufOK_all {l : List Int} {c m : Int} (h : bufOK l c m = true) : l.length ≤ 300 ∧ 0 ≤ c ∧ c ≤ l.length ∧ 0 ≤ m ∧ m ≤ l.length := by
  have hl := bufOK_len h
  unfold bufOK at h
  simp only [Bool.and_eq_true, decide_eq_true_eq] at h
  exact ⟨hl, h.1.2.1, h.1.2.2, h.2.1, h.2.2⟩
def cvKey (b : S96) : S98 := ⟨b.f0, b.f1, b.f2⟩
def szKeys : List (S96) → Nat
  | [] => 0
  | x :: l => x.f1.size + x.f2.size + szKeys l
theorem szKeys_nil : szKeys [] = 0 := rfl
theorem szKeys_cons (x : S96) (l : List (S96)) : szKeys (x :: l) = x.f1.size + x.f2.size + szKeys l := rfl
theorem szKeys_mem {l : List (S96)} {x : S96} (h : x ∈ l) : x.f1.size + x.f2.size ≤ szKeys l := by
  induction l with
  | nil => cases h
  | cons y l ih =>
    rw [szKeys_cons]
    rcases List.mem_cons.1 h with rfl | h
    · omega
    · have := ih h; omega
theorem rdKeyA {l : List (S96)} {i : Nat} (h : i < l.length) : rd_T96 l (i : Int) = l[i] := by
  unfold rd_T96
  rw [Int.toNat_natCast, List.getD_eq_getElem?_getD, List.getElem?_eq_getElem h]
  rfl
theorem rdKeyB {l : List (S98)} {i : Nat} (h : i < l.length) : rd_T98 l (i : Int) = l[i] := by
  unfold rd_T98
  rw [Int.toNat_natCast, List.getD_eq_getElem?_getD, List.getElem?_eq_getElem h]
  rfl
theorem laws_szKey.eq {m : Int} {s t : ByteArray} {a : Int} (h0 : 0 ≤ a) (h1 : a ≤ 1048576) (hs : s.size ≤ 9223372036854775807) (ht : t.size ≤ 9223372036854775807) : laws_szKey.f m s t a = some (if a < ((s.size + t.size : Nat) : Int) then -1 else a - ((s.size + t.size : Nat) : Int)) := by
  unfold laws_szKey.f
  rw [wrap_in (x := a - (s.size : Int)) (by omega) (by omega)]
  by_cases h : a - (s.size : Int) < 0
  · rw [if_pos h, if_pos (by omega)]
  · rw [if_neg h, wrap_in (by omega) (by omega)]
    by_cases h2 : a - (s.size : Int) - (t.size : Int) < 0
    · rw [if_pos h2, if_pos (by omega)]
    · rw [if_neg h2, if_neg (by omega)]
      refine congrArg some ?_
      omega
theorem laws_szKeyS.loop (l : List (S96)) (hl : l.length ≤ 1048576) (hL : ∀ x ∈ l, x.f1.size ≤ 9223372036854775807 ∧ x.f2.size ≤ 9223372036854775807) (d : Nat) : ∀ (k i : Nat) (a : Int), 0 ≤ a → a ≤ 1048576 → i ≤ l.length → l.length - i = d → d < k → laws_szKeyS.l0 k l a (i : Int) = some (if a < (szKeys (l.drop i) : Int) then -1 else a - (szKeys (l.drop i) : Int)) := by
  induction d with
  | zero =>
    intro k i a h0 h1 hi hd hk
    obtain ⟨k, rfl⟩ : ∃ m, k = m + 1 := ⟨k - 1, by omega⟩
    simp only [laws_szKeyS.l0]
    rw [if_neg (by omega), List.drop_eq_nil_of_le (by omega), szKeys_nil, if_neg (by omega)]
    simp
  | succ d ih =>
    intro k i a h0 h1 hi hd hk
    obtain ⟨k, rfl⟩ : ∃ m, k = m + 1 := ⟨k - 1, by omega⟩
    have hlt : i < l.length := by omega
    have hx := hL l[i] (List.getElem_mem hlt)
    simp only [laws_szKeyS.l0]
    rw [if_pos (int_lt hlt), if_pos (int_nn i), rdKeyA hlt, laws_szKey.eq h0 h1 hx.1 hx.2]
    simp only [Option.bind_some]
    rw [List.drop_eq_getElem_cons hlt, szKeys_cons]
    by_cases h : a < ((l[i].f1.size + l[i].f2.size : Nat) : Int)
    · rw [if_pos h, if_pos (by omega), if_pos (by omega)]
    · rw [if_neg h, if_neg (by omega), wrap_succ (by omega), ih k (i + 1) _ (by omega) (by omega) (by omega) (by omega) (by omega)]
      by_cases h2 : a - ((l[i].f1.size + l[i].f2.size : Nat) : Int) < (szKeys (l.drop (i + 1)) : Int)
      · rw [if_pos h2, if_pos (by omega)]
      · rw [if_neg h2, if_neg (by omega)]
        refine congrArg some ?_
        omega
theorem laws_szKeyS.eq {l : List (S96)} {a : Int} {k : Nat} (h0 : 0 ≤ a) (h1 : a ≤ 1048576) (hl : l.length ≤ 9223372036854775807) (hL : ∀ x ∈ l, x.f1.size ≤ 9223372036854775807 ∧ x.f2.size ≤ 9223372036854775807) (hk : 1048577 < k) : laws_szKeyS.f k l a = some (if a < ((l.length + szKeys l : Nat) : Int) then -1 else a - ((l.length + szKeys l : Nat) : Int)) := by
  unfold laws_szKeyS.f
  rw [wrap_in (by omega) (by omega)]
  by_cases h : a < (l.length : Int)
  · rw [if_pos (by omega), if_pos (by omega)]
  · rw [if_neg (by omega)]
    have := laws_szKeyS.loop l (by omega) hL l.length k 0 (a - (l.length : Int)) (by omega) (by omega) (by omega) (by omega) (by omega)
    rw [List.drop_zero] at this
    refine (show _ = _ from this).trans ?_
    by_cases h2 : a - (l.length : Int) < (szKeys l : Int)
    · rw [if_pos h2, if_pos (by omega)]
    · rw [if_neg h2, if_neg (by omega)]
      refine congrArg some ?_
      omega
theorem laws_toKeyS.loop (l : List (S96)) (hl : l.length ≤ 1048576) (d : Nat) : ∀ (k i : Nat), i ≤ l.length → l.length - i = d → d < k → laws_toKeyS.l0 k l ((l.take i).map cvKey ++ List.replicate (l.length - i) z98) (i : Int) = some (l.map cvKey) := by
  induction d with
  | zero =>
    intro k i hi hd hk
    obtain ⟨k, rfl⟩ : ∃ m, k = m + 1 := ⟨k - 1, by omega⟩
    obtain rfl : i = l.length := by omega
    simp only [laws_toKeyS.l0]
    rw [if_neg (by omega)]
    simp
  | succ d ih =>
    intro k i hi hd hk
    obtain ⟨k, rfl⟩ : ∃ m, k = m + 1 := ⟨k - 1, by omega⟩
    have hlt : i < l.length := by omega
    simp only [laws_toKeyS.l0]
    rw [if_pos (int_lt hlt), if_pos (int_nn i), rdKeyA hlt]
    simp only [laws_toKey.f, Option.bind_some]
    rw [if_pos (by simp; omega), wrap_succ (by omega), Int.toNat_natCast]
    have hs : ((l.take i).map cvKey ++ List.replicate (l.length - i) z98).set i (cvKey l[i]) = (l.take (i + 1)).map cvKey ++ List.replicate (l.length - (i + 1)) z98 := by
      have h1 : ((l.take i).map cvKey).length = i := by simp; omega
      rw [List.set_append_right _ _ (by omega), h1, Nat.sub_self, show l.length - i = (l.length - (i + 1)) + 1 by omega, List.replicate_succ, List.set_cons_zero, List.take_succ_eq_append_getElem hlt, List.map_append, List.append_assoc]
      rfl
    refine (congrArg (fun z => laws_toKeyS.l0 k l z ((i + 1 : Nat) : Int)) hs).trans ?_
    exact ih k (i + 1) (by omega) (by omega) (by omega)
theorem laws_toKeyS.eq {l : List (S96)} {k : Nat} (h : l.length ≤ 1048576) (hk : 1048577 < k) : laws_toKeyS.f k l = some (l.map cvKey) := by
  unfold laws_toKeyS.f
  rw [if_pos (by omega), if_pos (by omega), Int.toNat_natCast]
  have := laws_toKeyS.loop l h l.length k 0 (by omega) (by omega) (by omega)
  simpa using this
theorem laws_eqKeyS.loop (a : List (S98)) (hl : a.length ≤ 1048576) (d : Nat) : ∀ (k i : Nat), i ≤ a.length → a.length - i = d → d < k → laws_eqKeyS.l0 k a a (i : Int) = some true := by
  induction d with
  | zero =>
    intro k i hi hd hk
    obtain ⟨k, rfl⟩ : ∃ m, k = m + 1 := ⟨k - 1, by omega⟩
    simp only [laws_eqKeyS.l0]
    rw [if_neg (by omega)]
  | succ d ih =>
    intro k i hi hd hk
    obtain ⟨k, rfl⟩ : ∃ m, k = m + 1 := ⟨k - 1, by omega⟩
    have hlt : i < a.length := by omega
    simp only [laws_eqKeyS.l0]
    rw [if_pos (int_lt hlt), if_pos (int_nn i), if_pos (int_lt hlt), rdKeyB hlt, wrap_succ (by omega)]
    unfold laws_eqKey.f
    simp only [if_true, Option.bind_some]
    exact ih k (i + 1) (by omega) (by omega) (by omega)
theorem laws_eqKeyS.refl {a : List (S98)} {k : Nat} (hl : a.length ≤ 1048576) (hk : 1048577 < k) : laws_eqKeyS.f k a a = some true := by
  unfold laws_eqKeyS.f
  rw [if_pos rfl]
  exact laws_eqKeyS.loop a hl a.length k 0 (by omega) (by omega) (by omega)
theorem impl_within.eq (a b c : Int) : impl_within.f a b c = some (decide (b ≤ a ∧ a ≤ c)) := by
  unfold impl_within.f
  by_cases h : b ≤ a <;> simp [h]
theorem cmpB (x : List UInt8) : ∀ y, Lib.compareBytes x y < 0 ↔ Op.bytesLess x y = true := by
  induction x with
  | nil => intro y; cases y <;> simp [Lib.compareBytes, Op.bytesLess]
  | cons a x ih =>
    intro y
    cases y with
    | nil => simp [Lib.compareBytes, Op.bytesLess]
    | cons b y =>
      unfold Lib.compareBytes Op.bytesLess
      by_cases h1 : a < b
      · simp [h1]
      · by_cases h2 : b < a
        · have h3 : ¬ a = b := fun e => by subst e; exact h1 h2
          simp [h1, h2, h3]
        · have h3 : a = b := UInt8.le_antisymm (UInt8.not_lt.1 h2) (UInt8.not_lt.1 h1)
          subst h3
          simp [h1, ih y]
def chOK (c : Int) : Bool := decide ((97 ≤ c ∧ c ≤ 122) ∨ c = 45)
def nmF (s : ByteArray) : Nat → Nat → Bool
  | 0, _ => true
  | d + 1, i => chOK (bt s (i : Int)) && nmF s d (i + 1)
def nameOK (s : ByteArray) : Bool := decide (1 ≤ s.size ∧ s.size ≤ 20) && nmF s s.size 0
theorem spec_l07Name.loop (s : ByteArray) (hs : s.size ≤ 1048576) (d : Nat) : ∀ (k i : Nat), i ≤ s.size → s.size - i = d → d < k → spec_l07Name.l0 k s (i : Int) = some (nmF s d i) := by
  induction d with
  | zero =>
    intro k i hi hd hk
    obtain ⟨k, rfl⟩ : ∃ m, k = m + 1 := ⟨k - 1, by omega⟩
    rw [spec_l07Name.l0, if_neg (by omega)]
    rfl
  | succ d ih =>
    intro k i hi hd hk
    obtain ⟨k, rfl⟩ : ∃ m, k = m + 1 := ⟨k - 1, by omega⟩
    have h := ih k (i + 1) (by omega) (by omega) (by omega)
    rw [spec_l07Name.l0, if_pos (by omega), if_pos (int_nn i), wrap_succ (by omega), h]
    show _ = some (chOK (bt s (i : Int)) && nmF s d (i + 1))
    unfold chOK
    generalize bt s (i : Int) = c
    by_cases h1 : c ≥ 97
    · rw [if_pos h1]
      by_cases h2 : c ≤ 122
      · rw [if_pos h2, decide_eq_true (show (97 ≤ c ∧ c ≤ 122) ∨ c = 45 by omega), Bool.true_and]
      · rw [if_neg h2, if_neg (by omega), decide_eq_false (show ¬ ((97 ≤ c ∧ c ≤ 122) ∨ c = 45) by omega), Bool.false_and]
    · rw [if_neg h1]
      by_cases h2 : c = 45
      · rw [if_pos h2, decide_eq_true (show (97 ≤ c ∧ c ≤ 122) ∨ c = 45 by omega), Bool.true_and]
      · rw [if_neg h2, decide_eq_false (show ¬ ((97 ≤ c ∧ c ≤ 122) ∨ c = 45) by omega), Bool.false_and]
theorem spec_l07Name.eq (s : ByteArray) (hs : s.size ≤ 1048576) {k : Nat} (hk : s.size + 2 < k) : spec_l07Name.f k s = some (nameOK s) := by
  obtain ⟨k, rfl⟩ : ∃ m, k = m + 1 := ⟨k - 1, by omega⟩
  have hj : ∀ b : Bool, spec_l07Name.j0 (k + 1) s b = some (!b && nmF s s.size 0) := by
    intro b
    have := spec_l07Name.loop s hs s.size k 0 (by omega) (by omega) (by omega)
    cases b
    · rw [spec_l07Name.j0]
      exact this
    · rw [spec_l07Name.j0]
      rfl
  unfold spec_l07Name.f nameOK
  rw [hj, hj]
  by_cases h1 : (s.size : Int) < 1
  · rw [if_pos h1, decide_eq_false (show ¬ (1 ≤ s.size ∧ s.size ≤ 20) by omega)]
    rfl
  · rw [if_neg h1]
    by_cases h2 : (s.size : Int) > 20
    · rw [decide_eq_true h2, decide_eq_false (show ¬ (1 ≤ s.size ∧ s.size ≤ 20) by omega)]
      rfl
    · rw [decide_eq_false h2, decide_eq_true (show 1 ≤ s.size ∧ s.size ≤ 20 by omega)]
      rfl
theorem impl_isKeyName.loop (s : ByteArray) (hs : s.size ≤ 1048576) (d : Nat) : ∀ (k i : Nat), i ≤ s.size → s.size - i = d → d < k → impl_isKeyName.l0 k s (s.size : Int) (i : Int) = some (nmF s d i && decide (1 ≤ s.size ∧ s.size ≤ 20)) := by
  induction d with
  | zero =>
    intro k i hi hd hk
    obtain ⟨k, rfl⟩ : ∃ m, k = m + 1 := ⟨k - 1, by omega⟩
    rw [impl_isKeyName.l0, if_neg (by omega), impl_within.eq]
    simp only [Option.bind_some, nmF, Bool.true_and]
    exact congrArg some (decide_eq_decide.2 (by omega))
  | succ d ih =>
    intro k i hi hd hk
    obtain ⟨k, rfl⟩ : ∃ m, k = m + 1 := ⟨k - 1, by omega⟩
    have h := ih k (i + 1) (by omega) (by omega) (by omega)
    rw [impl_isKeyName.l0, if_pos (by omega), if_pos (int_nn i), if_pos (by omega), wrap_succ (by omega), h]
    show _ = some (chOK (bt s (i : Int)) && nmF s d (i + 1) && decide (1 ≤ s.size ∧ s.size ≤ 20))
    unfold chOK
    generalize bt s (i : Int) = c
    by_cases h1 : c ≥ 97
    · rw [if_pos h1]
      by_cases h2 : c ≤ 122
      · rw [if_pos h2, decide_eq_true (show (97 ≤ c ∧ c ≤ 122) ∨ c = 45 by omega), Bool.true_and]
      · rw [if_neg h2, if_neg (by omega), decide_eq_false (show ¬ ((97 ≤ c ∧ c ≤ 122) ∨ c = 45) by omega), Bool.false_and, Bool.false_and]
    · rw [if_neg h1]
      by_cases h2 : c = 45
      · rw [if_pos h2, decide_eq_true (show (97 ≤ c ∧ c ≤ 122) ∨ c = 45 by omega), Bool.true_and]
      · rw [if_neg h2, decide_eq_false (show ¬ ((97 ≤ c ∧ c ≤ 122) ∨ c = 45) by omega), Bool.false_and, Bool.false_and]
theorem impl_isKeyName.eq (s : ByteArray) (hs : s.size ≤ 1048576) {k : Nat} (hk : s.size < k) : impl_isKeyName.f k s = some (nameOK s) := by
  have := impl_isKeyName.loop s hs s.size k 0 (by omega) (by omega) hk
  unfold nameOK
  rw [Bool.and_comm]
  exact this
def keyOK (x : S98) : Bool := decide (1 ≤ x.f0 ∧ x.f0 ≤ 9) && (decide (1 ≤ x.f1.size ∧ x.f1.size ≤ 6) && nameOK x.f2)
def befK (x y : S98) : Bool := decide (x.f0 < y.f0 ∨ (x.f0 = y.f0 ∧ Op.bytesLess x.f1.toList y.f1.toList = true))
def krF (l : List S98) : Nat → Nat → Bool
  | 0, _ => true
  | d + 1, i => keyOK (rd_T98 l (i : Int)) && ((decide (i = 0) || befK (rd_T98 l ((i - 1 : Nat) : Int)) (rd_T98 l (i : Int))) && krF l d (i + 1))
def keysOK (l : List S98) : Bool := decide (l.length ≤ 60) && krF l l.length 0
theorem spec_l07Before.eq (x y : S98) : spec_l07Before.f x.f0 x.f1 x.f2 y.f0 y.f1 y.f2 = some (befK x y) := by
  unfold spec_l07Before.f befK
  by_cases h1 : x.f0 < y.f0
  · rw [if_pos h1, decide_eq_true (Or.inl h1)]
  · rw [if_neg h1]
    by_cases h2 : x.f0 = y.f0
    · rw [if_pos h2]
      refine congrArg some ?_
      rw [Bool.eq_iff_iff, decide_eq_true_eq]
      exact ⟨fun e => Or.inr ⟨h2, e⟩, fun e => (e.resolve_left h1).2⟩
    · rw [if_neg h2, decide_eq_false (fun e => e.elim h1 (fun g => h2 g.1))]
theorem cmp_Or_int.eq (a b : Int) {k : Nat} (hk : 3 < k) : cmp_Or_int.f k [a, b] = some (if a = 0 then b else a) := by
  obtain ⟨k, rfl⟩ : ∃ m, k = m + 3 := ⟨k - 3, by omega⟩
  have r0 : rd [a, b] 0 = a := rfl
  have r1 : rd [a, b] 1 = b := rfl
  have w0 : wrap64 (0 + 1) = 1 := by unfold wrap64; omega
  have w1 : wrap64 (1 + 1) = 2 := by unfold wrap64; omega
  show cmp_Or_int.l0 (k + 3) 0 [a, b] 2 0 = _
  rw [cmp_Or_int.l0, if_pos (by decide), if_pos (by decide), if_pos (by simp), r0, w0]
  by_cases h : a = 0
  · rw [if_pos h, if_pos h, cmp_Or_int.l0, if_pos (by decide), if_pos (by decide), if_pos (by simp), r1, w1]
    by_cases h2 : b = 0
    · rw [if_pos h2, cmp_Or_int.l0, if_neg (by decide), h2]
    · rw [if_neg h2]
  · rw [if_neg h, if_neg h]
theorem impl_compareKeys.eq (x y : S98) {k : Nat} (hk : 3 < k) : ∃ c, impl_compareKeys.f k x.f0 x.f1 x.f2 y.f0 y.f1 y.f2 = some c ∧ (c ≥ 0 ↔ befK x y = false) := by
  unfold impl_compareKeys.f strings_Compare.f bytealg_CompareString.f cmp_Compare_int64.f cmp_isNaN_int64.f
  simp only [Option.bind_some, bne_self_eq_false, Bool.false_eq_true, if_false]
  have hb := cmpB x.f1.data.toList y.f1.data.toList
  unfold befK
  rw [Lib.toList_data, Lib.toList_data]
  by_cases h1 : x.f0 < y.f0
  · rw [if_pos h1]
    simp only [Option.bind_some]
    rw [cmp_Or_int.eq _ _ hk, if_neg (by decide)]
    refine ⟨_, rfl, ?_⟩
    rw [decide_eq_true (Or.inl h1)]
    decide
  · rw [if_neg h1]
    by_cases h2 : x.f0 > y.f0
    · rw [if_pos h2]
      simp only [Option.bind_some]
      rw [cmp_Or_int.eq _ _ hk, if_neg (by decide)]
      refine ⟨_, rfl, ?_⟩
      rw [decide_eq_false (fun e => e.elim h1 (fun g => by omega))]
      decide
    · rw [if_neg h2]
      simp only [Option.bind_some]
      rw [cmp_Or_int.eq _ _ hk, if_pos rfl]
      refine ⟨_, rfl, ?_⟩
      have e : x.f0 = y.f0 := by omega
      rw [decide_eq_false_iff_not]
      constructor
      · intro g q
        have := hb.2 (q.resolve_left h1).2
        omega
      · intro g
        by_cases q : Lib.compareBytes x.f1.data.toList y.f1.data.toList < 0
        · exact absurd (Or.inr ⟨e, hb.1 q⟩) g
        · omega
theorem impl_keyRight.eq (x : S98) (hs : x.f2.size ≤ 1048576) {k : Nat} (hk : x.f2.size < k) : impl_keyRight.f k x.f0 x.f1 x.f2 = some (keyOK x) := by
  unfold impl_keyRight.f keyOK
  simp only [impl_within.eq, Option.bind_some, decide_eq_true_eq]
  by_cases h1 : 1 ≤ x.f0 ∧ x.f0 ≤ 9
  · rw [if_pos h1, decide_eq_true h1, Bool.true_and]
    by_cases h2 : 1 ≤ x.f1.size ∧ x.f1.size ≤ 6
    · rw [if_pos (by omega), impl_isKeyName.eq _ hs hk, decide_eq_true h2, Bool.true_and]
      rfl
    · rw [if_neg (by omega), decide_eq_false h2, Bool.false_and]
  · rw [if_neg h1, decide_eq_false h1, Bool.false_and]
theorem rdKey_mem {l : List S98} {i : Nat} (h : i < l.length) : rd_T98 l (i : Int) ∈ l := by
  rw [rdKeyB h]
  exact List.getElem_mem h
theorem spec_KeysRight.loop (l : List S98) (hl : l.length ≤ 1048576) (hL : ∀ x ∈ l, x.f2.size ≤ 1048576) (d : Nat) : ∀ (k i : Nat), i ≤ l.length → l.length - i = d → d + 1048600 < k → spec_KeysRight.l0 k l (i : Int) = some (krF l d i) := by
  induction d with
  | zero =>
    intro k i hi hd hk
    obtain ⟨k, rfl⟩ : ∃ m, k = m + 1 := ⟨k - 1, by omega⟩
    rw [spec_KeysRight.l0, if_neg (by omega)]
    rfl
  | succ d ih =>
    intro k i hi hd hk
    obtain ⟨k, rfl⟩ : ∃ m, k = m + 1 := ⟨k - 1, by omega⟩
    have hlt : i < l.length := by omega
    have hx := hL _ (rdKey_mem hlt)
    have h := ih k (i + 1) (by omega) (by omega) (by omega)
    rw [spec_KeysRight.l0, if_pos (int_lt hlt), if_pos (int_nn i), wrap_succ (by omega), h, spec_l07Name.eq _ hx (by omega)]
    show _ = some (keyOK (rd_T98 l (i : Int)) && ((decide (i = 0) || befK (rd_T98 l ((i - 1 : Nat) : Int)) (rd_T98 l (i : Int))) && krF l d (i + 1)))
    simp only [Option.bind_some]
    unfold keyOK
    by_cases h1 : (rd_T98 l (i : Int)).f0 < 1
    · rw [if_pos h1, decide_eq_false (show ¬ (1 ≤ (rd_T98 l (i : Int)).f0 ∧ (rd_T98 l (i : Int)).f0 ≤ 9) by omega), Bool.false_and, Bool.false_and]
    rw [if_neg h1]
    by_cases h2 : (rd_T98 l (i : Int)).f0 > 9
    · rw [if_pos h2, decide_eq_false (show ¬ (1 ≤ (rd_T98 l (i : Int)).f0 ∧ (rd_T98 l (i : Int)).f0 ≤ 9) by omega), Bool.false_and, Bool.false_and]
    rw [if_neg h2, decide_eq_true (show 1 ≤ (rd_T98 l (i : Int)).f0 ∧ (rd_T98 l (i : Int)).f0 ≤ 9 by omega), Bool.true_and]
    by_cases h3 : ((rd_T98 l (i : Int)).f1.size : Int) < 1
    · rw [if_pos h3, decide_eq_false (show ¬ (1 ≤ (rd_T98 l (i : Int)).f1.size ∧ (rd_T98 l (i : Int)).f1.size ≤ 6) by omega), Bool.false_and, Bool.false_and]
    rw [if_neg h3]
    by_cases h4 : ((rd_T98 l (i : Int)).f1.size : Int) > 6
    · rw [if_pos h4, decide_eq_false (show ¬ (1 ≤ (rd_T98 l (i : Int)).f1.size ∧ (rd_T98 l (i : Int)).f1.size ≤ 6) by omega), Bool.false_and, Bool.false_and]
    rw [if_neg h4, decide_eq_true (show 1 ≤ (rd_T98 l (i : Int)).f1.size ∧ (rd_T98 l (i : Int)).f1.size ≤ 6 by omega), Bool.true_and]
    by_cases h5 : nameOK (rd_T98 l (i : Int)).f2 = true
    · rw [if_pos h5, h5, Bool.true_and]
      by_cases h6 : i = 0
      · rw [if_neg (by omega), decide_eq_true h6, Bool.true_or, Bool.true_and]
      · rw [if_pos (by omega), wrap_in (by omega) (by omega), if_pos (by omega), if_pos (by omega), show (i : Int) - 1 = ((i - 1 : Nat) : Int) by omega, spec_l07Before.eq, decide_eq_false h6, Bool.false_or]
        simp only [Option.bind_some]
        by_cases h7 : befK (rd_T98 l ((i - 1 : Nat) : Int)) (rd_T98 l (i : Int)) = true
        · rw [if_pos h7, h7, Bool.true_and]
        · rw [if_neg h7]
          rw [Bool.not_eq_true] at h7
          rw [h7, Bool.false_and]
    · rw [if_neg h5]
      rw [Bool.not_eq_true] at h5
      rw [h5, Bool.false_and]
theorem spec_KeysRight.eq {l : List S98} (hl : l.length ≤ 1048576) (hL : ∀ x ∈ l, x.f2.size ≤ 1048576) {k : Nat} (hk : 3000000 < k) : spec_KeysRight.f k l = some (keysOK l) := by
  unfold spec_KeysRight.f keysOK
  by_cases h : l.length ≤ 60
  · have := spec_KeysRight.loop l hl hL l.length k 0 (by omega) (by omega) (by omega)
    rw [if_neg (by omega), decide_eq_true h, Bool.true_and]
    exact this
  · rw [if_pos (by omega), decide_eq_false h, Bool.false_and]
theorem impl_KeysRight.loop (l : List S98) (hl : l.length ≤ 1048576) (hL : ∀ x ∈ l, x.f2.size ≤ 1048576) (d : Nat) : ∀ (k i : Nat), i ≤ l.length → l.length - i = d → d + 1048600 < k → impl_KeysRight.l0 k l l (l.length : Int) (i : Int) = some (krF l d i && decide (l.length ≤ 60)) := by
  induction d with
  | zero =>
    intro k i hi hd hk
    obtain ⟨k, rfl⟩ : ∃ m, k = m + 1 := ⟨k - 1, by omega⟩
    rw [impl_KeysRight.l0, if_neg (by omega)]
    simp only [krF, Bool.true_and]
    exact congrArg some (decide_eq_decide.2 (by omega))
  | succ d ih =>
    intro k i hi hd hk
    obtain ⟨k, rfl⟩ : ∃ m, k = m + 1 := ⟨k - 1, by omega⟩
    have hlt : i < l.length := by omega
    have hx := hL _ (rdKey_mem hlt)
    have h := ih k (i + 1) (by omega) (by omega) (by omega)
    rw [impl_KeysRight.l0, if_pos (int_lt hlt), if_pos (int_nn i), if_pos (int_lt hlt), wrap_succ (by omega), h, impl_keyRight.eq _ hx (by omega)]
    show _ = some (keyOK (rd_T98 l (i : Int)) && ((decide (i = 0) || befK (rd_T98 l ((i - 1 : Nat) : Int)) (rd_T98 l (i : Int))) && krF l d (i + 1)) && decide (l.length ≤ 60))
    simp only [Option.bind_some]
    by_cases h5 : keyOK (rd_T98 l (i : Int)) = true
    · rw [if_pos h5, h5, Bool.true_and]
      by_cases h6 : i = 0
      · rw [if_neg (by omega), decide_eq_true h6, Bool.true_or, Bool.true_and]
      · obtain ⟨c, hc, hb⟩ := impl_compareKeys.eq (rd_T98 l ((i - 1 : Nat) : Int)) (rd_T98 l (i : Int)) (k := k) (by omega)
        rw [if_pos (by omega), wrap_in (by omega) (by omega), if_pos (by omega), if_pos (by omega), show (i : Int) - 1 = ((i - 1 : Nat) : Int) by omega, hc, decide_eq_false h6, Bool.false_or]
        simp only [Option.bind_some]
        by_cases h7 : c ≥ 0
        · rw [if_pos h7, hb.1 h7, Bool.false_and, Bool.false_and]
        · have h8 : befK (rd_T98 l ((i - 1 : Nat) : Int)) (rd_T98 l (i : Int)) = true := by
            rw [← Bool.not_eq_false]
            exact fun e => h7 (hb.2 e)
          rw [if_neg h7, h8, Bool.true_and]
    · rw [if_neg h5]
      rw [Bool.not_eq_true] at h5
      rw [h5, Bool.false_and, Bool.false_and]
theorem impl_KeysRight.eq {l : List S98} (hl : l.length ≤ 1048576) (hL : ∀ x ∈ l, x.f2.size ≤ 1048576) {k : Nat} (hk : 3000000 < k) : impl_KeysRight.f k l = some (keysOK l) := by
  have := impl_KeysRight.loop l hl hL l.length k 0 (by omega) (by omega) (by omega)
  unfold keysOK
  rw [Bool.and_comm]
  exact this
theorem impl_isLong.eq (q : ByteArray) {k : Nat} (hk : 3 < k) : impl_isLong.f k [q] = some (decide ((q.size : Int) > 20000)) := by
  obtain ⟨k, rfl⟩ : ∃ m, k = m + 3 := ⟨k - 3, by omega⟩
  have w0 : wrap64 (0 + 1) = 1 := by unfold wrap64; omega
  have e : slices_IndexFunc_sstring_string.f (k + 3) [q] = some (if (q.size : Int) > 20000 then 0 else -1) := by
    show slices_IndexFunc_sstring_string.l0 (k + 3) [q] 1 0 = _
    rw [slices_IndexFunc_sstring_string.l0, if_pos (by decide), if_pos (by decide), if_pos (by simp), w0]
    show (impl_isLong_1.f q).bind _ = _
    unfold impl_isLong_1.f
    simp only [Option.bind_some, decide_eq_true_eq]
    by_cases h : (q.size : Int) > 20000
    · rw [if_pos h, if_pos h]
    · rw [if_neg h, if_neg h, slices_IndexFunc_sstring_string.l0, if_neg (by decide)]
  unfold impl_isLong.f slices_ContainsFunc_sstring_string.f
  rw [e]
  simp only [Option.bind_some]
  by_cases h : (q.size : Int) > 20000
  · rw [if_pos h, decide_eq_true h]
    rfl
  · rw [if_neg h, decide_eq_false h]
    rfl
theorem strings_HasPrefix.eq (a b : ByteArray) : strings_HasPrefix.f a b = some (if b.size ≤ a.size then (a.extract 0 b.size).toList == b.toList else false) := by
  unfold strings_HasPrefix.f stringslite_HasPrefix.f
  by_cases h : b.size ≤ a.size
  · rw [if_pos (by omega), if_pos (by omega), if_pos (by omega), if_pos h, Int.toNat_natCast]
    rfl
  · rw [if_neg (by omega), if_neg h]
    rfl
def eB : ByteArray := ⟨#[]⟩
def mtF : Nat → Int → ByteArray → ByteArray
  | 0, _, s => (⟨#[109]⟩ : ByteArray) ++ s
  | d + 1, n, s => if n > 0 then mtF d (Int.tdiv n 10) (strOfNums [(wrap64 (48 + (Int.tmod n 10))) % 256] ++ s) else (⟨#[109]⟩ : ByteArray) ++ s
def mtV (n : Int) : ByteArray := if n ≤ 0 then (⟨#[109, 48]⟩ : ByteArray) else mtF 12 n (⟨#[]⟩ : ByteArray)
theorem strOfNums_one (x : Int) : (strOfNums [x]).size = 1 := rfl
theorem laws_markText.loop (d : Nat) : ∀ (n k : Nat) (s : ByteArray), n < 10 ^ d → n ≤ 1000000000000 → d < k → s.size + d ≤ 1000000 → laws_markText.l0 k (n : Int) s = some (mtF d (n : Int) s) := by
  induction d with
  | zero =>
    intro n k s hn hn2 hk hs
    obtain ⟨k, rfl⟩ : ∃ m, k = m + 1 := ⟨k - 1, by omega⟩
    rw [laws_markText.l0, if_neg (by have : n < 1 := hn; omega), if_pos (by omega), mtF]
  | succ d ih =>
    intro n k s hn hn2 hk hs
    obtain ⟨k, rfl⟩ : ∃ m, k = m + 1 := ⟨k - 1, by omega⟩
    rw [laws_markText.l0, mtF]
    by_cases h : (n : Int) > 0
    · have e : Int.tdiv (n : Int) 10 = ((n / 10 : Nat) : Int) := rfl
      have hb : n / 10 < 10 ^ d := by
        rw [Nat.pow_succ] at hn
        exact Nat.div_lt_of_lt_mul (by rw [Nat.mul_comm]; exact hn)
      rw [if_pos h, if_pos h]
      simp only [Option.bind_some]
      rw [strOfNums_one, if_pos (by omega), e, wrap_in (x := ((n / 10 : Nat) : Int)) (by omega) (by omega), ih (n / 10) k _ hb (by omega) (by omega) ?_]
      · rw [ByteArray.size_append, strOfNums_one]
        omega
    · rw [if_neg h, if_neg h, if_pos (by omega)]
theorem laws_markText.eq {n : Int} {k : Nat} (h0 : 0 ≤ n) (h1 : n ≤ 100000000000) (hk : 20 < k) : laws_markText.f k n = some (mtV n) := by
  unfold laws_markText.f mtV
  by_cases h : n ≤ 0
  · rw [if_pos h, if_pos h]
  · rw [if_neg h, if_neg h]
    obtain ⟨m, rfl⟩ : ∃ m : Nat, n = (m : Int) := ⟨n.toNat, by omega⟩
    exact laws_markText.loop 12 m k _ (by have : (10 : Nat) ^ 12 = 1000000000000 := by decide
                                          omega) (by omega) (by omega) (by show 0 + 12 ≤ _; omega)
theorem tl_nil (q : ByteArray) : q.toList = [] ↔ q.size = 0 := by
  rw [ByteArray.toList_eq]
  show q.data.toList = [] ↔ q.data.size = 0
  rw [← Array.length_toList, List.length_eq_zero_iff]
def lkI (q : ByteArray) (a : Int) (b : ByteArray) (c : Int) : Prop := (a = 1 ∧ b = eB ∧ c = 0) ∨ (a = 3 ∧ 1 ≤ c ∧ c ≤ (q.size : Int))
theorem look2.loop (l : List S98) (m : Int) (q : ByteArray) (t : Bool) (hl : l.length ≤ 1048576) (d : Nat) : ∀ (k k' i : Nat) (a : Int) (b : ByteArray) (c : Int), i ≤ l.length → l.length - i = d → 2 * d < k → 2 * d < k' → lkI q a b c → ∃ v : Int × ByteArray × Int, spec_l07Look.l0 k l m q t (i : Int) a b c = some v ∧ impl_look.l0 k' m q (!t) l (l.length : Int) (i : Int) a b c = some v ∧ (v.1 = 2 ∨ lkI q v.1 v.2.1 v.2.2) := by
  induction d with
  | zero =>
    intro k k' i a b c hi hd hk hk' hI
    obtain ⟨k, rfl⟩ : ∃ m, k = m + 1 := ⟨k - 1, by omega⟩
    obtain ⟨k', rfl⟩ : ∃ m, k' = m + 1 := ⟨k' - 1, by omega⟩
    rw [spec_l07Look.l0, if_neg (by omega), impl_look.l0, if_neg (by omega)]
    exact ⟨_, rfl, rfl, Or.inr hI⟩
  | succ d ih =>
    intro k k' i a b c hi hd hk hk' hI
    obtain ⟨k, rfl⟩ : ∃ m, k = m + 2 := ⟨k - 2, by omega⟩
    obtain ⟨k', rfl⟩ : ∃ m, k' = m + 2 := ⟨k' - 2, by omega⟩
    have hlt : i < l.length := by omega
    have ih1 := ih (k + 1) (k' + 1) (i + 1) a b c (by omega) (by omega) (by omega) (by omega) hI
    have ih2 := ih (k + 1) k' (i + 1) a b c (by omega) (by omega) (by omega) (by omega) hI
    have ih3 := ih k k' (i + 1) a b c (by omega) (by omega) (by omega) (by omega) hI
    rw [spec_l07Look.l0, if_pos (int_lt hlt), if_pos (int_nn i), impl_look.l0, if_pos (int_lt hlt), if_pos (int_nn i), if_pos (int_lt hlt), wrap_succ (by omega)]
    generalize rd_T98 l (i : Int) = x
    by_cases h1 : x.f0 = m
    · rw [if_pos h1, if_pos h1]
      by_cases h2 : (x.f1.size : Int) > (q.size : Int)
      · rw [if_pos h2, if_pos h2]
        have hp : ∀ z, strings_HasPrefix.f q x.f1 = z → z = some false := by
          intro z hz
          rw [strings_HasPrefix.eq, if_neg (by omega)] at hz
          exact hz.symm
        have hp := hp _ rfl
        cases t
        · rw [if_neg (show ¬ false = true by decide), if_pos (show (0 : Int) ≤ (q.size : Int) by omega), if_pos (show (q.size : Int) ≤ (x.f1.size : Int) by omega), if_pos (show (!false) = true by decide), strings_HasPrefix.eq, if_pos (show q.size ≤ x.f1.size by omega), Int.toNat_natCast]
          simp only [Option.bind_some]
          rw [spec_l07Look.j1, impl_look.j1, wrap_succ (by omega)]
          by_cases h3 : ((x.f1.extract 0 q.size).toList == q.toList) = true
          · rw [if_pos h3, if_pos h3]
            exact ⟨_, rfl, rfl, Or.inl rfl⟩
          · rw [if_neg h3, if_neg h3, hp]
            simp only [Option.bind_some, Bool.false_eq_true, if_false]
            exact ih3
        · rw [if_pos (show true = true by decide), if_neg (show ¬ (!true) = true by decide)]
          rw [spec_l07Look.j1, impl_look.j1, wrap_succ (by omega), if_neg (show ¬ false = true by decide), if_neg (show ¬ false = true by decide), hp]
          simp only [Option.bind_some, Bool.false_eq_true, if_false]
          exact ih3
      · have hj : (if (!t) = true then (if (x.f1.size : Int) > (q.size : Int) then (strings_HasPrefix.f x.f1 q).bind fun t176 => impl_look.j1 (k' + 1) m q (!t) (x.f1.size : Int) l (l.length : Int) (i : Int) t176 a b c x.f0 x.f1 x.f2 else impl_look.j1 (k' + 1) m q (!t) (x.f1.size : Int) l (l.length : Int) (i : Int) false a b c x.f0 x.f1 x.f2) else impl_look.j1 (k' + 1) m q (!t) (x.f1.size : Int) l (l.length : Int) (i : Int) false a b c x.f0 x.f1 x.f2) = impl_look.j1 (k' + 1) m q (!t) (x.f1.size : Int) l (l.length : Int) (i : Int) false a b c x.f0 x.f1 x.f2 := by
          rw [if_neg h2]
          split <;> rfl
        rw [hj, if_neg h2, if_pos (show (0 : Int) ≤ (x.f1.size : Int) by omega), if_pos (show (x.f1.size : Int) ≤ (q.size : Int) by omega), Int.toNat_natCast, impl_look.j1, if_neg (show ¬ false = true by decide), wrap_succ (by omega), strings_HasPrefix.eq, if_pos (show x.f1.size ≤ q.size by omega)]
        simp only [Option.bind_some]
        by_cases h3 : (q.extract 0 x.f1.size).toList = x.f1.toList
        · rw [if_pos h3, if_pos (show ((q.extract 0 x.f1.size).toList == x.f1.toList) = true by rw [beq_iff_eq]; exact h3)]
          by_cases h4 : (x.f1.size : Int) > c
          · rw [if_pos h4, if_pos h4]
            refine ih (k + 1) k' (i + 1) _ _ _ (by omega) (by omega) (by omega) (by omega) (Or.inr ⟨rfl, ?_, by omega⟩)
            rcases hI with e | e <;> omega
          · rw [if_neg h4, if_neg h4]
            exact ih2
        · rw [if_neg h3, if_neg (show ¬ ((q.extract 0 x.f1.size).toList == x.f1.toList) = true by rw [beq_iff_eq]; exact h3)]
          exact ih2
    · rw [if_neg h1, if_neg h1]
      exact ih1
theorem look2.eq (l : List S98) (m : Int) (q : ByteArray) (t : Bool) (hl : l.length ≤ 1048576) {k k' : Nat} (hk : 2 * l.length < k) (hk' : 2 * l.length < k') : ∃ v : Int × ByteArray × Int, spec_l07Look.f k l m q t = some v ∧ impl_look.f k' l m q (!t) = some v ∧ (v.1 = 2 ∨ lkI q v.1 v.2.1 v.2.2) := by
  unfold spec_l07Look.f impl_look.f
  exact look2.loop l m q t hl l.length k k' 0 1 eB 0 (by omega) (by omega) (by omega) (by omega) (Or.inl ⟨rfl, rfl, rfl⟩)
theorem feed2.loop (l : List S98) (m : Int) (t : Bool) (hl : l.length ≤ 1048576) (n : Nat) : ∀ (q : ByteArray) (acc : List S153) (k k' : Nat), q.size ≤ n → acc.length + q.size ≤ 1048576 → n + 2 * l.length + 2 < k → n + 2 * l.length + 2 < k' → ∃ v : List S153 × ByteArray, spec_l07Feed.l0 k l m q t acc eB 0 = some (v.1, v.2, 0) ∧ impl_feed.l0 k' l m q t acc = some v ∧ v.1.length ≤ acc.length + q.size := by
  induction n with
  | zero =>
    intro q acc k k' hq ha hk hk'
    obtain ⟨k, rfl⟩ : ∃ m, k = m + 1 := ⟨k - 1, by omega⟩
    obtain ⟨k', rfl⟩ : ∃ m, k' = m + 1 := ⟨k' - 1, by omega⟩
    rw [spec_l07Feed.l0, if_neg (by omega), impl_feed.l0, if_pos ((tl_nil q).2 (by omega))]
    exact ⟨(acc, eB), rfl, rfl, by show acc.length ≤ _; omega⟩
  | succ n ih =>
    intro q acc k k' hq ha hk hk'
    obtain ⟨k, rfl⟩ : ∃ m, k = m + 1 := ⟨k - 1, by omega⟩
    obtain ⟨k', rfl⟩ : ∃ m, k' = m + 1 := ⟨k' - 1, by omega⟩
    by_cases h0 : q.size = 0
    · rw [spec_l07Feed.l0, if_neg (by omega), impl_feed.l0, if_pos ((tl_nil q).2 h0)]
      exact ⟨(acc, eB), rfl, rfl, by show acc.length ≤ _; omega⟩
    · obtain ⟨⟨v1, v2, v3⟩, e1, e2, e3⟩ := look2.eq l m q t hl (k := k) (k' := k') (by omega) (by omega)
      rw [spec_l07Feed.l0, if_pos (by omega), impl_feed.l0, if_neg (fun e => h0 ((tl_nil q).1 e)), e1, e2]
      simp only [Option.bind_some]
      simp only at e3
      by_cases g2 : v1 = 2
      · rw [if_pos g2, if_pos g2]
        exact ⟨(acc, q), rfl, rfl, by show acc.length ≤ _; omega⟩
      · rw [if_neg g2, if_neg g2]
        rcases e3 with e3 | ⟨r1, r2, r3⟩ | ⟨r1, r2, r3⟩
        · exact absurd e3 g2
        · have g3 : ¬ v1 = 3 := by omega
          have z1 : (1 : Int) ≤ (q.size : Int) := by omega
          have z2 : acc.length < 4398046511104 := by omega
          have hs : (q.extract 1 q.size).size = q.size - 1 := by rw [ByteArray.size_extract]; omega
          have hb : v2 = (⟨#[]⟩ : ByteArray) := r2
          rw [if_neg g3, if_neg g3, if_pos (show (0 : Nat) ≤ 1 by decide), if_pos z1, if_pos z2, if_pos (show (0 : Nat) ≤ 1 by decide), if_pos z1, if_pos z2, hb]
          obtain ⟨w, w1, w2, w3⟩ := ih (q.extract 1 q.size) (acc ++ [⟨(⟨#[]⟩ : ByteArray), q.extract 0 1⟩]) k k' (by omega) (by rw [List.length_append, List.length_singleton]; omega) (by omega) (by omega)
          rw [List.length_append, List.length_singleton] at w3
          exact ⟨w, w1, w2, by omega⟩
        · obtain ⟨n3, rfl⟩ : ∃ n3 : Nat, v3 = (n3 : Int) := ⟨v3.toNat, by omega⟩
          have z0 : (0 : Int) ≤ (n3 : Int) := by omega
          have z2 : acc.length < 4398046511104 := by omega
          have hs : (q.extract n3 q.size).size = q.size - n3 := by rw [ByteArray.size_extract]; omega
          rw [if_pos r1, if_pos r1, if_pos z0, if_pos r3, if_pos z2, if_pos z0, if_pos r3, if_pos z2, Int.toNat_natCast]
          obtain ⟨w, w1, w2, w3⟩ := ih (q.extract n3 q.size) (acc ++ [⟨v2, q.extract 0 n3⟩]) k k' (by omega) (by rw [List.length_append, List.length_singleton]; omega) (by omega) (by omega)
          rw [List.length_append, List.length_singleton] at w3
          exact ⟨w, w1, w2, by omega⟩
theorem KeyFeed2.eq {l : List S98} (m : Int) (q : ByteArray) (t : Bool) (hl : l.length ≤ 1048576) (hL : ∀ x ∈ l, x.f2.size ≤ 1048576) (hq : q.size ≤ 1048576) {k k' : Nat} (hk : 3500000 < k) (hk' : 3500000 < k') : ∃ v : List S153 × ByteArray × Int, spec_KeyFeed.f k l m q t = some v ∧ impl_KeyFeed.f k' l m q t = some v ∧ v.1.length ≤ 1048576 := by
  obtain ⟨k, rfl⟩ : ∃ m, k = m + 1 := ⟨k - 1, by omega⟩
  obtain ⟨k', rfl⟩ : ∃ m, k' = m + 1 := ⟨k' - 1, by omega⟩
  have N : ∀ c : Int, ((([] : List S153), (⟨#[]⟩ : ByteArray), c) : List S153 × ByteArray × Int).1.length ≤ 1048576 := fun c => Nat.zero_le _
  unfold spec_KeyFeed.f impl_KeyFeed.f impl_isMany.f
  simp only [Option.bind_some, decide_eq_true_eq]
  by_cases h1 : (l.length : Int) > 400
  · rw [if_pos h1, if_pos h1, spec_KeyFeed.j0, impl_KeyFeed.j0]
    exact ⟨_, rfl, rfl, N 2⟩
  · rw [if_neg h1, if_neg h1, impl_isLong.eq q (by omega)]
    simp only [Option.bind_some]
    rw [spec_KeyFeed.j0, impl_KeyFeed.j0]
    by_cases h2 : (q.size : Int) > 20000
    · rw [decide_eq_true h2]
      exact ⟨_, rfl, rfl, N 2⟩
    · rw [decide_eq_false h2, if_neg (show ¬ false = true by decide), if_neg (show ¬ false = true by decide), spec_KeysRight.eq hl hL (by omega), impl_KeysRight.eq hl hL (by omega), impl_within.eq]
      simp only [Option.bind_some]
      by_cases h3 : keysOK l = true
      · rw [if_pos h3, if_pos h3]
        by_cases h4 : 1 ≤ m ∧ m ≤ 9
        · rw [if_neg (show ¬ m < 1 by omega), if_neg (show ¬ m > 9 by omega), if_pos (decide_eq_true h4)]
          obtain ⟨w, w1, w2, w3⟩ := feed2.loop l m t hl q.size q [] k k' (by omega) (by simp; omega) (by omega) (by omega)
          rw [show spec_l07Feed.f k l m q t = _ from w1, show impl_feed.f k' l m q t = _ from w2]
          exact ⟨(w.1, w.2, 0), rfl, rfl, by show w.1.length ≤ _; simp at w3; omega⟩
        · rw [decide_eq_false h4, if_neg (show ¬ false = true by decide)]
          by_cases h5 : m < 1
          · rw [if_pos h5]
            exact ⟨_, rfl, rfl, N 1⟩
          · rw [if_neg h5, if_pos (show m > 9 by omega)]
            exact ⟨_, rfl, rfl, N 1⟩
      · rw [if_neg h3, if_neg h3]
        exact ⟨_, rfl, rfl, N 1⟩
theorem rdFed {l : List S153} {i : Nat} (h : i < l.length) : rd_T153 l (i : Int) = l[i] := by
  unfold rd_T153
  rw [Int.toNat_natCast, List.getD_eq_getElem?_getD, List.getElem?_eq_getElem h]
  rfl
theorem laws_eqFedS.loop (a : List S153) (hl : a.length ≤ 1048576) (d : Nat) : ∀ (k i : Nat), i ≤ a.length → a.length - i = d → d < k → laws_eqFedS.l0 k a a (i : Int) = some true := by
  induction d with
  | zero =>
    intro k i hi hd hk
    obtain ⟨k, rfl⟩ : ∃ m, k = m + 1 := ⟨k - 1, by omega⟩
    rw [laws_eqFedS.l0, if_neg (by omega)]
  | succ d ih =>
    intro k i hi hd hk
    obtain ⟨k, rfl⟩ : ∃ m, k = m + 1 := ⟨k - 1, by omega⟩
    have hlt : i < a.length := by omega
    rw [laws_eqFedS.l0, if_pos (int_lt hlt), if_pos (int_nn i), if_pos (int_lt hlt), laws_eqFed.f, if_pos rfl, if_pos rfl]
    simp only [Option.bind_some, if_true]
    rw [wrap_succ (by omega)]
    exact ih k (i + 1) (by omega) (by omega) (by omega)
theorem laws_eqFedOut.refl (l : List S153) (b : ByteArray) (c : Int) {k : Nat} (hl : l.length ≤ 1048576) (hk : 1048577 < k) : laws_eqFedOut.f k l b c l b c = some true := by
  unfold laws_eqFedOut.f laws_eqFedS.f
  rw [if_pos rfl, show laws_eqFedS.l0 k l l 0 = some true from laws_eqFedS.loop l hl l.length k 0 (by omega) (by omega) (by omega)]
  simp only [Option.bind_some, if_true]
theorem laws_markKeyS.loop (d : Nat) : ∀ (x : List S98) (k i : Nat) (a : Int), x.length ≤ 1048576 → i ≤ x.length → x.length - i = d → 1 ≤ a → a + 3 * (d : Int) ≤ 10000000 → d + 30 < k → ∃ v : Int × List S98, laws_markKeyS.l0 k x a (i : Int) = some v ∧ 0 ≤ v.1 := by
  induction d with
  | zero =>
    intro x k i a hx hi hd h1 h2 hk
    obtain ⟨k, rfl⟩ : ∃ m, k = m + 1 := ⟨k - 1, by omega⟩
    rw [laws_markKeyS.l0, if_neg (by omega)]
    exact ⟨_, rfl, by show 0 ≤ a; omega⟩
  | succ d ih =>
    intro x k i a hx hi hd h1 h2 hk
    obtain ⟨k, rfl⟩ : ∃ m, k = m + 1 := ⟨k - 1, by omega⟩
    have hlt : i < x.length := by omega
    rw [laws_markKeyS.l0, if_pos (int_lt hlt), if_pos (int_nn i), wrap_in (x := a + 1) (by omega) (by omega), wrap_in (x := a + 1 + 1) (by omega) (by omega), wrap_in (x := a + 1 + 1 + 1) (by omega) (by omega), laws_markText.eq (n := a + 1) (by omega) (by omega) (by omega), laws_markText.eq (n := a + 1 + 1) (by omega) (by omega) (by omega), wrap_succ (by omega)]
    simp only [Option.bind_some]
    exact ih _ k (i + 1) (a + 1 + 1 + 1) (by simp only [List.length_set]; omega) (by simp only [List.length_set]; omega) (by simp only [List.length_set]; omega) (by omega) (by omega) (by omega)
/-- the marks of what is fed -/
def mkFd : Nat → Int → List S153
  | 0, _ => []
  | n + 1, a => ⟨mtV a, mtV (a + 1)⟩ :: mkFd n (a + 2)
theorem mkFd_len (n : Nat) : ∀ a, (mkFd n a).length = n := by
  induction n with
  | zero => intro a; rfl
  | succ n ih => intro a; rw [mkFd, List.length_cons, ih]
theorem laws_markFedS.loop (d : Nat) : ∀ (x : List S153) (k i : Nat) (a : Int), x.length ≤ 1048576 → i ≤ x.length → x.length - i = d → 1 ≤ a → a + 2 * (d : Int) ≤ 10000000 → d + 30 < k → laws_markFedS.l0 k x a (i : Int) = some (a + 2 * (d : Int), x.take i ++ mkFd d a) := by
  induction d with
  | zero =>
    intro x k i a hx hi hd h1 h2 hk
    obtain ⟨k, rfl⟩ : ∃ m, k = m + 1 := ⟨k - 1, by omega⟩
    rw [laws_markFedS.l0, if_neg (by omega), mkFd, List.append_nil, List.take_of_length_le (by omega)]
    refine congrArg some (congrArg (fun z => (z, x)) ?_)
    omega
  | succ d ih =>
    intro x k i a hx hi hd h1 h2 hk
    obtain ⟨k, rfl⟩ : ∃ m, k = m + 1 := ⟨k - 1, by omega⟩
    have hlt : i < x.length := by omega
    rw [laws_markFedS.l0, if_pos (int_lt hlt), laws_markText.eq (n := a) (by omega) (by omega) (by omega)]
    simp only [Option.bind_some]
    rw [if_pos (int_nn i), wrap_in (x := a + 1) (by omega) (by omega), laws_markText.eq (n := a + 1) (by omega) (by omega) (by omega), wrap_in (x := a + 1 + 1) (by omega) (by omega), wrap_succ (by omega), Int.toNat_natCast]
    simp only [Option.bind_some]
    have hl1 : i < (x.set i ⟨mtV a, (rd_T153 x (i : Int)).f1⟩).length := by rw [List.length_set]; exact hlt
    rw [rdFed hl1, List.getElem_set_self, List.set_set]
    have hs : (x.set i (⟨mtV a, mtV (a + 1)⟩ : S153)).length = x.length := List.length_set
    have := ih (x.set i ⟨mtV a, mtV (a + 1)⟩) k (i + 1) (a + 1 + 1) (by omega) (by omega) (by omega) (by omega) (by omega) (by omega)
    refine (show _ = _ from this).trans ?_
    have ht : (x.set i (⟨mtV a, mtV (a + 1)⟩ : S153)).take (i + 1) = x.take i ++ [⟨mtV a, mtV (a + 1)⟩] := by
      rw [List.take_succ_eq_append_getElem (by omega), List.getElem_set_self, List.take_set_of_le (Nat.le_refl i)]
    rw [ht, mkFd, List.append_assoc, show a + 1 + 1 = a + 2 by omega]
    refine congrArg some ?_
    rw [show a + 2 + 2 * (d : Int) = a + 2 * ((d + 1 : Nat) : Int) by omega]
    rfl
theorem laws_heldFedS.loop (d : Nat) : ∀ (y : List S153) (k i : Nat) (a : Int), y.length ≤ 1048576 → i ≤ y.length → y.drop i = mkFd d a → 1 ≤ a → a + 2 * (d : Int) ≤ 10000000 → d + 30 < k → laws_heldFedS.l0 k y a (i : Int) = some (a + 2 * (d : Int)) := by
  induction d with
  | zero =>
    intro y k i a hy hi hd h1 h2 hk
    obtain ⟨k, rfl⟩ : ∃ m, k = m + 1 := ⟨k - 1, by omega⟩
    have : y.length ≤ i := List.drop_eq_nil_iff.1 hd
    rw [laws_heldFedS.l0, if_neg (by omega)]
    refine congrArg some ?_
    omega
  | succ d ih =>
    intro y k i a hy hi hd h1 h2 hk
    obtain ⟨k, rfl⟩ : ∃ m, k = m + 1 := ⟨k - 1, by omega⟩
    have hlt : i < y.length := by
      rcases Nat.lt_or_ge i y.length with e | e
      · exact e
      · rw [List.drop_eq_nil_of_le e] at hd
        cases hd
    rw [List.drop_eq_getElem_cons hlt, mkFd] at hd
    obtain ⟨e1, e2⟩ := List.cons.inj hd
    rw [laws_heldFedS.l0, if_pos (int_lt hlt), if_pos (int_nn i), laws_markText.eq (n := a) (by omega) (by omega) (by omega), rdFed hlt, e1]
    simp only [Option.bind_some, if_true]
    rw [wrap_in (x := a + 1) (by omega) (by omega), laws_markText.eq (n := a + 1) (by omega) (by omega) (by omega), wrap_in (x := a + 1 + 1) (by omega) (by omega), wrap_succ (by omega)]
    simp only [Option.bind_some, if_true]
    rw [show a + 1 + 1 = a + 2 by omega, ih y k (i + 1) (a + 2) hy (by omega) e2 (by omega) (by omega) (by omega)]
    refine congrArg some ?_
    omega

theorem FnExactKeyFeed : laws_FnExactKeyFeed.Pure := by
  intro l m q t ⟨hl, hL⟩ _ hq
  have hl := maxLen_le hl
  have hL2 : ∀ x ∈ l, x.f1.size ≤ 9223372036854775807 ∧ x.f2.size ≤ 9223372036854775807 := fun x hx => ⟨maxLen_le (hL x hx).2.1, maxLen_le (hL x hx).2.2⟩
  refine ⟨8000000, ?_⟩
  unfold laws_FnExactKeyFeed.f
  by_cases hq2 : (q.size : Int) > 1048576
  · rw [if_pos hq2]
  rw [if_neg hq2, laws_szKeyS.eq (by omega) (by omega) hl hL2 (by omega)]
  simp only [Option.bind_some]
  by_cases h : (1048576 : Int) < ((l.length + szKeys l : Nat) : Int)
  · rw [if_pos h, if_pos (by omega)]
  · have o1 : (l.map cvKey).length ≤ 1048576 := by rw [List.length_map]; omega
    have o2 : ∀ x ∈ l.map cvKey, x.f2.size ≤ 1048576 := by
      intro x hx
      obtain ⟨y, hy, rfl⟩ := List.mem_map.1 hx
      have := szKeys_mem hy
      show y.f2.size ≤ _
      omega
    obtain ⟨⟨v1, v2, v3⟩, s1, s2, s3⟩ := KeyFeed2.eq m q t o1 o2 (by omega) (k := 8000000) (k' := 8000000) (by omega) (by omega)
    obtain ⟨⟨v1', v2', v3'⟩, s1', s2', s3'⟩ := KeyFeed2.eq m q t o1 o2 (by omega) (k := 8000000) (k' := 7999995) (by omega) (by omega)
    obtain ⟨z1, z2, z3⟩ : v1' = v1 ∧ v2' = v2 ∧ v3' = v3 := by
      have := Option.some.inj (s1'.symm.trans s1)
      exact ⟨congrArg (·.1) this, congrArg (·.2.1) this, congrArg (·.2.2) this⟩
    subst z1 z2 z3
    have s3 : v1'.length ≤ 1048576 := s3
    obtain ⟨⟨c1, c2⟩, c3, c4⟩ := laws_markKeyS.loop (l.map cvKey).length (l.map cvKey) 7999998 0 1 o1 (by omega) (by omega) (by omega) (by omega) (by omega)
    have c4 : ¬ c1 < 0 := by have : 0 ≤ c1 := c4; omega
    have mf : laws_markFedOut.f 7999996 v1' v2' v3' 1 = some (1 + 2 * (v1'.length : Int), mkFd v1'.length 1) := by
      unfold laws_markFedOut.f laws_markFedS.f
      rw [show laws_markFedS.l0 7999996 v1' 1 0 = _ from laws_markFedS.loop v1'.length v1' 7999996 0 1 s3 (by omega) (by omega) (by omega) (by omega) (by omega)]
      rfl
    have hf : ∀ k, 7000000 < k → laws_heldFedOut.f k (mkFd v1'.length 1) v2' v3' 1 = some (1 + 2 * (v1'.length : Int)) := by
      intro k hk
      unfold laws_heldFedOut.f laws_heldFedS.f
      rw [show laws_heldFedS.l0 k (mkFd v1'.length 1) 1 0 = _ from laws_heldFedS.loop v1'.length (mkFd v1'.length 1) k 0 1 (by rw [mkFd_len]; omega) (by omega) rfl (by omega) (by omega) (by omega)]
      simp only [Option.bind_some]
      rw [if_neg (by omega)]
    rw [if_neg h, if_neg (by omega), laws_toKeyS.eq (by omega) (by omega)]
    simp only [Option.bind_some]
    rw [s1]
    simp only [Option.bind_some]
    rw [s2]
    simp only [Option.bind_some]
    rw [laws_eqFedOut.refl _ _ _ s3 (by omega)]
    simp only [Option.bind_some, if_true]
    rw [laws_FnExactKeyFeed.j0, laws_toKeyS.eq (by omega) (by omega)]
    simp only [Option.bind_some]
    rw [laws_eqKeyS.refl o1 (by omega)]
    simp only [Option.bind_some, if_true]
    rw [laws_FnExactKeyFeed.j1, show laws_markKeyS.f 7999998 (l.map cvKey) 1 = _ from c3]
    simp only [Option.bind_some]
    rw [if_neg c4, laws_eqFedOut.refl _ _ _ s3 (by omega)]
    simp only [Option.bind_some]
    rw [laws_FnExactKeyFeed.j2, if_neg (show ¬ (!true) = true by decide), laws_FnExactKeyFeed.j3, mf]
    simp only [Option.bind_some]
    rw [hf _ (by omega)]
    simp only [Option.bind_some]
    rw [if_neg (by omega), laws_FnExactKeyFeed.j4, if_pos rfl, laws_toKeyS.eq (by omega) (by omega)]
    simp only [Option.bind_some]
    rw [s2']
    simp only [Option.bind_some]
    rw [laws_eqFedOut.refl _ _ _ s3 (by omega)]
    simp only [Option.bind_some, if_true]
    rw [laws_FnExactKeyFeed.j5, hf _ (by omega)]
    simp only [Option.bind_some]
    rw [if_neg (by omega)]
    simp

end Go.Proofs.Ytgkgicmobpnefaa.Pure
