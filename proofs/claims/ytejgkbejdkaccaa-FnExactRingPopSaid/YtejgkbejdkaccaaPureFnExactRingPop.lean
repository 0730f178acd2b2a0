/- Proved: the program's RingPop returns what the reference's returns, for every ring and buffer of size at most 2^20 together and every two places, leaves its arguments as they were, and its answer is memory of its own. -/
import Derived.Test.YtejgkbejdkaccaaPFnExactRingPopx10
namespace Go.Proofs.Ytejgkbejdkaccaa.Pure
open Go.RowKit Go.Proofs.Ytejgkbejdkaccaa.PFnExactRingPop Go.Proofs.YtejgkbejdkaccaaW.PrintWords Go.Proofs.YtejgkbejdkaccaaW.PrintLast Go.Proofs.YtejgkbejdkaccaaW.PrintMore
set_option linter.unusedVariables false
set_option linter.unusedSimpArgs false

/-! ### plain words -/
theorem wrap_in {x : Int} (h0 : -9223372036854775808 ≤ x) (h1 : x ≤ 9223372036854775807) : wrap64 x = x := by unfold wrap64; omega
theorem wrap_succ {i : Nat} (h : i < 4611686018427387904) : wrap64 ((i : Int) + 1) = ((i + 1 : Nat) : Int) := by unfold wrap64; omega
theorem rd_nat (l : List Int) (i : Nat) : rd l (i : Int) = l.getD i 0 := by simp [rd]
theorem drop_rd {l : List Int} {i : Nat} (h : i < l.length) : l.drop i = rd l (i : Int) :: l.drop (i + 1) := by
  rw [rd_nat, List.drop_eq_getElem_cons h, List.getD_eq_getElem?_getD, List.getElem?_eq_getElem h]
  rfl
theorem int_lt {i n : Nat} (h : i < n) : (i : Int) < (n : Int) := by omega
theorem int_nn (i : Nat) : (0 : Int) ≤ (i : Int) := by omega
theorem maxLen_le {n : Nat} (h : n ≤ maxLen) : n ≤ 9223372036854775807 := by unfold maxLen at h; exact h
theorem some_b {a b : Bool} (h : a = true ↔ b = true) : some a = some b := congrArg some (Bool.eq_iff_iff.2 h)
def isPt (a : Int) : Bool := decide (0 ≤ a ∧ a ≤ 1114111 ∧ ¬ (55296 ≤ a ∧ a ≤ 57343))
def ptsOK (l : List Int) : Bool := decide (l.length ≤ 300) && l.all isPt
def bufOK (l : List Int) (c m : Int) : Bool := ptsOK l && decide (0 ≤ c ∧ c ≤ l.length) && decide (0 ≤ m ∧ m ≤ l.length)
theorem ptsOK_len {l : List Int} (h : ptsOK l = true) : l.length ≤ 300 := by
  unfold ptsOK at h
  simp only [Bool.and_eq_true, decide_eq_true_eq] at h
  exact h.1
theorem bufOK_len {l : List Int} {c m : Int} (h : bufOK l c m = true) : l.length ≤ 300 := by
  unfold bufOK at h
  simp only [Bool.and_eq_true] at h
  exact ptsOK_len h.1.1
theorem bufOK_all {l : List Int} {c m : Int} (h : bufOK l c m = true) : l.length ≤ 300 ∧ 0 ≤ c ∧ c ≤ l.length ∧ 0 ≤ m ∧ m ≤ l.length := by
  have hl := bufOK_len h
  unfold bufOK at h
  simp only [Bool.and_eq_true, decide_eq_true_eq] at h
  exact ⟨hl, h.1.2.1, h.1.2.2, h.2.1, h.2.2⟩
theorem laws_szInt64S.eq {l : List Int} {a : Int} (h0 : 0 ≤ a) (h1 : a ≤ 1048576) (hl : l.length ≤ 9223372036854775807) : laws_szInt64S.f l a = some (if a < (l.length : Int) then -1 else a - (l.length : Int)) := by
  unfold laws_szInt64S.f
  rw [wrap_in (by omega) (by omega)]
  by_cases h : a < (l.length : Int)
  · rw [if_pos (by omega), if_pos h]
  · rw [if_neg (by omega), if_neg h]
theorem laws_toInt64S.loop (l : List Int) (hl : l.length ≤ 1048576) (d : Nat) : ∀ (k i : Nat), i ≤ l.length → l.length - i = d → d < k → laws_toInt64S.l0 k l (l.take i ++ List.replicate (l.length - i) 0) (i : Int) = some l := by
  induction d with
  | zero =>
    intro k i hi hd hk
    obtain ⟨k, rfl⟩ : ∃ m, k = m + 1 := ⟨k - 1, by omega⟩
    obtain rfl : i = l.length := by omega
    simp only [laws_toInt64S.l0]
    rw [if_neg (by omega)]
    simp
  | succ d ih =>
    intro k i hi hd hk
    obtain ⟨k, rfl⟩ : ∃ m, k = m + 1 := ⟨k - 1, by omega⟩
    have hlt : i < l.length := by omega
    simp only [laws_toInt64S.l0]
    rw [if_pos (int_lt hlt), if_pos (int_nn i), if_pos (by simp; omega), wrap_succ (by omega), Int.toNat_natCast]
    have hs : (l.take i ++ List.replicate (l.length - i) 0).set i (rd l (i : Int)) = l.take (i + 1) ++ List.replicate (l.length - (i + 1)) 0 := by
      have h1 : (l.take i).length = i := by simp; omega
      rw [List.set_append_right _ _ (by omega), h1, Nat.sub_self, show l.length - i = (l.length - (i + 1)) + 1 by omega, List.replicate_succ, List.set_cons_zero, List.take_succ_eq_append_getElem hlt, rd_nat, List.getD_eq_getElem?_getD, List.getElem?_eq_getElem hlt, List.append_assoc]
      rfl
    rw [hs]
    exact ih k (i + 1) (by omega) (by omega) (by omega)
theorem laws_toInt64S.eq {l : List Int} {k : Nat} (hl : l.length ≤ 1048576) (hk : l.length < k) : laws_toInt64S.f k l = some l := by
  unfold laws_toInt64S.f
  rw [if_pos (by omega), if_pos (by omega), Int.toNat_natCast]
  have := laws_toInt64S.loop l hl l.length k 0 (by omega) (by omega) hk
  simpa using this
theorem rdLL {l : List (List Int)} {i : Nat} (h : i < l.length) : rd_L1 l (i : Int) = l[i] := by
  unfold rd_L1
  rw [Int.toNat_natCast, List.getD_eq_getElem?_getD, List.getElem?_eq_getElem h]
  rfl
theorem laws_toInt64SS.loop (l : List (List Int)) (hl : l.length ≤ 1048576) (K : Nat) (hL : ∀ x ∈ l, x.length ≤ 1048576 ∧ x.length < K) (d : Nat) : ∀ (k i : Nat), i ≤ l.length → l.length - i = d → d + K < k → laws_toInt64SS.l0 k l (l.take i ++ List.replicate (l.length - i) []) (i : Int) = some l := by
  induction d with
  | zero =>
    intro k i hi hd hk
    obtain ⟨k, rfl⟩ : ∃ m, k = m + 1 := ⟨k - 1, by omega⟩
    obtain rfl : i = l.length := by omega
    simp only [laws_toInt64SS.l0]
    rw [if_neg (by omega)]
    simp
  | succ d ih =>
    intro k i hi hd hk
    obtain ⟨k, rfl⟩ : ∃ m, k = m + 1 := ⟨k - 1, by omega⟩
    have hlt : i < l.length := by omega
    obtain ⟨h1, h2⟩ := hL l[i] (List.getElem_mem hlt)
    simp only [laws_toInt64SS.l0]
    rw [if_pos (int_lt hlt), if_pos (int_nn i), rdLL hlt, laws_toInt64S.eq h1 (by omega)]
    simp only [Option.bind_some]
    rw [if_pos (by simp; omega), wrap_succ (by omega), Int.toNat_natCast]
    have hs : (l.take i ++ List.replicate (l.length - i) []).set i l[i] = l.take (i + 1) ++ List.replicate (l.length - (i + 1)) [] := by
      have h1 : (l.take i).length = i := by simp; omega
      rw [List.set_append_right _ _ (by omega), h1, Nat.sub_self, show l.length - i = (l.length - (i + 1)) + 1 by omega, List.replicate_succ, List.set_cons_zero, List.take_succ_eq_append_getElem hlt, List.append_assoc]
      rfl
    rw [hs]
    exact ih k (i + 1) (by omega) (by omega) (by omega)
theorem laws_toInt64SS.eq {l : List (List Int)} {k : Nat} (hl : l.length ≤ 1048576) (K : Nat) (hL : ∀ x ∈ l, x.length ≤ 1048576 ∧ x.length < K) (hk : l.length + K < k) : laws_toInt64SS.f k l = some l := by
  unfold laws_toInt64SS.f
  rw [if_pos (by omega), if_pos (by omega), Int.toNat_natCast]
  have := laws_toInt64SS.loop l hl K hL l.length k 0 (by omega) (by omega) hk
  simpa using this
/-- what the sizes' functions take off: the rows, and what they hold -/
def szLL : List (List Int) → Nat
  | [] => 0
  | x :: l => x.length + szLL l
theorem szLL_nil : szLL [] = 0 := rfl
theorem szLL_cons (x : List Int) (l : List (List Int)) : szLL (x :: l) = x.length + szLL l := rfl
theorem szLL_mem {l : List (List Int)} {x : List Int} (h : x ∈ l) : x.length ≤ szLL l := by
  induction l with
  | nil => cases h
  | cons y l ih =>
    rw [szLL_cons]
    rcases List.mem_cons.1 h with rfl | h
    · omega
    · have := ih h; omega
theorem szLL_ok {l : List (List Int)} (h : l.length + szLL l ≤ 1048576) : ∀ x ∈ l, x.length ≤ 1048576 ∧ x.length < 1048577 := fun x hx => by have := szLL_mem hx; omega
theorem laws_szInt64SS.loop (l : List (List Int)) (hl : l.length ≤ 1048576) (hL : ∀ x ∈ l, x.length ≤ 9223372036854775807) (d : Nat) : ∀ (k i : Nat) (a : Int), 0 ≤ a → a ≤ 1048576 → i ≤ l.length → l.length - i = d → d < k → laws_szInt64SS.l0 k l a (i : Int) = some (if a < (szLL (l.drop i) : Int) then -1 else a - (szLL (l.drop i) : Int)) := by
  induction d with
  | zero =>
    intro k i a h0 h1 hi hd hk
    obtain ⟨k, rfl⟩ : ∃ m, k = m + 1 := ⟨k - 1, by omega⟩
    simp only [laws_szInt64SS.l0]
    rw [if_neg (by omega), List.drop_eq_nil_of_le (by omega), szLL_nil, if_neg (by omega)]
    simp
  | succ d ih =>
    intro k i a h0 h1 hi hd hk
    obtain ⟨k, rfl⟩ : ∃ m, k = m + 1 := ⟨k - 1, by omega⟩
    have hlt : i < l.length := by omega
    have hx := hL l[i] (List.getElem_mem hlt)
    simp only [laws_szInt64SS.l0]
    rw [if_pos (int_lt hlt), if_pos (int_nn i), rdLL hlt, laws_szInt64S.eq h0 h1 hx]
    simp only [Option.bind_some]
    rw [List.drop_eq_getElem_cons hlt, szLL_cons]
    by_cases h : a < (l[i].length : Int)
    · rw [if_pos h, if_pos (by omega), if_pos (by omega)]
    · rw [if_neg h, if_neg (by omega), wrap_succ (by omega), ih k (i + 1) _ (by omega) (by omega) (by omega) (by omega) (by omega)]
      by_cases h2 : a - (l[i].length : Int) < (szLL (l.drop (i + 1)) : Int)
      · rw [if_pos h2, if_pos (by omega)]
      · rw [if_neg h2, if_neg (by omega)]
        refine congrArg some ?_
        omega
theorem laws_szInt64SS.eq {l : List (List Int)} {a : Int} {k : Nat} (h0 : 0 ≤ a) (h1 : a ≤ 1048576) (hl : l.length ≤ 9223372036854775807) (hL : ∀ x ∈ l, x.length ≤ 9223372036854775807) (hk : 1048577 < k) : laws_szInt64SS.f k l a = some (if a < ((l.length + szLL l : Nat) : Int) then -1 else a - ((l.length + szLL l : Nat) : Int)) := by
  unfold laws_szInt64SS.f
  rw [wrap_in (by omega) (by omega)]
  by_cases h : a < (l.length : Int)
  · rw [if_pos (by omega), if_pos (by omega)]
  · rw [if_neg (by omega)]
    have := laws_szInt64SS.loop l (by omega) hL l.length k 0 (a - (l.length : Int)) (by omega) (by omega) (by omega) (by omega) (by omega)
    rw [List.drop_zero] at this
    refine (show _ = _ from this).trans ?_
    by_cases h2 : a - (l.length : Int) < (szLL l : Int)
    · rw [if_pos h2, if_pos (by omega)]
    · rw [if_neg h2, if_neg (by omega)]
      refine congrArg some ?_
      omega
theorem laws_eqInt64S.loop (a b : List Int) (hab : a.length = b.length) (hl : a.length ≤ 1048576) (d : Nat) : ∀ (k i : Nat), i ≤ a.length → a.length - i = d → d < k → laws_eqInt64S.l0 k a b (i : Int) = some (decide (a.drop i = b.drop i)) := by
  induction d with
  | zero =>
    intro k i hi hd hk
    obtain ⟨k, rfl⟩ : ∃ m, k = m + 1 := ⟨k - 1, by omega⟩
    simp only [laws_eqInt64S.l0]
    rw [if_neg (by omega), List.drop_eq_nil_of_le (by omega), List.drop_eq_nil_of_le (by omega)]
    rfl
  | succ d ih =>
    intro k i hi hd hk
    obtain ⟨k, rfl⟩ : ∃ m, k = m + 1 := ⟨k - 1, by omega⟩
    have hlt : i < a.length := by omega
    simp only [laws_eqInt64S.l0]
    rw [if_pos (int_lt hlt), if_pos (int_nn i), if_pos (by omega), wrap_succ (by omega), ih k (i + 1) (by omega) (by omega) (by omega), drop_rd hlt, drop_rd (show i < b.length by omega)]
    by_cases h : rd a (i : Int) = rd b (i : Int)
    · rw [if_pos h, h]
      simp
    · rw [if_neg h]
      simp [h]
theorem laws_eqInt64S.eq {a b : List Int} {k : Nat} (hl : a.length ≤ 1048576) (hk : a.length < k) : laws_eqInt64S.f k a b = some (decide (a = b)) := by
  unfold laws_eqInt64S.f
  by_cases h : a.length = b.length
  · rw [if_pos (by omega)]
    have := laws_eqInt64S.loop a b h hl a.length k 0 (by omega) (by omega) hk
    simpa using this
  · rw [if_neg (by omega)]
    refine congrArg some (decide_eq_false (fun e => h (by rw [e]))).symm
theorem laws_eqInt64SS.loop (a b : List (List Int)) (hab : a.length = b.length) (hl : a.length ≤ 1048576) (K : Nat) (hL : ∀ x ∈ a, x.length ≤ 1048576 ∧ x.length < K) (d : Nat) : ∀ (k i : Nat), i ≤ a.length → a.length - i = d → d + K < k → laws_eqInt64SS.l0 k a b (i : Int) = some (decide (a.drop i = b.drop i)) := by
  induction d with
  | zero =>
    intro k i hi hd hk
    obtain ⟨k, rfl⟩ : ∃ m, k = m + 1 := ⟨k - 1, by omega⟩
    simp only [laws_eqInt64SS.l0]
    rw [if_neg (by omega), List.drop_eq_nil_of_le (by omega), List.drop_eq_nil_of_le (by omega)]
    rfl
  | succ d ih =>
    intro k i hi hd hk
    obtain ⟨k, rfl⟩ : ∃ m, k = m + 1 := ⟨k - 1, by omega⟩
    have hlt : i < a.length := by omega
    have hlb : i < b.length := by omega
    obtain ⟨h1, h2⟩ := hL a[i] (List.getElem_mem hlt)
    simp only [laws_eqInt64SS.l0]
    rw [if_pos (int_lt hlt), if_pos (int_nn i), if_pos (by omega), rdLL hlt, rdLL hlb, laws_eqInt64S.eq h1 (by omega), wrap_succ (by omega), ih k (i + 1) (by omega) (by omega) (by omega), List.drop_eq_getElem_cons hlt, List.drop_eq_getElem_cons hlb]
    simp only [Option.bind_some, decide_eq_true_eq]
    by_cases h : a[i] = b[i]
    · rw [if_pos h, h]
      refine congrArg some (decide_eq_decide.2 ⟨fun e => by rw [e], fun e => (List.cons.inj e).2⟩)
    · rw [if_neg h]
      exact congrArg some (decide_eq_false (fun e => h (List.cons.inj e).1)).symm
theorem laws_eqInt64SS.eq {a b : List (List Int)} {k : Nat} (hl : a.length ≤ 1048576) (K : Nat) (hL : ∀ x ∈ a, x.length ≤ 1048576 ∧ x.length < K) (hk : a.length + K < k) : laws_eqInt64SS.f k a b = some (decide (a = b)) := by
  unfold laws_eqInt64SS.f
  by_cases h : a.length = b.length
  · rw [if_pos (by omega)]
    have := laws_eqInt64SS.loop a b h hl K hL a.length k 0 (by omega) (by omega) hk
    simpa using this
  · rw [if_neg (by omega)]
    refine congrArg some (decide_eq_false (fun e => h (by rw [e]))).symm
theorem laws_szRing.eq {l : List (List Int)} {a c : Int} {k : Nat} (h0 : 0 ≤ a) (h1 : a ≤ 1048576) (hl : l.length ≤ 9223372036854775807) (hL : ∀ x ∈ l, x.length ≤ 9223372036854775807) (hk : 1048577 < k) : laws_szRing.f k l c a = some (if a < ((l.length + szLL l : Nat) : Int) then -1 else a - ((l.length + szLL l : Nat) : Int)) := by
  unfold laws_szRing.f
  rw [laws_szInt64SS.eq h0 h1 hl hL hk]
  simp only [Option.bind_some]
  by_cases h : a < ((l.length + szLL l : Nat) : Int)
  · rw [if_pos h, if_pos (by omega)]
  · rw [if_neg h, if_neg (by omega)]
theorem laws_toRing.eq {l : List (List Int)} {c : Int} {k : Nat} (h : l.length + szLL l ≤ 1048576) (hk : 3000000 < k) : laws_toRing.f k l c = some (l, c) := by
  unfold laws_toRing.f
  rw [laws_toInt64SS.eq (by omega) 1048577 (szLL_ok h) (by omega)]
  rfl
theorem laws_eqRing.eq {a b : List (List Int)} {c c' : Int} {k : Nat} (h : a.length + szLL a ≤ 1048576) (hk : 3000000 < k) : laws_eqRing.f k a c b c' = some (decide (a = b ∧ c = c')) := by
  unfold laws_eqRing.f
  rw [laws_eqInt64SS.eq (by omega) 1048577 (szLL_ok h) (by omega)]
  simp only [Option.bind_some, decide_eq_true_eq]
  by_cases h1 : a = b
  · by_cases h2 : c = c'
    · simp [h1, h2]
    · simp [h1, h2]
  · simp [h1]
/-- the row of marks -/
def mkL : Nat → Int → List Int
  | 0, _ => []
  | n + 1, a => mkL n a ++ [a + (n : Int)]
theorem mkL_zero (a : Int) : mkL 0 a = [] := rfl
theorem mkL_succ (n : Nat) (a : Int) : mkL (n + 1) a = mkL n a ++ [a + (n : Int)] := rfl
theorem mkL_length (n : Nat) (a : Int) : (mkL n a).length = n := by
  induction n with
  | zero => rfl
  | succ n ih => rw [mkL_succ, List.length_append, ih]; rfl
theorem mkL_rd {n : Nat} {a : Int} : ∀ {i : Nat}, i < n → rd (mkL n a) (i : Int) = a + (i : Int) := by
  induction n with
  | zero => intro i h; omega
  | succ n ih =>
    intro i h
    rw [rd_nat, mkL_succ, List.getD_eq_getElem?_getD]
    by_cases e : i = n
    · subst e
      rw [List.getElem?_append_right (by rw [mkL_length]; omega), mkL_length]
      simp
    · rw [List.getElem?_append_left (by rw [mkL_length]; omega)]
      have := ih (i := i) (by omega)
      rw [rd_nat, List.getD_eq_getElem?_getD] at this
      exact this
theorem laws_markInt64S.loop (l : List Int) (hl : l.length ≤ 1048576) (a : Int) (h0 : 0 ≤ a) (h1 : a ≤ 4000000000) (d : Nat) : ∀ (k i : Nat), i ≤ l.length → l.length - i = d → d < k → laws_markInt64S.l0 k (mkL i a ++ l.drop i) (a + (i : Int)) (i : Int) = some (a + (l.length : Int), mkL l.length a) := by
  induction d with
  | zero =>
    intro k i hi hd hk
    obtain ⟨k, rfl⟩ : ∃ m, k = m + 1 := ⟨k - 1, by omega⟩
    obtain rfl : i = l.length := by omega
    simp only [laws_markInt64S.l0]
    rw [List.drop_length, List.append_nil, mkL_length, if_neg (by omega)]
  | succ d ih =>
    intro k i hi hd hk
    obtain ⟨k, rfl⟩ : ∃ m, k = m + 1 := ⟨k - 1, by omega⟩
    have hlt : i < l.length := by omega
    have hlen : (mkL i a ++ l.drop i).length = l.length := by rw [List.length_append, mkL_length, List.length_drop]; omega
    simp only [laws_markInt64S.l0]
    rw [if_pos (by omega), if_pos (int_nn i), wrap_succ (by omega), wrap_in (by omega) (by omega), Int.toNat_natCast]
    have hs : (mkL i a ++ l.drop i).set i (a + (i : Int)) = mkL (i + 1) a ++ l.drop (i + 1) := by
      rw [List.set_append_right _ _ (by rw [mkL_length]; omega), mkL_length, Nat.sub_self, drop_rd hlt, List.set_cons_zero, mkL_succ, List.append_assoc]
      rfl
    rw [hs, show a + (i : Int) + 1 = a + ((i + 1 : Nat) : Int) by omega]
    exact ih k (i + 1) (by omega) (by omega) (by omega)
theorem laws_markInt64S.eq {l : List Int} {a : Int} {k : Nat} (hl : l.length ≤ 1048576) (h0 : 0 ≤ a) (h1 : a ≤ 4000000000) (hk : l.length < k) : laws_markInt64S.f k l a = some (a + (l.length : Int), mkL l.length a) := by
  have := laws_markInt64S.loop l hl a h0 h1 l.length k 0 (by omega) (by omega) hk
  rw [mkL_zero, List.drop_zero] at this
  unfold laws_markInt64S.f
  simpa using this
theorem laws_heldInt64S.loop (n : Nat) (hl : n ≤ 1048576) (a : Int) (h0 : 0 ≤ a) (h1 : a ≤ 4000000000) (d : Nat) : ∀ (k i : Nat), i ≤ n → n - i = d → d < k → laws_heldInt64S.l0 k (mkL n a) (a + (i : Int)) (i : Int) = some (a + (n : Int)) := by
  induction d with
  | zero =>
    intro k i hi hd hk
    obtain ⟨k, rfl⟩ : ∃ m, k = m + 1 := ⟨k - 1, by omega⟩
    obtain rfl : i = n := by omega
    simp only [laws_heldInt64S.l0]
    rw [mkL_length, if_neg (by omega)]
  | succ d ih =>
    intro k i hi hd hk
    obtain ⟨k, rfl⟩ : ∃ m, k = m + 1 := ⟨k - 1, by omega⟩
    have hlt : i < n := by omega
    simp only [laws_heldInt64S.l0]
    rw [mkL_length, if_pos (int_lt hlt), if_pos (int_nn i), mkL_rd hlt, if_pos rfl, wrap_succ (by omega), wrap_in (by omega) (by omega), show a + (i : Int) + 1 = a + ((i + 1 : Nat) : Int) by omega]
    exact ih k (i + 1) (by omega) (by omega) (by omega)
theorem laws_heldInt64S.eq {n : Nat} {a : Int} {k : Nat} (hl : n ≤ 1048576) (h0 : 0 ≤ a) (h1 : a ≤ 4000000000) (hk : n < k) : laws_heldInt64S.f k (mkL n a) a = some (a + (n : Int)) := by
  have := laws_heldInt64S.loop n hl a h0 h1 n k 0 (by omega) (by omega) hk
  unfold laws_heldInt64S.f
  simpa using this
/-- the rows of marks -/
def mkLL : List (List Int) → Int → List (List Int)
  | [], _ => []
  | x :: l, a => mkL x.length a :: mkLL l (a + (x.length : Int))
theorem mkLL_nil (a : Int) : mkLL [] a = [] := rfl
theorem mkLL_cons (x : List Int) (l : List (List Int)) (a : Int) : mkLL (x :: l) a = mkL x.length a :: mkLL l (a + (x.length : Int)) := rfl
theorem laws_markInt64SS.loop (l : List (List Int)) : ∀ (pre : List (List Int)) (k : Nat) (a : Int), pre.length + l.length ≤ 1048576 → szLL l ≤ 1048576 → 0 ≤ a → a + (szLL l : Int) ≤ 4000000000 → l.length + 1048577 < k → laws_markInt64SS.l0 k (pre ++ l) a (pre.length : Int) = some (a + (szLL l : Int), pre ++ mkLL l a) := by
  induction l with
  | nil =>
    intro pre k a h1 h2 h3 h4 hk
    obtain ⟨k, rfl⟩ : ∃ m, k = m + 1 := ⟨k - 1, by omega⟩
    simp only [laws_markInt64SS.l0]
    rw [if_neg (by simp), mkLL_nil, szLL_nil]
    simp
  | cons x l ih =>
    intro pre k a h1 h2 h3 h4 hk
    obtain ⟨k, rfl⟩ : ∃ m, k = m + 1 := ⟨k - 1, by omega⟩
    rw [szLL_cons] at h2 h4
    rw [List.length_cons] at h1 hk
    simp only [laws_markInt64SS.l0]
    rw [if_pos (by rw [List.length_append, List.length_cons]; omega), if_pos (by omega)]
    have e1 : (pre ++ x :: l).getD ((pre.length : Int)).toNat [] = x := by
      rw [Int.toNat_natCast, List.getD_eq_getElem?_getD, List.getElem?_append_right (Nat.le_refl _), Nat.sub_self]
      rfl
    rw [e1, laws_markInt64S.eq (by omega) h3 (by omega) (by omega)]
    simp only [Option.bind_some]
    have e2 : (pre ++ x :: l).set ((pre.length : Int)).toNat (mkL x.length a) = (pre ++ [mkL x.length a]) ++ l := by
      rw [Int.toNat_natCast, List.set_append_right _ _ (Nat.le_refl _), Nat.sub_self, List.set_cons_zero, List.append_assoc]
      rfl
    rw [e2, wrap_succ (by omega)]
    have := ih (pre ++ [mkL x.length a]) k (a + (x.length : Int)) (by rw [List.length_append, List.length_singleton]; omega) (by omega) (by omega) (by omega) (by omega)
    rw [List.length_append, List.length_singleton] at this
    rw [this, mkLL_cons, szLL_cons, List.append_assoc]
    refine congrArg some ?_
    refine Prod.ext ?_ rfl
    show a + (x.length : Int) + (szLL l : Int) = a + ((x.length + szLL l : Nat) : Int)
    omega
theorem laws_markInt64SS.eq {l : List (List Int)} {a : Int} {k : Nat} (h : l.length + szLL l ≤ 1048576) (h0 : 0 ≤ a) (h1 : a ≤ 2000000000) (hk : 3000000 < k) : laws_markInt64SS.f k l a = some (a + (szLL l : Int), mkLL l a) := by
  have := laws_markInt64SS.loop l [] k a (by simp only [List.length_nil]; omega) (by omega) h0 (by omega) (by omega)
  exact this
theorem laws_markRing.eq {l : List (List Int)} {c a : Int} {k : Nat} (h : l.length + szLL l ≤ 1048576) (h0 : 0 ≤ a) (h1 : a ≤ 2000000000) (hk : 3000000 < k) : laws_markRing.f k l c a = some (a + (szLL l : Int), mkLL l a) := by
  unfold laws_markRing.f
  rw [laws_markInt64SS.eq h h0 h1 hk]
  rfl
theorem laws_szBuf.eq {l : List Int} {a c m : Int} (h0 : 0 ≤ a) (h1 : a ≤ 1048576) (hl : l.length ≤ 9223372036854775807) : laws_szBuf.f l c m a = some (if a < (l.length : Int) then -1 else a - (l.length : Int)) := by
  unfold laws_szBuf.f
  rw [laws_szInt64S.eq h0 h1 hl]
  simp only [Option.bind_some]
  by_cases h : a < (l.length : Int)
  · rw [if_pos h, if_pos (by omega)]
  · rw [if_neg h, if_neg (by omega)]
theorem laws_toBuf.eq {l : List Int} {c m : Int} {k : Nat} (hl : l.length ≤ 1048576) (hk : l.length < k) : laws_toBuf.f k l c m = some (l, c, m) := by
  unfold laws_toBuf.f
  rw [laws_toInt64S.eq hl hk]
  rfl
theorem laws_eqBuf.eq {a b : List Int} {c m c' m' : Int} {k : Nat} (hl : a.length ≤ 1048576) (hk : a.length < k) : laws_eqBuf.f k a c m b c' m' = some (decide (a = b ∧ c = c' ∧ m = m')) := by
  unfold laws_eqBuf.f
  rw [laws_eqInt64S.eq hl hk]
  simp only [Option.bind_some, decide_eq_true_eq]
  by_cases h1 : a = b
  · by_cases h2 : c = c'
    · by_cases h3 : m = m'
      · simp [h1, h2, h3]
      · simp [h1, h2, h3]
    · simp [h1, h2]
  · simp [h1]
theorem laws_markBuf.eq {l : List Int} {c m a : Int} {k : Nat} (hl : l.length ≤ 1048576) (h0 : 0 ≤ a) (h1 : a ≤ 4000000000) (hk : l.length < k) : laws_markBuf.f k l c m a = some (a + (l.length : Int), mkL l.length a) := by
  unfold laws_markBuf.f
  rw [laws_markInt64S.eq hl h0 h1 hk]
  rfl
theorem laws_heldBuf.eq {n : Nat} {c m a : Int} {k : Nat} (hl : n ≤ 1048576) (h0 : 0 ≤ a) (h1 : a ≤ 4000000000) (hk : n < k) : laws_heldBuf.f k (mkL n a) c m a = some (a + (n : Int)) := by
  unfold laws_heldBuf.f
  rw [laws_heldInt64S.eq hl h0 h1 hk]
  simp only [Option.bind_some]
  rw [if_neg (by omega)]
theorem spec_l01Point.eq (a : Int) : spec_l01Point.f a = some (isPt a) := by
  simp only [spec_l01Point.f, isPt]
  (repeat' split) <;> (refine some_b ?_; simp only [Bool.not_eq_true', Bool.not_false, decide_eq_true_eq, decide_eq_false_iff_not, Bool.false_eq_true]; first | omega | (rw [false_iff]; omega) | (rw [true_iff]; omega))
theorem spec_PointsRight.loop (l : List Int) (hl : l.length ≤ 300) (d : Nat) : ∀ (k i : Nat), i ≤ l.length → l.length - i = d → d < k → spec_PointsRight.l0 k l (i : Int) = some ((l.drop i).all isPt) := by
  induction d with
  | zero =>
    intro k i hi hd hk
    obtain ⟨k, rfl⟩ : ∃ m, k = m + 1 := ⟨k - 1, by omega⟩
    simp only [spec_PointsRight.l0]
    rw [if_neg (by omega), List.drop_eq_nil_of_le (by omega)]
    rfl
  | succ d ih =>
    intro k i hi hd hk
    obtain ⟨k, rfl⟩ : ∃ m, k = m + 1 := ⟨k - 1, by omega⟩
    have hlt : i < l.length := by omega
    simp only [spec_PointsRight.l0]
    rw [if_pos (int_lt hlt), if_pos (int_nn i), spec_l01Point.eq, wrap_succ (by omega), ih k (i + 1) (by omega) (by omega) (by omega), drop_rd hlt]
    simp only [Option.bind_some, List.all_cons]
    cases isPt (rd l (i : Int)) <;> simp
theorem spec_PointsRight.eq (l : List Int) {k : Nat} (hk : 300 < k) : spec_PointsRight.f k l = some (ptsOK l) := by
  unfold spec_PointsRight.f ptsOK
  by_cases h : l.length ≤ 300
  · rw [if_neg (by omega)]
    have := spec_PointsRight.loop l h l.length k 0 (by omega) (by omega) (by omega)
    simp only [h, decide_true, Bool.true_and]
    simpa using this
  · rw [if_pos (by omega)]
    simp [h]
def itemOK (x : List Int) : Bool := decide (0 < x.length) && ptsOK x
theorem drop_LL {l : List (List Int)} {i : Nat} (h : i < l.length) : l.drop i = l[i] :: l.drop (i + 1) := List.drop_eq_getElem_cons h
theorem spec_l04Items.loop (l : List (List Int)) (hl : l.length ≤ 1048576) (d : Nat) : ∀ (k i : Nat), i ≤ l.length → l.length - i = d → d + 301 < k → spec_l04Items.l0 k l (i : Int) = some ((l.drop i).all itemOK) := by
  induction d with
  | zero =>
    intro k i hi hd hk
    obtain ⟨k, rfl⟩ : ∃ m, k = m + 1 := ⟨k - 1, by omega⟩
    simp only [spec_l04Items.l0]
    rw [if_neg (by omega), List.drop_eq_nil_of_le (by omega)]
    rfl
  | succ d ih =>
    intro k i hi hd hk
    obtain ⟨k, rfl⟩ : ∃ m, k = m + 1 := ⟨k - 1, by omega⟩
    have hlt : i < l.length := by omega
    simp only [spec_l04Items.l0]
    rw [if_pos (int_lt hlt), if_pos (int_nn i), rdLL hlt, spec_PointsRight.eq _ (by omega), wrap_succ (by omega), ih k (i + 1) (by omega) (by omega) (by omega), drop_LL hlt]
    simp only [Option.bind_some, List.all_cons, itemOK]
    by_cases h : l[i].length = 0
    · rw [if_pos (by omega)]
      simp [h]
    · rw [if_neg (by omega)]
      cases ptsOK l[i]
      · simp
      · simp [Nat.pos_of_ne_zero h]
theorem spec_l04Items.eq {l : List (List Int)} {n : Int} {k : Nat} (hl : l.length ≤ 1048576) (hk : l.length + 301 < k) : spec_l04Items.f k l n = some (decide ((l.length : Int) ≤ n) && l.all itemOK) := by
  unfold spec_l04Items.f
  by_cases h : (l.length : Int) ≤ n
  · rw [if_neg (by omega)]
    have := spec_l04Items.loop l hl l.length k 0 (by omega) (by omega) hk
    rw [List.drop_zero] at this
    simpa [h] using this
  · rw [if_pos (by omega)]
    simp [h]
def ringOK (l : List (List Int)) (a : Int) : Bool := decide (l.length ≤ 10) && l.all itemOK && decide (0 ≤ a ∧ a ≤ max ((l.length : Int) - 1) 0)
theorem spec_RingRight.eq {l : List (List Int)} (a : Int) {k : Nat} (hl : l.length ≤ 1048576) (hk : l.length + 301 < k) : spec_RingRight.f k l a = some (ringOK l a) := by
  unfold spec_RingRight.f ringOK
  rw [spec_l04Items.eq hl hk]
  simp only [Option.bind_some]
  cases l.all itemOK
  · simp
  · by_cases h : l.length ≤ 10
    · have h' : (l.length : Int) ≤ 10 := by omega
      simp only [h, h', decide_true, Bool.and_true, Bool.true_and, if_true]
      by_cases h1 : a ≥ 0
      · rw [if_pos h1]
        by_cases h2 : a < (l.length : Int)
        · rw [if_pos h2]
          have : 0 ≤ a ∧ a ≤ max ((l.length : Int) - 1) 0 := by omega
          simp [this]
        · rw [if_neg h2]
          by_cases h3 : a = 0
          · rw [if_pos h3]
            by_cases h4 : l.length = 0
            · have : 0 ≤ a ∧ a ≤ max ((l.length : Int) - 1) 0 := by omega
              rw [decide_eq_true this]
              simp [h4]
            · omega
          · rw [if_neg h3]
            have : ¬ (0 ≤ a ∧ a ≤ max ((l.length : Int) - 1) 0) := by omega
            simp only [this, decide_false]
      · rw [if_neg h1]
        have : ¬ (0 ≤ a ∧ a ≤ max ((l.length : Int) - 1) 0) := by omega
        simp only [this, decide_false]
    · have h' : ¬ (l.length : Int) ≤ 10 := by omega
      simp [h, h']
theorem impl_within.eq (a b c : Int) : impl_within.f a b c = some (decide (b ≤ a ∧ a ≤ c)) := by
  unfold impl_within.f
  by_cases h : b ≤ a <;> simp [h]
theorem impl_isPoint.eq (a : Int) : impl_isPoint.f a = some (isPt a) := by
  simp only [impl_isPoint.f, impl_within.eq, Option.bind_some, isPt, decide_eq_true_eq]
  split <;> (refine some_b ?_; simp only [Bool.not_eq_true', decide_eq_true_eq, decide_eq_false_iff_not, Bool.false_eq_true]; first | omega | (rw [false_iff]; omega))
theorem slices_IndexFunc_sint64_int64.loop (l : List Int) (hl : l.length ≤ 300) (d : Nat) : ∀ (k i : Nat), i ≤ l.length → l.length - i = d → d < k → ∃ r : Int, slices_IndexFunc_sint64_int64.l0 k l (l.length : Int) (i : Int) = some r ∧ (0 ≤ r ↔ (l.drop i).all isPt = false) := by
  induction d with
  | zero =>
    intro k i hi hd hk
    obtain ⟨k, rfl⟩ : ∃ m, k = m + 1 := ⟨k - 1, by omega⟩
    refine ⟨-1, ?_, ?_⟩
    · simp only [slices_IndexFunc_sint64_int64.l0]
      rw [if_neg (by omega)]
    · rw [List.drop_eq_nil_of_le (by omega)]
      simp
  | succ d ih =>
    intro k i hi hd hk
    obtain ⟨k, rfl⟩ : ∃ m, k = m + 1 := ⟨k - 1, by omega⟩
    have hlt : i < l.length := by omega
    have hp : impl_PointsRight_1.f (rd l (i : Int)) = some (!isPt (rd l (i : Int))) := by
      unfold impl_PointsRight_1.f
      rw [impl_isPoint.eq]
      rfl
    simp only [slices_IndexFunc_sint64_int64.l0]
    rw [if_pos (int_lt hlt), if_pos (int_nn i), if_pos (int_lt hlt), hp, wrap_succ (by omega), drop_rd hlt]
    simp only [Option.bind_some, List.all_cons]
    cases isPt (rd l (i : Int))
    · exact ⟨i, by simp, by simp⟩
    · simpa using ih k (i + 1) (by omega) (by omega) (by omega)
theorem impl_PointsRight.eq (l : List Int) {k : Nat} (hk : 300 < k) : impl_PointsRight.f k l = some (ptsOK l) := by
  unfold impl_PointsRight.f ptsOK
  by_cases h : l.length ≤ 300
  · rw [if_pos (by omega)]
    obtain ⟨r, h1, h2⟩ := slices_IndexFunc_sint64_int64.loop l h l.length k 0 (by omega) (by omega) (by omega)
    unfold slices_ContainsFunc_sint64_int64.f slices_IndexFunc_sint64_int64.f
    rw [show ((0 : Nat) : Int) = 0 from rfl] at h1
    rw [h1]
    simp only [Option.bind_some, h, decide_true, Bool.true_and]
    rw [List.drop_zero] at h2
    refine some_b ?_
    cases hq : l.all isPt
    · have := h2.2 hq; simp; omega
    · have : ¬ 0 ≤ r := fun h3 => by rw [h2.1 h3] at hq; cases hq
      simp; omega
  · rw [if_neg (by omega)]
    simp [h]
theorem impl_isItem.eq (l : List Int) {k : Nat} (hk : 300 < k) : impl_isItem.f k l = some (itemOK l) := by
  unfold impl_isItem.f itemOK
  rw [impl_PointsRight.eq _ hk]
  simp only [Option.bind_some]
  by_cases h : 0 < l.length
  · rw [if_pos (by omega)]; simp [h]
  · rw [if_neg (by omega)]; simp [h]
theorem slices_IndexFunc_ssint64_sint64.loop (l : List (List Int)) (hl : l.length ≤ 1048576) (d : Nat) : ∀ (k i : Nat), i ≤ l.length → l.length - i = d → d + 301 < k → ∃ r : Int, slices_IndexFunc_ssint64_sint64.l0 k l (l.length : Int) (i : Int) = some r ∧ (0 ≤ r ↔ (l.drop i).all itemOK = false) := by
  induction d with
  | zero =>
    intro k i hi hd hk
    obtain ⟨k, rfl⟩ : ∃ m, k = m + 1 := ⟨k - 1, by omega⟩
    refine ⟨-1, ?_, ?_⟩
    · simp only [slices_IndexFunc_ssint64_sint64.l0]
      rw [if_neg (by omega)]
    · rw [List.drop_eq_nil_of_le (by omega)]
      simp
  | succ d ih =>
    intro k i hi hd hk
    obtain ⟨k, rfl⟩ : ∃ m, k = m + 1 := ⟨k - 1, by omega⟩
    have hlt : i < l.length := by omega
    have hp : impl_areItems_1.f k l[i] = some (!itemOK l[i]) := by
      unfold impl_areItems_1.f
      rw [impl_isItem.eq _ (by omega)]
      rfl
    simp only [slices_IndexFunc_ssint64_sint64.l0]
    rw [if_pos (int_lt hlt), if_pos (int_nn i), if_pos (int_lt hlt), rdLL hlt, hp, wrap_succ (by omega), drop_LL hlt]
    simp only [Option.bind_some, List.all_cons]
    cases itemOK l[i]
    · exact ⟨i, by simp, by simp⟩
    · simpa using ih k (i + 1) (by omega) (by omega) (by omega)
theorem impl_areItems.eq {l : List (List Int)} {k : Nat} (hl : l.length ≤ 1048576) (hk : l.length + 301 < k) : impl_areItems.f k l = some (l.all itemOK) := by
  unfold impl_areItems.f
  obtain ⟨r, h1, h2⟩ := slices_IndexFunc_ssint64_sint64.loop l hl l.length k 0 (by omega) (by omega) (by omega)
  unfold slices_ContainsFunc_ssint64_sint64.f slices_IndexFunc_ssint64_sint64.f
  rw [show ((0 : Nat) : Int) = 0 from rfl] at h1
  rw [h1]
  simp only [Option.bind_some]
  rw [List.drop_zero] at h2
  refine some_b ?_
  cases hq : l.all itemOK
  · have := h2.2 hq; simp; omega
  · have : ¬ 0 ≤ r := fun h3 => by rw [h2.1 h3] at hq; cases hq
    simp; omega
theorem impl_RingRight.eq {l : List (List Int)} (a : Int) {k : Nat} (hl : l.length ≤ 1048576) (hk : l.length + 301 < k) : impl_RingRight.f k l a = some (ringOK l a) := by
  unfold impl_RingRight.f ringOK
  by_cases h : l.length ≤ 10
  · rw [if_pos (by omega), impl_areItems.eq hl hk, show impl_size_sint64.f l = some (l.length : Int) from rfl]
    simp only [Option.bind_some, impl_within.eq, wrap_in (show -9223372036854775808 ≤ (l.length : Int) - 1 by omega) (by omega)]
    cases l.all itemOK
    · simp
    · have : mx ((l.length : Int) - 1) 0 = max ((l.length : Int) - 1) 0 := by unfold mx; omega
      simp [h, this]
  · rw [if_neg (by omega)]
    simp [h]
def topV (l : List (List Int)) (a : Int) : List Int := if ringOK l a = true then l.getD a.toNat [] else []
theorem ringOK_at {l : List (List Int)} {a : Int} (h : ringOK l a = true) : l.length ≤ 10 ∧ (∀ x ∈ l, x.length ≤ 300) ∧ 0 ≤ a ∧ a ≤ max ((l.length : Int) - 1) 0 := by
  unfold ringOK at h
  simp only [Bool.and_eq_true, decide_eq_true_eq] at h
  refine ⟨h.1.1, fun x hx => ?_, h.2.1, h.2.2⟩
  have := List.all_eq_true.1 h.1.2 x hx
  unfold itemOK at this
  simp only [Bool.and_eq_true] at this
  exact ptsOK_len this.2
theorem topV_len (l : List (List Int)) (a : Int) : (topV l a).length ≤ 300 := by
  unfold topV
  by_cases h : ringOK l a = true
  · rw [if_pos h]
    obtain ⟨h1, h2, h3, h4⟩ := ringOK_at h
    by_cases g : a.toNat < l.length
    · rw [List.getD_eq_getElem?_getD, List.getElem?_eq_getElem g]
      exact h2 _ (List.getElem_mem g)
    · rw [List.getD_eq_getElem?_getD, List.getElem?_eq_none (by omega)]
      simp
  · rw [if_neg h]
    simp
theorem rd_LL (l : List (List Int)) (a : Int) : rd_L1 l a = l.getD a.toNat [] := rfl
theorem spec_RingTop.eq {l : List (List Int)} (a : Int) {k : Nat} (hl : l.length ≤ 1048576) (hk : l.length + 301 < k) : spec_RingTop.f k l a = some (topV l a) := by
  unfold spec_RingTop.f
  rw [spec_RingRight.eq a hl hk]
  simp only [Option.bind_some]
  by_cases h : ringOK l a = true
  · obtain ⟨h1, h2, h3, h4⟩ := ringOK_at h
    have e : topV l a = l.getD a.toNat [] := if_pos h
    rw [if_pos h]
    by_cases g : l.length = 0
    · rw [if_pos (by omega), e, List.eq_nil_of_length_eq_zero g]
      rfl
    · rw [if_neg (by omega), if_pos h3, if_pos (by omega), rd_LL, ← e]
      have := topV_len l a
      unfold spec_l01Copy.f
      simp only [Option.bind_some, List.length_nil, List.nil_append]
      rw [if_pos (by omega)]
      rfl
  · rw [if_neg h]
    unfold topV
    rw [if_neg h]
theorem impl_Buf_isPlace.eq (l : List Int) (c m a : Int) : impl_Buf_isPlace.f l c m a = some (decide (0 ≤ a ∧ a ≤ l.length)) := by
  simp only [impl_Buf_isPlace.f, impl_size_int64.f, impl_within.eq, Option.bind_some]
theorem impl_BufRight.eq (l : List Int) (c m : Int) {k : Nat} (hk : 300 < k) : impl_BufRight.f k l c m = some (bufOK l c m) := by
  unfold impl_BufRight.f bufOK
  rw [impl_PointsRight.eq l hk]
  simp only [Option.bind_some, impl_Buf_isPlace.eq]
  cases ptsOK l
  · simp
  · simp only [if_true, Bool.true_and]
    by_cases h : 0 ≤ c ∧ c ≤ (l.length : Int) <;> simp [h]
theorem spec_BufRight.eq (l : List Int) (c m : Int) {k : Nat} (hk : 300 < k) : spec_BufRight.f k l c m = some (bufOK l c m) := by
  unfold spec_BufRight.f bufOK
  rw [spec_PointsRight.eq l hk]
  simp only [Option.bind_some]
  cases ptsOK l
  · simp
  · simp only [if_true, Bool.true_and]
    (repeat' split) <;> (refine some_b ?_; simp only [Bool.and_eq_true, decide_eq_true_eq, Bool.false_eq_true]; first | omega | (rw [false_iff]; omega))
theorem slices_Clone_sint64_int64.eq {l : List Int} (h : l.length ≤ 2000000) : slices_Clone_sint64_int64.f l = some l := by
  unfold slices_Clone_sint64_int64.f
  simp only [Option.bind_some, List.length_nil, List.nil_append]
  rw [if_pos (by omega)]
theorem spec_l01Copy.eq {l : List Int} (h : l.length ≤ 2000000) : spec_l01Copy.f l = some l := by
  unfold spec_l01Copy.f
  simp only [Option.bind_some, List.length_nil, List.nil_append]
  rw [if_pos (by omega)]
theorem impl_size_int64.eq (l : List Int) : impl_size_int64.f l = some (l.length : Int) := rfl
theorem wr_01 : wrap64 (0 + 1) = 1 := by unfold wrap64; omega
theorem wr_12 : wrap64 (1 + 1) = 2 := by unfold wrap64; omega
theorem wr_23 : wrap64 (2 + 1) = 3 := by unfold wrap64; omega
theorem slices_Grow_sint64_int64.eq {n : Int} (h0 : 0 ≤ n) (h1 : n ≤ 4000000) : slices_Grow_sint64_int64.f [] n = some [] := by
  unfold slices_Grow_sint64_int64.f
  rw [if_pos (show ([] : List Int).length = 0 from rfl), if_pos h0, if_pos (by omega)]
theorem slices_Concat_sint64_int64.eq3 {x y z : List Int} (hx : x.length ≤ 1000000) (hy : y.length ≤ 1000000) (hz : z.length ≤ 1000000) {k : Nat} (hk : 20 < k) : slices_Concat_sint64_int64.f k [x, y, z] = some (x ++ y ++ z) := by
  have hlen : (([x, y, z] : List (List Int)).length : Int) = 3 := rfl
  have r0 : rd_L1 [x, y, z] 0 = x := rfl
  have r1 : rd_L1 [x, y, z] 1 = y := rfl
  have r2 : rd_L1 [x, y, z] 2 = z := rfl
  unfold slices_Concat_sint64_int64.f
  obtain ⟨k, rfl⟩ : ∃ j, k = j + 1 := ⟨k - 1, by omega⟩
  simp only [slices_Concat_sint64_int64.l0]
  rw [hlen, if_pos (by omega), if_pos (by omega), if_pos (by omega), r0, wrap_in (x := 0 + (x.length : Int)) (by omega) (by omega), Int.zero_add, if_neg (by omega), wr_01]
  obtain ⟨k, rfl⟩ : ∃ j, k = j + 1 := ⟨k - 1, by omega⟩
  simp only [slices_Concat_sint64_int64.l0]
  rw [hlen, if_pos (by omega), if_pos (by omega), if_pos (by omega), r1, wrap_in (x := (x.length : Int) + (y.length : Int)) (by omega) (by omega), if_neg (by omega), wr_12]
  obtain ⟨k, rfl⟩ : ∃ j, k = j + 1 := ⟨k - 1, by omega⟩
  simp only [slices_Concat_sint64_int64.l0]
  rw [hlen, if_pos (by omega), if_pos (by omega), if_pos (by omega), r2, wrap_in (x := (x.length : Int) + (y.length : Int) + (z.length : Int)) (by omega) (by omega), if_neg (by omega), wr_23]
  obtain ⟨k, rfl⟩ : ∃ j, k = j + 1 := ⟨k - 1, by omega⟩
  simp only [slices_Concat_sint64_int64.l0]
  rw [if_neg (by omega), slices_Grow_sint64_int64.eq (by omega) (by omega)]
  simp only [Option.bind_some]
  obtain ⟨k, rfl⟩ : ∃ j, k = j + 1 := ⟨k - 1, by omega⟩
  simp only [slices_Concat_sint64_int64.l1]
  rw [hlen, if_pos (by omega), if_pos (by omega), if_pos (by omega), r0, if_pos (by simp; omega), wr_01]
  obtain ⟨k, rfl⟩ : ∃ j, k = j + 1 := ⟨k - 1, by omega⟩
  simp only [slices_Concat_sint64_int64.l1]
  rw [hlen, if_pos (by omega), if_pos (by omega), if_pos (by omega), r1, if_pos (by simp; omega), wr_12]
  obtain ⟨k, rfl⟩ : ∃ j, k = j + 1 := ⟨k - 1, by omega⟩
  simp only [slices_Concat_sint64_int64.l1]
  rw [hlen, if_pos (by omega), if_pos (by omega), if_pos (by omega), r2, if_pos (by simp; omega), wr_23]
  obtain ⟨k, rfl⟩ : ∃ j, k = j + 1 := ⟨k - 1, by omega⟩
  simp only [slices_Concat_sint64_int64.l1]
  rw [if_neg (by omega), List.nil_append]
def movd (x a b d : Int) : Int := if x ≤ a then x else if x < b then a else x + d
def rplW (l : List Int) (c m a b : Int) (p : List Int) : List Int × Int × Int × List Int × Int :=
  (l.take a.toNat ++ p ++ l.drop b.toNat, (if a = b ∧ c = a then a + (p.length : Int) else movd c a b ((p.length : Int) - (b - a))), movd m a b ((p.length : Int) - (b - a)), (l.take b.toNat).drop a.toNat, 0)
def rplR (l : List Int) (c m a b : Int) (p : List Int) : List Int × Int × Int × List Int × Int :=
  if 0 ≤ a ∧ a ≤ b ∧ b ≤ (l.length : Int) then (if (l.length : Int) - (b - a) + (p.length : Int) > 300 then ([], 0, 0, [], 5) else rplW l c m a b p) else ([], 0, 0, [], 8)
def rplV (l : List Int) (c m a b : Int) (p : List Int) : List Int × Int × Int × List Int × Int :=
  if 400 < p.length then ([], 0, 0, [], 2) else if bufOK l c m = true ∧ ptsOK p = true then rplR l c m a b p else ([], 0, 0, [], 1)
theorem spec_l02Moved.eq {x a b d : Int} (h0 : -1000000 ≤ x + d) (h1 : x + d ≤ 1000000) : spec_l02Moved.f x a b d = some (movd x a b d) := by
  unfold spec_l02Moved.f movd
  rw [wrap_in (by omega) (by omega)]
  (repeat' split) <;> rfl
theorem impl_replace_1.eq {x a b d : Int} (h0 : -1000000 ≤ x + d) (h1 : x + d ≤ 1000000) : impl_replace_1.f x a b d = some (movd x a b d) := by
  unfold impl_replace_1.f movd
  rw [wrap_in (by omega) (by omega)]
  (repeat' split) <;> rfl
theorem rplR_out {l p : List Int} {c m a b : Int} (h : a < 0 ∨ a > b ∨ b > (l.length : Int)) : rplR l c m a b p = ([], 0, 0, [], 8) := by
  unfold rplR
  rw [if_neg (by omega)]
theorem spec_BufReplace.eq (l : List Int) (c m a b : Int) (p : List Int) {k : Nat} (hk : 3000 < k) : spec_BufReplace.f k l c m a b p = some (rplV l c m a b p) := by
  unfold spec_BufReplace.f rplV
  obtain ⟨k, rfl⟩ : ∃ j, k = j + 3 := ⟨k - 3, by omega⟩
  by_cases h4 : 400 < p.length
  · rw [if_pos (by omega), if_pos h4]
  rw [if_neg (by omega), if_neg h4, spec_BufRight.eq _ _ _ (by omega)]
  simp only [Option.bind_some]
  by_cases hR : bufOK l c m = true ∧ ptsOK p = true
  · rw [if_pos hR, if_pos hR.1, spec_PointsRight.eq _ (by omega)]
    obtain ⟨hl, hc0, hc1, hm0, hm1⟩ := bufOK_all hR.1
    have hp := ptsOK_len hR.2
    simp only [Option.bind_some, hR.2, Bool.not_true]
    rw [spec_BufReplace.j0, if_neg (by decide)]
    by_cases h1 : a < 0
    · rw [if_pos h1, rplR_out (by omega), spec_BufReplace.j1, if_pos rfl]
    rw [if_neg h1]
    by_cases h2 : a > b
    · rw [if_pos h2, rplR_out (by omega), spec_BufReplace.j1, if_pos rfl]
    rw [if_neg h2]
    by_cases h3 : b > (l.length : Int)
    · rw [decide_eq_true h3, rplR_out (by omega), spec_BufReplace.j1, if_pos rfl]
    rw [decide_eq_false h3, spec_BufReplace.j1, if_neg (by decide)]
    simp only [wrap_in (x := b - a) (by omega) (by omega), wrap_in (x := (l.length : Int) - (b - a)) (by omega) (by omega), wrap_in (x := (l.length : Int) - (b - a) + (p.length : Int)) (by omega) (by omega), wrap_in (x := (p.length : Int) - (b - a)) (by omega) (by omega)]
    unfold rplR
    rw [if_pos (show 0 ≤ a ∧ a ≤ b ∧ b ≤ (l.length : Int) by omega)]
    by_cases hf : (l.length : Int) - (b - a) + (p.length : Int) > 300
    · rw [if_pos hf, if_pos hf]
    rw [if_neg hf, if_neg hf, spec_l02Moved.eq (by omega) (by omega), spec_l02Moved.eq (by omega) (by omega)]
    simp only [Option.bind_some]
    rw [if_pos (by omega), if_pos (by omega), spec_l01Copy.eq (by rw [List.length_take]; omega)]
    simp only [Option.bind_some]
    rw [if_pos (by rw [List.length_take]; omega), if_pos (by omega), if_pos (by omega), if_pos (by rw [List.length_append, List.length_take, List.length_drop]; omega), spec_l01Copy.eq (by rw [List.length_drop, List.length_take]; omega)]
    have hj : ∀ u v : Int, spec_BufReplace.j2 (k + 1) a b l c m (l.take a.toNat ++ p ++ l.drop b.toNat) u v = some (l.take a.toNat ++ p ++ l.drop b.toNat, u, v, (l.take b.toNat).drop a.toNat, 0) := fun u v => by
      rw [spec_BufReplace.j2, if_pos (by omega), if_pos (by omega), if_pos (by omega), spec_l01Copy.eq (by rw [List.length_drop, List.length_take]; omega)]
      rfl
    simp only [Option.bind_some, hj, wrap_in (x := a + (p.length : Int)) (by omega) (by omega)]
    unfold rplW
    by_cases e1 : a = b
    · by_cases e2 : c = a
      · rw [if_pos e1, if_pos e2, if_pos ⟨e1, e2⟩]
      · rw [if_pos e1, if_neg e2, if_neg (fun e => e2 e.2)]
    · rw [if_neg e1, if_pos (by omega), if_neg (fun e => e1 e.1)]
  · rw [if_neg hR]
    by_cases h5 : bufOK l c m = true
    · have h6 : ptsOK p = false := by
        cases h : ptsOK p
        · rfl
        · exact absurd ⟨h5, h⟩ hR
      rw [if_pos h5, spec_PointsRight.eq _ (by omega), h6]
      simp only [Option.bind_some, Bool.not_false]
      rw [spec_BufReplace.j0, if_pos rfl]
    · rw [if_neg h5, spec_BufReplace.j0, if_pos rfl]
theorem impl_replace.eq {l : List Int} {c m a b : Int} {p : List Int} (hR : bufOK l c m = true) (hp : p.length ≤ 400) {k : Nat} (hk : 3000 < k) : impl_replace.f k l c m a b p = some (rplR l c m a b p) := by
  obtain ⟨k, rfl⟩ : ∃ j, k = j + 3 := ⟨k - 3, by omega⟩
  obtain ⟨hl, hc0, hc1, hm0, hm1⟩ := bufOK_all hR
  unfold impl_replace.f
  by_cases h1 : a < 0
  · rw [if_pos h1, rplR_out (by omega), impl_replace.j0, if_pos rfl]
  rw [if_neg h1]
  by_cases h2 : a > b
  · rw [if_pos h2, rplR_out (by omega), impl_replace.j0, if_pos rfl]
  rw [if_neg h2, impl_size_int64.eq]
  simp only [Option.bind_some]
  by_cases h3 : b > (l.length : Int)
  · rw [decide_eq_true h3, rplR_out (by omega), impl_replace.j0, if_pos rfl]
  rw [decide_eq_false h3, impl_replace.j0, if_neg (by decide)]
  simp only [impl_size_int64.eq, Option.bind_some, wrap_in (x := b - a) (by omega) (by omega), wrap_in (x := (l.length : Int) + ((p.length : Int) - (b - a))) (by omega) (by omega), wrap_in (x := (p.length : Int) - (b - a)) (by omega) (by omega)]
  unfold rplR
  rw [if_pos (show 0 ≤ a ∧ a ≤ b ∧ b ≤ (l.length : Int) by omega)]
  by_cases hf : (l.length : Int) - (b - a) + (p.length : Int) > 300
  · rw [if_pos hf, if_pos (by omega)]
  rw [if_neg hf, if_neg (by omega), if_pos (by omega), if_pos (by omega), if_pos (by omega), if_pos (by omega), slices_Concat_sint64_int64.eq3 (by rw [List.length_take]; omega) (by omega) (by rw [List.length_drop]; omega) (by omega)]
  simp only [Option.bind_some]
  rw [impl_replace_1.eq (by omega) (by omega), impl_replace_1.eq (by omega) (by omega)]
  have hj : ∀ (k : Nat) (u v : Int), impl_replace.j2 (k + 1) l c m a b (l.take a.toNat ++ p ++ l.drop b.toNat) u v = some (l.take a.toNat ++ p ++ l.drop b.toNat, u, v, (l.take b.toNat).drop a.toNat, 0) := fun k u v => by
    rw [impl_replace.j2, if_pos (by omega), if_pos (by omega), if_pos (by omega), slices_Clone_sint64_int64.eq (by rw [List.length_drop, List.length_take]; omega)]
    rfl
  simp only [Option.bind_some]
  unfold rplW
  by_cases e1 : a = b
  · rw [if_pos e1, impl_replace.j1, impl_size_int64.eq]
    simp only [Option.bind_some, hj, wrap_in (x := a + (p.length : Int)) (by omega) (by omega), beq_iff_eq]
    by_cases e2 : c = a
    · rw [if_pos e2, if_pos ⟨e1, e2⟩]
    · rw [if_neg e2, if_neg (fun e => e2 e.2)]
  · rw [if_neg e1, impl_replace.j1, if_neg (by decide), hj, if_neg (fun e => e1 e.1)]
theorem rplV_len (l : List Int) (c m a b : Int) (p : List Int) : (rplV l c m a b p).1.length ≤ 300 ∧ (rplV l c m a b p).2.2.2.1.length ≤ 300 := by
  unfold rplV
  by_cases h4 : 400 < p.length
  · rw [if_pos h4]; exact ⟨by simp, by simp⟩
  rw [if_neg h4]
  by_cases hR : bufOK l c m = true ∧ ptsOK p = true
  · rw [if_pos hR]
    have hl := bufOK_len hR.1
    unfold rplR
    by_cases hr : 0 ≤ a ∧ a ≤ b ∧ b ≤ (l.length : Int)
    · rw [if_pos hr]
      by_cases hf : (l.length : Int) - (b - a) + (p.length : Int) > 300
      · rw [if_pos hf]; exact ⟨by simp, by simp⟩
      · rw [if_neg hf]
        unfold rplW
        refine ⟨?_, ?_⟩
        · show (l.take a.toNat ++ p ++ l.drop b.toNat).length ≤ 300
          rw [List.length_append, List.length_append, List.length_take, List.length_drop]; omega
        · show ((l.take b.toNat).drop a.toNat).length ≤ 300
          rw [List.length_drop, List.length_take]; omega
    · rw [if_neg hr]; exact ⟨by simp, by simp⟩
  · rw [if_neg hR]; exact ⟨by simp, by simp⟩
theorem topV_at {L : List (List Int)} {a : Int} (h : ringOK L a = true) (h0 : L.length ≠ 0) : 0 ≤ a ∧ a < (L.length : Int) ∧ topV L a = L.getD a.toNat [] ∧ ptsOK (topV L a) = true := by
  obtain ⟨h1, h2, h3, h4⟩ := ringOK_at h
  have e : topV L a = L.getD a.toNat [] := if_pos h
  refine ⟨h3, by omega, e, ?_⟩
  have g : a.toNat < L.length := by omega
  unfold ringOK at h
  simp only [Bool.and_eq_true] at h
  have hm := List.all_eq_true.1 h.1.2 L[a.toNat] (List.getElem_mem g)
  unfold itemOK at hm
  simp only [Bool.and_eq_true] at hm
  rw [e, List.getD_eq_getElem?_getD, List.getElem?_eq_getElem g]
  exact hm.2
theorem rplV_R {l p : List Int} {c m a b : Int} (h : bufOK l c m = true) (hp : ptsOK p = true) : rplV l c m a b p = rplR l c m a b p := by
  have := ptsOK_len hp
  unfold rplV
  rw [if_neg (by omega), if_pos ⟨h, hp⟩]
theorem impl_ringCode.eq {L : List (List Int)} (a : Int) (l : List Int) (c m : Int) {k : Nat} (hl : L.length ≤ 1048576) (hk : L.length + 4001 < k) : impl_ringCode.f k L a l c m = some (if ringOK L a = true ∧ bufOK l c m = true then (if L.length = 0 then 4 else 0) else 1) := by
  obtain ⟨k, rfl⟩ : ∃ j, k = j + 1 := ⟨k - 1, by omega⟩
  unfold impl_ringCode.f
  rw [impl_RingRight.eq a hl (by omega), Option.bind_some]
  by_cases h1 : ringOK L a = true
  · rw [if_pos h1, impl_BufRight.eq _ _ _ (by omega), Option.bind_some]
    by_cases h2 : bufOK l c m = true
    · rw [if_pos (⟨h1, h2⟩ : ringOK L a = true ∧ bufOK l c m = true), h2, Bool.not_true, impl_ringCode.j0, if_neg (by decide)]
      by_cases h0 : L.length = 0
      · rw [if_pos (by omega), if_pos h0]
      · rw [if_neg (by omega), if_neg h0]
    · have h3 : bufOK l c m = false := by cases h : bufOK l c m <;> simp_all
      rw [if_neg (fun e => h2 e.2), h3, Bool.not_false, impl_ringCode.j0, if_pos rfl]
  · rw [if_neg h1, if_neg (fun e => h1 e.1), impl_ringCode.j0, if_pos rfl]
theorem laws_eqYankOut.eq {l l' : List Int} {c m x y r c' m' x' y' r' : Int} {k : Nat} (hl : l.length ≤ 1048576) (hk : 1048576 < k) : laws_eqYankOut.f k l c m x y r l' c' m' x' y' r' = some (decide (l = l' ∧ c = c' ∧ m = m' ∧ x = x' ∧ y = y' ∧ r = r')) := by
  unfold laws_eqYankOut.f
  rw [laws_eqBuf.eq hl (by omega), Option.bind_some]
  by_cases h1 : l = l' ∧ c = c' ∧ m = m'
  · rw [if_pos (decide_eq_true h1)]
    obtain ⟨rfl, rfl, rfl⟩ := h1
    by_cases h2 : x = x'
    · by_cases h3 : y = y'
      · by_cases h4 : r = r'
        · simp [h2, h3, h4]
        · simp [h2, h3, h4]
      · simp [h2, h3]
    · simp [h2]
  · rw [if_neg (by simpa using h1)]
    refine congrArg some (decide_eq_false (fun e => h1 ⟨e.1, e.2.1, e.2.2.1⟩)).symm
theorem spec_l04CopyAll.loop (l : List (List Int)) (hl : l.length ≤ 1048576) (hL : ∀ x ∈ l, x.length ≤ 2000000) (d : Nat) : ∀ (k i : Nat), i ≤ l.length → l.length - i = d → d < k → spec_l04CopyAll.l0 k l (l.take i) (i : Int) = some l := by
  induction d with
  | zero =>
    intro k i hi hd hk
    obtain ⟨k, rfl⟩ : ∃ m, k = m + 1 := ⟨k - 1, by omega⟩
    obtain rfl : i = l.length := by omega
    simp only [spec_l04CopyAll.l0]
    rw [if_neg (by omega), List.take_length]
  | succ d ih =>
    intro k i hi hd hk
    obtain ⟨k, rfl⟩ : ∃ m, k = m + 1 := ⟨k - 1, by omega⟩
    have hlt : i < l.length := by omega
    simp only [spec_l04CopyAll.l0]
    rw [if_pos (int_lt hlt), if_pos (int_nn i), rdLL hlt, spec_l01Copy.eq (hL _ (List.getElem_mem hlt))]
    simp only [Option.bind_some]
    rw [if_pos (by rw [List.length_take]; omega), wrap_succ (by omega), ← List.take_succ_eq_append_getElem hlt]
    exact ih k (i + 1) (by omega) (by omega) (by omega)
theorem spec_l04CopyAll.eq {l : List (List Int)} {k : Nat} (h : l.length + szLL l ≤ 1048576) (hk : 1048577 < k) : spec_l04CopyAll.f k l = some l := by
  have := spec_l04CopyAll.loop l (by omega) (fun x hx => by have := (szLL_ok h x hx).1; omega) l.length k 0 (by omega) (by omega) (by omega)
  exact this
def turnV (l : List (List Int)) (a : Int) : Int := if ringOK l a = true ∧ 0 < l.length then Int.tmod (wrap64 (a + 1)) (l.length : Int) else a
theorem spec_RingTurn.eq {l : List (List Int)} (a : Int) {k : Nat} (h : l.length + szLL l ≤ 1048576) (hk : 3000000 < k) : spec_RingTurn.f k l a = some (l, turnV l a) := by
  unfold spec_RingTurn.f spec_l04Copy.f turnV
  rw [spec_l04CopyAll.eq h (by omega), spec_RingRight.eq a (by omega) (by omega)]
  simp only [Option.bind_some]
  by_cases g : ringOK l a = true
  · rw [if_pos g]
    by_cases g2 : 0 < l.length
    · rw [if_pos (by omega), if_neg (by omega), if_pos ⟨g, g2⟩]
    · rw [if_neg (by omega), if_neg (fun e => g2 e.2)]
  · rw [if_neg g, if_neg (fun e => g e.1)]
theorem turn_at {L : List (List Int)} {a : Int} (h : ringOK L a = true) (h0 : L.length ≠ 0) : 0 ≤ Int.tmod (wrap64 (a + 1)) (L.length : Int) ∧ Int.tmod (wrap64 (a + 1)) (L.length : Int) < (L.length : Int) ∧ ringOK L (Int.tmod (wrap64 (a + 1)) (L.length : Int)) = true := by
  obtain ⟨h1, _, h3, h4⟩ := ringOK_at h
  rw [wrap_in (x := a + 1) (by omega) (by omega)]
  have g1 : 0 ≤ Int.tmod (a + 1) (L.length : Int) := Int.tmod_nonneg _ (by omega)
  have g2 : Int.tmod (a + 1) (L.length : Int) < (L.length : Int) := Int.tmod_lt_of_pos _ (by omega)
  refine ⟨g1, g2, ?_⟩
  unfold ringOK at h ⊢
  simp only [Bool.and_eq_true, decide_eq_true_eq] at h ⊢
  exact ⟨h.1, g1, by omega⟩
def rpV (L : List (List Int)) (a : Int) (l : List Int) (c m x y : Int) : List Int × Int × Int × Int × Int × Int :=
  if ringOK L a = true ∧ bufOK l c m = true then (if L.length = 0 then ([], 0, 0, 0, 0, 4) else (if (rplR l c m x y (topV L (Int.tmod (wrap64 (a + 1)) (L.length : Int)))).2.2.2.2 = 0 then ((rplR l c m x y (topV L (Int.tmod (wrap64 (a + 1)) (L.length : Int)))).1, wrap64 (x + ((topV L (Int.tmod (wrap64 (a + 1)) (L.length : Int))).length : Int)), (rplR l c m x y (topV L (Int.tmod (wrap64 (a + 1)) (L.length : Int)))).2.2.1, x, wrap64 (x + ((topV L (Int.tmod (wrap64 (a + 1)) (L.length : Int))).length : Int)), 0) else ([], 0, 0, 0, 0, (rplR l c m x y (topV L (Int.tmod (wrap64 (a + 1)) (L.length : Int)))).2.2.2.2))) else ([], 0, 0, 0, 0, 1)
theorem rpV_len (L : List (List Int)) (a : Int) (l : List Int) (c m x y : Int) : (rpV L a l c m x y).1.length ≤ 300 := by
  unfold rpV
  by_cases h : ringOK L a = true ∧ bufOK l c m = true
  · rw [if_pos h]
    by_cases h0 : L.length = 0
    · rw [if_pos h0]; simp
    · rw [if_neg h0]
      have ht := turn_at h.1 h0
      generalize Int.tmod (wrap64 (a + 1)) (L.length : Int) = a' at ht
      by_cases h2 : (rplR l c m x y (topV L a')).2.2.2.2 = 0
      · rw [if_pos h2]
        have := (rplV_len l c m x y (topV L a')).1
        rw [rplV_R h.2 (topV_at ht.2.2 h0).2.2.2] at this
        exact this
      · rw [if_neg h2]; simp
  · rw [if_neg h]; simp
theorem spec_RingPop.eq {L : List (List Int)} (a : Int) (l : List Int) (c m x y : Int) {k : Nat} (hl : L.length + szLL L ≤ 1048576) (hk : 4000000 < k) : spec_RingPop.f k L a l c m x y = some (rpV L a l c m x y) := by
  obtain ⟨k, rfl⟩ : ∃ j, k = j + 1 := ⟨k - 1, by omega⟩
  unfold spec_RingPop.f rpV
  rw [spec_RingRight.eq a (by omega) (by omega), Option.bind_some]
  by_cases h1 : ringOK L a = true
  · rw [if_pos h1, spec_BufRight.eq _ _ _ (by omega), Option.bind_some]
    by_cases h2 : bufOK l c m = true
    · rw [if_pos (⟨h1, h2⟩ : ringOK L a = true ∧ bufOK l c m = true), h2, Bool.not_true, spec_RingPop.j0, if_neg (by decide)]
      by_cases h0 : L.length = 0
      · rw [if_pos (by omega), if_pos h0]
      · have ht := turn_at h1 h0
        have hv : turnV L a = Int.tmod (wrap64 (a + 1)) (L.length : Int) := if_pos ⟨h1, by omega⟩
        rw [if_neg (by omega), if_neg h0, spec_RingTurn.eq a hl (by omega), Option.bind_some, hv]
        (try dsimp only)
        generalize Int.tmod (wrap64 (a + 1)) (L.length : Int) = a' at ht
        obtain ⟨_, _, _, hp⟩ := topV_at ht.2.2 h0
        rw [spec_RingTop.eq a' (by omega) (by omega), Option.bind_some, spec_BufReplace.eq _ _ _ _ _ _ (by omega), Option.bind_some, rplV_R h2 hp]
        by_cases hz : (rplR l c m x y (topV L a')).2.2.2.2 = 0
        · rw [if_pos hz, if_pos hz]
        · rw [if_neg hz, if_neg hz]
    · have h3 : bufOK l c m = false := by cases h : bufOK l c m <;> simp_all
      rw [if_neg (fun e => h2 e.2), h3, Bool.not_false, spec_RingPop.j0, if_pos rfl]
  · rw [if_neg h1, if_neg (fun e => h1 e.1), spec_RingPop.j0, if_pos rfl]
theorem impl_RingPop.eq {L : List (List Int)} (a : Int) (l : List Int) (c m x y : Int) {k : Nat} (hl : L.length + szLL L ≤ 1048576) (hk : 4000000 < k) : impl_RingPop.f k L a l c m x y = some (rpV L a l c m x y) := by
  unfold impl_RingPop.f rpV
  rw [impl_ringCode.eq a l c m (by omega) (by omega), Option.bind_some]
  by_cases h : ringOK L a = true ∧ bufOK l c m = true
  · rw [if_pos h, if_pos h]
    by_cases h0 : L.length = 0
    · rw [if_pos h0, if_pos h0, if_neg (by decide)]
    · have ht := turn_at h.1 h0
      rw [if_neg h0, if_neg h0, if_pos rfl, show impl_size_sint64.f L = some (L.length : Int) from rfl, Option.bind_some, if_neg (by omega)]
      generalize Int.tmod (wrap64 (a + 1)) (L.length : Int) = a' at ht
      obtain ⟨g1, g2, g3, hp⟩ := topV_at ht.2.2 h0
      have hq := topV_len L a'
      rw [if_pos g1, if_pos g2, rd_LL, ← g3, impl_replace.eq h.2 (by omega) (by omega), Option.bind_some, impl_size_int64.eq, Option.bind_some]
      by_cases hz : (rplR l c m x y (topV L a')).2.2.2.2 = 0
      · rw [if_pos hz, if_pos hz]
      · rw [if_neg hz, if_neg hz]
  · rw [if_neg h, if_neg h, if_neg (by decide)]

theorem FnExactRingPop : laws_FnExactRingPop.Pure := by
  intro L a l c m x y ⟨⟨hL, hLL⟩, _⟩ ⟨⟨hl, _⟩, _, _⟩ _ _
  have hL := maxLen_le hL
  have hl := maxLen_le hl
  refine ⟨6000000, ?_⟩
  unfold laws_FnExactRingPop.f
  rw [laws_szRing.eq (by omega) (by omega) hL (fun x hx => maxLen_le (hLL x hx).1) (by omega), Option.bind_some]
  by_cases h : (1048576 : Int) < ((L.length + szLL L : Nat) : Int)
  · rw [if_pos h, if_pos (by omega)]
  · rw [if_neg h, if_neg (by omega), laws_szBuf.eq (by omega) (by omega) hl, Option.bind_some]
    by_cases h2 : (1048576 : Int) - ((L.length + szLL L : Nat) : Int) < (l.length : Int)
    · rw [if_pos h2, if_pos (by omega)]
    · have hs := rpV_len L a l c m x y
      rw [if_neg h2, if_neg (by omega), laws_toRing.eq (by omega) (by omega), Option.bind_some, laws_toBuf.eq (by omega) (by omega), Option.bind_some]
      (try dsimp only)
      rw [spec_RingPop.eq a l c m x y (by omega) (by omega), Option.bind_some, Option.bind_some, Option.bind_some]
      (try dsimp only)
      rw [impl_RingPop.eq a l c m x y (by omega) (by omega), Option.bind_some]
      generalize hv : rpV L a l c m x y = v at hs
      obtain ⟨v1, v2, v3, v4, v5, v6⟩ := v
      (try dsimp only at hs)
      (try dsimp only)
      rw [laws_eqYankOut.eq (by omega) (by omega), Option.bind_some, if_pos (decide_eq_true ⟨rfl, rfl, rfl, rfl, rfl, rfl⟩), Option.bind_some]
      (try dsimp only)
      rw [laws_eqRing.eq (by omega) (by omega), Option.bind_some, if_pos (decide_eq_true ⟨rfl, rfl⟩), Option.bind_some]
      (try dsimp only)
      rw [laws_eqBuf.eq (by omega) (by omega), Option.bind_some, if_pos (decide_eq_true ⟨rfl, rfl, rfl⟩), laws_markRing.eq (by omega) (by omega) (by omega) (by omega), Option.bind_some]
      (try dsimp only)
      rw [laws_markBuf.eq (by omega) (by omega) (by omega) (by omega), Option.bind_some, Option.bind_some]
      (try dsimp only)
      rw [if_neg (by omega), if_pos (decide_eq_true ⟨rfl, rfl, rfl, rfl, rfl, rfl⟩)]
      unfold laws_markYankOut.f laws_heldYankOut.f
      rw [laws_markBuf.eq (by omega) (by omega) (by omega) (by omega), Option.bind_some, Option.bind_some]
      (try dsimp only)
      rw [laws_heldBuf.eq (by omega) (by omega) (by omega) (by omega), Option.bind_some, if_neg (by omega), Option.bind_some, if_neg (by omega), if_pos rfl]
      simp only [Option.bind_some, decide_true, if_true, and_self]
      rw [if_neg (by omega)]
      rw [impl_RingPop.eq a l c m x y (by omega) (by omega), hv, Option.bind_some]
      (try dsimp only)
      rw [laws_eqYankOut.eq (by omega) (by omega), Option.bind_some, if_pos (decide_eq_true ⟨rfl, rfl, rfl, rfl, rfl, rfl⟩)]

end Go.Proofs.Ytejgkbejdkaccaa.Pure
