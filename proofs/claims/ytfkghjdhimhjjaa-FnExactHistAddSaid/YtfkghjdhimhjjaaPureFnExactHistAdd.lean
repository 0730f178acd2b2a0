/- Proved: the program's HistAdd returns what the reference's returns, leaves its arguments as they were, and its answer is memory of its own. -/
import Derived.Test.YtfkghjdhimhjjaaPFnExactHistAddx8
namespace Go.Proofs.Ytfkghjdhimhjjaa.Pure
open Go.RowKit Go.Proofs.Ytfkghjdhimhjjaa.PFnExactHistAdd Go.Proofs.YtfkghjdhimhjjaaW.PrintWords Go.Proofs.YtfkghjdhimhjjaaW.PrintLast Go.Proofs.YtfkghjdhimhjjaaW.PrintMore
set_option linter.unusedVariables false
set_option linter.unusedSimpArgs false

/-! ### plain words -/
theorem wrap_in {x : Int} (h0 : -9223372036854775808 ≤ x) (h1 : x ≤ 9223372036854775807) : wrap64 x = x := by unfold wrap64; omega
theorem wrap_succ {i : Nat} (h : i < 4611686018427387904) : wrap64 ((i : Int) + 1) = ((i + 1 : Nat) : Int) := by unfold wrap64; omega
theorem rd_nat (l : List Int) (i : Nat) : rd l (i : Int) = l.getD i 0 := by simp [rd]
theorem drop_rd {l : List Int} {i : Nat} (h : i < l.length) : l.drop i = rd l (i : Int) :: l.drop (i + 1) := by
  rw [rd_nat, List.drop_eq_getElem_cons h, List.getD_eq_getElem?_getD, List.getElem?_eq_getElem h]
  rfl
theorem int_lt {i n : Nat} (h : i < n) : (i : Int) < (n : Int) := by omega
theorem int_nn (i : Nat) : (0 : Int) ≤ (i : Int) := by omega
theorem maxLen_le {n : Nat} (h : n ≤ maxLen) : n ≤ 9223372036854775807 := by unfold maxLen at h; exact h
theorem some_b {a b : Bool} (h : a = true ↔ b = true) : some a = some b := congrArg some (Bool.eq_iff_iff.2 h)
def isPt (a : Int) : Bool := decide (0 ≤ a ∧ a ≤ 1114111 ∧ ¬ (55296 ≤ a ∧ a ≤ 57343))
def ptsOK (l : List Int) : Bool := decide (l.length ≤ 300) && l.all isPt
theorem ptsOK_len {l : List Int} (h : ptsOK l = true) : l.length ≤ 300 := by
  unfold ptsOK at h
  simp only [Bool.and_eq_true, decide_eq_true_eq] at h
  exact h.1
theorem laws_szInt64S.eq {l : List Int} {a : Int} (h0 : 0 ≤ a) (h1 : a ≤ 1048576) (hl : l.length ≤ 9223372036854775807) : laws_szInt64S.f l a = some (if a < (l.length : Int) then -1 else a - (l.length : Int)) := by
  unfold laws_szInt64S.f
  rw [wrap_in (by omega) (by omega)]
  by_cases h : a < (l.length : Int)
  · rw [if_pos (by omega), if_pos h]
  · rw [if_neg (by omega), if_neg h]
theorem laws_toInt64S.loop (l : List Int) (hl : l.length ≤ 1048576) (d : Nat) : ∀ (k i : Nat), i ≤ l.length → l.length - i = d → d < k → laws_toInt64S.l0 k l (l.take i ++ List.replicate (l.length - i) 0) (i : Int) = some l := by
  induction d with
  | zero =>
    intro k i hi hd hk
    obtain ⟨k, rfl⟩ : ∃ m, k = m + 1 := ⟨k - 1, by omega⟩
    obtain rfl : i = l.length := by omega
    simp only [laws_toInt64S.l0]
    rw [if_neg (by omega)]
    simp
  | succ d ih =>
    intro k i hi hd hk
    obtain ⟨k, rfl⟩ : ∃ m, k = m + 1 := ⟨k - 1, by omega⟩
    have hlt : i < l.length := by omega
    simp only [laws_toInt64S.l0]
    rw [if_pos (int_lt hlt), if_pos (int_nn i), if_pos (by simp; omega), wrap_succ (by omega), Int.toNat_natCast]
    have hs : (l.take i ++ List.replicate (l.length - i) 0).set i (rd l (i : Int)) = l.take (i + 1) ++ List.replicate (l.length - (i + 1)) 0 := by
      have h1 : (l.take i).length = i := by simp; omega
      rw [List.set_append_right _ _ (by omega), h1, Nat.sub_self, show l.length - i = (l.length - (i + 1)) + 1 by omega, List.replicate_succ, List.set_cons_zero, List.take_succ_eq_append_getElem hlt, rd_nat, List.getD_eq_getElem?_getD, List.getElem?_eq_getElem hlt, List.append_assoc]
      rfl
    rw [hs]
    exact ih k (i + 1) (by omega) (by omega) (by omega)
theorem laws_toInt64S.eq {l : List Int} {k : Nat} (hl : l.length ≤ 1048576) (hk : l.length < k) : laws_toInt64S.f k l = some l := by
  unfold laws_toInt64S.f
  rw [if_pos (by omega), if_pos (by omega), Int.toNat_natCast]
  have := laws_toInt64S.loop l hl l.length k 0 (by omega) (by omega) hk
  simpa using this
theorem rdLL {l : List (List Int)} {i : Nat} (h : i < l.length) : rd_L1 l (i : Int) = l[i] := by
  unfold rd_L1
  rw [Int.toNat_natCast, List.getD_eq_getElem?_getD, List.getElem?_eq_getElem h]
  rfl
theorem laws_toInt64SS.loop (l : List (List Int)) (hl : l.length ≤ 1048576) (K : Nat) (hL : ∀ x ∈ l, x.length ≤ 1048576 ∧ x.length < K) (d : Nat) : ∀ (k i : Nat), i ≤ l.length → l.length - i = d → d + K < k → laws_toInt64SS.l0 k l (l.take i ++ List.replicate (l.length - i) []) (i : Int) = some l := by
  induction d with
  | zero =>
    intro k i hi hd hk
    obtain ⟨k, rfl⟩ : ∃ m, k = m + 1 := ⟨k - 1, by omega⟩
    obtain rfl : i = l.length := by omega
    simp only [laws_toInt64SS.l0]
    rw [if_neg (by omega)]
    simp
  | succ d ih =>
    intro k i hi hd hk
    obtain ⟨k, rfl⟩ : ∃ m, k = m + 1 := ⟨k - 1, by omega⟩
    have hlt : i < l.length := by omega
    obtain ⟨h1, h2⟩ := hL l[i] (List.getElem_mem hlt)
    simp only [laws_toInt64SS.l0]
    rw [if_pos (int_lt hlt), if_pos (int_nn i), rdLL hlt, laws_toInt64S.eq h1 (by omega)]
    simp only [Option.bind_some]
    rw [if_pos (by simp; omega), wrap_succ (by omega), Int.toNat_natCast]
    have hs : (l.take i ++ List.replicate (l.length - i) []).set i l[i] = l.take (i + 1) ++ List.replicate (l.length - (i + 1)) [] := by
      have h1 : (l.take i).length = i := by simp; omega
      rw [List.set_append_right _ _ (by omega), h1, Nat.sub_self, show l.length - i = (l.length - (i + 1)) + 1 by omega, List.replicate_succ, List.set_cons_zero, List.take_succ_eq_append_getElem hlt, List.append_assoc]
      rfl
    rw [hs]
    exact ih k (i + 1) (by omega) (by omega) (by omega)
theorem laws_toInt64SS.eq {l : List (List Int)} {k : Nat} (hl : l.length ≤ 1048576) (K : Nat) (hL : ∀ x ∈ l, x.length ≤ 1048576 ∧ x.length < K) (hk : l.length + K < k) : laws_toInt64SS.f k l = some l := by
  unfold laws_toInt64SS.f
  rw [if_pos (by omega), if_pos (by omega), Int.toNat_natCast]
  have := laws_toInt64SS.loop l hl K hL l.length k 0 (by omega) (by omega) hk
  simpa using this
/-- what the sizes' functions take off: the rows, and what they hold -/
def szLL : List (List Int) → Nat
  | [] => 0
  | x :: l => x.length + szLL l
theorem szLL_nil : szLL [] = 0 := rfl
theorem szLL_cons (x : List Int) (l : List (List Int)) : szLL (x :: l) = x.length + szLL l := rfl
theorem szLL_mem {l : List (List Int)} {x : List Int} (h : x ∈ l) : x.length ≤ szLL l := by
  induction l with
  | nil => cases h
  | cons y l ih =>
    rw [szLL_cons]
    rcases List.mem_cons.1 h with rfl | h
    · omega
    · have := ih h; omega
theorem szLL_ok {l : List (List Int)} (h : l.length + szLL l ≤ 1048576) : ∀ x ∈ l, x.length ≤ 1048576 ∧ x.length < 1048577 := fun x hx => by have := szLL_mem hx; omega
theorem laws_szInt64SS.loop (l : List (List Int)) (hl : l.length ≤ 1048576) (hL : ∀ x ∈ l, x.length ≤ 9223372036854775807) (d : Nat) : ∀ (k i : Nat) (a : Int), 0 ≤ a → a ≤ 1048576 → i ≤ l.length → l.length - i = d → d < k → laws_szInt64SS.l0 k l a (i : Int) = some (if a < (szLL (l.drop i) : Int) then -1 else a - (szLL (l.drop i) : Int)) := by
  induction d with
  | zero =>
    intro k i a h0 h1 hi hd hk
    obtain ⟨k, rfl⟩ : ∃ m, k = m + 1 := ⟨k - 1, by omega⟩
    simp only [laws_szInt64SS.l0]
    rw [if_neg (by omega), List.drop_eq_nil_of_le (by omega), szLL_nil, if_neg (by omega)]
    simp
  | succ d ih =>
    intro k i a h0 h1 hi hd hk
    obtain ⟨k, rfl⟩ : ∃ m, k = m + 1 := ⟨k - 1, by omega⟩
    have hlt : i < l.length := by omega
    have hx := hL l[i] (List.getElem_mem hlt)
    simp only [laws_szInt64SS.l0]
    rw [if_pos (int_lt hlt), if_pos (int_nn i), rdLL hlt, laws_szInt64S.eq h0 h1 hx]
    simp only [Option.bind_some]
    rw [List.drop_eq_getElem_cons hlt, szLL_cons]
    by_cases h : a < (l[i].length : Int)
    · rw [if_pos h, if_pos (by omega), if_pos (by omega)]
    · rw [if_neg h, if_neg (by omega), wrap_succ (by omega), ih k (i + 1) _ (by omega) (by omega) (by omega) (by omega) (by omega)]
      by_cases h2 : a - (l[i].length : Int) < (szLL (l.drop (i + 1)) : Int)
      · rw [if_pos h2, if_pos (by omega)]
      · rw [if_neg h2, if_neg (by omega)]
        refine congrArg some ?_
        omega
theorem laws_szInt64SS.eq {l : List (List Int)} {a : Int} {k : Nat} (h0 : 0 ≤ a) (h1 : a ≤ 1048576) (hl : l.length ≤ 9223372036854775807) (hL : ∀ x ∈ l, x.length ≤ 9223372036854775807) (hk : 1048577 < k) : laws_szInt64SS.f k l a = some (if a < ((l.length + szLL l : Nat) : Int) then -1 else a - ((l.length + szLL l : Nat) : Int)) := by
  unfold laws_szInt64SS.f
  rw [wrap_in (by omega) (by omega)]
  by_cases h : a < (l.length : Int)
  · rw [if_pos (by omega), if_pos (by omega)]
  · rw [if_neg (by omega)]
    have := laws_szInt64SS.loop l (by omega) hL l.length k 0 (a - (l.length : Int)) (by omega) (by omega) (by omega) (by omega) (by omega)
    rw [List.drop_zero] at this
    refine (show _ = _ from this).trans ?_
    by_cases h2 : a - (l.length : Int) < (szLL l : Int)
    · rw [if_pos h2, if_pos (by omega)]
    · rw [if_neg h2, if_neg (by omega)]
      refine congrArg some ?_
      omega
theorem laws_eqInt64S.loop (a b : List Int) (hab : a.length = b.length) (hl : a.length ≤ 1048576) (d : Nat) : ∀ (k i : Nat), i ≤ a.length → a.length - i = d → d < k → laws_eqInt64S.l0 k a b (i : Int) = some (decide (a.drop i = b.drop i)) := by
  induction d with
  | zero =>
    intro k i hi hd hk
    obtain ⟨k, rfl⟩ : ∃ m, k = m + 1 := ⟨k - 1, by omega⟩
    simp only [laws_eqInt64S.l0]
    rw [if_neg (by omega), List.drop_eq_nil_of_le (by omega), List.drop_eq_nil_of_le (by omega)]
    rfl
  | succ d ih =>
    intro k i hi hd hk
    obtain ⟨k, rfl⟩ : ∃ m, k = m + 1 := ⟨k - 1, by omega⟩
    have hlt : i < a.length := by omega
    simp only [laws_eqInt64S.l0]
    rw [if_pos (int_lt hlt), if_pos (int_nn i), if_pos (by omega), wrap_succ (by omega), ih k (i + 1) (by omega) (by omega) (by omega), drop_rd hlt, drop_rd (show i < b.length by omega)]
    by_cases h : rd a (i : Int) = rd b (i : Int)
    · rw [if_pos h, h]
      simp
    · rw [if_neg h]
      simp [h]
theorem laws_eqInt64S.eq {a b : List Int} {k : Nat} (hl : a.length ≤ 1048576) (hk : a.length < k) : laws_eqInt64S.f k a b = some (decide (a = b)) := by
  unfold laws_eqInt64S.f
  by_cases h : a.length = b.length
  · rw [if_pos (by omega)]
    have := laws_eqInt64S.loop a b h hl a.length k 0 (by omega) (by omega) hk
    simpa using this
  · rw [if_neg (by omega)]
    refine congrArg some (decide_eq_false (fun e => h (by rw [e]))).symm
theorem laws_eqInt64SS.loop (a b : List (List Int)) (hab : a.length = b.length) (hl : a.length ≤ 1048576) (K : Nat) (hL : ∀ x ∈ a, x.length ≤ 1048576 ∧ x.length < K) (d : Nat) : ∀ (k i : Nat), i ≤ a.length → a.length - i = d → d + K < k → laws_eqInt64SS.l0 k a b (i : Int) = some (decide (a.drop i = b.drop i)) := by
  induction d with
  | zero =>
    intro k i hi hd hk
    obtain ⟨k, rfl⟩ : ∃ m, k = m + 1 := ⟨k - 1, by omega⟩
    simp only [laws_eqInt64SS.l0]
    rw [if_neg (by omega), List.drop_eq_nil_of_le (by omega), List.drop_eq_nil_of_le (by omega)]
    rfl
  | succ d ih =>
    intro k i hi hd hk
    obtain ⟨k, rfl⟩ : ∃ m, k = m + 1 := ⟨k - 1, by omega⟩
    have hlt : i < a.length := by omega
    have hlb : i < b.length := by omega
    obtain ⟨h1, h2⟩ := hL a[i] (List.getElem_mem hlt)
    simp only [laws_eqInt64SS.l0]
    rw [if_pos (int_lt hlt), if_pos (int_nn i), if_pos (by omega), rdLL hlt, rdLL hlb, laws_eqInt64S.eq h1 (by omega), wrap_succ (by omega), ih k (i + 1) (by omega) (by omega) (by omega), List.drop_eq_getElem_cons hlt, List.drop_eq_getElem_cons hlb]
    simp only [Option.bind_some, decide_eq_true_eq]
    by_cases h : a[i] = b[i]
    · rw [if_pos h, h]
      refine congrArg some (decide_eq_decide.2 ⟨fun e => by rw [e], fun e => (List.cons.inj e).2⟩)
    · rw [if_neg h]
      exact congrArg some (decide_eq_false (fun e => h (List.cons.inj e).1)).symm
theorem laws_eqInt64SS.eq {a b : List (List Int)} {k : Nat} (hl : a.length ≤ 1048576) (K : Nat) (hL : ∀ x ∈ a, x.length ≤ 1048576 ∧ x.length < K) (hk : a.length + K < k) : laws_eqInt64SS.f k a b = some (decide (a = b)) := by
  unfold laws_eqInt64SS.f
  by_cases h : a.length = b.length
  · rw [if_pos (by omega)]
    have := laws_eqInt64SS.loop a b h hl K hL a.length k 0 (by omega) (by omega) hk
    simpa using this
  · rw [if_neg (by omega)]
    refine congrArg some (decide_eq_false (fun e => h (by rw [e]))).symm
theorem laws_szHist.eq {l : List (List Int)} {a c : Int} {d : List Int} {k : Nat} (h0 : 0 ≤ a) (h1 : a ≤ 1048576) (hl : l.length ≤ 9223372036854775807) (hL : ∀ x ∈ l, x.length ≤ 9223372036854775807) (hd : d.length ≤ 9223372036854775807) (hk : 1048577 < k) : laws_szHist.f k l c d a = some (if a < ((l.length + szLL l + d.length : Nat) : Int) then -1 else a - ((l.length + szLL l + d.length : Nat) : Int)) := by
  unfold laws_szHist.f
  rw [laws_szInt64SS.eq h0 h1 hl hL hk]
  simp only [Option.bind_some]
  by_cases h : a < ((l.length + szLL l : Nat) : Int)
  · rw [if_pos h, if_pos (by omega), if_pos (by omega)]
  · rw [if_neg h, if_neg (by omega), laws_szInt64S.eq (by omega) (by omega) hd]
    simp only [Option.bind_some]
    by_cases h2 : a - ((l.length + szLL l : Nat) : Int) < (d.length : Int)
    · rw [if_pos h2, if_pos (by omega), if_pos (by omega)]
    · rw [if_neg h2, if_neg (by omega), if_neg (by omega)]
      refine congrArg some ?_
      omega
theorem laws_toHist.eq {l : List (List Int)} {c : Int} {d : List Int} {k : Nat} (h : l.length + szLL l + d.length ≤ 1048576) (hk : 3000000 < k) : laws_toHist.f k l c d = some (l, c, d) := by
  unfold laws_toHist.f
  rw [laws_toInt64SS.eq (by omega) 1048577 (szLL_ok (by omega)) (by omega), laws_toInt64S.eq (by omega) (by omega)]
  rfl
theorem laws_eqHist.eq {a b : List (List Int)} {c c' : Int} {d d' : List Int} {k : Nat} (h : a.length + szLL a + d.length ≤ 1048576) (hk : 3000000 < k) : laws_eqHist.f k a c d b c' d' = some (decide (a = b ∧ c = c' ∧ d = d')) := by
  unfold laws_eqHist.f
  rw [laws_eqInt64SS.eq (by omega) 1048577 (szLL_ok (by omega)) (by omega), laws_eqInt64S.eq (by omega) (by omega)]
  simp only [Option.bind_some, decide_eq_true_eq]
  by_cases h1 : a = b
  · by_cases h2 : c = c'
    · by_cases h3 : d = d'
      · simp [h1, h2, h3]
      · simp [h1, h2, h3]
    · simp [h1, h2]
  · simp [h1]
/-- the row of marks -/
def mkL : Nat → Int → List Int
  | 0, _ => []
  | n + 1, a => mkL n a ++ [a + (n : Int)]
theorem mkL_zero (a : Int) : mkL 0 a = [] := rfl
theorem mkL_succ (n : Nat) (a : Int) : mkL (n + 1) a = mkL n a ++ [a + (n : Int)] := rfl
theorem mkL_length (n : Nat) (a : Int) : (mkL n a).length = n := by
  induction n with
  | zero => rfl
  | succ n ih => rw [mkL_succ, List.length_append, ih]; rfl
theorem mkL_rd {n : Nat} {a : Int} : ∀ {i : Nat}, i < n → rd (mkL n a) (i : Int) = a + (i : Int) := by
  induction n with
  | zero => intro i h; omega
  | succ n ih =>
    intro i h
    rw [rd_nat, mkL_succ, List.getD_eq_getElem?_getD]
    by_cases e : i = n
    · subst e
      rw [List.getElem?_append_right (by rw [mkL_length]; omega), mkL_length]
      simp
    · rw [List.getElem?_append_left (by rw [mkL_length]; omega)]
      have := ih (i := i) (by omega)
      rw [rd_nat, List.getD_eq_getElem?_getD] at this
      exact this
theorem laws_markInt64S.loop (l : List Int) (hl : l.length ≤ 1048576) (a : Int) (h0 : 0 ≤ a) (h1 : a ≤ 4000000000) (d : Nat) : ∀ (k i : Nat), i ≤ l.length → l.length - i = d → d < k → laws_markInt64S.l0 k (mkL i a ++ l.drop i) (a + (i : Int)) (i : Int) = some (a + (l.length : Int), mkL l.length a) := by
  induction d with
  | zero =>
    intro k i hi hd hk
    obtain ⟨k, rfl⟩ : ∃ m, k = m + 1 := ⟨k - 1, by omega⟩
    obtain rfl : i = l.length := by omega
    simp only [laws_markInt64S.l0]
    rw [List.drop_length, List.append_nil, mkL_length, if_neg (by omega)]
  | succ d ih =>
    intro k i hi hd hk
    obtain ⟨k, rfl⟩ : ∃ m, k = m + 1 := ⟨k - 1, by omega⟩
    have hlt : i < l.length := by omega
    have hlen : (mkL i a ++ l.drop i).length = l.length := by rw [List.length_append, mkL_length, List.length_drop]; omega
    simp only [laws_markInt64S.l0]
    rw [if_pos (by omega), if_pos (int_nn i), wrap_succ (by omega), wrap_in (by omega) (by omega), Int.toNat_natCast]
    have hs : (mkL i a ++ l.drop i).set i (a + (i : Int)) = mkL (i + 1) a ++ l.drop (i + 1) := by
      rw [List.set_append_right _ _ (by rw [mkL_length]; omega), mkL_length, Nat.sub_self, drop_rd hlt, List.set_cons_zero, mkL_succ, List.append_assoc]
      rfl
    rw [hs, show a + (i : Int) + 1 = a + ((i + 1 : Nat) : Int) by omega]
    exact ih k (i + 1) (by omega) (by omega) (by omega)
theorem laws_markInt64S.eq {l : List Int} {a : Int} {k : Nat} (hl : l.length ≤ 1048576) (h0 : 0 ≤ a) (h1 : a ≤ 4000000000) (hk : l.length < k) : laws_markInt64S.f k l a = some (a + (l.length : Int), mkL l.length a) := by
  have := laws_markInt64S.loop l hl a h0 h1 l.length k 0 (by omega) (by omega) hk
  rw [mkL_zero, List.drop_zero] at this
  unfold laws_markInt64S.f
  simpa using this
theorem laws_heldInt64S.loop (n : Nat) (hl : n ≤ 1048576) (a : Int) (h0 : 0 ≤ a) (h1 : a ≤ 4000000000) (d : Nat) : ∀ (k i : Nat), i ≤ n → n - i = d → d < k → laws_heldInt64S.l0 k (mkL n a) (a + (i : Int)) (i : Int) = some (a + (n : Int)) := by
  induction d with
  | zero =>
    intro k i hi hd hk
    obtain ⟨k, rfl⟩ : ∃ m, k = m + 1 := ⟨k - 1, by omega⟩
    obtain rfl : i = n := by omega
    simp only [laws_heldInt64S.l0]
    rw [mkL_length, if_neg (by omega)]
  | succ d ih =>
    intro k i hi hd hk
    obtain ⟨k, rfl⟩ : ∃ m, k = m + 1 := ⟨k - 1, by omega⟩
    have hlt : i < n := by omega
    simp only [laws_heldInt64S.l0]
    rw [mkL_length, if_pos (int_lt hlt), if_pos (int_nn i), mkL_rd hlt, if_pos rfl, wrap_succ (by omega), wrap_in (by omega) (by omega), show a + (i : Int) + 1 = a + ((i + 1 : Nat) : Int) by omega]
    exact ih k (i + 1) (by omega) (by omega) (by omega)
theorem laws_heldInt64S.eq {n : Nat} {a : Int} {k : Nat} (hl : n ≤ 1048576) (h0 : 0 ≤ a) (h1 : a ≤ 4000000000) (hk : n < k) : laws_heldInt64S.f k (mkL n a) a = some (a + (n : Int)) := by
  have := laws_heldInt64S.loop n hl a h0 h1 n k 0 (by omega) (by omega) hk
  unfold laws_heldInt64S.f
  simpa using this
/-- the rows of marks -/
def mkLL : List (List Int) → Int → List (List Int)
  | [], _ => []
  | x :: l, a => mkL x.length a :: mkLL l (a + (x.length : Int))
theorem mkLL_nil (a : Int) : mkLL [] a = [] := rfl
theorem mkLL_cons (x : List Int) (l : List (List Int)) (a : Int) : mkLL (x :: l) a = mkL x.length a :: mkLL l (a + (x.length : Int)) := rfl
theorem laws_markInt64SS.loop (l : List (List Int)) : ∀ (pre : List (List Int)) (k : Nat) (a : Int), pre.length + l.length ≤ 1048576 → szLL l ≤ 1048576 → 0 ≤ a → a + (szLL l : Int) ≤ 4000000000 → l.length + 1048577 < k → laws_markInt64SS.l0 k (pre ++ l) a (pre.length : Int) = some (a + (szLL l : Int), pre ++ mkLL l a) := by
  induction l with
  | nil =>
    intro pre k a h1 h2 h3 h4 hk
    obtain ⟨k, rfl⟩ : ∃ m, k = m + 1 := ⟨k - 1, by omega⟩
    simp only [laws_markInt64SS.l0]
    rw [if_neg (by simp), mkLL_nil, szLL_nil]
    simp
  | cons x l ih =>
    intro pre k a h1 h2 h3 h4 hk
    obtain ⟨k, rfl⟩ : ∃ m, k = m + 1 := ⟨k - 1, by omega⟩
    rw [szLL_cons] at h2 h4
    rw [List.length_cons] at h1 hk
    simp only [laws_markInt64SS.l0]
    rw [if_pos (by rw [List.length_append, List.length_cons]; omega), if_pos (by omega)]
    have e1 : (pre ++ x :: l).getD ((pre.length : Int)).toNat [] = x := by
      rw [Int.toNat_natCast, List.getD_eq_getElem?_getD, List.getElem?_append_right (Nat.le_refl _), Nat.sub_self]
      rfl
    rw [e1, laws_markInt64S.eq (by omega) h3 (by omega) (by omega)]
    simp only [Option.bind_some]
    have e2 : (pre ++ x :: l).set ((pre.length : Int)).toNat (mkL x.length a) = (pre ++ [mkL x.length a]) ++ l := by
      rw [Int.toNat_natCast, List.set_append_right _ _ (Nat.le_refl _), Nat.sub_self, List.set_cons_zero, List.append_assoc]
      rfl
    rw [e2, wrap_succ (by omega)]
    have := ih (pre ++ [mkL x.length a]) k (a + (x.length : Int)) (by rw [List.length_append, List.length_singleton]; omega) (by omega) (by omega) (by omega) (by omega)
    rw [List.length_append, List.length_singleton] at this
    rw [this, mkLL_cons, szLL_cons, List.append_assoc]
    refine congrArg some ?_
    refine Prod.ext ?_ rfl
    show a + (x.length : Int) + (szLL l : Int) = a + ((x.length + szLL l : Nat) : Int)
    omega
theorem laws_markInt64SS.eq {l : List (List Int)} {a : Int} {k : Nat} (h : l.length + szLL l ≤ 1048576) (h0 : 0 ≤ a) (h1 : a ≤ 2000000000) (hk : 3000000 < k) : laws_markInt64SS.f k l a = some (a + (szLL l : Int), mkLL l a) := by
  have := laws_markInt64SS.loop l [] k a (by simp only [List.length_nil]; omega) (by omega) h0 (by omega) (by omega)
  exact this
theorem laws_markHist.eq {l : List (List Int)} {c a : Int} {d : List Int} {k : Nat} (h : l.length + szLL l + d.length ≤ 1048576) (h0 : 0 ≤ a) (h1 : a ≤ 2000000000) (hk : 3000000 < k) : laws_markHist.f k l c d a = some (a + (szLL l : Int) + (d.length : Int), mkLL l a, mkL d.length (a + (szLL l : Int))) := by
  unfold laws_markHist.f
  rw [laws_markInt64SS.eq (by omega) h0 h1 hk]
  simp only [Option.bind_some]
  rw [laws_markInt64S.eq (by omega) (by omega) (by omega) (by omega)]
  rfl
theorem laws_heldInt64SS.loop (l : List (List Int)) : ∀ (pre : List (List Int)) (k : Nat) (a : Int), pre.length + l.length ≤ 1048576 → szLL l ≤ 1048576 → 0 ≤ a → a + (szLL l : Int) ≤ 4000000000 → l.length + 1048577 < k → laws_heldInt64SS.l0 k (pre ++ mkLL l a) a (pre.length : Int) = some (a + (szLL l : Int)) := by
  induction l with
  | nil =>
    intro pre k a h1 h2 h3 h4 hk
    obtain ⟨k, rfl⟩ : ∃ m, k = m + 1 := ⟨k - 1, by omega⟩
    simp only [laws_heldInt64SS.l0]
    rw [if_neg (by rw [mkLL_nil]; simp), szLL_nil]
    simp
  | cons x l ih =>
    intro pre k a h1 h2 h3 h4 hk
    obtain ⟨k, rfl⟩ : ∃ m, k = m + 1 := ⟨k - 1, by omega⟩
    rw [szLL_cons] at h2 h4
    rw [List.length_cons] at h1 hk
    simp only [laws_heldInt64SS.l0]
    rw [mkLL_cons, if_pos (by rw [List.length_append, List.length_cons]; omega), if_pos (by omega)]
    have e1 : rd_L1 (pre ++ mkL x.length a :: mkLL l (a + (x.length : Int))) (pre.length : Int) = mkL x.length a := by
      unfold rd_L1
      rw [Int.toNat_natCast, List.getD_eq_getElem?_getD, List.getElem?_append_right (Nat.le_refl _), Nat.sub_self]
      rfl
    rw [e1, laws_heldInt64S.eq (by omega) h3 (by omega) (by omega)]
    simp only [Option.bind_some]
    rw [if_neg (by omega), wrap_succ (by omega)]
    have := ih (pre ++ [mkL x.length a]) k (a + (x.length : Int)) (by rw [List.length_append, List.length_singleton]; omega) (by omega) (by omega) (by omega) (by omega)
    rw [List.length_append, List.length_singleton, List.append_assoc] at this
    refine Eq.trans this ?_
    rw [szLL_cons]
    refine congrArg some ?_
    omega
theorem laws_heldInt64SS.eq {l : List (List Int)} {a : Int} {k : Nat} (h : l.length + szLL l ≤ 1048576) (h0 : 0 ≤ a) (h1 : a ≤ 2000000000) (hk : 3000000 < k) : laws_heldInt64SS.f k (mkLL l a) a = some (a + (szLL l : Int)) := by
  have := laws_heldInt64SS.loop l [] k a (by simp only [List.length_nil]; omega) (by omega) h0 (by omega) (by omega)
  exact this
theorem laws_heldHist.eq {l : List (List Int)} {c a : Int} {d : List Int} {k : Nat} (h : l.length + szLL l + d.length ≤ 1048576) (h0 : 0 ≤ a) (h1 : a ≤ 2000000000) (hk : 3000000 < k) : laws_heldHist.f k (mkLL l a) c (mkL d.length (a + (szLL l : Int))) a = some (a + (szLL l : Int) + (d.length : Int)) := by
  unfold laws_heldHist.f
  rw [laws_heldInt64SS.eq (by omega) h0 h1 hk]
  simp only [Option.bind_some]
  rw [if_neg (by omega), laws_heldInt64S.eq (by omega) (by omega) (by omega) (by omega)]
  simp only [Option.bind_some]
  rw [if_neg (by omega)]
theorem spec_l01Point.eq (a : Int) : spec_l01Point.f a = some (isPt a) := by
  simp only [spec_l01Point.f, isPt]
  (repeat' split) <;> (refine some_b ?_; simp only [Bool.not_eq_true', Bool.not_false, decide_eq_true_eq, decide_eq_false_iff_not, Bool.false_eq_true]; first | omega | (rw [false_iff]; omega) | (rw [true_iff]; omega))
theorem spec_PointsRight.loop (l : List Int) (hl : l.length ≤ 300) (d : Nat) : ∀ (k i : Nat), i ≤ l.length → l.length - i = d → d < k → spec_PointsRight.l0 k l (i : Int) = some ((l.drop i).all isPt) := by
  induction d with
  | zero =>
    intro k i hi hd hk
    obtain ⟨k, rfl⟩ : ∃ m, k = m + 1 := ⟨k - 1, by omega⟩
    simp only [spec_PointsRight.l0]
    rw [if_neg (by omega), List.drop_eq_nil_of_le (by omega)]
    rfl
  | succ d ih =>
    intro k i hi hd hk
    obtain ⟨k, rfl⟩ : ∃ m, k = m + 1 := ⟨k - 1, by omega⟩
    have hlt : i < l.length := by omega
    simp only [spec_PointsRight.l0]
    rw [if_pos (int_lt hlt), if_pos (int_nn i), spec_l01Point.eq, wrap_succ (by omega), ih k (i + 1) (by omega) (by omega) (by omega), drop_rd hlt]
    simp only [Option.bind_some, List.all_cons]
    cases isPt (rd l (i : Int)) <;> simp
theorem spec_PointsRight.eq (l : List Int) {k : Nat} (hk : 300 < k) : spec_PointsRight.f k l = some (ptsOK l) := by
  unfold spec_PointsRight.f ptsOK
  by_cases h : l.length ≤ 300
  · rw [if_neg (by omega)]
    have := spec_PointsRight.loop l h l.length k 0 (by omega) (by omega) (by omega)
    simp only [h, decide_true, Bool.true_and]
    simpa using this
  · rw [if_pos (by omega)]
    simp [h]
def itemOK (x : List Int) : Bool := decide (0 < x.length) && ptsOK x
theorem drop_LL {l : List (List Int)} {i : Nat} (h : i < l.length) : l.drop i = l[i] :: l.drop (i + 1) := List.drop_eq_getElem_cons h
theorem spec_l04Items.loop (l : List (List Int)) (hl : l.length ≤ 1048576) (d : Nat) : ∀ (k i : Nat), i ≤ l.length → l.length - i = d → d + 301 < k → spec_l04Items.l0 k l (i : Int) = some ((l.drop i).all itemOK) := by
  induction d with
  | zero =>
    intro k i hi hd hk
    obtain ⟨k, rfl⟩ : ∃ m, k = m + 1 := ⟨k - 1, by omega⟩
    simp only [spec_l04Items.l0]
    rw [if_neg (by omega), List.drop_eq_nil_of_le (by omega)]
    rfl
  | succ d ih =>
    intro k i hi hd hk
    obtain ⟨k, rfl⟩ : ∃ m, k = m + 1 := ⟨k - 1, by omega⟩
    have hlt : i < l.length := by omega
    simp only [spec_l04Items.l0]
    rw [if_pos (int_lt hlt), if_pos (int_nn i), rdLL hlt, spec_PointsRight.eq _ (by omega), wrap_succ (by omega), ih k (i + 1) (by omega) (by omega) (by omega), drop_LL hlt]
    simp only [Option.bind_some, List.all_cons, itemOK]
    by_cases h : l[i].length = 0
    · rw [if_pos (by omega)]
      simp [h]
    · rw [if_neg (by omega)]
      cases ptsOK l[i]
      · simp
      · simp [Nat.pos_of_ne_zero h]
theorem spec_l04Items.eq {l : List (List Int)} {n : Int} {k : Nat} (hl : l.length ≤ 1048576) (hk : l.length + 301 < k) : spec_l04Items.f k l n = some (decide ((l.length : Int) ≤ n) && l.all itemOK) := by
  unfold spec_l04Items.f
  by_cases h : (l.length : Int) ≤ n
  · rw [if_neg (by omega)]
    have := spec_l04Items.loop l hl l.length k 0 (by omega) (by omega) hk
    rw [List.drop_zero] at this
    simpa [h] using this
  · rw [if_pos (by omega)]
    simp [h]
theorem impl_within.eq (a b c : Int) : impl_within.f a b c = some (decide (b ≤ a ∧ a ≤ c)) := by
  unfold impl_within.f
  by_cases h : b ≤ a <;> simp [h]
theorem impl_isPoint.eq (a : Int) : impl_isPoint.f a = some (isPt a) := by
  simp only [impl_isPoint.f, impl_within.eq, Option.bind_some, isPt, decide_eq_true_eq]
  split <;> (refine some_b ?_; simp only [Bool.not_eq_true', decide_eq_true_eq, decide_eq_false_iff_not, Bool.false_eq_true]; first | omega | (rw [false_iff]; omega))
theorem slices_IndexFunc_sint64_int64.loop (l : List Int) (hl : l.length ≤ 300) (d : Nat) : ∀ (k i : Nat), i ≤ l.length → l.length - i = d → d < k → ∃ r : Int, slices_IndexFunc_sint64_int64.l0 k l (l.length : Int) (i : Int) = some r ∧ (0 ≤ r ↔ (l.drop i).all isPt = false) := by
  induction d with
  | zero =>
    intro k i hi hd hk
    obtain ⟨k, rfl⟩ : ∃ m, k = m + 1 := ⟨k - 1, by omega⟩
    refine ⟨-1, ?_, ?_⟩
    · simp only [slices_IndexFunc_sint64_int64.l0]
      rw [if_neg (by omega)]
    · rw [List.drop_eq_nil_of_le (by omega)]
      simp
  | succ d ih =>
    intro k i hi hd hk
    obtain ⟨k, rfl⟩ : ∃ m, k = m + 1 := ⟨k - 1, by omega⟩
    have hlt : i < l.length := by omega
    have hp : impl_PointsRight_1.f (rd l (i : Int)) = some (!isPt (rd l (i : Int))) := by
      unfold impl_PointsRight_1.f
      rw [impl_isPoint.eq]
      rfl
    simp only [slices_IndexFunc_sint64_int64.l0]
    rw [if_pos (int_lt hlt), if_pos (int_nn i), if_pos (int_lt hlt), hp, wrap_succ (by omega), drop_rd hlt]
    simp only [Option.bind_some, List.all_cons]
    cases isPt (rd l (i : Int))
    · exact ⟨i, by simp, by simp⟩
    · simpa using ih k (i + 1) (by omega) (by omega) (by omega)
theorem impl_PointsRight.eq (l : List Int) {k : Nat} (hk : 300 < k) : impl_PointsRight.f k l = some (ptsOK l) := by
  unfold impl_PointsRight.f ptsOK
  by_cases h : l.length ≤ 300
  · rw [if_pos (by omega)]
    obtain ⟨r, h1, h2⟩ := slices_IndexFunc_sint64_int64.loop l h l.length k 0 (by omega) (by omega) (by omega)
    unfold slices_ContainsFunc_sint64_int64.f slices_IndexFunc_sint64_int64.f
    rw [show ((0 : Nat) : Int) = 0 from rfl] at h1
    rw [h1]
    simp only [Option.bind_some, h, decide_true, Bool.true_and]
    rw [List.drop_zero] at h2
    refine some_b ?_
    cases hq : l.all isPt
    · have := h2.2 hq; simp; omega
    · have : ¬ 0 ≤ r := fun h3 => by rw [h2.1 h3] at hq; cases hq
      simp; omega
  · rw [if_neg (by omega)]
    simp [h]
theorem impl_isItem.eq (l : List Int) {k : Nat} (hk : 300 < k) : impl_isItem.f k l = some (itemOK l) := by
  unfold impl_isItem.f itemOK
  rw [impl_PointsRight.eq _ hk]
  simp only [Option.bind_some]
  by_cases h : 0 < l.length
  · rw [if_pos (by omega)]; simp [h]
  · rw [if_neg (by omega)]; simp [h]
theorem slices_IndexFunc_ssint64_sint64.loop (l : List (List Int)) (hl : l.length ≤ 1048576) (d : Nat) : ∀ (k i : Nat), i ≤ l.length → l.length - i = d → d + 301 < k → ∃ r : Int, slices_IndexFunc_ssint64_sint64.l0 k l (l.length : Int) (i : Int) = some r ∧ (0 ≤ r ↔ (l.drop i).all itemOK = false) := by
  induction d with
  | zero =>
    intro k i hi hd hk
    obtain ⟨k, rfl⟩ : ∃ m, k = m + 1 := ⟨k - 1, by omega⟩
    refine ⟨-1, ?_, ?_⟩
    · simp only [slices_IndexFunc_ssint64_sint64.l0]
      rw [if_neg (by omega)]
    · rw [List.drop_eq_nil_of_le (by omega)]
      simp
  | succ d ih =>
    intro k i hi hd hk
    obtain ⟨k, rfl⟩ : ∃ m, k = m + 1 := ⟨k - 1, by omega⟩
    have hlt : i < l.length := by omega
    have hp : impl_areItems_1.f k l[i] = some (!itemOK l[i]) := by
      unfold impl_areItems_1.f
      rw [impl_isItem.eq _ (by omega)]
      rfl
    simp only [slices_IndexFunc_ssint64_sint64.l0]
    rw [if_pos (int_lt hlt), if_pos (int_nn i), if_pos (int_lt hlt), rdLL hlt, hp, wrap_succ (by omega), drop_LL hlt]
    simp only [Option.bind_some, List.all_cons]
    cases itemOK l[i]
    · exact ⟨i, by simp, by simp⟩
    · simpa using ih k (i + 1) (by omega) (by omega) (by omega)
theorem impl_areItems.eq {l : List (List Int)} {k : Nat} (hl : l.length ≤ 1048576) (hk : l.length + 301 < k) : impl_areItems.f k l = some (l.all itemOK) := by
  unfold impl_areItems.f
  obtain ⟨r, h1, h2⟩ := slices_IndexFunc_ssint64_sint64.loop l hl l.length k 0 (by omega) (by omega) (by omega)
  unfold slices_ContainsFunc_ssint64_sint64.f slices_IndexFunc_ssint64_sint64.f
  rw [show ((0 : Nat) : Int) = 0 from rfl] at h1
  rw [h1]
  simp only [Option.bind_some]
  rw [List.drop_zero] at h2
  refine some_b ?_
  cases hq : l.all itemOK
  · have := h2.2 hq; simp; omega
  · have : ¬ 0 ≤ r := fun h3 => by rw [h2.1 h3] at hq; cases hq
    simp; omega
def histOK (l : List (List Int)) (a : Int) (d : List Int) : Bool := decide (l.length ≤ 30) && l.all itemOK && decide (0 ≤ a ∧ a ≤ (l.length : Int)) && ptsOK d
theorem spec_HistRight.eq {l : List (List Int)} (a : Int) (d : List Int) {k : Nat} (hl : l.length ≤ 1048576) (hk : l.length + 301 < k) : spec_HistRight.f k l a d = some (histOK l a d) := by
  unfold spec_HistRight.f histOK
  rw [spec_l04Items.eq hl hk, spec_PointsRight.eq _ (by omega)]
  simp only [Option.bind_some]
  cases l.all itemOK
  · simp
  · by_cases h : l.length ≤ 30
    · have h' : (l.length : Int) ≤ 30 := by omega
      simp only [h, h', decide_true, Bool.and_true, Bool.true_and, if_true]
      by_cases h1 : a ≥ 0
      · rw [if_pos h1]
        by_cases h2 : a ≤ (l.length : Int)
        · rw [if_pos h2, decide_eq_true (show 0 ≤ a ∧ a ≤ (l.length : Int) by omega), Bool.true_and]
        · rw [if_neg h2, decide_eq_false (show ¬ (0 ≤ a ∧ a ≤ (l.length : Int)) by omega), Bool.false_and]
      · rw [if_neg h1, decide_eq_false (show ¬ (0 ≤ a ∧ a ≤ (l.length : Int)) by omega), Bool.false_and]
    · have h' : ¬ (l.length : Int) ≤ 30 := by omega
      simp [h, h']
theorem impl_HistRight.eq {l : List (List Int)} (a : Int) (d : List Int) {k : Nat} (hl : l.length ≤ 1048576) (hk : l.length + 301 < k) : impl_HistRight.f k l a d = some (histOK l a d) := by
  unfold impl_HistRight.f histOK
  by_cases h : l.length ≤ 30
  · rw [if_pos (by omega), impl_areItems.eq hl hk, show impl_size_sint64.f l = some (l.length : Int) from rfl]
    simp only [Option.bind_some, impl_within.eq, impl_PointsRight.eq d (show 300 < k by omega)]
    cases l.all itemOK
    · simp
    · by_cases h1 : 0 ≤ a ∧ a ≤ (l.length : Int)
      · simp [h, h1]
      · rw [decide_eq_false h1]
        simp [h]
  · rw [if_neg (by omega)]
    simp [h]
theorem histOK_at {l : List (List Int)} {a : Int} {d : List Int} (h : histOK l a d = true) : l.length ≤ 30 ∧ (∀ x ∈ l, x.length ≤ 300) ∧ 0 ≤ a ∧ a ≤ (l.length : Int) ∧ ptsOK d = true := by
  unfold histOK at h
  simp only [Bool.and_eq_true, decide_eq_true_eq] at h
  refine ⟨h.1.1.1, fun x hx => ?_, h.1.2.1, h.1.2.2, h.2⟩
  have := List.all_eq_true.1 h.1.1.2 x hx
  unfold itemOK at this
  simp only [Bool.and_eq_true] at this
  exact ptsOK_len this.2
theorem rd_LLn (l : List (List Int)) (n : Nat) : rd_L1 l (n : Int) = l.getD n [] := by
  unfold rd_L1
  rw [Int.toNat_natCast]
theorem szLL_append (a b : List (List Int)) : szLL (a ++ b) = szLL a + szLL b := by
  induction a with
  | nil => rw [List.nil_append, szLL_nil]; omega
  | cons x a ih => rw [List.cons_append, szLL_cons, szLL_cons, ih]; omega
theorem szLL_drop (n : Nat) : ∀ l : List (List Int), szLL (l.drop n) ≤ szLL l := by
  induction n with
  | zero => intro l; exact Nat.le_refl _
  | succ n ih =>
    intro l
    cases l with
    | nil => exact Nat.le_refl _
    | cons x l => have := ih l; rw [List.drop_succ_cons, szLL_cons]; omega
theorem szLL_bound (l : List (List Int)) (h : ∀ x ∈ l, x.length ≤ 300) : szLL l ≤ 300 * l.length := by
  induction l with
  | nil => exact Nat.le_refl _
  | cons x l ih =>
    have h1 := h x (List.mem_cons_self)
    have h2 := ih (fun y hy => h y (List.mem_cons_of_mem _ hy))
    rw [szLL_cons, List.length_cons]
    omega
theorem spec_l01Copy.eq {l : List Int} (h : l.length ≤ 2000000) : spec_l01Copy.f l = some l := by
  unfold spec_l01Copy.f
  simp only [Option.bind_some, List.length_nil, List.nil_append]
  rw [if_pos (by omega)]
theorem spec_l04CopyAll.loop (l : List (List Int)) (hl : l.length ≤ 1048576) (hL : ∀ x ∈ l, x.length ≤ 2000000) (d : Nat) : ∀ (k i : Nat), i ≤ l.length → l.length - i = d → d < k → spec_l04CopyAll.l0 k l (l.take i) (i : Int) = some l := by
  induction d with
  | zero =>
    intro k i hi hd hk
    obtain ⟨k, rfl⟩ : ∃ m, k = m + 1 := ⟨k - 1, by omega⟩
    obtain rfl : i = l.length := by omega
    simp only [spec_l04CopyAll.l0]
    rw [if_neg (by omega), List.take_length]
  | succ d ih =>
    intro k i hi hd hk
    obtain ⟨k, rfl⟩ : ∃ m, k = m + 1 := ⟨k - 1, by omega⟩
    have hlt : i < l.length := by omega
    simp only [spec_l04CopyAll.l0]
    rw [if_pos (int_lt hlt), if_pos (int_nn i), rdLL hlt, spec_l01Copy.eq (hL _ (List.getElem_mem hlt))]
    simp only [Option.bind_some]
    rw [if_pos (by rw [List.length_take]; omega), wrap_succ (by omega), ← List.take_succ_eq_append_getElem hlt]
    exact ih k (i + 1) (by omega) (by omega) (by omega)
theorem spec_l04CopyAll.eq {l : List (List Int)} {k : Nat} (h : l.length + szLL l ≤ 1048576) (hk : 1048577 < k) : spec_l04CopyAll.f k l = some l := by
  have := spec_l04CopyAll.loop l (by omega) (fun x hx => by have := (szLL_ok h x hx).1; omega) l.length k 0 (by omega) (by omega) (by omega)
  exact this
theorem slices_Clone_sint64_int64.eq {l : List Int} (h : l.length ≤ 2000000) : slices_Clone_sint64_int64.f l = some l := by
  unfold slices_Clone_sint64_int64.f
  simp only [Option.bind_some, List.length_nil, List.nil_append]
  rw [if_pos (by omega)]
theorem impl_ownLists.loop (l : List (List Int)) (hl : l.length ≤ 1048576) (hL : ∀ x ∈ l, x.length ≤ 2000000) (d : Nat) : ∀ (k i : Nat), i ≤ l.length → l.length - i = d → d < k → impl_ownLists.l0 k (l.take i) l (l.length : Int) (i : Int) = some l := by
  induction d with
  | zero =>
    intro k i hi hd hk
    obtain ⟨k, rfl⟩ : ∃ m, k = m + 1 := ⟨k - 1, by omega⟩
    obtain rfl : i = l.length := by omega
    simp only [impl_ownLists.l0]
    rw [if_neg (by omega), List.take_length]
  | succ d ih =>
    intro k i hi hd hk
    obtain ⟨k, rfl⟩ : ∃ m, k = m + 1 := ⟨k - 1, by omega⟩
    have hlt : i < l.length := by omega
    simp only [impl_ownLists.l0]
    rw [if_pos (int_lt hlt), if_pos (int_nn i), if_pos (int_lt hlt), rdLL hlt, slices_Clone_sint64_int64.eq (hL _ (List.getElem_mem hlt))]
    simp only [Option.bind_some]
    rw [if_pos (by rw [List.length_take]; omega), wrap_succ (by omega), ← List.take_succ_eq_append_getElem hlt]
    exact ih k (i + 1) (by omega) (by omega) (by omega)
theorem impl_ownLists.eq {l : List (List Int)} {k : Nat} (h : l.length + szLL l ≤ 1048576) (hk : 1048577 < k) : impl_ownLists.f k l = some l := by
  have := impl_ownLists.loop l (by omega) (fun x hx => by have := (szLL_ok h x hx).1; omega) l.length k 0 (by omega) (by omega) (by omega)
  exact this
theorem spec_l06Copy.eq {l : List (List Int)} (a : Int) {p : List Int} {k : Nat} (h : l.length + szLL l + p.length ≤ 1048576) (hk : 3000000 < k) : spec_l06Copy.f k l a p = some (l, a, p) := by
  unfold spec_l06Copy.f
  rw [spec_l04CopyAll.eq (by omega) (by omega), spec_l01Copy.eq (by omega)]
  rfl
theorem impl_ownHist.eq {l : List (List Int)} (a : Int) {p : List Int} {k : Nat} (h : l.length + szLL l + p.length ≤ 1048576) (hk : 3000000 < k) : impl_ownHist.f k l a p = some (l, a, p) := by
  unfold impl_ownHist.f
  rw [impl_ownLists.eq (by omega) (by omega), slices_Clone_sint64_int64.eq (by omega)]
  rfl
theorem spec_l01Same.loop (a b : List Int) (hab : a.length = b.length) (hl : a.length ≤ 1048576) (d : Nat) : ∀ (k i : Nat), i ≤ a.length → a.length - i = d → d < k → spec_l01Same.l0 k a b (i : Int) = some (decide (a.drop i = b.drop i)) := by
  induction d with
  | zero =>
    intro k i hi hd hk
    obtain ⟨k, rfl⟩ : ∃ m, k = m + 1 := ⟨k - 1, by omega⟩
    simp only [spec_l01Same.l0]
    rw [if_neg (by omega), List.drop_eq_nil_of_le (by omega), List.drop_eq_nil_of_le (by omega)]
    rfl
  | succ d ih =>
    intro k i hi hd hk
    obtain ⟨k, rfl⟩ : ∃ m, k = m + 1 := ⟨k - 1, by omega⟩
    have hlt : i < a.length := by omega
    simp only [spec_l01Same.l0]
    rw [if_pos (int_lt hlt), if_pos (int_nn i), if_pos (by omega), wrap_succ (by omega), ih k (i + 1) (by omega) (by omega) (by omega), drop_rd hlt, drop_rd (show i < b.length by omega)]
    by_cases h : rd a (i : Int) = rd b (i : Int)
    · rw [if_pos h, h]
      simp
    · rw [if_neg h]
      simp [h]
theorem spec_l01Same.eq {a b : List Int} {k : Nat} (hl : a.length ≤ 1048576) (hk : a.length < k) : spec_l01Same.f k a b = some (decide (a = b)) := by
  unfold spec_l01Same.f
  by_cases h : a.length = b.length
  · rw [if_pos (by omega)]
    have := spec_l01Same.loop a b h hl a.length k 0 (by omega) (by omega) hk
    simpa using this
  · rw [if_neg (by omega)]
    refine congrArg some (decide_eq_false (fun e => h (by rw [e]))).symm
theorem slices_Equal_sint64_int64.loop (a b : List Int) (hab : a.length = b.length) (hl : a.length ≤ 1048576) (d : Nat) : ∀ (k i : Nat), i ≤ a.length → a.length - i = d → d < k → slices_Equal_sint64_int64.l0 k a b (a.length : Int) (i : Int) = some (decide (a.drop i = b.drop i)) := by
  induction d with
  | zero =>
    intro k i hi hd hk
    obtain ⟨k, rfl⟩ : ∃ m, k = m + 1 := ⟨k - 1, by omega⟩
    simp only [slices_Equal_sint64_int64.l0]
    rw [if_neg (by omega), List.drop_eq_nil_of_le (by omega), List.drop_eq_nil_of_le (by omega)]
    rfl
  | succ d ih =>
    intro k i hi hd hk
    obtain ⟨k, rfl⟩ : ∃ m, k = m + 1 := ⟨k - 1, by omega⟩
    have hlt : i < a.length := by omega
    simp only [slices_Equal_sint64_int64.l0]
    rw [if_pos (int_lt hlt), if_pos (int_nn i), if_pos (int_lt hlt), if_pos (by omega), wrap_succ (by omega), ih k (i + 1) (by omega) (by omega) (by omega), drop_rd hlt, drop_rd (show i < b.length by omega)]
    by_cases h : rd a (i : Int) = rd b (i : Int)
    · rw [if_pos h, h]
      simp
    · rw [if_neg h]
      simp [h]
theorem slices_Equal_sint64_int64.eq {a b : List Int} {k : Nat} (hl : a.length ≤ 1048576) (hk : a.length < k) : slices_Equal_sint64_int64.f k a b = some (decide (a = b)) := by
  unfold slices_Equal_sint64_int64.f
  by_cases h : a.length = b.length
  · rw [if_pos (by omega)]
    have := slices_Equal_sint64_int64.loop a b h hl a.length k 0 (by omega) (by omega) hk
    simpa using this
  · rw [if_neg (by omega)]
    refine congrArg some (decide_eq_false (fun e => h (by rw [e]))).symm
def addL (l : List (List Int)) (x : List Int) : List (List Int) := (l ++ [x]).drop (l.length + 1 - 30)
def toAdd (l : List (List Int)) (x : List Int) : Bool := decide (0 < x.length) && (decide (l.length = 0) || !decide (x = l.getD (l.length - 1) []))
def haddV (l : List (List Int)) (a : Int) (p x : List Int) : List (List Int) × Int × List Int :=
  if 400 < x.length then ([], 0, []) else if histOK l a p = true ∧ ptsOK x = true then ((if toAdd l x = true then addL l x else l), ((if toAdd l x = true then addL l x else l).length : Int), []) else (l, a, p)
theorem haddV_ok (l : List (List Int)) (a : Int) (p x : List Int) (h : l.length + szLL l + p.length ≤ 1048576) : ∃ vl va vp, haddV l a p x = (vl, va, vp) ∧ vl.length + szLL vl + vp.length ≤ 1048576 := by
  unfold haddV
  by_cases h1 : 400 < x.length
  · rw [if_pos h1]
    exact ⟨[], 0, [], rfl, by decide⟩
  · rw [if_neg h1]
    by_cases h2 : histOK l a p = true ∧ ptsOK x = true
    · rw [if_pos h2]
      refine ⟨_, _, _, rfl, ?_⟩
      by_cases h3 : toAdd l x = true
      · rw [if_pos h3]
        obtain ⟨g1, g2, _⟩ := histOK_at h2.1
        have g3 := szLL_bound l g2
        have g4 := szLL_drop (l.length + 1 - 30) (l ++ [x])
        rw [szLL_append, szLL_cons, szLL_nil] at g4
        unfold addL
        rw [List.length_drop, List.length_append, List.length_singleton, List.length_nil]
        omega
      · rw [if_neg h3, List.length_nil]
        omega
    · rw [if_neg h2]
      exact ⟨l, a, p, rfl, h⟩
theorem spec_HistAdd.j1_eq (l : List (List Int)) (a : Int) (p x : List Int) (b : Bool) (hl : l.length ≤ 30) (hx : x.length ≤ 400) (k : Nat) : spec_HistAdd.j1 (k + 1) x b l a p = some ((if b = true then addL l x else l), ((if b = true then addL l x else l).length : Int), []) := by
  cases b
  · rfl
  · rw [spec_HistAdd.j1, if_pos rfl, spec_l01Copy.eq (by omega)]
    simp only [Option.bind_some, if_true]
    rw [if_pos (by omega)]
    have hlen : (l ++ [x]).length = l.length + 1 := by rw [List.length_append]; rfl
    unfold addL
    by_cases h : l.length = 30
    · rw [if_pos (by omega), if_pos (by omega), show l.length + 1 - 30 = 1 by omega]
      rfl
    · rw [if_neg (by omega), show l.length + 1 - 30 = 0 by omega, List.drop_zero]
theorem impl_HistAdd.j1_eq (l : List (List Int)) (a : Int) (p x : List Int) (b : Bool) (hl : l.length ≤ 30) (hx : x.length ≤ 400) (k : Nat) : impl_HistAdd.j1 (k + 1) x b l a p = some ((if b = true then addL l x else l), ((if b = true then addL l x else l).length : Int), []) := by
  cases b
  · rfl
  · rw [impl_HistAdd.j1, if_pos rfl, slices_Clone_sint64_int64.eq (by omega)]
    simp only [Option.bind_some, if_true]
    rw [if_pos (by omega)]
    have hlen : (l ++ [x]).length = l.length + 1 := by rw [List.length_append]; rfl
    have e : mx (wrap64 (((l ++ [x]).length : Int) - 30)) 0 = ((l.length + 1 - 30 : Nat) : Int) := by
      rw [wrap_in (by omega) (by omega)]
      unfold mx
      split <;> omega
    unfold addL
    rw [e, if_pos (by omega), if_pos (by omega), Int.toNat_natCast]
    rfl
theorem spec_HistAdd.eq {l : List (List Int)} (a : Int) {p x : List Int} {k : Nat} (h : l.length + szLL l + p.length ≤ 1048576) (hx : x.length ≤ 1048576) (hk : 3000000 < k) : spec_HistAdd.f k l a p x = some (haddV l a p x) := by
  obtain ⟨k, rfl⟩ : ∃ m, k = m + 2 := ⟨k - 2, by omega⟩
  have hj : ∀ b : Bool, (b = true ∨ (histOK l a p = true ∧ ptsOK x = true)) → spec_HistAdd.j0 (k + 2) x b l a p l a p = some (if b = true then (l, a, p) else ((if toAdd l x = true then addL l x else l), ((if toAdd l x = true then addL l x else l).length : Int), [])) := by
    intro b hb
    cases b
    · obtain ⟨h1, h2⟩ := hb.resolve_left (by decide)
      obtain ⟨g1, g2, _⟩ := histOK_at h1
      have g3 := ptsOK_len h2
      have hr : ∀ q : List (List Int) × Int × List Int, (if false = true then (l, a, p) else q) = q := fun q => if_neg (by decide)
      rw [spec_HistAdd.j0, if_neg (by decide), hr]
      unfold toAdd
      by_cases e1 : 0 < x.length
      · rw [if_pos (by omega)]
        by_cases e2 : l.length = 0
        · rw [if_pos (by omega), spec_HistAdd.j1_eq l a p x true g1 (by omega)]
          simp [e1, e2]
        · have e3 : (l.getD (l.length - 1) []).length ≤ 300 := by
            rw [List.getD_eq_getElem?_getD, List.getElem?_eq_getElem (show l.length - 1 < l.length by omega)]
            exact g2 _ (List.getElem_mem _)
          rw [if_neg (by omega), wrap_in (by omega) (by omega), if_pos (by omega), if_pos (by omega), show (l.length : Int) - 1 = ((l.length - 1 : Nat) : Int) by omega, rd_LLn, spec_l01Same.eq (by omega) (by omega)]
          generalize l.getD (l.length - 1) [] = z
          simp only [Option.bind_some]
          rw [spec_HistAdd.j1_eq l a p x _ g1 (by omega), decide_eq_true e1, decide_eq_false e2, Bool.true_and, Bool.false_or, show decide (z = x) = decide (x = z) from decide_eq_decide.2 ⟨Eq.symm, Eq.symm⟩]
      · rw [if_neg (by omega), spec_HistAdd.j1_eq l a p x false g1 (by omega), decide_eq_false e1]
        rfl
    · rw [spec_HistAdd.j0]
      rfl
  unfold spec_HistAdd.f haddV
  by_cases h1 : 400 < x.length
  · rw [if_pos (by omega), if_pos h1]
  · rw [if_neg (by omega), if_neg h1, spec_l06Copy.eq a h hk, spec_HistRight.eq a p (by omega) (by omega), spec_PointsRight.eq _ (by omega)]
    simp only [Option.bind_some]
    by_cases h2 : histOK l a p = true
    · rw [if_pos h2]
      by_cases h3 : ptsOK x = true
      · rw [hj _ (Or.inr ⟨h2, h3⟩), if_neg (by rw [h3]; decide), if_pos (⟨h2, h3⟩ : histOK l a p = true ∧ ptsOK x = true)]
      · rw [hj _ (Or.inl (by rw [Bool.not_eq_true] at h3; rw [h3]; rfl)), if_pos (by rw [Bool.not_eq_true] at h3; rw [h3]; rfl), if_neg (fun g => h3 g.2)]
    · rw [if_neg h2, hj true (Or.inl rfl), if_pos rfl, if_neg (fun g => h2 g.1)]
theorem impl_HistAdd.eq {l : List (List Int)} (a : Int) {p x : List Int} {k : Nat} (h : l.length + szLL l + p.length ≤ 1048576) (hx : x.length ≤ 1048576) (hk : 3000000 < k) : impl_HistAdd.f k l a p x = some (haddV l a p x) := by
  obtain ⟨k, rfl⟩ : ∃ m, k = m + 2 := ⟨k - 2, by omega⟩
  have hj : ∀ b : Bool, (b = true ∨ (histOK l a p = true ∧ ptsOK x = true)) → impl_HistAdd.j0 (k + 2) x (wrap64 ((l.length : Int) - 1)) b l a p l a p = some (if b = true then (l, a, p) else ((if toAdd l x = true then addL l x else l), ((if toAdd l x = true then addL l x else l).length : Int), [])) := by
    intro b hb
    cases b
    · obtain ⟨h1, h2⟩ := hb.resolve_left (by decide)
      obtain ⟨g1, g2, _⟩ := histOK_at h1
      have g3 := ptsOK_len h2
      have hr : ∀ q : List (List Int) × Int × List Int, (if false = true then (l, a, p) else q) = q := fun q => if_neg (by decide)
      rw [impl_HistAdd.j0, if_neg (by decide), hr, wrap_in (by omega) (by omega)]
      unfold toAdd
      by_cases e1 : 0 < x.length
      · rw [if_pos (by omega)]
        by_cases e2 : l.length = 0
        · rw [if_pos (by omega), impl_HistAdd.j1_eq l a p x true g1 (by omega)]
          simp [e1, e2]
        · rw [if_neg (by omega), if_pos (by omega), if_pos (by omega), show (l.length : Int) - 1 = ((l.length - 1 : Nat) : Int) by omega, rd_LLn, slices_Equal_sint64_int64.eq (by omega) (by omega)]
          generalize l.getD (l.length - 1) [] = z
          simp only [Option.bind_some]
          rw [impl_HistAdd.j1_eq l a p x _ g1 (by omega), decide_eq_true e1, decide_eq_false e2, Bool.true_and, Bool.false_or]
      · rw [if_neg (by omega), impl_HistAdd.j1_eq l a p x false g1 (by omega), decide_eq_false e1]
        rfl
    · rw [impl_HistAdd.j0]
      rfl
  unfold impl_HistAdd.f haddV impl_isMany.f
  simp only [Option.bind_some, decide_eq_true_eq]
  by_cases h1 : 400 < x.length
  · rw [if_pos (by omega), if_pos h1]
  · rw [if_neg (by omega), if_neg h1, impl_ownHist.eq a h hk, impl_HistRight.eq a p (by omega) (by omega), impl_PointsRight.eq x (by omega)]
    simp only [Option.bind_some]
    by_cases h2 : histOK l a p = true
    · rw [if_pos h2]
      by_cases h3 : ptsOK x = true
      · rw [hj _ (Or.inr ⟨h2, h3⟩), if_neg (by rw [h3]; decide), if_pos (⟨h2, h3⟩ : histOK l a p = true ∧ ptsOK x = true)]
      · rw [hj _ (Or.inl (by rw [Bool.not_eq_true] at h3; rw [h3]; rfl)), if_pos (by rw [Bool.not_eq_true] at h3; rw [h3]; rfl), if_neg (fun g => h3 g.2)]
    · rw [if_neg h2, hj true (Or.inl rfl), if_pos rfl, if_neg (fun g => h2 g.1)]

theorem FnExactHistAdd : laws_FnExactHistAdd.Pure := by
  intro l a p x ⟨⟨hl, hL⟩, _, ⟨hp, _⟩⟩ ⟨hx, _⟩
  have hl := maxLen_le hl
  have hp := maxLen_le hp
  have hx := maxLen_le hx
  refine ⟨4000000, ?_⟩
  unfold laws_FnExactHistAdd.f
  by_cases hx2 : (x.length : Int) > 1048576
  · rw [if_pos hx2]
  rw [if_neg hx2, laws_szHist.eq (by omega) (by omega) hl (fun y hy => maxLen_le (hL y hy).1) hp (by omega)]
  simp only [Option.bind_some]
  by_cases h : (1048576 : Int) < ((l.length + szLL l + p.length : Nat) : Int)
  · rw [if_pos h, if_pos (by omega)]
  · obtain ⟨vl, va, vp, hv, hs⟩ := haddV_ok l a p x (by omega)
    rw [if_neg h, if_neg (by omega), laws_toHist.eq (by omega) (by omega), laws_toInt64S.eq (by omega) (by omega)]
    simp only [Option.bind_some]
    rw [spec_HistAdd.eq a (by omega) (by omega) (by omega), impl_HistAdd.eq a (by omega) (by omega) (by omega), hv]
    simp only [Option.bind_some]
    rw [laws_eqHist.eq hs (by omega), laws_eqHist.eq (by omega) (by omega), laws_eqInt64S.eq (by omega) (by omega)]
    simp only [Option.bind_some, and_self, decide_true, if_true]
    rw [laws_markHist.eq (by omega) (by omega) (by omega) (by omega)]
    simp only [Option.bind_some]
    rw [laws_markInt64S.eq (by omega) (by omega) (by omega) (by omega), laws_markHist.eq hs (by omega) (by omega) (by omega)]
    simp only [Option.bind_some]
    rw [if_neg (by omega), laws_heldHist.eq hs (by omega) (by omega) (by omega)]
    simp only [Option.bind_some]
    rw [if_neg (by omega)]
    simp only [if_true]
    rw [if_neg (by omega)]

end Go.Proofs.Ytfkghjdhimhjjaa.Pure
