/- Proved: the program's UndoForth returns what the reference's returns, for every undo list and buffer of size at most 2^20 together, leaves its arguments as they were, and its answer is memory of its own. -/
import Derived.Test.YtkplopkhdejleaaPFnExactUndoForthx10
namespace Go.Proofs.Ytkplopkhdejleaa.Pure
open Go.RowKit Go.Proofs.Ytkplopkhdejleaa.PFnExactUndoForth Go.Proofs.YtkplopkhdejleaaW.PrintWords Go.Proofs.YtkplopkhdejleaaW.PrintLast Go.Proofs.YtkplopkhdejleaaW.PrintMore
set_option linter.unusedVariables false
set_option linter.unusedSimpArgs false

/-! ### plain words -/
theorem wrap_in {x : Int} (h0 : -9223372036854775808 ≤ x) (h1 : x ≤ 9223372036854775807) : wrap64 x = x := by unfold wrap64; omega
theorem wrap_succ {i : Nat} (h : i < 4611686018427387904) : wrap64 ((i : Int) + 1) = ((i + 1 : Nat) : Int) := by unfold wrap64; omega
theorem rd_nat (l : List Int) (i : Nat) : rd l (i : Int) = l.getD i 0 := by simp [rd]
theorem drop_rd {l : List Int} {i : Nat} (h : i < l.length) : l.drop i = rd l (i : Int) :: l.drop (i + 1) := by
  rw [rd_nat, List.drop_eq_getElem_cons h, List.getD_eq_getElem?_getD, List.getElem?_eq_getElem h]
  rfl
theorem int_lt {i n : Nat} (h : i < n) : (i : Int) < (n : Int) := by omega
theorem int_nn (i : Nat) : (0 : Int) ≤ (i : Int) := by omega
theorem maxLen_le {n : Nat} (h : n ≤ maxLen) : n ≤ 9223372036854775807 := by unfold maxLen at h; exact h
theorem some_b {a b : Bool} (h : a = true ↔ b = true) : some a = some b := congrArg some (Bool.eq_iff_iff.2 h)
def isPt (a : Int) : Bool := decide (0 ≤ a ∧ a ≤ 1114111 ∧ ¬ (55296 ≤ a ∧ a ≤ 57343))
def ptsOK (l : List Int) : Bool := decide (l.length ≤ 300) && l.all isPt
def bufOK (l : List Int) (c m : Int) : Bool := ptsOK l && decide (0 ≤ c ∧ c ≤ l.length) && decide (0 ≤ m ∧ m ≤ l.length)
theorem ptsOK_len {l : List Int} (h : ptsOK l = true) : l.length ≤ 300 := by
  unfold ptsOK at h
  simp only [Bool.and_eq_true, decide_eq_true_eq] at h
  exact h.1
theorem bufOK_len {l : List Int} {c m : Int} (h : bufOK l c m = true) : l.length ≤ 300 := by
  unfold bufOK at h
  simp only [Bool.and_eq_true] at h
  exact ptsOK_len h.1.1
theorem laws_eqInt64S.loop (a b : List Int) (hab : a.length = b.length) (hl : a.length ≤ 1048576) (d : Nat) : ∀ (k i : Nat), i ≤ a.length → a.length - i = d → d < k → laws_eqInt64S.l0 k a b (i : Int) = some (decide (a.drop i = b.drop i)) := by
  induction d with
  | zero =>
    intro k i hi hd hk
    obtain ⟨k, rfl⟩ : ∃ m, k = m + 1 := ⟨k - 1, by omega⟩
    simp only [laws_eqInt64S.l0]
    rw [if_neg (by omega), List.drop_eq_nil_of_le (by omega), List.drop_eq_nil_of_le (by omega)]
    rfl
  | succ d ih =>
    intro k i hi hd hk
    obtain ⟨k, rfl⟩ : ∃ m, k = m + 1 := ⟨k - 1, by omega⟩
    have hlt : i < a.length := by omega
    simp only [laws_eqInt64S.l0]
    rw [if_pos (int_lt hlt), if_pos (int_nn i), if_pos (by omega), wrap_succ (by omega), ih k (i + 1) (by omega) (by omega) (by omega), drop_rd hlt, drop_rd (show i < b.length by omega)]
    by_cases h : rd a (i : Int) = rd b (i : Int)
    · rw [if_pos h, h]
      simp
    · rw [if_neg h]
      simp [h]
theorem laws_eqInt64S.eq {a b : List Int} {k : Nat} (hl : a.length ≤ 1048576) (hk : a.length < k) : laws_eqInt64S.f k a b = some (decide (a = b)) := by
  unfold laws_eqInt64S.f
  by_cases h : a.length = b.length
  · rw [if_pos (by omega)]
    have := laws_eqInt64S.loop a b h hl a.length k 0 (by omega) (by omega) hk
    simpa using this
  · rw [if_neg (by omega)]
    refine congrArg some (decide_eq_false (fun e => h (by rw [e]))).symm
/-- the row of marks -/
def mkL : Nat → Int → List Int
  | 0, _ => []
  | n + 1, a => mkL n a ++ [a + (n : Int)]
theorem mkL_zero (a : Int) : mkL 0 a = [] := rfl
theorem mkL_succ (n : Nat) (a : Int) : mkL (n + 1) a = mkL n a ++ [a + (n : Int)] := rfl
theorem mkL_length (n : Nat) (a : Int) : (mkL n a).length = n := by
  induction n with
  | zero => rfl
  | succ n ih => rw [mkL_succ, List.length_append, ih]; rfl
theorem mkL_rd {n : Nat} {a : Int} : ∀ {i : Nat}, i < n → rd (mkL n a) (i : Int) = a + (i : Int) := by
  induction n with
  | zero => intro i h; omega
  | succ n ih =>
    intro i h
    rw [rd_nat, mkL_succ, List.getD_eq_getElem?_getD]
    by_cases e : i = n
    · subst e
      rw [List.getElem?_append_right (by rw [mkL_length]; omega), mkL_length]
      simp
    · rw [List.getElem?_append_left (by rw [mkL_length]; omega)]
      have := ih (i := i) (by omega)
      rw [rd_nat, List.getD_eq_getElem?_getD] at this
      exact this
theorem laws_markInt64S.loop (l : List Int) (hl : l.length ≤ 1048576) (a : Int) (h0 : 0 ≤ a) (h1 : a ≤ 4000000000) (d : Nat) : ∀ (k i : Nat), i ≤ l.length → l.length - i = d → d < k → laws_markInt64S.l0 k (mkL i a ++ l.drop i) (a + (i : Int)) (i : Int) = some (a + (l.length : Int), mkL l.length a) := by
  induction d with
  | zero =>
    intro k i hi hd hk
    obtain ⟨k, rfl⟩ : ∃ m, k = m + 1 := ⟨k - 1, by omega⟩
    obtain rfl : i = l.length := by omega
    simp only [laws_markInt64S.l0]
    rw [List.drop_length, List.append_nil, mkL_length, if_neg (by omega)]
  | succ d ih =>
    intro k i hi hd hk
    obtain ⟨k, rfl⟩ : ∃ m, k = m + 1 := ⟨k - 1, by omega⟩
    have hlt : i < l.length := by omega
    have hlen : (mkL i a ++ l.drop i).length = l.length := by rw [List.length_append, mkL_length, List.length_drop]; omega
    simp only [laws_markInt64S.l0]
    rw [if_pos (by omega), if_pos (int_nn i), wrap_succ (by omega), wrap_in (by omega) (by omega), Int.toNat_natCast]
    have hs : (mkL i a ++ l.drop i).set i (a + (i : Int)) = mkL (i + 1) a ++ l.drop (i + 1) := by
      rw [List.set_append_right _ _ (by rw [mkL_length]; omega), mkL_length, Nat.sub_self, drop_rd hlt, List.set_cons_zero, mkL_succ, List.append_assoc]
      rfl
    rw [hs, show a + (i : Int) + 1 = a + ((i + 1 : Nat) : Int) by omega]
    exact ih k (i + 1) (by omega) (by omega) (by omega)
theorem laws_markInt64S.eq {l : List Int} {a : Int} {k : Nat} (hl : l.length ≤ 1048576) (h0 : 0 ≤ a) (h1 : a ≤ 4000000000) (hk : l.length < k) : laws_markInt64S.f k l a = some (a + (l.length : Int), mkL l.length a) := by
  have := laws_markInt64S.loop l hl a h0 h1 l.length k 0 (by omega) (by omega) hk
  rw [mkL_zero, List.drop_zero] at this
  unfold laws_markInt64S.f
  simpa using this
theorem laws_heldInt64S.loop (n : Nat) (hl : n ≤ 1048576) (a : Int) (h0 : 0 ≤ a) (h1 : a ≤ 4000000000) (d : Nat) : ∀ (k i : Nat), i ≤ n → n - i = d → d < k → laws_heldInt64S.l0 k (mkL n a) (a + (i : Int)) (i : Int) = some (a + (n : Int)) := by
  induction d with
  | zero =>
    intro k i hi hd hk
    obtain ⟨k, rfl⟩ : ∃ m, k = m + 1 := ⟨k - 1, by omega⟩
    obtain rfl : i = n := by omega
    simp only [laws_heldInt64S.l0]
    rw [mkL_length, if_neg (by omega)]
  | succ d ih =>
    intro k i hi hd hk
    obtain ⟨k, rfl⟩ : ∃ m, k = m + 1 := ⟨k - 1, by omega⟩
    have hlt : i < n := by omega
    simp only [laws_heldInt64S.l0]
    rw [mkL_length, if_pos (int_lt hlt), if_pos (int_nn i), mkL_rd hlt, if_pos rfl, wrap_succ (by omega), wrap_in (by omega) (by omega), show a + (i : Int) + 1 = a + ((i + 1 : Nat) : Int) by omega]
    exact ih k (i + 1) (by omega) (by omega) (by omega)
theorem laws_heldInt64S.eq {n : Nat} {a : Int} {k : Nat} (hl : n ≤ 1048576) (h0 : 0 ≤ a) (h1 : a ≤ 4000000000) (hk : n < k) : laws_heldInt64S.f k (mkL n a) a = some (a + (n : Int)) := by
  have := laws_heldInt64S.loop n hl a h0 h1 n k 0 (by omega) (by omega) hk
  unfold laws_heldInt64S.f
  simpa using this
theorem rdBufB {l : List (S31)} {i : Nat} (h : i < l.length) : rd_T31 l (i : Int) = l[i] := by
  unfold rd_T31
  rw [Int.toNat_natCast, List.getD_eq_getElem?_getD, List.getElem?_eq_getElem h]
  rfl
theorem laws_szInt64S.eq {l : List Int} {a : Int} (h0 : 0 ≤ a) (h1 : a ≤ 1048576) (hl : l.length ≤ 9223372036854775807) : laws_szInt64S.f l a = some (if a < (l.length : Int) then -1 else a - (l.length : Int)) := by
  unfold laws_szInt64S.f
  rw [wrap_in (by omega) (by omega)]
  by_cases h : a < (l.length : Int)
  · rw [if_pos (by omega), if_pos h]
  · rw [if_neg (by omega), if_neg h]
theorem laws_szBuf.eq {l : List Int} {a c m : Int} (h0 : 0 ≤ a) (h1 : a ≤ 1048576) (hl : l.length ≤ 9223372036854775807) : laws_szBuf.f l c m a = some (if a < (l.length : Int) then -1 else a - (l.length : Int)) := by
  unfold laws_szBuf.f
  rw [laws_szInt64S.eq h0 h1 hl]
  simp only [Option.bind_some]
  by_cases h : a < (l.length : Int)
  · rw [if_pos h, if_pos (by omega)]
  · rw [if_neg h, if_neg (by omega)]
theorem laws_toInt64S.loop (l : List Int) (hl : l.length ≤ 1048576) (d : Nat) : ∀ (k i : Nat), i ≤ l.length → l.length - i = d → d < k → laws_toInt64S.l0 k l (l.take i ++ List.replicate (l.length - i) 0) (i : Int) = some l := by
  induction d with
  | zero =>
    intro k i hi hd hk
    obtain ⟨k, rfl⟩ : ∃ m, k = m + 1 := ⟨k - 1, by omega⟩
    obtain rfl : i = l.length := by omega
    simp only [laws_toInt64S.l0]
    rw [if_neg (by omega)]
    simp
  | succ d ih =>
    intro k i hi hd hk
    obtain ⟨k, rfl⟩ : ∃ m, k = m + 1 := ⟨k - 1, by omega⟩
    have hlt : i < l.length := by omega
    simp only [laws_toInt64S.l0]
    rw [if_pos (int_lt hlt), if_pos (int_nn i), if_pos (by simp; omega), wrap_succ (by omega), Int.toNat_natCast]
    have hs : (l.take i ++ List.replicate (l.length - i) 0).set i (rd l (i : Int)) = l.take (i + 1) ++ List.replicate (l.length - (i + 1)) 0 := by
      have h1 : (l.take i).length = i := by simp; omega
      rw [List.set_append_right _ _ (by omega), h1, Nat.sub_self, show l.length - i = (l.length - (i + 1)) + 1 by omega, List.replicate_succ, List.set_cons_zero, List.take_succ_eq_append_getElem hlt, rd_nat, List.getD_eq_getElem?_getD, List.getElem?_eq_getElem hlt, List.append_assoc]
      rfl
    rw [hs]
    exact ih k (i + 1) (by omega) (by omega) (by omega)
theorem laws_toInt64S.eq {l : List Int} {k : Nat} (hl : l.length ≤ 1048576) (hk : l.length < k) : laws_toInt64S.f k l = some l := by
  unfold laws_toInt64S.f
  rw [if_pos (by omega), if_pos (by omega), Int.toNat_natCast]
  have := laws_toInt64S.loop l hl l.length k 0 (by omega) (by omega) hk
  simpa using this
theorem laws_toBuf.eq {l : List Int} {c m : Int} {k : Nat} (hl : l.length ≤ 1048576) (hk : l.length < k) : laws_toBuf.f k l c m = some (l, c, m) := by
  unfold laws_toBuf.f
  rw [laws_toInt64S.eq hl hk]
  rfl
theorem laws_eqBuf.eq {a b : List Int} {c m c' m' : Int} {k : Nat} (hl : a.length ≤ 1048576) (hk : a.length < k) : laws_eqBuf.f k a c m b c' m' = some (decide (a = b ∧ c = c' ∧ m = m')) := by
  unfold laws_eqBuf.f
  rw [laws_eqInt64S.eq hl hk]
  simp only [Option.bind_some, decide_eq_true_eq]
  by_cases h1 : a = b
  · by_cases h2 : c = c'
    · by_cases h3 : m = m'
      · simp [h1, h2, h3]
      · simp [h1, h2, h3]
    · simp [h1, h2]
  · simp [h1]
/-- what the sizes' functions take off: the rows, and what they hold -/
def cvBuf (b : S24) : S31 := ⟨b.f0, b.f1, b.f2⟩
def szBufs : List (S24) → Nat
  | [] => 0
  | x :: l => x.f0.length + szBufs l
theorem szBufs_nil : szBufs [] = 0 := rfl
theorem szBufs_cons (x : S24) (l : List (S24)) : szBufs (x :: l) = x.f0.length + szBufs l := rfl
theorem szBufs_mem {l : List (S24)} {x : S24} (h : x ∈ l) : x.f0.length ≤ szBufs l := by
  induction l with
  | nil => cases h
  | cons y l ih =>
    rw [szBufs_cons]
    rcases List.mem_cons.1 h with rfl | h
    · omega
    · have := ih h; omega
theorem rdBufA {l : List (S24)} {i : Nat} (h : i < l.length) : rd_T24 l (i : Int) = l[i] := by
  unfold rd_T24
  rw [Int.toNat_natCast, List.getD_eq_getElem?_getD, List.getElem?_eq_getElem h]
  rfl
theorem laws_szBufS.loop (l : List (S24)) (hl : l.length ≤ 1048576) (hL : ∀ x ∈ l, x.f0.length ≤ 9223372036854775807) (d : Nat) : ∀ (k i : Nat) (a : Int), 0 ≤ a → a ≤ 1048576 → i ≤ l.length → l.length - i = d → d < k → laws_szBufS.l0 k l a (i : Int) = some (if a < (szBufs (l.drop i) : Int) then -1 else a - (szBufs (l.drop i) : Int)) := by
  induction d with
  | zero =>
    intro k i a h0 h1 hi hd hk
    obtain ⟨k, rfl⟩ : ∃ m, k = m + 1 := ⟨k - 1, by omega⟩
    simp only [laws_szBufS.l0]
    rw [if_neg (by omega), List.drop_eq_nil_of_le (by omega), szBufs_nil, if_neg (by omega)]
    simp
  | succ d ih =>
    intro k i a h0 h1 hi hd hk
    obtain ⟨k, rfl⟩ : ∃ m, k = m + 1 := ⟨k - 1, by omega⟩
    have hlt : i < l.length := by omega
    have hx := hL l[i] (List.getElem_mem hlt)
    simp only [laws_szBufS.l0]
    rw [if_pos (int_lt hlt), if_pos (int_nn i), rdBufA hlt, laws_szBuf.eq h0 h1 hx]
    simp only [Option.bind_some]
    rw [List.drop_eq_getElem_cons hlt, szBufs_cons]
    by_cases h : a < (l[i].f0.length : Int)
    · rw [if_pos h, if_pos (by omega), if_pos (by omega)]
    · rw [if_neg h, if_neg (by omega), wrap_succ (by omega), ih k (i + 1) _ (by omega) (by omega) (by omega) (by omega) (by omega)]
      by_cases h2 : a - (l[i].f0.length : Int) < (szBufs (l.drop (i + 1)) : Int)
      · rw [if_pos h2, if_pos (by omega)]
      · rw [if_neg h2, if_neg (by omega)]
        refine congrArg some ?_
        omega
theorem laws_szBufS.eq {l : List (S24)} {a : Int} {k : Nat} (h0 : 0 ≤ a) (h1 : a ≤ 1048576) (hl : l.length ≤ 9223372036854775807) (hL : ∀ x ∈ l, x.f0.length ≤ 9223372036854775807) (hk : 1048577 < k) : laws_szBufS.f k l a = some (if a < ((l.length + szBufs l : Nat) : Int) then -1 else a - ((l.length + szBufs l : Nat) : Int)) := by
  unfold laws_szBufS.f
  rw [wrap_in (by omega) (by omega)]
  by_cases h : a < (l.length : Int)
  · rw [if_pos (by omega), if_pos (by omega)]
  · rw [if_neg (by omega)]
    have := laws_szBufS.loop l (by omega) hL l.length k 0 (a - (l.length : Int)) (by omega) (by omega) (by omega) (by omega) (by omega)
    rw [List.drop_zero] at this
    refine (show _ = _ from this).trans ?_
    by_cases h2 : a - (l.length : Int) < (szBufs l : Int)
    · rw [if_pos h2, if_pos (by omega)]
    · rw [if_neg h2, if_neg (by omega)]
      refine congrArg some ?_
      omega
theorem laws_toBufS.loop (l : List (S24)) (hl : l.length ≤ 1048576) (hL : ∀ x ∈ l, x.f0.length ≤ 1048576) (d : Nat) : ∀ (k i : Nat), i ≤ l.length → l.length - i = d → d + 1048577 < k → laws_toBufS.l0 k l ((l.take i).map cvBuf ++ List.replicate (l.length - i) z31) (i : Int) = some (l.map cvBuf) := by
  induction d with
  | zero =>
    intro k i hi hd hk
    obtain ⟨k, rfl⟩ : ∃ m, k = m + 1 := ⟨k - 1, by omega⟩
    obtain rfl : i = l.length := by omega
    simp only [laws_toBufS.l0]
    rw [if_neg (by omega)]
    simp
  | succ d ih =>
    intro k i hi hd hk
    obtain ⟨k, rfl⟩ : ∃ m, k = m + 1 := ⟨k - 1, by omega⟩
    have hlt : i < l.length := by omega
    have h1 := hL l[i] (List.getElem_mem hlt)
    simp only [laws_toBufS.l0]
    rw [if_pos (int_lt hlt), if_pos (int_nn i), rdBufA hlt, laws_toBuf.eq h1 (by omega)]
    simp only [Option.bind_some]
    rw [if_pos (by simp; omega), wrap_succ (by omega), Int.toNat_natCast]
    have hs : ((l.take i).map cvBuf ++ List.replicate (l.length - i) z31).set i (cvBuf l[i]) = (l.take (i + 1)).map cvBuf ++ List.replicate (l.length - (i + 1)) z31 := by
      have h1 : ((l.take i).map cvBuf).length = i := by simp; omega
      rw [List.set_append_right _ _ (by omega), h1, Nat.sub_self, show l.length - i = (l.length - (i + 1)) + 1 by omega, List.replicate_succ, List.set_cons_zero, List.take_succ_eq_append_getElem hlt, List.map_append, List.append_assoc]
      rfl
    refine (congrArg (fun z => laws_toBufS.l0 k l z ((i + 1 : Nat) : Int)) hs).trans ?_
    exact ih k (i + 1) (by omega) (by omega) (by omega)
theorem laws_toBufS.eq {l : List (S24)} {k : Nat} (h : l.length + szBufs l ≤ 1048576) (hk : 3000000 < k) : laws_toBufS.f k l = some (l.map cvBuf) := by
  unfold laws_toBufS.f
  rw [if_pos (by omega), if_pos (by omega), Int.toNat_natCast]
  have := laws_toBufS.loop l (by omega) (fun x hx => by have := szBufs_mem hx; omega) l.length k 0 (by omega) (by omega) (by omega)
  simpa using this
theorem buf_eq (a b : S31) : (a.f0 = b.f0 ∧ a.f1 = b.f1 ∧ a.f2 = b.f2) ↔ a = b := by
  constructor
  · intro e
    rcases a with ⟨p0, p1, p2⟩
    rcases b with ⟨q0, q1, q2⟩
    simp only at e
    obtain ⟨e0, e1, e2⟩ := e
    rw [e0, e1, e2]
  · intro e
    rw [e]
    exact ⟨rfl, rfl, rfl⟩
instance decBuf : DecidableEq S31 := fun a b => decidable_of_iff _ (buf_eq a b)
theorem laws_eqBufS.loop (a b : List (S31)) (hab : a.length = b.length) (hl : a.length ≤ 1048576) (hL : ∀ x ∈ a, x.f0.length ≤ 1048576) (d : Nat) : ∀ (k i : Nat), i ≤ a.length → a.length - i = d → d + 1048577 < k → laws_eqBufS.l0 k a b (i : Int) = some (decide (a.drop i = b.drop i)) := by
  induction d with
  | zero =>
    intro k i hi hd hk
    obtain ⟨k, rfl⟩ : ∃ m, k = m + 1 := ⟨k - 1, by omega⟩
    simp only [laws_eqBufS.l0]
    rw [if_neg (by omega), List.drop_eq_nil_of_le (by omega), List.drop_eq_nil_of_le (by omega)]
    rfl
  | succ d ih =>
    intro k i hi hd hk
    obtain ⟨k, rfl⟩ : ∃ m, k = m + 1 := ⟨k - 1, by omega⟩
    have hlt : i < a.length := by omega
    have hlb : i < b.length := by omega
    have h1 := hL a[i] (List.getElem_mem hlt)
    simp only [laws_eqBufS.l0]
    rw [if_pos (int_lt hlt), if_pos (int_nn i), if_pos (by omega), rdBufB hlt, rdBufB hlb, laws_eqBuf.eq h1 (by omega), wrap_succ (by omega), ih k (i + 1) (by omega) (by omega) (by omega), List.drop_eq_getElem_cons hlt, List.drop_eq_getElem_cons hlb]
    simp only [Option.bind_some, decide_eq_true_eq]
    have hq := buf_eq a[i] b[i]
    by_cases h : a[i] = b[i]
    · rw [if_pos (hq.2 h), h]
      refine congrArg some (decide_eq_decide.2 ⟨fun e => by rw [e], fun e => (List.cons.inj e).2⟩)
    · rw [if_neg (fun e => h (hq.1 e))]
      exact congrArg some (decide_eq_false (fun e => h (List.cons.inj e).1)).symm
theorem laws_eqBufS.eq {a b : List (S31)} {k : Nat} (hl : a.length ≤ 1048576) (hL : ∀ x ∈ a, x.f0.length ≤ 1048576) (hk : 3000000 < k) : laws_eqBufS.f k a b = some (decide (a = b)) := by
  unfold laws_eqBufS.f
  by_cases h : a.length = b.length
  · rw [if_pos (by omega)]
    have := laws_eqBufS.loop a b h hl hL a.length k 0 (by omega) (by omega) (by omega)
    simpa using this
  · rw [if_neg (by omega)]
    refine congrArg some (decide_eq_false (fun e => h (by rw [e]))).symm
theorem cvBuf_ok {l : List (S24)} (h : l.length + szBufs l ≤ 1048576) : ∀ x ∈ l.map cvBuf, x.f0.length ≤ 1048576 := by
  intro x hx
  obtain ⟨y, hy, rfl⟩ := List.mem_map.1 hx
  have := szBufs_mem hy
  show y.f0.length ≤ _
  omega
theorem spec_l01Point.eq (a : Int) : spec_l01Point.f a = some (isPt a) := by
  simp only [spec_l01Point.f, isPt]
  (repeat' split) <;> (refine some_b ?_; simp only [Bool.not_eq_true', Bool.not_false, decide_eq_true_eq, decide_eq_false_iff_not, Bool.false_eq_true]; first | omega | (rw [false_iff]; omega) | (rw [true_iff]; omega))
theorem spec_PointsRight.loop (l : List Int) (hl : l.length ≤ 300) (d : Nat) : ∀ (k i : Nat), i ≤ l.length → l.length - i = d → d < k → spec_PointsRight.l0 k l (i : Int) = some ((l.drop i).all isPt) := by
  induction d with
  | zero =>
    intro k i hi hd hk
    obtain ⟨k, rfl⟩ : ∃ m, k = m + 1 := ⟨k - 1, by omega⟩
    simp only [spec_PointsRight.l0]
    rw [if_neg (by omega), List.drop_eq_nil_of_le (by omega)]
    rfl
  | succ d ih =>
    intro k i hi hd hk
    obtain ⟨k, rfl⟩ : ∃ m, k = m + 1 := ⟨k - 1, by omega⟩
    have hlt : i < l.length := by omega
    simp only [spec_PointsRight.l0]
    rw [if_pos (int_lt hlt), if_pos (int_nn i), spec_l01Point.eq, wrap_succ (by omega), ih k (i + 1) (by omega) (by omega) (by omega), drop_rd hlt]
    simp only [Option.bind_some, List.all_cons]
    cases isPt (rd l (i : Int)) <;> simp
theorem spec_PointsRight.eq (l : List Int) {k : Nat} (hk : 300 < k) : spec_PointsRight.f k l = some (ptsOK l) := by
  unfold spec_PointsRight.f ptsOK
  by_cases h : l.length ≤ 300
  · rw [if_neg (by omega)]
    have := spec_PointsRight.loop l h l.length k 0 (by omega) (by omega) (by omega)
    simp only [h, decide_true, Bool.true_and]
    simpa using this
  · rw [if_pos (by omega)]
    simp [h]
theorem spec_BufRight.eq (l : List Int) (c m : Int) {k : Nat} (hk : 300 < k) : spec_BufRight.f k l c m = some (bufOK l c m) := by
  unfold spec_BufRight.f bufOK
  rw [spec_PointsRight.eq l hk]
  simp only [Option.bind_some]
  cases ptsOK l
  · simp
  · simp only [if_true, Bool.true_and]
    (repeat' split) <;> (refine some_b ?_; simp only [Bool.and_eq_true, decide_eq_true_eq, Bool.false_eq_true]; first | omega | (rw [false_iff]; omega))
theorem impl_within.eq (a b c : Int) : impl_within.f a b c = some (decide (b ≤ a ∧ a ≤ c)) := by
  unfold impl_within.f
  by_cases h : b ≤ a <;> simp [h]
theorem impl_isPoint.eq (a : Int) : impl_isPoint.f a = some (isPt a) := by
  simp only [impl_isPoint.f, impl_within.eq, Option.bind_some, isPt, decide_eq_true_eq]
  split <;> (refine some_b ?_; simp only [Bool.not_eq_true', decide_eq_true_eq, decide_eq_false_iff_not, Bool.false_eq_true]; first | omega | (rw [false_iff]; omega))
theorem slices_IndexFunc_sint64_int64.loop (l : List Int) (hl : l.length ≤ 300) (d : Nat) : ∀ (k i : Nat), i ≤ l.length → l.length - i = d → d < k → ∃ r : Int, slices_IndexFunc_sint64_int64.l0 k l (l.length : Int) (i : Int) = some r ∧ (0 ≤ r ↔ (l.drop i).all isPt = false) := by
  induction d with
  | zero =>
    intro k i hi hd hk
    obtain ⟨k, rfl⟩ : ∃ m, k = m + 1 := ⟨k - 1, by omega⟩
    refine ⟨-1, ?_, ?_⟩
    · simp only [slices_IndexFunc_sint64_int64.l0]
      rw [if_neg (by omega)]
    · rw [List.drop_eq_nil_of_le (by omega)]
      simp
  | succ d ih =>
    intro k i hi hd hk
    obtain ⟨k, rfl⟩ : ∃ m, k = m + 1 := ⟨k - 1, by omega⟩
    have hlt : i < l.length := by omega
    have hp : impl_PointsRight_1.f (rd l (i : Int)) = some (!isPt (rd l (i : Int))) := by
      unfold impl_PointsRight_1.f
      rw [impl_isPoint.eq]
      rfl
    simp only [slices_IndexFunc_sint64_int64.l0]
    rw [if_pos (int_lt hlt), if_pos (int_nn i), if_pos (int_lt hlt), hp, wrap_succ (by omega), drop_rd hlt]
    simp only [Option.bind_some, List.all_cons]
    cases isPt (rd l (i : Int))
    · exact ⟨i, by simp, by simp⟩
    · simpa using ih k (i + 1) (by omega) (by omega) (by omega)
theorem impl_PointsRight.eq (l : List Int) {k : Nat} (hk : 300 < k) : impl_PointsRight.f k l = some (ptsOK l) := by
  unfold impl_PointsRight.f ptsOK
  by_cases h : l.length ≤ 300
  · rw [if_pos (by omega)]
    obtain ⟨r, h1, h2⟩ := slices_IndexFunc_sint64_int64.loop l h l.length k 0 (by omega) (by omega) (by omega)
    unfold slices_ContainsFunc_sint64_int64.f slices_IndexFunc_sint64_int64.f
    rw [show ((0 : Nat) : Int) = 0 from rfl] at h1
    rw [h1]
    simp only [Option.bind_some, h, decide_true, Bool.true_and]
    rw [List.drop_zero] at h2
    refine some_b ?_
    cases hq : l.all isPt
    · have := h2.2 hq; simp; omega
    · have : ¬ 0 ≤ r := fun h3 => by rw [h2.1 h3] at hq; cases hq
      simp; omega
  · rw [if_neg (by omega)]
    simp [h]
theorem impl_Buf_isPlace.eq (l : List Int) (c m a : Int) : impl_Buf_isPlace.f l c m a = some (decide (0 ≤ a ∧ a ≤ l.length)) := by
  simp only [impl_Buf_isPlace.f, impl_size_int64.f, impl_within.eq, Option.bind_some]
theorem impl_BufRight.eq (l : List Int) (c m : Int) {k : Nat} (hk : 300 < k) : impl_BufRight.f k l c m = some (bufOK l c m) := by
  unfold impl_BufRight.f bufOK
  rw [impl_PointsRight.eq l hk]
  simp only [Option.bind_some, impl_Buf_isPlace.eq]
  cases ptsOK l
  · simp
  · simp only [if_true, Bool.true_and]
    by_cases h : 0 ≤ c ∧ c ≤ (l.length : Int) <;> simp [h]
def bufsOK (l : List S31) : Bool := decide (l.length ≤ 20) && l.all (fun b => bufOK b.f0 b.f1 b.f2)
theorem spec_l05Bufs.loop (l : List S31) (hl : l.length ≤ 20) (d : Nat) : ∀ (k i : Nat), i ≤ l.length → l.length - i = d → d + 301 < k → spec_l05Bufs.l0 k l (i : Int) = some ((l.drop i).all (fun b => bufOK b.f0 b.f1 b.f2)) := by
  induction d with
  | zero =>
    intro k i hi hd hk
    obtain ⟨k, rfl⟩ : ∃ m, k = m + 1 := ⟨k - 1, by omega⟩
    simp only [spec_l05Bufs.l0]
    rw [if_neg (by omega), List.drop_eq_nil_of_le (by omega)]
    rfl
  | succ d ih =>
    intro k i hi hd hk
    obtain ⟨k, rfl⟩ : ∃ m, k = m + 1 := ⟨k - 1, by omega⟩
    have hlt : i < l.length := by omega
    simp only [spec_l05Bufs.l0]
    rw [if_pos (int_lt hlt), if_pos (int_nn i), rdBufB hlt, spec_BufRight.eq _ _ _ (by omega), wrap_succ (by omega), ih k (i + 1) (by omega) (by omega) (by omega), List.drop_eq_getElem_cons hlt]
    simp only [Option.bind_some, List.all_cons]
    cases bufOK l[i].f0 l[i].f1 l[i].f2 <;> simp
theorem spec_l05Bufs.eq {l : List S31} {k : Nat} (hk : 400 < k) : spec_l05Bufs.f k l = some (bufsOK l) := by
  unfold spec_l05Bufs.f bufsOK
  by_cases h : l.length ≤ 20
  · rw [if_neg (by omega)]
    have := spec_l05Bufs.loop l h l.length k 0 (by omega) (by omega) (by omega)
    rw [List.drop_zero] at this
    rw [decide_eq_true h, Bool.true_and]
    exact this
  · rw [if_pos (by omega), decide_eq_false h, Bool.false_and]
theorem slices_IndexFunc_simpl_Buf_impl_Buf.loop (l : List S31) (hl : l.length ≤ 20) (d : Nat) : ∀ (k i : Nat), i ≤ l.length → l.length - i = d → d + 301 < k → ∃ r : Int, slices_IndexFunc_simpl_Buf_impl_Buf.l0 k l (l.length : Int) (i : Int) = some r ∧ (0 ≤ r ↔ (l.drop i).all (fun b => bufOK b.f0 b.f1 b.f2) = false) := by
  induction d with
  | zero =>
    intro k i hi hd hk
    obtain ⟨k, rfl⟩ : ∃ m, k = m + 1 := ⟨k - 1, by omega⟩
    refine ⟨-1, ?_, ?_⟩
    · simp only [slices_IndexFunc_simpl_Buf_impl_Buf.l0]
      rw [if_neg (by omega)]
    · rw [List.drop_eq_nil_of_le (by omega)]
      simp
  | succ d ih =>
    intro k i hi hd hk
    obtain ⟨k, rfl⟩ : ∃ m, k = m + 1 := ⟨k - 1, by omega⟩
    have hlt : i < l.length := by omega
    have hp : impl_areBufs_1.f k l[i].f0 l[i].f1 l[i].f2 = some (!bufOK l[i].f0 l[i].f1 l[i].f2) := by
      unfold impl_areBufs_1.f
      rw [impl_BufRight.eq _ _ _ (by omega)]
      rfl
    simp only [slices_IndexFunc_simpl_Buf_impl_Buf.l0]
    rw [if_pos (int_lt hlt), if_pos (int_nn i), if_pos (int_lt hlt), rdBufB hlt, hp, wrap_succ (by omega), List.drop_eq_getElem_cons hlt]
    simp only [Option.bind_some, List.all_cons]
    cases bufOK l[i].f0 l[i].f1 l[i].f2
    · exact ⟨i, by simp, by simp⟩
    · simpa using ih k (i + 1) (by omega) (by omega) (by omega)
theorem impl_areBufs.eq {l : List S31} {k : Nat} (hk : 400 < k) : impl_areBufs.f k l = some (bufsOK l) := by
  unfold impl_areBufs.f bufsOK
  by_cases h : l.length ≤ 20
  · rw [if_pos (by omega), decide_eq_true h, Bool.true_and]
    obtain ⟨r, h1, h2⟩ := slices_IndexFunc_simpl_Buf_impl_Buf.loop l h l.length k 0 (by omega) (by omega) (by omega)
    unfold slices_ContainsFunc_simpl_Buf_impl_Buf.f slices_IndexFunc_simpl_Buf_impl_Buf.f
    rw [show ((0 : Nat) : Int) = 0 from rfl] at h1
    rw [h1]
    simp only [Option.bind_some]
    rw [List.drop_zero] at h2
    refine some_b ?_
    cases hq : l.all (fun b => bufOK b.f0 b.f1 b.f2)
    · have := h2.2 hq; simp; omega
    · have : ¬ 0 ≤ r := fun h3 => by rw [h2.1 h3] at hq; cases hq
      simp; omega
  · rw [if_neg (by omega), decide_eq_false h, Bool.false_and]
theorem spec_UndoRight.eq (a b : List S31) {k : Nat} (hk : 400 < k) : spec_UndoRight.f k a b = some (bufsOK a && bufsOK b) := by
  unfold spec_UndoRight.f
  rw [spec_l05Bufs.eq hk, spec_l05Bufs.eq hk]
  cases bufsOK a <;> rfl
theorem impl_UndoRight.eq (a b : List S31) {k : Nat} (hk : 400 < k) : impl_UndoRight.f k a b = some (bufsOK a && bufsOK b) := by
  unfold impl_UndoRight.f
  rw [impl_areBufs.eq hk, impl_areBufs.eq hk]
  cases bufsOK a <;> rfl
theorem spec_l01Copy.eq {l : List Int} (h : l.length ≤ 2000000) : spec_l01Copy.f l = some l := by
  unfold spec_l01Copy.f
  simp only [Option.bind_some, List.length_nil, List.nil_append]
  rw [if_pos (by omega)]
theorem slices_Clone_sint64_int64.eq {l : List Int} (h : l.length ≤ 2000000) : slices_Clone_sint64_int64.f l = some l := by
  unfold slices_Clone_sint64_int64.f
  simp only [Option.bind_some, List.length_nil, List.nil_append]
  rw [if_pos (by omega)]
theorem bufsOK_at {l : List S31} (h : bufsOK l = true) : l.length ≤ 20 ∧ ∀ x ∈ l, bufOK x.f0 x.f1 x.f2 = true := by
  unfold bufsOK at h
  simp only [Bool.and_eq_true, decide_eq_true_eq, List.all_eq_true] at h
  exact h
theorem bufsOK_mk {l : List S31} (h0 : l.length ≤ 20) (h1 : ∀ x ∈ l, bufOK x.f0 x.f1 x.f2 = true) : bufsOK l = true := by
  unfold bufsOK
  simp only [Bool.and_eq_true, decide_eq_true_eq, List.all_eq_true]
  exact ⟨h0, h1⟩
theorem spec_l05CopyBufs.loop (l : List S31) (hl : l.length ≤ 20) (hL : ∀ x ∈ l, bufOK x.f0 x.f1 x.f2 = true) (d : Nat) : ∀ (k i : Nat), i ≤ l.length → l.length - i = d → d < k → spec_l05CopyBufs.l0 k l (l.take i) (i : Int) = some l := by
  induction d with
  | zero =>
    intro k i hi hd hk
    obtain ⟨k, rfl⟩ : ∃ m, k = m + 1 := ⟨k - 1, by omega⟩
    simp only [spec_l05CopyBufs.l0]
    rw [if_neg (by omega), List.take_of_length_le (by omega)]
  | succ d ih =>
    intro k i hi hd hk
    obtain ⟨k, rfl⟩ : ∃ m, k = m + 1 := ⟨k - 1, by omega⟩
    have hlt : i < l.length := by omega
    have hx := bufOK_len (hL l[i] (List.getElem_mem hlt))
    simp only [spec_l05CopyBufs.l0]
    rw [if_pos (int_lt hlt), if_pos (int_nn i), rdBufB hlt]
    unfold spec_l02Copy.f
    rw [spec_l01Copy.eq (by omega)]
    simp only [Option.bind_some]
    rw [if_pos (by rw [List.length_take]; omega), wrap_succ (by omega)]
    have e : l.take i ++ [(⟨l[i].f0, l[i].f1, l[i].f2⟩ : S31)] = l.take (i + 1) := (List.take_succ_eq_append_getElem hlt).symm
    rw [e]
    exact ih k (i + 1) (by omega) (by omega) (by omega)
theorem spec_l05CopyBufs.eq {l : List S31} (hl : l.length ≤ 20) (hL : ∀ x ∈ l, bufOK x.f0 x.f1 x.f2 = true) {k : Nat} (hk : 100 < k) : spec_l05CopyBufs.f k l = some l := by
  unfold spec_l05CopyBufs.f
  exact spec_l05CopyBufs.loop l hl hL l.length k 0 (by omega) (by omega) (by omega)
theorem impl_ownBuf.eq {p : List Int} {c m : Int} (hp : p.length ≤ 2000000) : impl_ownBuf.f p c m = some (p, c, m) := by
  unfold impl_ownBuf.f
  rw [slices_Clone_sint64_int64.eq hp]
  rfl
theorem impl_ownBufs.loop (l : List S31) (hl : l.length ≤ 20) (hL : ∀ x ∈ l, bufOK x.f0 x.f1 x.f2 = true) (d : Nat) : ∀ (k i : Nat), i ≤ l.length → l.length - i = d → d < k → impl_ownBufs.l0 k (l.take i) l (l.length : Int) (i : Int) = some l := by
  induction d with
  | zero =>
    intro k i hi hd hk
    obtain ⟨k, rfl⟩ : ∃ m, k = m + 1 := ⟨k - 1, by omega⟩
    simp only [impl_ownBufs.l0]
    rw [if_neg (by omega), List.take_of_length_le (by omega)]
  | succ d ih =>
    intro k i hi hd hk
    obtain ⟨k, rfl⟩ : ∃ m, k = m + 1 := ⟨k - 1, by omega⟩
    have hlt : i < l.length := by omega
    have hx := bufOK_len (hL l[i] (List.getElem_mem hlt))
    simp only [impl_ownBufs.l0]
    rw [if_pos (int_lt hlt), if_pos (int_nn i), if_pos (int_lt hlt), rdBufB hlt, impl_ownBuf.eq (by omega)]
    simp only [Option.bind_some]
    rw [if_pos (by rw [List.length_take]; omega), wrap_succ (by omega)]
    have e : l.take i ++ [(⟨l[i].f0, l[i].f1, l[i].f2⟩ : S31)] = l.take (i + 1) := (List.take_succ_eq_append_getElem hlt).symm
    rw [e]
    exact ih k (i + 1) (by omega) (by omega) (by omega)
theorem impl_ownBufs.eq {l : List S31} (hl : l.length ≤ 20) (hL : ∀ x ∈ l, bufOK x.f0 x.f1 x.f2 = true) {k : Nat} (hk : 100 < k) : impl_ownBufs.f k l = some l := by
  unfold impl_ownBufs.f
  exact impl_ownBufs.loop l hl hL l.length k 0 (by omega) (by omega) (by omega)
def putV (l : List S31) (b : S31) : List S31 := (l ++ [b]).drop (l.length + 1 - 20)
theorem putV_eq {l : List S31} (b : S31) (hl : l.length ≤ 20) : putV l b = l.drop (l.length + 1 - 20) ++ [b] := by
  unfold putV
  rw [List.drop_append_of_le_length (by omega)]
theorem spec_l05Put.eq {l : List S31} (hl : l.length ≤ 20) (hL : ∀ x ∈ l, bufOK x.f0 x.f1 x.f2 = true) {p : List Int} (c m : Int) (hp : p.length ≤ 300) {k : Nat} (hk : 100 < k) : spec_l05Put.f k l p c m = some (putV l ⟨p, c, m⟩) := by
  unfold spec_l05Put.f spec_l02Copy.f
  rw [spec_l05CopyBufs.eq hl hL hk, spec_l01Copy.eq (by omega)]
  simp only [Option.bind_some]
  rw [if_pos (by omega)]
  have hlen : (l ++ [(⟨p, c, m⟩ : S31)]).length = l.length + 1 := by rw [List.length_append]; rfl
  unfold putV
  by_cases h : l.length = 20
  · rw [if_pos (by omega), if_pos (by omega), show l.length + 1 - 20 = 1 by omega]
    rfl
  · rw [if_neg (by omega), show l.length + 1 - 20 = 0 by omega, List.drop_zero]
theorem impl_behindBufs.eq {l : List S31} (hl : l.length ≤ 20) (hL : ∀ x ∈ l, bufOK x.f0 x.f1 x.f2 = true) {p : List Int} (c m : Int) (hp : p.length ≤ 300) {k : Nat} (hk : 100 < k) : impl_behindBufs.f k l p c m = some (putV l ⟨p, c, m⟩) := by
  unfold impl_behindBufs.f
  rw [impl_ownBufs.eq hl hL hk, impl_ownBuf.eq (by omega)]
  simp only [Option.bind_some]
  rw [if_pos (by omega)]
  have hlen : (l ++ [(⟨p, c, m⟩ : S31)]).length = l.length + 1 := by rw [List.length_append]; rfl
  have hm : mx (wrap64 (((l ++ [(⟨p, c, m⟩ : S31)]).length : Int) - 20)) 0 = ((l.length + 1 - 20 : Nat) : Int) := by
    rw [hlen, wrap_in (by omega) (by omega)]
    unfold mx
    omega
  unfold putV
  simp only [hm]
  rw [if_pos (int_nn _), if_pos (by omega), Int.toNat_natCast]
def lastB (P : List S31) : S31 := rd_T31 P ((P.length - 1 : Nat) : Int)
theorem lastB_mem {P : List S31} (h : P.length ≠ 0) : lastB P ∈ P := by
  unfold lastB
  rw [rdBufB (show P.length - 1 < P.length by omega)]
  exact List.getElem_mem _
def ubV (P N : List S31) (l : List Int) (c m : Int) : List S31 × List S31 × List Int × Int × Int × Int :=
  if (bufsOK P && bufsOK N) = true ∧ bufOK l c m = true then (if P.length = 0 then ([], [], [], 0, 0, 4) else (P.take (P.length - 1), putV N ⟨l, c, m⟩, (lastB P).f0, (lastB P).f1, (lastB P).f2, 0)) else ([], [], [], 0, 0, 1)
theorem impl_UndoBack.eq (P N : List S31) (l : List Int) (c m : Int) (hP : P.length ≤ 1048576) {k : Nat} (hk : 1000 < k) : impl_UndoBack.f k P N l c m = some (ubV P N l c m) := by
  obtain ⟨k, rfl⟩ : ∃ j, k = j + 1 := ⟨k - 1, by omega⟩
  unfold impl_UndoBack.f ubV
  rw [impl_UndoRight.eq _ _ (by omega), wrap_in (x := (P.length : Int) - 1) (by omega) (by omega)]
  simp only [Option.bind_some]
  by_cases h1 : (bufsOK P && bufsOK N) = true
  · rw [if_pos h1, impl_BufRight.eq _ _ _ (by omega)]
    simp only [Option.bind_some]
    by_cases h2 : bufOK l c m = true
    · obtain ⟨p1, p2⟩ := bufsOK_at (Bool.and_eq_true_iff.1 h1).1
      obtain ⟨n1, n2⟩ := bufsOK_at (Bool.and_eq_true_iff.1 h1).2
      have hb := bufOK_len h2
      rw [if_pos (⟨h1, h2⟩ : (bufsOK P && bufsOK N) = true ∧ bufOK l c m = true), h2, Bool.not_true, impl_UndoBack.j0, if_neg (by decide)]
      by_cases h0 : P.length = 0
      · rw [if_pos (by omega), if_pos h0]
      · rw [if_neg (by omega), if_neg h0]
        rw [show (P.length : Int) - 1 = ((P.length - 1 : Nat) : Int) by omega]
        have hx := bufOK_len (p2 _ (lastB_mem h0))
        rw [if_pos (int_nn _), if_pos (by omega), Int.toNat_natCast, impl_ownBufs.eq (by rw [List.length_take]; omega) (fun x hx => p2 x (List.mem_of_mem_take hx)) (by omega)]
        simp only [Option.bind_some]
        rw [impl_behindBufs.eq n1 n2 c m hb (by omega)]
        simp only [Option.bind_some]
        rw [if_pos (by omega)]
        show (impl_ownBuf.f (lastB P).f0 (lastB P).f1 (lastB P).f2).bind _ = _
        rw [impl_ownBuf.eq (by omega)]
        rfl
    · have h3 : bufOK l c m = false := by cases h : bufOK l c m <;> simp_all
      rw [if_neg (fun e => h2 e.2), h3, Bool.not_false, impl_UndoBack.j0, if_pos rfl]
  · rw [if_neg h1, if_neg (fun e => h1 e.1), impl_UndoBack.j0, if_pos rfl]
theorem putV_ok {N : List S31} {b : S31} (h : bufsOK N = true) (hb : bufOK b.f0 b.f1 b.f2 = true) : bufsOK (putV N b) = true := by
  obtain ⟨n1, n2⟩ := bufsOK_at h
  rw [putV_eq b n1]
  refine bufsOK_mk (by rw [List.length_append, List.length_drop, List.length_singleton]; omega) (fun x hx => ?_)
  rcases List.mem_append.1 hx with hx | hx
  · exact n2 x (List.mem_of_mem_drop hx)
  · rw [List.mem_singleton.1 hx]; exact hb
theorem take_ok {P : List S31} (n : Nat) (h : bufsOK P = true) : bufsOK (P.take n) = true := by
  obtain ⟨n1, n2⟩ := bufsOK_at h
  exact bufsOK_mk (by rw [List.length_take]; omega) (fun x hx => n2 x (List.mem_of_mem_take hx))
theorem laws_markBuf.eq {l : List Int} {c m a : Int} {k : Nat} (hl : l.length ≤ 1048576) (h0 : 0 ≤ a) (h1 : a ≤ 4000000000) (hk : l.length < k) : laws_markBuf.f k l c m a = some (a + (l.length : Int), mkL l.length a) := by
  unfold laws_markBuf.f
  rw [laws_markInt64S.eq hl h0 h1 hk]
  rfl
theorem laws_heldBuf.eq {n : Nat} {c m a : Int} {k : Nat} (hl : n ≤ 1048576) (h0 : 0 ≤ a) (h1 : a ≤ 4000000000) (hk : n < k) : laws_heldBuf.f k (mkL n a) c m a = some (a + (n : Int)) := by
  unfold laws_heldBuf.f
  rw [laws_heldInt64S.eq hl h0 h1 hk]
  simp only [Option.bind_some]
  rw [if_neg (by omega)]
def szU (a b : List S24) : Nat := a.length + szBufs a + (b.length + szBufs b)
theorem laws_szUndo.eq {a b : List S24} {c : Int} {k : Nat} (h0 : 0 ≤ c) (h1 : c ≤ 1048576) (ha : a.length ≤ 9223372036854775807) (hA : ∀ x ∈ a, x.f0.length ≤ 9223372036854775807) (hb : b.length ≤ 9223372036854775807) (hB : ∀ x ∈ b, x.f0.length ≤ 9223372036854775807) (hk : 1048577 < k) : laws_szUndo.f k a b c = some (if c < (szU a b : Int) then -1 else c - (szU a b : Int)) := by
  unfold laws_szUndo.f szU
  rw [laws_szBufS.eq h0 h1 ha hA hk]
  simp only [Option.bind_some]
  by_cases h : c < ((a.length + szBufs a : Nat) : Int)
  · rw [if_pos h, if_pos (by omega), if_pos (by omega)]
  · rw [if_neg h, if_neg (by omega), laws_szBufS.eq (by omega) (by omega) hb hB hk]
    simp only [Option.bind_some]
    by_cases h2 : c - ((a.length + szBufs a : Nat) : Int) < ((b.length + szBufs b : Nat) : Int)
    · rw [if_pos h2, if_pos (by omega), if_pos (by omega)]
    · rw [if_neg h2, if_neg (by omega), if_neg (by omega)]
      refine congrArg some ?_
      omega
theorem laws_toUndo.eq {a b : List S24} {k : Nat} (h : szU a b ≤ 1048576) (hk : 3000000 < k) : laws_toUndo.f k a b = some (a.map cvBuf, b.map cvBuf) := by
  unfold szU at h
  unfold laws_toUndo.f
  rw [laws_toBufS.eq (by omega) hk, laws_toBufS.eq (by omega) hk]
  rfl
def szW : List S31 → Nat
  | [] => 0
  | x :: l => x.f0.length + 2 + szW l
theorem szW_nil : szW [] = 0 := rfl
theorem szW_cons (x : S31) (l : List S31) : szW (x :: l) = x.f0.length + 2 + szW l := rfl
theorem szW_map (l : List S24) : szW (l.map cvBuf) = szBufs l + 2 * l.length := by
  induction l with
  | nil => rfl
  | cons x l ih =>
    rw [List.map_cons, szW_cons, ih, szBufs_cons, List.length_cons]
    show x.f0.length + 2 + _ = _
    omega
theorem szW_le {n : Nat} {l : List S31} (h : ∀ x ∈ l, x.f0.length ≤ n) : szW l ≤ l.length * (n + 2) := by
  induction l with
  | nil => exact Nat.zero_le _
  | cons x l ih =>
    have h1 := h x (List.mem_cons_self ..)
    have h2 := ih (fun y hy => h y (List.mem_cons_of_mem _ hy))
    rw [szW_cons, List.length_cons, Nat.succ_mul]
    omega
theorem szW_ok {l : List S31} (h : bufsOK l = true) : szW l ≤ 6040 := by
  obtain ⟨h0, h1⟩ := bufsOK_at h
  have h2 : szW l ≤ l.length * 302 := szW_le (fun x hx => bufOK_len (h1 x hx))
  omega
/-- the Bufs of marks -/
def mkW : List S31 → Int → List S31
  | [], _ => []
  | x :: l, a => ⟨mkL x.f0.length a, a + (x.f0.length : Int), a + (x.f0.length : Int) + 1⟩ :: mkW l (a + (x.f0.length : Int) + 1 + 1)
theorem mkW_nil (a : Int) : mkW [] a = [] := rfl
theorem mkW_cons (x : S31) (l : List S31) (a : Int) : mkW (x :: l) a = ⟨mkL x.f0.length a, a + (x.f0.length : Int), a + (x.f0.length : Int) + 1⟩ :: mkW l (a + (x.f0.length : Int) + 1 + 1) := rfl
theorem laws_markBufS.loop (l : List S31) : ∀ (pre : List S31) (k : Nat) (a : Int), pre.length + l.length ≤ 1048576 → szW l ≤ 4000000 → (∀ x ∈ l, x.f0.length ≤ 1048576) → 0 ≤ a → a + (szW l : Int) ≤ 2000000000 → l.length + 1048577 < k → laws_markBufS.l0 k (pre ++ l) a (pre.length : Int) = some (a + (szW l : Int), pre ++ mkW l a) := by
  induction l with
  | nil =>
    intro pre k a h1 h2 hL h3 h4 hk
    obtain ⟨k, rfl⟩ : ∃ m, k = m + 1 := ⟨k - 1, by omega⟩
    simp only [laws_markBufS.l0]
    rw [if_neg (by simp), mkW_nil, szW_nil]
    simp
  | cons x l ih =>
    intro pre k a h1 h2 hL h3 h4 hk
    obtain ⟨k, rfl⟩ : ∃ m, k = m + 1 := ⟨k - 1, by omega⟩
    have hx := hL x (List.mem_cons_self ..)
    rw [szW_cons] at h2 h4
    rw [List.length_cons] at h1 hk
    simp only [laws_markBufS.l0]
    rw [if_pos (by rw [List.length_append, List.length_cons]; omega), if_pos (by omega)]
    have e1 : (pre ++ x :: l).getD ((pre.length : Int)).toNat z31 = x := by
      rw [Int.toNat_natCast, List.getD_eq_getElem?_getD, List.getElem?_append_right (Nat.le_refl _), Nat.sub_self]
      rfl
    rw [e1, laws_markInt64S.eq hx h3 (by omega) (by omega)]
    simp only [Option.bind_some]
    rw [wrap_in (x := a + (x.f0.length : Int) + 1) (by omega) (by omega), wrap_in (x := a + (x.f0.length : Int) + 1 + 1) (by omega) (by omega)]
    have e2 : (pre ++ x :: l).set ((pre.length : Int)).toNat ⟨mkL x.f0.length a, a + (x.f0.length : Int), a + (x.f0.length : Int) + 1⟩ = (pre ++ [⟨mkL x.f0.length a, a + (x.f0.length : Int), a + (x.f0.length : Int) + 1⟩]) ++ l := by
      rw [Int.toNat_natCast, List.set_append_right _ _ (Nat.le_refl _), Nat.sub_self, List.set_cons_zero, List.append_assoc]
      rfl
    rw [e2, wrap_succ (by omega)]
    have := ih (pre ++ [⟨mkL x.f0.length a, a + (x.f0.length : Int), a + (x.f0.length : Int) + 1⟩]) k (a + (x.f0.length : Int) + 1 + 1) (by rw [List.length_append, List.length_singleton]; omega) (by omega) (fun y hy => hL y (List.mem_cons_of_mem _ hy)) (by omega) (by omega) (by omega)
    rw [List.length_append, List.length_singleton] at this
    rw [this, mkW_cons, szW_cons, List.append_assoc]
    refine congrArg some ?_
    refine Prod.ext ?_ rfl
    show a + (x.f0.length : Int) + 1 + 1 + (szW l : Int) = a + ((x.f0.length + 2 + szW l : Nat) : Int)
    omega
theorem laws_markBufS.eq {l : List S31} {a : Int} {k : Nat} (h : l.length ≤ 1048576) (h2 : szW l ≤ 4000000) (hL : ∀ x ∈ l, x.f0.length ≤ 1048576) (h0 : 0 ≤ a) (h1 : a ≤ 1000000000) (hk : 3000000 < k) : laws_markBufS.f k l a = some (a + (szW l : Int), mkW l a) := by
  have := laws_markBufS.loop l [] k a (by simp only [List.length_nil]; omega) h2 hL h0 (by omega) (by omega)
  exact this
theorem laws_heldBufS.loop (l : List S31) : ∀ (pre : List S31) (k : Nat) (a : Int), pre.length + l.length ≤ 1048576 → szW l ≤ 4000000 → (∀ x ∈ l, x.f0.length ≤ 1048576) → 0 ≤ a → a + (szW l : Int) ≤ 2000000000 → l.length + 1048577 < k → laws_heldBufS.l0 k (pre ++ mkW l a) a (pre.length : Int) = some (a + (szW l : Int)) := by
  induction l with
  | nil =>
    intro pre k a h1 h2 hL h3 h4 hk
    obtain ⟨k, rfl⟩ : ∃ m, k = m + 1 := ⟨k - 1, by omega⟩
    simp only [laws_heldBufS.l0]
    rw [if_neg (by rw [mkW_nil]; simp), szW_nil]
    simp
  | cons x l ih =>
    intro pre k a h1 h2 hL h3 h4 hk
    obtain ⟨k, rfl⟩ : ∃ m, k = m + 1 := ⟨k - 1, by omega⟩
    have hx := hL x (List.mem_cons_self ..)
    rw [szW_cons] at h2 h4
    rw [List.length_cons] at h1 hk
    simp only [laws_heldBufS.l0]
    rw [mkW_cons, if_pos (by rw [List.length_append, List.length_cons]; omega), if_pos (by omega)]
    have e1 : rd_T31 (pre ++ (⟨mkL x.f0.length a, a + (x.f0.length : Int), a + (x.f0.length : Int) + 1⟩ : S31) :: mkW l (a + (x.f0.length : Int) + 1 + 1)) (pre.length : Int) = ⟨mkL x.f0.length a, a + (x.f0.length : Int), a + (x.f0.length : Int) + 1⟩ := by
      unfold rd_T31
      rw [Int.toNat_natCast, List.getD_eq_getElem?_getD, List.getElem?_append_right (Nat.le_refl _), Nat.sub_self]
      rfl
    rw [e1, laws_heldInt64S.eq hx h3 (by omega) (by omega)]
    simp only [Option.bind_some]
    rw [wrap_in (x := a + (x.f0.length : Int) + 1) (by omega) (by omega), wrap_in (x := a + (x.f0.length : Int) + 1 + 1) (by omega) (by omega), if_neg (by omega), if_pos trivial, if_pos rfl, wrap_succ (by omega)]
    have := ih (pre ++ [⟨mkL x.f0.length a, a + (x.f0.length : Int), a + (x.f0.length : Int) + 1⟩]) k (a + (x.f0.length : Int) + 1 + 1) (by rw [List.length_append, List.length_singleton]; omega) (by omega) (fun y hy => hL y (List.mem_cons_of_mem _ hy)) (by omega) (by omega) (by omega)
    rw [List.length_append, List.length_singleton, List.append_assoc] at this
    refine Eq.trans this ?_
    rw [szW_cons]
    refine congrArg some ?_
    omega
theorem laws_heldBufS.eq {l : List S31} {a : Int} {k : Nat} (h : l.length ≤ 1048576) (h2 : szW l ≤ 4000000) (hL : ∀ x ∈ l, x.f0.length ≤ 1048576) (h0 : 0 ≤ a) (h1 : a ≤ 1000000000) (hk : 3000000 < k) : laws_heldBufS.f k (mkW l a) a = some (a + (szW l : Int)) := by
  have := laws_heldBufS.loop l [] k a (by simp only [List.length_nil]; omega) h2 hL h0 (by omega) (by omega)
  exact this
theorem bufsOK_len {l : List S31} (h : bufsOK l = true) : l.length ≤ 1048576 ∧ szW l ≤ 4000000 ∧ ∀ x ∈ l, x.f0.length ≤ 1048576 := by
  have h2 := szW_ok h
  obtain ⟨h0, h1⟩ := bufsOK_at h
  exact ⟨by omega, by omega, fun x hx => by have := bufOK_len (h1 x hx); omega⟩
theorem laws_markUndo.eq {a b : List S31} {c : Int} {k : Nat} (ha : a.length ≤ 1048576 ∧ szW a ≤ 4000000 ∧ ∀ x ∈ a, x.f0.length ≤ 1048576) (hb : b.length ≤ 1048576 ∧ szW b ≤ 4000000 ∧ ∀ x ∈ b, x.f0.length ≤ 1048576) (h0 : 0 ≤ c) (h1 : c ≤ 100000000) (hk : 3000000 < k) : laws_markUndo.f k a b c = some (c + (szW a : Int) + (szW b : Int), mkW a c, mkW b (c + (szW a : Int))) := by
  unfold laws_markUndo.f
  rw [laws_markBufS.eq ha.1 ha.2.1 ha.2.2 h0 (by omega) hk, Option.bind_some]
  (try dsimp only)
  rw [laws_markBufS.eq hb.1 hb.2.1 hb.2.2 (by omega) (by omega) hk, Option.bind_some]
theorem laws_heldUndo.eq {a b : List S31} {c : Int} {k : Nat} (ha : a.length ≤ 1048576 ∧ szW a ≤ 4000000 ∧ ∀ x ∈ a, x.f0.length ≤ 1048576) (hb : b.length ≤ 1048576 ∧ szW b ≤ 4000000 ∧ ∀ x ∈ b, x.f0.length ≤ 1048576) (h0 : 0 ≤ c) (h1 : c ≤ 100000000) (hk : 3000000 < k) : laws_heldUndo.f k (mkW a c) (mkW b (c + (szW a : Int))) c = some (c + (szW a : Int) + (szW b : Int)) := by
  unfold laws_heldUndo.f
  rw [laws_heldBufS.eq ha.1 ha.2.1 ha.2.2 h0 (by omega) hk, Option.bind_some, if_neg (by omega), laws_heldBufS.eq hb.1 hb.2.1 hb.2.2 (by omega) (by omega) hk, Option.bind_some, if_neg (by omega)]
theorem undoArg {a b : List S24} (h : szU a b ≤ 1048576) : ((a.map cvBuf).length ≤ 1048576 ∧ szW (a.map cvBuf) ≤ 4000000 ∧ ∀ x ∈ a.map cvBuf, x.f0.length ≤ 1048576) ∧ (b.map cvBuf).length ≤ 1048576 ∧ szW (b.map cvBuf) ≤ 4000000 ∧ ∀ x ∈ b.map cvBuf, x.f0.length ≤ 1048576 := by
  unfold szU at h
  refine ⟨⟨by rw [List.length_map]; omega, by rw [szW_map]; omega, cvBuf_ok (by omega)⟩, by rw [List.length_map]; omega, by rw [szW_map]; omega, cvBuf_ok (by omega)⟩
theorem laws_eqUndo.same {a b : List S31} {k : Nat} (ha : a.length ≤ 1048576 ∧ szW a ≤ 4000000 ∧ ∀ x ∈ a, x.f0.length ≤ 1048576) (hb : b.length ≤ 1048576 ∧ szW b ≤ 4000000 ∧ ∀ x ∈ b, x.f0.length ≤ 1048576) (hk : 3000000 < k) : laws_eqUndo.f k a b a b = some true := by
  unfold laws_eqUndo.f
  rw [laws_eqBufS.eq ha.1 ha.2.2 hk, Option.bind_some, if_pos (decide_eq_true rfl), laws_eqBufS.eq hb.1 hb.2.2 hk, Option.bind_some, if_pos (decide_eq_true rfl)]
theorem laws_eqUndoOut.same {a b : List S31} {p : List Int} {c d r : Int} {k : Nat} (ha : bufsOK a = true) (hb : bufsOK b = true) (hp : p.length ≤ 300) (hk : 3000000 < k) : laws_eqUndoOut.f k a b p c d r a b p c d r = some true := by
  unfold laws_eqUndoOut.f
  rw [laws_eqUndo.same (bufsOK_len ha) (bufsOK_len hb) hk, Option.bind_some, if_pos rfl, laws_eqBuf.eq (by omega) (by omega), Option.bind_some, if_pos (decide_eq_true ⟨rfl, rfl, rfl⟩), if_pos rfl]
theorem laws_markUndoOut.one {a b : List S31} {p : List Int} {c d r : Int} {k : Nat} (ha : bufsOK a = true) (hb : bufsOK b = true) (hp : p.length ≤ 300) (hk : 3000000 < k) : laws_markUndoOut.f k a b p c d r 1 = some (1 + (szW a : Int) + (szW b : Int) + (p.length : Int), mkW a 1, mkW b (1 + (szW a : Int)), mkL p.length (1 + (szW a : Int) + (szW b : Int))) := by
  have h1 := szW_ok ha
  have h2 := szW_ok hb
  unfold laws_markUndoOut.f
  rw [laws_markUndo.eq (bufsOK_len ha) (bufsOK_len hb) (by omega) (by omega) hk, Option.bind_some]
  (try dsimp only)
  rw [laws_markBuf.eq (by omega) (by omega) (by omega) (by omega), Option.bind_some]
theorem laws_heldUndoOut.one {a b : List S31} {p : List Int} {c d r : Int} {k : Nat} (ha : bufsOK a = true) (hb : bufsOK b = true) (hp : p.length ≤ 300) (hk : 3000000 < k) : laws_heldUndoOut.f k (mkW a 1) (mkW b (1 + (szW a : Int))) (mkL p.length (1 + (szW a : Int) + (szW b : Int))) c d r 1 = some (1 + (szW a : Int) + (szW b : Int) + (p.length : Int)) := by
  have h1 := szW_ok ha
  have h2 := szW_ok hb
  unfold laws_heldUndoOut.f
  rw [laws_heldUndo.eq (bufsOK_len ha) (bufsOK_len hb) (by omega) (by omega) hk, Option.bind_some, if_neg (by omega), laws_heldBuf.eq (by omega) (by omega) (by omega) (by omega), Option.bind_some, if_neg (by omega)]
theorem ubV_ok (P N : List S31) (l : List Int) (c m : Int) : bufsOK (ubV P N l c m).1 = true ∧ bufsOK (ubV P N l c m).2.1 = true ∧ (ubV P N l c m).2.2.1.length ≤ 300 := by
  unfold ubV
  by_cases h : (bufsOK P && bufsOK N) = true ∧ bufOK l c m = true
  · rw [if_pos h]
    by_cases h0 : P.length = 0
    · rw [if_pos h0]
      exact ⟨rfl, rfl, Nat.zero_le _⟩
    · rw [if_neg h0]
      have hP := (Bool.and_eq_true_iff.1 h.1).1
      exact ⟨take_ok _ hP, putV_ok (Bool.and_eq_true_iff.1 h.1).2 h.2, bufOK_len ((bufsOK_at hP).2 _ (lastB_mem h0))⟩
  · rw [if_neg h]
    exact ⟨rfl, rfl, Nat.zero_le _⟩
def ufV (P N : List S31) (l : List Int) (c m : Int) : List S31 × List S31 × List Int × Int × Int × Int :=
  ((ubV N P l c m).2.1, (ubV N P l c m).1, (ubV N P l c m).2.2.1, (ubV N P l c m).2.2.2.1, (ubV N P l c m).2.2.2.2.1, (ubV N P l c m).2.2.2.2.2)
theorem impl_UndoForth.eq (P N : List S31) (l : List Int) (c m : Int) (hN : N.length ≤ 1048576) {k : Nat} (hk : 1000 < k) : impl_UndoForth.f k P N l c m = some (ufV P N l c m) := by
  unfold impl_UndoForth.f
  rw [impl_UndoBack.eq _ _ _ _ _ hN hk]
  rfl
theorem spec_UndoForth.eq (P N : List S31) (l : List Int) (c m : Int) {k : Nat} (hk : 1000 < k) : spec_UndoForth.f k P N l c m = some (ufV P N l c m) := by
  obtain ⟨k, rfl⟩ : ∃ j, k = j + 1 := ⟨k - 1, by omega⟩
  unfold spec_UndoForth.f ufV ubV
  rw [spec_UndoRight.eq _ _ (by omega)]
  simp only [Option.bind_some]
  by_cases h1 : (bufsOK P && bufsOK N) = true
  · have h1' : (bufsOK N && bufsOK P) = true := by rw [Bool.and_comm]; exact h1
    rw [if_pos h1, spec_BufRight.eq _ _ _ (by omega)]
    simp only [Option.bind_some]
    by_cases h2 : bufOK l c m = true
    · obtain ⟨p1, p2⟩ := bufsOK_at (Bool.and_eq_true_iff.1 h1).1
      obtain ⟨n1, n2⟩ := bufsOK_at (Bool.and_eq_true_iff.1 h1).2
      have hb := bufOK_len h2
      rw [if_pos (⟨h1', h2⟩ : (bufsOK N && bufsOK P) = true ∧ bufOK l c m = true), h2, Bool.not_true, spec_UndoForth.j0, if_neg (by decide)]
      by_cases h0 : N.length = 0
      · rw [if_pos (by omega), if_pos h0]
      · rw [if_neg (by omega), if_neg h0]
        simp only [show wrap64 ((N.length : Int) - 1) = ((N.length - 1 : Nat) : Int) by rw [wrap_in (by omega) (by omega)]; omega]
        have hx := bufOK_len (n2 _ (lastB_mem h0))
        rw [spec_l05Put.eq p1 p2 c m hb (by omega), Option.bind_some, if_pos (int_nn _), if_pos (by omega), Int.toNat_natCast, spec_l05CopyBufs.eq (by rw [List.length_take]; omega) (fun x hx => n2 x (List.mem_of_mem_take hx)) (by omega), Option.bind_some, if_pos (by omega)]
        show (spec_l02Copy.f (lastB N).f0 (lastB N).f1 (lastB N).f2).bind _ = _
        unfold spec_l02Copy.f
        rw [spec_l01Copy.eq (by omega)]
        rfl
    · have h3 : bufOK l c m = false := by cases h : bufOK l c m <;> simp_all
      rw [if_neg (fun e => h2 e.2), h3, Bool.not_false, spec_UndoForth.j0, if_pos rfl]
  · rw [if_neg h1, if_neg (fun e => h1 (by rw [Bool.and_comm]; exact e.1)), spec_UndoForth.j0, if_pos rfl]
theorem ufV_ok (P N : List S31) (l : List Int) (c m : Int) : bufsOK (ufV P N l c m).1 = true ∧ bufsOK (ufV P N l c m).2.1 = true ∧ (ufV P N l c m).2.2.1.length ≤ 300 := by
  obtain ⟨h1, h2, h3⟩ := ubV_ok N P l c m
  exact ⟨h2, h1, h3⟩

theorem FnExactUndoForth : laws_FnExactUndoForth.Pure := by
  intro a b l c m ⟨⟨ha, hA⟩, hb, hB⟩ ⟨⟨hl, _⟩, _, _⟩
  have ha := maxLen_le ha
  have hb := maxLen_le hb
  have hl := maxLen_le hl
  refine ⟨6000000, ?_⟩
  unfold laws_FnExactUndoForth.f
  rw [laws_szUndo.eq (by omega) (by omega) ha (fun x hx => maxLen_le (hA x hx).1.1) hb (fun x hx => maxLen_le (hB x hx).1.1) (by omega), Option.bind_some]
  by_cases h : (1048576 : Int) < (szU a b : Int)
  · rw [if_pos h, if_pos (by omega)]
  · rw [if_neg h, if_neg (by omega), laws_szBuf.eq (by omega) (by omega) hl, Option.bind_some]
    by_cases h2 : (1048576 : Int) - (szU a b : Int) < (l.length : Int)
    · rw [if_pos h2, if_pos (by omega)]
    · obtain ⟨g1, g2⟩ := undoArg (a := a) (b := b) (by omega)
      obtain ⟨v1, v2, v3⟩ := ufV_ok (a.map cvBuf) (b.map cvBuf) l c m
      have hw1 : szW (a.map cvBuf) ≤ 4000000 := g1.2.1
      have hw2 : szW (b.map cvBuf) ≤ 4000000 := g2.2.1
      rw [if_neg h2, if_neg (by omega), laws_toUndo.eq (by omega) (by omega), Option.bind_some, laws_toBuf.eq (by omega) (by omega), Option.bind_some]
      (try dsimp only)
      rw [spec_UndoForth.eq _ _ _ _ _ (by omega), Option.bind_some, Option.bind_some, Option.bind_some]
      (try dsimp only)
      rw [impl_UndoForth.eq _ _ _ _ _ g2.1 (by omega), Option.bind_some]
      generalize hv : ufV (a.map cvBuf) (b.map cvBuf) l c m = v at v1 v2 v3
      obtain ⟨u1, u2, u3, u4, u5, u6⟩ := v
      (try dsimp only at v1 v2 v3)
      (try dsimp only)
      rw [laws_eqUndoOut.same v1 v2 v3 (by omega), Option.bind_some, if_pos rfl, Option.bind_some]
      (try dsimp only)
      rw [laws_eqUndo.same g1 g2 (by omega), Option.bind_some, if_pos rfl, Option.bind_some]
      (try dsimp only)
      rw [laws_eqBuf.eq (by omega) (by omega), Option.bind_some, if_pos (decide_eq_true ⟨rfl, rfl, rfl⟩), laws_markUndo.eq g1 g2 (by omega) (by omega) (by omega), Option.bind_some]
      (try dsimp only)
      rw [laws_markBuf.eq (by omega) (by omega) (by omega) (by omega), Option.bind_some, Option.bind_some]
      (try dsimp only)
      rw [if_neg (by omega), if_pos rfl, laws_markUndoOut.one v1 v2 v3 (by omega), Option.bind_some]
      (try dsimp only)
      rw [laws_heldUndoOut.one v1 v2 v3 (by omega), Option.bind_some, if_neg (by omega), if_pos rfl, Option.bind_some, Option.bind_some]
      (try dsimp only)
      rw [impl_UndoForth.eq _ _ _ _ _ g2.1 (by omega), hv, Option.bind_some]
      (try dsimp only)
      rw [laws_eqUndoOut.same v1 v2 v3 (by omega), Option.bind_some, if_pos rfl, Option.bind_some, if_neg (by omega), if_pos rfl]

end Go.Proofs.Ytkplopkhdejleaa.Pure
