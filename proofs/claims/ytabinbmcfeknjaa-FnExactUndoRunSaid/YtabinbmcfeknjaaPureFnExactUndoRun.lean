/- Proved: the program's UndoRun returns what the reference's returns, for every buffer and list of lists of points of size at most 2^20 together, leaves its arguments as they were, and its answer is memory of its own. -/
import Derived.Test.YtabinbmcfeknjaaPFnExactUndoRunx13
namespace Go.Proofs.Ytabinbmcfeknjaa.Pure
open Go.RowKit Go.Proofs.Ytabinbmcfeknjaa.PFnExactUndoRun Go.Proofs.YtabinbmcfeknjaaW.PrintWords Go.Proofs.YtabinbmcfeknjaaW.PrintLast Go.Proofs.YtabinbmcfeknjaaW.PrintMore
set_option linter.unusedVariables false
set_option linter.unusedSimpArgs false

/-! ### plain words -/
theorem wrap_in {x : Int} (h0 : -9223372036854775808 ≤ x) (h1 : x ≤ 9223372036854775807) : wrap64 x = x := by unfold wrap64; omega
theorem wrap_succ {i : Nat} (h : i < 4611686018427387904) : wrap64 ((i : Int) + 1) = ((i + 1 : Nat) : Int) := by unfold wrap64; omega
theorem rd_nat (l : List Int) (i : Nat) : rd l (i : Int) = l.getD i 0 := by simp [rd]
theorem drop_rd {l : List Int} {i : Nat} (h : i < l.length) : l.drop i = rd l (i : Int) :: l.drop (i + 1) := by
  rw [rd_nat, List.drop_eq_getElem_cons h, List.getD_eq_getElem?_getD, List.getElem?_eq_getElem h]
  rfl
theorem int_lt {i n : Nat} (h : i < n) : (i : Int) < (n : Int) := by omega
theorem int_nn (i : Nat) : (0 : Int) ≤ (i : Int) := by omega
theorem maxLen_le {n : Nat} (h : n ≤ maxLen) : n ≤ 9223372036854775807 := by unfold maxLen at h; exact h
theorem some_b {a b : Bool} (h : a = true ↔ b = true) : some a = some b := congrArg some (Bool.eq_iff_iff.2 h)
def isPt (a : Int) : Bool := decide (0 ≤ a ∧ a ≤ 1114111 ∧ ¬ (55296 ≤ a ∧ a ≤ 57343))
def ptsOK (l : List Int) : Bool := decide (l.length ≤ 300) && l.all isPt
def bufOK (l : List Int) (c m : Int) : Bool := ptsOK l && decide (0 ≤ c ∧ c ≤ l.length) && decide (0 ≤ m ∧ m ≤ l.length)
theorem ptsOK_len {l : List Int} (h : ptsOK l = true) : l.length ≤ 300 := by
  unfold ptsOK at h
  simp only [Bool.and_eq_true, decide_eq_true_eq] at h
  exact h.1
theorem bufOK_len {l : List Int} {c m : Int} (h : bufOK l c m = true) : l.length ≤ 300 := by
  unfold bufOK at h
  simp only [Bool.and_eq_true] at h
  exact ptsOK_len h.1.1
theorem bufOK_all {l : List Int} {c m : Int} (h : bufOK l c m = true) : l.length ≤ 300 ∧ 0 ≤ c ∧ c ≤ l.length ∧ 0 ≤ m ∧ m ≤ l.length := by
  have hl := bufOK_len h
  unfold bufOK at h
  simp only [Bool.and_eq_true, decide_eq_true_eq] at h
  exact ⟨hl, h.1.2.1, h.1.2.2, h.2.1, h.2.2⟩
theorem laws_eqInt64S.loop (a b : List Int) (hab : a.length = b.length) (hl : a.length ≤ 1048576) (d : Nat) : ∀ (k i : Nat), i ≤ a.length → a.length - i = d → d < k → laws_eqInt64S.l0 k a b (i : Int) = some (decide (a.drop i = b.drop i)) := by
  induction d with
  | zero =>
    intro k i hi hd hk
    obtain ⟨k, rfl⟩ : ∃ m, k = m + 1 := ⟨k - 1, by omega⟩
    simp only [laws_eqInt64S.l0]
    rw [if_neg (by omega), List.drop_eq_nil_of_le (by omega), List.drop_eq_nil_of_le (by omega)]
    rfl
  | succ d ih =>
    intro k i hi hd hk
    obtain ⟨k, rfl⟩ : ∃ m, k = m + 1 := ⟨k - 1, by omega⟩
    have hlt : i < a.length := by omega
    simp only [laws_eqInt64S.l0]
    rw [if_pos (int_lt hlt), if_pos (int_nn i), if_pos (by omega), wrap_succ (by omega), ih k (i + 1) (by omega) (by omega) (by omega), drop_rd hlt, drop_rd (show i < b.length by omega)]
    by_cases h : rd a (i : Int) = rd b (i : Int)
    · rw [if_pos h, h]
      simp
    · rw [if_neg h]
      simp [h]
theorem laws_eqInt64S.eq {a b : List Int} {k : Nat} (hl : a.length ≤ 1048576) (hk : a.length < k) : laws_eqInt64S.f k a b = some (decide (a = b)) := by
  unfold laws_eqInt64S.f
  by_cases h : a.length = b.length
  · rw [if_pos (by omega)]
    have := laws_eqInt64S.loop a b h hl a.length k 0 (by omega) (by omega) hk
    simpa using this
  · rw [if_neg (by omega)]
    refine congrArg some (decide_eq_false (fun e => h (by rw [e]))).symm
/-- the row of marks -/
def mkL : Nat → Int → List Int
  | 0, _ => []
  | n + 1, a => mkL n a ++ [a + (n : Int)]
theorem mkL_zero (a : Int) : mkL 0 a = [] := rfl
theorem mkL_succ (n : Nat) (a : Int) : mkL (n + 1) a = mkL n a ++ [a + (n : Int)] := rfl
theorem mkL_length (n : Nat) (a : Int) : (mkL n a).length = n := by
  induction n with
  | zero => rfl
  | succ n ih => rw [mkL_succ, List.length_append, ih]; rfl
theorem mkL_rd {n : Nat} {a : Int} : ∀ {i : Nat}, i < n → rd (mkL n a) (i : Int) = a + (i : Int) := by
  induction n with
  | zero => intro i h; omega
  | succ n ih =>
    intro i h
    rw [rd_nat, mkL_succ, List.getD_eq_getElem?_getD]
    by_cases e : i = n
    · subst e
      rw [List.getElem?_append_right (by rw [mkL_length]; omega), mkL_length]
      simp
    · rw [List.getElem?_append_left (by rw [mkL_length]; omega)]
      have := ih (i := i) (by omega)
      rw [rd_nat, List.getD_eq_getElem?_getD] at this
      exact this
theorem laws_markInt64S.loop (l : List Int) (hl : l.length ≤ 1048576) (a : Int) (h0 : 0 ≤ a) (h1 : a ≤ 4000000000) (d : Nat) : ∀ (k i : Nat), i ≤ l.length → l.length - i = d → d < k → laws_markInt64S.l0 k (mkL i a ++ l.drop i) (a + (i : Int)) (i : Int) = some (a + (l.length : Int), mkL l.length a) := by
  induction d with
  | zero =>
    intro k i hi hd hk
    obtain ⟨k, rfl⟩ : ∃ m, k = m + 1 := ⟨k - 1, by omega⟩
    obtain rfl : i = l.length := by omega
    simp only [laws_markInt64S.l0]
    rw [List.drop_length, List.append_nil, mkL_length, if_neg (by omega)]
  | succ d ih =>
    intro k i hi hd hk
    obtain ⟨k, rfl⟩ : ∃ m, k = m + 1 := ⟨k - 1, by omega⟩
    have hlt : i < l.length := by omega
    have hlen : (mkL i a ++ l.drop i).length = l.length := by rw [List.length_append, mkL_length, List.length_drop]; omega
    simp only [laws_markInt64S.l0]
    rw [if_pos (by omega), if_pos (int_nn i), wrap_succ (by omega), wrap_in (by omega) (by omega), Int.toNat_natCast]
    have hs : (mkL i a ++ l.drop i).set i (a + (i : Int)) = mkL (i + 1) a ++ l.drop (i + 1) := by
      rw [List.set_append_right _ _ (by rw [mkL_length]; omega), mkL_length, Nat.sub_self, drop_rd hlt, List.set_cons_zero, mkL_succ, List.append_assoc]
      rfl
    rw [hs, show a + (i : Int) + 1 = a + ((i + 1 : Nat) : Int) by omega]
    exact ih k (i + 1) (by omega) (by omega) (by omega)
theorem laws_markInt64S.eq {l : List Int} {a : Int} {k : Nat} (hl : l.length ≤ 1048576) (h0 : 0 ≤ a) (h1 : a ≤ 4000000000) (hk : l.length < k) : laws_markInt64S.f k l a = some (a + (l.length : Int), mkL l.length a) := by
  have := laws_markInt64S.loop l hl a h0 h1 l.length k 0 (by omega) (by omega) hk
  rw [mkL_zero, List.drop_zero] at this
  unfold laws_markInt64S.f
  simpa using this
theorem laws_heldInt64S.loop (n : Nat) (hl : n ≤ 1048576) (a : Int) (h0 : 0 ≤ a) (h1 : a ≤ 4000000000) (d : Nat) : ∀ (k i : Nat), i ≤ n → n - i = d → d < k → laws_heldInt64S.l0 k (mkL n a) (a + (i : Int)) (i : Int) = some (a + (n : Int)) := by
  induction d with
  | zero =>
    intro k i hi hd hk
    obtain ⟨k, rfl⟩ : ∃ m, k = m + 1 := ⟨k - 1, by omega⟩
    obtain rfl : i = n := by omega
    simp only [laws_heldInt64S.l0]
    rw [mkL_length, if_neg (by omega)]
  | succ d ih =>
    intro k i hi hd hk
    obtain ⟨k, rfl⟩ : ∃ m, k = m + 1 := ⟨k - 1, by omega⟩
    have hlt : i < n := by omega
    simp only [laws_heldInt64S.l0]
    rw [mkL_length, if_pos (int_lt hlt), if_pos (int_nn i), mkL_rd hlt, if_pos rfl, wrap_succ (by omega), wrap_in (by omega) (by omega), show a + (i : Int) + 1 = a + ((i + 1 : Nat) : Int) by omega]
    exact ih k (i + 1) (by omega) (by omega) (by omega)
theorem laws_heldInt64S.eq {n : Nat} {a : Int} {k : Nat} (hl : n ≤ 1048576) (h0 : 0 ≤ a) (h1 : a ≤ 4000000000) (hk : n < k) : laws_heldInt64S.f k (mkL n a) a = some (a + (n : Int)) := by
  have := laws_heldInt64S.loop n hl a h0 h1 n k 0 (by omega) (by omega) hk
  unfold laws_heldInt64S.f
  simpa using this
theorem rdBufB {l : List (S31)} {i : Nat} (h : i < l.length) : rd_T31 l (i : Int) = l[i] := by
  unfold rd_T31
  rw [Int.toNat_natCast, List.getD_eq_getElem?_getD, List.getElem?_eq_getElem h]
  rfl
theorem laws_szInt64S.eq {l : List Int} {a : Int} (h0 : 0 ≤ a) (h1 : a ≤ 1048576) (hl : l.length ≤ 9223372036854775807) : laws_szInt64S.f l a = some (if a < (l.length : Int) then -1 else a - (l.length : Int)) := by
  unfold laws_szInt64S.f
  rw [wrap_in (by omega) (by omega)]
  by_cases h : a < (l.length : Int)
  · rw [if_pos (by omega), if_pos h]
  · rw [if_neg (by omega), if_neg h]
theorem laws_szBuf.eq {l : List Int} {a c m : Int} (h0 : 0 ≤ a) (h1 : a ≤ 1048576) (hl : l.length ≤ 9223372036854775807) : laws_szBuf.f l c m a = some (if a < (l.length : Int) then -1 else a - (l.length : Int)) := by
  unfold laws_szBuf.f
  rw [laws_szInt64S.eq h0 h1 hl]
  simp only [Option.bind_some]
  by_cases h : a < (l.length : Int)
  · rw [if_pos h, if_pos (by omega)]
  · rw [if_neg h, if_neg (by omega)]
theorem laws_toInt64S.loop (l : List Int) (hl : l.length ≤ 1048576) (d : Nat) : ∀ (k i : Nat), i ≤ l.length → l.length - i = d → d < k → laws_toInt64S.l0 k l (l.take i ++ List.replicate (l.length - i) 0) (i : Int) = some l := by
  induction d with
  | zero =>
    intro k i hi hd hk
    obtain ⟨k, rfl⟩ : ∃ m, k = m + 1 := ⟨k - 1, by omega⟩
    obtain rfl : i = l.length := by omega
    simp only [laws_toInt64S.l0]
    rw [if_neg (by omega)]
    simp
  | succ d ih =>
    intro k i hi hd hk
    obtain ⟨k, rfl⟩ : ∃ m, k = m + 1 := ⟨k - 1, by omega⟩
    have hlt : i < l.length := by omega
    simp only [laws_toInt64S.l0]
    rw [if_pos (int_lt hlt), if_pos (int_nn i), if_pos (by simp; omega), wrap_succ (by omega), Int.toNat_natCast]
    have hs : (l.take i ++ List.replicate (l.length - i) 0).set i (rd l (i : Int)) = l.take (i + 1) ++ List.replicate (l.length - (i + 1)) 0 := by
      have h1 : (l.take i).length = i := by simp; omega
      rw [List.set_append_right _ _ (by omega), h1, Nat.sub_self, show l.length - i = (l.length - (i + 1)) + 1 by omega, List.replicate_succ, List.set_cons_zero, List.take_succ_eq_append_getElem hlt, rd_nat, List.getD_eq_getElem?_getD, List.getElem?_eq_getElem hlt, List.append_assoc]
      rfl
    rw [hs]
    exact ih k (i + 1) (by omega) (by omega) (by omega)
theorem laws_toInt64S.eq {l : List Int} {k : Nat} (hl : l.length ≤ 1048576) (hk : l.length < k) : laws_toInt64S.f k l = some l := by
  unfold laws_toInt64S.f
  rw [if_pos (by omega), if_pos (by omega), Int.toNat_natCast]
  have := laws_toInt64S.loop l hl l.length k 0 (by omega) (by omega) hk
  simpa using this
theorem laws_toBuf.eq {l : List Int} {c m : Int} {k : Nat} (hl : l.length ≤ 1048576) (hk : l.length < k) : laws_toBuf.f k l c m = some (l, c, m) := by
  unfold laws_toBuf.f
  rw [laws_toInt64S.eq hl hk]
  rfl
theorem laws_eqBuf.eq {a b : List Int} {c m c' m' : Int} {k : Nat} (hl : a.length ≤ 1048576) (hk : a.length < k) : laws_eqBuf.f k a c m b c' m' = some (decide (a = b ∧ c = c' ∧ m = m')) := by
  unfold laws_eqBuf.f
  rw [laws_eqInt64S.eq hl hk]
  simp only [Option.bind_some, decide_eq_true_eq]
  by_cases h1 : a = b
  · by_cases h2 : c = c'
    · by_cases h3 : m = m'
      · simp [h1, h2, h3]
      · simp [h1, h2, h3]
    · simp [h1, h2]
  · simp [h1]
/-- what the sizes' functions take off: the rows, and what they hold -/
def szLL : List (List Int) → Nat
  | [] => 0
  | x :: l => x.length + szLL l
theorem szLL_nil : szLL [] = 0 := rfl
theorem szLL_cons (x : List Int) (l : List (List Int)) : szLL (x :: l) = x.length + szLL l := rfl
theorem szLL_mem {l : List (List Int)} {x : List Int} (h : x ∈ l) : x.length ≤ szLL l := by
  induction l with
  | nil => cases h
  | cons y l ih =>
    rw [szLL_cons]
    rcases List.mem_cons.1 h with rfl | h
    · omega
    · have := ih h; omega
theorem buf_eq (a b : S31) : (a.f0 = b.f0 ∧ a.f1 = b.f1 ∧ a.f2 = b.f2) ↔ a = b := by
  constructor
  · intro e
    rcases a with ⟨p0, p1, p2⟩
    rcases b with ⟨q0, q1, q2⟩
    simp only at e
    obtain ⟨e0, e1, e2⟩ := e
    rw [e0, e1, e2]
  · intro e
    rw [e]
    exact ⟨rfl, rfl, rfl⟩
instance decBuf : DecidableEq S31 := fun a b => decidable_of_iff _ (buf_eq a b)
theorem laws_eqBufS.loop (a b : List (S31)) (hab : a.length = b.length) (hl : a.length ≤ 1048576) (hL : ∀ x ∈ a, x.f0.length ≤ 1048576) (d : Nat) : ∀ (k i : Nat), i ≤ a.length → a.length - i = d → d + 1048577 < k → laws_eqBufS.l0 k a b (i : Int) = some (decide (a.drop i = b.drop i)) := by
  induction d with
  | zero =>
    intro k i hi hd hk
    obtain ⟨k, rfl⟩ : ∃ m, k = m + 1 := ⟨k - 1, by omega⟩
    simp only [laws_eqBufS.l0]
    rw [if_neg (by omega), List.drop_eq_nil_of_le (by omega), List.drop_eq_nil_of_le (by omega)]
    rfl
  | succ d ih =>
    intro k i hi hd hk
    obtain ⟨k, rfl⟩ : ∃ m, k = m + 1 := ⟨k - 1, by omega⟩
    have hlt : i < a.length := by omega
    have hlb : i < b.length := by omega
    have h1 := hL a[i] (List.getElem_mem hlt)
    simp only [laws_eqBufS.l0]
    rw [if_pos (int_lt hlt), if_pos (int_nn i), if_pos (by omega), rdBufB hlt, rdBufB hlb, laws_eqBuf.eq h1 (by omega), wrap_succ (by omega), ih k (i + 1) (by omega) (by omega) (by omega), List.drop_eq_getElem_cons hlt, List.drop_eq_getElem_cons hlb]
    simp only [Option.bind_some, decide_eq_true_eq]
    have hq := buf_eq a[i] b[i]
    by_cases h : a[i] = b[i]
    · rw [if_pos (hq.2 h), h]
      refine congrArg some (decide_eq_decide.2 ⟨fun e => by rw [e], fun e => (List.cons.inj e).2⟩)
    · rw [if_neg (fun e => h (hq.1 e))]
      exact congrArg some (decide_eq_false (fun e => h (List.cons.inj e).1)).symm
theorem laws_eqBufS.eq {a b : List (S31)} {k : Nat} (hl : a.length ≤ 1048576) (hL : ∀ x ∈ a, x.f0.length ≤ 1048576) (hk : 3000000 < k) : laws_eqBufS.f k a b = some (decide (a = b)) := by
  unfold laws_eqBufS.f
  by_cases h : a.length = b.length
  · rw [if_pos (by omega)]
    have := laws_eqBufS.loop a b h hl hL a.length k 0 (by omega) (by omega) (by omega)
    simpa using this
  · rw [if_neg (by omega)]
    refine congrArg some (decide_eq_false (fun e => h (by rw [e]))).symm
theorem spec_l01Point.eq (a : Int) : spec_l01Point.f a = some (isPt a) := by
  simp only [spec_l01Point.f, isPt]
  (repeat' split) <;> (refine some_b ?_; simp only [Bool.not_eq_true', Bool.not_false, decide_eq_true_eq, decide_eq_false_iff_not, Bool.false_eq_true]; first | omega | (rw [false_iff]; omega) | (rw [true_iff]; omega))
theorem spec_PointsRight.loop (l : List Int) (hl : l.length ≤ 300) (d : Nat) : ∀ (k i : Nat), i ≤ l.length → l.length - i = d → d < k → spec_PointsRight.l0 k l (i : Int) = some ((l.drop i).all isPt) := by
  induction d with
  | zero =>
    intro k i hi hd hk
    obtain ⟨k, rfl⟩ : ∃ m, k = m + 1 := ⟨k - 1, by omega⟩
    simp only [spec_PointsRight.l0]
    rw [if_neg (by omega), List.drop_eq_nil_of_le (by omega)]
    rfl
  | succ d ih =>
    intro k i hi hd hk
    obtain ⟨k, rfl⟩ : ∃ m, k = m + 1 := ⟨k - 1, by omega⟩
    have hlt : i < l.length := by omega
    simp only [spec_PointsRight.l0]
    rw [if_pos (int_lt hlt), if_pos (int_nn i), spec_l01Point.eq, wrap_succ (by omega), ih k (i + 1) (by omega) (by omega) (by omega), drop_rd hlt]
    simp only [Option.bind_some, List.all_cons]
    cases isPt (rd l (i : Int)) <;> simp
theorem spec_PointsRight.eq (l : List Int) {k : Nat} (hk : 300 < k) : spec_PointsRight.f k l = some (ptsOK l) := by
  unfold spec_PointsRight.f ptsOK
  by_cases h : l.length ≤ 300
  · rw [if_neg (by omega)]
    have := spec_PointsRight.loop l h l.length k 0 (by omega) (by omega) (by omega)
    simp only [h, decide_true, Bool.true_and]
    simpa using this
  · rw [if_pos (by omega)]
    simp [h]
theorem spec_BufRight.eq (l : List Int) (c m : Int) {k : Nat} (hk : 300 < k) : spec_BufRight.f k l c m = some (bufOK l c m) := by
  unfold spec_BufRight.f bufOK
  rw [spec_PointsRight.eq l hk]
  simp only [Option.bind_some]
  cases ptsOK l
  · simp
  · simp only [if_true, Bool.true_and]
    (repeat' split) <;> (refine some_b ?_; simp only [Bool.and_eq_true, decide_eq_true_eq, Bool.false_eq_true]; first | omega | (rw [false_iff]; omega))
theorem impl_within.eq (a b c : Int) : impl_within.f a b c = some (decide (b ≤ a ∧ a ≤ c)) := by
  unfold impl_within.f
  by_cases h : b ≤ a <;> simp [h]
theorem impl_isPoint.eq (a : Int) : impl_isPoint.f a = some (isPt a) := by
  simp only [impl_isPoint.f, impl_within.eq, Option.bind_some, isPt, decide_eq_true_eq]
  split <;> (refine some_b ?_; simp only [Bool.not_eq_true', decide_eq_true_eq, decide_eq_false_iff_not, Bool.false_eq_true]; first | omega | (rw [false_iff]; omega))
theorem slices_IndexFunc_sint64_int64.loop (l : List Int) (hl : l.length ≤ 300) (d : Nat) : ∀ (k i : Nat), i ≤ l.length → l.length - i = d → d < k → ∃ r : Int, slices_IndexFunc_sint64_int64.l0 k l (l.length : Int) (i : Int) = some r ∧ (0 ≤ r ↔ (l.drop i).all isPt = false) := by
  induction d with
  | zero =>
    intro k i hi hd hk
    obtain ⟨k, rfl⟩ : ∃ m, k = m + 1 := ⟨k - 1, by omega⟩
    refine ⟨-1, ?_, ?_⟩
    · simp only [slices_IndexFunc_sint64_int64.l0]
      rw [if_neg (by omega)]
    · rw [List.drop_eq_nil_of_le (by omega)]
      simp
  | succ d ih =>
    intro k i hi hd hk
    obtain ⟨k, rfl⟩ : ∃ m, k = m + 1 := ⟨k - 1, by omega⟩
    have hlt : i < l.length := by omega
    have hp : impl_PointsRight_1.f (rd l (i : Int)) = some (!isPt (rd l (i : Int))) := by
      unfold impl_PointsRight_1.f
      rw [impl_isPoint.eq]
      rfl
    simp only [slices_IndexFunc_sint64_int64.l0]
    rw [if_pos (int_lt hlt), if_pos (int_nn i), if_pos (int_lt hlt), hp, wrap_succ (by omega), drop_rd hlt]
    simp only [Option.bind_some, List.all_cons]
    cases isPt (rd l (i : Int))
    · exact ⟨i, by simp, by simp⟩
    · simpa using ih k (i + 1) (by omega) (by omega) (by omega)
theorem impl_PointsRight.eq (l : List Int) {k : Nat} (hk : 300 < k) : impl_PointsRight.f k l = some (ptsOK l) := by
  unfold impl_PointsRight.f ptsOK
  by_cases h : l.length ≤ 300
  · rw [if_pos (by omega)]
    obtain ⟨r, h1, h2⟩ := slices_IndexFunc_sint64_int64.loop l h l.length k 0 (by omega) (by omega) (by omega)
    unfold slices_ContainsFunc_sint64_int64.f slices_IndexFunc_sint64_int64.f
    rw [show ((0 : Nat) : Int) = 0 from rfl] at h1
    rw [h1]
    simp only [Option.bind_some, h, decide_true, Bool.true_and]
    rw [List.drop_zero] at h2
    refine some_b ?_
    cases hq : l.all isPt
    · have := h2.2 hq; simp; omega
    · have : ¬ 0 ≤ r := fun h3 => by rw [h2.1 h3] at hq; cases hq
      simp; omega
  · rw [if_neg (by omega)]
    simp [h]
theorem impl_Buf_isPlace.eq (l : List Int) (c m a : Int) : impl_Buf_isPlace.f l c m a = some (decide (0 ≤ a ∧ a ≤ l.length)) := by
  simp only [impl_Buf_isPlace.f, impl_size_int64.f, impl_within.eq, Option.bind_some]
theorem impl_BufRight.eq (l : List Int) (c m : Int) {k : Nat} (hk : 300 < k) : impl_BufRight.f k l c m = some (bufOK l c m) := by
  unfold impl_BufRight.f bufOK
  rw [impl_PointsRight.eq l hk]
  simp only [Option.bind_some, impl_Buf_isPlace.eq]
  cases ptsOK l
  · simp
  · simp only [if_true, Bool.true_and]
    by_cases h : 0 ≤ c ∧ c ≤ (l.length : Int) <;> simp [h]
def bufsOK (l : List S31) : Bool := decide (l.length ≤ 20) && l.all (fun b => bufOK b.f0 b.f1 b.f2)
theorem spec_l05Bufs.loop (l : List S31) (hl : l.length ≤ 20) (d : Nat) : ∀ (k i : Nat), i ≤ l.length → l.length - i = d → d + 301 < k → spec_l05Bufs.l0 k l (i : Int) = some ((l.drop i).all (fun b => bufOK b.f0 b.f1 b.f2)) := by
  induction d with
  | zero =>
    intro k i hi hd hk
    obtain ⟨k, rfl⟩ : ∃ m, k = m + 1 := ⟨k - 1, by omega⟩
    simp only [spec_l05Bufs.l0]
    rw [if_neg (by omega), List.drop_eq_nil_of_le (by omega)]
    rfl
  | succ d ih =>
    intro k i hi hd hk
    obtain ⟨k, rfl⟩ : ∃ m, k = m + 1 := ⟨k - 1, by omega⟩
    have hlt : i < l.length := by omega
    simp only [spec_l05Bufs.l0]
    rw [if_pos (int_lt hlt), if_pos (int_nn i), rdBufB hlt, spec_BufRight.eq _ _ _ (by omega), wrap_succ (by omega), ih k (i + 1) (by omega) (by omega) (by omega), List.drop_eq_getElem_cons hlt]
    simp only [Option.bind_some, List.all_cons]
    cases bufOK l[i].f0 l[i].f1 l[i].f2 <;> simp
theorem spec_l05Bufs.eq {l : List S31} {k : Nat} (hk : 400 < k) : spec_l05Bufs.f k l = some (bufsOK l) := by
  unfold spec_l05Bufs.f bufsOK
  by_cases h : l.length ≤ 20
  · rw [if_neg (by omega)]
    have := spec_l05Bufs.loop l h l.length k 0 (by omega) (by omega) (by omega)
    rw [List.drop_zero] at this
    rw [decide_eq_true h, Bool.true_and]
    exact this
  · rw [if_pos (by omega), decide_eq_false h, Bool.false_and]
theorem slices_IndexFunc_simpl_Buf_impl_Buf.loop (l : List S31) (hl : l.length ≤ 20) (d : Nat) : ∀ (k i : Nat), i ≤ l.length → l.length - i = d → d + 301 < k → ∃ r : Int, slices_IndexFunc_simpl_Buf_impl_Buf.l0 k l (l.length : Int) (i : Int) = some r ∧ (0 ≤ r ↔ (l.drop i).all (fun b => bufOK b.f0 b.f1 b.f2) = false) := by
  induction d with
  | zero =>
    intro k i hi hd hk
    obtain ⟨k, rfl⟩ : ∃ m, k = m + 1 := ⟨k - 1, by omega⟩
    refine ⟨-1, ?_, ?_⟩
    · simp only [slices_IndexFunc_simpl_Buf_impl_Buf.l0]
      rw [if_neg (by omega)]
    · rw [List.drop_eq_nil_of_le (by omega)]
      simp
  | succ d ih =>
    intro k i hi hd hk
    obtain ⟨k, rfl⟩ : ∃ m, k = m + 1 := ⟨k - 1, by omega⟩
    have hlt : i < l.length := by omega
    have hp : impl_areBufs_1.f k l[i].f0 l[i].f1 l[i].f2 = some (!bufOK l[i].f0 l[i].f1 l[i].f2) := by
      unfold impl_areBufs_1.f
      rw [impl_BufRight.eq _ _ _ (by omega)]
      rfl
    simp only [slices_IndexFunc_simpl_Buf_impl_Buf.l0]
    rw [if_pos (int_lt hlt), if_pos (int_nn i), if_pos (int_lt hlt), rdBufB hlt, hp, wrap_succ (by omega), List.drop_eq_getElem_cons hlt]
    simp only [Option.bind_some, List.all_cons]
    cases bufOK l[i].f0 l[i].f1 l[i].f2
    · exact ⟨i, by simp, by simp⟩
    · simpa using ih k (i + 1) (by omega) (by omega) (by omega)
theorem impl_areBufs.eq {l : List S31} {k : Nat} (hk : 400 < k) : impl_areBufs.f k l = some (bufsOK l) := by
  unfold impl_areBufs.f bufsOK
  by_cases h : l.length ≤ 20
  · rw [if_pos (by omega), decide_eq_true h, Bool.true_and]
    obtain ⟨r, h1, h2⟩ := slices_IndexFunc_simpl_Buf_impl_Buf.loop l h l.length k 0 (by omega) (by omega) (by omega)
    unfold slices_ContainsFunc_simpl_Buf_impl_Buf.f slices_IndexFunc_simpl_Buf_impl_Buf.f
    rw [show ((0 : Nat) : Int) = 0 from rfl] at h1
    rw [h1]
    simp only [Option.bind_some]
    rw [List.drop_zero] at h2
    refine some_b ?_
    cases hq : l.all (fun b => bufOK b.f0 b.f1 b.f2)
    · have := h2.2 hq; simp; omega
    · have : ¬ 0 ≤ r := fun h3 => by rw [h2.1 h3] at hq; cases hq
      simp; omega
  · rw [if_neg (by omega), decide_eq_false h, Bool.false_and]
theorem spec_UndoRight.eq (a b : List S31) {k : Nat} (hk : 400 < k) : spec_UndoRight.f k a b = some (bufsOK a && bufsOK b) := by
  unfold spec_UndoRight.f
  rw [spec_l05Bufs.eq hk, spec_l05Bufs.eq hk]
  cases bufsOK a <;> rfl
theorem impl_UndoRight.eq (a b : List S31) {k : Nat} (hk : 400 < k) : impl_UndoRight.f k a b = some (bufsOK a && bufsOK b) := by
  unfold impl_UndoRight.f
  rw [impl_areBufs.eq hk, impl_areBufs.eq hk]
  cases bufsOK a <;> rfl
theorem spec_l01Copy.eq {l : List Int} (h : l.length ≤ 2000000) : spec_l01Copy.f l = some l := by
  unfold spec_l01Copy.f
  simp only [Option.bind_some, List.length_nil, List.nil_append]
  rw [if_pos (by omega)]
theorem slices_Clone_sint64_int64.eq {l : List Int} (h : l.length ≤ 2000000) : slices_Clone_sint64_int64.f l = some l := by
  unfold slices_Clone_sint64_int64.f
  simp only [Option.bind_some, List.length_nil, List.nil_append]
  rw [if_pos (by omega)]
theorem bufsOK_at {l : List S31} (h : bufsOK l = true) : l.length ≤ 20 ∧ ∀ x ∈ l, bufOK x.f0 x.f1 x.f2 = true := by
  unfold bufsOK at h
  simp only [Bool.and_eq_true, decide_eq_true_eq, List.all_eq_true] at h
  exact h
theorem bufsOK_mk {l : List S31} (h0 : l.length ≤ 20) (h1 : ∀ x ∈ l, bufOK x.f0 x.f1 x.f2 = true) : bufsOK l = true := by
  unfold bufsOK
  simp only [Bool.and_eq_true, decide_eq_true_eq, List.all_eq_true]
  exact ⟨h0, h1⟩
theorem spec_l05CopyBufs.loop (l : List S31) (hl : l.length ≤ 20) (hL : ∀ x ∈ l, bufOK x.f0 x.f1 x.f2 = true) (d : Nat) : ∀ (k i : Nat), i ≤ l.length → l.length - i = d → d < k → spec_l05CopyBufs.l0 k l (l.take i) (i : Int) = some l := by
  induction d with
  | zero =>
    intro k i hi hd hk
    obtain ⟨k, rfl⟩ : ∃ m, k = m + 1 := ⟨k - 1, by omega⟩
    simp only [spec_l05CopyBufs.l0]
    rw [if_neg (by omega), List.take_of_length_le (by omega)]
  | succ d ih =>
    intro k i hi hd hk
    obtain ⟨k, rfl⟩ : ∃ m, k = m + 1 := ⟨k - 1, by omega⟩
    have hlt : i < l.length := by omega
    have hx := bufOK_len (hL l[i] (List.getElem_mem hlt))
    simp only [spec_l05CopyBufs.l0]
    rw [if_pos (int_lt hlt), if_pos (int_nn i), rdBufB hlt]
    unfold spec_l02Copy.f
    rw [spec_l01Copy.eq (by omega)]
    simp only [Option.bind_some]
    rw [if_pos (by rw [List.length_take]; omega), wrap_succ (by omega)]
    have e : l.take i ++ [(⟨l[i].f0, l[i].f1, l[i].f2⟩ : S31)] = l.take (i + 1) := (List.take_succ_eq_append_getElem hlt).symm
    rw [e]
    exact ih k (i + 1) (by omega) (by omega) (by omega)
theorem spec_l05CopyBufs.eq {l : List S31} (hl : l.length ≤ 20) (hL : ∀ x ∈ l, bufOK x.f0 x.f1 x.f2 = true) {k : Nat} (hk : 100 < k) : spec_l05CopyBufs.f k l = some l := by
  unfold spec_l05CopyBufs.f
  exact spec_l05CopyBufs.loop l hl hL l.length k 0 (by omega) (by omega) (by omega)
theorem impl_ownBuf.eq {p : List Int} {c m : Int} (hp : p.length ≤ 2000000) : impl_ownBuf.f p c m = some (p, c, m) := by
  unfold impl_ownBuf.f
  rw [slices_Clone_sint64_int64.eq hp]
  rfl
theorem impl_ownBufs.loop (l : List S31) (hl : l.length ≤ 20) (hL : ∀ x ∈ l, bufOK x.f0 x.f1 x.f2 = true) (d : Nat) : ∀ (k i : Nat), i ≤ l.length → l.length - i = d → d < k → impl_ownBufs.l0 k (l.take i) l (l.length : Int) (i : Int) = some l := by
  induction d with
  | zero =>
    intro k i hi hd hk
    obtain ⟨k, rfl⟩ : ∃ m, k = m + 1 := ⟨k - 1, by omega⟩
    simp only [impl_ownBufs.l0]
    rw [if_neg (by omega), List.take_of_length_le (by omega)]
  | succ d ih =>
    intro k i hi hd hk
    obtain ⟨k, rfl⟩ : ∃ m, k = m + 1 := ⟨k - 1, by omega⟩
    have hlt : i < l.length := by omega
    have hx := bufOK_len (hL l[i] (List.getElem_mem hlt))
    simp only [impl_ownBufs.l0]
    rw [if_pos (int_lt hlt), if_pos (int_nn i), if_pos (int_lt hlt), rdBufB hlt, impl_ownBuf.eq (by omega)]
    simp only [Option.bind_some]
    rw [if_pos (by rw [List.length_take]; omega), wrap_succ (by omega)]
    have e : l.take i ++ [(⟨l[i].f0, l[i].f1, l[i].f2⟩ : S31)] = l.take (i + 1) := (List.take_succ_eq_append_getElem hlt).symm
    rw [e]
    exact ih k (i + 1) (by omega) (by omega) (by omega)
theorem impl_ownBufs.eq {l : List S31} (hl : l.length ≤ 20) (hL : ∀ x ∈ l, bufOK x.f0 x.f1 x.f2 = true) {k : Nat} (hk : 100 < k) : impl_ownBufs.f k l = some l := by
  unfold impl_ownBufs.f
  exact impl_ownBufs.loop l hl hL l.length k 0 (by omega) (by omega) (by omega)
def putV (l : List S31) (b : S31) : List S31 := (l ++ [b]).drop (l.length + 1 - 20)
theorem putV_eq {l : List S31} (b : S31) (hl : l.length ≤ 20) : putV l b = l.drop (l.length + 1 - 20) ++ [b] := by
  unfold putV
  rw [List.drop_append_of_le_length (by omega)]
theorem spec_l05Put.eq {l : List S31} (hl : l.length ≤ 20) (hL : ∀ x ∈ l, bufOK x.f0 x.f1 x.f2 = true) {p : List Int} (c m : Int) (hp : p.length ≤ 300) {k : Nat} (hk : 100 < k) : spec_l05Put.f k l p c m = some (putV l ⟨p, c, m⟩) := by
  unfold spec_l05Put.f spec_l02Copy.f
  rw [spec_l05CopyBufs.eq hl hL hk, spec_l01Copy.eq (by omega)]
  simp only [Option.bind_some]
  rw [if_pos (by omega)]
  have hlen : (l ++ [(⟨p, c, m⟩ : S31)]).length = l.length + 1 := by rw [List.length_append]; rfl
  unfold putV
  by_cases h : l.length = 20
  · rw [if_pos (by omega), if_pos (by omega), show l.length + 1 - 20 = 1 by omega]
    rfl
  · rw [if_neg (by omega), show l.length + 1 - 20 = 0 by omega, List.drop_zero]
theorem impl_behindBufs.eq {l : List S31} (hl : l.length ≤ 20) (hL : ∀ x ∈ l, bufOK x.f0 x.f1 x.f2 = true) {p : List Int} (c m : Int) (hp : p.length ≤ 300) {k : Nat} (hk : 100 < k) : impl_behindBufs.f k l p c m = some (putV l ⟨p, c, m⟩) := by
  unfold impl_behindBufs.f
  rw [impl_ownBufs.eq hl hL hk, impl_ownBuf.eq (by omega)]
  simp only [Option.bind_some]
  rw [if_pos (by omega)]
  have hlen : (l ++ [(⟨p, c, m⟩ : S31)]).length = l.length + 1 := by rw [List.length_append]; rfl
  have hm : mx (wrap64 (((l ++ [(⟨p, c, m⟩ : S31)]).length : Int) - 20)) 0 = ((l.length + 1 - 20 : Nat) : Int) := by
    rw [hlen, wrap_in (by omega) (by omega)]
    unfold mx
    omega
  unfold putV
  simp only [hm]
  rw [if_pos (int_nn _), if_pos (by omega), Int.toNat_natCast]
def lastB (P : List S31) : S31 := rd_T31 P ((P.length - 1 : Nat) : Int)
theorem lastB_mem {P : List S31} (h : P.length ≠ 0) : lastB P ∈ P := by
  unfold lastB
  rw [rdBufB (show P.length - 1 < P.length by omega)]
  exact List.getElem_mem _
def ubV (P N : List S31) (l : List Int) (c m : Int) : List S31 × List S31 × List Int × Int × Int × Int :=
  if (bufsOK P && bufsOK N) = true ∧ bufOK l c m = true then (if P.length = 0 then ([], [], [], 0, 0, 4) else (P.take (P.length - 1), putV N ⟨l, c, m⟩, (lastB P).f0, (lastB P).f1, (lastB P).f2, 0)) else ([], [], [], 0, 0, 1)
theorem spec_UndoBack.eq (P N : List S31) (l : List Int) (c m : Int) {k : Nat} (hk : 1000 < k) : spec_UndoBack.f k P N l c m = some (ubV P N l c m) := by
  obtain ⟨k, rfl⟩ : ∃ j, k = j + 1 := ⟨k - 1, by omega⟩
  unfold spec_UndoBack.f ubV
  rw [spec_UndoRight.eq _ _ (by omega)]
  simp only [Option.bind_some]
  by_cases h1 : (bufsOK P && bufsOK N) = true
  · rw [if_pos h1, spec_BufRight.eq _ _ _ (by omega)]
    simp only [Option.bind_some]
    by_cases h2 : bufOK l c m = true
    · obtain ⟨p1, p2⟩ := bufsOK_at (Bool.and_eq_true_iff.1 h1).1
      obtain ⟨n1, n2⟩ := bufsOK_at (Bool.and_eq_true_iff.1 h1).2
      have hb := bufOK_len h2
      rw [if_pos (⟨h1, h2⟩ : (bufsOK P && bufsOK N) = true ∧ bufOK l c m = true), h2, Bool.not_true, spec_UndoBack.j0, if_neg (by decide)]
      by_cases h0 : P.length = 0
      · rw [if_pos (by omega), if_pos h0]
      · rw [if_neg (by omega), if_neg h0]
        simp only [show wrap64 ((P.length : Int) - 1) = ((P.length - 1 : Nat) : Int) by rw [wrap_in (by omega) (by omega)]; omega]
        have hx := bufOK_len (p2 _ (lastB_mem h0))
        rw [if_pos (int_nn _), if_pos (by omega), Int.toNat_natCast, spec_l05CopyBufs.eq (by rw [List.length_take]; omega) (fun x hx => p2 x (List.mem_of_mem_take hx)) (by omega)]
        simp only [Option.bind_some]
        rw [spec_l05Put.eq n1 n2 c m hb (by omega)]
        simp only [Option.bind_some]
        rw [if_pos (by omega)]
        show (spec_l02Copy.f (lastB P).f0 (lastB P).f1 (lastB P).f2).bind _ = _
        unfold spec_l02Copy.f
        rw [spec_l01Copy.eq (by omega)]
        rfl
    · have h3 : bufOK l c m = false := by cases h : bufOK l c m <;> simp_all
      rw [if_neg (fun e => h2 e.2), h3, Bool.not_false, spec_UndoBack.j0, if_pos rfl]
  · rw [if_neg h1, if_neg (fun e => h1 e.1), spec_UndoBack.j0, if_pos rfl]
theorem impl_UndoBack.eq (P N : List S31) (l : List Int) (c m : Int) (hP : P.length ≤ 1048576) {k : Nat} (hk : 1000 < k) : impl_UndoBack.f k P N l c m = some (ubV P N l c m) := by
  obtain ⟨k, rfl⟩ : ∃ j, k = j + 1 := ⟨k - 1, by omega⟩
  unfold impl_UndoBack.f ubV
  rw [impl_UndoRight.eq _ _ (by omega), wrap_in (x := (P.length : Int) - 1) (by omega) (by omega)]
  simp only [Option.bind_some]
  by_cases h1 : (bufsOK P && bufsOK N) = true
  · rw [if_pos h1, impl_BufRight.eq _ _ _ (by omega)]
    simp only [Option.bind_some]
    by_cases h2 : bufOK l c m = true
    · obtain ⟨p1, p2⟩ := bufsOK_at (Bool.and_eq_true_iff.1 h1).1
      obtain ⟨n1, n2⟩ := bufsOK_at (Bool.and_eq_true_iff.1 h1).2
      have hb := bufOK_len h2
      rw [if_pos (⟨h1, h2⟩ : (bufsOK P && bufsOK N) = true ∧ bufOK l c m = true), h2, Bool.not_true, impl_UndoBack.j0, if_neg (by decide)]
      by_cases h0 : P.length = 0
      · rw [if_pos (by omega), if_pos h0]
      · rw [if_neg (by omega), if_neg h0]
        rw [show (P.length : Int) - 1 = ((P.length - 1 : Nat) : Int) by omega]
        have hx := bufOK_len (p2 _ (lastB_mem h0))
        rw [if_pos (int_nn _), if_pos (by omega), Int.toNat_natCast, impl_ownBufs.eq (by rw [List.length_take]; omega) (fun x hx => p2 x (List.mem_of_mem_take hx)) (by omega)]
        simp only [Option.bind_some]
        rw [impl_behindBufs.eq n1 n2 c m hb (by omega)]
        simp only [Option.bind_some]
        rw [if_pos (by omega)]
        show (impl_ownBuf.f (lastB P).f0 (lastB P).f1 (lastB P).f2).bind _ = _
        rw [impl_ownBuf.eq (by omega)]
        rfl
    · have h3 : bufOK l c m = false := by cases h : bufOK l c m <;> simp_all
      rw [if_neg (fun e => h2 e.2), h3, Bool.not_false, impl_UndoBack.j0, if_pos rfl]
  · rw [if_neg h1, if_neg (fun e => h1 e.1), impl_UndoBack.j0, if_pos rfl]
theorem putV_ok {N : List S31} {b : S31} (h : bufsOK N = true) (hb : bufOK b.f0 b.f1 b.f2 = true) : bufsOK (putV N b) = true := by
  obtain ⟨n1, n2⟩ := bufsOK_at h
  rw [putV_eq b n1]
  refine bufsOK_mk (by rw [List.length_append, List.length_drop, List.length_singleton]; omega) (fun x hx => ?_)
  rcases List.mem_append.1 hx with hx | hx
  · exact n2 x (List.mem_of_mem_drop hx)
  · rw [List.mem_singleton.1 hx]; exact hb
theorem take_ok {P : List S31} (n : Nat) (h : bufsOK P = true) : bufsOK (P.take n) = true := by
  obtain ⟨n1, n2⟩ := bufsOK_at h
  exact bufsOK_mk (by rw [List.length_take]; omega) (fun x hx => n2 x (List.mem_of_mem_take hx))
theorem laws_markBuf.eq {l : List Int} {c m a : Int} {k : Nat} (hl : l.length ≤ 1048576) (h0 : 0 ≤ a) (h1 : a ≤ 4000000000) (hk : l.length < k) : laws_markBuf.f k l c m a = some (a + (l.length : Int), mkL l.length a) := by
  unfold laws_markBuf.f
  rw [laws_markInt64S.eq hl h0 h1 hk]
  rfl
theorem laws_heldBuf.eq {n : Nat} {c m a : Int} {k : Nat} (hl : n ≤ 1048576) (h0 : 0 ≤ a) (h1 : a ≤ 4000000000) (hk : n < k) : laws_heldBuf.f k (mkL n a) c m a = some (a + (n : Int)) := by
  unfold laws_heldBuf.f
  rw [laws_heldInt64S.eq hl h0 h1 hk]
  simp only [Option.bind_some]
  rw [if_neg (by omega)]
def szW : List S31 → Nat
  | [] => 0
  | x :: l => x.f0.length + 2 + szW l
theorem szW_nil : szW [] = 0 := rfl
theorem szW_cons (x : S31) (l : List S31) : szW (x :: l) = x.f0.length + 2 + szW l := rfl
theorem szW_le {n : Nat} {l : List S31} (h : ∀ x ∈ l, x.f0.length ≤ n) : szW l ≤ l.length * (n + 2) := by
  induction l with
  | nil => exact Nat.zero_le _
  | cons x l ih =>
    have h1 := h x (List.mem_cons_self ..)
    have h2 := ih (fun y hy => h y (List.mem_cons_of_mem _ hy))
    rw [szW_cons, List.length_cons, Nat.succ_mul]
    omega
theorem szW_ok {l : List S31} (h : bufsOK l = true) : szW l ≤ 6040 := by
  obtain ⟨h0, h1⟩ := bufsOK_at h
  have h2 : szW l ≤ l.length * 302 := szW_le (fun x hx => bufOK_len (h1 x hx))
  omega
/-- the Bufs of marks -/
def mkW : List S31 → Int → List S31
  | [], _ => []
  | x :: l, a => ⟨mkL x.f0.length a, a + (x.f0.length : Int), a + (x.f0.length : Int) + 1⟩ :: mkW l (a + (x.f0.length : Int) + 1 + 1)
theorem mkW_nil (a : Int) : mkW [] a = [] := rfl
theorem mkW_cons (x : S31) (l : List S31) (a : Int) : mkW (x :: l) a = ⟨mkL x.f0.length a, a + (x.f0.length : Int), a + (x.f0.length : Int) + 1⟩ :: mkW l (a + (x.f0.length : Int) + 1 + 1) := rfl
theorem laws_markBufS.loop (l : List S31) : ∀ (pre : List S31) (k : Nat) (a : Int), pre.length + l.length ≤ 1048576 → szW l ≤ 4000000 → (∀ x ∈ l, x.f0.length ≤ 1048576) → 0 ≤ a → a + (szW l : Int) ≤ 2000000000 → l.length + 1048577 < k → laws_markBufS.l0 k (pre ++ l) a (pre.length : Int) = some (a + (szW l : Int), pre ++ mkW l a) := by
  induction l with
  | nil =>
    intro pre k a h1 h2 hL h3 h4 hk
    obtain ⟨k, rfl⟩ : ∃ m, k = m + 1 := ⟨k - 1, by omega⟩
    simp only [laws_markBufS.l0]
    rw [if_neg (by simp), mkW_nil, szW_nil]
    simp
  | cons x l ih =>
    intro pre k a h1 h2 hL h3 h4 hk
    obtain ⟨k, rfl⟩ : ∃ m, k = m + 1 := ⟨k - 1, by omega⟩
    have hx := hL x (List.mem_cons_self ..)
    rw [szW_cons] at h2 h4
    rw [List.length_cons] at h1 hk
    simp only [laws_markBufS.l0]
    rw [if_pos (by rw [List.length_append, List.length_cons]; omega), if_pos (by omega)]
    have e1 : (pre ++ x :: l).getD ((pre.length : Int)).toNat z31 = x := by
      rw [Int.toNat_natCast, List.getD_eq_getElem?_getD, List.getElem?_append_right (Nat.le_refl _), Nat.sub_self]
      rfl
    rw [e1, laws_markInt64S.eq hx h3 (by omega) (by omega)]
    simp only [Option.bind_some]
    rw [wrap_in (x := a + (x.f0.length : Int) + 1) (by omega) (by omega), wrap_in (x := a + (x.f0.length : Int) + 1 + 1) (by omega) (by omega)]
    have e2 : (pre ++ x :: l).set ((pre.length : Int)).toNat ⟨mkL x.f0.length a, a + (x.f0.length : Int), a + (x.f0.length : Int) + 1⟩ = (pre ++ [⟨mkL x.f0.length a, a + (x.f0.length : Int), a + (x.f0.length : Int) + 1⟩]) ++ l := by
      rw [Int.toNat_natCast, List.set_append_right _ _ (Nat.le_refl _), Nat.sub_self, List.set_cons_zero, List.append_assoc]
      rfl
    rw [e2, wrap_succ (by omega)]
    have := ih (pre ++ [⟨mkL x.f0.length a, a + (x.f0.length : Int), a + (x.f0.length : Int) + 1⟩]) k (a + (x.f0.length : Int) + 1 + 1) (by rw [List.length_append, List.length_singleton]; omega) (by omega) (fun y hy => hL y (List.mem_cons_of_mem _ hy)) (by omega) (by omega) (by omega)
    rw [List.length_append, List.length_singleton] at this
    rw [this, mkW_cons, szW_cons, List.append_assoc]
    refine congrArg some ?_
    refine Prod.ext ?_ rfl
    show a + (x.f0.length : Int) + 1 + 1 + (szW l : Int) = a + ((x.f0.length + 2 + szW l : Nat) : Int)
    omega
theorem laws_markBufS.eq {l : List S31} {a : Int} {k : Nat} (h : l.length ≤ 1048576) (h2 : szW l ≤ 4000000) (hL : ∀ x ∈ l, x.f0.length ≤ 1048576) (h0 : 0 ≤ a) (h1 : a ≤ 1000000000) (hk : 3000000 < k) : laws_markBufS.f k l a = some (a + (szW l : Int), mkW l a) := by
  have := laws_markBufS.loop l [] k a (by simp only [List.length_nil]; omega) h2 hL h0 (by omega) (by omega)
  exact this
theorem laws_heldBufS.loop (l : List S31) : ∀ (pre : List S31) (k : Nat) (a : Int), pre.length + l.length ≤ 1048576 → szW l ≤ 4000000 → (∀ x ∈ l, x.f0.length ≤ 1048576) → 0 ≤ a → a + (szW l : Int) ≤ 2000000000 → l.length + 1048577 < k → laws_heldBufS.l0 k (pre ++ mkW l a) a (pre.length : Int) = some (a + (szW l : Int)) := by
  induction l with
  | nil =>
    intro pre k a h1 h2 hL h3 h4 hk
    obtain ⟨k, rfl⟩ : ∃ m, k = m + 1 := ⟨k - 1, by omega⟩
    simp only [laws_heldBufS.l0]
    rw [if_neg (by rw [mkW_nil]; simp), szW_nil]
    simp
  | cons x l ih =>
    intro pre k a h1 h2 hL h3 h4 hk
    obtain ⟨k, rfl⟩ : ∃ m, k = m + 1 := ⟨k - 1, by omega⟩
    have hx := hL x (List.mem_cons_self ..)
    rw [szW_cons] at h2 h4
    rw [List.length_cons] at h1 hk
    simp only [laws_heldBufS.l0]
    rw [mkW_cons, if_pos (by rw [List.length_append, List.length_cons]; omega), if_pos (by omega)]
    have e1 : rd_T31 (pre ++ (⟨mkL x.f0.length a, a + (x.f0.length : Int), a + (x.f0.length : Int) + 1⟩ : S31) :: mkW l (a + (x.f0.length : Int) + 1 + 1)) (pre.length : Int) = ⟨mkL x.f0.length a, a + (x.f0.length : Int), a + (x.f0.length : Int) + 1⟩ := by
      unfold rd_T31
      rw [Int.toNat_natCast, List.getD_eq_getElem?_getD, List.getElem?_append_right (Nat.le_refl _), Nat.sub_self]
      rfl
    rw [e1, laws_heldInt64S.eq hx h3 (by omega) (by omega)]
    simp only [Option.bind_some]
    rw [wrap_in (x := a + (x.f0.length : Int) + 1) (by omega) (by omega), wrap_in (x := a + (x.f0.length : Int) + 1 + 1) (by omega) (by omega), if_neg (by omega), if_pos trivial, if_pos rfl, wrap_succ (by omega)]
    have := ih (pre ++ [⟨mkL x.f0.length a, a + (x.f0.length : Int), a + (x.f0.length : Int) + 1⟩]) k (a + (x.f0.length : Int) + 1 + 1) (by rw [List.length_append, List.length_singleton]; omega) (by omega) (fun y hy => hL y (List.mem_cons_of_mem _ hy)) (by omega) (by omega) (by omega)
    rw [List.length_append, List.length_singleton, List.append_assoc] at this
    refine Eq.trans this ?_
    rw [szW_cons]
    refine congrArg some ?_
    omega
theorem laws_heldBufS.eq {l : List S31} {a : Int} {k : Nat} (h : l.length ≤ 1048576) (h2 : szW l ≤ 4000000) (hL : ∀ x ∈ l, x.f0.length ≤ 1048576) (h0 : 0 ≤ a) (h1 : a ≤ 1000000000) (hk : 3000000 < k) : laws_heldBufS.f k (mkW l a) a = some (a + (szW l : Int)) := by
  have := laws_heldBufS.loop l [] k a (by simp only [List.length_nil]; omega) h2 hL h0 (by omega) (by omega)
  exact this
theorem bufsOK_len {l : List S31} (h : bufsOK l = true) : l.length ≤ 1048576 ∧ szW l ≤ 4000000 ∧ ∀ x ∈ l, x.f0.length ≤ 1048576 := by
  have h2 := szW_ok h
  obtain ⟨h0, h1⟩ := bufsOK_at h
  exact ⟨by omega, by omega, fun x hx => by have := bufOK_len (h1 x hx); omega⟩
theorem laws_markUndo.eq {a b : List S31} {c : Int} {k : Nat} (ha : a.length ≤ 1048576 ∧ szW a ≤ 4000000 ∧ ∀ x ∈ a, x.f0.length ≤ 1048576) (hb : b.length ≤ 1048576 ∧ szW b ≤ 4000000 ∧ ∀ x ∈ b, x.f0.length ≤ 1048576) (h0 : 0 ≤ c) (h1 : c ≤ 100000000) (hk : 3000000 < k) : laws_markUndo.f k a b c = some (c + (szW a : Int) + (szW b : Int), mkW a c, mkW b (c + (szW a : Int))) := by
  unfold laws_markUndo.f
  rw [laws_markBufS.eq ha.1 ha.2.1 ha.2.2 h0 (by omega) hk, Option.bind_some]
  (try dsimp only)
  rw [laws_markBufS.eq hb.1 hb.2.1 hb.2.2 (by omega) (by omega) hk, Option.bind_some]
theorem laws_heldUndo.eq {a b : List S31} {c : Int} {k : Nat} (ha : a.length ≤ 1048576 ∧ szW a ≤ 4000000 ∧ ∀ x ∈ a, x.f0.length ≤ 1048576) (hb : b.length ≤ 1048576 ∧ szW b ≤ 4000000 ∧ ∀ x ∈ b, x.f0.length ≤ 1048576) (h0 : 0 ≤ c) (h1 : c ≤ 100000000) (hk : 3000000 < k) : laws_heldUndo.f k (mkW a c) (mkW b (c + (szW a : Int))) c = some (c + (szW a : Int) + (szW b : Int)) := by
  unfold laws_heldUndo.f
  rw [laws_heldBufS.eq ha.1 ha.2.1 ha.2.2 h0 (by omega) hk, Option.bind_some, if_neg (by omega), laws_heldBufS.eq hb.1 hb.2.1 hb.2.2 (by omega) (by omega) hk, Option.bind_some, if_neg (by omega)]
theorem laws_eqUndo.same {a b : List S31} {k : Nat} (ha : a.length ≤ 1048576 ∧ szW a ≤ 4000000 ∧ ∀ x ∈ a, x.f0.length ≤ 1048576) (hb : b.length ≤ 1048576 ∧ szW b ≤ 4000000 ∧ ∀ x ∈ b, x.f0.length ≤ 1048576) (hk : 3000000 < k) : laws_eqUndo.f k a b a b = some true := by
  unfold laws_eqUndo.f
  rw [laws_eqBufS.eq ha.1 ha.2.2 hk, Option.bind_some, if_pos (decide_eq_true rfl), laws_eqBufS.eq hb.1 hb.2.2 hk, Option.bind_some, if_pos (decide_eq_true rfl)]
theorem laws_eqUndoOut.same {a b : List S31} {p : List Int} {c d r : Int} {k : Nat} (ha : bufsOK a = true) (hb : bufsOK b = true) (hp : p.length ≤ 300) (hk : 3000000 < k) : laws_eqUndoOut.f k a b p c d r a b p c d r = some true := by
  unfold laws_eqUndoOut.f
  rw [laws_eqUndo.same (bufsOK_len ha) (bufsOK_len hb) hk, Option.bind_some, if_pos rfl, laws_eqBuf.eq (by omega) (by omega), Option.bind_some, if_pos (decide_eq_true ⟨rfl, rfl, rfl⟩), if_pos rfl]
theorem laws_markUndoOut.one {a b : List S31} {p : List Int} {c d r : Int} {k : Nat} (ha : bufsOK a = true) (hb : bufsOK b = true) (hp : p.length ≤ 300) (hk : 3000000 < k) : laws_markUndoOut.f k a b p c d r 1 = some (1 + (szW a : Int) + (szW b : Int) + (p.length : Int), mkW a 1, mkW b (1 + (szW a : Int)), mkL p.length (1 + (szW a : Int) + (szW b : Int))) := by
  have h1 := szW_ok ha
  have h2 := szW_ok hb
  unfold laws_markUndoOut.f
  rw [laws_markUndo.eq (bufsOK_len ha) (bufsOK_len hb) (by omega) (by omega) hk, Option.bind_some]
  (try dsimp only)
  rw [laws_markBuf.eq (by omega) (by omega) (by omega) (by omega), Option.bind_some]
theorem laws_heldUndoOut.one {a b : List S31} {p : List Int} {c d r : Int} {k : Nat} (ha : bufsOK a = true) (hb : bufsOK b = true) (hp : p.length ≤ 300) (hk : 3000000 < k) : laws_heldUndoOut.f k (mkW a 1) (mkW b (1 + (szW a : Int))) (mkL p.length (1 + (szW a : Int) + (szW b : Int))) c d r 1 = some (1 + (szW a : Int) + (szW b : Int) + (p.length : Int)) := by
  have h1 := szW_ok ha
  have h2 := szW_ok hb
  unfold laws_heldUndoOut.f
  rw [laws_heldUndo.eq (bufsOK_len ha) (bufsOK_len hb) (by omega) (by omega) hk, Option.bind_some, if_neg (by omega), laws_heldBuf.eq (by omega) (by omega) (by omega) (by omega), Option.bind_some, if_neg (by omega)]
theorem rdLL {l : List (List Int)} {i : Nat} (h : i < l.length) : rd_L1 l (i : Int) = l[i] := by
  unfold rd_L1
  rw [Int.toNat_natCast, List.getD_eq_getElem?_getD, List.getElem?_eq_getElem h]
  rfl
theorem laws_toInt64SS.loop (l : List (List Int)) (hl : l.length ≤ 1048576) (K : Nat) (hL : ∀ x ∈ l, x.length ≤ 1048576 ∧ x.length < K) (d : Nat) : ∀ (k i : Nat), i ≤ l.length → l.length - i = d → d + K < k → laws_toInt64SS.l0 k l (l.take i ++ List.replicate (l.length - i) []) (i : Int) = some l := by
  induction d with
  | zero =>
    intro k i hi hd hk
    obtain ⟨k, rfl⟩ : ∃ m, k = m + 1 := ⟨k - 1, by omega⟩
    obtain rfl : i = l.length := by omega
    simp only [laws_toInt64SS.l0]
    rw [if_neg (by omega)]
    simp
  | succ d ih =>
    intro k i hi hd hk
    obtain ⟨k, rfl⟩ : ∃ m, k = m + 1 := ⟨k - 1, by omega⟩
    have hlt : i < l.length := by omega
    obtain ⟨h1, h2⟩ := hL l[i] (List.getElem_mem hlt)
    simp only [laws_toInt64SS.l0]
    rw [if_pos (int_lt hlt), if_pos (int_nn i), rdLL hlt, laws_toInt64S.eq h1 (by omega)]
    simp only [Option.bind_some]
    rw [if_pos (by simp; omega), wrap_succ (by omega), Int.toNat_natCast]
    have hs : (l.take i ++ List.replicate (l.length - i) []).set i l[i] = l.take (i + 1) ++ List.replicate (l.length - (i + 1)) [] := by
      have h1 : (l.take i).length = i := by simp; omega
      rw [List.set_append_right _ _ (by omega), h1, Nat.sub_self, show l.length - i = (l.length - (i + 1)) + 1 by omega, List.replicate_succ, List.set_cons_zero, List.take_succ_eq_append_getElem hlt, List.append_assoc]
      rfl
    rw [hs]
    exact ih k (i + 1) (by omega) (by omega) (by omega)
theorem laws_toInt64SS.eq {l : List (List Int)} {k : Nat} (hl : l.length ≤ 1048576) (K : Nat) (hL : ∀ x ∈ l, x.length ≤ 1048576 ∧ x.length < K) (hk : l.length + K < k) : laws_toInt64SS.f k l = some l := by
  unfold laws_toInt64SS.f
  rw [if_pos (by omega), if_pos (by omega), Int.toNat_natCast]
  have := laws_toInt64SS.loop l hl K hL l.length k 0 (by omega) (by omega) hk
  simpa using this
theorem laws_szInt64SS.loop (l : List (List Int)) (hl : l.length ≤ 1048576) (hL : ∀ x ∈ l, x.length ≤ 9223372036854775807) (d : Nat) : ∀ (k i : Nat) (a : Int), 0 ≤ a → a ≤ 1048576 → i ≤ l.length → l.length - i = d → d < k → laws_szInt64SS.l0 k l a (i : Int) = some (if a < (szLL (l.drop i) : Int) then -1 else a - (szLL (l.drop i) : Int)) := by
  induction d with
  | zero =>
    intro k i a h0 h1 hi hd hk
    obtain ⟨k, rfl⟩ : ∃ m, k = m + 1 := ⟨k - 1, by omega⟩
    simp only [laws_szInt64SS.l0]
    rw [if_neg (by omega), List.drop_eq_nil_of_le (by omega), szLL_nil, if_neg (by omega)]
    simp
  | succ d ih =>
    intro k i a h0 h1 hi hd hk
    obtain ⟨k, rfl⟩ : ∃ m, k = m + 1 := ⟨k - 1, by omega⟩
    have hlt : i < l.length := by omega
    have hx := hL l[i] (List.getElem_mem hlt)
    simp only [laws_szInt64SS.l0]
    rw [if_pos (int_lt hlt), if_pos (int_nn i), rdLL hlt, laws_szInt64S.eq h0 h1 hx]
    simp only [Option.bind_some]
    rw [List.drop_eq_getElem_cons hlt, szLL_cons]
    by_cases h : a < (l[i].length : Int)
    · rw [if_pos h, if_pos (by omega), if_pos (by omega)]
    · rw [if_neg h, if_neg (by omega), wrap_succ (by omega), ih k (i + 1) _ (by omega) (by omega) (by omega) (by omega) (by omega)]
      by_cases h2 : a - (l[i].length : Int) < (szLL (l.drop (i + 1)) : Int)
      · rw [if_pos h2, if_pos (by omega)]
      · rw [if_neg h2, if_neg (by omega)]
        refine congrArg some ?_
        omega
theorem laws_szInt64SS.eq {l : List (List Int)} {a : Int} {k : Nat} (h0 : 0 ≤ a) (h1 : a ≤ 1048576) (hl : l.length ≤ 9223372036854775807) (hL : ∀ x ∈ l, x.length ≤ 9223372036854775807) (hk : 1048577 < k) : laws_szInt64SS.f k l a = some (if a < ((l.length + szLL l : Nat) : Int) then -1 else a - ((l.length + szLL l : Nat) : Int)) := by
  unfold laws_szInt64SS.f
  rw [wrap_in (by omega) (by omega)]
  by_cases h : a < (l.length : Int)
  · rw [if_pos (by omega), if_pos (by omega)]
  · rw [if_neg (by omega)]
    have := laws_szInt64SS.loop l (by omega) hL l.length k 0 (a - (l.length : Int)) (by omega) (by omega) (by omega) (by omega) (by omega)
    rw [List.drop_zero] at this
    refine (show _ = _ from this).trans ?_
    by_cases h2 : a - (l.length : Int) < (szLL l : Int)
    · rw [if_pos h2, if_pos (by omega)]
    · rw [if_neg h2, if_neg (by omega)]
      refine congrArg some ?_
      omega
theorem laws_eqInt64SS.loop (a b : List (List Int)) (hab : a.length = b.length) (hl : a.length ≤ 1048576) (K : Nat) (hL : ∀ x ∈ a, x.length ≤ 1048576 ∧ x.length < K) (d : Nat) : ∀ (k i : Nat), i ≤ a.length → a.length - i = d → d + K < k → laws_eqInt64SS.l0 k a b (i : Int) = some (decide (a.drop i = b.drop i)) := by
  induction d with
  | zero =>
    intro k i hi hd hk
    obtain ⟨k, rfl⟩ : ∃ m, k = m + 1 := ⟨k - 1, by omega⟩
    simp only [laws_eqInt64SS.l0]
    rw [if_neg (by omega), List.drop_eq_nil_of_le (by omega), List.drop_eq_nil_of_le (by omega)]
    rfl
  | succ d ih =>
    intro k i hi hd hk
    obtain ⟨k, rfl⟩ : ∃ m, k = m + 1 := ⟨k - 1, by omega⟩
    have hlt : i < a.length := by omega
    have hlb : i < b.length := by omega
    obtain ⟨h1, h2⟩ := hL a[i] (List.getElem_mem hlt)
    simp only [laws_eqInt64SS.l0]
    rw [if_pos (int_lt hlt), if_pos (int_nn i), if_pos (by omega), rdLL hlt, rdLL hlb, laws_eqInt64S.eq h1 (by omega), wrap_succ (by omega), ih k (i + 1) (by omega) (by omega) (by omega), List.drop_eq_getElem_cons hlt, List.drop_eq_getElem_cons hlb]
    simp only [Option.bind_some, decide_eq_true_eq]
    by_cases h : a[i] = b[i]
    · rw [if_pos h, h]
      refine congrArg some (decide_eq_decide.2 ⟨fun e => by rw [e], fun e => (List.cons.inj e).2⟩)
    · rw [if_neg h]
      exact congrArg some (decide_eq_false (fun e => h (List.cons.inj e).1)).symm
theorem laws_eqInt64SS.eq {a b : List (List Int)} {k : Nat} (hl : a.length ≤ 1048576) (K : Nat) (hL : ∀ x ∈ a, x.length ≤ 1048576 ∧ x.length < K) (hk : a.length + K < k) : laws_eqInt64SS.f k a b = some (decide (a = b)) := by
  unfold laws_eqInt64SS.f
  by_cases h : a.length = b.length
  · rw [if_pos (by omega)]
    have := laws_eqInt64SS.loop a b h hl K hL a.length k 0 (by omega) (by omega) hk
    simpa using this
  · rw [if_neg (by omega)]
    refine congrArg some (decide_eq_false (fun e => h (by rw [e]))).symm
/-- the rows of marks -/
def mkLL : List (List Int) → Int → List (List Int)
  | [], _ => []
  | x :: l, a => mkL x.length a :: mkLL l (a + (x.length : Int))
theorem mkLL_nil (a : Int) : mkLL [] a = [] := rfl
theorem mkLL_cons (x : List Int) (l : List (List Int)) (a : Int) : mkLL (x :: l) a = mkL x.length a :: mkLL l (a + (x.length : Int)) := rfl
theorem laws_markInt64SS.loop (l : List (List Int)) : ∀ (pre : List (List Int)) (k : Nat) (a : Int), pre.length + l.length ≤ 1048576 → szLL l ≤ 1048576 → 0 ≤ a → a + (szLL l : Int) ≤ 4000000000 → l.length + 1048577 < k → laws_markInt64SS.l0 k (pre ++ l) a (pre.length : Int) = some (a + (szLL l : Int), pre ++ mkLL l a) := by
  induction l with
  | nil =>
    intro pre k a h1 h2 h3 h4 hk
    obtain ⟨k, rfl⟩ : ∃ m, k = m + 1 := ⟨k - 1, by omega⟩
    simp only [laws_markInt64SS.l0]
    rw [if_neg (by simp), mkLL_nil, szLL_nil]
    simp
  | cons x l ih =>
    intro pre k a h1 h2 h3 h4 hk
    obtain ⟨k, rfl⟩ : ∃ m, k = m + 1 := ⟨k - 1, by omega⟩
    rw [szLL_cons] at h2 h4
    rw [List.length_cons] at h1 hk
    simp only [laws_markInt64SS.l0]
    rw [if_pos (by rw [List.length_append, List.length_cons]; omega), if_pos (by omega)]
    have e1 : (pre ++ x :: l).getD ((pre.length : Int)).toNat [] = x := by
      rw [Int.toNat_natCast, List.getD_eq_getElem?_getD, List.getElem?_append_right (Nat.le_refl _), Nat.sub_self]
      rfl
    rw [e1, laws_markInt64S.eq (by omega) h3 (by omega) (by omega)]
    simp only [Option.bind_some]
    have e2 : (pre ++ x :: l).set ((pre.length : Int)).toNat (mkL x.length a) = (pre ++ [mkL x.length a]) ++ l := by
      rw [Int.toNat_natCast, List.set_append_right _ _ (Nat.le_refl _), Nat.sub_self, List.set_cons_zero, List.append_assoc]
      rfl
    rw [e2, wrap_succ (by omega)]
    have := ih (pre ++ [mkL x.length a]) k (a + (x.length : Int)) (by rw [List.length_append, List.length_singleton]; omega) (by omega) (by omega) (by omega) (by omega)
    rw [List.length_append, List.length_singleton] at this
    rw [this, mkLL_cons, szLL_cons, List.append_assoc]
    refine congrArg some ?_
    refine Prod.ext ?_ rfl
    show a + (x.length : Int) + (szLL l : Int) = a + ((x.length + szLL l : Nat) : Int)
    omega
theorem laws_markInt64SS.eq {l : List (List Int)} {a : Int} {k : Nat} (h : l.length + szLL l ≤ 1048576) (h0 : 0 ≤ a) (h1 : a ≤ 2000000000) (hk : 3000000 < k) : laws_markInt64SS.f k l a = some (a + (szLL l : Int), mkLL l a) := by
  have := laws_markInt64SS.loop l [] k a (by simp only [List.length_nil]; omega) (by omega) h0 (by omega) (by omega)
  exact this
theorem spec_l05CopyBufs.loopB (l : List S31) (hl : l.length ≤ 1048576) (hL : ∀ x ∈ l, x.f0.length ≤ 1048576) (d : Nat) : ∀ (k i : Nat), i ≤ l.length → l.length - i = d → d < k → spec_l05CopyBufs.l0 k l (l.take i) (i : Int) = some l := by
  induction d with
  | zero =>
    intro k i hi hd hk
    obtain ⟨k, rfl⟩ : ∃ m, k = m + 1 := ⟨k - 1, by omega⟩
    simp only [spec_l05CopyBufs.l0]
    rw [if_neg (by omega), List.take_of_length_le (by omega)]
  | succ d ih =>
    intro k i hi hd hk
    obtain ⟨k, rfl⟩ : ∃ m, k = m + 1 := ⟨k - 1, by omega⟩
    have hlt : i < l.length := by omega
    have hx := hL l[i] (List.getElem_mem hlt)
    simp only [spec_l05CopyBufs.l0]
    rw [if_pos (int_lt hlt), if_pos (int_nn i), rdBufB hlt]
    unfold spec_l02Copy.f
    rw [spec_l01Copy.eq (by omega)]
    simp only [Option.bind_some]
    rw [if_pos (by rw [List.length_take]; omega), wrap_succ (by omega)]
    have e : l.take i ++ [(⟨l[i].f0, l[i].f1, l[i].f2⟩ : S31)] = l.take (i + 1) := (List.take_succ_eq_append_getElem hlt).symm
    rw [e]
    exact ih k (i + 1) (by omega) (by omega) (by omega)
theorem spec_l05CopyBufs.big {l : List S31} (h : l.length ≤ 1048576 ∧ szW l ≤ 4000000 ∧ ∀ x ∈ l, x.f0.length ≤ 1048576) {k : Nat} (hk : 2000000 < k) : spec_l05CopyBufs.f k l = some l := by
  unfold spec_l05CopyBufs.f
  exact spec_l05CopyBufs.loopB l h.1 h.2.2 l.length k 0 (by omega) (by omega) (by omega)
theorem impl_ownBufs.loopB (l : List S31) (hl : l.length ≤ 1048576) (hL : ∀ x ∈ l, x.f0.length ≤ 1048576) (d : Nat) : ∀ (k i : Nat), i ≤ l.length → l.length - i = d → d < k → impl_ownBufs.l0 k (l.take i) l (l.length : Int) (i : Int) = some l := by
  induction d with
  | zero =>
    intro k i hi hd hk
    obtain ⟨k, rfl⟩ : ∃ m, k = m + 1 := ⟨k - 1, by omega⟩
    simp only [impl_ownBufs.l0]
    rw [if_neg (by omega), List.take_of_length_le (by omega)]
  | succ d ih =>
    intro k i hi hd hk
    obtain ⟨k, rfl⟩ : ∃ m, k = m + 1 := ⟨k - 1, by omega⟩
    have hlt : i < l.length := by omega
    have hx := hL l[i] (List.getElem_mem hlt)
    simp only [impl_ownBufs.l0]
    rw [if_pos (int_lt hlt), if_pos (int_nn i), if_pos (int_lt hlt), rdBufB hlt, impl_ownBuf.eq (by omega)]
    simp only [Option.bind_some]
    rw [if_pos (by rw [List.length_take]; omega), wrap_succ (by omega)]
    have e : l.take i ++ [(⟨l[i].f0, l[i].f1, l[i].f2⟩ : S31)] = l.take (i + 1) := (List.take_succ_eq_append_getElem hlt).symm
    rw [e]
    exact ih k (i + 1) (by omega) (by omega) (by omega)
theorem impl_ownBufs.big {l : List S31} (h : l.length ≤ 1048576 ∧ szW l ≤ 4000000 ∧ ∀ x ∈ l, x.f0.length ≤ 1048576) {k : Nat} (hk : 2000000 < k) : impl_ownBufs.f k l = some l := by
  unfold impl_ownBufs.f
  exact impl_ownBufs.loopB l h.1 h.2.2 l.length k 0 (by omega) (by omega) (by omega)
def unV (P N : List S31) (l : List Int) (c m : Int) : List S31 × List S31 :=
  if (bufsOK P && bufsOK N) = true ∧ bufOK l c m = true then (putV P ⟨l, c, m⟩, []) else (P, N)
theorem spec_UndoNote.eq {P N : List S31} (l : List Int) (c m : Int) (hP : P.length ≤ 1048576 ∧ szW P ≤ 4000000 ∧ ∀ x ∈ P, x.f0.length ≤ 1048576) (hN : N.length ≤ 1048576 ∧ szW N ≤ 4000000 ∧ ∀ x ∈ N, x.f0.length ≤ 1048576) {k : Nat} (hk : 3000000 < k) : spec_UndoNote.f k P N l c m = some (unV P N l c m) := by
  obtain ⟨k, rfl⟩ : ∃ j, k = j + 1 := ⟨k - 1, by omega⟩
  have no : spec_UndoNote.j0 (k + 1) true P N l c m = some (P, N) := by
    rw [spec_UndoNote.j0, if_pos rfl]
    unfold spec_l05Copy.f
    rw [spec_l05CopyBufs.big hP (by omega), spec_l05CopyBufs.big hN (by omega)]
    rfl
  unfold spec_UndoNote.f unV
  rw [spec_UndoRight.eq _ _ (by omega)]
  simp only [Option.bind_some]
  by_cases h1 : (bufsOK P && bufsOK N) = true
  · rw [if_pos h1, spec_BufRight.eq _ _ _ (by omega)]
    simp only [Option.bind_some]
    by_cases h2 : bufOK l c m = true
    · obtain ⟨p1, p2⟩ := bufsOK_at (Bool.and_eq_true_iff.1 h1).1
      have hb := bufOK_len h2
      rw [if_pos (⟨h1, h2⟩ : (bufsOK P && bufsOK N) = true ∧ bufOK l c m = true), h2, Bool.not_true, spec_UndoNote.j0, if_neg (by decide), spec_l05Put.eq p1 p2 c m hb (by omega)]
      rfl
    · have h3 : bufOK l c m = false := by cases h : bufOK l c m <;> simp_all
      rw [if_neg (fun e => h2 e.2), h3, Bool.not_false, no]
  · rw [if_neg h1, if_neg (fun e => h1 e.1), no]
theorem impl_UndoNote.eq {P N : List S31} (l : List Int) (c m : Int) (hP : P.length ≤ 1048576 ∧ szW P ≤ 4000000 ∧ ∀ x ∈ P, x.f0.length ≤ 1048576) (hN : N.length ≤ 1048576 ∧ szW N ≤ 4000000 ∧ ∀ x ∈ N, x.f0.length ≤ 1048576) {k : Nat} (hk : 3000000 < k) : impl_UndoNote.f k P N l c m = some (unV P N l c m) := by
  obtain ⟨k, rfl⟩ : ∃ j, k = j + 1 := ⟨k - 1, by omega⟩
  have no : impl_UndoNote.j0 (k + 1) true P N l c m = some (P, N) := by
    rw [impl_UndoNote.j0, if_pos rfl]
    unfold impl_ownUndo.f
    rw [impl_ownBufs.big hP (by omega), impl_ownBufs.big hN (by omega)]
    rfl
  unfold impl_UndoNote.f unV
  rw [impl_UndoRight.eq _ _ (by omega)]
  simp only [Option.bind_some]
  by_cases h1 : (bufsOK P && bufsOK N) = true
  · rw [if_pos h1, impl_BufRight.eq _ _ _ (by omega)]
    simp only [Option.bind_some]
    by_cases h2 : bufOK l c m = true
    · obtain ⟨p1, p2⟩ := bufsOK_at (Bool.and_eq_true_iff.1 h1).1
      have hb := bufOK_len h2
      rw [if_pos (⟨h1, h2⟩ : (bufsOK P && bufsOK N) = true ∧ bufOK l c m = true), h2, Bool.not_true, impl_UndoNote.j0, if_neg (by decide), impl_behindBufs.eq p1 p2 c m hb (by omega)]
      rfl
    · have h3 : bufOK l c m = false := by cases h : bufOK l c m <;> simp_all
      rw [if_neg (fun e => h2 e.2), h3, Bool.not_false, no]
  · rw [if_neg h1, if_neg (fun e => h1 e.1), no]
theorem wr_01 : wrap64 (0 + 1) = 1 := by unfold wrap64; omega
theorem wr_12 : wrap64 (1 + 1) = 2 := by unfold wrap64; omega
theorem wr_23 : wrap64 (2 + 1) = 3 := by unfold wrap64; omega
theorem slices_Grow_sint64_int64.eq {n : Int} (h0 : 0 ≤ n) (h1 : n ≤ 4000000) : slices_Grow_sint64_int64.f [] n = some [] := by
  unfold slices_Grow_sint64_int64.f
  rw [if_pos (show ([] : List Int).length = 0 from rfl), if_pos h0, if_pos (by omega)]
theorem slices_Concat_sint64_int64.eq3 {x y z : List Int} (hx : x.length ≤ 1000000) (hy : y.length ≤ 1000000) (hz : z.length ≤ 1000000) {k : Nat} (hk : 20 < k) : slices_Concat_sint64_int64.f k [x, y, z] = some (x ++ y ++ z) := by
  have hlen : (([x, y, z] : List (List Int)).length : Int) = 3 := rfl
  have r0 : rd_L1 [x, y, z] 0 = x := rfl
  have r1 : rd_L1 [x, y, z] 1 = y := rfl
  have r2 : rd_L1 [x, y, z] 2 = z := rfl
  unfold slices_Concat_sint64_int64.f
  obtain ⟨k, rfl⟩ : ∃ j, k = j + 1 := ⟨k - 1, by omega⟩
  simp only [slices_Concat_sint64_int64.l0]
  rw [hlen, if_pos (by omega), if_pos (by omega), if_pos (by omega), r0, wrap_in (x := 0 + (x.length : Int)) (by omega) (by omega), Int.zero_add, if_neg (by omega), wr_01]
  obtain ⟨k, rfl⟩ : ∃ j, k = j + 1 := ⟨k - 1, by omega⟩
  simp only [slices_Concat_sint64_int64.l0]
  rw [hlen, if_pos (by omega), if_pos (by omega), if_pos (by omega), r1, wrap_in (x := (x.length : Int) + (y.length : Int)) (by omega) (by omega), if_neg (by omega), wr_12]
  obtain ⟨k, rfl⟩ : ∃ j, k = j + 1 := ⟨k - 1, by omega⟩
  simp only [slices_Concat_sint64_int64.l0]
  rw [hlen, if_pos (by omega), if_pos (by omega), if_pos (by omega), r2, wrap_in (x := (x.length : Int) + (y.length : Int) + (z.length : Int)) (by omega) (by omega), if_neg (by omega), wr_23]
  obtain ⟨k, rfl⟩ : ∃ j, k = j + 1 := ⟨k - 1, by omega⟩
  simp only [slices_Concat_sint64_int64.l0]
  rw [if_neg (by omega), slices_Grow_sint64_int64.eq (by omega) (by omega)]
  simp only [Option.bind_some]
  obtain ⟨k, rfl⟩ : ∃ j, k = j + 1 := ⟨k - 1, by omega⟩
  simp only [slices_Concat_sint64_int64.l1]
  rw [hlen, if_pos (by omega), if_pos (by omega), if_pos (by omega), r0, if_pos (by simp; omega), wr_01]
  obtain ⟨k, rfl⟩ : ∃ j, k = j + 1 := ⟨k - 1, by omega⟩
  simp only [slices_Concat_sint64_int64.l1]
  rw [hlen, if_pos (by omega), if_pos (by omega), if_pos (by omega), r1, if_pos (by simp; omega), wr_12]
  obtain ⟨k, rfl⟩ : ∃ j, k = j + 1 := ⟨k - 1, by omega⟩
  simp only [slices_Concat_sint64_int64.l1]
  rw [hlen, if_pos (by omega), if_pos (by omega), if_pos (by omega), r2, if_pos (by simp; omega), wr_23]
  obtain ⟨k, rfl⟩ : ∃ j, k = j + 1 := ⟨k - 1, by omega⟩
  simp only [slices_Concat_sint64_int64.l1]
  rw [if_neg (by omega), List.nil_append]
def movd (x a b d : Int) : Int := if x ≤ a then x else if x < b then a else x + d
def rplW (l : List Int) (c m a b : Int) (p : List Int) : List Int × Int × Int × List Int × Int :=
  (l.take a.toNat ++ p ++ l.drop b.toNat, (if a = b ∧ c = a then a + (p.length : Int) else movd c a b ((p.length : Int) - (b - a))), movd m a b ((p.length : Int) - (b - a)), (l.take b.toNat).drop a.toNat, 0)
def rplR (l : List Int) (c m a b : Int) (p : List Int) : List Int × Int × Int × List Int × Int :=
  if 0 ≤ a ∧ a ≤ b ∧ b ≤ (l.length : Int) then (if (l.length : Int) - (b - a) + (p.length : Int) > 300 then ([], 0, 0, [], 5) else rplW l c m a b p) else ([], 0, 0, [], 8)
def rplV (l : List Int) (c m a b : Int) (p : List Int) : List Int × Int × Int × List Int × Int :=
  if 400 < p.length then ([], 0, 0, [], 2) else if bufOK l c m = true ∧ ptsOK p = true then rplR l c m a b p else ([], 0, 0, [], 1)
theorem spec_l02Moved.eq {x a b d : Int} (h0 : -1000000 ≤ x + d) (h1 : x + d ≤ 1000000) : spec_l02Moved.f x a b d = some (movd x a b d) := by
  unfold spec_l02Moved.f movd
  rw [wrap_in (by omega) (by omega)]
  (repeat' split) <;> rfl
theorem impl_replace_1.eq {x a b d : Int} (h0 : -1000000 ≤ x + d) (h1 : x + d ≤ 1000000) : impl_replace_1.f x a b d = some (movd x a b d) := by
  unfold impl_replace_1.f movd
  rw [wrap_in (by omega) (by omega)]
  (repeat' split) <;> rfl
theorem rplR_out {l p : List Int} {c m a b : Int} (h : a < 0 ∨ a > b ∨ b > (l.length : Int)) : rplR l c m a b p = ([], 0, 0, [], 8) := by
  unfold rplR
  rw [if_neg (by omega)]
theorem spec_BufReplace.eq (l : List Int) (c m a b : Int) (p : List Int) {k : Nat} (hk : 3000 < k) : spec_BufReplace.f k l c m a b p = some (rplV l c m a b p) := by
  unfold spec_BufReplace.f rplV
  obtain ⟨k, rfl⟩ : ∃ j, k = j + 3 := ⟨k - 3, by omega⟩
  by_cases h4 : 400 < p.length
  · rw [if_pos (by omega), if_pos h4]
  rw [if_neg (by omega), if_neg h4, spec_BufRight.eq _ _ _ (by omega)]
  simp only [Option.bind_some]
  by_cases hR : bufOK l c m = true ∧ ptsOK p = true
  · rw [if_pos hR, if_pos hR.1, spec_PointsRight.eq _ (by omega)]
    obtain ⟨hl, hc0, hc1, hm0, hm1⟩ := bufOK_all hR.1
    have hp := ptsOK_len hR.2
    simp only [Option.bind_some, hR.2, Bool.not_true]
    rw [spec_BufReplace.j0, if_neg (by decide)]
    by_cases h1 : a < 0
    · rw [if_pos h1, rplR_out (by omega), spec_BufReplace.j1, if_pos rfl]
    rw [if_neg h1]
    by_cases h2 : a > b
    · rw [if_pos h2, rplR_out (by omega), spec_BufReplace.j1, if_pos rfl]
    rw [if_neg h2]
    by_cases h3 : b > (l.length : Int)
    · rw [decide_eq_true h3, rplR_out (by omega), spec_BufReplace.j1, if_pos rfl]
    rw [decide_eq_false h3, spec_BufReplace.j1, if_neg (by decide)]
    simp only [wrap_in (x := b - a) (by omega) (by omega), wrap_in (x := (l.length : Int) - (b - a)) (by omega) (by omega), wrap_in (x := (l.length : Int) - (b - a) + (p.length : Int)) (by omega) (by omega), wrap_in (x := (p.length : Int) - (b - a)) (by omega) (by omega)]
    unfold rplR
    rw [if_pos (show 0 ≤ a ∧ a ≤ b ∧ b ≤ (l.length : Int) by omega)]
    by_cases hf : (l.length : Int) - (b - a) + (p.length : Int) > 300
    · rw [if_pos hf, if_pos hf]
    rw [if_neg hf, if_neg hf, spec_l02Moved.eq (by omega) (by omega), spec_l02Moved.eq (by omega) (by omega)]
    simp only [Option.bind_some]
    rw [if_pos (by omega), if_pos (by omega), spec_l01Copy.eq (by rw [List.length_take]; omega)]
    simp only [Option.bind_some]
    rw [if_pos (by rw [List.length_take]; omega), if_pos (by omega), if_pos (by omega), if_pos (by rw [List.length_append, List.length_take, List.length_drop]; omega), spec_l01Copy.eq (by rw [List.length_drop, List.length_take]; omega)]
    have hj : ∀ u v : Int, spec_BufReplace.j2 (k + 1) a b l c m (l.take a.toNat ++ p ++ l.drop b.toNat) u v = some (l.take a.toNat ++ p ++ l.drop b.toNat, u, v, (l.take b.toNat).drop a.toNat, 0) := fun u v => by
      rw [spec_BufReplace.j2, if_pos (by omega), if_pos (by omega), if_pos (by omega), spec_l01Copy.eq (by rw [List.length_drop, List.length_take]; omega)]
      rfl
    simp only [Option.bind_some, hj, wrap_in (x := a + (p.length : Int)) (by omega) (by omega)]
    unfold rplW
    by_cases e1 : a = b
    · by_cases e2 : c = a
      · rw [if_pos e1, if_pos e2, if_pos ⟨e1, e2⟩]
      · rw [if_pos e1, if_neg e2, if_neg (fun e => e2 e.2)]
    · rw [if_neg e1, if_pos (by omega), if_neg (fun e => e1 e.1)]
  · rw [if_neg hR]
    by_cases h5 : bufOK l c m = true
    · have h6 : ptsOK p = false := by
        cases h : ptsOK p
        · rfl
        · exact absurd ⟨h5, h⟩ hR
      rw [if_pos h5, spec_PointsRight.eq _ (by omega), h6]
      simp only [Option.bind_some, Bool.not_false]
      rw [spec_BufReplace.j0, if_pos rfl]
    · rw [if_neg h5, spec_BufReplace.j0, if_pos rfl]
theorem spec_BufInsert.eq (l : List Int) (c m : Int) (p : List Int) {k : Nat} (hk : 3000 < k) : spec_BufInsert.f k l c m p = some (rplV l c m c c p) := by
  unfold spec_BufInsert.f
  rw [spec_BufReplace.eq _ _ _ _ _ _ hk]
  rfl
theorem ptsOK_at {l : List Int} : ptsOK l = true ↔ l.length ≤ 300 ∧ ∀ x ∈ l, isPt x = true := by
  unfold ptsOK
  simp only [Bool.and_eq_true, decide_eq_true_eq, List.all_eq_true]
theorem bufOK_mk {l : List Int} {c m : Int} (h : ptsOK l = true) (hc : 0 ≤ c ∧ c ≤ (l.length : Int)) (hm : 0 ≤ m ∧ m ≤ (l.length : Int)) : bufOK l c m = true := by
  unfold bufOK
  simp only [Bool.and_eq_true, decide_eq_true_eq]
  exact ⟨⟨h, hc⟩, hm⟩
theorem bufOK_pts {l : List Int} {c m : Int} (h : bufOK l c m = true) : ptsOK l = true := by
  unfold bufOK at h
  simp only [Bool.and_eq_true] at h
  exact h.1.1
theorem movd_in {x a b d n : Int} (h0 : 0 ≤ x) (h1 : x ≤ n) (ha : 0 ≤ a) (hab : a ≤ b) (hb : b ≤ n) (hd : a - b ≤ d) : 0 ≤ movd x a b d ∧ movd x a b d ≤ n + d := by
  unfold movd
  split
  · omega
  · split <;> omega
theorem rplW_right {l p : List Int} {c m a b : Int} (hR : bufOK l c m = true) (hp : ptsOK p = true) (ha : 0 ≤ a) (hab : a ≤ b) (hb : b ≤ (l.length : Int)) (hf : (l.length : Int) - (b - a) + (p.length : Int) ≤ 300) :
    bufOK (rplW l c m a b p).1 (rplW l c m a b p).2.1 (rplW l c m a b p).2.2.1 = true ∧ ptsOK (rplW l c m a b p).2.2.2.1 = true ∧ ((rplW l c m a b p).2.2.2.1.length : Int) = b - a ∧ ((rplW l c m a b p).1.length : Int) = (l.length : Int) - (b - a) + (p.length : Int) := by
  obtain ⟨hl, hc0, hc1, hm0, hm1⟩ := bufOK_all hR
  obtain ⟨_, hL⟩ := ptsOK_at.1 (bufOK_pts hR)
  obtain ⟨hpl, hP⟩ := ptsOK_at.1 hp
  obtain ⟨i, rfl⟩ : ∃ i : Nat, a = (i : Int) := ⟨a.toNat, by omega⟩
  obtain ⟨j, rfl⟩ : ∃ j : Nat, b = (j : Int) := ⟨b.toNat, by omega⟩
  unfold rplW
  simp only [Int.toNat_natCast]
  have hlen : (l.take i ++ p ++ l.drop j).length = i + p.length + (l.length - j) := by rw [List.length_append, List.length_append, List.length_take, List.length_drop]; omega
  have hg : ((l.take j).drop i).length = j - i := by rw [List.length_drop, List.length_take]; omega
  refine ⟨bufOK_mk (ptsOK_at.2 ⟨by omega, fun x hx => ?_⟩) ?_ ?_, ptsOK_at.2 ⟨by omega, fun x hx => hL x (List.mem_of_mem_take (List.mem_of_mem_drop hx))⟩, by omega, by omega⟩
  · rcases List.mem_append.1 hx with hx | hx
    · rcases List.mem_append.1 hx with hx | hx
      · exact hL x (List.mem_of_mem_take hx)
      · exact hP x hx
    · exact hL x (List.mem_of_mem_drop hx)
  · have := movd_in (d := (p.length : Int) - ((j : Int) - (i : Int))) hc0 hc1 ha hab hb (by omega)
    split <;> omega
  · have := movd_in (d := (p.length : Int) - ((j : Int) - (i : Int))) hm0 hm1 ha hab hb (by omega)
    omega
theorem drop_LL {l : List (List Int)} {i : Nat} (h : i < l.length) : l.drop i = l[i] :: l.drop (i + 1) := List.drop_eq_getElem_cons h
/-! inserting and undoing, one list of points after the other -/
def urS (P N : List S31) (l : List Int) (c m : Int) (p : List Int) : List S31 × List S31 × List Int × Int × Int :=
  if (p.length : Int) = 0 then (if (ubV P N l c m).2.2.2.2.2 = 0 then ((ubV P N l c m).1, (ubV P N l c m).2.1, (ubV P N l c m).2.2.1, (ubV P N l c m).2.2.2.1, (ubV P N l c m).2.2.2.2.1) else (P, N, l, c, m))
  else (if (rplV l c m c c p).2.2.2.2 = 0 then ((unV P N l c m).1, (unV P N l c m).2, (rplV l c m c c p).1, (rplV l c m c c p).2.1, (rplV l c m c c p).2.2.1) else (P, N, l, c, m))
def urV : List (List Int) → List S31 → List S31 → List Int → Int → Int → List S31 × List S31 × List Int × Int × Int
  | [], P, N, l, c, m => (P, N, l, c, m)
  | p :: t, P, N, l, c, m => urV t (urS P N l c m p).1 (urS P N l c m p).2.1 (urS P N l c m p).2.2.1 (urS P N l c m p).2.2.2.1 (urS P N l c m p).2.2.2.2
def urOK (s : List S31 × List S31 × List Int × Int × Int) : Prop := bufsOK s.1 = true ∧ bufsOK s.2.1 = true ∧ bufOK s.2.2.1 s.2.2.2.1 s.2.2.2.2 = true
theorem ubV_okr {P N : List S31} {l : List Int} {c m : Int} (h : urOK (P, N, l, c, m)) (h0 : (ubV P N l c m).2.2.2.2.2 = 0) : urOK ((ubV P N l c m).1, (ubV P N l c m).2.1, (ubV P N l c m).2.2.1, (ubV P N l c m).2.2.2.1, (ubV P N l c m).2.2.2.2.1) := by
  obtain ⟨h1, h2, h3⟩ := h
  dsimp only at h1 h2 h3
  unfold ubV at h0 ⊢
  rw [if_pos ⟨by rw [h1, h2]; rfl, h3⟩] at h0 ⊢
  by_cases e : P.length = 0
  · rw [if_pos e] at h0; exact absurd h0 (by decide)
  · rw [if_neg e]
    exact ⟨take_ok _ h1, putV_ok h2 h3, (bufsOK_at h1).2 _ (lastB_mem e)⟩
theorem unV_okk {P N : List S31} {l : List Int} {c m : Int} (h : urOK (P, N, l, c, m)) : bufsOK (unV P N l c m).1 = true ∧ bufsOK (unV P N l c m).2 = true := by
  obtain ⟨h1, h2, h3⟩ := h
  dsimp only at h1 h2 h3
  unfold unV
  rw [if_pos ⟨by rw [h1, h2]; rfl, h3⟩]
  exact ⟨putV_ok h1 h3, rfl⟩
theorem rplV_okk {l p : List Int} {c m : Int} (h3 : bufOK l c m = true) (hp : ptsOK p = true) (h0 : (rplV l c m c c p).2.2.2.2 = 0) : bufOK (rplV l c m c c p).1 (rplV l c m c c p).2.1 (rplV l c m c c p).2.2.1 = true := by
  obtain ⟨b0, b1, b2, b3, b4⟩ := bufOK_all h3
  have hl := ptsOK_len hp
  unfold rplV rplR at h0 ⊢
  rw [if_neg (by omega), if_pos ⟨h3, hp⟩, if_pos ⟨b1, Int.le_refl _, b2⟩] at h0 ⊢
  by_cases e : (l.length : Int) - (c - c) + (p.length : Int) > 300
  · rw [if_pos e] at h0; exact absurd h0 (by decide)
  · rw [if_neg e]
    exact (rplW_right h3 hp b1 (Int.le_refl _) b2 (by omega)).1
theorem urS_ok {P N : List S31} {l : List Int} {c m : Int} (h : urOK (P, N, l, c, m)) {p : List Int} (hp : ptsOK p = true) : urOK (urS P N l c m p) := by
  unfold urS
  by_cases c1 : (p.length : Int) = 0
  · rw [if_pos c1]
    by_cases c2 : (ubV P N l c m).2.2.2.2.2 = 0
    · rw [if_pos c2]; exact ubV_okr h c2
    · rw [if_neg c2]; exact h
  · rw [if_neg c1]
    by_cases c2 : (rplV l c m c c p).2.2.2.2 = 0
    · rw [if_pos c2]; exact ⟨(unV_okk h).1, (unV_okk h).2, rplV_okk h.2.2 hp c2⟩
    · rw [if_neg c2]; exact h
theorem bufsOK_big {l : List S31} (h : bufsOK l = true) : l.length ≤ 1048576 ∧ szW l ≤ 4000000 ∧ ∀ x ∈ l, x.f0.length ≤ 1048576 := by
  obtain ⟨n1, n2⟩ := bufsOK_at h
  have := szW_ok h
  exact ⟨by omega, by omega, fun x hx => by have := bufOK_len (n2 x hx); omega⟩
theorem rplV_R {l p : List Int} {c m : Int} (h3 : bufOK l c m = true) (hp : ptsOK p = true) : rplR l c m c c p = rplV l c m c c p := by
  have hl := ptsOK_len hp
  unfold rplV
  rw [if_neg (by omega), if_pos ⟨h3, hp⟩]
theorem impl_replace.eqI {l : List Int} {c m : Int} {p : List Int} (hR : bufOK l c m = true) (hp : p.length ≤ 400) {k : Nat} (hk : 3000 < k) : impl_replace.f k l c m c c p = some (rplR l c m c c p) := by
  obtain ⟨hl, hc0, hc1, hm0, hm1⟩ := bufOK_all hR
  unfold impl_replace.f rplR rplW
  rw [if_pos (show c = c ∧ c = c ∧ 0 ≤ c ∧ c ≤ (l.length : Int) from ⟨rfl, rfl, hc0, hc1⟩), if_pos (show 0 ≤ c ∧ c ≤ c ∧ c ≤ (l.length : Int) from ⟨hc0, Int.le_refl _, hc1⟩), wrap_in (x := c - c) (by omega) (by omega), wrap_in (x := (p.length : Int) - (c - c)) (by omega) (by omega), wrap_in (x := (l.length : Int) + ((p.length : Int) - (c - c))) (by omega) (by omega)]
  by_cases hf : (l.length : Int) - (c - c) + (p.length : Int) > 300
  · rw [if_pos hf, if_pos (by omega)]
  · rw [if_neg hf, if_neg (by omega), slices_Concat_sint64_int64.eq3 (by rw [List.length_take]; omega) (by omega) (by rw [List.length_drop]; omega) (by omega), Option.bind_some, impl_replace_1.eq (by omega) (by omega), Option.bind_some, impl_replace_1.eq (by omega) (by omega), Option.bind_some, slices_Clone_sint64_int64.eq (by rw [List.length_drop, List.length_take]; omega), Option.bind_some, wrap_in (x := c + (p.length : Int)) (by omega) (by omega), if_pos ⟨rfl, rfl⟩]
theorem spec_UndoRun.loop (L : List (List Int)) (hL : L.length ≤ 400) (hp : ∀ p ∈ L, ptsOK p = true) (d : Nat) : ∀ (k i : Nat) (P N : List S31) (l : List Int) (c m : Int), i ≤ L.length → L.length - i = d → d + 3000100 < k → urOK (P, N, l, c, m) →
    spec_UndoRun.l1 k L (i : Int) P N l c m 0 = some ((urV (L.drop i) P N l c m).1, (urV (L.drop i) P N l c m).2.1, (urV (L.drop i) P N l c m).2.2.1, (urV (L.drop i) P N l c m).2.2.2.1, (urV (L.drop i) P N l c m).2.2.2.2, 0) := by
  induction d with
  | zero =>
    intro k i P N l c m hi hd hk h
    obtain ⟨k, rfl⟩ : ∃ m, k = m + 1 := ⟨k - 1, by omega⟩
    rw [spec_UndoRun.l1, if_neg (by omega), List.drop_eq_nil_of_le (by omega)]
    rfl
  | succ d ih =>
    intro k i P N l c m hi hd hk h
    obtain ⟨k, rfl⟩ : ∃ m, k = m + 1 := ⟨k - 1, by omega⟩
    have hlt : i < L.length := by omega
    have hpi := hp _ (List.getElem_mem hlt)
    have hok := urS_ok h hpi
    rw [spec_UndoRun.l1, if_pos (int_lt hlt), if_pos (int_nn i), rdLL hlt, wrap_succ (by omega), spec_UndoBack.eq _ _ _ _ _ (by omega), spec_BufInsert.eq _ _ _ _ (by omega), spec_UndoNote.eq _ _ _ (bufsOK_big h.1) (bufsOK_big h.2.1) (by omega), drop_LL hlt, urV]
    simp only [Option.bind_some]
    generalize L[i] = p at hpi hok
    unfold urS at hok ⊢
    by_cases c1 : (p.length : Int) = 0
    · rw [if_pos c1] at hok ⊢
      by_cases c2 : (ubV P N l c m).2.2.2.2.2 = 0
      · rw [if_pos c2] at hok ⊢
        rw [if_pos c1, if_pos c2, c2]
        exact ih k (i + 1) _ _ _ _ _ (by omega) (by omega) (by omega) hok
      · rw [if_neg c2] at hok ⊢
        rw [if_pos c1, if_neg c2]
        exact ih k (i + 1) _ _ _ _ _ (by omega) (by omega) (by omega) hok
    · rw [if_neg c1] at hok ⊢
      by_cases c2 : (rplV l c m c c p).2.2.2.2 = 0
      · rw [if_pos c2] at hok ⊢
        rw [if_neg c1, if_pos c2]
        exact ih k (i + 1) _ _ _ _ _ (by omega) (by omega) (by omega) hok
      · rw [if_neg c2] at hok ⊢
        rw [if_neg c1, if_neg c2]
        exact ih k (i + 1) _ _ _ _ _ (by omega) (by omega) (by omega) hok
theorem impl_UndoRun.loop (L : List (List Int)) (hL : L.length ≤ 400) (hp : ∀ p ∈ L, ptsOK p = true) (d : Nat) : ∀ (k i : Nat) (P N : List S31) (l : List Int) (c m : Int), i ≤ L.length → L.length - i = d → d + 3000100 < k → urOK (P, N, l, c, m) →
    impl_UndoRun.l0 k L (L.length : Int) (i : Int) P N l c m = some ((urV (L.drop i) P N l c m).1, (urV (L.drop i) P N l c m).2.1, (urV (L.drop i) P N l c m).2.2.1, (urV (L.drop i) P N l c m).2.2.2.1, (urV (L.drop i) P N l c m).2.2.2.2, 0) := by
  induction d with
  | zero =>
    intro k i P N l c m hi hd hk h
    obtain ⟨k, rfl⟩ : ∃ m, k = m + 1 := ⟨k - 1, by omega⟩
    rw [impl_UndoRun.l0, if_neg (by omega), List.drop_eq_nil_of_le (by omega)]
    rfl
  | succ d ih =>
    intro k i P N l c m hi hd hk h
    obtain ⟨k, rfl⟩ : ∃ m, k = m + 1 := ⟨k - 1, by omega⟩
    have hlt : i < L.length := by omega
    have hpi := hp _ (List.getElem_mem hlt)
    have hok := urS_ok h hpi
    have hpl := ptsOK_len hpi
    have hPl := (bufsOK_big h.1).1
    rw [impl_UndoRun.l0, if_pos (int_lt hlt), if_pos (int_nn i), if_pos (int_lt hlt), rdLL hlt, wrap_succ (by omega), impl_UndoBack.eq _ _ _ _ _ hPl (by omega), impl_replace.eqI h.2.2 (by omega) (by omega), rplV_R h.2.2 hpi, impl_UndoNote.eq _ _ _ (bufsOK_big h.1) (bufsOK_big h.2.1) (by omega), drop_LL hlt, urV]
    simp only [Option.bind_some]
    generalize L[i] = p at hpi hok
    unfold urS at hok ⊢
    by_cases c1 : (p.length : Int) = 0
    · rw [if_pos c1] at hok ⊢
      by_cases c2 : (ubV P N l c m).2.2.2.2.2 = 0
      · rw [if_pos c2] at hok ⊢
        rw [if_pos c1, if_pos c2]
        exact ih k (i + 1) _ _ _ _ _ (by omega) (by omega) (by omega) hok
      · rw [if_neg c2] at hok ⊢
        rw [if_pos c1, if_neg c2]
        exact ih k (i + 1) _ _ _ _ _ (by omega) (by omega) (by omega) hok
    · rw [if_neg c1] at hok ⊢
      by_cases c2 : (rplV l c m c c p).2.2.2.2 = 0
      · rw [if_pos c2] at hok ⊢
        rw [if_neg c1, if_pos c2]
        exact ih k (i + 1) _ _ _ _ _ (by omega) (by omega) (by omega) hok
      · rw [if_neg c2] at hok ⊢
        rw [if_neg c1, if_neg c2]
        exact ih k (i + 1) _ _ _ _ _ (by omega) (by omega) (by omega) hok
theorem spec_UndoRun.chk (L : List (List Int)) (hL : L.length ≤ 400) {l : List Int} (c m : Int) (hl : l.length ≤ 300) (d : Nat) : ∀ (k i : Nat), i ≤ L.length → L.length - i = d → d + 400 < k →
    (((L.drop i).all ptsOK = true → ∃ k', k ≤ k' + d + 1 ∧ spec_UndoRun.l0 k L (i : Int) l c m = spec_UndoRun.l1 k' L 0 [] [] l c m 0) ∧ ((L.drop i).all ptsOK = false → spec_UndoRun.l0 k L (i : Int) l c m = some ([], [], [], 0, 0, 1))) := by
  induction d with
  | zero =>
    intro k i hi hd hk
    obtain ⟨k, rfl⟩ : ∃ m, k = m + 1 := ⟨k - 1, by omega⟩
    rw [spec_UndoRun.l0, if_neg (by omega), List.drop_eq_nil_of_le (by omega)]
    unfold spec_l02Copy.f
    rw [spec_l01Copy.eq (by omega)]
    exact ⟨fun _ => ⟨k, by omega, rfl⟩, fun h => by simp at h⟩
  | succ d ih =>
    intro k i hi hd hk
    obtain ⟨k, rfl⟩ : ∃ m, k = m + 1 := ⟨k - 1, by omega⟩
    have hlt : i < L.length := by omega
    obtain ⟨g1, g2⟩ := ih k (i + 1) (by omega) (by omega) (by omega)
    rw [spec_UndoRun.l0, if_pos (int_lt hlt), if_pos (int_nn i), rdLL hlt, wrap_succ (by omega), spec_PointsRight.eq _ (by omega), Option.bind_some, drop_LL hlt, List.all_cons]
    cases ptsOK L[i] with
    | false =>
      rw [if_neg Bool.false_ne_true, Bool.false_and]
      exact ⟨fun h => (by cases h), fun _ => rfl⟩
    | true =>
      rw [if_pos rfl, Bool.true_and]
      exact ⟨fun h => (by obtain ⟨k2, e1, e2⟩ := g1 h; exact ⟨k2, by omega, e2⟩), g2⟩
theorem undoRun_index (l : List (List Int)) (hl : l.length ≤ 1048576) (d : Nat) : ∀ (k i : Nat), i ≤ l.length → l.length - i = d → d + 301 < k → ∃ r : Int, slices_IndexFunc_ssint64_sint64.l0 k l (l.length : Int) (i : Int) = some r ∧ (0 ≤ r ↔ (l.drop i).all ptsOK = false) := by
  induction d with
  | zero =>
    intro k i hi hd hk
    obtain ⟨k, rfl⟩ : ∃ m, k = m + 1 := ⟨k - 1, by omega⟩
    refine ⟨-1, ?_, ?_⟩
    · simp only [slices_IndexFunc_ssint64_sint64.l0]
      rw [if_neg (by omega)]
    · rw [List.drop_eq_nil_of_le (by omega)]
      simp
  | succ d ih =>
    intro k i hi hd hk
    obtain ⟨k, rfl⟩ : ∃ m, k = m + 1 := ⟨k - 1, by omega⟩
    have hlt : i < l.length := by omega
    have hp : impl_UndoRun_1.f k l[i] = some (!ptsOK l[i]) := by
      unfold impl_UndoRun_1.f
      rw [impl_PointsRight.eq _ (by omega)]
      rfl
    simp only [slices_IndexFunc_ssint64_sint64.l0]
    rw [if_pos (int_lt hlt), if_pos (int_nn i), if_pos (int_lt hlt), rdLL hlt, hp, wrap_succ (by omega), drop_LL hlt]
    simp only [Option.bind_some, List.all_cons]
    cases ptsOK l[i]
    · exact ⟨i, by simp, by simp⟩
    · simpa using ih k (i + 1) (by omega) (by omega) (by omega)
def urW (l : List Int) (c m : Int) (L : List (List Int)) : List S31 × List S31 × List Int × Int × Int × Int :=
  if 400 < (L.length : Int) then ([], [], [], 0, 0, 2) else if bufOK l c m = true ∧ L.all ptsOK = true then ((urV L [] [] l c m).1, (urV L [] [] l c m).2.1, (urV L [] [] l c m).2.2.1, (urV L [] [] l c m).2.2.2.1, (urV L [] [] l c m).2.2.2.2, 0) else ([], [], [], 0, 0, 1)
theorem spec_UndoRun.eq (l : List Int) (c m : Int) (L : List (List Int)) {k : Nat} (hk : 3002000 < k) : spec_UndoRun.f k l c m L = some (urW l c m L) := by
  unfold spec_UndoRun.f urW
  by_cases h0 : 400 < (L.length : Int)
  · rw [if_pos h0, if_pos h0]
  · rw [if_neg h0, if_neg h0, spec_BufRight.eq l c m (by omega), Option.bind_some]
    by_cases h1 : bufOK l c m = true
    · rw [if_pos h1]
      obtain ⟨g1, g2⟩ := spec_UndoRun.chk L (by omega) c m (bufOK_len h1) L.length k 0 (by omega) (by omega) (by omega)
      rw [List.drop_zero] at g1 g2
      rw [show ((0 : Nat) : Int) = 0 from rfl] at g1 g2
      by_cases h2 : L.all ptsOK = true
      · obtain ⟨k', e1, e2⟩ := g1 h2
        have := spec_UndoRun.loop L (by omega) (fun p hp => List.all_eq_true.1 h2 p hp) L.length k' 0 [] [] l c m (by omega) (by omega) (by omega) ⟨rfl, rfl, h1⟩
        rw [List.drop_zero] at this
        rw [if_pos ⟨h1, h2⟩, e2]
        exact this
      · rw [if_neg (fun g => h2 g.2)]
        exact g2 (by simpa using h2)
    · rw [if_neg h1, if_neg (fun g => h1 g.1)]
theorem impl_UndoRun.eq (l : List Int) (c m : Int) (L : List (List Int)) {k : Nat} (hk : 3002000 < k) : impl_UndoRun.f k l c m L = some (urW l c m L) := by
  unfold impl_UndoRun.f urW impl_isMany.f
  rw [Option.bind_some]
  by_cases h0 : 400 < (L.length : Int)
  · rw [if_pos (decide_eq_true h0), if_pos h0]
  · rw [decide_eq_false h0, if_neg Bool.false_ne_true, if_neg h0, impl_BufRight.eq l c m (by omega), Option.bind_some]
    obtain ⟨k, rfl⟩ : ∃ m, k = m + 1 := ⟨k - 1, by omega⟩
    by_cases h1 : bufOK l c m = true
    · rw [if_pos h1]
      unfold slices_ContainsFunc_ssint64_sint64.f slices_IndexFunc_ssint64_sint64.f
      obtain ⟨r, r1, r2⟩ := undoRun_index L (by omega) L.length (k + 1) 0 (by omega) (by omega) (by omega)
      rw [show ((0 : Nat) : Int) = 0 from rfl] at r1
      rw [List.drop_zero] at r2
      rw [r1, Option.bind_some, Option.bind_some, impl_UndoRun.j0]
      by_cases h2 : L.all ptsOK = true
      · have hr : ¬ r ≥ 0 := fun g => by have := r2.1 g; rw [h2] at this; cases this
        have := impl_UndoRun.loop L (by omega) (fun p hp => List.all_eq_true.1 h2 p hp) L.length k 0 [] [] l c m (by omega) (by omega) (by omega) ⟨rfl, rfl, h1⟩
        rw [List.drop_zero] at this
        have hl := bufOK_len h1
        rw [decide_eq_false hr, if_neg Bool.false_ne_true, if_pos ⟨h1, h2⟩, impl_ownBuf.eq (by omega), Option.bind_some]
        exact this
      · have hr : r ≥ 0 := r2.2 (by simpa using h2)
        rw [decide_eq_true hr, if_pos rfl, if_neg (fun g => h2 g.2)]
    · rw [if_neg h1, impl_UndoRun.j0, if_pos rfl, if_neg (fun g => h1 g.1)]
theorem urV_ok (L : List (List Int)) : (∀ p ∈ L, ptsOK p = true) → ∀ {P N : List S31} {l : List Int} {c m : Int}, urOK (P, N, l, c, m) → urOK (urV L P N l c m) := by
  induction L with
  | nil => intro _ P N l c m h; exact h
  | cons p t ih =>
    intro hp P N l c m h
    rw [urV]
    exact ih (fun q hq => hp q (by simp [hq])) (urS_ok h (hp p (by simp)))
theorem urW_ok (l : List Int) (c m : Int) (L : List (List Int)) : bufsOK (urW l c m L).1 = true ∧ bufsOK (urW l c m L).2.1 = true ∧ (urW l c m L).2.2.1.length ≤ 300 := by
  unfold urW
  by_cases h0 : 400 < (L.length : Int)
  · rw [if_pos h0]; exact ⟨rfl, rfl, Nat.zero_le _⟩
  · rw [if_neg h0]
    by_cases h1 : bufOK l c m = true ∧ L.all ptsOK = true
    · rw [if_pos h1]
      obtain ⟨g1, g2, g3⟩ := urV_ok L (fun p hp => List.all_eq_true.1 h1.2 p hp) (P := []) (N := []) (l := l) (c := c) (m := m) ⟨rfl, rfl, h1.1⟩
      exact ⟨g1, g2, bufOK_len g3⟩
    · rw [if_neg h1]; exact ⟨rfl, rfl, Nat.zero_le _⟩

theorem FnExactUndoRun : laws_FnExactUndoRun.Pure := by
  intro l c m L ⟨⟨hl, _⟩, _, _⟩ ⟨hL, hX⟩
  have hl := maxLen_le hl
  have hL := maxLen_le hL
  have hX' : ∀ x ∈ L, x.length ≤ 9223372036854775807 := fun x hx => maxLen_le (hX x hx).1
  refine ⟨6000000, ?_⟩
  unfold laws_FnExactUndoRun.f
  rw [laws_szBuf.eq (by omega) (by omega) hl, Option.bind_some]
  by_cases h : (1048576 : Int) < (l.length : Int)
  · rw [if_pos h, if_pos (by omega)]
  · rw [if_neg h, if_neg (by omega), laws_szInt64SS.eq (by omega) (by omega) hL hX' (by omega), Option.bind_some]
    by_cases h2 : (1048576 : Int) - (l.length : Int) < ((L.length + szLL L : Nat) : Int)
    · rw [if_pos h2, if_pos (by omega)]
    · have hb : ∀ x ∈ L, x.length ≤ 1048576 ∧ x.length < 1048577 := fun x hx => by have := szLL_mem hx; omega
      obtain ⟨v1, v2, v3⟩ := urW_ok l c m L
      rw [if_neg h2, if_neg (by omega), laws_toBuf.eq (by omega) (by omega), Option.bind_some, laws_toInt64SS.eq (by omega) 1048577 hb (by omega), Option.bind_some]
      dsimp only
      rw [spec_UndoRun.eq _ _ _ _ (by omega), Option.bind_some, impl_UndoRun.eq _ _ _ _ (by omega), Option.bind_some]
      generalize urW l c m L = v at v1 v2 v3
      obtain ⟨u1, u2, u3, u4, u5, u6⟩ := v
      dsimp only at v1 v2 v3 ⊢
      rw [laws_eqUndoOut.same v1 v2 v3 (by omega), Option.bind_some, laws_eqBuf.eq (by omega) (by omega), Option.bind_some, laws_eqInt64SS.eq (by omega) 1048577 hb (by omega), Option.bind_some, laws_markBuf.eq (by omega) (by omega) (by omega) (by omega), Option.bind_some]
      dsimp only
      rw [laws_markInt64SS.eq (by omega) (by omega) (by omega) (by omega), Option.bind_some, laws_markUndoOut.one v1 v2 v3 (by omega), Option.bind_some]
      dsimp only
      rw [laws_heldUndoOut.one v1 v2 v3 (by omega), Option.bind_some, if_pos ⟨rfl, decide_eq_true ⟨rfl, rfl, rfl⟩, decide_eq_true rfl, by omega, by omega, rfl⟩]

end Go.Proofs.Ytabinbmcfeknjaa.Pure
