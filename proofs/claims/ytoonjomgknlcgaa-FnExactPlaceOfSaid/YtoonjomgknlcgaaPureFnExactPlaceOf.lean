/- Proved: the program's PlaceOf returns what the reference's returns, for every buffer of at most 2^20 points and every spot, and leaves the buffer as it was. -/
import Derived.Test.YtoonjomgknlcgaaPFnExactPlaceOfx4
namespace Go.Proofs.Ytoonjomgknlcgaa.Pure
open Go.RowKit Go.Proofs.Ytoonjomgknlcgaa.PFnExactPlaceOf Go.Proofs.YtoonjomgknlcgaaW.PrintWords Go.Proofs.YtoonjomgknlcgaaW.PrintLast Go.Proofs.YtoonjomgknlcgaaW.PrintMore
set_option linter.unusedVariables false
set_option linter.unusedSimpArgs false

/-! ### plain words -/
theorem wrap_in {x : Int} (h0 : -9223372036854775808 ≤ x) (h1 : x ≤ 9223372036854775807) : wrap64 x = x := by unfold wrap64; omega
theorem wrap_succ {i : Nat} (h : i < 4611686018427387904) : wrap64 ((i : Int) + 1) = ((i + 1 : Nat) : Int) := by unfold wrap64; omega
theorem rd_nat (l : List Int) (i : Nat) : rd l (i : Int) = l.getD i 0 := by simp [rd]
theorem drop_rd {l : List Int} {i : Nat} (h : i < l.length) : l.drop i = rd l (i : Int) :: l.drop (i + 1) := by
  rw [rd_nat, List.drop_eq_getElem_cons h, List.getD_eq_getElem?_getD, List.getElem?_eq_getElem h]
  rfl
theorem int_lt {i n : Nat} (h : i < n) : (i : Int) < (n : Int) := by omega
theorem int_nlt {i n : Nat} (h : ¬ i < n) : ¬ (i : Int) < (n : Int) := by omega
theorem int_nn (i : Nat) : (0 : Int) ≤ (i : Int) := by omega
theorem maxLen_le {n : Nat} (h : n ≤ maxLen) : n ≤ 9223372036854775807 := by unfold maxLen at h; exact h
theorem some_b {a b : Bool} (h : a = true ↔ b = true) : some a = some b := congrArg some (Bool.eq_iff_iff.2 h)
def isPt (a : Int) : Bool := decide (0 ≤ a ∧ a ≤ 1114111 ∧ ¬ (55296 ≤ a ∧ a ≤ 57343))
def ptsOK (l : List Int) : Bool := decide (l.length ≤ 300) && l.all isPt
def bufOK (l : List Int) (c m : Int) : Bool := ptsOK l && decide (0 ≤ c ∧ c ≤ l.length) && decide (0 ≤ m ∧ m ≤ l.length)
def isCtl (a : Int) : Bool := decide (a < 32 ∨ a = 127)
def isWide2 (a : Int) : Bool := decide ((4352 ≤ a ∧ a ≤ 4447) ∨ (11904 ≤ a ∧ a ≤ 42191) ∨ (44032 ≤ a ∧ a ≤ 55203) ∨ (63744 ≤ a ∧ a ≤ 64255) ∨ (65281 ≤ a ∧ a ≤ 65376) ∨ (127744 ≤ a ∧ a ≤ 129791))
def wid (a : Int) : Int := if isPt a = true ∧ ¬ (768 ≤ a ∧ a ≤ 879) then (if isCtl a = true ∨ isWide2 a = true then 2 else 1) else 0
def cl2 (a : Int) : Int := if (97 ≤ a ∧ a ≤ 122) ∨ (65 ≤ a ∧ a ≤ 90) ∨ (48 ≤ a ∧ a ≤ 57) ∨ a = 95 ∨ 128 ≤ a then 2 else 3
def cls (a : Int) : Int := if isPt a = true then (if a = 32 ∨ a = 9 ∨ a = 10 then 1 else cl2 a) else 0
theorem ptsOK_len {l : List Int} (h : ptsOK l = true) : l.length ≤ 300 := by
  unfold ptsOK at h
  simp only [Bool.and_eq_true, decide_eq_true_eq] at h
  exact h.1
theorem bufOK_len {l : List Int} {c m : Int} (h : bufOK l c m = true) : l.length ≤ 300 := by
  unfold bufOK at h
  simp only [Bool.and_eq_true] at h
  exact ptsOK_len h.1.1
theorem bufOK_all {l : List Int} {c m : Int} (h : bufOK l c m = true) : l.length ≤ 300 ∧ 0 ≤ c ∧ c ≤ l.length ∧ 0 ≤ m ∧ m ≤ l.length := by
  have hl := bufOK_len h
  unfold bufOK at h
  simp only [Bool.and_eq_true, decide_eq_true_eq] at h
  exact ⟨hl, h.1.2.1, h.1.2.2, h.2.1, h.2.2⟩
theorem laws_szInt64S.eq {l : List Int} {a : Int} (h0 : 0 ≤ a) (h1 : a ≤ 1048576) (hl : l.length ≤ 9223372036854775807) : laws_szInt64S.f l a = some (if a < (l.length : Int) then -1 else a - (l.length : Int)) := by
  unfold laws_szInt64S.f
  rw [wrap_in (by omega) (by omega)]
  by_cases h : a < (l.length : Int)
  · rw [if_pos (by omega), if_pos h]
  · rw [if_neg (by omega), if_neg h]
theorem laws_szBuf.eq {l : List Int} {a c m : Int} (h0 : 0 ≤ a) (h1 : a ≤ 1048576) (hl : l.length ≤ 9223372036854775807) : laws_szBuf.f l c m a = some (if a < (l.length : Int) then -1 else a - (l.length : Int)) := by
  unfold laws_szBuf.f
  rw [laws_szInt64S.eq h0 h1 hl]
  simp only [Option.bind_some]
  by_cases h : a < (l.length : Int)
  · rw [if_pos h, if_pos (by omega)]
  · rw [if_neg h, if_neg (by omega)]
theorem laws_toInt64S.loop (l : List Int) (hl : l.length ≤ 1048576) (d : Nat) : ∀ (k i : Nat), i ≤ l.length → l.length - i = d → d < k → laws_toInt64S.l0 k l (l.take i ++ List.replicate (l.length - i) 0) (i : Int) = some l := by
  induction d with
  | zero =>
    intro k i hi hd hk
    obtain ⟨k, rfl⟩ : ∃ m, k = m + 1 := ⟨k - 1, by omega⟩
    obtain rfl : i = l.length := by omega
    simp only [laws_toInt64S.l0]
    rw [if_neg (by omega)]
    simp
  | succ d ih =>
    intro k i hi hd hk
    obtain ⟨k, rfl⟩ : ∃ m, k = m + 1 := ⟨k - 1, by omega⟩
    have hlt : i < l.length := by omega
    simp only [laws_toInt64S.l0]
    rw [if_pos (int_lt hlt), if_pos (int_nn i), if_pos (by simp; omega), wrap_succ (by omega), Int.toNat_natCast]
    have hs : (l.take i ++ List.replicate (l.length - i) 0).set i (rd l (i : Int)) = l.take (i + 1) ++ List.replicate (l.length - (i + 1)) 0 := by
      have h1 : (l.take i).length = i := by simp; omega
      rw [List.set_append_right _ _ (by omega), h1, Nat.sub_self, show l.length - i = (l.length - (i + 1)) + 1 by omega, List.replicate_succ, List.set_cons_zero, List.take_succ_eq_append_getElem hlt, rd_nat, List.getD_eq_getElem?_getD, List.getElem?_eq_getElem hlt, List.append_assoc]
      rfl
    rw [hs]
    exact ih k (i + 1) (by omega) (by omega) (by omega)
theorem laws_toInt64S.eq {l : List Int} {k : Nat} (hl : l.length ≤ 1048576) (hk : l.length < k) : laws_toInt64S.f k l = some l := by
  unfold laws_toInt64S.f
  rw [if_pos (by omega), if_pos (by omega), Int.toNat_natCast]
  have := laws_toInt64S.loop l hl l.length k 0 (by omega) (by omega) hk
  simpa using this
theorem laws_toBuf.eq {l : List Int} {c m : Int} {k : Nat} (hl : l.length ≤ 1048576) (hk : l.length < k) : laws_toBuf.f k l c m = some (l, c, m) := by
  unfold laws_toBuf.f
  rw [laws_toInt64S.eq hl hk]
  rfl
theorem laws_eqInt64S.loop (a b : List Int) (hab : a.length = b.length) (hl : a.length ≤ 1048576) (d : Nat) : ∀ (k i : Nat), i ≤ a.length → a.length - i = d → d < k → laws_eqInt64S.l0 k a b (i : Int) = some (decide (a.drop i = b.drop i)) := by
  induction d with
  | zero =>
    intro k i hi hd hk
    obtain ⟨k, rfl⟩ : ∃ m, k = m + 1 := ⟨k - 1, by omega⟩
    simp only [laws_eqInt64S.l0]
    rw [if_neg (by omega), List.drop_eq_nil_of_le (by omega), List.drop_eq_nil_of_le (by omega)]
    rfl
  | succ d ih =>
    intro k i hi hd hk
    obtain ⟨k, rfl⟩ : ∃ m, k = m + 1 := ⟨k - 1, by omega⟩
    have hlt : i < a.length := by omega
    simp only [laws_eqInt64S.l0]
    rw [if_pos (int_lt hlt), if_pos (int_nn i), if_pos (by omega), wrap_succ (by omega), ih k (i + 1) (by omega) (by omega) (by omega), drop_rd hlt, drop_rd (show i < b.length by omega)]
    by_cases h : rd a (i : Int) = rd b (i : Int)
    · rw [if_pos h, h]
      simp
    · rw [if_neg h]
      simp [h]
theorem laws_eqInt64S.eq {a b : List Int} {k : Nat} (hl : a.length ≤ 1048576) (hk : a.length < k) : laws_eqInt64S.f k a b = some (decide (a = b)) := by
  unfold laws_eqInt64S.f
  by_cases h : a.length = b.length
  · rw [if_pos (by omega)]
    have := laws_eqInt64S.loop a b h hl a.length k 0 (by omega) (by omega) hk
    simpa using this
  · rw [if_neg (by omega)]
    refine congrArg some (decide_eq_false (fun e => h (by rw [e]))).symm
theorem laws_eqBuf.eq {a b : List Int} {c m c' m' : Int} {k : Nat} (hl : a.length ≤ 1048576) (hk : a.length < k) : laws_eqBuf.f k a c m b c' m' = some (decide (a = b ∧ c = c' ∧ m = m')) := by
  unfold laws_eqBuf.f
  rw [laws_eqInt64S.eq hl hk]
  simp only [Option.bind_some, decide_eq_true_eq]
  by_cases h1 : a = b
  · by_cases h2 : c = c'
    · by_cases h3 : m = m'
      · simp [h1, h2, h3]
      · simp [h1, h2, h3]
    · simp [h1, h2]
  · simp [h1]
theorem spec_l01Point.eq (a : Int) : spec_l01Point.f a = some (isPt a) := by
  simp only [spec_l01Point.f, isPt]
  (repeat' split) <;> (refine some_b ?_; simp only [Bool.not_eq_true', Bool.not_false, decide_eq_true_eq, decide_eq_false_iff_not, Bool.false_eq_true]; first | omega | (rw [false_iff]; omega) | (rw [true_iff]; omega))
theorem spec_PointsRight.loop (l : List Int) (hl : l.length ≤ 300) (d : Nat) : ∀ (k i : Nat), i ≤ l.length → l.length - i = d → d < k → spec_PointsRight.l0 k l (i : Int) = some ((l.drop i).all isPt) := by
  induction d with
  | zero =>
    intro k i hi hd hk
    obtain ⟨k, rfl⟩ : ∃ m, k = m + 1 := ⟨k - 1, by omega⟩
    simp only [spec_PointsRight.l0]
    rw [if_neg (by omega), List.drop_eq_nil_of_le (by omega)]
    rfl
  | succ d ih =>
    intro k i hi hd hk
    obtain ⟨k, rfl⟩ : ∃ m, k = m + 1 := ⟨k - 1, by omega⟩
    have hlt : i < l.length := by omega
    simp only [spec_PointsRight.l0]
    rw [if_pos (int_lt hlt), if_pos (int_nn i), spec_l01Point.eq, wrap_succ (by omega), ih k (i + 1) (by omega) (by omega) (by omega), drop_rd hlt]
    simp only [Option.bind_some, List.all_cons]
    cases isPt (rd l (i : Int)) <;> simp
theorem spec_PointsRight.eq (l : List Int) {k : Nat} (hk : 300 < k) : spec_PointsRight.f k l = some (ptsOK l) := by
  unfold spec_PointsRight.f ptsOK
  by_cases h : l.length ≤ 300
  · rw [if_neg (by omega)]
    have := spec_PointsRight.loop l h l.length k 0 (by omega) (by omega) (by omega)
    simp only [h, decide_true, Bool.true_and]
    simpa using this
  · rw [if_pos (by omega)]
    simp [h]
theorem spec_BufRight.eq (l : List Int) (c m : Int) {k : Nat} (hk : 300 < k) : spec_BufRight.f k l c m = some (bufOK l c m) := by
  unfold spec_BufRight.f bufOK
  rw [spec_PointsRight.eq l hk]
  simp only [Option.bind_some]
  cases ptsOK l
  · simp
  · simp only [if_true, Bool.true_and]
    (repeat' split) <;> (refine some_b ?_; simp only [Bool.and_eq_true, decide_eq_true_eq, Bool.false_eq_true]; first | omega | (rw [false_iff]; omega))
/-! ### lines of points -/
def stL (l : List Int) : Nat → Nat
  | 0 => 0
  | n + 1 => if rd l (n : Int) = 10 then n + 1 else stL l n
def ctL (l : List Int) : Nat → Nat
  | 0 => 0
  | n + 1 => if rd l (n : Int) = 10 then ctL l n + 1 else ctL l n
def lnL (l : List Int) : Nat → List Int
  | 0 => [0]
  | n + 1 => if rd l (n : Int) = 10 then lnL l n ++ [((n + 1 : Nat) : Int)] else lnL l n
def enF (l : List Int) : Nat → Nat → Nat
  | 0, n => n
  | f + 1, n => if rd l (n : Int) = 10 then n else enF l f (n + 1)
/-- where the line of a place ends -/
def enL (l : List Int) (n : Nat) : Nat := enF l (l.length - n) n
theorem stL_le (l : List Int) (n : Nat) : stL l n ≤ n := by
  induction n with
  | zero => exact Nat.le_refl _
  | succ n ih =>
    unfold stL
    split <;> omega
theorem ctL_le (l : List Int) (n : Nat) : ctL l n ≤ n := by
  induction n with
  | zero => exact Nat.le_refl _
  | succ n ih =>
    unfold ctL
    split <;> omega
theorem ctL_mono (l : List Int) (n m : Nat) (h : n ≤ m) : ctL l n ≤ ctL l m := by
  induction m with
  | zero => obtain rfl : n = 0 := by omega
            exact Nat.le_refl _
  | succ m ih =>
    by_cases e : n = m + 1
    · rw [e]; exact Nat.le_refl _
    · have := ih (by omega)
      show ctL l n ≤ if rd l (m : Int) = 10 then ctL l m + 1 else ctL l m
      split <;> omega
theorem lnL_length (l : List Int) (n : Nat) : (lnL l n).length = ctL l n + 1 := by
  induction n with
  | zero => rfl
  | succ n ih =>
    unfold lnL ctL
    split
    · rw [List.length_append, ih]; rfl
    · exact ih
theorem enF_le (l : List Int) (f : Nat) : ∀ n, n ≤ enF l f n ∧ enF l f n ≤ n + f := by
  induction f with
  | zero => intro n; exact ⟨Nat.le_refl _, Nat.le_refl _⟩
  | succ f ih =>
    intro n
    unfold enF
    split
    · omega
    · have := ih (n + 1); omega
theorem enL_ge (l : List Int) (n : Nat) : n ≤ enL l n := (enF_le l _ n).1
theorem enL_le (l : List Int) (n : Nat) (h : n ≤ l.length) : enL l n ≤ l.length := by have := (enF_le l (l.length - n) n).2; unfold enL; omega
theorem enL_here {l : List Int} {n : Nat} (h : n < l.length) (h10 : rd l (n : Int) = 10) : enL l n = n := by
  unfold enL
  obtain ⟨f, hf⟩ : ∃ f, l.length - n = f + 1 := ⟨l.length - n - 1, by omega⟩
  rw [hf]
  simp only [enF]
  rw [if_pos h10]
theorem enL_next {l : List Int} {n : Nat} (h : n < l.length) (h10 : ¬ rd l (n : Int) = 10) : enL l n = enL l (n + 1) := by
  unfold enL
  obtain ⟨f, hf⟩ : ∃ f, l.length - n = f + 1 := ⟨l.length - n - 1, by omega⟩
  rw [hf, show l.length - (n + 1) = f by omega]
  simp only [enF]
  rw [if_neg h10]
theorem enL_end {l : List Int} {n : Nat} (h : ¬ n < l.length) : enL l n = n := by
  unfold enL
  rw [show l.length - n = 0 by omega]
  rfl
theorem rd_app_left {a b : List Int} {i : Nat} (h : i < a.length) : rd (a ++ b) (i : Int) = rd a (i : Int) := by
  rw [rd_nat, rd_nat, List.getD_eq_getElem?_getD, List.getD_eq_getElem?_getD, List.getElem?_append_left h]
theorem rd_app_last (a : List Int) (x : Int) : rd (a ++ [x]) (a.length : Int) = x := by
  rw [rd_nat, List.getD_eq_getElem?_getD, List.getElem?_append_right (Nat.le_refl _), Nat.sub_self]
  rfl
theorem lnL_last (l : List Int) (n : Nat) : rd (lnL l n) (ctL l n : Int) = (stL l n : Int) := by
  induction n with
  | zero => rfl
  | succ n ih =>
    unfold lnL ctL stL
    split
    · have := rd_app_last (lnL l n) ((n + 1 : Nat) : Int)
      rw [lnL_length] at this
      exact this
    · exact ih
theorem lnL_at (l : List Int) (a n : Nat) (h : a ≤ n) : rd (lnL l n) (ctL l a : Int) = (stL l a : Int) := by
  induction n with
  | zero => obtain rfl : a = 0 := by omega
            rfl
  | succ n ih =>
    by_cases e : a = n + 1
    · rw [e]; exact lnL_last l (n + 1)
    · have h1 := ih (by omega)
      unfold lnL
      split
      · rw [rd_app_left (by rw [lnL_length]; have := ctL_mono l a n (by omega); omega)]
        exact h1
      · exact h1
theorem lnL_stay (l : List Int) (i n m : Nat) (h : n ≤ m) (hi : i ≤ ctL l n) : rd (lnL l m) (i : Int) = rd (lnL l n) (i : Int) := by
  induction m with
  | zero => obtain rfl : n = 0 := by omega
            rfl
  | succ m ih =>
    by_cases e : n = m + 1
    · rw [e]
    · have h1 := ih (by omega)
      show rd (if rd l (m : Int) = 10 then lnL l m ++ [((m + 1 : Nat) : Int)] else lnL l m) (i : Int) = _
      split
      · rw [rd_app_left (by rw [lnL_length]; have := ctL_mono l n m (by omega); omega)]
        exact h1
      · exact h1
theorem lnL_lt (l : List Int) (a : Nat) : ∀ i, i < ctL l a → rd (lnL l a) (i : Int) < (stL l a : Int) := by
  induction a with
  | zero => intro i hi; exact absurd hi (by simp [ctL])
  | succ a ih =>
    intro i hi
    have hs := stL_le l a
    unfold ctL at hi
    unfold lnL stL
    split at hi
    · rename_i h10
      rw [if_pos h10, if_pos h10, rd_app_left (by rw [lnL_length]; omega)]
      by_cases e : i = ctL l a
      · rw [e, lnL_last]; omega
      · have := ih i (by omega); omega
    · rename_i h10
      rw [if_neg h10, if_neg h10]
      exact ih i hi
/-- between a line's begin and a place of it stands no 10 -/
theorem stL_none (l : List Int) (n : Nat) : ∀ i, stL l n ≤ i → i < n → ¬ rd l (i : Int) = 10 := by
  induction n with
  | zero => intro i _ h; omega
  | succ n ih =>
    intro i h1 h2
    unfold stL at h1
    split at h1
    · omega
    · by_cases e : i = n
      · rw [e]; assumption
      · exact ih i h1 (by omega)
theorem enL_of (l : List Int) (n : Nat) (hn : n < l.length) (h10 : rd l (n : Int) = 10) (d : Nat) : ∀ s, n - s = d → s ≤ n → (∀ i, s ≤ i → i < n → ¬ rd l (i : Int) = 10) → enL l s = n := by
  induction d with
  | zero => intro s hd hs _; obtain rfl : s = n := by omega
            exact enL_here hn h10
  | succ d ih =>
    intro s hd hs h
    rw [enL_next (by omega) (h s (Nat.le_refl _) (by omega))]
    exact ih (s + 1) (by omega) (by omega) (fun i h1 h2 => h i (by omega) h2)
theorem lnL_ends (l : List Int) (n : Nat) (hn : n ≤ l.length) : ∀ j, j < ctL l n → ∃ a b : Nat, rd (lnL l n) (j : Int) = (a : Int) ∧ rd (lnL l n) ((j + 1 : Nat) : Int) = (b : Int) ∧ enL l a + 1 = b ∧ b ≤ n := by
  induction n with
  | zero => intro j hj; exact absurd hj (by simp [ctL])
  | succ n ih =>
    intro j hj
    unfold ctL at hj
    unfold lnL
    split at hj
    · rename_i h10
      rw [if_pos h10]
      by_cases e : j = ctL l n
      · refine ⟨stL l n, n + 1, ?_, ?_, ?_, Nat.le_refl _⟩
        · rw [e, rd_app_left (by rw [lnL_length]; omega), lnL_last]
        · rw [e, show ctL l n + 1 = (lnL l n).length from (lnL_length l n).symm, rd_app_last]
        · rw [enL_of l n (by omega) h10 (n - stL l n) (stL l n) rfl (stL_le l n) (stL_none l n)]
      · obtain ⟨a, b, h1, h2, h3, h4⟩ := ih (by omega) j (by omega)
        exact ⟨a, b, by rw [rd_app_left (by rw [lnL_length]; omega)]; exact h1, by rw [rd_app_left (by rw [lnL_length]; omega)]; exact h2, h3, by omega⟩
    · rename_i h10
      rw [if_neg h10]
      obtain ⟨a, b, h1, h2, h3, h4⟩ := ih (by omega) j hj
      exact ⟨a, b, h1, h2, h3, by omega⟩
/-- where line j begins -/
def bgL (l : List Int) : Nat → Nat
  | 0 => 0
  | j + 1 => enL l (bgL l j) + 1
theorem lnL_bg (l : List Int) : ∀ j, j ≤ ctL l l.length → rd (lnL l l.length) (j : Int) = (bgL l j : Int) ∧ bgL l j ≤ l.length := by
  intro j
  induction j with
  | zero =>
    intro _
    refine ⟨?_, Nat.zero_le _⟩
    have := lnL_at l 0 l.length (Nat.zero_le _)
    exact this
  | succ j ih =>
    intro hj
    obtain ⟨a, b, h1, h2, h3, h4⟩ := lnL_ends l l.length (Nat.le_refl _) j (by omega)
    obtain ⟨h5, _⟩ := ih (by omega)
    rw [h1] at h5
    have h6 : a = bgL l j := by omega
    rw [h2]
    subst h6
    refine ⟨?_, ?_⟩
    · show (b : Int) = ((enL l (bgL l j) + 1 : Nat) : Int)
      rw [h3]
    · show enL l (bgL l j) + 1 ≤ _
      omega
/-- the place of a spot -/
def plL (l : List Int) (line col : Int) : Int :=
  let a := bgL l (min (max line 0) (ctL l l.length : Int)).toNat
  (a : Int) + min (max col 0) ((enL l a : Int) - (a : Int))
theorem spec_l03Start.loop (l : List Int) (c m : Int) (hl : l.length ≤ 1048576) (n : Nat) : ∀ k, n ≤ l.length → n < k → spec_l03Start.l0 k (n : Int) l c m = some (stL l n : Int) := by
  induction n with
  | zero =>
    intro k _ hk
    obtain ⟨k, rfl⟩ : ∃ m, k = m + 1 := ⟨k - 1, by omega⟩
    rfl
  | succ n ih =>
    intro k hn hk
    obtain ⟨k, rfl⟩ : ∃ m, k = m + 1 := ⟨k - 1, by omega⟩
    have e : wrap64 (((n + 1 : Nat) : Int) - 1) = (n : Int) := by unfold wrap64; omega
    simp only [spec_l03Start.l0, stL]
    rw [e, if_pos (by omega), if_pos (int_nn n), if_pos (by omega)]
    split
    · rfl
    · exact ih k (by omega) (by omega)
theorem spec_l03Start.eq {l : List Int} {c m : Int} {n k : Nat} (hl : l.length ≤ 1048576) (hn : n ≤ l.length) (hk : n < k) : spec_l03Start.f k l c m (n : Int) = some (stL l n : Int) := spec_l03Start.loop l c m hl n k hn hk
theorem spec_l03Spot.loop (l : List Int) (c m : Int) (hl : l.length ≤ 1048576) (a : Nat) (ha : a ≤ l.length) (d : Nat) : ∀ k i, i ≤ a → a - i = d → d + l.length + 1 < k → spec_l03Spot.l0 k (a : Int) (ctL l i : Int) (i : Int) l c m = some ((ctL l a : Int), (a : Int) - (stL l a : Int)) := by
  induction d with
  | zero =>
    intro k i hi hd hk
    obtain ⟨k, rfl⟩ : ∃ m, k = m + 1 := ⟨k - 1, by omega⟩
    obtain rfl : i = a := by omega
    have hs := stL_le l i
    simp only [spec_l03Spot.l0]
    rw [if_neg (by omega), spec_l03Start.eq hl ha (by omega)]
    simp only [Option.bind_some]
    rw [wrap_in (by omega) (by omega)]
  | succ d ih =>
    intro k i hi hd hk
    obtain ⟨k, rfl⟩ : ∃ m, k = m + 1 := ⟨k - 1, by omega⟩
    have hc := ctL_le l i
    have h := ih k (i + 1) (by omega) (by omega) (by omega)
    simp only [ctL] at h
    simp only [spec_l03Spot.l0]
    rw [if_pos (by omega), if_pos (int_nn i), if_pos (by omega), wrap_succ (i := i) (by omega), wrap_succ (i := ctL l i) (by omega)]
    split
    · rename_i h10
      rw [if_pos h10] at h
      exact h
    · rename_i h10
      rw [if_neg h10] at h
      exact h
theorem spec_l03Spot.eq {l : List Int} {c m : Int} {n k : Nat} (hl : l.length ≤ 1048576) (hn : n ≤ l.length) (hk : n + l.length + 1 < k) : spec_l03Spot.f k l c m (n : Int) = some ((ctL l n : Int), (n : Int) - (stL l n : Int)) := spec_l03Spot.loop l c m hl n hn n k 0 (Nat.zero_le _) (by omega) hk
theorem spec_LineCount.eq (l : List Int) (c m : Int) {k : Nat} (hk : 700 < k) : spec_LineCount.f k l c m = some (if bufOK l c m = true then (ctL l l.length : Int) + 1 else 0) := by
  unfold spec_LineCount.f
  rw [spec_BufRight.eq l c m (by omega)]
  simp only [Option.bind_some]
  by_cases h : bufOK l c m = true
  · have hl := bufOK_len h
    have hc := ctL_le l l.length
    rw [if_pos h, if_pos h, spec_l03Spot.eq (by omega) (Nat.le_refl _) (by omega)]
    simp only [Option.bind_some]
    rw [wrap_in (by omega) (by omega)]
  · rw [if_neg h, if_neg h]
theorem spec_l03End.loop (l : List Int) (c m : Int) (hl : l.length ≤ 1048576) (d : Nat) : ∀ (k n : Nat), n ≤ l.length → l.length - n = d → d < k → spec_l03End.l0 k (n : Int) l c m = some (enL l n : Int) := by
  induction d with
  | zero =>
    intro k n hn hd hk
    obtain ⟨k, rfl⟩ : ∃ m, k = m + 1 := ⟨k - 1, by omega⟩
    simp only [spec_l03End.l0]
    rw [if_neg (by omega), enL_end (by omega)]
  | succ d ih =>
    intro k n hn hd hk
    obtain ⟨k, rfl⟩ : ∃ m, k = m + 1 := ⟨k - 1, by omega⟩
    have hlt : n < l.length := by omega
    simp only [spec_l03End.l0]
    rw [if_pos (int_lt hlt), if_pos (int_nn n)]
    by_cases h : rd l (n : Int) = 10
    · rw [if_pos h, enL_here hlt h]
    · rw [if_neg h, wrap_succ (by omega), ih k (n + 1) (by omega) (by omega) (by omega), enL_next hlt h]
theorem spec_l03End.eq {l : List Int} {c m : Int} {n k : Nat} (hl : l.length ≤ 1048576) (hn : n ≤ l.length) (hk : l.length < k) : spec_l03End.f k l c m (n : Int) = some (enL l n : Int) := spec_l03End.loop l c m hl (l.length - n) k n hn rfl (by omega)
theorem impl_within.eq (a b c : Int) : impl_within.f a b c = some (decide (b ≤ a ∧ a ≤ c)) := by
  unfold impl_within.f
  by_cases h : b ≤ a <;> simp [h]
theorem impl_isPoint.eq (a : Int) : impl_isPoint.f a = some (isPt a) := by
  simp only [impl_isPoint.f, impl_within.eq, Option.bind_some, isPt, decide_eq_true_eq]
  split <;> (refine some_b ?_; simp only [Bool.not_eq_true', decide_eq_true_eq, decide_eq_false_iff_not, Bool.false_eq_true]; first | omega | (rw [false_iff]; omega))
theorem slices_IndexFunc_sint64_int64.loop (l : List Int) (hl : l.length ≤ 300) (d : Nat) : ∀ (k i : Nat), i ≤ l.length → l.length - i = d → d < k → ∃ r : Int, slices_IndexFunc_sint64_int64.l0 k l (l.length : Int) (i : Int) = some r ∧ (0 ≤ r ↔ (l.drop i).all isPt = false) := by
  induction d with
  | zero =>
    intro k i hi hd hk
    obtain ⟨k, rfl⟩ : ∃ m, k = m + 1 := ⟨k - 1, by omega⟩
    refine ⟨-1, ?_, ?_⟩
    · simp only [slices_IndexFunc_sint64_int64.l0]
      rw [if_neg (by omega)]
    · rw [List.drop_eq_nil_of_le (by omega)]
      simp
  | succ d ih =>
    intro k i hi hd hk
    obtain ⟨k, rfl⟩ : ∃ m, k = m + 1 := ⟨k - 1, by omega⟩
    have hlt : i < l.length := by omega
    have hp : impl_PointsRight_1.f (rd l (i : Int)) = some (!isPt (rd l (i : Int))) := by
      unfold impl_PointsRight_1.f
      rw [impl_isPoint.eq]
      rfl
    simp only [slices_IndexFunc_sint64_int64.l0]
    rw [if_pos (int_lt hlt), if_pos (int_nn i), if_pos (int_lt hlt), hp, wrap_succ (by omega), drop_rd hlt]
    simp only [Option.bind_some, List.all_cons]
    cases isPt (rd l (i : Int))
    · exact ⟨i, by simp, by simp⟩
    · simpa using ih k (i + 1) (by omega) (by omega) (by omega)
theorem impl_PointsRight.eq (l : List Int) {k : Nat} (hk : 300 < k) : impl_PointsRight.f k l = some (ptsOK l) := by
  unfold impl_PointsRight.f ptsOK
  by_cases h : l.length ≤ 300
  · rw [if_pos (by omega)]
    obtain ⟨r, h1, h2⟩ := slices_IndexFunc_sint64_int64.loop l h l.length k 0 (by omega) (by omega) (by omega)
    unfold slices_ContainsFunc_sint64_int64.f slices_IndexFunc_sint64_int64.f
    rw [show ((0 : Nat) : Int) = 0 from rfl] at h1
    rw [h1]
    simp only [Option.bind_some, h, decide_true, Bool.true_and]
    rw [List.drop_zero] at h2
    refine some_b ?_
    cases hq : l.all isPt
    · have := h2.2 hq; simp; omega
    · have : ¬ 0 ≤ r := fun h3 => by rw [h2.1 h3] at hq; cases hq
      simp; omega
  · rw [if_neg (by omega)]
    simp [h]
theorem impl_Buf_isPlace.eq (l : List Int) (c m a : Int) : impl_Buf_isPlace.f l c m a = some (decide (0 ≤ a ∧ a ≤ l.length)) := by
  simp only [impl_Buf_isPlace.f, impl_size_int64.f, impl_within.eq, Option.bind_some]
theorem impl_BufRight.eq (l : List Int) (c m : Int) {k : Nat} (hk : 300 < k) : impl_BufRight.f k l c m = some (bufOK l c m) := by
  unfold impl_BufRight.f bufOK
  rw [impl_PointsRight.eq l hk]
  simp only [Option.bind_some, impl_Buf_isPlace.eq]
  cases ptsOK l
  · simp
  · simp only [if_true, Bool.true_and]
    by_cases h : 0 ≤ c ∧ c ≤ (l.length : Int) <;> simp [h]
theorem impl_Buf_lines.loop (l : List Int) (hl : l.length ≤ 1048576) (d : Nat) : ∀ k i, i ≤ l.length → l.length - i = d → d < k → impl_Buf_lines.l0 k (lnL l i) l (l.length : Int) (i : Int) = some (lnL l l.length) := by
  induction d with
  | zero =>
    intro k i hi hd hk
    obtain ⟨k, rfl⟩ : ∃ m, k = m + 1 := ⟨k - 1, by omega⟩
    obtain rfl : i = l.length := by omega
    simp only [impl_Buf_lines.l0]
    rw [if_neg (by omega)]
  | succ d ih =>
    intro k i hi hd hk
    obtain ⟨k, rfl⟩ : ∃ m, k = m + 1 := ⟨k - 1, by omega⟩
    have hc := ctL_le l i
    have hn := lnL_length l i
    have h := ih k (i + 1) (by omega) (by omega) (by omega)
    simp only [lnL] at h
    simp only [impl_Buf_lines.l0]
    rw [if_pos (by omega), if_pos (int_nn i), if_pos (by omega), wrap_succ (i := i) (by omega)]
    split
    · rename_i h10
      rw [if_pos h10] at h
      rw [if_pos (by omega)]
      exact h
    · rename_i h10
      rw [if_neg h10] at h
      exact h
theorem impl_Buf_lines.eq {l : List Int} {c m : Int} {k : Nat} (hl : l.length ≤ 1048576) (hk : l.length < k) : impl_Buf_lines.f k l c m = some (lnL l l.length) := impl_Buf_lines.loop l hl l.length k 0 (Nat.zero_le _) (by omega) hk
theorem impl_size_int64.eq (l : List Int) : impl_size_int64.f l = some (l.length : Int) := rfl
theorem impl_Buf_end.loop (l : List Int) (c m : Int) (hl : l.length ≤ 1048576) (d : Nat) : ∀ (k n : Nat), n ≤ l.length → l.length - n = d → d < k → impl_Buf_end.l0 k (n : Int) l c m = some (enL l n : Int) := by
  induction d with
  | zero =>
    intro k n hn hd hk
    obtain ⟨k, rfl⟩ : ∃ m, k = m + 1 := ⟨k - 1, by omega⟩
    simp only [impl_Buf_end.l0, impl_size_int64.eq, Option.bind_some]
    rw [if_neg (by omega), enL_end (by omega)]
  | succ d ih =>
    intro k n hn hd hk
    obtain ⟨k, rfl⟩ : ∃ m, k = m + 1 := ⟨k - 1, by omega⟩
    have hlt : n < l.length := by omega
    simp only [impl_Buf_end.l0, impl_size_int64.eq, Option.bind_some]
    rw [if_pos (int_lt hlt), if_pos (int_nn n), if_pos (int_lt hlt)]
    by_cases h : rd l (n : Int) = 10
    · rw [if_pos h, enL_here hlt h]
    · rw [if_neg h, wrap_succ (by omega), ih k (n + 1) (by omega) (by omega) (by omega), enL_next hlt h]
theorem impl_Buf_end.eq {l : List Int} {c m : Int} {n k : Nat} (hl : l.length ≤ 1048576) (hn : n ≤ l.length) (hk : l.length < k) : impl_Buf_end.f k l c m (n : Int) = some (enL l n : Int) := impl_Buf_end.loop l c m hl (l.length - n) k n hn rfl (by omega)
theorem spec_PlaceOf.loop (l : List Int) (c m line col : Int) (hl : l.length ≤ 300) (L : Nat) (hL : L ≤ ctL l l.length) (j : Nat) : ∀ k, j ≤ L → j + 301 < k → spec_PlaceOf.l0 k (j : Int) (bgL l (L - j) : Int) l c m line col = some ((bgL l L : Int) + min (max col 0) ((enL l (bgL l L) : Int) - (bgL l L : Int))) := by
  induction j with
  | zero =>
    intro k hj hk
    obtain ⟨k, rfl⟩ : ∃ m, k = m + 1 := ⟨k - 1, by omega⟩
    have hb := (lnL_bg l L hL).2
    have h1 := enL_ge l (bgL l L)
    have h2 := enL_le l (bgL l L) hb
    simp only [spec_PlaceOf.l0, Nat.sub_zero]
    rw [if_neg (by omega), spec_l03End.eq (by omega) hb (by omega)]
    simp only [Option.bind_some]
    rw [wrap_in (by omega) (by omega)]
    by_cases g1 : col < 0
    · rw [if_pos g1]
      refine congrArg some ?_
      omega
    · rw [if_neg g1]
      by_cases g2 : col > (enL l (bgL l L) : Int) - (bgL l L : Int)
      · rw [if_pos g2]
        refine congrArg some ?_
        omega
      · rw [if_neg g2, wrap_in (by omega) (by omega)]
        refine congrArg some ?_
        omega
  | succ j ih =>
    intro k hj hk
    obtain ⟨k, rfl⟩ : ∃ m, k = m + 1 := ⟨k - 1, by omega⟩
    have hct := ctL_le l l.length
    have hb := (lnL_bg l (L - (j + 1)) (by omega)).2
    have h2 := enL_le l (bgL l (L - (j + 1))) hb
    simp only [spec_PlaceOf.l0]
    rw [if_pos (by omega), spec_l03End.eq (by omega) hb (by omega)]
    simp only [Option.bind_some]
    rw [wrap_in (show -9223372036854775808 ≤ ((j + 1 : Nat) : Int) - 1 by omega) (by omega), wrap_in (show -9223372036854775808 ≤ (enL l (bgL l (L - (j + 1))) : Int) + 1 by omega) (by omega), show ((j + 1 : Nat) : Int) - 1 = (j : Int) by omega]
    have e : L - j = (L - (j + 1)) + 1 := by omega
    have := ih k (by omega) (by omega)
    rw [e] at this
    exact this
def placeV (l : List Int) (c m line col : Int) : Int := if bufOK l c m = true then plL l line col else 0
theorem spec_PlaceOf.eq (l : List Int) (c m line col : Int) {k : Nat} (hk : 700 < k) : spec_PlaceOf.f k l c m line col = some (placeV l c m line col) := by
  unfold spec_PlaceOf.f placeV
  rw [spec_BufRight.eq _ _ _ (by omega), spec_LineCount.eq _ _ _ (by omega)]
  simp only [Option.bind_some]
  by_cases h : bufOK l c m = true
  · have hl := bufOK_len h
    have hc := ctL_le l l.length
    rw [if_pos h, if_pos h, if_pos h, wrap_in (by omega) (by omega)]
    have e1 : spec_l01Min.f line ((ctL l l.length : Int) + 1 - 1) = some (min line (ctL l l.length : Int)) := by
      unfold spec_l01Min.f
      split <;> refine congrArg some ?_ <;> omega
    rw [e1]
    simp only [Option.bind_some]
    have e2 : spec_l01Max.f 0 (min line (ctL l l.length : Int)) = some (((min (max line 0) (ctL l l.length : Int)).toNat : Nat) : Int) := by
      unfold spec_l01Max.f
      split <;> refine congrArg some ?_ <;> omega
    rw [e2]
    simp only [Option.bind_some]
    have := spec_PlaceOf.loop l c m line col hl (min (max line 0) (ctL l l.length : Int)).toNat (by omega) (min (max line 0) (ctL l l.length : Int)).toNat k (Nat.le_refl _) (by omega)
    rw [Nat.sub_self] at this
    exact this
  · rw [if_neg h, if_neg h]
theorem impl_Buf_place.eq (l : List Int) (c m line col : Int) {k : Nat} (hl : l.length ≤ 300) (hk : 700 < k) : impl_Buf_place.f k l c m line col = some (plL l line col) := by
  unfold impl_Buf_place.f
  have hc := ctL_le l l.length
  rw [impl_Buf_lines.eq (by omega) (by omega)]
  simp only [Option.bind_some, impl_size_int64.eq, lnL_length]
  have e1 : mn (mx line 0) (wrap64 (((ctL l l.length + 1 : Nat) : Int) - 1)) = (((min (max line 0) (ctL l l.length : Int)).toNat : Nat) : Int) := by
    rw [wrap_in (by omega) (by omega)]
    unfold mn mx
    split <;> split <;> omega
  rw [e1, if_pos (by omega), if_pos (by omega)]
  obtain ⟨h1, h2⟩ := lnL_bg l (min (max line 0) (ctL l l.length : Int)).toNat (by omega)
  have h3 := enL_ge l (bgL l (min (max line 0) (ctL l l.length : Int)).toNat)
  have h4 := enL_le l (bgL l (min (max line 0) (ctL l l.length : Int)).toNat) h2
  rw [h1, impl_Buf_end.eq (by omega) h2 (by omega)]
  simp only [Option.bind_some]
  refine congrArg some ?_
  unfold plL
  rw [wrap_in (show -9223372036854775808 ≤ (enL l (bgL l (min (max line 0) (ctL l l.length : Int)).toNat) : Int) - (bgL l (min (max line 0) (ctL l l.length : Int)).toNat : Int) by omega) (by omega)]
  have e2 : mn (mx col 0) ((enL l (bgL l (min (max line 0) (ctL l l.length : Int)).toNat) : Int) - (bgL l (min (max line 0) (ctL l l.length : Int)).toNat : Int)) = min (max col 0) ((enL l (bgL l (min (max line 0) (ctL l l.length : Int)).toNat) : Int) - (bgL l (min (max line 0) (ctL l l.length : Int)).toNat : Int)) := by
    unfold mn mx
    split <;> split <;> omega
  rw [e2, wrap_in (by omega) (by omega)]
theorem impl_PlaceOf.eq (l : List Int) (c m line col : Int) {k : Nat} (hk : 700 < k) : impl_PlaceOf.f k l c m line col = some (placeV l c m line col) := by
  unfold impl_PlaceOf.f placeV
  rw [impl_BufRight.eq _ _ _ (by omega)]
  simp only [Option.bind_some]
  by_cases h : bufOK l c m = true
  · have hl := bufOK_len h
    rw [if_pos h, if_pos h, impl_Buf_place.eq _ _ _ _ _ hl hk]
    rfl
  · rw [if_neg h, if_neg h]

theorem FnExactPlaceOf : laws_FnExactPlaceOf.Pure := by
  intro l c m line col ⟨⟨hl, _⟩, _, _⟩ _
  have hl := maxLen_le hl
  refine ⟨1048600, ?_⟩
  unfold laws_FnExactPlaceOf.f
  rw [laws_szBuf.eq (by omega) (by omega) hl]
  simp only [Option.bind_some]
  by_cases h : (1048576 : Int) < (l.length : Int)
  · rw [if_pos h, if_pos (by omega)]
  · rw [if_neg h, if_neg (by omega), laws_toBuf.eq (by omega) (by omega)]
    simp only [Option.bind_some, laws_toSpot.f]
    rw [spec_PlaceOf.eq _ _ _ _ _ (by omega), impl_PlaceOf.eq _ _ _ _ _ (by omega)]
    simp only [Option.bind_some, if_true, laws_FnExactPlaceOf.j0]
    rw [laws_toBuf.eq (by omega) (by omega)]
    simp only [Option.bind_some]
    rw [laws_eqBuf.eq (by omega) (by omega)]
    simp

end Go.Proofs.Ytoonjomgknlcgaa.Pure
