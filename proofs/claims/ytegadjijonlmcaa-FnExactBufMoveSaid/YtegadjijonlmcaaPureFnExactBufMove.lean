/- Proved: the program's BufMove returns what the reference's returns, for every buffer of at most 2^20 points, every kind, count and point, leaves the buffer as it was, and its answer is memory of its own. -/
import Derived.Test.YtegadjijonlmcaaPFnExactBufMovex11
namespace Go.Proofs.Ytegadjijonlmcaa.Pure
open Go.RowKit Go.Proofs.Ytegadjijonlmcaa.PFnExactBufMove Go.Proofs.YtegadjijonlmcaaW.PrintWords Go.Proofs.YtegadjijonlmcaaW.PrintLast Go.Proofs.YtegadjijonlmcaaW.PrintMore
set_option linter.unusedVariables false
set_option linter.unusedSimpArgs false

/-! ### plain words -/
theorem wrap_in {x : Int} (h0 : -9223372036854775808 ≤ x) (h1 : x ≤ 9223372036854775807) : wrap64 x = x := by unfold wrap64; omega
theorem wrap_succ {i : Nat} (h : i < 4611686018427387904) : wrap64 ((i : Int) + 1) = ((i + 1 : Nat) : Int) := by unfold wrap64; omega
theorem rd_nat (l : List Int) (i : Nat) : rd l (i : Int) = l.getD i 0 := by simp [rd]
theorem drop_rd {l : List Int} {i : Nat} (h : i < l.length) : l.drop i = rd l (i : Int) :: l.drop (i + 1) := by
  rw [rd_nat, List.drop_eq_getElem_cons h, List.getD_eq_getElem?_getD, List.getElem?_eq_getElem h]
  rfl
theorem int_lt {i n : Nat} (h : i < n) : (i : Int) < (n : Int) := by omega
theorem int_nlt {i n : Nat} (h : ¬ i < n) : ¬ (i : Int) < (n : Int) := by omega
theorem int_nn (i : Nat) : (0 : Int) ≤ (i : Int) := by omega
theorem maxLen_le {n : Nat} (h : n ≤ maxLen) : n ≤ 9223372036854775807 := by unfold maxLen at h; exact h
theorem some_b {a b : Bool} (h : a = true ↔ b = true) : some a = some b := congrArg some (Bool.eq_iff_iff.2 h)
def isPt (a : Int) : Bool := decide (0 ≤ a ∧ a ≤ 1114111 ∧ ¬ (55296 ≤ a ∧ a ≤ 57343))
def ptsOK (l : List Int) : Bool := decide (l.length ≤ 300) && l.all isPt
def bufOK (l : List Int) (c m : Int) : Bool := ptsOK l && decide (0 ≤ c ∧ c ≤ l.length) && decide (0 ≤ m ∧ m ≤ l.length)
def isCtl (a : Int) : Bool := decide (a < 32 ∨ a = 127)
def isWide2 (a : Int) : Bool := decide ((4352 ≤ a ∧ a ≤ 4447) ∨ (11904 ≤ a ∧ a ≤ 42191) ∨ (44032 ≤ a ∧ a ≤ 55203) ∨ (63744 ≤ a ∧ a ≤ 64255) ∨ (65281 ≤ a ∧ a ≤ 65376) ∨ (127744 ≤ a ∧ a ≤ 129791))
def wid (a : Int) : Int := if isPt a = true ∧ ¬ (768 ≤ a ∧ a ≤ 879) then (if isCtl a = true ∨ isWide2 a = true then 2 else 1) else 0
def cl2 (a : Int) : Int := if (97 ≤ a ∧ a ≤ 122) ∨ (65 ≤ a ∧ a ≤ 90) ∨ (48 ≤ a ∧ a ≤ 57) ∨ a = 95 ∨ 128 ≤ a then 2 else 3
def cls (a : Int) : Int := if isPt a = true then (if a = 32 ∨ a = 9 ∨ a = 10 then 1 else cl2 a) else 0
theorem ptsOK_len {l : List Int} (h : ptsOK l = true) : l.length ≤ 300 := by
  unfold ptsOK at h
  simp only [Bool.and_eq_true, decide_eq_true_eq] at h
  exact h.1
theorem bufOK_len {l : List Int} {c m : Int} (h : bufOK l c m = true) : l.length ≤ 300 := by
  unfold bufOK at h
  simp only [Bool.and_eq_true] at h
  exact ptsOK_len h.1.1
theorem bufOK_all {l : List Int} {c m : Int} (h : bufOK l c m = true) : l.length ≤ 300 ∧ 0 ≤ c ∧ c ≤ l.length ∧ 0 ≤ m ∧ m ≤ l.length := by
  have hl := bufOK_len h
  unfold bufOK at h
  simp only [Bool.and_eq_true, decide_eq_true_eq] at h
  exact ⟨hl, h.1.2.1, h.1.2.2, h.2.1, h.2.2⟩
theorem laws_szInt64S.eq {l : List Int} {a : Int} (h0 : 0 ≤ a) (h1 : a ≤ 1048576) (hl : l.length ≤ 9223372036854775807) : laws_szInt64S.f l a = some (if a < (l.length : Int) then -1 else a - (l.length : Int)) := by
  unfold laws_szInt64S.f
  rw [wrap_in (by omega) (by omega)]
  by_cases h : a < (l.length : Int)
  · rw [if_pos (by omega), if_pos h]
  · rw [if_neg (by omega), if_neg h]
theorem laws_szBuf.eq {l : List Int} {a c m : Int} (h0 : 0 ≤ a) (h1 : a ≤ 1048576) (hl : l.length ≤ 9223372036854775807) : laws_szBuf.f l c m a = some (if a < (l.length : Int) then -1 else a - (l.length : Int)) := by
  unfold laws_szBuf.f
  rw [laws_szInt64S.eq h0 h1 hl]
  simp only [Option.bind_some]
  by_cases h : a < (l.length : Int)
  · rw [if_pos h, if_pos (by omega)]
  · rw [if_neg h, if_neg (by omega)]
theorem laws_toInt64S.loop (l : List Int) (hl : l.length ≤ 1048576) (d : Nat) : ∀ (k i : Nat), i ≤ l.length → l.length - i = d → d < k → laws_toInt64S.l0 k l (l.take i ++ List.replicate (l.length - i) 0) (i : Int) = some l := by
  induction d with
  | zero =>
    intro k i hi hd hk
    obtain ⟨k, rfl⟩ : ∃ m, k = m + 1 := ⟨k - 1, by omega⟩
    obtain rfl : i = l.length := by omega
    simp only [laws_toInt64S.l0]
    rw [if_neg (by omega)]
    simp
  | succ d ih =>
    intro k i hi hd hk
    obtain ⟨k, rfl⟩ : ∃ m, k = m + 1 := ⟨k - 1, by omega⟩
    have hlt : i < l.length := by omega
    simp only [laws_toInt64S.l0]
    rw [if_pos (int_lt hlt), if_pos (int_nn i), if_pos (by simp; omega), wrap_succ (by omega), Int.toNat_natCast]
    have hs : (l.take i ++ List.replicate (l.length - i) 0).set i (rd l (i : Int)) = l.take (i + 1) ++ List.replicate (l.length - (i + 1)) 0 := by
      have h1 : (l.take i).length = i := by simp; omega
      rw [List.set_append_right _ _ (by omega), h1, Nat.sub_self, show l.length - i = (l.length - (i + 1)) + 1 by omega, List.replicate_succ, List.set_cons_zero, List.take_succ_eq_append_getElem hlt, rd_nat, List.getD_eq_getElem?_getD, List.getElem?_eq_getElem hlt, List.append_assoc]
      rfl
    rw [hs]
    exact ih k (i + 1) (by omega) (by omega) (by omega)
theorem laws_toInt64S.eq {l : List Int} {k : Nat} (hl : l.length ≤ 1048576) (hk : l.length < k) : laws_toInt64S.f k l = some l := by
  unfold laws_toInt64S.f
  rw [if_pos (by omega), if_pos (by omega), Int.toNat_natCast]
  have := laws_toInt64S.loop l hl l.length k 0 (by omega) (by omega) hk
  simpa using this
theorem laws_toBuf.eq {l : List Int} {c m : Int} {k : Nat} (hl : l.length ≤ 1048576) (hk : l.length < k) : laws_toBuf.f k l c m = some (l, c, m) := by
  unfold laws_toBuf.f
  rw [laws_toInt64S.eq hl hk]
  rfl
theorem laws_eqInt64S.loop (a b : List Int) (hab : a.length = b.length) (hl : a.length ≤ 1048576) (d : Nat) : ∀ (k i : Nat), i ≤ a.length → a.length - i = d → d < k → laws_eqInt64S.l0 k a b (i : Int) = some (decide (a.drop i = b.drop i)) := by
  induction d with
  | zero =>
    intro k i hi hd hk
    obtain ⟨k, rfl⟩ : ∃ m, k = m + 1 := ⟨k - 1, by omega⟩
    simp only [laws_eqInt64S.l0]
    rw [if_neg (by omega), List.drop_eq_nil_of_le (by omega), List.drop_eq_nil_of_le (by omega)]
    rfl
  | succ d ih =>
    intro k i hi hd hk
    obtain ⟨k, rfl⟩ : ∃ m, k = m + 1 := ⟨k - 1, by omega⟩
    have hlt : i < a.length := by omega
    simp only [laws_eqInt64S.l0]
    rw [if_pos (int_lt hlt), if_pos (int_nn i), if_pos (by omega), wrap_succ (by omega), ih k (i + 1) (by omega) (by omega) (by omega), drop_rd hlt, drop_rd (show i < b.length by omega)]
    by_cases h : rd a (i : Int) = rd b (i : Int)
    · rw [if_pos h, h]
      simp
    · rw [if_neg h]
      simp [h]
theorem laws_eqInt64S.eq {a b : List Int} {k : Nat} (hl : a.length ≤ 1048576) (hk : a.length < k) : laws_eqInt64S.f k a b = some (decide (a = b)) := by
  unfold laws_eqInt64S.f
  by_cases h : a.length = b.length
  · rw [if_pos (by omega)]
    have := laws_eqInt64S.loop a b h hl a.length k 0 (by omega) (by omega) hk
    simpa using this
  · rw [if_neg (by omega)]
    refine congrArg some (decide_eq_false (fun e => h (by rw [e]))).symm
theorem laws_eqBuf.eq {a b : List Int} {c m c' m' : Int} {k : Nat} (hl : a.length ≤ 1048576) (hk : a.length < k) : laws_eqBuf.f k a c m b c' m' = some (decide (a = b ∧ c = c' ∧ m = m')) := by
  unfold laws_eqBuf.f
  rw [laws_eqInt64S.eq hl hk]
  simp only [Option.bind_some, decide_eq_true_eq]
  by_cases h1 : a = b
  · by_cases h2 : c = c'
    · by_cases h3 : m = m'
      · simp [h1, h2, h3]
      · simp [h1, h2, h3]
    · simp [h1, h2]
  · simp [h1]
/-- the row of marks -/
def mkL : Nat → Int → List Int
  | 0, _ => []
  | n + 1, a => mkL n a ++ [a + (n : Int)]
theorem mkL_zero (a : Int) : mkL 0 a = [] := rfl
theorem mkL_succ (n : Nat) (a : Int) : mkL (n + 1) a = mkL n a ++ [a + (n : Int)] := rfl
theorem mkL_length (n : Nat) (a : Int) : (mkL n a).length = n := by
  induction n with
  | zero => rfl
  | succ n ih => rw [mkL_succ, List.length_append, ih]; rfl
theorem mkL_rd {n : Nat} {a : Int} : ∀ {i : Nat}, i < n → rd (mkL n a) (i : Int) = a + (i : Int) := by
  induction n with
  | zero => intro i h; omega
  | succ n ih =>
    intro i h
    rw [rd_nat, mkL_succ, List.getD_eq_getElem?_getD]
    by_cases e : i = n
    · subst e
      rw [List.getElem?_append_right (by rw [mkL_length]; omega), mkL_length]
      simp
    · rw [List.getElem?_append_left (by rw [mkL_length]; omega)]
      have := ih (i := i) (by omega)
      rw [rd_nat, List.getD_eq_getElem?_getD] at this
      exact this
theorem laws_markInt64S.loop (l : List Int) (hl : l.length ≤ 1048576) (a : Int) (h0 : 0 ≤ a) (h1 : a ≤ 4000000000) (d : Nat) : ∀ (k i : Nat), i ≤ l.length → l.length - i = d → d < k → laws_markInt64S.l0 k (mkL i a ++ l.drop i) (a + (i : Int)) (i : Int) = some (a + (l.length : Int), mkL l.length a) := by
  induction d with
  | zero =>
    intro k i hi hd hk
    obtain ⟨k, rfl⟩ : ∃ m, k = m + 1 := ⟨k - 1, by omega⟩
    obtain rfl : i = l.length := by omega
    simp only [laws_markInt64S.l0]
    rw [List.drop_length, List.append_nil, mkL_length, if_neg (by omega)]
  | succ d ih =>
    intro k i hi hd hk
    obtain ⟨k, rfl⟩ : ∃ m, k = m + 1 := ⟨k - 1, by omega⟩
    have hlt : i < l.length := by omega
    have hlen : (mkL i a ++ l.drop i).length = l.length := by rw [List.length_append, mkL_length, List.length_drop]; omega
    simp only [laws_markInt64S.l0]
    rw [if_pos (by omega), if_pos (int_nn i), wrap_succ (by omega), wrap_in (by omega) (by omega), Int.toNat_natCast]
    have hs : (mkL i a ++ l.drop i).set i (a + (i : Int)) = mkL (i + 1) a ++ l.drop (i + 1) := by
      rw [List.set_append_right _ _ (by rw [mkL_length]; omega), mkL_length, Nat.sub_self, drop_rd hlt, List.set_cons_zero, mkL_succ, List.append_assoc]
      rfl
    rw [hs, show a + (i : Int) + 1 = a + ((i + 1 : Nat) : Int) by omega]
    exact ih k (i + 1) (by omega) (by omega) (by omega)
theorem laws_markInt64S.eq {l : List Int} {a : Int} {k : Nat} (hl : l.length ≤ 1048576) (h0 : 0 ≤ a) (h1 : a ≤ 4000000000) (hk : l.length < k) : laws_markInt64S.f k l a = some (a + (l.length : Int), mkL l.length a) := by
  have := laws_markInt64S.loop l hl a h0 h1 l.length k 0 (by omega) (by omega) hk
  rw [mkL_zero, List.drop_zero] at this
  unfold laws_markInt64S.f
  simpa using this
theorem laws_heldInt64S.loop (n : Nat) (hl : n ≤ 1048576) (a : Int) (h0 : 0 ≤ a) (h1 : a ≤ 4000000000) (d : Nat) : ∀ (k i : Nat), i ≤ n → n - i = d → d < k → laws_heldInt64S.l0 k (mkL n a) (a + (i : Int)) (i : Int) = some (a + (n : Int)) := by
  induction d with
  | zero =>
    intro k i hi hd hk
    obtain ⟨k, rfl⟩ : ∃ m, k = m + 1 := ⟨k - 1, by omega⟩
    obtain rfl : i = n := by omega
    simp only [laws_heldInt64S.l0]
    rw [mkL_length, if_neg (by omega)]
  | succ d ih =>
    intro k i hi hd hk
    obtain ⟨k, rfl⟩ : ∃ m, k = m + 1 := ⟨k - 1, by omega⟩
    have hlt : i < n := by omega
    simp only [laws_heldInt64S.l0]
    rw [mkL_length, if_pos (int_lt hlt), if_pos (int_nn i), mkL_rd hlt, if_pos rfl, wrap_succ (by omega), wrap_in (by omega) (by omega), show a + (i : Int) + 1 = a + ((i + 1 : Nat) : Int) by omega]
    exact ih k (i + 1) (by omega) (by omega) (by omega)
theorem laws_heldInt64S.eq {n : Nat} {a : Int} {k : Nat} (hl : n ≤ 1048576) (h0 : 0 ≤ a) (h1 : a ≤ 4000000000) (hk : n < k) : laws_heldInt64S.f k (mkL n a) a = some (a + (n : Int)) := by
  have := laws_heldInt64S.loop n hl a h0 h1 n k 0 (by omega) (by omega) hk
  unfold laws_heldInt64S.f
  simpa using this
theorem laws_markBuf.eq {l : List Int} {c m a : Int} {k : Nat} (hl : l.length ≤ 1048576) (h0 : 0 ≤ a) (h1 : a ≤ 4000000000) (hk : l.length < k) : laws_markBuf.f k l c m a = some (a + (l.length : Int), mkL l.length a) := by
  unfold laws_markBuf.f
  rw [laws_markInt64S.eq hl h0 h1 hk]
  rfl
theorem laws_heldBuf.eq {n : Nat} {c m a : Int} {k : Nat} (hl : n ≤ 1048576) (h0 : 0 ≤ a) (h1 : a ≤ 4000000000) (hk : n < k) : laws_heldBuf.f k (mkL n a) c m a = some (a + (n : Int)) := by
  unfold laws_heldBuf.f
  rw [laws_heldInt64S.eq hl h0 h1 hk]
  simp only [Option.bind_some]
  rw [if_neg (by omega)]
theorem spec_l01Point.eq (a : Int) : spec_l01Point.f a = some (isPt a) := by
  simp only [spec_l01Point.f, isPt]
  (repeat' split) <;> (refine some_b ?_; simp only [Bool.not_eq_true', Bool.not_false, decide_eq_true_eq, decide_eq_false_iff_not, Bool.false_eq_true]; first | omega | (rw [false_iff]; omega) | (rw [true_iff]; omega))
theorem impl_within.eq (a b c : Int) : impl_within.f a b c = some (decide (b ≤ a ∧ a ≤ c)) := by
  unfold impl_within.f
  by_cases h : b ≤ a <;> simp [h]
theorem impl_isPoint.eq (a : Int) : impl_isPoint.f a = some (isPt a) := by
  simp only [impl_isPoint.f, impl_within.eq, Option.bind_some, isPt, decide_eq_true_eq]
  split <;> (refine some_b ?_; simp only [Bool.not_eq_true', decide_eq_true_eq, decide_eq_false_iff_not, Bool.false_eq_true]; first | omega | (rw [false_iff]; omega))
theorem spec_ClassOf.j0_eq (k : Nat) (a : Int) (b : Bool) : spec_ClassOf.j0 (k + 1) a b = some (if b = true then 1 else cl2 a) := by
  simp only [spec_ClassOf.j0]
  cases b
  · simp only [Bool.false_eq_true, if_false, cl2]
    (repeat' split) <;> first | rfl | omega
  · rfl
theorem impl_ClassOf.j0_eq (k : Nat) (a : Int) (b : Bool) : impl_ClassOf.j0 (k + 1) a b = some (if b = true then 1 else cl2 a) := by
  simp only [impl_ClassOf.j0, impl_within.eq, Option.bind_some, decide_eq_true_eq]
  cases b
  · simp only [Bool.false_eq_true, if_false, cl2]
    (repeat' split) <;> first | rfl | omega
  · rfl
theorem spec_ClassOf.eq (a : Int) {k : Nat} (hk : 0 < k) : spec_ClassOf.f k a = some (cls a) := by
  obtain ⟨k, rfl⟩ : ∃ m, k = m + 1 := ⟨k - 1, by omega⟩
  simp only [spec_ClassOf.f, spec_ClassOf.j0_eq, spec_l01Point.eq, Option.bind_some, cls, beq_iff_eq, if_true]
  (repeat' split) <;> first | rfl | omega
theorem impl_ClassOf.eq (a : Int) {k : Nat} (hk : 0 < k) : impl_ClassOf.f k a = some (cls a) := by
  obtain ⟨k, rfl⟩ : ∃ m, k = m + 1 := ⟨k - 1, by omega⟩
  simp only [impl_ClassOf.f, impl_ClassOf.j0_eq, impl_isPoint.eq, Option.bind_some, cls, beq_iff_eq, if_true]
  (repeat' split) <;> first | rfl | omega
/-! ### lines of points -/
def stL (l : List Int) : Nat → Nat
  | 0 => 0
  | n + 1 => if rd l (n : Int) = 10 then n + 1 else stL l n
def ctL (l : List Int) : Nat → Nat
  | 0 => 0
  | n + 1 => if rd l (n : Int) = 10 then ctL l n + 1 else ctL l n
def lnL (l : List Int) : Nat → List Int
  | 0 => [0]
  | n + 1 => if rd l (n : Int) = 10 then lnL l n ++ [((n + 1 : Nat) : Int)] else lnL l n
def enF (l : List Int) : Nat → Nat → Nat
  | 0, n => n
  | f + 1, n => if rd l (n : Int) = 10 then n else enF l f (n + 1)
/-- where the line of a place ends -/
def enL (l : List Int) (n : Nat) : Nat := enF l (l.length - n) n
theorem stL_le (l : List Int) (n : Nat) : stL l n ≤ n := by
  induction n with
  | zero => exact Nat.le_refl _
  | succ n ih =>
    unfold stL
    split <;> omega
theorem ctL_le (l : List Int) (n : Nat) : ctL l n ≤ n := by
  induction n with
  | zero => exact Nat.le_refl _
  | succ n ih =>
    unfold ctL
    split <;> omega
theorem ctL_mono (l : List Int) (n m : Nat) (h : n ≤ m) : ctL l n ≤ ctL l m := by
  induction m with
  | zero => obtain rfl : n = 0 := by omega
            exact Nat.le_refl _
  | succ m ih =>
    by_cases e : n = m + 1
    · rw [e]; exact Nat.le_refl _
    · have := ih (by omega)
      show ctL l n ≤ if rd l (m : Int) = 10 then ctL l m + 1 else ctL l m
      split <;> omega
theorem lnL_length (l : List Int) (n : Nat) : (lnL l n).length = ctL l n + 1 := by
  induction n with
  | zero => rfl
  | succ n ih =>
    unfold lnL ctL
    split
    · rw [List.length_append, ih]; rfl
    · exact ih
theorem enF_le (l : List Int) (f : Nat) : ∀ n, n ≤ enF l f n ∧ enF l f n ≤ n + f := by
  induction f with
  | zero => intro n; exact ⟨Nat.le_refl _, Nat.le_refl _⟩
  | succ f ih =>
    intro n
    unfold enF
    split
    · omega
    · have := ih (n + 1); omega
theorem enL_ge (l : List Int) (n : Nat) : n ≤ enL l n := (enF_le l _ n).1
theorem enL_le (l : List Int) (n : Nat) (h : n ≤ l.length) : enL l n ≤ l.length := by have := (enF_le l (l.length - n) n).2; unfold enL; omega
theorem enL_here {l : List Int} {n : Nat} (h : n < l.length) (h10 : rd l (n : Int) = 10) : enL l n = n := by
  unfold enL
  obtain ⟨f, hf⟩ : ∃ f, l.length - n = f + 1 := ⟨l.length - n - 1, by omega⟩
  rw [hf]
  simp only [enF]
  rw [if_pos h10]
theorem enL_next {l : List Int} {n : Nat} (h : n < l.length) (h10 : ¬ rd l (n : Int) = 10) : enL l n = enL l (n + 1) := by
  unfold enL
  obtain ⟨f, hf⟩ : ∃ f, l.length - n = f + 1 := ⟨l.length - n - 1, by omega⟩
  rw [hf, show l.length - (n + 1) = f by omega]
  simp only [enF]
  rw [if_neg h10]
theorem enL_end {l : List Int} {n : Nat} (h : ¬ n < l.length) : enL l n = n := by
  unfold enL
  rw [show l.length - n = 0 by omega]
  rfl
theorem rd_app_left {a b : List Int} {i : Nat} (h : i < a.length) : rd (a ++ b) (i : Int) = rd a (i : Int) := by
  rw [rd_nat, rd_nat, List.getD_eq_getElem?_getD, List.getD_eq_getElem?_getD, List.getElem?_append_left h]
theorem rd_app_last (a : List Int) (x : Int) : rd (a ++ [x]) (a.length : Int) = x := by
  rw [rd_nat, List.getD_eq_getElem?_getD, List.getElem?_append_right (Nat.le_refl _), Nat.sub_self]
  rfl
theorem lnL_last (l : List Int) (n : Nat) : rd (lnL l n) (ctL l n : Int) = (stL l n : Int) := by
  induction n with
  | zero => rfl
  | succ n ih =>
    unfold lnL ctL stL
    split
    · have := rd_app_last (lnL l n) ((n + 1 : Nat) : Int)
      rw [lnL_length] at this
      exact this
    · exact ih
theorem lnL_at (l : List Int) (a n : Nat) (h : a ≤ n) : rd (lnL l n) (ctL l a : Int) = (stL l a : Int) := by
  induction n with
  | zero => obtain rfl : a = 0 := by omega
            rfl
  | succ n ih =>
    by_cases e : a = n + 1
    · rw [e]; exact lnL_last l (n + 1)
    · have h1 := ih (by omega)
      unfold lnL
      split
      · rw [rd_app_left (by rw [lnL_length]; have := ctL_mono l a n (by omega); omega)]
        exact h1
      · exact h1
theorem lnL_stay (l : List Int) (i n m : Nat) (h : n ≤ m) (hi : i ≤ ctL l n) : rd (lnL l m) (i : Int) = rd (lnL l n) (i : Int) := by
  induction m with
  | zero => obtain rfl : n = 0 := by omega
            rfl
  | succ m ih =>
    by_cases e : n = m + 1
    · rw [e]
    · have h1 := ih (by omega)
      show rd (if rd l (m : Int) = 10 then lnL l m ++ [((m + 1 : Nat) : Int)] else lnL l m) (i : Int) = _
      split
      · rw [rd_app_left (by rw [lnL_length]; have := ctL_mono l n m (by omega); omega)]
        exact h1
      · exact h1
theorem lnL_lt (l : List Int) (a : Nat) : ∀ i, i < ctL l a → rd (lnL l a) (i : Int) < (stL l a : Int) := by
  induction a with
  | zero => intro i hi; exact absurd hi (by simp [ctL])
  | succ a ih =>
    intro i hi
    have hs := stL_le l a
    unfold ctL at hi
    unfold lnL stL
    split at hi
    · rename_i h10
      rw [if_pos h10, if_pos h10, rd_app_left (by rw [lnL_length]; omega)]
      by_cases e : i = ctL l a
      · rw [e, lnL_last]; omega
      · have := ih i (by omega); omega
    · rename_i h10
      rw [if_neg h10, if_neg h10]
      exact ih i hi
/-- between a line's begin and a place of it stands no 10 -/
theorem stL_none (l : List Int) (n : Nat) : ∀ i, stL l n ≤ i → i < n → ¬ rd l (i : Int) = 10 := by
  induction n with
  | zero => intro i _ h; omega
  | succ n ih =>
    intro i h1 h2
    unfold stL at h1
    split at h1
    · omega
    · by_cases e : i = n
      · rw [e]; assumption
      · exact ih i h1 (by omega)
theorem enL_of (l : List Int) (n : Nat) (hn : n < l.length) (h10 : rd l (n : Int) = 10) (d : Nat) : ∀ s, n - s = d → s ≤ n → (∀ i, s ≤ i → i < n → ¬ rd l (i : Int) = 10) → enL l s = n := by
  induction d with
  | zero => intro s hd hs _; obtain rfl : s = n := by omega
            exact enL_here hn h10
  | succ d ih =>
    intro s hd hs h
    rw [enL_next (by omega) (h s (Nat.le_refl _) (by omega))]
    exact ih (s + 1) (by omega) (by omega) (fun i h1 h2 => h i (by omega) h2)
theorem lnL_ends (l : List Int) (n : Nat) (hn : n ≤ l.length) : ∀ j, j < ctL l n → ∃ a b : Nat, rd (lnL l n) (j : Int) = (a : Int) ∧ rd (lnL l n) ((j + 1 : Nat) : Int) = (b : Int) ∧ enL l a + 1 = b ∧ b ≤ n := by
  induction n with
  | zero => intro j hj; exact absurd hj (by simp [ctL])
  | succ n ih =>
    intro j hj
    unfold ctL at hj
    unfold lnL
    split at hj
    · rename_i h10
      rw [if_pos h10]
      by_cases e : j = ctL l n
      · refine ⟨stL l n, n + 1, ?_, ?_, ?_, Nat.le_refl _⟩
        · rw [e, rd_app_left (by rw [lnL_length]; omega), lnL_last]
        · rw [e, show ctL l n + 1 = (lnL l n).length from (lnL_length l n).symm, rd_app_last]
        · rw [enL_of l n (by omega) h10 (n - stL l n) (stL l n) rfl (stL_le l n) (stL_none l n)]
      · obtain ⟨a, b, h1, h2, h3, h4⟩ := ih (by omega) j (by omega)
        exact ⟨a, b, by rw [rd_app_left (by rw [lnL_length]; omega)]; exact h1, by rw [rd_app_left (by rw [lnL_length]; omega)]; exact h2, h3, by omega⟩
    · rename_i h10
      rw [if_neg h10]
      obtain ⟨a, b, h1, h2, h3, h4⟩ := ih (by omega) j hj
      exact ⟨a, b, h1, h2, h3, by omega⟩
/-- where line j begins -/
def bgL (l : List Int) : Nat → Nat
  | 0 => 0
  | j + 1 => enL l (bgL l j) + 1
theorem lnL_bg (l : List Int) : ∀ j, j ≤ ctL l l.length → rd (lnL l l.length) (j : Int) = (bgL l j : Int) ∧ bgL l j ≤ l.length := by
  intro j
  induction j with
  | zero =>
    intro _
    refine ⟨?_, Nat.zero_le _⟩
    have := lnL_at l 0 l.length (Nat.zero_le _)
    exact this
  | succ j ih =>
    intro hj
    obtain ⟨a, b, h1, h2, h3, h4⟩ := lnL_ends l l.length (Nat.le_refl _) j (by omega)
    obtain ⟨h5, _⟩ := ih (by omega)
    rw [h1] at h5
    have h6 : a = bgL l j := by omega
    rw [h2]
    subst h6
    refine ⟨?_, ?_⟩
    · show (b : Int) = ((enL l (bgL l j) + 1 : Nat) : Int)
      rw [h3]
    · show enL l (bgL l j) + 1 ≤ _
      omega
/-- the place of a spot -/
def plL (l : List Int) (line col : Int) : Int :=
  let a := bgL l (min (max line 0) (ctL l l.length : Int)).toNat
  (a : Int) + min (max col 0) ((enL l a : Int) - (a : Int))
theorem ctL_none (l : List Int) (s n : Nat) (hs : s ≤ n) (h : ∀ i : Nat, s ≤ i → i < n → ¬ rd l (i : Int) = 10) : ctL l n = ctL l s := by
  induction n with
  | zero => obtain rfl : s = 0 := by omega
            rfl
  | succ n ih =>
    by_cases e : s = n + 1
    · rw [e]
    · have := ih (by omega) (fun i h1 h2 => h i h1 (by omega))
      show (if rd l (n : Int) = 10 then ctL l n + 1 else ctL l n) = _
      rw [if_neg (h n (by omega) (by omega))]
      exact this
theorem enF_none (l : List Int) (f : Nat) : ∀ n i : Nat, n ≤ i → i < enF l f n → ¬ rd l (i : Int) = 10 := by
  induction f with
  | zero => intro n i h1 h2; simp only [enF] at h2; omega
  | succ f ih =>
    intro n i h1 h2
    simp only [enF] at h2
    split at h2
    · omega
    · by_cases e : i = n
      · rw [e]; assumption
      · exact ih (n + 1) i (by omega) h2
theorem enF_ten (l : List Int) (f : Nat) : ∀ n : Nat, enF l f n < n + f → rd l (enF l f n : Int) = 10 := by
  induction f with
  | zero => intro n h; simp only [enF] at h; omega
  | succ f ih =>
    intro n h
    simp only [enF] at h ⊢
    split
    · assumption
    · rename_i g
      rw [if_neg g] at h
      exact ih (n + 1) (by omega)
theorem ct_line (l : List Int) (a n : Nat) (h1 : a ≤ n) (h2 : n ≤ enL l a) : ctL l n = ctL l a :=
  ctL_none l a n h1 (fun i g1 g2 => enF_none l (l.length - a) a i g1 (by unfold enL at h2; omega))
theorem ct_bg (l : List Int) : ∀ j, j ≤ ctL l l.length → ctL l (bgL l j) = j := by
  intro j
  induction j with
  | zero => intro _; rfl
  | succ j ih =>
    intro hj
    have hb := (lnL_bg l (j + 1) hj).2
    have hb1 := (lnL_bg l j (by omega)).2
    have hb2 : enL l (bgL l j) + 1 ≤ l.length := hb
    have h10 : rd l (enL l (bgL l j) : Int) = 10 := enF_ten l (l.length - bgL l j) (bgL l j) (by unfold enL at hb2; omega)
    have h := ct_line l (bgL l j) (enL l (bgL l j)) (enL_ge l _) (Nat.le_refl _)
    show (if rd l (enL l (bgL l j) : Int) = 10 then ctL l (enL l (bgL l j)) + 1 else ctL l (enL l (bgL l j))) = j + 1
    rw [if_pos h10, h, ih (by omega)]
theorem bg_ct (l : List Int) (c : Nat) (hc : c ≤ l.length) : bgL l (ctL l c) = stL l c := by
  have h1 := lnL_at l c l.length hc
  have h2 := (lnL_bg l (ctL l c) (ctL_mono l c l.length hc)).1
  omega
theorem enL_of_none (l : List Int) (s c : Nat) (hs : s ≤ c) (hc : c ≤ l.length) (h : ∀ i : Nat, s ≤ i → i < c → ¬ rd l (i : Int) = 10) : c ≤ enL l s := by
  by_cases e : c ≤ enL l s
  · exact e
  · exfalso
    have g := enL_ge l s
    exact h (enL l s) g (by omega) (enF_ten l (l.length - s) s (by unfold enL at e; omega))
theorem plL_self (l : List Int) (c : Nat) (hc : c ≤ l.length) : plL l (ctL l c : Int) ((c : Int) - (stL l c : Int)) = (c : Int) := by
  have h1 := ctL_mono l c l.length hc
  have h2 := stL_le l c
  have h3 := enL_of_none l (stL l c) c h2 hc (stL_none l c)
  unfold plL
  rw [show (min (max (ctL l c : Int) 0) (ctL l l.length : Int)).toNat = ctL l c by omega, bg_ct l c hc]
  simp only
  omega
/-- a place of a line's column -/
theorem plL_at (l : List Int) (i : Nat) (col : Int) (hi : i ≤ ctL l l.length) (hc : 0 ≤ col) : ∃ n : Nat, plL l (i : Int) col = (n : Int) ∧ n ≤ l.length ∧ ctL l n = i := by
  have hb := (lnL_bg l i hi).2
  have g1 := enL_ge l (bgL l i)
  have g2 := enL_le l (bgL l i) hb
  refine ⟨(min (col + bgL l i) (enL l (bgL l i) : Int)).toNat, ?_, by omega, ?_⟩
  · unfold plL
    rw [show (min (max (i : Int) 0) (ctL l l.length : Int)).toNat = i by omega]
    simp only
    omega
  · rw [ct_line l (bgL l i) _ (by omega) (by omega)]
    exact ct_bg l i hi
theorem plL_clamp (l : List Int) (line col : Int) : plL l line col = plL l (min (max line 0) (ctL l l.length : Int)) col := by
  unfold plL
  rw [show (min (max (min (max line 0) (ctL l l.length : Int)) 0) (ctL l l.length : Int)).toNat = (min (max line 0) (ctL l l.length : Int)).toNat by omega]
theorem spec_l03Start.loop (l : List Int) (c m : Int) (hl : l.length ≤ 1048576) (n : Nat) : ∀ k, n ≤ l.length → n < k → spec_l03Start.l0 k (n : Int) l c m = some (stL l n : Int) := by
  induction n with
  | zero =>
    intro k _ hk
    obtain ⟨k, rfl⟩ : ∃ m, k = m + 1 := ⟨k - 1, by omega⟩
    rfl
  | succ n ih =>
    intro k hn hk
    obtain ⟨k, rfl⟩ : ∃ m, k = m + 1 := ⟨k - 1, by omega⟩
    have e : wrap64 (((n + 1 : Nat) : Int) - 1) = (n : Int) := by unfold wrap64; omega
    simp only [spec_l03Start.l0, stL]
    rw [e, if_pos (by omega), if_pos (int_nn n), if_pos (by omega)]
    split
    · rfl
    · exact ih k (by omega) (by omega)
theorem spec_l03Start.eq {l : List Int} {c m : Int} {n k : Nat} (hl : l.length ≤ 1048576) (hn : n ≤ l.length) (hk : n < k) : spec_l03Start.f k l c m (n : Int) = some (stL l n : Int) := spec_l03Start.loop l c m hl n k hn hk
theorem spec_l03End.loop (l : List Int) (c m : Int) (hl : l.length ≤ 1048576) (d : Nat) : ∀ (k n : Nat), n ≤ l.length → l.length - n = d → d < k → spec_l03End.l0 k (n : Int) l c m = some (enL l n : Int) := by
  induction d with
  | zero =>
    intro k n hn hd hk
    obtain ⟨k, rfl⟩ : ∃ m, k = m + 1 := ⟨k - 1, by omega⟩
    simp only [spec_l03End.l0]
    rw [if_neg (by omega), enL_end (by omega)]
  | succ d ih =>
    intro k n hn hd hk
    obtain ⟨k, rfl⟩ : ∃ m, k = m + 1 := ⟨k - 1, by omega⟩
    have hlt : n < l.length := by omega
    simp only [spec_l03End.l0]
    rw [if_pos (int_lt hlt), if_pos (int_nn n)]
    by_cases h : rd l (n : Int) = 10
    · rw [if_pos h, enL_here hlt h]
    · rw [if_neg h, wrap_succ (by omega), ih k (n + 1) (by omega) (by omega) (by omega), enL_next hlt h]
theorem spec_l03End.eq {l : List Int} {c m : Int} {n k : Nat} (hl : l.length ≤ 1048576) (hn : n ≤ l.length) (hk : l.length < k) : spec_l03End.f k l c m (n : Int) = some (enL l n : Int) := spec_l03End.loop l c m hl (l.length - n) k n hn rfl (by omega)
theorem impl_Buf_start.loop (l : List Int) (c m : Int) (hl : l.length ≤ 1048576) (n : Nat) : ∀ k, n ≤ l.length → n < k → impl_Buf_start.l0 k (n : Int) l c m = some (stL l n : Int) := by
  induction n with
  | zero =>
    intro k _ hk
    obtain ⟨k, rfl⟩ : ∃ m, k = m + 1 := ⟨k - 1, by omega⟩
    rfl
  | succ n ih =>
    intro k hn hk
    obtain ⟨k, rfl⟩ : ∃ m, k = m + 1 := ⟨k - 1, by omega⟩
    have e : wrap64 (((n + 1 : Nat) : Int) - 1) = (n : Int) := by unfold wrap64; omega
    simp only [impl_Buf_start.l0, stL]
    rw [e, if_pos (by omega), if_pos (int_nn n), if_pos (by omega)]
    split
    · rfl
    · exact ih k (by omega) (by omega)
theorem impl_Buf_start.eq {l : List Int} {c m : Int} {n k : Nat} (hl : l.length ≤ 1048576) (hn : n ≤ l.length) (hk : n < k) : impl_Buf_start.f k l c m (n : Int) = some (stL l n : Int) := impl_Buf_start.loop l c m hl n k hn hk
theorem impl_size_int64.eq (l : List Int) : impl_size_int64.f l = some (l.length : Int) := rfl
theorem impl_Buf_end.loop (l : List Int) (c m : Int) (hl : l.length ≤ 1048576) (d : Nat) : ∀ (k n : Nat), n ≤ l.length → l.length - n = d → d < k → impl_Buf_end.l0 k (n : Int) l c m = some (enL l n : Int) := by
  induction d with
  | zero =>
    intro k n hn hd hk
    obtain ⟨k, rfl⟩ : ∃ m, k = m + 1 := ⟨k - 1, by omega⟩
    simp only [impl_Buf_end.l0, impl_size_int64.eq, Option.bind_some]
    rw [if_neg (by omega), enL_end (by omega)]
  | succ d ih =>
    intro k n hn hd hk
    obtain ⟨k, rfl⟩ : ∃ m, k = m + 1 := ⟨k - 1, by omega⟩
    have hlt : n < l.length := by omega
    simp only [impl_Buf_end.l0, impl_size_int64.eq, Option.bind_some]
    rw [if_pos (int_lt hlt), if_pos (int_nn n), if_pos (int_lt hlt)]
    by_cases h : rd l (n : Int) = 10
    · rw [if_pos h, enL_here hlt h]
    · rw [if_neg h, wrap_succ (by omega), ih k (n + 1) (by omega) (by omega) (by omega), enL_next hlt h]
theorem impl_Buf_end.eq {l : List Int} {c m : Int} {n k : Nat} (hl : l.length ≤ 1048576) (hn : n ≤ l.length) (hk : l.length < k) : impl_Buf_end.f k l c m (n : Int) = some (enL l n : Int) := impl_Buf_end.loop l c m hl (l.length - n) k n hn rfl (by omega)
theorem impl_Buf_lines.loop (l : List Int) (hl : l.length ≤ 1048576) (d : Nat) : ∀ k i, i ≤ l.length → l.length - i = d → d < k → impl_Buf_lines.l0 k (lnL l i) l (l.length : Int) (i : Int) = some (lnL l l.length) := by
  induction d with
  | zero =>
    intro k i hi hd hk
    obtain ⟨k, rfl⟩ : ∃ m, k = m + 1 := ⟨k - 1, by omega⟩
    obtain rfl : i = l.length := by omega
    simp only [impl_Buf_lines.l0]
    rw [if_neg (by omega)]
  | succ d ih =>
    intro k i hi hd hk
    obtain ⟨k, rfl⟩ : ∃ m, k = m + 1 := ⟨k - 1, by omega⟩
    have hc := ctL_le l i
    have hn := lnL_length l i
    have h := ih k (i + 1) (by omega) (by omega) (by omega)
    simp only [lnL] at h
    simp only [impl_Buf_lines.l0]
    rw [if_pos (by omega), if_pos (int_nn i), if_pos (by omega), wrap_succ (i := i) (by omega)]
    split
    · rename_i h10
      rw [if_pos h10] at h
      rw [if_pos (by omega)]
      exact h
    · rename_i h10
      rw [if_neg h10] at h
      exact h
theorem impl_Buf_lines.eq {l : List Int} {c m : Int} {k : Nat} (hl : l.length ≤ 1048576) (hk : l.length < k) : impl_Buf_lines.f k l c m = some (lnL l l.length) := impl_Buf_lines.loop l hl l.length k 0 (Nat.zero_le _) (by omega) hk
theorem slices_Index_sint64_int64.loop (l : List Int) (v : Int) (j : Nat) (hl : l.length ≤ 1048600) (hj : j < l.length) (hv : rd l (j : Int) = v) (hn : ∀ i, i < j → rd l (i : Int) ≠ v) (d : Nat) : ∀ k i, i ≤ j → j - i = d → d < k → slices_Index_sint64_int64.l0 k l v (l.length : Int) (i : Int) = some (j : Int) := by
  induction d with
  | zero =>
    intro k i hi hd hk
    obtain ⟨k, rfl⟩ : ∃ m, k = m + 1 := ⟨k - 1, by omega⟩
    obtain rfl : i = j := by omega
    simp only [slices_Index_sint64_int64.l0]
    rw [if_pos (by omega), if_pos (int_nn i), if_pos (by omega), if_pos hv.symm]
  | succ d ih =>
    intro k i hi hd hk
    obtain ⟨k, rfl⟩ : ∃ m, k = m + 1 := ⟨k - 1, by omega⟩
    simp only [slices_Index_sint64_int64.l0]
    rw [if_pos (by omega), if_pos (int_nn i), if_pos (by omega), if_neg (fun e => hn i (by omega) e.symm), wrap_succ (by omega)]
    exact ih k (i + 1) (by omega) (by omega) (by omega)
theorem slices_Index_sint64_int64.eq {l : List Int} {v : Int} {j k : Nat} (hl : l.length ≤ 1048600) (hj : j < l.length) (hv : rd l (j : Int) = v) (hn : ∀ i, i < j → rd l (i : Int) ≠ v) (hk : j < k) : slices_Index_sint64_int64.f k l v = some (j : Int) := slices_Index_sint64_int64.loop l v j hl hj hv hn j k 0 (Nat.zero_le _) (by omega) hk
theorem impl_Buf_spot.eq {l : List Int} {c m : Int} {n k : Nat} (hl : l.length ≤ 1048576) (hn : n ≤ l.length) (hk : l.length + 1 < k) : impl_Buf_spot.f k l c m (n : Int) = some ((ctL l n : Int), (n : Int) - (stL l n : Int)) := by
  have hc := ctL_le l n
  have hs := stL_le l n
  have hm := ctL_mono l n l.length hn
  have hcl := ctL_le l l.length
  unfold impl_Buf_spot.f
  rw [impl_Buf_start.eq hl hn (by omega), impl_Buf_lines.eq hl (by omega)]
  simp only [Option.bind_some]
  rw [slices_Index_sint64_int64.eq (j := ctL l n) (by rw [lnL_length]; omega) (by rw [lnL_length]; omega) (lnL_at l n l.length hn) (fun i hi => by
    have h1 := lnL_lt l n i hi
    rw [lnL_stay l i n l.length hn (by omega)]
    omega) (by omega)]
  simp only [Option.bind_some]
  rw [wrap_in (by omega) (by omega)]
theorem spec_PointsRight.loop (l : List Int) (hl : l.length ≤ 300) (d : Nat) : ∀ (k i : Nat), i ≤ l.length → l.length - i = d → d < k → spec_PointsRight.l0 k l (i : Int) = some ((l.drop i).all isPt) := by
  induction d with
  | zero =>
    intro k i hi hd hk
    obtain ⟨k, rfl⟩ : ∃ m, k = m + 1 := ⟨k - 1, by omega⟩
    simp only [spec_PointsRight.l0]
    rw [if_neg (by omega), List.drop_eq_nil_of_le (by omega)]
    rfl
  | succ d ih =>
    intro k i hi hd hk
    obtain ⟨k, rfl⟩ : ∃ m, k = m + 1 := ⟨k - 1, by omega⟩
    have hlt : i < l.length := by omega
    simp only [spec_PointsRight.l0]
    rw [if_pos (int_lt hlt), if_pos (int_nn i), spec_l01Point.eq, wrap_succ (by omega), ih k (i + 1) (by omega) (by omega) (by omega), drop_rd hlt]
    simp only [Option.bind_some, List.all_cons]
    cases isPt (rd l (i : Int)) <;> simp
theorem spec_PointsRight.eq (l : List Int) {k : Nat} (hk : 300 < k) : spec_PointsRight.f k l = some (ptsOK l) := by
  unfold spec_PointsRight.f ptsOK
  by_cases h : l.length ≤ 300
  · rw [if_neg (by omega)]
    have := spec_PointsRight.loop l h l.length k 0 (by omega) (by omega) (by omega)
    simp only [h, decide_true, Bool.true_and]
    simpa using this
  · rw [if_pos (by omega)]
    simp [h]
theorem spec_BufRight.eq (l : List Int) (c m : Int) {k : Nat} (hk : 300 < k) : spec_BufRight.f k l c m = some (bufOK l c m) := by
  unfold spec_BufRight.f bufOK
  rw [spec_PointsRight.eq l hk]
  simp only [Option.bind_some]
  cases ptsOK l
  · simp
  · simp only [if_true, Bool.true_and]
    (repeat' split) <;> (refine some_b ?_; simp only [Bool.and_eq_true, decide_eq_true_eq, Bool.false_eq_true]; first | omega | (rw [false_iff]; omega))
theorem spec_l03Spot.loop (l : List Int) (c m : Int) (hl : l.length ≤ 1048576) (a : Nat) (ha : a ≤ l.length) (d : Nat) : ∀ k i, i ≤ a → a - i = d → d + l.length + 1 < k → spec_l03Spot.l0 k (a : Int) (ctL l i : Int) (i : Int) l c m = some ((ctL l a : Int), (a : Int) - (stL l a : Int)) := by
  induction d with
  | zero =>
    intro k i hi hd hk
    obtain ⟨k, rfl⟩ : ∃ m, k = m + 1 := ⟨k - 1, by omega⟩
    obtain rfl : i = a := by omega
    have hs := stL_le l i
    simp only [spec_l03Spot.l0]
    rw [if_neg (by omega), spec_l03Start.eq hl ha (by omega)]
    simp only [Option.bind_some]
    rw [wrap_in (by omega) (by omega)]
  | succ d ih =>
    intro k i hi hd hk
    obtain ⟨k, rfl⟩ : ∃ m, k = m + 1 := ⟨k - 1, by omega⟩
    have hc := ctL_le l i
    have h := ih k (i + 1) (by omega) (by omega) (by omega)
    simp only [ctL] at h
    simp only [spec_l03Spot.l0]
    rw [if_pos (by omega), if_pos (int_nn i), if_pos (by omega), wrap_succ (i := i) (by omega), wrap_succ (i := ctL l i) (by omega)]
    split
    · rename_i h10
      rw [if_pos h10] at h
      exact h
    · rename_i h10
      rw [if_neg h10] at h
      exact h
theorem spec_l03Spot.eq {l : List Int} {c m : Int} {n k : Nat} (hl : l.length ≤ 1048576) (hn : n ≤ l.length) (hk : n + l.length + 1 < k) : spec_l03Spot.f k l c m (n : Int) = some ((ctL l n : Int), (n : Int) - (stL l n : Int)) := spec_l03Spot.loop l c m hl n hn n k 0 (Nat.zero_le _) (by omega) hk
theorem spec_LineCount.eq (l : List Int) (c m : Int) {k : Nat} (hk : 700 < k) : spec_LineCount.f k l c m = some (if bufOK l c m = true then (ctL l l.length : Int) + 1 else 0) := by
  unfold spec_LineCount.f
  rw [spec_BufRight.eq l c m (by omega)]
  simp only [Option.bind_some]
  by_cases h : bufOK l c m = true
  · have hl := bufOK_len h
    have hc := ctL_le l l.length
    rw [if_pos h, if_pos h, spec_l03Spot.eq (by omega) (Nat.le_refl _) (by omega)]
    simp only [Option.bind_some]
    rw [wrap_in (by omega) (by omega)]
  · rw [if_neg h, if_neg h]
theorem slices_IndexFunc_sint64_int64.loop (l : List Int) (hl : l.length ≤ 300) (d : Nat) : ∀ (k i : Nat), i ≤ l.length → l.length - i = d → d < k → ∃ r : Int, slices_IndexFunc_sint64_int64.l0 k l (l.length : Int) (i : Int) = some r ∧ (0 ≤ r ↔ (l.drop i).all isPt = false) := by
  induction d with
  | zero =>
    intro k i hi hd hk
    obtain ⟨k, rfl⟩ : ∃ m, k = m + 1 := ⟨k - 1, by omega⟩
    refine ⟨-1, ?_, ?_⟩
    · simp only [slices_IndexFunc_sint64_int64.l0]
      rw [if_neg (by omega)]
    · rw [List.drop_eq_nil_of_le (by omega)]
      simp
  | succ d ih =>
    intro k i hi hd hk
    obtain ⟨k, rfl⟩ : ∃ m, k = m + 1 := ⟨k - 1, by omega⟩
    have hlt : i < l.length := by omega
    have hp : impl_PointsRight_1.f (rd l (i : Int)) = some (!isPt (rd l (i : Int))) := by
      unfold impl_PointsRight_1.f
      rw [impl_isPoint.eq]
      rfl
    simp only [slices_IndexFunc_sint64_int64.l0]
    rw [if_pos (int_lt hlt), if_pos (int_nn i), if_pos (int_lt hlt), hp, wrap_succ (by omega), drop_rd hlt]
    simp only [Option.bind_some, List.all_cons]
    cases isPt (rd l (i : Int))
    · exact ⟨i, by simp, by simp⟩
    · simpa using ih k (i + 1) (by omega) (by omega) (by omega)
theorem impl_PointsRight.eq (l : List Int) {k : Nat} (hk : 300 < k) : impl_PointsRight.f k l = some (ptsOK l) := by
  unfold impl_PointsRight.f ptsOK
  by_cases h : l.length ≤ 300
  · rw [if_pos (by omega)]
    obtain ⟨r, h1, h2⟩ := slices_IndexFunc_sint64_int64.loop l h l.length k 0 (by omega) (by omega) (by omega)
    unfold slices_ContainsFunc_sint64_int64.f slices_IndexFunc_sint64_int64.f
    rw [show ((0 : Nat) : Int) = 0 from rfl] at h1
    rw [h1]
    simp only [Option.bind_some, h, decide_true, Bool.true_and]
    rw [List.drop_zero] at h2
    refine some_b ?_
    cases hq : l.all isPt
    · have := h2.2 hq; simp; omega
    · have : ¬ 0 ≤ r := fun h3 => by rw [h2.1 h3] at hq; cases hq
      simp; omega
  · rw [if_neg (by omega)]
    simp [h]
theorem impl_Buf_isPlace.eq (l : List Int) (c m a : Int) : impl_Buf_isPlace.f l c m a = some (decide (0 ≤ a ∧ a ≤ l.length)) := by
  simp only [impl_Buf_isPlace.f, impl_size_int64.f, impl_within.eq, Option.bind_some]
theorem impl_BufRight.eq (l : List Int) (c m : Int) {k : Nat} (hk : 300 < k) : impl_BufRight.f k l c m = some (bufOK l c m) := by
  unfold impl_BufRight.f bufOK
  rw [impl_PointsRight.eq l hk]
  simp only [Option.bind_some, impl_Buf_isPlace.eq]
  cases ptsOK l
  · simp
  · simp only [if_true, Bool.true_and]
    by_cases h : 0 ≤ c ∧ c ≤ (l.length : Int) <;> simp [h]
theorem spec_PlaceOf.loop (l : List Int) (c m line col : Int) (hl : l.length ≤ 300) (L : Nat) (hL : L ≤ ctL l l.length) (j : Nat) : ∀ k, j ≤ L → j + 301 < k → spec_PlaceOf.l0 k (j : Int) (bgL l (L - j) : Int) l c m line col = some ((bgL l L : Int) + min (max col 0) ((enL l (bgL l L) : Int) - (bgL l L : Int))) := by
  induction j with
  | zero =>
    intro k hj hk
    obtain ⟨k, rfl⟩ : ∃ m, k = m + 1 := ⟨k - 1, by omega⟩
    have hb := (lnL_bg l L hL).2
    have h1 := enL_ge l (bgL l L)
    have h2 := enL_le l (bgL l L) hb
    simp only [spec_PlaceOf.l0, Nat.sub_zero]
    rw [if_neg (by omega), spec_l03End.eq (by omega) hb (by omega)]
    simp only [Option.bind_some]
    rw [wrap_in (by omega) (by omega)]
    by_cases g1 : col < 0
    · rw [if_pos g1]
      refine congrArg some ?_
      omega
    · rw [if_neg g1]
      by_cases g2 : col > (enL l (bgL l L) : Int) - (bgL l L : Int)
      · rw [if_pos g2]
        refine congrArg some ?_
        omega
      · rw [if_neg g2, wrap_in (by omega) (by omega)]
        refine congrArg some ?_
        omega
  | succ j ih =>
    intro k hj hk
    obtain ⟨k, rfl⟩ : ∃ m, k = m + 1 := ⟨k - 1, by omega⟩
    have hct := ctL_le l l.length
    have hb := (lnL_bg l (L - (j + 1)) (by omega)).2
    have h2 := enL_le l (bgL l (L - (j + 1))) hb
    simp only [spec_PlaceOf.l0]
    rw [if_pos (by omega), spec_l03End.eq (by omega) hb (by omega)]
    simp only [Option.bind_some]
    rw [wrap_in (show -9223372036854775808 ≤ ((j + 1 : Nat) : Int) - 1 by omega) (by omega), wrap_in (show -9223372036854775808 ≤ (enL l (bgL l (L - (j + 1))) : Int) + 1 by omega) (by omega), show ((j + 1 : Nat) : Int) - 1 = (j : Int) by omega]
    have e : L - j = (L - (j + 1)) + 1 := by omega
    have := ih k (by omega) (by omega)
    rw [e] at this
    exact this
def placeV (l : List Int) (c m line col : Int) : Int := if bufOK l c m = true then plL l line col else 0
theorem spec_PlaceOf.eq (l : List Int) (c m line col : Int) {k : Nat} (hk : 700 < k) : spec_PlaceOf.f k l c m line col = some (placeV l c m line col) := by
  unfold spec_PlaceOf.f placeV
  rw [spec_BufRight.eq _ _ _ (by omega), spec_LineCount.eq _ _ _ (by omega)]
  simp only [Option.bind_some]
  by_cases h : bufOK l c m = true
  · have hl := bufOK_len h
    have hc := ctL_le l l.length
    rw [if_pos h, if_pos h, if_pos h, wrap_in (by omega) (by omega)]
    have e1 : spec_l01Min.f line ((ctL l l.length : Int) + 1 - 1) = some (min line (ctL l l.length : Int)) := by
      unfold spec_l01Min.f
      split <;> refine congrArg some ?_ <;> omega
    rw [e1]
    simp only [Option.bind_some]
    have e2 : spec_l01Max.f 0 (min line (ctL l l.length : Int)) = some (((min (max line 0) (ctL l l.length : Int)).toNat : Nat) : Int) := by
      unfold spec_l01Max.f
      split <;> refine congrArg some ?_ <;> omega
    rw [e2]
    simp only [Option.bind_some]
    have := spec_PlaceOf.loop l c m line col hl (min (max line 0) (ctL l l.length : Int)).toNat (by omega) (min (max line 0) (ctL l l.length : Int)).toNat k (Nat.le_refl _) (by omega)
    rw [Nat.sub_self] at this
    exact this
  · rw [if_neg h, if_neg h]
theorem impl_Buf_place.eq (l : List Int) (c m line col : Int) {k : Nat} (hl : l.length ≤ 300) (hk : 700 < k) : impl_Buf_place.f k l c m line col = some (plL l line col) := by
  unfold impl_Buf_place.f
  have hc := ctL_le l l.length
  rw [impl_Buf_lines.eq (by omega) (by omega)]
  simp only [Option.bind_some, impl_size_int64.eq, lnL_length]
  have e1 : mn (mx line 0) (wrap64 (((ctL l l.length + 1 : Nat) : Int) - 1)) = (((min (max line 0) (ctL l l.length : Int)).toNat : Nat) : Int) := by
    rw [wrap_in (by omega) (by omega)]
    unfold mn mx
    split <;> split <;> omega
  rw [e1, if_pos (by omega), if_pos (by omega)]
  obtain ⟨h1, h2⟩ := lnL_bg l (min (max line 0) (ctL l l.length : Int)).toNat (by omega)
  have h3 := enL_ge l (bgL l (min (max line 0) (ctL l l.length : Int)).toNat)
  have h4 := enL_le l (bgL l (min (max line 0) (ctL l l.length : Int)).toNat) h2
  rw [h1, impl_Buf_end.eq (by omega) h2 (by omega)]
  simp only [Option.bind_some]
  refine congrArg some ?_
  unfold plL
  rw [wrap_in (show -9223372036854775808 ≤ (enL l (bgL l (min (max line 0) (ctL l l.length : Int)).toNat) : Int) - (bgL l (min (max line 0) (ctL l l.length : Int)).toNat : Int) by omega) (by omega)]
  have e2 : mn (mx col 0) ((enL l (bgL l (min (max line 0) (ctL l l.length : Int)).toNat) : Int) - (bgL l (min (max line 0) (ctL l l.length : Int)).toNat : Int)) = min (max col 0) ((enL l (bgL l (min (max line 0) (ctL l l.length : Int)).toNat) : Int) - (bgL l (min (max line 0) (ctL l l.length : Int)).toNat : Int)) := by
    unfold mn mx
    split <;> split <;> omega
  rw [e2, wrap_in (by omega) (by omega)]
/-! ### a step -/
def bkW (l : List Int) : Nat → Nat
  | 0 => 0
  | n + 1 => if cls (rd l (n : Int)) = 2 then bkW l n else n + 1
def bkN (l : List Int) : Nat → Nat
  | 0 => 0
  | n + 1 => if cls (rd l (n : Int)) = 2 then n + 1 else bkN l n
def fwW (l : List Int) : Nat → Nat → Nat
  | 0, n => n
  | f + 1, n => if cls (rd l (n : Int)) = 2 then fwW l f (n + 1) else n
def fwN (l : List Int) : Nat → Nat → Nat
  | 0, n => n
  | f + 1, n => if cls (rd l (n : Int)) = 2 then n else fwN l f (n + 1)
def fdL (l : List Int) (p : Int) (a : Nat) : Nat → Nat → Nat
  | 0, _ => a
  | f + 1, i => if rd l (i : Int) = p then i else fdL l p a f (i + 1)
theorem bkW_le (l : List Int) (n : Nat) : bkW l n ≤ n := by
  induction n with
  | zero => exact Nat.le_refl _
  | succ n ih => unfold bkW; split <;> omega
theorem bkN_le (l : List Int) (n : Nat) : bkN l n ≤ n := by
  induction n with
  | zero => exact Nat.le_refl _
  | succ n ih => unfold bkN; split <;> omega
theorem fwW_le (l : List Int) (f : Nat) : ∀ n, fwW l f n ≤ n + f := by
  induction f with
  | zero => intro n; exact Nat.le_refl _
  | succ f ih => intro n; unfold fwW; have := ih (n + 1); split <;> omega
theorem fwN_le (l : List Int) (f : Nat) : ∀ n, fwN l f n ≤ n + f := by
  induction f with
  | zero => intro n; exact Nat.le_refl _
  | succ f ih => intro n; unfold fwN; have := ih (n + 1); split <;> omega
theorem fdL_le (l : List Int) (p : Int) (a : Nat) (f : Nat) : ∀ n, fdL l p a f n ≤ max a (n + f) := by
  induction f with
  | zero => intro n; unfold fdL; omega
  | succ f ih => intro n; unfold fdL; have := ih (n + 1); split <;> omega
def bkV (l : List Int) (n : Nat) : Nat := bkW l (bkN l n)
def fwV (l : List Int) (n : Nat) : Nat := fwW l (l.length - fwN l (l.length - n) n) (fwN l (l.length - n) n)
def stepV (l : List Int) (kind p : Int) (n : Nat) : Nat :=
  if kind = 1 then n - 1 else if kind = 2 then min (n + 1) l.length else if kind = 3 then bkV l n else if kind = 4 then fwV l n
  else if kind = 5 then stL l n else if kind = 6 then enL l n else if kind = 9 then 0 else if kind = 10 then l.length else fdL l p n (l.length - (n + 1)) (n + 1)
theorem stepV_le (l : List Int) (kind p : Int) (n : Nat) (hn : n ≤ l.length) : stepV l kind p n ≤ l.length := by
  have h1 := bkW_le l (bkN l n)
  have h2 := bkN_le l n
  have h3 := fwN_le l (l.length - n) n
  have h4 := fwW_le l (l.length - fwN l (l.length - n) n) (fwN l (l.length - n) n)
  have h5 := stL_le l n
  have h6 := enL_le l n hn
  have h7 := fdL_le l p n (l.length - (n + 1)) (n + 1)
  unfold stepV bkV fwV
  by_cases e : n = l.length
  · subst e
    have : fdL l p l.length (l.length - (l.length + 1)) (l.length + 1) = l.length := by
      rw [show l.length - (l.length + 1) = 0 by omega]
      rfl
    (repeat' split) <;> omega
  · (repeat' split) <;> omega
theorem wrap_pred (n : Nat) (h : n < 4611686018427387904) : wrap64 (((n + 1 : Nat) : Int) - 1) = (n : Int) := by unfold wrap64; omega
/-! the reference's -/
theorem spec_l03Step.b1 (l : List Int) (c m : Int) (hl : l.length ≤ 300) (n : Nat) : ∀ k, n ≤ l.length → n + 1 < k → spec_l03Step.l1 k (n : Int) l c m = some (bkW l n : Int) := by
  induction n with
  | zero =>
    intro k _ hk
    obtain ⟨k, rfl⟩ : ∃ m, k = m + 1 := ⟨k - 1, by omega⟩
    rfl
  | succ n ih =>
    intro k hn hk
    obtain ⟨k, rfl⟩ : ∃ m, k = m + 1 := ⟨k - 1, by omega⟩
    simp only [spec_l03Step.l1, bkW]
    rw [wrap_pred n (by omega), if_pos (by omega), if_pos (int_nn n), if_pos (by omega), spec_ClassOf.eq _ (by omega)]
    simp only [Option.bind_some]
    split
    · exact ih k (by omega) (by omega)
    · rfl
theorem spec_l03Step.b0 (l : List Int) (c m : Int) (hl : l.length ≤ 300) (n : Nat) : ∀ k, n ≤ l.length → n + 1 + 303 < k → spec_l03Step.l0 k (n : Int) l c m = some (bkV l n : Int) := by
  have hj : ∀ (n k : Nat), n ≤ l.length → n + 303 < k → spec_l03Step.j1 k (n : Int) l c m = some (bkW l n : Int) := by
    intro n k hn hk
    obtain ⟨k, rfl⟩ : ∃ m, k = m + 1 := ⟨k - 1, by omega⟩
    exact spec_l03Step.b1 l c m hl n k hn (by omega)
  induction n with
  | zero =>
    intro k _ hk
    obtain ⟨k, rfl⟩ : ∃ m, k = m + 1 := ⟨k - 1, by omega⟩
    rw [spec_l03Step.l0, if_neg (by omega)]
    exact hj 0 k (by omega) (by omega)
  | succ n ih =>
    intro k hn hk
    obtain ⟨k, rfl⟩ : ∃ m, k = m + 1 := ⟨k - 1, by omega⟩
    simp only [spec_l03Step.l0, bkV, bkN]
    rw [wrap_pred n (by omega), if_pos (by omega), if_pos (int_nn n), if_pos (by omega), spec_ClassOf.eq _ (by omega)]
    simp only [Option.bind_some]
    split
    · exact hj (n + 1) k hn (by omega)
    · exact ih k (by omega) (by omega)
theorem spec_l03Step.f1 (l : List Int) (c m : Int) (hl : l.length ≤ 300) (d : Nat) : ∀ k n, n ≤ l.length → l.length - n = d → d + 1 < k → spec_l03Step.l3 k (n : Int) (l.length : Int) l c m = some (fwW l d n : Int) := by
  induction d with
  | zero =>
    intro k n hn hd hk
    obtain ⟨k, rfl⟩ : ∃ m, k = m + 1 := ⟨k - 1, by omega⟩
    rw [spec_l03Step.l3, if_neg (by omega)]
    rfl
  | succ d ih =>
    intro k n hn hd hk
    obtain ⟨k, rfl⟩ : ∃ m, k = m + 1 := ⟨k - 1, by omega⟩
    simp only [spec_l03Step.l3, fwW]
    rw [if_pos (by omega), if_pos (int_nn n), if_pos (by omega), spec_ClassOf.eq _ (by omega), wrap_succ (by omega)]
    simp only [Option.bind_some]
    split
    · exact ih k (n + 1) (by omega) (by omega) (by omega)
    · rfl
theorem spec_l03Step.f0 (l : List Int) (c m : Int) (hl : l.length ≤ 300) (d : Nat) : ∀ k n, n ≤ l.length → l.length - n = d → d + 1 + 303 < k → spec_l03Step.l2 k (n : Int) (l.length : Int) l c m = some (fwW l (l.length - fwN l d n) (fwN l d n) : Int) := by
  have hj : ∀ (n k : Nat), n ≤ l.length → 303 < k → spec_l03Step.j4 k (n : Int) (l.length : Int) l c m = some (fwW l (l.length - n) n : Int) := by
    intro n k hn hk
    obtain ⟨k, rfl⟩ : ∃ m, k = m + 1 := ⟨k - 1, by omega⟩
    exact spec_l03Step.f1 l c m hl (l.length - n) k n hn rfl (by omega)
  induction d with
  | zero =>
    intro k n hn hd hk
    obtain ⟨k, rfl⟩ : ∃ m, k = m + 1 := ⟨k - 1, by omega⟩
    rw [spec_l03Step.l2, if_neg (by omega)]
    exact hj n k hn (by omega)
  | succ d ih =>
    intro k n hn hd hk
    obtain ⟨k, rfl⟩ : ∃ m, k = m + 1 := ⟨k - 1, by omega⟩
    simp only [spec_l03Step.l2, fwN]
    rw [if_pos (by omega), if_pos (int_nn n), if_pos (by omega), spec_ClassOf.eq _ (by omega), wrap_succ (by omega)]
    simp only [Option.bind_some]
    split
    · exact hj n k hn (by omega)
    · exact ih k (n + 1) (by omega) (by omega) (by omega)
theorem spec_l03Step.fd (l : List Int) (c m p : Int) (a : Nat) (hl : l.length ≤ 300) (d : Nat) : ∀ k i, l.length - i = d → i ≤ 301 → d < k → spec_l03Step.l4 k (a : Int) p (l.length : Int) (i : Int) l c m = some (fdL l p a d i : Int) := by
  induction d with
  | zero =>
    intro k i hd hi hk
    obtain ⟨k, rfl⟩ : ∃ m, k = m + 1 := ⟨k - 1, by omega⟩
    rw [spec_l03Step.l4, if_neg (by omega)]
    rfl
  | succ d ih =>
    intro k i hd hi hk
    obtain ⟨k, rfl⟩ : ∃ m, k = m + 1 := ⟨k - 1, by omega⟩
    simp only [spec_l03Step.l4, fdL]
    rw [if_pos (by omega), if_pos (int_nn i), if_pos (by omega), wrap_succ (by omega)]
    split
    · rfl
    · exact ih k (i + 1) (by omega) (by omega) (by omega)
theorem spec_l03Step.eq (l : List Int) (c m kind p : Int) (n : Nat) (hl : l.length ≤ 300) (hn : n ≤ l.length) {k : Nat} (hk : 700 < k) : spec_l03Step.f k l c m (n : Int) kind p = some (stepV l kind p n : Int) := by
  unfold spec_l03Step.f stepV
  rw [spec_l03Step.b0 l c m hl n k hn (by omega), spec_l03Step.f0 l c m hl _ k n hn rfl (by omega), spec_l03Start.eq (by omega) hn (by omega), spec_l03End.eq (by omega) hn (by omega), wrap_succ (by omega), spec_l03Step.fd l c m p n hl _ k (n + 1) rfl (by omega) (by omega)]
  simp only [Option.bind_some]
  by_cases h1 : kind = 1
  · rw [if_pos h1, if_pos h1, wrap_in (by omega) (by omega)]
    unfold spec_l01Max.f
    split <;> simp only [Option.bind_some] <;> refine congrArg some ?_ <;> omega
  rw [if_neg h1, if_neg h1]
  by_cases h2 : kind = 2
  · rw [if_pos h2, if_pos h2]
    unfold spec_l01Min.f
    split <;> simp only [Option.bind_some] <;> refine congrArg some ?_ <;> omega
  rw [if_neg h2, if_neg h2]
  (repeat' split) <;> rfl
/-! the program's -/
theorem impl_Buf_isWord.eq (l : List Int) (c m : Int) (n : Nat) (hn : n < l.length) {k : Nat} (hk : 0 < k) : impl_Buf_isWord.f k l c m (n : Int) = some (cls (rd l (n : Int)) == 2) := by
  unfold impl_Buf_isWord.f
  rw [if_pos (int_nn n), if_pos (by omega), impl_ClassOf.eq _ hk]
  rfl
theorem impl_Buf_wordBack.b1 (l : List Int) (c m : Int) (hl : l.length ≤ 300) (n : Nat) : ∀ k, n ≤ l.length → n + 1 < k → impl_Buf_wordBack.l1 k (n : Int) l c m = some (bkW l n : Int) := by
  induction n with
  | zero =>
    intro k _ hk
    obtain ⟨k, rfl⟩ : ∃ m, k = m + 1 := ⟨k - 1, by omega⟩
    rfl
  | succ n ih =>
    intro k hn hk
    obtain ⟨k, rfl⟩ : ∃ m, k = m + 1 := ⟨k - 1, by omega⟩
    simp only [impl_Buf_wordBack.l1, bkW]
    rw [wrap_pred n (by omega), if_pos (by omega), impl_Buf_isWord.eq l c m n (by omega) (by omega)]
    simp only [Option.bind_some, beq_iff_eq]
    split
    · exact ih k (by omega) (by omega)
    · rfl
theorem impl_Buf_wordBack.b0 (l : List Int) (c m : Int) (hl : l.length ≤ 300) (n : Nat) : ∀ k, n ≤ l.length → n + 1 + 303 < k → impl_Buf_wordBack.l0 k (n : Int) l c m = some (bkV l n : Int) := by
  have hj : ∀ (n k : Nat), n ≤ l.length → n + 303 < k → impl_Buf_wordBack.j1 k (n : Int) l c m = some (bkW l n : Int) := by
    intro n k hn hk
    obtain ⟨k, rfl⟩ : ∃ m, k = m + 1 := ⟨k - 1, by omega⟩
    exact impl_Buf_wordBack.b1 l c m hl n k hn (by omega)
  induction n with
  | zero =>
    intro k _ hk
    obtain ⟨k, rfl⟩ : ∃ m, k = m + 1 := ⟨k - 1, by omega⟩
    rw [impl_Buf_wordBack.l0, if_neg (by omega)]
    exact hj 0 k (by omega) (by omega)
  | succ n ih =>
    intro k hn hk
    obtain ⟨k, rfl⟩ : ∃ m, k = m + 1 := ⟨k - 1, by omega⟩
    simp only [impl_Buf_wordBack.l0, bkV, bkN]
    rw [wrap_pred n (by omega), if_pos (by omega), impl_Buf_isWord.eq l c m n (by omega) (by omega)]
    simp only [Option.bind_some, beq_iff_eq]
    split
    · exact hj (n + 1) k hn (by omega)
    · exact ih k (by omega) (by omega)
theorem impl_Buf_wordNext.f1 (l : List Int) (c m : Int) (hl : l.length ≤ 300) (d : Nat) : ∀ k n, n ≤ l.length → l.length - n = d → d + 1 < k → impl_Buf_wordNext.l1 k (n : Int) (l.length : Int) l c m = some (fwW l d n : Int) := by
  induction d with
  | zero =>
    intro k n hn hd hk
    obtain ⟨k, rfl⟩ : ∃ m, k = m + 1 := ⟨k - 1, by omega⟩
    rw [impl_Buf_wordNext.l1, if_neg (by omega)]
    rfl
  | succ d ih =>
    intro k n hn hd hk
    obtain ⟨k, rfl⟩ : ∃ m, k = m + 1 := ⟨k - 1, by omega⟩
    simp only [impl_Buf_wordNext.l1, fwW]
    rw [if_pos (by omega), impl_Buf_isWord.eq l c m n (by omega) (by omega), wrap_succ (by omega)]
    simp only [Option.bind_some, beq_iff_eq]
    split
    · exact ih k (n + 1) (by omega) (by omega) (by omega)
    · rfl
theorem impl_Buf_wordNext.f0 (l : List Int) (c m : Int) (hl : l.length ≤ 300) (d : Nat) : ∀ k n, n ≤ l.length → l.length - n = d → d + 1 + 303 < k → impl_Buf_wordNext.l0 k (n : Int) (l.length : Int) l c m = some (fwW l (l.length - fwN l d n) (fwN l d n) : Int) := by
  have hj : ∀ (n k : Nat), n ≤ l.length → 303 < k → impl_Buf_wordNext.j1 k (n : Int) (l.length : Int) l c m = some (fwW l (l.length - n) n : Int) := by
    intro n k hn hk
    obtain ⟨k, rfl⟩ : ∃ m, k = m + 1 := ⟨k - 1, by omega⟩
    exact impl_Buf_wordNext.f1 l c m hl (l.length - n) k n hn rfl (by omega)
  induction d with
  | zero =>
    intro k n hn hd hk
    obtain ⟨k, rfl⟩ : ∃ m, k = m + 1 := ⟨k - 1, by omega⟩
    rw [impl_Buf_wordNext.l0, if_neg (by omega)]
    exact hj n k hn (by omega)
  | succ d ih =>
    intro k n hn hd hk
    obtain ⟨k, rfl⟩ : ∃ m, k = m + 1 := ⟨k - 1, by omega⟩
    simp only [impl_Buf_wordNext.l0, fwN]
    rw [if_pos (by omega), impl_Buf_isWord.eq l c m n (by omega) (by omega), wrap_succ (by omega)]
    simp only [Option.bind_some, beq_iff_eq]
    split
    · exact hj n k hn (by omega)
    · exact ih k (n + 1) (by omega) (by omega) (by omega)
theorem impl_Buf_step.fd (l : List Int) (c m p : Int) (a : Nat) (hl : l.length ≤ 300) (d : Nat) : ∀ k i, l.length - i = d → i ≤ 301 → d < k → impl_Buf_step.l0 k (a : Int) p (l.length : Int) (i : Int) l c m = some (fdL l p a d i : Int) := by
  induction d with
  | zero =>
    intro k i hd hi hk
    obtain ⟨k, rfl⟩ : ∃ m, k = m + 1 := ⟨k - 1, by omega⟩
    rw [impl_Buf_step.l0, if_neg (by omega)]
    rfl
  | succ d ih =>
    intro k i hd hi hk
    obtain ⟨k, rfl⟩ : ∃ m, k = m + 1 := ⟨k - 1, by omega⟩
    simp only [impl_Buf_step.l0, fdL]
    rw [if_pos (by omega), if_pos (int_nn i), if_pos (by omega), wrap_succ (by omega)]
    split
    · rfl
    · exact ih k (i + 1) (by omega) (by omega) (by omega)
/-- the column that up and down keep -/
def colV (l : List Int) (c : Nat) : Int := (c : Int) - (stL l c : Int)
theorem impl_Buf_step.j0_eq (l : List Int) (c : Nat) (m kind p : Int) (n : Nat) (b : Bool) (hb : b = decide (kind = 7 ∨ kind = 8)) (hl : l.length ≤ 300) (hc : c ≤ l.length) (hn : n ≤ l.length) {k : Nat} (hk : 1400 < k) : impl_Buf_step.j0 k (n : Int) kind p (l.length : Int) kind b l (c : Int) m = some (if kind = 7 then plL l ((ctL l n : Int) - 1) (colV l c) else if kind = 8 then plL l ((ctL l n : Int) + 1) (colV l c) else if kind = 9 then 0 else if kind = 10 then (l.length : Int) else (fdL l p n (l.length - (n + 1)) (n + 1) : Int)) := by
  obtain ⟨k, rfl⟩ : ∃ m, k = m + 1 := ⟨k - 1, by omega⟩
  have h1 := ctL_le l n
  rw [impl_Buf_step.j0, impl_Buf_spot.eq (by omega) hn (by omega), impl_Buf_spot.eq (by omega) hc (by omega), wrap_succ (by omega), impl_Buf_step.fd l c m p n hl _ k (n + 1) rfl (by omega) (by omega)]
  simp only [Option.bind_some]
  rw [impl_Buf_place.eq _ _ _ _ _ hl (by omega), impl_Buf_place.eq _ _ _ _ _ hl (by omega)]
  simp only [Option.bind_some]
  rw [wrap_in (show -9223372036854775808 ≤ (ctL l n : Int) - 1 by omega) (by omega), wrap_in (show -9223372036854775808 ≤ (ctL l n : Int) - 1 + 2 by omega) (by omega), show (ctL l n : Int) - 1 + 2 = (ctL l n : Int) + 1 by omega]
  subst hb
  simp only [decide_eq_true_eq]
  unfold colV
  by_cases e7 : kind = 7
  · rw [if_pos (Or.inl e7), if_pos e7, if_neg (by omega)]
  rw [if_neg e7]
  by_cases e8 : kind = 8
  · rw [if_pos (Or.inr e8), if_pos e8, if_pos e8]
  rw [if_neg (by omega), if_neg e8]
  (repeat' split) <;> rfl
def stepI (l : List Int) (c : Nat) (kind p : Int) (n : Nat) : Int := if kind = 7 then plL l ((ctL l n : Int) - 1) (colV l c) else if kind = 8 then plL l ((ctL l n : Int) + 1) (colV l c) else (stepV l kind p n : Int)
theorem impl_Buf_step.eq (l : List Int) (c : Nat) (m kind p : Int) (n : Nat) (hl : l.length ≤ 300) (hc : c ≤ l.length) (hn : n ≤ l.length) {k : Nat} (hk : 1400 < k) : impl_Buf_step.f k l (c : Int) m (n : Int) kind p = some (stepI l c kind p n) := by
  unfold impl_Buf_step.f stepI
  simp only [impl_size_int64.eq, Option.bind_some]
  unfold impl_Buf_wordBack.f impl_Buf_wordNext.f
  simp only [impl_size_int64.eq, Option.bind_some]
  rw [impl_Buf_wordBack.b0 l c m hl n k hn (by omega), impl_Buf_wordNext.f0 l c m hl _ k n hn rfl (by omega), impl_Buf_start.eq (by omega) hn (by omega), impl_Buf_end.eq (by omega) hn (by omega)]
  simp only [Option.bind_some]
  unfold stepV
  by_cases h1 : kind = 1
  · rw [if_pos h1, if_neg (by omega), if_neg (by omega), if_pos h1, wrap_in (by omega) (by omega)]
    unfold mx
    refine congrArg some ?_
    split <;> omega
  rw [if_neg h1]
  by_cases h2 : kind = 2
  · rw [if_pos h2, if_neg (by omega), if_neg (by omega), if_neg h1, if_pos h2, wrap_in (by omega) (by omega)]
    unfold mn
    refine congrArg some ?_
    split <;> omega
  rw [if_neg h2]
  by_cases h3 : kind = 3
  · rw [if_pos h3, if_neg (by omega), if_neg (by omega), if_neg h1, if_neg h2, if_pos h3]
  rw [if_neg h3]
  by_cases h4 : kind = 4
  · rw [if_pos h4, if_neg (by omega), if_neg (by omega), if_neg h1, if_neg h2, if_neg h3, if_pos h4]
    rfl
  rw [if_neg h4]
  by_cases h5 : kind = 5
  · rw [if_pos h5, if_neg (by omega), if_neg (by omega), if_neg h1, if_neg h2, if_neg h3, if_neg h4, if_pos h5]
  rw [if_neg h5]
  by_cases h6 : kind = 6
  · rw [if_pos h6, if_neg (by omega), if_neg (by omega), if_neg h1, if_neg h2, if_neg h3, if_neg h4, if_neg h5, if_pos h6]
  rw [if_neg h6]
  by_cases h7 : kind = 7
  · rw [if_pos h7, impl_Buf_step.j0_eq l c m kind p n (kind == 7) (by simp [h7]) hl hc hn hk, if_pos h7, if_pos h7]
  rw [if_neg h7, impl_Buf_step.j0_eq l c m kind p n (kind == 8) (by rw [Bool.eq_iff_iff]; simp [h7]) hl hc hn hk, if_neg h7, if_neg h7]
  by_cases h8 : kind = 8
  · rw [if_pos h8, if_pos h8]
  rw [if_neg h8, if_neg h8, if_neg h1, if_neg h2, if_neg h3, if_neg h4, if_neg h5, if_neg h6]
  (repeat' split) <;> rfl
/-! ### motions -/
def itV (l : List Int) (kind p : Int) : Nat → Nat → Nat
  | 0, n => n
  | t + 1, n => itV l kind p t (stepV l kind p n)
theorem itV_fix (l : List Int) (kind p : Int) (n : Nat) (h : stepV l kind p n = n) : ∀ t, itV l kind p t n = n := by
  intro t
  induction t with
  | zero => rfl
  | succ t ih =>
    show itV l kind p t (stepV l kind p n) = n
    rw [h]
    exact ih
theorem itV_le (l : List Int) (kind p : Int) : ∀ t n, n ≤ l.length → itV l kind p t n ≤ l.length := by
  intro t
  induction t with
  | zero => intro n h; exact h
  | succ t ih => intro n h; exact ih _ (stepV_le l kind p n h)
def motV (l : List Int) (c m kind count p : Int) : Int :=
  if bufOK l c m = true ∧ (1 ≤ kind ∧ kind ≤ 11) ∧ (0 ≤ count ∧ count ≤ 1000) then
    (if kind = 7 then plL l ((ctL l c.toNat : Int) - count) (colV l c.toNat) else if kind = 8 then plL l ((ctL l c.toNat : Int) + count) (colV l c.toNat) else (itV l kind p count.toNat c.toNat : Int))
  else -1
theorem spec_Motion.loop (l : List Int) (c m kind p : Int) (hl : l.length ≤ 300) (t : Nat) : ∀ k n, n ≤ l.length → t ≤ 1000 → t + 800 < k → spec_Motion.l0 k kind (t : Int) p (n : Int) l c m = some (itV l kind p t n : Int) := by
  induction t with
  | zero =>
    intro k n _ _ hk
    obtain ⟨k, rfl⟩ : ∃ m, k = m + 1 := ⟨k - 1, by omega⟩
    rfl
  | succ t ih =>
    intro k n hn ht hk
    obtain ⟨k, rfl⟩ : ∃ m, k = m + 1 := ⟨k - 1, by omega⟩
    simp only [spec_Motion.l0, itV]
    rw [if_pos (by omega), spec_l03Step.eq l c m kind p n hl hn (by omega), wrap_pred t (by omega)]
    simp only [Option.bind_some]
    exact ih k _ (stepV_le l kind p n hn) (by omega) (by omega)
theorem spec_Motion.j1_eq (l : List Int) (c : Nat) (m kind p : Int) (t : Nat) (hb : bufOK l (c : Int) m = true) (ht : t ≤ 1000) (b : Bool) (e : b = decide (kind = 7 ∨ kind = 8)) {k : Nat} (hk : 2500 < k) : spec_Motion.j1 k kind (t : Int) p b l (c : Int) m = some (if kind = 7 then plL l ((ctL l c : Int) - t) (colV l c) else if kind = 8 then plL l ((ctL l c : Int) + t) (colV l c) else (itV l kind p t c : Int)) := by
  obtain ⟨k, rfl⟩ : ∃ m, k = m + 1 := ⟨k - 1, by omega⟩
  have hl := bufOK_len hb
  have hc : c ≤ l.length := by have := bufOK_all hb; omega
  have h1 := ctL_le l c
  rw [spec_Motion.j1, spec_l03Spot.eq (by omega) hc (by omega), spec_Motion.loop l c m kind p hl t k c hc ht (by omega)]
  simp only [Option.bind_some]
  rw [spec_PlaceOf.eq _ _ _ _ _ (by omega), spec_PlaceOf.eq _ _ _ _ _ (by omega), wrap_in (by omega) (by omega), wrap_in (by omega) (by omega)]
  unfold placeV
  rw [if_pos hb, if_pos hb]
  simp only [Option.bind_some]
  subst e
  simp only [decide_eq_true_eq]
  unfold colV
  by_cases e7 : kind = 7
  · rw [if_pos (Or.inl e7), if_pos e7, if_pos e7]
  rw [if_neg e7, if_neg e7]
  by_cases e8 : kind = 8
  · rw [if_pos (Or.inr e8), if_pos e8]
  rw [if_neg (by omega), if_neg e8]
theorem spec_Motion.eq (l : List Int) (c m kind count p : Int) {k : Nat} (hk : 2600 < k) : spec_Motion.f k l c m kind count p = some (motV l c m kind count p) := by
  have hj : ∀ b : Bool, spec_Motion.j0 k kind count p b l c m = if b = true then some (-1) else (if kind = 7 then spec_Motion.j1 (k - 1) kind count p true l c m else spec_Motion.j1 (k - 1) kind count p (kind == 8) l c m) := by
    intro b
    obtain ⟨k, rfl⟩ : ∃ m, k = m + 1 := ⟨k - 1, by omega⟩
    rw [spec_Motion.j0]
    rfl
  unfold spec_Motion.f motV
  rw [spec_BufRight.eq _ _ _ (by omega)]
  simp only [Option.bind_some]
  by_cases h : bufOK l c m = true
  · rw [if_pos h, hj, hj, if_pos rfl]
    by_cases h1 : kind < 1
    · rw [if_pos h1, if_neg (by omega)]
    rw [if_neg h1]
    by_cases h2 : kind > 11
    · rw [if_pos h2, if_neg (by omega)]
    rw [if_neg h2]
    by_cases h3 : count < 0
    · rw [if_pos h3, if_neg (by omega)]
    rw [if_neg h3]
    by_cases h4 : count > 1000
    · rw [if_pos (by rw [decide_eq_true_eq]; exact h4), if_neg (by omega)]
    rw [if_neg (by rw [decide_eq_true_eq]; exact h4), if_pos (show bufOK l c m = true ∧ (1 ≤ kind ∧ kind ≤ 11) ∧ (0 ≤ count ∧ count ≤ 1000) from ⟨h, ⟨by omega, by omega⟩, by omega, by omega⟩)]
    have hall := bufOK_all h
    obtain ⟨c, rfl⟩ : ∃ n : Nat, c = (n : Int) := ⟨c.toNat, by omega⟩
    obtain ⟨t, rfl⟩ : ∃ n : Nat, count = (n : Int) := ⟨count.toNat, by omega⟩
    by_cases e7 : kind = 7
    · rw [if_pos e7, spec_Motion.j1_eq l c m kind p t h (by omega) true (by simp [e7]) (by omega)]
      rfl
    · rw [if_neg e7, spec_Motion.j1_eq l c m kind p t h (by omega) (kind == 8) (by rw [Bool.eq_iff_iff]; simp [e7]) (by omega)]
      rfl
  · rw [if_neg h, hj, if_pos rfl, if_neg (fun g => h g.1)]
theorem impl_Buf_motion.up (l : List Int) (c : Nat) (m p : Int) (hl : l.length ≤ 300) (hc : c ≤ l.length) (count : Nat) (hco : count ≤ 1000) (d : Nat) : ∀ (k n i x : Nat), count - x = d → x ≤ count → n ≤ l.length → ctL l n = i → (n : Int) = plL l (i : Int) (colV l c) → d + 1500 < k → impl_Buf_motion.l0 k 7 p (n : Int) (count : Int) (x : Int) l (c : Int) m = some (plL l ((i : Int) - (d : Int)) (colV l c)) := by
  have hcol : 0 ≤ colV l c := by unfold colV; have := stL_le l c; omega
  induction d with
  | zero =>
    intro k n i x hd hx hn hi hp hk
    obtain ⟨k, rfl⟩ : ∃ m, k = m + 1 := ⟨k - 1, by omega⟩
    rw [impl_Buf_motion.l0, if_neg (by omega), hp]
    refine congrArg (fun z => some (plL l z (colV l c))) ?_
    omega
  | succ d ih =>
    intro k n i x hd hx hn hi hp hk
    obtain ⟨k, rfl⟩ : ∃ m, k = m + 1 := ⟨k - 1, by omega⟩
    have hct := ctL_mono l n l.length hn
    rw [impl_Buf_motion.l0, if_pos (by omega), impl_Buf_step.eq l c m 7 p n hl hc hn (by omega), wrap_succ (by omega)]
    simp only [Option.bind_some]
    unfold stepI
    rw [if_pos rfl, hi]
    by_cases e : i = 0
    · have e1 : plL l ((i : Int) - 1) (colV l c) = (n : Int) := by
        rw [plL_clamp, hp, plL_clamp l (i : Int)]
        refine congrArg (fun z => plL l z (colV l c)) ?_
        omega
      rw [if_pos e1, hp, plL_clamp, plL_clamp l ((i : Int) - ((d + 1 : Nat) : Int))]
      refine congrArg (fun z => some (plL l z (colV l c))) ?_
      omega
    · obtain ⟨j, rfl⟩ : ∃ j, i = j + 1 := ⟨i - 1, by omega⟩
      obtain ⟨n2, g1, g2, g3⟩ := plL_at l j (colV l c) (by omega) hcol
      rw [show ((j + 1 : Nat) : Int) - 1 = (j : Int) by omega, g1, if_neg (fun g => absurd g3 (by rw [show n2 = n by omega, hi]; omega))]
      rw [ih k n2 j (x + 1) (by omega) (by omega) g2 g3 g1.symm (by omega)]
      refine congrArg (fun z => some (plL l z (colV l c))) ?_
      omega
theorem impl_Buf_motion.down (l : List Int) (c : Nat) (m p : Int) (hl : l.length ≤ 300) (hc : c ≤ l.length) (count : Nat) (hco : count ≤ 1000) (d : Nat) : ∀ (k n i x : Nat), count - x = d → x ≤ count → n ≤ l.length → ctL l n = i → (n : Int) = plL l (i : Int) (colV l c) → d + 1500 < k → impl_Buf_motion.l0 k 8 p (n : Int) (count : Int) (x : Int) l (c : Int) m = some (plL l ((i : Int) + (d : Int)) (colV l c)) := by
  have hcol : 0 ≤ colV l c := by unfold colV; have := stL_le l c; omega
  induction d with
  | zero =>
    intro k n i x hd hx hn hi hp hk
    obtain ⟨k, rfl⟩ : ∃ m, k = m + 1 := ⟨k - 1, by omega⟩
    rw [impl_Buf_motion.l0, if_neg (by omega), hp]
    refine congrArg (fun z => some (plL l z (colV l c))) ?_
    omega
  | succ d ih =>
    intro k n i x hd hx hn hi hp hk
    obtain ⟨k, rfl⟩ : ∃ m, k = m + 1 := ⟨k - 1, by omega⟩
    have hct := ctL_mono l n l.length hn
    rw [impl_Buf_motion.l0, if_pos (by omega), impl_Buf_step.eq l c m 8 p n hl hc hn (by omega), wrap_succ (by omega)]
    simp only [Option.bind_some]
    unfold stepI
    rw [if_neg (show ¬ (8 : Int) = 7 by decide), if_pos rfl, hi]
    by_cases e : i = ctL l l.length
    · have e1 : plL l ((i : Int) + 1) (colV l c) = (n : Int) := by
        rw [plL_clamp, hp, plL_clamp l (i : Int)]
        refine congrArg (fun z => plL l z (colV l c)) ?_
        omega
      rw [if_pos e1, hp, plL_clamp, plL_clamp l ((i : Int) + ((d + 1 : Nat) : Int))]
      refine congrArg (fun z => some (plL l z (colV l c))) ?_
      omega
    · obtain ⟨n2, g1, g2, g3⟩ := plL_at l (i + 1) (colV l c) (by omega) hcol
      rw [show (i : Int) + 1 = ((i + 1 : Nat) : Int) by omega, g1, if_neg (fun g => absurd g3 (by rw [show n2 = n by omega, hi]; omega))]
      rw [ih k n2 (i + 1) (x + 1) (by omega) (by omega) g2 g3 g1.symm (by omega)]
      refine congrArg (fun z => some (plL l z (colV l c))) ?_
      omega
theorem impl_Buf_motion.go (l : List Int) (c : Nat) (m kind p : Int) (h7 : kind ≠ 7) (h8 : kind ≠ 8) (hl : l.length ≤ 300) (hc : c ≤ l.length) (count : Nat) (hco : count ≤ 1000) (d : Nat) : ∀ (k n x : Nat), count - x = d → x ≤ count → n ≤ l.length → d + 1500 < k → impl_Buf_motion.l0 k kind p (n : Int) (count : Int) (x : Int) l (c : Int) m = some (itV l kind p d n : Int) := by
  induction d with
  | zero =>
    intro k n x hd hx hn hk
    obtain ⟨k, rfl⟩ : ∃ m, k = m + 1 := ⟨k - 1, by omega⟩
    rw [impl_Buf_motion.l0, if_neg (by omega)]
    rfl
  | succ d ih =>
    intro k n x hd hx hn hk
    obtain ⟨k, rfl⟩ : ∃ m, k = m + 1 := ⟨k - 1, by omega⟩
    rw [impl_Buf_motion.l0, if_pos (by omega), impl_Buf_step.eq l c m kind p n hl hc hn (by omega), wrap_succ (by omega)]
    simp only [Option.bind_some]
    unfold stepI
    rw [if_neg h7, if_neg h8]
    by_cases e : stepV l kind p n = n
    · rw [if_pos (by rw [e]), itV_fix l kind p n e]
    · rw [if_neg (by omega)]
      exact ih k _ (x + 1) (by omega) (by omega) (stepV_le l kind p n hn) (by omega)
theorem impl_Motion.eq (l : List Int) (c m kind count p : Int) {k : Nat} (hk : 3000 < k) : impl_Motion.f k l c m kind count p = some (motV l c m kind count p) := by
  unfold impl_Motion.f motV
  rw [impl_BufRight.eq _ _ _ (by omega)]
  simp only [Option.bind_some, impl_within.eq, decide_eq_true_eq]
  by_cases h : bufOK l c m = true
  · rw [if_pos h]
    by_cases h1 : 1 ≤ kind ∧ kind ≤ 11
    · rw [if_pos h1]
      by_cases h2 : 0 ≤ count ∧ count ≤ 1000
      · rw [if_pos h2, if_pos ⟨h, h1, h2⟩]
        have hall := bufOK_all h
        obtain ⟨c, rfl⟩ : ∃ n : Nat, c = (n : Int) := ⟨c.toNat, by omega⟩
        obtain ⟨t, rfl⟩ : ∃ n : Nat, count = (n : Int) := ⟨count.toNat, by omega⟩
        have hc : c ≤ l.length := by omega
        have hs := plL_self l c hc
        unfold impl_Buf_motion.f
        by_cases e7 : kind = 7
        · subst e7
          have hu := impl_Buf_motion.up l c m p hall.1 hc t (by omega) t k c (ctL l c) 0 (by omega) (by omega) hc rfl hs.symm (by omega)
          rw [show ((0 : Nat) : Int) = 0 from rfl] at hu
          rw [hu]
          rfl
        · by_cases e8 : kind = 8
          · subst e8
            have hu := impl_Buf_motion.down l c m p hall.1 hc t (by omega) t k c (ctL l c) 0 (by omega) (by omega) hc rfl hs.symm (by omega)
            rw [show ((0 : Nat) : Int) = 0 from rfl] at hu
            rw [hu]
            rfl
          · have hu := impl_Buf_motion.go l c m kind p e7 e8 hall.1 hc t (by omega) t k c 0 (by omega) (by omega) hc (by omega)
            rw [show ((0 : Nat) : Int) = 0 from rfl] at hu
            rw [hu, if_neg e7, if_neg e8]
            rfl
      · rw [if_neg h2, if_neg (fun g => h2 g.2.2)]
    · rw [if_neg h1, if_neg (fun g => h1 g.2.1)]
  · rw [if_neg h, if_neg (fun g => h g.1)]
theorem spec_l01Copy.eq {l : List Int} (h : l.length ≤ 2000000) : spec_l01Copy.f l = some l := by
  unfold spec_l01Copy.f
  simp only [Option.bind_some, List.length_nil, List.nil_append]
  rw [if_pos (by omega)]
theorem slices_Clone_sint64_int64.eq {l : List Int} (h : l.length ≤ 2000000) : slices_Clone_sint64_int64.f l = some l := by
  unfold slices_Clone_sint64_int64.f
  simp only [Option.bind_some, List.length_nil, List.nil_append]
  rw [if_pos (by omega)]
def bmvV (l : List Int) (c m kind count p : Int) : List Int × Int × Int := (l, (if motV l c m kind count p ≥ 0 then motV l c m kind count p else c), m)
theorem spec_BufMove.eq (l : List Int) (c m kind count p : Int) (hl : l.length ≤ 1048576) {k : Nat} (hk : 3000 < k) : spec_BufMove.f k l c m kind count p = some (bmvV l c m kind count p) := by
  unfold spec_BufMove.f spec_l02Copy.f bmvV
  rw [spec_l01Copy.eq (by omega), spec_Motion.eq _ _ _ _ _ _ (by omega)]
  simp only [Option.bind_some]
  split <;> rfl
theorem impl_BufMove.eq (l : List Int) (c m kind count p : Int) (hl : l.length ≤ 1048576) {k : Nat} (hk : 3000 < k) : impl_BufMove.f k l c m kind count p = some (bmvV l c m kind count p) := by
  unfold impl_BufMove.f impl_ownBuf.f bmvV
  rw [slices_Clone_sint64_int64.eq (by omega), impl_Motion.eq _ _ _ _ _ _ (by omega)]
  simp only [Option.bind_some]
  split <;> rfl

theorem FnExactBufMove : laws_FnExactBufMove.Pure := by
  intro l c m kind count p ⟨⟨hl, _⟩, _, _⟩ _ _ _
  have hl := maxLen_le hl
  refine ⟨1048600, ?_⟩
  unfold laws_FnExactBufMove.f
  rw [laws_szBuf.eq (by omega) (by omega) hl]
  simp only [Option.bind_some]
  by_cases h : (1048576 : Int) < (l.length : Int)
  · rw [if_pos h, if_pos (by omega)]
  · rw [if_neg h, if_neg (by omega), laws_toBuf.eq (by omega) (by omega)]
    simp only [Option.bind_some]
    rw [spec_BufMove.eq _ _ _ _ _ _ (by omega) (by omega), impl_BufMove.eq _ _ _ _ _ _ (by omega) (by omega)]
    simp only [Option.bind_some]
    have hv : (bmvV l c m kind count p).1 = l := rfl
    rw [hv, laws_eqBuf.eq (by omega) (by omega)]
    simp only [Option.bind_some, and_self, decide_true, if_true, laws_FnExactBufMove.j0]
    rw [laws_toBuf.eq (by omega) (by omega)]
    simp only [Option.bind_some]
    rw [laws_eqBuf.eq (by omega) (by omega)]
    simp only [Option.bind_some, and_self, decide_true, if_true, laws_FnExactBufMove.j1]
    rw [laws_markBuf.eq (by omega) (by omega) (by omega) (by omega)]
    simp only [Option.bind_some]
    rw [if_neg (by omega), laws_eqBuf.eq (by omega) (by omega)]
    simp only [Option.bind_some, and_self, decide_true, Bool.not_true, Bool.false_eq_true, if_false, laws_FnExactBufMove.j2, laws_FnExactBufMove.j3]
    rw [laws_markBuf.eq (by omega) (by omega) (by omega) (by omega)]
    simp only [Option.bind_some]
    rw [laws_heldBuf.eq (by omega) (by omega) (by omega) (by omega)]
    simp only [Option.bind_some]
    rw [if_neg (by omega)]
    simp only [if_true, laws_FnExactBufMove.j4]
    rw [laws_toBuf.eq (by omega) (by omega)]
    simp only [Option.bind_some]
    rw [impl_BufMove.eq _ _ _ _ _ _ (by omega) (by omega)]
    simp only [Option.bind_some]
    rw [hv, laws_eqBuf.eq (by omega) (by omega)]
    simp only [Option.bind_some, and_self, decide_true, if_true, laws_FnExactBufMove.j5]
    rw [laws_heldBuf.eq (by omega) (by omega) (by omega) (by omega)]
    simp only [Option.bind_some]
    rw [if_neg (by omega)]
    simp

end Go.Proofs.Ytegadjijonlmcaa.Pure
