/- Proved: the program's ViewOf returns what the reference's returns, for every prompt and buffer of at most 2^20 points, with or without region, and every number of rows and columns; it leaves the prompt and the buffer as they were, and its answer is memory of its own. -/
import Derived.Test.YtcjclihkaaaihaaPFnExactViewOfx10
namespace Go.Proofs.Ytcjclihkaaaihaa.Pure
open Go.RowKit Go.Proofs.Ytcjclihkaaaihaa.PFnExactViewOf Go.Proofs.YtcjclihkaaaihaaW.PrintWords Go.Proofs.YtcjclihkaaaihaaW.PrintLast Go.Proofs.YtcjclihkaaaihaaW.PrintMore
set_option linter.unusedVariables false
set_option linter.unusedSimpArgs false

/-! ### plain words -/
theorem wrap_in {x : Int} (h0 : -9223372036854775808 ≤ x) (h1 : x ≤ 9223372036854775807) : wrap64 x = x := by unfold wrap64; omega
theorem wrap_succ {i : Nat} (h : i < 4611686018427387904) : wrap64 ((i : Int) + 1) = ((i + 1 : Nat) : Int) := by unfold wrap64; omega
theorem rd_nat (l : List Int) (i : Nat) : rd l (i : Int) = l.getD i 0 := by simp [rd]
theorem drop_rd {l : List Int} {i : Nat} (h : i < l.length) : l.drop i = rd l (i : Int) :: l.drop (i + 1) := by
  rw [rd_nat, List.drop_eq_getElem_cons h, List.getD_eq_getElem?_getD, List.getElem?_eq_getElem h]
  rfl
theorem int_lt {i n : Nat} (h : i < n) : (i : Int) < (n : Int) := by omega
theorem int_nn (i : Nat) : (0 : Int) ≤ (i : Int) := by omega
theorem maxLen_le {n : Nat} (h : n ≤ maxLen) : n ≤ 9223372036854775807 := by unfold maxLen at h; exact h
theorem some_b {a b : Bool} (h : a = true ↔ b = true) : some a = some b := congrArg some (Bool.eq_iff_iff.2 h)
def isPt (a : Int) : Bool := decide (0 ≤ a ∧ a ≤ 1114111 ∧ ¬ (55296 ≤ a ∧ a ≤ 57343))
def ptsOK (l : List Int) : Bool := decide (l.length ≤ 300) && l.all isPt
def bufOK (l : List Int) (c m : Int) : Bool := ptsOK l && decide (0 ≤ c ∧ c ≤ l.length) && decide (0 ≤ m ∧ m ≤ l.length)
def isCtl (a : Int) : Bool := decide (a < 32 ∨ a = 127)
def isWide2 (a : Int) : Bool := decide ((4352 ≤ a ∧ a ≤ 4447) ∨ (11904 ≤ a ∧ a ≤ 42191) ∨ (44032 ≤ a ∧ a ≤ 55203) ∨ (63744 ≤ a ∧ a ≤ 64255) ∨ (65281 ≤ a ∧ a ≤ 65376) ∨ (127744 ≤ a ∧ a ≤ 129791))
def wid (a : Int) : Int := if isPt a = true ∧ ¬ (768 ≤ a ∧ a ≤ 879) then (if isCtl a = true ∨ isWide2 a = true then 2 else 1) else 0
theorem ptsOK_len {l : List Int} (h : ptsOK l = true) : l.length ≤ 300 := by
  unfold ptsOK at h
  simp only [Bool.and_eq_true, decide_eq_true_eq] at h
  exact h.1
theorem bufOK_len {l : List Int} {c m : Int} (h : bufOK l c m = true) : l.length ≤ 300 := by
  unfold bufOK at h
  simp only [Bool.and_eq_true] at h
  exact ptsOK_len h.1.1
theorem bufOK_all {l : List Int} {c m : Int} (h : bufOK l c m = true) : l.length ≤ 300 ∧ 0 ≤ c ∧ c ≤ l.length ∧ 0 ≤ m ∧ m ≤ l.length := by
  have hl := bufOK_len h
  unfold bufOK at h
  simp only [Bool.and_eq_true, decide_eq_true_eq] at h
  exact ⟨hl, h.1.2.1, h.1.2.2, h.2.1, h.2.2⟩
theorem laws_szInt64S.eq {l : List Int} {a : Int} (h0 : 0 ≤ a) (h1 : a ≤ 1048576) (hl : l.length ≤ 9223372036854775807) : laws_szInt64S.f l a = some (if a < (l.length : Int) then -1 else a - (l.length : Int)) := by
  unfold laws_szInt64S.f
  rw [wrap_in (by omega) (by omega)]
  by_cases h : a < (l.length : Int)
  · rw [if_pos (by omega), if_pos h]
  · rw [if_neg (by omega), if_neg h]
theorem laws_szBuf.eq {l : List Int} {a c m : Int} (h0 : 0 ≤ a) (h1 : a ≤ 1048576) (hl : l.length ≤ 9223372036854775807) : laws_szBuf.f l c m a = some (if a < (l.length : Int) then -1 else a - (l.length : Int)) := by
  unfold laws_szBuf.f
  rw [laws_szInt64S.eq h0 h1 hl]
  simp only [Option.bind_some]
  by_cases h : a < (l.length : Int)
  · rw [if_pos h, if_pos (by omega)]
  · rw [if_neg h, if_neg (by omega)]
theorem laws_toInt64S.loop (l : List Int) (hl : l.length ≤ 1048576) (d : Nat) : ∀ (k i : Nat), i ≤ l.length → l.length - i = d → d < k → laws_toInt64S.l0 k l (l.take i ++ List.replicate (l.length - i) 0) (i : Int) = some l := by
  induction d with
  | zero =>
    intro k i hi hd hk
    obtain ⟨k, rfl⟩ : ∃ m, k = m + 1 := ⟨k - 1, by omega⟩
    obtain rfl : i = l.length := by omega
    simp only [laws_toInt64S.l0]
    rw [if_neg (by omega)]
    simp
  | succ d ih =>
    intro k i hi hd hk
    obtain ⟨k, rfl⟩ : ∃ m, k = m + 1 := ⟨k - 1, by omega⟩
    have hlt : i < l.length := by omega
    simp only [laws_toInt64S.l0]
    rw [if_pos (int_lt hlt), if_pos (int_nn i), if_pos (by simp; omega), wrap_succ (by omega), Int.toNat_natCast]
    have hs : (l.take i ++ List.replicate (l.length - i) 0).set i (rd l (i : Int)) = l.take (i + 1) ++ List.replicate (l.length - (i + 1)) 0 := by
      have h1 : (l.take i).length = i := by simp; omega
      rw [List.set_append_right _ _ (by omega), h1, Nat.sub_self, show l.length - i = (l.length - (i + 1)) + 1 by omega, List.replicate_succ, List.set_cons_zero, List.take_succ_eq_append_getElem hlt, rd_nat, List.getD_eq_getElem?_getD, List.getElem?_eq_getElem hlt, List.append_assoc]
      rfl
    rw [hs]
    exact ih k (i + 1) (by omega) (by omega) (by omega)
theorem laws_toInt64S.eq {l : List Int} {k : Nat} (hl : l.length ≤ 1048576) (hk : l.length < k) : laws_toInt64S.f k l = some l := by
  unfold laws_toInt64S.f
  rw [if_pos (by omega), if_pos (by omega), Int.toNat_natCast]
  have := laws_toInt64S.loop l hl l.length k 0 (by omega) (by omega) hk
  simpa using this
theorem laws_toBuf.eq {l : List Int} {c m : Int} {k : Nat} (hl : l.length ≤ 1048576) (hk : l.length < k) : laws_toBuf.f k l c m = some (l, c, m) := by
  unfold laws_toBuf.f
  rw [laws_toInt64S.eq hl hk]
  rfl
theorem laws_eqInt64S.loop (a b : List Int) (hab : a.length = b.length) (hl : a.length ≤ 1048576) (d : Nat) : ∀ (k i : Nat), i ≤ a.length → a.length - i = d → d < k → laws_eqInt64S.l0 k a b (i : Int) = some (decide (a.drop i = b.drop i)) := by
  induction d with
  | zero =>
    intro k i hi hd hk
    obtain ⟨k, rfl⟩ : ∃ m, k = m + 1 := ⟨k - 1, by omega⟩
    simp only [laws_eqInt64S.l0]
    rw [if_neg (by omega), List.drop_eq_nil_of_le (by omega), List.drop_eq_nil_of_le (by omega)]
    rfl
  | succ d ih =>
    intro k i hi hd hk
    obtain ⟨k, rfl⟩ : ∃ m, k = m + 1 := ⟨k - 1, by omega⟩
    have hlt : i < a.length := by omega
    simp only [laws_eqInt64S.l0]
    rw [if_pos (int_lt hlt), if_pos (int_nn i), if_pos (by omega), wrap_succ (by omega), ih k (i + 1) (by omega) (by omega) (by omega), drop_rd hlt, drop_rd (show i < b.length by omega)]
    by_cases h : rd a (i : Int) = rd b (i : Int)
    · rw [if_pos h, h]
      simp
    · rw [if_neg h]
      simp [h]
theorem laws_eqInt64S.eq {a b : List Int} {k : Nat} (hl : a.length ≤ 1048576) (hk : a.length < k) : laws_eqInt64S.f k a b = some (decide (a = b)) := by
  unfold laws_eqInt64S.f
  by_cases h : a.length = b.length
  · rw [if_pos (by omega)]
    have := laws_eqInt64S.loop a b h hl a.length k 0 (by omega) (by omega) hk
    simpa using this
  · rw [if_neg (by omega)]
    refine congrArg some (decide_eq_false (fun e => h (by rw [e]))).symm
theorem laws_eqBuf.eq {a b : List Int} {c m c' m' : Int} {k : Nat} (hl : a.length ≤ 1048576) (hk : a.length < k) : laws_eqBuf.f k a c m b c' m' = some (decide (a = b ∧ c = c' ∧ m = m')) := by
  unfold laws_eqBuf.f
  rw [laws_eqInt64S.eq hl hk]
  simp only [Option.bind_some, decide_eq_true_eq]
  by_cases h1 : a = b
  · by_cases h2 : c = c'
    · by_cases h3 : m = m'
      · simp [h1, h2, h3]
      · simp [h1, h2, h3]
    · simp [h1, h2]
  · simp [h1]
/-- the row of marks -/
def mkL : Nat → Int → List Int
  | 0, _ => []
  | n + 1, a => mkL n a ++ [a + (n : Int)]
theorem mkL_zero (a : Int) : mkL 0 a = [] := rfl
theorem mkL_succ (n : Nat) (a : Int) : mkL (n + 1) a = mkL n a ++ [a + (n : Int)] := rfl
theorem mkL_length (n : Nat) (a : Int) : (mkL n a).length = n := by
  induction n with
  | zero => rfl
  | succ n ih => rw [mkL_succ, List.length_append, ih]; rfl
theorem mkL_rd {n : Nat} {a : Int} : ∀ {i : Nat}, i < n → rd (mkL n a) (i : Int) = a + (i : Int) := by
  induction n with
  | zero => intro i h; omega
  | succ n ih =>
    intro i h
    rw [rd_nat, mkL_succ, List.getD_eq_getElem?_getD]
    by_cases e : i = n
    · subst e
      rw [List.getElem?_append_right (by rw [mkL_length]; omega), mkL_length]
      simp
    · rw [List.getElem?_append_left (by rw [mkL_length]; omega)]
      have := ih (i := i) (by omega)
      rw [rd_nat, List.getD_eq_getElem?_getD] at this
      exact this
theorem laws_markInt64S.loop (l : List Int) (hl : l.length ≤ 1048576) (a : Int) (h0 : 0 ≤ a) (h1 : a ≤ 4000000000) (d : Nat) : ∀ (k i : Nat), i ≤ l.length → l.length - i = d → d < k → laws_markInt64S.l0 k (mkL i a ++ l.drop i) (a + (i : Int)) (i : Int) = some (a + (l.length : Int), mkL l.length a) := by
  induction d with
  | zero =>
    intro k i hi hd hk
    obtain ⟨k, rfl⟩ : ∃ m, k = m + 1 := ⟨k - 1, by omega⟩
    obtain rfl : i = l.length := by omega
    simp only [laws_markInt64S.l0]
    rw [List.drop_length, List.append_nil, mkL_length, if_neg (by omega)]
  | succ d ih =>
    intro k i hi hd hk
    obtain ⟨k, rfl⟩ : ∃ m, k = m + 1 := ⟨k - 1, by omega⟩
    have hlt : i < l.length := by omega
    have hlen : (mkL i a ++ l.drop i).length = l.length := by rw [List.length_append, mkL_length, List.length_drop]; omega
    simp only [laws_markInt64S.l0]
    rw [if_pos (by omega), if_pos (int_nn i), wrap_succ (by omega), wrap_in (by omega) (by omega), Int.toNat_natCast]
    have hs : (mkL i a ++ l.drop i).set i (a + (i : Int)) = mkL (i + 1) a ++ l.drop (i + 1) := by
      rw [List.set_append_right _ _ (by rw [mkL_length]; omega), mkL_length, Nat.sub_self, drop_rd hlt, List.set_cons_zero, mkL_succ, List.append_assoc]
      rfl
    rw [hs, show a + (i : Int) + 1 = a + ((i + 1 : Nat) : Int) by omega]
    exact ih k (i + 1) (by omega) (by omega) (by omega)
theorem laws_markInt64S.eq {l : List Int} {a : Int} {k : Nat} (hl : l.length ≤ 1048576) (h0 : 0 ≤ a) (h1 : a ≤ 4000000000) (hk : l.length < k) : laws_markInt64S.f k l a = some (a + (l.length : Int), mkL l.length a) := by
  have := laws_markInt64S.loop l hl a h0 h1 l.length k 0 (by omega) (by omega) hk
  rw [mkL_zero, List.drop_zero] at this
  unfold laws_markInt64S.f
  simpa using this
theorem laws_heldInt64S.loop (n : Nat) (hl : n ≤ 1048576) (a : Int) (h0 : 0 ≤ a) (h1 : a ≤ 4000000000) (d : Nat) : ∀ (k i : Nat), i ≤ n → n - i = d → d < k → laws_heldInt64S.l0 k (mkL n a) (a + (i : Int)) (i : Int) = some (a + (n : Int)) := by
  induction d with
  | zero =>
    intro k i hi hd hk
    obtain ⟨k, rfl⟩ : ∃ m, k = m + 1 := ⟨k - 1, by omega⟩
    obtain rfl : i = n := by omega
    simp only [laws_heldInt64S.l0]
    rw [mkL_length, if_neg (by omega)]
  | succ d ih =>
    intro k i hi hd hk
    obtain ⟨k, rfl⟩ : ∃ m, k = m + 1 := ⟨k - 1, by omega⟩
    have hlt : i < n := by omega
    simp only [laws_heldInt64S.l0]
    rw [mkL_length, if_pos (int_lt hlt), if_pos (int_nn i), mkL_rd hlt, if_pos rfl, wrap_succ (by omega), wrap_in (by omega) (by omega), show a + (i : Int) + 1 = a + ((i + 1 : Nat) : Int) by omega]
    exact ih k (i + 1) (by omega) (by omega) (by omega)
theorem laws_heldInt64S.eq {n : Nat} {a : Int} {k : Nat} (hl : n ≤ 1048576) (h0 : 0 ≤ a) (h1 : a ≤ 4000000000) (hk : n < k) : laws_heldInt64S.f k (mkL n a) a = some (a + (n : Int)) := by
  have := laws_heldInt64S.loop n hl a h0 h1 n k 0 (by omega) (by omega) hk
  unfold laws_heldInt64S.f
  simpa using this
theorem laws_markBuf.eq {l : List Int} {c m a : Int} {k : Nat} (hl : l.length ≤ 1048576) (h0 : 0 ≤ a) (h1 : a ≤ 4000000000) (hk : l.length < k) : laws_markBuf.f k l c m a = some (a + (l.length : Int), mkL l.length a) := by
  unfold laws_markBuf.f
  rw [laws_markInt64S.eq hl h0 h1 hk]
  rfl
theorem impl_within.eq (a b c : Int) : impl_within.f a b c = some (decide (b ≤ a ∧ a ≤ c)) := by
  unfold impl_within.f
  by_cases h : b ≤ a <;> simp [h]
theorem impl_isPoint.eq (a : Int) : impl_isPoint.f a = some (isPt a) := by
  simp only [impl_isPoint.f, impl_within.eq, Option.bind_some, isPt, decide_eq_true_eq]
  split <;> (refine some_b ?_; simp only [Bool.not_eq_true', decide_eq_true_eq, decide_eq_false_iff_not, Bool.false_eq_true]; first | omega | (rw [false_iff]; omega))
theorem impl_isControl.eq (a : Int) : impl_isControl.f a = some (isCtl a) := by
  unfold impl_isControl.f isCtl
  by_cases h : a < 32
  · simp [h]
  · by_cases h2 : a = 127 <;> simp [h, h2]
def widTab : List S120 := [(⟨4352, 4447⟩ : S120), (⟨11904, 42191⟩ : S120), (⟨44032, 55203⟩ : S120), (⟨63744, 64255⟩ : S120), (⟨65281, 65376⟩ : S120), (⟨127744, 129791⟩ : S120)]
theorem impl_WidthOf.step (k : Nat) (a : Int) (i : Nat) (hi : i < 6) : impl_WidthOf.l0 (k + 1) a widTab 6 (i : Int) = if (rd_T120 widTab (i : Int)).f0 ≤ a ∧ a ≤ (rd_T120 widTab (i : Int)).f1 then some 2 else impl_WidthOf.l0 k a widTab 6 ((i + 1 : Nat) : Int) := by
  rw [impl_WidthOf.l0, if_pos (by omega), if_pos (by omega), if_pos (show (i : Int) < (widTab.length : Int) by show (i : Int) < ((6 : Nat) : Int); omega), impl_within.eq, wrap_succ (by omega)]
  simp only [Option.bind_some, decide_eq_true_eq]
theorem impl_WidthOf.loop (k : Nat) (a : Int) : impl_WidthOf.l0 (k + 7) a widTab 6 0 = some (if isWide2 a = true then 2 else 1) := by
  have e0 := impl_WidthOf.step (k + 6) a 0 (by decide)
  have e1 := impl_WidthOf.step (k + 5) a 1 (by decide)
  have e2 := impl_WidthOf.step (k + 4) a 2 (by decide)
  have e3 := impl_WidthOf.step (k + 3) a 3 (by decide)
  have e4 := impl_WidthOf.step (k + 2) a 4 (by decide)
  have e5 := impl_WidthOf.step (k + 1) a 5 (by decide)
  have e6 : impl_WidthOf.l0 (k + 1) a widTab 6 ((5 + 1 : Nat) : Int) = some 1 := by
    rw [impl_WidthOf.l0, if_neg (by decide)]
  rw [e6] at e5; rw [e5] at e4; rw [e4] at e3; rw [e3] at e2; rw [e2] at e1; rw [e1] at e0
  refine (show impl_WidthOf.l0 (k + 7) a widTab 6 0 = _ from e0).trans ?_
  show (if (4352 : Int) ≤ a ∧ a ≤ 4447 then some (2 : Int) else if (11904 : Int) ≤ a ∧ a ≤ 42191 then some 2 else if (44032 : Int) ≤ a ∧ a ≤ 55203 then some 2 else if (63744 : Int) ≤ a ∧ a ≤ 64255 then some 2 else if (65281 : Int) ≤ a ∧ a ≤ 65376 then some 2 else if (127744 : Int) ≤ a ∧ a ≤ 129791 then some 2 else some 1) = _
  unfold isWide2
  simp only [decide_eq_true_eq]
  (repeat' split) <;> first | rfl | omega
theorem impl_WidthOf.eq (a : Int) {k : Nat} (hk : 8 < k) : impl_WidthOf.f k a = some (wid a) := by
  obtain ⟨k, rfl⟩ : ∃ m, k = m + 8 := ⟨k - 8, by omega⟩
  have hj : ∀ b : Bool, impl_WidthOf.j0 (k + 8) a b = some (if b = true then 0 else if isCtl a = true ∨ isWide2 a = true then 2 else 1) := by
    intro b
    cases b
    · rw [impl_WidthOf.j0, if_neg (by decide), impl_isControl.eq]
      simp only [Option.bind_some, Bool.false_eq_true, if_false]
      have hl := impl_WidthOf.loop k a
      cases isCtl a
      · rw [if_neg (by decide)]
        refine Eq.trans (show _ = impl_WidthOf.l0 (k + 7) a widTab 6 0 from rfl) ?_
        rw [hl]
        simp
      · rfl
    · rw [impl_WidthOf.j0]
      rfl
  unfold impl_WidthOf.f wid
  rw [impl_isPoint.eq]
  simp only [Option.bind_some, impl_within.eq, hj, decide_eq_true_eq]
  by_cases h1 : isPt a = true
  · by_cases h2 : 768 ≤ a ∧ a ≤ 879
    · simp [h1, h2]
    · simp [h1, h2]
  · simp [h1]
theorem spec_l01Point.eq (a : Int) : spec_l01Point.f a = some (isPt a) := by
  simp only [spec_l01Point.f, isPt]
  (repeat' split) <;> (refine some_b ?_; simp only [Bool.not_eq_true', Bool.not_false, decide_eq_true_eq, decide_eq_false_iff_not, Bool.false_eq_true]; first | omega | (rw [false_iff]; omega) | (rw [true_iff]; omega))
set_option maxHeartbeats 4000000 in
theorem spec_WidthOf.eq (a : Int) {k : Nat} (hk : 0 < k) : spec_WidthOf.f k a = some (wid a) := by
  obtain ⟨k, rfl⟩ : ∃ m, k = m + 1 := ⟨k - 1, by omega⟩
  have hj : ∀ b : Bool, spec_WidthOf.j0 (k + 1) a b = some (if b = true then 0 else if isCtl a = true ∨ isWide2 a = true then 2 else 1) := by
    intro b
    cases b
    · simp only [spec_WidthOf.j0, isCtl, isWide2, decide_eq_true_eq, Bool.false_eq_true, if_false]
      rcases (by omega : a < 32 ∨ (32 ≤ a ∧ a < 127) ∨ a = 127 ∨ (127 < a ∧ a < 4352) ∨ (4352 ≤ a ∧ a ≤ 4447) ∨ (4447 < a ∧ a < 11904) ∨ (11904 ≤ a ∧ a ≤ 42191) ∨ (42191 < a ∧ a < 44032) ∨ (44032 ≤ a ∧ a ≤ 55203) ∨ (55203 < a ∧ a < 63744) ∨ (63744 ≤ a ∧ a ≤ 64255) ∨ (64255 < a ∧ a < 65281) ∨ (65281 ≤ a ∧ a ≤ 65376) ∨ (65376 < a ∧ a < 127744) ∨ (127744 ≤ a ∧ a ≤ 129791) ∨ 129791 < a) with h | h | h | h | h | h | h | h | h | h | h | h | h | h | h | h <;> simp (disch := omega) only [if_pos, if_neg]
    · rfl
  unfold spec_WidthOf.f wid
  rw [spec_l01Point.eq]
  simp only [Option.bind_some, hj]
  by_cases h1 : isPt a = true
  · by_cases h2 : 768 ≤ a
    · by_cases h3 : a ≤ 879
      · simp [h1, h2, h3]
      · simp [h1, h2, h3]
    · simp [h1, h2]
  · simp [h1]
theorem spec_PointsRight.loop (l : List Int) (hl : l.length ≤ 300) (d : Nat) : ∀ (k i : Nat), i ≤ l.length → l.length - i = d → d < k → spec_PointsRight.l0 k l (i : Int) = some ((l.drop i).all isPt) := by
  induction d with
  | zero =>
    intro k i hi hd hk
    obtain ⟨k, rfl⟩ : ∃ m, k = m + 1 := ⟨k - 1, by omega⟩
    simp only [spec_PointsRight.l0]
    rw [if_neg (by omega), List.drop_eq_nil_of_le (by omega)]
    rfl
  | succ d ih =>
    intro k i hi hd hk
    obtain ⟨k, rfl⟩ : ∃ m, k = m + 1 := ⟨k - 1, by omega⟩
    have hlt : i < l.length := by omega
    simp only [spec_PointsRight.l0]
    rw [if_pos (int_lt hlt), if_pos (int_nn i), spec_l01Point.eq, wrap_succ (by omega), ih k (i + 1) (by omega) (by omega) (by omega), drop_rd hlt]
    simp only [Option.bind_some, List.all_cons]
    cases isPt (rd l (i : Int)) <;> simp
theorem spec_PointsRight.eq (l : List Int) {k : Nat} (hk : 300 < k) : spec_PointsRight.f k l = some (ptsOK l) := by
  unfold spec_PointsRight.f ptsOK
  by_cases h : l.length ≤ 300
  · rw [if_neg (by omega)]
    have := spec_PointsRight.loop l h l.length k 0 (by omega) (by omega) (by omega)
    simp only [h, decide_true, Bool.true_and]
    simpa using this
  · rw [if_pos (by omega)]
    simp [h]
theorem wid_in (a : Int) : 0 ≤ wid a ∧ wid a ≤ 2 := by
  unfold wid
  split
  · split <;> omega
  · omega
theorem slices_IndexFunc_sint64_int64.loop (l : List Int) (hl : l.length ≤ 300) (d : Nat) : ∀ (k i : Nat), i ≤ l.length → l.length - i = d → d < k → ∃ r : Int, slices_IndexFunc_sint64_int64.l0 k l (l.length : Int) (i : Int) = some r ∧ (0 ≤ r ↔ (l.drop i).all isPt = false) := by
  induction d with
  | zero =>
    intro k i hi hd hk
    obtain ⟨k, rfl⟩ : ∃ m, k = m + 1 := ⟨k - 1, by omega⟩
    refine ⟨-1, ?_, ?_⟩
    · simp only [slices_IndexFunc_sint64_int64.l0]
      rw [if_neg (by omega)]
    · rw [List.drop_eq_nil_of_le (by omega)]
      simp
  | succ d ih =>
    intro k i hi hd hk
    obtain ⟨k, rfl⟩ : ∃ m, k = m + 1 := ⟨k - 1, by omega⟩
    have hlt : i < l.length := by omega
    have hp : impl_PointsRight_1.f (rd l (i : Int)) = some (!isPt (rd l (i : Int))) := by
      unfold impl_PointsRight_1.f
      rw [impl_isPoint.eq]
      rfl
    simp only [slices_IndexFunc_sint64_int64.l0]
    rw [if_pos (int_lt hlt), if_pos (int_nn i), if_pos (int_lt hlt), hp, wrap_succ (by omega), drop_rd hlt]
    simp only [Option.bind_some, List.all_cons]
    cases isPt (rd l (i : Int))
    · exact ⟨i, by simp, by simp⟩
    · simpa using ih k (i + 1) (by omega) (by omega) (by omega)
theorem impl_PointsRight.eq (l : List Int) {k : Nat} (hk : 300 < k) : impl_PointsRight.f k l = some (ptsOK l) := by
  unfold impl_PointsRight.f ptsOK
  by_cases h : l.length ≤ 300
  · rw [if_pos (by omega)]
    obtain ⟨r, h1, h2⟩ := slices_IndexFunc_sint64_int64.loop l h l.length k 0 (by omega) (by omega) (by omega)
    unfold slices_ContainsFunc_sint64_int64.f slices_IndexFunc_sint64_int64.f
    rw [show ((0 : Nat) : Int) = 0 from rfl] at h1
    rw [h1]
    simp only [Option.bind_some, h, decide_true, Bool.true_and]
    rw [List.drop_zero] at h2
    refine some_b ?_
    cases hq : l.all isPt
    · have := h2.2 hq; simp; omega
    · have : ¬ 0 ≤ r := fun h3 => by rw [h2.1 h3] at hq; cases hq
      simp; omega
  · rw [if_neg (by omega)]
    simp [h]
def shw (a : Int) : List Int := if isCtl a = true then [94, Go.bits .xor .i64 a 64] else [a]
theorem shw_len (a : Int) : (shw a).length ≤ 2 := by
  unfold shw
  split <;> simp
theorem impl_shown.eq (a : Int) : impl_shown.f a = some (shw a) := by
  unfold impl_shown.f shw
  rw [impl_isControl.eq]
  simp only [Option.bind_some]
  split <;> rfl
theorem spec_l01Copy.eq {l : List Int} (h : l.length ≤ 2000000) : spec_l01Copy.f l = some l := by
  unfold spec_l01Copy.f
  simp only [Option.bind_some, List.length_nil, List.nil_append]
  rw [if_pos (by omega)]
theorem impl_Buf_isPlace.eq (l : List Int) (c m a : Int) : impl_Buf_isPlace.f l c m a = some (decide (0 ≤ a ∧ a ≤ l.length)) := by
  simp only [impl_Buf_isPlace.f, impl_size_int64.f, impl_within.eq, Option.bind_some]
theorem impl_BufRight.eq (l : List Int) (c m : Int) {k : Nat} (hk : 300 < k) : impl_BufRight.f k l c m = some (bufOK l c m) := by
  unfold impl_BufRight.f bufOK
  rw [impl_PointsRight.eq l hk]
  simp only [Option.bind_some, impl_Buf_isPlace.eq]
  cases ptsOK l
  · simp
  · simp only [if_true, Bool.true_and]
    by_cases h : 0 ≤ c ∧ c ≤ (l.length : Int) <;> simp [h]
theorem spec_BufRight.eq (l : List Int) (c m : Int) {k : Nat} (hk : 300 < k) : spec_BufRight.f k l c m = some (bufOK l c m) := by
  unfold spec_BufRight.f bufOK
  rw [spec_PointsRight.eq l hk]
  simp only [Option.bind_some]
  cases ptsOK l
  · simp
  · simp only [if_true, Bool.true_and]
    (repeat' split) <;> (refine some_b ?_; simp only [Bool.and_eq_true, decide_eq_true_eq, Bool.false_eq_true]; first | omega | (rw [false_iff]; omega))
/-! ### laying out: where the next point comes -/
def stp (C : Int) (rc : Int × Int) (w : Int) : Int × Int := if w = 0 then rc else if C - rc.2 < w then (rc.1 + 1, w) else (rc.1, rc.2 + w)
def stpL (C : Int) : List Int → Int × Int → Int × Int
  | [], rc => rc
  | p :: l, rc => stpL C l (stp C rc (wid p))
def ptP (C p : Int) (rc : Int × Int) : Int × Int := if p = 10 then (rc.1 + 1, 0) else stpL C (shw p) rc
def ptPL (C : Int) : List Int → Int × Int → Int × Int
  | [], rc => rc
  | p :: l, rc => ptPL C l (ptP C p rc)
def spV (C : Int) (rc : Int × Int) : S45 := if rc.2 = C then ⟨rc.1 + 1, 0⟩ else ⟨rc.1, rc.2⟩
def trl (C : Int) : List Int → Int × Int → List S45
  | [], _ => []
  | p :: l, rc => spV C (ptP C p rc) :: trl C l (ptP C p rc)
theorem trl_len (C : Int) (l : List Int) : ∀ rc, (trl C l rc).length = l.length := by
  induction l with
  | nil => intro rc; rfl
  | cons p l ih => intro rc; simp [trl, ih]
theorem stp_ok {C : Int} {rc : Int × Int} {w : Int} (hw : 0 ≤ w ∧ w ≤ 2) (hC : 2 ≤ C) (h0 : 0 ≤ rc.2) (h1 : rc.2 ≤ C) : 0 ≤ (stp C rc w).2 ∧ (stp C rc w).2 ≤ C ∧ rc.1 ≤ (stp C rc w).1 ∧ (stp C rc w).1 ≤ rc.1 + 1 := by
  unfold stp
  by_cases c1 : w = 0
  · rw [if_pos c1]; exact ⟨h0, h1, Int.le_refl _, by omega⟩
  · rw [if_neg c1]
    by_cases c2 : C - rc.2 < w
    · rw [if_pos c2]; refine ⟨?_, ?_, ?_, ?_⟩ <;> dsimp only <;> omega
    · rw [if_neg c2]; refine ⟨?_, ?_, ?_, ?_⟩ <;> dsimp only <;> omega
theorem stpL_ok {C : Int} (hC : 2 ≤ C) (l : List Int) : ∀ {rc : Int × Int}, 0 ≤ rc.2 → rc.2 ≤ C → 0 ≤ (stpL C l rc).2 ∧ (stpL C l rc).2 ≤ C ∧ rc.1 ≤ (stpL C l rc).1 ∧ (stpL C l rc).1 ≤ rc.1 + l.length := by
  induction l with
  | nil => intro rc h0 h1; exact ⟨h0, h1, Int.le_refl _, by simp [stpL]⟩
  | cons p l ih =>
    intro rc h0 h1
    obtain ⟨g1, g2, g3, g4⟩ := stp_ok (wid_in p) hC h0 h1
    obtain ⟨f1, f2, f3, f4⟩ := ih g1 g2
    rw [stpL, List.length_cons]
    exact ⟨f1, f2, by omega, by omega⟩
theorem ptP_ok {C : Int} (hC : 2 ≤ C) (p : Int) {rc : Int × Int} (h0 : 0 ≤ rc.2) (h1 : rc.2 ≤ C) : 0 ≤ (ptP C p rc).2 ∧ (ptP C p rc).2 ≤ C ∧ rc.1 ≤ (ptP C p rc).1 ∧ (ptP C p rc).1 ≤ rc.1 + 2 := by
  unfold ptP
  by_cases c1 : p = 10
  · rw [if_pos c1]; refine ⟨?_, ?_, ?_, ?_⟩ <;> dsimp only <;> omega
  · rw [if_neg c1]
    obtain ⟨g1, g2, g3, g4⟩ := stpL_ok hC (shw p) h0 h1
    have := shw_len p
    exact ⟨g1, g2, g3, by omega⟩
theorem ptPL_ok {C : Int} (hC : 2 ≤ C) (l : List Int) : ∀ (rc : Int × Int), 0 ≤ rc.2 → rc.2 ≤ C → 0 ≤ rc.1 → 0 ≤ (ptPL C l rc).2 ∧ (ptPL C l rc).2 ≤ C ∧ rc.1 ≤ (ptPL C l rc).1 ∧ (ptPL C l rc).1 ≤ rc.1 + 2 * l.length := by
  induction l with
  | nil => intro rc g0 g1 g2; exact ⟨g0, g1, Int.le_refl _, by simp [ptPL]⟩
  | cons p l ih =>
    intro rc g0 g1 g2
    obtain ⟨f1, f2, f3, f4⟩ := ptP_ok hC p g0 g1
    obtain ⟨e1, e2, e3, e4⟩ := ih (ptP C p rc) f1 f2 (by omega)
    rw [ptPL, List.length_cons]
    exact ⟨e1, e2, by omega, by omega⟩
/-! the program's layout -/
theorem ptL_ok {attr C : Int} (hC : 2 ≤ C ∧ C ≤ 80) (l : List Int) (hl : l.length ≤ 10) (d : Nat) : ∀ (k i : Nat) (row col : Int) (cs : List S85) (inR : Bool), i ≤ l.length → l.length - i = d → d + 20 < k → 0 ≤ row → row + d ≤ 100000 → 0 ≤ col → col ≤ C → cs.length + d ≤ 1000000 → (inR = true → 0 < cs.length) →
    ∃ cs' inR', ptL k attr l (i : Int) C row col cs inR = some ((stpL C (l.drop i) (row, col)).1, (stpL C (l.drop i) (row, col)).2, cs', inR') ∧ cs'.length ≤ cs.length + d ∧ (inR' = true → 0 < cs'.length) := by
  induction d with
  | zero =>
    intro k i row col cs inR hi hd hk h0 h1 h2 h3 h4 h5
    obtain ⟨k, rfl⟩ : ∃ m, k = m + 1 := ⟨k - 1, by omega⟩
    rw [ptL, if_neg (by omega), List.drop_eq_nil_of_le (by omega)]
    exact ⟨cs, inR, rfl, by omega, h5⟩
  | succ d ih =>
    intro k i row col cs inR hi hd hk h0 h1 h2 h3 h4 h5
    obtain ⟨k, rfl⟩ : ∃ m, k = m + 1 := ⟨k - 1, by omega⟩
    have hlt : i < l.length := by omega
    rw [ptL, if_pos (int_lt hlt), if_pos (int_nn i), impl_WidthOf.eq _ (by omega), wrap_succ (by omega), drop_rd hlt]
    rw [Option.bind_some, stpL]
    have hw := wid_in (rd l (i : Int))
    generalize wid (rd l (i : Int)) = wd at hw
    obtain ⟨g1, g2, g3, g4⟩ := stp_ok (rc := (row, col)) hw hC.1 h2 h3
    by_cases c1 : wd = 0
    · have hst : stp C (row, col) wd = (row, col) := by unfold stp; rw [if_pos c1]
      rw [if_pos c1, hst]
      cases inR with
      | false =>
        rw [if_neg Bool.false_ne_true]
        obtain ⟨cs', in', e1, e2, e3⟩ := ih k (i + 1) row col cs false (by omega) (by omega) (by omega) h0 (by omega) h2 h3 (by omega) h5
        exact ⟨cs', in', e1, by omega, e3⟩
      | true =>
        rw [if_pos rfl, if_pos ⟨h5 rfl, by omega⟩]
        split
        · exact Exists.imp (fun cs' => Exists.imp fun in' h => ⟨h.1, by have := h.2.1; rw [List.length_set] at this; omega, h.2.2⟩) (ih k (i + 1) row col _ true (by omega) (by omega) (by omega) h0 (by omega) h2 h3 (by rw [List.length_set]; omega) (fun _ => by rw [List.length_set]; exact h5 rfl))
        · obtain ⟨cs', in', e1, e2, e3⟩ := ih k (i + 1) row col cs true (by omega) (by omega) (by omega) h0 (by omega) h2 h3 (by omega) h5
          exact ⟨cs', in', e1, by omega, e3⟩
    · rw [if_neg c1, if_pos (by omega), wrap_in (by omega) (by omega)]
      by_cases c2 : C - col < wd
      · have hst : stp C (row, col) wd = (row + 1, wd) := by unfold stp; rw [if_neg c1, if_pos c2]
        rw [if_pos c2, hst, wrap_in (by omega) (by omega), wrap_in (by omega) (by omega)]
        exact Exists.imp (fun cs' => Exists.imp fun in' h => ⟨h.1, by have := h.2.1; rw [List.length_append, List.length_singleton] at this; omega, h.2.2⟩) (ih k (i + 1) (row + 1) wd _ true (by omega) (by omega) (by omega) (by omega) (by omega) (by omega) (by omega) (by rw [List.length_append, List.length_singleton]; omega) (fun _ => by rw [List.length_append, List.length_singleton]; omega))
      · have hst : stp C (row, col) wd = (row, col + wd) := by unfold stp; rw [if_neg c1, if_neg c2]
        rw [if_neg c2, hst, wrap_in (by omega) (by omega)]
        exact Exists.imp (fun cs' => Exists.imp fun in' h => ⟨h.1, by have := h.2.1; rw [List.length_append, List.length_singleton] at this; omega, h.2.2⟩) (ih k (i + 1) row (col + wd) _ true (by omega) (by omega) (by omega) (by omega) (by omega) (by omega) (by omega) (by rw [List.length_append, List.length_singleton]; omega) (fun _ => by rw [List.length_append, List.length_singleton]; omega))
theorem ptF_ok {attr C : Int} (hC : 2 ≤ C ∧ C ≤ 80) (p : Int) {k : Nat} {row col : Int} {cs : List S85} {inR : Bool} (hk : 40 < k) (h0 : 0 ≤ row) (h1 : row ≤ 90000) (h2 : 0 ≤ col) (h3 : col ≤ C) (h4 : cs.length ≤ 900000) (h5 : inR = true → 0 < cs.length) :
    ∃ cs' inR', ptF k p attr C row col cs inR = some ((ptP C p (row, col)).1, (ptP C p (row, col)).2, cs', inR') ∧ cs'.length ≤ cs.length + 2 ∧ (inR' = true → 0 < cs'.length) := by
  unfold ptF ptP
  by_cases c1 : p = 10
  · rw [if_pos c1, if_pos c1, wrap_in (by omega) (by omega)]
    exact ⟨cs, false, rfl, by omega, fun h => absurd h (by simp)⟩
  · have hs := shw_len p
    rw [if_neg c1, if_neg c1, impl_shown.eq, Option.bind_some]
    obtain ⟨cs', in', e1, e2, e3⟩ := ptL_ok (attr := attr) hC (shw p) (by omega) (shw p).length k 0 row col cs inR (by omega) (by omega) (by omega) h0 (by omega) h2 h3 (by omega) h5
    exact ⟨cs', in', e1, by omega, e3⟩
theorem lyA_ok {C : Int} (hC : 2 ≤ C ∧ C ≤ 80) (l : List Int) (hl : l.length ≤ 300) (d : Nat) : ∀ (k i : Nat) (row col : Int) (cs : List S85) (inR : Bool), i ≤ l.length → l.length - i = d → d + 60 < k → 0 ≤ row → row + 2 * d ≤ 2000 → 0 ≤ col → col ≤ C → cs.length + 2 * d ≤ 2000 → (inR = true → 0 < cs.length) →
    ∃ cs' inR', lyA C k l (i : Int) row col cs inR = some ((ptPL C (l.drop i) (row, col)).1, (ptPL C (l.drop i) (row, col)).2, cs', inR') ∧ cs'.length ≤ cs.length + 2 * d ∧ (inR' = true → 0 < cs'.length) := by
  induction d with
  | zero =>
    intro k i row col cs inR hi hd hk h0 h1 h2 h3 h4 h5
    obtain ⟨k, rfl⟩ : ∃ m, k = m + 1 := ⟨k - 1, by omega⟩
    rw [lyA, if_neg (by omega), List.drop_eq_nil_of_le (by omega)]
    exact ⟨cs, inR, rfl, by omega, h5⟩
  | succ d ih =>
    intro k i row col cs inR hi hd hk h0 h1 h2 h3 h4 h5
    obtain ⟨k, rfl⟩ : ∃ m, k = m + 1 := ⟨k - 1, by omega⟩
    have hlt : i < l.length := by omega
    obtain ⟨cs1, in1, e1, e2, e3⟩ := ptF_ok (attr := 0) hC (rd l (i : Int)) (k := k) (row := row) (col := col) (cs := cs) (inR := inR) (by omega) h0 (by omega) h2 h3 (by omega) h5
    obtain ⟨g1, g2, g3, g4⟩ := ptP_ok hC.1 (rd l (i : Int)) (rc := (row, col)) h2 h3
    rw [lyA, if_pos (int_lt hlt), if_pos (int_nn i), e1, wrap_succ (by omega), drop_rd hlt, ptPL]
    rw [Option.bind_some]
    dsimp only at g3 g4 ⊢
    obtain ⟨cs', in', f1, f2, f3⟩ := ih k (i + 1) (ptP C (rd l (i : Int)) (row, col)).1 (ptP C (rd l (i : Int)) (row, col)).2 cs1 in1 (by omega) (by omega) (by omega) (by omega) (by omega) g1 g2 (by omega) e3
    exact ⟨cs', in', f1, by omega, f3⟩
theorem lspot_eq {C row col : Int} (cs : List S85) (inR : Bool) (sp : List S45) (h0 : 0 ≤ row) (h1 : row ≤ 90000) : impl_layout_spot.f C row col cs inR sp = some ((spV C (row, col)).f0, (spV C (row, col)).f1) := by
  unfold impl_layout_spot.f spV
  by_cases c1 : col = C
  · rw [if_pos c1, if_pos c1, wrap_in (by omega) (by omega)]
  · rw [if_neg c1, if_neg c1]
theorem lyB_ok {C : Int} (hC : 2 ≤ C ∧ C ≤ 80) (region : Bool) (fr tw : Int) (l : List Int) (hl : l.length ≤ 300) (d : Nat) : ∀ (k i : Nat) (row col : Int) (cs : List S85) (inR : Bool) (sp : List S45), i ≤ l.length → l.length - i = d → d + 60 < k → 0 ≤ row → row + 2 * d ≤ 4000 → 0 ≤ col → col ≤ C → cs.length + 2 * d ≤ 4000 → (inR = true → 0 < cs.length) → sp.length + d ≤ 4000 →
    ∃ cs' inR' sp', lyB C region fr tw k l (i : Int) row col cs inR sp = some ((ptPL C (l.drop i) (row, col)).1, (ptPL C (l.drop i) (row, col)).2, cs', inR', sp') ∧ sp' ++ [spV C (ptPL C (l.drop i) (row, col))] = sp ++ spV C (row, col) :: trl C (l.drop i) (row, col) ∧ cs'.length ≤ cs.length + 2 * d := by
  induction d with
  | zero =>
    intro k i row col cs inR sp hi hd hk h0 h1 h2 h3 h4 h5 h6
    obtain ⟨k, rfl⟩ : ∃ m, k = m + 1 := ⟨k - 1, by omega⟩
    rw [lyB, if_neg (by omega), List.drop_eq_nil_of_le (by omega)]
    exact ⟨cs, inR, sp, rfl, rfl, by omega⟩
  | succ d ih =>
    intro k i row col cs inR sp hi hd hk h0 h1 h2 h3 h4 h5 h6
    obtain ⟨k, rfl⟩ : ∃ m, k = m + 1 := ⟨k - 1, by omega⟩
    have hlt : i < l.length := by omega
    obtain ⟨b, hb⟩ : ∃ b, (if region = true then impl_within.f (i : Int) fr (wrap64 (tw - 1)) else some false) = some b := by
      split
      · exact ⟨_, impl_within.eq _ _ _⟩
      · exact ⟨false, rfl⟩
    obtain ⟨cs1, in1, e1, e2, e3⟩ := ptF_ok (attr := if b = true then 1 else 0) hC (rd l (i : Int)) (k := k) (row := row) (col := col) (cs := cs) (inR := inR) (by omega) h0 (by omega) h2 h3 (by omega) h5
    obtain ⟨g1, g2, g3, g4⟩ := ptP_ok hC.1 (rd l (i : Int)) (rc := (row, col)) h2 h3
    rw [lyB, if_pos (int_lt hlt), if_pos (int_nn i), if_pos (by omega), lspot_eq cs inR sp h0 (by omega), Option.bind_some, hb, Option.bind_some, e1, wrap_succ (by omega), drop_rd hlt, ptPL, Option.bind_some, trl]
    dsimp only at g3 g4 ⊢
    obtain ⟨cs', in', sp', f1, f2, f3⟩ := ih k (i + 1) (ptP C (rd l (i : Int)) (row, col)).1 (ptP C (rd l (i : Int)) (row, col)).2 cs1 in1 (sp ++ [spV C (row, col)]) (by omega) (by omega) (by omega) (by omega) (by omega) g1 g2 (by omega) e3 (by rw [List.length_append, List.length_singleton]; omega)
    refine ⟨cs', in', sp', f1, ?_, by omega⟩
    rw [List.append_assoc] at f2
    exact f2
theorem lyF_ok {C : Int} (hC : 2 ≤ C ∧ C ≤ 80) (region : Bool) (l0 l1 : List Int) (a1 a2 : Int) {k : Nat} (hk : 1000 < k) (h0 : l0.length ≤ 300) (h1 : l1.length ≤ 300) :
    ∃ cs' inR', lyF k l0 l1 a1 a2 region C = some ((ptPL C l1 (ptPL C l0 (0, 0))).1, (ptPL C l1 (ptPL C l0 (0, 0))).2, cs', inR', spV C (ptPL C l0 (0, 0)) :: trl C l1 (ptPL C l0 (0, 0))) := by
  unfold lyF
  have hbd := @ptPL_ok C hC.1
  obtain ⟨cs1, in1, e1, e2, e3⟩ := lyA_ok hC l0 h0 l0.length k 0 0 0 [] false (by omega) (by omega) (by omega) (by omega) (by omega) (by omega) (by omega) (by simp; omega) (fun h => absurd h (by simp))
  rw [show ((0 : Nat) : Int) = 0 from rfl, List.drop_zero] at e1
  obtain ⟨b1, b2, b3, b4⟩ := hbd l0 (0, 0) (by simp) (by dsimp only; omega) (by simp)
  rw [e1, Option.bind_some]
  unfold impl_Buf_region.f
  rw [Option.bind_some]
  dsimp only at b3 b4 ⊢
  obtain ⟨cs2, in2, sp2, f1, f2, f3⟩ := lyB_ok hC region (mn a2 a1) (mx a2 a1) l1 h1 l1.length k 0 (ptPL C l0 (0, 0)).1 (ptPL C l0 (0, 0)).2 cs1 in1 [] (by omega) (by omega) (by omega) (by omega) (by omega) b1 b2 (by simp at e2; omega) e3 (by simp; omega)
  rw [show ((0 : Nat) : Int) = 0 from rfl, List.drop_zero] at f1
  rw [List.drop_zero] at f2
  replace f1 : lyB C region (mn a2 a1) (mx a2 a1) k l1 0 (ptPL C l0 (0, 0)).1 (ptPL C l0 (0, 0)).2 cs1 in1 [] = some ((ptPL C l1 (ptPL C l0 (0, 0))).1, (ptPL C l1 (ptPL C l0 (0, 0))).2, cs2, in2, sp2) := f1
  obtain ⟨d1, d2, d3, d4⟩ := hbd l1 (ptPL C l0 (0, 0)) b1 b2 (by omega)
  rw [f1, Option.bind_some]
  dsimp only
  have hl2 : sp2.length ≤ 1000000 := by
    have := congrArg List.length f2
    simp only [List.length_append, List.length_cons, List.length_nil, trl_len] at this
    omega
  rw [if_pos hl2, lspot_eq _ _ _ (by omega) (by omega), Option.bind_some]
  refine ⟨cs2, in2, ?_⟩
  rw [← List.nil_append (spV C (ptPL C l0 (0, 0)) :: trl C l1 (ptPL C l0 (0, 0))), ← f2]
/-! the reference's pen: only the shape of its rows -/
def shp (N : Nat) (rows : List (List S75)) : Prop := ∀ x ∈ rows, x.length = N
theorem shp_last {N : Nat} {rows : List (List S75)} (h : shp N rows) (hp : 0 < rows.length) : (rd_L3 rows ((rows.length - 1 : Nat) : Int)).length = N := by
  unfold rd_L3
  rw [Int.toNat_natCast, List.getD_eq_getElem?_getD, List.getElem?_eq_getElem (by omega)]
  exact h _ (List.getElem_mem _)
theorem shp_set {N : Nat} {rows : List (List S75)} (h : shp N rows) (i : Nat) {x : List S75} (hx : x.length = N) : shp N (rows.set i x) := by
  intro y hy
  rcases List.mem_or_eq_of_mem_set hy with hy | hy
  · exact h y hy
  · rw [hy]; exact hx
theorem shp_snoc {N : Nat} {rows : List (List S75)} (h : shp N rows) {x : List S75} (hx : x.length = N) : shp N (rows ++ [x]) := by
  intro y hy
  rcases List.mem_append.1 hy with hy | hy
  · exact h y hy
  · rw [List.mem_singleton.1 hy]; exact hx
theorem spec_l08Wide.eq (l : List Int) (a : Int) {k : Nat} (hk : 0 < k) : spec_l08Wide.f k l a = some (decide (0 < l.length ∧ wid (rd l 0) = 2)) := by
  unfold spec_l08Wide.f
  by_cases h : 0 < l.length
  · rw [if_pos (by omega), if_pos (by omega), spec_WidthOf.eq _ hk, Option.bind_some]
    refine congrArg some ?_
    rw [Bool.eq_iff_iff]
    simp [h]
  · rw [if_neg (by omega)]
    simp [h]
theorem sh1_ok {N : Nat} (hN : 2 ≤ N ∧ N ≤ 80) {rows : List (List S75)} (h : shp N rows) (hp : 0 < rows.length) {col wd p attr : Int} (h0 : 0 ≤ col) (h1 : col + wd ≤ N) (hw : 1 ≤ wd ∧ wd ≤ 2) : ∃ rows', sh1 rows col wd p attr = some (rows', col + wd) ∧ shp N rows' ∧ rows'.length = rows.length := by
  have hl := shp_last h hp
  unfold sh1
  rw [if_pos hp, if_pos h0, hl, if_pos (by omega), wrap_in (x := col + wd) (by omega) (by omega)]
  by_cases c1 : wd = 2
  · rw [if_pos c1, wrap_in (x := col + 1) (by omega) (by omega), if_pos (by omega), if_pos (by omega)]
    exact ⟨_, rfl, shp_set h _ (by rw [List.length_set, List.length_set]; exact hl), by rw [List.length_set]⟩
  · rw [if_neg c1]
    exact ⟨_, rfl, shp_set h _ (by rw [List.length_set]; exact hl), by rw [List.length_set]⟩
theorem shF_ok {N : Nat} (hN : 2 ≤ N ∧ N ≤ 80) {rows : List (List S75)} (h : shp N rows) (hp : 0 < rows.length) (hq : rows.length ≤ 100000) {col p attr : Int} {k : Nat} (hk : 0 < k) (h0 : 0 ≤ col) (h1 : col ≤ N) :
    ∃ rows', shF k (N : Int) rows col p attr = some (rows', (stp (N : Int) ((rows.length : Int) - 1, col) (wid p)).2) ∧ shp N rows' ∧ (rows'.length : Int) - 1 = (stp (N : Int) ((rows.length : Int) - 1, col) (wid p)).1 := by
  have hl := shp_last h hp
  unfold shF stp
  rw [spec_WidthOf.eq _ hk, Option.bind_some, if_pos ⟨hp, by omega⟩]
  have hw := wid_in p
  by_cases c1 : wid p = 0
  · rw [if_pos c1, if_pos c1]
    have hA : ∃ a, shAt k (rd_L3 rows ((rows.length - 1 : Nat) : Int)) col = some a ∧ a < (N : Int) := by
      unfold shAt
      rw [wrap_in (x := col - 1) (by omega) (by omega), wrap_in (x := col - 1 - 1) (by omega) (by omega), hl]
      by_cases d1 : 0 < col - 1
      · rw [if_pos d1, if_pos (by omega), if_pos (by omega), spec_l08Wide.eq _ _ hk, Option.bind_some]
        refine ⟨_, rfl, ?_⟩
        split <;> omega
      · rw [if_neg d1]
        exact ⟨_, rfl, by omega⟩
    obtain ⟨a, ea, ha⟩ := hA
    have hB : ∃ r, sh0 rows (rd_L3 rows ((rows.length - 1 : Nat) : Int)) p a = some r ∧ shp N r ∧ r.length = rows.length := by
      unfold sh0
      by_cases d1 : 0 ≤ a
      · rw [if_pos d1, hl, if_pos ha]
        by_cases d2 : 0 < (rd_T75 (rd_L3 rows ((rows.length - 1 : Nat) : Int)) a).f0.length
        · rw [if_pos d2]
          by_cases d3 : (rd_T75 (rd_L3 rows ((rows.length - 1 : Nat) : Int)) a).f0.length < 4
          · rw [if_pos d3, spec_l01Copy.eq (by omega), Option.bind_some, if_pos (by omega)]
            exact ⟨_, rfl, shp_set h _ (by rw [List.length_set]; exact hl), by rw [List.length_set]⟩
          · rw [if_neg d3]
            exact ⟨_, rfl, h, rfl⟩
        · rw [if_neg d2]
          exact ⟨_, rfl, h, rfl⟩
      · rw [if_neg d1]
        exact ⟨_, rfl, h, rfl⟩
    obtain ⟨r, er, hr1, hr2⟩ := hB
    rw [ea, Option.bind_some, er, Option.bind_some]
    exact ⟨r, rfl, hr1, by rw [hr2]⟩
  · rw [if_neg c1, if_neg c1, wrap_in (x := (N : Int) - col) (by omega) (by omega)]
    dsimp only
    by_cases c2 : (N : Int) - col < wid p
    · rw [if_pos c2, if_pos c2, if_pos ⟨⟨by omega, by omega⟩, by omega⟩, Int.toNat_natCast]
      obtain ⟨r, e1, e2, e3⟩ := sh1_ok hN (shp_snoc h (x := List.replicate N z75) (by rw [List.length_replicate])) (by rw [List.length_append, List.length_singleton]; omega) (col := 0) (wd := wid p) (p := p) (attr := attr) (by omega) (by omega) (by omega)
      rw [List.length_append, List.length_singleton] at e3
      exact ⟨r, by rw [e1]; simp, e2, by dsimp only; omega⟩
    · rw [if_neg c2, if_neg c2]
      obtain ⟨r, e1, e2, e3⟩ := sh1_ok hN h hp (col := col) (wd := wid p) (p := p) (attr := attr) h0 (by omega) (by omega)
      exact ⟨r, e1, e2, by dsimp only; omega⟩
theorem spec_l01Shown.eq2 (a : Int) (h : isPt a = true) : spec_l01Shown.f a = some (shw a) := by
  have h0 : 0 ≤ a := by unfold isPt at h; exact (of_decide_eq_true h).1
  unfold spec_l01Shown.f shw isCtl
  by_cases c1 : a < 32
  · rw [if_pos c1, if_pos (by simp [c1])]
  · rw [if_neg c1]
    by_cases c2 : a = 127
    · rw [if_pos c2, if_pos (by simp [c2])]
    · rw [if_neg c2, if_neg (by simp [c1, c2])]
theorem pnL_ok {N : Nat} (hN : 2 ≤ N ∧ N ≤ 80) {attr : Int} (l : List Int) (hl : l.length ≤ 10) (d : Nat) : ∀ (k i : Nat) (rows : List (List S75)) (col : Int), i ≤ l.length → l.length - i = d → d + 20 < k → shp N rows → 0 < rows.length → rows.length + d ≤ 100000 → 0 ≤ col → col ≤ N →
    ∃ rows', pnL (N : Int) attr k l (i : Int) rows col = some (rows', (stpL (N : Int) (l.drop i) ((rows.length : Int) - 1, col)).2) ∧ shp N rows' ∧ (rows'.length : Int) - 1 = (stpL (N : Int) (l.drop i) ((rows.length : Int) - 1, col)).1 := by
  induction d with
  | zero =>
    intro k i rows col hi hd hk h1 h2 h3 h4 h5
    obtain ⟨k, rfl⟩ : ∃ m, k = m + 1 := ⟨k - 1, by omega⟩
    rw [pnL, if_neg (by omega), List.drop_eq_nil_of_le (by omega)]
    exact ⟨rows, rfl, h1, rfl⟩
  | succ d ih =>
    intro k i rows col hi hd hk h1 h2 h3 h4 h5
    obtain ⟨k, rfl⟩ : ∃ m, k = m + 1 := ⟨k - 1, by omega⟩
    have hlt : i < l.length := by omega
    obtain ⟨r, e1, e2, e3⟩ := shF_ok hN h1 h2 (by omega) (p := rd l (i : Int)) (attr := attr) (k := k) (by omega) h4 h5
    obtain ⟨g1, g2, g3, g4⟩ := stp_ok (C := (N : Int)) (rc := ((rows.length : Int) - 1, col)) (wid_in (rd l (i : Int))) (by omega) h4 h5
    rw [pnL, if_pos (int_lt hlt), if_pos (int_nn i), e1, Option.bind_some, wrap_succ (by omega), drop_rd hlt, stpL]
    dsimp only at g3 g4 ⊢
    obtain ⟨r2, f1, f2, f3⟩ := ih k (i + 1) r (stp (N : Int) ((rows.length : Int) - 1, col) (wid (rd l (i : Int)))).2 (by omega) (by omega) (by omega) e2 (by omega) (by omega) g1 g2
    rw [e3] at f1 f3
    exact ⟨r2, f1, f2, f3⟩
theorem pnF_ok {N : Nat} (hN : 2 ≤ N ∧ N ≤ 80) (attr p : Int) (hp : isPt p = true) {k : Nat} (hk : 40 < k) {rows : List (List S75)} {col : Int} (h1 : shp N rows) (h2 : 0 < rows.length) (h3 : rows.length ≤ 90000) (h4 : 0 ≤ col) (h5 : col ≤ N) :
    ∃ rows', pnF k (N : Int) rows col p attr = some (rows', (ptP (N : Int) p ((rows.length : Int) - 1, col)).2) ∧ shp N rows' ∧ (rows'.length : Int) - 1 = (ptP (N : Int) p ((rows.length : Int) - 1, col)).1 := by
  unfold pnF ptP
  by_cases c1 : p = 10
  · rw [if_pos c1, if_pos c1, if_pos ⟨⟨by omega, by omega⟩, by omega⟩, Int.toNat_natCast]
    exact ⟨_, rfl, shp_snoc h1 (by rw [List.length_replicate]), by rw [List.length_append, List.length_singleton]; dsimp only; omega⟩
  · have hs := shw_len p
    rw [if_neg c1, if_neg c1, spec_l01Shown.eq2 p hp, Option.bind_some]
    exact pnL_ok hN (shw p) (by omega) (shw p).length k 0 rows col (by omega) (by omega) (by omega) h1 h2 (by omega) h4 h5
theorem lzA_ok {N : Nat} (hN : 2 ≤ N ∧ N ≤ 80) (l : List Int) (hl : l.length ≤ 300) (hp : ∀ x ∈ l, isPt x = true) (d : Nat) : ∀ (k i : Nat) (rows : List (List S75)) (col : Int), i ≤ l.length → l.length - i = d → d + 60 < k → shp N rows → 0 < rows.length → rows.length + 2 * d ≤ 2000 → 0 ≤ col → col ≤ N →
    ∃ rows', lzA (N : Int) k l (i : Int) rows col = some (rows', (ptPL (N : Int) (l.drop i) ((rows.length : Int) - 1, col)).2) ∧ shp N rows' ∧ (rows'.length : Int) - 1 = (ptPL (N : Int) (l.drop i) ((rows.length : Int) - 1, col)).1 := by
  induction d with
  | zero =>
    intro k i rows col hi hd hk h1 h2 h3 h4 h5
    obtain ⟨k, rfl⟩ : ∃ m, k = m + 1 := ⟨k - 1, by omega⟩
    rw [lzA, if_neg (by omega), List.drop_eq_nil_of_le (by omega)]
    exact ⟨rows, rfl, h1, rfl⟩
  | succ d ih =>
    intro k i rows col hi hd hk h1 h2 h3 h4 h5
    obtain ⟨k, rfl⟩ : ∃ m, k = m + 1 := ⟨k - 1, by omega⟩
    have hlt : i < l.length := by omega
    have hpt : isPt (rd l (i : Int)) = true := by rw [rd_nat, List.getD_eq_getElem?_getD, List.getElem?_eq_getElem hlt]; exact hp _ (List.getElem_mem hlt)
    obtain ⟨r, e1, e2, e3⟩ := pnF_ok hN 0 _ hpt (k := k) (by omega) h1 h2 (by omega) h4 h5
    obtain ⟨g1, g2, g3, g4⟩ := ptP_ok (C := (N : Int)) (by omega) (rd l (i : Int)) (rc := ((rows.length : Int) - 1, col)) h4 h5
    rw [lzA, if_pos (int_lt hlt), if_pos (int_nn i), e1, Option.bind_some, wrap_succ (by omega), drop_rd hlt, ptPL]
    dsimp only at g3 g4 ⊢
    obtain ⟨r2, f1, f2, f3⟩ := ih k (i + 1) r (ptP (N : Int) (rd l (i : Int)) ((rows.length : Int) - 1, col)).2 (by omega) (by omega) (by omega) e2 (by omega) (by omega) g1 g2
    rw [e3] at f1 f3
    exact ⟨r2, f1, f2, f3⟩
theorem pspot_eq {C col : Int} (rows : List (List S75)) (h0 : 0 < rows.length) (h1 : rows.length ≤ 90000) (h2 : col ≤ C) : spec_l09Pen_spot.f C rows col = some ((spV C ((rows.length : Int) - 1, col)).f0, (spV C ((rows.length : Int) - 1, col)).f1) := by
  unfold spec_l09Pen_spot.f spV
  rw [wrap_in (x := (rows.length : Int) - 1) (by omega) (by omega), wrap_in (x := (rows.length : Int) - 1 + 1) (by omega) (by omega)]
  by_cases c1 : col = C
  · rw [if_pos (by omega), if_pos c1]
  · rw [if_neg (by omega), if_neg c1]
theorem lzB_ok {N : Nat} (hN : 2 ≤ N ∧ N ≤ 80) (region : Bool) (low high : Int) (l : List Int) (hl : l.length ≤ 300) (hp : ∀ x ∈ l, isPt x = true) (d : Nat) : ∀ (k i : Nat) (rows : List (List S75)) (col : Int) (sp : List S45), i ≤ l.length → l.length - i = d → d + 60 < k → shp N rows → 0 < rows.length → rows.length + 2 * d ≤ 4000 → 0 ≤ col → col ≤ N → sp.length + d ≤ 4000 →
    ∃ rows', lzB (N : Int) region low high k l (i : Int) rows col sp = some (rows', (ptPL (N : Int) (l.drop i) ((rows.length : Int) - 1, col)).2, sp ++ trl (N : Int) (l.drop i) ((rows.length : Int) - 1, col)) ∧ shp N rows' ∧ (rows'.length : Int) - 1 = (ptPL (N : Int) (l.drop i) ((rows.length : Int) - 1, col)).1 := by
  induction d with
  | zero =>
    intro k i rows col sp hi hd hk h1 h2 h3 h4 h5 h6
    obtain ⟨k, rfl⟩ : ∃ m, k = m + 1 := ⟨k - 1, by omega⟩
    rw [lzB, if_neg (by omega), List.drop_eq_nil_of_le (by omega), trl, List.append_nil]
    exact ⟨rows, rfl, h1, rfl⟩
  | succ d ih =>
    intro k i rows col sp hi hd hk h1 h2 h3 h4 h5 h6
    obtain ⟨k, rfl⟩ : ∃ m, k = m + 1 := ⟨k - 1, by omega⟩
    have hlt : i < l.length := by omega
    have hpt : isPt (rd l (i : Int)) = true := by rw [rd_nat, List.getD_eq_getElem?_getD, List.getElem?_eq_getElem hlt]; exact hp _ (List.getElem_mem hlt)
    obtain ⟨r, e1, e2, e3⟩ := pnF_ok hN (if region = true then (if low ≤ (i : Int) then (if (i : Int) < high then 1 else 0) else 0) else 0) _ hpt (k := k) (by omega) h1 h2 (by omega) h4 h5
    obtain ⟨g1, g2, g3, g4⟩ := ptP_ok (C := (N : Int)) (by omega) (rd l (i : Int)) (rc := ((rows.length : Int) - 1, col)) h4 h5
    rw [lzB, if_pos (int_lt hlt), if_pos (int_nn i), if_pos (by omega), e1, Option.bind_some, wrap_succ (by omega), drop_rd hlt, ptPL, trl]
    dsimp only at g3 g4 ⊢
    rw [pspot_eq r (by omega) (by omega) g2, Option.bind_some]
    obtain ⟨r2, f1, f2, f3⟩ := ih k (i + 1) r (ptP (N : Int) (rd l (i : Int)) ((rows.length : Int) - 1, col)).2 (sp ++ [spV (N : Int) (ptP (N : Int) (rd l (i : Int)) ((rows.length : Int) - 1, col))]) (by omega) (by omega) (by omega) e2 (by omega) (by omega) g1 g2 (by rw [List.length_append, List.length_singleton]; omega)
    rw [e3] at f1 f3 ⊢
    rw [List.append_assoc] at f1
    exact ⟨r2, f1, f2, f3⟩
theorem lzF_ok {N : Nat} (hN : 2 ≤ N ∧ N ≤ 80) (region : Bool) (l0 l1 : List Int) (a1 a2 : Int) {k : Nat} (hk : 1000 < k) (h0 : l0.length ≤ 300) (h1 : l1.length ≤ 300) (g0 : ∀ x ∈ l0, isPt x = true) (g1 : ∀ x ∈ l1, isPt x = true) :
    ∃ rows', lzF k l0 l1 a1 a2 region (N : Int) = some (rows', (ptPL (N : Int) l1 (ptPL (N : Int) l0 (0, 0))).2, spV (N : Int) (ptPL (N : Int) l0 (0, 0)) :: trl (N : Int) l1 (ptPL (N : Int) l0 (0, 0))) := by
  unfold lzF
  have hbd := @ptPL_ok (N : Int) (by omega)
  rw [if_pos ⟨by omega, by omega⟩, Int.toNat_natCast, List.nil_append]
  obtain ⟨r, e1, e2, e3⟩ := lzA_ok hN l0 h0 g0 l0.length k 0 [List.replicate N z75] 0 (by omega) (by omega) (by omega) (fun x hx => by rw [List.mem_singleton.1 hx, List.length_replicate]) (by simp) (by simp; omega) (by omega) (by omega)
  rw [show ((0 : Nat) : Int) = 0 from rfl, List.drop_zero] at e1
  rw [List.drop_zero] at e3
  rw [show (([List.replicate N z75].length : Nat) : Int) - 1 = 0 by simp] at e1 e3
  obtain ⟨b1, b2, b3, b4⟩ := hbd l0 (0, 0) (by simp) (by dsimp only; omega) (by simp)
  dsimp only at b3 b4
  rw [e1, Option.bind_some]
  dsimp only
  rw [pspot_eq r (by omega) (by omega) b2, Option.bind_some, e3]
  unfold spec_l01Min.f spec_l01Max.f
  have hmn : ∃ lo, (if a1 < a2 then some a1 else some a2) = some lo := by split <;> exact ⟨_, rfl⟩
  have hmx : ∃ hi, (if a1 > a2 then some a1 else some a2) = some hi := by split <;> exact ⟨_, rfl⟩
  obtain ⟨lo, hlo⟩ := hmn
  obtain ⟨hi, hhi⟩ := hmx
  rw [hlo, Option.bind_some, hhi, Option.bind_some]
  obtain ⟨r2, f1, f2, f3⟩ := lzB_ok hN region lo hi l1 h1 g1 l1.length k 0 r (ptPL (N : Int) l0 (0, 0)).2 [spV (N : Int) (ptPL (N : Int) l0 (0, 0))] (by omega) (by omega) (by omega) e2 (by omega) (by omega) b1 b2 (by simp; omega)
  rw [show ((0 : Nat) : Int) = 0 from rfl, List.drop_zero, e3] at f1
  exact ⟨r2, f1⟩
theorem ptsOK_all {l : List Int} (h : ptsOK l = true) : ∀ x ∈ l, isPt x = true := by
  unfold ptsOK at h
  simp only [Bool.and_eq_true, decide_eq_true_eq] at h
  exact List.all_eq_true.1 h.2
theorem bufOK_pts {l : List Int} {c m : Int} (h : bufOK l c m = true) : ptsOK l = true := by
  unfold bufOK at h
  simp only [Bool.and_eq_true] at h
  exact h.1.1
theorem impl_isViewed.eq (l0 l1 : List Int) (a1 a2 a4 : Int) {k : Nat} (hk : 300 < k) : impl_isViewed.f k l0 l1 a1 a2 a4 = some (decide (ptsOK l0 = true ∧ bufOK l1 a1 a2 = true ∧ (2 ≤ a4 ∧ a4 ≤ 80))) := by
  unfold impl_isViewed.f impl_isCols.f
  rw [impl_PointsRight.eq l0 hk, impl_BufRight.eq l1 a1 a2 hk, impl_within.eq]
  simp only [Option.bind_some]
  cases ptsOK l0
  · simp
  · cases bufOK l1 a1 a2
    · simp
    · simp
theorem spec_l08Size.eq (a b : Int) : spec_l08Size.f a b = some (decide ((1 ≤ a ∧ a ≤ 24) ∧ 2 ≤ b ∧ b ≤ 80)) := by
  unfold spec_l08Size.f
  (repeat' split) <;> (refine some_b ?_; simp only [decide_eq_true_eq, Bool.false_eq_true]; first | omega | (rw [false_iff]; omega))
/-! ### what the seen cells paint, and that the pen's rows hold it -/
def w2 (x : S75) : Bool := decide (0 < x.f0.length ∧ wid (rd x.f0 0) = 2)
def put1 (s : S85) (F : Int → Int → S75) (r c : Int) : S75 := if r = s.f1 ∧ c = s.f2 then s.f0 else if w2 s.f0 = true ∧ r = s.f1 ∧ c = s.f2 + 1 then ⟨[], s.f0.f1⟩ else F r c
def pnt (cs : List S85) : Int → Int → S75 := cs.foldl (fun F s => put1 s F) (fun _ _ => z75)
theorem pnt_snoc (cs : List S85) (s : S85) : pnt (cs ++ [s]) = put1 s (pnt cs) := by simp [pnt, List.foldl_append]
theorem pnt_ind {Q : List S85 → Prop} (h0 : Q []) (h1 : ∀ cs s, Q cs → Q (cs ++ [s])) (cs : List S85) : Q cs := by
  rcases List.eq_nil_or_concat cs with rfl | ⟨l, s, rfl⟩
  · exact h0
  · rw [List.concat_eq_append]
    exact h1 l s (pnt_ind h0 h1 l)
termination_by cs.length
decreasing_by all_goals (subst_vars; simp)
theorem pnt_above {row : Int} (cs : List S85) : (∀ s ∈ cs, s.f1 ≤ row) → ∀ r c, row < r → pnt cs r c = z75 := by
  refine pnt_ind (Q := fun cs => (∀ s ∈ cs, s.f1 ≤ row) → ∀ r c, row < r → pnt cs r c = z75) ?_ ?_ cs
  · intro _ r c _; rfl
  · intro cs s ih h r c hr
    have hs := h s (by simp)
    rw [pnt_snoc, put1, if_neg (by omega), if_neg (by omega)]
    exact ih (fun x hx => h x (by simp [hx])) r c hr
def wdt (x : S75) : Int := if w2 x = true then 2 else 1
structure Sim (N : Nat) (row col : Int) (cs : List S85) (inR : Bool) (rows : List (List S75)) : Prop where
  hsh : shp N rows
  hle : (rows.length : Int) = row + 1
  hr0 : 0 ≤ row
  hc0 : 0 ≤ col
  hc1 : col ≤ N
  hpt : ∀ r c : Nat, r < rows.length → c < N → (rows.getD r [])[c]? = some (pnt cs r c)
  hbd : ∀ s ∈ cs, 0 ≤ s.f1 ∧ s.f1 ≤ row ∧ 0 ≤ s.f2 ∧ s.f2 + wdt s.f0 ≤ N
  hwd : ∀ c : Nat, c < N → w2 (pnt cs row c) = true → (c : Int) + 2 ≤ col
  hin : inR = true → ∃ (cs0 : List S85) (s : S85), cs = cs0 ++ [s] ∧ s.f1 = row ∧ s.f2 + wdt s.f0 = col ∧ s.f0.f0 ≠ [] ∧ ∀ c : Nat, c < N → w2 (pnt cs row c) = true → (c : Int) + 2 = col → s.f2 = (c : Int)
  hno : inR = false → col = 0
  hln : ∀ s ∈ cs, s.f0.f0.length ≤ 4
theorem sim_row {N : Nat} {row col : Int} {cs : List S85} {inR : Bool} {rows : List (List S75)} (h : Sim N row col cs inR rows) : Sim N (row + 1) 0 cs false (rows ++ [List.replicate N z75]) := by
  have hle := h.hle
  have hab := pnt_above cs (fun s hs => (h.hbd s hs).2.1)
  refine ⟨shp_snoc h.hsh (by rw [List.length_replicate]), by rw [List.length_append, List.length_singleton]; omega, by have := h.hr0; omega, by omega, by omega, ?_, fun s hs => ⟨(h.hbd s hs).1, by have := (h.hbd s hs).2.1; omega, (h.hbd s hs).2.2⟩, ?_, fun e => (by cases e), fun _ => rfl, h.hln⟩
  · intro r c hr hc
    rw [List.length_append, List.length_singleton] at hr
    by_cases c1 : r < rows.length
    · rw [List.getD_eq_getElem?_getD, List.getElem?_append_left c1, ← List.getD_eq_getElem?_getD]
      exact h.hpt r c c1 hc
    · rw [List.getD_eq_getElem?_getD, List.getElem?_append_right (by omega), show r - rows.length = 0 by omega, hab r c (by omega)]
      simp [hc]
  · intro c hc hw
    rw [hab _ _ (by omega)] at hw
    exact absurd hw (by decide)
theorem sim_put {N : Nat} {row col : Int} {cs : List S85} {inR : Bool} {rows : List (List S75)} (h : Sim N row col cs inR rows) (q attr : Int) (hw : 1 ≤ wid q) (hN : col + wid q ≤ N) (hM : N ≤ 80) :
    ∃ rows', sh1 rows col (wid q) q attr = some (rows', col + wid q) ∧ Sim N row (col + wid q) (cs ++ [⟨⟨[q], attr⟩, row, col⟩]) true rows' := by
  have hwi := wid_in q
  have hle := h.hle
  have hr0 := h.hr0
  have hc0 := h.hc0
  have hp : 0 < rows.length := by omega
  have hl := shp_last h.hsh hp
  have hrow : row = ((rows.length - 1 : Nat) : Int) := by omega
  have hw2 : w2 (⟨[q], attr⟩ : S75) = decide (wid q = 2) := by simp [w2, rd]
  have hwt : wdt (⟨[q], attr⟩ : S75) = wid q := by
    unfold wdt
    rw [hw2]
    by_cases e : wid q = 2
    · rw [decide_eq_true e, if_pos rfl, e]
    · rw [decide_eq_false e, if_neg Bool.false_ne_true]; omega
  have key : ∀ X : List S75, X.length = N → (∀ c : Nat, c < N → X[c]? = some (pnt (cs ++ [⟨⟨[q], attr⟩, row, col⟩]) row c)) → Sim N row (col + wid q) (cs ++ [⟨⟨[q], attr⟩, row, col⟩]) true (rows.set (rows.length - 1) X) := by
    intro X hX hXp
    have hwn : ∀ c : Nat, c < N → w2 (pnt (cs ++ [⟨⟨[q], attr⟩, row, col⟩]) row c) = true → (c : Int) + 2 ≤ col ∨ ((c : Int) = col ∧ wid q = 2) := by
      intro c hc e
      rw [pnt_snoc, put1] at e
      dsimp only at e
      by_cases c1 : row = row ∧ (c : Int) = col
      · rw [if_pos c1, hw2] at e
        exact Or.inr ⟨c1.2, of_decide_eq_true e⟩
      · rw [if_neg c1] at e
        split at e
        · exact absurd e (by simp [w2])
        · exact Or.inl (h.hwd c hc e)
    refine ⟨shp_set h.hsh _ hX, by rw [List.length_set]; exact hle, hr0, by omega, hN, ?_, ?_, ?_, ?_, fun e => (by cases e), ?_⟩
    · intro r c hr hc
      rw [List.length_set] at hr
      rw [List.getD_eq_getElem?_getD, List.getElem?_set]
      by_cases c1 : rows.length - 1 = r
      · rw [if_pos c1, if_pos (by omega), Option.getD_some, hXp c hc, hrow, c1]
      · rw [if_neg c1, ← List.getD_eq_getElem?_getD, h.hpt r c hr hc, pnt_snoc, put1, if_neg (by dsimp only; omega), if_neg (by dsimp only; omega)]
    · intro s hs
      rcases List.mem_append.1 hs with hs | hs
      · exact h.hbd s hs
      · rw [List.mem_singleton.1 hs, hwt]
        exact ⟨hr0, Int.le_refl _, hc0, hN⟩
    · intro c hc e
      rcases hwn c hc e with e | e <;> omega
    · intro _
      refine ⟨cs, _, rfl, rfl, by rw [hwt], by simp, fun c hc e e2 => ?_⟩
      dsimp only
      rcases hwn c hc e with e | e <;> omega
    · intro s hs
      rcases List.mem_append.1 hs with hs | hs
      · exact h.hln s hs
      · rw [List.mem_singleton.1 hs]
        simp
  have hXc : ∀ c : Nat, c < N → (rd_L3 rows ((rows.length - 1 : Nat) : Int))[c]? = some (pnt cs row c) := by
    intro c hc
    have := h.hpt (rows.length - 1) c (by omega) hc
    unfold rd_L3
    rw [Int.toNat_natCast, this, hrow]
  unfold sh1
  rw [if_pos hp, if_pos hc0, hl, if_pos (by omega), wrap_in (x := col + wid q) (by omega) (by omega)]
  by_cases c1 : wid q = 2
  · rw [if_pos c1, wrap_in (x := col + 1) (by omega) (by omega), if_pos (by omega), if_pos (by omega)]
    refine ⟨_, rfl, key _ (by rw [List.length_set, List.length_set]; exact hl) ?_⟩
    intro c hc
    rw [List.getElem?_set, List.length_set, hl, List.getElem?_set, hl, hXc c hc, pnt_snoc, put1, hw2]
    dsimp only
    by_cases e1 : (c : Int) = col
    · rw [if_pos (show row = row ∧ (c : Int) = col from ⟨rfl, e1⟩), if_neg (by omega), if_pos (by omega), if_pos (by omega)]
    · rw [if_neg (show ¬ (row = row ∧ (c : Int) = col) from fun g => e1 g.2)]
      by_cases e2 : (c : Int) = col + 1
      · rw [if_pos (by omega), if_pos (by omega), if_pos ⟨decide_eq_true c1, rfl, e2⟩]
      · rw [if_neg (by omega), if_neg (by omega), if_neg (fun g => e2 g.2.2)]
  · rw [if_neg c1]
    refine ⟨_, rfl, key _ (by rw [List.length_set]; exact hl) ?_⟩
    intro c hc
    rw [List.getElem?_set, hl, hXc c hc, pnt_snoc, put1, hw2]
    dsimp only
    by_cases e1 : (c : Int) = col
    · rw [if_pos (show row = row ∧ (c : Int) = col from ⟨rfl, e1⟩), if_pos (by omega), if_pos (by omega)]
    · rw [if_neg (show ¬ (row = row ∧ (c : Int) = col) from fun g => e1 g.2), if_neg (by omega), if_neg (fun g => c1 (of_decide_eq_true g.1))]
/-! a point of no width joins the last cell -/
theorem w2_app (l : List Int) (a p : Int) (h : l ≠ []) : w2 ⟨l ++ [p], a⟩ = w2 ⟨l, a⟩ := by
  cases l with
  | nil => exact absurd rfl h
  | cons x l => simp [w2, rd]
theorem w2_eta (x : S75) (p : Int) (h : x.f0 ≠ []) : w2 ⟨x.f0 ++ [p], x.f1⟩ = w2 x := w2_app _ _ _ h
theorem sim_zero {N : Nat} {row col : Int} {cs0 : List S85} {s : S85} {rows : List (List S75)} (h : Sim N row col (cs0 ++ [s]) true rows) (hM : N ≤ 80) (p : Int) {k : Nat} (hk : 0 < k) :
    shAt k (rd_L3 rows ((rows.length - 1 : Nat) : Int)) col = some s.f2 ∧ 0 ≤ s.f2 ∧ s.f2 < N ∧ rd_T75 (rd_L3 rows ((rows.length - 1 : Nat) : Int)) s.f2 = s.f0 ∧ s.f0.f0 ≠ [] ∧
    (s.f0.f0.length < 4 → Sim N row col (cs0 ++ [⟨⟨s.f0.f0 ++ [p], s.f0.f1⟩, s.f1, s.f2⟩]) true (rows.set (rows.length - 1) ((rd_L3 rows ((rows.length - 1 : Nat) : Int)).set s.f2.toNat ⟨s.f0.f0 ++ [p], s.f0.f1⟩))) := by
  have hle := h.hle
  have hr0 := h.hr0
  have hc0 := h.hc0
  have hc1 := h.hc1
  have hp : 0 < rows.length := by omega
  have hl := shp_last h.hsh hp
  have hrow : row = ((rows.length - 1 : Nat) : Int) := by omega
  obtain ⟨cs0', s', e, f1, f2, f3, f4⟩ := h.hin rfl
  obtain ⟨rfl, es⟩ := List.append_inj' e rfl
  obtain rfl : s = s' := by injection es
  obtain ⟨b1, b2, b3, b4⟩ := h.hbd s (by simp)
  have hwt : wdt s.f0 = 1 ∨ wdt s.f0 = 2 := by unfold wdt; split <;> simp
  have hXc : ∀ c : Nat, c < N → (rd_L3 rows ((rows.length - 1 : Nat) : Int))[c]? = some (pnt (cs0 ++ [s]) row c) := by
    intro c hc
    have := h.hpt (rows.length - 1) c (by omega) hc
    unfold rd_L3
    rw [Int.toNat_natCast, this, hrow]
  have hXr : ∀ c : Int, 0 ≤ c → c < N → rd_T75 (rd_L3 rows ((rows.length - 1 : Nat) : Int)) c = pnt (cs0 ++ [s]) row c := by
    intro c h0 h1
    unfold rd_T75
    rw [List.getD_eq_getElem?_getD, hXc c.toNat (by omega), Option.getD_some, Int.toNat_of_nonneg h0]
  have hs : pnt (cs0 ++ [s]) row s.f2 = s.f0 := by
    rw [pnt_snoc, put1, if_pos ⟨f1.symm, rfl⟩]
  refine ⟨?_, b3, by omega, by rw [hXr _ b3 (by omega), hs], f3, ?_⟩
  · unfold shAt
    rw [wrap_in (x := col - 1) (by omega) (by omega), wrap_in (x := col - 1 - 1) (by omega) (by omega), hl]
    by_cases d1 : 0 < col - 1
    · rw [if_pos d1, if_pos (by omega), if_pos (by omega), spec_l08Wide.eq _ _ hk, Option.bind_some, hXr _ (by omega) (by omega)]
      rw [show decide (0 < (pnt (cs0 ++ [s]) row (col - 1 - 1)).f0.length ∧ wid (rd (pnt (cs0 ++ [s]) row (col - 1 - 1)).f0 0) = 2) = w2 (pnt (cs0 ++ [s]) row (col - 1 - 1)) from rfl]
      refine congrArg some ?_
      by_cases d2 : w2 (pnt (cs0 ++ [s]) row (col - 1 - 1)) = true
      · rw [if_pos d2]
        have := f4 (col - 1 - 1).toNat (by omega) (by rw [Int.toNat_of_nonneg (by omega)]; exact d2) (by omega)
        omega
      · rw [if_neg d2]
        have hw1 : wdt s.f0 = 1 := by
          rcases hwt with g | g
          · exact g
          · exfalso
            have e2 : col - 1 - 1 = s.f2 := by omega
            rw [e2, hs] at d2
            unfold wdt at g
            rw [if_neg d2] at g
            omega
        omega
    · rw [if_neg d1]
      refine congrArg some ?_
      omega
  · intro h4
    have hw' := w2_eta s.f0 p f3
    have hpn : ∀ r c : Int, pnt (cs0 ++ [⟨⟨s.f0.f0 ++ [p], s.f0.f1⟩, s.f1, s.f2⟩]) r c = if r = row ∧ c = s.f2 then ⟨s.f0.f0 ++ [p], s.f0.f1⟩ else pnt (cs0 ++ [s]) r c := by
      intro r c
      rw [pnt_snoc, pnt_snoc, put1, put1, f1, hw']
      by_cases e1 : r = row ∧ c = s.f2
      · rw [if_pos e1, if_pos e1]
      · rw [if_neg e1, if_neg e1, if_neg e1]
    have hpw : ∀ c : Int, w2 (pnt (cs0 ++ [⟨⟨s.f0.f0 ++ [p], s.f0.f1⟩, s.f1, s.f2⟩]) row c) = w2 (pnt (cs0 ++ [s]) row c) := by
      intro c
      rw [hpn]
      by_cases e1 : row = row ∧ c = s.f2
      · rw [if_pos e1, e1.2, hs, hw']
      · rw [if_neg e1]
    have hwt' : wdt (⟨s.f0.f0 ++ [p], s.f0.f1⟩ : S75) = wdt s.f0 := by unfold wdt; rw [hw']
    refine ⟨shp_set h.hsh _ (by rw [List.length_set]; exact hl), by rw [List.length_set]; exact hle, hr0, hc0, hc1, ?_, ?_, ?_, ?_, fun e => (by cases e), ?_⟩
    · intro r c hr hc
      rw [List.length_set] at hr
      rw [List.getD_eq_getElem?_getD, List.getElem?_set, hpn]
      by_cases c1 : rows.length - 1 = r
      · rw [if_pos c1, if_pos (by omega), Option.getD_some, List.getElem?_set, hl]
        by_cases e1 : (c : Int) = s.f2
        · rw [if_pos (by omega), if_pos (by omega), if_pos ⟨by omega, e1⟩]
        · rw [if_neg (by omega), if_neg (fun g => e1 g.2), hXc c hc, hrow, c1]
      · rw [if_neg c1, ← List.getD_eq_getElem?_getD, h.hpt r c hr hc, if_neg (by omega)]
    · intro x hx
      rcases List.mem_append.1 hx with hx | hx
      · exact h.hbd x (by simp [hx])
      · rw [List.mem_singleton.1 hx, hwt']
        exact ⟨b1, b2, b3, b4⟩
    · intro c hc e
      rw [hpw] at e
      exact h.hwd c hc e
    · intro _
      refine ⟨cs0, _, rfl, f1, by rw [hwt']; exact f2, by simp, fun c hc e => ?_⟩
      rw [hpw] at e
      exact f4 c hc e
    · intro x hx
      rcases List.mem_append.1 hx with hx | hx
      · exact h.hln x (by simp [hx])
      · rw [List.mem_singleton.1 hx]
        dsimp only
        rw [List.length_append, List.length_singleton]
        omega
theorem last_rd (cs : List S85) (s : S85) : rd_T85 (cs ++ [s]) (((cs ++ [s]).length - 1 : Nat) : Int) = s := by
  unfold rd_T85
  rw [Int.toNat_natCast, List.getD_eq_getElem?_getD]
  simp
theorem last_set (cs : List S85) (s t : S85) : (cs ++ [s]).set ((cs ++ [s]).length - 1) t = cs ++ [t] := by
  simp
theorem ptL_sim {N : Nat} (hN : 2 ≤ N ∧ N ≤ 80) {attr : Int} (l : List Int) (hl : l.length ≤ 10) (d : Nat) : ∀ (k i : Nat) (row col : Int) (cs : List S85) (inR : Bool) (rows : List (List S75)), i ≤ l.length → l.length - i = d → d + 20 < k → Sim N row col cs inR rows → row + d ≤ 90000 → cs.length + d ≤ 900000 →
    ∃ row' col' cs' inR' rows', ptL k attr l (i : Int) (N : Int) row col cs inR = some (row', col', cs', inR') ∧ pnL (N : Int) attr k l (i : Int) rows col = some (rows', col') ∧ Sim N row' col' cs' inR' rows' ∧ row' ≤ row + d ∧ cs'.length ≤ cs.length + d := by
  induction d with
  | zero =>
    intro k i row col cs inR rows hi hd hk h h1 h2
    obtain ⟨k, rfl⟩ : ∃ m, k = m + 1 := ⟨k - 1, by omega⟩
    rw [ptL, if_neg (by omega), pnL, if_neg (by omega)]
    exact ⟨_, _, _, _, _, rfl, rfl, h, by omega, by omega⟩
  | succ d ih =>
    intro k i row col cs inR rows hi hd hk h h1 h2
    obtain ⟨k, rfl⟩ : ∃ m, k = m + 1 := ⟨k - 1, by omega⟩
    have hlt : i < l.length := by omega
    have hle := h.hle
    have hr0 := h.hr0
    have hc0 := h.hc0
    have hc1 := h.hc1
    have hp : 0 < rows.length := by omega
    have hll := shp_last h.hsh hp
    have hwi := wid_in (rd l (i : Int))
    rw [ptL, if_pos (int_lt hlt), if_pos (int_nn i), impl_WidthOf.eq _ (by omega), wrap_succ (by omega), Option.bind_some, pnL, if_pos (int_lt hlt), if_pos (int_nn i), wrap_succ (by omega)]
    unfold shF
    rw [spec_WidthOf.eq _ (by omega), Option.bind_some, if_pos (show 0 < rows.length ∧ rows.length ≤ 1000000 from ⟨hp, by omega⟩)]
    generalize hq : rd l (i : Int) = q at hwi
    have done : ∀ row1 col1 cs1 in1 rows1, Sim N row1 col1 cs1 in1 rows1 → row1 ≤ row + 1 → cs1.length ≤ cs.length + 1 → ∃ row' col' cs' inR' rows', ptL k attr l ((i + 1 : Nat) : Int) (N : Int) row1 col1 cs1 in1 = some (row', col', cs', inR') ∧ pnL (N : Int) attr k l ((i + 1 : Nat) : Int) rows1 col1 = some (rows', col') ∧ Sim N row' col' cs' inR' rows' ∧ row' ≤ row + (d + 1 : Nat) ∧ cs'.length ≤ cs.length + (d + 1) := by
      intro row1 col1 cs1 in1 rows1 hS g1 g2
      obtain ⟨a, b, c, e, f, e1, e2, e3, e4, e5⟩ := ih k (i + 1) row1 col1 cs1 in1 rows1 (by omega) (by omega) (by omega) hS (by omega) (by omega)
      exact ⟨a, b, c, e, f, e1, e2, e3, by omega, by omega⟩
    by_cases c1 : wid q = 0
    · rw [if_pos c1, if_pos c1]
      cases inR with
      | false =>
        have e0 := h.hno rfl
        subst e0
        rw [if_neg Bool.false_ne_true]
        have ea : shAt k (rd_L3 rows ((rows.length - 1 : Nat) : Int)) 0 = some (-1) := by
          unfold shAt
          rw [wrap_in (x := 0 - 1) (by omega) (by omega), if_neg (by omega)]
          rfl
        rw [ea, Option.bind_some]
        unfold sh0
        rw [if_neg (by omega), Option.bind_some, Option.bind_some]
        exact done _ _ _ _ _ h (by omega) (by omega)
      | true =>
        obtain ⟨cs0, s, e, -⟩ := h.hin rfl
        subst e
        obtain ⟨g1, g2, g3, g4, g5, g6⟩ := sim_zero h hN.2 q (k := k) (by omega)
        have hlen : 0 < s.f0.f0.length := by
          rcases Nat.eq_zero_or_pos s.f0.f0.length with e | e
          · exact absurd (List.length_eq_zero_iff.1 e) g5
          · exact e
        rw [if_pos rfl, if_pos ⟨by simp, by omega⟩, last_rd, last_set, g1, Option.bind_some]
        unfold sh0
        rw [if_pos g2, hll, if_pos g3, g4, if_pos hlen]
        by_cases c2 : s.f0.f0.length < 4
        · rw [if_pos c2, if_pos c2, spec_l01Copy.eq (by omega), Option.bind_some, if_pos (by omega), Option.bind_some, Option.bind_some]
          exact done _ _ _ _ _ (g6 c2) (by omega) (by simp)
        · rw [if_neg c2, if_neg c2, Option.bind_some, Option.bind_some]
          exact done _ _ _ _ _ h (by omega) (by omega)
    · rw [if_neg c1, if_neg c1, if_pos (by omega), wrap_in (x := (N : Int) - col) (by omega) (by omega)]
      by_cases c2 : (N : Int) - col < wid q
      · rw [if_pos c2, if_pos c2, if_pos ⟨⟨by omega, by omega⟩, by omega⟩, Int.toNat_natCast, wrap_in (x := row + 1) (by omega) (by omega), wrap_in (x := wid q) (by omega) (by omega)]
        obtain ⟨r, e1, e2⟩ := sim_put (sim_row h) q attr (by omega) (by omega) hN.2
        rw [Int.zero_add] at e1 e2
        rw [e1, Option.bind_some]
        exact done _ _ _ _ _ e2 (by omega) (by simp)
      · rw [if_neg c2, if_neg c2, wrap_in (x := col + wid q) (by omega) (by omega)]
        obtain ⟨r, e1, e2⟩ := sim_put h q attr (by omega) (by omega) hN.2
        rw [e1, Option.bind_some]
        exact done _ _ _ _ _ e2 (by omega) (by simp)
theorem ptF_sim {N : Nat} (hN : 2 ≤ N ∧ N ≤ 80) (attr p : Int) (hpt : isPt p = true) {k : Nat} (hk : 40 < k) {row col : Int} {cs : List S85} {inR : Bool} {rows : List (List S75)} (h : Sim N row col cs inR rows) (h1 : row ≤ 80000) (h2 : cs.length ≤ 800000) :
    ∃ row' col' cs' inR' rows', ptF k p attr (N : Int) row col cs inR = some (row', col', cs', inR') ∧ pnF k (N : Int) rows col p attr = some (rows', col') ∧ Sim N row' col' cs' inR' rows' ∧ row' ≤ row + 2 ∧ cs'.length ≤ cs.length + 2 := by
  have hle := h.hle
  have hr0 := h.hr0
  unfold ptF pnF
  by_cases c1 : p = 10
  · rw [if_pos c1, if_pos c1, if_pos ⟨⟨by omega, by omega⟩, by omega⟩, Int.toNat_natCast, wrap_in (by omega) (by omega)]
    exact ⟨_, _, _, _, _, rfl, rfl, sim_row h, by omega, by omega⟩
  · have hs := shw_len p
    rw [if_neg c1, if_neg c1, spec_l01Shown.eq2 p hpt, Option.bind_some, impl_shown.eq, Option.bind_some]
    obtain ⟨a, b, c, e, f, e1, e2, e3, e4, e5⟩ := ptL_sim hN (attr := attr) (shw p) (by omega) (shw p).length k 0 row col cs inR rows (by omega) (by omega) (by omega) h (by omega) (by omega)
    exact ⟨a, b, c, e, f, e1, e2, e3, by omega, by omega⟩
theorem lyA_sim {N : Nat} (hN : 2 ≤ N ∧ N ≤ 80) (l : List Int) (hl : l.length ≤ 300) (hp : ∀ x ∈ l, isPt x = true) (d : Nat) : ∀ (k i : Nat) (row col : Int) (cs : List S85) (inR : Bool) (rows : List (List S75)), i ≤ l.length → l.length - i = d → d + 60 < k → Sim N row col cs inR rows → row + 2 * d ≤ 2000 → cs.length + 2 * d ≤ 2000 →
    ∃ row' col' cs' inR' rows', lyA (N : Int) k l (i : Int) row col cs inR = some (row', col', cs', inR') ∧ lzA (N : Int) k l (i : Int) rows col = some (rows', col') ∧ Sim N row' col' cs' inR' rows' ∧ row' ≤ row + 2 * d ∧ cs'.length ≤ cs.length + 2 * d := by
  induction d with
  | zero =>
    intro k i row col cs inR rows hi hd hk h h1 h2
    obtain ⟨k, rfl⟩ : ∃ m, k = m + 1 := ⟨k - 1, by omega⟩
    rw [lyA, if_neg (by omega), lzA, if_neg (by omega)]
    exact ⟨_, _, _, _, _, rfl, rfl, h, by omega, by omega⟩
  | succ d ih =>
    intro k i row col cs inR rows hi hd hk h h1 h2
    obtain ⟨k, rfl⟩ : ∃ m, k = m + 1 := ⟨k - 1, by omega⟩
    have hlt : i < l.length := by omega
    have hpt : isPt (rd l (i : Int)) = true := by rw [rd_nat, List.getD_eq_getElem?_getD, List.getElem?_eq_getElem hlt]; exact hp _ (List.getElem_mem hlt)
    obtain ⟨a, b, c, e, f, e1, e2, e3, e4, e5⟩ := ptF_sim hN 0 _ hpt (k := k) (by omega) h (by omega) (by omega)
    rw [lyA, if_pos (int_lt hlt), if_pos (int_nn i), e1, wrap_succ (by omega), Option.bind_some, lzA, if_pos (int_lt hlt), if_pos (int_nn i), e2, wrap_succ (by omega), Option.bind_some]
    obtain ⟨a', b', c', e', f', g1, g2, g3, g4, g5⟩ := ih k (i + 1) a b c e f (by omega) (by omega) (by omega) e3 (by omega) (by omega)
    exact ⟨a', b', c', e', f', g1, g2, g3, by omega, by omega⟩
theorem lyB_sim {N : Nat} (hN : 2 ≤ N ∧ N ≤ 80) (region : Bool) (fr tw : Int) (htw : 0 ≤ tw ∧ tw ≤ 1000) (l : List Int) (hl : l.length ≤ 300) (hp : ∀ x ∈ l, isPt x = true) (d : Nat) : ∀ (k i : Nat) (row col : Int) (cs : List S85) (inR : Bool) (rows : List (List S75)) (sp sp2 : List S45), i ≤ l.length → l.length - i = d → d + 60 < k → Sim N row col cs inR rows → row + 2 * d ≤ 4000 → cs.length + 2 * d ≤ 4000 → sp.length + d ≤ 4000 → sp2.length + d ≤ 4000 →
    ∃ row' col' cs' inR' rows' sp' sp2', lyB (N : Int) region fr tw k l (i : Int) row col cs inR sp = some (row', col', cs', inR', sp') ∧ lzB (N : Int) region fr tw k l (i : Int) rows col sp2 = some (rows', col', sp2') ∧ Sim N row' col' cs' inR' rows' ∧ row' ≤ row + 2 * d ∧ cs'.length ≤ cs.length + 2 * d ∧ sp'.length ≤ sp.length + d := by
  induction d with
  | zero =>
    intro k i row col cs inR rows sp sp2 hi hd hk h h1 h2 h3 h4
    obtain ⟨k, rfl⟩ : ∃ m, k = m + 1 := ⟨k - 1, by omega⟩
    rw [lyB, if_neg (by omega), lzB, if_neg (by omega)]
    exact ⟨_, _, _, _, _, _, _, rfl, rfl, h, by omega, by omega, by omega⟩
  | succ d ih =>
    intro k i row col cs inR rows sp sp2 hi hd hk h h1 h2 h3 h4
    obtain ⟨k, rfl⟩ : ∃ m, k = m + 1 := ⟨k - 1, by omega⟩
    have hlt : i < l.length := by omega
    have hpt : isPt (rd l (i : Int)) = true := by rw [rd_nat, List.getD_eq_getElem?_getD, List.getElem?_eq_getElem hlt]; exact hp _ (List.getElem_mem hlt)
    have hat : ∃ b, (if region = true then impl_within.f (i : Int) fr (wrap64 (tw - 1)) else some false) = some b ∧ (if b = true then (1 : Int) else 0) = (if region = true then (if fr ≤ (i : Int) then (if (i : Int) < tw then 1 else 0) else 0) else 0) := by
      cases region with
      | false => exact ⟨false, rfl, rfl⟩
      | true =>
        rw [if_pos rfl, if_pos rfl, impl_within.eq, wrap_in (x := tw - 1) (by omega) (by omega)]
        refine ⟨_, rfl, ?_⟩
        by_cases c1 : fr ≤ (i : Int)
        · by_cases c2 : (i : Int) < tw
          · rw [if_pos c1, if_pos c2, if_pos (decide_eq_true ⟨c1, by omega⟩)]
          · rw [if_pos c1, if_neg c2, decide_eq_false (by omega), if_neg Bool.false_ne_true]
        · rw [if_neg c1, decide_eq_false (by omega), if_neg Bool.false_ne_true]
    obtain ⟨b0, hb, hbe⟩ := hat
    obtain ⟨a, b, c, e, f, e1, e2, e3, e4, e5⟩ := ptF_sim hN (if b0 = true then 1 else 0) _ hpt (k := k) (by omega) h (by omega) (by omega)
    have hle := e3.hle
    have hr0 := e3.hr0
    rw [lyB, if_pos (int_lt hlt), if_pos (int_nn i), if_pos (by omega), lspot_eq cs inR sp h.hr0 (by omega), Option.bind_some, hb, Option.bind_some, e1, wrap_succ (by omega), Option.bind_some]
    rw [lzB, if_pos (int_lt hlt), if_pos (int_nn i), if_pos (by omega), ← hbe, e2, Option.bind_some, wrap_succ (by omega), pspot_eq f (by omega) (by omega) e3.hc1, Option.bind_some]
    obtain ⟨a', b', c', e', f', s', s2', g1, g2, g3, g4, g5, g6⟩ := ih k (i + 1) a b c e f (sp ++ [⟨(spV N (row, col)).f0, (spV N (row, col)).f1⟩]) (sp2 ++ [⟨(spV N ((f.length : Int) - 1, b)).f0, (spV N ((f.length : Int) - 1, b)).f1⟩]) (by omega) (by omega) (by omega) e3 (by omega) (by omega) (by rw [List.length_append, List.length_singleton]; omega) (by rw [List.length_append, List.length_singleton]; omega)
    rw [List.length_append, List.length_singleton] at g6
    exact ⟨a', b', c', e', f', s', s2', g1, g2, g3, by omega, by omega, by omega⟩
theorem sim_zero0 {N : Nat} : Sim N 0 0 [] false [List.replicate N z75] := by
  refine ⟨fun x hx => by rw [List.mem_singleton.1 hx, List.length_replicate], rfl, by omega, by omega, by omega, ?_, fun s hs => (by cases hs), ?_, fun e => (by cases e), fun _ => rfl, fun s hs => (by cases hs)⟩
  · intro r c hr hc
    rw [List.length_singleton] at hr
    obtain rfl : r = 0 := by omega
    show (List.replicate N z75)[c]? = some z75
    simp [hc]
  · intro c hc e
    exact absurd (show w2 z75 = true from e) (by decide)
theorem lyF_sim {N : Nat} (hN : 2 ≤ N ∧ N ≤ 80) (region : Bool) (l0 l1 : List Int) (a1 a2 : Int) (ha1 : 0 ≤ a1 ∧ a1 ≤ 1000) (ha2 : 0 ≤ a2 ∧ a2 ≤ 1000) {k : Nat} (hk : 1000 < k) (h0 : l0.length ≤ 300) (h1 : l1.length ≤ 300) (g0 : ∀ x ∈ l0, isPt x = true) (g1 : ∀ x ∈ l1, isPt x = true) :
    ∃ row' col' cs' inR' rows', lyF k l0 l1 a1 a2 region (N : Int) = some (row', col', cs', inR', spV N (ptPL N l0 (0, 0)) :: trl N l1 (ptPL N l0 (0, 0))) ∧ lzF k l0 l1 a1 a2 region (N : Int) = some (rows', col', spV N (ptPL N l0 (0, 0)) :: trl N l1 (ptPL N l0 (0, 0))) ∧ Sim N row' col' cs' inR' rows' ∧ row' ≤ 3000 ∧ cs'.length ≤ 3000 := by
  obtain ⟨csx, inx, ex⟩ := lyF_ok (C := (N : Int)) (by omega) region l0 l1 a1 a2 hk h0 h1
  obtain ⟨rx, ey⟩ := lzF_ok hN region l0 l1 a1 a2 hk h0 h1 g0 g1
  generalize spV N (ptPL N l0 (0, 0)) :: trl N l1 (ptPL N l0 (0, 0)) = SP at ex ey ⊢
  unfold lyF at ex ⊢
  unfold lzF at ey ⊢
  rw [if_pos ⟨by omega, by omega⟩, Int.toNat_natCast, List.nil_append] at ey ⊢
  obtain ⟨r1, c1, cs1, in1, rows1, e1, e2, e3, e4, e5⟩ := lyA_sim hN l0 h0 g0 l0.length k 0 0 0 [] false [List.replicate N z75] (by omega) (by omega) (by omega) sim_zero0 (by omega) (by simp; omega)
  rw [show ((0 : Nat) : Int) = 0 from rfl] at e1 e2
  have hle := e3.hle
  have hr0 := e3.hr0
  rw [e1, Option.bind_some] at ex ⊢
  rw [e2, Option.bind_some] at ey ⊢
  dsimp only at ex ey ⊢
  rw [pspot_eq rows1 (by omega) (by omega) e3.hc1, Option.bind_some] at ey ⊢
  unfold impl_Buf_region.f at ex ⊢
  unfold spec_l01Min.f spec_l01Max.f at ey ⊢
  rw [Option.bind_some] at ex ⊢
  have hmn : (if a1 < a2 then some a1 else some a2) = some (mn a2 a1) := by unfold mn; (repeat' split) <;> first | rfl | (refine congrArg some ?_; omega)
  have hmx : (if a1 > a2 then some a1 else some a2) = some (mx a2 a1) := by unfold mx; (repeat' split) <;> first | rfl | (refine congrArg some ?_; omega)
  have hmb : 0 ≤ mx a2 a1 ∧ mx a2 a1 ≤ 1000 := by unfold mx; split <;> omega
  rw [hmn, Option.bind_some, hmx, Option.bind_some] at ey ⊢
  simp only [List.length_nil, Nat.zero_add, Int.zero_add] at e4 e5
  obtain ⟨r2, c2, cs2, in2, rows2, sp2, sq2, f1, f2, f3, f4, f5, f6⟩ := lyB_sim hN region (mn a2 a1) (mx a2 a1) hmb l1 h1 g1 l1.length k 0 r1 c1 cs1 in1 rows1 [] [⟨(spV N ((rows1.length : Int) - 1, c1)).f0, (spV N ((rows1.length : Int) - 1, c1)).f1⟩] (by omega) (by omega) (by omega) e3 (by omega) (by omega) (by simp; omega) (by simp; omega)
  rw [show ((0 : Nat) : Int) = 0 from rfl] at f1 f2
  have hle2 := f3.hle
  have hr2 := f3.hr0
  dsimp only at ex ey ⊢
  rw [f1, Option.bind_some] at ex ⊢
  rw [f2] at ey ⊢
  dsimp only at ex ey ⊢
  have hl2 : sp2.length ≤ 1000000 := by rw [List.length_nil] at f6; omega
  rw [if_pos hl2, lspot_eq _ _ _ (by omega) (by omega), Option.bind_some] at ex ⊢
  have e := Option.some.inj ex
  have e' := Option.some.inj ey
  simp only [Prod.mk.injEq] at e e'
  refine ⟨r2, c2, cs2, in2, rows2, ?_, ?_, f3, by omega, by omega⟩
  · rw [e.2.2.2.2]
  · rw [e'.2.2]
theorem laws_eqCell.eq {a b : List Int} {c c' : Int} {k : Nat} (hl : a.length ≤ 1048576) (hk : a.length < k) : laws_eqCell.f k a c b c' = some (decide (a = b ∧ c = c')) := by
  unfold laws_eqCell.f
  rw [laws_eqInt64S.eq hl hk]
  simp only [Option.bind_some, decide_eq_true_eq]
  by_cases h1 : a = b
  · by_cases h2 : c = c'
    · simp [h1, h2]
    · simp [h1, h2]
  · simp [h1]
theorem rdCellB {l : List (S75)} {i : Nat} (h : i < l.length) : rd_T75 l (i : Int) = l[i] := by
  unfold rd_T75
  rw [Int.toNat_natCast, List.getD_eq_getElem?_getD, List.getElem?_eq_getElem h]
  rfl
theorem cell_eq (a b : S75) : (a.f0 = b.f0 ∧ a.f1 = b.f1) ↔ a = b := by
  constructor
  · intro e
    rcases a with ⟨p0, p1⟩
    rcases b with ⟨q0, q1⟩
    simp only at e
    obtain ⟨e0, e1⟩ := e
    rw [e0, e1]
  · intro e
    rw [e]
    exact ⟨rfl, rfl⟩
instance decCell : DecidableEq S75 := fun a b => decidable_of_iff _ (cell_eq a b)
theorem laws_eqCellS.loop (a b : List (S75)) (hab : a.length = b.length) (hl : a.length ≤ 1048576) (hL : ∀ x ∈ a, x.f0.length ≤ 1048576) (d : Nat) : ∀ (k i : Nat), i ≤ a.length → a.length - i = d → d + 1048577 < k → laws_eqCellS.l0 k a b (i : Int) = some (decide (a.drop i = b.drop i)) := by
  induction d with
  | zero =>
    intro k i hi hd hk
    obtain ⟨k, rfl⟩ : ∃ m, k = m + 1 := ⟨k - 1, by omega⟩
    simp only [laws_eqCellS.l0]
    rw [if_neg (by omega), List.drop_eq_nil_of_le (by omega), List.drop_eq_nil_of_le (by omega)]
    rfl
  | succ d ih =>
    intro k i hi hd hk
    obtain ⟨k, rfl⟩ : ∃ m, k = m + 1 := ⟨k - 1, by omega⟩
    have hlt : i < a.length := by omega
    have hlb : i < b.length := by omega
    have h1 := hL a[i] (List.getElem_mem hlt)
    simp only [laws_eqCellS.l0]
    rw [if_pos (int_lt hlt), if_pos (int_nn i), if_pos (by omega), rdCellB hlt, rdCellB hlb, laws_eqCell.eq h1 (by omega), wrap_succ (by omega), ih k (i + 1) (by omega) (by omega) (by omega), List.drop_eq_getElem_cons hlt, List.drop_eq_getElem_cons hlb]
    simp only [Option.bind_some, decide_eq_true_eq]
    have hq := cell_eq a[i] b[i]
    by_cases h : a[i] = b[i]
    · rw [if_pos (hq.2 h), h]
      refine congrArg some (decide_eq_decide.2 ⟨fun e => by rw [e], fun e => (List.cons.inj e).2⟩)
    · rw [if_neg (fun e => h (hq.1 e))]
      exact congrArg some (decide_eq_false (fun e => h (List.cons.inj e).1)).symm
theorem laws_eqCellS.eq {a b : List (S75)} {k : Nat} (hl : a.length ≤ 1048576) (hL : ∀ x ∈ a, x.f0.length ≤ 1048576) (hk : 3000000 < k) : laws_eqCellS.f k a b = some (decide (a = b)) := by
  unfold laws_eqCellS.f
  by_cases h : a.length = b.length
  · rw [if_pos (by omega)]
    have := laws_eqCellS.loop a b h hl hL a.length k 0 (by omega) (by omega) (by omega)
    simpa using this
  · rw [if_neg (by omega)]
    refine congrArg some (decide_eq_false (fun e => h (by rw [e]))).symm
def szM : List S75 → Nat
  | [] => 0
  | x :: l => x.f0.length + 1 + szM l
theorem szM_nil : szM [] = 0 := rfl
theorem szM_cons (x : S75) (l : List S75) : szM (x :: l) = x.f0.length + 1 + szM l := rfl
/-- the cells of marks -/
def mkC : List S75 → Int → List S75
  | [], _ => []
  | x :: l, a => ⟨mkL x.f0.length a, a + (x.f0.length : Int)⟩ :: mkC l (a + (x.f0.length : Int) + 1)
theorem mkC_nil (a : Int) : mkC [] a = [] := rfl
theorem mkC_cons (x : S75) (l : List S75) (a : Int) : mkC (x :: l) a = ⟨mkL x.f0.length a, a + (x.f0.length : Int)⟩ :: mkC l (a + (x.f0.length : Int) + 1) := rfl
theorem laws_markCellS.loop (l : List S75) : ∀ (pre : List S75) (k : Nat) (a : Int), pre.length + l.length ≤ 1048576 → szM l ≤ 1048576 → 0 ≤ a → a + (szM l : Int) ≤ 4000000000 → l.length + 1048577 < k → laws_markCellS.l0 k (pre ++ l) a (pre.length : Int) = some (a + (szM l : Int), pre ++ mkC l a) := by
  induction l with
  | nil =>
    intro pre k a h1 h2 h3 h4 hk
    obtain ⟨k, rfl⟩ : ∃ m, k = m + 1 := ⟨k - 1, by omega⟩
    simp only [laws_markCellS.l0]
    rw [if_neg (by simp), mkC_nil, szM_nil]
    simp
  | cons x l ih =>
    intro pre k a h1 h2 h3 h4 hk
    obtain ⟨k, rfl⟩ : ∃ m, k = m + 1 := ⟨k - 1, by omega⟩
    rw [szM_cons] at h2 h4
    rw [List.length_cons] at h1 hk
    simp only [laws_markCellS.l0]
    rw [if_pos (by rw [List.length_append, List.length_cons]; omega), if_pos (by omega)]
    have e1 : (pre ++ x :: l).getD ((pre.length : Int)).toNat z75 = x := by
      rw [Int.toNat_natCast, List.getD_eq_getElem?_getD, List.getElem?_append_right (Nat.le_refl _), Nat.sub_self]
      rfl
    rw [e1, laws_markInt64S.eq (by omega) h3 (by omega) (by omega)]
    simp only [Option.bind_some]
    have e2 : (pre ++ x :: l).set ((pre.length : Int)).toNat ⟨mkL x.f0.length a, a + (x.f0.length : Int)⟩ = (pre ++ [⟨mkL x.f0.length a, a + (x.f0.length : Int)⟩]) ++ l := by
      rw [Int.toNat_natCast, List.set_append_right _ _ (Nat.le_refl _), Nat.sub_self, List.set_cons_zero, List.append_assoc]
      rfl
    rw [e2, wrap_succ (by omega), wrap_in (by omega) (by omega)]
    have := ih (pre ++ [⟨mkL x.f0.length a, a + (x.f0.length : Int)⟩]) k (a + (x.f0.length : Int) + 1) (by rw [List.length_append, List.length_singleton]; omega) (by omega) (by omega) (by omega) (by omega)
    rw [List.length_append, List.length_singleton] at this
    rw [this, mkC_cons, szM_cons, List.append_assoc]
    refine congrArg some ?_
    refine Prod.ext ?_ rfl
    show a + (x.f0.length : Int) + 1 + (szM l : Int) = a + ((x.f0.length + 1 + szM l : Nat) : Int)
    omega
theorem laws_markCellS.eq {l : List S75} {a : Int} {k : Nat} (h : l.length ≤ 1048576) (h2 : szM l ≤ 1048576) (h0 : 0 ≤ a) (h1 : a ≤ 2000000000) (hk : 3000000 < k) : laws_markCellS.f k l a = some (a + (szM l : Int), mkC l a) := by
  have := laws_markCellS.loop l [] k a (by simp only [List.length_nil]; omega) h2 h0 (by omega) (by omega)
  exact this
theorem laws_heldCellS.loop (l : List S75) : ∀ (pre : List S75) (k : Nat) (a : Int), pre.length + l.length ≤ 1048576 → szM l ≤ 1048576 → 0 ≤ a → a + (szM l : Int) ≤ 4000000000 → l.length + 1048577 < k → laws_heldCellS.l0 k (pre ++ mkC l a) a (pre.length : Int) = some (a + (szM l : Int)) := by
  induction l with
  | nil =>
    intro pre k a h1 h2 h3 h4 hk
    obtain ⟨k, rfl⟩ : ∃ m, k = m + 1 := ⟨k - 1, by omega⟩
    simp only [laws_heldCellS.l0]
    rw [if_neg (by rw [mkC_nil]; simp), szM_nil]
    simp
  | cons x l ih =>
    intro pre k a h1 h2 h3 h4 hk
    obtain ⟨k, rfl⟩ : ∃ m, k = m + 1 := ⟨k - 1, by omega⟩
    rw [szM_cons] at h2 h4
    rw [List.length_cons] at h1 hk
    simp only [laws_heldCellS.l0]
    rw [mkC_cons, if_pos (by rw [List.length_append, List.length_cons]; omega), if_pos (by omega)]
    have e1 : rd_T75 (pre ++ (⟨mkL x.f0.length a, a + (x.f0.length : Int)⟩ : S75) :: mkC l (a + (x.f0.length : Int) + 1)) (pre.length : Int) = ⟨mkL x.f0.length a, a + (x.f0.length : Int)⟩ := by
      unfold rd_T75
      rw [Int.toNat_natCast, List.getD_eq_getElem?_getD, List.getElem?_append_right (Nat.le_refl _), Nat.sub_self]
      rfl
    rw [e1, laws_heldInt64S.eq (by omega) h3 (by omega) (by omega)]
    simp only [Option.bind_some]
    rw [if_neg (by omega), if_pos trivial, wrap_succ (by omega), wrap_in (by omega) (by omega)]
    have := ih (pre ++ [⟨mkL x.f0.length a, a + (x.f0.length : Int)⟩]) k (a + (x.f0.length : Int) + 1) (by rw [List.length_append, List.length_singleton]; omega) (by omega) (by omega) (by omega) (by omega)
    rw [List.length_append, List.length_singleton, List.append_assoc] at this
    refine Eq.trans this ?_
    rw [szM_cons]
    refine congrArg some ?_
    omega
theorem laws_heldCellS.eq {l : List S75} {a : Int} {k : Nat} (h : l.length ≤ 1048576) (h2 : szM l ≤ 1048576) (h0 : 0 ≤ a) (h1 : a ≤ 2000000000) (hk : 3000000 < k) : laws_heldCellS.f k (mkC l a) a = some (a + (szM l : Int)) := by
  have := laws_heldCellS.loop l [] k a (by simp only [List.length_nil]; omega) h2 h0 (by omega) (by omega)
  exact this
theorem laws_eqGrid.eq {l l' : List S75} {a b r c a' b' r' c' : Int} {h h' : Bool} {t t' : Int} {k : Nat} (hl : l.length ≤ 1048576) (hL : ∀ x ∈ l, x.f0.length ≤ 1048576) (hk : 3000000 < k) : laws_eqGrid.f k a b l r c h t a' b' l' r' c' h' t' = some (decide (a = a' ∧ b = b' ∧ l = l' ∧ r = r' ∧ c = c' ∧ h = h' ∧ t = t')) := by
  unfold laws_eqGrid.f
  rw [laws_eqCellS.eq hl hL hk]
  simp only [Option.bind_some, decide_eq_true_eq]
  by_cases e1 : a = a'
  · by_cases e2 : b = b'
    · by_cases e3 : l = l'
      · by_cases e4 : r = r'
        · by_cases e5 : c = c'
          · by_cases e6 : h = h'
            · by_cases e7 : t = t'
              · simp [e1, e2, e3, e4, e5, e6, e7]
              · simp [e1, e2, e3, e4, e5, e6, e7]
            · simp [e1, e2, e3, e4, e5, e6]
          · simp [e1, e2, e3, e4, e5]
        · simp [e1, e2, e3, e4]
      · simp [e1, e2, e3]
    · simp [e1, e2]
  · simp [e1]
def gnewV (r c : Int) : Int × Int × List S75 × Int × Int × Bool × Int :=
  if (1 ≤ r ∧ r ≤ 24) ∧ (2 ≤ c ∧ c ≤ 80) then (r, c, List.replicate (r * c).toNat z75, 0, 0, false, 0) else (0, 0, [], 0, 0, false, 0)
theorem mul_in {r c : Int} (h1 : 1 ≤ r ∧ r ≤ 24) (h2 : 2 ≤ c ∧ c ≤ 80) : 0 ≤ r * c ∧ r * c ≤ 1920 :=
  ⟨Int.mul_nonneg (by omega) (by omega), Int.le_trans (Int.mul_le_mul_of_nonneg_right h1.2 (by omega)) (by omega)⟩
theorem spec_GridNew.eq (r c : Int) : spec_GridNew.f r c = some (gnewV r c) := by
  have e : spec_l08Size.f r c = some (decide ((1 ≤ r ∧ r ≤ 24) ∧ (2 ≤ c ∧ c ≤ 80))) := by
    unfold spec_l08Size.f
    (repeat' split) <;> refine congrArg some ?_ <;> first | (symm; rw [decide_eq_false_iff_not]; omega) | exact decide_eq_decide.2 (by omega)
  unfold spec_GridNew.f gnewV
  rw [e]
  simp only [Option.bind_some, decide_eq_true_eq]
  by_cases h : (1 ≤ r ∧ r ≤ 24) ∧ (2 ≤ c ∧ c ≤ 80)
  · have hm := mul_in h.1 h.2
    rw [if_pos h, if_pos h, wrap_in (by omega) (by omega), if_pos hm.1, if_pos (by omega)]
  · rw [if_neg h, if_neg h]
theorem impl_GridNew.eq (r c : Int) : impl_GridNew.f r c = some (gnewV r c) := by
  unfold impl_GridNew.f gnewV impl_isRows.f impl_isCols.f
  simp only [impl_within.eq, Option.bind_some, decide_eq_true_eq]
  by_cases h1 : 1 ≤ r ∧ r ≤ 24
  · rw [if_pos h1]
    by_cases h2 : 2 ≤ c ∧ c ≤ 80
    · have hm := mul_in h1 h2
      rw [if_pos h2, if_pos (show (1 ≤ r ∧ r ≤ 24) ∧ (2 ≤ c ∧ c ≤ 80) from ⟨h1, h2⟩), wrap_in (by omega) (by omega), if_pos hm.1, if_pos (by omega)]
    · rw [if_neg h2, if_neg (fun g => h2 g.2)]
  · rw [if_neg h1, if_neg (fun g => h1 g.1)]
/-! ### the grids: what both write -/
theorem idx_inj {N r c r' c' : Nat} (hc : c < N) (hc' : c' < N) (h : r * N + c = r' * N + c') : r = r' ∧ c = c' := by
  have hN : 0 < N := by omega
  have e1 : (r * N + c) / N = r := by rw [Nat.mul_comm, Nat.mul_add_div hN, Nat.div_eq_of_lt hc, Nat.add_zero]
  have e2 : (r' * N + c') / N = r' := by rw [Nat.mul_comm, Nat.mul_add_div hN, Nat.div_eq_of_lt hc', Nat.add_zero]
  have : r = r' := by rw [← e1, h, e2]
  subst this
  exact ⟨rfl, by omega⟩
theorem idx_lt {N R r c : Nat} (hr : r < R) (hc : c < N) : r * N + c < R * N := by
  have := Nat.mul_le_mul_right N (show r + 1 ≤ R from hr)
  rw [Nat.add_mul, Nat.one_mul] at this
  omega
def Gd (R N : Nat) (G : List S75) (F : Int → Int → S75) : Prop := G.length = R * N ∧ ∀ r c : Nat, r < R → c < N → G[r * N + c]? = some (F r c)
theorem Gd_set {R N : Nat} {G : List S75} {F : Int → Int → S75} (h : Gd R N G F) {r0 c0 : Nat} (hr0 : r0 < R) (hc0 : c0 < N) (x : S75) : Gd R N (G.set (r0 * N + c0) x) (fun r c => if r = (r0 : Int) ∧ c = (c0 : Int) then x else F r c) := by
  refine ⟨by rw [List.length_set]; exact h.1, fun r c hr hc => ?_⟩
  rw [List.getElem?_set]
  by_cases e : r = r0 ∧ c = c0
  · obtain ⟨rfl, rfl⟩ := e
    have := idx_lt hr0 hc0
    rw [if_pos rfl, if_pos (by rw [h.1]; exact this)]
    dsimp only
    rw [if_pos ⟨rfl, rfl⟩]
  · rw [if_neg (fun g => e ⟨(idx_inj hc0 hc g).1.symm, (idx_inj hc0 hc g).2.symm⟩)]
    dsimp only
    rw [if_neg (fun g => e ⟨by omega, by omega⟩)]
    exact h.2 r c hr hc
theorem Gd_to {R N : Nat} {G : List S75} {F F' : Int → Int → S75} (h : Gd R N G F) (hF : ∀ r c : Nat, r < R → c < N → F r c = F' r c) : Gd R N G F' := ⟨h.1, fun r c hr hc => by rw [h.2 r c hr hc, hF r c hr hc]⟩
theorem Gd_at_ {R N : Nat} {G : List S75} {F : Int → Int → S75} (h : Gd R N G F) {j : Nat} (hj : j < R * N) : ∃ r c : Nat, r < R ∧ c < N ∧ j = r * N + c ∧ G[j]? = some (F r c) := by
  have hN : 0 < N := by
    rcases Nat.eq_zero_or_pos N with e | e
    · subst e; simp at hj
    · exact e
  have h1 : j / N < R := Nat.div_lt_of_lt_mul (by rw [Nat.mul_comm]; exact hj)
  have h2 := Nat.mod_lt j hN
  have h3 : j = j / N * N + j % N := by rw [Nat.mul_comm]; exact (Nat.div_add_mod j N).symm
  refine ⟨j / N, j % N, h1, h2, h3, ?_⟩
  have := h.2 _ _ h1 h2
  rw [← h3] at this
  exact this
theorem Gd_ext {R N : Nat} {G G' : List S75} {F : Int → Int → S75} (h : Gd R N G F) (h' : Gd R N G' F) : G = G' := by
  refine List.ext_getElem? (fun j => ?_)
  by_cases hj : j < R * N
  · obtain ⟨r, c, hr, hc, e, e1⟩ := Gd_at_ h hj
    rw [e1, e, h'.2 r c hr hc]
  · rw [List.getElem?_eq_none (by rw [h.1]; omega), List.getElem?_eq_none (by rw [h'.1]; omega)]
theorem pnt_len (cs : List S85) : (∀ s ∈ cs, s.f0.f0.length ≤ 4) → ∀ r c, (pnt cs r c).f0.length ≤ 4 := by
  refine pnt_ind (Q := fun cs => (∀ s ∈ cs, s.f0.f0.length ≤ 4) → ∀ r c, (pnt cs r c).f0.length ≤ 4) ?_ ?_ cs
  · intro _ r c; exact Nat.zero_le _
  · intro cs s ih h r c
    rw [pnt_snoc, put1]
    split
    · exact h s (by simp)
    · split
      · exact Nat.zero_le _
      · exact ih (fun x hx => h x (by simp [hx])) r c
theorem szM_le (l : List S75) (h : ∀ x ∈ l, x.f0.length ≤ 4) : szM l ≤ 5 * l.length := by
  induction l with
  | nil => exact Nat.zero_le _
  | cons x l ih =>
    have h1 := h x (by simp)
    have h2 := ih (fun y hy => h y (by simp [hy]))
    rw [szM_cons, List.length_cons]
    omega
theorem impl_Cell_isWide.eq (x : S75) {k : Nat} (hk : 10 < k) : impl_Cell_isWide.f k x.f0 x.f1 = some (w2 x) := by
  unfold impl_Cell_isWide.f w2
  by_cases h : 0 < x.f0.length
  · rw [if_pos (by omega), if_pos (by omega), impl_WidthOf.eq _ (by omega), Option.bind_some]
    refine congrArg some ?_
    rw [Bool.eq_iff_iff]
    simp [h]
  · rw [if_neg (by omega)]
    simp [h]
theorem take_rd {cs : List S85} {i : Nat} (hi : i < cs.length) : cs.take (i + 1) = cs.take i ++ [rd_T85 cs (i : Int)] := by
  unfold rd_T85
  rw [Int.toNat_natCast, List.getD_eq_getElem?_getD, List.getElem?_eq_getElem hi, Option.getD_some, List.take_succ_eq_append_getElem hi]
theorem mem_rd {cs : List S85} {i : Nat} (hi : i < cs.length) : rd_T85 cs (i : Int) ∈ cs := by
  unfold rd_T85
  rw [Int.toNat_natCast, List.getD_eq_getElem?_getD, List.getElem?_eq_getElem hi, Option.getD_some]
  exact List.getElem_mem hi
theorem voL_ok {R N : Nat} (hR : 1 ≤ R ∧ R ≤ 24) (hN : 2 ≤ N ∧ N ≤ 80) {T : Int} (hT : 0 ≤ T ∧ T ≤ 10000) (cs : List S85) (hcs : cs.length ≤ 10000) {row : Int} (hrow : row ≤ 10000) (hb : ∀ s ∈ cs, 0 ≤ s.f1 ∧ s.f1 ≤ row ∧ 0 ≤ s.f2 ∧ s.f2 + wdt s.f0 ≤ N) (d : Nat) : ∀ (k i : Nat) (G : List S75), i ≤ cs.length → cs.length - i = d → d + 20 < k → Gd R N G (fun r c => pnt (cs.take i) (T + r) c) →
    ∃ G', voL (R : Int) (N : Int) T k cs (i : Int) G = some G' ∧ Gd R N G' (fun r c => pnt cs (T + r) c) := by
  have hRN : R * N ≤ 24 * 80 := Nat.mul_le_mul hR.2 hN.2
  induction d with
  | zero =>
    intro k i G hi hd hk hG
    obtain ⟨k, rfl⟩ : ∃ m, k = m + 1 := ⟨k - 1, by omega⟩
    rw [voL, if_neg (by omega)]
    rw [List.take_of_length_le (by omega)] at hG
    exact ⟨G, rfl, hG⟩
  | succ d ih =>
    intro k i G hi hd hk hG
    obtain ⟨k, rfl⟩ : ∃ m, k = m + 1 := ⟨k - 1, by omega⟩
    have hlt : i < cs.length := by omega
    have hs := hb _ (mem_rd hlt)
    have htk := take_rd hlt
    rw [voL, if_pos (int_lt hlt), if_pos (int_nn i), impl_within.eq, wrap_in (x := T + R) (by omega) (by omega), wrap_in (x := T + R - 1) (by omega) (by omega), wrap_succ (by omega), Option.bind_some]
    generalize rd_T85 cs (i : Int) = s at hs htk
    obtain ⟨b1, b2, b3, b4⟩ := hs
    have hwt : 1 ≤ wdt s.f0 := by unfold wdt; split <;> omega
    by_cases c1 : T ≤ s.f1 ∧ s.f1 ≤ T + R - 1
    · obtain ⟨rr, hrr⟩ : ∃ rr : Nat, s.f1 = T + rr := ⟨(s.f1 - T).toNat, by omega⟩
      obtain ⟨cc, hcc⟩ : ∃ cc : Nat, s.f2 = cc := ⟨s.f2.toNat, by omega⟩
      have hr : rr < R := by omega
      have hc : cc < N := by omega
      have hlt2 := idx_lt hr hc
      have hK : voK N T s = ((rr * N + cc : Nat) : Int) := by
        unfold voK
        have e1 : (rr : Int) * (N : Int) = ((rr * N : Nat) : Int) := by rw [Int.natCast_mul]
        have hle : rr * N ≤ 24 * 80 := Nat.mul_le_mul (by omega) hN.2
        rw [hrr, hcc, show T + (rr : Int) - T = rr by omega, wrap_in (x := (rr : Int)) (by omega) (by omega), e1, wrap_in (x := ((rr * N : Nat) : Int)) (by omega) (by omega), wrap_in (by omega) (by omega)]
        omega
      rw [if_pos (decide_eq_true c1), hK, if_pos (by omega), if_pos (by rw [hG.1]; omega), impl_Cell_isWide.eq _ (by omega), Option.bind_some, Int.toNat_natCast]
      by_cases c2 : w2 s.f0 = true
      · have hw : wdt s.f0 = 2 := by unfold wdt; rw [if_pos c2]
        have hc2 : cc + 1 < N := by omega
        have hlt3 := idx_lt hr hc2
        rw [if_pos c2, wrap_in (x := ((rr * N + cc : Nat) : Int) + 1) (by omega) (by omega), if_pos (by omega), if_pos (by rw [hG.1]; omega), show (((rr * N + cc : Nat) : Int) + 1).toNat = rr * N + (cc + 1) by omega]
        refine ih k (i + 1) _ (by omega) (by omega) (by omega) (Gd_to (Gd_set (Gd_set hG hr hc s.f0) hr hc2 ⟨[], s.f0.f1⟩) ?_)
        intro r c hr' hc'
        rw [htk, pnt_snoc, put1, hrr, hcc]
        try dsimp only
        by_cases e1 : (r : Int) = rr ∧ (c : Int) = ((cc + 1 : Nat) : Int)
        · rw [if_pos e1, if_neg (by omega), if_pos ⟨c2, by omega, by omega⟩]
        · rw [if_neg e1]
          by_cases e2 : (r : Int) = rr ∧ (c : Int) = (cc : Int)
          · rw [if_pos e2, if_pos (by omega)]
          · rw [if_neg e2, if_neg (by omega), if_neg (fun g => e1 ⟨by omega, by omega⟩)]
      · rw [if_neg c2]
        refine ih k (i + 1) _ (by omega) (by omega) (by omega) (Gd_to (Gd_set hG hr hc s.f0) ?_)
        intro r c hr' hc'
        rw [htk, pnt_snoc, put1, hrr, hcc]
        try dsimp only
        by_cases e2 : (r : Int) = rr ∧ (c : Int) = (cc : Int)
        · rw [if_pos e2, if_pos (by omega)]
        · rw [if_neg e2, if_neg (by omega), if_neg (fun g => c2 g.1)]
    · rw [decide_eq_false c1, if_neg Bool.false_ne_true]
      refine ih k (i + 1) _ (by omega) (by omega) (by omega) (Gd_to hG ?_)
      intro r c hr' hc'
      rw [htk, pnt_snoc, put1, if_neg (by omega), if_neg (by omega)]
theorem voC_ok {R N : Nat} (hR : 1 ≤ R ∧ R ≤ 24) (hN : 2 ≤ N ∧ N ≤ 80) {T : Int} (hT : 0 ≤ T ∧ T ≤ 10000) {row col : Int} {cs : List S85} {inR : Bool} {rows : List (List S75)} (h : Sim N row col cs inR rows) {r : Nat} (hr : r < R) (hr2 : T + r < (rows.length : Int)) (d : Nat) : ∀ (k c : Nat) (G : List S75) (F : Int → Int → S75), c ≤ N → N - c = d → d + 20 < k → Gd R N G F →
    ∃ G', voC (N : Int) T (r : Int) rows k (c : Int) G = some G' ∧ Gd R N G' (fun r' c' => if r' = (r : Int) ∧ (c : Int) ≤ c' then pnt cs (T + r) c' else F r' c') := by
  have hRN : R * N ≤ 24 * 80 := Nat.mul_le_mul hR.2 hN.2
  induction d with
  | zero =>
    intro k c G F hc hd hk hG
    obtain ⟨k, rfl⟩ : ∃ m, k = m + 1 := ⟨k - 1, by omega⟩
    rw [voC, if_neg (by omega)]
    exact ⟨G, rfl, Gd_to hG (fun r' c' _ hc' => by rw [if_neg (by omega)])⟩
  | succ d ih =>
    intro k c G F hc hd hk hG
    obtain ⟨k, rfl⟩ : ∃ m, k = m + 1 := ⟨k - 1, by omega⟩
    have hcN : c < N := by omega
    have hlt := idx_lt hr hcN
    obtain ⟨tr, htr⟩ : ∃ tr : Nat, T + (r : Int) = tr := ⟨(T + r).toNat, by omega⟩
    have hp := h.hpt tr c (by omega) hcN
    have hln : (rd_L3 rows (tr : Int)).length = N := by
      unfold rd_L3
      rw [Int.toNat_natCast, List.getD_eq_getElem?_getD, List.getElem?_eq_getElem (by omega)]
      exact h.hsh _ (List.getElem_mem _)
    have hx : rd_T75 (rd_L3 rows (tr : Int)) (c : Int) = pnt cs (T + r) c := by
      unfold rd_T75 rd_L3
      rw [Int.toNat_natCast, Int.toNat_natCast, List.getD_eq_getElem?_getD (l := rows.getD tr []), hp, Option.getD_some, htr]
    have e1 : (r : Int) * (N : Int) = ((r * N : Nat) : Int) := by rw [Int.natCast_mul]
    have hle : r * N ≤ 24 * 80 := Nat.mul_le_mul (by omega) hN.2
    have hk2 : wrap64 (wrap64 ((r : Int) * N) + c) = ((r * N + c : Nat) : Int) := by
      rw [e1, wrap_in (x := ((r * N : Nat) : Int)) (by omega) (by omega), wrap_in (by omega) (by omega)]
      omega
    rw [voC, if_pos (int_lt hcN), hk2]
    clear hk2 e1
    rw [wrap_in (x := T + r) (by omega) (by omega), if_pos (by omega), if_pos hr2, htr, if_pos (by omega), hln, if_pos (by omega), if_pos (by omega), if_pos (by rw [hG.1]; omega), wrap_succ (by omega), Int.toNat_natCast, hx]
    obtain ⟨G', g1, g2⟩ := ih k (c + 1) _ _ (by omega) (by omega) (by omega) (Gd_set hG hr hcN (pnt cs (T + r) c))
    refine ⟨G', g1, Gd_to g2 ?_⟩
    intro r' c' hr' hc'
    by_cases e2 : (r' : Int) = r ∧ ((c + 1 : Nat) : Int) ≤ c'
    · rw [if_pos e2, if_pos ⟨e2.1, by omega⟩, htr]
    · rw [if_neg e2]
      by_cases e3 : (r' : Int) = r ∧ (c' : Int) = c
      · rw [if_pos e3, if_pos ⟨e3.1, by omega⟩, e3.2, htr]
      · rw [if_neg e3, if_neg (by omega)]
theorem voR_ok {R N : Nat} (hR : 1 ≤ R ∧ R ≤ 24) (hN : 2 ≤ N ∧ N ≤ 80) {T : Int} (hT : 0 ≤ T ∧ T ≤ 10000) {row col : Int} {cs : List S85} {inR : Bool} {rows : List (List S75)} (h : Sim N row col cs inR rows) (d : Nat) : ∀ (k r : Nat) (G : List S75), r ≤ R → R - r = d → d + 120 < k → Gd R N G (fun r' c' => if r' < (r : Int) then pnt cs (T + r') c' else z75) →
    ∃ G', voR (R : Int) (N : Int) T rows k (r : Int) G = some G' ∧ Gd R N G' (fun r' c' => pnt cs (T + r') c') := by
  have hle := h.hle
  have hab := pnt_above cs (fun s hs => (h.hbd s hs).2.1)
  induction d with
  | zero =>
    intro k r G hr hd hk hG
    obtain ⟨k, rfl⟩ : ∃ m, k = m + 1 := ⟨k - 1, by omega⟩
    rw [voR, if_neg (by omega)]
    exact ⟨G, rfl, Gd_to hG (fun r' c' hr' _ => by rw [if_pos (by omega)])⟩
  | succ d ih =>
    intro k r G hr hd hk hG
    obtain ⟨k, rfl⟩ : ∃ m, k = m + 1 := ⟨k - 1, by omega⟩
    rw [voR, if_pos (by omega), wrap_in (x := T + r) (by omega) (by omega)]
    by_cases c1 : T + r < (rows.length : Int)
    · obtain ⟨G2, g1, g2⟩ := voC_ok hR hN hT h (r := r) (by omega) c1 N k 0 G _ (by omega) (by omega) (by omega) hG
      rw [show ((0 : Nat) : Int) = 0 from rfl] at g1
      rw [if_pos c1, g1, Option.bind_some, wrap_succ (by omega)]
      refine ih k (r + 1) G2 (by omega) (by omega) (by omega) (Gd_to g2 ?_)
      intro r' c' hr' hc'
      by_cases e1 : (r' : Int) = r
      · rw [if_pos ⟨e1, by omega⟩, if_pos (by omega), e1]
      · rw [if_neg (fun g => e1 g.1)]
        by_cases e2 : (r' : Int) < r
        · rw [if_pos e2, if_pos (by omega)]
        · rw [if_neg e2, if_neg (by omega)]
    · rw [if_neg c1]
      refine ⟨G, rfl, Gd_to hG (fun r' c' hr' hc' => ?_)⟩
      by_cases e2 : (r' : Int) < r
      · rw [if_pos e2]
      · rw [if_neg e2, hab _ _ (by omega)]
theorem Gd_rep (R N : Nat) (cs : List S85) (T : Int) : Gd R N (List.replicate (R * N) z75) (fun _ _ => z75) :=
  ⟨by rw [List.length_replicate], fun r c hr hc => by have := idx_lt hr hc; simp [this]⟩
theorem laws_eqView.self {l : List S75} {a b r c : Int} {h : Bool} {t u v : Int} {k : Nat} (hl : l.length ≤ 1048576) (hL : ∀ x ∈ l, x.f0.length ≤ 1048576) (hk : 3000000 < k) : laws_eqView.f k a b l r c h t u v a b l r c h t u v = some true := by
  unfold laws_eqView.f
  rw [laws_eqGrid.eq hl hL hk]
  simp
theorem laws_markView.eq {l : List S75} {a b r c : Int} {h : Bool} {t u v x : Int} {k : Nat} (h1 : l.length ≤ 1048576) (h2 : szM l ≤ 1048576) (h0 : 0 ≤ x) (h3 : x ≤ 2000000000) (hk : 3000000 < k) : laws_markView.f k a b l r c h t u v x = some (x + (szM l : Int), mkC l x) := by
  unfold laws_markView.f laws_markGrid.f
  rw [laws_markCellS.eq h1 h2 h0 h3 hk]
  rfl
theorem laws_heldView.eq {l : List S75} {a b r c : Int} {h : Bool} {t u v x : Int} {k : Nat} (h1 : l.length ≤ 1048576) (h2 : szM l ≤ 1048576) (h0 : 0 ≤ x) (h3 : x ≤ 2000000000) (hk : 3000000 < k) : laws_heldView.f k a b (mkC l x) r c h t u v x = some (x + (szM l : Int)) := by
  unfold laws_heldView.f laws_heldGrid.f
  rw [laws_heldCellS.eq h1 h2 h0 h3 hk]
  simp only [Option.bind_some]
  rw [if_neg (by omega)]
  simp only [Option.bind_some]
  rw [if_neg (by omega)]
theorem spV_in (C : Int) (rc : Int × Int) : rc.1 ≤ (spV C rc).f0 ∧ (spV C rc).f0 ≤ rc.1 + 1 := by
  unfold spV
  split <;> dsimp only <;> omega
theorem trl_bd {C : Int} (hC : 2 ≤ C) (l : List Int) : ∀ rc : Int × Int, 0 ≤ rc.2 → rc.2 ≤ C → 0 ≤ rc.1 → ∀ x ∈ trl C l rc, 0 ≤ x.f0 ∧ x.f0 ≤ rc.1 + 2 * l.length + 1 := by
  induction l with
  | nil => intro rc _ _ _ x hx; cases hx
  | cons p l ih =>
    intro rc h0 h1 h2 x hx
    obtain ⟨g1, g2, g3, g4⟩ := ptP_ok hC p h0 h1
    rw [trl] at hx
    rw [List.length_cons]
    rcases List.mem_cons.1 hx with e | e
    · have := spV_in C (ptP C p rc)
      rw [e]
      omega
    · have := ih (ptP C p rc) g1 g2 (by omega) x e
      omega
theorem spots_bd {C : Int} (hC : 2 ≤ C) (l0 l1 : List Int) (h0 : l0.length ≤ 300) (h1 : l1.length ≤ 300) : ∀ x ∈ spV C (ptPL C l0 (0, 0)) :: trl C l1 (ptPL C l0 (0, 0)), 0 ≤ x.f0 ∧ x.f0 ≤ 2000 := by
  obtain ⟨b1, b2, b3, b4⟩ := ptPL_ok hC l0 (0, 0) (by simp) (by dsimp only; omega) (by simp)
  dsimp only at b3 b4
  intro x hx
  rcases List.mem_cons.1 hx with e | e
  · have := spV_in C (ptPL C l0 (0, 0))
    rw [e]
    omega
  · have := trl_bd hC l1 _ b1 b2 b3 x e
    omega
theorem top_eq {s R : Int} (h0 : 0 ≤ s ∧ s ≤ 2000) (h1 : 1 ≤ R ∧ R ≤ 24) : ∃ T, voTop s R = T ∧ spec_l01Max.f 0 (wrap64 (wrap64 (s - R) + 1)) = some T ∧ 0 ≤ T ∧ T ≤ 10000 := by
  unfold voTop spec_l01Max.f
  rw [wrap_in (x := s - R) (by omega) (by omega), wrap_in (x := s - R + 1) (by omega) (by omega)]
  by_cases c : s - R + 1 < 0
  · rw [if_pos c, if_pos (by omega)]
    exact ⟨0, rfl, rfl, by omega, by omega⟩
  · rw [if_neg c, if_neg (by omega)]
    exact ⟨_, rfl, rfl, by omega, by omega⟩
theorem ViewOf.eq (l0 l1 : List Int) (a1 a2 : Int) (region : Bool) (rows cols : Int) {k : Nat} (hk : 20000 < k) : ∃ v1 v2 v3 v4 v5 v6 v7 v8 v9, impl_ViewOf.f k l0 l1 a1 a2 region rows cols = some (v1, v2, v3, v4, v5, v6, v7, v8, v9) ∧ spec_ViewOf.f k l0 l1 a1 a2 region rows cols = some (v1, v2, v3, v4, v5, v6, v7, v8, v9) ∧ v3.length ≤ 1920 ∧ ∀ z ∈ v3, z.f0.length ≤ 4 := by
  have nil : ∀ z ∈ ([] : List S75), z.f0.length ≤ 4 := fun z hz => by cases hz
  unfold impl_ViewOf.f spec_ViewOf.f impl_isMany.f impl_isRows.f
  rw [Option.bind_some]
  by_cases h0 : 400 < (l0.length : Int)
  · rw [if_pos h0, if_pos (decide_eq_true h0)]
    exact ⟨_, _, _, _, _, _, _, _, _, rfl, rfl, Nat.zero_le _, nil⟩
  · rw [if_neg h0, decide_eq_false h0, if_neg Bool.false_ne_true, spec_PointsRight.eq l0 (by omega), Option.bind_some, spec_BufRight.eq l1 a1 a2 (by omega), spec_l08Size.eq, impl_isViewed.eq _ _ _ _ _ (by omega), impl_within.eq]
    simp only [Option.bind_some]
    by_cases hv : ptsOK l0 = true ∧ bufOK l1 a1 a2 = true ∧ (2 ≤ cols ∧ cols ≤ 80)
    · rw [if_pos (decide_eq_true hv), if_pos hv.1, if_pos hv.2.1]
      by_cases hr : 1 ≤ rows ∧ rows ≤ 24
      · rw [if_pos (decide_eq_true hr), if_pos (decide_eq_true ⟨hr, hv.2.2⟩)]
        obtain ⟨N, rfl⟩ : ∃ N : Nat, cols = (N : Int) := ⟨cols.toNat, by omega⟩
        obtain ⟨R, rfl⟩ : ∃ R : Nat, rows = (R : Int) := ⟨rows.toNat, by omega⟩
        have hN : 2 ≤ N ∧ N ≤ 80 := by omega
        have hR : 1 ≤ R ∧ R ≤ 24 := by omega
        obtain ⟨c0, c1, c2, c3, c4⟩ := bufOK_all hv.2.1
        have c5 := ptsOK_len hv.1
        obtain ⟨row', col', cs', inR', rows', e1, e2, e3, e4, e5⟩ := lyF_sim hN region l0 l1 a1 a2 (by omega) (by omega) (k := k) (by omega) c5 c0 (ptsOK_all hv.1) (ptsOK_all (bufOK_pts hv.2.1))
        have hsb := spots_bd (C := (N : Int)) (by omega) l0 l1 c5 c0
        have hsl : (spV (N : Int) (ptPL N l0 (0, 0)) :: trl N l1 (ptPL N l0 (0, 0))).length = l1.length + 1 := by rw [List.length_cons, trl_len]
        rw [e1, e2]
        generalize spV (N : Int) (ptPL N l0 (0, 0)) :: trl N l1 (ptPL N l0 (0, 0)) = SP at hsb hsl
        have hmem : rd_T45 SP a1 ∈ SP := by
          unfold rd_T45
          rw [List.getD_eq_getElem?_getD, List.getElem?_eq_getElem (by omega), Option.getD_some]
          exact List.getElem_mem _
        have hb := hsb _ hmem
        rw [impl_GridNew.eq, spec_GridNew.eq]
        simp only [Option.bind_some]
        rw [if_pos c1, if_pos (by omega), if_pos c1, if_pos (by omega)]
        generalize rd_T45 SP a1 = s at hb
        obtain ⟨T, t1, t2, t3⟩ := top_eq hb (R := (R : Int)) (by omega)
        rw [t1, t2, Option.bind_some]
        have eg : gnewV R N = ((R : Int), (N : Int), List.replicate (R * N) z75, 0, 0, false, 0) := by
          unfold gnewV
          rw [if_pos ⟨hr, hv.2.2⟩, show ((R : Int) * (N : Int)).toNat = R * N by rw [← Int.natCast_mul, Int.toNat_natCast]]
        rw [eg]
        dsimp only
        have hG0 := Gd_rep R N cs' T
        obtain ⟨G1, f1, f2⟩ := voL_ok hR hN t3 cs' (by omega) (row := row') (by omega) e3.hbd cs'.length k 0 _ (by omega) (by omega) (by omega) (Gd_to hG0 (fun r c _ _ => rfl))
        obtain ⟨G2, g1, g2⟩ := voR_ok hR hN t3 e3 R k 0 _ (by omega) (by omega) (by omega) (Gd_to hG0 (fun r c _ _ => by rw [if_neg (by omega)]))
        obtain rfl := Gd_ext f2 g2
        rw [show ((0 : Nat) : Int) = 0 from rfl] at f1 g1
        rw [f1, g1]
        refine ⟨_, _, _, _, _, _, _, _, _, rfl, rfl, ?_, ?_⟩
        · have := Nat.mul_le_mul hR.2 hN.2
          have := f2.1
          omega
        · intro z hz
          obtain ⟨j, hj, ej⟩ := List.mem_iff_getElem.1 hz
          obtain ⟨r, c, _, _, _, e⟩ := Gd_at_ f2 (j := j) (by rw [← f2.1]; exact hj)
          rw [List.getElem?_eq_getElem hj, ej] at e
          rw [Option.some.inj e]
          exact pnt_len cs' e3.hln _ _
      · rw [decide_eq_false hr, if_neg Bool.false_ne_true, if_neg (by rw [decide_eq_false (fun g => hr g.1)]; exact Bool.false_ne_true)]
        exact ⟨_, _, _, _, _, _, _, _, _, rfl, rfl, Nat.zero_le _, nil⟩
    · rw [decide_eq_false hv, if_neg Bool.false_ne_true]
      refine ⟨_, _, _, _, _, _, _, _, _, rfl, ?_, Nat.zero_le _, nil⟩
      by_cases h1 : ptsOK l0 = true
      · rw [if_pos h1]
        by_cases h2 : bufOK l1 a1 a2 = true
        · rw [if_pos h2, if_neg (by rw [decide_eq_false (fun g => hv ⟨h1, h2, g.2⟩)]; exact Bool.false_ne_true)]
        · rw [if_neg h2]
      · rw [if_neg h1]

theorem FnExactViewOf : laws_FnExactViewOf.Pure := by
  intro l0 l1 c m g a b ⟨hp, _⟩ ⟨⟨hl, _⟩, _, _⟩ _ _
  have hl := maxLen_le hl
  have hp := maxLen_le hp
  refine ⟨4000000, ?_⟩
  unfold laws_FnExactViewOf.f
  by_cases hp2 : (l0.length : Int) > 1048576
  · rw [if_pos hp2]
  rw [if_neg hp2, laws_szBuf.eq (by omega) (by omega) hl]
  simp only [Option.bind_some]
  by_cases h : (1048576 : Int) < (l1.length : Int)
  · rw [if_pos h, if_pos (by omega)]
  · obtain ⟨v1, v2, v3, v4, v5, v6, v7, v8, v9, e1, e2, e3, e4⟩ := ViewOf.eq l0 l1 c m g a b (k := 4000000) (by omega)
    have e5 : v3.length ≤ 1048576 := by omega
    have e6 : ∀ x ∈ v3, x.f0.length ≤ 1048576 := fun x hx => Nat.le_trans (e4 x hx) (by omega)
    have e7 : szM v3 ≤ 1048576 := by have := szM_le v3 e4; omega
    rw [if_neg h, if_neg (by omega), laws_toInt64S.eq (by omega) (by omega), laws_toBuf.eq (by omega) (by omega)]
    simp only [Option.bind_some]
    rw [e1, e2]
    simp only [Option.bind_some]
    rw [laws_eqView.self e5 e6 (by omega)]
    simp only [Option.bind_some, if_true]
    rw [laws_eqInt64S.eq (by omega) (by omega), laws_eqBuf.eq (by omega) (by omega), laws_markInt64S.eq (by omega) (by omega) (by omega) (by omega)]
    simp only [Option.bind_some, and_self, decide_true, if_true]
    rw [laws_markBuf.eq (by omega) (by omega) (by omega) (by omega)]
    simp only [Option.bind_some]
    rw [if_neg (by omega), laws_markView.eq e5 e7 (by omega) (by omega) (by omega)]
    simp only [Option.bind_some]
    rw [laws_heldView.eq e5 e7 (by omega) (by omega) (by omega)]
    simp only [Option.bind_some, if_true]
    rw [if_neg (by omega)]
    rw [if_neg (by omega)]

end Go.Proofs.Ytcjclihkaaaihaa.Pure
