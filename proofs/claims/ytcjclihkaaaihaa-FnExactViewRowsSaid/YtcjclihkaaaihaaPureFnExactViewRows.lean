/- Proved: the program's ViewRows returns what the reference's returns, for every prompt and buffer of at most 2^20 points and every number of columns, and leaves the prompt and the buffer as they were. -/
import Derived.Test.YtcjclihkaaaihaaPFnExactViewRowsx8
namespace Go.Proofs.Ytcjclihkaaaihaa.Pure
open Go.RowKit Go.Proofs.Ytcjclihkaaaihaa.PFnExactViewRows Go.Proofs.YtcjclihkaaaihaaW.PrintWords Go.Proofs.YtcjclihkaaaihaaW.PrintLast Go.Proofs.YtcjclihkaaaihaaW.PrintMore
set_option linter.unusedVariables false
set_option linter.unusedSimpArgs false

/-! ### plain words -/
theorem wrap_in {x : Int} (h0 : -9223372036854775808 ≤ x) (h1 : x ≤ 9223372036854775807) : wrap64 x = x := by unfold wrap64; omega
theorem wrap_succ {i : Nat} (h : i < 4611686018427387904) : wrap64 ((i : Int) + 1) = ((i + 1 : Nat) : Int) := by unfold wrap64; omega
theorem rd_nat (l : List Int) (i : Nat) : rd l (i : Int) = l.getD i 0 := by simp [rd]
theorem drop_rd {l : List Int} {i : Nat} (h : i < l.length) : l.drop i = rd l (i : Int) :: l.drop (i + 1) := by
  rw [rd_nat, List.drop_eq_getElem_cons h, List.getD_eq_getElem?_getD, List.getElem?_eq_getElem h]
  rfl
theorem int_lt {i n : Nat} (h : i < n) : (i : Int) < (n : Int) := by omega
theorem int_nn (i : Nat) : (0 : Int) ≤ (i : Int) := by omega
theorem maxLen_le {n : Nat} (h : n ≤ maxLen) : n ≤ 9223372036854775807 := by unfold maxLen at h; exact h
theorem some_b {a b : Bool} (h : a = true ↔ b = true) : some a = some b := congrArg some (Bool.eq_iff_iff.2 h)
def isPt (a : Int) : Bool := decide (0 ≤ a ∧ a ≤ 1114111 ∧ ¬ (55296 ≤ a ∧ a ≤ 57343))
def ptsOK (l : List Int) : Bool := decide (l.length ≤ 300) && l.all isPt
def bufOK (l : List Int) (c m : Int) : Bool := ptsOK l && decide (0 ≤ c ∧ c ≤ l.length) && decide (0 ≤ m ∧ m ≤ l.length)
def isCtl (a : Int) : Bool := decide (a < 32 ∨ a = 127)
def isWide2 (a : Int) : Bool := decide ((4352 ≤ a ∧ a ≤ 4447) ∨ (11904 ≤ a ∧ a ≤ 42191) ∨ (44032 ≤ a ∧ a ≤ 55203) ∨ (63744 ≤ a ∧ a ≤ 64255) ∨ (65281 ≤ a ∧ a ≤ 65376) ∨ (127744 ≤ a ∧ a ≤ 129791))
def wid (a : Int) : Int := if isPt a = true ∧ ¬ (768 ≤ a ∧ a ≤ 879) then (if isCtl a = true ∨ isWide2 a = true then 2 else 1) else 0
theorem ptsOK_len {l : List Int} (h : ptsOK l = true) : l.length ≤ 300 := by
  unfold ptsOK at h
  simp only [Bool.and_eq_true, decide_eq_true_eq] at h
  exact h.1
theorem bufOK_len {l : List Int} {c m : Int} (h : bufOK l c m = true) : l.length ≤ 300 := by
  unfold bufOK at h
  simp only [Bool.and_eq_true] at h
  exact ptsOK_len h.1.1
theorem laws_szInt64S.eq {l : List Int} {a : Int} (h0 : 0 ≤ a) (h1 : a ≤ 1048576) (hl : l.length ≤ 9223372036854775807) : laws_szInt64S.f l a = some (if a < (l.length : Int) then -1 else a - (l.length : Int)) := by
  unfold laws_szInt64S.f
  rw [wrap_in (by omega) (by omega)]
  by_cases h : a < (l.length : Int)
  · rw [if_pos (by omega), if_pos h]
  · rw [if_neg (by omega), if_neg h]
theorem laws_szBuf.eq {l : List Int} {a c m : Int} (h0 : 0 ≤ a) (h1 : a ≤ 1048576) (hl : l.length ≤ 9223372036854775807) : laws_szBuf.f l c m a = some (if a < (l.length : Int) then -1 else a - (l.length : Int)) := by
  unfold laws_szBuf.f
  rw [laws_szInt64S.eq h0 h1 hl]
  simp only [Option.bind_some]
  by_cases h : a < (l.length : Int)
  · rw [if_pos h, if_pos (by omega)]
  · rw [if_neg h, if_neg (by omega)]
theorem laws_toInt64S.loop (l : List Int) (hl : l.length ≤ 1048576) (d : Nat) : ∀ (k i : Nat), i ≤ l.length → l.length - i = d → d < k → laws_toInt64S.l0 k l (l.take i ++ List.replicate (l.length - i) 0) (i : Int) = some l := by
  induction d with
  | zero =>
    intro k i hi hd hk
    obtain ⟨k, rfl⟩ : ∃ m, k = m + 1 := ⟨k - 1, by omega⟩
    obtain rfl : i = l.length := by omega
    simp only [laws_toInt64S.l0]
    rw [if_neg (by omega)]
    simp
  | succ d ih =>
    intro k i hi hd hk
    obtain ⟨k, rfl⟩ : ∃ m, k = m + 1 := ⟨k - 1, by omega⟩
    have hlt : i < l.length := by omega
    simp only [laws_toInt64S.l0]
    rw [if_pos (int_lt hlt), if_pos (int_nn i), if_pos (by simp; omega), wrap_succ (by omega), Int.toNat_natCast]
    have hs : (l.take i ++ List.replicate (l.length - i) 0).set i (rd l (i : Int)) = l.take (i + 1) ++ List.replicate (l.length - (i + 1)) 0 := by
      have h1 : (l.take i).length = i := by simp; omega
      rw [List.set_append_right _ _ (by omega), h1, Nat.sub_self, show l.length - i = (l.length - (i + 1)) + 1 by omega, List.replicate_succ, List.set_cons_zero, List.take_succ_eq_append_getElem hlt, rd_nat, List.getD_eq_getElem?_getD, List.getElem?_eq_getElem hlt, List.append_assoc]
      rfl
    rw [hs]
    exact ih k (i + 1) (by omega) (by omega) (by omega)
theorem laws_toInt64S.eq {l : List Int} {k : Nat} (hl : l.length ≤ 1048576) (hk : l.length < k) : laws_toInt64S.f k l = some l := by
  unfold laws_toInt64S.f
  rw [if_pos (by omega), if_pos (by omega), Int.toNat_natCast]
  have := laws_toInt64S.loop l hl l.length k 0 (by omega) (by omega) hk
  simpa using this
theorem laws_toBuf.eq {l : List Int} {c m : Int} {k : Nat} (hl : l.length ≤ 1048576) (hk : l.length < k) : laws_toBuf.f k l c m = some (l, c, m) := by
  unfold laws_toBuf.f
  rw [laws_toInt64S.eq hl hk]
  rfl
theorem laws_eqInt64S.loop (a b : List Int) (hab : a.length = b.length) (hl : a.length ≤ 1048576) (d : Nat) : ∀ (k i : Nat), i ≤ a.length → a.length - i = d → d < k → laws_eqInt64S.l0 k a b (i : Int) = some (decide (a.drop i = b.drop i)) := by
  induction d with
  | zero =>
    intro k i hi hd hk
    obtain ⟨k, rfl⟩ : ∃ m, k = m + 1 := ⟨k - 1, by omega⟩
    simp only [laws_eqInt64S.l0]
    rw [if_neg (by omega), List.drop_eq_nil_of_le (by omega), List.drop_eq_nil_of_le (by omega)]
    rfl
  | succ d ih =>
    intro k i hi hd hk
    obtain ⟨k, rfl⟩ : ∃ m, k = m + 1 := ⟨k - 1, by omega⟩
    have hlt : i < a.length := by omega
    simp only [laws_eqInt64S.l0]
    rw [if_pos (int_lt hlt), if_pos (int_nn i), if_pos (by omega), wrap_succ (by omega), ih k (i + 1) (by omega) (by omega) (by omega), drop_rd hlt, drop_rd (show i < b.length by omega)]
    by_cases h : rd a (i : Int) = rd b (i : Int)
    · rw [if_pos h, h]
      simp
    · rw [if_neg h]
      simp [h]
theorem laws_eqInt64S.eq {a b : List Int} {k : Nat} (hl : a.length ≤ 1048576) (hk : a.length < k) : laws_eqInt64S.f k a b = some (decide (a = b)) := by
  unfold laws_eqInt64S.f
  by_cases h : a.length = b.length
  · rw [if_pos (by omega)]
    have := laws_eqInt64S.loop a b h hl a.length k 0 (by omega) (by omega) hk
    simpa using this
  · rw [if_neg (by omega)]
    refine congrArg some (decide_eq_false (fun e => h (by rw [e]))).symm
theorem laws_eqBuf.eq {a b : List Int} {c m c' m' : Int} {k : Nat} (hl : a.length ≤ 1048576) (hk : a.length < k) : laws_eqBuf.f k a c m b c' m' = some (decide (a = b ∧ c = c' ∧ m = m')) := by
  unfold laws_eqBuf.f
  rw [laws_eqInt64S.eq hl hk]
  simp only [Option.bind_some, decide_eq_true_eq]
  by_cases h1 : a = b
  · by_cases h2 : c = c'
    · by_cases h3 : m = m'
      · simp [h1, h2, h3]
      · simp [h1, h2, h3]
    · simp [h1, h2]
  · simp [h1]
theorem impl_within.eq (a b c : Int) : impl_within.f a b c = some (decide (b ≤ a ∧ a ≤ c)) := by
  unfold impl_within.f
  by_cases h : b ≤ a <;> simp [h]
theorem impl_isPoint.eq (a : Int) : impl_isPoint.f a = some (isPt a) := by
  simp only [impl_isPoint.f, impl_within.eq, Option.bind_some, isPt, decide_eq_true_eq]
  split <;> (refine some_b ?_; simp only [Bool.not_eq_true', decide_eq_true_eq, decide_eq_false_iff_not, Bool.false_eq_true]; first | omega | (rw [false_iff]; omega))
theorem impl_isControl.eq (a : Int) : impl_isControl.f a = some (isCtl a) := by
  unfold impl_isControl.f isCtl
  by_cases h : a < 32
  · simp [h]
  · by_cases h2 : a = 127 <;> simp [h, h2]
def widTab : List S120 := [(⟨4352, 4447⟩ : S120), (⟨11904, 42191⟩ : S120), (⟨44032, 55203⟩ : S120), (⟨63744, 64255⟩ : S120), (⟨65281, 65376⟩ : S120), (⟨127744, 129791⟩ : S120)]
theorem impl_WidthOf.step (k : Nat) (a : Int) (i : Nat) (hi : i < 6) : impl_WidthOf.l0 (k + 1) a widTab 6 (i : Int) = if (rd_T120 widTab (i : Int)).f0 ≤ a ∧ a ≤ (rd_T120 widTab (i : Int)).f1 then some 2 else impl_WidthOf.l0 k a widTab 6 ((i + 1 : Nat) : Int) := by
  rw [impl_WidthOf.l0, if_pos (by omega), if_pos (by omega), if_pos (show (i : Int) < (widTab.length : Int) by show (i : Int) < ((6 : Nat) : Int); omega), impl_within.eq, wrap_succ (by omega)]
  simp only [Option.bind_some, decide_eq_true_eq]
theorem impl_WidthOf.loop (k : Nat) (a : Int) : impl_WidthOf.l0 (k + 7) a widTab 6 0 = some (if isWide2 a = true then 2 else 1) := by
  have e0 := impl_WidthOf.step (k + 6) a 0 (by decide)
  have e1 := impl_WidthOf.step (k + 5) a 1 (by decide)
  have e2 := impl_WidthOf.step (k + 4) a 2 (by decide)
  have e3 := impl_WidthOf.step (k + 3) a 3 (by decide)
  have e4 := impl_WidthOf.step (k + 2) a 4 (by decide)
  have e5 := impl_WidthOf.step (k + 1) a 5 (by decide)
  have e6 : impl_WidthOf.l0 (k + 1) a widTab 6 ((5 + 1 : Nat) : Int) = some 1 := by
    rw [impl_WidthOf.l0, if_neg (by decide)]
  rw [e6] at e5; rw [e5] at e4; rw [e4] at e3; rw [e3] at e2; rw [e2] at e1; rw [e1] at e0
  refine (show impl_WidthOf.l0 (k + 7) a widTab 6 0 = _ from e0).trans ?_
  show (if (4352 : Int) ≤ a ∧ a ≤ 4447 then some (2 : Int) else if (11904 : Int) ≤ a ∧ a ≤ 42191 then some 2 else if (44032 : Int) ≤ a ∧ a ≤ 55203 then some 2 else if (63744 : Int) ≤ a ∧ a ≤ 64255 then some 2 else if (65281 : Int) ≤ a ∧ a ≤ 65376 then some 2 else if (127744 : Int) ≤ a ∧ a ≤ 129791 then some 2 else some 1) = _
  unfold isWide2
  simp only [decide_eq_true_eq]
  (repeat' split) <;> first | rfl | omega
theorem impl_WidthOf.eq (a : Int) {k : Nat} (hk : 8 < k) : impl_WidthOf.f k a = some (wid a) := by
  obtain ⟨k, rfl⟩ : ∃ m, k = m + 8 := ⟨k - 8, by omega⟩
  have hj : ∀ b : Bool, impl_WidthOf.j0 (k + 8) a b = some (if b = true then 0 else if isCtl a = true ∨ isWide2 a = true then 2 else 1) := by
    intro b
    cases b
    · rw [impl_WidthOf.j0, if_neg (by decide), impl_isControl.eq]
      simp only [Option.bind_some, Bool.false_eq_true, if_false]
      have hl := impl_WidthOf.loop k a
      cases isCtl a
      · rw [if_neg (by decide)]
        refine Eq.trans (show _ = impl_WidthOf.l0 (k + 7) a widTab 6 0 from rfl) ?_
        rw [hl]
        simp
      · rfl
    · rw [impl_WidthOf.j0]
      rfl
  unfold impl_WidthOf.f wid
  rw [impl_isPoint.eq]
  simp only [Option.bind_some, impl_within.eq, hj, decide_eq_true_eq]
  by_cases h1 : isPt a = true
  · by_cases h2 : 768 ≤ a ∧ a ≤ 879
    · simp [h1, h2]
    · simp [h1, h2]
  · simp [h1]
theorem spec_l01Point.eq (a : Int) : spec_l01Point.f a = some (isPt a) := by
  simp only [spec_l01Point.f, isPt]
  (repeat' split) <;> (refine some_b ?_; simp only [Bool.not_eq_true', Bool.not_false, decide_eq_true_eq, decide_eq_false_iff_not, Bool.false_eq_true]; first | omega | (rw [false_iff]; omega) | (rw [true_iff]; omega))
set_option maxHeartbeats 4000000 in
theorem spec_WidthOf.eq (a : Int) {k : Nat} (hk : 0 < k) : spec_WidthOf.f k a = some (wid a) := by
  obtain ⟨k, rfl⟩ : ∃ m, k = m + 1 := ⟨k - 1, by omega⟩
  have hj : ∀ b : Bool, spec_WidthOf.j0 (k + 1) a b = some (if b = true then 0 else if isCtl a = true ∨ isWide2 a = true then 2 else 1) := by
    intro b
    cases b
    · simp only [spec_WidthOf.j0, isCtl, isWide2, decide_eq_true_eq, Bool.false_eq_true, if_false]
      rcases (by omega : a < 32 ∨ (32 ≤ a ∧ a < 127) ∨ a = 127 ∨ (127 < a ∧ a < 4352) ∨ (4352 ≤ a ∧ a ≤ 4447) ∨ (4447 < a ∧ a < 11904) ∨ (11904 ≤ a ∧ a ≤ 42191) ∨ (42191 < a ∧ a < 44032) ∨ (44032 ≤ a ∧ a ≤ 55203) ∨ (55203 < a ∧ a < 63744) ∨ (63744 ≤ a ∧ a ≤ 64255) ∨ (64255 < a ∧ a < 65281) ∨ (65281 ≤ a ∧ a ≤ 65376) ∨ (65376 < a ∧ a < 127744) ∨ (127744 ≤ a ∧ a ≤ 129791) ∨ 129791 < a) with h | h | h | h | h | h | h | h | h | h | h | h | h | h | h | h <;> simp (disch := omega) only [if_pos, if_neg]
    · rfl
  unfold spec_WidthOf.f wid
  rw [spec_l01Point.eq]
  simp only [Option.bind_some, hj]
  by_cases h1 : isPt a = true
  · by_cases h2 : 768 ≤ a
    · by_cases h3 : a ≤ 879
      · simp [h1, h2, h3]
      · simp [h1, h2, h3]
    · simp [h1, h2]
  · simp [h1]
theorem spec_PointsRight.loop (l : List Int) (hl : l.length ≤ 300) (d : Nat) : ∀ (k i : Nat), i ≤ l.length → l.length - i = d → d < k → spec_PointsRight.l0 k l (i : Int) = some ((l.drop i).all isPt) := by
  induction d with
  | zero =>
    intro k i hi hd hk
    obtain ⟨k, rfl⟩ : ∃ m, k = m + 1 := ⟨k - 1, by omega⟩
    simp only [spec_PointsRight.l0]
    rw [if_neg (by omega), List.drop_eq_nil_of_le (by omega)]
    rfl
  | succ d ih =>
    intro k i hi hd hk
    obtain ⟨k, rfl⟩ : ∃ m, k = m + 1 := ⟨k - 1, by omega⟩
    have hlt : i < l.length := by omega
    simp only [spec_PointsRight.l0]
    rw [if_pos (int_lt hlt), if_pos (int_nn i), spec_l01Point.eq, wrap_succ (by omega), ih k (i + 1) (by omega) (by omega) (by omega), drop_rd hlt]
    simp only [Option.bind_some, List.all_cons]
    cases isPt (rd l (i : Int)) <;> simp
theorem spec_PointsRight.eq (l : List Int) {k : Nat} (hk : 300 < k) : spec_PointsRight.f k l = some (ptsOK l) := by
  unfold spec_PointsRight.f ptsOK
  by_cases h : l.length ≤ 300
  · rw [if_neg (by omega)]
    have := spec_PointsRight.loop l h l.length k 0 (by omega) (by omega) (by omega)
    simp only [h, decide_true, Bool.true_and]
    simpa using this
  · rw [if_pos (by omega)]
    simp [h]
theorem wid_in (a : Int) : 0 ≤ wid a ∧ wid a ≤ 2 := by
  unfold wid
  split
  · split <;> omega
  · omega
theorem slices_IndexFunc_sint64_int64.loop (l : List Int) (hl : l.length ≤ 300) (d : Nat) : ∀ (k i : Nat), i ≤ l.length → l.length - i = d → d < k → ∃ r : Int, slices_IndexFunc_sint64_int64.l0 k l (l.length : Int) (i : Int) = some r ∧ (0 ≤ r ↔ (l.drop i).all isPt = false) := by
  induction d with
  | zero =>
    intro k i hi hd hk
    obtain ⟨k, rfl⟩ : ∃ m, k = m + 1 := ⟨k - 1, by omega⟩
    refine ⟨-1, ?_, ?_⟩
    · simp only [slices_IndexFunc_sint64_int64.l0]
      rw [if_neg (by omega)]
    · rw [List.drop_eq_nil_of_le (by omega)]
      simp
  | succ d ih =>
    intro k i hi hd hk
    obtain ⟨k, rfl⟩ : ∃ m, k = m + 1 := ⟨k - 1, by omega⟩
    have hlt : i < l.length := by omega
    have hp : impl_PointsRight_1.f (rd l (i : Int)) = some (!isPt (rd l (i : Int))) := by
      unfold impl_PointsRight_1.f
      rw [impl_isPoint.eq]
      rfl
    simp only [slices_IndexFunc_sint64_int64.l0]
    rw [if_pos (int_lt hlt), if_pos (int_nn i), if_pos (int_lt hlt), hp, wrap_succ (by omega), drop_rd hlt]
    simp only [Option.bind_some, List.all_cons]
    cases isPt (rd l (i : Int))
    · exact ⟨i, by simp, by simp⟩
    · simpa using ih k (i + 1) (by omega) (by omega) (by omega)
theorem impl_PointsRight.eq (l : List Int) {k : Nat} (hk : 300 < k) : impl_PointsRight.f k l = some (ptsOK l) := by
  unfold impl_PointsRight.f ptsOK
  by_cases h : l.length ≤ 300
  · rw [if_pos (by omega)]
    obtain ⟨r, h1, h2⟩ := slices_IndexFunc_sint64_int64.loop l h l.length k 0 (by omega) (by omega) (by omega)
    unfold slices_ContainsFunc_sint64_int64.f slices_IndexFunc_sint64_int64.f
    rw [show ((0 : Nat) : Int) = 0 from rfl] at h1
    rw [h1]
    simp only [Option.bind_some, h, decide_true, Bool.true_and]
    rw [List.drop_zero] at h2
    refine some_b ?_
    cases hq : l.all isPt
    · have := h2.2 hq; simp; omega
    · have : ¬ 0 ≤ r := fun h3 => by rw [h2.1 h3] at hq; cases hq
      simp; omega
  · rw [if_neg (by omega)]
    simp [h]
def shw (a : Int) : List Int := if isCtl a = true then [94, Go.bits .xor .i64 a 64] else [a]
theorem shw_len (a : Int) : (shw a).length ≤ 2 := by
  unfold shw
  split <;> simp
theorem impl_shown.eq (a : Int) : impl_shown.f a = some (shw a) := by
  unfold impl_shown.f shw
  rw [impl_isControl.eq]
  simp only [Option.bind_some]
  split <;> rfl
theorem spec_l01Copy.eq {l : List Int} (h : l.length ≤ 2000000) : spec_l01Copy.f l = some l := by
  unfold spec_l01Copy.f
  simp only [Option.bind_some, List.length_nil, List.nil_append]
  rw [if_pos (by omega)]
theorem impl_Buf_isPlace.eq (l : List Int) (c m a : Int) : impl_Buf_isPlace.f l c m a = some (decide (0 ≤ a ∧ a ≤ l.length)) := by
  simp only [impl_Buf_isPlace.f, impl_size_int64.f, impl_within.eq, Option.bind_some]
theorem impl_BufRight.eq (l : List Int) (c m : Int) {k : Nat} (hk : 300 < k) : impl_BufRight.f k l c m = some (bufOK l c m) := by
  unfold impl_BufRight.f bufOK
  rw [impl_PointsRight.eq l hk]
  simp only [Option.bind_some, impl_Buf_isPlace.eq]
  cases ptsOK l
  · simp
  · simp only [if_true, Bool.true_and]
    by_cases h : 0 ≤ c ∧ c ≤ (l.length : Int) <;> simp [h]
theorem spec_BufRight.eq (l : List Int) (c m : Int) {k : Nat} (hk : 300 < k) : spec_BufRight.f k l c m = some (bufOK l c m) := by
  unfold spec_BufRight.f bufOK
  rw [spec_PointsRight.eq l hk]
  simp only [Option.bind_some]
  cases ptsOK l
  · simp
  · simp only [if_true, Bool.true_and]
    (repeat' split) <;> (refine some_b ?_; simp only [Bool.and_eq_true, decide_eq_true_eq, Bool.false_eq_true]; first | omega | (rw [false_iff]; omega))
/-! ### laying out: where the next point comes -/
def stp (C : Int) (rc : Int × Int) (w : Int) : Int × Int := if w = 0 then rc else if C - rc.2 < w then (rc.1 + 1, w) else (rc.1, rc.2 + w)
def stpL (C : Int) : List Int → Int × Int → Int × Int
  | [], rc => rc
  | p :: l, rc => stpL C l (stp C rc (wid p))
def ptP (C p : Int) (rc : Int × Int) : Int × Int := if p = 10 then (rc.1 + 1, 0) else stpL C (shw p) rc
def ptPL (C : Int) : List Int → Int × Int → Int × Int
  | [], rc => rc
  | p :: l, rc => ptPL C l (ptP C p rc)
def spV (C : Int) (rc : Int × Int) : S45 := if rc.2 = C then ⟨rc.1 + 1, 0⟩ else ⟨rc.1, rc.2⟩
def trl (C : Int) : List Int → Int × Int → List S45
  | [], _ => []
  | p :: l, rc => spV C (ptP C p rc) :: trl C l (ptP C p rc)
theorem trl_len (C : Int) (l : List Int) : ∀ rc, (trl C l rc).length = l.length := by
  induction l with
  | nil => intro rc; rfl
  | cons p l ih => intro rc; simp [trl, ih]
theorem stp_ok {C : Int} {rc : Int × Int} {w : Int} (hw : 0 ≤ w ∧ w ≤ 2) (hC : 2 ≤ C) (h0 : 0 ≤ rc.2) (h1 : rc.2 ≤ C) : 0 ≤ (stp C rc w).2 ∧ (stp C rc w).2 ≤ C ∧ rc.1 ≤ (stp C rc w).1 ∧ (stp C rc w).1 ≤ rc.1 + 1 := by
  unfold stp
  by_cases c1 : w = 0
  · rw [if_pos c1]; exact ⟨h0, h1, Int.le_refl _, by omega⟩
  · rw [if_neg c1]
    by_cases c2 : C - rc.2 < w
    · rw [if_pos c2]; refine ⟨?_, ?_, ?_, ?_⟩ <;> dsimp only <;> omega
    · rw [if_neg c2]; refine ⟨?_, ?_, ?_, ?_⟩ <;> dsimp only <;> omega
theorem stpL_ok {C : Int} (hC : 2 ≤ C) (l : List Int) : ∀ {rc : Int × Int}, 0 ≤ rc.2 → rc.2 ≤ C → 0 ≤ (stpL C l rc).2 ∧ (stpL C l rc).2 ≤ C ∧ rc.1 ≤ (stpL C l rc).1 ∧ (stpL C l rc).1 ≤ rc.1 + l.length := by
  induction l with
  | nil => intro rc h0 h1; exact ⟨h0, h1, Int.le_refl _, by simp [stpL]⟩
  | cons p l ih =>
    intro rc h0 h1
    obtain ⟨g1, g2, g3, g4⟩ := stp_ok (wid_in p) hC h0 h1
    obtain ⟨f1, f2, f3, f4⟩ := ih g1 g2
    rw [stpL, List.length_cons]
    exact ⟨f1, f2, by omega, by omega⟩
theorem ptP_ok {C : Int} (hC : 2 ≤ C) (p : Int) {rc : Int × Int} (h0 : 0 ≤ rc.2) (h1 : rc.2 ≤ C) : 0 ≤ (ptP C p rc).2 ∧ (ptP C p rc).2 ≤ C ∧ rc.1 ≤ (ptP C p rc).1 ∧ (ptP C p rc).1 ≤ rc.1 + 2 := by
  unfold ptP
  by_cases c1 : p = 10
  · rw [if_pos c1]; refine ⟨?_, ?_, ?_, ?_⟩ <;> dsimp only <;> omega
  · rw [if_neg c1]
    obtain ⟨g1, g2, g3, g4⟩ := stpL_ok hC (shw p) h0 h1
    have := shw_len p
    exact ⟨g1, g2, g3, by omega⟩
theorem ptPL_ok {C : Int} (hC : 2 ≤ C) (l : List Int) : ∀ (rc : Int × Int), 0 ≤ rc.2 → rc.2 ≤ C → 0 ≤ rc.1 → 0 ≤ (ptPL C l rc).2 ∧ (ptPL C l rc).2 ≤ C ∧ rc.1 ≤ (ptPL C l rc).1 ∧ (ptPL C l rc).1 ≤ rc.1 + 2 * l.length := by
  induction l with
  | nil => intro rc g0 g1 g2; exact ⟨g0, g1, Int.le_refl _, by simp [ptPL]⟩
  | cons p l ih =>
    intro rc g0 g1 g2
    obtain ⟨f1, f2, f3, f4⟩ := ptP_ok hC p g0 g1
    obtain ⟨e1, e2, e3, e4⟩ := ih (ptP C p rc) f1 f2 (by omega)
    rw [ptPL, List.length_cons]
    exact ⟨e1, e2, by omega, by omega⟩
/-! the program's layout -/
theorem ptL_ok {attr C : Int} (hC : 2 ≤ C ∧ C ≤ 80) (l : List Int) (hl : l.length ≤ 10) (d : Nat) : ∀ (k i : Nat) (row col : Int) (cs : List S85) (inR : Bool), i ≤ l.length → l.length - i = d → d + 20 < k → 0 ≤ row → row + d ≤ 100000 → 0 ≤ col → col ≤ C → cs.length + d ≤ 1000000 → (inR = true → 0 < cs.length) →
    ∃ cs' inR', ptL k attr l (i : Int) C row col cs inR = some ((stpL C (l.drop i) (row, col)).1, (stpL C (l.drop i) (row, col)).2, cs', inR') ∧ cs'.length ≤ cs.length + d ∧ (inR' = true → 0 < cs'.length) := by
  induction d with
  | zero =>
    intro k i row col cs inR hi hd hk h0 h1 h2 h3 h4 h5
    obtain ⟨k, rfl⟩ : ∃ m, k = m + 1 := ⟨k - 1, by omega⟩
    rw [ptL, if_neg (by omega), List.drop_eq_nil_of_le (by omega)]
    exact ⟨cs, inR, rfl, by omega, h5⟩
  | succ d ih =>
    intro k i row col cs inR hi hd hk h0 h1 h2 h3 h4 h5
    obtain ⟨k, rfl⟩ : ∃ m, k = m + 1 := ⟨k - 1, by omega⟩
    have hlt : i < l.length := by omega
    rw [ptL, if_pos (int_lt hlt), if_pos (int_nn i), impl_WidthOf.eq _ (by omega), wrap_succ (by omega), drop_rd hlt]
    rw [Option.bind_some, stpL]
    have hw := wid_in (rd l (i : Int))
    generalize wid (rd l (i : Int)) = wd at hw
    obtain ⟨g1, g2, g3, g4⟩ := stp_ok (rc := (row, col)) hw hC.1 h2 h3
    by_cases c1 : wd = 0
    · have hst : stp C (row, col) wd = (row, col) := by unfold stp; rw [if_pos c1]
      rw [if_pos c1, hst]
      cases inR with
      | false =>
        rw [if_neg Bool.false_ne_true]
        obtain ⟨cs', in', e1, e2, e3⟩ := ih k (i + 1) row col cs false (by omega) (by omega) (by omega) h0 (by omega) h2 h3 (by omega) h5
        exact ⟨cs', in', e1, by omega, e3⟩
      | true =>
        rw [if_pos rfl, if_pos ⟨h5 rfl, by omega⟩]
        split
        · exact Exists.imp (fun cs' => Exists.imp fun in' h => ⟨h.1, by have := h.2.1; rw [List.length_set] at this; omega, h.2.2⟩) (ih k (i + 1) row col _ true (by omega) (by omega) (by omega) h0 (by omega) h2 h3 (by rw [List.length_set]; omega) (fun _ => by rw [List.length_set]; exact h5 rfl))
        · obtain ⟨cs', in', e1, e2, e3⟩ := ih k (i + 1) row col cs true (by omega) (by omega) (by omega) h0 (by omega) h2 h3 (by omega) h5
          exact ⟨cs', in', e1, by omega, e3⟩
    · rw [if_neg c1, if_pos (by omega), wrap_in (by omega) (by omega)]
      by_cases c2 : C - col < wd
      · have hst : stp C (row, col) wd = (row + 1, wd) := by unfold stp; rw [if_neg c1, if_pos c2]
        rw [if_pos c2, hst, wrap_in (by omega) (by omega), wrap_in (by omega) (by omega)]
        exact Exists.imp (fun cs' => Exists.imp fun in' h => ⟨h.1, by have := h.2.1; rw [List.length_append, List.length_singleton] at this; omega, h.2.2⟩) (ih k (i + 1) (row + 1) wd _ true (by omega) (by omega) (by omega) (by omega) (by omega) (by omega) (by omega) (by rw [List.length_append, List.length_singleton]; omega) (fun _ => by rw [List.length_append, List.length_singleton]; omega))
      · have hst : stp C (row, col) wd = (row, col + wd) := by unfold stp; rw [if_neg c1, if_neg c2]
        rw [if_neg c2, hst, wrap_in (by omega) (by omega)]
        exact Exists.imp (fun cs' => Exists.imp fun in' h => ⟨h.1, by have := h.2.1; rw [List.length_append, List.length_singleton] at this; omega, h.2.2⟩) (ih k (i + 1) row (col + wd) _ true (by omega) (by omega) (by omega) (by omega) (by omega) (by omega) (by omega) (by rw [List.length_append, List.length_singleton]; omega) (fun _ => by rw [List.length_append, List.length_singleton]; omega))
theorem ptF_ok {attr C : Int} (hC : 2 ≤ C ∧ C ≤ 80) (p : Int) {k : Nat} {row col : Int} {cs : List S85} {inR : Bool} (hk : 40 < k) (h0 : 0 ≤ row) (h1 : row ≤ 90000) (h2 : 0 ≤ col) (h3 : col ≤ C) (h4 : cs.length ≤ 900000) (h5 : inR = true → 0 < cs.length) :
    ∃ cs' inR', ptF k p attr C row col cs inR = some ((ptP C p (row, col)).1, (ptP C p (row, col)).2, cs', inR') ∧ cs'.length ≤ cs.length + 2 ∧ (inR' = true → 0 < cs'.length) := by
  unfold ptF ptP
  by_cases c1 : p = 10
  · rw [if_pos c1, if_pos c1, wrap_in (by omega) (by omega)]
    exact ⟨cs, false, rfl, by omega, fun h => absurd h (by simp)⟩
  · have hs := shw_len p
    rw [if_neg c1, if_neg c1, impl_shown.eq, Option.bind_some]
    obtain ⟨cs', in', e1, e2, e3⟩ := ptL_ok (attr := attr) hC (shw p) (by omega) (shw p).length k 0 row col cs inR (by omega) (by omega) (by omega) h0 (by omega) h2 h3 (by omega) h5
    exact ⟨cs', in', e1, by omega, e3⟩
theorem lyA_ok {C : Int} (hC : 2 ≤ C ∧ C ≤ 80) (l : List Int) (hl : l.length ≤ 300) (d : Nat) : ∀ (k i : Nat) (row col : Int) (cs : List S85) (inR : Bool), i ≤ l.length → l.length - i = d → d + 60 < k → 0 ≤ row → row + 2 * d ≤ 2000 → 0 ≤ col → col ≤ C → cs.length + 2 * d ≤ 2000 → (inR = true → 0 < cs.length) →
    ∃ cs' inR', lyA C k l (i : Int) row col cs inR = some ((ptPL C (l.drop i) (row, col)).1, (ptPL C (l.drop i) (row, col)).2, cs', inR') ∧ cs'.length ≤ cs.length + 2 * d ∧ (inR' = true → 0 < cs'.length) := by
  induction d with
  | zero =>
    intro k i row col cs inR hi hd hk h0 h1 h2 h3 h4 h5
    obtain ⟨k, rfl⟩ : ∃ m, k = m + 1 := ⟨k - 1, by omega⟩
    rw [lyA, if_neg (by omega), List.drop_eq_nil_of_le (by omega)]
    exact ⟨cs, inR, rfl, by omega, h5⟩
  | succ d ih =>
    intro k i row col cs inR hi hd hk h0 h1 h2 h3 h4 h5
    obtain ⟨k, rfl⟩ : ∃ m, k = m + 1 := ⟨k - 1, by omega⟩
    have hlt : i < l.length := by omega
    obtain ⟨cs1, in1, e1, e2, e3⟩ := ptF_ok (attr := 0) hC (rd l (i : Int)) (k := k) (row := row) (col := col) (cs := cs) (inR := inR) (by omega) h0 (by omega) h2 h3 (by omega) h5
    obtain ⟨g1, g2, g3, g4⟩ := ptP_ok hC.1 (rd l (i : Int)) (rc := (row, col)) h2 h3
    rw [lyA, if_pos (int_lt hlt), if_pos (int_nn i), e1, wrap_succ (by omega), drop_rd hlt, ptPL]
    rw [Option.bind_some]
    dsimp only at g3 g4 ⊢
    obtain ⟨cs', in', f1, f2, f3⟩ := ih k (i + 1) (ptP C (rd l (i : Int)) (row, col)).1 (ptP C (rd l (i : Int)) (row, col)).2 cs1 in1 (by omega) (by omega) (by omega) (by omega) (by omega) g1 g2 (by omega) e3
    exact ⟨cs', in', f1, by omega, f3⟩
theorem lspot_eq {C row col : Int} (cs : List S85) (inR : Bool) (sp : List S45) (h0 : 0 ≤ row) (h1 : row ≤ 90000) : impl_layout_spot.f C row col cs inR sp = some ((spV C (row, col)).f0, (spV C (row, col)).f1) := by
  unfold impl_layout_spot.f spV
  by_cases c1 : col = C
  · rw [if_pos c1, if_pos c1, wrap_in (by omega) (by omega)]
  · rw [if_neg c1, if_neg c1]
theorem lyB_ok {C : Int} (hC : 2 ≤ C ∧ C ≤ 80) (region : Bool) (fr tw : Int) (l : List Int) (hl : l.length ≤ 300) (d : Nat) : ∀ (k i : Nat) (row col : Int) (cs : List S85) (inR : Bool) (sp : List S45), i ≤ l.length → l.length - i = d → d + 60 < k → 0 ≤ row → row + 2 * d ≤ 4000 → 0 ≤ col → col ≤ C → cs.length + 2 * d ≤ 4000 → (inR = true → 0 < cs.length) → sp.length + d ≤ 4000 →
    ∃ cs' inR' sp', lyB C region fr tw k l (i : Int) row col cs inR sp = some ((ptPL C (l.drop i) (row, col)).1, (ptPL C (l.drop i) (row, col)).2, cs', inR', sp') ∧ sp' ++ [spV C (ptPL C (l.drop i) (row, col))] = sp ++ spV C (row, col) :: trl C (l.drop i) (row, col) ∧ cs'.length ≤ cs.length + 2 * d := by
  induction d with
  | zero =>
    intro k i row col cs inR sp hi hd hk h0 h1 h2 h3 h4 h5 h6
    obtain ⟨k, rfl⟩ : ∃ m, k = m + 1 := ⟨k - 1, by omega⟩
    rw [lyB, if_neg (by omega), List.drop_eq_nil_of_le (by omega)]
    exact ⟨cs, inR, sp, rfl, rfl, by omega⟩
  | succ d ih =>
    intro k i row col cs inR sp hi hd hk h0 h1 h2 h3 h4 h5 h6
    obtain ⟨k, rfl⟩ : ∃ m, k = m + 1 := ⟨k - 1, by omega⟩
    have hlt : i < l.length := by omega
    obtain ⟨b, hb⟩ : ∃ b, (if region = true then impl_within.f (i : Int) fr (wrap64 (tw - 1)) else some false) = some b := by
      split
      · exact ⟨_, impl_within.eq _ _ _⟩
      · exact ⟨false, rfl⟩
    obtain ⟨cs1, in1, e1, e2, e3⟩ := ptF_ok (attr := if b = true then 1 else 0) hC (rd l (i : Int)) (k := k) (row := row) (col := col) (cs := cs) (inR := inR) (by omega) h0 (by omega) h2 h3 (by omega) h5
    obtain ⟨g1, g2, g3, g4⟩ := ptP_ok hC.1 (rd l (i : Int)) (rc := (row, col)) h2 h3
    rw [lyB, if_pos (int_lt hlt), if_pos (int_nn i), if_pos (by omega), lspot_eq cs inR sp h0 (by omega), Option.bind_some, hb, Option.bind_some, e1, wrap_succ (by omega), drop_rd hlt, ptPL, Option.bind_some, trl]
    dsimp only at g3 g4 ⊢
    obtain ⟨cs', in', sp', f1, f2, f3⟩ := ih k (i + 1) (ptP C (rd l (i : Int)) (row, col)).1 (ptP C (rd l (i : Int)) (row, col)).2 cs1 in1 (sp ++ [spV C (row, col)]) (by omega) (by omega) (by omega) (by omega) (by omega) g1 g2 (by omega) e3 (by rw [List.length_append, List.length_singleton]; omega)
    refine ⟨cs', in', sp', f1, ?_, by omega⟩
    rw [List.append_assoc] at f2
    exact f2
theorem lyF_ok {C : Int} (hC : 2 ≤ C ∧ C ≤ 80) (region : Bool) (l0 l1 : List Int) (a1 a2 : Int) {k : Nat} (hk : 1000 < k) (h0 : l0.length ≤ 300) (h1 : l1.length ≤ 300) :
    ∃ cs' inR', lyF k l0 l1 a1 a2 region C = some ((ptPL C l1 (ptPL C l0 (0, 0))).1, (ptPL C l1 (ptPL C l0 (0, 0))).2, cs', inR', spV C (ptPL C l0 (0, 0)) :: trl C l1 (ptPL C l0 (0, 0))) := by
  unfold lyF
  have hbd := @ptPL_ok C hC.1
  obtain ⟨cs1, in1, e1, e2, e3⟩ := lyA_ok hC l0 h0 l0.length k 0 0 0 [] false (by omega) (by omega) (by omega) (by omega) (by omega) (by omega) (by omega) (by simp; omega) (fun h => absurd h (by simp))
  rw [show ((0 : Nat) : Int) = 0 from rfl, List.drop_zero] at e1
  obtain ⟨b1, b2, b3, b4⟩ := hbd l0 (0, 0) (by simp) (by dsimp only; omega) (by simp)
  rw [e1, Option.bind_some]
  unfold impl_Buf_region.f
  rw [Option.bind_some]
  dsimp only at b3 b4 ⊢
  obtain ⟨cs2, in2, sp2, f1, f2, f3⟩ := lyB_ok hC region (mn a2 a1) (mx a2 a1) l1 h1 l1.length k 0 (ptPL C l0 (0, 0)).1 (ptPL C l0 (0, 0)).2 cs1 in1 [] (by omega) (by omega) (by omega) (by omega) (by omega) b1 b2 (by simp at e2; omega) e3 (by simp; omega)
  rw [show ((0 : Nat) : Int) = 0 from rfl, List.drop_zero] at f1
  rw [List.drop_zero] at f2
  replace f1 : lyB C region (mn a2 a1) (mx a2 a1) k l1 0 (ptPL C l0 (0, 0)).1 (ptPL C l0 (0, 0)).2 cs1 in1 [] = some ((ptPL C l1 (ptPL C l0 (0, 0))).1, (ptPL C l1 (ptPL C l0 (0, 0))).2, cs2, in2, sp2) := f1
  obtain ⟨d1, d2, d3, d4⟩ := hbd l1 (ptPL C l0 (0, 0)) b1 b2 (by omega)
  rw [f1, Option.bind_some]
  dsimp only
  have hl2 : sp2.length ≤ 1000000 := by
    have := congrArg List.length f2
    simp only [List.length_append, List.length_cons, List.length_nil, trl_len] at this
    omega
  rw [if_pos hl2, lspot_eq _ _ _ (by omega) (by omega), Option.bind_some]
  refine ⟨cs2, in2, ?_⟩
  rw [← List.nil_append (spV C (ptPL C l0 (0, 0)) :: trl C l1 (ptPL C l0 (0, 0))), ← f2]
/-! the reference's pen: only the shape of its rows -/
def shp (N : Nat) (rows : List (List S75)) : Prop := ∀ x ∈ rows, x.length = N
theorem shp_last {N : Nat} {rows : List (List S75)} (h : shp N rows) (hp : 0 < rows.length) : (rd_L3 rows ((rows.length - 1 : Nat) : Int)).length = N := by
  unfold rd_L3
  rw [Int.toNat_natCast, List.getD_eq_getElem?_getD, List.getElem?_eq_getElem (by omega)]
  exact h _ (List.getElem_mem _)
theorem shp_set {N : Nat} {rows : List (List S75)} (h : shp N rows) (i : Nat) {x : List S75} (hx : x.length = N) : shp N (rows.set i x) := by
  intro y hy
  rcases List.mem_or_eq_of_mem_set hy with hy | hy
  · exact h y hy
  · rw [hy]; exact hx
theorem shp_snoc {N : Nat} {rows : List (List S75)} (h : shp N rows) {x : List S75} (hx : x.length = N) : shp N (rows ++ [x]) := by
  intro y hy
  rcases List.mem_append.1 hy with hy | hy
  · exact h y hy
  · rw [List.mem_singleton.1 hy]; exact hx
theorem spec_l08Wide.eq (l : List Int) (a : Int) {k : Nat} (hk : 0 < k) : spec_l08Wide.f k l a = some (decide (0 < l.length ∧ wid (rd l 0) = 2)) := by
  unfold spec_l08Wide.f
  by_cases h : 0 < l.length
  · rw [if_pos (by omega), if_pos (by omega), spec_WidthOf.eq _ hk, Option.bind_some]
    refine congrArg some ?_
    rw [Bool.eq_iff_iff]
    simp [h]
  · rw [if_neg (by omega)]
    simp [h]
theorem sh1_ok {N : Nat} (hN : 2 ≤ N ∧ N ≤ 80) {rows : List (List S75)} (h : shp N rows) (hp : 0 < rows.length) {col wd p attr : Int} (h0 : 0 ≤ col) (h1 : col + wd ≤ N) (hw : 1 ≤ wd ∧ wd ≤ 2) : ∃ rows', sh1 rows col wd p attr = some (rows', col + wd) ∧ shp N rows' ∧ rows'.length = rows.length := by
  have hl := shp_last h hp
  unfold sh1
  rw [if_pos hp, if_pos h0, hl, if_pos (by omega), wrap_in (x := col + wd) (by omega) (by omega)]
  by_cases c1 : wd = 2
  · rw [if_pos c1, wrap_in (x := col + 1) (by omega) (by omega), if_pos (by omega), if_pos (by omega)]
    exact ⟨_, rfl, shp_set h _ (by rw [List.length_set, List.length_set]; exact hl), by rw [List.length_set]⟩
  · rw [if_neg c1]
    exact ⟨_, rfl, shp_set h _ (by rw [List.length_set]; exact hl), by rw [List.length_set]⟩
theorem shF_ok {N : Nat} (hN : 2 ≤ N ∧ N ≤ 80) {rows : List (List S75)} (h : shp N rows) (hp : 0 < rows.length) (hq : rows.length ≤ 100000) {col p attr : Int} {k : Nat} (hk : 0 < k) (h0 : 0 ≤ col) (h1 : col ≤ N) :
    ∃ rows', shF k (N : Int) rows col p attr = some (rows', (stp (N : Int) ((rows.length : Int) - 1, col) (wid p)).2) ∧ shp N rows' ∧ (rows'.length : Int) - 1 = (stp (N : Int) ((rows.length : Int) - 1, col) (wid p)).1 := by
  have hl := shp_last h hp
  unfold shF stp
  rw [spec_WidthOf.eq _ hk, Option.bind_some, if_pos ⟨hp, by omega⟩]
  have hw := wid_in p
  by_cases c1 : wid p = 0
  · rw [if_pos c1, if_pos c1]
    have hA : ∃ a, shAt k (rd_L3 rows ((rows.length - 1 : Nat) : Int)) col = some a ∧ a < (N : Int) := by
      unfold shAt
      rw [wrap_in (x := col - 1) (by omega) (by omega), wrap_in (x := col - 1 - 1) (by omega) (by omega), hl]
      by_cases d1 : 0 < col - 1
      · rw [if_pos d1, if_pos (by omega), if_pos (by omega), spec_l08Wide.eq _ _ hk, Option.bind_some]
        refine ⟨_, rfl, ?_⟩
        split <;> omega
      · rw [if_neg d1]
        exact ⟨_, rfl, by omega⟩
    obtain ⟨a, ea, ha⟩ := hA
    have hB : ∃ r, sh0 rows (rd_L3 rows ((rows.length - 1 : Nat) : Int)) p a = some r ∧ shp N r ∧ r.length = rows.length := by
      unfold sh0
      by_cases d1 : 0 ≤ a
      · rw [if_pos d1, hl, if_pos ha]
        by_cases d2 : 0 < (rd_T75 (rd_L3 rows ((rows.length - 1 : Nat) : Int)) a).f0.length
        · rw [if_pos d2]
          by_cases d3 : (rd_T75 (rd_L3 rows ((rows.length - 1 : Nat) : Int)) a).f0.length < 4
          · rw [if_pos d3, spec_l01Copy.eq (by omega), Option.bind_some, if_pos (by omega)]
            exact ⟨_, rfl, shp_set h _ (by rw [List.length_set]; exact hl), by rw [List.length_set]⟩
          · rw [if_neg d3]
            exact ⟨_, rfl, h, rfl⟩
        · rw [if_neg d2]
          exact ⟨_, rfl, h, rfl⟩
      · rw [if_neg d1]
        exact ⟨_, rfl, h, rfl⟩
    obtain ⟨r, er, hr1, hr2⟩ := hB
    rw [ea, Option.bind_some, er, Option.bind_some]
    exact ⟨r, rfl, hr1, by rw [hr2]⟩
  · rw [if_neg c1, if_neg c1, wrap_in (x := (N : Int) - col) (by omega) (by omega)]
    dsimp only
    by_cases c2 : (N : Int) - col < wid p
    · rw [if_pos c2, if_pos c2, if_pos ⟨⟨by omega, by omega⟩, by omega⟩, Int.toNat_natCast]
      obtain ⟨r, e1, e2, e3⟩ := sh1_ok hN (shp_snoc h (x := List.replicate N z75) (by rw [List.length_replicate])) (by rw [List.length_append, List.length_singleton]; omega) (col := 0) (wd := wid p) (p := p) (attr := attr) (by omega) (by omega) (by omega)
      rw [List.length_append, List.length_singleton] at e3
      exact ⟨r, by rw [e1]; simp, e2, by dsimp only; omega⟩
    · rw [if_neg c2, if_neg c2]
      obtain ⟨r, e1, e2, e3⟩ := sh1_ok hN h hp (col := col) (wd := wid p) (p := p) (attr := attr) h0 (by omega) (by omega)
      exact ⟨r, e1, e2, by dsimp only; omega⟩
theorem spec_l01Shown.eq2 (a : Int) (h : isPt a = true) : spec_l01Shown.f a = some (shw a) := by
  have h0 : 0 ≤ a := by unfold isPt at h; exact (of_decide_eq_true h).1
  unfold spec_l01Shown.f shw isCtl
  by_cases c1 : a < 32
  · rw [if_pos c1, if_pos (by simp [c1])]
  · rw [if_neg c1]
    by_cases c2 : a = 127
    · rw [if_pos c2, if_pos (by simp [c2])]
    · rw [if_neg c2, if_neg (by simp [c1, c2])]
theorem pnL_ok {N : Nat} (hN : 2 ≤ N ∧ N ≤ 80) {attr : Int} (l : List Int) (hl : l.length ≤ 10) (d : Nat) : ∀ (k i : Nat) (rows : List (List S75)) (col : Int), i ≤ l.length → l.length - i = d → d + 20 < k → shp N rows → 0 < rows.length → rows.length + d ≤ 100000 → 0 ≤ col → col ≤ N →
    ∃ rows', pnL (N : Int) attr k l (i : Int) rows col = some (rows', (stpL (N : Int) (l.drop i) ((rows.length : Int) - 1, col)).2) ∧ shp N rows' ∧ (rows'.length : Int) - 1 = (stpL (N : Int) (l.drop i) ((rows.length : Int) - 1, col)).1 := by
  induction d with
  | zero =>
    intro k i rows col hi hd hk h1 h2 h3 h4 h5
    obtain ⟨k, rfl⟩ : ∃ m, k = m + 1 := ⟨k - 1, by omega⟩
    rw [pnL, if_neg (by omega), List.drop_eq_nil_of_le (by omega)]
    exact ⟨rows, rfl, h1, rfl⟩
  | succ d ih =>
    intro k i rows col hi hd hk h1 h2 h3 h4 h5
    obtain ⟨k, rfl⟩ : ∃ m, k = m + 1 := ⟨k - 1, by omega⟩
    have hlt : i < l.length := by omega
    obtain ⟨r, e1, e2, e3⟩ := shF_ok hN h1 h2 (by omega) (p := rd l (i : Int)) (attr := attr) (k := k) (by omega) h4 h5
    obtain ⟨g1, g2, g3, g4⟩ := stp_ok (C := (N : Int)) (rc := ((rows.length : Int) - 1, col)) (wid_in (rd l (i : Int))) (by omega) h4 h5
    rw [pnL, if_pos (int_lt hlt), if_pos (int_nn i), e1, Option.bind_some, wrap_succ (by omega), drop_rd hlt, stpL]
    dsimp only at g3 g4 ⊢
    obtain ⟨r2, f1, f2, f3⟩ := ih k (i + 1) r (stp (N : Int) ((rows.length : Int) - 1, col) (wid (rd l (i : Int)))).2 (by omega) (by omega) (by omega) e2 (by omega) (by omega) g1 g2
    rw [e3] at f1 f3
    exact ⟨r2, f1, f2, f3⟩
theorem pnF_ok {N : Nat} (hN : 2 ≤ N ∧ N ≤ 80) (attr p : Int) (hp : isPt p = true) {k : Nat} (hk : 40 < k) {rows : List (List S75)} {col : Int} (h1 : shp N rows) (h2 : 0 < rows.length) (h3 : rows.length ≤ 90000) (h4 : 0 ≤ col) (h5 : col ≤ N) :
    ∃ rows', pnF k (N : Int) rows col p attr = some (rows', (ptP (N : Int) p ((rows.length : Int) - 1, col)).2) ∧ shp N rows' ∧ (rows'.length : Int) - 1 = (ptP (N : Int) p ((rows.length : Int) - 1, col)).1 := by
  unfold pnF ptP
  by_cases c1 : p = 10
  · rw [if_pos c1, if_pos c1, if_pos ⟨⟨by omega, by omega⟩, by omega⟩, Int.toNat_natCast]
    exact ⟨_, rfl, shp_snoc h1 (by rw [List.length_replicate]), by rw [List.length_append, List.length_singleton]; dsimp only; omega⟩
  · have hs := shw_len p
    rw [if_neg c1, if_neg c1, spec_l01Shown.eq2 p hp, Option.bind_some]
    exact pnL_ok hN (shw p) (by omega) (shw p).length k 0 rows col (by omega) (by omega) (by omega) h1 h2 (by omega) h4 h5
theorem lzA_ok {N : Nat} (hN : 2 ≤ N ∧ N ≤ 80) (l : List Int) (hl : l.length ≤ 300) (hp : ∀ x ∈ l, isPt x = true) (d : Nat) : ∀ (k i : Nat) (rows : List (List S75)) (col : Int), i ≤ l.length → l.length - i = d → d + 60 < k → shp N rows → 0 < rows.length → rows.length + 2 * d ≤ 2000 → 0 ≤ col → col ≤ N →
    ∃ rows', lzA (N : Int) k l (i : Int) rows col = some (rows', (ptPL (N : Int) (l.drop i) ((rows.length : Int) - 1, col)).2) ∧ shp N rows' ∧ (rows'.length : Int) - 1 = (ptPL (N : Int) (l.drop i) ((rows.length : Int) - 1, col)).1 := by
  induction d with
  | zero =>
    intro k i rows col hi hd hk h1 h2 h3 h4 h5
    obtain ⟨k, rfl⟩ : ∃ m, k = m + 1 := ⟨k - 1, by omega⟩
    rw [lzA, if_neg (by omega), List.drop_eq_nil_of_le (by omega)]
    exact ⟨rows, rfl, h1, rfl⟩
  | succ d ih =>
    intro k i rows col hi hd hk h1 h2 h3 h4 h5
    obtain ⟨k, rfl⟩ : ∃ m, k = m + 1 := ⟨k - 1, by omega⟩
    have hlt : i < l.length := by omega
    have hpt : isPt (rd l (i : Int)) = true := by rw [rd_nat, List.getD_eq_getElem?_getD, List.getElem?_eq_getElem hlt]; exact hp _ (List.getElem_mem hlt)
    obtain ⟨r, e1, e2, e3⟩ := pnF_ok hN 0 _ hpt (k := k) (by omega) h1 h2 (by omega) h4 h5
    obtain ⟨g1, g2, g3, g4⟩ := ptP_ok (C := (N : Int)) (by omega) (rd l (i : Int)) (rc := ((rows.length : Int) - 1, col)) h4 h5
    rw [lzA, if_pos (int_lt hlt), if_pos (int_nn i), e1, Option.bind_some, wrap_succ (by omega), drop_rd hlt, ptPL]
    dsimp only at g3 g4 ⊢
    obtain ⟨r2, f1, f2, f3⟩ := ih k (i + 1) r (ptP (N : Int) (rd l (i : Int)) ((rows.length : Int) - 1, col)).2 (by omega) (by omega) (by omega) e2 (by omega) (by omega) g1 g2
    rw [e3] at f1 f3
    exact ⟨r2, f1, f2, f3⟩
theorem pspot_eq {C col : Int} (rows : List (List S75)) (h0 : 0 < rows.length) (h1 : rows.length ≤ 90000) (h2 : col ≤ C) : spec_l09Pen_spot.f C rows col = some ((spV C ((rows.length : Int) - 1, col)).f0, (spV C ((rows.length : Int) - 1, col)).f1) := by
  unfold spec_l09Pen_spot.f spV
  rw [wrap_in (x := (rows.length : Int) - 1) (by omega) (by omega), wrap_in (x := (rows.length : Int) - 1 + 1) (by omega) (by omega)]
  by_cases c1 : col = C
  · rw [if_pos (by omega), if_pos c1]
  · rw [if_neg (by omega), if_neg c1]
theorem lzB_ok {N : Nat} (hN : 2 ≤ N ∧ N ≤ 80) (region : Bool) (low high : Int) (l : List Int) (hl : l.length ≤ 300) (hp : ∀ x ∈ l, isPt x = true) (d : Nat) : ∀ (k i : Nat) (rows : List (List S75)) (col : Int) (sp : List S45), i ≤ l.length → l.length - i = d → d + 60 < k → shp N rows → 0 < rows.length → rows.length + 2 * d ≤ 4000 → 0 ≤ col → col ≤ N → sp.length + d ≤ 4000 →
    ∃ rows', lzB (N : Int) region low high k l (i : Int) rows col sp = some (rows', (ptPL (N : Int) (l.drop i) ((rows.length : Int) - 1, col)).2, sp ++ trl (N : Int) (l.drop i) ((rows.length : Int) - 1, col)) ∧ shp N rows' ∧ (rows'.length : Int) - 1 = (ptPL (N : Int) (l.drop i) ((rows.length : Int) - 1, col)).1 := by
  induction d with
  | zero =>
    intro k i rows col sp hi hd hk h1 h2 h3 h4 h5 h6
    obtain ⟨k, rfl⟩ : ∃ m, k = m + 1 := ⟨k - 1, by omega⟩
    rw [lzB, if_neg (by omega), List.drop_eq_nil_of_le (by omega), trl, List.append_nil]
    exact ⟨rows, rfl, h1, rfl⟩
  | succ d ih =>
    intro k i rows col sp hi hd hk h1 h2 h3 h4 h5 h6
    obtain ⟨k, rfl⟩ : ∃ m, k = m + 1 := ⟨k - 1, by omega⟩
    have hlt : i < l.length := by omega
    have hpt : isPt (rd l (i : Int)) = true := by rw [rd_nat, List.getD_eq_getElem?_getD, List.getElem?_eq_getElem hlt]; exact hp _ (List.getElem_mem hlt)
    obtain ⟨r, e1, e2, e3⟩ := pnF_ok hN (if region = true then (if low ≤ (i : Int) then (if (i : Int) < high then 1 else 0) else 0) else 0) _ hpt (k := k) (by omega) h1 h2 (by omega) h4 h5
    obtain ⟨g1, g2, g3, g4⟩ := ptP_ok (C := (N : Int)) (by omega) (rd l (i : Int)) (rc := ((rows.length : Int) - 1, col)) h4 h5
    rw [lzB, if_pos (int_lt hlt), if_pos (int_nn i), if_pos (by omega), e1, Option.bind_some, wrap_succ (by omega), drop_rd hlt, ptPL, trl]
    dsimp only at g3 g4 ⊢
    rw [pspot_eq r (by omega) (by omega) g2, Option.bind_some]
    obtain ⟨r2, f1, f2, f3⟩ := ih k (i + 1) r (ptP (N : Int) (rd l (i : Int)) ((rows.length : Int) - 1, col)).2 (sp ++ [spV (N : Int) (ptP (N : Int) (rd l (i : Int)) ((rows.length : Int) - 1, col))]) (by omega) (by omega) (by omega) e2 (by omega) (by omega) g1 g2 (by rw [List.length_append, List.length_singleton]; omega)
    rw [e3] at f1 f3 ⊢
    rw [List.append_assoc] at f1
    exact ⟨r2, f1, f2, f3⟩
theorem lzF_ok {N : Nat} (hN : 2 ≤ N ∧ N ≤ 80) (region : Bool) (l0 l1 : List Int) (a1 a2 : Int) {k : Nat} (hk : 1000 < k) (h0 : l0.length ≤ 300) (h1 : l1.length ≤ 300) (g0 : ∀ x ∈ l0, isPt x = true) (g1 : ∀ x ∈ l1, isPt x = true) :
    ∃ rows', lzF k l0 l1 a1 a2 region (N : Int) = some (rows', (ptPL (N : Int) l1 (ptPL (N : Int) l0 (0, 0))).2, spV (N : Int) (ptPL (N : Int) l0 (0, 0)) :: trl (N : Int) l1 (ptPL (N : Int) l0 (0, 0))) := by
  unfold lzF
  have hbd := @ptPL_ok (N : Int) (by omega)
  rw [if_pos ⟨by omega, by omega⟩, Int.toNat_natCast, List.nil_append]
  obtain ⟨r, e1, e2, e3⟩ := lzA_ok hN l0 h0 g0 l0.length k 0 [List.replicate N z75] 0 (by omega) (by omega) (by omega) (fun x hx => by rw [List.mem_singleton.1 hx, List.length_replicate]) (by simp) (by simp; omega) (by omega) (by omega)
  rw [show ((0 : Nat) : Int) = 0 from rfl, List.drop_zero] at e1
  rw [List.drop_zero] at e3
  rw [show (([List.replicate N z75].length : Nat) : Int) - 1 = 0 by simp] at e1 e3
  obtain ⟨b1, b2, b3, b4⟩ := hbd l0 (0, 0) (by simp) (by dsimp only; omega) (by simp)
  dsimp only at b3 b4
  rw [e1, Option.bind_some]
  dsimp only
  rw [pspot_eq r (by omega) (by omega) b2, Option.bind_some, e3]
  unfold spec_l01Min.f spec_l01Max.f
  have hmn : ∃ lo, (if a1 < a2 then some a1 else some a2) = some lo := by split <;> exact ⟨_, rfl⟩
  have hmx : ∃ hi, (if a1 > a2 then some a1 else some a2) = some hi := by split <;> exact ⟨_, rfl⟩
  obtain ⟨lo, hlo⟩ := hmn
  obtain ⟨hi, hhi⟩ := hmx
  rw [hlo, Option.bind_some, hhi, Option.bind_some]
  obtain ⟨r2, f1, f2, f3⟩ := lzB_ok hN region lo hi l1 h1 g1 l1.length k 0 r (ptPL (N : Int) l0 (0, 0)).2 [spV (N : Int) (ptPL (N : Int) l0 (0, 0))] (by omega) (by omega) (by omega) e2 (by omega) (by omega) b1 b2 (by simp; omega)
  rw [show ((0 : Nat) : Int) = 0 from rfl, List.drop_zero, e3] at f1
  exact ⟨r2, f1⟩
theorem ptsOK_all {l : List Int} (h : ptsOK l = true) : ∀ x ∈ l, isPt x = true := by
  unfold ptsOK at h
  simp only [Bool.and_eq_true, decide_eq_true_eq] at h
  exact List.all_eq_true.1 h.2
theorem bufOK_pts {l : List Int} {c m : Int} (h : bufOK l c m = true) : ptsOK l = true := by
  unfold bufOK at h
  simp only [Bool.and_eq_true] at h
  exact h.1.1
theorem impl_isViewed.eq (l0 l1 : List Int) (a1 a2 a4 : Int) {k : Nat} (hk : 300 < k) : impl_isViewed.f k l0 l1 a1 a2 a4 = some (decide (ptsOK l0 = true ∧ bufOK l1 a1 a2 = true ∧ (2 ≤ a4 ∧ a4 ≤ 80))) := by
  unfold impl_isViewed.f impl_isCols.f
  rw [impl_PointsRight.eq l0 hk, impl_BufRight.eq l1 a1 a2 hk, impl_within.eq]
  simp only [Option.bind_some]
  cases ptsOK l0
  · simp
  · cases bufOK l1 a1 a2
    · simp
    · simp
theorem spec_l08Size.eq (a b : Int) : spec_l08Size.f a b = some (decide ((1 ≤ a ∧ a ≤ 24) ∧ 2 ≤ b ∧ b ≤ 80)) := by
  unfold spec_l08Size.f
  (repeat' split) <;> (refine some_b ?_; simp only [decide_eq_true_eq, Bool.false_eq_true]; first | omega | (rw [false_iff]; omega))
def sptsV (l0 l1 : List Int) (C : Int) : List S45 := spV C (ptPL C l0 (0, 0)) :: trl C l1 (ptPL C l0 (0, 0))
theorem sptsV_len (l0 l1 : List Int) (C : Int) : (sptsV l0 l1 C).length = l1.length + 1 := by rw [sptsV, List.length_cons, trl_len]
theorem trl_last (C : Int) (l : List Int) : ∀ rc, (spV C rc :: trl C l rc).getD l.length z45 = spV C (ptPL C l rc) := by
  induction l with
  | nil => intro rc; rfl
  | cons p l ih =>
    intro rc
    rw [trl, ptPL, List.length_cons, List.getD_cons_succ]
    exact ih _
def viewRowsV (l0 l1 : List Int) (a1 a2 a3 : Int) : Int := if ptsOK l0 = true ∧ bufOK l1 a1 a2 = true ∧ (2 ≤ a3 ∧ a3 ≤ 80) then wrap64 ((spV a3 (ptPL a3 l1 (ptPL a3 l0 (0, 0)))).f0 + 1) else 0
theorem impl_ViewRows.eq (l0 l1 : List Int) (a1 a2 a3 : Int) {k : Nat} (hk : 1000 < k) : impl_ViewRows.f k l0 l1 a1 a2 a3 = some (viewRowsV l0 l1 a1 a2 a3) := by
  unfold impl_ViewRows.f viewRowsV
  rw [impl_isViewed.eq _ _ _ _ _ (by omega), Option.bind_some]
  by_cases h : ptsOK l0 = true ∧ bufOK l1 a1 a2 = true ∧ (2 ≤ a3 ∧ a3 ≤ 80)
  · rw [if_pos (decide_eq_true h), if_pos h]
    have b0 := ptsOK_len h.1
    have b1 := bufOK_len h.2.1
    obtain ⟨cs, i, e⟩ := lyF_ok h.2.2 false l0 l1 a1 a2 hk b0 b1
    obtain ⟨u1, u2, u3, u4⟩ := ptPL_ok h.2.2.1 l0 (0, 0) (by simp) (by dsimp only; omega) (by simp)
    dsimp only at u3 u4
    obtain ⟨v1, v2, v3, v4⟩ := ptPL_ok h.2.2.1 l1 (ptPL a3 l0 (0, 0)) u1 u2 u3
    rw [e, Option.bind_some]
    dsimp only
    rw [lspot_eq _ _ _ (by omega) (by omega), Option.bind_some]
  · rw [if_neg (by rw [decide_eq_false h]; decide), if_neg h]
theorem spec_ViewRows.eq (l0 l1 : List Int) (a1 a2 a3 : Int) {k : Nat} (hk : 1000 < k) : spec_ViewRows.f k l0 l1 a1 a2 a3 = some (viewRowsV l0 l1 a1 a2 a3) := by
  unfold spec_ViewRows.f viewRowsV
  by_cases h0 : 400 < (l0.length : Int)
  · rw [if_pos h0, if_neg (fun g => by have := ptsOK_len g.1; omega)]
  · rw [if_neg h0, spec_PointsRight.eq l0 (by omega), Option.bind_some, spec_BufRight.eq l1 a1 a2 (by omega), Option.bind_some, spec_l08Size.eq, Option.bind_some]
    by_cases h1 : ptsOK l0 = true
    · rw [if_pos h1]
      by_cases h2 : bufOK l1 a1 a2 = true
      · rw [if_pos h2]
        by_cases h3 : 2 ≤ a3 ∧ a3 ≤ 80
        · rw [if_pos (decide_eq_true ⟨by omega, h3.1, h3.2⟩), if_pos ⟨h1, h2, h3⟩]
          obtain ⟨N, rfl⟩ : ∃ N : Nat, a3 = (N : Int) := ⟨a3.toNat, by omega⟩
          have b1 := bufOK_len h2
          obtain ⟨r, e⟩ := lzF_ok (N := N) (by omega) false l0 l1 a1 a2 hk (ptsOK_len h1) b1 (ptsOK_all h1) (ptsOK_all (bufOK_pts h2))
          rw [e, Option.bind_some]
          dsimp only
          have hl := sptsV_len l0 l1 (N : Int)
          unfold sptsV at hl
          rw [hl, if_pos ⟨by omega, by omega⟩]
          unfold rd_T45
          rw [Int.toNat_natCast, Nat.add_sub_cancel, trl_last]
        · rw [if_neg (by rw [decide_eq_false (fun g => h3 g.2)]; decide), if_neg (fun g => h3 g.2.2)]
      · rw [if_neg h2, if_neg (fun g => h2 g.2.1)]
    · rw [if_neg h1, if_neg (fun g => h1 g.1)]

theorem FnExactViewRows : laws_FnExactViewRows.Pure := by
  intro l0 l1 c m a ⟨hp, _⟩ ⟨⟨hl, _⟩, _, _⟩ _
  have hl := maxLen_le hl
  have hp := maxLen_le hp
  refine ⟨1048700, ?_⟩
  unfold laws_FnExactViewRows.f
  by_cases hp2 : (l0.length : Int) > 1048576
  · rw [if_pos hp2]
  rw [if_neg hp2, laws_szBuf.eq (by omega) (by omega) hl]
  simp only [Option.bind_some]
  by_cases h : (1048576 : Int) < (l1.length : Int)
  · rw [if_pos h, if_pos (by omega)]
  · rw [if_neg h, if_neg (by omega), laws_toBuf.eq (by omega) (by omega), laws_toInt64S.eq (by omega) (by omega)]
    simp only [Option.bind_some]
    rw [spec_ViewRows.eq _ _ _ _ _ (by omega), impl_ViewRows.eq _ _ _ _ _ (by omega)]
    simp only [Option.bind_some, if_true, laws_FnExactViewRows.j0]
    rw [laws_toInt64S.eq (by omega) (by omega)]
    simp only [Option.bind_some]
    rw [laws_eqInt64S.eq (by omega) (by omega)]
    simp only [Option.bind_some, decide_true, if_true, laws_FnExactViewRows.j1]
    rw [laws_toBuf.eq (by omega) (by omega)]
    simp only [Option.bind_some]
    rw [laws_eqBuf.eq (by omega) (by omega)]
    simp

end Go.Proofs.Ytcjclihkaaaihaa.Pure
