/- Proved: the program's WidthSum returns what the reference's returns, for every slice of at most 2^20 points, and leaves the slice as it was. -/
import Derived.Test.YtefffjhnpojjlaaPFnExactWidthSumx4
namespace Go.Proofs.Ytefffjhnpojjlaa.Pure
open Go.RowKit Go.Proofs.Ytefffjhnpojjlaa.PFnExactWidthSum Go.Proofs.YtefffjhnpojjlaaW.PrintWords Go.Proofs.YtefffjhnpojjlaaW.PrintLast Go.Proofs.YtefffjhnpojjlaaW.PrintMore
set_option linter.unusedVariables false
set_option linter.unusedSimpArgs false

/-! ### plain words -/
theorem wrap_in {x : Int} (h0 : -9223372036854775808 ≤ x) (h1 : x ≤ 9223372036854775807) : wrap64 x = x := by unfold wrap64; omega
theorem wrap_succ {i : Nat} (h : i < 4611686018427387904) : wrap64 ((i : Int) + 1) = ((i + 1 : Nat) : Int) := by unfold wrap64; omega
theorem rd_nat (l : List Int) (i : Nat) : rd l (i : Int) = l.getD i 0 := by simp [rd]
theorem drop_rd {l : List Int} {i : Nat} (h : i < l.length) : l.drop i = rd l (i : Int) :: l.drop (i + 1) := by
  rw [rd_nat, List.drop_eq_getElem_cons h, List.getD_eq_getElem?_getD, List.getElem?_eq_getElem h]
  rfl
theorem int_lt {i n : Nat} (h : i < n) : (i : Int) < (n : Int) := by omega
theorem int_nlt {i n : Nat} (h : ¬ i < n) : ¬ (i : Int) < (n : Int) := by omega
theorem int_nn (i : Nat) : (0 : Int) ≤ (i : Int) := by omega
theorem maxLen_le {n : Nat} (h : n ≤ maxLen) : n ≤ 9223372036854775807 := by unfold maxLen at h; exact h
theorem some_b {a b : Bool} (h : a = true ↔ b = true) : some a = some b := congrArg some (Bool.eq_iff_iff.2 h)
def isPt (a : Int) : Bool := decide (0 ≤ a ∧ a ≤ 1114111 ∧ ¬ (55296 ≤ a ∧ a ≤ 57343))
def ptsOK (l : List Int) : Bool := decide (l.length ≤ 300) && l.all isPt
def bufOK (l : List Int) (c m : Int) : Bool := ptsOK l && decide (0 ≤ c ∧ c ≤ l.length) && decide (0 ≤ m ∧ m ≤ l.length)
def isCtl (a : Int) : Bool := decide (a < 32 ∨ a = 127)
def isWide2 (a : Int) : Bool := decide ((4352 ≤ a ∧ a ≤ 4447) ∨ (11904 ≤ a ∧ a ≤ 42191) ∨ (44032 ≤ a ∧ a ≤ 55203) ∨ (63744 ≤ a ∧ a ≤ 64255) ∨ (65281 ≤ a ∧ a ≤ 65376) ∨ (127744 ≤ a ∧ a ≤ 129791))
def wid (a : Int) : Int := if isPt a = true ∧ ¬ (768 ≤ a ∧ a ≤ 879) then (if isCtl a = true ∨ isWide2 a = true then 2 else 1) else 0
def cl2 (a : Int) : Int := if (97 ≤ a ∧ a ≤ 122) ∨ (65 ≤ a ∧ a ≤ 90) ∨ (48 ≤ a ∧ a ≤ 57) ∨ a = 95 ∨ 128 ≤ a then 2 else 3
def cls (a : Int) : Int := if isPt a = true then (if a = 32 ∨ a = 9 ∨ a = 10 then 1 else cl2 a) else 0
theorem ptsOK_len {l : List Int} (h : ptsOK l = true) : l.length ≤ 300 := by
  unfold ptsOK at h
  simp only [Bool.and_eq_true, decide_eq_true_eq] at h
  exact h.1
theorem bufOK_len {l : List Int} {c m : Int} (h : bufOK l c m = true) : l.length ≤ 300 := by
  unfold bufOK at h
  simp only [Bool.and_eq_true] at h
  exact ptsOK_len h.1.1
theorem bufOK_all {l : List Int} {c m : Int} (h : bufOK l c m = true) : l.length ≤ 300 ∧ 0 ≤ c ∧ c ≤ l.length ∧ 0 ≤ m ∧ m ≤ l.length := by
  have hl := bufOK_len h
  unfold bufOK at h
  simp only [Bool.and_eq_true, decide_eq_true_eq] at h
  exact ⟨hl, h.1.2.1, h.1.2.2, h.2.1, h.2.2⟩
theorem laws_toInt64S.loop (l : List Int) (hl : l.length ≤ 1048576) (d : Nat) : ∀ (k i : Nat), i ≤ l.length → l.length - i = d → d < k → laws_toInt64S.l0 k l (l.take i ++ List.replicate (l.length - i) 0) (i : Int) = some l := by
  induction d with
  | zero =>
    intro k i hi hd hk
    obtain ⟨k, rfl⟩ : ∃ m, k = m + 1 := ⟨k - 1, by omega⟩
    obtain rfl : i = l.length := by omega
    simp only [laws_toInt64S.l0]
    rw [if_neg (by omega)]
    simp
  | succ d ih =>
    intro k i hi hd hk
    obtain ⟨k, rfl⟩ : ∃ m, k = m + 1 := ⟨k - 1, by omega⟩
    have hlt : i < l.length := by omega
    simp only [laws_toInt64S.l0]
    rw [if_pos (int_lt hlt), if_pos (int_nn i), if_pos (by simp; omega), wrap_succ (by omega), Int.toNat_natCast]
    have hs : (l.take i ++ List.replicate (l.length - i) 0).set i (rd l (i : Int)) = l.take (i + 1) ++ List.replicate (l.length - (i + 1)) 0 := by
      have h1 : (l.take i).length = i := by simp; omega
      rw [List.set_append_right _ _ (by omega), h1, Nat.sub_self, show l.length - i = (l.length - (i + 1)) + 1 by omega, List.replicate_succ, List.set_cons_zero, List.take_succ_eq_append_getElem hlt, rd_nat, List.getD_eq_getElem?_getD, List.getElem?_eq_getElem hlt, List.append_assoc]
      rfl
    rw [hs]
    exact ih k (i + 1) (by omega) (by omega) (by omega)
theorem laws_toInt64S.eq {l : List Int} {k : Nat} (hl : l.length ≤ 1048576) (hk : l.length < k) : laws_toInt64S.f k l = some l := by
  unfold laws_toInt64S.f
  rw [if_pos (by omega), if_pos (by omega), Int.toNat_natCast]
  have := laws_toInt64S.loop l hl l.length k 0 (by omega) (by omega) hk
  simpa using this
theorem laws_eqInt64S.loop (a b : List Int) (hab : a.length = b.length) (hl : a.length ≤ 1048576) (d : Nat) : ∀ (k i : Nat), i ≤ a.length → a.length - i = d → d < k → laws_eqInt64S.l0 k a b (i : Int) = some (decide (a.drop i = b.drop i)) := by
  induction d with
  | zero =>
    intro k i hi hd hk
    obtain ⟨k, rfl⟩ : ∃ m, k = m + 1 := ⟨k - 1, by omega⟩
    simp only [laws_eqInt64S.l0]
    rw [if_neg (by omega), List.drop_eq_nil_of_le (by omega), List.drop_eq_nil_of_le (by omega)]
    rfl
  | succ d ih =>
    intro k i hi hd hk
    obtain ⟨k, rfl⟩ : ∃ m, k = m + 1 := ⟨k - 1, by omega⟩
    have hlt : i < a.length := by omega
    simp only [laws_eqInt64S.l0]
    rw [if_pos (int_lt hlt), if_pos (int_nn i), if_pos (by omega), wrap_succ (by omega), ih k (i + 1) (by omega) (by omega) (by omega), drop_rd hlt, drop_rd (show i < b.length by omega)]
    by_cases h : rd a (i : Int) = rd b (i : Int)
    · rw [if_pos h, h]
      simp
    · rw [if_neg h]
      simp [h]
theorem laws_eqInt64S.eq {a b : List Int} {k : Nat} (hl : a.length ≤ 1048576) (hk : a.length < k) : laws_eqInt64S.f k a b = some (decide (a = b)) := by
  unfold laws_eqInt64S.f
  by_cases h : a.length = b.length
  · rw [if_pos (by omega)]
    have := laws_eqInt64S.loop a b h hl a.length k 0 (by omega) (by omega) hk
    simpa using this
  · rw [if_neg (by omega)]
    refine congrArg some (decide_eq_false (fun e => h (by rw [e]))).symm
theorem spec_l01Point.eq (a : Int) : spec_l01Point.f a = some (isPt a) := by
  simp only [spec_l01Point.f, isPt]
  (repeat' split) <;> (refine some_b ?_; simp only [Bool.not_eq_true', Bool.not_false, decide_eq_true_eq, decide_eq_false_iff_not, Bool.false_eq_true]; first | omega | (rw [false_iff]; omega) | (rw [true_iff]; omega))
theorem spec_PointsRight.loop (l : List Int) (hl : l.length ≤ 300) (d : Nat) : ∀ (k i : Nat), i ≤ l.length → l.length - i = d → d < k → spec_PointsRight.l0 k l (i : Int) = some ((l.drop i).all isPt) := by
  induction d with
  | zero =>
    intro k i hi hd hk
    obtain ⟨k, rfl⟩ : ∃ m, k = m + 1 := ⟨k - 1, by omega⟩
    simp only [spec_PointsRight.l0]
    rw [if_neg (by omega), List.drop_eq_nil_of_le (by omega)]
    rfl
  | succ d ih =>
    intro k i hi hd hk
    obtain ⟨k, rfl⟩ : ∃ m, k = m + 1 := ⟨k - 1, by omega⟩
    have hlt : i < l.length := by omega
    simp only [spec_PointsRight.l0]
    rw [if_pos (int_lt hlt), if_pos (int_nn i), spec_l01Point.eq, wrap_succ (by omega), ih k (i + 1) (by omega) (by omega) (by omega), drop_rd hlt]
    simp only [Option.bind_some, List.all_cons]
    cases isPt (rd l (i : Int)) <;> simp
theorem spec_PointsRight.eq (l : List Int) {k : Nat} (hk : 300 < k) : spec_PointsRight.f k l = some (ptsOK l) := by
  unfold spec_PointsRight.f ptsOK
  by_cases h : l.length ≤ 300
  · rw [if_neg (by omega)]
    have := spec_PointsRight.loop l h l.length k 0 (by omega) (by omega) (by omega)
    simp only [h, decide_true, Bool.true_and]
    simpa using this
  · rw [if_pos (by omega)]
    simp [h]
set_option maxHeartbeats 4000000 in
theorem spec_WidthOf.eq (a : Int) {k : Nat} (hk : 0 < k) : spec_WidthOf.f k a = some (wid a) := by
  obtain ⟨k, rfl⟩ : ∃ m, k = m + 1 := ⟨k - 1, by omega⟩
  have hj : ∀ b : Bool, spec_WidthOf.j0 (k + 1) a b = some (if b = true then 0 else if isCtl a = true ∨ isWide2 a = true then 2 else 1) := by
    intro b
    cases b
    · simp only [spec_WidthOf.j0, isCtl, isWide2, decide_eq_true_eq, Bool.false_eq_true, if_false]
      rcases (by omega : a < 32 ∨ (32 ≤ a ∧ a < 127) ∨ a = 127 ∨ (127 < a ∧ a < 4352) ∨ (4352 ≤ a ∧ a ≤ 4447) ∨ (4447 < a ∧ a < 11904) ∨ (11904 ≤ a ∧ a ≤ 42191) ∨ (42191 < a ∧ a < 44032) ∨ (44032 ≤ a ∧ a ≤ 55203) ∨ (55203 < a ∧ a < 63744) ∨ (63744 ≤ a ∧ a ≤ 64255) ∨ (64255 < a ∧ a < 65281) ∨ (65281 ≤ a ∧ a ≤ 65376) ∨ (65376 < a ∧ a < 127744) ∨ (127744 ≤ a ∧ a ≤ 129791) ∨ 129791 < a) with h | h | h | h | h | h | h | h | h | h | h | h | h | h | h | h <;> simp (disch := omega) only [if_pos, if_neg]
    · rfl
  unfold spec_WidthOf.f wid
  rw [spec_l01Point.eq]
  simp only [Option.bind_some, hj]
  by_cases h1 : isPt a = true
  · by_cases h2 : 768 ≤ a
    · by_cases h3 : a ≤ 879
      · simp [h1, h2, h3]
      · simp [h1, h2, h3]
    · simp [h1, h2]
  · simp [h1]
def sumW : List Int → Int
  | [] => 0
  | a :: l => wid a + sumW l
theorem wid_in (a : Int) : 0 ≤ wid a ∧ wid a ≤ 2 := by
  unfold wid
  split
  · split <;> omega
  · omega
theorem spec_WidthSum.loop (l : List Int) (hl : l.length ≤ 1048576) (d : Nat) : ∀ (k i : Nat) (s : Int), i ≤ l.length → l.length - i = d → d + 20 < k → 0 ≤ s → s ≤ 2 * (i : Int) → spec_WidthSum.l0 k l s (i : Int) = some (s + sumW (l.drop i)) := by
  induction d with
  | zero =>
    intro k i s hi hd hk h0 h1
    obtain ⟨k, rfl⟩ : ∃ m, k = m + 1 := ⟨k - 1, by omega⟩
    simp only [spec_WidthSum.l0]
    rw [if_neg (by omega), List.drop_eq_nil_of_le (by omega)]
    simp [sumW]
  | succ d ih =>
    intro k i s hi hd hk h0 h1
    obtain ⟨k, rfl⟩ : ∃ m, k = m + 1 := ⟨k - 1, by omega⟩
    have hlt : i < l.length := by omega
    have hw := wid_in (rd l (i : Int))
    simp only [spec_WidthSum.l0]
    rw [if_pos (int_lt hlt), if_pos (int_nn i), spec_WidthOf.eq _ (by omega)]
    simp only [Option.bind_some]
    rw [wrap_succ (by omega), wrap_in (by omega) (by omega), ih k (i + 1) _ (by omega) (by omega) (by omega) (by omega) (by omega), drop_rd hlt]
    simp only [sumW]
    congr 1
    omega
theorem spec_WidthSum.eq {k : Nat} (l : List Int) (hk : 400 < k) : spec_WidthSum.f k l = some (if ptsOK l = true then sumW l else 0) := by
  obtain ⟨k, rfl⟩ : ∃ m, k = m + 1 := ⟨k - 1, by omega⟩
  unfold spec_WidthSum.f
  by_cases h : l.length ≤ 400
  · rw [if_neg (by omega), spec_PointsRight.eq _ (by omega)]
    simp only [Option.bind_some, spec_WidthSum.j0]
    by_cases g : ptsOK l = true
    · have hl := ptsOK_len g
      have := spec_WidthSum.loop l (by omega) l.length k 0 0 (by omega) (by omega) (by omega) (by omega) (by omega)
      simp only [Int.zero_add, List.drop_zero] at this
      rw [g, if_neg (by simp), if_pos rfl]
      exact this
    · have g : ptsOK l = false := by simpa using g
      simp [g]
  · have g : ptsOK l = false := by
      by_cases g : ptsOK l = true
      · have := ptsOK_len g; omega
      · simpa using g
    rw [if_pos (by omega)]
    simp [spec_WidthSum.j0, g]
theorem impl_within.eq (a b c : Int) : impl_within.f a b c = some (decide (b ≤ a ∧ a ≤ c)) := by
  unfold impl_within.f
  by_cases h : b ≤ a <;> simp [h]
theorem impl_isPoint.eq (a : Int) : impl_isPoint.f a = some (isPt a) := by
  simp only [impl_isPoint.f, impl_within.eq, Option.bind_some, isPt, decide_eq_true_eq]
  split <;> (refine some_b ?_; simp only [Bool.not_eq_true', decide_eq_true_eq, decide_eq_false_iff_not, Bool.false_eq_true]; first | omega | (rw [false_iff]; omega))
theorem slices_IndexFunc_sint64_int64.loop (l : List Int) (hl : l.length ≤ 300) (d : Nat) : ∀ (k i : Nat), i ≤ l.length → l.length - i = d → d < k → ∃ r : Int, slices_IndexFunc_sint64_int64.l0 k l (l.length : Int) (i : Int) = some r ∧ (0 ≤ r ↔ (l.drop i).all isPt = false) := by
  induction d with
  | zero =>
    intro k i hi hd hk
    obtain ⟨k, rfl⟩ : ∃ m, k = m + 1 := ⟨k - 1, by omega⟩
    refine ⟨-1, ?_, ?_⟩
    · simp only [slices_IndexFunc_sint64_int64.l0]
      rw [if_neg (by omega)]
    · rw [List.drop_eq_nil_of_le (by omega)]
      simp
  | succ d ih =>
    intro k i hi hd hk
    obtain ⟨k, rfl⟩ : ∃ m, k = m + 1 := ⟨k - 1, by omega⟩
    have hlt : i < l.length := by omega
    have hp : impl_PointsRight_1.f (rd l (i : Int)) = some (!isPt (rd l (i : Int))) := by
      unfold impl_PointsRight_1.f
      rw [impl_isPoint.eq]
      rfl
    simp only [slices_IndexFunc_sint64_int64.l0]
    rw [if_pos (int_lt hlt), if_pos (int_nn i), if_pos (int_lt hlt), hp, wrap_succ (by omega), drop_rd hlt]
    simp only [Option.bind_some, List.all_cons]
    cases isPt (rd l (i : Int))
    · exact ⟨i, by simp, by simp⟩
    · simpa using ih k (i + 1) (by omega) (by omega) (by omega)
theorem impl_PointsRight.eq (l : List Int) {k : Nat} (hk : 300 < k) : impl_PointsRight.f k l = some (ptsOK l) := by
  unfold impl_PointsRight.f ptsOK
  by_cases h : l.length ≤ 300
  · rw [if_pos (by omega)]
    obtain ⟨r, h1, h2⟩ := slices_IndexFunc_sint64_int64.loop l h l.length k 0 (by omega) (by omega) (by omega)
    unfold slices_ContainsFunc_sint64_int64.f slices_IndexFunc_sint64_int64.f
    rw [show ((0 : Nat) : Int) = 0 from rfl] at h1
    rw [h1]
    simp only [Option.bind_some, h, decide_true, Bool.true_and]
    rw [List.drop_zero] at h2
    refine some_b ?_
    cases hq : l.all isPt
    · have := h2.2 hq; simp; omega
    · have : ¬ 0 ≤ r := fun h3 => by rw [h2.1 h3] at hq; cases hq
      simp; omega
  · rw [if_neg (by omega)]
    simp [h]
theorem impl_isControl.eq (a : Int) : impl_isControl.f a = some (isCtl a) := by
  unfold impl_isControl.f isCtl
  by_cases h : a < 32
  · simp [h]
  · by_cases h2 : a = 127 <;> simp [h, h2]
def widTab : List S75 := [(⟨4352, 4447⟩ : S75), (⟨11904, 42191⟩ : S75), (⟨44032, 55203⟩ : S75), (⟨63744, 64255⟩ : S75), (⟨65281, 65376⟩ : S75), (⟨127744, 129791⟩ : S75)]
theorem impl_WidthOf.step (k : Nat) (a : Int) (i : Nat) (hi : i < 6) : impl_WidthOf.l0 (k + 1) a widTab 6 (i : Int) = if (rd_T75 widTab (i : Int)).f0 ≤ a ∧ a ≤ (rd_T75 widTab (i : Int)).f1 then some 2 else impl_WidthOf.l0 k a widTab 6 ((i + 1 : Nat) : Int) := by
  rw [impl_WidthOf.l0, if_pos (by omega), if_pos (by omega), if_pos (show (i : Int) < (widTab.length : Int) by show (i : Int) < ((6 : Nat) : Int); omega), impl_within.eq, wrap_succ (by omega)]
  simp only [Option.bind_some, decide_eq_true_eq]
theorem impl_WidthOf.loop (k : Nat) (a : Int) : impl_WidthOf.l0 (k + 7) a widTab 6 0 = some (if isWide2 a = true then 2 else 1) := by
  have e0 := impl_WidthOf.step (k + 6) a 0 (by decide)
  have e1 := impl_WidthOf.step (k + 5) a 1 (by decide)
  have e2 := impl_WidthOf.step (k + 4) a 2 (by decide)
  have e3 := impl_WidthOf.step (k + 3) a 3 (by decide)
  have e4 := impl_WidthOf.step (k + 2) a 4 (by decide)
  have e5 := impl_WidthOf.step (k + 1) a 5 (by decide)
  have e6 : impl_WidthOf.l0 (k + 1) a widTab 6 ((5 + 1 : Nat) : Int) = some 1 := by
    rw [impl_WidthOf.l0, if_neg (by decide)]
  rw [e6] at e5; rw [e5] at e4; rw [e4] at e3; rw [e3] at e2; rw [e2] at e1; rw [e1] at e0
  refine (show impl_WidthOf.l0 (k + 7) a widTab 6 0 = _ from e0).trans ?_
  show (if (4352 : Int) ≤ a ∧ a ≤ 4447 then some (2 : Int) else if (11904 : Int) ≤ a ∧ a ≤ 42191 then some 2 else if (44032 : Int) ≤ a ∧ a ≤ 55203 then some 2 else if (63744 : Int) ≤ a ∧ a ≤ 64255 then some 2 else if (65281 : Int) ≤ a ∧ a ≤ 65376 then some 2 else if (127744 : Int) ≤ a ∧ a ≤ 129791 then some 2 else some 1) = _
  unfold isWide2
  simp only [decide_eq_true_eq]
  (repeat' split) <;> first | rfl | omega
theorem impl_WidthOf.eq (a : Int) {k : Nat} (hk : 8 < k) : impl_WidthOf.f k a = some (wid a) := by
  obtain ⟨k, rfl⟩ : ∃ m, k = m + 8 := ⟨k - 8, by omega⟩
  have hj : ∀ b : Bool, impl_WidthOf.j0 (k + 8) a b = some (if b = true then 0 else if isCtl a = true ∨ isWide2 a = true then 2 else 1) := by
    intro b
    cases b
    · rw [impl_WidthOf.j0, if_neg (by decide), impl_isControl.eq]
      simp only [Option.bind_some, Bool.false_eq_true, if_false]
      have hl := impl_WidthOf.loop k a
      cases isCtl a
      · rw [if_neg (by decide)]
        refine Eq.trans (show _ = impl_WidthOf.l0 (k + 7) a widTab 6 0 from rfl) ?_
        rw [hl]
        simp
      · rfl
    · rw [impl_WidthOf.j0]
      rfl
  unfold impl_WidthOf.f wid
  rw [impl_isPoint.eq]
  simp only [Option.bind_some, impl_within.eq, hj, decide_eq_true_eq]
  by_cases h1 : isPt a = true
  · by_cases h2 : 768 ≤ a ∧ a ≤ 879
    · simp [h1, h2]
    · simp [h1, h2]
  · simp [h1]
theorem impl_WidthSum.loop (l : List Int) (hl : l.length ≤ 1048576) (d : Nat) : ∀ (k i : Nat) (s : Int), i ≤ l.length → l.length - i = d → d + 20 < k → 0 ≤ s → s ≤ 2 * (i : Int) → impl_WidthSum.l0 k s l (l.length : Int) (i : Int) = some (s + sumW (l.drop i)) := by
  induction d with
  | zero =>
    intro k i s hi hd hk h0 h1
    obtain ⟨k, rfl⟩ : ∃ m, k = m + 1 := ⟨k - 1, by omega⟩
    simp only [impl_WidthSum.l0]
    rw [if_neg (by omega), List.drop_eq_nil_of_le (by omega)]
    simp [sumW]
  | succ d ih =>
    intro k i s hi hd hk h0 h1
    obtain ⟨k, rfl⟩ : ∃ m, k = m + 1 := ⟨k - 1, by omega⟩
    have hlt : i < l.length := by omega
    have hw := wid_in (rd l (i : Int))
    simp only [impl_WidthSum.l0]
    rw [if_pos (int_lt hlt), if_pos (int_nn i), if_pos (int_lt hlt), impl_WidthOf.eq _ (by omega)]
    simp only [Option.bind_some]
    rw [wrap_succ (by omega), wrap_in (by omega) (by omega), ih k (i + 1) _ (by omega) (by omega) (by omega) (by omega) (by omega), drop_rd hlt]
    simp only [sumW]
    congr 1
    omega
theorem impl_WidthSum.eq {k : Nat} (l : List Int) (hk : 400 < k) : impl_WidthSum.f k l = some (if ptsOK l = true then sumW l else 0) := by
  unfold impl_WidthSum.f
  rw [impl_PointsRight.eq _ (by omega)]
  simp only [Option.bind_some]
  by_cases g : ptsOK l = true
  · have hl := ptsOK_len g
    have := impl_WidthSum.loop l (by omega) l.length k 0 0 (by omega) (by omega) (by omega) (by omega) (by omega)
    simp only [Int.zero_add, List.drop_zero] at this
    rw [if_pos g, if_pos g]
    exact this
  · rw [if_neg g, if_neg g]

theorem FnExactWidthSum : laws_FnExactWidthSum.Pure := by
  intro l _
  refine ⟨1048600, ?_⟩
  unfold laws_FnExactWidthSum.f
  by_cases h : (1048576 : Int) < (l.length : Int)
  · rw [if_pos h]
  · rw [if_neg h, laws_toInt64S.eq (by omega) (by omega)]
    simp only [Option.bind_some]
    rw [spec_WidthSum.eq _ (by omega), impl_WidthSum.eq _ (by omega)]
    simp only [Option.bind_some, if_true, laws_FnExactWidthSum.j0]
    rw [laws_toInt64S.eq (by omega) (by omega)]
    simp only [Option.bind_some]
    rw [laws_eqInt64S.eq (by omega) (by omega)]
    simp

end Go.Proofs.Ytefffjhnpojjlaa.Pure
