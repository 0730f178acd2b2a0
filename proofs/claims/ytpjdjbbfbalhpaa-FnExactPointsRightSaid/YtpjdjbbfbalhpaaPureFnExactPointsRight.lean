/- Proved: the program's PointsRight returns what the reference's returns, for every []int64, and leaves it as it was. No conditions. -/
import Derived.Test.YtpjdjbbfbalhpaaPFnExactPointsRightx1
namespace Go.Proofs.Ytpjdjbbfbalhpaa.Pure
open Go.RowKit Go.Proofs.Ytpjdjbbfbalhpaa.PFnExactPointsRight Go.Proofs.YtpjdjbbfbalhpaaW.PrintWords Go.Proofs.YtpjdjbbfbalhpaaW.PrintLast Go.Proofs.YtpjdjbbfbalhpaaW.PrintMore
set_option linter.unusedVariables false
set_option linter.unusedSimpArgs false

/-! ### plain words -/
theorem wrap_in {x : Int} (h0 : -9223372036854775808 ≤ x) (h1 : x ≤ 9223372036854775807) : wrap64 x = x := by unfold wrap64; omega
theorem wrap_succ {i : Nat} (h : i < 4611686018427387904) : wrap64 ((i : Int) + 1) = ((i + 1 : Nat) : Int) := by unfold wrap64; omega
theorem rd_nat (l : List Int) (i : Nat) : rd l (i : Int) = l.getD i 0 := by simp [rd]
theorem drop_rd {l : List Int} {i : Nat} (h : i < l.length) : l.drop i = rd l (i : Int) :: l.drop (i + 1) := by
  rw [rd_nat, List.drop_eq_getElem_cons h, List.getD_eq_getElem?_getD, List.getElem?_eq_getElem h]
  rfl
theorem int_lt {i n : Nat} (h : i < n) : (i : Int) < (n : Int) := by omega
theorem int_nlt {i n : Nat} (h : ¬ i < n) : ¬ (i : Int) < (n : Int) := by omega
theorem int_nn (i : Nat) : (0 : Int) ≤ (i : Int) := by omega
theorem maxLen_le {n : Nat} (h : n ≤ maxLen) : n ≤ 9223372036854775807 := by unfold maxLen at h; exact h
theorem some_b {a b : Bool} (h : a = true ↔ b = true) : some a = some b := congrArg some (Bool.eq_iff_iff.2 h)
def isPt (a : Int) : Bool := decide (0 ≤ a ∧ a ≤ 1114111 ∧ ¬ (55296 ≤ a ∧ a ≤ 57343))
def ptsOK (l : List Int) : Bool := decide (l.length ≤ 300) && l.all isPt
def bufOK (l : List Int) (c m : Int) : Bool := ptsOK l && decide (0 ≤ c ∧ c ≤ l.length) && decide (0 ≤ m ∧ m ≤ l.length)
def isCtl (a : Int) : Bool := decide (a < 32 ∨ a = 127)
def isWide2 (a : Int) : Bool := decide ((4352 ≤ a ∧ a ≤ 4447) ∨ (11904 ≤ a ∧ a ≤ 42191) ∨ (44032 ≤ a ∧ a ≤ 55203) ∨ (63744 ≤ a ∧ a ≤ 64255) ∨ (65281 ≤ a ∧ a ≤ 65376) ∨ (127744 ≤ a ∧ a ≤ 129791))
def wid (a : Int) : Int := if isPt a = true ∧ ¬ (768 ≤ a ∧ a ≤ 879) then (if isCtl a = true ∨ isWide2 a = true then 2 else 1) else 0
def cl2 (a : Int) : Int := if (97 ≤ a ∧ a ≤ 122) ∨ (65 ≤ a ∧ a ≤ 90) ∨ (48 ≤ a ∧ a ≤ 57) ∨ a = 95 ∨ 128 ≤ a then 2 else 3
def cls (a : Int) : Int := if isPt a = true then (if a = 32 ∨ a = 9 ∨ a = 10 then 1 else cl2 a) else 0
theorem laws_toInt64S.loop (l : List Int) (hl : l.length ≤ 1048576) (d : Nat) : ∀ (k i : Nat), i ≤ l.length → l.length - i = d → d < k → laws_toInt64S.l0 k l (l.take i ++ List.replicate (l.length - i) 0) (i : Int) = some l := by
  induction d with
  | zero =>
    intro k i hi hd hk
    obtain ⟨k, rfl⟩ : ∃ m, k = m + 1 := ⟨k - 1, by omega⟩
    obtain rfl : i = l.length := by omega
    simp only [laws_toInt64S.l0]
    rw [if_neg (by omega)]
    simp
  | succ d ih =>
    intro k i hi hd hk
    obtain ⟨k, rfl⟩ : ∃ m, k = m + 1 := ⟨k - 1, by omega⟩
    have hlt : i < l.length := by omega
    simp only [laws_toInt64S.l0]
    rw [if_pos (int_lt hlt), if_pos (int_nn i), if_pos (by simp; omega), wrap_succ (by omega), Int.toNat_natCast]
    have hs : (l.take i ++ List.replicate (l.length - i) 0).set i (rd l (i : Int)) = l.take (i + 1) ++ List.replicate (l.length - (i + 1)) 0 := by
      have h1 : (l.take i).length = i := by simp; omega
      rw [List.set_append_right _ _ (by omega), h1, Nat.sub_self, show l.length - i = (l.length - (i + 1)) + 1 by omega, List.replicate_succ, List.set_cons_zero, List.take_succ_eq_append_getElem hlt, rd_nat, List.getD_eq_getElem?_getD, List.getElem?_eq_getElem hlt, List.append_assoc]
      rfl
    rw [hs]
    exact ih k (i + 1) (by omega) (by omega) (by omega)
theorem laws_toInt64S.eq {l : List Int} {k : Nat} (hl : l.length ≤ 1048576) (hk : l.length < k) : laws_toInt64S.f k l = some l := by
  unfold laws_toInt64S.f
  rw [if_pos (by omega), if_pos (by omega), Int.toNat_natCast]
  have := laws_toInt64S.loop l hl l.length k 0 (by omega) (by omega) hk
  simpa using this
theorem laws_eqInt64S.loop (a b : List Int) (hab : a.length = b.length) (hl : a.length ≤ 1048576) (d : Nat) : ∀ (k i : Nat), i ≤ a.length → a.length - i = d → d < k → laws_eqInt64S.l0 k a b (i : Int) = some (decide (a.drop i = b.drop i)) := by
  induction d with
  | zero =>
    intro k i hi hd hk
    obtain ⟨k, rfl⟩ : ∃ m, k = m + 1 := ⟨k - 1, by omega⟩
    simp only [laws_eqInt64S.l0]
    rw [if_neg (by omega), List.drop_eq_nil_of_le (by omega), List.drop_eq_nil_of_le (by omega)]
    rfl
  | succ d ih =>
    intro k i hi hd hk
    obtain ⟨k, rfl⟩ : ∃ m, k = m + 1 := ⟨k - 1, by omega⟩
    have hlt : i < a.length := by omega
    simp only [laws_eqInt64S.l0]
    rw [if_pos (int_lt hlt), if_pos (int_nn i), if_pos (by omega), wrap_succ (by omega), ih k (i + 1) (by omega) (by omega) (by omega), drop_rd hlt, drop_rd (show i < b.length by omega)]
    by_cases h : rd a (i : Int) = rd b (i : Int)
    · rw [if_pos h, h]
      simp
    · rw [if_neg h]
      simp [h]
theorem laws_eqInt64S.eq {a b : List Int} {k : Nat} (hl : a.length ≤ 1048576) (hk : a.length < k) : laws_eqInt64S.f k a b = some (decide (a = b)) := by
  unfold laws_eqInt64S.f
  by_cases h : a.length = b.length
  · rw [if_pos (by omega)]
    have := laws_eqInt64S.loop a b h hl a.length k 0 (by omega) (by omega) hk
    simpa using this
  · rw [if_neg (by omega)]
    refine congrArg some (decide_eq_false (fun e => h (by rw [e]))).symm
theorem spec_l01Point.eq (a : Int) : spec_l01Point.f a = some (isPt a) := by
  simp only [spec_l01Point.f, isPt]
  (repeat' split) <;> (refine some_b ?_; simp only [Bool.not_eq_true', Bool.not_false, decide_eq_true_eq, decide_eq_false_iff_not, Bool.false_eq_true]; first | omega | (rw [false_iff]; omega) | (rw [true_iff]; omega))
theorem spec_PointsRight.loop (l : List Int) (hl : l.length ≤ 300) (d : Nat) : ∀ (k i : Nat), i ≤ l.length → l.length - i = d → d < k → spec_PointsRight.l0 k l (i : Int) = some ((l.drop i).all isPt) := by
  induction d with
  | zero =>
    intro k i hi hd hk
    obtain ⟨k, rfl⟩ : ∃ m, k = m + 1 := ⟨k - 1, by omega⟩
    simp only [spec_PointsRight.l0]
    rw [if_neg (by omega), List.drop_eq_nil_of_le (by omega)]
    rfl
  | succ d ih =>
    intro k i hi hd hk
    obtain ⟨k, rfl⟩ : ∃ m, k = m + 1 := ⟨k - 1, by omega⟩
    have hlt : i < l.length := by omega
    simp only [spec_PointsRight.l0]
    rw [if_pos (int_lt hlt), if_pos (int_nn i), spec_l01Point.eq, wrap_succ (by omega), ih k (i + 1) (by omega) (by omega) (by omega), drop_rd hlt]
    simp only [Option.bind_some, List.all_cons]
    cases isPt (rd l (i : Int)) <;> simp
theorem spec_PointsRight.eq (l : List Int) {k : Nat} (hk : 300 < k) : spec_PointsRight.f k l = some (ptsOK l) := by
  unfold spec_PointsRight.f ptsOK
  by_cases h : l.length ≤ 300
  · rw [if_neg (by omega)]
    have := spec_PointsRight.loop l h l.length k 0 (by omega) (by omega) (by omega)
    simp only [h, decide_true, Bool.true_and]
    simpa using this
  · rw [if_pos (by omega)]
    simp [h]
theorem impl_within.eq (a b c : Int) : impl_within.f a b c = some (decide (b ≤ a ∧ a ≤ c)) := by
  unfold impl_within.f
  by_cases h : b ≤ a <;> simp [h]
theorem impl_isPoint.eq (a : Int) : impl_isPoint.f a = some (isPt a) := by
  simp only [impl_isPoint.f, impl_within.eq, Option.bind_some, isPt, decide_eq_true_eq]
  split <;> (refine some_b ?_; simp only [Bool.not_eq_true', decide_eq_true_eq, decide_eq_false_iff_not, Bool.false_eq_true]; first | omega | (rw [false_iff]; omega))
theorem slices_IndexFunc_int64_int64.loop (l : List Int) (hl : l.length ≤ 300) (d : Nat) : ∀ (k i : Nat), i ≤ l.length → l.length - i = d → d < k → ∃ r : Int, slices_IndexFunc_int64_int64.l0 k l (l.length : Int) (i : Int) = some r ∧ (0 ≤ r ↔ (l.drop i).all isPt = false) := by
  induction d with
  | zero =>
    intro k i hi hd hk
    obtain ⟨k, rfl⟩ : ∃ m, k = m + 1 := ⟨k - 1, by omega⟩
    refine ⟨-1, ?_, ?_⟩
    · simp only [slices_IndexFunc_int64_int64.l0]
      rw [if_neg (by omega)]
    · rw [List.drop_eq_nil_of_le (by omega)]
      simp
  | succ d ih =>
    intro k i hi hd hk
    obtain ⟨k, rfl⟩ : ∃ m, k = m + 1 := ⟨k - 1, by omega⟩
    have hlt : i < l.length := by omega
    have hp : impl_PointsRight_1.f (rd l (i : Int)) = some (!isPt (rd l (i : Int))) := by
      unfold impl_PointsRight_1.f
      rw [impl_isPoint.eq]
      rfl
    simp only [slices_IndexFunc_int64_int64.l0]
    rw [if_pos (int_lt hlt), if_pos (int_nn i), if_pos (int_lt hlt), hp, wrap_succ (by omega), drop_rd hlt]
    simp only [Option.bind_some, List.all_cons]
    cases isPt (rd l (i : Int))
    · exact ⟨i, by simp, by simp⟩
    · simpa using ih k (i + 1) (by omega) (by omega) (by omega)
theorem impl_PointsRight.eq (l : List Int) {k : Nat} (hk : 300 < k) : impl_PointsRight.f k l = some (ptsOK l) := by
  unfold impl_PointsRight.f ptsOK
  by_cases h : l.length ≤ 300
  · rw [if_pos (by omega)]
    obtain ⟨r, h1, h2⟩ := slices_IndexFunc_int64_int64.loop l h l.length k 0 (by omega) (by omega) (by omega)
    unfold slices_ContainsFunc_int64_int64.f slices_IndexFunc_int64_int64.f
    rw [show ((0 : Nat) : Int) = 0 from rfl] at h1
    rw [h1]
    simp only [Option.bind_some, h, decide_true, Bool.true_and]
    rw [List.drop_zero] at h2
    refine some_b ?_
    cases hq : l.all isPt
    · have := h2.2 hq; simp; omega
    · have : ¬ 0 ≤ r := fun h3 => by rw [h2.1 h3] at hq; cases hq
      simp; omega
  · rw [if_neg (by omega)]
    simp [h]

theorem FnExactPointsRight : laws_FnExactPointsRight.Pure := by
  intro l _
  refine ⟨1048600, ?_⟩
  unfold laws_FnExactPointsRight.f
  by_cases h : (l.length : Int) > 1048576
  · rw [if_pos h]
  · rw [if_neg h, laws_toInt64S.eq (by omega) (by omega)]
    simp only [Option.bind_some]
    rw [spec_PointsRight.eq _ (by omega), impl_PointsRight.eq _ (by omega), laws_eqInt64S.eq (by omega) (by omega)]
    simp

end Go.Proofs.Ytpjdjbbfbalhpaa.Pure
