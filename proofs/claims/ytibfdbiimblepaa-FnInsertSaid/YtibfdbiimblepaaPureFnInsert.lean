/- Proved: for every code of at most 2^20 bytes, points inserted into the buffer drawn from it stand ahead of its cursor, and deleting them leaves the buffer as it was. No conditions. -/
import Derived.Test.YtibfdbiimblepaaPFnInsertx9
namespace Go.Proofs.Ytibfdbiimblepaa.Pure
open Go.RowKit Go.Proofs.Ytibfdbiimblepaa.PFnInsert Go.Proofs.YtibfdbiimblepaaW.PrintWords Go.Proofs.YtibfdbiimblepaaW.PrintLast Go.Proofs.YtibfdbiimblepaaW.PrintMore
set_option linter.unusedVariables false
set_option linter.unusedSimpArgs false

/-! ### plain words -/
theorem wrap_in {x : Int} (h0 : -9223372036854775808 ≤ x) (h1 : x ≤ 9223372036854775807) : wrap64 x = x := by unfold wrap64; omega
theorem wrap_succ {i : Nat} (h : i < 4611686018427387904) : wrap64 ((i : Int) + 1) = ((i + 1 : Nat) : Int) := by unfold wrap64; omega
theorem rd_nat (l : List Int) (i : Nat) : rd l (i : Int) = l.getD i 0 := by simp [rd]
theorem drop_rd {l : List Int} {i : Nat} (h : i < l.length) : l.drop i = rd l (i : Int) :: l.drop (i + 1) := by
  rw [rd_nat, List.drop_eq_getElem_cons h, List.getD_eq_getElem?_getD, List.getElem?_eq_getElem h]
  rfl
theorem int_lt {i n : Nat} (h : i < n) : (i : Int) < (n : Int) := by omega
theorem int_nlt {i n : Nat} (h : ¬ i < n) : ¬ (i : Int) < (n : Int) := by omega
theorem int_nn (i : Nat) : (0 : Int) ≤ (i : Int) := by omega
theorem maxLen_le {n : Nat} (h : n ≤ maxLen) : n ≤ 9223372036854775807 := by unfold maxLen at h; exact h
theorem some_b {a b : Bool} (h : a = true ↔ b = true) : some a = some b := congrArg some (Bool.eq_iff_iff.2 h)
def isPt (a : Int) : Bool := decide (0 ≤ a ∧ a ≤ 1114111 ∧ ¬ (55296 ≤ a ∧ a ≤ 57343))
def ptsOK (l : List Int) : Bool := decide (l.length ≤ 300) && l.all isPt
def bufOK (l : List Int) (c m : Int) : Bool := ptsOK l && decide (0 ≤ c ∧ c ≤ l.length) && decide (0 ≤ m ∧ m ≤ l.length)
def isCtl (a : Int) : Bool := decide (a < 32 ∨ a = 127)
def isWide2 (a : Int) : Bool := decide ((4352 ≤ a ∧ a ≤ 4447) ∨ (11904 ≤ a ∧ a ≤ 42191) ∨ (44032 ≤ a ∧ a ≤ 55203) ∨ (63744 ≤ a ∧ a ≤ 64255) ∨ (65281 ≤ a ∧ a ≤ 65376) ∨ (127744 ≤ a ∧ a ≤ 129791))
def wid (a : Int) : Int := if isPt a = true ∧ ¬ (768 ≤ a ∧ a ≤ 879) then (if isCtl a = true ∨ isWide2 a = true then 2 else 1) else 0
def cl2 (a : Int) : Int := if (97 ≤ a ∧ a ≤ 122) ∨ (65 ≤ a ∧ a ≤ 90) ∨ (48 ≤ a ∧ a ≤ 57) ∨ a = 95 ∨ 128 ≤ a then 2 else 3
def cls (a : Int) : Int := if isPt a = true then (if a = 32 ∨ a = 9 ∨ a = 10 then 1 else cl2 a) else 0
theorem ptsOK_len {l : List Int} (h : ptsOK l = true) : l.length ≤ 300 := by
  unfold ptsOK at h
  simp only [Bool.and_eq_true, decide_eq_true_eq] at h
  exact h.1
theorem bufOK_len {l : List Int} {c m : Int} (h : bufOK l c m = true) : l.length ≤ 300 := by
  unfold bufOK at h
  simp only [Bool.and_eq_true] at h
  exact ptsOK_len h.1.1
theorem bufOK_all {l : List Int} {c m : Int} (h : bufOK l c m = true) : l.length ≤ 300 ∧ 0 ≤ c ∧ c ≤ l.length ∧ 0 ≤ m ∧ m ≤ l.length := by
  have hl := bufOK_len h
  unfold bufOK at h
  simp only [Bool.and_eq_true, decide_eq_true_eq] at h
  exact ⟨hl, h.1.2.1, h.1.2.2, h.2.1, h.2.2⟩
theorem impl_within.eq (a b c : Int) : impl_within.f a b c = some (decide (b ≤ a ∧ a ≤ c)) := by
  unfold impl_within.f
  by_cases h : b ≤ a <;> simp [h]
theorem impl_isPoint.eq (a : Int) : impl_isPoint.f a = some (isPt a) := by
  simp only [impl_isPoint.f, impl_within.eq, Option.bind_some, isPt, decide_eq_true_eq]
  split <;> (refine some_b ?_; simp only [Bool.not_eq_true', decide_eq_true_eq, decide_eq_false_iff_not, Bool.false_eq_true]; first | omega | (rw [false_iff]; omega))
theorem slices_IndexFunc_sint64_int64.loop (l : List Int) (hl : l.length ≤ 300) (d : Nat) : ∀ (k i : Nat), i ≤ l.length → l.length - i = d → d < k → ∃ r : Int, slices_IndexFunc_sint64_int64.l0 k l (l.length : Int) (i : Int) = some r ∧ (0 ≤ r ↔ (l.drop i).all isPt = false) := by
  induction d with
  | zero =>
    intro k i hi hd hk
    obtain ⟨k, rfl⟩ : ∃ m, k = m + 1 := ⟨k - 1, by omega⟩
    refine ⟨-1, ?_, ?_⟩
    · simp only [slices_IndexFunc_sint64_int64.l0]
      rw [if_neg (by omega)]
    · rw [List.drop_eq_nil_of_le (by omega)]
      simp
  | succ d ih =>
    intro k i hi hd hk
    obtain ⟨k, rfl⟩ : ∃ m, k = m + 1 := ⟨k - 1, by omega⟩
    have hlt : i < l.length := by omega
    have hp : impl_PointsRight_1.f (rd l (i : Int)) = some (!isPt (rd l (i : Int))) := by
      unfold impl_PointsRight_1.f
      rw [impl_isPoint.eq]
      rfl
    simp only [slices_IndexFunc_sint64_int64.l0]
    rw [if_pos (int_lt hlt), if_pos (int_nn i), if_pos (int_lt hlt), hp, wrap_succ (by omega), drop_rd hlt]
    simp only [Option.bind_some, List.all_cons]
    cases isPt (rd l (i : Int))
    · exact ⟨i, by simp, by simp⟩
    · simpa using ih k (i + 1) (by omega) (by omega) (by omega)
theorem impl_PointsRight.eq (l : List Int) {k : Nat} (hk : 300 < k) : impl_PointsRight.f k l = some (ptsOK l) := by
  unfold impl_PointsRight.f ptsOK
  by_cases h : l.length ≤ 300
  · rw [if_pos (by omega)]
    obtain ⟨r, h1, h2⟩ := slices_IndexFunc_sint64_int64.loop l h l.length k 0 (by omega) (by omega) (by omega)
    unfold slices_ContainsFunc_sint64_int64.f slices_IndexFunc_sint64_int64.f
    rw [show ((0 : Nat) : Int) = 0 from rfl] at h1
    rw [h1]
    simp only [Option.bind_some, h, decide_true, Bool.true_and]
    rw [List.drop_zero] at h2
    refine some_b ?_
    cases hq : l.all isPt
    · have := h2.2 hq; simp; omega
    · have : ¬ 0 ≤ r := fun h3 => by rw [h2.1 h3] at hq; cases hq
      simp; omega
  · rw [if_neg (by omega)]
    simp [h]
theorem impl_Buf_isPlace.eq (l : List Int) (c m a : Int) : impl_Buf_isPlace.f l c m a = some (decide (0 ≤ a ∧ a ≤ l.length)) := by
  simp only [impl_Buf_isPlace.f, impl_size_int64.f, impl_within.eq, Option.bind_some]
theorem impl_BufRight.eq (l : List Int) (c m : Int) {k : Nat} (hk : 300 < k) : impl_BufRight.f k l c m = some (bufOK l c m) := by
  unfold impl_BufRight.f bufOK
  rw [impl_PointsRight.eq l hk]
  simp only [Option.bind_some, impl_Buf_isPlace.eq]
  cases ptsOK l
  · simp
  · simp only [if_true, Bool.true_and]
    by_cases h : 0 ≤ c ∧ c ≤ (l.length : Int) <;> simp [h]
theorem spec_l01Point.eq (a : Int) : spec_l01Point.f a = some (isPt a) := by
  simp only [spec_l01Point.f, isPt]
  (repeat' split) <;> (refine some_b ?_; simp only [Bool.not_eq_true', Bool.not_false, decide_eq_true_eq, decide_eq_false_iff_not, Bool.false_eq_true]; first | omega | (rw [false_iff]; omega) | (rw [true_iff]; omega))
theorem spec_PointsRight.loop (l : List Int) (hl : l.length ≤ 300) (d : Nat) : ∀ (k i : Nat), i ≤ l.length → l.length - i = d → d < k → spec_PointsRight.l0 k l (i : Int) = some ((l.drop i).all isPt) := by
  induction d with
  | zero =>
    intro k i hi hd hk
    obtain ⟨k, rfl⟩ : ∃ m, k = m + 1 := ⟨k - 1, by omega⟩
    simp only [spec_PointsRight.l0]
    rw [if_neg (by omega), List.drop_eq_nil_of_le (by omega)]
    rfl
  | succ d ih =>
    intro k i hi hd hk
    obtain ⟨k, rfl⟩ : ∃ m, k = m + 1 := ⟨k - 1, by omega⟩
    have hlt : i < l.length := by omega
    simp only [spec_PointsRight.l0]
    rw [if_pos (int_lt hlt), if_pos (int_nn i), spec_l01Point.eq, wrap_succ (by omega), ih k (i + 1) (by omega) (by omega) (by omega), drop_rd hlt]
    simp only [Option.bind_some, List.all_cons]
    cases isPt (rd l (i : Int)) <;> simp
theorem spec_PointsRight.eq (l : List Int) {k : Nat} (hk : 300 < k) : spec_PointsRight.f k l = some (ptsOK l) := by
  unfold spec_PointsRight.f ptsOK
  by_cases h : l.length ≤ 300
  · rw [if_neg (by omega)]
    have := spec_PointsRight.loop l h l.length k 0 (by omega) (by omega) (by omega)
    simp only [h, decide_true, Bool.true_and]
    simpa using this
  · rw [if_pos (by omega)]
    simp [h]
theorem spec_BufRight.eq (l : List Int) (c m : Int) {k : Nat} (hk : 300 < k) : spec_BufRight.f k l c m = some (bufOK l c m) := by
  unfold spec_BufRight.f bufOK
  rw [spec_PointsRight.eq l hk]
  simp only [Option.bind_some]
  cases ptsOK l
  · simp
  · simp only [if_true, Bool.true_and]
    (repeat' split) <;> (refine some_b ?_; simp only [Bool.and_eq_true, decide_eq_true_eq, Bool.false_eq_true]; first | omega | (rw [false_iff]; omega))
theorem slices_Clone_sint64_int64.eq {l : List Int} (h : l.length ≤ 2000000) : slices_Clone_sint64_int64.f l = some l := by
  unfold slices_Clone_sint64_int64.f
  simp only [Option.bind_some, List.length_nil, List.nil_append]
  rw [if_pos (by omega)]
theorem spec_l01Copy.eq {l : List Int} (h : l.length ≤ 2000000) : spec_l01Copy.f l = some l := by
  unfold spec_l01Copy.f
  simp only [Option.bind_some, List.length_nil, List.nil_append]
  rw [if_pos (by omega)]
theorem impl_size_int64.eq (l : List Int) : impl_size_int64.f l = some (l.length : Int) := rfl
theorem wr_01 : wrap64 (0 + 1) = 1 := by unfold wrap64; omega
theorem wr_12 : wrap64 (1 + 1) = 2 := by unfold wrap64; omega
theorem wr_23 : wrap64 (2 + 1) = 3 := by unfold wrap64; omega
theorem slices_Grow_sint64_int64.eq {n : Int} (h0 : 0 ≤ n) (h1 : n ≤ 4000000) : slices_Grow_sint64_int64.f [] n = some [] := by
  unfold slices_Grow_sint64_int64.f
  rw [if_pos (show ([] : List Int).length = 0 from rfl), if_pos h0, if_pos (by omega)]
theorem slices_Concat_sint64_int64.eq3 {x y z : List Int} (hx : x.length ≤ 1000000) (hy : y.length ≤ 1000000) (hz : z.length ≤ 1000000) {k : Nat} (hk : 20 < k) : slices_Concat_sint64_int64.f k [x, y, z] = some (x ++ y ++ z) := by
  have hlen : (([x, y, z] : List (List Int)).length : Int) = 3 := rfl
  have r0 : rd_L2 [x, y, z] 0 = x := rfl
  have r1 : rd_L2 [x, y, z] 1 = y := rfl
  have r2 : rd_L2 [x, y, z] 2 = z := rfl
  unfold slices_Concat_sint64_int64.f
  obtain ⟨k, rfl⟩ : ∃ j, k = j + 1 := ⟨k - 1, by omega⟩
  simp only [slices_Concat_sint64_int64.l0]
  rw [hlen, if_pos (by omega), if_pos (by omega), if_pos (by omega), r0, wrap_in (x := 0 + (x.length : Int)) (by omega) (by omega), Int.zero_add, if_neg (by omega), wr_01]
  obtain ⟨k, rfl⟩ : ∃ j, k = j + 1 := ⟨k - 1, by omega⟩
  simp only [slices_Concat_sint64_int64.l0]
  rw [hlen, if_pos (by omega), if_pos (by omega), if_pos (by omega), r1, wrap_in (x := (x.length : Int) + (y.length : Int)) (by omega) (by omega), if_neg (by omega), wr_12]
  obtain ⟨k, rfl⟩ : ∃ j, k = j + 1 := ⟨k - 1, by omega⟩
  simp only [slices_Concat_sint64_int64.l0]
  rw [hlen, if_pos (by omega), if_pos (by omega), if_pos (by omega), r2, wrap_in (x := (x.length : Int) + (y.length : Int) + (z.length : Int)) (by omega) (by omega), if_neg (by omega), wr_23]
  obtain ⟨k, rfl⟩ : ∃ j, k = j + 1 := ⟨k - 1, by omega⟩
  simp only [slices_Concat_sint64_int64.l0]
  rw [if_neg (by omega), slices_Grow_sint64_int64.eq (by omega) (by omega)]
  simp only [Option.bind_some]
  obtain ⟨k, rfl⟩ : ∃ j, k = j + 1 := ⟨k - 1, by omega⟩
  simp only [slices_Concat_sint64_int64.l1]
  rw [hlen, if_pos (by omega), if_pos (by omega), if_pos (by omega), r0, if_pos (by simp; omega), wr_01]
  obtain ⟨k, rfl⟩ : ∃ j, k = j + 1 := ⟨k - 1, by omega⟩
  simp only [slices_Concat_sint64_int64.l1]
  rw [hlen, if_pos (by omega), if_pos (by omega), if_pos (by omega), r1, if_pos (by simp; omega), wr_12]
  obtain ⟨k, rfl⟩ : ∃ j, k = j + 1 := ⟨k - 1, by omega⟩
  simp only [slices_Concat_sint64_int64.l1]
  rw [hlen, if_pos (by omega), if_pos (by omega), if_pos (by omega), r2, if_pos (by simp; omega), wr_23]
  obtain ⟨k, rfl⟩ : ∃ j, k = j + 1 := ⟨k - 1, by omega⟩
  simp only [slices_Concat_sint64_int64.l1]
  rw [if_neg (by omega), List.nil_append]
def movd (x a b d : Int) : Int := if x ≤ a then x else if x < b then a else x + d
def rplW (l : List Int) (c m a b : Int) (p : List Int) : List Int × Int × Int × List Int × Int :=
  (l.take a.toNat ++ p ++ l.drop b.toNat, (if a = b ∧ c = a then a + (p.length : Int) else movd c a b ((p.length : Int) - (b - a))), movd m a b ((p.length : Int) - (b - a)), (l.take b.toNat).drop a.toNat, 0)
def rplR (l : List Int) (c m a b : Int) (p : List Int) : List Int × Int × Int × List Int × Int :=
  if 0 ≤ a ∧ a ≤ b ∧ b ≤ (l.length : Int) then (if (l.length : Int) - (b - a) + (p.length : Int) > 300 then ([], 0, 0, [], 5) else rplW l c m a b p) else ([], 0, 0, [], 8)
def rplV (l : List Int) (c m a b : Int) (p : List Int) : List Int × Int × Int × List Int × Int :=
  if 400 < p.length then ([], 0, 0, [], 2) else if bufOK l c m = true ∧ ptsOK p = true then rplR l c m a b p else ([], 0, 0, [], 1)
theorem spec_l02Moved.eq {x a b d : Int} (h0 : -1000000 ≤ x + d) (h1 : x + d ≤ 1000000) : spec_l02Moved.f x a b d = some (movd x a b d) := by
  unfold spec_l02Moved.f movd
  rw [wrap_in (by omega) (by omega)]
  (repeat' split) <;> rfl
theorem impl_replace_1.eq {x a b d : Int} (h0 : -1000000 ≤ x + d) (h1 : x + d ≤ 1000000) : impl_replace_1.f x a b d = some (movd x a b d) := by
  unfold impl_replace_1.f movd
  rw [wrap_in (by omega) (by omega)]
  (repeat' split) <;> rfl
theorem rplR_out {l p : List Int} {c m a b : Int} (h : a < 0 ∨ a > b ∨ b > (l.length : Int)) : rplR l c m a b p = ([], 0, 0, [], 8) := by
  unfold rplR
  rw [if_neg (by omega)]
theorem spec_BufReplace.eq (l : List Int) (c m a b : Int) (p : List Int) {k : Nat} (hk : 3000 < k) : spec_BufReplace.f k l c m a b p = some (rplV l c m a b p) := by
  unfold spec_BufReplace.f rplV
  obtain ⟨k, rfl⟩ : ∃ j, k = j + 3 := ⟨k - 3, by omega⟩
  by_cases h4 : 400 < p.length
  · rw [if_pos (by omega), if_pos h4]
  rw [if_neg (by omega), if_neg h4, spec_BufRight.eq _ _ _ (by omega)]
  simp only [Option.bind_some]
  by_cases hR : bufOK l c m = true ∧ ptsOK p = true
  · rw [if_pos hR, if_pos hR.1, spec_PointsRight.eq _ (by omega)]
    obtain ⟨hl, hc0, hc1, hm0, hm1⟩ := bufOK_all hR.1
    have hp := ptsOK_len hR.2
    simp only [Option.bind_some, hR.2, Bool.not_true]
    rw [spec_BufReplace.j0, if_neg (by decide)]
    by_cases h1 : a < 0
    · rw [if_pos h1, rplR_out (by omega), spec_BufReplace.j1, if_pos rfl]
    rw [if_neg h1]
    by_cases h2 : a > b
    · rw [if_pos h2, rplR_out (by omega), spec_BufReplace.j1, if_pos rfl]
    rw [if_neg h2]
    by_cases h3 : b > (l.length : Int)
    · rw [decide_eq_true h3, rplR_out (by omega), spec_BufReplace.j1, if_pos rfl]
    rw [decide_eq_false h3, spec_BufReplace.j1, if_neg (by decide)]
    simp only [wrap_in (x := b - a) (by omega) (by omega), wrap_in (x := (l.length : Int) - (b - a)) (by omega) (by omega), wrap_in (x := (l.length : Int) - (b - a) + (p.length : Int)) (by omega) (by omega), wrap_in (x := (p.length : Int) - (b - a)) (by omega) (by omega)]
    unfold rplR
    rw [if_pos (show 0 ≤ a ∧ a ≤ b ∧ b ≤ (l.length : Int) by omega)]
    by_cases hf : (l.length : Int) - (b - a) + (p.length : Int) > 300
    · rw [if_pos hf, if_pos hf]
    rw [if_neg hf, if_neg hf, spec_l02Moved.eq (by omega) (by omega), spec_l02Moved.eq (by omega) (by omega)]
    simp only [Option.bind_some]
    rw [if_pos (by omega), if_pos (by omega), spec_l01Copy.eq (by rw [List.length_take]; omega)]
    simp only [Option.bind_some]
    rw [if_pos (by rw [List.length_take]; omega), if_pos (by omega), if_pos (by omega), if_pos (by rw [List.length_append, List.length_take, List.length_drop]; omega), spec_l01Copy.eq (by rw [List.length_drop, List.length_take]; omega)]
    have hj : ∀ u v : Int, spec_BufReplace.j2 (k + 1) a b l c m (l.take a.toNat ++ p ++ l.drop b.toNat) u v = some (l.take a.toNat ++ p ++ l.drop b.toNat, u, v, (l.take b.toNat).drop a.toNat, 0) := fun u v => by
      rw [spec_BufReplace.j2, if_pos (by omega), if_pos (by omega), if_pos (by omega), spec_l01Copy.eq (by rw [List.length_drop, List.length_take]; omega)]
      rfl
    simp only [Option.bind_some, hj, wrap_in (x := a + (p.length : Int)) (by omega) (by omega)]
    unfold rplW
    by_cases e1 : a = b
    · by_cases e2 : c = a
      · rw [if_pos e1, if_pos e2, if_pos ⟨e1, e2⟩]
      · rw [if_pos e1, if_neg e2, if_neg (fun e => e2 e.2)]
    · rw [if_neg e1, if_pos (by omega), if_neg (fun e => e1 e.1)]
  · rw [if_neg hR]
    by_cases h5 : bufOK l c m = true
    · have h6 : ptsOK p = false := by
        cases h : ptsOK p
        · rfl
        · exact absurd ⟨h5, h⟩ hR
      rw [if_pos h5, spec_PointsRight.eq _ (by omega), h6]
      simp only [Option.bind_some, Bool.not_false]
      rw [spec_BufReplace.j0, if_pos rfl]
    · rw [if_neg h5, spec_BufReplace.j0, if_pos rfl]
theorem impl_replace.eq {l : List Int} {c m a b : Int} {p : List Int} (hR : bufOK l c m = true) (hp : p.length ≤ 400) {k : Nat} (hk : 3000 < k) : impl_replace.f k l c m a b p = some (rplR l c m a b p) := by
  obtain ⟨k, rfl⟩ : ∃ j, k = j + 3 := ⟨k - 3, by omega⟩
  obtain ⟨hl, hc0, hc1, hm0, hm1⟩ := bufOK_all hR
  unfold impl_replace.f
  by_cases h1 : a < 0
  · rw [if_pos h1, rplR_out (by omega), impl_replace.j0, if_pos rfl]
  rw [if_neg h1]
  by_cases h2 : a > b
  · rw [if_pos h2, rplR_out (by omega), impl_replace.j0, if_pos rfl]
  rw [if_neg h2, impl_size_int64.eq]
  simp only [Option.bind_some]
  by_cases h3 : b > (l.length : Int)
  · rw [decide_eq_true h3, rplR_out (by omega), impl_replace.j0, if_pos rfl]
  rw [decide_eq_false h3, impl_replace.j0, if_neg (by decide)]
  simp only [impl_size_int64.eq, Option.bind_some, wrap_in (x := b - a) (by omega) (by omega), wrap_in (x := (l.length : Int) + ((p.length : Int) - (b - a))) (by omega) (by omega), wrap_in (x := (p.length : Int) - (b - a)) (by omega) (by omega)]
  unfold rplR
  rw [if_pos (show 0 ≤ a ∧ a ≤ b ∧ b ≤ (l.length : Int) by omega)]
  by_cases hf : (l.length : Int) - (b - a) + (p.length : Int) > 300
  · rw [if_pos hf, if_pos (by omega)]
  rw [if_neg hf, if_neg (by omega), if_pos (by omega), if_pos (by omega), if_pos (by omega), if_pos (by omega), slices_Concat_sint64_int64.eq3 (by rw [List.length_take]; omega) (by omega) (by rw [List.length_drop]; omega) (by omega)]
  simp only [Option.bind_some]
  rw [impl_replace_1.eq (by omega) (by omega), impl_replace_1.eq (by omega) (by omega)]
  have hj : ∀ (k : Nat) (u v : Int), impl_replace.j2 (k + 1) l c m a b (l.take a.toNat ++ p ++ l.drop b.toNat) u v = some (l.take a.toNat ++ p ++ l.drop b.toNat, u, v, (l.take b.toNat).drop a.toNat, 0) := fun k u v => by
    rw [impl_replace.j2, if_pos (by omega), if_pos (by omega), if_pos (by omega), slices_Clone_sint64_int64.eq (by rw [List.length_drop, List.length_take]; omega)]
    rfl
  simp only [Option.bind_some]
  unfold rplW
  by_cases e1 : a = b
  · rw [if_pos e1, impl_replace.j1, impl_size_int64.eq]
    simp only [Option.bind_some, hj, wrap_in (x := a + (p.length : Int)) (by omega) (by omega), beq_iff_eq]
    by_cases e2 : c = a
    · rw [if_pos e2, if_pos ⟨e1, e2⟩]
    · rw [if_neg e2, if_neg (fun e => e2 e.2)]
  · rw [if_neg e1, impl_replace.j1, if_neg (by decide), hj, if_neg (fun e => e1 e.1)]
theorem impl_BufReplace.eq (l : List Int) (c m a b : Int) (p : List Int) {k : Nat} (hk : 3000 < k) : impl_BufReplace.f k l c m a b p = some (rplV l c m a b p) := by
  unfold impl_BufReplace.f impl_isMany.f rplV
  simp only [Option.bind_some, decide_eq_true_eq]
  by_cases h4 : 400 < p.length
  · rw [if_pos (by omega), if_pos h4]
  rw [if_neg (by omega), if_neg h4, impl_BufRight.eq _ _ _ (by omega)]
  simp only [Option.bind_some]
  by_cases h5 : bufOK l c m = true
  · rw [if_pos h5, impl_PointsRight.eq _ (by omega)]
    simp only [Option.bind_some]
    by_cases h6 : ptsOK p = true
    · rw [if_pos h6, impl_replace.eq h5 (by omega) (by omega), if_pos ⟨h5, h6⟩]
      rfl
    · rw [if_neg h6, if_neg (fun e => h6 e.2)]
  · rw [if_neg h5, if_neg (fun e => h5 e.1)]
theorem rplV_len (l : List Int) (c m a b : Int) (p : List Int) : (rplV l c m a b p).1.length ≤ 300 ∧ (rplV l c m a b p).2.2.2.1.length ≤ 300 := by
  unfold rplV
  by_cases h4 : 400 < p.length
  · rw [if_pos h4]; exact ⟨by simp, by simp⟩
  rw [if_neg h4]
  by_cases hR : bufOK l c m = true ∧ ptsOK p = true
  · rw [if_pos hR]
    have hl := bufOK_len hR.1
    unfold rplR
    by_cases hr : 0 ≤ a ∧ a ≤ b ∧ b ≤ (l.length : Int)
    · rw [if_pos hr]
      by_cases hf : (l.length : Int) - (b - a) + (p.length : Int) > 300
      · rw [if_pos hf]; exact ⟨by simp, by simp⟩
      · rw [if_neg hf]
        unfold rplW
        refine ⟨?_, ?_⟩
        · show (l.take a.toNat ++ p ++ l.drop b.toNat).length ≤ 300
          rw [List.length_append, List.length_append, List.length_take, List.length_drop]; omega
        · show ((l.take b.toNat).drop a.toNat).length ≤ 300
          rw [List.length_drop, List.length_take]; omega
    · rw [if_neg hr]; exact ⟨by simp, by simp⟩
  · rw [if_neg hR]; exact ⟨by simp, by simp⟩
theorem ptsOK_at {l : List Int} : ptsOK l = true ↔ l.length ≤ 300 ∧ ∀ x ∈ l, isPt x = true := by
  unfold ptsOK
  simp only [Bool.and_eq_true, decide_eq_true_eq, List.all_eq_true]
theorem bufOK_mk {l : List Int} {c m : Int} (h : ptsOK l = true) (hc : 0 ≤ c ∧ c ≤ (l.length : Int)) (hm : 0 ≤ m ∧ m ≤ (l.length : Int)) : bufOK l c m = true := by
  unfold bufOK
  simp only [Bool.and_eq_true, decide_eq_true_eq]
  exact ⟨⟨h, hc⟩, hm⟩
theorem bufOK_pts {l : List Int} {c m : Int} (h : bufOK l c m = true) : ptsOK l = true := by
  unfold bufOK at h
  simp only [Bool.and_eq_true] at h
  exact h.1.1
theorem movd_in {x a b d n : Int} (h0 : 0 ≤ x) (h1 : x ≤ n) (ha : 0 ≤ a) (hab : a ≤ b) (hb : b ≤ n) (hd : a - b ≤ d) : 0 ≤ movd x a b d ∧ movd x a b d ≤ n + d := by
  unfold movd
  split
  · omega
  · split <;> omega
theorem rplV_cases (l : List Int) (c m a b : Int) (p : List Int) : (rplV l c m a b p = rplW l c m a b p ∧ bufOK l c m = true ∧ ptsOK p = true ∧ 0 ≤ a ∧ a ≤ b ∧ b ≤ (l.length : Int) ∧ (l.length : Int) - (b - a) + (p.length : Int) ≤ 300) ∨ ∃ n : Int, n ≠ 0 ∧ rplV l c m a b p = ([], 0, 0, [], n) := by
  unfold rplV
  by_cases h4 : 400 < p.length
  · rw [if_pos h4]; exact .inr ⟨2, by decide, rfl⟩
  rw [if_neg h4]
  by_cases hR : bufOK l c m = true ∧ ptsOK p = true
  · rw [if_pos hR]
    unfold rplR
    by_cases hr : 0 ≤ a ∧ a ≤ b ∧ b ≤ (l.length : Int)
    · rw [if_pos hr]
      by_cases hf : (l.length : Int) - (b - a) + (p.length : Int) > 300
      · rw [if_pos hf]; exact .inr ⟨5, by decide, rfl⟩
      · rw [if_neg hf]; exact .inl ⟨rfl, hR.1, hR.2, hr.1, hr.2.1, hr.2.2, by omega⟩
    · rw [if_neg hr]; exact .inr ⟨8, by decide, rfl⟩
  · rw [if_neg hR]; exact .inr ⟨1, by decide, rfl⟩
theorem cut_back (l p : List Int) (i j : Nat) (hij : i ≤ j) (hj : j ≤ l.length) : (l.take i ++ p ++ l.drop j).take i ++ (l.take j).drop i ++ (l.take i ++ p ++ l.drop j).drop (i + p.length) = l := by
  have h1 : (l.take i ++ p ++ l.drop j).take i = l.take i := by
    rw [List.append_assoc]
    exact List.take_left' (by rw [List.length_take]; omega)
  have h2 : (l.take i ++ p ++ l.drop j).drop (i + p.length) = l.drop j := List.drop_left' (by rw [List.length_append, List.length_take]; omega)
  have h3 : l.take i = (l.take j).take i := by rw [List.take_take, Nat.min_eq_left hij]
  rw [h1, h2, h3, List.take_append_drop, List.take_append_drop]
theorem cut_gone (l p : List Int) (i j : Nat) (hij : i ≤ j) (hj : j ≤ l.length) : ((l.take i ++ p ++ l.drop j).take (i + p.length)).drop i = p := by
  rw [List.take_left' (by rw [List.length_append, List.length_take]; omega)]
  exact List.drop_left' (by rw [List.length_take]; omega)
theorem rplW_right {l p : List Int} {c m a b : Int} (hR : bufOK l c m = true) (hp : ptsOK p = true) (ha : 0 ≤ a) (hab : a ≤ b) (hb : b ≤ (l.length : Int)) (hf : (l.length : Int) - (b - a) + (p.length : Int) ≤ 300) :
    bufOK (rplW l c m a b p).1 (rplW l c m a b p).2.1 (rplW l c m a b p).2.2.1 = true ∧ ptsOK (rplW l c m a b p).2.2.2.1 = true ∧ ((rplW l c m a b p).2.2.2.1.length : Int) = b - a ∧ ((rplW l c m a b p).1.length : Int) = (l.length : Int) - (b - a) + (p.length : Int) := by
  obtain ⟨hl, hc0, hc1, hm0, hm1⟩ := bufOK_all hR
  obtain ⟨_, hL⟩ := ptsOK_at.1 (bufOK_pts hR)
  obtain ⟨hpl, hP⟩ := ptsOK_at.1 hp
  obtain ⟨i, rfl⟩ : ∃ i : Nat, a = (i : Int) := ⟨a.toNat, by omega⟩
  obtain ⟨j, rfl⟩ : ∃ j : Nat, b = (j : Int) := ⟨b.toNat, by omega⟩
  unfold rplW
  simp only [Int.toNat_natCast]
  have hlen : (l.take i ++ p ++ l.drop j).length = i + p.length + (l.length - j) := by rw [List.length_append, List.length_append, List.length_take, List.length_drop]; omega
  have hg : ((l.take j).drop i).length = j - i := by rw [List.length_drop, List.length_take]; omega
  refine ⟨bufOK_mk (ptsOK_at.2 ⟨by omega, fun x hx => ?_⟩) ?_ ?_, ptsOK_at.2 ⟨by omega, fun x hx => hL x (List.mem_of_mem_take (List.mem_of_mem_drop hx))⟩, by omega, by omega⟩
  · rcases List.mem_append.1 hx with hx | hx
    · rcases List.mem_append.1 hx with hx | hx
      · exact hL x (List.mem_of_mem_take hx)
      · exact hP x hx
    · exact hL x (List.mem_of_mem_drop hx)
  · have := movd_in (d := (p.length : Int) - ((j : Int) - (i : Int))) hc0 hc1 ha hab hb (by omega)
    split <;> omega
  · have := movd_in (d := (p.length : Int) - ((j : Int) - (i : Int))) hm0 hm1 ha hab hb (by omega)
    omega
theorem rplW_back {l p : List Int} {c m a b : Int} (hR : bufOK l c m = true) (hp : ptsOK p = true) (ha : 0 ≤ a) (hab : a ≤ b) (hb : b ≤ (l.length : Int)) (hf : (l.length : Int) - (b - a) + (p.length : Int) ≤ 300) :
    rplV (rplW l c m a b p).1 (rplW l c m a b p).2.1 (rplW l c m a b p).2.2.1 a (a + (p.length : Int)) (rplW l c m a b p).2.2.2.1 = (l, (rplW (rplW l c m a b p).1 (rplW l c m a b p).2.1 (rplW l c m a b p).2.2.1 a (a + (p.length : Int)) (rplW l c m a b p).2.2.2.1).2.1, (rplW (rplW l c m a b p).1 (rplW l c m a b p).2.1 (rplW l c m a b p).2.2.1 a (a + (p.length : Int)) (rplW l c m a b p).2.2.2.1).2.2.1, p, 0) := by
  obtain ⟨h1, h2, h3, h4⟩ := rplW_right hR hp ha hab hb hf
  have hl := bufOK_len hR
  have g := ptsOK_len h2
  unfold rplV rplR
  rw [if_neg (by omega), if_pos ⟨h1, h2⟩, if_pos (by omega), if_neg (by omega)]
  obtain ⟨i, rfl⟩ : ∃ i : Nat, a = (i : Int) := ⟨a.toNat, by omega⟩
  obtain ⟨j, rfl⟩ : ∃ j : Nat, b = (j : Int) := ⟨b.toNat, by omega⟩
  have e : ((i : Int) + (p.length : Int)).toNat = i + p.length := by omega
  have k1 := cut_back l p i j (by omega) (by omega)
  have k2 := cut_gone l p i j (by omega) (by omega)
  unfold rplW
  simp only [Int.toNat_natCast, e, k1, k2]
theorem spec_BufInsert.eq (l : List Int) (c m : Int) (p : List Int) {k : Nat} (hk : 3000 < k) : spec_BufInsert.f k l c m p = some (rplV l c m c c p) := by
  unfold spec_BufInsert.f
  rw [spec_BufReplace.eq _ _ _ _ _ _ hk]
  rfl
theorem impl_BufInsert.eq (l : List Int) (c m : Int) (p : List Int) {k : Nat} (hk : 3000 < k) : impl_BufInsert.f k l c m p = some (rplV l c m c c p) := by
  unfold impl_BufInsert.f
  rw [impl_BufReplace.eq _ _ _ _ _ _ hk]
  rfl
theorem impl_BufDelete.eq (l : List Int) (c m a b : Int) {k : Nat} (hk : 3000 < k) : impl_BufDelete.f k l c m a b = some (rplV l c m a b []) := by
  unfold impl_BufDelete.f
  rw [impl_BufReplace.eq _ _ _ _ _ _ hk]
  rfl
theorem movd_back {m c n : Int} (h0 : 0 ≤ n) : movd (movd m c c (n - (c - c))) c (c + n) (0 - (c + n - c)) = m := by
  unfold movd
  by_cases h : m ≤ c
  · rw [if_pos h, if_pos h]
  · rw [if_neg h, if_neg (by omega), if_neg (by omega), if_neg (by omega)]
    omega
theorem ins_back {l p : List Int} {c m : Int} (hR : bufOK l c m = true) (hp : ptsOK p = true) (hf : (l.length : Int) - (c - c) + (p.length : Int) ≤ 300) :
    rplV (rplW l c m c c p).1 (rplW l c m c c p).2.1 (rplW l c m c c p).2.2.1 c (c + (p.length : Int)) [] = (l, c, m, p, 0) := by
  obtain ⟨hl, hc0, hc1, hm0, hm1⟩ := bufOK_all hR
  obtain ⟨h1, h2, h3, h4⟩ := rplW_right hR hp hc0 (Int.le_refl c) hc1 hf
  have he : ptsOK [] = true := rfl
  have h0 : (([] : List Int).length : Int) = 0 := rfl
  unfold rplV rplR
  rw [if_neg (by simp), if_pos ⟨h1, he⟩, if_pos (by omega), if_neg (by omega)]
  obtain ⟨i, rfl⟩ : ∃ i : Nat, c = (i : Int) := ⟨c.toNat, by omega⟩
  have e : ((i : Int) + (p.length : Int)).toNat = i + p.length := by omega
  have k1 := cut_back l p i i (by omega) (by omega)
  have k2 := cut_gone l p i i (by omega) (by omega)
  have k3 : (l.take i).drop i = [] := List.drop_eq_nil_of_le (by rw [List.length_take]; omega)
  rw [k3] at k1
  have k4 : (rplW l (i : Int) m (i : Int) (i : Int) p).2.1 = (i : Int) + (p.length : Int) := by
    unfold rplW
    exact if_pos ⟨rfl, rfl⟩
  have k5 : (if (i : Int) = (i : Int) + (p.length : Int) ∧ (i : Int) + (p.length : Int) = (i : Int) then (i : Int) + (([] : List Int).length : Int) else movd ((i : Int) + (p.length : Int)) (i : Int) ((i : Int) + (p.length : Int)) ((([] : List Int).length : Int) - ((i : Int) + (p.length : Int) - (i : Int)))) = (i : Int) := by
    rw [h0]
    split
    · omega
    · unfold movd
      split
      · omega
      · split <;> omega
  have k6 : (rplW l (i : Int) m (i : Int) (i : Int) p).2.2.1 = movd m (i : Int) (i : Int) ((p.length : Int) - ((i : Int) - (i : Int))) := rfl
  have k7 : (rplW l (i : Int) m (i : Int) (i : Int) p).1 = l.take i ++ p ++ l.drop i := by
    unfold rplW
    simp only [Int.toNat_natCast]
  rw [k4, k6, k7]
  unfold rplW
  rw [k5, h0, movd_back (by omega)]
  simp only [Int.toNat_natCast, e, k1, k2]
/-! ### draws: what they yield is some value, within bounds -/
theorem u64_in {t : Int} (h0 : 0 ≤ t) (h1 : t ≤ 4611686018427387904) : IntKind.u64.wrap t = t := by
  rw [Go.IntKind.wrap_u64]
  omega
theorem tmod_in (X : Int) {t : Int} (h0 : 1 < t) (h1 : t ≤ 4611686018427387904) : 0 ≤ wrap64 (Int.tmod (IntKind.u64.wrap X) (IntKind.u64.wrap t)) ∧ wrap64 (Int.tmod (IntKind.u64.wrap X) (IntKind.u64.wrap t)) < t := by
  have hX : 0 ≤ IntKind.u64.wrap X := by rw [Go.IntKind.wrap_u64]; omega
  rw [u64_in (by omega) h1, Int.tmod_eq_emod_of_nonneg hX]
  have a1 := Int.emod_nonneg (IntKind.u64.wrap X) (show t ≠ 0 by omega)
  have a2 := Int.emod_lt_of_pos (IntKind.u64.wrap X) (show 0 < t by omega)
  rw [wrap_in (by omega) (by omega)]
  exact ⟨a1, a2⟩
theorem spec_l01Src_n.eq (b : List Int) (a m z t : Int) (hb : b.length ≤ 1048576) (h0 : 0 ≤ a) (h1 : a ≤ b.length) (ht : t ≤ 4611686018427387904) : ∃ v a' m', spec_l01Src_n.f b a m z t = some (v, a', m', z) ∧ 0 ≤ v ∧ (v < t ∨ v = 0) ∧ 0 ≤ a' ∧ a' ≤ b.length := by
  unfold spec_l01Src_n.f
  by_cases h : t ≤ 1
  · rw [if_pos h]
    exact ⟨_, _, _, rfl, by omega, by omega, h0, h1⟩
  · have e : ¬ IntKind.u64.wrap t = 0 := by
      rw [u64_in (by omega) ht]
      omega
    rw [if_neg h]
    by_cases g : a < (b.length : Int)
    · rw [if_pos g, if_pos h0, if_neg e]
      refine ⟨_, _, _, rfl, (tmod_in _ (by omega) ht).1, Or.inl (tmod_in _ (by omega) ht).2, ?_, ?_⟩
      · rw [wrap_in (by omega) (by omega)]; omega
      · rw [wrap_in (by omega) (by omega)]; omega
    · rw [if_neg g, if_neg e]
      exact ⟨_, _, _, rfl, (tmod_in _ (by omega) ht).1, Or.inl (tmod_in _ (by omega) ht).2, h0, h1⟩
theorem spec_l01Src_one.eq (b : List Int) (a m z t : Int) (hb : b.length ≤ 1048576) (h0 : 0 ≤ a) (h1 : a ≤ b.length) (ht : t ≤ 4611686018427387904) : ∃ v a' m', spec_l01Src_one.f b a m z t = some (v, a', m', z) ∧ 0 ≤ a' ∧ a' ≤ b.length := by
  obtain ⟨v, a', m', e, _, _, g1, g2⟩ := spec_l01Src_n.eq b a m z t hb h0 h1 ht
  unfold spec_l01Src_one.f
  rw [e]
  exact ⟨_, _, _, rfl, g1, g2⟩
theorem spec_l01Src_point.eq (b : List Int) (a m z : Int) (hb : b.length ≤ 1048576) (h0 : 0 ≤ a) (h1 : a ≤ b.length) : ∃ v a' m', spec_l01Src_point.f b a m z = some (v, a', m', z) ∧ 0 ≤ a' ∧ a' ≤ b.length := by
  obtain ⟨v, a1, m1, e, v0, v1, g1, g2⟩ := spec_l01Src_n.eq b a m z 14 hb h0 h1 (by omega)
  unfold spec_l01Src_point.f
  rw [e]
  simp only [Option.bind_some]
  by_cases c0 : v = 0
  · rw [if_pos c0]; exact ⟨_, _, _, rfl, g1, g2⟩
  rw [if_neg c0]
  by_cases c1 : v = 1
  · rw [if_pos c1]; exact ⟨_, _, _, rfl, g1, g2⟩
  rw [if_neg c1]
  by_cases c2 : v = 2
  · rw [if_pos c2]
    obtain ⟨q, a2, m2, e2, q0, q1, k1, k2⟩ := spec_l01Src_n.eq b a1 m1 z 5 hb g1 g2 (by omega)
    rw [e2]
    simp only [Option.bind_some, List.length_cons, List.length_nil]
    rw [if_pos (by omega), if_pos (by omega)]
    exact ⟨_, _, _, rfl, k1, k2⟩
  rw [if_neg c2]
  by_cases c3 : v = 3
  · rw [if_pos c3]
    obtain ⟨q, a2, m2, e2, q0, q1, k1, k2⟩ := spec_l01Src_n.eq b a1 m1 z 20 hb g1 g2 (by omega)
    rw [e2]
    simp only [Option.bind_some, List.length_cons, List.length_nil]
    rw [if_pos (by omega), if_pos (by omega)]
    exact ⟨_, _, _, rfl, k1, k2⟩
  rw [if_neg c3]
  by_cases c4 : v = 4
  · rw [if_pos c4]
    obtain ⟨q, a2, m2, e2, q0, q1, k1, k2⟩ := spec_l01Src_n.eq b a1 m1 z 8 hb g1 g2 (by omega)
    rw [e2]
    simp only [Option.bind_some, List.length_cons, List.length_nil]
    rw [if_pos (by omega), if_pos (by omega)]
    exact ⟨_, _, _, rfl, k1, k2⟩
  rw [if_neg c4]
  by_cases c5 : v = 5
  · rw [if_pos c5]
    obtain ⟨q, a2, m2, e2, q0, q1, k1, k2⟩ := spec_l01Src_n.eq b a1 m1 z 5 hb g1 g2 (by omega)
    rw [e2]
    simp only [Option.bind_some, List.length_cons, List.length_nil]
    rw [if_pos (by omega), if_pos (by omega)]
    exact ⟨_, _, _, rfl, k1, k2⟩
  rw [if_neg c5]
  by_cases c6 : v = 6
  · rw [if_pos c6]
    obtain ⟨q, a2, m2, e2, q0, q1, k1, k2⟩ := spec_l01Src_n.eq b a1 m1 z 10 hb g1 g2 (by omega)
    rw [e2]
    exact ⟨_, _, _, rfl, k1, k2⟩
  rw [if_neg c6]
  obtain ⟨q, a2, m2, e2, q0, q1, k1, k2⟩ := spec_l01Src_n.eq b a1 m1 z 6 hb g1 g2 (by omega)
  rw [e2]
  exact ⟨_, _, _, rfl, k1, k2⟩
theorem spec_l01Src_points.loop (b : List Int) (z : Int) (hb : b.length ≤ 1048576) (t : Nat) : ∀ (k : Nat) (acc : List Int) (a m : Int), acc.length + t ≤ 1000000 → 0 ≤ a → a ≤ b.length → t < k → ∃ p a' m', spec_l01Src_points.l0 k (t : Int) acc b a m z = some (p, a', m', z) ∧ p.length = acc.length + t ∧ 0 ≤ a' ∧ a' ≤ b.length := by
  induction t with
  | zero =>
    intro k acc a m ha h0 h1 hk
    obtain ⟨k, rfl⟩ : ∃ m, k = m + 1 := ⟨k - 1, by omega⟩
    exact ⟨acc, a, m, rfl, rfl, h0, h1⟩
  | succ t ih =>
    intro k acc a m ha h0 h1 hk
    obtain ⟨k, rfl⟩ : ∃ m, k = m + 1 := ⟨k - 1, by omega⟩
    obtain ⟨v, a1, m1, e, g1, g2⟩ := spec_l01Src_point.eq b a m z hb h0 h1
    obtain ⟨p, a2, m2, e2, hp, k1, k2⟩ := ih k (acc ++ [v]) a1 m1 (by rw [List.length_append, List.length_singleton]; omega) g1 g2 (by omega)
    rw [spec_l01Src_points.l0, if_pos (by omega), e, show wrap64 (((t + 1 : Nat) : Int) - 1) = (t : Int) by rw [wrap_in (by omega) (by omega)]; omega]
    simp only [Option.bind_some]
    rw [if_pos (by omega), e2]
    exact ⟨p, a2, m2, rfl, by rw [hp, List.length_append, List.length_singleton]; omega, k1, k2⟩
theorem spec_l01Src_points.eq (b : List Int) (a m z t : Int) (hb : b.length ≤ 1048576) (h0 : 0 ≤ a) (h1 : a ≤ b.length) (ht0 : 0 ≤ t) (ht : t ≤ 1000) {k : Nat} (hk : 2000 < k) : ∃ p a' m', spec_l01Src_points.f k b a m z t = some (p, a', m', z) ∧ p.length = t.toNat ∧ 0 ≤ a' ∧ a' ≤ b.length := by
  obtain ⟨n, rfl⟩ : ∃ n : Nat, t = (n : Int) := ⟨t.toNat, by omega⟩
  obtain ⟨p, a', m', e, hp, g1, g2⟩ := spec_l01Src_points.loop b z hb n k [] a m (by simp only [List.length_nil]; omega) h0 h1 (by omega)
  refine ⟨p, a', m', e, ?_, g1, g2⟩
  rw [hp, List.length_nil]
  omega
theorem spec_l01Source.loop (l : List Int) (hl : l.length ≤ 1048576) (d : Nat) : ∀ (k i : Nat) (m : Int), i ≤ l.length → l.length - i = d → d < k → ∃ m' z, spec_l01Source.l0 k l (i : Int) l 0 m 0 = some (l, 0, m', z) ∧ 0 ≤ z ∧ z ≤ 12 := by
  have hz : wrap64 ((l.length : Int) / 20) = (l.length : Int) / 20 := wrap_in (by omega) (by omega)
  have hend : ∀ m : Int, ∃ m' z, (if wrap64 ((l.length : Int) / 20) > 12 then some (l, (0 : Int), m, (12 : Int)) else some (l, 0, m, wrap64 ((l.length : Int) / 20))) = some (l, 0, m', z) ∧ 0 ≤ z ∧ z ≤ 12 := by
    intro m
    rw [hz]
    by_cases g : (l.length : Int) / 20 > 12
    · rw [if_pos g]; exact ⟨_, _, rfl, by omega, by omega⟩
    · rw [if_neg g]; exact ⟨_, _, rfl, by omega, by omega⟩
  induction d with
  | zero =>
    intro k i m hi hd hk
    obtain ⟨k, rfl⟩ : ∃ m, k = m + 1 := ⟨k - 1, by omega⟩
    rw [spec_l01Source.l0, if_neg (by omega)]
    exact hend m
  | succ d ih =>
    intro k i m hi hd hk
    obtain ⟨k, rfl⟩ : ∃ m, k = m + 1 := ⟨k - 1, by omega⟩
    rw [spec_l01Source.l0, if_pos (by omega)]
    by_cases g : (i : Int) < 64
    · rw [if_pos g, if_pos (by omega), wrap_succ (by omega)]
      exact ih k (i + 1) _ (by omega) (by omega) (by omega)
    · rw [if_neg g]
      exact hend m
theorem spec_l01Source.eq (l : List Int) (hl : l.length ≤ 1048576) {k : Nat} (hk : 1048577 < k) : ∃ m' z, spec_l01Source.f k l = some (l, 0, m', z) ∧ 0 ≤ z ∧ z ≤ 12 := by
  obtain ⟨m', z, h⟩ := spec_l01Source.loop l hl l.length k 0 88172645463325252 (by omega) (by omega) (by omega)
  exact ⟨m', z, h⟩
theorem spec_l01Src_l02Buf.j0_eq (b : List Int) (a m z : Int) (p : List Int) (hb : b.length ≤ 1048576) (h0 : 0 ≤ a) (h1 : a ≤ b.length) (hp : p.length ≤ 302) {k : Nat} (hk : 0 < k) : ∃ p' c d a' m', spec_l01Src_l02Buf.j0 k b a m z p 0 0 = some (p', c, d, a', m', z) ∧ p'.length ≤ 303 ∧ 0 ≤ a' ∧ a' ≤ b.length := by
  obtain ⟨k, rfl⟩ : ∃ m, k = m + 1 := ⟨k - 1, by omega⟩
  rw [spec_l01Src_l02Buf.j0, wrap_in (x := (p.length : Int) + 1) (by omega) (by omega)]
  obtain ⟨v, a1, m1, e1, v0, v1, g1, g2⟩ := spec_l01Src_n.eq b a m z ((p.length : Int) + 1) hb h0 h1 (by omega)
  rw [e1]
  simp only [Option.bind_some]
  obtain ⟨u, a2, m2, e2, u0, u1, k1, k2⟩ := spec_l01Src_n.eq b a1 m1 z ((p.length : Int) + 1) hb g1 g2 (by omega)
  rw [e2]
  simp only [Option.bind_some]
  obtain ⟨o, a3, m3, e3, l1, l2⟩ := spec_l01Src_one.eq b a2 m2 z 15 hb k1 k2 (by omega)
  rw [e3]
  simp only [Option.bind_some]
  cases o
  · rw [if_neg (by decide)]
    exact ⟨_, _, _, _, _, rfl, by omega, l1, l2⟩
  · obtain ⟨q, a4, m4, e4, q0, q1, n1, n2⟩ := spec_l01Src_n.eq b a3 m3 z 3 hb l1 l2 (by omega)
    obtain ⟨r, a5, m5, e5, r0, r1, s1, s2⟩ := spec_l01Src_n.eq b a4 m4 z 2 hb n1 n2 (by omega)
    rw [if_pos rfl, e4]
    simp only [Option.bind_some]
    rw [e5]
    simp only [Option.bind_some, List.length_cons, List.length_nil]
    by_cases c0 : q = 0
    · rw [if_pos c0, if_pos (by omega), if_pos (by omega)]
      exact ⟨_, _, _, _, _, rfl, by omega, s1, s2⟩
    · rw [if_neg c0]
      by_cases c1 : q = 1
      · rw [if_pos c1, if_pos (by omega), if_pos (by omega)]
        exact ⟨_, _, _, _, _, rfl, by omega, s1, s2⟩
      · rw [if_neg c1, if_pos (by omega)]
        exact ⟨_, _, _, _, _, rfl, by rw [List.length_append, List.length_singleton]; omega, n1, n2⟩
theorem spec_l01Src_l02Buf.eq (b : List Int) (a m z : Int) (hb : b.length ≤ 1048576) (h0 : 0 ≤ a) (h1 : a ≤ b.length) (hz : 0 ≤ z) (hz2 : z ≤ 12) {k : Nat} (hk : 3000 < k) : ∃ p c d a' m', spec_l01Src_l02Buf.f k b a m z = some (p, c, d, a', m', z) ∧ p.length ≤ 303 ∧ 0 ≤ a' ∧ a' ≤ b.length := by
  unfold spec_l01Src_l02Buf.f
  rw [wrap_in (x := 2 * z) (by omega) (by omega), wrap_in (x := 14 + 2 * z) (by omega) (by omega)]
  obtain ⟨v, a1, m1, e, v0, v1, g1, g2⟩ := spec_l01Src_n.eq b a m z (14 + 2 * z) hb h0 h1 (by omega)
  rw [e]
  simp only [Option.bind_some]
  obtain ⟨p, a2, m2, e2, hp, k1, k2⟩ := spec_l01Src_points.eq b a1 m1 z v hb g1 g2 v0 (by omega) (k := k) (by omega)
  rw [e2]
  simp only [Option.bind_some]
  obtain ⟨o, a3, m3, e3, l1, l2⟩ := spec_l01Src_one.eq b a2 m2 z 50 hb k1 k2 (by omega)
  rw [e3]
  simp only [Option.bind_some]
  cases o
  · rw [if_neg (by decide)]
    exact spec_l01Src_l02Buf.j0_eq b a3 m3 z p hb l1 l2 (by omega) (by omega)
  · obtain ⟨q, a4, m4, e4, q0, q1, n1, n2⟩ := spec_l01Src_n.eq b a3 m3 z 4 hb l1 l2 (by omega)
    rw [if_pos rfl, e4]
    simp only [Option.bind_some]
    rw [wrap_in (x := 298 + q) (by omega) (by omega)]
    obtain ⟨p2, a5, m5, e5, hp2, r1, r2⟩ := spec_l01Src_points.eq b a4 m4 z (298 + q) hb n1 n2 (by omega) (by omega) (k := k) (by omega)
    rw [e5]
    simp only [Option.bind_some]
    exact spec_l01Src_l02Buf.j0_eq b a5 m5 z p2 hb r1 r2 (by omega) (by omega)
theorem spec_l01Src_some.eq (b : List Int) (a m z : Int) (hb : b.length ≤ 1048576) (h0 : 0 ≤ a) (h1 : a ≤ b.length) (hz : 0 ≤ z) (hz2 : z ≤ 12) {k : Nat} (hk : 3000 < k) : ∃ p a' m', spec_l01Src_some.f k b a m z = some (p, a', m', z) ∧ p.length ≤ 303 ∧ 0 ≤ a' ∧ a' ≤ b.length := by
  have hj : ∀ (x : List Int) (a m : Int), x.length ≤ 302 → 0 ≤ a → a ≤ b.length → ∃ p a' m', spec_l01Src_some.j0 k x b a m z = some (p, a', m', z) ∧ p.length ≤ 303 ∧ 0 ≤ a' ∧ a' ≤ b.length := by
    intro x a m hx h0 h1
    obtain ⟨k, rfl⟩ : ∃ m, k = m + 1 := ⟨k - 1, by omega⟩
    obtain ⟨v, a1, m1, e, g1, g2⟩ := spec_l01Src_one.eq b a m z 20 hb h0 h1 (by omega)
    rw [spec_l01Src_some.j0, e]
    simp only [Option.bind_some]
    cases v
    · rw [if_neg (by decide)]
      exact ⟨_, _, _, rfl, by omega, g1, g2⟩
    · obtain ⟨q, a2, m2, e2, q0, q1, k1, k2⟩ := spec_l01Src_n.eq b a1 m1 z 5 hb g1 g2 (by omega)
      rw [if_pos rfl, e2]
      simp only [Option.bind_some, List.length_cons, List.length_nil]
      rw [if_pos (by omega), if_pos (by omega), if_pos (by omega)]
      exact ⟨_, _, _, rfl, by rw [List.length_append, List.length_singleton]; omega, k1, k2⟩
  unfold spec_l01Src_some.f
  rw [wrap_in (x := 12 + z) (by omega) (by omega)]
  obtain ⟨v, a1, m1, e, v0, v1, g1, g2⟩ := spec_l01Src_n.eq b a m z (12 + z) hb h0 h1 (by omega)
  rw [e]
  simp only [Option.bind_some]
  obtain ⟨p, a2, m2, e2, hp, k1, k2⟩ := spec_l01Src_points.eq b a1 m1 z v hb g1 g2 v0 (by omega) (k := k) (by omega)
  rw [e2]
  simp only [Option.bind_some]
  obtain ⟨o, a3, m3, e3, l1, l2⟩ := spec_l01Src_one.eq b a2 m2 z 50 hb k1 k2 (by omega)
  rw [e3]
  simp only [Option.bind_some]
  cases o
  · rw [if_neg (by decide)]
    exact hj p a3 m3 (by omega) l1 l2
  · obtain ⟨q, a4, m4, e4, q0, q1, n1, n2⟩ := spec_l01Src_n.eq b a3 m3 z 3 hb l1 l2 (by omega)
    rw [if_pos rfl, e4]
    simp only [Option.bind_some]
    rw [wrap_in (x := 299 + q) (by omega) (by omega)]
    obtain ⟨p2, a5, m5, e5, hp2, r1, r2⟩ := spec_l01Src_points.eq b a4 m4 z (299 + q) hb n1 n2 (by omega) (by omega) (k := k) (by omega)
    rw [e5]
    simp only [Option.bind_some]
    exact hj p2 a5 m5 (by omega) r1 r2
theorem spec_DrawBufInsert.eq (l : List Int) (hl : l.length ≤ 1048576) {k : Nat} (hk : 2000000 < k) : ∃ b c m p, spec_DrawBufInsert.f k l = some (b, c, m, p) ∧ p.length ≤ 303 := by
  obtain ⟨m, z, e, hz, hz2⟩ := spec_l01Source.eq l hl (k := k) (by omega)
  unfold spec_DrawBufInsert.f
  rw [e, Option.bind_some]
  dsimp only
  obtain ⟨p, c, d, a1, m1, e1, hp, g1, g2⟩ := spec_l01Src_l02Buf.eq l 0 m z hl (by omega) (by omega) hz hz2 (k := k) (by omega)
  rw [e1, Option.bind_some]
  dsimp only
  obtain ⟨s, a5, m5, e5, hs, _⟩ := spec_l01Src_some.eq l a1 m1 z hl g1 g2 hz hz2 (k := k) (by omega)
  rw [e5]
  exact ⟨_, _, _, _, rfl, hs⟩
theorem laws_lwCopy.eq {l : List Int} (h : l.length ≤ 2000000) : laws_lwCopy.f l = some l := by
  unfold laws_lwCopy.f
  simp only [Option.bind_some, List.length_nil, List.nil_append]
  rw [if_pos (by omega)]
theorem laws_lwSame.loop (a b : List Int) (hab : a.length = b.length) (hl : a.length ≤ 1048576) (d : Nat) : ∀ (k i : Nat), i ≤ a.length → a.length - i = d → d < k → laws_lwSame.l0 k a b (i : Int) = some (decide (a.drop i = b.drop i)) := by
  induction d with
  | zero =>
    intro k i hi hd hk
    obtain ⟨k, rfl⟩ : ∃ m, k = m + 1 := ⟨k - 1, by omega⟩
    simp only [laws_lwSame.l0]
    rw [if_neg (by omega), List.drop_eq_nil_of_le (by omega), List.drop_eq_nil_of_le (by omega)]
    rfl
  | succ d ih =>
    intro k i hi hd hk
    obtain ⟨k, rfl⟩ : ∃ m, k = m + 1 := ⟨k - 1, by omega⟩
    have hlt : i < a.length := by omega
    simp only [laws_lwSame.l0]
    rw [if_pos (int_lt hlt), if_pos (int_nn i), if_pos (by omega), wrap_succ (by omega), ih k (i + 1) (by omega) (by omega) (by omega), drop_rd hlt, drop_rd (show i < b.length by omega)]
    by_cases h : rd a (i : Int) = rd b (i : Int)
    · rw [if_pos h, h]
      simp
    · rw [if_neg h]
      simp [h]
theorem laws_lwSame.eq {a b : List Int} {k : Nat} (hl : a.length ≤ 1048576) (hk : a.length < k) : laws_lwSame.f k a b = some (decide (a = b)) := by
  unfold laws_lwSame.f
  by_cases h : a.length = b.length
  · rw [if_pos (by omega)]
    have := laws_lwSame.loop a b h hl a.length k 0 (by omega) (by omega) hk
    simpa using this
  · rw [if_neg (by omega)]
    refine congrArg some (decide_eq_false (fun e => h (by rw [e]))).symm
theorem slices_Equal_sint64_int64.loop (a b : List Int) (hab : a.length = b.length) (hl : a.length ≤ 1048576) (d : Nat) : ∀ (k i : Nat), i ≤ a.length → a.length - i = d → d < k → slices_Equal_sint64_int64.l0 k a b (a.length : Int) (i : Int) = some (decide (a.drop i = b.drop i)) := by
  induction d with
  | zero =>
    intro k i hi hd hk
    obtain ⟨k, rfl⟩ : ∃ m, k = m + 1 := ⟨k - 1, by omega⟩
    simp only [slices_Equal_sint64_int64.l0]
    rw [if_neg (by omega), List.drop_eq_nil_of_le (by omega), List.drop_eq_nil_of_le (by omega)]
    rfl
  | succ d ih =>
    intro k i hi hd hk
    obtain ⟨k, rfl⟩ : ∃ m, k = m + 1 := ⟨k - 1, by omega⟩
    have hlt : i < a.length := by omega
    simp only [slices_Equal_sint64_int64.l0]
    rw [if_pos (int_lt hlt), if_pos (int_nn i), if_pos (int_lt hlt), if_pos (by omega), wrap_succ (by omega), ih k (i + 1) (by omega) (by omega) (by omega), drop_rd hlt, drop_rd (show i < b.length by omega)]
    by_cases h : rd a (i : Int) = rd b (i : Int)
    · rw [if_pos h, h]
      simp
    · rw [if_neg h]
      simp [h]
theorem slices_Equal_sint64_int64.eq {a b : List Int} {k : Nat} (hl : a.length ≤ 1048576) (hk : a.length < k) : slices_Equal_sint64_int64.f k a b = some (decide (a = b)) := by
  unfold slices_Equal_sint64_int64.f
  by_cases h : a.length = b.length
  · rw [if_pos (by omega)]
    have := slices_Equal_sint64_int64.loop a b h hl a.length k 0 (by omega) (by omega) hk
    simpa using this
  · rw [if_neg (by omega)]
    refine congrArg some (decide_eq_false (fun e => h (by rw [e]))).symm
theorem impl_BufSame.eq {a b : List Int} {c m c' m' : Int} {k : Nat} (hl : a.length ≤ 1048576) (hk : a.length < k) : impl_BufSame.f k a c m b c' m' = some (decide (a = b ∧ c = c' ∧ m = m')) := by
  unfold impl_BufSame.f
  rw [slices_Equal_sint64_int64.eq hl hk]
  simp only [Option.bind_some, decide_eq_true_eq]
  by_cases h1 : a = b
  · by_cases h2 : c = c'
    · refine Eq.trans ?_ (some_b (a := (m == m')) ?_) <;> simp [h1, h2]
    · simp [h1, h2]
  · simp [h1]

theorem FnInsert : laws_FnInsert.Pure := by
  intro l ⟨hl, _⟩
  have hl := maxLen_le hl
  refine ⟨4000000, ?_⟩
  unfold laws_FnInsert.f
  by_cases h : (l.length : Int) > 1048576
  · rw [if_pos h]
  · obtain ⟨b, c, m, p, hd, hpl⟩ := spec_DrawBufInsert.eq l (by omega) (k := 4000000) (by omega)
    rw [if_neg h, hd, Option.bind_some]
    (try dsimp only)
    rw [spec_BufInsert.eq _ _ _ _ (by omega), Option.bind_some]
    rcases rplV_cases b c m c c p with ⟨e, hR, hp, hx, hxy, hy, hf⟩ | ⟨n, hn, e⟩
    · have g5 := ins_back hR hp hf
      have g4 := (rplW_right hR hp hx hxy hy hf).2.2.2
      have g6 := ptsOK_len hp
      have g8 := bufOK_len hR
      have g9 : (rplW b c m c c p).2.2.2.2 = 0 := rfl
      have k4 : (rplW b c m c c p).2.1 = c + (p.length : Int) := if_pos ⟨rfl, rfl⟩
      rw [k4] at g5
      have k5 : (((rplW b c m c c p).1.length : Int) != wrap64 ((b.length : Int) + (p.length : Int))) = false := by
        rw [wrap_in (by omega) (by omega), bne_eq_false_iff_eq]
        omega
      rw [e, if_pos g9, laws_FnInsert.j0, laws_lwCopy.eq (by omega), Option.bind_some, impl_BufInsert.eq _ _ _ _ (by omega), Option.bind_some, e]
      rw [if_pos g9, wrap_in (x := c + (p.length : Int)) (by omega) (by omega), k4, if_pos rfl, k5, laws_FnInsert.j1, if_neg (by decide), laws_FnInsert.j2, impl_BufDelete.eq _ _ _ _ _ (by omega), g5, Option.bind_some]
      (try dsimp only)
      rw [if_pos rfl, laws_lwSame.eq (by omega) (by omega), Option.bind_some, if_pos (decide_eq_true rfl), laws_lwSame.eq (by omega) (by omega), Option.bind_some, if_pos (decide_eq_true rfl), bne_self_eq_false, laws_FnInsert.j3, if_neg (by decide), if_pos rfl, impl_BufSame.eq (by omega) (by omega), Option.bind_some]
      simp
    · rw [e]
      (try dsimp only)
      rw [if_neg hn, laws_lwCopy.eq (by omega), Option.bind_some, impl_BufInsert.eq _ _ _ _ (by omega), Option.bind_some, Option.bind_some, e]
      exact congrArg some (beq_self_eq_true n)

end Go.Proofs.Ytibfdbiimblepaa.Pure
