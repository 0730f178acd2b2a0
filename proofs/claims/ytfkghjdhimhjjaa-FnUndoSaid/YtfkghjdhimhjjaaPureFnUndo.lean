/- Proved: for every code of at most 2^20 bytes, what is undone in the undo drawn from it comes again as it was, and leaves all as it was, if nothing fell off. No conditions. -/
import Derived.Test.YtfkghjdhimhjjaaPFnUndox12
namespace Go.Proofs.Ytfkghjdhimhjjaa.Pure
open Go.RowKit Go.Proofs.Ytfkghjdhimhjjaa.PFnUndo Go.Proofs.YtfkghjdhimhjjaaW.PrintWords Go.Proofs.YtfkghjdhimhjjaaW.PrintLast Go.Proofs.YtfkghjdhimhjjaaW.PrintMore
set_option linter.unusedVariables false
set_option linter.unusedSimpArgs false

/-! ### plain words -/
theorem wrap_in {x : Int} (h0 : -9223372036854775808 ≤ x) (h1 : x ≤ 9223372036854775807) : wrap64 x = x := by unfold wrap64; omega
theorem wrap_succ {i : Nat} (h : i < 4611686018427387904) : wrap64 ((i : Int) + 1) = ((i + 1 : Nat) : Int) := by unfold wrap64; omega
theorem rd_nat (l : List Int) (i : Nat) : rd l (i : Int) = l.getD i 0 := by simp [rd]
theorem drop_rd {l : List Int} {i : Nat} (h : i < l.length) : l.drop i = rd l (i : Int) :: l.drop (i + 1) := by
  rw [rd_nat, List.drop_eq_getElem_cons h, List.getD_eq_getElem?_getD, List.getElem?_eq_getElem h]
  rfl
theorem int_lt {i n : Nat} (h : i < n) : (i : Int) < (n : Int) := by omega
theorem int_nlt {i n : Nat} (h : ¬ i < n) : ¬ (i : Int) < (n : Int) := by omega
theorem int_nn (i : Nat) : (0 : Int) ≤ (i : Int) := by omega
theorem maxLen_le {n : Nat} (h : n ≤ maxLen) : n ≤ 9223372036854775807 := by unfold maxLen at h; exact h
theorem some_b {a b : Bool} (h : a = true ↔ b = true) : some a = some b := congrArg some (Bool.eq_iff_iff.2 h)
def isPt (a : Int) : Bool := decide (0 ≤ a ∧ a ≤ 1114111 ∧ ¬ (55296 ≤ a ∧ a ≤ 57343))
def ptsOK (l : List Int) : Bool := decide (l.length ≤ 300) && l.all isPt
def bufOK (l : List Int) (c m : Int) : Bool := ptsOK l && decide (0 ≤ c ∧ c ≤ l.length) && decide (0 ≤ m ∧ m ≤ l.length)
def isCtl (a : Int) : Bool := decide (a < 32 ∨ a = 127)
def isWide2 (a : Int) : Bool := decide ((4352 ≤ a ∧ a ≤ 4447) ∨ (11904 ≤ a ∧ a ≤ 42191) ∨ (44032 ≤ a ∧ a ≤ 55203) ∨ (63744 ≤ a ∧ a ≤ 64255) ∨ (65281 ≤ a ∧ a ≤ 65376) ∨ (127744 ≤ a ∧ a ≤ 129791))
def wid (a : Int) : Int := if isPt a = true ∧ ¬ (768 ≤ a ∧ a ≤ 879) then (if isCtl a = true ∨ isWide2 a = true then 2 else 1) else 0
def cl2 (a : Int) : Int := if (97 ≤ a ∧ a ≤ 122) ∨ (65 ≤ a ∧ a ≤ 90) ∨ (48 ≤ a ∧ a ≤ 57) ∨ a = 95 ∨ 128 ≤ a then 2 else 3
def cls (a : Int) : Int := if isPt a = true then (if a = 32 ∨ a = 9 ∨ a = 10 then 1 else cl2 a) else 0
theorem ptsOK_len {l : List Int} (h : ptsOK l = true) : l.length ≤ 300 := by
  unfold ptsOK at h
  simp only [Bool.and_eq_true, decide_eq_true_eq] at h
  exact h.1
theorem bufOK_len {l : List Int} {c m : Int} (h : bufOK l c m = true) : l.length ≤ 300 := by
  unfold bufOK at h
  simp only [Bool.and_eq_true] at h
  exact ptsOK_len h.1.1
theorem bufOK_all {l : List Int} {c m : Int} (h : bufOK l c m = true) : l.length ≤ 300 ∧ 0 ≤ c ∧ c ≤ l.length ∧ 0 ≤ m ∧ m ≤ l.length := by
  have hl := bufOK_len h
  unfold bufOK at h
  simp only [Bool.and_eq_true, decide_eq_true_eq] at h
  exact ⟨hl, h.1.2.1, h.1.2.2, h.2.1, h.2.2⟩
theorem rdBufB {l : List (S39)} {i : Nat} (h : i < l.length) : rd_T39 l (i : Int) = l[i] := by
  unfold rd_T39
  rw [Int.toNat_natCast, List.getD_eq_getElem?_getD, List.getElem?_eq_getElem h]
  rfl
theorem spec_l01Point.eq (a : Int) : spec_l01Point.f a = some (isPt a) := by
  simp only [spec_l01Point.f, isPt]
  (repeat' split) <;> (refine some_b ?_; simp only [Bool.not_eq_true', Bool.not_false, decide_eq_true_eq, decide_eq_false_iff_not, Bool.false_eq_true]; first | omega | (rw [false_iff]; omega) | (rw [true_iff]; omega))
theorem spec_PointsRight.loop (l : List Int) (hl : l.length ≤ 300) (d : Nat) : ∀ (k i : Nat), i ≤ l.length → l.length - i = d → d < k → spec_PointsRight.l0 k l (i : Int) = some ((l.drop i).all isPt) := by
  induction d with
  | zero =>
    intro k i hi hd hk
    obtain ⟨k, rfl⟩ : ∃ m, k = m + 1 := ⟨k - 1, by omega⟩
    simp only [spec_PointsRight.l0]
    rw [if_neg (by omega), List.drop_eq_nil_of_le (by omega)]
    rfl
  | succ d ih =>
    intro k i hi hd hk
    obtain ⟨k, rfl⟩ : ∃ m, k = m + 1 := ⟨k - 1, by omega⟩
    have hlt : i < l.length := by omega
    simp only [spec_PointsRight.l0]
    rw [if_pos (int_lt hlt), if_pos (int_nn i), spec_l01Point.eq, wrap_succ (by omega), ih k (i + 1) (by omega) (by omega) (by omega), drop_rd hlt]
    simp only [Option.bind_some, List.all_cons]
    cases isPt (rd l (i : Int)) <;> simp
theorem spec_PointsRight.eq (l : List Int) {k : Nat} (hk : 300 < k) : spec_PointsRight.f k l = some (ptsOK l) := by
  unfold spec_PointsRight.f ptsOK
  by_cases h : l.length ≤ 300
  · rw [if_neg (by omega)]
    have := spec_PointsRight.loop l h l.length k 0 (by omega) (by omega) (by omega)
    simp only [h, decide_true, Bool.true_and]
    simpa using this
  · rw [if_pos (by omega)]
    simp [h]
theorem spec_BufRight.eq (l : List Int) (c m : Int) {k : Nat} (hk : 300 < k) : spec_BufRight.f k l c m = some (bufOK l c m) := by
  unfold spec_BufRight.f bufOK
  rw [spec_PointsRight.eq l hk]
  simp only [Option.bind_some]
  cases ptsOK l
  · simp
  · simp only [if_true, Bool.true_and]
    (repeat' split) <;> (refine some_b ?_; simp only [Bool.and_eq_true, decide_eq_true_eq, Bool.false_eq_true]; first | omega | (rw [false_iff]; omega))
theorem impl_within.eq (a b c : Int) : impl_within.f a b c = some (decide (b ≤ a ∧ a ≤ c)) := by
  unfold impl_within.f
  by_cases h : b ≤ a <;> simp [h]
theorem impl_isPoint.eq (a : Int) : impl_isPoint.f a = some (isPt a) := by
  simp only [impl_isPoint.f, impl_within.eq, Option.bind_some, isPt, decide_eq_true_eq]
  split <;> (refine some_b ?_; simp only [Bool.not_eq_true', decide_eq_true_eq, decide_eq_false_iff_not, Bool.false_eq_true]; first | omega | (rw [false_iff]; omega))
theorem slices_IndexFunc_sint64_int64.loop (l : List Int) (hl : l.length ≤ 300) (d : Nat) : ∀ (k i : Nat), i ≤ l.length → l.length - i = d → d < k → ∃ r : Int, slices_IndexFunc_sint64_int64.l0 k l (l.length : Int) (i : Int) = some r ∧ (0 ≤ r ↔ (l.drop i).all isPt = false) := by
  induction d with
  | zero =>
    intro k i hi hd hk
    obtain ⟨k, rfl⟩ : ∃ m, k = m + 1 := ⟨k - 1, by omega⟩
    refine ⟨-1, ?_, ?_⟩
    · simp only [slices_IndexFunc_sint64_int64.l0]
      rw [if_neg (by omega)]
    · rw [List.drop_eq_nil_of_le (by omega)]
      simp
  | succ d ih =>
    intro k i hi hd hk
    obtain ⟨k, rfl⟩ : ∃ m, k = m + 1 := ⟨k - 1, by omega⟩
    have hlt : i < l.length := by omega
    have hp : impl_PointsRight_1.f (rd l (i : Int)) = some (!isPt (rd l (i : Int))) := by
      unfold impl_PointsRight_1.f
      rw [impl_isPoint.eq]
      rfl
    simp only [slices_IndexFunc_sint64_int64.l0]
    rw [if_pos (int_lt hlt), if_pos (int_nn i), if_pos (int_lt hlt), hp, wrap_succ (by omega), drop_rd hlt]
    simp only [Option.bind_some, List.all_cons]
    cases isPt (rd l (i : Int))
    · exact ⟨i, by simp, by simp⟩
    · simpa using ih k (i + 1) (by omega) (by omega) (by omega)
theorem impl_PointsRight.eq (l : List Int) {k : Nat} (hk : 300 < k) : impl_PointsRight.f k l = some (ptsOK l) := by
  unfold impl_PointsRight.f ptsOK
  by_cases h : l.length ≤ 300
  · rw [if_pos (by omega)]
    obtain ⟨r, h1, h2⟩ := slices_IndexFunc_sint64_int64.loop l h l.length k 0 (by omega) (by omega) (by omega)
    unfold slices_ContainsFunc_sint64_int64.f slices_IndexFunc_sint64_int64.f
    rw [show ((0 : Nat) : Int) = 0 from rfl] at h1
    rw [h1]
    simp only [Option.bind_some, h, decide_true, Bool.true_and]
    rw [List.drop_zero] at h2
    refine some_b ?_
    cases hq : l.all isPt
    · have := h2.2 hq; simp; omega
    · have : ¬ 0 ≤ r := fun h3 => by rw [h2.1 h3] at hq; cases hq
      simp; omega
  · rw [if_neg (by omega)]
    simp [h]
theorem impl_Buf_isPlace.eq (l : List Int) (c m a : Int) : impl_Buf_isPlace.f l c m a = some (decide (0 ≤ a ∧ a ≤ l.length)) := by
  simp only [impl_Buf_isPlace.f, impl_size_int64.f, impl_within.eq, Option.bind_some]
theorem impl_BufRight.eq (l : List Int) (c m : Int) {k : Nat} (hk : 300 < k) : impl_BufRight.f k l c m = some (bufOK l c m) := by
  unfold impl_BufRight.f bufOK
  rw [impl_PointsRight.eq l hk]
  simp only [Option.bind_some, impl_Buf_isPlace.eq]
  cases ptsOK l
  · simp
  · simp only [if_true, Bool.true_and]
    by_cases h : 0 ≤ c ∧ c ≤ (l.length : Int) <;> simp [h]
def bufsOK (l : List S39) : Bool := decide (l.length ≤ 20) && l.all (fun b => bufOK b.f0 b.f1 b.f2)
theorem spec_l05Bufs.loop (l : List S39) (hl : l.length ≤ 20) (d : Nat) : ∀ (k i : Nat), i ≤ l.length → l.length - i = d → d + 301 < k → spec_l05Bufs.l0 k l (i : Int) = some ((l.drop i).all (fun b => bufOK b.f0 b.f1 b.f2)) := by
  induction d with
  | zero =>
    intro k i hi hd hk
    obtain ⟨k, rfl⟩ : ∃ m, k = m + 1 := ⟨k - 1, by omega⟩
    simp only [spec_l05Bufs.l0]
    rw [if_neg (by omega), List.drop_eq_nil_of_le (by omega)]
    rfl
  | succ d ih =>
    intro k i hi hd hk
    obtain ⟨k, rfl⟩ : ∃ m, k = m + 1 := ⟨k - 1, by omega⟩
    have hlt : i < l.length := by omega
    simp only [spec_l05Bufs.l0]
    rw [if_pos (int_lt hlt), if_pos (int_nn i), rdBufB hlt, spec_BufRight.eq _ _ _ (by omega), wrap_succ (by omega), ih k (i + 1) (by omega) (by omega) (by omega), List.drop_eq_getElem_cons hlt]
    simp only [Option.bind_some, List.all_cons]
    cases bufOK l[i].f0 l[i].f1 l[i].f2 <;> simp
theorem spec_l05Bufs.eq {l : List S39} {k : Nat} (hk : 400 < k) : spec_l05Bufs.f k l = some (bufsOK l) := by
  unfold spec_l05Bufs.f bufsOK
  by_cases h : l.length ≤ 20
  · rw [if_neg (by omega)]
    have := spec_l05Bufs.loop l h l.length k 0 (by omega) (by omega) (by omega)
    rw [List.drop_zero] at this
    rw [decide_eq_true h, Bool.true_and]
    exact this
  · rw [if_pos (by omega), decide_eq_false h, Bool.false_and]
theorem slices_IndexFunc_simpl_Buf_impl_Buf.loop (l : List S39) (hl : l.length ≤ 20) (d : Nat) : ∀ (k i : Nat), i ≤ l.length → l.length - i = d → d + 301 < k → ∃ r : Int, slices_IndexFunc_simpl_Buf_impl_Buf.l0 k l (l.length : Int) (i : Int) = some r ∧ (0 ≤ r ↔ (l.drop i).all (fun b => bufOK b.f0 b.f1 b.f2) = false) := by
  induction d with
  | zero =>
    intro k i hi hd hk
    obtain ⟨k, rfl⟩ : ∃ m, k = m + 1 := ⟨k - 1, by omega⟩
    refine ⟨-1, ?_, ?_⟩
    · simp only [slices_IndexFunc_simpl_Buf_impl_Buf.l0]
      rw [if_neg (by omega)]
    · rw [List.drop_eq_nil_of_le (by omega)]
      simp
  | succ d ih =>
    intro k i hi hd hk
    obtain ⟨k, rfl⟩ : ∃ m, k = m + 1 := ⟨k - 1, by omega⟩
    have hlt : i < l.length := by omega
    have hp : impl_areBufs_1.f k l[i].f0 l[i].f1 l[i].f2 = some (!bufOK l[i].f0 l[i].f1 l[i].f2) := by
      unfold impl_areBufs_1.f
      rw [impl_BufRight.eq _ _ _ (by omega)]
      rfl
    simp only [slices_IndexFunc_simpl_Buf_impl_Buf.l0]
    rw [if_pos (int_lt hlt), if_pos (int_nn i), if_pos (int_lt hlt), rdBufB hlt, hp, wrap_succ (by omega), List.drop_eq_getElem_cons hlt]
    simp only [Option.bind_some, List.all_cons]
    cases bufOK l[i].f0 l[i].f1 l[i].f2
    · exact ⟨i, by simp, by simp⟩
    · simpa using ih k (i + 1) (by omega) (by omega) (by omega)
theorem impl_areBufs.eq {l : List S39} {k : Nat} (hk : 400 < k) : impl_areBufs.f k l = some (bufsOK l) := by
  unfold impl_areBufs.f bufsOK
  by_cases h : l.length ≤ 20
  · rw [if_pos (by omega), decide_eq_true h, Bool.true_and]
    obtain ⟨r, h1, h2⟩ := slices_IndexFunc_simpl_Buf_impl_Buf.loop l h l.length k 0 (by omega) (by omega) (by omega)
    unfold slices_ContainsFunc_simpl_Buf_impl_Buf.f slices_IndexFunc_simpl_Buf_impl_Buf.f
    rw [show ((0 : Nat) : Int) = 0 from rfl] at h1
    rw [h1]
    simp only [Option.bind_some]
    rw [List.drop_zero] at h2
    refine some_b ?_
    cases hq : l.all (fun b => bufOK b.f0 b.f1 b.f2)
    · have := h2.2 hq; simp; omega
    · have : ¬ 0 ≤ r := fun h3 => by rw [h2.1 h3] at hq; cases hq
      simp; omega
  · rw [if_neg (by omega), decide_eq_false h, Bool.false_and]
theorem spec_UndoRight.eq (a b : List S39) {k : Nat} (hk : 400 < k) : spec_UndoRight.f k a b = some (bufsOK a && bufsOK b) := by
  unfold spec_UndoRight.f
  rw [spec_l05Bufs.eq hk, spec_l05Bufs.eq hk]
  cases bufsOK a <;> rfl
theorem impl_UndoRight.eq (a b : List S39) {k : Nat} (hk : 400 < k) : impl_UndoRight.f k a b = some (bufsOK a && bufsOK b) := by
  unfold impl_UndoRight.f
  rw [impl_areBufs.eq hk, impl_areBufs.eq hk]
  cases bufsOK a <;> rfl
theorem spec_l01Copy.eq {l : List Int} (h : l.length ≤ 2000000) : spec_l01Copy.f l = some l := by
  unfold spec_l01Copy.f
  simp only [Option.bind_some, List.length_nil, List.nil_append]
  rw [if_pos (by omega)]
theorem slices_Clone_sint64_int64.eq {l : List Int} (h : l.length ≤ 2000000) : slices_Clone_sint64_int64.f l = some l := by
  unfold slices_Clone_sint64_int64.f
  simp only [Option.bind_some, List.length_nil, List.nil_append]
  rw [if_pos (by omega)]
theorem bufsOK_at {l : List S39} (h : bufsOK l = true) : l.length ≤ 20 ∧ ∀ x ∈ l, bufOK x.f0 x.f1 x.f2 = true := by
  unfold bufsOK at h
  simp only [Bool.and_eq_true, decide_eq_true_eq, List.all_eq_true] at h
  exact h
theorem bufsOK_mk {l : List S39} (h0 : l.length ≤ 20) (h1 : ∀ x ∈ l, bufOK x.f0 x.f1 x.f2 = true) : bufsOK l = true := by
  unfold bufsOK
  simp only [Bool.and_eq_true, decide_eq_true_eq, List.all_eq_true]
  exact ⟨h0, h1⟩
theorem spec_l05CopyBufs.loop (l : List S39) (hl : l.length ≤ 20) (hL : ∀ x ∈ l, bufOK x.f0 x.f1 x.f2 = true) (d : Nat) : ∀ (k i : Nat), i ≤ l.length → l.length - i = d → d < k → spec_l05CopyBufs.l0 k l (l.take i) (i : Int) = some l := by
  induction d with
  | zero =>
    intro k i hi hd hk
    obtain ⟨k, rfl⟩ : ∃ m, k = m + 1 := ⟨k - 1, by omega⟩
    simp only [spec_l05CopyBufs.l0]
    rw [if_neg (by omega), List.take_of_length_le (by omega)]
  | succ d ih =>
    intro k i hi hd hk
    obtain ⟨k, rfl⟩ : ∃ m, k = m + 1 := ⟨k - 1, by omega⟩
    have hlt : i < l.length := by omega
    have hx := bufOK_len (hL l[i] (List.getElem_mem hlt))
    simp only [spec_l05CopyBufs.l0]
    rw [if_pos (int_lt hlt), if_pos (int_nn i), rdBufB hlt]
    unfold spec_l02Copy.f
    rw [spec_l01Copy.eq (by omega)]
    simp only [Option.bind_some]
    rw [if_pos (by rw [List.length_take]; omega), wrap_succ (by omega)]
    have e : l.take i ++ [(⟨l[i].f0, l[i].f1, l[i].f2⟩ : S39)] = l.take (i + 1) := (List.take_succ_eq_append_getElem hlt).symm
    rw [e]
    exact ih k (i + 1) (by omega) (by omega) (by omega)
theorem spec_l05CopyBufs.eq {l : List S39} (hl : l.length ≤ 20) (hL : ∀ x ∈ l, bufOK x.f0 x.f1 x.f2 = true) {k : Nat} (hk : 100 < k) : spec_l05CopyBufs.f k l = some l := by
  unfold spec_l05CopyBufs.f
  exact spec_l05CopyBufs.loop l hl hL l.length k 0 (by omega) (by omega) (by omega)
theorem impl_ownBuf.eq {p : List Int} {c m : Int} (hp : p.length ≤ 2000000) : impl_ownBuf.f p c m = some (p, c, m) := by
  unfold impl_ownBuf.f
  rw [slices_Clone_sint64_int64.eq hp]
  rfl
theorem impl_ownBufs.loop (l : List S39) (hl : l.length ≤ 20) (hL : ∀ x ∈ l, bufOK x.f0 x.f1 x.f2 = true) (d : Nat) : ∀ (k i : Nat), i ≤ l.length → l.length - i = d → d < k → impl_ownBufs.l0 k (l.take i) l (l.length : Int) (i : Int) = some l := by
  induction d with
  | zero =>
    intro k i hi hd hk
    obtain ⟨k, rfl⟩ : ∃ m, k = m + 1 := ⟨k - 1, by omega⟩
    simp only [impl_ownBufs.l0]
    rw [if_neg (by omega), List.take_of_length_le (by omega)]
  | succ d ih =>
    intro k i hi hd hk
    obtain ⟨k, rfl⟩ : ∃ m, k = m + 1 := ⟨k - 1, by omega⟩
    have hlt : i < l.length := by omega
    have hx := bufOK_len (hL l[i] (List.getElem_mem hlt))
    simp only [impl_ownBufs.l0]
    rw [if_pos (int_lt hlt), if_pos (int_nn i), if_pos (int_lt hlt), rdBufB hlt, impl_ownBuf.eq (by omega)]
    simp only [Option.bind_some]
    rw [if_pos (by rw [List.length_take]; omega), wrap_succ (by omega)]
    have e : l.take i ++ [(⟨l[i].f0, l[i].f1, l[i].f2⟩ : S39)] = l.take (i + 1) := (List.take_succ_eq_append_getElem hlt).symm
    rw [e]
    exact ih k (i + 1) (by omega) (by omega) (by omega)
theorem impl_ownBufs.eq {l : List S39} (hl : l.length ≤ 20) (hL : ∀ x ∈ l, bufOK x.f0 x.f1 x.f2 = true) {k : Nat} (hk : 100 < k) : impl_ownBufs.f k l = some l := by
  unfold impl_ownBufs.f
  exact impl_ownBufs.loop l hl hL l.length k 0 (by omega) (by omega) (by omega)
def putV (l : List S39) (b : S39) : List S39 := (l ++ [b]).drop (l.length + 1 - 20)
theorem putV_eq {l : List S39} (b : S39) (hl : l.length ≤ 20) : putV l b = l.drop (l.length + 1 - 20) ++ [b] := by
  unfold putV
  rw [List.drop_append_of_le_length (by omega)]
theorem spec_l05Put.eq {l : List S39} (hl : l.length ≤ 20) (hL : ∀ x ∈ l, bufOK x.f0 x.f1 x.f2 = true) {p : List Int} (c m : Int) (hp : p.length ≤ 300) {k : Nat} (hk : 100 < k) : spec_l05Put.f k l p c m = some (putV l ⟨p, c, m⟩) := by
  unfold spec_l05Put.f spec_l02Copy.f
  rw [spec_l05CopyBufs.eq hl hL hk, spec_l01Copy.eq (by omega)]
  simp only [Option.bind_some]
  rw [if_pos (by omega)]
  have hlen : (l ++ [(⟨p, c, m⟩ : S39)]).length = l.length + 1 := by rw [List.length_append]; rfl
  unfold putV
  by_cases h : l.length = 20
  · rw [if_pos (by omega), if_pos (by omega), show l.length + 1 - 20 = 1 by omega]
    rfl
  · rw [if_neg (by omega), show l.length + 1 - 20 = 0 by omega, List.drop_zero]
theorem impl_behindBufs.eq {l : List S39} (hl : l.length ≤ 20) (hL : ∀ x ∈ l, bufOK x.f0 x.f1 x.f2 = true) {p : List Int} (c m : Int) (hp : p.length ≤ 300) {k : Nat} (hk : 100 < k) : impl_behindBufs.f k l p c m = some (putV l ⟨p, c, m⟩) := by
  unfold impl_behindBufs.f
  rw [impl_ownBufs.eq hl hL hk, impl_ownBuf.eq (by omega)]
  simp only [Option.bind_some]
  rw [if_pos (by omega)]
  have hlen : (l ++ [(⟨p, c, m⟩ : S39)]).length = l.length + 1 := by rw [List.length_append]; rfl
  have hm : mx (wrap64 (((l ++ [(⟨p, c, m⟩ : S39)]).length : Int) - 20)) 0 = ((l.length + 1 - 20 : Nat) : Int) := by
    rw [hlen, wrap_in (by omega) (by omega)]
    unfold mx
    omega
  unfold putV
  simp only [hm]
  rw [if_pos (int_nn _), if_pos (by omega), Int.toNat_natCast]
def lastB (P : List S39) : S39 := rd_T39 P ((P.length - 1 : Nat) : Int)
theorem lastB_mem {P : List S39} (h : P.length ≠ 0) : lastB P ∈ P := by
  unfold lastB
  rw [rdBufB (show P.length - 1 < P.length by omega)]
  exact List.getElem_mem _
theorem lastB_append (X : List S39) (b : S39) : lastB (X ++ [b]) = b := by
  have h : X.length < (X ++ [b]).length := by rw [List.length_append, List.length_singleton]; omega
  unfold lastB
  rw [show (X ++ [b]).length - 1 = X.length by rw [List.length_append, List.length_singleton]; omega, rdBufB h, List.getElem_append_right (by omega)]
  simp
theorem take_last {P : List S39} (h : P.length ≠ 0) : P.take (P.length - 1) ++ [lastB P] = P := by
  unfold lastB
  have h1 : P.length - 1 < P.length := by omega
  rw [rdBufB h1, ← List.take_succ_eq_append_getElem h1, List.take_of_length_le (by omega)]
def ubV (P N : List S39) (l : List Int) (c m : Int) : List S39 × List S39 × List Int × Int × Int × Int :=
  if (bufsOK P && bufsOK N) = true ∧ bufOK l c m = true then (if P.length = 0 then ([], [], [], 0, 0, 4) else (P.take (P.length - 1), putV N ⟨l, c, m⟩, (lastB P).f0, (lastB P).f1, (lastB P).f2, 0)) else ([], [], [], 0, 0, 1)
theorem spec_UndoBack.eq (P N : List S39) (l : List Int) (c m : Int) {k : Nat} (hk : 1000 < k) : spec_UndoBack.f k P N l c m = some (ubV P N l c m) := by
  obtain ⟨k, rfl⟩ : ∃ j, k = j + 1 := ⟨k - 1, by omega⟩
  unfold spec_UndoBack.f ubV
  rw [spec_UndoRight.eq _ _ (by omega)]
  simp only [Option.bind_some]
  by_cases h1 : (bufsOK P && bufsOK N) = true
  · rw [if_pos h1, spec_BufRight.eq _ _ _ (by omega)]
    simp only [Option.bind_some]
    by_cases h2 : bufOK l c m = true
    · obtain ⟨p1, p2⟩ := bufsOK_at (Bool.and_eq_true_iff.1 h1).1
      obtain ⟨n1, n2⟩ := bufsOK_at (Bool.and_eq_true_iff.1 h1).2
      have hb := bufOK_len h2
      rw [if_pos (⟨h1, h2⟩ : (bufsOK P && bufsOK N) = true ∧ bufOK l c m = true), h2, Bool.not_true, spec_UndoBack.j0, if_neg (by decide)]
      by_cases h0 : P.length = 0
      · rw [if_pos (by omega), if_pos h0]
      · rw [if_neg (by omega), if_neg h0]
        simp only [show wrap64 ((P.length : Int) - 1) = ((P.length - 1 : Nat) : Int) by rw [wrap_in (by omega) (by omega)]; omega]
        have hx := bufOK_len (p2 _ (lastB_mem h0))
        rw [if_pos (int_nn _), if_pos (by omega), Int.toNat_natCast, spec_l05CopyBufs.eq (by rw [List.length_take]; omega) (fun x hx => p2 x (List.mem_of_mem_take hx)) (by omega)]
        simp only [Option.bind_some]
        rw [spec_l05Put.eq n1 n2 c m hb (by omega)]
        simp only [Option.bind_some]
        rw [if_pos (by omega)]
        show (spec_l02Copy.f (lastB P).f0 (lastB P).f1 (lastB P).f2).bind _ = _
        unfold spec_l02Copy.f
        rw [spec_l01Copy.eq (by omega)]
        rfl
    · have h3 : bufOK l c m = false := by cases h : bufOK l c m <;> simp_all
      rw [if_neg (fun e => h2 e.2), h3, Bool.not_false, spec_UndoBack.j0, if_pos rfl]
  · rw [if_neg h1, if_neg (fun e => h1 e.1), spec_UndoBack.j0, if_pos rfl]
theorem impl_UndoBack.eq (P N : List S39) (l : List Int) (c m : Int) (hP : P.length ≤ 1048576) {k : Nat} (hk : 1000 < k) : impl_UndoBack.f k P N l c m = some (ubV P N l c m) := by
  obtain ⟨k, rfl⟩ : ∃ j, k = j + 1 := ⟨k - 1, by omega⟩
  unfold impl_UndoBack.f ubV
  rw [impl_UndoRight.eq _ _ (by omega), wrap_in (x := (P.length : Int) - 1) (by omega) (by omega)]
  simp only [Option.bind_some]
  by_cases h1 : (bufsOK P && bufsOK N) = true
  · rw [if_pos h1, impl_BufRight.eq _ _ _ (by omega)]
    simp only [Option.bind_some]
    by_cases h2 : bufOK l c m = true
    · obtain ⟨p1, p2⟩ := bufsOK_at (Bool.and_eq_true_iff.1 h1).1
      obtain ⟨n1, n2⟩ := bufsOK_at (Bool.and_eq_true_iff.1 h1).2
      have hb := bufOK_len h2
      rw [if_pos (⟨h1, h2⟩ : (bufsOK P && bufsOK N) = true ∧ bufOK l c m = true), h2, Bool.not_true, impl_UndoBack.j0, if_neg (by decide)]
      by_cases h0 : P.length = 0
      · rw [if_pos (by omega), if_pos h0]
      · rw [if_neg (by omega), if_neg h0]
        rw [show (P.length : Int) - 1 = ((P.length - 1 : Nat) : Int) by omega]
        have hx := bufOK_len (p2 _ (lastB_mem h0))
        rw [if_pos (int_nn _), if_pos (by omega), Int.toNat_natCast, impl_ownBufs.eq (by rw [List.length_take]; omega) (fun x hx => p2 x (List.mem_of_mem_take hx)) (by omega)]
        simp only [Option.bind_some]
        rw [impl_behindBufs.eq n1 n2 c m hb (by omega)]
        simp only [Option.bind_some]
        rw [if_pos (by omega)]
        show (impl_ownBuf.f (lastB P).f0 (lastB P).f1 (lastB P).f2).bind _ = _
        rw [impl_ownBuf.eq (by omega)]
        rfl
    · have h3 : bufOK l c m = false := by cases h : bufOK l c m <;> simp_all
      rw [if_neg (fun e => h2 e.2), h3, Bool.not_false, impl_UndoBack.j0, if_pos rfl]
  · rw [if_neg h1, if_neg (fun e => h1 e.1), impl_UndoBack.j0, if_pos rfl]
theorem putV_ok {N : List S39} {b : S39} (h : bufsOK N = true) (hb : bufOK b.f0 b.f1 b.f2 = true) : bufsOK (putV N b) = true := by
  obtain ⟨n1, n2⟩ := bufsOK_at h
  rw [putV_eq b n1]
  refine bufsOK_mk (by rw [List.length_append, List.length_drop, List.length_singleton]; omega) (fun x hx => ?_)
  rcases List.mem_append.1 hx with hx | hx
  · exact n2 x (List.mem_of_mem_drop hx)
  · rw [List.mem_singleton.1 hx]; exact hb
theorem take_ok {P : List S39} (n : Nat) (h : bufsOK P = true) : bufsOK (P.take n) = true := by
  obtain ⟨n1, n2⟩ := bufsOK_at h
  exact bufsOK_mk (by rw [List.length_take]; omega) (fun x hx => n2 x (List.mem_of_mem_take hx))
/-! ### draws: what they yield is some value, within bounds -/
theorem u64_in {t : Int} (h0 : 0 ≤ t) (h1 : t ≤ 4611686018427387904) : IntKind.u64.wrap t = t := by
  rw [Go.IntKind.wrap_u64]
  omega
theorem tmod_in (X : Int) {t : Int} (h0 : 1 < t) (h1 : t ≤ 4611686018427387904) : 0 ≤ wrap64 (Int.tmod (IntKind.u64.wrap X) (IntKind.u64.wrap t)) ∧ wrap64 (Int.tmod (IntKind.u64.wrap X) (IntKind.u64.wrap t)) < t := by
  have hX : 0 ≤ IntKind.u64.wrap X := by rw [Go.IntKind.wrap_u64]; omega
  rw [u64_in (by omega) h1, Int.tmod_eq_emod_of_nonneg hX]
  have a1 := Int.emod_nonneg (IntKind.u64.wrap X) (show t ≠ 0 by omega)
  have a2 := Int.emod_lt_of_pos (IntKind.u64.wrap X) (show 0 < t by omega)
  rw [wrap_in (by omega) (by omega)]
  exact ⟨a1, a2⟩
theorem spec_l01Src_n.eq (b : List Int) (a m z t : Int) (hb : b.length ≤ 1048576) (h0 : 0 ≤ a) (h1 : a ≤ b.length) (ht : t ≤ 4611686018427387904) : ∃ v a' m', spec_l01Src_n.f b a m z t = some (v, a', m', z) ∧ 0 ≤ v ∧ (v < t ∨ v = 0) ∧ 0 ≤ a' ∧ a' ≤ b.length := by
  unfold spec_l01Src_n.f
  by_cases h : t ≤ 1
  · rw [if_pos h]
    exact ⟨_, _, _, rfl, by omega, by omega, h0, h1⟩
  · have e : ¬ IntKind.u64.wrap t = 0 := by
      rw [u64_in (by omega) ht]
      omega
    rw [if_neg h]
    by_cases g : a < (b.length : Int)
    · rw [if_pos g, if_pos h0, if_neg e]
      refine ⟨_, _, _, rfl, (tmod_in _ (by omega) ht).1, Or.inl (tmod_in _ (by omega) ht).2, ?_, ?_⟩
      · rw [wrap_in (by omega) (by omega)]; omega
      · rw [wrap_in (by omega) (by omega)]; omega
    · rw [if_neg g, if_neg e]
      exact ⟨_, _, _, rfl, (tmod_in _ (by omega) ht).1, Or.inl (tmod_in _ (by omega) ht).2, h0, h1⟩
theorem spec_l01Src_one.eq (b : List Int) (a m z t : Int) (hb : b.length ≤ 1048576) (h0 : 0 ≤ a) (h1 : a ≤ b.length) (ht : t ≤ 4611686018427387904) : ∃ v a' m', spec_l01Src_one.f b a m z t = some (v, a', m', z) ∧ 0 ≤ a' ∧ a' ≤ b.length := by
  obtain ⟨v, a', m', e, _, _, g1, g2⟩ := spec_l01Src_n.eq b a m z t hb h0 h1 ht
  unfold spec_l01Src_one.f
  rw [e]
  exact ⟨_, _, _, rfl, g1, g2⟩
theorem spec_l01Src_point.eq (b : List Int) (a m z : Int) (hb : b.length ≤ 1048576) (h0 : 0 ≤ a) (h1 : a ≤ b.length) : ∃ v a' m', spec_l01Src_point.f b a m z = some (v, a', m', z) ∧ 0 ≤ a' ∧ a' ≤ b.length := by
  obtain ⟨v, a1, m1, e, v0, v1, g1, g2⟩ := spec_l01Src_n.eq b a m z 14 hb h0 h1 (by omega)
  unfold spec_l01Src_point.f
  rw [e]
  simp only [Option.bind_some]
  by_cases c0 : v = 0
  · rw [if_pos c0]; exact ⟨_, _, _, rfl, g1, g2⟩
  rw [if_neg c0]
  by_cases c1 : v = 1
  · rw [if_pos c1]; exact ⟨_, _, _, rfl, g1, g2⟩
  rw [if_neg c1]
  by_cases c2 : v = 2
  · rw [if_pos c2]
    obtain ⟨q, a2, m2, e2, q0, q1, k1, k2⟩ := spec_l01Src_n.eq b a1 m1 z 5 hb g1 g2 (by omega)
    rw [e2]
    simp only [Option.bind_some, List.length_cons, List.length_nil]
    rw [if_pos (by omega), if_pos (by omega)]
    exact ⟨_, _, _, rfl, k1, k2⟩
  rw [if_neg c2]
  by_cases c3 : v = 3
  · rw [if_pos c3]
    obtain ⟨q, a2, m2, e2, q0, q1, k1, k2⟩ := spec_l01Src_n.eq b a1 m1 z 20 hb g1 g2 (by omega)
    rw [e2]
    simp only [Option.bind_some, List.length_cons, List.length_nil]
    rw [if_pos (by omega), if_pos (by omega)]
    exact ⟨_, _, _, rfl, k1, k2⟩
  rw [if_neg c3]
  by_cases c4 : v = 4
  · rw [if_pos c4]
    obtain ⟨q, a2, m2, e2, q0, q1, k1, k2⟩ := spec_l01Src_n.eq b a1 m1 z 8 hb g1 g2 (by omega)
    rw [e2]
    simp only [Option.bind_some, List.length_cons, List.length_nil]
    rw [if_pos (by omega), if_pos (by omega)]
    exact ⟨_, _, _, rfl, k1, k2⟩
  rw [if_neg c4]
  by_cases c5 : v = 5
  · rw [if_pos c5]
    obtain ⟨q, a2, m2, e2, q0, q1, k1, k2⟩ := spec_l01Src_n.eq b a1 m1 z 5 hb g1 g2 (by omega)
    rw [e2]
    simp only [Option.bind_some, List.length_cons, List.length_nil]
    rw [if_pos (by omega), if_pos (by omega)]
    exact ⟨_, _, _, rfl, k1, k2⟩
  rw [if_neg c5]
  by_cases c6 : v = 6
  · rw [if_pos c6]
    obtain ⟨q, a2, m2, e2, q0, q1, k1, k2⟩ := spec_l01Src_n.eq b a1 m1 z 10 hb g1 g2 (by omega)
    rw [e2]
    exact ⟨_, _, _, rfl, k1, k2⟩
  rw [if_neg c6]
  obtain ⟨q, a2, m2, e2, q0, q1, k1, k2⟩ := spec_l01Src_n.eq b a1 m1 z 6 hb g1 g2 (by omega)
  rw [e2]
  exact ⟨_, _, _, rfl, k1, k2⟩
theorem spec_l01Src_points.loop (b : List Int) (z : Int) (hb : b.length ≤ 1048576) (t : Nat) : ∀ (k : Nat) (acc : List Int) (a m : Int), acc.length + t ≤ 1000000 → 0 ≤ a → a ≤ b.length → t < k → ∃ p a' m', spec_l01Src_points.l0 k (t : Int) acc b a m z = some (p, a', m', z) ∧ p.length = acc.length + t ∧ 0 ≤ a' ∧ a' ≤ b.length := by
  induction t with
  | zero =>
    intro k acc a m ha h0 h1 hk
    obtain ⟨k, rfl⟩ : ∃ m, k = m + 1 := ⟨k - 1, by omega⟩
    exact ⟨acc, a, m, rfl, rfl, h0, h1⟩
  | succ t ih =>
    intro k acc a m ha h0 h1 hk
    obtain ⟨k, rfl⟩ : ∃ m, k = m + 1 := ⟨k - 1, by omega⟩
    obtain ⟨v, a1, m1, e, g1, g2⟩ := spec_l01Src_point.eq b a m z hb h0 h1
    obtain ⟨p, a2, m2, e2, hp, k1, k2⟩ := ih k (acc ++ [v]) a1 m1 (by rw [List.length_append, List.length_singleton]; omega) g1 g2 (by omega)
    rw [spec_l01Src_points.l0, if_pos (by omega), e, show wrap64 (((t + 1 : Nat) : Int) - 1) = (t : Int) by rw [wrap_in (by omega) (by omega)]; omega]
    simp only [Option.bind_some]
    rw [if_pos (by omega), e2]
    exact ⟨p, a2, m2, rfl, by rw [hp, List.length_append, List.length_singleton]; omega, k1, k2⟩
theorem spec_l01Src_points.eq (b : List Int) (a m z t : Int) (hb : b.length ≤ 1048576) (h0 : 0 ≤ a) (h1 : a ≤ b.length) (ht0 : 0 ≤ t) (ht : t ≤ 1000) {k : Nat} (hk : 2000 < k) : ∃ p a' m', spec_l01Src_points.f k b a m z t = some (p, a', m', z) ∧ p.length = t.toNat ∧ 0 ≤ a' ∧ a' ≤ b.length := by
  obtain ⟨n, rfl⟩ : ∃ n : Nat, t = (n : Int) := ⟨t.toNat, by omega⟩
  obtain ⟨p, a', m', e, hp, g1, g2⟩ := spec_l01Src_points.loop b z hb n k [] a m (by simp only [List.length_nil]; omega) h0 h1 (by omega)
  refine ⟨p, a', m', e, ?_, g1, g2⟩
  rw [hp, List.length_nil]
  omega
theorem spec_l01Source.loop (l : List Int) (hl : l.length ≤ 1048576) (d : Nat) : ∀ (k i : Nat) (m : Int), i ≤ l.length → l.length - i = d → d < k → ∃ m' z, spec_l01Source.l0 k l (i : Int) l 0 m 0 = some (l, 0, m', z) ∧ 0 ≤ z ∧ z ≤ 12 := by
  have hz : wrap64 ((l.length : Int) / 20) = (l.length : Int) / 20 := wrap_in (by omega) (by omega)
  have hend : ∀ m : Int, ∃ m' z, (if wrap64 ((l.length : Int) / 20) > 12 then some (l, (0 : Int), m, (12 : Int)) else some (l, 0, m, wrap64 ((l.length : Int) / 20))) = some (l, 0, m', z) ∧ 0 ≤ z ∧ z ≤ 12 := by
    intro m
    rw [hz]
    by_cases g : (l.length : Int) / 20 > 12
    · rw [if_pos g]; exact ⟨_, _, rfl, by omega, by omega⟩
    · rw [if_neg g]; exact ⟨_, _, rfl, by omega, by omega⟩
  induction d with
  | zero =>
    intro k i m hi hd hk
    obtain ⟨k, rfl⟩ : ∃ m, k = m + 1 := ⟨k - 1, by omega⟩
    rw [spec_l01Source.l0, if_neg (by omega)]
    exact hend m
  | succ d ih =>
    intro k i m hi hd hk
    obtain ⟨k, rfl⟩ : ∃ m, k = m + 1 := ⟨k - 1, by omega⟩
    rw [spec_l01Source.l0, if_pos (by omega)]
    by_cases g : (i : Int) < 64
    · rw [if_pos g, if_pos (by omega), wrap_succ (by omega)]
      exact ih k (i + 1) _ (by omega) (by omega) (by omega)
    · rw [if_neg g]
      exact hend m
theorem spec_l01Source.eq (l : List Int) (hl : l.length ≤ 1048576) {k : Nat} (hk : 1048577 < k) : ∃ m' z, spec_l01Source.f k l = some (l, 0, m', z) ∧ 0 ≤ z ∧ z ≤ 12 := by
  obtain ⟨m', z, h⟩ := spec_l01Source.loop l hl l.length k 0 88172645463325252 (by omega) (by omega) (by omega)
  exact ⟨m', z, h⟩
theorem spec_l01Src_l02Buf.j0_eq (b : List Int) (a m z : Int) (p : List Int) (hb : b.length ≤ 1048576) (h0 : 0 ≤ a) (h1 : a ≤ b.length) (hp : p.length ≤ 302) {k : Nat} (hk : 0 < k) : ∃ p' c d a' m', spec_l01Src_l02Buf.j0 k b a m z p 0 0 = some (p', c, d, a', m', z) ∧ p'.length ≤ 303 ∧ 0 ≤ a' ∧ a' ≤ b.length := by
  obtain ⟨k, rfl⟩ : ∃ m, k = m + 1 := ⟨k - 1, by omega⟩
  rw [spec_l01Src_l02Buf.j0, wrap_in (x := (p.length : Int) + 1) (by omega) (by omega)]
  obtain ⟨v, a1, m1, e1, v0, v1, g1, g2⟩ := spec_l01Src_n.eq b a m z ((p.length : Int) + 1) hb h0 h1 (by omega)
  rw [e1]
  simp only [Option.bind_some]
  obtain ⟨u, a2, m2, e2, u0, u1, k1, k2⟩ := spec_l01Src_n.eq b a1 m1 z ((p.length : Int) + 1) hb g1 g2 (by omega)
  rw [e2]
  simp only [Option.bind_some]
  obtain ⟨o, a3, m3, e3, l1, l2⟩ := spec_l01Src_one.eq b a2 m2 z 15 hb k1 k2 (by omega)
  rw [e3]
  simp only [Option.bind_some]
  cases o
  · rw [if_neg (by decide)]
    exact ⟨_, _, _, _, _, rfl, by omega, l1, l2⟩
  · obtain ⟨q, a4, m4, e4, q0, q1, n1, n2⟩ := spec_l01Src_n.eq b a3 m3 z 3 hb l1 l2 (by omega)
    obtain ⟨r, a5, m5, e5, r0, r1, s1, s2⟩ := spec_l01Src_n.eq b a4 m4 z 2 hb n1 n2 (by omega)
    rw [if_pos rfl, e4]
    simp only [Option.bind_some]
    rw [e5]
    simp only [Option.bind_some, List.length_cons, List.length_nil]
    by_cases c0 : q = 0
    · rw [if_pos c0, if_pos (by omega), if_pos (by omega)]
      exact ⟨_, _, _, _, _, rfl, by omega, s1, s2⟩
    · rw [if_neg c0]
      by_cases c1 : q = 1
      · rw [if_pos c1, if_pos (by omega), if_pos (by omega)]
        exact ⟨_, _, _, _, _, rfl, by omega, s1, s2⟩
      · rw [if_neg c1, if_pos (by omega)]
        exact ⟨_, _, _, _, _, rfl, by rw [List.length_append, List.length_singleton]; omega, n1, n2⟩
theorem spec_l01Src_l02Buf.eq (b : List Int) (a m z : Int) (hb : b.length ≤ 1048576) (h0 : 0 ≤ a) (h1 : a ≤ b.length) (hz : 0 ≤ z) (hz2 : z ≤ 12) {k : Nat} (hk : 3000 < k) : ∃ p c d a' m', spec_l01Src_l02Buf.f k b a m z = some (p, c, d, a', m', z) ∧ p.length ≤ 303 ∧ 0 ≤ a' ∧ a' ≤ b.length := by
  unfold spec_l01Src_l02Buf.f
  rw [wrap_in (x := 2 * z) (by omega) (by omega), wrap_in (x := 14 + 2 * z) (by omega) (by omega)]
  obtain ⟨v, a1, m1, e, v0, v1, g1, g2⟩ := spec_l01Src_n.eq b a m z (14 + 2 * z) hb h0 h1 (by omega)
  rw [e]
  simp only [Option.bind_some]
  obtain ⟨p, a2, m2, e2, hp, k1, k2⟩ := spec_l01Src_points.eq b a1 m1 z v hb g1 g2 v0 (by omega) (k := k) (by omega)
  rw [e2]
  simp only [Option.bind_some]
  obtain ⟨o, a3, m3, e3, l1, l2⟩ := spec_l01Src_one.eq b a2 m2 z 50 hb k1 k2 (by omega)
  rw [e3]
  simp only [Option.bind_some]
  cases o
  · rw [if_neg (by decide)]
    exact spec_l01Src_l02Buf.j0_eq b a3 m3 z p hb l1 l2 (by omega) (by omega)
  · obtain ⟨q, a4, m4, e4, q0, q1, n1, n2⟩ := spec_l01Src_n.eq b a3 m3 z 4 hb l1 l2 (by omega)
    rw [if_pos rfl, e4]
    simp only [Option.bind_some]
    rw [wrap_in (x := 298 + q) (by omega) (by omega)]
    obtain ⟨p2, a5, m5, e5, hp2, r1, r2⟩ := spec_l01Src_points.eq b a4 m4 z (298 + q) hb n1 n2 (by omega) (by omega) (k := k) (by omega)
    rw [e5]
    simp only [Option.bind_some]
    exact spec_l01Src_l02Buf.j0_eq b a5 m5 z p2 hb r1 r2 (by omega) (by omega)
theorem spec_l01Src_l05Small.eq (b : List Int) (a m z : Int) (hb : b.length ≤ 1048576) (h0 : 0 ≤ a) (h1 : a ≤ b.length) {k : Nat} (hk : 3000 < k) : ∃ p c d a' m', spec_l01Src_l05Small.f k b a m z = some (p, c, d, a', m', z) ∧ 0 ≤ a' ∧ a' ≤ b.length := by
  unfold spec_l01Src_l05Small.f
  obtain ⟨v, a1, m1, e1, v0, v1, g1, g2⟩ := spec_l01Src_n.eq b a m z 6 hb h0 h1 (by omega)
  rw [e1]
  simp only [Option.bind_some]
  have hv : v ≤ 1000 := by omega
  have hk2 : 2000 < k := by omega
  obtain ⟨p, a2, m2, e2, hp, k1, k2⟩ := spec_l01Src_points.eq b a1 m1 z v hb g1 g2 v0 hv (k := k) hk2
  have hpl : p.length ≤ 1000 := by omega
  clear hp
  rw [e2, Option.bind_some]
  dsimp only
  rw [wrap_in (x := (p.length : Int) + 1) (by omega) (by omega)]
  obtain ⟨u, a3, m3, e3, u0, u1, l1, l2⟩ := spec_l01Src_n.eq b a2 m2 z ((p.length : Int) + 1) hb k1 k2 (by omega)
  rw [e3]
  simp only [Option.bind_some]
  exact ⟨p, u, 0, a3, m3, rfl, l1, l2⟩
theorem spec_l01Src_l05Undo.loop1 (b : List Int) (z : Int) (P : List S39) (hP : P.length ≤ 50) (hb : b.length ≤ 1048576) (t : Nat) : ∀ (k : Nat) (l : List S39) (a m : Int), l.length + t ≤ 40 → 0 ≤ a → a ≤ b.length → t + 4000 < k → ∃ P' N' a' m', spec_l01Src_l05Undo.l1 k (t : Int) b a m z P l = some (P', N', a', m', z) ∧ P'.length ≤ 60 ∧ 0 ≤ a' ∧ a' ≤ b.length := by
  induction t with
  | zero =>
    intro k l a m hl h0 h1 hk
    obtain ⟨k, rfl⟩ : ∃ m, k = m + 1 := ⟨k - 1, by omega⟩
    simp only [spec_l01Src_l05Undo.l1]
    rw [if_neg (by omega)]
    obtain ⟨o, a3, m3, e3, l1, l2⟩ := spec_l01Src_one.eq b a m z 20 hb h0 h1 (by omega)
    rw [e3]
    simp only [Option.bind_some]
    cases o
    · rw [if_neg (by decide)]
      exact ⟨_, _, _, _, rfl, by omega, l1, l2⟩
    · rw [if_pos rfl, if_pos (by omega)]
      exact ⟨_, _, _, _, rfl, by rw [List.length_append, List.length_singleton]; omega, l1, l2⟩
  | succ t ih =>
    intro k l a m hl h0 h1 hk
    obtain ⟨k, rfl⟩ : ∃ m, k = m + 1 := ⟨k - 1, by omega⟩
    obtain ⟨p, c, d, a1, m1, e1, g1, g2⟩ := spec_l01Src_l05Small.eq b a m z hb h0 h1 (k := k) (by omega)
    simp only [spec_l01Src_l05Undo.l1]
    rw [if_pos (by omega), e1, show wrap64 (((t + 1 : Nat) : Int) - 1) = (t : Int) by rw [wrap_in (by omega) (by omega)]; omega]
    simp only [Option.bind_some]
    rw [if_pos (by omega)]
    exact ih k _ a1 m1 (by rw [List.length_append, List.length_singleton]; omega) g1 g2 (by omega)
theorem spec_l01Src_l05Undo.loop0 (b : List Int) (z : Int) (hb : b.length ≤ 1048576) (t : Nat) : ∀ (k : Nat) (l : List S39) (a m : Int), l.length + t ≤ 40 → 0 ≤ a → a ≤ b.length → t + 5000 < k → ∃ P' N' a' m', spec_l01Src_l05Undo.l0 k (t : Int) b a m z l = some (P', N', a', m', z) ∧ P'.length ≤ 60 ∧ 0 ≤ a' ∧ a' ≤ b.length := by
  induction t with
  | zero =>
    intro k l a m hl h0 h1 hk
    obtain ⟨k, rfl⟩ : ∃ m, k = m + 2 := ⟨k - 2, by omega⟩
    have hj : ∀ (t a m : Int), 0 ≤ t → t ≤ 40 → 0 ≤ a → a ≤ b.length → ∃ P' N' a' m', spec_l01Src_l05Undo.j2 (k + 1) t b a m z l = some (P', N', a', m', z) ∧ P'.length ≤ 60 ∧ 0 ≤ a' ∧ a' ≤ b.length := by
      intro t a m t0 t1 h0 h1
      obtain ⟨n, rfl⟩ : ∃ n : Nat, t = (n : Int) := ⟨t.toNat, by omega⟩
      simp only [spec_l01Src_l05Undo.j2]
      exact spec_l01Src_l05Undo.loop1 b z l (by omega) hb n k [] a m (by simp only [List.length_nil]; omega) h0 h1 (by omega)
    rw [spec_l01Src_l05Undo.l0, if_neg (by omega)]
    obtain ⟨v, a1, m1, e1, v0, v1, g1, g2⟩ := spec_l01Src_n.eq b a m z 3 hb h0 h1 (by omega)
    rw [e1]
    simp only [Option.bind_some]
    obtain ⟨o, a3, m3, e3, l1, l2⟩ := spec_l01Src_one.eq b a1 m1 z 15 hb g1 g2 (by omega)
    rw [e3]
    simp only [Option.bind_some]
    cases o
    · rw [if_neg (by decide)]
      exact hj v a3 m3 v0 (by omega) l1 l2
    · obtain ⟨q, a4, m4, e4, q0, q1, n1, n2⟩ := spec_l01Src_n.eq b a3 m3 z 3 hb l1 l2 (by omega)
      rw [if_pos rfl, e4]
      simp only [Option.bind_some]
      rw [wrap_in (x := 19 + q) (by omega) (by omega)]
      exact hj _ a4 m4 (by omega) (by omega) n1 n2
  | succ t ih =>
    intro k l a m hl h0 h1 hk
    obtain ⟨k, rfl⟩ : ∃ m, k = m + 1 := ⟨k - 1, by omega⟩
    obtain ⟨p, c, d, a1, m1, e1, g1, g2⟩ := spec_l01Src_l05Small.eq b a m z hb h0 h1 (k := k) (by omega)
    rw [spec_l01Src_l05Undo.l0, if_pos (by omega), e1, show wrap64 (((t + 1 : Nat) : Int) - 1) = (t : Int) by rw [wrap_in (by omega) (by omega)]; omega]
    simp only [Option.bind_some]
    rw [if_pos (by omega)]
    exact ih k _ a1 m1 (by rw [List.length_append, List.length_singleton]; omega) g1 g2 (by omega)
theorem spec_l01Src_l05Undo.eq (b : List Int) (a m z : Int) (hb : b.length ≤ 1048576) (h0 : 0 ≤ a) (h1 : a ≤ b.length) {k : Nat} (hk : 6000 < k) : ∃ P N a' m', spec_l01Src_l05Undo.f k b a m z = some (P, N, a', m', z) ∧ P.length ≤ 60 ∧ 0 ≤ a' ∧ a' ≤ b.length := by
  have hj : ∀ (t a m : Int), 0 ≤ t → t ≤ 40 → 0 ≤ a → a ≤ b.length → ∃ P' N' a' m', spec_l01Src_l05Undo.j0 k t b a m z = some (P', N', a', m', z) ∧ P'.length ≤ 60 ∧ 0 ≤ a' ∧ a' ≤ b.length := by
    intro t a m t0 t1 h0 h1
    obtain ⟨k, rfl⟩ : ∃ m, k = m + 1 := ⟨k - 1, by omega⟩
    obtain ⟨n, rfl⟩ : ∃ n : Nat, t = (n : Int) := ⟨t.toNat, by omega⟩
    rw [spec_l01Src_l05Undo.j0]
    exact spec_l01Src_l05Undo.loop0 b z hb n k [] a m (by simp only [List.length_nil]; omega) h0 h1 (by omega)
  unfold spec_l01Src_l05Undo.f
  obtain ⟨v, a1, m1, e1, v0, v1, g1, g2⟩ := spec_l01Src_n.eq b a m z 4 hb h0 h1 (by omega)
  rw [e1]
  simp only [Option.bind_some]
  obtain ⟨o, a3, m3, e3, l1, l2⟩ := spec_l01Src_one.eq b a1 m1 z 12 hb g1 g2 (by omega)
  rw [e3]
  simp only [Option.bind_some]
  cases o
  · rw [if_neg (by decide)]
    exact hj v a3 m3 v0 (by omega) l1 l2
  · obtain ⟨q, a4, m4, e4, q0, q1, n1, n2⟩ := spec_l01Src_n.eq b a3 m3 z 3 hb l1 l2 (by omega)
    rw [if_pos rfl, e4]
    simp only [Option.bind_some]
    rw [wrap_in (x := 19 + q) (by omega) (by omega)]
    exact hj _ a4 m4 (by omega) (by omega) n1 n2
theorem spec_DrawUndoBack.eq (l : List Int) (hl : l.length ≤ 1048576) {k : Nat} (hk : 2000000 < k) : ∃ P N p c d, spec_DrawUndoBack.f k l = some (P, N, p, c, d) ∧ P.length ≤ 60 := by
  obtain ⟨m, z, e, hz, hz2⟩ := spec_l01Source.eq l hl (k := k) (by omega)
  unfold spec_DrawUndoBack.f
  rw [e]
  simp only [Option.bind_some]
  obtain ⟨P, N, a1, m1, e1, hP, g1, g2⟩ := spec_l01Src_l05Undo.eq l 0 m z hl (by omega) (by omega) (k := k) (by omega)
  rw [e1]
  simp only [Option.bind_some]
  obtain ⟨p, c, d, a', m', e2, hp, _⟩ := spec_l01Src_l02Buf.eq l a1 m1 z hl g1 g2 hz hz2 (k := k) (by omega)
  rw [e2]
  exact ⟨_, _, _, _, _, rfl, hP⟩
theorem laws_lwSame.loop (a b : List Int) (hab : a.length = b.length) (hl : a.length ≤ 1048576) (d : Nat) : ∀ (k i : Nat), i ≤ a.length → a.length - i = d → d < k → laws_lwSame.l0 k a b (i : Int) = some (decide (a.drop i = b.drop i)) := by
  induction d with
  | zero =>
    intro k i hi hd hk
    obtain ⟨k, rfl⟩ : ∃ m, k = m + 1 := ⟨k - 1, by omega⟩
    simp only [laws_lwSame.l0]
    rw [if_neg (by omega), List.drop_eq_nil_of_le (by omega), List.drop_eq_nil_of_le (by omega)]
    rfl
  | succ d ih =>
    intro k i hi hd hk
    obtain ⟨k, rfl⟩ : ∃ m, k = m + 1 := ⟨k - 1, by omega⟩
    have hlt : i < a.length := by omega
    simp only [laws_lwSame.l0]
    rw [if_pos (int_lt hlt), if_pos (int_nn i), if_pos (by omega), wrap_succ (by omega), ih k (i + 1) (by omega) (by omega) (by omega), drop_rd hlt, drop_rd (show i < b.length by omega)]
    by_cases h : rd a (i : Int) = rd b (i : Int)
    · rw [if_pos h, h]
      simp
    · rw [if_neg h]
      simp [h]
theorem laws_lwSame.eq {a b : List Int} {k : Nat} (hl : a.length ≤ 1048576) (hk : a.length < k) : laws_lwSame.f k a b = some (decide (a = b)) := by
  unfold laws_lwSame.f
  by_cases h : a.length = b.length
  · rw [if_pos (by omega)]
    have := laws_lwSame.loop a b h hl a.length k 0 (by omega) (by omega) hk
    simpa using this
  · rw [if_neg (by omega)]
    refine congrArg some (decide_eq_false (fun e => h (by rw [e]))).symm
theorem laws_lwBuf.eq {a b : List Int} {c m c' m' : Int} {k : Nat} (hl : a.length ≤ 1048576) (hk : a.length < k) : laws_lwBuf.f k a c m b c' m' = some (decide (a = b ∧ c = c' ∧ m = m')) := by
  unfold laws_lwBuf.f
  rw [laws_lwSame.eq hl hk]
  simp only [Option.bind_some, decide_eq_true_eq]
  by_cases h1 : a = b
  · by_cases h2 : c = c'
    · by_cases h3 : m = m'
      · simp [h1, h2, h3]
      · simp [h1, h2, h3]
    · simp [h1, h2]
  · simp [h1]
theorem laws_lwUndo.loop1 (P N : List S39) (hl : N.length ≤ 20) (hL : ∀ x ∈ N, bufOK x.f0 x.f1 x.f2 = true) (d : Nat) : ∀ (k i : Nat), i ≤ N.length → N.length - i = d → d + 301 < k → laws_lwUndo.l1 k (i : Int) P N P N = some true := by
  induction d with
  | zero =>
    intro k i hi hd hk
    obtain ⟨k, rfl⟩ : ∃ m, k = m + 1 := ⟨k - 1, by omega⟩
    simp only [laws_lwUndo.l1]
    rw [if_neg (by omega)]
  | succ d ih =>
    intro k i hi hd hk
    obtain ⟨k, rfl⟩ : ∃ m, k = m + 1 := ⟨k - 1, by omega⟩
    have hlt : i < N.length := by omega
    have hx := bufOK_len (hL N[i] (List.getElem_mem hlt))
    simp only [laws_lwUndo.l1]
    rw [if_pos (int_lt hlt), if_pos (int_nn i), if_pos (int_lt hlt), rdBufB hlt, laws_lwBuf.eq (by omega) (by omega)]
    simp only [Option.bind_some, and_self, decide_true, if_true]
    rw [wrap_succ (by omega)]
    exact ih k (i + 1) (by omega) (by omega) (by omega)
theorem laws_lwUndo.loop0 (P N : List S39) (hp : P.length ≤ 20) (hP : ∀ x ∈ P, bufOK x.f0 x.f1 x.f2 = true) (hl : N.length ≤ 20) (hL : ∀ x ∈ N, bufOK x.f0 x.f1 x.f2 = true) (d : Nat) : ∀ (k i : Nat), i ≤ P.length → P.length - i = d → d + 401 < k → laws_lwUndo.l0 k (i : Int) P N P N = some true := by
  induction d with
  | zero =>
    intro k i hi hd hk
    obtain ⟨k, rfl⟩ : ∃ m, k = m + 1 := ⟨k - 1, by omega⟩
    simp only [laws_lwUndo.l0]
    rw [if_neg (by omega)]
    exact laws_lwUndo.loop1 P N hl hL N.length k 0 (by omega) (by omega) (by omega)
  | succ d ih =>
    intro k i hi hd hk
    obtain ⟨k, rfl⟩ : ∃ m, k = m + 1 := ⟨k - 1, by omega⟩
    have hlt : i < P.length := by omega
    have hx := bufOK_len (hP P[i] (List.getElem_mem hlt))
    simp only [laws_lwUndo.l0]
    rw [if_pos (int_lt hlt), if_pos (int_nn i), if_pos (int_lt hlt), rdBufB hlt, laws_lwBuf.eq (by omega) (by omega)]
    simp only [Option.bind_some, and_self, decide_true, if_true]
    rw [wrap_succ (by omega)]
    exact ih k (i + 1) (by omega) (by omega) (by omega)
theorem laws_lwUndo.eq {P N : List S39} (hP : bufsOK P = true) (hN : bufsOK N = true) {k : Nat} (hk : 1000 < k) : laws_lwUndo.f k P N P N = some true := by
  obtain ⟨p1, p2⟩ := bufsOK_at hP
  obtain ⟨n1, n2⟩ := bufsOK_at hN
  obtain ⟨k, rfl⟩ : ∃ m, k = m + 1 := ⟨k - 1, by omega⟩
  unfold laws_lwUndo.f
  rw [if_pos rfl]
  simp only [bne_self_eq_false, laws_lwUndo.j0, Bool.false_eq_true, if_false]
  exact laws_lwUndo.loop0 P N p1 p2 n1 n2 P.length k 0 (by omega) (by omega) (by omega)
theorem impl_UndoForth.back {P N : List S39} {l : List Int} {c m : Int} (hP : bufsOK P = true) (hN : bufsOK N = true) (hb : bufOK l c m = true) (h0 : P.length ≠ 0) {k : Nat} (hk : 1000 < k) : impl_UndoForth.f k (P.take (P.length - 1)) (putV N ⟨l, c, m⟩) (lastB P).f0 (lastB P).f1 (lastB P).f2 = some (P, N.drop (N.length + 1 - 20), l, c, m, 0) := by
  obtain ⟨p1, p2⟩ := bufsOK_at hP
  obtain ⟨n1, n2⟩ := bufsOK_at hN
  have hq : bufsOK (putV N ⟨l, c, m⟩) = true := putV_ok hN hb
  have e1 := putV_eq (⟨l, c, m⟩ : S39) n1
  have hlen : (putV N ⟨l, c, m⟩).length = (N.drop (N.length + 1 - 20)).length + 1 := by rw [e1, List.length_append]; rfl
  unfold impl_UndoForth.f
  rw [impl_UndoBack.eq _ _ _ _ _ (by rw [hlen, List.length_drop]; omega) hk]
  have hv : ubV (putV N ⟨l, c, m⟩) (P.take (P.length - 1)) (lastB P).f0 (lastB P).f1 (lastB P).f2 = (N.drop (N.length + 1 - 20), P, l, c, m, 0) := by
    unfold ubV
    rw [hq, take_ok _ hP, if_pos (⟨rfl, p2 _ (lastB_mem h0)⟩ : (true && true) = true ∧ bufOK (lastB P).f0 (lastB P).f1 (lastB P).f2 = true), if_neg (by omega), e1, lastB_append]
    have e2 : putV (P.take (P.length - 1)) ⟨(lastB P).f0, (lastB P).f1, (lastB P).f2⟩ = P := by
      unfold putV
      rw [show (P.take (P.length - 1)).length + 1 - 20 = 0 by rw [List.length_take]; omega, List.drop_zero]
      exact take_last h0
    have e3 : (N.drop (N.length + 1 - 20) ++ [(⟨l, c, m⟩ : S39)]).take ((N.drop (N.length + 1 - 20) ++ [(⟨l, c, m⟩ : S39)]).length - 1) = N.drop (N.length + 1 - 20) := by
      rw [List.length_append, List.length_singleton, Nat.add_sub_cancel, List.take_left']
      rfl
    rw [e2, e3]
  rw [hv]
  rfl

theorem FnUndo : laws_FnUndo.Pure := by
  intro l ⟨hl, _⟩
  have hl := maxLen_le hl
  refine ⟨4000000, ?_⟩
  unfold laws_FnUndo.f
  by_cases h : (l.length : Int) > 1048576
  · rw [if_pos h]
  · obtain ⟨P, N, p, c, d, hd, hPl⟩ := spec_DrawUndoBack.eq l (by omega) (k := 4000000) (by omega)
    rw [if_neg h, hd]
    simp only [Option.bind_some]
    rw [spec_UndoBack.eq _ _ _ _ _ (by omega)]
    by_cases hR : (bufsOK P && bufsOK N) = true ∧ bufOK p c d = true
    · have hP := (Bool.and_eq_true_iff.1 hR.1).1
      have hN := (Bool.and_eq_true_iff.1 hR.1).2
      have hb := hR.2
      obtain ⟨p1, p2⟩ := bufsOK_at hP
      have hbl := bufOK_len hb
      rw [impl_UndoBack.eq _ _ _ _ _ (by omega) (by omega)]
      simp only [Option.bind_some, if_true, laws_FnUndo.j0]
      unfold ubV
      rw [if_pos hR]
      by_cases h0 : P.length = 0
      · rw [if_pos h0]
        rfl
      · rw [if_neg h0]
        simp only [if_true]
        rw [impl_UndoForth.back hP hN hb h0 (by omega)]
        simp only [Option.bind_some, if_true]
        rw [impl_UndoRight.eq _ _ (by omega), take_ok _ hP, putV_ok hN hb]
        simp only [Option.bind_some, Bool.and_self, if_true]
        rw [laws_lwBuf.eq (by omega) (by omega)]
        simp only [Option.bind_some, and_self, decide_true, Bool.not_true, Bool.false_eq_true, if_false]
        by_cases h20 : (N.length : Int) = 20
        · rw [if_pos h20]
          rfl
        · rw [if_neg h20]
          have n1 := (bufsOK_at hN).1
          rw [show N.length + 1 - 20 = 0 by omega, List.drop_zero, laws_lwUndo.eq hP hN (by omega)]
          rfl
    · have hv : ubV P N p c d = ([], [], [], 0, 0, 1) := by
        unfold ubV
        rw [if_neg hR]
      rw [impl_UndoBack.eq _ _ _ _ _ (by omega) (by omega), hv]
      rfl

end Go.Proofs.Ytfkghjdhimhjjaa.Pure
