/- Proved: the program's TextOf returns what the reference's returns, for every list of at most 2^20 numbers, and leaves the list as it was. -/
import Derived.Test.YthcnhafdhjajpaaPFnExactTextOfx2
namespace Go.Proofs.Ythcnhafdhjajpaa.Pure
open Go.RowKit Go.Proofs.Ythcnhafdhjajpaa.PFnExactTextOf Go.Proofs.YthcnhafdhjajpaaW.PrintWords Go.Proofs.YthcnhafdhjajpaaW.PrintLast Go.Proofs.YthcnhafdhjajpaaW.PrintMore
set_option linter.unusedVariables false
set_option linter.unusedSimpArgs false

/-! ### plain words -/
theorem wrap_in {x : Int} (h0 : -9223372036854775808 ≤ x) (h1 : x ≤ 9223372036854775807) : wrap64 x = x := by unfold wrap64; omega
theorem wrap_succ {i : Nat} (h : i < 4611686018427387904) : wrap64 ((i : Int) + 1) = ((i + 1 : Nat) : Int) := by unfold wrap64; omega
theorem rd_nat (l : List Int) (i : Nat) : rd l (i : Int) = l.getD i 0 := by simp [rd]
theorem drop_rd {l : List Int} {i : Nat} (h : i < l.length) : l.drop i = rd l (i : Int) :: l.drop (i + 1) := by
  rw [rd_nat, List.drop_eq_getElem_cons h, List.getD_eq_getElem?_getD, List.getElem?_eq_getElem h]
  rfl
theorem int_lt {i n : Nat} (h : i < n) : (i : Int) < (n : Int) := by omega
theorem int_nlt {i n : Nat} (h : ¬ i < n) : ¬ (i : Int) < (n : Int) := by omega
theorem int_nn (i : Nat) : (0 : Int) ≤ (i : Int) := by omega
theorem maxLen_le {n : Nat} (h : n ≤ maxLen) : n ≤ 9223372036854775807 := by unfold maxLen at h; exact h
theorem some_b {a b : Bool} (h : a = true ↔ b = true) : some a = some b := congrArg some (Bool.eq_iff_iff.2 h)
def isPt (a : Int) : Bool := decide (0 ≤ a ∧ a ≤ 1114111 ∧ ¬ (55296 ≤ a ∧ a ≤ 57343))
def ptsOK (l : List Int) : Bool := decide (l.length ≤ 300) && l.all isPt
def bufOK (l : List Int) (c m : Int) : Bool := ptsOK l && decide (0 ≤ c ∧ c ≤ l.length) && decide (0 ≤ m ∧ m ≤ l.length)
def isCtl (a : Int) : Bool := decide (a < 32 ∨ a = 127)
def isWide2 (a : Int) : Bool := decide ((4352 ≤ a ∧ a ≤ 4447) ∨ (11904 ≤ a ∧ a ≤ 42191) ∨ (44032 ≤ a ∧ a ≤ 55203) ∨ (63744 ≤ a ∧ a ≤ 64255) ∨ (65281 ≤ a ∧ a ≤ 65376) ∨ (127744 ≤ a ∧ a ≤ 129791))
def wid (a : Int) : Int := if isPt a = true ∧ ¬ (768 ≤ a ∧ a ≤ 879) then (if isCtl a = true ∨ isWide2 a = true then 2 else 1) else 0
def cl2 (a : Int) : Int := if (97 ≤ a ∧ a ≤ 122) ∨ (65 ≤ a ∧ a ≤ 90) ∨ (48 ≤ a ∧ a ≤ 57) ∨ a = 95 ∨ 128 ≤ a then 2 else 3
def cls (a : Int) : Int := if isPt a = true then (if a = 32 ∨ a = 9 ∨ a = 10 then 1 else cl2 a) else 0
theorem ptsOK_len {l : List Int} (h : ptsOK l = true) : l.length ≤ 300 := by
  unfold ptsOK at h
  simp only [Bool.and_eq_true, decide_eq_true_eq] at h
  exact h.1
theorem bufOK_len {l : List Int} {c m : Int} (h : bufOK l c m = true) : l.length ≤ 300 := by
  unfold bufOK at h
  simp only [Bool.and_eq_true] at h
  exact ptsOK_len h.1.1
theorem bufOK_all {l : List Int} {c m : Int} (h : bufOK l c m = true) : l.length ≤ 300 ∧ 0 ≤ c ∧ c ≤ l.length ∧ 0 ≤ m ∧ m ≤ l.length := by
  have hl := bufOK_len h
  unfold bufOK at h
  simp only [Bool.and_eq_true, decide_eq_true_eq] at h
  exact ⟨hl, h.1.2.1, h.1.2.2, h.2.1, h.2.2⟩
theorem laws_toInt64S.loop (l : List Int) (hl : l.length ≤ 1048576) (d : Nat) : ∀ (k i : Nat), i ≤ l.length → l.length - i = d → d < k → laws_toInt64S.l0 k l (l.take i ++ List.replicate (l.length - i) 0) (i : Int) = some l := by
  induction d with
  | zero =>
    intro k i hi hd hk
    obtain ⟨k, rfl⟩ : ∃ m, k = m + 1 := ⟨k - 1, by omega⟩
    obtain rfl : i = l.length := by omega
    simp only [laws_toInt64S.l0]
    rw [if_neg (by omega)]
    simp
  | succ d ih =>
    intro k i hi hd hk
    obtain ⟨k, rfl⟩ : ∃ m, k = m + 1 := ⟨k - 1, by omega⟩
    have hlt : i < l.length := by omega
    simp only [laws_toInt64S.l0]
    rw [if_pos (int_lt hlt), if_pos (int_nn i), if_pos (by simp; omega), wrap_succ (by omega), Int.toNat_natCast]
    have hs : (l.take i ++ List.replicate (l.length - i) 0).set i (rd l (i : Int)) = l.take (i + 1) ++ List.replicate (l.length - (i + 1)) 0 := by
      have h1 : (l.take i).length = i := by simp; omega
      rw [List.set_append_right _ _ (by omega), h1, Nat.sub_self, show l.length - i = (l.length - (i + 1)) + 1 by omega, List.replicate_succ, List.set_cons_zero, List.take_succ_eq_append_getElem hlt, rd_nat, List.getD_eq_getElem?_getD, List.getElem?_eq_getElem hlt, List.append_assoc]
      rfl
    rw [hs]
    exact ih k (i + 1) (by omega) (by omega) (by omega)
theorem laws_toInt64S.eq {l : List Int} {k : Nat} (hl : l.length ≤ 1048576) (hk : l.length < k) : laws_toInt64S.f k l = some l := by
  unfold laws_toInt64S.f
  rw [if_pos (by omega), if_pos (by omega), Int.toNat_natCast]
  have := laws_toInt64S.loop l hl l.length k 0 (by omega) (by omega) hk
  simpa using this
theorem laws_eqInt64S.loop (a b : List Int) (hab : a.length = b.length) (hl : a.length ≤ 1048576) (d : Nat) : ∀ (k i : Nat), i ≤ a.length → a.length - i = d → d < k → laws_eqInt64S.l0 k a b (i : Int) = some (decide (a.drop i = b.drop i)) := by
  induction d with
  | zero =>
    intro k i hi hd hk
    obtain ⟨k, rfl⟩ : ∃ m, k = m + 1 := ⟨k - 1, by omega⟩
    simp only [laws_eqInt64S.l0]
    rw [if_neg (by omega), List.drop_eq_nil_of_le (by omega), List.drop_eq_nil_of_le (by omega)]
    rfl
  | succ d ih =>
    intro k i hi hd hk
    obtain ⟨k, rfl⟩ : ∃ m, k = m + 1 := ⟨k - 1, by omega⟩
    have hlt : i < a.length := by omega
    simp only [laws_eqInt64S.l0]
    rw [if_pos (int_lt hlt), if_pos (int_nn i), if_pos (by omega), wrap_succ (by omega), ih k (i + 1) (by omega) (by omega) (by omega), drop_rd hlt, drop_rd (show i < b.length by omega)]
    by_cases h : rd a (i : Int) = rd b (i : Int)
    · rw [if_pos h, h]
      simp
    · rw [if_neg h]
      simp [h]
theorem laws_eqInt64S.eq {a b : List Int} {k : Nat} (hl : a.length ≤ 1048576) (hk : a.length < k) : laws_eqInt64S.f k a b = some (decide (a = b)) := by
  unfold laws_eqInt64S.f
  by_cases h : a.length = b.length
  · rw [if_pos (by omega)]
    have := laws_eqInt64S.loop a b h hl a.length k 0 (by omega) (by omega) hk
    simpa using this
  · rw [if_neg (by omega)]
    refine congrArg some (decide_eq_false (fun e => h (by rw [e]))).symm
theorem spec_l01Point.eq (a : Int) : spec_l01Point.f a = some (isPt a) := by
  simp only [spec_l01Point.f, isPt]
  (repeat' split) <;> (refine some_b ?_; simp only [Bool.not_eq_true', Bool.not_false, decide_eq_true_eq, decide_eq_false_iff_not, Bool.false_eq_true]; first | omega | (rw [false_iff]; omega) | (rw [true_iff]; omega))
theorem spec_PointsRight.loop (l : List Int) (hl : l.length ≤ 300) (d : Nat) : ∀ (k i : Nat), i ≤ l.length → l.length - i = d → d < k → spec_PointsRight.l0 k l (i : Int) = some ((l.drop i).all isPt) := by
  induction d with
  | zero =>
    intro k i hi hd hk
    obtain ⟨k, rfl⟩ : ∃ m, k = m + 1 := ⟨k - 1, by omega⟩
    simp only [spec_PointsRight.l0]
    rw [if_neg (by omega), List.drop_eq_nil_of_le (by omega)]
    rfl
  | succ d ih =>
    intro k i hi hd hk
    obtain ⟨k, rfl⟩ : ∃ m, k = m + 1 := ⟨k - 1, by omega⟩
    have hlt : i < l.length := by omega
    simp only [spec_PointsRight.l0]
    rw [if_pos (int_lt hlt), if_pos (int_nn i), spec_l01Point.eq, wrap_succ (by omega), ih k (i + 1) (by omega) (by omega) (by omega), drop_rd hlt]
    simp only [Option.bind_some, List.all_cons]
    cases isPt (rd l (i : Int)) <;> simp
theorem spec_PointsRight.eq (l : List Int) {k : Nat} (hk : 300 < k) : spec_PointsRight.f k l = some (ptsOK l) := by
  unfold spec_PointsRight.f ptsOK
  by_cases h : l.length ≤ 300
  · rw [if_neg (by omega)]
    have := spec_PointsRight.loop l h l.length k 0 (by omega) (by omega) (by omega)
    simp only [h, decide_true, Bool.true_and]
    simpa using this
  · rw [if_pos (by omega)]
    simp [h]
theorem impl_within.eq (a b c : Int) : impl_within.f a b c = some (decide (b ≤ a ∧ a ≤ c)) := by
  unfold impl_within.f
  by_cases h : b ≤ a <;> simp [h]
theorem impl_isPoint.eq (a : Int) : impl_isPoint.f a = some (isPt a) := by
  simp only [impl_isPoint.f, impl_within.eq, Option.bind_some, isPt, decide_eq_true_eq]
  split <;> (refine some_b ?_; simp only [Bool.not_eq_true', decide_eq_true_eq, decide_eq_false_iff_not, Bool.false_eq_true]; first | omega | (rw [false_iff]; omega))
theorem slices_IndexFunc_sint64_int64.loop (l : List Int) (hl : l.length ≤ 300) (d : Nat) : ∀ (k i : Nat), i ≤ l.length → l.length - i = d → d < k → ∃ r : Int, slices_IndexFunc_sint64_int64.l0 k l (l.length : Int) (i : Int) = some r ∧ (0 ≤ r ↔ (l.drop i).all isPt = false) := by
  induction d with
  | zero =>
    intro k i hi hd hk
    obtain ⟨k, rfl⟩ : ∃ m, k = m + 1 := ⟨k - 1, by omega⟩
    refine ⟨-1, ?_, ?_⟩
    · simp only [slices_IndexFunc_sint64_int64.l0]
      rw [if_neg (by omega)]
    · rw [List.drop_eq_nil_of_le (by omega)]
      simp
  | succ d ih =>
    intro k i hi hd hk
    obtain ⟨k, rfl⟩ : ∃ m, k = m + 1 := ⟨k - 1, by omega⟩
    have hlt : i < l.length := by omega
    have hp : impl_PointsRight_1.f (rd l (i : Int)) = some (!isPt (rd l (i : Int))) := by
      unfold impl_PointsRight_1.f
      rw [impl_isPoint.eq]
      rfl
    simp only [slices_IndexFunc_sint64_int64.l0]
    rw [if_pos (int_lt hlt), if_pos (int_nn i), if_pos (int_lt hlt), hp, wrap_succ (by omega), drop_rd hlt]
    simp only [Option.bind_some, List.all_cons]
    cases isPt (rd l (i : Int))
    · exact ⟨i, by simp, by simp⟩
    · simpa using ih k (i + 1) (by omega) (by omega) (by omega)
theorem impl_PointsRight.eq (l : List Int) {k : Nat} (hk : 300 < k) : impl_PointsRight.f k l = some (ptsOK l) := by
  unfold impl_PointsRight.f ptsOK
  by_cases h : l.length ≤ 300
  · rw [if_pos (by omega)]
    obtain ⟨r, h1, h2⟩ := slices_IndexFunc_sint64_int64.loop l h l.length k 0 (by omega) (by omega) (by omega)
    unfold slices_ContainsFunc_sint64_int64.f slices_IndexFunc_sint64_int64.f
    rw [show ((0 : Nat) : Int) = 0 from rfl] at h1
    rw [h1]
    simp only [Option.bind_some, h, decide_true, Bool.true_and]
    rw [List.drop_zero] at h2
    refine some_b ?_
    cases hq : l.all isPt
    · have := h2.2 hq; simp; omega
    · have : ¬ 0 ≤ r := fun h3 => by rw [h2.1 h3] at hq; cases hq
      simp; omega
  · rw [if_neg (by omega)]
    simp [h]
/-! ### texts of points -/
def enc (a : Int) : List Int :=
  if a < 128 then [a] else if a < 2048 then [192 + a / 64, 128 + a % 64] else if a < 65536 then [224 + a / 4096, 128 + (a / 64) % 64, 128 + a % 64] else [240 + a / 262144, 128 + (a / 4096) % 64, 128 + (a / 64) % 64, 128 + a % 64]
def encL : List Int → List Int
  | [] => []
  | a :: l => enc a ++ encL l
theorem enc_len (a : Int) : (enc a).length ≤ 4 := by
  unfold enc
  (repeat' split) <;> simp
theorem isPt_in {a : Int} (h : isPt a = true) : 0 ≤ a ∧ a ≤ 1114111 ∧ ¬ (55296 ≤ a ∧ a ≤ 57343) := by
  unfold isPt at h
  exact of_decide_eq_true h
theorem spec_l01Bytes.eq {a : Int} (h : isPt a = true) : spec_l01Bytes.f a = some (enc a) := by
  obtain ⟨h0, h1, h2⟩ := isPt_in h
  unfold spec_l01Bytes.f enc
  rw [Int.tdiv_eq_ediv_of_nonneg h0, Int.tdiv_eq_ediv_of_nonneg h0, Int.tdiv_eq_ediv_of_nonneg h0, Int.tmod_eq_emod_of_nonneg h0]
  have w : ∀ x : Int, 0 ≤ x → x ≤ 2000000 → wrap64 x = x := fun x a b => wrap_in (by omega) (by omega)
  by_cases e1 : a < 128
  · rw [if_pos e1, if_pos e1]
    refine congrArg some ?_
    rw [show a % 256 = a by omega]
  rw [if_neg e1, if_neg e1]
  by_cases e2 : a < 2048
  · rw [if_pos e2, if_pos e2, w (a / 64) (by omega) (by omega), w (192 + a / 64) (by omega) (by omega), w (128 + a % 64) (by omega) (by omega)]
    rw [show (192 + a / 64) % 256 = 192 + a / 64 by omega, show (128 + a % 64) % 256 = 128 + a % 64 by omega]
  rw [if_neg e2, if_neg e2]
  have t64 : Int.tmod (a / 64) 64 = (a / 64) % 64 := Int.tmod_eq_emod_of_nonneg (by omega)
  have t4096 : Int.tmod (a / 4096) 64 = (a / 4096) % 64 := Int.tmod_eq_emod_of_nonneg (by omega)
  by_cases e3 : a < 65536
  · rw [if_pos e3, if_pos e3, w (a / 4096) (by omega) (by omega), w (a / 64) (by omega) (by omega), t64, w (224 + a / 4096) (by omega) (by omega), w (128 + a / 64 % 64) (by omega) (by omega), w (128 + a % 64) (by omega) (by omega)]
    rw [show (224 + a / 4096) % 256 = 224 + a / 4096 by omega, show (128 + a / 64 % 64) % 256 = 128 + a / 64 % 64 by omega, show (128 + a % 64) % 256 = 128 + a % 64 by omega]
  rw [if_neg e3, if_neg e3, w (a / 262144) (by omega) (by omega), w (a / 4096) (by omega) (by omega), w (a / 64) (by omega) (by omega), t64, t4096, w (240 + a / 262144) (by omega) (by omega), w (128 + a / 4096 % 64) (by omega) (by omega), w (128 + a / 64 % 64) (by omega) (by omega), w (128 + a % 64) (by omega) (by omega)]
  rw [show (240 + a / 262144) % 256 = 240 + a / 262144 by omega, show (128 + a / 4096 % 64) % 256 = 128 + a / 4096 % 64 by omega, show (128 + a / 64 % 64) % 256 = 128 + a / 64 % 64 by omega, show (128 + a % 64) % 256 = 128 + a % 64 by omega]
theorem low6 {x : Int} (h : 0 ≤ x) : Go.bits .or .u8 128 (Go.bits .and .u8 (x % 256) 63) = 128 + x % 64 := by
  rw [Go.u8_and63 (x % 256) (by omega) (by omega), show x % 256 % 64 = x % 64 by omega, Go.u8_or128 (x % 64) (by omega) (by omega)]
theorem utf8_AppendRune.eq {a : Int} {x : List Int} {k : Nat} (h : isPt a = true) (hx : x.length ≤ 1000000) (hk : 0 < k) : utf8_AppendRune.f k x (wrap32 a) = some (x ++ enc a) := by
  obtain ⟨h0, h1, h2⟩ := isPt_in h
  obtain ⟨k, rfl⟩ : ∃ m, k = m + 1 := ⟨k - 1, by omega⟩
  have hw : wrap32 a = a := by unfold wrap32; omega
  have hm : a % 4294967296 = a := by omega
  have hj : ∀ b : Bool, b = decide (a ≤ 65535) → 2048 ≤ a → utf8_appendRuneNonASCII.j0 (k + 1) x a a b = some (x ++ enc a) := by
    intro b hb h3
    rw [utf8_appendRuneNonASCII.j0, show a % 256 = a % 256 from rfl, low6 h0, low6 (show 0 ≤ a / 64 by omega), low6 (show 0 ≤ a / 4096 by omega)]
    unfold enc
    rw [if_neg (show ¬ a < 128 by omega), if_neg (show ¬ a < 2048 by omega)]
    by_cases e : a ≤ 65535
    · rw [if_pos (show b = true by rw [hb]; exact decide_eq_true e), if_pos (show a < 65536 by omega), show a / 4096 % 256 = a / 4096 by omega, Go.u8_or224 (a / 4096) (by omega) (by omega)]
      simp only [Option.bind_some, List.length_cons, List.length_nil]
      rw [if_pos (by omega)]
    · rw [if_neg (show ¬ b = true by rw [hb]; simpa using e), if_neg (show ¬ a < 65536 by omega), if_pos (show a > 65535 by omega), if_pos h1, show a / 262144 % 256 = a / 262144 by omega, Go.u8_or240 (a / 262144) (by omega) (by omega)]
      simp only [Option.bind_some, List.length_cons, List.length_nil]
      rw [if_pos (by omega)]
  unfold utf8_AppendRune.f
  rw [hw, hm]
  by_cases e1 : a ≤ 127
  · rw [if_pos e1, if_pos (by omega), show a % 256 = a by omega]
    unfold enc
    rw [if_pos (by omega)]
  · rw [if_neg e1]
    unfold utf8_appendRuneNonASCII.f
    rw [hm]
    by_cases e2 : a ≤ 2047
    · rw [if_pos e2, low6 h0, show a / 64 % 256 = a / 64 by omega, Go.u8_or192 (a / 64) (by omega) (by omega)]
      simp only [Option.bind_some, List.length_cons, List.length_nil]
      rw [if_pos (by omega)]
      unfold enc
      rw [if_neg (show ¬ a < 128 by omega), if_pos (show a < 2048 by omega)]
      rfl
    · rw [if_neg e2]
      by_cases e3 : a < 55296
      · rw [if_pos e3, hj _ (decide_eq_decide.2 (by omega)) (by omega)]
        rfl
      · rw [if_neg e3, if_pos (by omega), hj _ rfl (by omega)]
        rfl
theorem spec_l01Text.loop (l : List Int) (hl : l.length ≤ 300) (hp : ∀ a ∈ l, isPt a = true) (d : Nat) : ∀ (k i : Nat) (acc : List Int), i ≤ l.length → l.length - i = d → acc.length ≤ 4 * i → d < k → spec_l01Text.l0 k l acc (i : Int) = some (strOfNums (acc ++ encL (l.drop i))) := by
  induction d with
  | zero =>
    intro k i acc hi hd ha hk
    obtain ⟨k, rfl⟩ : ∃ m, k = m + 1 := ⟨k - 1, by omega⟩
    simp only [spec_l01Text.l0]
    rw [if_neg (by omega), List.drop_eq_nil_of_le (by omega)]
    show _ = some (strOfNums (acc ++ []))
    rw [List.append_nil]
  | succ d ih =>
    intro k i acc hi hd ha hk
    obtain ⟨k, rfl⟩ : ∃ m, k = m + 1 := ⟨k - 1, by omega⟩
    have hlt : i < l.length := by omega
    have hr : rd l (i : Int) = l[i] := by
      rw [rd_nat, List.getD_eq_getElem?_getD, List.getElem?_eq_getElem hlt]
      rfl
    have he := enc_len l[i]
    simp only [spec_l01Text.l0]
    rw [if_pos (int_lt hlt), if_pos (int_nn i), hr, spec_l01Bytes.eq (hp _ (List.getElem_mem hlt)), wrap_succ (by omega)]
    simp only [Option.bind_some]
    rw [if_pos (by omega), ih k (i + 1) _ (by omega) (by omega) (by rw [List.length_append]; omega) (by omega), List.drop_eq_getElem_cons hlt]
    show _ = some (strOfNums (acc ++ (enc l[i] ++ encL (l.drop (i + 1)))))
    rw [List.append_assoc]
theorem impl_textOf.loop (l : List Int) (hl : l.length ≤ 300) (hp : ∀ a ∈ l, isPt a = true) (d : Nat) : ∀ (k i : Nat) (acc : List Int), i ≤ l.length → l.length - i = d → acc.length ≤ 4 * i → d + 1 < k → impl_textOf.l0 k acc l (l.length : Int) (i : Int) = some (strOfNums (acc ++ encL (l.drop i))) := by
  induction d with
  | zero =>
    intro k i acc hi hd ha hk
    obtain ⟨k, rfl⟩ : ∃ m, k = m + 1 := ⟨k - 1, by omega⟩
    simp only [impl_textOf.l0]
    rw [if_neg (by omega), List.drop_eq_nil_of_le (by omega)]
    show _ = some (strOfNums (acc ++ []))
    rw [List.append_nil]
  | succ d ih =>
    intro k i acc hi hd ha hk
    obtain ⟨k, rfl⟩ : ∃ m, k = m + 1 := ⟨k - 1, by omega⟩
    have hlt : i < l.length := by omega
    have hr : rd l (i : Int) = l[i] := by
      rw [rd_nat, List.getD_eq_getElem?_getD, List.getElem?_eq_getElem hlt]
      rfl
    have he := enc_len l[i]
    simp only [impl_textOf.l0]
    rw [if_pos (int_lt hlt), if_pos (int_nn i), if_pos (int_lt hlt), hr, utf8_AppendRune.eq (hp _ (List.getElem_mem hlt)) (by omega) (by omega), wrap_succ (by omega)]
    simp only [Option.bind_some]
    rw [ih k (i + 1) _ (by omega) (by omega) (by rw [List.length_append]; omega) (by omega), List.drop_eq_getElem_cons hlt]
    show _ = some (strOfNums (acc ++ (enc l[i] ++ encL (l.drop (i + 1)))))
    rw [List.append_assoc]
theorem ptsOK_all {l : List Int} (h : ptsOK l = true) : l.length ≤ 300 ∧ ∀ a ∈ l, isPt a = true := by
  unfold ptsOK at h
  simp only [Bool.and_eq_true, decide_eq_true_eq] at h
  exact ⟨h.1, fun a ha => List.all_eq_true.1 h.2 a ha⟩
def textV (l : List Int) : ByteArray := if ptsOK l = true then strOfNums (encL l) else ⟨#[]⟩
theorem spec_TextOf.eq (l : List Int) {k : Nat} (hk : 400 < k) : spec_TextOf.f k l = some (textV l) := by
  unfold spec_TextOf.f textV
  by_cases h : ptsOK l = true
  · obtain ⟨h1, h2⟩ := ptsOK_all h
    rw [if_neg (by omega), spec_PointsRight.eq l (by omega)]
    simp only [Option.bind_some]
    have := spec_l01Text.loop l h1 h2 l.length k 0 [] (by omega) (by omega) (by simp) (by omega)
    rw [if_pos h, if_pos h, show spec_l01Text.f k l = some (strOfNums (encL l)) from this]
    rfl
  · rw [if_neg h]
    by_cases g : (l.length : Int) > 400
    · rw [if_pos g]
    · rw [if_neg g, spec_PointsRight.eq l (by omega)]
      simp only [Option.bind_some]
      rw [if_neg h]
theorem impl_TextOf.eq (l : List Int) {k : Nat} (hk : 400 < k) : impl_TextOf.f k l = some (textV l) := by
  unfold impl_TextOf.f textV
  rw [impl_PointsRight.eq l (by omega)]
  simp only [Option.bind_some]
  by_cases h : ptsOK l = true
  · obtain ⟨h1, h2⟩ := ptsOK_all h
    have := impl_textOf.loop l h1 h2 l.length k 0 [] (by omega) (by omega) (by simp) (by omega)
    rw [if_pos h, if_pos h, show impl_textOf.f k l = some (strOfNums (encL l)) from this]
    rfl
  · rw [if_neg h, if_neg h]

theorem FnExactTextOf : laws_FnExactTextOf.Pure := by
  intro l ⟨hl, _⟩
  have hl := maxLen_le hl
  refine ⟨1048600, ?_⟩
  unfold laws_FnExactTextOf.f
  by_cases h : (l.length : Int) > 1048576
  · rw [if_pos h]
  · rw [if_neg h, laws_toInt64S.eq (by omega) (by omega)]
    simp only [Option.bind_some]
    rw [spec_TextOf.eq l (by omega), impl_TextOf.eq l (by omega)]
    simp only [Option.bind_some, if_true, laws_FnExactTextOf.j0]
    rw [laws_toInt64S.eq (by omega) (by omega)]
    simp only [Option.bind_some]
    rw [laws_eqInt64S.eq (by omega) (by omega)]
    simp

end Go.Proofs.Ythcnhafdhjajpaa.Pure
