/- Proved: the program's GridSame returns what the reference's returns, for every two grids of size at most 2^20 in all, and leaves them as they were. -/
import Derived.Test.YtefffjhnpojjlabPFnExactGridSamex5
namespace Go.Proofs.Ytefffjhnpojjlab.Pure
open Go.RowKit Go.Proofs.Ytefffjhnpojjlab.PFnExactGridSame Go.Proofs.YtefffjhnpojjlabW.PrintWords Go.Proofs.YtefffjhnpojjlabW.PrintLast Go.Proofs.YtefffjhnpojjlabW.PrintMore
set_option linter.unusedVariables false
set_option linter.unusedSimpArgs false

/-! ### plain words -/
theorem wrap_in {x : Int} (h0 : -9223372036854775808 ≤ x) (h1 : x ≤ 9223372036854775807) : wrap64 x = x := by unfold wrap64; omega
theorem wrap_succ {i : Nat} (h : i < 4611686018427387904) : wrap64 ((i : Int) + 1) = ((i + 1 : Nat) : Int) := by unfold wrap64; omega
theorem rd_nat (l : List Int) (i : Nat) : rd l (i : Int) = l.getD i 0 := by simp [rd]
theorem drop_rd {l : List Int} {i : Nat} (h : i < l.length) : l.drop i = rd l (i : Int) :: l.drop (i + 1) := by
  rw [rd_nat, List.drop_eq_getElem_cons h, List.getD_eq_getElem?_getD, List.getElem?_eq_getElem h]
  rfl
theorem int_lt {i n : Nat} (h : i < n) : (i : Int) < (n : Int) := by omega
theorem int_nlt {i n : Nat} (h : ¬ i < n) : ¬ (i : Int) < (n : Int) := by omega
theorem int_nn (i : Nat) : (0 : Int) ≤ (i : Int) := by omega
theorem maxLen_le {n : Nat} (h : n ≤ maxLen) : n ≤ 9223372036854775807 := by unfold maxLen at h; exact h
theorem some_b {a b : Bool} (h : a = true ↔ b = true) : some a = some b := congrArg some (Bool.eq_iff_iff.2 h)
def isPt (a : Int) : Bool := decide (0 ≤ a ∧ a ≤ 1114111 ∧ ¬ (55296 ≤ a ∧ a ≤ 57343))
def ptsOK (l : List Int) : Bool := decide (l.length ≤ 300) && l.all isPt
def bufOK (l : List Int) (c m : Int) : Bool := ptsOK l && decide (0 ≤ c ∧ c ≤ l.length) && decide (0 ≤ m ∧ m ≤ l.length)
def isCtl (a : Int) : Bool := decide (a < 32 ∨ a = 127)
def isWide2 (a : Int) : Bool := decide ((4352 ≤ a ∧ a ≤ 4447) ∨ (11904 ≤ a ∧ a ≤ 42191) ∨ (44032 ≤ a ∧ a ≤ 55203) ∨ (63744 ≤ a ∧ a ≤ 64255) ∨ (65281 ≤ a ∧ a ≤ 65376) ∨ (127744 ≤ a ∧ a ≤ 129791))
def wid (a : Int) : Int := if isPt a = true ∧ ¬ (768 ≤ a ∧ a ≤ 879) then (if isCtl a = true ∨ isWide2 a = true then 2 else 1) else 0
def cl2 (a : Int) : Int := if (97 ≤ a ∧ a ≤ 122) ∨ (65 ≤ a ∧ a ≤ 90) ∨ (48 ≤ a ∧ a ≤ 57) ∨ a = 95 ∨ 128 ≤ a then 2 else 3
def cls (a : Int) : Int := if isPt a = true then (if a = 32 ∨ a = 9 ∨ a = 10 then 1 else cl2 a) else 0
theorem ptsOK_len {l : List Int} (h : ptsOK l = true) : l.length ≤ 300 := by
  unfold ptsOK at h
  simp only [Bool.and_eq_true, decide_eq_true_eq] at h
  exact h.1
theorem bufOK_len {l : List Int} {c m : Int} (h : bufOK l c m = true) : l.length ≤ 300 := by
  unfold bufOK at h
  simp only [Bool.and_eq_true] at h
  exact ptsOK_len h.1.1
theorem bufOK_all {l : List Int} {c m : Int} (h : bufOK l c m = true) : l.length ≤ 300 ∧ 0 ≤ c ∧ c ≤ l.length ∧ 0 ≤ m ∧ m ≤ l.length := by
  have hl := bufOK_len h
  unfold bufOK at h
  simp only [Bool.and_eq_true, decide_eq_true_eq] at h
  exact ⟨hl, h.1.2.1, h.1.2.2, h.2.1, h.2.2⟩
theorem laws_szInt64S.eq {l : List Int} {a : Int} (h0 : 0 ≤ a) (h1 : a ≤ 1048576) (hl : l.length ≤ 9223372036854775807) : laws_szInt64S.f l a = some (if a < (l.length : Int) then -1 else a - (l.length : Int)) := by
  unfold laws_szInt64S.f
  rw [wrap_in (by omega) (by omega)]
  by_cases h : a < (l.length : Int)
  · rw [if_pos (by omega), if_pos h]
  · rw [if_neg (by omega), if_neg h]
theorem laws_toInt64S.loop (l : List Int) (hl : l.length ≤ 1048576) (d : Nat) : ∀ (k i : Nat), i ≤ l.length → l.length - i = d → d < k → laws_toInt64S.l0 k l (l.take i ++ List.replicate (l.length - i) 0) (i : Int) = some l := by
  induction d with
  | zero =>
    intro k i hi hd hk
    obtain ⟨k, rfl⟩ : ∃ m, k = m + 1 := ⟨k - 1, by omega⟩
    obtain rfl : i = l.length := by omega
    simp only [laws_toInt64S.l0]
    rw [if_neg (by omega)]
    simp
  | succ d ih =>
    intro k i hi hd hk
    obtain ⟨k, rfl⟩ : ∃ m, k = m + 1 := ⟨k - 1, by omega⟩
    have hlt : i < l.length := by omega
    simp only [laws_toInt64S.l0]
    rw [if_pos (int_lt hlt), if_pos (int_nn i), if_pos (by simp; omega), wrap_succ (by omega), Int.toNat_natCast]
    have hs : (l.take i ++ List.replicate (l.length - i) 0).set i (rd l (i : Int)) = l.take (i + 1) ++ List.replicate (l.length - (i + 1)) 0 := by
      have h1 : (l.take i).length = i := by simp; omega
      rw [List.set_append_right _ _ (by omega), h1, Nat.sub_self, show l.length - i = (l.length - (i + 1)) + 1 by omega, List.replicate_succ, List.set_cons_zero, List.take_succ_eq_append_getElem hlt, rd_nat, List.getD_eq_getElem?_getD, List.getElem?_eq_getElem hlt, List.append_assoc]
      rfl
    rw [hs]
    exact ih k (i + 1) (by omega) (by omega) (by omega)
theorem laws_toInt64S.eq {l : List Int} {k : Nat} (hl : l.length ≤ 1048576) (hk : l.length < k) : laws_toInt64S.f k l = some l := by
  unfold laws_toInt64S.f
  rw [if_pos (by omega), if_pos (by omega), Int.toNat_natCast]
  have := laws_toInt64S.loop l hl l.length k 0 (by omega) (by omega) hk
  simpa using this
theorem laws_eqInt64S.loop (a b : List Int) (hab : a.length = b.length) (hl : a.length ≤ 1048576) (d : Nat) : ∀ (k i : Nat), i ≤ a.length → a.length - i = d → d < k → laws_eqInt64S.l0 k a b (i : Int) = some (decide (a.drop i = b.drop i)) := by
  induction d with
  | zero =>
    intro k i hi hd hk
    obtain ⟨k, rfl⟩ : ∃ m, k = m + 1 := ⟨k - 1, by omega⟩
    simp only [laws_eqInt64S.l0]
    rw [if_neg (by omega), List.drop_eq_nil_of_le (by omega), List.drop_eq_nil_of_le (by omega)]
    rfl
  | succ d ih =>
    intro k i hi hd hk
    obtain ⟨k, rfl⟩ : ∃ m, k = m + 1 := ⟨k - 1, by omega⟩
    have hlt : i < a.length := by omega
    simp only [laws_eqInt64S.l0]
    rw [if_pos (int_lt hlt), if_pos (int_nn i), if_pos (by omega), wrap_succ (by omega), ih k (i + 1) (by omega) (by omega) (by omega), drop_rd hlt, drop_rd (show i < b.length by omega)]
    by_cases h : rd a (i : Int) = rd b (i : Int)
    · rw [if_pos h, h]
      simp
    · rw [if_neg h]
      simp [h]
theorem laws_eqInt64S.eq {a b : List Int} {k : Nat} (hl : a.length ≤ 1048576) (hk : a.length < k) : laws_eqInt64S.f k a b = some (decide (a = b)) := by
  unfold laws_eqInt64S.f
  by_cases h : a.length = b.length
  · rw [if_pos (by omega)]
    have := laws_eqInt64S.loop a b h hl a.length k 0 (by omega) (by omega) hk
    simpa using this
  · rw [if_neg (by omega)]
    refine congrArg some (decide_eq_false (fun e => h (by rw [e]))).symm
theorem laws_szCell.eq {l : List Int} {a c : Int} (h0 : 0 ≤ a) (h1 : a ≤ 1048576) (hl : l.length ≤ 9223372036854775807) : laws_szCell.f l c a = some (if a < (l.length : Int) then -1 else a - (l.length : Int)) := by
  unfold laws_szCell.f
  rw [laws_szInt64S.eq h0 h1 hl]
  simp only [Option.bind_some]
  by_cases h : a < (l.length : Int)
  · rw [if_pos h, if_pos (by omega)]
  · rw [if_neg h, if_neg (by omega)]
theorem laws_toCell.eq {l : List Int} {c : Int} {k : Nat} (hl : l.length ≤ 1048576) (hk : l.length < k) : laws_toCell.f k l c = some (l, c) := by
  unfold laws_toCell.f
  rw [laws_toInt64S.eq hl hk]
  rfl
theorem laws_eqCell.eq {a b : List Int} {c c' : Int} {k : Nat} (hl : a.length ≤ 1048576) (hk : a.length < k) : laws_eqCell.f k a c b c' = some (decide (a = b ∧ c = c')) := by
  unfold laws_eqCell.f
  rw [laws_eqInt64S.eq hl hk]
  simp only [Option.bind_some, decide_eq_true_eq]
  by_cases h1 : a = b
  · by_cases h2 : c = c'
    · simp [h1, h2]
    · simp [h1, h2]
  · simp [h1]
/-- what the sizes' functions take off: the rows, and what they hold -/
def szLL : List (List Int) → Nat
  | [] => 0
  | x :: l => x.length + szLL l
theorem szLL_nil : szLL [] = 0 := rfl
theorem szLL_cons (x : List Int) (l : List (List Int)) : szLL (x :: l) = x.length + szLL l := rfl
theorem szLL_mem {l : List (List Int)} {x : List Int} (h : x ∈ l) : x.length ≤ szLL l := by
  induction l with
  | nil => cases h
  | cons y l ih =>
    rw [szLL_cons]
    rcases List.mem_cons.1 h with rfl | h
    · omega
    · have := ih h; omega
theorem szLL_ok {l : List (List Int)} (h : l.length + szLL l ≤ 1048576) : ∀ x ∈ l, x.length ≤ 1048576 ∧ x.length < 1048577 := fun x hx => by have := szLL_mem hx; omega
def cvCell (b : S127) : S111 := ⟨b.f0, b.f1⟩
def szCells : List (S127) → Nat
  | [] => 0
  | x :: l => x.f0.length + szCells l
theorem szCells_nil : szCells [] = 0 := rfl
theorem szCells_cons (x : S127) (l : List (S127)) : szCells (x :: l) = x.f0.length + szCells l := rfl
theorem szCells_mem {l : List (S127)} {x : S127} (h : x ∈ l) : x.f0.length ≤ szCells l := by
  induction l with
  | nil => cases h
  | cons y l ih =>
    rw [szCells_cons]
    rcases List.mem_cons.1 h with rfl | h
    · omega
    · have := ih h; omega
theorem rdCellA {l : List (S127)} {i : Nat} (h : i < l.length) : rd_T127 l (i : Int) = l[i] := by
  unfold rd_T127
  rw [Int.toNat_natCast, List.getD_eq_getElem?_getD, List.getElem?_eq_getElem h]
  rfl
theorem rdCellB {l : List (S111)} {i : Nat} (h : i < l.length) : rd_T111 l (i : Int) = l[i] := by
  unfold rd_T111
  rw [Int.toNat_natCast, List.getD_eq_getElem?_getD, List.getElem?_eq_getElem h]
  rfl
theorem laws_szCellS.loop (l : List (S127)) (hl : l.length ≤ 1048576) (hL : ∀ x ∈ l, x.f0.length ≤ 9223372036854775807) (d : Nat) : ∀ (k i : Nat) (a : Int), 0 ≤ a → a ≤ 1048576 → i ≤ l.length → l.length - i = d → d < k → laws_szCellS.l0 k l a (i : Int) = some (if a < (szCells (l.drop i) : Int) then -1 else a - (szCells (l.drop i) : Int)) := by
  induction d with
  | zero =>
    intro k i a h0 h1 hi hd hk
    obtain ⟨k, rfl⟩ : ∃ m, k = m + 1 := ⟨k - 1, by omega⟩
    simp only [laws_szCellS.l0]
    rw [if_neg (by omega), List.drop_eq_nil_of_le (by omega), szCells_nil, if_neg (by omega)]
    simp
  | succ d ih =>
    intro k i a h0 h1 hi hd hk
    obtain ⟨k, rfl⟩ : ∃ m, k = m + 1 := ⟨k - 1, by omega⟩
    have hlt : i < l.length := by omega
    have hx := hL l[i] (List.getElem_mem hlt)
    simp only [laws_szCellS.l0]
    rw [if_pos (int_lt hlt), if_pos (int_nn i), rdCellA hlt, laws_szCell.eq h0 h1 hx]
    simp only [Option.bind_some]
    rw [List.drop_eq_getElem_cons hlt, szCells_cons]
    by_cases h : a < (l[i].f0.length : Int)
    · rw [if_pos h, if_pos (by omega), if_pos (by omega)]
    · rw [if_neg h, if_neg (by omega), wrap_succ (by omega), ih k (i + 1) _ (by omega) (by omega) (by omega) (by omega) (by omega)]
      by_cases h2 : a - (l[i].f0.length : Int) < (szCells (l.drop (i + 1)) : Int)
      · rw [if_pos h2, if_pos (by omega)]
      · rw [if_neg h2, if_neg (by omega)]
        refine congrArg some ?_
        omega
theorem laws_szCellS.eq {l : List (S127)} {a : Int} {k : Nat} (h0 : 0 ≤ a) (h1 : a ≤ 1048576) (hl : l.length ≤ 9223372036854775807) (hL : ∀ x ∈ l, x.f0.length ≤ 9223372036854775807) (hk : 1048577 < k) : laws_szCellS.f k l a = some (if a < ((l.length + szCells l : Nat) : Int) then -1 else a - ((l.length + szCells l : Nat) : Int)) := by
  unfold laws_szCellS.f
  rw [wrap_in (by omega) (by omega)]
  by_cases h : a < (l.length : Int)
  · rw [if_pos (by omega), if_pos (by omega)]
  · rw [if_neg (by omega)]
    have := laws_szCellS.loop l (by omega) hL l.length k 0 (a - (l.length : Int)) (by omega) (by omega) (by omega) (by omega) (by omega)
    rw [List.drop_zero] at this
    refine (show _ = _ from this).trans ?_
    by_cases h2 : a - (l.length : Int) < (szCells l : Int)
    · rw [if_pos h2, if_pos (by omega)]
    · rw [if_neg h2, if_neg (by omega)]
      refine congrArg some ?_
      omega
theorem laws_toCellS.loop (l : List (S127)) (hl : l.length ≤ 1048576) (hL : ∀ x ∈ l, x.f0.length ≤ 1048576) (d : Nat) : ∀ (k i : Nat), i ≤ l.length → l.length - i = d → d + 1048577 < k → laws_toCellS.l0 k l ((l.take i).map cvCell ++ List.replicate (l.length - i) z111) (i : Int) = some (l.map cvCell) := by
  induction d with
  | zero =>
    intro k i hi hd hk
    obtain ⟨k, rfl⟩ : ∃ m, k = m + 1 := ⟨k - 1, by omega⟩
    obtain rfl : i = l.length := by omega
    simp only [laws_toCellS.l0]
    rw [if_neg (by omega)]
    simp
  | succ d ih =>
    intro k i hi hd hk
    obtain ⟨k, rfl⟩ : ∃ m, k = m + 1 := ⟨k - 1, by omega⟩
    have hlt : i < l.length := by omega
    have h1 := hL l[i] (List.getElem_mem hlt)
    simp only [laws_toCellS.l0]
    rw [if_pos (int_lt hlt), if_pos (int_nn i), rdCellA hlt, laws_toCell.eq h1 (by omega)]
    simp only [Option.bind_some]
    rw [if_pos (by simp; omega), wrap_succ (by omega), Int.toNat_natCast]
    have hs : ((l.take i).map cvCell ++ List.replicate (l.length - i) z111).set i (cvCell l[i]) = (l.take (i + 1)).map cvCell ++ List.replicate (l.length - (i + 1)) z111 := by
      have h1 : ((l.take i).map cvCell).length = i := by simp; omega
      rw [List.set_append_right _ _ (by omega), h1, Nat.sub_self, show l.length - i = (l.length - (i + 1)) + 1 by omega, List.replicate_succ, List.set_cons_zero, List.take_succ_eq_append_getElem hlt, List.map_append, List.append_assoc]
      rfl
    refine (congrArg (fun z => laws_toCellS.l0 k l z ((i + 1 : Nat) : Int)) hs).trans ?_
    exact ih k (i + 1) (by omega) (by omega) (by omega)
theorem laws_toCellS.eq {l : List (S127)} {k : Nat} (h : l.length + szCells l ≤ 1048576) (hk : 3000000 < k) : laws_toCellS.f k l = some (l.map cvCell) := by
  unfold laws_toCellS.f
  rw [if_pos (by omega), if_pos (by omega), Int.toNat_natCast]
  have := laws_toCellS.loop l (by omega) (fun x hx => by have := szCells_mem hx; omega) l.length k 0 (by omega) (by omega) (by omega)
  simpa using this
theorem cell_eq (a b : S111) : (a.f0 = b.f0 ∧ a.f1 = b.f1) ↔ a = b := by
  constructor
  · intro e
    rcases a with ⟨p0, p1⟩
    rcases b with ⟨q0, q1⟩
    simp only at e
    obtain ⟨e0, e1⟩ := e
    rw [e0, e1]
  · intro e
    rw [e]
    exact ⟨rfl, rfl⟩
instance decCell : DecidableEq S111 := fun a b => decidable_of_iff _ (cell_eq a b)
theorem laws_eqCellS.loop (a b : List (S111)) (hab : a.length = b.length) (hl : a.length ≤ 1048576) (hL : ∀ x ∈ a, x.f0.length ≤ 1048576) (d : Nat) : ∀ (k i : Nat), i ≤ a.length → a.length - i = d → d + 1048577 < k → laws_eqCellS.l0 k a b (i : Int) = some (decide (a.drop i = b.drop i)) := by
  induction d with
  | zero =>
    intro k i hi hd hk
    obtain ⟨k, rfl⟩ : ∃ m, k = m + 1 := ⟨k - 1, by omega⟩
    simp only [laws_eqCellS.l0]
    rw [if_neg (by omega), List.drop_eq_nil_of_le (by omega), List.drop_eq_nil_of_le (by omega)]
    rfl
  | succ d ih =>
    intro k i hi hd hk
    obtain ⟨k, rfl⟩ : ∃ m, k = m + 1 := ⟨k - 1, by omega⟩
    have hlt : i < a.length := by omega
    have hlb : i < b.length := by omega
    have h1 := hL a[i] (List.getElem_mem hlt)
    simp only [laws_eqCellS.l0]
    rw [if_pos (int_lt hlt), if_pos (int_nn i), if_pos (by omega), rdCellB hlt, rdCellB hlb, laws_eqCell.eq h1 (by omega), wrap_succ (by omega), ih k (i + 1) (by omega) (by omega) (by omega), List.drop_eq_getElem_cons hlt, List.drop_eq_getElem_cons hlb]
    simp only [Option.bind_some, decide_eq_true_eq]
    have hq := cell_eq a[i] b[i]
    by_cases h : a[i] = b[i]
    · rw [if_pos (hq.2 h), h]
      refine congrArg some (decide_eq_decide.2 ⟨fun e => by rw [e], fun e => (List.cons.inj e).2⟩)
    · rw [if_neg (fun e => h (hq.1 e))]
      exact congrArg some (decide_eq_false (fun e => h (List.cons.inj e).1)).symm
theorem laws_eqCellS.eq {a b : List (S111)} {k : Nat} (hl : a.length ≤ 1048576) (hL : ∀ x ∈ a, x.f0.length ≤ 1048576) (hk : 3000000 < k) : laws_eqCellS.f k a b = some (decide (a = b)) := by
  unfold laws_eqCellS.f
  by_cases h : a.length = b.length
  · rw [if_pos (by omega)]
    have := laws_eqCellS.loop a b h hl hL a.length k 0 (by omega) (by omega) (by omega)
    simpa using this
  · rw [if_neg (by omega)]
    refine congrArg some (decide_eq_false (fun e => h (by rw [e]))).symm
theorem cvCell_ok {l : List (S127)} (h : l.length + szCells l ≤ 1048576) : ∀ x ∈ l.map cvCell, x.f0.length ≤ 1048576 := by
  intro x hx
  obtain ⟨y, hy, rfl⟩ := List.mem_map.1 hx
  have := szCells_mem hy
  show y.f0.length ≤ _
  omega
theorem laws_szGrid.eq {l : List S127} {a b r c : Int} {h : Bool} {t n : Int} {k : Nat} (h0 : 0 ≤ n) (h1 : n ≤ 1048576) (hl : l.length ≤ 9223372036854775807) (hL : ∀ x ∈ l, x.f0.length ≤ 9223372036854775807) (hk : 1048577 < k) : laws_szGrid.f k a b l r c h t n = some (if n < ((l.length + szCells l : Nat) : Int) then -1 else n - ((l.length + szCells l : Nat) : Int)) := by
  unfold laws_szGrid.f
  rw [laws_szCellS.eq h0 h1 hl hL hk]
  simp only [Option.bind_some]
  by_cases h : n < ((l.length + szCells l : Nat) : Int)
  · rw [if_pos h, if_pos (by omega)]
  · rw [if_neg h, if_neg (by omega)]
theorem laws_toGrid.eq {l : List S127} {a b r c : Int} {h : Bool} {t : Int} {k : Nat} (hl : l.length + szCells l ≤ 1048576) (hk : 3000000 < k) : laws_toGrid.f k a b l r c h t = some (a, b, l.map cvCell, r, c, h, t) := by
  unfold laws_toGrid.f
  rw [laws_toCellS.eq hl hk]
  rfl
theorem laws_eqGrid.eq {l l' : List S111} {a b r c a' b' r' c' : Int} {h h' : Bool} {t t' : Int} {k : Nat} (hl : l.length ≤ 1048576) (hL : ∀ x ∈ l, x.f0.length ≤ 1048576) (hk : 3000000 < k) : laws_eqGrid.f k a b l r c h t a' b' l' r' c' h' t' = some (decide (a = a' ∧ b = b' ∧ l = l' ∧ r = r' ∧ c = c' ∧ h = h' ∧ t = t')) := by
  unfold laws_eqGrid.f
  rw [laws_eqCellS.eq hl hL hk]
  simp only [Option.bind_some, decide_eq_true_eq]
  by_cases e1 : a = a'
  · by_cases e2 : b = b'
    · by_cases e3 : l = l'
      · by_cases e4 : r = r'
        · by_cases e5 : c = c'
          · by_cases e6 : h = h'
            · by_cases e7 : t = t'
              · simp [e1, e2, e3, e4, e5, e6, e7]
              · simp [e1, e2, e3, e4, e5, e6, e7]
            · simp [e1, e2, e3, e4, e5, e6]
          · simp [e1, e2, e3, e4, e5]
        · simp [e1, e2, e3, e4]
      · simp [e1, e2, e3]
    · simp [e1, e2]
  · simp [e1]
theorem spec_l01Same.loop (a b : List Int) (hab : a.length = b.length) (hl : a.length ≤ 1048576) (d : Nat) : ∀ (k i : Nat), i ≤ a.length → a.length - i = d → d < k → spec_l01Same.l0 k a b (i : Int) = some (decide (a.drop i = b.drop i)) := by
  induction d with
  | zero =>
    intro k i hi hd hk
    obtain ⟨k, rfl⟩ : ∃ m, k = m + 1 := ⟨k - 1, by omega⟩
    simp only [spec_l01Same.l0]
    rw [if_neg (by omega), List.drop_eq_nil_of_le (by omega), List.drop_eq_nil_of_le (by omega)]
    rfl
  | succ d ih =>
    intro k i hi hd hk
    obtain ⟨k, rfl⟩ : ∃ m, k = m + 1 := ⟨k - 1, by omega⟩
    have hlt : i < a.length := by omega
    simp only [spec_l01Same.l0]
    rw [if_pos (int_lt hlt), if_pos (int_nn i), if_pos (by omega), wrap_succ (by omega), ih k (i + 1) (by omega) (by omega) (by omega), drop_rd hlt, drop_rd (show i < b.length by omega)]
    by_cases h : rd a (i : Int) = rd b (i : Int)
    · rw [if_pos h, h]
      simp
    · rw [if_neg h]
      simp [h]
theorem spec_l01Same.eq {a b : List Int} {k : Nat} (hl : a.length ≤ 1048576) (hk : a.length < k) : spec_l01Same.f k a b = some (decide (a = b)) := by
  unfold spec_l01Same.f
  by_cases h : a.length = b.length
  · rw [if_pos (by omega)]
    have := spec_l01Same.loop a b h hl a.length k 0 (by omega) (by omega) hk
    simpa using this
  · rw [if_neg (by omega)]
    refine congrArg some (decide_eq_false (fun e => h (by rw [e]))).symm
theorem slices_Equal_sint64_int64.loop (a b : List Int) (hab : a.length = b.length) (hl : a.length ≤ 1048576) (d : Nat) : ∀ (k i : Nat), i ≤ a.length → a.length - i = d → d < k → slices_Equal_sint64_int64.l0 k a b (a.length : Int) (i : Int) = some (decide (a.drop i = b.drop i)) := by
  induction d with
  | zero =>
    intro k i hi hd hk
    obtain ⟨k, rfl⟩ : ∃ m, k = m + 1 := ⟨k - 1, by omega⟩
    simp only [slices_Equal_sint64_int64.l0]
    rw [if_neg (by omega), List.drop_eq_nil_of_le (by omega), List.drop_eq_nil_of_le (by omega)]
    rfl
  | succ d ih =>
    intro k i hi hd hk
    obtain ⟨k, rfl⟩ : ∃ m, k = m + 1 := ⟨k - 1, by omega⟩
    have hlt : i < a.length := by omega
    simp only [slices_Equal_sint64_int64.l0]
    rw [if_pos (int_lt hlt), if_pos (int_nn i), if_pos (int_lt hlt), if_pos (by omega), wrap_succ (by omega), ih k (i + 1) (by omega) (by omega) (by omega), drop_rd hlt, drop_rd (show i < b.length by omega)]
    by_cases h : rd a (i : Int) = rd b (i : Int)
    · rw [if_pos h, h]
      simp
    · rw [if_neg h]
      simp [h]
theorem slices_Equal_sint64_int64.eq {a b : List Int} {k : Nat} (hl : a.length ≤ 1048576) (hk : a.length < k) : slices_Equal_sint64_int64.f k a b = some (decide (a = b)) := by
  unfold slices_Equal_sint64_int64.f
  by_cases h : a.length = b.length
  · rw [if_pos (by omega)]
    have := slices_Equal_sint64_int64.loop a b h hl a.length k 0 (by omega) (by omega) hk
    simpa using this
  · rw [if_neg (by omega)]
    refine congrArg some (decide_eq_false (fun e => h (by rw [e]))).symm
theorem spec_GridSame.loop {a b r c a' b' r' c' : Int} {h h' : Bool} {t t' : Int} (l l' : List S111) (hab : l.length = l'.length) (hl : l.length ≤ 1048576) (hL : ∀ x ∈ l, x.f0.length ≤ 1048576) (d : Nat) : ∀ (k i : Nat), i ≤ l.length → l.length - i = d → d + 1048577 < k → spec_GridSame.l0 k (i : Int) a b l r c h t a' b' l' r' c' h' t' = some (decide (l.drop i = l'.drop i)) := by
  induction d with
  | zero =>
    intro k i hi hd hk
    obtain ⟨k, rfl⟩ : ∃ m, k = m + 1 := ⟨k - 1, by omega⟩
    simp only [spec_GridSame.l0]
    rw [if_neg (by omega), List.drop_eq_nil_of_le (by omega), List.drop_eq_nil_of_le (by omega)]
    rfl
  | succ d ih =>
    intro k i hi hd hk
    obtain ⟨k, rfl⟩ : ∃ m, k = m + 1 := ⟨k - 1, by omega⟩
    have hlt : i < l.length := by omega
    have hlb : i < l'.length := by omega
    have h1 := hL l[i] (List.getElem_mem hlt)
    simp only [spec_GridSame.l0]
    rw [if_pos (int_lt hlt), if_pos (int_nn i), if_pos (by omega), rdCellB hlt, rdCellB hlb, spec_l01Same.eq h1 (by omega), wrap_succ (by omega), ih k (i + 1) (by omega) (by omega) (by omega), List.drop_eq_getElem_cons hlt, List.drop_eq_getElem_cons hlb]
    simp only [Option.bind_some, decide_eq_true_eq]
    have hq := cell_eq l[i] l'[i]
    by_cases g : l[i] = l'[i]
    · rw [if_pos (hq.2 g).2, if_pos (hq.2 g).1, g]
      refine congrArg some (decide_eq_decide.2 ⟨fun e => by rw [e], fun e => (List.cons.inj e).2⟩)
    · rw [decide_eq_false (fun e => g (List.cons.inj e).1)]
      by_cases g1 : l[i].f1 = l'[i].f1
      · rw [if_pos g1, if_neg (fun e => g (hq.1 ⟨e, g1⟩))]
      · rw [if_neg g1]
theorem spec_GridSame.eq {a b r c a' b' r' c' : Int} {h h' : Bool} {t t' : Int} {l l' : List S111} {k : Nat} (hl : l.length ≤ 1048576) (hL : ∀ x ∈ l, x.f0.length ≤ 1048576) (hk : 3000000 < k) : spec_GridSame.f k a b l r c h t a' b' l' r' c' h' t' = some (decide (a = a' ∧ b = b' ∧ l = l' ∧ r = r' ∧ c = c' ∧ h = h' ∧ t = t')) := by
  obtain ⟨k, rfl⟩ : ∃ m, k = m + 1 := ⟨k - 1, by omega⟩
  unfold spec_GridSame.f
  by_cases e1 : a = a'
  · by_cases e2 : b = b'
    · by_cases e4 : r = r'
      · by_cases e5 : c = c'
        · by_cases e6 : h = h'
          · by_cases e7 : t = t'
            · by_cases e3 : l.length = l'.length
              · have := spec_GridSame.loop (a := a) (b := b) (r := r) (c := c) (a' := a') (b' := b') (r' := r') (c' := c') (h := h) (h' := h') (t := t) (t' := t') l l' e3 hl hL l.length k 0 (by omega) (by omega) (by omega)
                rw [List.drop_zero, List.drop_zero] at this
                have hn : ((l.length : Int) != (l'.length : Int)) = false := by rw [e3]; exact bne_self_eq_false _
                rw [if_pos e1, if_pos e2, if_pos e4, if_pos e5, if_neg (by simp [e6]), if_pos e7, hn]
                simp only [spec_GridSame.j0, Bool.false_eq_true, if_false]
                refine (show _ = _ from this).trans ?_
                simp [e1, e2, e4, e5, e6, e7]
              · have hn : ((l.length : Int) != (l'.length : Int)) = true := bne_iff_ne.2 (by omega)
                rw [if_pos e1, if_pos e2, if_pos e4, if_pos e5, if_neg (by simp [e6]), if_pos e7, hn, decide_eq_false (fun e => e3 (by rw [e.2.2.1]))]
                simp only [spec_GridSame.j0, if_true]
            · rw [if_pos e1, if_pos e2, if_pos e4, if_pos e5, if_neg (by simp [e6]), if_neg e7, decide_eq_false (fun e => e7 e.2.2.2.2.2.2)]
              simp only [spec_GridSame.j0, if_true]
          · rw [if_pos e1, if_pos e2, if_pos e4, if_pos e5, if_pos (by simp [e6]), decide_eq_false (fun e => e6 e.2.2.2.2.2.1)]
            simp only [spec_GridSame.j0, if_true]
        · rw [if_pos e1, if_pos e2, if_pos e4, if_neg e5, decide_eq_false (fun e => e5 e.2.2.2.2.1)]
          simp only [spec_GridSame.j0, if_true]
      · rw [if_pos e1, if_pos e2, if_neg e4, decide_eq_false (fun e => e4 e.2.2.2.1)]
        simp only [spec_GridSame.j0, if_true]
    · rw [if_pos e1, if_neg e2, decide_eq_false (fun e => e2 e.2.1)]
      simp only [spec_GridSame.j0, if_true]
  · rw [if_neg e1, decide_eq_false (fun e => e1 e.1)]
    simp only [spec_GridSame.j0, if_true]
theorem impl_sameCells.loop (l l' : List S111) (hab : l.length = l'.length) (hl : l.length ≤ 1048576) (hL : ∀ x ∈ l, x.f0.length ≤ 1048576) (d : Nat) : ∀ (k i : Nat), i ≤ l.length → l.length - i = d → d + 1048577 < k → slices_EqualFunc_simpl_Cell_simpl_Cell_impl_Cell_impl_Cell.l0 k l' l (l.length : Int) (i : Int) = some (decide (l.drop i = l'.drop i)) := by
  induction d with
  | zero =>
    intro k i hi hd hk
    obtain ⟨k, rfl⟩ : ∃ m, k = m + 1 := ⟨k - 1, by omega⟩
    simp only [slices_EqualFunc_simpl_Cell_simpl_Cell_impl_Cell_impl_Cell.l0]
    rw [if_neg (by omega), List.drop_eq_nil_of_le (by omega), List.drop_eq_nil_of_le (by omega)]
    rfl
  | succ d ih =>
    intro k i hi hd hk
    obtain ⟨k, rfl⟩ : ∃ m, k = m + 1 := ⟨k - 1, by omega⟩
    have hlt : i < l.length := by omega
    have hlb : i < l'.length := by omega
    have h1 := hL l[i] (List.getElem_mem hlt)
    have hq := cell_eq l[i] l'[i]
    have hp : impl_sameCells_1.f k l[i].f0 l[i].f1 l'[i].f0 l'[i].f1 = some (decide (l[i] = l'[i])) := by
      unfold impl_sameCells_1.f
      by_cases g1 : l[i].f1 = l'[i].f1
      · rw [if_pos g1, slices_Equal_sint64_int64.eq h1 (by omega)]
        refine congrArg some (decide_eq_decide.2 ⟨fun e => hq.1 ⟨e, g1⟩, fun e => (hq.2 e).1⟩)
      · rw [if_neg g1, decide_eq_false (fun e => g1 (hq.2 e).2)]
    simp only [slices_EqualFunc_simpl_Cell_simpl_Cell_impl_Cell_impl_Cell.l0]
    rw [if_pos (int_lt hlt), if_pos (int_nn i), if_pos (int_lt hlt), if_pos (by omega), rdCellB hlt, rdCellB hlb, hp, wrap_succ (by omega), ih k (i + 1) (by omega) (by omega) (by omega), List.drop_eq_getElem_cons hlt, List.drop_eq_getElem_cons hlb]
    simp only [Option.bind_some, decide_eq_true_eq]
    by_cases g : l[i] = l'[i]
    · rw [if_pos g, g]
      refine congrArg some (decide_eq_decide.2 ⟨fun e => by rw [e], fun e => (List.cons.inj e).2⟩)
    · rw [if_neg g]
      exact congrArg some (decide_eq_false (fun e => g (List.cons.inj e).1)).symm
theorem impl_sameCells.eq {l l' : List S111} {k : Nat} (hl : l.length ≤ 1048576) (hL : ∀ x ∈ l, x.f0.length ≤ 1048576) (hk : 3000000 < k) : impl_sameCells.f k l l' = some (decide (l = l')) := by
  unfold impl_sameCells.f slices_EqualFunc_simpl_Cell_simpl_Cell_impl_Cell_impl_Cell.f
  by_cases h : l.length = l'.length
  · rw [if_pos (by omega)]
    have := impl_sameCells.loop l l' h hl hL l.length k 0 (by omega) (by omega) (by omega)
    rw [List.drop_zero, List.drop_zero] at this
    rw [show slices_EqualFunc_simpl_Cell_simpl_Cell_impl_Cell_impl_Cell.l0 k l' l (l.length : Int) 0 = _ from this]
    rfl
  · rw [if_neg (by omega)]
    refine congrArg some (decide_eq_false (fun e => h (by rw [e]))).symm
theorem impl_GridSame.eq {a b r c a' b' r' c' : Int} {h h' : Bool} {t t' : Int} {l l' : List S111} {k : Nat} (hl : l.length ≤ 1048576) (hL : ∀ x ∈ l, x.f0.length ≤ 1048576) (hk : 3000000 < k) : impl_GridSame.f k a b l r c h t a' b' l' r' c' h' t' = some (decide (a = a' ∧ b = b' ∧ l = l' ∧ r = r' ∧ c = c' ∧ h = h' ∧ t = t')) := by
  unfold impl_GridSame.f
  rw [impl_sameCells.eq hl hL hk]
  simp only [Option.bind_some, decide_eq_true_eq]
  by_cases e1 : a = a'
  · by_cases e2 : b = b'
    · by_cases e3 : l = l'
      · by_cases e4 : r = r'
        · by_cases e5 : c = c'
          · by_cases e6 : h = h'
            · by_cases e7 : t = t'
              · simp [e1, e2, e3, e4, e5, e6, e7]
              · simp [e1, e2, e3, e4, e5, e6, e7]
            · simp [e1, e2, e3, e4, e5, e6]
          · simp [e1, e2, e3, e4, e5]
        · simp [e1, e2, e3, e4]
      · simp [e1, e2, e3]
    · simp [e1, e2]
  · simp [e1]

theorem FnExactGridSame : laws_FnExactGridSame.Pure := by
  intro a b l r c h t a' b' l' r' c' h' t' ⟨_, _, ⟨hl, hL⟩, _⟩ ⟨_, _, ⟨hl', hL'⟩, _⟩
  have hl := maxLen_le hl
  have hl' := maxLen_le hl'
  refine ⟨4000000, ?_⟩
  unfold laws_FnExactGridSame.f
  rw [laws_szGrid.eq (by omega) (by omega) hl (fun x hx => maxLen_le (hL x hx).1.1) (by omega)]
  simp only [Option.bind_some]
  by_cases g : (1048576 : Int) < ((l.length + szCells l : Nat) : Int)
  · rw [if_pos g, if_pos (by omega)]
  · rw [if_neg g, if_neg (by omega), laws_szGrid.eq (by omega) (by omega) hl' (fun x hx => maxLen_le (hL' x hx).1.1) (by omega)]
    simp only [Option.bind_some]
    by_cases g' : (1048576 : Int) - ((l.length + szCells l : Nat) : Int) < ((l'.length + szCells l' : Nat) : Int)
    · rw [if_pos g', if_pos (by omega)]
    · rw [if_neg g', if_neg (by omega), laws_toGrid.eq (by omega) (by omega), laws_toGrid.eq (by omega) (by omega)]
      simp only [Option.bind_some]
      have o1 : (l.map cvCell).length ≤ 1048576 := by rw [List.length_map]; omega
      have o2 : (l'.map cvCell).length ≤ 1048576 := by rw [List.length_map]; omega
      rw [spec_GridSame.eq o1 (cvCell_ok (by omega)) (by omega), impl_GridSame.eq o1 (cvCell_ok (by omega)) (by omega)]
      simp only [Option.bind_some, bne_self_eq_false, Bool.false_eq_true, if_false, laws_FnExactGridSame.j0]
      rw [laws_toGrid.eq (by omega) (by omega)]
      simp only [Option.bind_some]
      rw [laws_eqGrid.eq o1 (cvCell_ok (by omega)) (by omega)]
      simp only [Option.bind_some, and_self, decide_true, if_true, laws_FnExactGridSame.j1]
      rw [laws_toGrid.eq (by omega) (by omega)]
      simp only [Option.bind_some]
      rw [laws_eqGrid.eq o2 (cvCell_ok (by omega)) (by omega)]
      simp

end Go.Proofs.Ytefffjhnpojjlab.Pure
