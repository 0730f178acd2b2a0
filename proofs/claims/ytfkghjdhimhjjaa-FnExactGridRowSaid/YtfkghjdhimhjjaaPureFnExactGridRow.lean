/- Proved: the program's GridRow returns what the reference's returns, for every grid of size at most 2^20 in all and every row, and leaves the grid as it was. -/
import Derived.Test.YtfkghjdhimhjjaaPFnExactGridRowx10
namespace Go.Proofs.Ytfkghjdhimhjjaa.Pure
open Go.RowKit Go.Proofs.Ytfkghjdhimhjjaa.PFnExactGridRow Go.Proofs.YtfkghjdhimhjjaaW.PrintWords Go.Proofs.YtfkghjdhimhjjaaW.PrintLast Go.Proofs.YtfkghjdhimhjjaaW.PrintMore
set_option linter.unusedVariables false
set_option linter.unusedSimpArgs false

/-! ### plain words -/
theorem wrap_in {x : Int} (h0 : -9223372036854775808 ≤ x) (h1 : x ≤ 9223372036854775807) : wrap64 x = x := by unfold wrap64; omega
theorem wrap_succ {i : Nat} (h : i < 4611686018427387904) : wrap64 ((i : Int) + 1) = ((i + 1 : Nat) : Int) := by unfold wrap64; omega
theorem rd_nat (l : List Int) (i : Nat) : rd l (i : Int) = l.getD i 0 := by simp [rd]
theorem drop_rd {l : List Int} {i : Nat} (h : i < l.length) : l.drop i = rd l (i : Int) :: l.drop (i + 1) := by
  rw [rd_nat, List.drop_eq_getElem_cons h, List.getD_eq_getElem?_getD, List.getElem?_eq_getElem h]
  rfl
theorem int_lt {i n : Nat} (h : i < n) : (i : Int) < (n : Int) := by omega
theorem int_nlt {i n : Nat} (h : ¬ i < n) : ¬ (i : Int) < (n : Int) := by omega
theorem int_nn (i : Nat) : (0 : Int) ≤ (i : Int) := by omega
theorem maxLen_le {n : Nat} (h : n ≤ maxLen) : n ≤ 9223372036854775807 := by unfold maxLen at h; exact h
theorem some_b {a b : Bool} (h : a = true ↔ b = true) : some a = some b := congrArg some (Bool.eq_iff_iff.2 h)
def isPt (a : Int) : Bool := decide (0 ≤ a ∧ a ≤ 1114111 ∧ ¬ (55296 ≤ a ∧ a ≤ 57343))
def ptsOK (l : List Int) : Bool := decide (l.length ≤ 300) && l.all isPt
def bufOK (l : List Int) (c m : Int) : Bool := ptsOK l && decide (0 ≤ c ∧ c ≤ l.length) && decide (0 ≤ m ∧ m ≤ l.length)
def isCtl (a : Int) : Bool := decide (a < 32 ∨ a = 127)
def isWide2 (a : Int) : Bool := decide ((4352 ≤ a ∧ a ≤ 4447) ∨ (11904 ≤ a ∧ a ≤ 42191) ∨ (44032 ≤ a ∧ a ≤ 55203) ∨ (63744 ≤ a ∧ a ≤ 64255) ∨ (65281 ≤ a ∧ a ≤ 65376) ∨ (127744 ≤ a ∧ a ≤ 129791))
def wid (a : Int) : Int := if isPt a = true ∧ ¬ (768 ≤ a ∧ a ≤ 879) then (if isCtl a = true ∨ isWide2 a = true then 2 else 1) else 0
def cl2 (a : Int) : Int := if (97 ≤ a ∧ a ≤ 122) ∨ (65 ≤ a ∧ a ≤ 90) ∨ (48 ≤ a ∧ a ≤ 57) ∨ a = 95 ∨ 128 ≤ a then 2 else 3
def cls (a : Int) : Int := if isPt a = true then (if a = 32 ∨ a = 9 ∨ a = 10 then 1 else cl2 a) else 0
theorem ptsOK_len {l : List Int} (h : ptsOK l = true) : l.length ≤ 300 := by
  unfold ptsOK at h
  simp only [Bool.and_eq_true, decide_eq_true_eq] at h
  exact h.1
theorem bufOK_len {l : List Int} {c m : Int} (h : bufOK l c m = true) : l.length ≤ 300 := by
  unfold bufOK at h
  simp only [Bool.and_eq_true] at h
  exact ptsOK_len h.1.1
theorem bufOK_all {l : List Int} {c m : Int} (h : bufOK l c m = true) : l.length ≤ 300 ∧ 0 ≤ c ∧ c ≤ l.length ∧ 0 ≤ m ∧ m ≤ l.length := by
  have hl := bufOK_len h
  unfold bufOK at h
  simp only [Bool.and_eq_true, decide_eq_true_eq] at h
  exact ⟨hl, h.1.2.1, h.1.2.2, h.2.1, h.2.2⟩
theorem laws_szInt64S.eq {l : List Int} {a : Int} (h0 : 0 ≤ a) (h1 : a ≤ 1048576) (hl : l.length ≤ 9223372036854775807) : laws_szInt64S.f l a = some (if a < (l.length : Int) then -1 else a - (l.length : Int)) := by
  unfold laws_szInt64S.f
  rw [wrap_in (by omega) (by omega)]
  by_cases h : a < (l.length : Int)
  · rw [if_pos (by omega), if_pos h]
  · rw [if_neg (by omega), if_neg h]
theorem laws_toInt64S.loop (l : List Int) (hl : l.length ≤ 1048576) (d : Nat) : ∀ (k i : Nat), i ≤ l.length → l.length - i = d → d < k → laws_toInt64S.l0 k l (l.take i ++ List.replicate (l.length - i) 0) (i : Int) = some l := by
  induction d with
  | zero =>
    intro k i hi hd hk
    obtain ⟨k, rfl⟩ : ∃ m, k = m + 1 := ⟨k - 1, by omega⟩
    obtain rfl : i = l.length := by omega
    simp only [laws_toInt64S.l0]
    rw [if_neg (by omega)]
    simp
  | succ d ih =>
    intro k i hi hd hk
    obtain ⟨k, rfl⟩ : ∃ m, k = m + 1 := ⟨k - 1, by omega⟩
    have hlt : i < l.length := by omega
    simp only [laws_toInt64S.l0]
    rw [if_pos (int_lt hlt), if_pos (int_nn i), if_pos (by simp; omega), wrap_succ (by omega), Int.toNat_natCast]
    have hs : (l.take i ++ List.replicate (l.length - i) 0).set i (rd l (i : Int)) = l.take (i + 1) ++ List.replicate (l.length - (i + 1)) 0 := by
      have h1 : (l.take i).length = i := by simp; omega
      rw [List.set_append_right _ _ (by omega), h1, Nat.sub_self, show l.length - i = (l.length - (i + 1)) + 1 by omega, List.replicate_succ, List.set_cons_zero, List.take_succ_eq_append_getElem hlt, rd_nat, List.getD_eq_getElem?_getD, List.getElem?_eq_getElem hlt, List.append_assoc]
      rfl
    rw [hs]
    exact ih k (i + 1) (by omega) (by omega) (by omega)
theorem laws_toInt64S.eq {l : List Int} {k : Nat} (hl : l.length ≤ 1048576) (hk : l.length < k) : laws_toInt64S.f k l = some l := by
  unfold laws_toInt64S.f
  rw [if_pos (by omega), if_pos (by omega), Int.toNat_natCast]
  have := laws_toInt64S.loop l hl l.length k 0 (by omega) (by omega) hk
  simpa using this
theorem laws_eqInt64S.loop (a b : List Int) (hab : a.length = b.length) (hl : a.length ≤ 1048576) (d : Nat) : ∀ (k i : Nat), i ≤ a.length → a.length - i = d → d < k → laws_eqInt64S.l0 k a b (i : Int) = some (decide (a.drop i = b.drop i)) := by
  induction d with
  | zero =>
    intro k i hi hd hk
    obtain ⟨k, rfl⟩ : ∃ m, k = m + 1 := ⟨k - 1, by omega⟩
    simp only [laws_eqInt64S.l0]
    rw [if_neg (by omega), List.drop_eq_nil_of_le (by omega), List.drop_eq_nil_of_le (by omega)]
    rfl
  | succ d ih =>
    intro k i hi hd hk
    obtain ⟨k, rfl⟩ : ∃ m, k = m + 1 := ⟨k - 1, by omega⟩
    have hlt : i < a.length := by omega
    simp only [laws_eqInt64S.l0]
    rw [if_pos (int_lt hlt), if_pos (int_nn i), if_pos (by omega), wrap_succ (by omega), ih k (i + 1) (by omega) (by omega) (by omega), drop_rd hlt, drop_rd (show i < b.length by omega)]
    by_cases h : rd a (i : Int) = rd b (i : Int)
    · rw [if_pos h, h]
      simp
    · rw [if_neg h]
      simp [h]
theorem laws_eqInt64S.eq {a b : List Int} {k : Nat} (hl : a.length ≤ 1048576) (hk : a.length < k) : laws_eqInt64S.f k a b = some (decide (a = b)) := by
  unfold laws_eqInt64S.f
  by_cases h : a.length = b.length
  · rw [if_pos (by omega)]
    have := laws_eqInt64S.loop a b h hl a.length k 0 (by omega) (by omega) hk
    simpa using this
  · rw [if_neg (by omega)]
    refine congrArg some (decide_eq_false (fun e => h (by rw [e]))).symm
theorem laws_eqCell.eq {a b : List Int} {c c' : Int} {k : Nat} (hl : a.length ≤ 1048576) (hk : a.length < k) : laws_eqCell.f k a c b c' = some (decide (a = b ∧ c = c')) := by
  unfold laws_eqCell.f
  rw [laws_eqInt64S.eq hl hk]
  simp only [Option.bind_some, decide_eq_true_eq]
  by_cases h1 : a = b
  · by_cases h2 : c = c'
    · simp [h1, h2]
    · simp [h1, h2]
  · simp [h1]
theorem laws_szCell.eq {l : List Int} {a c : Int} (h0 : 0 ≤ a) (h1 : a ≤ 1048576) (hl : l.length ≤ 9223372036854775807) : laws_szCell.f l c a = some (if a < (l.length : Int) then -1 else a - (l.length : Int)) := by
  unfold laws_szCell.f
  rw [laws_szInt64S.eq h0 h1 hl]
  simp only [Option.bind_some]
  by_cases h : a < (l.length : Int)
  · rw [if_pos h, if_pos (by omega)]
  · rw [if_neg h, if_neg (by omega)]
theorem laws_toCell.eq {l : List Int} {c : Int} {k : Nat} (hl : l.length ≤ 1048576) (hk : l.length < k) : laws_toCell.f k l c = some (l, c) := by
  unfold laws_toCell.f
  rw [laws_toInt64S.eq hl hk]
  rfl
theorem rdCellB {l : List (S79)} {i : Nat} (h : i < l.length) : rd_T79 l (i : Int) = l[i] := by
  unfold rd_T79
  rw [Int.toNat_natCast, List.getD_eq_getElem?_getD, List.getElem?_eq_getElem h]
  rfl
theorem cell_eq (a b : S79) : (a.f0 = b.f0 ∧ a.f1 = b.f1) ↔ a = b := by
  constructor
  · intro e
    rcases a with ⟨p0, p1⟩
    rcases b with ⟨q0, q1⟩
    simp only at e
    obtain ⟨e0, e1⟩ := e
    rw [e0, e1]
  · intro e
    rw [e]
    exact ⟨rfl, rfl⟩
instance decCell : DecidableEq S79 := fun a b => decidable_of_iff _ (cell_eq a b)
theorem laws_eqCellS.loop (a b : List (S79)) (hab : a.length = b.length) (hl : a.length ≤ 1048576) (hL : ∀ x ∈ a, x.f0.length ≤ 1048576) (d : Nat) : ∀ (k i : Nat), i ≤ a.length → a.length - i = d → d + 1048577 < k → laws_eqCellS.l0 k a b (i : Int) = some (decide (a.drop i = b.drop i)) := by
  induction d with
  | zero =>
    intro k i hi hd hk
    obtain ⟨k, rfl⟩ : ∃ m, k = m + 1 := ⟨k - 1, by omega⟩
    simp only [laws_eqCellS.l0]
    rw [if_neg (by omega), List.drop_eq_nil_of_le (by omega), List.drop_eq_nil_of_le (by omega)]
    rfl
  | succ d ih =>
    intro k i hi hd hk
    obtain ⟨k, rfl⟩ : ∃ m, k = m + 1 := ⟨k - 1, by omega⟩
    have hlt : i < a.length := by omega
    have hlb : i < b.length := by omega
    have h1 := hL a[i] (List.getElem_mem hlt)
    simp only [laws_eqCellS.l0]
    rw [if_pos (int_lt hlt), if_pos (int_nn i), if_pos (by omega), rdCellB hlt, rdCellB hlb, laws_eqCell.eq h1 (by omega), wrap_succ (by omega), ih k (i + 1) (by omega) (by omega) (by omega), List.drop_eq_getElem_cons hlt, List.drop_eq_getElem_cons hlb]
    simp only [Option.bind_some, decide_eq_true_eq]
    have hq := cell_eq a[i] b[i]
    by_cases h : a[i] = b[i]
    · rw [if_pos (hq.2 h), h]
      refine congrArg some (decide_eq_decide.2 ⟨fun e => by rw [e], fun e => (List.cons.inj e).2⟩)
    · rw [if_neg (fun e => h (hq.1 e))]
      exact congrArg some (decide_eq_false (fun e => h (List.cons.inj e).1)).symm
theorem laws_eqCellS.eq {a b : List (S79)} {k : Nat} (hl : a.length ≤ 1048576) (hL : ∀ x ∈ a, x.f0.length ≤ 1048576) (hk : 3000000 < k) : laws_eqCellS.f k a b = some (decide (a = b)) := by
  unfold laws_eqCellS.f
  by_cases h : a.length = b.length
  · rw [if_pos (by omega)]
    have := laws_eqCellS.loop a b h hl hL a.length k 0 (by omega) (by omega) (by omega)
    simpa using this
  · rw [if_neg (by omega)]
    refine congrArg some (decide_eq_false (fun e => h (by rw [e]))).symm
/-- what the sizes' functions take off: the rows, and what they hold -/
def szLL : List (List Int) → Nat
  | [] => 0
  | x :: l => x.length + szLL l
theorem szLL_nil : szLL [] = 0 := rfl
theorem szLL_cons (x : List Int) (l : List (List Int)) : szLL (x :: l) = x.length + szLL l := rfl
theorem szLL_mem {l : List (List Int)} {x : List Int} (h : x ∈ l) : x.length ≤ szLL l := by
  induction l with
  | nil => cases h
  | cons y l ih =>
    rw [szLL_cons]
    rcases List.mem_cons.1 h with rfl | h
    · omega
    · have := ih h; omega
theorem szLL_ok {l : List (List Int)} (h : l.length + szLL l ≤ 1048576) : ∀ x ∈ l, x.length ≤ 1048576 ∧ x.length < 1048577 := fun x hx => by have := szLL_mem hx; omega
def cvCell (b : S109) : S79 := ⟨b.f0, b.f1⟩
def szCells : List (S109) → Nat
  | [] => 0
  | x :: l => x.f0.length + szCells l
theorem szCells_nil : szCells [] = 0 := rfl
theorem szCells_cons (x : S109) (l : List (S109)) : szCells (x :: l) = x.f0.length + szCells l := rfl
theorem szCells_mem {l : List (S109)} {x : S109} (h : x ∈ l) : x.f0.length ≤ szCells l := by
  induction l with
  | nil => cases h
  | cons y l ih =>
    rw [szCells_cons]
    rcases List.mem_cons.1 h with rfl | h
    · omega
    · have := ih h; omega
theorem rdCellA {l : List (S109)} {i : Nat} (h : i < l.length) : rd_T109 l (i : Int) = l[i] := by
  unfold rd_T109
  rw [Int.toNat_natCast, List.getD_eq_getElem?_getD, List.getElem?_eq_getElem h]
  rfl
theorem laws_szCellS.loop (l : List (S109)) (hl : l.length ≤ 1048576) (hL : ∀ x ∈ l, x.f0.length ≤ 9223372036854775807) (d : Nat) : ∀ (k i : Nat) (a : Int), 0 ≤ a → a ≤ 1048576 → i ≤ l.length → l.length - i = d → d < k → laws_szCellS.l0 k l a (i : Int) = some (if a < (szCells (l.drop i) : Int) then -1 else a - (szCells (l.drop i) : Int)) := by
  induction d with
  | zero =>
    intro k i a h0 h1 hi hd hk
    obtain ⟨k, rfl⟩ : ∃ m, k = m + 1 := ⟨k - 1, by omega⟩
    simp only [laws_szCellS.l0]
    rw [if_neg (by omega), List.drop_eq_nil_of_le (by omega), szCells_nil, if_neg (by omega)]
    simp
  | succ d ih =>
    intro k i a h0 h1 hi hd hk
    obtain ⟨k, rfl⟩ : ∃ m, k = m + 1 := ⟨k - 1, by omega⟩
    have hlt : i < l.length := by omega
    have hx := hL l[i] (List.getElem_mem hlt)
    simp only [laws_szCellS.l0]
    rw [if_pos (int_lt hlt), if_pos (int_nn i), rdCellA hlt, laws_szCell.eq h0 h1 hx]
    simp only [Option.bind_some]
    rw [List.drop_eq_getElem_cons hlt, szCells_cons]
    by_cases h : a < (l[i].f0.length : Int)
    · rw [if_pos h, if_pos (by omega), if_pos (by omega)]
    · rw [if_neg h, if_neg (by omega), wrap_succ (by omega), ih k (i + 1) _ (by omega) (by omega) (by omega) (by omega) (by omega)]
      by_cases h2 : a - (l[i].f0.length : Int) < (szCells (l.drop (i + 1)) : Int)
      · rw [if_pos h2, if_pos (by omega)]
      · rw [if_neg h2, if_neg (by omega)]
        refine congrArg some ?_
        omega
theorem laws_szCellS.eq {l : List (S109)} {a : Int} {k : Nat} (h0 : 0 ≤ a) (h1 : a ≤ 1048576) (hl : l.length ≤ 9223372036854775807) (hL : ∀ x ∈ l, x.f0.length ≤ 9223372036854775807) (hk : 1048577 < k) : laws_szCellS.f k l a = some (if a < ((l.length + szCells l : Nat) : Int) then -1 else a - ((l.length + szCells l : Nat) : Int)) := by
  unfold laws_szCellS.f
  rw [wrap_in (by omega) (by omega)]
  by_cases h : a < (l.length : Int)
  · rw [if_pos (by omega), if_pos (by omega)]
  · rw [if_neg (by omega)]
    have := laws_szCellS.loop l (by omega) hL l.length k 0 (a - (l.length : Int)) (by omega) (by omega) (by omega) (by omega) (by omega)
    rw [List.drop_zero] at this
    refine (show _ = _ from this).trans ?_
    by_cases h2 : a - (l.length : Int) < (szCells l : Int)
    · rw [if_pos h2, if_pos (by omega)]
    · rw [if_neg h2, if_neg (by omega)]
      refine congrArg some ?_
      omega
theorem laws_toCellS.loop (l : List (S109)) (hl : l.length ≤ 1048576) (hL : ∀ x ∈ l, x.f0.length ≤ 1048576) (d : Nat) : ∀ (k i : Nat), i ≤ l.length → l.length - i = d → d + 1048577 < k → laws_toCellS.l0 k l ((l.take i).map cvCell ++ List.replicate (l.length - i) z79) (i : Int) = some (l.map cvCell) := by
  induction d with
  | zero =>
    intro k i hi hd hk
    obtain ⟨k, rfl⟩ : ∃ m, k = m + 1 := ⟨k - 1, by omega⟩
    obtain rfl : i = l.length := by omega
    simp only [laws_toCellS.l0]
    rw [if_neg (by omega)]
    simp
  | succ d ih =>
    intro k i hi hd hk
    obtain ⟨k, rfl⟩ : ∃ m, k = m + 1 := ⟨k - 1, by omega⟩
    have hlt : i < l.length := by omega
    have h1 := hL l[i] (List.getElem_mem hlt)
    simp only [laws_toCellS.l0]
    rw [if_pos (int_lt hlt), if_pos (int_nn i), rdCellA hlt, laws_toCell.eq h1 (by omega)]
    simp only [Option.bind_some]
    rw [if_pos (by simp; omega), wrap_succ (by omega), Int.toNat_natCast]
    have hs : ((l.take i).map cvCell ++ List.replicate (l.length - i) z79).set i (cvCell l[i]) = (l.take (i + 1)).map cvCell ++ List.replicate (l.length - (i + 1)) z79 := by
      have h1 : ((l.take i).map cvCell).length = i := by simp; omega
      rw [List.set_append_right _ _ (by omega), h1, Nat.sub_self, show l.length - i = (l.length - (i + 1)) + 1 by omega, List.replicate_succ, List.set_cons_zero, List.take_succ_eq_append_getElem hlt, List.map_append, List.append_assoc]
      rfl
    refine (congrArg (fun z => laws_toCellS.l0 k l z ((i + 1 : Nat) : Int)) hs).trans ?_
    exact ih k (i + 1) (by omega) (by omega) (by omega)
theorem laws_toCellS.eq {l : List (S109)} {k : Nat} (h : l.length + szCells l ≤ 1048576) (hk : 3000000 < k) : laws_toCellS.f k l = some (l.map cvCell) := by
  unfold laws_toCellS.f
  rw [if_pos (by omega), if_pos (by omega), Int.toNat_natCast]
  have := laws_toCellS.loop l (by omega) (fun x hx => by have := szCells_mem hx; omega) l.length k 0 (by omega) (by omega) (by omega)
  simpa using this
theorem cvCell_ok {l : List (S109)} (h : l.length + szCells l ≤ 1048576) : ∀ x ∈ l.map cvCell, x.f0.length ≤ 1048576 := by
  intro x hx
  obtain ⟨y, hy, rfl⟩ := List.mem_map.1 hx
  have := szCells_mem hy
  show y.f0.length ≤ _
  omega
theorem laws_eqGrid.eq {l l' : List S79} {a b r c a' b' r' c' : Int} {h h' : Bool} {t t' : Int} {k : Nat} (hl : l.length ≤ 1048576) (hL : ∀ x ∈ l, x.f0.length ≤ 1048576) (hk : 3000000 < k) : laws_eqGrid.f k a b l r c h t a' b' l' r' c' h' t' = some (decide (a = a' ∧ b = b' ∧ l = l' ∧ r = r' ∧ c = c' ∧ h = h' ∧ t = t')) := by
  unfold laws_eqGrid.f
  rw [laws_eqCellS.eq hl hL hk]
  simp only [Option.bind_some, decide_eq_true_eq]
  by_cases e1 : a = a'
  · by_cases e2 : b = b'
    · by_cases e3 : l = l'
      · by_cases e4 : r = r'
        · by_cases e5 : c = c'
          · by_cases e6 : h = h'
            · by_cases e7 : t = t'
              · simp [e1, e2, e3, e4, e5, e6, e7]
              · simp [e1, e2, e3, e4, e5, e6, e7]
            · simp [e1, e2, e3, e4, e5, e6]
          · simp [e1, e2, e3, e4, e5]
        · simp [e1, e2, e3, e4]
      · simp [e1, e2, e3]
    · simp [e1, e2]
  · simp [e1]
theorem laws_szGrid.eq {l : List S109} {a b r c : Int} {h : Bool} {t n : Int} {k : Nat} (h0 : 0 ≤ n) (h1 : n ≤ 1048576) (hl : l.length ≤ 9223372036854775807) (hL : ∀ x ∈ l, x.f0.length ≤ 9223372036854775807) (hk : 1048577 < k) : laws_szGrid.f k a b l r c h t n = some (if n < ((l.length + szCells l : Nat) : Int) then -1 else n - ((l.length + szCells l : Nat) : Int)) := by
  unfold laws_szGrid.f
  rw [laws_szCellS.eq h0 h1 hl hL hk]
  simp only [Option.bind_some]
  by_cases h : n < ((l.length + szCells l : Nat) : Int)
  · rw [if_pos h, if_pos (by omega)]
  · rw [if_neg h, if_neg (by omega)]
theorem laws_toGrid.eq {l : List S109} {a b r c : Int} {h : Bool} {t : Int} {k : Nat} (hl : l.length + szCells l ≤ 1048576) (hk : 3000000 < k) : laws_toGrid.f k a b l r c h t = some (a, b, l.map cvCell, r, c, h, t) := by
  unfold laws_toGrid.f
  rw [laws_toCellS.eq hl hk]
  rfl
theorem spec_l01Point.eq (a : Int) : spec_l01Point.f a = some (isPt a) := by
  simp only [spec_l01Point.f, isPt]
  (repeat' split) <;> (refine some_b ?_; simp only [Bool.not_eq_true', Bool.not_false, decide_eq_true_eq, decide_eq_false_iff_not, Bool.false_eq_true]; first | omega | (rw [false_iff]; omega) | (rw [true_iff]; omega))
set_option maxHeartbeats 4000000 in
theorem spec_WidthOf.eq (a : Int) {k : Nat} (hk : 0 < k) : spec_WidthOf.f k a = some (wid a) := by
  obtain ⟨k, rfl⟩ : ∃ m, k = m + 1 := ⟨k - 1, by omega⟩
  have hj : ∀ b : Bool, spec_WidthOf.j0 (k + 1) a b = some (if b = true then 0 else if isCtl a = true ∨ isWide2 a = true then 2 else 1) := by
    intro b
    cases b
    · simp only [spec_WidthOf.j0, isCtl, isWide2, decide_eq_true_eq, Bool.false_eq_true, if_false]
      rcases (by omega : a < 32 ∨ (32 ≤ a ∧ a < 127) ∨ a = 127 ∨ (127 < a ∧ a < 4352) ∨ (4352 ≤ a ∧ a ≤ 4447) ∨ (4447 < a ∧ a < 11904) ∨ (11904 ≤ a ∧ a ≤ 42191) ∨ (42191 < a ∧ a < 44032) ∨ (44032 ≤ a ∧ a ≤ 55203) ∨ (55203 < a ∧ a < 63744) ∨ (63744 ≤ a ∧ a ≤ 64255) ∨ (64255 < a ∧ a < 65281) ∨ (65281 ≤ a ∧ a ≤ 65376) ∨ (65376 < a ∧ a < 127744) ∨ (127744 ≤ a ∧ a ≤ 129791) ∨ 129791 < a) with h | h | h | h | h | h | h | h | h | h | h | h | h | h | h | h <;> simp (disch := omega) only [if_pos, if_neg]
    · rfl
  unfold spec_WidthOf.f wid
  rw [spec_l01Point.eq]
  simp only [Option.bind_some, hj]
  by_cases h1 : isPt a = true
  · by_cases h2 : 768 ≤ a
    · by_cases h3 : a ≤ 879
      · simp [h1, h2, h3]
      · simp [h1, h2, h3]
    · simp [h1, h2]
  · simp [h1]
theorem impl_within.eq (a b c : Int) : impl_within.f a b c = some (decide (b ≤ a ∧ a ≤ c)) := by
  unfold impl_within.f
  by_cases h : b ≤ a <;> simp [h]
theorem impl_isPoint.eq (a : Int) : impl_isPoint.f a = some (isPt a) := by
  simp only [impl_isPoint.f, impl_within.eq, Option.bind_some, isPt, decide_eq_true_eq]
  split <;> (refine some_b ?_; simp only [Bool.not_eq_true', decide_eq_true_eq, decide_eq_false_iff_not, Bool.false_eq_true]; first | omega | (rw [false_iff]; omega))
theorem impl_isControl.eq (a : Int) : impl_isControl.f a = some (isCtl a) := by
  unfold impl_isControl.f isCtl
  by_cases h : a < 32
  · simp [h]
  · by_cases h2 : a = 127 <;> simp [h, h2]
def widTab : List S137 := [(⟨4352, 4447⟩ : S137), (⟨11904, 42191⟩ : S137), (⟨44032, 55203⟩ : S137), (⟨63744, 64255⟩ : S137), (⟨65281, 65376⟩ : S137), (⟨127744, 129791⟩ : S137)]
theorem impl_WidthOf.step (k : Nat) (a : Int) (i : Nat) (hi : i < 6) : impl_WidthOf.l0 (k + 1) a widTab 6 (i : Int) = if (rd_T137 widTab (i : Int)).f0 ≤ a ∧ a ≤ (rd_T137 widTab (i : Int)).f1 then some 2 else impl_WidthOf.l0 k a widTab 6 ((i + 1 : Nat) : Int) := by
  rw [impl_WidthOf.l0, if_pos (by omega), if_pos (by omega), if_pos (show (i : Int) < (widTab.length : Int) by show (i : Int) < ((6 : Nat) : Int); omega), impl_within.eq, wrap_succ (by omega)]
  simp only [Option.bind_some, decide_eq_true_eq]
theorem impl_WidthOf.loop (k : Nat) (a : Int) : impl_WidthOf.l0 (k + 7) a widTab 6 0 = some (if isWide2 a = true then 2 else 1) := by
  have e0 := impl_WidthOf.step (k + 6) a 0 (by decide)
  have e1 := impl_WidthOf.step (k + 5) a 1 (by decide)
  have e2 := impl_WidthOf.step (k + 4) a 2 (by decide)
  have e3 := impl_WidthOf.step (k + 3) a 3 (by decide)
  have e4 := impl_WidthOf.step (k + 2) a 4 (by decide)
  have e5 := impl_WidthOf.step (k + 1) a 5 (by decide)
  have e6 : impl_WidthOf.l0 (k + 1) a widTab 6 ((5 + 1 : Nat) : Int) = some 1 := by
    rw [impl_WidthOf.l0, if_neg (by decide)]
  rw [e6] at e5; rw [e5] at e4; rw [e4] at e3; rw [e3] at e2; rw [e2] at e1; rw [e1] at e0
  refine (show impl_WidthOf.l0 (k + 7) a widTab 6 0 = _ from e0).trans ?_
  show (if (4352 : Int) ≤ a ∧ a ≤ 4447 then some (2 : Int) else if (11904 : Int) ≤ a ∧ a ≤ 42191 then some 2 else if (44032 : Int) ≤ a ∧ a ≤ 55203 then some 2 else if (63744 : Int) ≤ a ∧ a ≤ 64255 then some 2 else if (65281 : Int) ≤ a ∧ a ≤ 65376 then some 2 else if (127744 : Int) ≤ a ∧ a ≤ 129791 then some 2 else some 1) = _
  unfold isWide2
  simp only [decide_eq_true_eq]
  (repeat' split) <;> first | rfl | omega
theorem impl_WidthOf.eq (a : Int) {k : Nat} (hk : 8 < k) : impl_WidthOf.f k a = some (wid a) := by
  obtain ⟨k, rfl⟩ : ∃ m, k = m + 8 := ⟨k - 8, by omega⟩
  have hj : ∀ b : Bool, impl_WidthOf.j0 (k + 8) a b = some (if b = true then 0 else if isCtl a = true ∨ isWide2 a = true then 2 else 1) := by
    intro b
    cases b
    · rw [impl_WidthOf.j0, if_neg (by decide), impl_isControl.eq]
      simp only [Option.bind_some, Bool.false_eq_true, if_false]
      have hl := impl_WidthOf.loop k a
      cases isCtl a
      · rw [if_neg (by decide)]
        refine Eq.trans (show _ = impl_WidthOf.l0 (k + 7) a widTab 6 0 from rfl) ?_
        rw [hl]
        simp
      · rfl
    · rw [impl_WidthOf.j0]
      rfl
  unfold impl_WidthOf.f wid
  rw [impl_isPoint.eq]
  simp only [Option.bind_some, impl_within.eq, hj, decide_eq_true_eq]
  by_cases h1 : isPt a = true
  · by_cases h2 : 768 ≤ a ∧ a ≤ 879
    · simp [h1, h2]
    · simp [h1, h2]
  · simp [h1]
def okP (z : Bool) (p : Int) : Bool := isPt p && (!isCtl p && (z == decide (wid p > 0)))
def okL : Bool → List Int → Bool
  | _, [] => true
  | z, p :: l => okP z p && okL false l
def atr (x : List Int) (t : Int) : Bool := decide (x.length ≤ 4 ∧ 0 ≤ t ∧ t ≤ 3)
def wideB (x : List Int) : Bool := if (x.length : Int) > 0 then wid (rd x 0) == 2 else false
theorem wid_ge (a : Int) : 0 ≤ wid a := by
  unfold wid
  split
  · split <;> decide
  · decide
theorem wid_z (a : Int) : (wid a == 0) = !decide (wid a > 0) := by
  have := wid_ge a
  by_cases h : wid a = 0
  · rw [h]; rfl
  · rw [decide_eq_true (show wid a > 0 by omega)]
    simp [h]
theorem int_z (i : Nat) : ((i : Int) == 0) = decide (i = 0) := by
  cases i with
  | zero => rfl
  | succ n => rw [decide_eq_false (by omega)]; refine beq_eq_false_iff_ne.2 ?_; omega
theorem spec_l08Cell.loop (x : List Int) (t : Int) (hl : x.length ≤ 1048576) (d : Nat) : ∀ (k i : Nat), i ≤ x.length → x.length - i = d → d + 10 < k → spec_l08Cell.l0 k (i : Int) x t = some (okL (decide (i = 0)) (x.drop i)) := by
  induction d with
  | zero =>
    intro k i hi hd hk
    obtain ⟨k, rfl⟩ : ∃ m, k = m + 1 := ⟨k - 1, by omega⟩
    rw [spec_l08Cell.l0, if_neg (by omega), List.drop_eq_nil_of_le (by omega), okL]
  | succ d ih =>
    intro k i hi hd hk
    obtain ⟨k, rfl⟩ : ∃ m, k = m + 1 := ⟨k - 1, by omega⟩
    have hlt : i < x.length := by omega
    rw [spec_l08Cell.l0, if_pos (int_lt hlt), if_pos (int_nn i), spec_l01Point.eq, drop_rd hlt, okL, okP]
    simp only [Option.bind_some]
    by_cases h1 : isPt (rd x (i : Int)) = true
    · rw [if_pos h1, h1, spec_WidthOf.eq _ (by omega)]
      simp only [Option.bind_some]
      rw [int_z, wid_z, wrap_succ (by omega), ih k (i + 1) (by omega) (by omega) (by omega), decide_eq_false (show ¬ i + 1 = 0 by omega)]
      have hc : isCtl (rd x (i : Int)) = decide (rd x (i : Int) < 32 ∨ rd x (i : Int) = 127) := rfl
      cases decide (i = 0) <;> cases decide (wid (rd x (i : Int)) > 0)
      · rw [if_neg (by decide)]
        by_cases h2 : rd x (i : Int) < 32
        · rw [if_pos h2, hc, decide_eq_true (Or.inl h2)]; rfl
        · rw [if_neg h2]
          by_cases h3 : rd x (i : Int) = 127
          · rw [if_pos h3, hc, decide_eq_true (Or.inr h3)]; rfl
          · rw [if_neg h3, hc, decide_eq_false (by omega)]; rfl
      · rw [if_pos (by decide)]
        cases isCtl (rd x (i : Int)) <;> rfl
      · rw [if_pos (by decide)]
        cases isCtl (rd x (i : Int)) <;> rfl
      · rw [if_neg (by decide)]
        by_cases h2 : rd x (i : Int) < 32
        · rw [if_pos h2, hc, decide_eq_true (Or.inl h2)]; rfl
        · rw [if_neg h2]
          by_cases h3 : rd x (i : Int) = 127
          · rw [if_pos h3, hc, decide_eq_true (Or.inr h3)]; rfl
          · rw [if_neg h3, hc, decide_eq_false (by omega)]; rfl
    · rw [if_neg h1]
      rw [Bool.not_eq_true] at h1
      rw [h1]; rfl
theorem spec_l08Cell.eq (x : List Int) (t : Int) {k : Nat} (hl : x.length ≤ 1048576) (hk : x.length + 20 < k) : spec_l08Cell.f k x t = some (okL true x && atr x t) := by
  obtain ⟨k, rfl⟩ : ∃ m, k = m + 1 := ⟨k - 1, by omega⟩
  unfold spec_l08Cell.f atr
  by_cases h1 : (x.length : Int) > 4
  · rw [if_pos h1, spec_l08Cell.j0, if_pos rfl, decide_eq_false (by omega), Bool.and_false]
  · rw [if_neg h1]
    by_cases h2 : t < 0
    · rw [if_pos h2, spec_l08Cell.j0, if_pos rfl, decide_eq_false (by omega), Bool.and_false]
    · rw [if_neg h2, spec_l08Cell.j0]
      by_cases h3 : t > 3
      · rw [if_pos (decide_eq_true h3), decide_eq_false (by omega), Bool.and_false]
      · have := spec_l08Cell.loop x t hl x.length k 0 (by omega) (by omega) (by omega)
        rw [if_neg (by rw [decide_eq_true_eq]; exact h3), show spec_l08Cell.l0 k 0 x t = _ from this, decide_eq_true (show x.length ≤ 4 ∧ 0 ≤ t ∧ t ≤ 3 by omega), Bool.and_true]
        rfl
theorem impl_cellRight.loop (x : List Int) (t : Int) (hl : x.length ≤ 1048576) (d : Nat) : ∀ (k i : Nat), i ≤ x.length → x.length - i = d → d + 10 < k → impl_cellRight.l0 k x (x.length : Int) (i : Int) x t = some (okL (decide (i = 0)) (x.drop i) && atr x t) := by
  induction d with
  | zero =>
    intro k i hi hd hk
    obtain ⟨k, rfl⟩ : ∃ m, k = m + 1 := ⟨k - 1, by omega⟩
    rw [impl_cellRight.l0, if_neg (by omega), List.drop_eq_nil_of_le (by omega), okL, Bool.true_and, atr]
    by_cases h : (x.length : Int) ≤ 4
    · rw [if_pos h, impl_within.eq]
      refine congrArg some (decide_eq_decide.2 ⟨fun e => ⟨by omega, e⟩, fun e => e.2⟩)
    · rw [if_neg h, decide_eq_false (by omega)]
  | succ d ih =>
    intro k i hi hd hk
    obtain ⟨k, rfl⟩ : ∃ m, k = m + 1 := ⟨k - 1, by omega⟩
    have hlt : i < x.length := by omega
    rw [impl_cellRight.l0, if_pos (int_lt hlt), if_pos (int_nn i), if_pos (int_lt hlt), impl_isPoint.eq, drop_rd hlt, okL, okP]
    simp only [Option.bind_some]
    by_cases h1 : isPt (rd x (i : Int)) = true
    · rw [if_pos h1, h1, impl_isControl.eq]
      simp only [Option.bind_some]
      by_cases h2 : isCtl (rd x (i : Int)) = true
      · rw [if_pos h2, h2]; rfl
      · rw [if_neg h2, impl_WidthOf.eq _ (by omega)]
        rw [Bool.not_eq_true] at h2
        simp only [Option.bind_some]
        rw [h2, int_z, wrap_succ (by omega), ih k (i + 1) (by omega) (by omega) (by omega), decide_eq_false (show ¬ i + 1 = 0 by omega)]
        cases decide (i = 0) <;> cases decide (wid (rd x (i : Int)) > 0) <;> rfl
    · rw [if_neg h1]
      rw [Bool.not_eq_true] at h1
      rw [h1]; rfl
theorem impl_cellRight.eq (x : List Int) (t : Int) {k : Nat} (hl : x.length ≤ 1048576) (hk : x.length + 20 < k) : impl_cellRight.f k x t = some (okL true x && atr x t) := by
  unfold impl_cellRight.f
  have := impl_cellRight.loop x t hl x.length k 0 (by omega) (by omega) (by omega)
  exact this
theorem spec_l08Wide.eq (x : List Int) (t : Int) {k : Nat} (hk : 0 < k) : spec_l08Wide.f k x t = some (wideB x) := by
  unfold spec_l08Wide.f wideB
  by_cases h : (x.length : Int) > 0
  · rw [if_pos h, if_pos h, if_pos h, spec_WidthOf.eq _ hk]; rfl
  · rw [if_neg h, if_neg h]
theorem impl_Cell_isWide.eq (x : List Int) (t : Int) {k : Nat} (hk : 8 < k) : impl_Cell_isWide.f k x t = some (wideB x) := by
  unfold impl_Cell_isWide.f wideB
  by_cases h : (x.length : Int) > 0
  · rw [if_pos h, if_pos h, if_pos h, impl_WidthOf.eq _ hk]; rfl
  · rw [if_neg h, if_neg h]
theorem mod_last {i c : Nat} (hc : 2 ≤ c) : i % c = c - 1 ↔ (i + 1) % c = 0 := by
  have h := Nat.mod_lt i (show 0 < c by omega)
  rw [Nat.add_mod, Nat.mod_eq_of_lt (show 1 < c by omega)]
  by_cases e : i % c = c - 1
  · rw [e, show c - 1 + 1 = c by omega, Nat.mod_self]
    exact ⟨fun _ => rfl, fun _ => rfl⟩
  · rw [Nat.mod_eq_of_lt (show i % c + 1 < c by omega)]
    exact ⟨fun z => absurd z e, fun z => by omega⟩
theorem GridRight.loop (a : Int) (c : Nat) (l : List S79) (r q : Int) (h : Bool) (t : Int) (n : Nat) (hc : 2 ≤ c) (hc2 : c ≤ 80) (hn : l.length = n * c) (hl : l.length ≤ 1048576) (hL : ∀ x ∈ l, x.f0.length ≤ 1048576) (d : Nat) : ∀ (k i : Nat), i ≤ l.length → l.length - i = d → d + 1048600 < k → ∃ b, spec_GridRight.l0 k (i : Int) a (c : Int) l r q h t = some b ∧ impl_GridRight.l0 k l (l.length : Int) (i : Int) a (c : Int) l r q h t = some b := by
  induction d with
  | zero =>
    intro k i hi hd hk
    obtain ⟨k, rfl⟩ : ∃ m, k = m + 1 := ⟨k - 1, by omega⟩
    refine ⟨true, ?_, ?_⟩
    · rw [spec_GridRight.l0, if_neg (by omega)]
    · rw [impl_GridRight.l0, if_neg (by omega)]
  | succ d ih =>
    intro k i hi hd hk
    obtain ⟨k, rfl⟩ : ∃ m, k = m + 1 := ⟨k - 1, by omega⟩
    have hlt : i < l.length := by omega
    have hx := hL l[i] (List.getElem_mem hlt)
    obtain ⟨b, hb1, hb2⟩ := ih k (i + 1) (by omega) (by omega) (by omega)
    rw [spec_GridRight.l0, impl_GridRight.l0, if_pos (int_lt hlt), if_pos (int_nn i), if_pos (int_lt hlt), if_pos (int_nn i), if_pos (int_lt hlt), rdCellB hlt, spec_l08Cell.eq _ _ hx (by omega), impl_cellRight.eq _ _ hx (by omega)]
    simp only [Option.bind_some]
    by_cases g1 : (okL true l[i].f0 && atr l[i].f0 l[i].f1) = true
    · rw [if_pos g1, if_pos g1, spec_l08Wide.eq _ _ (by omega), impl_Cell_isWide.eq _ _ (by omega)]
      simp only [Option.bind_some]
      rw [wrap_succ (by omega)]
      by_cases g2 : wideB l[i].f0 = true
      · have hz : ¬ ((c : Nat) : Int) = 0 := by omega
        rw [if_pos g2, if_pos g2, if_neg hz, if_neg hz, wrap_in (x := (c : Int) - 1) (by omega) (by omega), ← Int.ofNat_tmod, ← Int.ofNat_tmod]
        have hm := mod_last (i := i) hc
        by_cases g3 : i % c = c - 1
        · rw [if_pos (show ((i % c : Nat) : Int) = (c : Int) - 1 by omega), if_pos (show (((i + 1) % c : Nat) : Int) = 0 by have := hm.1 g3; omega)]
          exact ⟨false, rfl, rfl⟩
        · have g4 : ¬ (i + 1) % c = 0 := fun e => g3 (hm.2 e)
          have hlt2 : i + 1 < l.length := by
            rcases Nat.lt_or_ge (i + 1) l.length with e | e
            · exact e
            · refine absurd ?_ g4
              rw [show i + 1 = l.length by omega, hn, Nat.mul_mod_left]
          rw [if_neg (show ¬ ((i % c : Nat) : Int) = (c : Int) - 1 by omega), if_neg (show ¬ (((i + 1) % c : Nat) : Int) = 0 by omega), if_pos (int_nn (i + 1)), if_pos (int_lt hlt2), if_pos (int_nn (i + 1)), if_pos (int_lt hlt2), rdCellB hlt2, impl_Cell_isEmpty.f]
          simp only [Option.bind_some]
          by_cases g5 : ((l[i + 1].f0).length : Int) > 0
          · rw [if_pos g5, if_neg (by rw [beq_iff_eq]; omega)]
            exact ⟨false, rfl, rfl⟩
          · rw [if_neg g5, if_pos (show (((l[i + 1].f0).length : Int) == 0) = true by rw [beq_iff_eq]; omega)]
            by_cases g6 : l[i + 1].f1 = l[i].f1
            · rw [if_pos g6, if_pos g6]
              exact ⟨b, hb1, hb2⟩
            · rw [if_neg g6, if_neg g6]
              exact ⟨false, rfl, rfl⟩
      · rw [if_neg g2, if_neg g2]
        exact ⟨b, hb1, hb2⟩
    · rw [if_neg g1, if_neg g1]
      exact ⟨false, rfl, rfl⟩
theorem spec_l08Size.eq (a c : Int) : spec_l08Size.f a c = some (decide (1 ≤ a ∧ a ≤ 24) && decide (2 ≤ c ∧ c ≤ 80)) := by
  unfold spec_l08Size.f
  by_cases h1 : a ≥ 1
  · by_cases h2 : a ≤ 24
    · rw [if_pos h1, if_pos h2, decide_eq_true (show 1 ≤ a ∧ a ≤ 24 by omega), Bool.true_and]
      by_cases h3 : c ≥ 2
      · rw [if_pos h3]
        refine congrArg some (decide_eq_decide.2 ⟨fun e => ⟨h3, e⟩, fun e => e.2⟩)
      · rw [if_neg h3, decide_eq_false (by omega)]
    · rw [if_pos h1, if_neg h2, decide_eq_false (show ¬ (1 ≤ a ∧ a ≤ 24) by omega), Bool.false_and]
  · rw [if_neg h1, decide_eq_false (show ¬ (1 ≤ a ∧ a ≤ 24) by omega), Bool.false_and]
theorem GridRight.j_t {k : Nat} {a c : Int} {l : List S79} {r q : Int} {h : Bool} {t : Int} : spec_GridRight.j0 (k + 1) true a c l r q h t = some false ∧ impl_GridRight.j0 (k + 1) true a c l r q h t = some false := by
  rw [spec_GridRight.j0, impl_GridRight.j0]
  exact ⟨rfl, rfl⟩
theorem GridRight.eq (a c : Int) (l : List S79) (r q : Int) (h : Bool) (t : Int) {k : Nat} (hl : l.length ≤ 1048576) (hL : ∀ x ∈ l, x.f0.length ≤ 1048576) (hk : 3000000 < k) : ∃ b, spec_GridRight.f k a c l r q h t = some b ∧ impl_GridRight.f k a c l r q h t = some b := by
  obtain ⟨k, rfl⟩ : ∃ m, k = m + 1 := ⟨k - 1, by omega⟩
  unfold spec_GridRight.f impl_GridRight.f impl_isRows.f impl_isCols.f impl_size_impl_Cell.f
  simp only [spec_l08Size.eq, impl_within.eq, Option.bind_some]
  by_cases e1 : 1 ≤ a ∧ a ≤ 24
  · rw [decide_eq_true e1, Bool.true_and, if_pos rfl]
    by_cases e2 : 2 ≤ c ∧ c ≤ 80
    · rw [decide_eq_true e2, if_pos rfl, if_pos rfl]
      obtain ⟨n, rfl⟩ : ∃ n : Nat, a = (n : Int) := ⟨a.toNat, by omega⟩
      obtain ⟨m, rfl⟩ : ∃ m : Nat, c = (m : Int) := ⟨c.toNat, by omega⟩
      have hp : n * m ≤ 24 * 80 := Nat.mul_le_mul (by omega) (by omega)
      have hw : wrap64 ((n : Int) * (m : Int)) = ((n * m : Nat) : Int) := by rw [← Int.natCast_mul]; exact wrap_in (by omega) (by omega)
      rw [hw, wrap_in (x := (n : Int) - 1) (by omega) (by omega), wrap_in (x := (m : Int) - 1) (by omega) (by omega)]
      by_cases e3 : l.length = n * m
      · have z : (l.length : Int) = ((n * m : Nat) : Int) := by omega
        rw [if_pos z, if_pos z]
        have hj : ∃ b, spec_GridRight.j0 (k + 1) false n m l r q h t = some b ∧ impl_GridRight.j0 (k + 1) false n m l r q h t = some b := by
          rw [spec_GridRight.j0, impl_GridRight.j0]
          exact GridRight.loop n m l r q h t n (by omega) (by omega) e3 hl hL l.length k 0 (by omega) (by omega) (by omega)
        by_cases e4 : 0 ≤ r ∧ r ≤ (n : Int) - 1
        · rw [if_neg (show ¬ r < 0 by omega), if_neg (show ¬ r ≥ (n : Int) by omega), decide_eq_true e4, if_pos rfl]
          by_cases e5 : 0 ≤ q ∧ q ≤ (m : Int) - 1
          · rw [if_neg (show ¬ q < 0 by omega), if_neg (show ¬ q ≥ (m : Int) by omega), decide_eq_true e5, if_pos rfl]
            have ht : ∃ b, (if t < 0 then spec_GridRight.j0 (k + 1) true n m l r q h t else spec_GridRight.j0 (k + 1) (decide (t > 3)) n m l r q h t) = some b ∧ impl_GridRight.j0 (k + 1) (!decide (0 ≤ t ∧ t ≤ 3)) n m l r q h t = some b := by
              by_cases f1 : t < 0
              · rw [if_pos f1, decide_eq_false (show ¬ (0 ≤ t ∧ t ≤ 3) by omega)]
                exact ⟨false, GridRight.j_t⟩
              · rw [if_neg f1]
                by_cases f2 : t > 3
                · rw [decide_eq_true f2, decide_eq_false (show ¬ (0 ≤ t ∧ t ≤ 3) by omega)]
                  exact ⟨false, GridRight.j_t⟩
                · rw [decide_eq_false f2, decide_eq_true (show 0 ≤ t ∧ t ≤ 3 by omega)]
                  exact hj
            cases h
            · rw [if_neg (show ¬ false = true by decide), if_neg (show ¬ false = true by decide)]
              exact ht
            · rw [if_pos rfl, if_pos rfl]
              by_cases e6 : q = (m : Int) - 1
              · rw [if_pos e6, if_pos e6]
                exact ht
              · rw [if_neg e6, if_neg e6]
                exact ⟨false, GridRight.j_t⟩
          · rw [decide_eq_false e5, if_neg (show ¬ false = true by decide), GridRight.j_t.2]
            refine ⟨false, ?_, rfl⟩
            by_cases f1 : q < 0
            · rw [if_pos f1, GridRight.j_t.1]
            · rw [if_neg f1, if_pos (by omega), GridRight.j_t.1]
        · rw [decide_eq_false e4, if_neg (show ¬ false = true by decide), GridRight.j_t.2]
          refine ⟨false, ?_, rfl⟩
          by_cases f1 : r < 0
          · rw [if_pos f1, GridRight.j_t.1]
          · rw [if_neg f1, if_pos (by omega), GridRight.j_t.1]
      · have z : ¬ (l.length : Int) = ((n * m : Nat) : Int) := by omega
        rw [if_neg z, if_neg z]
        exact ⟨false, GridRight.j_t⟩
    · rw [decide_eq_false e2, if_neg (show ¬ false = true by decide), if_neg (show ¬ false = true by decide)]
      exact ⟨false, GridRight.j_t⟩
  · rw [decide_eq_false e1, Bool.false_and, if_neg (show ¬ false = true by decide), if_neg (show ¬ false = true by decide)]
    exact ⟨false, GridRight.j_t⟩
theorem GridRight.size {a c : Int} {l : List S79} {r q : Int} {h : Bool} {t : Int} {k : Nat} (hl : l.length ≤ 1048576) (e : spec_GridRight.f k a c l r q h t = some true) : ∃ n m : Nat, a = (n : Int) ∧ c = (m : Int) ∧ 1 ≤ n ∧ n ≤ 24 ∧ 2 ≤ m ∧ m ≤ 80 ∧ l.length = n * m := by
  have hj : ∀ k, ¬ spec_GridRight.j0 k true a c l r q h t = some true := by
    intro k e
    cases k with
    | zero => rw [spec_GridRight.j0] at e; cases e
    | succ k => rw [spec_GridRight.j0, if_pos rfl] at e; cases e
  unfold spec_GridRight.f at e
  rw [spec_l08Size.eq] at e
  simp only [Option.bind_some] at e
  by_cases e1 : 1 ≤ a ∧ a ≤ 24
  · by_cases e2 : 2 ≤ c ∧ c ≤ 80
    · rw [decide_eq_true e1, decide_eq_true e2, if_pos (show (true && true) = true from rfl)] at e
      obtain ⟨n, rfl⟩ : ∃ n : Nat, a = (n : Int) := ⟨a.toNat, by omega⟩
      obtain ⟨m, rfl⟩ : ∃ m : Nat, c = (m : Int) := ⟨c.toNat, by omega⟩
      have hp : n * m ≤ 24 * 80 := Nat.mul_le_mul (by omega) (by omega)
      have hw : wrap64 ((n : Int) * (m : Int)) = ((n * m : Nat) : Int) := by rw [← Int.natCast_mul]; exact wrap_in (by omega) (by omega)
      rw [hw] at e
      by_cases e3 : (l.length : Int) = ((n * m : Nat) : Int)
      · exact ⟨n, m, rfl, rfl, by omega, by omega, by omega, by omega, by omega⟩
      · rw [if_neg e3] at e
        exact absurd e (hj _)
    · rw [decide_eq_false e2, Bool.and_false, if_neg (show ¬ false = true by decide)] at e
      exact absurd e (hj _)
  · rw [decide_eq_false e1, Bool.false_and, if_neg (show ¬ false = true by decide)] at e
    exact absurd e (hj _)
def halfV (l : List S79) (m i : Nat) : Bool := decide (i % m > 0) && wideB (rd_T79 l ((i - 1 : Nat) : Int)).f0
theorem half.eq {a : Int} {l : List S79} {r q : Int} {h : Bool} {t : Int} {m i k : Nat} (hm : 2 ≤ m) (hi : i < l.length) (hl : l.length ≤ 1048576) (hk : 8 < k) : spec_l08Half.f k a (m : Int) l r q h t (i : Int) = some (halfV l m i) ∧ impl_Grid_isRightHalf.f k a (m : Int) l r q h t (i : Int) = some (halfV l m i) := by
  have z : ¬ (m : Int) = 0 := by omega
  unfold spec_l08Half.f impl_Grid_isRightHalf.f halfV
  rw [if_neg z, if_neg z, ← Int.ofNat_tmod]
  by_cases g : i % m > 0
  · have g1 : ((i % m : Nat) : Int) > 0 := by omega
    have hi1 : 1 ≤ i := by
      rcases Nat.eq_zero_or_pos i with e | e
      · rw [e, Nat.zero_mod] at g; omega
      · exact e
    have e1 : wrap64 ((i : Int) - 1) = ((i - 1 : Nat) : Int) := by rw [wrap_in (by omega) (by omega)]; omega
    have g2 : ((i - 1 : Nat) : Int) < (l.length : Int) := by omega
    rw [if_pos g1, if_pos g1, e1, if_pos (int_nn (i - 1)), if_pos (int_nn (i - 1)), if_pos g2, if_pos g2, spec_l08Wide.eq _ _ (by omega), impl_Cell_isWide.eq _ _ hk, decide_eq_true g, Bool.true_and]
    exact ⟨rfl, rfl⟩
  · have g1 : ¬ ((i % m : Nat) : Int) > 0 := by omega
    rw [if_neg g1, if_neg g1, decide_eq_false g, Bool.false_and]
    exact ⟨rfl, rfl⟩
/-! ### texts of points -/
def enc (a : Int) : List Int :=
  if a < 128 then [a] else if a < 2048 then [192 + a / 64, 128 + a % 64] else if a < 65536 then [224 + a / 4096, 128 + (a / 64) % 64, 128 + a % 64] else [240 + a / 262144, 128 + (a / 4096) % 64, 128 + (a / 64) % 64, 128 + a % 64]
def encL : List Int → List Int
  | [] => []
  | a :: l => enc a ++ encL l
theorem enc_len (a : Int) : (enc a).length ≤ 4 := by
  unfold enc
  (repeat' split) <;> simp
theorem isPt_in {a : Int} (h : isPt a = true) : 0 ≤ a ∧ a ≤ 1114111 ∧ ¬ (55296 ≤ a ∧ a ≤ 57343) := by
  unfold isPt at h
  exact of_decide_eq_true h
theorem spec_l01Bytes.eq {a : Int} (h : isPt a = true) : spec_l01Bytes.f a = some (enc a) := by
  obtain ⟨h0, h1, h2⟩ := isPt_in h
  unfold spec_l01Bytes.f enc
  rw [Int.tdiv_eq_ediv_of_nonneg h0, Int.tdiv_eq_ediv_of_nonneg h0, Int.tdiv_eq_ediv_of_nonneg h0, Int.tmod_eq_emod_of_nonneg h0]
  have w : ∀ x : Int, 0 ≤ x → x ≤ 2000000 → wrap64 x = x := fun x a b => wrap_in (by omega) (by omega)
  by_cases e1 : a < 128
  · rw [if_pos e1, if_pos e1]
    refine congrArg some ?_
    rw [show a % 256 = a by omega]
  rw [if_neg e1, if_neg e1]
  by_cases e2 : a < 2048
  · rw [if_pos e2, if_pos e2, w (a / 64) (by omega) (by omega), w (192 + a / 64) (by omega) (by omega), w (128 + a % 64) (by omega) (by omega)]
    rw [show (192 + a / 64) % 256 = 192 + a / 64 by omega, show (128 + a % 64) % 256 = 128 + a % 64 by omega]
  rw [if_neg e2, if_neg e2]
  have t64 : Int.tmod (a / 64) 64 = (a / 64) % 64 := Int.tmod_eq_emod_of_nonneg (by omega)
  have t4096 : Int.tmod (a / 4096) 64 = (a / 4096) % 64 := Int.tmod_eq_emod_of_nonneg (by omega)
  by_cases e3 : a < 65536
  · rw [if_pos e3, if_pos e3, w (a / 4096) (by omega) (by omega), w (a / 64) (by omega) (by omega), t64, w (224 + a / 4096) (by omega) (by omega), w (128 + a / 64 % 64) (by omega) (by omega), w (128 + a % 64) (by omega) (by omega)]
    rw [show (224 + a / 4096) % 256 = 224 + a / 4096 by omega, show (128 + a / 64 % 64) % 256 = 128 + a / 64 % 64 by omega, show (128 + a % 64) % 256 = 128 + a % 64 by omega]
  rw [if_neg e3, if_neg e3, w (a / 262144) (by omega) (by omega), w (a / 4096) (by omega) (by omega), w (a / 64) (by omega) (by omega), t64, t4096, w (240 + a / 262144) (by omega) (by omega), w (128 + a / 4096 % 64) (by omega) (by omega), w (128 + a / 64 % 64) (by omega) (by omega), w (128 + a % 64) (by omega) (by omega)]
  rw [show (240 + a / 262144) % 256 = 240 + a / 262144 by omega, show (128 + a / 4096 % 64) % 256 = 128 + a / 4096 % 64 by omega, show (128 + a / 64 % 64) % 256 = 128 + a / 64 % 64 by omega, show (128 + a % 64) % 256 = 128 + a % 64 by omega]
theorem low6 {x : Int} (h : 0 ≤ x) : Go.bits .or .u8 128 (Go.bits .and .u8 (x % 256) 63) = 128 + x % 64 := by
  rw [Go.u8_and63 (x % 256) (by omega) (by omega), show x % 256 % 64 = x % 64 by omega, Go.u8_or128 (x % 64) (by omega) (by omega)]
theorem utf8_AppendRune.eq {a : Int} {x : List Int} {k : Nat} (h : isPt a = true) (hx : x.length ≤ 1000000) (hk : 0 < k) : utf8_AppendRune.f k x (wrap32 a) = some (x ++ enc a) := by
  obtain ⟨h0, h1, h2⟩ := isPt_in h
  obtain ⟨k, rfl⟩ : ∃ m, k = m + 1 := ⟨k - 1, by omega⟩
  have hw : wrap32 a = a := by unfold wrap32; omega
  have hm : a % 4294967296 = a := by omega
  have hj : ∀ b : Bool, b = decide (a ≤ 65535) → 2048 ≤ a → utf8_appendRuneNonASCII.j0 (k + 1) x a a b = some (x ++ enc a) := by
    intro b hb h3
    rw [utf8_appendRuneNonASCII.j0, show a % 256 = a % 256 from rfl, low6 h0, low6 (show 0 ≤ a / 64 by omega), low6 (show 0 ≤ a / 4096 by omega)]
    unfold enc
    rw [if_neg (show ¬ a < 128 by omega), if_neg (show ¬ a < 2048 by omega)]
    by_cases e : a ≤ 65535
    · rw [if_pos (show b = true by rw [hb]; exact decide_eq_true e), if_pos (show a < 65536 by omega), show a / 4096 % 256 = a / 4096 by omega, Go.u8_or224 (a / 4096) (by omega) (by omega)]
      simp only [Option.bind_some, List.length_cons, List.length_nil]
      rw [if_pos (by omega)]
    · rw [if_neg (show ¬ b = true by rw [hb]; simpa using e), if_neg (show ¬ a < 65536 by omega), if_pos (show a > 65535 by omega), if_pos h1, show a / 262144 % 256 = a / 262144 by omega, Go.u8_or240 (a / 262144) (by omega) (by omega)]
      simp only [Option.bind_some, List.length_cons, List.length_nil]
      rw [if_pos (by omega)]
  unfold utf8_AppendRune.f
  rw [hw, hm]
  by_cases e1 : a ≤ 127
  · rw [if_pos e1, if_pos (by omega), show a % 256 = a by omega]
    unfold enc
    rw [if_pos (by omega)]
  · rw [if_neg e1]
    unfold utf8_appendRuneNonASCII.f
    rw [hm]
    by_cases e2 : a ≤ 2047
    · rw [if_pos e2, low6 h0, show a / 64 % 256 = a / 64 by omega, Go.u8_or192 (a / 64) (by omega) (by omega)]
      simp only [Option.bind_some, List.length_cons, List.length_nil]
      rw [if_pos (by omega)]
      unfold enc
      rw [if_neg (show ¬ a < 128 by omega), if_pos (show a < 2048 by omega)]
      rfl
    · rw [if_neg e2]
      by_cases e3 : a < 55296
      · rw [if_pos e3, hj _ (decide_eq_decide.2 (by omega)) (by omega)]
        rfl
      · rw [if_neg e3, if_pos (by omega), hj _ rfl (by omega)]
        rfl
theorem spec_l01Text.loop (l : List Int) (hl : l.length ≤ 1000) (hp : ∀ a ∈ l, isPt a = true) (d : Nat) : ∀ (k i : Nat) (acc : List Int), i ≤ l.length → l.length - i = d → acc.length ≤ 4 * i → d < k → spec_l01Text.l0 k l acc (i : Int) = some (strOfNums (acc ++ encL (l.drop i))) := by
  induction d with
  | zero =>
    intro k i acc hi hd ha hk
    obtain ⟨k, rfl⟩ : ∃ m, k = m + 1 := ⟨k - 1, by omega⟩
    simp only [spec_l01Text.l0]
    rw [if_neg (by omega), List.drop_eq_nil_of_le (by omega)]
    show _ = some (strOfNums (acc ++ []))
    rw [List.append_nil]
  | succ d ih =>
    intro k i acc hi hd ha hk
    obtain ⟨k, rfl⟩ : ∃ m, k = m + 1 := ⟨k - 1, by omega⟩
    have hlt : i < l.length := by omega
    have hr : rd l (i : Int) = l[i] := by
      rw [rd_nat, List.getD_eq_getElem?_getD, List.getElem?_eq_getElem hlt]
      rfl
    have he := enc_len l[i]
    simp only [spec_l01Text.l0]
    rw [if_pos (int_lt hlt), if_pos (int_nn i), hr, spec_l01Bytes.eq (hp _ (List.getElem_mem hlt)), wrap_succ (by omega)]
    simp only [Option.bind_some]
    rw [if_pos (by omega), ih k (i + 1) _ (by omega) (by omega) (by rw [List.length_append]; omega) (by omega), List.drop_eq_getElem_cons hlt]
    show _ = some (strOfNums (acc ++ (enc l[i] ++ encL (l.drop (i + 1)))))
    rw [List.append_assoc]
theorem impl_textOf.loop (l : List Int) (hl : l.length ≤ 1000) (hp : ∀ a ∈ l, isPt a = true) (d : Nat) : ∀ (k i : Nat) (acc : List Int), i ≤ l.length → l.length - i = d → acc.length ≤ 4 * i → d + 1 < k → impl_textOf.l0 k acc l (l.length : Int) (i : Int) = some (strOfNums (acc ++ encL (l.drop i))) := by
  induction d with
  | zero =>
    intro k i acc hi hd ha hk
    obtain ⟨k, rfl⟩ : ∃ m, k = m + 1 := ⟨k - 1, by omega⟩
    simp only [impl_textOf.l0]
    rw [if_neg (by omega), List.drop_eq_nil_of_le (by omega)]
    show _ = some (strOfNums (acc ++ []))
    rw [List.append_nil]
  | succ d ih =>
    intro k i acc hi hd ha hk
    obtain ⟨k, rfl⟩ : ∃ m, k = m + 1 := ⟨k - 1, by omega⟩
    have hlt : i < l.length := by omega
    have hr : rd l (i : Int) = l[i] := by
      rw [rd_nat, List.getD_eq_getElem?_getD, List.getElem?_eq_getElem hlt]
      rfl
    have he := enc_len l[i]
    simp only [impl_textOf.l0]
    rw [if_pos (int_lt hlt), if_pos (int_nn i), if_pos (int_lt hlt), hr, utf8_AppendRune.eq (hp _ (List.getElem_mem hlt)) (by omega) (by omega), wrap_succ (by omega)]
    simp only [Option.bind_some]
    rw [ih k (i + 1) _ (by omega) (by omega) (by rw [List.length_append]; omega) (by omega), List.drop_eq_getElem_cons hlt]
    show _ = some (strOfNums (acc ++ (enc l[i] ++ encL (l.drop (i + 1)))))
    rw [List.append_assoc]
theorem okL_pt {x : List Int} {z : Bool} (h : okL z x = true) : ∀ p ∈ x, isPt p = true := by
  induction x generalizing z with
  | nil => intro p hp; cases hp
  | cons a x ih =>
    rw [okL, okP, Bool.and_eq_true, Bool.and_eq_true] at h
    intro p hp
    rcases List.mem_cons.1 hp with rfl | hp
    · exact h.1.1
    · exact ih h.2 p hp
def cellIn (x : S79) : Prop := (∀ p ∈ x.f0, isPt p = true) ∧ x.f0.length ≤ 4
theorem GridRight.cells (a : Int) (c : Nat) (l : List S79) (r q : Int) (h : Bool) (t : Int) (n : Nat) (hc : 2 ≤ c) (hc2 : c ≤ 80) (hn : l.length = n * c) (hl : l.length ≤ 1048576) (hL : ∀ x ∈ l, x.f0.length ≤ 1048576) (d : Nat) : ∀ (k i : Nat), i ≤ l.length → l.length - i = d → d + 1048600 < k → spec_GridRight.l0 k (i : Int) a (c : Int) l r q h t = some true → ∀ j, i ≤ j → (hj : j < l.length) → cellIn l[j] := by
  induction d with
  | zero =>
    intro k i hi hd hk e j h1 h2
    exfalso
    omega
  | succ d ih =>
    intro k i hi hd hk e j h1 h2
    obtain ⟨k, rfl⟩ : ∃ m, k = m + 1 := ⟨k - 1, by omega⟩
    have hlt : i < l.length := by omega
    have hx := hL l[i] (List.getElem_mem hlt)
    have ih := ih k (i + 1) (by omega) (by omega) (by omega)
    rw [spec_GridRight.l0, if_pos (int_lt hlt), if_pos (int_nn i), rdCellB hlt, spec_l08Cell.eq _ _ hx (by omega)] at e
    simp only [Option.bind_some] at e
    by_cases g1 : (okL true l[i].f0 && atr l[i].f0 l[i].f1) = true
    · have hcell : cellIn l[i] := by
        rw [Bool.and_eq_true] at g1
        exact ⟨okL_pt g1.1, (of_decide_eq_true g1.2).1⟩
      rcases Nat.lt_or_ge i j with hij | hij
      · refine ih ?_ j hij h2
        rw [if_pos g1, spec_l08Wide.eq _ _ (by omega)] at e
        simp only [Option.bind_some] at e
        rw [wrap_succ (by omega)] at e
        by_cases g2 : wideB l[i].f0 = true
        · rw [if_pos g2] at e
          (repeat' split at e) <;> first | exact e | cases e
        · rw [if_neg g2] at e
          exact e
      · obtain rfl : j = i := by omega
        exact hcell
    · rw [if_neg g1] at e
      cases e
theorem GridRight.start {a c : Int} {l : List S79} {r q : Int} {h : Bool} {t : Int} {k : Nat} (e : spec_GridRight.f (k + 1) a c l r q h t = some true) : spec_GridRight.l0 k 0 a c l r q h t = some true := by
  have hj : ∀ B, spec_GridRight.j0 (k + 1) B a c l r q h t = some true → spec_GridRight.l0 k 0 a c l r q h t = some true := by
    intro B e
    rw [spec_GridRight.j0] at e
    cases B
    · exact e
    · cases e
  unfold spec_GridRight.f at e
  rw [spec_l08Size.eq] at e
  simp only [Option.bind_some] at e
  (repeat' split at e) <;> first | exact hj _ e | cases e
theorem encL_app (x y : List Int) : encL (x ++ y) = encL x ++ encL y := by
  induction x with
  | nil => rfl
  | cons a x ih => rw [List.cons_append, encL, encL, ih, List.append_assoc]
theorem enc_byte {a : Int} (h : isPt a = true) : ∀ b ∈ enc a, 0 ≤ b ∧ b ≤ 255 := by
  have := isPt_in h
  intro b hb
  unfold enc at hb
  (repeat' split at hb) <;> simp only [List.mem_cons, List.not_mem_nil, or_false] at hb <;> omega
theorem encL_byte {x : List Int} (h : ∀ p ∈ x, isPt p = true) : ∀ b ∈ encL x, 0 ≤ b ∧ b ≤ 255 := by
  induction x with
  | nil => intro b hb; cases hb
  | cons a x ih =>
    intro b hb
    rw [encL] at hb
    rcases List.mem_append.1 hb with hb | hb
    · exact enc_byte (h a (List.mem_cons_self ..)) b hb
    · exact ih (fun p hp => h p (List.mem_cons_of_mem _ hp)) b hb
theorem encL_len (x : List Int) : (encL x).length ≤ 4 * x.length := by
  induction x with
  | nil => exact Nat.zero_le _
  | cons a x ih =>
    have := enc_len a
    rw [encL, List.length_append, List.length_cons]
    omega
theorem bytes_nums {x : List Int} (h : ∀ b ∈ x, 0 ≤ b ∧ b ≤ 255) : bytesOf (strOfNums x) = x := by
  induction x with
  | nil => rfl
  | cons a x ih =>
    have ih := ih (fun b hb => h b (List.mem_cons_of_mem _ hb))
    have ha := h a (List.mem_cons_self ..)
    have e : ((UInt8.ofNat a.toNat).toNat : Int) = a := by
      rw [UInt8.toNat_ofNat']
      omega
    show ((UInt8.ofNat a.toNat).toNat : Int) :: bytesOf (strOfNums x) = a :: x
    rw [e, ih]
theorem size_nums (x : List Int) : (strOfNums x).size = x.length := by
  show ((x.map fun n => UInt8.ofNat n.toNat).toArray).size = x.length
  rw [List.size_toArray, List.length_map]
theorem spec_text {p : List Int} (h : ∀ a ∈ p, isPt a = true) (hl : p.length ≤ 4) {k : Nat} (hk : 10 < k) : spec_l01Text.f k p = some (strOfNums (encL p)) := by
  have := spec_l01Text.loop p (by omega) h p.length k 0 [] (by omega) (by omega) (by simp) (by omega)
  simpa [spec_l01Text.f] using this
def rowP (l : List S79) (m : Nat) : Nat → Nat → List Int
  | 0, _ => []
  | d + 1, i => (if (rd_T79 l (i : Int)).f0.length = 0 then (if halfV l m i = true then [] else [32]) else (rd_T79 l (i : Int)).f0) ++ rowP l m d (i + 1)
theorem impl_row.loop (a : Int) (l : List S79) (r q : Int) (h : Bool) (t : Int) (n m row : Nat) (hm : 2 ≤ m) (hm2 : m ≤ 80) (hn : n ≤ 24) (hlen : l.length = n * m) (hr : row < n) (hC : ∀ j, (hj : j < l.length) → cellIn l[j]) (d : Nat) : ∀ (k j : Nat) (acc : List Int), j ≤ m → m - j = d → acc.length ≤ 4 * j → (∀ p ∈ acc, isPt p = true) → d + 1500 < k → impl_Grid_row.l0 k (row : Int) acc ((row * m + j : Nat) : Int) a (m : Int) l r q h t = some (strOfNums (encL (acc ++ rowP l m d (row * m + j)))) := by
  have hp : n * m ≤ 24 * 80 := Nat.mul_le_mul hn hm2
  have h1 : row * m + m ≤ n * m := by rw [← Nat.succ_mul]; exact Nat.mul_le_mul_right m hr
  have hw : wrap64 (wrap64 ((row : Int) + 1) * (m : Int)) = ((row * m + m : Nat) : Int) := by
    rw [wrap_succ (by omega), ← Int.natCast_mul, Nat.succ_mul]
    exact wrap_in (by omega) (by omega)
  induction d with
  | zero =>
    intro k j acc hj hd ha hpt hk
    obtain ⟨k, rfl⟩ : ∃ m, k = m + 1 := ⟨k - 1, by omega⟩
    rw [impl_Grid_row.l0, hw, if_neg (by omega), rowP, List.append_nil]
    have := impl_textOf.loop acc (by omega) hpt acc.length k 0 [] (by omega) (by omega) (by simp) (by omega)
    rw [show impl_textOf.f k acc = some (strOfNums (encL acc)) by simpa [impl_textOf.f] using this]
    rfl
  | succ d ih =>
    intro k j acc hj hd ha hpt hk
    obtain ⟨k, rfl⟩ : ∃ m, k = m + 1 := ⟨k - 1, by omega⟩
    have hlt : row * m + j < l.length := by omega
    have hc := hC _ hlt
    rw [impl_Grid_row.l0, hw, if_pos (show ((row * m + j : Nat) : Int) < ((row * m + m : Nat) : Int) by omega), if_pos (int_nn _), if_pos (int_lt hlt), rowP, rdCellB hlt, impl_Cell_isEmpty.f, (half.eq hm hlt (by omega) (by omega)).2, wrap_succ (by omega)]
    simp only [Option.bind_some]
    by_cases g : l[row * m + j].f0.length = 0
    · rw [if_pos (show ((l[row * m + j].f0.length : Int) == 0) = true by rw [beq_iff_eq]; omega), if_pos g]
      by_cases g2 : halfV l m (row * m + j) = true
      · rw [if_pos g2, if_pos g2, List.nil_append]
        exact ih k (j + 1) acc (by omega) (by omega) (by omega) hpt (by omega)
      · rw [if_neg g2, if_neg g2, if_pos (by omega), ← List.append_assoc]
        refine ih k (j + 1) (acc ++ [32]) (by omega) (by omega) (by rw [List.length_append, List.length_singleton]; omega) ?_ (by omega)
        intro p hp
        rcases List.mem_append.1 hp with hp | hp
        · exact hpt p hp
        · rw [List.mem_singleton.1 hp]; rfl
    · rw [if_neg (show ¬ ((l[row * m + j].f0.length : Int) == 0) = true by rw [beq_iff_eq]; omega), if_neg g, if_pos (by have := hc.2; omega), ← List.append_assoc]
      refine ih k (j + 1) (acc ++ l[row * m + j].f0) (by omega) (by omega) (by have := hc.2; rw [List.length_append]; omega) ?_ (by omega)
      intro p hp
      rcases List.mem_append.1 hp with hp | hp
      · exact hpt p hp
      · exact hc.1 p hp
theorem spec_row.loop (a : Int) (l : List S79) (r q : Int) (h : Bool) (t : Int) (n m row : Nat) (hm : 2 ≤ m) (hm2 : m ≤ 80) (hn : n ≤ 24) (hlen : l.length = n * m) (hr : row < n) (hC : ∀ j, (hj : j < l.length) → cellIn l[j]) (d : Nat) : ∀ (k j : Nat) (b : List Int), j ≤ m → m - j = d → b.length ≤ 16 * j → d + 100 < k → spec_GridRow.l0 k (row : Int) b (j : Int) a (m : Int) l r q h t = some (strOfNums (b ++ encL (rowP l m d (row * m + j)))) := by
  have hp : n * m ≤ 24 * 80 := Nat.mul_le_mul hn hm2
  have h1 : row * m + m ≤ n * m := by rw [← Nat.succ_mul]; exact Nat.mul_le_mul_right m hr
  induction d with
  | zero =>
    intro k j b hj hd hb hk
    obtain ⟨k, rfl⟩ : ∃ m, k = m + 1 := ⟨k - 1, by omega⟩
    rw [spec_GridRow.l0, if_neg (by omega), rowP, encL, List.append_nil]
  | succ d ih =>
    intro k j b hj hd hb hk
    obtain ⟨k, rfl⟩ : ∃ m, k = m + 1 := ⟨k - 1, by omega⟩
    have hlt : row * m + j < l.length := by omega
    have hc := hC _ hlt
    have hw : wrap64 (wrap64 ((row : Int) * (m : Int)) + (j : Int)) = ((row * m + j : Nat) : Int) := by
      rw [← Int.natCast_mul, wrap_in (x := ((row * m : Nat) : Int)) (by omega) (by omega), wrap_in (by omega) (by omega)]
      omega
    have hel := encL_len l[row * m + j].f0
    rw [spec_GridRow.l0, if_pos (show (j : Int) < (m : Int) by omega), hw, if_pos (int_nn _), if_pos (int_lt hlt), rowP, rdCellB hlt, (half.eq hm hlt (by omega) (by omega)).1, spec_text hc.1 hc.2 (by omega), wrap_succ (by omega), encL_app]
    simp only [Option.bind_some, size_nums]
    rw [bytes_nums (encL_byte hc.1)]
    have hc2 := hc.2
    by_cases g : l[row * m + j].f0.length = 0
    · have hz : l[row * m + j].f0 = [] := List.length_eq_zero_iff.1 g
      rw [if_pos (show (l[row * m + j].f0.length : Int) = 0 by omega), if_pos g]
      by_cases g2 : halfV l m (row * m + j) = true
      · rw [if_pos g2, if_pos g2, if_pos (by omega), hz]
        have := ih k (j + 1) (b ++ encL []) (by omega) (by omega) (by rw [encL, List.append_nil]; omega) (by omega)
        refine (show _ = _ from this).trans ?_
        rw [List.append_assoc]
        rfl
      · rw [if_neg g2, if_neg g2, if_pos (by omega), if_pos (by rw [List.length_append, List.length_singleton]; omega), hz]
        have := ih k (j + 1) (b ++ [32] ++ encL []) (by omega) (by omega) (by rw [encL, List.append_nil, List.length_append, List.length_singleton]; omega) (by omega)
        refine (show _ = _ from this).trans ?_
        rw [show encL [32] = [32] from rfl, show encL [] = [] from rfl, List.append_nil, List.append_assoc]
        rfl
    · rw [if_neg (show ¬ (l[row * m + j].f0.length : Int) = 0 by omega), if_neg g, if_pos (by omega)]
      have := ih k (j + 1) (b ++ encL l[row * m + j].f0) (by omega) (by omega) (by rw [List.length_append]; omega) (by omega)
      refine (show _ = _ from this).trans ?_
      rw [List.append_assoc]
      rfl
theorem GridRow.eq (a c : Int) (l : List S79) (r q : Int) (h : Bool) (t x : Int) {k : Nat} (hl : l.length ≤ 1048576) (hL : ∀ x ∈ l, x.f0.length ≤ 1048576) (hk : 3500000 < k) : ∃ b, spec_GridRow.f k a c l r q h t x = some b ∧ impl_GridRow.f k a c l r q h t x = some b := by
  obtain ⟨k, rfl⟩ : ∃ m, k = m + 2 := ⟨k - 2, by omega⟩
  obtain ⟨b, b1, b2⟩ := GridRight.eq a c l r q h t (k := k + 2) hl hL (by omega)
  have hT : spec_GridRow.j0 (k + 2) x true a c l r q h t = some (⟨#[]⟩ : ByteArray) := by rw [spec_GridRow.j0]; rfl
  unfold spec_GridRow.f impl_GridRow.f
  rw [b1, b2]
  simp only [Option.bind_some]
  cases b
  · rw [if_neg (show ¬ false = true by decide), if_neg (show ¬ false = true by decide)]
    exact ⟨_, hT, rfl⟩
  · obtain ⟨n, m, rfl, rfl, n1, n2, m1, m2, hlen⟩ := GridRight.size hl b1
    have hC := GridRight.cells (n : Int) m l r q h t n m1 m2 hlen hl hL l.length (k + 1) 0 (by omega) (by omega) (by omega) (GridRight.start b1)
    rw [if_pos rfl, if_pos rfl, impl_within.eq, wrap_in (x := (n : Int) - 1) (by omega) (by omega)]
    simp only [Option.bind_some]
    by_cases g : 0 ≤ x ∧ x ≤ (n : Int) - 1
    · obtain ⟨row, rfl⟩ : ∃ row : Nat, x = (row : Int) := ⟨x.toNat, by omega⟩
      have hp : n * m ≤ 24 * 80 := Nat.mul_le_mul n2 m2
      have hrm : row * m ≤ n * m := Nat.mul_le_mul_right m (by omega)
      rw [if_neg (show ¬ (row : Int) < 0 by omega), decide_eq_false (show ¬ (row : Int) ≥ (n : Int) by omega), decide_eq_true g, if_pos rfl, spec_GridRow.j0, if_neg (show ¬ false = true by decide)]
      refine ⟨strOfNums (encL (rowP l m m (row * m + 0))), ?_, ?_⟩
      · exact spec_row.loop (n : Int) l r q h t n m row m1 m2 n2 hlen (by omega) (fun j hj => hC j (by omega) hj) m (k + 1) 0 [] (by omega) (by omega) (by simp) (by omega)
      · unfold impl_Grid_row.f
        rw [← Int.natCast_mul, wrap_in (x := ((row * m : Nat) : Int)) (by omega) (by omega)]
        have := impl_row.loop (n : Int) l r q h t n m row m1 m2 n2 hlen (by omega) (fun j hj => hC j (by omega) hj) m (k + 2) 0 [] (by omega) (by omega) (by simp) (by intro p hp; cases hp) (by omega)
        rw [show impl_Grid_row.l0 (k + 2) (row : Int) [] ((row * m : Nat) : Int) (n : Int) (m : Int) l r q h t = _ from this]
        rfl
    · rw [decide_eq_false g, if_neg (show ¬ false = true by decide)]
      refine ⟨_, ?_, rfl⟩
      by_cases f1 : x < 0
      · rw [if_pos f1, hT]
      · rw [if_neg f1, decide_eq_true (show x ≥ (n : Int) by omega), hT]

theorem FnExactGridRow : laws_FnExactGridRow.Pure := by
  intro a b l r c h t x ⟨_, _, ⟨hl, hL⟩, _⟩ _
  have hl := maxLen_le hl
  refine ⟨4000000, ?_⟩
  unfold laws_FnExactGridRow.f
  rw [laws_szGrid.eq (by omega) (by omega) hl (fun x hx => maxLen_le (hL x hx).1.1) (by omega)]
  simp only [Option.bind_some]
  by_cases g : (1048576 : Int) < ((l.length + szCells l : Nat) : Int)
  · rw [if_pos g, if_pos (by omega)]
  · rw [if_neg g, if_neg (by omega), laws_toGrid.eq (by omega) (by omega)]
    simp only [Option.bind_some]
    have o1 : (l.map cvCell).length ≤ 1048576 := by rw [List.length_map]; omega
    obtain ⟨v, v1, v2⟩ := GridRow.eq a b (l.map cvCell) r c h t x (k := 4000000) o1 (cvCell_ok (by omega)) (by omega)
    rw [v1, v2]
    simp only [Option.bind_some, if_true, laws_FnExactGridRow.j0]
    rw [laws_toGrid.eq (by omega) (by omega)]
    simp only [Option.bind_some]
    rw [laws_eqGrid.eq o1 (cvCell_ok (by omega)) (by omega)]
    simp

end Go.Proofs.Ytfkghjdhimhjjaa.Pure
