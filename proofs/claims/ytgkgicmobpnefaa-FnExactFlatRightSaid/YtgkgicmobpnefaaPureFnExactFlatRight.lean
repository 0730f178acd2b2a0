/- Proved: the program's FlatRight returns what the reference's returns, for every grid of size at most 2^20 in all, and leaves it as it was. -/
import Derived.Test.YtgkgicmobpnefaaPFnExactFlatRightx10
namespace Go.Proofs.Ytgkgicmobpnefaa.Pure
open Go.RowKit Go.Proofs.Ytgkgicmobpnefaa.PFnExactFlatRight Go.Proofs.YtgkgicmobpnefaaW.PrintWords Go.Proofs.YtgkgicmobpnefaaW.PrintLast Go.Proofs.YtgkgicmobpnefaaW.PrintMore
set_option linter.unusedVariables false
set_option linter.unusedSimpArgs false

/-! ### plain words -/
theorem wrap_in {x : Int} (h0 : -9223372036854775808 ≤ x) (h1 : x ≤ 9223372036854775807) : wrap64 x = x := by unfold wrap64; omega
theorem wrap_succ {i : Nat} (h : i < 4611686018427387904) : wrap64 ((i : Int) + 1) = ((i + 1 : Nat) : Int) := by unfold wrap64; omega
theorem rd_nat (l : List Int) (i : Nat) : rd l (i : Int) = l.getD i 0 := by simp [rd]
theorem drop_rd {l : List Int} {i : Nat} (h : i < l.length) : l.drop i = rd l (i : Int) :: l.drop (i + 1) := by
  rw [rd_nat, List.drop_eq_getElem_cons h, List.getD_eq_getElem?_getD, List.getElem?_eq_getElem h]
  rfl
theorem int_lt {i n : Nat} (h : i < n) : (i : Int) < (n : Int) := by omega
theorem int_nlt {i n : Nat} (h : ¬ i < n) : ¬ (i : Int) < (n : Int) := by omega
theorem int_nn (i : Nat) : (0 : Int) ≤ (i : Int) := by omega
theorem maxLen_le {n : Nat} (h : n ≤ maxLen) : n ≤ 9223372036854775807 := by unfold maxLen at h; exact h
theorem some_b {a b : Bool} (h : a = true ↔ b = true) : some a = some b := congrArg some (Bool.eq_iff_iff.2 h)
def isPt (a : Int) : Bool := decide (0 ≤ a ∧ a ≤ 1114111 ∧ ¬ (55296 ≤ a ∧ a ≤ 57343))
def ptsOK (l : List Int) : Bool := decide (l.length ≤ 300) && l.all isPt
def bufOK (l : List Int) (c m : Int) : Bool := ptsOK l && decide (0 ≤ c ∧ c ≤ l.length) && decide (0 ≤ m ∧ m ≤ l.length)
def isCtl (a : Int) : Bool := decide (a < 32 ∨ a = 127)
def isWide2 (a : Int) : Bool := decide ((4352 ≤ a ∧ a ≤ 4447) ∨ (11904 ≤ a ∧ a ≤ 42191) ∨ (44032 ≤ a ∧ a ≤ 55203) ∨ (63744 ≤ a ∧ a ≤ 64255) ∨ (65281 ≤ a ∧ a ≤ 65376) ∨ (127744 ≤ a ∧ a ≤ 129791))
def wid (a : Int) : Int := if isPt a = true ∧ ¬ (768 ≤ a ∧ a ≤ 879) then (if isCtl a = true ∨ isWide2 a = true then 2 else 1) else 0
def cl2 (a : Int) : Int := if (97 ≤ a ∧ a ≤ 122) ∨ (65 ≤ a ∧ a ≤ 90) ∨ (48 ≤ a ∧ a ≤ 57) ∨ a = 95 ∨ 128 ≤ a then 2 else 3
def cls (a : Int) : Int := if isPt a = true then (if a = 32 ∨ a = 9 ∨ a = 10 then 1 else cl2 a) else 0
theorem ptsOK_len {l : List Int} (h : ptsOK l = true) : l.length ≤ 300 := by
  unfold ptsOK at h
  simp only [Bool.and_eq_true, decide_eq_true_eq] at h
  exact h.1
theorem bufOK_len {l : List Int} {c m : Int} (h : bufOK l c m = true) : l.length ≤ 300 := by
  unfold bufOK at h
  simp only [Bool.and_eq_true] at h
  exact ptsOK_len h.1.1
theorem bufOK_all {l : List Int} {c m : Int} (h : bufOK l c m = true) : l.length ≤ 300 ∧ 0 ≤ c ∧ c ≤ l.length ∧ 0 ≤ m ∧ m ≤ l.length := by
  have hl := bufOK_len h
  unfold bufOK at h
  simp only [Bool.and_eq_true, decide_eq_true_eq] at h
  exact ⟨hl, h.1.2.1, h.1.2.2, h.2.1, h.2.2⟩
theorem laws_szInt64S.eq {l : List Int} {a : Int} (h0 : 0 ≤ a) (h1 : a ≤ 1048576) (hl : l.length ≤ 9223372036854775807) : laws_szInt64S.f l a = some (if a < (l.length : Int) then -1 else a - (l.length : Int)) := by
  unfold laws_szInt64S.f
  rw [wrap_in (by omega) (by omega)]
  by_cases h : a < (l.length : Int)
  · rw [if_pos (by omega), if_pos h]
  · rw [if_neg (by omega), if_neg h]
theorem laws_toInt64S.loop (l : List Int) (hl : l.length ≤ 1048576) (d : Nat) : ∀ (k i : Nat), i ≤ l.length → l.length - i = d → d < k → laws_toInt64S.l0 k l (l.take i ++ List.replicate (l.length - i) 0) (i : Int) = some l := by
  induction d with
  | zero =>
    intro k i hi hd hk
    obtain ⟨k, rfl⟩ : ∃ m, k = m + 1 := ⟨k - 1, by omega⟩
    obtain rfl : i = l.length := by omega
    simp only [laws_toInt64S.l0]
    rw [if_neg (by omega)]
    simp
  | succ d ih =>
    intro k i hi hd hk
    obtain ⟨k, rfl⟩ : ∃ m, k = m + 1 := ⟨k - 1, by omega⟩
    have hlt : i < l.length := by omega
    simp only [laws_toInt64S.l0]
    rw [if_pos (int_lt hlt), if_pos (int_nn i), if_pos (by simp; omega), wrap_succ (by omega), Int.toNat_natCast]
    have hs : (l.take i ++ List.replicate (l.length - i) 0).set i (rd l (i : Int)) = l.take (i + 1) ++ List.replicate (l.length - (i + 1)) 0 := by
      have h1 : (l.take i).length = i := by simp; omega
      rw [List.set_append_right _ _ (by omega), h1, Nat.sub_self, show l.length - i = (l.length - (i + 1)) + 1 by omega, List.replicate_succ, List.set_cons_zero, List.take_succ_eq_append_getElem hlt, rd_nat, List.getD_eq_getElem?_getD, List.getElem?_eq_getElem hlt, List.append_assoc]
      rfl
    rw [hs]
    exact ih k (i + 1) (by omega) (by omega) (by omega)
theorem laws_toInt64S.eq {l : List Int} {k : Nat} (hl : l.length ≤ 1048576) (hk : l.length < k) : laws_toInt64S.f k l = some l := by
  unfold laws_toInt64S.f
  rw [if_pos (by omega), if_pos (by omega), Int.toNat_natCast]
  have := laws_toInt64S.loop l hl l.length k 0 (by omega) (by omega) hk
  simpa using this
theorem laws_eqInt64S.loop (a b : List Int) (hab : a.length = b.length) (hl : a.length ≤ 1048576) (d : Nat) : ∀ (k i : Nat), i ≤ a.length → a.length - i = d → d < k → laws_eqInt64S.l0 k a b (i : Int) = some (decide (a.drop i = b.drop i)) := by
  induction d with
  | zero =>
    intro k i hi hd hk
    obtain ⟨k, rfl⟩ : ∃ m, k = m + 1 := ⟨k - 1, by omega⟩
    simp only [laws_eqInt64S.l0]
    rw [if_neg (by omega), List.drop_eq_nil_of_le (by omega), List.drop_eq_nil_of_le (by omega)]
    rfl
  | succ d ih =>
    intro k i hi hd hk
    obtain ⟨k, rfl⟩ : ∃ m, k = m + 1 := ⟨k - 1, by omega⟩
    have hlt : i < a.length := by omega
    simp only [laws_eqInt64S.l0]
    rw [if_pos (int_lt hlt), if_pos (int_nn i), if_pos (by omega), wrap_succ (by omega), ih k (i + 1) (by omega) (by omega) (by omega), drop_rd hlt, drop_rd (show i < b.length by omega)]
    by_cases h : rd a (i : Int) = rd b (i : Int)
    · rw [if_pos h, h]
      simp
    · rw [if_neg h]
      simp [h]
theorem laws_eqInt64S.eq {a b : List Int} {k : Nat} (hl : a.length ≤ 1048576) (hk : a.length < k) : laws_eqInt64S.f k a b = some (decide (a = b)) := by
  unfold laws_eqInt64S.f
  by_cases h : a.length = b.length
  · rw [if_pos (by omega)]
    have := laws_eqInt64S.loop a b h hl a.length k 0 (by omega) (by omega) hk
    simpa using this
  · rw [if_neg (by omega)]
    refine congrArg some (decide_eq_false (fun e => h (by rw [e]))).symm
theorem laws_eqCell.eq {a b : List Int} {c c' : Int} {k : Nat} (hl : a.length ≤ 1048576) (hk : a.length < k) : laws_eqCell.f k a c b c' = some (decide (a = b ∧ c = c')) := by
  unfold laws_eqCell.f
  rw [laws_eqInt64S.eq hl hk]
  simp only [Option.bind_some, decide_eq_true_eq]
  by_cases h1 : a = b
  · by_cases h2 : c = c'
    · simp [h1, h2]
    · simp [h1, h2]
  · simp [h1]
theorem laws_szCell.eq {l : List Int} {a c : Int} (h0 : 0 ≤ a) (h1 : a ≤ 1048576) (hl : l.length ≤ 9223372036854775807) : laws_szCell.f l c a = some (if a < (l.length : Int) then -1 else a - (l.length : Int)) := by
  unfold laws_szCell.f
  rw [laws_szInt64S.eq h0 h1 hl]
  simp only [Option.bind_some]
  by_cases h : a < (l.length : Int)
  · rw [if_pos h, if_pos (by omega)]
  · rw [if_neg h, if_neg (by omega)]
theorem laws_toCell.eq {l : List Int} {c : Int} {k : Nat} (hl : l.length ≤ 1048576) (hk : l.length < k) : laws_toCell.f k l c = some (l, c) := by
  unfold laws_toCell.f
  rw [laws_toInt64S.eq hl hk]
  rfl
theorem rdCellB {l : List (S84)} {i : Nat} (h : i < l.length) : rd_T84 l (i : Int) = l[i] := by
  unfold rd_T84
  rw [Int.toNat_natCast, List.getD_eq_getElem?_getD, List.getElem?_eq_getElem h]
  rfl
theorem cell_eq (a b : S84) : (a.f0 = b.f0 ∧ a.f1 = b.f1) ↔ a = b := by
  constructor
  · intro e
    rcases a with ⟨p0, p1⟩
    rcases b with ⟨q0, q1⟩
    simp only at e
    obtain ⟨e0, e1⟩ := e
    rw [e0, e1]
  · intro e
    rw [e]
    exact ⟨rfl, rfl⟩
instance decCell : DecidableEq S84 := fun a b => decidable_of_iff _ (cell_eq a b)
theorem laws_eqCellS.loop (a b : List (S84)) (hab : a.length = b.length) (hl : a.length ≤ 1048576) (hL : ∀ x ∈ a, x.f0.length ≤ 1048576) (d : Nat) : ∀ (k i : Nat), i ≤ a.length → a.length - i = d → d + 1048577 < k → laws_eqCellS.l0 k a b (i : Int) = some (decide (a.drop i = b.drop i)) := by
  induction d with
  | zero =>
    intro k i hi hd hk
    obtain ⟨k, rfl⟩ : ∃ m, k = m + 1 := ⟨k - 1, by omega⟩
    simp only [laws_eqCellS.l0]
    rw [if_neg (by omega), List.drop_eq_nil_of_le (by omega), List.drop_eq_nil_of_le (by omega)]
    rfl
  | succ d ih =>
    intro k i hi hd hk
    obtain ⟨k, rfl⟩ : ∃ m, k = m + 1 := ⟨k - 1, by omega⟩
    have hlt : i < a.length := by omega
    have hlb : i < b.length := by omega
    have h1 := hL a[i] (List.getElem_mem hlt)
    simp only [laws_eqCellS.l0]
    rw [if_pos (int_lt hlt), if_pos (int_nn i), if_pos (by omega), rdCellB hlt, rdCellB hlb, laws_eqCell.eq h1 (by omega), wrap_succ (by omega), ih k (i + 1) (by omega) (by omega) (by omega), List.drop_eq_getElem_cons hlt, List.drop_eq_getElem_cons hlb]
    simp only [Option.bind_some, decide_eq_true_eq]
    have hq := cell_eq a[i] b[i]
    by_cases h : a[i] = b[i]
    · rw [if_pos (hq.2 h), h]
      refine congrArg some (decide_eq_decide.2 ⟨fun e => by rw [e], fun e => (List.cons.inj e).2⟩)
    · rw [if_neg (fun e => h (hq.1 e))]
      exact congrArg some (decide_eq_false (fun e => h (List.cons.inj e).1)).symm
theorem laws_eqCellS.eq {a b : List (S84)} {k : Nat} (hl : a.length ≤ 1048576) (hL : ∀ x ∈ a, x.f0.length ≤ 1048576) (hk : 3000000 < k) : laws_eqCellS.f k a b = some (decide (a = b)) := by
  unfold laws_eqCellS.f
  by_cases h : a.length = b.length
  · rw [if_pos (by omega)]
    have := laws_eqCellS.loop a b h hl hL a.length k 0 (by omega) (by omega) (by omega)
    simpa using this
  · rw [if_neg (by omega)]
    refine congrArg some (decide_eq_false (fun e => h (by rw [e]))).symm
/-- what the sizes' functions take off: the rows, and what they hold -/
def szLL : List (List Int) → Nat
  | [] => 0
  | x :: l => x.length + szLL l
theorem szLL_nil : szLL [] = 0 := rfl
theorem szLL_cons (x : List Int) (l : List (List Int)) : szLL (x :: l) = x.length + szLL l := rfl
theorem szLL_mem {l : List (List Int)} {x : List Int} (h : x ∈ l) : x.length ≤ szLL l := by
  induction l with
  | nil => cases h
  | cons y l ih =>
    rw [szLL_cons]
    rcases List.mem_cons.1 h with rfl | h
    · omega
    · have := ih h; omega
theorem szLL_ok {l : List (List Int)} (h : l.length + szLL l ≤ 1048576) : ∀ x ∈ l, x.length ≤ 1048576 ∧ x.length < 1048577 := fun x hx => by have := szLL_mem hx; omega
def cvCell (b : S142) : S84 := ⟨b.f0, b.f1⟩
def szCells : List (S142) → Nat
  | [] => 0
  | x :: l => x.f0.length + szCells l
theorem szCells_nil : szCells [] = 0 := rfl
theorem szCells_cons (x : S142) (l : List (S142)) : szCells (x :: l) = x.f0.length + szCells l := rfl
theorem szCells_mem {l : List (S142)} {x : S142} (h : x ∈ l) : x.f0.length ≤ szCells l := by
  induction l with
  | nil => cases h
  | cons y l ih =>
    rw [szCells_cons]
    rcases List.mem_cons.1 h with rfl | h
    · omega
    · have := ih h; omega
theorem rdCellA {l : List (S142)} {i : Nat} (h : i < l.length) : rd_T142 l (i : Int) = l[i] := by
  unfold rd_T142
  rw [Int.toNat_natCast, List.getD_eq_getElem?_getD, List.getElem?_eq_getElem h]
  rfl
theorem laws_szCellS.loop (l : List (S142)) (hl : l.length ≤ 1048576) (hL : ∀ x ∈ l, x.f0.length ≤ 9223372036854775807) (d : Nat) : ∀ (k i : Nat) (a : Int), 0 ≤ a → a ≤ 1048576 → i ≤ l.length → l.length - i = d → d < k → laws_szCellS.l0 k l a (i : Int) = some (if a < (szCells (l.drop i) : Int) then -1 else a - (szCells (l.drop i) : Int)) := by
  induction d with
  | zero =>
    intro k i a h0 h1 hi hd hk
    obtain ⟨k, rfl⟩ : ∃ m, k = m + 1 := ⟨k - 1, by omega⟩
    simp only [laws_szCellS.l0]
    rw [if_neg (by omega), List.drop_eq_nil_of_le (by omega), szCells_nil, if_neg (by omega)]
    simp
  | succ d ih =>
    intro k i a h0 h1 hi hd hk
    obtain ⟨k, rfl⟩ : ∃ m, k = m + 1 := ⟨k - 1, by omega⟩
    have hlt : i < l.length := by omega
    have hx := hL l[i] (List.getElem_mem hlt)
    simp only [laws_szCellS.l0]
    rw [if_pos (int_lt hlt), if_pos (int_nn i), rdCellA hlt, laws_szCell.eq h0 h1 hx]
    simp only [Option.bind_some]
    rw [List.drop_eq_getElem_cons hlt, szCells_cons]
    by_cases h : a < (l[i].f0.length : Int)
    · rw [if_pos h, if_pos (by omega), if_pos (by omega)]
    · rw [if_neg h, if_neg (by omega), wrap_succ (by omega), ih k (i + 1) _ (by omega) (by omega) (by omega) (by omega) (by omega)]
      by_cases h2 : a - (l[i].f0.length : Int) < (szCells (l.drop (i + 1)) : Int)
      · rw [if_pos h2, if_pos (by omega)]
      · rw [if_neg h2, if_neg (by omega)]
        refine congrArg some ?_
        omega
theorem laws_szCellS.eq {l : List (S142)} {a : Int} {k : Nat} (h0 : 0 ≤ a) (h1 : a ≤ 1048576) (hl : l.length ≤ 9223372036854775807) (hL : ∀ x ∈ l, x.f0.length ≤ 9223372036854775807) (hk : 1048577 < k) : laws_szCellS.f k l a = some (if a < ((l.length + szCells l : Nat) : Int) then -1 else a - ((l.length + szCells l : Nat) : Int)) := by
  unfold laws_szCellS.f
  rw [wrap_in (by omega) (by omega)]
  by_cases h : a < (l.length : Int)
  · rw [if_pos (by omega), if_pos (by omega)]
  · rw [if_neg (by omega)]
    have := laws_szCellS.loop l (by omega) hL l.length k 0 (a - (l.length : Int)) (by omega) (by omega) (by omega) (by omega) (by omega)
    rw [List.drop_zero] at this
    refine (show _ = _ from this).trans ?_
    by_cases h2 : a - (l.length : Int) < (szCells l : Int)
    · rw [if_pos h2, if_pos (by omega)]
    · rw [if_neg h2, if_neg (by omega)]
      refine congrArg some ?_
      omega
theorem laws_toCellS.loop (l : List (S142)) (hl : l.length ≤ 1048576) (hL : ∀ x ∈ l, x.f0.length ≤ 1048576) (d : Nat) : ∀ (k i : Nat), i ≤ l.length → l.length - i = d → d + 1048577 < k → laws_toCellS.l0 k l ((l.take i).map cvCell ++ List.replicate (l.length - i) z84) (i : Int) = some (l.map cvCell) := by
  induction d with
  | zero =>
    intro k i hi hd hk
    obtain ⟨k, rfl⟩ : ∃ m, k = m + 1 := ⟨k - 1, by omega⟩
    obtain rfl : i = l.length := by omega
    simp only [laws_toCellS.l0]
    rw [if_neg (by omega)]
    simp
  | succ d ih =>
    intro k i hi hd hk
    obtain ⟨k, rfl⟩ : ∃ m, k = m + 1 := ⟨k - 1, by omega⟩
    have hlt : i < l.length := by omega
    have h1 := hL l[i] (List.getElem_mem hlt)
    simp only [laws_toCellS.l0]
    rw [if_pos (int_lt hlt), if_pos (int_nn i), rdCellA hlt, laws_toCell.eq h1 (by omega)]
    simp only [Option.bind_some]
    rw [if_pos (by simp; omega), wrap_succ (by omega), Int.toNat_natCast]
    have hs : ((l.take i).map cvCell ++ List.replicate (l.length - i) z84).set i (cvCell l[i]) = (l.take (i + 1)).map cvCell ++ List.replicate (l.length - (i + 1)) z84 := by
      have h1 : ((l.take i).map cvCell).length = i := by simp; omega
      rw [List.set_append_right _ _ (by omega), h1, Nat.sub_self, show l.length - i = (l.length - (i + 1)) + 1 by omega, List.replicate_succ, List.set_cons_zero, List.take_succ_eq_append_getElem hlt, List.map_append, List.append_assoc]
      rfl
    refine (congrArg (fun z => laws_toCellS.l0 k l z ((i + 1 : Nat) : Int)) hs).trans ?_
    exact ih k (i + 1) (by omega) (by omega) (by omega)
theorem laws_toCellS.eq {l : List (S142)} {k : Nat} (h : l.length + szCells l ≤ 1048576) (hk : 3000000 < k) : laws_toCellS.f k l = some (l.map cvCell) := by
  unfold laws_toCellS.f
  rw [if_pos (by omega), if_pos (by omega), Int.toNat_natCast]
  have := laws_toCellS.loop l (by omega) (fun x hx => by have := szCells_mem hx; omega) l.length k 0 (by omega) (by omega) (by omega)
  simpa using this
theorem cvCell_ok {l : List (S142)} (h : l.length + szCells l ≤ 1048576) : ∀ x ∈ l.map cvCell, x.f0.length ≤ 1048576 := by
  intro x hx
  obtain ⟨y, hy, rfl⟩ := List.mem_map.1 hx
  have := szCells_mem hy
  show y.f0.length ≤ _
  omega
theorem laws_eqGrid.eq {l l' : List S84} {a b r c a' b' r' c' : Int} {h h' : Bool} {t t' : Int} {k : Nat} (hl : l.length ≤ 1048576) (hL : ∀ x ∈ l, x.f0.length ≤ 1048576) (hk : 3000000 < k) : laws_eqGrid.f k a b l r c h t a' b' l' r' c' h' t' = some (decide (a = a' ∧ b = b' ∧ l = l' ∧ r = r' ∧ c = c' ∧ h = h' ∧ t = t')) := by
  unfold laws_eqGrid.f
  rw [laws_eqCellS.eq hl hL hk]
  simp only [Option.bind_some, decide_eq_true_eq]
  by_cases e1 : a = a'
  · by_cases e2 : b = b'
    · by_cases e3 : l = l'
      · by_cases e4 : r = r'
        · by_cases e5 : c = c'
          · by_cases e6 : h = h'
            · by_cases e7 : t = t'
              · simp [e1, e2, e3, e4, e5, e6, e7]
              · simp [e1, e2, e3, e4, e5, e6, e7]
            · simp [e1, e2, e3, e4, e5, e6]
          · simp [e1, e2, e3, e4, e5]
        · simp [e1, e2, e3, e4]
      · simp [e1, e2, e3]
    · simp [e1, e2]
  · simp [e1]
theorem laws_szGrid.eq {l : List S142} {a b r c : Int} {h : Bool} {t n : Int} {k : Nat} (h0 : 0 ≤ n) (h1 : n ≤ 1048576) (hl : l.length ≤ 9223372036854775807) (hL : ∀ x ∈ l, x.f0.length ≤ 9223372036854775807) (hk : 1048577 < k) : laws_szGrid.f k a b l r c h t n = some (if n < ((l.length + szCells l : Nat) : Int) then -1 else n - ((l.length + szCells l : Nat) : Int)) := by
  unfold laws_szGrid.f
  rw [laws_szCellS.eq h0 h1 hl hL hk]
  simp only [Option.bind_some]
  by_cases h : n < ((l.length + szCells l : Nat) : Int)
  · rw [if_pos h, if_pos (by omega)]
  · rw [if_neg h, if_neg (by omega)]
theorem laws_toGrid.eq {l : List S142} {a b r c : Int} {h : Bool} {t : Int} {k : Nat} (hl : l.length + szCells l ≤ 1048576) (hk : 3000000 < k) : laws_toGrid.f k a b l r c h t = some (a, b, l.map cvCell, r, c, h, t) := by
  unfold laws_toGrid.f
  rw [laws_toCellS.eq hl hk]
  rfl
theorem spec_l01Point.eq (a : Int) : spec_l01Point.f a = some (isPt a) := by
  simp only [spec_l01Point.f, isPt]
  (repeat' split) <;> (refine some_b ?_; simp only [Bool.not_eq_true', Bool.not_false, decide_eq_true_eq, decide_eq_false_iff_not, Bool.false_eq_true]; first | omega | (rw [false_iff]; omega) | (rw [true_iff]; omega))
set_option maxHeartbeats 4000000 in
theorem spec_WidthOf.eq (a : Int) {k : Nat} (hk : 0 < k) : spec_WidthOf.f k a = some (wid a) := by
  obtain ⟨k, rfl⟩ : ∃ m, k = m + 1 := ⟨k - 1, by omega⟩
  have hj : ∀ b : Bool, spec_WidthOf.j0 (k + 1) a b = some (if b = true then 0 else if isCtl a = true ∨ isWide2 a = true then 2 else 1) := by
    intro b
    cases b
    · simp only [spec_WidthOf.j0, isCtl, isWide2, decide_eq_true_eq, Bool.false_eq_true, if_false]
      rcases (by omega : a < 32 ∨ (32 ≤ a ∧ a < 127) ∨ a = 127 ∨ (127 < a ∧ a < 4352) ∨ (4352 ≤ a ∧ a ≤ 4447) ∨ (4447 < a ∧ a < 11904) ∨ (11904 ≤ a ∧ a ≤ 42191) ∨ (42191 < a ∧ a < 44032) ∨ (44032 ≤ a ∧ a ≤ 55203) ∨ (55203 < a ∧ a < 63744) ∨ (63744 ≤ a ∧ a ≤ 64255) ∨ (64255 < a ∧ a < 65281) ∨ (65281 ≤ a ∧ a ≤ 65376) ∨ (65376 < a ∧ a < 127744) ∨ (127744 ≤ a ∧ a ≤ 129791) ∨ 129791 < a) with h | h | h | h | h | h | h | h | h | h | h | h | h | h | h | h <;> simp (disch := omega) only [if_pos, if_neg]
    · rfl
  unfold spec_WidthOf.f wid
  rw [spec_l01Point.eq]
  simp only [Option.bind_some, hj]
  by_cases h1 : isPt a = true
  · by_cases h2 : 768 ≤ a
    · by_cases h3 : a ≤ 879
      · simp [h1, h2, h3]
      · simp [h1, h2, h3]
    · simp [h1, h2]
  · simp [h1]
theorem impl_within.eq (a b c : Int) : impl_within.f a b c = some (decide (b ≤ a ∧ a ≤ c)) := by
  unfold impl_within.f
  by_cases h : b ≤ a <;> simp [h]
theorem impl_isPoint.eq (a : Int) : impl_isPoint.f a = some (isPt a) := by
  simp only [impl_isPoint.f, impl_within.eq, Option.bind_some, isPt, decide_eq_true_eq]
  split <;> (refine some_b ?_; simp only [Bool.not_eq_true', decide_eq_true_eq, decide_eq_false_iff_not, Bool.false_eq_true]; first | omega | (rw [false_iff]; omega))
theorem impl_isControl.eq (a : Int) : impl_isControl.f a = some (isCtl a) := by
  unfold impl_isControl.f isCtl
  by_cases h : a < 32
  · simp [h]
  · by_cases h2 : a = 127 <;> simp [h, h2]
def widTab : List S195 := [(⟨4352, 4447⟩ : S195), (⟨11904, 42191⟩ : S195), (⟨44032, 55203⟩ : S195), (⟨63744, 64255⟩ : S195), (⟨65281, 65376⟩ : S195), (⟨127744, 129791⟩ : S195)]
theorem impl_WidthOf.step (k : Nat) (a : Int) (i : Nat) (hi : i < 6) : impl_WidthOf.l0 (k + 1) a widTab 6 (i : Int) = if (rd_T195 widTab (i : Int)).f0 ≤ a ∧ a ≤ (rd_T195 widTab (i : Int)).f1 then some 2 else impl_WidthOf.l0 k a widTab 6 ((i + 1 : Nat) : Int) := by
  rw [impl_WidthOf.l0, if_pos (by omega), if_pos (by omega), if_pos (show (i : Int) < (widTab.length : Int) by show (i : Int) < ((6 : Nat) : Int); omega), impl_within.eq, wrap_succ (by omega)]
  simp only [Option.bind_some, decide_eq_true_eq]
theorem impl_WidthOf.loop (k : Nat) (a : Int) : impl_WidthOf.l0 (k + 7) a widTab 6 0 = some (if isWide2 a = true then 2 else 1) := by
  have e0 := impl_WidthOf.step (k + 6) a 0 (by decide)
  have e1 := impl_WidthOf.step (k + 5) a 1 (by decide)
  have e2 := impl_WidthOf.step (k + 4) a 2 (by decide)
  have e3 := impl_WidthOf.step (k + 3) a 3 (by decide)
  have e4 := impl_WidthOf.step (k + 2) a 4 (by decide)
  have e5 := impl_WidthOf.step (k + 1) a 5 (by decide)
  have e6 : impl_WidthOf.l0 (k + 1) a widTab 6 ((5 + 1 : Nat) : Int) = some 1 := by
    rw [impl_WidthOf.l0, if_neg (by decide)]
  rw [e6] at e5; rw [e5] at e4; rw [e4] at e3; rw [e3] at e2; rw [e2] at e1; rw [e1] at e0
  refine (show impl_WidthOf.l0 (k + 7) a widTab 6 0 = _ from e0).trans ?_
  show (if (4352 : Int) ≤ a ∧ a ≤ 4447 then some (2 : Int) else if (11904 : Int) ≤ a ∧ a ≤ 42191 then some 2 else if (44032 : Int) ≤ a ∧ a ≤ 55203 then some 2 else if (63744 : Int) ≤ a ∧ a ≤ 64255 then some 2 else if (65281 : Int) ≤ a ∧ a ≤ 65376 then some 2 else if (127744 : Int) ≤ a ∧ a ≤ 129791 then some 2 else some 1) = _
  unfold isWide2
  simp only [decide_eq_true_eq]
  (repeat' split) <;> first | rfl | omega
theorem impl_WidthOf.eq (a : Int) {k : Nat} (hk : 8 < k) : impl_WidthOf.f k a = some (wid a) := by
  obtain ⟨k, rfl⟩ : ∃ m, k = m + 8 := ⟨k - 8, by omega⟩
  have hj : ∀ b : Bool, impl_WidthOf.j0 (k + 8) a b = some (if b = true then 0 else if isCtl a = true ∨ isWide2 a = true then 2 else 1) := by
    intro b
    cases b
    · rw [impl_WidthOf.j0, if_neg (by decide), impl_isControl.eq]
      simp only [Option.bind_some, Bool.false_eq_true, if_false]
      have hl := impl_WidthOf.loop k a
      cases isCtl a
      · rw [if_neg (by decide)]
        refine Eq.trans (show _ = impl_WidthOf.l0 (k + 7) a widTab 6 0 from rfl) ?_
        rw [hl]
        simp
      · rfl
    · rw [impl_WidthOf.j0]
      rfl
  unfold impl_WidthOf.f wid
  rw [impl_isPoint.eq]
  simp only [Option.bind_some, impl_within.eq, hj, decide_eq_true_eq]
  by_cases h1 : isPt a = true
  · by_cases h2 : 768 ≤ a ∧ a ≤ 879
    · simp [h1, h2]
    · simp [h1, h2]
  · simp [h1]
def okP (z : Bool) (p : Int) : Bool := isPt p && (!isCtl p && (z == decide (wid p > 0)))
def okL : Bool → List Int → Bool
  | _, [] => true
  | z, p :: l => okP z p && okL false l
def atr (x : List Int) (t : Int) : Bool := decide (x.length ≤ 4 ∧ 0 ≤ t ∧ t ≤ 3)
def wideB (x : List Int) : Bool := if (x.length : Int) > 0 then wid (rd x 0) == 2 else false
theorem wid_ge (a : Int) : 0 ≤ wid a := by
  unfold wid
  split
  · split <;> decide
  · decide
theorem wid_z (a : Int) : (wid a == 0) = !decide (wid a > 0) := by
  have := wid_ge a
  by_cases h : wid a = 0
  · rw [h]; rfl
  · rw [decide_eq_true (show wid a > 0 by omega)]
    simp [h]
theorem int_z (i : Nat) : ((i : Int) == 0) = decide (i = 0) := by
  cases i with
  | zero => rfl
  | succ n => rw [decide_eq_false (by omega)]; refine beq_eq_false_iff_ne.2 ?_; omega
theorem spec_l08Cell.loop (x : List Int) (t : Int) (hl : x.length ≤ 1048576) (d : Nat) : ∀ (k i : Nat), i ≤ x.length → x.length - i = d → d + 10 < k → spec_l08Cell.l0 k (i : Int) x t = some (okL (decide (i = 0)) (x.drop i)) := by
  induction d with
  | zero =>
    intro k i hi hd hk
    obtain ⟨k, rfl⟩ : ∃ m, k = m + 1 := ⟨k - 1, by omega⟩
    rw [spec_l08Cell.l0, if_neg (by omega), List.drop_eq_nil_of_le (by omega), okL]
  | succ d ih =>
    intro k i hi hd hk
    obtain ⟨k, rfl⟩ : ∃ m, k = m + 1 := ⟨k - 1, by omega⟩
    have hlt : i < x.length := by omega
    rw [spec_l08Cell.l0, if_pos (int_lt hlt), if_pos (int_nn i), spec_l01Point.eq, drop_rd hlt, okL, okP]
    simp only [Option.bind_some]
    by_cases h1 : isPt (rd x (i : Int)) = true
    · rw [if_pos h1, h1, spec_WidthOf.eq _ (by omega)]
      simp only [Option.bind_some]
      rw [int_z, wid_z, wrap_succ (by omega), ih k (i + 1) (by omega) (by omega) (by omega), decide_eq_false (show ¬ i + 1 = 0 by omega)]
      have hc : isCtl (rd x (i : Int)) = decide (rd x (i : Int) < 32 ∨ rd x (i : Int) = 127) := rfl
      cases decide (i = 0) <;> cases decide (wid (rd x (i : Int)) > 0)
      · rw [if_neg (by decide)]
        by_cases h2 : rd x (i : Int) < 32
        · rw [if_pos h2, hc, decide_eq_true (Or.inl h2)]; rfl
        · rw [if_neg h2]
          by_cases h3 : rd x (i : Int) = 127
          · rw [if_pos h3, hc, decide_eq_true (Or.inr h3)]; rfl
          · rw [if_neg h3, hc, decide_eq_false (by omega)]; rfl
      · rw [if_pos (by decide)]
        cases isCtl (rd x (i : Int)) <;> rfl
      · rw [if_pos (by decide)]
        cases isCtl (rd x (i : Int)) <;> rfl
      · rw [if_neg (by decide)]
        by_cases h2 : rd x (i : Int) < 32
        · rw [if_pos h2, hc, decide_eq_true (Or.inl h2)]; rfl
        · rw [if_neg h2]
          by_cases h3 : rd x (i : Int) = 127
          · rw [if_pos h3, hc, decide_eq_true (Or.inr h3)]; rfl
          · rw [if_neg h3, hc, decide_eq_false (by omega)]; rfl
    · rw [if_neg h1]
      rw [Bool.not_eq_true] at h1
      rw [h1]; rfl
theorem spec_l08Cell.eq (x : List Int) (t : Int) {k : Nat} (hl : x.length ≤ 1048576) (hk : x.length + 20 < k) : spec_l08Cell.f k x t = some (okL true x && atr x t) := by
  obtain ⟨k, rfl⟩ : ∃ m, k = m + 1 := ⟨k - 1, by omega⟩
  unfold spec_l08Cell.f atr
  by_cases h1 : (x.length : Int) > 4
  · rw [if_pos h1, spec_l08Cell.j0, if_pos rfl, decide_eq_false (by omega), Bool.and_false]
  · rw [if_neg h1]
    by_cases h2 : t < 0
    · rw [if_pos h2, spec_l08Cell.j0, if_pos rfl, decide_eq_false (by omega), Bool.and_false]
    · rw [if_neg h2, spec_l08Cell.j0]
      by_cases h3 : t > 3
      · rw [if_pos (decide_eq_true h3), decide_eq_false (by omega), Bool.and_false]
      · have := spec_l08Cell.loop x t hl x.length k 0 (by omega) (by omega) (by omega)
        rw [if_neg (by rw [decide_eq_true_eq]; exact h3), show spec_l08Cell.l0 k 0 x t = _ from this, decide_eq_true (show x.length ≤ 4 ∧ 0 ≤ t ∧ t ≤ 3 by omega), Bool.and_true]
        rfl
theorem impl_cellRight.loop (x : List Int) (t : Int) (hl : x.length ≤ 1048576) (d : Nat) : ∀ (k i : Nat), i ≤ x.length → x.length - i = d → d + 10 < k → impl_cellRight.l0 k x (x.length : Int) (i : Int) x t = some (okL (decide (i = 0)) (x.drop i) && atr x t) := by
  induction d with
  | zero =>
    intro k i hi hd hk
    obtain ⟨k, rfl⟩ : ∃ m, k = m + 1 := ⟨k - 1, by omega⟩
    rw [impl_cellRight.l0, if_neg (by omega), List.drop_eq_nil_of_le (by omega), okL, Bool.true_and, atr]
    by_cases h : (x.length : Int) ≤ 4
    · rw [if_pos h, impl_within.eq]
      refine congrArg some (decide_eq_decide.2 ⟨fun e => ⟨by omega, e⟩, fun e => e.2⟩)
    · rw [if_neg h, decide_eq_false (by omega)]
  | succ d ih =>
    intro k i hi hd hk
    obtain ⟨k, rfl⟩ : ∃ m, k = m + 1 := ⟨k - 1, by omega⟩
    have hlt : i < x.length := by omega
    rw [impl_cellRight.l0, if_pos (int_lt hlt), if_pos (int_nn i), if_pos (int_lt hlt), impl_isPoint.eq, drop_rd hlt, okL, okP]
    simp only [Option.bind_some]
    by_cases h1 : isPt (rd x (i : Int)) = true
    · rw [if_pos h1, h1, impl_isControl.eq]
      simp only [Option.bind_some]
      by_cases h2 : isCtl (rd x (i : Int)) = true
      · rw [if_pos h2, h2]; rfl
      · rw [if_neg h2, impl_WidthOf.eq _ (by omega)]
        rw [Bool.not_eq_true] at h2
        simp only [Option.bind_some]
        rw [h2, int_z, wrap_succ (by omega), ih k (i + 1) (by omega) (by omega) (by omega), decide_eq_false (show ¬ i + 1 = 0 by omega)]
        cases decide (i = 0) <;> cases decide (wid (rd x (i : Int)) > 0) <;> rfl
    · rw [if_neg h1]
      rw [Bool.not_eq_true] at h1
      rw [h1]; rfl
theorem impl_cellRight.eq (x : List Int) (t : Int) {k : Nat} (hl : x.length ≤ 1048576) (hk : x.length + 20 < k) : impl_cellRight.f k x t = some (okL true x && atr x t) := by
  unfold impl_cellRight.f
  have := impl_cellRight.loop x t hl x.length k 0 (by omega) (by omega) (by omega)
  exact this
theorem spec_l08Wide.eq (x : List Int) (t : Int) {k : Nat} (hk : 0 < k) : spec_l08Wide.f k x t = some (wideB x) := by
  unfold spec_l08Wide.f wideB
  by_cases h : (x.length : Int) > 0
  · rw [if_pos h, if_pos h, if_pos h, spec_WidthOf.eq _ hk]; rfl
  · rw [if_neg h, if_neg h]
theorem impl_Cell_isWide.eq (x : List Int) (t : Int) {k : Nat} (hk : 8 < k) : impl_Cell_isWide.f k x t = some (wideB x) := by
  unfold impl_Cell_isWide.f wideB
  by_cases h : (x.length : Int) > 0
  · rw [if_pos h, if_pos h, if_pos h, impl_WidthOf.eq _ hk]; rfl
  · rw [if_neg h, if_neg h]
theorem mod_last {i c : Nat} (hc : 2 ≤ c) : i % c = c - 1 ↔ (i + 1) % c = 0 := by
  have h := Nat.mod_lt i (show 0 < c by omega)
  rw [Nat.add_mod, Nat.mod_eq_of_lt (show 1 < c by omega)]
  by_cases e : i % c = c - 1
  · rw [e, show c - 1 + 1 = c by omega, Nat.mod_self]
    exact ⟨fun _ => rfl, fun _ => rfl⟩
  · rw [Nat.mod_eq_of_lt (show i % c + 1 < c by omega)]
    exact ⟨fun z => absurd z e, fun z => by omega⟩
theorem GridRight.loop (a : Int) (c : Nat) (l : List S84) (r q : Int) (h : Bool) (t : Int) (n : Nat) (hc : 2 ≤ c) (hc2 : c ≤ 80) (hn : l.length = n * c) (hl : l.length ≤ 1048576) (hL : ∀ x ∈ l, x.f0.length ≤ 1048576) (d : Nat) : ∀ (k i : Nat), i ≤ l.length → l.length - i = d → d + 1048600 < k → ∃ b, spec_GridRight.l0 k (i : Int) a (c : Int) l r q h t = some b ∧ impl_GridRight.l0 k l (l.length : Int) (i : Int) a (c : Int) l r q h t = some b := by
  induction d with
  | zero =>
    intro k i hi hd hk
    obtain ⟨k, rfl⟩ : ∃ m, k = m + 1 := ⟨k - 1, by omega⟩
    refine ⟨true, ?_, ?_⟩
    · rw [spec_GridRight.l0, if_neg (by omega)]
    · rw [impl_GridRight.l0, if_neg (by omega)]
  | succ d ih =>
    intro k i hi hd hk
    obtain ⟨k, rfl⟩ : ∃ m, k = m + 1 := ⟨k - 1, by omega⟩
    have hlt : i < l.length := by omega
    have hx := hL l[i] (List.getElem_mem hlt)
    obtain ⟨b, hb1, hb2⟩ := ih k (i + 1) (by omega) (by omega) (by omega)
    rw [spec_GridRight.l0, impl_GridRight.l0, if_pos (int_lt hlt), if_pos (int_nn i), if_pos (int_lt hlt), if_pos (int_nn i), if_pos (int_lt hlt), rdCellB hlt, spec_l08Cell.eq _ _ hx (by omega), impl_cellRight.eq _ _ hx (by omega)]
    simp only [Option.bind_some]
    by_cases g1 : (okL true l[i].f0 && atr l[i].f0 l[i].f1) = true
    · rw [if_pos g1, if_pos g1, spec_l08Wide.eq _ _ (by omega), impl_Cell_isWide.eq _ _ (by omega)]
      simp only [Option.bind_some]
      rw [wrap_succ (by omega)]
      by_cases g2 : wideB l[i].f0 = true
      · have hz : ¬ ((c : Nat) : Int) = 0 := by omega
        rw [if_pos g2, if_pos g2, if_neg hz, if_neg hz, wrap_in (x := (c : Int) - 1) (by omega) (by omega), ← Int.ofNat_tmod, ← Int.ofNat_tmod]
        have hm := mod_last (i := i) hc
        by_cases g3 : i % c = c - 1
        · rw [if_pos (show ((i % c : Nat) : Int) = (c : Int) - 1 by omega), if_pos (show (((i + 1) % c : Nat) : Int) = 0 by have := hm.1 g3; omega)]
          exact ⟨false, rfl, rfl⟩
        · have g4 : ¬ (i + 1) % c = 0 := fun e => g3 (hm.2 e)
          have hlt2 : i + 1 < l.length := by
            rcases Nat.lt_or_ge (i + 1) l.length with e | e
            · exact e
            · refine absurd ?_ g4
              rw [show i + 1 = l.length by omega, hn, Nat.mul_mod_left]
          rw [if_neg (show ¬ ((i % c : Nat) : Int) = (c : Int) - 1 by omega), if_neg (show ¬ (((i + 1) % c : Nat) : Int) = 0 by omega), if_pos (int_nn (i + 1)), if_pos (int_lt hlt2), if_pos (int_nn (i + 1)), if_pos (int_lt hlt2), rdCellB hlt2, impl_Cell_isEmpty.f]
          simp only [Option.bind_some]
          by_cases g5 : ((l[i + 1].f0).length : Int) > 0
          · rw [if_pos g5, if_neg (by rw [beq_iff_eq]; omega)]
            exact ⟨false, rfl, rfl⟩
          · rw [if_neg g5, if_pos (show (((l[i + 1].f0).length : Int) == 0) = true by rw [beq_iff_eq]; omega)]
            by_cases g6 : l[i + 1].f1 = l[i].f1
            · rw [if_pos g6, if_pos g6]
              exact ⟨b, hb1, hb2⟩
            · rw [if_neg g6, if_neg g6]
              exact ⟨false, rfl, rfl⟩
      · rw [if_neg g2, if_neg g2]
        exact ⟨b, hb1, hb2⟩
    · rw [if_neg g1, if_neg g1]
      exact ⟨false, rfl, rfl⟩
theorem spec_l08Size.eq (a c : Int) : spec_l08Size.f a c = some (decide (1 ≤ a ∧ a ≤ 24) && decide (2 ≤ c ∧ c ≤ 80)) := by
  unfold spec_l08Size.f
  by_cases h1 : a ≥ 1
  · by_cases h2 : a ≤ 24
    · rw [if_pos h1, if_pos h2, decide_eq_true (show 1 ≤ a ∧ a ≤ 24 by omega), Bool.true_and]
      by_cases h3 : c ≥ 2
      · rw [if_pos h3]
        refine congrArg some (decide_eq_decide.2 ⟨fun e => ⟨h3, e⟩, fun e => e.2⟩)
      · rw [if_neg h3, decide_eq_false (by omega)]
    · rw [if_pos h1, if_neg h2, decide_eq_false (show ¬ (1 ≤ a ∧ a ≤ 24) by omega), Bool.false_and]
  · rw [if_neg h1, decide_eq_false (show ¬ (1 ≤ a ∧ a ≤ 24) by omega), Bool.false_and]
theorem GridRight.j_t {k : Nat} {a c : Int} {l : List S84} {r q : Int} {h : Bool} {t : Int} : spec_GridRight.j0 (k + 1) true a c l r q h t = some false ∧ impl_GridRight.j0 (k + 1) true a c l r q h t = some false := by
  rw [spec_GridRight.j0, impl_GridRight.j0]
  exact ⟨rfl, rfl⟩
theorem GridRight.eq (a c : Int) (l : List S84) (r q : Int) (h : Bool) (t : Int) {k : Nat} (hl : l.length ≤ 1048576) (hL : ∀ x ∈ l, x.f0.length ≤ 1048576) (hk : 3000000 < k) : ∃ b, spec_GridRight.f k a c l r q h t = some b ∧ impl_GridRight.f k a c l r q h t = some b := by
  obtain ⟨k, rfl⟩ : ∃ m, k = m + 1 := ⟨k - 1, by omega⟩
  unfold spec_GridRight.f impl_GridRight.f impl_isRows.f impl_isCols.f impl_size_impl_Cell.f
  simp only [spec_l08Size.eq, impl_within.eq, Option.bind_some]
  by_cases e1 : 1 ≤ a ∧ a ≤ 24
  · rw [decide_eq_true e1, Bool.true_and, if_pos rfl]
    by_cases e2 : 2 ≤ c ∧ c ≤ 80
    · rw [decide_eq_true e2, if_pos rfl, if_pos rfl]
      obtain ⟨n, rfl⟩ : ∃ n : Nat, a = (n : Int) := ⟨a.toNat, by omega⟩
      obtain ⟨m, rfl⟩ : ∃ m : Nat, c = (m : Int) := ⟨c.toNat, by omega⟩
      have hp : n * m ≤ 24 * 80 := Nat.mul_le_mul (by omega) (by omega)
      have hw : wrap64 ((n : Int) * (m : Int)) = ((n * m : Nat) : Int) := by rw [← Int.natCast_mul]; exact wrap_in (by omega) (by omega)
      rw [hw, wrap_in (x := (n : Int) - 1) (by omega) (by omega), wrap_in (x := (m : Int) - 1) (by omega) (by omega)]
      by_cases e3 : l.length = n * m
      · have z : (l.length : Int) = ((n * m : Nat) : Int) := by omega
        rw [if_pos z, if_pos z]
        have hj : ∃ b, spec_GridRight.j0 (k + 1) false n m l r q h t = some b ∧ impl_GridRight.j0 (k + 1) false n m l r q h t = some b := by
          rw [spec_GridRight.j0, impl_GridRight.j0]
          exact GridRight.loop n m l r q h t n (by omega) (by omega) e3 hl hL l.length k 0 (by omega) (by omega) (by omega)
        by_cases e4 : 0 ≤ r ∧ r ≤ (n : Int) - 1
        · rw [if_neg (show ¬ r < 0 by omega), if_neg (show ¬ r ≥ (n : Int) by omega), decide_eq_true e4, if_pos rfl]
          by_cases e5 : 0 ≤ q ∧ q ≤ (m : Int) - 1
          · rw [if_neg (show ¬ q < 0 by omega), if_neg (show ¬ q ≥ (m : Int) by omega), decide_eq_true e5, if_pos rfl]
            have ht : ∃ b, (if t < 0 then spec_GridRight.j0 (k + 1) true n m l r q h t else spec_GridRight.j0 (k + 1) (decide (t > 3)) n m l r q h t) = some b ∧ impl_GridRight.j0 (k + 1) (!decide (0 ≤ t ∧ t ≤ 3)) n m l r q h t = some b := by
              by_cases f1 : t < 0
              · rw [if_pos f1, decide_eq_false (show ¬ (0 ≤ t ∧ t ≤ 3) by omega)]
                exact ⟨false, GridRight.j_t⟩
              · rw [if_neg f1]
                by_cases f2 : t > 3
                · rw [decide_eq_true f2, decide_eq_false (show ¬ (0 ≤ t ∧ t ≤ 3) by omega)]
                  exact ⟨false, GridRight.j_t⟩
                · rw [decide_eq_false f2, decide_eq_true (show 0 ≤ t ∧ t ≤ 3 by omega)]
                  exact hj
            cases h
            · rw [if_neg (show ¬ false = true by decide), if_neg (show ¬ false = true by decide)]
              exact ht
            · rw [if_pos rfl, if_pos rfl]
              by_cases e6 : q = (m : Int) - 1
              · rw [if_pos e6, if_pos e6]
                exact ht
              · rw [if_neg e6, if_neg e6]
                exact ⟨false, GridRight.j_t⟩
          · rw [decide_eq_false e5, if_neg (show ¬ false = true by decide), GridRight.j_t.2]
            refine ⟨false, ?_, rfl⟩
            by_cases f1 : q < 0
            · rw [if_pos f1, GridRight.j_t.1]
            · rw [if_neg f1, if_pos (by omega), GridRight.j_t.1]
        · rw [decide_eq_false e4, if_neg (show ¬ false = true by decide), GridRight.j_t.2]
          refine ⟨false, ?_, rfl⟩
          by_cases f1 : r < 0
          · rw [if_pos f1, GridRight.j_t.1]
          · rw [if_neg f1, if_pos (by omega), GridRight.j_t.1]
      · have z : ¬ (l.length : Int) = ((n * m : Nat) : Int) := by omega
        rw [if_neg z, if_neg z]
        exact ⟨false, GridRight.j_t⟩
    · rw [decide_eq_false e2, if_neg (show ¬ false = true by decide), if_neg (show ¬ false = true by decide)]
      exact ⟨false, GridRight.j_t⟩
  · rw [decide_eq_false e1, Bool.false_and, if_neg (show ¬ false = true by decide), if_neg (show ¬ false = true by decide)]
    exact ⟨false, GridRight.j_t⟩
theorem GridRight.size {a c : Int} {l : List S84} {r q : Int} {h : Bool} {t : Int} {k : Nat} (hl : l.length ≤ 1048576) (e : spec_GridRight.f k a c l r q h t = some true) : ∃ n m : Nat, a = (n : Int) ∧ c = (m : Int) ∧ 1 ≤ n ∧ n ≤ 24 ∧ 2 ≤ m ∧ m ≤ 80 ∧ l.length = n * m := by
  have hj : ∀ k, ¬ spec_GridRight.j0 k true a c l r q h t = some true := by
    intro k e
    cases k with
    | zero => rw [spec_GridRight.j0] at e; cases e
    | succ k => rw [spec_GridRight.j0, if_pos rfl] at e; cases e
  unfold spec_GridRight.f at e
  rw [spec_l08Size.eq] at e
  simp only [Option.bind_some] at e
  by_cases e1 : 1 ≤ a ∧ a ≤ 24
  · by_cases e2 : 2 ≤ c ∧ c ≤ 80
    · rw [decide_eq_true e1, decide_eq_true e2, if_pos (show (true && true) = true from rfl)] at e
      obtain ⟨n, rfl⟩ : ∃ n : Nat, a = (n : Int) := ⟨a.toNat, by omega⟩
      obtain ⟨m, rfl⟩ : ∃ m : Nat, c = (m : Int) := ⟨c.toNat, by omega⟩
      have hp : n * m ≤ 24 * 80 := Nat.mul_le_mul (by omega) (by omega)
      have hw : wrap64 ((n : Int) * (m : Int)) = ((n * m : Nat) : Int) := by rw [← Int.natCast_mul]; exact wrap_in (by omega) (by omega)
      rw [hw] at e
      by_cases e3 : (l.length : Int) = ((n * m : Nat) : Int)
      · exact ⟨n, m, rfl, rfl, by omega, by omega, by omega, by omega, by omega⟩
      · rw [if_neg e3] at e
        exact absurd e (hj _)
    · rw [decide_eq_false e2, Bool.and_false, if_neg (show ¬ false = true by decide)] at e
      exact absurd e (hj _)
  · rw [decide_eq_false e1, Bool.false_and, if_neg (show ¬ false = true by decide)] at e
    exact absurd e (hj _)
def halfV (l : List S84) (m i : Nat) : Bool := decide (i % m > 0) && wideB (rd_T84 l ((i - 1 : Nat) : Int)).f0
theorem half.eq {a : Int} {l : List S84} {r q : Int} {h : Bool} {t : Int} {m i k : Nat} (hm : 2 ≤ m) (hi : i < l.length) (hl : l.length ≤ 1048576) (hk : 8 < k) : spec_l08Half.f k a (m : Int) l r q h t (i : Int) = some (halfV l m i) ∧ impl_Grid_isRightHalf.f k a (m : Int) l r q h t (i : Int) = some (halfV l m i) := by
  have z : ¬ (m : Int) = 0 := by omega
  unfold spec_l08Half.f impl_Grid_isRightHalf.f halfV
  rw [if_neg z, if_neg z, ← Int.ofNat_tmod]
  by_cases g : i % m > 0
  · have g1 : ((i % m : Nat) : Int) > 0 := by omega
    have hi1 : 1 ≤ i := by
      rcases Nat.eq_zero_or_pos i with e | e
      · rw [e, Nat.zero_mod] at g; omega
      · exact e
    have e1 : wrap64 ((i : Int) - 1) = ((i - 1 : Nat) : Int) := by rw [wrap_in (by omega) (by omega)]; omega
    have g2 : ((i - 1 : Nat) : Int) < (l.length : Int) := by omega
    rw [if_pos g1, if_pos g1, e1, if_pos (int_nn (i - 1)), if_pos (int_nn (i - 1)), if_pos g2, if_pos g2, spec_l08Wide.eq _ _ (by omega), impl_Cell_isWide.eq _ _ hk, decide_eq_true g, Bool.true_and]
    exact ⟨rfl, rfl⟩
  · have g1 : ¬ ((i % m : Nat) : Int) > 0 := by omega
    rw [if_neg g1, if_neg g1, decide_eq_false g, Bool.false_and]
    exact ⟨rfl, rfl⟩
def flF (l : List S84) (m : Nat) : Nat → Nat → Bool → Bool
  | 0, _, _ => true
  | d + 1, i, o => if halfV l m i = true then flF l m d (i + 1) (if i % m = 0 then false else o) else (if (rd_T84 l (i : Int)).f0.length = 0 then (if (rd_T84 l (i : Int)).f1 = 0 then flF l m d (i + 1) true else false) else (if (if i % m = 0 then false else o) = true then false else flF l m d (i + 1) (if i % m = 0 then false else o)))
theorem flF_reset {l : List S84} {m d i : Nat} {o : Bool} (h : i % m = 0) : flF l m d i o = flF l m d i false := by
  cases d with
  | zero => rfl
  | succ d => simp only [flF, h, if_true]
theorem impl_FlatRight.loop (a : Int) (l : List S84) (r q : Int) (h : Bool) (t : Int) (m : Nat) (hm : 2 ≤ m) (hl : l.length ≤ 1048576) (d : Nat) : ∀ (k i : Nat) (o : Bool), i ≤ l.length → l.length - i = d → 2 * d + 10 < k → impl_FlatRight.l0 k o (l.length : Int) (i : Int) a (m : Int) l r q h t = some (flF l m d i o) := by
  have z : ¬ (m : Int) = 0 := by omega
  induction d with
  | zero =>
    intro k i o hi hd hk
    obtain ⟨k, rfl⟩ : ∃ m, k = m + 1 := ⟨k - 1, by omega⟩
    rw [impl_FlatRight.l0, if_neg (by omega)]
    rfl
  | succ d ih =>
    intro k i o hi hd hk
    obtain ⟨k, rfl⟩ : ∃ m, k = m + 2 := ⟨k - 2, by omega⟩
    have hlt : i < l.length := by omega
    have hj : ∀ o : Bool, impl_FlatRight.j2 (k + 1) o (i : Int) (l.length : Int) (i : Int) a (m : Int) l r q h t = some (if halfV l m i = true then flF l m d (i + 1) o else (if (rd_T84 l (i : Int)).f0.length = 0 then (if (rd_T84 l (i : Int)).f1 = 0 then flF l m d (i + 1) true else false) else (if o = true then false else flF l m d (i + 1) o))) := by
      intro o
      rw [impl_FlatRight.j2, if_pos (int_nn i), if_pos (int_lt hlt), (half.eq hm hlt hl (by omega)).2, wrap_succ (by omega), impl_Cell_isEmpty.f]
      simp only [Option.bind_some]
      rw [ih k (i + 1) o (by omega) (by omega) (by omega), ih k (i + 1) true (by omega) (by omega) (by omega)]
      by_cases g : halfV l m i = true
      · rw [if_pos g, if_pos g]
      · rw [if_neg g, if_neg g]
        by_cases g2 : (rd_T84 l (i : Int)).f0.length = 0
        · rw [if_pos (show (((rd_T84 l (i : Int)).f0.length : Int) == 0) = true by rw [beq_iff_eq]; omega), if_pos g2]
          split <;> rfl
        · rw [if_neg (show ¬ (((rd_T84 l (i : Int)).f0.length : Int) == 0) = true by rw [beq_iff_eq]; omega), if_neg g2]
          split <;> rfl
    rw [impl_FlatRight.l0, if_pos (int_lt hlt), if_neg z, ← Int.ofNat_tmod, hj, hj, flF]
    by_cases g : i % m = 0
    · rw [if_pos (show ((i % m : Nat) : Int) = 0 by omega)]
      simp only [g, if_true]
    · rw [if_neg (show ¬ ((i % m : Nat) : Int) = 0 by omega)]
      simp only [g, if_false]
theorem spec_FlatRight.loop (l : List S84) (r q : Int) (h : Bool) (t : Int) (n m : Nat) (hn : n ≤ 24) (hm : 2 ≤ m) (hm2 : m ≤ 80) (hlen : l.length = n * m) (d : Nat) : ∀ (k row j : Nat) (o : Bool), j ≤ m → row < n → n * m - (row * m + j) = d → (j = 0 → o = false) → 4 * d + 20 < k → spec_FlatRight.l1 k (row : Int) o (j : Int) (n : Int) (m : Int) l r q h t = some (flF l m d (row * m + j) o) := by
  have hp : n * m ≤ 24 * 80 := Nat.mul_le_mul (by omega) (by omega)
  have hl : l.length ≤ 1048576 := by omega
  have hrow : ∀ row, row < n → row * m + m ≤ n * m := fun row hr => by rw [← Nat.succ_mul]; exact Nat.mul_le_mul_right m hr
  -- within a row
  have inner : ∀ d, (∀ (k row j : Nat) (o : Bool), j ≤ m → row < n → n * m - (row * m + j) = d → (j = 0 → o = false) → 4 * d + 20 < k → spec_FlatRight.l1 k (row : Int) o (j : Int) (n : Int) (m : Int) l r q h t = some (flF l m d (row * m + j) o)) → ∀ (k row j : Nat) (o : Bool), j < m → row < n → n * m - (row * m + j) = d + 1 → (j = 0 → o = false) → 4 * d + 22 < k → spec_FlatRight.l1 k (row : Int) o (j : Int) (n : Int) (m : Int) l r q h t = some (flF l m (d + 1) (row * m + j) o) := by
    intro d ih k row j o hj hr hd ho hk
    obtain ⟨k, rfl⟩ : ∃ m, k = m + 1 := ⟨k - 1, by omega⟩
    have h1 := hrow row hr
    have hlt : row * m + j < l.length := by omega
    have q1 : n * m - (row * m + (j + 1)) = d := by
      rw [← Nat.add_assoc, ← Nat.sub_sub, hd]
      rfl
    have q2 : 4 * d + 20 < k := by omega
    have q3 : j + 1 ≤ m := hj
    obtain ⟨i1, hi1⟩ : ∃ i1, row * m + (j + 1) = i1 := ⟨_, rfl⟩
    have hi2 : row * m + j + 1 = i1 := hi1
    have hmod : (row * m + j) % m = j := by rw [Nat.mul_comm, Nat.mul_add_mod, Nat.mod_eq_of_lt hj]
    have hw : wrap64 (wrap64 ((row : Int) * (m : Int)) + (j : Int)) = ((row * m + j : Nat) : Int) := by
      rw [← Int.natCast_mul, wrap_in (x := ((row * m : Nat) : Int)) (by omega) (by omega), wrap_in (by omega) (by omega)]
      omega
    have e1 : ∀ o : Bool, spec_FlatRight.l1 k (row : Int) o ((j + 1 : Nat) : Int) (n : Int) (m : Int) l r q h t = some (flF l m d i1 o) := by
      intro o
      rw [← hi1]
      exact ih k row (j + 1) o q3 hr q1 (fun z => absurd z (Nat.succ_ne_zero j)) q2
    have ho2 : (if (row * m + j) % m = 0 then false else o) = o := by
      rw [hmod]
      by_cases g : j = 0
      · rw [if_pos g, ho g]
      · rw [if_neg g]
    rw [spec_FlatRight.l1, if_pos (show (j : Int) < (m : Int) by omega), hw, (half.eq hm hlt hl (by omega)).1, wrap_succ (by omega), flF, ho2, hi2, e1 o, e1 true]
    simp only [Option.bind_some]
    by_cases g : halfV l m (row * m + j) = true
    · rw [if_pos g, if_pos g]
    · rw [if_neg g, if_neg g, if_pos (int_nn (row * m + j)), if_pos (int_lt hlt)]
      by_cases g2 : (rd_T84 l ((row * m + j : Nat) : Int)).f0.length = 0
      · rw [if_pos (show (((rd_T84 l ((row * m + j : Nat) : Int)).f0.length : Int)) = 0 by omega), if_pos g2]
        split <;> rfl
      · rw [if_neg (show ¬ (((rd_T84 l ((row * m + j : Nat) : Int)).f0.length : Int)) = 0 by omega), if_neg g2]
        split <;> rfl
  induction d with
  | zero =>
    intro k row j o hj hr hd ho hk
    obtain ⟨k, rfl⟩ : ∃ m, k = m + 2 := ⟨k - 2, by omega⟩
    have h1 := hrow row hr
    have hjm : j = m := by omega
    have hrn : row + 1 = n := by
      rcases Nat.lt_or_ge (row + 1) n with e | e
      · have := hrow (row + 1) e
        rw [Nat.succ_mul] at this
        omega
      · omega
    rw [spec_FlatRight.l1, if_neg (show ¬ (j : Int) < (m : Int) by omega), wrap_succ (by omega), spec_FlatRight.l0, if_neg (show ¬ ((row + 1 : Nat) : Int) < (n : Int) by omega)]
    rfl
  | succ d ih =>
    intro k row j o hj hr hd ho hk
    rcases Nat.lt_or_ge j m with hjm | hjm
    · exact inner d ih k row j o hjm hr hd ho (by omega)
    · have hjm : j = m := by omega
      subst hjm
      obtain ⟨k, rfl⟩ : ∃ m, k = m + 2 := ⟨k - 2, by omega⟩
      have hs : (row + 1) * j = row * j + j := Nat.succ_mul row j
      have hrn : row + 1 < n := by
        rcases Nat.lt_or_ge (row + 1) n with e | e
        · exact e
        · have : n = row + 1 := by omega
          rw [this, hs] at hd
          omega
      rw [spec_FlatRight.l1, if_neg (show ¬ (j : Int) < (j : Int) by omega), wrap_succ (by omega), spec_FlatRight.l0, if_pos (show ((row + 1 : Nat) : Int) < (n : Int) by omega)]
      have := inner d ih k (row + 1) 0 false (by omega) hrn (by omega) (fun _ => rfl) (by omega)
      have hmod : (row * j + j) % j = 0 := by rw [← hs, Nat.mul_mod_left]
      rw [Nat.add_zero, hs] at this
      rw [flF_reset hmod]
      exact this
theorem FlatRight.eq (a c : Int) (l : List S84) (r q : Int) (h : Bool) (t : Int) {k : Nat} (hl : l.length ≤ 1048576) (hL : ∀ x ∈ l, x.f0.length ≤ 1048576) (hk : 3500000 < k) : ∃ b, spec_FlatRight.f k a c l r q h t = some b ∧ impl_FlatRight.f k a c l r q h t = some b := by
  obtain ⟨k, rfl⟩ : ∃ m, k = m + 2 := ⟨k - 2, by omega⟩
  obtain ⟨b, b1, b2⟩ := GridRight.eq a c l r q h t (k := k + 2) hl hL (by omega)
  unfold spec_FlatRight.f impl_FlatRight.f
  rw [b1, b2]
  simp only [Option.bind_some]
  have hT : spec_FlatRight.j0 (k + 2) true a c l r q h t = some false ∧ impl_FlatRight.j0 (k + 2) true a c l r q h t = some false := by
    rw [spec_FlatRight.j0, impl_FlatRight.j0]
    exact ⟨rfl, rfl⟩
  cases b
  · rw [if_neg (show ¬ false = true by decide), if_neg (show ¬ false = true by decide)]
    exact ⟨false, hT⟩
  · obtain ⟨n, m, rfl, rfl, n1, n2, m1, m2, hlen⟩ := GridRight.size hl b1
    rw [if_pos rfl, if_pos rfl]
    cases h
    · rw [if_neg (show ¬ false = true by decide), if_neg (show ¬ false = true by decide)]
      by_cases g : (t != 0) = true
      · rw [g]
        exact ⟨false, hT⟩
      · rw [Bool.not_eq_true] at g
        rw [g, spec_FlatRight.j0, impl_FlatRight.j0, if_neg (show ¬ false = true by decide), if_neg (show ¬ false = true by decide), impl_size_impl_Cell.f]
        simp only [Option.bind_some]
        refine ⟨flF l m l.length 0 false, ?_, ?_⟩
        · rw [spec_FlatRight.l0, if_pos (show (0 : Int) < (n : Int) by omega)]
          have := spec_FlatRight.loop l r q false t n m n2 m1 m2 hlen (n * m) k 0 0 false (by omega) (by omega) (by omega) (fun _ => rfl) (by have : n * m ≤ 24 * 80 := Nat.mul_le_mul n2 m2; omega)
          rw [hlen]
          refine (show _ = _ from this).trans ?_
          rw [Nat.zero_mul]
        · exact impl_FlatRight.loop (n : Int) l r q false t m m1 hl l.length (k + 1) 0 false (by omega) (by omega) (by omega)
    · rw [if_pos rfl, if_pos rfl]
      exact ⟨false, hT⟩

theorem FnExactFlatRight : laws_FnExactFlatRight.Pure := by
  intro a b l r c h t ⟨_, _, ⟨hl, hL⟩, _⟩
  have hl := maxLen_le hl
  refine ⟨4000000, ?_⟩
  unfold laws_FnExactFlatRight.f
  rw [laws_szGrid.eq (by omega) (by omega) hl (fun x hx => maxLen_le (hL x hx).1.1) (by omega)]
  simp only [Option.bind_some]
  by_cases g : (1048576 : Int) < ((l.length + szCells l : Nat) : Int)
  · rw [if_pos g, if_pos (by omega)]
  · rw [if_neg g, if_neg (by omega), laws_toGrid.eq (by omega) (by omega)]
    simp only [Option.bind_some]
    have o1 : (l.map cvCell).length ≤ 1048576 := by rw [List.length_map]; omega
    obtain ⟨v, v1, v2⟩ := FlatRight.eq a b (l.map cvCell) r c h t (k := 4000000) o1 (cvCell_ok (by omega)) (by omega)
    rw [v1, v2]
    simp only [Option.bind_some, bne_self_eq_false, Bool.false_eq_true, if_false, laws_FnExactFlatRight.j0]
    rw [laws_toGrid.eq (by omega) (by omega)]
    simp only [Option.bind_some]
    rw [laws_eqGrid.eq o1 (cvCell_ok (by omega)) (by omega)]
    simp

end Go.Proofs.Ytgkgicmobpnefaa.Pure
