/- Proved: the program's GridNew returns what the reference's returns, for all numbers of rows and columns, and its answer is memory of its own. No conditions. -/
import Derived.Test.YtegadjijonlmcaaPFnExactGridNewx2
namespace Go.Proofs.Ytegadjijonlmcaa.Pure
open Go.RowKit Go.Proofs.Ytegadjijonlmcaa.PFnExactGridNew Go.Proofs.YtegadjijonlmcaaW.PrintWords Go.Proofs.YtegadjijonlmcaaW.PrintLast Go.Proofs.YtegadjijonlmcaaW.PrintMore
set_option linter.unusedVariables false
set_option linter.unusedSimpArgs false

/-! ### plain words -/
theorem wrap_in {x : Int} (h0 : -9223372036854775808 ≤ x) (h1 : x ≤ 9223372036854775807) : wrap64 x = x := by unfold wrap64; omega
theorem wrap_succ {i : Nat} (h : i < 4611686018427387904) : wrap64 ((i : Int) + 1) = ((i + 1 : Nat) : Int) := by unfold wrap64; omega
theorem rd_nat (l : List Int) (i : Nat) : rd l (i : Int) = l.getD i 0 := by simp [rd]
theorem drop_rd {l : List Int} {i : Nat} (h : i < l.length) : l.drop i = rd l (i : Int) :: l.drop (i + 1) := by
  rw [rd_nat, List.drop_eq_getElem_cons h, List.getD_eq_getElem?_getD, List.getElem?_eq_getElem h]
  rfl
theorem int_lt {i n : Nat} (h : i < n) : (i : Int) < (n : Int) := by omega
theorem int_nlt {i n : Nat} (h : ¬ i < n) : ¬ (i : Int) < (n : Int) := by omega
theorem int_nn (i : Nat) : (0 : Int) ≤ (i : Int) := by omega
theorem maxLen_le {n : Nat} (h : n ≤ maxLen) : n ≤ 9223372036854775807 := by unfold maxLen at h; exact h
theorem some_b {a b : Bool} (h : a = true ↔ b = true) : some a = some b := congrArg some (Bool.eq_iff_iff.2 h)
def isPt (a : Int) : Bool := decide (0 ≤ a ∧ a ≤ 1114111 ∧ ¬ (55296 ≤ a ∧ a ≤ 57343))
def ptsOK (l : List Int) : Bool := decide (l.length ≤ 300) && l.all isPt
def bufOK (l : List Int) (c m : Int) : Bool := ptsOK l && decide (0 ≤ c ∧ c ≤ l.length) && decide (0 ≤ m ∧ m ≤ l.length)
def isCtl (a : Int) : Bool := decide (a < 32 ∨ a = 127)
def isWide2 (a : Int) : Bool := decide ((4352 ≤ a ∧ a ≤ 4447) ∨ (11904 ≤ a ∧ a ≤ 42191) ∨ (44032 ≤ a ∧ a ≤ 55203) ∨ (63744 ≤ a ∧ a ≤ 64255) ∨ (65281 ≤ a ∧ a ≤ 65376) ∨ (127744 ≤ a ∧ a ≤ 129791))
def wid (a : Int) : Int := if isPt a = true ∧ ¬ (768 ≤ a ∧ a ≤ 879) then (if isCtl a = true ∨ isWide2 a = true then 2 else 1) else 0
def cl2 (a : Int) : Int := if (97 ≤ a ∧ a ≤ 122) ∨ (65 ≤ a ∧ a ≤ 90) ∨ (48 ≤ a ∧ a ≤ 57) ∨ a = 95 ∨ 128 ≤ a then 2 else 3
def cls (a : Int) : Int := if isPt a = true then (if a = 32 ∨ a = 9 ∨ a = 10 then 1 else cl2 a) else 0
theorem ptsOK_len {l : List Int} (h : ptsOK l = true) : l.length ≤ 300 := by
  unfold ptsOK at h
  simp only [Bool.and_eq_true, decide_eq_true_eq] at h
  exact h.1
theorem bufOK_len {l : List Int} {c m : Int} (h : bufOK l c m = true) : l.length ≤ 300 := by
  unfold bufOK at h
  simp only [Bool.and_eq_true] at h
  exact ptsOK_len h.1.1
theorem bufOK_all {l : List Int} {c m : Int} (h : bufOK l c m = true) : l.length ≤ 300 ∧ 0 ≤ c ∧ c ≤ l.length ∧ 0 ≤ m ∧ m ≤ l.length := by
  have hl := bufOK_len h
  unfold bufOK at h
  simp only [Bool.and_eq_true, decide_eq_true_eq] at h
  exact ⟨hl, h.1.2.1, h.1.2.2, h.2.1, h.2.2⟩
theorem laws_eqInt64S.loop (a b : List Int) (hab : a.length = b.length) (hl : a.length ≤ 1048576) (d : Nat) : ∀ (k i : Nat), i ≤ a.length → a.length - i = d → d < k → laws_eqInt64S.l0 k a b (i : Int) = some (decide (a.drop i = b.drop i)) := by
  induction d with
  | zero =>
    intro k i hi hd hk
    obtain ⟨k, rfl⟩ : ∃ m, k = m + 1 := ⟨k - 1, by omega⟩
    simp only [laws_eqInt64S.l0]
    rw [if_neg (by omega), List.drop_eq_nil_of_le (by omega), List.drop_eq_nil_of_le (by omega)]
    rfl
  | succ d ih =>
    intro k i hi hd hk
    obtain ⟨k, rfl⟩ : ∃ m, k = m + 1 := ⟨k - 1, by omega⟩
    have hlt : i < a.length := by omega
    simp only [laws_eqInt64S.l0]
    rw [if_pos (int_lt hlt), if_pos (int_nn i), if_pos (by omega), wrap_succ (by omega), ih k (i + 1) (by omega) (by omega) (by omega), drop_rd hlt, drop_rd (show i < b.length by omega)]
    by_cases h : rd a (i : Int) = rd b (i : Int)
    · rw [if_pos h, h]
      simp
    · rw [if_neg h]
      simp [h]
theorem laws_eqInt64S.eq {a b : List Int} {k : Nat} (hl : a.length ≤ 1048576) (hk : a.length < k) : laws_eqInt64S.f k a b = some (decide (a = b)) := by
  unfold laws_eqInt64S.f
  by_cases h : a.length = b.length
  · rw [if_pos (by omega)]
    have := laws_eqInt64S.loop a b h hl a.length k 0 (by omega) (by omega) hk
    simpa using this
  · rw [if_neg (by omega)]
    refine congrArg some (decide_eq_false (fun e => h (by rw [e]))).symm
theorem laws_eqCell.eq {a b : List Int} {c c' : Int} {k : Nat} (hl : a.length ≤ 1048576) (hk : a.length < k) : laws_eqCell.f k a c b c' = some (decide (a = b ∧ c = c')) := by
  unfold laws_eqCell.f
  rw [laws_eqInt64S.eq hl hk]
  simp only [Option.bind_some, decide_eq_true_eq]
  by_cases h1 : a = b
  · by_cases h2 : c = c'
    · simp [h1, h2]
    · simp [h1, h2]
  · simp [h1]
theorem rdCellB {l : List (S97)} {i : Nat} (h : i < l.length) : rd_T97 l (i : Int) = l[i] := by
  unfold rd_T97
  rw [Int.toNat_natCast, List.getD_eq_getElem?_getD, List.getElem?_eq_getElem h]
  rfl
theorem cell_eq (a b : S97) : (a.f0 = b.f0 ∧ a.f1 = b.f1) ↔ a = b := by
  constructor
  · intro e
    rcases a with ⟨p0, p1⟩
    rcases b with ⟨q0, q1⟩
    simp only at e
    obtain ⟨e0, e1⟩ := e
    rw [e0, e1]
  · intro e
    rw [e]
    exact ⟨rfl, rfl⟩
instance decCell : DecidableEq S97 := fun a b => decidable_of_iff _ (cell_eq a b)
theorem laws_eqCellS.loop (a b : List (S97)) (hab : a.length = b.length) (hl : a.length ≤ 1048576) (hL : ∀ x ∈ a, x.f0.length ≤ 1048576) (d : Nat) : ∀ (k i : Nat), i ≤ a.length → a.length - i = d → d + 1048577 < k → laws_eqCellS.l0 k a b (i : Int) = some (decide (a.drop i = b.drop i)) := by
  induction d with
  | zero =>
    intro k i hi hd hk
    obtain ⟨k, rfl⟩ : ∃ m, k = m + 1 := ⟨k - 1, by omega⟩
    simp only [laws_eqCellS.l0]
    rw [if_neg (by omega), List.drop_eq_nil_of_le (by omega), List.drop_eq_nil_of_le (by omega)]
    rfl
  | succ d ih =>
    intro k i hi hd hk
    obtain ⟨k, rfl⟩ : ∃ m, k = m + 1 := ⟨k - 1, by omega⟩
    have hlt : i < a.length := by omega
    have hlb : i < b.length := by omega
    have h1 := hL a[i] (List.getElem_mem hlt)
    simp only [laws_eqCellS.l0]
    rw [if_pos (int_lt hlt), if_pos (int_nn i), if_pos (by omega), rdCellB hlt, rdCellB hlb, laws_eqCell.eq h1 (by omega), wrap_succ (by omega), ih k (i + 1) (by omega) (by omega) (by omega), List.drop_eq_getElem_cons hlt, List.drop_eq_getElem_cons hlb]
    simp only [Option.bind_some, decide_eq_true_eq]
    have hq := cell_eq a[i] b[i]
    by_cases h : a[i] = b[i]
    · rw [if_pos (hq.2 h), h]
      refine congrArg some (decide_eq_decide.2 ⟨fun e => by rw [e], fun e => (List.cons.inj e).2⟩)
    · rw [if_neg (fun e => h (hq.1 e))]
      exact congrArg some (decide_eq_false (fun e => h (List.cons.inj e).1)).symm
theorem laws_eqCellS.eq {a b : List (S97)} {k : Nat} (hl : a.length ≤ 1048576) (hL : ∀ x ∈ a, x.f0.length ≤ 1048576) (hk : 3000000 < k) : laws_eqCellS.f k a b = some (decide (a = b)) := by
  unfold laws_eqCellS.f
  by_cases h : a.length = b.length
  · rw [if_pos (by omega)]
    have := laws_eqCellS.loop a b h hl hL a.length k 0 (by omega) (by omega) (by omega)
    simpa using this
  · rw [if_neg (by omega)]
    refine congrArg some (decide_eq_false (fun e => h (by rw [e]))).symm
theorem laws_eqGrid.eq {l l' : List S97} {a b r c a' b' r' c' : Int} {h h' : Bool} {t t' : Int} {k : Nat} (hl : l.length ≤ 1048576) (hL : ∀ x ∈ l, x.f0.length ≤ 1048576) (hk : 3000000 < k) : laws_eqGrid.f k a b l r c h t a' b' l' r' c' h' t' = some (decide (a = a' ∧ b = b' ∧ l = l' ∧ r = r' ∧ c = c' ∧ h = h' ∧ t = t')) := by
  unfold laws_eqGrid.f
  rw [laws_eqCellS.eq hl hL hk]
  simp only [Option.bind_some, decide_eq_true_eq]
  by_cases e1 : a = a'
  · by_cases e2 : b = b'
    · by_cases e3 : l = l'
      · by_cases e4 : r = r'
        · by_cases e5 : c = c'
          · by_cases e6 : h = h'
            · by_cases e7 : t = t'
              · simp [e1, e2, e3, e4, e5, e6, e7]
              · simp [e1, e2, e3, e4, e5, e6, e7]
            · simp [e1, e2, e3, e4, e5, e6]
          · simp [e1, e2, e3, e4, e5]
        · simp [e1, e2, e3, e4]
      · simp [e1, e2, e3]
    · simp [e1, e2]
  · simp [e1]
/-- the row of marks -/
def mkL : Nat → Int → List Int
  | 0, _ => []
  | n + 1, a => mkL n a ++ [a + (n : Int)]
theorem mkL_zero (a : Int) : mkL 0 a = [] := rfl
theorem mkL_succ (n : Nat) (a : Int) : mkL (n + 1) a = mkL n a ++ [a + (n : Int)] := rfl
theorem mkL_length (n : Nat) (a : Int) : (mkL n a).length = n := by
  induction n with
  | zero => rfl
  | succ n ih => rw [mkL_succ, List.length_append, ih]; rfl
theorem mkL_rd {n : Nat} {a : Int} : ∀ {i : Nat}, i < n → rd (mkL n a) (i : Int) = a + (i : Int) := by
  induction n with
  | zero => intro i h; omega
  | succ n ih =>
    intro i h
    rw [rd_nat, mkL_succ, List.getD_eq_getElem?_getD]
    by_cases e : i = n
    · subst e
      rw [List.getElem?_append_right (by rw [mkL_length]; omega), mkL_length]
      simp
    · rw [List.getElem?_append_left (by rw [mkL_length]; omega)]
      have := ih (i := i) (by omega)
      rw [rd_nat, List.getD_eq_getElem?_getD] at this
      exact this
theorem laws_markInt64S.loop (l : List Int) (hl : l.length ≤ 1048576) (a : Int) (h0 : 0 ≤ a) (h1 : a ≤ 4000000000) (d : Nat) : ∀ (k i : Nat), i ≤ l.length → l.length - i = d → d < k → laws_markInt64S.l0 k (mkL i a ++ l.drop i) (a + (i : Int)) (i : Int) = some (a + (l.length : Int), mkL l.length a) := by
  induction d with
  | zero =>
    intro k i hi hd hk
    obtain ⟨k, rfl⟩ : ∃ m, k = m + 1 := ⟨k - 1, by omega⟩
    obtain rfl : i = l.length := by omega
    simp only [laws_markInt64S.l0]
    rw [List.drop_length, List.append_nil, mkL_length, if_neg (by omega)]
  | succ d ih =>
    intro k i hi hd hk
    obtain ⟨k, rfl⟩ : ∃ m, k = m + 1 := ⟨k - 1, by omega⟩
    have hlt : i < l.length := by omega
    have hlen : (mkL i a ++ l.drop i).length = l.length := by rw [List.length_append, mkL_length, List.length_drop]; omega
    simp only [laws_markInt64S.l0]
    rw [if_pos (by omega), if_pos (int_nn i), wrap_succ (by omega), wrap_in (by omega) (by omega), Int.toNat_natCast]
    have hs : (mkL i a ++ l.drop i).set i (a + (i : Int)) = mkL (i + 1) a ++ l.drop (i + 1) := by
      rw [List.set_append_right _ _ (by rw [mkL_length]; omega), mkL_length, Nat.sub_self, drop_rd hlt, List.set_cons_zero, mkL_succ, List.append_assoc]
      rfl
    rw [hs, show a + (i : Int) + 1 = a + ((i + 1 : Nat) : Int) by omega]
    exact ih k (i + 1) (by omega) (by omega) (by omega)
theorem laws_markInt64S.eq {l : List Int} {a : Int} {k : Nat} (hl : l.length ≤ 1048576) (h0 : 0 ≤ a) (h1 : a ≤ 4000000000) (hk : l.length < k) : laws_markInt64S.f k l a = some (a + (l.length : Int), mkL l.length a) := by
  have := laws_markInt64S.loop l hl a h0 h1 l.length k 0 (by omega) (by omega) hk
  rw [mkL_zero, List.drop_zero] at this
  unfold laws_markInt64S.f
  simpa using this
theorem laws_heldInt64S.loop (n : Nat) (hl : n ≤ 1048576) (a : Int) (h0 : 0 ≤ a) (h1 : a ≤ 4000000000) (d : Nat) : ∀ (k i : Nat), i ≤ n → n - i = d → d < k → laws_heldInt64S.l0 k (mkL n a) (a + (i : Int)) (i : Int) = some (a + (n : Int)) := by
  induction d with
  | zero =>
    intro k i hi hd hk
    obtain ⟨k, rfl⟩ : ∃ m, k = m + 1 := ⟨k - 1, by omega⟩
    obtain rfl : i = n := by omega
    simp only [laws_heldInt64S.l0]
    rw [mkL_length, if_neg (by omega)]
  | succ d ih =>
    intro k i hi hd hk
    obtain ⟨k, rfl⟩ : ∃ m, k = m + 1 := ⟨k - 1, by omega⟩
    have hlt : i < n := by omega
    simp only [laws_heldInt64S.l0]
    rw [mkL_length, if_pos (int_lt hlt), if_pos (int_nn i), mkL_rd hlt, if_pos rfl, wrap_succ (by omega), wrap_in (by omega) (by omega), show a + (i : Int) + 1 = a + ((i + 1 : Nat) : Int) by omega]
    exact ih k (i + 1) (by omega) (by omega) (by omega)
theorem laws_heldInt64S.eq {n : Nat} {a : Int} {k : Nat} (hl : n ≤ 1048576) (h0 : 0 ≤ a) (h1 : a ≤ 4000000000) (hk : n < k) : laws_heldInt64S.f k (mkL n a) a = some (a + (n : Int)) := by
  have := laws_heldInt64S.loop n hl a h0 h1 n k 0 (by omega) (by omega) hk
  unfold laws_heldInt64S.f
  simpa using this
def szM : List S97 → Nat
  | [] => 0
  | x :: l => x.f0.length + 1 + szM l
theorem szM_nil : szM [] = 0 := rfl
theorem szM_cons (x : S97) (l : List S97) : szM (x :: l) = x.f0.length + 1 + szM l := rfl
/-- the cells of marks -/
def mkC : List S97 → Int → List S97
  | [], _ => []
  | x :: l, a => ⟨mkL x.f0.length a, a + (x.f0.length : Int)⟩ :: mkC l (a + (x.f0.length : Int) + 1)
theorem mkC_nil (a : Int) : mkC [] a = [] := rfl
theorem mkC_cons (x : S97) (l : List S97) (a : Int) : mkC (x :: l) a = ⟨mkL x.f0.length a, a + (x.f0.length : Int)⟩ :: mkC l (a + (x.f0.length : Int) + 1) := rfl
theorem laws_markCellS.loop (l : List S97) : ∀ (pre : List S97) (k : Nat) (a : Int), pre.length + l.length ≤ 1048576 → szM l ≤ 1048576 → 0 ≤ a → a + (szM l : Int) ≤ 4000000000 → l.length + 1048577 < k → laws_markCellS.l0 k (pre ++ l) a (pre.length : Int) = some (a + (szM l : Int), pre ++ mkC l a) := by
  induction l with
  | nil =>
    intro pre k a h1 h2 h3 h4 hk
    obtain ⟨k, rfl⟩ : ∃ m, k = m + 1 := ⟨k - 1, by omega⟩
    simp only [laws_markCellS.l0]
    rw [if_neg (by simp), mkC_nil, szM_nil]
    simp
  | cons x l ih =>
    intro pre k a h1 h2 h3 h4 hk
    obtain ⟨k, rfl⟩ : ∃ m, k = m + 1 := ⟨k - 1, by omega⟩
    rw [szM_cons] at h2 h4
    rw [List.length_cons] at h1 hk
    simp only [laws_markCellS.l0]
    rw [if_pos (by rw [List.length_append, List.length_cons]; omega), if_pos (by omega)]
    have e1 : (pre ++ x :: l).getD ((pre.length : Int)).toNat z97 = x := by
      rw [Int.toNat_natCast, List.getD_eq_getElem?_getD, List.getElem?_append_right (Nat.le_refl _), Nat.sub_self]
      rfl
    rw [e1, laws_markInt64S.eq (by omega) h3 (by omega) (by omega)]
    simp only [Option.bind_some]
    have e2 : (pre ++ x :: l).set ((pre.length : Int)).toNat ⟨mkL x.f0.length a, a + (x.f0.length : Int)⟩ = (pre ++ [⟨mkL x.f0.length a, a + (x.f0.length : Int)⟩]) ++ l := by
      rw [Int.toNat_natCast, List.set_append_right _ _ (Nat.le_refl _), Nat.sub_self, List.set_cons_zero, List.append_assoc]
      rfl
    rw [e2, wrap_succ (by omega), wrap_in (by omega) (by omega)]
    have := ih (pre ++ [⟨mkL x.f0.length a, a + (x.f0.length : Int)⟩]) k (a + (x.f0.length : Int) + 1) (by rw [List.length_append, List.length_singleton]; omega) (by omega) (by omega) (by omega) (by omega)
    rw [List.length_append, List.length_singleton] at this
    rw [this, mkC_cons, szM_cons, List.append_assoc]
    refine congrArg some ?_
    refine Prod.ext ?_ rfl
    show a + (x.f0.length : Int) + 1 + (szM l : Int) = a + ((x.f0.length + 1 + szM l : Nat) : Int)
    omega
theorem laws_markCellS.eq {l : List S97} {a : Int} {k : Nat} (h : l.length ≤ 1048576) (h2 : szM l ≤ 1048576) (h0 : 0 ≤ a) (h1 : a ≤ 2000000000) (hk : 3000000 < k) : laws_markCellS.f k l a = some (a + (szM l : Int), mkC l a) := by
  have := laws_markCellS.loop l [] k a (by simp only [List.length_nil]; omega) h2 h0 (by omega) (by omega)
  exact this
theorem laws_heldCellS.loop (l : List S97) : ∀ (pre : List S97) (k : Nat) (a : Int), pre.length + l.length ≤ 1048576 → szM l ≤ 1048576 → 0 ≤ a → a + (szM l : Int) ≤ 4000000000 → l.length + 1048577 < k → laws_heldCellS.l0 k (pre ++ mkC l a) a (pre.length : Int) = some (a + (szM l : Int)) := by
  induction l with
  | nil =>
    intro pre k a h1 h2 h3 h4 hk
    obtain ⟨k, rfl⟩ : ∃ m, k = m + 1 := ⟨k - 1, by omega⟩
    simp only [laws_heldCellS.l0]
    rw [if_neg (by rw [mkC_nil]; simp), szM_nil]
    simp
  | cons x l ih =>
    intro pre k a h1 h2 h3 h4 hk
    obtain ⟨k, rfl⟩ : ∃ m, k = m + 1 := ⟨k - 1, by omega⟩
    rw [szM_cons] at h2 h4
    rw [List.length_cons] at h1 hk
    simp only [laws_heldCellS.l0]
    rw [mkC_cons, if_pos (by rw [List.length_append, List.length_cons]; omega), if_pos (by omega)]
    have e1 : rd_T97 (pre ++ (⟨mkL x.f0.length a, a + (x.f0.length : Int)⟩ : S97) :: mkC l (a + (x.f0.length : Int) + 1)) (pre.length : Int) = ⟨mkL x.f0.length a, a + (x.f0.length : Int)⟩ := by
      unfold rd_T97
      rw [Int.toNat_natCast, List.getD_eq_getElem?_getD, List.getElem?_append_right (Nat.le_refl _), Nat.sub_self]
      rfl
    rw [e1, laws_heldInt64S.eq (by omega) h3 (by omega) (by omega)]
    simp only [Option.bind_some]
    rw [if_neg (by omega), if_pos trivial, wrap_succ (by omega), wrap_in (by omega) (by omega)]
    have := ih (pre ++ [⟨mkL x.f0.length a, a + (x.f0.length : Int)⟩]) k (a + (x.f0.length : Int) + 1) (by rw [List.length_append, List.length_singleton]; omega) (by omega) (by omega) (by omega) (by omega)
    rw [List.length_append, List.length_singleton, List.append_assoc] at this
    refine Eq.trans this ?_
    rw [szM_cons]
    refine congrArg some ?_
    omega
theorem laws_heldCellS.eq {l : List S97} {a : Int} {k : Nat} (h : l.length ≤ 1048576) (h2 : szM l ≤ 1048576) (h0 : 0 ≤ a) (h1 : a ≤ 2000000000) (hk : 3000000 < k) : laws_heldCellS.f k (mkC l a) a = some (a + (szM l : Int)) := by
  have := laws_heldCellS.loop l [] k a (by simp only [List.length_nil]; omega) h2 h0 (by omega) (by omega)
  exact this
theorem impl_within.eq (a b c : Int) : impl_within.f a b c = some (decide (b ≤ a ∧ a ≤ c)) := by
  unfold impl_within.f
  by_cases h : b ≤ a <;> simp [h]
theorem szM_rep (n : Nat) : szM (List.replicate n z97) = n := by
  induction n with
  | zero => rfl
  | succ n ih =>
    rw [List.replicate_succ, szM_cons, ih]
    show 0 + 1 + n = n + 1
    omega
def gnewV (r c : Int) : Int × Int × List S97 × Int × Int × Bool × Int :=
  if (1 ≤ r ∧ r ≤ 24) ∧ (2 ≤ c ∧ c ≤ 80) then (r, c, List.replicate (r * c).toNat z97, 0, 0, false, 0) else (0, 0, [], 0, 0, false, 0)
theorem mul_in {r c : Int} (h1 : 1 ≤ r ∧ r ≤ 24) (h2 : 2 ≤ c ∧ c ≤ 80) : 0 ≤ r * c ∧ r * c ≤ 1920 :=
  ⟨Int.mul_nonneg (by omega) (by omega), Int.le_trans (Int.mul_le_mul_of_nonneg_right h1.2 (by omega)) (by omega)⟩
theorem gnewV_ok (r c : Int) : ∃ a b l x y h t, gnewV r c = (a, b, l, x, y, h, t) ∧ l.length ≤ 1048576 ∧ szM l ≤ 1048576 ∧ ∀ z ∈ l, z.f0.length ≤ 1048576 := by
  unfold gnewV
  by_cases h : (1 ≤ r ∧ r ≤ 24) ∧ (2 ≤ c ∧ c ≤ 80)
  · have hm := mul_in h.1 h.2
    rw [if_pos h]
    refine ⟨_, _, _, _, _, _, _, rfl, by rw [List.length_replicate]; omega, by rw [szM_rep]; omega, fun z hz => ?_⟩
    rw [(List.mem_replicate.1 hz).2]
    show 0 ≤ 1048576
    omega
  · rw [if_neg h]
    exact ⟨_, _, _, _, _, _, _, rfl, by decide, by decide, fun z hz => by cases hz⟩
theorem spec_GridNew.eq (r c : Int) : spec_GridNew.f r c = some (gnewV r c) := by
  have e : spec_l08Size.f r c = some (decide ((1 ≤ r ∧ r ≤ 24) ∧ (2 ≤ c ∧ c ≤ 80))) := by
    unfold spec_l08Size.f
    (repeat' split) <;> refine congrArg some ?_ <;> first | (symm; rw [decide_eq_false_iff_not]; omega) | exact decide_eq_decide.2 (by omega)
  unfold spec_GridNew.f gnewV
  rw [e]
  simp only [Option.bind_some, decide_eq_true_eq]
  by_cases h : (1 ≤ r ∧ r ≤ 24) ∧ (2 ≤ c ∧ c ≤ 80)
  · have hm := mul_in h.1 h.2
    rw [if_pos h, if_pos h, wrap_in (by omega) (by omega), if_pos hm.1, if_pos (by omega)]
  · rw [if_neg h, if_neg h]
theorem impl_GridNew.eq (r c : Int) : impl_GridNew.f r c = some (gnewV r c) := by
  unfold impl_GridNew.f gnewV impl_isRows.f impl_isCols.f
  simp only [impl_within.eq, Option.bind_some, decide_eq_true_eq]
  by_cases h1 : 1 ≤ r ∧ r ≤ 24
  · rw [if_pos h1]
    by_cases h2 : 2 ≤ c ∧ c ≤ 80
    · have hm := mul_in h1 h2
      rw [if_pos h2, if_pos (show (1 ≤ r ∧ r ≤ 24) ∧ (2 ≤ c ∧ c ≤ 80) from ⟨h1, h2⟩), wrap_in (by omega) (by omega), if_pos hm.1, if_pos (by omega)]
    · rw [if_neg h2, if_neg (fun g => h2 g.2)]
  · rw [if_neg h1, if_neg (fun g => h1 g.1)]

theorem FnExactGridNew : laws_FnExactGridNew.Pure := by
  intro r c _ _
  refine ⟨4000000, ?_⟩
  obtain ⟨a, b, l, x, y, h, t, hv, h1, h2, h3⟩ := gnewV_ok r c
  unfold laws_FnExactGridNew.f
  rw [spec_GridNew.eq, impl_GridNew.eq, hv]
  simp only [Option.bind_some]
  rw [laws_eqGrid.eq h1 h3 (by omega)]
  simp only [Option.bind_some, and_self, decide_true, if_true, laws_markGrid.f, laws_heldGrid.f]
  rw [laws_markCellS.eq h1 h2 (by omega) (by omega) (by omega)]
  simp only [Option.bind_some]
  rw [laws_heldCellS.eq h1 h2 (by omega) (by omega) (by omega)]
  simp only [Option.bind_some]
  rw [if_neg (by omega)]
  simp only [Option.bind_some]
  rw [if_neg (by omega)]
  simp only [if_true]
  rw [if_neg (by omega)]

end Go.Proofs.Ytegadjijonlmcaa.Pure
