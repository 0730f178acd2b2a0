/- Proved: the program's NodesVars returns what the reference's returns, for every list of nodes of size at most 2^20 in all, leaves the list as it was, and what it returns is its own: writing into either does not touch the other or a later answer. -/
import Derived.Test.YtcjclihkaaaihaaPFnExactNodesVarsx10
namespace Go.Proofs.Ytcjclihkaaaihaa.Pure
open Go.RowKit Go.Proofs.Ytcjclihkaaaihaa.PFnExactNodesVars Go.Proofs.YtcjclihkaaaihaaW.PrintWords Go.Proofs.YtcjclihkaaaihaaW.PrintLast Go.Proofs.YtcjclihkaaaihaaW.PrintMore
set_option linter.unusedVariables false
set_option linter.unusedSimpArgs false

/-! ### plain words -/
theorem wrap_in {x : Int} (h0 : -9223372036854775808 ≤ x) (h1 : x ≤ 9223372036854775807) : wrap64 x = x := by unfold wrap64; omega
theorem wrap_succ {i : Nat} (h : i < 4611686018427387904) : wrap64 ((i : Int) + 1) = ((i + 1 : Nat) : Int) := by unfold wrap64; omega
theorem int_lt {i n : Nat} (h : i < n) : (i : Int) < (n : Int) := by omega
theorem int_nn (i : Nat) : (0 : Int) ≤ (i : Int) := by omega
theorem maxLen_le {n : Nat} (h : n ≤ maxLen) : n ≤ 9223372036854775807 := by unfold maxLen at h; exact h
def cvNode (b : S93) : S95 := ⟨b.f0, b.f1, b.f2, b.f3⟩
def szNds : List (S93) → Nat
  | [] => 0
  | x :: l => x.f2.size + szNds l
theorem szNds_nil : szNds [] = 0 := rfl
theorem szNds_cons (x : S93) (l : List (S93)) : szNds (x :: l) = x.f2.size + szNds l := rfl
theorem szNds_mem {l : List (S93)} {x : S93} (h : x ∈ l) : x.f2.size ≤ szNds l := by
  induction l with
  | nil => cases h
  | cons y l ih =>
    rw [szNds_cons]
    rcases List.mem_cons.1 h with rfl | h
    · omega
    · have := ih h; omega
theorem rdNodeA {l : List (S93)} {i : Nat} (h : i < l.length) : rd_T93 l (i : Int) = l[i] := by
  unfold rd_T93
  rw [Int.toNat_natCast, List.getD_eq_getElem?_getD, List.getElem?_eq_getElem h]
  rfl
theorem rdNodeB {l : List (S95)} {i : Nat} (h : i < l.length) : rd_T95 l (i : Int) = l[i] := by
  unfold rd_T95
  rw [Int.toNat_natCast, List.getD_eq_getElem?_getD, List.getElem?_eq_getElem h]
  rfl
theorem laws_szNode.eq {m n o : Int} {s : ByteArray} {a : Int} (h0 : 0 ≤ a) (h1 : a ≤ 1048576) (hs : s.size ≤ 9223372036854775807) : laws_szNode.f m n s o a = some (if a < (s.size : Int) then -1 else a - (s.size : Int)) := by
  unfold laws_szNode.f
  rw [wrap_in (x := a - (s.size : Int)) (by omega) (by omega)]
  by_cases h : a - (s.size : Int) < 0
  · rw [if_pos h, if_pos (by omega)]
  · rw [if_neg h, if_neg (by omega)]
theorem laws_szNodeS.loop (l : List (S93)) (hl : l.length ≤ 1048576) (hL : ∀ x ∈ l, x.f2.size ≤ 9223372036854775807) (d : Nat) : ∀ (k i : Nat) (a : Int), 0 ≤ a → a ≤ 1048576 → i ≤ l.length → l.length - i = d → d < k → laws_szNodeS.l0 k l a (i : Int) = some (if a < (szNds (l.drop i) : Int) then -1 else a - (szNds (l.drop i) : Int)) := by
  induction d with
  | zero =>
    intro k i a h0 h1 hi hd hk
    obtain ⟨k, rfl⟩ : ∃ m, k = m + 1 := ⟨k - 1, by omega⟩
    simp only [laws_szNodeS.l0]
    rw [if_neg (by omega), List.drop_eq_nil_of_le (by omega), szNds_nil, if_neg (by omega)]
    simp
  | succ d ih =>
    intro k i a h0 h1 hi hd hk
    obtain ⟨k, rfl⟩ : ∃ m, k = m + 1 := ⟨k - 1, by omega⟩
    have hlt : i < l.length := by omega
    have hx := hL l[i] (List.getElem_mem hlt)
    simp only [laws_szNodeS.l0]
    rw [if_pos (int_lt hlt), if_pos (int_nn i), rdNodeA hlt, laws_szNode.eq h0 h1 hx]
    simp only [Option.bind_some]
    rw [List.drop_eq_getElem_cons hlt, szNds_cons]
    by_cases h : a < ((l[i].f2.size : Nat) : Int)
    · rw [if_pos h, if_pos (by omega), if_pos (by omega)]
    · rw [if_neg h, if_neg (by omega), wrap_succ (by omega), ih k (i + 1) _ (by omega) (by omega) (by omega) (by omega) (by omega)]
      by_cases h2 : a - ((l[i].f2.size : Nat) : Int) < (szNds (l.drop (i + 1)) : Int)
      · rw [if_pos h2, if_pos (by omega)]
      · rw [if_neg h2, if_neg (by omega)]
        refine congrArg some ?_
        omega
theorem laws_szNodeS.eq {l : List (S93)} {a : Int} {k : Nat} (h0 : 0 ≤ a) (h1 : a ≤ 1048576) (hl : l.length ≤ 9223372036854775807) (hL : ∀ x ∈ l, x.f2.size ≤ 9223372036854775807) (hk : 1048577 < k) : laws_szNodeS.f k l a = some (if a < ((l.length + szNds l : Nat) : Int) then -1 else a - ((l.length + szNds l : Nat) : Int)) := by
  unfold laws_szNodeS.f
  rw [wrap_in (by omega) (by omega)]
  by_cases h : a < (l.length : Int)
  · rw [if_pos (by omega), if_pos (by omega)]
  · rw [if_neg (by omega)]
    have := laws_szNodeS.loop l (by omega) hL l.length k 0 (a - (l.length : Int)) (by omega) (by omega) (by omega) (by omega) (by omega)
    rw [List.drop_zero] at this
    refine (show _ = _ from this).trans ?_
    by_cases h2 : a - (l.length : Int) < (szNds l : Int)
    · rw [if_pos h2, if_pos (by omega)]
    · rw [if_neg h2, if_neg (by omega)]
      refine congrArg some ?_
      omega
theorem laws_toNodeS.loop (l : List (S93)) (hl : l.length ≤ 1048576) (d : Nat) : ∀ (k i : Nat), i ≤ l.length → l.length - i = d → d < k → laws_toNodeS.l0 k l ((l.take i).map cvNode ++ List.replicate (l.length - i) z95) (i : Int) = some (l.map cvNode) := by
  induction d with
  | zero =>
    intro k i hi hd hk
    obtain ⟨k, rfl⟩ : ∃ m, k = m + 1 := ⟨k - 1, by omega⟩
    obtain rfl : i = l.length := by omega
    simp only [laws_toNodeS.l0]
    rw [if_neg (by omega)]
    simp
  | succ d ih =>
    intro k i hi hd hk
    obtain ⟨k, rfl⟩ : ∃ m, k = m + 1 := ⟨k - 1, by omega⟩
    have hlt : i < l.length := by omega
    simp only [laws_toNodeS.l0]
    rw [if_pos (int_lt hlt), if_pos (int_nn i), rdNodeA hlt]
    simp only [laws_toNode.f, Option.bind_some]
    rw [if_pos (by simp; omega), wrap_succ (by omega), Int.toNat_natCast]
    have hs : ((l.take i).map cvNode ++ List.replicate (l.length - i) z95).set i (cvNode l[i]) = (l.take (i + 1)).map cvNode ++ List.replicate (l.length - (i + 1)) z95 := by
      have h1 : ((l.take i).map cvNode).length = i := by simp; omega
      rw [List.set_append_right _ _ (by omega), h1, Nat.sub_self, show l.length - i = (l.length - (i + 1)) + 1 by omega, List.replicate_succ, List.set_cons_zero, List.take_succ_eq_append_getElem hlt, List.map_append, List.append_assoc]
      rfl
    refine (congrArg (fun z => laws_toNodeS.l0 k l z ((i + 1 : Nat) : Int)) hs).trans ?_
    exact ih k (i + 1) (by omega) (by omega) (by omega)
theorem laws_toNodeS.eq {l : List (S93)} {k : Nat} (h : l.length ≤ 1048576) (hk : 1048577 < k) : laws_toNodeS.f k l = some (l.map cvNode) := by
  unfold laws_toNodeS.f
  rw [if_pos (by omega), if_pos (by omega), Int.toNat_natCast]
  have := laws_toNodeS.loop l h l.length k 0 (by omega) (by omega) (by omega)
  simpa using this
theorem laws_eqNodeS.loop (a : List (S95)) (hl : a.length ≤ 1048576) (d : Nat) : ∀ (k i : Nat), i ≤ a.length → a.length - i = d → d < k → laws_eqNodeS.l0 k a a (i : Int) = some true := by
  induction d with
  | zero =>
    intro k i hi hd hk
    obtain ⟨k, rfl⟩ : ∃ m, k = m + 1 := ⟨k - 1, by omega⟩
    simp only [laws_eqNodeS.l0]
    rw [if_neg (by omega)]
  | succ d ih =>
    intro k i hi hd hk
    obtain ⟨k, rfl⟩ : ∃ m, k = m + 1 := ⟨k - 1, by omega⟩
    have hlt : i < a.length := by omega
    simp only [laws_eqNodeS.l0]
    rw [if_pos (int_lt hlt), if_pos (int_nn i), if_pos (int_lt hlt), rdNodeB hlt, wrap_succ (by omega)]
    unfold laws_eqNode.f
    simp only [if_true, Option.bind_some]
    exact ih k (i + 1) (by omega) (by omega) (by omega)
theorem laws_eqNodeS.refl {a : List (S95)} {k : Nat} (hl : a.length ≤ 1048576) (hk : 1048577 < k) : laws_eqNodeS.f k a a = some true := by
  unfold laws_eqNodeS.f
  rw [if_pos rfl]
  exact laws_eqNodeS.loop a hl a.length k 0 (by omega) (by omega) (by omega)
theorem impl_within.eq (a b c : Int) : impl_within.f a b c = some (decide (b ≤ a ∧ a ≤ c)) := by
  unfold impl_within.f
  by_cases h : b ≤ a <;> simp [h]
def chOK (c : Int) : Bool := decide ((97 ≤ c ∧ c ≤ 122) ∨ c = 45)
def nmF (s : ByteArray) : Nat → Nat → Bool
  | 0, _ => true
  | d + 1, i => chOK (bt s (i : Int)) && nmF s d (i + 1)
def nameOK (s : ByteArray) : Bool := decide (1 ≤ s.size ∧ s.size ≤ 20) && nmF s s.size 0
theorem spec_l07Name.loop (s : ByteArray) (hs : s.size ≤ 1048576) (d : Nat) : ∀ (k i : Nat), i ≤ s.size → s.size - i = d → d < k → spec_l07Name.l0 k s (i : Int) = some (nmF s d i) := by
  induction d with
  | zero =>
    intro k i hi hd hk
    obtain ⟨k, rfl⟩ : ∃ m, k = m + 1 := ⟨k - 1, by omega⟩
    rw [spec_l07Name.l0, if_neg (by omega)]
    rfl
  | succ d ih =>
    intro k i hi hd hk
    obtain ⟨k, rfl⟩ : ∃ m, k = m + 1 := ⟨k - 1, by omega⟩
    have h := ih k (i + 1) (by omega) (by omega) (by omega)
    rw [spec_l07Name.l0, if_pos (by omega), if_pos (int_nn i), wrap_succ (by omega), h]
    show _ = some (chOK (bt s (i : Int)) && nmF s d (i + 1))
    unfold chOK
    generalize bt s (i : Int) = c
    by_cases h1 : c ≥ 97
    · rw [if_pos h1]
      by_cases h2 : c ≤ 122
      · rw [if_pos h2, decide_eq_true (show (97 ≤ c ∧ c ≤ 122) ∨ c = 45 by omega), Bool.true_and]
      · rw [if_neg h2, if_neg (by omega), decide_eq_false (show ¬ ((97 ≤ c ∧ c ≤ 122) ∨ c = 45) by omega), Bool.false_and]
    · rw [if_neg h1]
      by_cases h2 : c = 45
      · rw [if_pos h2, decide_eq_true (show (97 ≤ c ∧ c ≤ 122) ∨ c = 45 by omega), Bool.true_and]
      · rw [if_neg h2, decide_eq_false (show ¬ ((97 ≤ c ∧ c ≤ 122) ∨ c = 45) by omega), Bool.false_and]
theorem spec_l07Name.eq (s : ByteArray) (hs : s.size ≤ 1048576) {k : Nat} (hk : s.size + 2 < k) : spec_l07Name.f k s = some (nameOK s) := by
  obtain ⟨k, rfl⟩ : ∃ m, k = m + 1 := ⟨k - 1, by omega⟩
  have hj : ∀ b : Bool, spec_l07Name.j0 (k + 1) s b = some (!b && nmF s s.size 0) := by
    intro b
    have := spec_l07Name.loop s hs s.size k 0 (by omega) (by omega) (by omega)
    cases b
    · rw [spec_l07Name.j0]
      exact this
    · rw [spec_l07Name.j0]
      rfl
  unfold spec_l07Name.f nameOK
  rw [hj, hj]
  by_cases h1 : (s.size : Int) < 1
  · rw [if_pos h1, decide_eq_false (show ¬ (1 ≤ s.size ∧ s.size ≤ 20) by omega)]
    rfl
  · rw [if_neg h1]
    by_cases h2 : (s.size : Int) > 20
    · rw [decide_eq_true h2, decide_eq_false (show ¬ (1 ≤ s.size ∧ s.size ≤ 20) by omega)]
      rfl
    · rw [decide_eq_false h2, decide_eq_true (show 1 ≤ s.size ∧ s.size ≤ 20 by omega)]
      rfl
theorem impl_isKeyName.loop (s : ByteArray) (hs : s.size ≤ 1048576) (d : Nat) : ∀ (k i : Nat), i ≤ s.size → s.size - i = d → d < k → impl_isKeyName.l0 k s (s.size : Int) (i : Int) = some (nmF s d i && decide (1 ≤ s.size ∧ s.size ≤ 20)) := by
  induction d with
  | zero =>
    intro k i hi hd hk
    obtain ⟨k, rfl⟩ : ∃ m, k = m + 1 := ⟨k - 1, by omega⟩
    rw [impl_isKeyName.l0, if_neg (by omega), impl_within.eq]
    simp only [Option.bind_some, nmF, Bool.true_and]
    exact congrArg some (decide_eq_decide.2 (by omega))
  | succ d ih =>
    intro k i hi hd hk
    obtain ⟨k, rfl⟩ : ∃ m, k = m + 1 := ⟨k - 1, by omega⟩
    have h := ih k (i + 1) (by omega) (by omega) (by omega)
    rw [impl_isKeyName.l0, if_pos (by omega), if_pos (int_nn i), if_pos (by omega), wrap_succ (by omega), h]
    show _ = some (chOK (bt s (i : Int)) && nmF s d (i + 1) && decide (1 ≤ s.size ∧ s.size ≤ 20))
    unfold chOK
    generalize bt s (i : Int) = c
    by_cases h1 : c ≥ 97
    · rw [if_pos h1]
      by_cases h2 : c ≤ 122
      · rw [if_pos h2, decide_eq_true (show (97 ≤ c ∧ c ≤ 122) ∨ c = 45 by omega), Bool.true_and]
      · rw [if_neg h2, if_neg (by omega), decide_eq_false (show ¬ ((97 ≤ c ∧ c ≤ 122) ∨ c = 45) by omega), Bool.false_and, Bool.false_and]
    · rw [if_neg h1]
      by_cases h2 : c = 45
      · rw [if_pos h2, decide_eq_true (show (97 ≤ c ∧ c ≤ 122) ∨ c = 45 by omega), Bool.true_and]
      · rw [if_neg h2, decide_eq_false (show ¬ ((97 ≤ c ∧ c ≤ 122) ∨ c = 45) by omega), Bool.false_and, Bool.false_and]
theorem impl_isKeyName.eq (s : ByteArray) (hs : s.size ≤ 1048576) {k : Nat} (hk : s.size < k) : impl_isKeyName.f k s = some (nameOK s) := by
  have := impl_isKeyName.loop s hs s.size k 0 (by omega) (by omega) hk
  unfold nameOK
  rw [Bool.and_comm]
  exact this
/-! ### rows of strings -/
theorem rdStr {l : List ByteArray} {i : Nat} (h : i < l.length) : rdOf ByteArray.empty l (i : Int) = l[i] := by
  unfold rdOf
  rw [Int.toNat_natCast, List.getD_eq_getElem?_getD, List.getElem?_eq_getElem h]
  rfl
def hasS (l : List ByteArray) (s : ByteArray) : Bool := l.any (fun x => x.toList == s.toList)
theorem hasS_nil (s : ByteArray) : hasS [] s = false := rfl
theorem hasS_cons (x : ByteArray) (l : List ByteArray) (s : ByteArray) : hasS (x :: l) s = ((x.toList == s.toList) || hasS l s) := rfl
theorem slices_Index_s.loop (l : List ByteArray) (s : ByteArray) (hl : l.length ≤ 1000000) (d : Nat) : ∀ (k i : Nat), i ≤ l.length → l.length - i = d → d < k → ∃ r, slices_Index_sstring_string.l0 k l s (l.length : Int) (i : Int) = some r ∧ (r ≥ 0 ↔ hasS (l.drop i) s = true) := by
  induction d with
  | zero =>
    intro k i hi hd hk
    obtain ⟨k, rfl⟩ : ∃ m, k = m + 1 := ⟨k - 1, by omega⟩
    rw [slices_Index_sstring_string.l0, if_neg (by omega), List.drop_eq_nil_of_le (by omega), hasS_nil]
    exact ⟨_, rfl, by simp⟩
  | succ d ih =>
    intro k i hi hd hk
    obtain ⟨k, rfl⟩ : ∃ m, k = m + 1 := ⟨k - 1, by omega⟩
    have hlt : i < l.length := by omega
    rw [slices_Index_sstring_string.l0, if_pos (int_lt hlt), if_pos (int_nn i), if_pos (int_lt hlt), rdStr hlt, List.drop_eq_getElem_cons hlt, hasS_cons]
    by_cases h : s.toList = l[i].toList
    · rw [if_pos h]
      refine ⟨_, rfl, ?_⟩
      rw [beq_iff_eq.2 h.symm]
      simp
    · rw [if_neg h, wrap_succ (by omega), beq_eq_false_iff_ne.2 (fun e => h e.symm), Bool.false_or]
      exact ih k (i + 1) (by omega) (by omega) (by omega)
theorem slices_Contains_s.eq {l : List ByteArray} (s : ByteArray) (hl : l.length ≤ 1000000) {k : Nat} (hk : l.length < k) : slices_Contains_sstring_string.f k l s = some (hasS l s) := by
  obtain ⟨r, h1, h2⟩ := slices_Index_s.loop l s hl l.length k 0 (by omega) (by omega) hk
  unfold slices_Contains_sstring_string.f slices_Index_sstring_string.f
  rw [show ((0 : Nat) : Int) = 0 from rfl] at h1
  rw [h1]
  simp only [Option.bind_some]
  refine congrArg some ?_
  rw [List.drop_zero] at h2
  rw [Bool.eq_iff_iff, decide_eq_true_eq]
  exact h2
theorem hasS_mem (l : List ByteArray) (s : ByteArray) : hasS l s = decide (s.toList ∈ l.map (fun x => x.toList)) := by
  induction l with
  | nil => rfl
  | cons x l ih =>
    rw [hasS_cons, ih, Bool.eq_iff_iff, Bool.or_eq_true, beq_iff_eq, decide_eq_true_eq, decide_eq_true_eq, List.map_cons, List.mem_cons]
    exact ⟨fun e => e.imp Eq.symm id, fun e => e.imp Eq.symm id⟩
/-! ### names -/
def wordsL : List ByteArray := [(⟨#[108, 101, 116]⟩ : ByteArray), (⟨#[105, 102]⟩ : ByteArray), (⟨#[119, 104, 105, 108, 101]⟩ : ByteArray), (⟨#[105, 110, 115, 101, 114, 116]⟩ : ByteArray), (⟨#[100, 101, 108, 101, 116, 101]⟩ : ByteArray), (⟨#[103, 111]⟩ : ByteArray), (⟨#[109, 97, 114, 107]⟩ : ByteArray), (⟨#[98, 101, 108, 108]⟩ : ByteArray), (⟨#[100, 111]⟩ : ByteArray), (⟨#[]⟩ : ByteArray), (⟨#[]⟩ : ByteArray), (⟨#[99, 117, 114, 115, 111, 114]⟩ : ByteArray), (⟨#[108, 101, 110, 103, 116, 104]⟩ : ByteArray), (⟨#[109, 97, 114, 107, 97, 116]⟩ : ByteArray), (⟨#[97, 116]⟩ : ByteArray), (⟨#[110, 111, 116]⟩ : ByteArray), (⟨#[111, 114]⟩ : ByteArray), (⟨#[97, 110, 100]⟩ : ByteArray), (⟨#[60]⟩ : ByteArray), (⟨#[61]⟩ : ByteArray), (⟨#[62]⟩ : ByteArray), (⟨#[43]⟩ : ByteArray), (⟨#[45]⟩ : ByteArray), (⟨#[42]⟩ : ByteArray), (⟨#[47]⟩ : ByteArray), (⟨#[101, 108, 115, 101]⟩ : ByteArray)]
theorem words_eq : spec_l11Words.f = some ((⟨#[]⟩ : ByteArray) :: (⟨#[]⟩ : ByteArray) :: wordsL) := rfl
def stmL : List ByteArray := [(⟨#[108, 101, 116]⟩ : ByteArray), (⟨#[105, 102]⟩ : ByteArray), (⟨#[119, 104, 105, 108, 101]⟩ : ByteArray), (⟨#[105, 110, 115, 101, 114, 116]⟩ : ByteArray), (⟨#[100, 101, 108, 101, 116, 101]⟩ : ByteArray), (⟨#[103, 111]⟩ : ByteArray), (⟨#[109, 97, 114, 107]⟩ : ByteArray), (⟨#[98, 101, 108, 108]⟩ : ByteArray), (⟨#[100, 111]⟩ : ByteArray)]
theorem stm_eq : impl_statementWords.f = some stmL := rfl
theorem spec_l11Word.loop (ws : List ByteArray) (s : ByteArray) (hs : s.toList ≠ []) (hl : ws.length ≤ 1000000) (d : Nat) : ∀ (k i : Nat), 1 ≤ i → i ≤ ws.length → ws.length - i = d → d < k → ∃ r, spec_l11Word.l0 k s ws (i : Int) = some r ∧ (r = 0 ↔ hasS (ws.drop i) s = false) := by
  induction d with
  | zero =>
    intro k i h1 hi hd hk
    obtain ⟨k, rfl⟩ : ∃ m, k = m + 1 := ⟨k - 1, by omega⟩
    rw [spec_l11Word.l0, if_neg (by omega), List.drop_eq_nil_of_le (by omega), hasS_nil]
    exact ⟨_, rfl, by simp⟩
  | succ d ih =>
    intro k i h1 hi hd hk
    obtain ⟨k, rfl⟩ : ∃ m, k = m + 1 := ⟨k - 1, by omega⟩
    have hlt : i < ws.length := by omega
    rw [spec_l11Word.l0, if_pos (int_lt hlt), if_pos (int_nn i), rdStr hlt, List.drop_eq_getElem_cons hlt, hasS_cons, if_neg hs]
    by_cases h : ws[i].toList = s.toList
    · rw [if_pos h, beq_iff_eq.2 h]
      exact ⟨_, rfl, by simp; omega⟩
    · rw [if_neg h, wrap_succ (by omega), beq_eq_false_iff_ne.2 h, Bool.false_or]
      exact ih k (i + 1) (by omega) (by omega) (by omega) (by omega)
def motL : List ByteArray := [(⟨#[108, 101, 102, 116]⟩ : ByteArray), (⟨#[114, 105, 103, 104, 116]⟩ : ByteArray), (⟨#[119, 111, 114, 100, 45, 98, 97, 99, 107]⟩ : ByteArray), (⟨#[119, 111, 114, 100, 45, 110, 101, 120, 116]⟩ : ByteArray), (⟨#[108, 105, 110, 101, 45, 115, 116, 97, 114, 116]⟩ : ByteArray), (⟨#[108, 105, 110, 101, 45, 101, 110, 100]⟩ : ByteArray), (⟨#[117, 112]⟩ : ByteArray), (⟨#[100, 111, 119, 110]⟩ : ByteArray), (⟨#[102, 105, 114, 115, 116]⟩ : ByteArray), (⟨#[108, 97, 115, 116]⟩ : ByteArray)]
theorem motions_eq : spec_l11Motions.f = some ((⟨#[]⟩ : ByteArray) :: motL) := rfl
theorem moves_eq : impl_moves.f = some motL := rfl
theorem spec_l11Motion.loop (ws : List ByteArray) (s : ByteArray) (hl : ws.length ≤ 1000000) (d : Nat) : ∀ (k i : Nat), 1 ≤ i → i ≤ ws.length → ws.length - i = d → d < k → ∃ r, spec_l11Motion.l0 k s ws (i : Int) = some r ∧ (r > 0 ↔ hasS (ws.drop i) s = true) := by
  induction d with
  | zero =>
    intro k i h1 hi hd hk
    obtain ⟨k, rfl⟩ : ∃ m, k = m + 1 := ⟨k - 1, by omega⟩
    rw [spec_l11Motion.l0, if_neg (by omega), List.drop_eq_nil_of_le (by omega), hasS_nil]
    exact ⟨_, rfl, by simp⟩
  | succ d ih =>
    intro k i h1 hi hd hk
    obtain ⟨k, rfl⟩ : ∃ m, k = m + 1 := ⟨k - 1, by omega⟩
    have hlt : i < ws.length := by omega
    rw [spec_l11Motion.l0, if_pos (int_lt hlt), if_pos (int_nn i), rdStr hlt, List.drop_eq_getElem_cons hlt, hasS_cons]
    by_cases h : ws[i].toList = s.toList
    · rw [if_pos h, beq_iff_eq.2 h]
      exact ⟨_, rfl, by simp; omega⟩
    · rw [if_neg h, wrap_succ (by omega), beq_eq_false_iff_ne.2 h, Bool.false_or]
      exact ih k (i + 1) (by omega) (by omega) (by omega) (by omega)
theorem spec_l11Motion.eq (s : ByteArray) {k : Nat} (hk : 20 < k) : ∃ r, spec_l11Motion.f k s = some r ∧ decide (r > 0) = hasS motL s := by
  obtain ⟨r, h1, h2⟩ := spec_l11Motion.loop ((⟨#[]⟩ : ByteArray) :: motL) s (by decide) 10 k 1 (by omega) (by decide) (by decide) (by omega)
  refine ⟨r, ?_, ?_⟩
  · unfold spec_l11Motion.f
    rw [motions_eq]
    exact h1
  · rw [Bool.eq_iff_iff, decide_eq_true_eq]
    exact h2
theorem leafR_zero (s : ByteArray) (l : List (List UInt8 × Int)) (h : ∀ x ∈ l, x.2 ≠ 0) : leafR s l = 0 ↔ ¬ s.toList ∈ l.map (·.1) := by
  induction l with
  | nil => simp [leafR]
  | cons x l ih =>
    have := ih (fun y hy => h y (List.mem_cons_of_mem _ hy))
    rw [leafR, List.map_cons, List.mem_cons]
    by_cases e : s.toList = x.1
    · rw [if_pos e]
      exact ⟨fun g => absurd g (h x (List.mem_cons_self)), fun g => absurd (Or.inl e) g⟩
    · rw [if_neg e, this]
      exact ⟨fun g q => q.elim e g, fun g q => g (Or.inr q)⟩
theorem ba_of_toList {s : ByteArray} {l : List UInt8} (h : s.toList = l) : s = ⟨l.toArray⟩ := by
  rw [ByteArray.toList_eq] at h
  cases s with
  | mk d =>
    subst h
    simp
def vName (s : ByteArray) : Bool := nameOK s && (!(bt s 0 == 45) && !hasS wordsL s)
theorem words_perm (t : List UInt8) : t ∈ wordsL.map (fun x => x.toList) ↔ t ∈ ([101, 108, 115, 101] : List UInt8) :: [111, 114] :: [97, 110, 100] :: (stmL.map (fun x => x.toList) ++ (leafL.map (·.1) ++ [[], [], [60], [61], [62], [43], [45], [42], [47]])) := by
  have e1 : wordsL.map (fun x => x.toList) = wordsL.map (fun x => x.data.toList) := List.map_congr_left (fun x _ => ByteArray.toList_eq x)
  have e2 : stmL.map (fun x => x.toList) = stmL.map (fun x => x.data.toList) := List.map_congr_left (fun x _ => ByteArray.toList_eq x)
  rw [e1, e2]
  exact List.Perm.mem_iff (by decide)
theorem sym_no {s : ByteArray} (h : s.toList ∈ ([[], [], [60], [61], [62], [43], [45], [42], [47]] : List (List UInt8))) : nameOK s = false ∨ bt s 0 = 45 := by
  simp only [List.mem_cons, List.not_mem_nil, or_false] at h
  rcases h with h | h | h | h | h | h | h | h | h <;> have e := ba_of_toList h <;> subst e
  · exact Or.inl rfl
  · exact Or.inl rfl
  · exact Or.inl rfl
  · exact Or.inl rfl
  · exact Or.inl rfl
  · exact Or.inl rfl
  · exact Or.inr rfl
  · exact Or.inl rfl
  · exact Or.inl rfl
theorem nameOK_size {s : ByteArray} (h : nameOK s = true) : 1 ≤ s.size ∧ s.size ≤ 20 := by
  unfold nameOK at h
  rw [Bool.and_eq_true, decide_eq_true_eq] at h
  exact h.1
theorem spec_l11Name.eq (s : ByteArray) (hs : s.size ≤ 1048576) {k : Nat} (hk : s.size + 100 < k) : spec_l11Name.f k s = some (vName s) := by
  unfold spec_l11Name.f vName
  rw [spec_l07Name.eq s hs (by omega)]
  simp only [Option.bind_some]
  by_cases h : nameOK s = true
  · have hz := nameOK_size h
    rw [if_pos h, if_pos (by omega), h, Bool.true_and]
    by_cases h2 : bt s 0 = 45
    · rw [if_pos h2, h2]
      rfl
    · have ht : s.toList ≠ [] := by
        intro e
        have := ba_of_toList e
        subst this
        exact absurd hz.1 (by decide)
      obtain ⟨r, h3, h4⟩ := spec_l11Word.loop ((⟨#[]⟩ : ByteArray) :: (⟨#[]⟩ : ByteArray) :: wordsL) s ht (by decide) 26 k 2 (by omega) (by decide) (by decide) (by omega)
      rw [if_neg h2, beq_eq_false_iff_ne.2 h2, Bool.not_false, Bool.true_and]
      unfold spec_l11Word.f
      rw [words_eq]
      simp only [Option.bind_some]
      refine (congrArg (fun z => Option.bind z _) h3).trans ?_
      simp only [Option.bind_some]
      refine congrArg some ?_
      rw [Bool.eq_iff_iff, beq_iff_eq, h4]
      simp only [List.drop_succ_cons, List.drop_zero, Bool.not_eq_true']
  · rw [if_neg h]
    rw [Bool.not_eq_true] at h
    rw [h, Bool.false_and]
theorem impl_isVarName.eq (s : ByteArray) (hs : s.size ≤ 1048576) {k : Nat} (hk : s.size + 100 < k) : impl_isVarName.f k s = some (vName s) := by
  unfold impl_isVarName.f vName
  rw [impl_isKeyName.eq s hs (by omega), stm_eq]
  simp only [Option.bind_some]
  by_cases h : nameOK s = true
  · have hz := nameOK_size h
    have hm := words_perm s.toList
    rw [List.mem_cons, List.mem_cons, List.mem_cons, List.mem_append, List.mem_append] at hm
    have hT : s.toList ∈ wordsL.map (fun x => x.toList) → hasS wordsL s = true := fun q => by
      rw [hasS_mem]
      exact decide_eq_true q
    have hF : ¬ s.toList ∈ wordsL.map (fun x => x.toList) → hasS wordsL s = false := fun q => by
      rw [hasS_mem]
      exact decide_eq_false q
    rw [if_pos h, h, Bool.true_and]
    by_cases a1 : s.toList = [101, 108, 115, 101]
    · rw [if_pos a1, hT (hm.2 (Or.inl a1))]
      simp
    rw [if_neg a1]
    by_cases a2 : s.toList = [111, 114]
    · rw [if_pos a2, hT (hm.2 (Or.inr (Or.inl a2)))]
      simp
    rw [if_neg a2]
    by_cases a3 : s.toList = [97, 110, 100]
    · rw [if_pos a3, hT (hm.2 (Or.inr (Or.inr (Or.inl a3))))]
      simp
    rw [if_neg a3, slices_Contains_s.eq s (by decide) (by show 9 < k; omega), hasS_mem]
    simp only [Option.bind_some, decide_eq_true_eq]
    by_cases a4 : s.toList ∈ stmL.map (fun x => x.toList)
    · rw [if_pos a4, hT (hm.2 (Or.inr (Or.inr (Or.inr (Or.inl a4)))))]
      simp
    rw [if_neg a4]
    have hlf := leafR_zero s leafL (by decide)
    by_cases a5 : s.toList ∈ leafL.map (·.1)
    · rw [if_neg (fun e => hlf.1 e a5), hT (hm.2 (Or.inr (Or.inr (Or.inr (Or.inr (Or.inl a5))))))]
      simp
    rw [if_pos (hlf.2 a5), if_pos (by omega)]
    refine congrArg some ?_
    by_cases a6 : bt s 0 = 45
    · rw [a6]
      rfl
    · rw [beq_eq_false_iff_ne.2 a6, hF]
      · simp [a6]
      · intro q
        rcases hm.1 q with q | q | q | q | q | q
        · exact a1 q
        · exact a2 q
        · exact a3 q
        · exact a4 q
        · exact a5 q
        · rcases sym_no q with g | g
          · rw [h] at g
            cases g
          · exact a6 g
  · rw [if_neg h]
    rw [Bool.not_eq_true] at h
    rw [h, Bool.false_and]
/-! ### nodes -/
def ownV (x : S95) : Bool := if x.f0 = 2 ∨ x.f0 = 12 then (decide (x.f1 = 0) && vName x.f2) else (if x.f0 = 10 then (decide (x.f1 = 0) && hasS motL x.f2) else (if x.f0 = 11 then (decide (0 ≤ x.f1 ∧ x.f1 ≤ 999999999) && (x.f2.toList == [])) else (decide (x.f1 = 0) && (x.f2.toList == []))))
def inK (x : S95) : Bool := decide (1 ≤ x.f0 ∧ x.f0 ≤ 26)
def kLo (x : S95) : Int × Int := if x.f0 = 1 then (0, 200) else (if x.f0 = 3 then (2, 3) else (if x.f0 = 4 ∨ x.f0 = 6 then (2, 2) else (if x.f0 = 2 ∨ x.f0 = 5 ∨ x.f0 = 7 ∨ x.f0 = 8 ∨ x.f0 = 16 ∨ x.f0 = 17 then (1, 1) else (if 18 ≤ x.f0 ∧ x.f0 ≤ 26 then (2, 2) else (0, 0)))))
def kidV (x : S95) : Bool := decide ((kLo x).1 ≤ x.f3 ∧ x.f3 ≤ (kLo x).2)
def isKidV (x : S95) (i : Nat) (y : S95) : Bool := if x.f0 = 1 then decide (2 ≤ y.f0 ∧ y.f0 ≤ 10) else (if 0 < i ∧ (x.f0 = 3 ∨ x.f0 = 4) then decide (y.f0 = 1) else decide (11 ≤ y.f0 ∧ y.f0 ≤ 26))
theorem spec_l11Own.eq (x : S95) (hs : x.f2.size ≤ 1048576) {k : Nat} (hk : 1048700 < k) : spec_l11Own.f k x.f0 x.f1 x.f2 x.f3 = some (inK x && ownV x) := by
  obtain ⟨k, rfl⟩ : ∃ m, k = m + 2 := ⟨k - 2, by omega⟩
  obtain ⟨mr, hm1, hm2⟩ := spec_l11Motion.eq x.f2 (k := k) (by omega)
  have hj : ∀ b : Bool, spec_l11Own.j1 (k + 1) x.f0 b x.f0 x.f1 x.f2 x.f3 = some (if b = true then (decide (x.f1 = 0) && vName x.f2) else (if x.f0 = 10 then (decide (x.f1 = 0) && hasS motL x.f2) else (decide (x.f1 = 0) && (x.f2.toList == [])))) := by
    intro b
    rw [spec_l11Own.j1, spec_l11Name.eq _ hs (by omega), hm1]
    simp only [Option.bind_some]
    rw [hm2]
    by_cases h1 : x.f1 = 0
    · rw [if_pos h1, if_pos h1, if_pos h1, decide_eq_true h1]
      simp only [Bool.true_and]
      split
      · rfl
      · split <;> rfl
    · rw [if_neg h1, if_neg h1, if_neg h1, decide_eq_false h1]
      simp only [Bool.false_and, ite_self]
  unfold spec_l11Own.f inK
  by_cases h1 : x.f0 < 1
  · rw [if_pos h1, spec_l11Own.j0, if_pos rfl, decide_eq_false (show ¬ (1 ≤ x.f0 ∧ x.f0 ≤ 26) by omega), Bool.false_and]
  rw [if_neg h1]
  by_cases h2 : x.f0 > 26
  · rw [decide_eq_true h2, spec_l11Own.j0, if_pos rfl, decide_eq_false (show ¬ (1 ≤ x.f0 ∧ x.f0 ≤ 26) by omega), Bool.false_and]
  rw [decide_eq_false h2, spec_l11Own.j0, if_neg Bool.false_ne_true, decide_eq_true (show 1 ≤ x.f0 ∧ x.f0 ≤ 26 by omega), Bool.true_and]
  unfold ownV
  by_cases h3 : x.f0 = 11
  · rw [if_pos h3, if_neg (show ¬ (x.f0 = 2 ∨ x.f0 = 12) by omega), if_neg (show ¬ x.f0 = 10 by omega), if_pos h3]
    by_cases h4 : x.f1 ≥ 0
    · rw [if_pos h4]
      by_cases h5 : x.f1 ≤ 999999999
      · rw [if_pos h5, decide_eq_true (show 0 ≤ x.f1 ∧ x.f1 ≤ 999999999 from ⟨h4, h5⟩), Bool.true_and]
      · rw [if_neg h5, decide_eq_false (show ¬ (0 ≤ x.f1 ∧ x.f1 ≤ 999999999) by omega), Bool.false_and]
    · rw [if_neg h4, decide_eq_false (show ¬ (0 ≤ x.f1 ∧ x.f1 ≤ 999999999) by omega), Bool.false_and]
  · rw [if_neg h3, if_neg h3, hj, hj]
    by_cases h4 : x.f0 = 2
    · rw [if_pos h4, if_pos (Or.inl h4), beq_iff_eq.2 h4, if_pos rfl]
    · rw [if_neg h4]
      by_cases h5 : x.f0 = 12
      · rw [if_pos (Or.inr h5), beq_iff_eq.2 h5, if_pos rfl]
      · rw [if_neg (show ¬ (x.f0 = 2 ∨ x.f0 = 12) by omega), beq_eq_false_iff_ne.2 h5, if_neg Bool.false_ne_true]
theorem impl_fieldsRight.eq (x : S95) (hs : x.f2.size ≤ 1048576) {k : Nat} (hk : 1048700 < k) : impl_fieldsRight.f k x.f0 x.f1 x.f2 x.f3 = some (ownV x) := by
  obtain ⟨k, rfl⟩ : ∃ m, k = m + 1 := ⟨k - 1, by omega⟩
  have hj : ∀ b : Bool, impl_fieldsRight.j0 (k + 1) x.f0 b x.f0 x.f1 x.f2 x.f3 = some (if b = true then (decide (x.f1 = 0) && vName x.f2) else (if x.f0 = 10 then (decide (x.f1 = 0) && hasS motL x.f2) else (if x.f0 = 11 then (decide (0 ≤ x.f1 ∧ x.f1 ≤ 999999999) && (x.f2.toList == [])) else (decide (x.f1 = 0) && (x.f2.toList == []))))) := by
    intro b
    rw [impl_fieldsRight.j0, impl_isVarName.eq _ hs (by omega), moves_eq, impl_within.eq]
    simp only [Option.bind_some]
    rw [slices_Contains_s.eq _ (by decide) (by show 10 < k; omega)]
    simp only [Option.bind_some]
    have e0 : (x.f1 == 0) = decide (x.f1 = 0) := by
      rw [Bool.eq_iff_iff, beq_iff_eq, decide_eq_true_eq]
    rw [e0]
    by_cases h1 : x.f1 = 0
    · rw [if_pos h1, if_pos h1, decide_eq_true h1]
      simp only [Bool.true_and]
      by_cases h2 : x.f2.toList = []
      · rw [if_pos h2, if_pos h2, beq_iff_eq.2 h2]
        simp only [Bool.and_true]
        split
        · rfl
        · split
          · rfl
          · split <;> rfl
      · rw [if_neg h2, if_neg h2, beq_eq_false_iff_ne.2 h2]
        simp only [Bool.and_false]
        split
        · rfl
        · split
          · rfl
          · split <;> rfl
    · rw [if_neg h1, if_neg h1, decide_eq_false h1]
      simp only [Bool.false_and]
      by_cases h2 : x.f2.toList = []
      · rw [if_pos h2, if_pos h2, beq_iff_eq.2 h2]
        simp only [Bool.and_true]
        split
        · rfl
        · split
          · rfl
          · split <;> rfl
      · rw [if_neg h2, if_neg h2, beq_eq_false_iff_ne.2 h2]
        simp only [Bool.and_false]
        split
        · rfl
        · split
          · rfl
          · split <;> rfl
  unfold impl_fieldsRight.f
  rw [hj, hj]
  unfold ownV
  by_cases h4 : x.f0 = 2
  · rw [if_pos h4, if_pos (Or.inl h4), beq_iff_eq.2 h4, if_pos rfl]
  · rw [if_neg h4]
    by_cases h5 : x.f0 = 12
    · rw [if_pos (Or.inr h5), beq_iff_eq.2 h5, if_pos rfl]
    · rw [if_neg (show ¬ (x.f0 = 2 ∨ x.f0 = 12) by omega), beq_eq_false_iff_ne.2 h5, if_neg Bool.false_ne_true]
theorem impl_kidsOf.eq (x : S95) {k : Nat} (hk : 10 < k) : impl_kidsOf.f k x.f0 = some (kLo x) := by
  obtain ⟨k, rfl⟩ : ∃ m, k = m + 2 := ⟨k - 2, by omega⟩
  have h1 : ∀ b : Bool, impl_kidsOf.j1 (k + 1) x.f0 b = some (if b = true then (1, 1) else (if 18 ≤ x.f0 ∧ x.f0 ≤ 26 then (2, 2) else (0, 0))) := by
    intro b
    rw [impl_kidsOf.j1, impl_within.eq]
    simp only [Option.bind_some, decide_eq_true_eq]
    split
    · rfl
    · split <;> rfl
  unfold impl_kidsOf.f kLo
  by_cases a1 : x.f0 = 1
  · rw [if_pos a1, if_pos a1]
  rw [if_neg a1, if_neg a1]
  by_cases a2 : x.f0 = 3
  · rw [if_pos a2, if_pos a2]
  rw [if_neg a2, if_neg a2, impl_kidsOf.j0, impl_kidsOf.j0]
  by_cases a3 : x.f0 = 4
  · rw [if_pos a3, beq_iff_eq.2 a3, if_pos rfl, if_pos (Or.inl a3)]
  rw [if_neg a3]
  by_cases a4 : x.f0 = 6
  · rw [beq_iff_eq.2 a4, if_pos rfl, if_pos (Or.inr a4)]
  rw [beq_eq_false_iff_ne.2 a4, if_neg Bool.false_ne_true, if_neg (show ¬ (x.f0 = 4 ∨ x.f0 = 6) by omega)]
  simp only [h1]
  by_cases b1 : x.f0 = 2
  · rw [if_pos b1, beq_iff_eq.2 b1, if_pos rfl, if_pos (by omega)]
  rw [if_neg b1]
  by_cases b2 : x.f0 = 5
  · rw [if_pos b2, beq_iff_eq.2 b2, if_pos rfl, if_pos (by omega)]
  rw [if_neg b2]
  by_cases b3 : x.f0 = 7
  · rw [if_pos b3, beq_iff_eq.2 b3, if_pos rfl, if_pos (by omega)]
  rw [if_neg b3]
  by_cases b4 : x.f0 = 8
  · rw [if_pos b4, beq_iff_eq.2 b4, if_pos rfl, if_pos (by omega)]
  rw [if_neg b4]
  by_cases b5 : x.f0 = 16
  · rw [if_pos b5, beq_iff_eq.2 b5, if_pos rfl, if_pos (by omega)]
  rw [if_neg b5]
  by_cases b6 : x.f0 = 17
  · rw [beq_iff_eq.2 b6, if_pos rfl, if_pos (by omega)]
  rw [beq_eq_false_iff_ne.2 b6, if_neg Bool.false_ne_true, if_neg (show ¬ (x.f0 = 2 ∨ x.f0 = 5 ∨ x.f0 = 7 ∨ x.f0 = 8 ∨ x.f0 = 16 ∨ x.f0 = 17) by omega)]
theorem impl_isKid.eq (x : S95) (i : Nat) (y : S95) : impl_isKid.f x.f0 x.f1 x.f2 x.f3 (i : Int) y.f0 y.f1 y.f2 y.f3 = some (isKidV x i y) := by
  unfold impl_isKid.f isKidV
  simp only [impl_within.eq, Option.bind_some]
  have e0 : (y.f0 == 1) = decide (y.f0 = 1) := by
    rw [Bool.eq_iff_iff, beq_iff_eq, decide_eq_true_eq]
  rw [e0]
  by_cases a1 : x.f0 = 1
  · rw [if_pos a1, if_pos a1]
  rw [if_neg a1, if_neg a1]
  by_cases a2 : 0 < i
  · rw [if_pos (by omega)]
    by_cases a3 : x.f0 = 3
    · rw [if_pos a3, if_pos ⟨a2, Or.inl a3⟩]
    rw [if_neg a3]
    by_cases a4 : x.f0 = 4
    · rw [if_pos a4, if_pos ⟨a2, Or.inr a4⟩]
    rw [if_neg a4, if_neg (by omega)]
  · rw [if_neg (by omega), if_neg (by omega)]
/-! ### what the reference wants of kids -/
def kStr (x : S95) : ByteArray := if x.f0 = 1 then (⟨#[42]⟩ : ByteArray) else (if x.f0 = 2 ∨ x.f0 = 5 ∨ x.f0 = 7 ∨ x.f0 = 8 ∨ x.f0 = 16 ∨ x.f0 = 17 then (⟨#[101]⟩ : ByteArray) else (if x.f0 = 3 then (if x.f3 = 3 then (⟨#[101, 98, 98]⟩ : ByteArray) else (⟨#[101, 98]⟩ : ByteArray)) else (if x.f0 = 4 then (⟨#[101, 98]⟩ : ByteArray) else (if x.f0 = 6 then (⟨#[101, 101]⟩ : ByteArray) else (if 9 ≤ x.f0 ∧ x.f0 ≤ 15 then (⟨#[]⟩ : ByteArray) else (⟨#[101, 101]⟩ : ByteArray))))))
theorem spec_l11Kids.eq (x : S95) {k : Nat} (hk : 0 < k) : spec_l11Kids.f k x.f0 x.f1 x.f2 x.f3 = some (kStr x) := by
  obtain ⟨k, rfl⟩ : ∃ m, k = m + 1 := ⟨k - 1, by omega⟩
  have h1 : ∀ b : Bool, spec_l11Kids.j0 (k + 1) x.f0 b x.f0 x.f1 x.f2 x.f3 = some (if b = true then (⟨#[101]⟩ : ByteArray) else (if x.f0 = 3 then (if x.f3 = 3 then (⟨#[101, 98, 98]⟩ : ByteArray) else (⟨#[101, 98]⟩ : ByteArray)) else (if x.f0 = 4 then (⟨#[101, 98]⟩ : ByteArray) else (if x.f0 = 6 then (⟨#[101, 101]⟩ : ByteArray) else (if 9 ≤ x.f0 ∧ x.f0 ≤ 15 then (⟨#[]⟩ : ByteArray) else (⟨#[101, 101]⟩ : ByteArray)))))) := by
    intro b
    rw [spec_l11Kids.j0]
    split
    · rfl
    split
    · split <;> rfl
    split
    · rfl
    split
    · rfl
    by_cases c : 9 ≤ x.f0 ∧ x.f0 ≤ 15
    · rw [if_pos c]
      have : x.f0 = 9 ∨ x.f0 = 10 ∨ x.f0 = 11 ∨ x.f0 = 12 ∨ x.f0 = 13 ∨ x.f0 = 14 ∨ x.f0 = 15 := by omega
      rcases this with e | e | e | e | e | e | e <;> simp [e]
    · rw [if_neg c, if_neg (by omega), if_neg (by omega), if_neg (by omega), if_neg (by omega), if_neg (by omega), if_neg (by omega), if_neg (by omega)]
  unfold spec_l11Kids.f kStr
  simp only [h1]
  by_cases a1 : x.f0 = 1
  · rw [if_pos a1, if_pos a1]
  rw [if_neg a1, if_neg a1]
  by_cases b1 : x.f0 = 2
  · rw [if_pos b1, beq_iff_eq.2 b1, if_pos rfl, if_pos (by omega)]
  rw [if_neg b1]
  by_cases b2 : x.f0 = 5
  · rw [if_pos b2, beq_iff_eq.2 b2, if_pos rfl, if_pos (by omega)]
  rw [if_neg b2]
  by_cases b3 : x.f0 = 7
  · rw [if_pos b3, beq_iff_eq.2 b3, if_pos rfl, if_pos (by omega)]
  rw [if_neg b3]
  by_cases b4 : x.f0 = 8
  · rw [if_pos b4, beq_iff_eq.2 b4, if_pos rfl, if_pos (by omega)]
  rw [if_neg b4]
  by_cases b5 : x.f0 = 16
  · rw [if_pos b5, beq_iff_eq.2 b5, if_pos rfl, if_pos (by omega)]
  rw [if_neg b5]
  by_cases b6 : x.f0 = 17
  · rw [beq_iff_eq.2 b6, if_pos rfl, if_pos (by omega)]
  rw [beq_eq_false_iff_ne.2 b6, if_neg Bool.false_ne_true, if_neg (show ¬ (x.f0 = 2 ∨ x.f0 = 5 ∨ x.f0 = 7 ∨ x.f0 = 8 ∨ x.f0 = 16 ∨ x.f0 = 17) by omega)]
def wantV (x : S95) (i : Nat) : Int := if (kStr x).toList = ([42] : List UInt8) then 115 else bt (kStr x) (i : Int)
def wantOK (q : Int) (y : S95) : Bool := decide ((q = 98 → y.f0 = 1) ∧ (q = 115 → 2 ≤ y.f0 ∧ y.f0 ≤ 10) ∧ (q = 101 → 11 ≤ y.f0 ∧ y.f0 ≤ 26))
theorem ba1 : (⟨#[42]⟩ : ByteArray).toList = [42] := by rw [ByteArray.toList_eq]
theorem ba2 : (⟨#[101]⟩ : ByteArray).toList = [101] := by rw [ByteArray.toList_eq]
theorem ba3 : (⟨#[101, 98, 98]⟩ : ByteArray).toList = [101, 98, 98] := by rw [ByteArray.toList_eq]
theorem ba4 : (⟨#[101, 98]⟩ : ByteArray).toList = [101, 98] := by rw [ByteArray.toList_eq]
theorem ba5 : (⟨#[101, 101]⟩ : ByteArray).toList = [101, 101] := by rw [ByteArray.toList_eq]
theorem ba6 : (⟨#[]⟩ : ByteArray).toList = [] := by rw [ByteArray.toList_eq]
theorem kid_cases {x : S95} (hk : inK x = true) : (x.f0 = 1 ∧ kStr x = ⟨#[42]⟩ ∧ kLo x = (0, 200)) ∨ ((kStr x).toList ≠ [42] ∧ ((x.f0 ≠ 1 ∧ x.f0 ≠ 3 ∧ x.f0 ≠ 4 ∧ (kStr x = ⟨#[101]⟩ ∧ kLo x = (1, 1) ∨ kStr x = ⟨#[101, 101]⟩ ∧ kLo x = (2, 2) ∨ kStr x = ⟨#[]⟩ ∧ kLo x = (0, 0))) ∨ (x.f0 = 3 ∧ x.f3 = 3 ∧ kStr x = ⟨#[101, 98, 98]⟩ ∧ kLo x = (2, 3)) ∨ (x.f0 = 3 ∧ x.f3 ≠ 3 ∧ kStr x = ⟨#[101, 98]⟩ ∧ kLo x = (2, 3)) ∨ (x.f0 = 4 ∧ kStr x = ⟨#[101, 98]⟩ ∧ kLo x = (2, 2)))) := by
  unfold inK at hk
  rw [decide_eq_true_eq] at hk
  unfold kStr kLo
  by_cases a1 : x.f0 = 1
  · left
    rw [if_pos a1, if_pos a1]
    exact ⟨a1, rfl, rfl⟩
  rw [if_neg a1, if_neg a1]
  right
  by_cases a2 : x.f0 = 3
  · rw [if_neg (by omega), if_pos a2, if_pos a2]
    by_cases a3 : x.f3 = 3
    · rw [if_pos a3]
      exact ⟨by rw [ba3]; decide, Or.inr (Or.inl ⟨a2, a3, rfl, rfl⟩)⟩
    · rw [if_neg a3]
      exact ⟨by rw [ba4]; decide, Or.inr (Or.inr (Or.inl ⟨a2, a3, rfl, rfl⟩))⟩
  rw [if_neg a2, if_neg a2]
  by_cases a3 : x.f0 = 4
  · rw [if_neg (by omega), if_pos a3, if_pos (Or.inl a3)]
    exact ⟨by rw [ba4]; decide, Or.inr (Or.inr (Or.inr ⟨a3, rfl, rfl⟩))⟩
  rw [if_neg a3]
  by_cases a4 : x.f0 = 6
  · rw [if_neg (by omega), if_pos a4, if_pos (Or.inr a4)]
    exact ⟨by rw [ba5]; decide, Or.inl ⟨a1, a2, a3, Or.inr (Or.inl ⟨rfl, rfl⟩)⟩⟩
  rw [if_neg a4, if_neg (show ¬ (x.f0 = 4 ∨ x.f0 = 6) by omega)]
  by_cases a5 : x.f0 = 2 ∨ x.f0 = 5 ∨ x.f0 = 7 ∨ x.f0 = 8 ∨ x.f0 = 16 ∨ x.f0 = 17
  · rw [if_pos a5, if_pos a5]
    exact ⟨by rw [ba2]; decide, Or.inl ⟨a1, a2, a3, Or.inl ⟨rfl, rfl⟩⟩⟩
  rw [if_neg a5, if_neg a5]
  by_cases a6 : 9 ≤ x.f0 ∧ x.f0 ≤ 15
  · rw [if_pos a6, if_neg (by omega)]
    exact ⟨by rw [ba6]; decide, Or.inl ⟨a1, a2, a3, Or.inr (Or.inr ⟨rfl, rfl⟩)⟩⟩
  · rw [if_neg a6, if_pos (by omega)]
    exact ⟨by rw [ba5]; decide, Or.inl ⟨a1, a2, a3, Or.inr (Or.inl ⟨rfl, rfl⟩)⟩⟩
theorem want_kid {x : S95} (y : S95) {i : Nat} (hk : inK x = true) (hv : kidV x = true) (hi : (i : Int) < x.f3) : wantOK (wantV x i) y = isKidV x i y := by
  unfold kidV at hv
  rw [decide_eq_true_eq] at hv
  have we : wantOK 101 y = decide (11 ≤ y.f0 ∧ y.f0 ≤ 26) := decide_eq_decide.2 (by simp)
  have wb : wantOK 98 y = decide (y.f0 = 1) := decide_eq_decide.2 (by simp)
  have ws : wantOK 115 y = decide (2 ≤ y.f0 ∧ y.f0 ≤ 10) := decide_eq_decide.2 (by simp)
  unfold wantV isKidV
  rcases kid_cases hk with ⟨a, e, g⟩ | ⟨hn, ⟨a1, a2, a3, h⟩ | ⟨a, b, e, g⟩ | ⟨a, b, e, g⟩ | ⟨a, e, g⟩⟩
  · rw [e, if_pos ba1, if_pos a, ws]
  · rw [if_neg hn, if_neg a1, if_neg (by omega)]
    rcases h with ⟨e, g⟩ | ⟨e, g⟩ | ⟨e, g⟩ <;> rw [g] at hv <;> dsimp only at hv <;> rw [e]
    · obtain rfl : i = 0 := by omega
      exact we
    · have : i = 0 ∨ i = 1 := by omega
      rcases this with rfl | rfl <;> exact we
    · omega
  · rw [if_neg hn, if_neg (by omega), e]
    have : i = 0 ∨ i = 1 ∨ i = 2 := by omega
    rcases this with rfl | rfl | rfl
    · rw [if_neg (by omega)]
      exact we
    · rw [if_pos ⟨by omega, Or.inl a⟩]
      exact wb
    · rw [if_pos ⟨by omega, Or.inl a⟩]
      exact wb
  · rw [if_neg hn, if_neg (by omega), e]
    rw [g] at hv
    dsimp only at hv
    have : i = 0 ∨ i = 1 := by omega
    rcases this with rfl | rfl
    · rw [if_neg (by omega)]
      exact we
    · rw [if_pos ⟨by omega, Or.inl a⟩]
      exact wb
  · rw [if_neg hn, if_neg (by omega), e]
    rw [g] at hv
    dsimp only at hv
    have : i = 0 ∨ i = 1 := by omega
    rcases this with rfl | rfl
    · rw [if_neg (by omega)]
      exact we
    · rw [if_pos ⟨by omega, Or.inr a⟩]
      exact wb
theorem kid_size {x : S95} (hk : inK x = true) : ((kStr x).toList = [42] → (kidV x = true ↔ 0 ≤ x.f3 ∧ x.f3 ≤ 200)) ∧ ((kStr x).toList ≠ [42] → (kidV x = true ↔ x.f3 = ((kStr x).size : Int)) ∧ (kStr x).size ≤ 3) := by
  unfold kidV
  rw [decide_eq_true_eq]
  rcases kid_cases hk with ⟨a, e, g⟩ | ⟨hn, ⟨a1, a2, a3, h⟩ | ⟨a, b, e, g⟩ | ⟨a, b, e, g⟩ | ⟨a, e, g⟩⟩
  · rw [e, g]
    exact ⟨fun _ => Iff.rfl, fun q => absurd ba1 q⟩
  · refine ⟨fun q => absurd q hn, fun _ => ?_⟩
    rcases h with ⟨e, g⟩ | ⟨e, g⟩ | ⟨e, g⟩ <;> rw [e, g]
    · exact ⟨by show (1 ≤ x.f3 ∧ x.f3 ≤ 1) ↔ x.f3 = 1; omega, by decide⟩
    · exact ⟨by show (2 ≤ x.f3 ∧ x.f3 ≤ 2) ↔ x.f3 = 2; omega, by decide⟩
    · exact ⟨by show (0 ≤ x.f3 ∧ x.f3 ≤ 0) ↔ x.f3 = 0; omega, by decide⟩
  · refine ⟨fun q => absurd q hn, fun _ => ?_⟩
    rw [e, g]
    exact ⟨by show (2 ≤ x.f3 ∧ x.f3 ≤ 3) ↔ x.f3 = 3; omega, by decide⟩
  · refine ⟨fun q => absurd q hn, fun _ => ?_⟩
    rw [e, g]
    exact ⟨by show (2 ≤ x.f3 ∧ x.f3 ≤ 3) ↔ x.f3 = 2; omega, by decide⟩
  · refine ⟨fun q => absurd q hn, fun _ => ?_⟩
    rw [e, g]
    exact ⟨by show (2 ≤ x.f3 ∧ x.f3 ≤ 2) ↔ x.f3 = 2; omega, by decide⟩
/-! ### the walk over a tree laid flat -/
def nd (l : List S95) (i : Nat) : S95 := l.getD i z95
theorem rd_nd (l : List S95) (i : Nat) : rd_T95 l (i : Int) = nd l i := rfl
theorem nd_get {l : List S95} {i : Nat} (h : i < l.length) : nd l i = l[i] := by
  unfold nd
  rw [List.getD_eq_getElem?_getD, List.getElem?_eq_getElem h]
  rfl
theorem nd_mem {l : List S95} {i : Nat} (h : i < l.length) : nd l i ∈ l := by
  rw [nd_get h]
  exact List.getElem_mem h
def kl (f : Nat → Option (Nat × Nat)) (ok : Nat → Nat → Bool) : Nat → Nat → Nat → Nat → Option (Nat × Nat)
  | 0, _, a, h => some (a, h)
  | c + 1, i, a, h => if ok i a = true then (f a).bind fun q => kl f ok c (i + 1) q.1 (max h q.2) else none
def okKid (l : List S95) (x : S95) (i a : Nat) : Bool := decide (a < l.length) && isKidV x i (nd l a)
def nodeOK (l : List S95) (a : Nat) : Bool := decide (a < l.length) && (inK (nd l a) && (ownV (nd l a) && kidV (nd l a)))
def TR (l : List S95) : Nat → Nat → Option (Nat × Nat)
  | 0, _ => none
  | m + 1, a => if nodeOK l a = true then (kl (TR l m) (okKid l (nd l a)) (nd l a).f3.toNat 0 (a + 1) 0).bind fun q => some (q.1, q.2 + 1) else none
theorem kl_bounds {f : Nat → Option (Nat × Nat)} {ok : Nat → Nat → Bool} {L m : Nat} (hf : ∀ a e h, f a = some (e, h) → a < e ∧ e ≤ L ∧ h ≤ m) (c : Nat) : ∀ (i a h e hh : Nat), kl f ok c i a h = some (e, hh) → a ≤ L → h ≤ m → a ≤ e ∧ e ≤ L ∧ h ≤ hh ∧ hh ≤ m := by
  induction c with
  | zero =>
    intro i a h e hh hq h1 h2
    rw [kl] at hq
    injection hq with hq
    injection hq with e1 e2
    omega
  | succ c ih =>
    intro i a h e hh hq h1 h2
    rw [kl] at hq
    split at hq
    · cases hfa : f a with
      | none =>
        rw [hfa] at hq
        cases hq
      | some q =>
        obtain ⟨e1, g1⟩ := q
        rw [hfa] at hq
        have := hf a e1 g1 hfa
        have := ih (i + 1) e1 (max h g1) e hh hq (by omega) (by omega)
        omega
    · cases hq
theorem nodeOK_lt {l : List S95} {a : Nat} (h : nodeOK l a = true) : a < l.length := by
  unfold nodeOK at h
  rw [Bool.and_eq_true, decide_eq_true_eq] at h
  exact h.1
theorem TR_bounds (l : List S95) (m : Nat) : ∀ a e h, TR l m a = some (e, h) → a < e ∧ e ≤ l.length ∧ h ≤ m := by
  induction m with
  | zero =>
    intro a e h hq
    cases hq
  | succ m ih =>
    intro a e h hq
    rw [TR] at hq
    split at hq
    · rename_i hn
      have hlt := nodeOK_lt hn
      cases hk : kl (TR l m) (okKid l (nd l a)) (nd l a).f3.toNat 0 (a + 1) 0 with
      | none =>
        rw [hk] at hq
        cases hq
      | some q =>
        obtain ⟨e1, g1⟩ := q
        rw [hk] at hq
        simp only [Option.bind_some] at hq
        injection hq with hq
        injection hq with q1 q2
        have := kl_bounds ih _ _ _ _ _ _ hk (by omega) (by omega)
        omega
    · cases hq
theorem TR_pos {l : List S95} {m a e h : Nat} (hq : TR l m a = some (e, h)) : 1 ≤ h := by
  cases m with
  | zero => cases hq
  | succ m =>
    rw [TR] at hq
    split at hq
    · cases hk : kl (TR l m) (okKid l (nd l a)) (nd l a).f3.toNat 0 (a + 1) 0 with
      | none =>
        rw [hk] at hq
        cases hq
      | some q =>
        rw [hk] at hq
        simp only [Option.bind_some] at hq
        injection hq with hq
        injection hq with q1 q2
        omega
    · cases hq
def enD (o : Option (Nat × Nat)) : Int := match o with | none => -1 | some q => (q.1 : Int)
theorem enD_none : enD none = -1 := rfl
theorem enD_some (q : Nat × Nat) : enD (some q) = (q.1 : Int) := rfl
theorem kidV_le {x : S95} (hk : inK x = true) (hv : kidV x = true) : 0 ≤ x.f3 ∧ x.f3 ≤ 200 := by
  have := kid_size hk
  by_cases h : (kStr x).toList = [42]
  · exact (this.1 h).1 hv
  · have h1 := this.2 h
    have h2 := h1.1.1 hv
    omega
theorem spec_l11End.want (l : List S95) (a : Nat) (q dp : Int) (ha : a < l.length) (k : Nat) : spec_l11End.j0 (k + 1) l (a : Int) q dp false = spec_l11End.j1 k l (a : Int) dp (!wantOK q (nd l a)) (nd l a).f0 (nd l a).f1 (nd l a).f2 (nd l a).f3 := by
  rw [spec_l11End.j0, if_neg Bool.false_ne_true, if_pos (int_nn a), if_pos (int_lt ha), rd_nd]
  unfold spec_l11Stmt.f spec_l11Expr.f
  generalize hx : nd l a = x
  by_cases h1 : q = 98
  · subst h1
    rw [if_pos rfl, if_neg (show ¬ ((98 : Int) = 115) by decide), if_neg (show ¬ ((98 : Int) = 101) by decide)]
    by_cases h2 : x.f0 = 1
    · rw [if_pos h2, show wantOK 98 x = true from decide_eq_true (by simp [h2])]
      rfl
    · rw [if_neg h2, show wantOK 98 x = false from decide_eq_false (by simp [h2])]
      rfl
  rw [if_neg h1]
  by_cases h2 : q = 115
  · subst h2
    rw [if_pos rfl, if_neg (show ¬ ((115 : Int) = 101) by decide)]
    by_cases h3 : x.f0 ≥ 2
    · rw [if_pos h3]
      simp only [Option.bind_some, decide_eq_true_eq]
      by_cases h4 : x.f0 ≤ 10
      · rw [if_pos h4, show wantOK 115 x = true from decide_eq_true (by simp; omega)]
        rfl
      · rw [if_neg h4, show wantOK 115 x = false from decide_eq_false (by simp; omega)]
        rfl
    · rw [if_neg h3]
      simp only [Option.bind_some, Bool.false_eq_true, if_false]
      rw [show wantOK 115 x = false from decide_eq_false (by simp; omega)]
      rfl
  rw [if_neg h2]
  by_cases h3 : q = 101
  · subst h3
    rw [if_pos rfl]
    by_cases h4 : x.f0 ≥ 11
    · rw [if_pos h4]
      simp only [Option.bind_some]
      refine congrArg (fun z => spec_l11End.j1 k l (a : Int) dp (!z) x.f0 x.f1 x.f2 x.f3) ?_
      refine decide_eq_decide.2 ?_
      simp
      omega
    · rw [if_neg h4]
      simp only [Option.bind_some]
      rw [show wantOK 101 x = false from decide_eq_false (by simp; omega)]
  rw [if_neg h3, show wantOK q x = true from decide_eq_true ⟨fun e => absurd e h1, fun e => absurd e h2, fun e => absurd e h3⟩]
  rfl
theorem spec_l11End.kids (l : List S95) (a : Nat) (dp : Int) (x : S95) (hi : inK x = true) (k : Nat) : spec_l11End.j1 (k + 2) l (a : Int) dp false x.f0 x.f1 x.f2 x.f3 = if kidV x = true then spec_l11End.l0 k l dp (kStr x) (wrap64 ((a : Int) + 1)) 0 x.f0 x.f1 x.f2 x.f3 else some (-1) := by
  have hz := kid_size hi
  rw [spec_l11End.j1, if_neg Bool.false_ne_true, spec_l11Kids.eq x (by omega)]
  simp only [Option.bind_some, spec_l11End.j2, if_true, Bool.false_eq_true, if_false]
  by_cases h1 : (kStr x).toList = [42]
  · have h2 := hz.1 h1
    rw [if_pos h1]
    by_cases h3 : x.f3 < 0
    · rw [if_pos h3, if_neg (fun e => by have := h2.1 e; omega)]
    · rw [if_neg h3]
      by_cases h4 : x.f3 > 200
      · rw [if_pos (decide_eq_true h4), if_neg (fun e => by have := h2.1 e; omega)]
      · rw [if_neg (by rw [decide_eq_true_eq]; exact h4), if_pos (h2.2 (by omega))]
  · have h2 := hz.2 h1
    rw [if_neg h1]
    by_cases h3 : x.f3 = ((kStr x).size : Int)
    · rw [if_pos h3, if_neg (show ¬ x.f3 < 0 by omega), if_neg (by rw [decide_eq_true_eq]; omega), if_pos (h2.1.2 h3)]
    · rw [if_neg h3, if_neg (fun e => h3 (h2.1.1 e))]
/-- the reference's walk -/
theorem spec_l11End.loop (l : List S95) (hl : l.length ≤ 200) (m : Nat) (dp : Int) (hdp : 0 ≤ dp ∧ dp ≤ 30) (hI : ∀ (a : Nat) (q : Int) (k : Nat), a ≤ l.length → 2000000 + 300 * m < k → spec_l11End.f k l (a : Int) q (dp + 1) = some (if wantOK q (nd l a) = true then enD (TR l m a) else -1)) (x : S95) (hx : inK x = true) (hv : kidV x = true) (c : Nat) : ∀ (i a h k : Nat), x.f3 = ((i + c : Nat) : Int) → a ≤ l.length → 2000000 + 300 * m + c + 1 < k → spec_l11End.l0 k l dp (kStr x) (a : Int) (i : Int) x.f0 x.f1 x.f2 x.f3 = some (enD (kl (TR l m) (okKid l x) c i a h)) := by
  induction c with
  | zero =>
    intro i a h k h3 ha hk
    obtain ⟨k, rfl⟩ : ∃ m, k = m + 1 := ⟨k - 1, by omega⟩
    rw [spec_l11End.l0, if_neg (by omega), kl]
    rfl
  | succ c ih =>
    intro i a h k h3 ha hk
    obtain ⟨k, rfl⟩ : ∃ m, k = m + 1 := ⟨k - 1, by omega⟩
    have hlt : (i : Int) < x.f3 := by omega
    have hle := kidV_le hx hv
    have hw := want_kid (nd l a) hx hv hlt
    have hz := kid_size hx
    have hgen : spec_l11End.l0 (k + 1) l dp (kStr x) (a : Int) (i : Int) x.f0 x.f1 x.f2 x.f3 = (spec_l11End.f k l (a : Int) (wantV x i) (dp + 1)).bind fun t => if t < 0 then some (-1) else spec_l11End.l0 k l dp (kStr x) t (wrap64 ((i : Int) + 1)) x.f0 x.f1 x.f2 x.f3 := by
      rw [spec_l11End.l0, if_pos hlt, wrap_in (x := dp + 1) (by omega) (by omega)]
      unfold wantV
      by_cases h1 : (kStr x).toList = [42]
      · rw [if_pos h1, if_pos h1]
      · have h2 := (hz.2 h1).1.1 hv
        rw [if_neg h1, if_neg h1, if_pos (int_nn i), if_pos (by omega)]
    rw [hgen, hI a _ k ha (by omega), hw]
    simp only [Option.bind_some]
    rw [kl]
    by_cases hal : a < l.length
    · have hok : okKid l x i a = isKidV x i (nd l a) := by
        unfold okKid
        rw [decide_eq_true hal, Bool.true_and]
      rw [hok]
      by_cases h5 : isKidV x i (nd l a) = true
      · rw [if_pos h5, if_pos h5]
        cases hT : TR l m a with
        | none =>
          rw [enD_none, if_pos (by decide)]
          rfl
        | some q =>
          have hb := TR_bounds l m a q.1 q.2 hT
          rw [enD_some, if_neg (by omega), wrap_succ (by omega)]
          exact ih (i + 1) q.1 (max h q.2) k (by omega) hb.2.1 (by omega)
      · rw [if_neg h5, if_neg h5, if_pos (by decide)]
        rfl
    · have hok : okKid l x i a = false := by
        unfold okKid
        rw [decide_eq_false hal, Bool.false_and]
      have hT : TR l m a = none := by
        cases m with
        | zero => rfl
        | succ m =>
          rw [TR, if_neg]
          intro e
          exact hal (nodeOK_lt e)
      rw [hok, if_neg Bool.false_ne_true, hT, enD_none, ite_self, if_pos (by decide)]
theorem fuel_in {a b k : Nat} (h : a + b < k) {c : Nat} (hc : c ≤ a) : c < k := Nat.lt_of_le_of_lt (Nat.le_trans hc (Nat.le_add_right a b)) h
theorem spec_l11End.eq (l : List S95) (hl : l.length ≤ 200) (hL : ∀ x ∈ l, x.f2.size ≤ 1048576) (m : Nat) : ∀ (a : Nat) (q dp : Int) (k : Nat), a ≤ l.length → 0 ≤ dp → dp + (m : Int) = 21 → 2000000 + 300 * m < k → spec_l11End.f k l (a : Int) q dp = some (if wantOK q (nd l a) = true then enD (TR l m a) else -1) := by
  induction m with
  | zero =>
    intro a q dp k ha h0 hd hk
    obtain ⟨k, rfl⟩ : ∃ m, k = m + 2 := ⟨k - 2, by omega⟩
    rw [spec_l11End.f, spec_l11End.j0, if_pos rfl]
    have : enD (TR l 0 a) = -1 := rfl
    rw [this, ite_self]
    by_cases h1 : (a : Int) ≥ (l.length : Int)
    · rw [if_pos h1]
    · rw [if_neg h1, if_pos (by omega)]
  | succ m ih =>
    intro a q dp k ha h0 hd hk
    have hk2 : 2000000 + (300 * m + 300) < k := by
      rw [← Nat.mul_succ]
      exact hk
    clear hk
    have hk1 : 1048710 < k := fuel_in hk2 (by omega)
    obtain ⟨k, rfl⟩ : ∃ m, k = m + 4 := ⟨k - 4, by omega⟩
    by_cases h1 : a < l.length
    · have hs := hL _ (nd_mem h1)
      have hkk : 1048700 < k + 3 := by clear hk2; omega
      have hO := spec_l11Own.eq (nd l a) hs hkk
      rewrite [spec_l11End.f, if_neg (by omega), if_neg (by omega), if_pos (int_nn a), if_pos (int_lt h1), rd_nd]
      rewrite [hO]
      simp only [Option.bind_some]
      rw [TR]
      unfold nodeOK
      rw [decide_eq_true h1, Bool.true_and]
      by_cases h2 : inK (nd l a) = true
      · by_cases h3 : ownV (nd l a) = true
        · rw [h2, h3]
          simp only [Bool.true_and, Bool.not_true]
          rw [spec_l11End.want l a q dp h1]
          by_cases h4 : wantOK q (nd l a) = true
          · rw [if_pos h4, h4, Bool.not_true, spec_l11End.kids l a dp _ h2]
            by_cases h5 : kidV (nd l a) = true
            · have hle := kidV_le h2 h5
              rw [if_pos h5, if_pos h5, wrap_succ (by omega)]
              have hb := spec_l11End.loop l hl m dp ⟨h0, by omega⟩ (fun a q k ha hk => ih a q (dp + 1) k ha (by omega) (by omega) hk) (nd l a) h2 h5 (nd l a).f3.toNat 0 (a + 1) 0 k (by omega) (by omega) (by omega)
              refine (show _ = _ from hb).trans (congrArg some ?_)
              cases kl (TR l m) (okKid l (nd l a)) (nd l a).f3.toNat 0 (a + 1) 0 <;> rfl
            · rw [if_neg h5, if_neg h5]
              rfl
          · rw [if_neg h4]
            rw [Bool.not_eq_true] at h4
            rw [h4, Bool.not_false, spec_l11End.j1, if_pos rfl]
        · rw [Bool.not_eq_true] at h3
          rw [h3, h2]
          simp only [Bool.false_and, Bool.and_false, Bool.not_false, Bool.false_eq_true, if_false]
          rw [spec_l11End.j0, if_pos rfl, enD_none, ite_self]
      · rw [Bool.not_eq_true] at h2
        rw [h2]
        simp only [Bool.false_and, Bool.not_false, Bool.false_eq_true, if_false]
        rw [spec_l11End.j0, if_pos rfl, enD_none, ite_self]
    · rw [spec_l11End.f, if_pos (by omega), spec_l11End.j0, if_pos rfl, TR, if_neg (fun e => h1 (nodeOK_lt e)), enD_none, ite_self]
/-! ### names met -/
def vs (ns : List ByteArray) (x : S95) : List ByteArray := if x.f0 = 2 ∨ x.f0 = 12 then (if hasS ns x.f2 = true then ns else ns ++ [x.f2]) else ns
def vars (ns : List ByteArray) (xs : List S95) : List ByteArray := xs.foldl vs ns
theorem vs_len (ns : List ByteArray) (x : S95) : (vs ns x).length ≤ ns.length + 1 := by
  unfold vs
  split
  · split
    · omega
    · simp
  · omega
theorem vars_len (xs : List S95) : ∀ ns, (vars ns xs).length ≤ ns.length + xs.length := by
  induction xs with
  | nil => intro ns; exact Nat.le_refl _
  | cons x xs ih =>
    intro ns
    have h1 := ih (vs ns x)
    have h2 := vs_len ns x
    show (vars (vs ns x) xs).length ≤ ns.length + (xs.length + 1)
    omega
def sg (l : List S95) (a e : Nat) : List S95 := (l.drop a).take (e - a)
theorem sg_nil (l : List S95) (a : Nat) : sg l a a = [] := by
  unfold sg
  rw [Nat.sub_self, List.take_zero]
theorem sg_cons {l : List S95} {a e : Nat} (h1 : a < l.length) (h2 : a < e) : sg l a e = nd l a :: sg l (a + 1) e := by
  unfold sg
  rw [List.drop_eq_getElem_cons h1, show e - a = (e - (a + 1)) + 1 by omega, List.take_succ_cons, nd_get h1]
theorem sg_app {l : List S95} {a b e : Nat} (h1 : a ≤ b) (h2 : b ≤ e) : sg l a e = sg l a b ++ sg l b e := by
  unfold sg
  rw [show e - a = (b - a) + (e - b) by omega, List.take_add, List.drop_drop, show a + (b - a) = b by omega]
theorem sg_len (l : List S95) (a e : Nat) : (sg l a e).length ≤ e - a := by
  unfold sg
  rw [List.length_take]
  omega
theorem vars_app (ns : List ByteArray) (xs ys : List S95) : vars ns (xs ++ ys) = vars (vars ns xs) ys := List.foldl_append
theorem namesF_vs (ns : List ByteArray) (x : S95) : namesF (hasS ns x.f2) x ns = vs ns x := rfl
/-- the program's walk -/
theorem treeL.loop (l : List S95) (hl : l.length ≤ 200) (m : Nat) (dp : Int) (hdp : 0 ≤ dp ∧ dp ≤ 30) (hI : ∀ (a : Nat) (ns : List ByteArray) (de : Int) (k : Nat), a < l.length → ns.length ≤ a → 2000000 + 300 * m < k → ∃ ns' de', treeF k l (a : Int) (dp + 1) ns de = some (enD (TR l m a), ns', de') ∧ ∀ e h, TR l m a = some (e, h) → ns' = vars ns (sg l a e) ∧ de' = max de (dp + (h : Int))) (x : S95) (c : Nat) : ∀ (i a h k : Nat) (ns : List ByteArray) (D : Int), x.f3 = ((i + c : Nat) : Int) → i + c ≤ 200 → a ≤ l.length → ns.length ≤ a → 2000000 + 300 * m + c + 1 < k → ∃ ns' de', treeL k l x (i : Int) (a : Int) dp ns (max D (dp + (h : Int))) = some (enD (kl (TR l m) (okKid l x) c i a h), ns', de') ∧ ∀ e hh, kl (TR l m) (okKid l x) c i a h = some (e, hh) → ns' = vars ns (sg l a e) ∧ de' = max D (dp + (hh : Int)) := by
  induction c with
  | zero =>
    intro i a h k ns D h3 hc ha hn hk
    obtain ⟨k, rfl⟩ : ∃ m, k = m + 1 := ⟨k - 1, by omega⟩
    rw [treeL, if_neg (by omega), kl]
    refine ⟨_, _, rfl, ?_⟩
    intro e hh hq
    injection hq with hq
    injection hq with q1 q2
    subst q1 q2
    rw [sg_nil]
    exact ⟨rfl, rfl⟩
  | succ c ih =>
    intro i a h k ns D h3 hc ha hn hk
    obtain ⟨k, rfl⟩ : ∃ m, k = m + 1 := ⟨k - 1, by omega⟩
    rw [treeL, if_pos (by omega), kl]
    by_cases hal : a < l.length
    · have hok : okKid l x i a = isKidV x i (nd l a) := by
        unfold okKid
        rw [decide_eq_true hal, Bool.true_and]
      rw [hok, if_neg (by omega), if_pos (int_nn a), rd_nd, impl_isKid.eq]
      simp only [Option.bind_some]
      by_cases h5 : isKidV x i (nd l a) = true
      · rw [if_pos h5, if_pos h5, wrap_in (x := dp + 1) (by omega) (by omega)]
        obtain ⟨ns1, de1, e1, e2⟩ := hI a ns (max D (dp + (h : Int))) k hal hn (by omega)
        rw [e1]
        simp only [Option.bind_some]
        cases hT : TR l m a with
        | none =>
          rw [enD_none, if_pos (by decide)]
          exact ⟨_, _, rfl, fun e hh hq => by cases hq⟩
        | some q =>
          obtain ⟨q1, q2⟩ := q
          obtain ⟨f1, f2⟩ := e2 q1 q2 hT
          have hb := TR_bounds l m a q1 q2 hT
          have hsl := sg_len l a q1
          have hvl := vars_len (sg l a q1) ns
          have hmx : max (max D (dp + (h : Int))) (dp + (q2 : Int)) = max D (dp + ((max h q2 : Nat) : Int)) := by omega
          rw [enD_some, if_neg (show ¬ ((q1 : Int) < 0) by omega), wrap_succ (by omega), f1, f2, hmx]
          simp only [Option.bind_some]
          obtain ⟨ns2, de2, g1, g2⟩ := ih (i + 1) q1 (max h q2) k (vars ns (sg l a q1)) D (by omega) (by omega) hb.2.1 (by omega) (by omega)
          refine ⟨ns2, de2, g1, ?_⟩
          intro e hh hq
          obtain ⟨g3, g4⟩ := g2 e hh hq
          have hk2 := kl_bounds (TR_bounds l m) c (i + 1) q1 (max h q2) e hh hq hb.2.1
          refine ⟨?_, g4⟩
          rw [g3, ← vars_app, ← sg_app (by omega)]
          by_cases hm : max h q2 ≤ m
          · exact (hk2 hm).1
          · exact (kl_bounds (m := max h q2 + m) (fun a e h hq => by have := TR_bounds l m a e h hq; omega) c (i + 1) q1 (max h q2) e hh hq hb.2.1 (by omega)).1
      · rw [if_neg h5, if_neg h5]
        exact ⟨_, _, rfl, fun e hh hq => by cases hq⟩
    · have hok : okKid l x i a = false := by
        unfold okKid
        rw [decide_eq_false hal, Bool.false_and]
      rw [hok, if_neg Bool.false_ne_true, if_pos (by omega)]
      exact ⟨_, _, rfl, fun e hh hq => by cases hq⟩
theorem treeF.eq (l : List S95) (hl : l.length ≤ 200) (hL : ∀ x ∈ l, x.f2.size ≤ 1048576) (m : Nat) : ∀ (a : Nat) (dp : Int) (ns : List ByteArray) (de : Int) (k : Nat), a ≤ l.length → 0 ≤ dp → dp + (m : Int) = 21 → ns.length ≤ a → 2000000 + 300 * m < k → ∃ ns' de', treeF k l (a : Int) dp ns de = some (enD (TR l m a), ns', de') ∧ ∀ e h, TR l m a = some (e, h) → ns' = vars ns (sg l a e) ∧ de' = max de (dp + (h : Int) - 1) := by
  induction m with
  | zero =>
    intro a dp ns de k ha h0 hd hn hk
    obtain ⟨k, rfl⟩ : ∃ m, k = m + 1 := ⟨k - 1, by omega⟩
    rw [treeF]
    by_cases h1 : (a : Int) ≥ (l.length : Int)
    · rw [if_pos h1]
      exact ⟨_, _, rfl, fun e h hq => by cases hq⟩
    · rw [if_neg h1, if_pos (by omega)]
      exact ⟨_, _, rfl, fun e h hq => by cases hq⟩
  | succ m ih =>
    intro a dp ns de k ha h0 hd hn hk
    have hk2 : 2000000 + (300 * m + 300) < k := by
      rw [← Nat.mul_succ]
      exact hk
    clear hk
    have hk1 : 1048710 < k := fuel_in hk2 (by omega)
    obtain ⟨k, rfl⟩ : ∃ m, k = m + 1 := ⟨k - 1, by omega⟩
    rw [treeF, TR]
    by_cases h1 : a < l.length
    · have hs := hL _ (nd_mem h1)
      have hkk : 1048700 < k := by clear hk2; omega
      have hO := impl_fieldsRight.eq (nd l a) hs hkk
      have hK := impl_kidsOf.eq (nd l a) (k := k) (by omega)
      have hC := slices_Contains_s.eq (l := ns) (nd l a).f2 (by omega) (k := k) (by omega)
      rw [if_neg (by omega), if_neg (by omega), if_pos (int_nn a), rd_nd, hK, impl_within.eq, hO, hC]
      simp only [Option.bind_some]
      have hN : nodeOK l a = (inK (nd l a) && (ownV (nd l a) && kidV (nd l a))) := by
        unfold nodeOK
        rw [decide_eq_true h1, Bool.true_and]
      rw [hN]
      by_cases h2 : inK (nd l a) = true
      · rw [if_pos (show decide (1 ≤ (nd l a).f0 ∧ (nd l a).f0 ≤ 26) = true from h2), h2, Bool.true_and, impl_within.eq]
        simp only [Option.bind_some]
        by_cases h5 : kidV (nd l a) = true
        · have hle := kidV_le h2 h5
          rw [if_pos (show decide ((kLo (nd l a)).1 ≤ (nd l a).f3 ∧ (nd l a).f3 ≤ (kLo (nd l a)).2) = true from h5), h5, Bool.and_true]
          by_cases h3 : ownV (nd l a) = true
          · rw [if_pos h3, if_pos h3, if_pos (by omega), namesF_vs, wrap_succ (by omega)]
            have hmx : mx de dp = max de (dp + ((0 : Nat) : Int)) := by
              unfold mx
              split <;> omega
            have hvl := vs_len ns (nd l a)
            obtain ⟨ns', de', g1, g2⟩ := treeL.loop l hl m dp ⟨h0, by omega⟩ (fun a ns de k ha hn hk => by
              obtain ⟨ns', de', q1, q2⟩ := ih a (dp + 1) ns de k (by omega) (by omega) (by omega) hn hk
              refine ⟨ns', de', q1, fun e h hq => ?_⟩
              obtain ⟨q3, q4⟩ := q2 e h hq
              refine ⟨q3, ?_⟩
              rw [q4]
              omega) (nd l a) (nd l a).f3.toNat 0 (a + 1) 0 k (vs ns (nd l a)) de (by omega) (by omega) (by omega) (by omega) (by omega)
            rw [hmx]
            refine ⟨ns', de', ?_, ?_⟩
            · refine (show _ = _ from g1).trans (congrArg some ?_)
              cases kl (TR l m) (okKid l (nd l a)) (nd l a).f3.toNat 0 (a + 1) 0 <;> rfl
            · intro e h hq
              cases hkl : kl (TR l m) (okKid l (nd l a)) (nd l a).f3.toNat 0 (a + 1) 0 with
              | none =>
                rw [hkl] at hq
                cases hq
              | some q =>
                obtain ⟨q1, q2⟩ := q
                rw [hkl] at hq
                simp only [Option.bind_some] at hq
                injection hq with hq
                injection hq with r1 r2
                subst r1 r2
                obtain ⟨g3, g4⟩ := g2 q1 q2 hkl
                have hb := kl_bounds (TR_bounds l m) _ _ _ _ _ _ hkl (by omega) (by omega)
                refine ⟨?_, ?_⟩
                · rw [g3, sg_cons h1 (by omega)]
                  rfl
                · rw [g4]
                  omega
          · rw [if_neg h3, if_neg h3]
            exact ⟨_, _, rfl, fun e h hq => by cases hq⟩
        · rw [if_neg (show ¬ (decide ((kLo (nd l a)).1 ≤ (nd l a).f3 ∧ (nd l a).f3 ≤ (kLo (nd l a)).2) = true) from h5)]
          rw [Bool.not_eq_true] at h5
          rw [h5, Bool.and_false, if_neg Bool.false_ne_true]
          exact ⟨_, _, rfl, fun e h hq => by cases hq⟩
      · rw [if_neg (show ¬ (decide (1 ≤ (nd l a).f0 ∧ (nd l a).f0 ≤ 26) = true) from h2)]
        rw [Bool.not_eq_true] at h2
        rw [h2, Bool.false_and, if_neg Bool.false_ne_true]
        exact ⟨_, _, rfl, fun e h hq => by cases hq⟩
    · rw [if_pos (by omega), if_neg (fun e => h1 (nodeOK_lt e))]
      exact ⟨_, _, rfl, fun e h hq => by cases hq⟩
/-! ### the reference's names and depth -/
theorem spec_l11Vars.inner (l : List S95) (ns : List ByteArray) (hn : ns.length ≤ 1000000) {i : Nat} (hi : i < l.length) (d : Nat) : ∀ (k j : Nat) (b : Bool), j ≤ ns.length → ns.length - j = d → spec_l11Vars.l1 (k + d + 1) l ns (i : Int) b (j : Int) = spec_l11Vars.l0 k l (if (b || hasS (ns.drop j) (nd l i).f2) = true then ns else ns ++ [(nd l i).f2]) (wrap64 ((i : Int) + 1)) := by
  induction d with
  | zero =>
    intro k j b hj hd
    rw [spec_l11Vars.l1, if_neg (by omega), List.drop_eq_nil_of_le (by omega), hasS_nil, Bool.or_false]
    cases b with
    | true => rw [if_pos rfl, if_pos rfl]
    | false => rw [if_neg Bool.false_ne_true, if_neg Bool.false_ne_true, if_pos (int_nn i), if_pos (int_lt hi), if_pos (by omega), rd_nd]
  | succ d ih =>
    intro k j b hj hd
    have hlt : j < ns.length := by omega
    have h := ih k (j + 1)
    rw [show k + (d + 1) + 1 = (k + d + 1) + 1 by omega, spec_l11Vars.l1, if_pos (by omega), wrap_succ (by omega), List.drop_eq_getElem_cons hlt, hasS_cons]
    cases b with
    | true => rw [if_pos rfl, h true (by omega) (by omega)]; rfl
    | false => rw [if_neg Bool.false_ne_true, if_pos (int_nn j), if_pos (int_nn i), if_pos (int_lt hi), rdStr hlt, rd_nd, h _ (by omega) (by omega), Bool.false_or]
theorem spec_l11Vars.loop (l : List S95) (hl : l.length ≤ 200) (d : Nat) : ∀ (k i : Nat) (ns : List ByteArray), i ≤ l.length → l.length - i = d → ns.length ≤ i → 300 * d < k → spec_l11Vars.l0 k l ns (i : Int) = some (vars ns (l.drop i)) := by
  induction d with
  | zero =>
    intro k i ns hi hd hn hk
    obtain ⟨k, rfl⟩ : ∃ m, k = m + 1 := ⟨k - 1, by omega⟩
    rw [spec_l11Vars.l0, if_neg (by omega), List.drop_eq_nil_of_le (by omega)]
    rfl
  | succ d ih =>
    intro k i ns hi hd hn hk
    obtain ⟨k, rfl⟩ : ∃ m, k = m + 2 := ⟨k - 2, by omega⟩
    have hlt : i < l.length := by omega
    have hj : ∀ b : Bool, spec_l11Vars.j1 (k + 1) l ns (i : Int) b = some (vars (if b = true then ns else (if hasS ns (nd l i).f2 = true then ns else ns ++ [(nd l i).f2])) (l.drop (i + 1))) := by
      intro b
      rw [spec_l11Vars.j1, wrap_succ (by omega)]
      cases b with
      | true => rw [if_pos rfl, if_pos rfl, ih k (i + 1) ns (by omega) (by omega) (by omega) (by omega)]
      | false =>
        rw [if_neg Bool.false_ne_true, if_neg Bool.false_ne_true]
        have h := spec_l11Vars.inner l ns (by omega) hlt ns.length (k - ns.length - 1) 0 false (by omega) (by omega)
        rw [show k - ns.length - 1 + ns.length + 1 = k by omega, wrap_succ (by omega), List.drop_zero, Bool.false_or] at h
        refine (show _ = _ from h).trans ?_
        refine ih _ (i + 1) _ (by omega) (by omega) ?_ (by omega)
        split
        · omega
        · simp
          omega
    rw [spec_l11Vars.l0, if_pos (int_lt hlt), if_pos (int_nn i), rd_nd, hj, hj, List.drop_eq_getElem_cons hlt]
    show _ = some (vars (vs ns l[i]) (l.drop (i + 1)))
    rw [← nd_get hlt]
    unfold vs
    by_cases h1 : (nd l i).f0 = 2
    · rw [if_pos h1, if_neg Bool.false_ne_true, if_pos (Or.inl h1)]
    · rw [if_neg h1]
      by_cases h2 : (nd l i).f0 = 12
      · rw [if_pos (Or.inr h2), h2, if_neg (by decide)]
      · rw [if_neg (show ¬ ((nd l i).f0 = 2 ∨ (nd l i).f0 = 12) by omega), if_pos (by rw [bne_iff_ne]; exact h2)]
theorem spec_l11Vars.eq {l : List S95} (hl : l.length ≤ 200) {k : Nat} (hk : 100000 < k) : spec_l11Vars.f k l = some (vars [] l) := by
  unfold spec_l11Vars.f
  exact spec_l11Vars.loop l hl l.length k 0 [] (by omega) (by omega) (Nat.le_refl 0) (by omega)
/-! ### both -/
def goodN (l : List S95) : Bool := decide (l.length ≤ 200) && (decide ((nd l 0).f0 = 1) && (decide (enD (TR l 20 0) = (l.length : Int)) && decide ((vars [] l).length ≤ 8)))
theorem spec_NodesRight.eq (l : List S95) (hL : ∀ x ∈ l, x.f2.size ≤ 1048576) {k : Nat} (hk : 3000000 < k) : spec_NodesRight.f k l = some (goodN l) := by
  unfold spec_NodesRight.f goodN
  by_cases h1 : l.length ≤ 200
  · have hE := spec_l11End.eq l h1 hL 20 0 98 1 k (by omega) (by omega) (by omega) (by omega)
    rw [if_pos (by omega), decide_eq_true h1, Bool.true_and]
    refine (congrArg (fun z => Option.bind z _) (show _ = _ from hE)).trans ?_
    have wb : wantOK 98 (nd l 0) = decide ((nd l 0).f0 = 1) := decide_eq_decide.2 (by simp)
    rw [wb, spec_l11Vars.eq h1 (by omega)]
    simp only [Option.bind_some]
    by_cases h2 : (nd l 0).f0 = 1
    · rw [decide_eq_true h2, if_pos rfl, Bool.true_and]
      by_cases h3 : enD (TR l 20 0) = (l.length : Int)
      · rw [if_pos h3, decide_eq_true h3, Bool.true_and]
        exact congrArg some (decide_eq_decide.2 (by omega))
      · rw [if_neg h3, decide_eq_false h3, Bool.false_and]
    · rw [decide_eq_false h2, if_neg Bool.false_ne_true, Bool.false_and, if_neg (by omega)]
  · rw [if_neg (by omega), decide_eq_false h1, Bool.false_and]
theorem impl_survey.eq (l : List S95) (hL : ∀ x ∈ l, x.f2.size ≤ 1048576) {k : Nat} (hk : 3000000 < k) : ∃ ns de, impl_survey.f k l = some (ns, de, goodN l) ∧ (goodN l = true → ns = vars [] l ∧ ∃ h : Nat, TR l 20 0 = some (l.length, h) ∧ de = (h : Int)) := by
  unfold impl_survey.f
  by_cases h0 : l.length = 0
  · rw [if_pos h0]
    have hg : goodN l = false := by
      unfold goodN
      rw [show TR l 20 0 = none from by rw [TR, if_neg (fun e => by have := nodeOK_lt e; omega)], enD_none, decide_eq_false (show ¬ ((-1 : Int) = (l.length : Int)) by omega)]
      simp
    rw [hg]
    exact ⟨_, _, rfl, fun e => by cases e⟩
  rw [if_neg h0]
  by_cases h1 : l.length ≤ 200
  · rw [if_neg (by omega)]
    unfold goodN
    rw [decide_eq_true h1, Bool.true_and]
    show ∃ ns de, (if (nd l 0).f0 = 1 then _ else _) = _ ∧ _
    by_cases h2 : (nd l 0).f0 = 1
    · rw [if_pos h2, decide_eq_true h2, Bool.true_and]
      obtain ⟨ns, de, g1, g2⟩ := treeF.eq l h1 hL 20 0 1 [] 0 k (by omega) (by omega) (by omega) (Nat.le_refl 0) (by omega)
      refine ⟨ns, de, ?_, ?_⟩
      · refine (congrArg (fun z => Option.bind z _) (show _ = _ from g1)).trans ?_
        simp only [Option.bind_some]
        refine congrArg (fun z => some (ns, de, z)) ?_
        cases hT : TR l 20 0 with
        | none =>
          rw [enD_none, decide_eq_false (show ¬ ((-1 : Int) = (l.length : Int)) by omega), Bool.false_and]
          exact decide_eq_false (fun e => by omega)
        | some q =>
          obtain ⟨q1, q2⟩ := q
          rw [enD_some]
          by_cases h3 : (q1 : Int) = (l.length : Int)
          · have e1 : q1 = l.length := by omega
            have e2 := (g2 q1 q2 hT).1
            have e3 : sg l 0 q1 = l := by
              unfold sg
              rw [e1, List.drop_zero, Nat.sub_zero, List.take_of_length_le (Nat.le_refl _)]
            rw [e3] at e2
            rw [decide_eq_true h3, Bool.true_and, e2]
            exact decide_eq_decide.2 ⟨fun e => e.2, fun e => ⟨h3, e⟩⟩
          · rw [decide_eq_false h3, Bool.false_and]
            exact decide_eq_false (fun e => h3 e.1)
      · intro hg
        rw [Bool.and_eq_true, decide_eq_true_eq, decide_eq_true_eq] at hg
        cases hT : TR l 20 0 with
        | none =>
          rw [hT, enD_none] at hg
          omega
        | some q =>
          obtain ⟨q1, q2⟩ := q
          rw [hT, enD_some] at hg
          have e1 : q1 = l.length := by
            have := hg.1
            dsimp only at this
            omega
          obtain ⟨e2, e4⟩ := g2 q1 q2 hT
          have e3 : sg l 0 q1 = l := by
            unfold sg
            rw [e1, List.drop_zero, Nat.sub_zero, List.take_of_length_le (Nat.le_refl _)]
          rw [e3] at e2
          refine ⟨e2, q2, by rw [e1], ?_⟩
          have := TR_pos hT
          rw [e4]
          omega
    · rw [if_neg h2, decide_eq_false h2, Bool.false_and]
      exact ⟨_, _, rfl, fun e => by cases e⟩
  · rw [if_pos (by omega)]
    unfold goodN
    rw [decide_eq_false h1, Bool.false_and]
    exact ⟨_, _, rfl, fun e => by cases e⟩
theorem node_sizes {l : List S93} (h : l.length + szNds l ≤ 1048576) : ∀ x ∈ l.map cvNode, x.f2.size ≤ 1048576 := by
  intro x hx
  obtain ⟨y, hy, rfl⟩ := List.mem_map.1 hx
  have := szNds_mem hy
  show y.f2.size ≤ _
  omega
def mtF : Nat → Int → ByteArray → ByteArray
  | 0, _, s => (⟨#[109]⟩ : ByteArray) ++ s
  | d + 1, n, s => if n > 0 then mtF d (Int.tdiv n 10) (strOfNums [(wrap64 (48 + (Int.tmod n 10))) % 256] ++ s) else (⟨#[109]⟩ : ByteArray) ++ s
def mtV (n : Int) : ByteArray := if n ≤ 0 then (⟨#[109, 48]⟩ : ByteArray) else mtF 12 n (⟨#[]⟩ : ByteArray)
theorem strOfNums_one (x : Int) : (strOfNums [x]).size = 1 := rfl
theorem laws_markText.loop (d : Nat) : ∀ (n k : Nat) (s : ByteArray), n < 10 ^ d → n ≤ 1000000000000 → d < k → s.size + d ≤ 1000000 → laws_markText.l0 k (n : Int) s = some (mtF d (n : Int) s) := by
  induction d with
  | zero =>
    intro n k s hn hn2 hk hs
    obtain ⟨k, rfl⟩ : ∃ m, k = m + 1 := ⟨k - 1, by omega⟩
    rw [laws_markText.l0, if_neg (by have : n < 1 := hn; omega), if_pos (by omega), mtF]
  | succ d ih =>
    intro n k s hn hn2 hk hs
    obtain ⟨k, rfl⟩ : ∃ m, k = m + 1 := ⟨k - 1, by omega⟩
    rw [laws_markText.l0, mtF]
    by_cases h : (n : Int) > 0
    · have e : Int.tdiv (n : Int) 10 = ((n / 10 : Nat) : Int) := rfl
      have hb : n / 10 < 10 ^ d := by
        rw [Nat.pow_succ] at hn
        exact Nat.div_lt_of_lt_mul (by rw [Nat.mul_comm]; exact hn)
      rw [if_pos h, if_pos h]
      simp only [Option.bind_some]
      rw [strOfNums_one, if_pos (by omega), e, wrap_in (x := ((n / 10 : Nat) : Int)) (by omega) (by omega), ih (n / 10) k _ hb (by omega) (by omega) ?_]
      · rw [ByteArray.size_append, strOfNums_one]
        omega
    · rw [if_neg h, if_neg h, if_pos (by omega)]
theorem laws_markText.eq {n : Int} {k : Nat} (h0 : 0 ≤ n) (h1 : n ≤ 100000000000) (hk : 20 < k) : laws_markText.f k n = some (mtV n) := by
  unfold laws_markText.f mtV
  by_cases h : n ≤ 0
  · rw [if_pos h, if_pos h]
  · rw [if_neg h, if_neg h]
    obtain ⟨m, rfl⟩ : ∃ m : Nat, n = (m : Int) := ⟨n.toNat, by omega⟩
    exact laws_markText.loop 12 m k _ (by have : (10 : Nat) ^ 12 = 1000000000000 := by decide
                                          omega) (by omega) (by omega) (by show 0 + 12 ≤ _; omega)
theorem nodes_vars (l : List S95) (hL : ∀ x ∈ l, x.f2.size ≤ 1048576) : ∃ ns : List ByteArray, ns.length ≤ 1048576 ∧ (∀ k, 3000000 < k → spec_NodesVars.f k l = some ns) ∧ (∀ k, 3000000 < k → impl_NodesVars.f k l = some ns) := by
  by_cases hg : goodN l = true
  · have hl : l.length ≤ 200 ∧ (vars [] l).length ≤ 8 := by
      have := hg
      unfold goodN at this
      rw [Bool.and_eq_true, Bool.and_eq_true, Bool.and_eq_true, decide_eq_true_eq, decide_eq_true_eq, decide_eq_true_eq, decide_eq_true_eq] at this
      exact ⟨this.1, this.2.2.2⟩
    refine ⟨vars [] l, by omega, ?_, ?_⟩
    · intro k hk
      unfold spec_NodesVars.f
      rw [spec_NodesRight.eq l hL hk, spec_l11Vars.eq hl.1 (by omega)]
      simp only [Option.bind_some]
      rw [if_pos hg]
    · intro k hk
      obtain ⟨ns, de, e1, e2⟩ := impl_survey.eq l hL hk
      unfold impl_NodesVars.f
      rw [e1]
      simp only [Option.bind_some]
      rw [if_pos hg, (e2 hg).1]
  · refine ⟨[], by simp, ?_, ?_⟩
    · intro k hk
      unfold spec_NodesVars.f
      rw [spec_NodesRight.eq l hL hk]
      simp only [Option.bind_some]
      rw [if_neg hg]
    · intro k hk
      obtain ⟨ns, de, e1, e2⟩ := impl_survey.eq l hL hk
      unfold impl_NodesVars.f
      rw [e1]
      simp only [Option.bind_some]
      rw [if_neg hg]
theorem laws_eqStringS.loop (a : List ByteArray) (hl : a.length ≤ 1048576) (d : Nat) : ∀ (k i : Nat), i ≤ a.length → a.length - i = d → d < k → laws_eqStringS.l0 k a a (i : Int) = some true := by
  induction d with
  | zero =>
    intro k i hi hd hk
    obtain ⟨k, rfl⟩ : ∃ m, k = m + 1 := ⟨k - 1, by omega⟩
    simp only [laws_eqStringS.l0]
    rw [if_neg (by omega)]
  | succ d ih =>
    intro k i hi hd hk
    obtain ⟨k, rfl⟩ : ∃ m, k = m + 1 := ⟨k - 1, by omega⟩
    have hlt : i < a.length := by omega
    simp only [laws_eqStringS.l0]
    rw [if_pos (int_lt hlt), if_pos (int_nn i), if_pos (int_lt hlt), if_pos trivial, wrap_succ (by omega)]
    exact ih k (i + 1) (by omega) (by omega) (by omega)
theorem laws_eqStringS.refl {a : List ByteArray} {k : Nat} (hl : a.length ≤ 1048576) (hk : 1048577 < k) : laws_eqStringS.f k a a = some true := by
  unfold laws_eqStringS.f
  rw [if_pos rfl]
  exact laws_eqStringS.loop a hl a.length k 0 (by omega) (by omega) (by omega)
/-- the marks of nodes -/
def mkNd : Nat → Int → List S95
  | 0, _ => []
  | n + 1, a => ⟨a, a + 1, mtV (a + 1 + 1), a + 1 + 1 + 1⟩ :: mkNd n (a + 4)
theorem laws_markNodeS.loop (d : Nat) : ∀ (x : List S95) (k i : Nat) (a : Int), x.length ≤ 1048576 → i ≤ x.length → x.length - i = d → 1 ≤ a → a + 4 * (d : Int) ≤ 10000000 → d + 30 < k → laws_markNodeS.l0 k x a (i : Int) = some (a + 4 * (d : Int), x.take i ++ mkNd d a) := by
  induction d with
  | zero =>
    intro x k i a hx hi hd h1 h2 hk
    obtain ⟨k, rfl⟩ : ∃ m, k = m + 1 := ⟨k - 1, by omega⟩
    rw [laws_markNodeS.l0, if_neg (by omega), mkNd, List.append_nil, List.take_of_length_le (by omega)]
    refine congrArg some (congrArg (fun z => (z, x)) ?_)
    omega
  | succ d ih =>
    intro x k i a hx hi hd h1 h2 hk
    obtain ⟨k, rfl⟩ : ∃ m, k = m + 1 := ⟨k - 1, by omega⟩
    have hlt : i < x.length := by omega
    rw [laws_markNodeS.l0, if_pos (int_lt hlt), if_pos (int_nn i), wrap_in (x := a + 1) (by omega) (by omega), wrap_in (x := a + 1 + 1) (by omega) (by omega), wrap_in (x := a + 1 + 1 + 1) (by omega) (by omega), wrap_in (x := a + 1 + 1 + 1 + 1) (by omega) (by omega), laws_markText.eq (n := a + 1 + 1) (by omega) (by omega) (by omega), wrap_succ (by omega), Int.toNat_natCast]
    simp only [Option.bind_some]
    have hl1 : ∀ u : S95, rd_T95 (x.set i u) (i : Int) = u := by
      intro u
      have h : i < (x.set i u).length := by rw [List.length_set]; exact hlt
      rw [rdNodeB h, List.getElem_set_self]
    simp only [List.set_set, hl1]
    have hs : (x.set i (⟨a, a + 1, mtV (a + 1 + 1), a + 1 + 1 + 1⟩ : S95)).length = x.length := List.length_set
    have := ih (x.set i ⟨a, a + 1, mtV (a + 1 + 1), a + 1 + 1 + 1⟩) k (i + 1) (a + 1 + 1 + 1 + 1) (by omega) (by omega) (by omega) (by omega) (by omega) (by omega)
    refine (show _ = _ from this).trans ?_
    have ht : (x.set i (⟨a, a + 1, mtV (a + 1 + 1), a + 1 + 1 + 1⟩ : S95)).take (i + 1) = x.take i ++ [⟨a, a + 1, mtV (a + 1 + 1), a + 1 + 1 + 1⟩] := by
      rw [List.take_succ_eq_append_getElem (by omega), List.getElem_set_self, List.take_set_of_le (Nat.le_refl i)]
    rw [ht, mkNd, List.append_assoc, show a + 1 + 1 + 1 + 1 = a + 4 by omega]
    refine congrArg some ?_
    rw [show a + 4 + 4 * (d : Int) = a + 4 * ((d + 1 : Nat) : Int) by omega]
    rfl
theorem laws_markNodeS.eq {x : List S95} {k : Nat} (hx : x.length ≤ 1048576) (hk : 2000000 < k) : laws_markNodeS.f k x 1 = some (1 + 4 * (x.length : Int), mkNd x.length 1) := by
  unfold laws_markNodeS.f
  exact laws_markNodeS.loop x.length x k 0 1 hx (by omega) (by omega) (by omega) (by omega) (by omega)
/-- the marks of strings -/
def mkSt : Nat → Int → List ByteArray
  | 0, _ => []
  | n + 1, a => mtV a :: mkSt n (a + 1)
theorem mkSt_len (n : Nat) : ∀ a, (mkSt n a).length = n := by
  induction n with
  | zero => intro a; rfl
  | succ n ih => intro a; rw [mkSt, List.length_cons, ih]
theorem laws_markStringS.loop (d : Nat) : ∀ (x : List ByteArray) (k i : Nat) (a : Int), x.length ≤ 1048576 → i ≤ x.length → x.length - i = d → 1 ≤ a → a + (d : Int) ≤ 10000000 → d + 30 < k → laws_markStringS.l0 k x a (i : Int) = some (a + (d : Int), x.take i ++ mkSt d a) := by
  induction d with
  | zero =>
    intro x k i a hx hi hd h1 h2 hk
    obtain ⟨k, rfl⟩ : ∃ m, k = m + 1 := ⟨k - 1, by omega⟩
    rw [laws_markStringS.l0, if_neg (by omega), mkSt, List.append_nil, List.take_of_length_le (by omega)]
    refine congrArg some (congrArg (fun z => (z, x)) ?_)
    omega
  | succ d ih =>
    intro x k i a hx hi hd h1 h2 hk
    obtain ⟨k, rfl⟩ : ∃ m, k = m + 1 := ⟨k - 1, by omega⟩
    have hlt : i < x.length := by omega
    rw [laws_markStringS.l0, if_pos (int_lt hlt), laws_markText.eq (n := a) (by omega) (by omega) (by omega)]
    simp only [Option.bind_some]
    rw [if_pos (int_nn i), wrap_in (x := a + 1) (by omega) (by omega), wrap_succ (by omega), Int.toNat_natCast]
    have hs : (x.set i (mtV a)).length = x.length := List.length_set
    rw [ih (x.set i (mtV a)) k (i + 1) (a + 1) (by omega) (by omega) (by omega) (by omega) (by omega) (by omega)]
    have ht : (x.set i (mtV a)).take (i + 1) = x.take i ++ [mtV a] := by
      rw [List.take_succ_eq_append_getElem (by omega), List.getElem_set_self, List.take_set_of_le (Nat.le_refl i)]
    rw [ht, mkSt, List.append_assoc]
    refine congrArg some ?_
    rw [show a + 1 + (d : Int) = a + ((d + 1 : Nat) : Int) by omega]
    rfl
theorem laws_markStringS.eq {x : List ByteArray} {k : Nat} (hx : x.length ≤ 1048576) (hk : 2000000 < k) : laws_markStringS.f k x 1 = some (1 + (x.length : Int), mkSt x.length 1) := by
  unfold laws_markStringS.f
  exact laws_markStringS.loop x.length x k 0 1 hx (by omega) (by omega) (by omega) (by omega) (by omega)
theorem laws_heldStringS.loop (d : Nat) : ∀ (y : List ByteArray) (k i : Nat) (a : Int), y.length ≤ 1048576 → i ≤ y.length → y.drop i = mkSt d a → 1 ≤ a → a + (d : Int) ≤ 10000000 → d + 30 < k → laws_heldStringS.l0 k y a (i : Int) = some (a + (d : Int)) := by
  induction d with
  | zero =>
    intro y k i a hy hi hd h1 h2 hk
    obtain ⟨k, rfl⟩ : ∃ m, k = m + 1 := ⟨k - 1, by omega⟩
    have : y.length ≤ i := List.drop_eq_nil_iff.1 hd
    rw [laws_heldStringS.l0, if_neg (by omega)]
    refine congrArg some ?_
    omega
  | succ d ih =>
    intro y k i a hy hi hd h1 h2 hk
    obtain ⟨k, rfl⟩ : ∃ m, k = m + 1 := ⟨k - 1, by omega⟩
    have hlt : i < y.length := by
      rcases Nat.lt_or_ge i y.length with e | e
      · exact e
      · rw [List.drop_eq_nil_of_le e] at hd
        cases hd
    rw [List.drop_eq_getElem_cons hlt, mkSt] at hd
    obtain ⟨e1, e2⟩ := List.cons.inj hd
    rw [laws_heldStringS.l0, if_pos (int_lt hlt), if_pos (int_nn i), laws_markText.eq (n := a) (by omega) (by omega) (by omega)]
    simp only [Option.bind_some]
    rw [rdStr hlt, e1, if_pos rfl, wrap_in (x := a + 1) (by omega) (by omega), wrap_succ (by omega), ih y k (i + 1) (a + 1) hy (by omega) e2 (by omega) (by omega) (by omega)]
    refine congrArg some ?_
    omega
theorem laws_heldStringS.eq {n : Nat} {k : Nat} (hx : n ≤ 1048576) (hk : 2000000 < k) : laws_heldStringS.f k (mkSt n 1) 1 = some (1 + (n : Int)) := by
  unfold laws_heldStringS.f
  exact laws_heldStringS.loop n (mkSt n 1) k 0 1 (by rw [mkSt_len]; exact hx) (by omega) rfl (by omega) (by omega) (by omega)

theorem FnExactNodesVars : laws_FnExactNodesVars.Pure := by
  intro l ⟨hl, hL⟩
  have hl := maxLen_le hl
  have hL2 : ∀ x ∈ l, x.f2.size ≤ 9223372036854775807 := fun x hx => maxLen_le (hL x hx).2.2.1
  refine ⟨6000010, ?_⟩
  unfold laws_FnExactNodesVars.f
  rw [laws_szNodeS.eq (by omega) (by omega) hl hL2 (by omega)]
  simp only [Option.bind_some]
  by_cases h : (1048576 : Int) < ((l.length + szNds l : Nat) : Int)
  · rw [if_pos h, if_pos (by omega)]
  · have o1 : (l.map cvNode).length ≤ 1048576 := by rw [List.length_map]; omega
    have o2 := node_sizes (l := l) (by omega)
    rw [if_neg h, if_neg (by omega)]
    obtain ⟨ns, hn, e1, e2⟩ := nodes_vars (l.map cvNode) o2
    simp only [laws_FnExactNodesVars.j0, laws_FnExactNodesVars.j1, laws_FnExactNodesVars.j2, laws_FnExactNodesVars.j3, laws_FnExactNodesVars.j4, laws_FnExactNodesVars.j5]
    simp only [laws_toNodeS.eq (l := l) (k := 6000010) (by omega) (by omega), laws_toNodeS.eq (l := l) (k := 6000009) (by omega) (by omega), laws_toNodeS.eq (l := l) (k := 6000005) (by omega) (by omega), Option.bind_some]
    rw [e1 _ (by omega), e2 _ (by omega)]
    simp only [Option.bind_some]
    rw [laws_eqStringS.refl hn (by omega), laws_eqNodeS.refl o1 (by omega)]
    simp only [Option.bind_some, if_true]
    rw [laws_markNodeS.eq o1 (by omega)]
    simp only [Option.bind_some]
    rw [if_neg (by omega), laws_eqStringS.refl hn (by omega)]
    simp only [Option.bind_some, Bool.not_true, Bool.false_eq_true, if_false]
    rw [laws_markStringS.eq hn (by omega)]
    simp only [Option.bind_some]
    rw [laws_heldStringS.eq hn (by omega)]
    simp only [Option.bind_some]
    rw [if_neg (by omega), if_pos trivial, e2 _ (by omega)]
    simp only [Option.bind_some]
    rw [laws_eqStringS.refl hn (by omega)]
    simp only [Option.bind_some, if_true]
    rw [laws_heldStringS.eq hn (by omega)]
    simp only [Option.bind_some]
    rw [if_neg (by omega), if_pos trivial]

end Go.Proofs.Ytcjclihkaaaihaa.Pure
