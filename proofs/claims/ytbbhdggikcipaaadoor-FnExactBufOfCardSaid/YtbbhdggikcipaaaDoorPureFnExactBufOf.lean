/- Proved: the program's BufOf returns what the reference's returns, for every text of at most 2^20 bytes; what it returns is its own: writing into it does not touch a later answer. -/
import Derived.Test.YtbbhdggikcipaaaDoorPFnExactBufOfx5
import Derived.Lib.RuneCountTail
import Derived.Lib.QuoteLoop
import Derived.Lib.Bytes
namespace Go.Proofs.YtbbhdggikcipaaaDoor.Pure
open Go.RowKit Go.Proofs.YtbbhdggikcipaaaDoor.PFnExactBufOf Go.Proofs.YtbbhdggikcipaaaDoorW.PrintWords Go.Proofs.YtbbhdggikcipaaaDoorW.PrintLast Go.Proofs.YtbbhdggikcipaaaDoorW.PrintMore
set_option linter.unusedVariables false
set_option linter.unusedSimpArgs false

/-! ### plain words -/
theorem wrap_in {x : Int} (h0 : -9223372036854775808 ≤ x) (h1 : x ≤ 9223372036854775807) : wrap64 x = x := by unfold wrap64; omega
theorem wrap_succ {i : Nat} (h : i < 4611686018427387904) : wrap64 ((i : Int) + 1) = ((i + 1 : Nat) : Int) := by unfold wrap64; omega
theorem rd_nat (l : List Int) (i : Nat) : rd l (i : Int) = l.getD i 0 := by simp [rd]
theorem drop_rd {l : List Int} {i : Nat} (h : i < l.length) : l.drop i = rd l (i : Int) :: l.drop (i + 1) := by
  rw [rd_nat, List.drop_eq_getElem_cons h, List.getD_eq_getElem?_getD, List.getElem?_eq_getElem h]
  rfl
theorem int_lt {i n : Nat} (h : i < n) : (i : Int) < (n : Int) := by omega
theorem int_nn (i : Nat) : (0 : Int) ≤ (i : Int) := by omega
theorem some_b {a b : Bool} (h : a = true ↔ b = true) : some a = some b := congrArg some (Bool.eq_iff_iff.2 h)
def isPt (a : Int) : Bool := decide (0 ≤ a ∧ a ≤ 1114111 ∧ ¬ (55296 ≤ a ∧ a ≤ 57343))
theorem spec_l01Point.eq (a : Int) : spec_l01Point.f a = some (isPt a) := by
  simp only [spec_l01Point.f, isPt]
  (repeat' split) <;> (refine some_b ?_; simp only [Bool.not_eq_true', Bool.not_false, decide_eq_true_eq, decide_eq_false_iff_not, Bool.false_eq_true]; first | omega | (rw [false_iff]; omega) | (rw [true_iff]; omega))
/-! ### texts of points -/
def enc (a : Int) : List Int :=
  if a < 128 then [a] else if a < 2048 then [192 + a / 64, 128 + a % 64] else if a < 65536 then [224 + a / 4096, 128 + (a / 64) % 64, 128 + a % 64] else [240 + a / 262144, 128 + (a / 4096) % 64, 128 + (a / 64) % 64, 128 + a % 64]
theorem isPt_in {a : Int} (h : isPt a = true) : 0 ≤ a ∧ a ≤ 1114111 ∧ ¬ (55296 ≤ a ∧ a ≤ 57343) := by
  unfold isPt at h
  exact of_decide_eq_true h
theorem spec_l01Bytes.eq {a : Int} (h : isPt a = true) : spec_l01Bytes.f a = some (enc a) := by
  obtain ⟨h0, h1, h2⟩ := isPt_in h
  unfold spec_l01Bytes.f enc
  rw [Int.tdiv_eq_ediv_of_nonneg h0, Int.tdiv_eq_ediv_of_nonneg h0, Int.tdiv_eq_ediv_of_nonneg h0, Int.tmod_eq_emod_of_nonneg h0]
  have w : ∀ x : Int, 0 ≤ x → x ≤ 2000000 → wrap64 x = x := fun x a b => wrap_in (by omega) (by omega)
  by_cases e1 : a < 128
  · rw [if_pos e1, if_pos e1]
    refine congrArg some ?_
    rw [show a % 256 = a by omega]
  rw [if_neg e1, if_neg e1]
  by_cases e2 : a < 2048
  · rw [if_pos e2, if_pos e2, w (a / 64) (by omega) (by omega), w (192 + a / 64) (by omega) (by omega), w (128 + a % 64) (by omega) (by omega)]
    rw [show (192 + a / 64) % 256 = 192 + a / 64 by omega, show (128 + a % 64) % 256 = 128 + a % 64 by omega]
  rw [if_neg e2, if_neg e2]
  have t64 : Int.tmod (a / 64) 64 = (a / 64) % 64 := Int.tmod_eq_emod_of_nonneg (by omega)
  have t4096 : Int.tmod (a / 4096) 64 = (a / 4096) % 64 := Int.tmod_eq_emod_of_nonneg (by omega)
  by_cases e3 : a < 65536
  · rw [if_pos e3, if_pos e3, w (a / 4096) (by omega) (by omega), w (a / 64) (by omega) (by omega), t64, w (224 + a / 4096) (by omega) (by omega), w (128 + a / 64 % 64) (by omega) (by omega), w (128 + a % 64) (by omega) (by omega)]
    rw [show (224 + a / 4096) % 256 = 224 + a / 4096 by omega, show (128 + a / 64 % 64) % 256 = 128 + a / 64 % 64 by omega, show (128 + a % 64) % 256 = 128 + a % 64 by omega]
  rw [if_neg e3, if_neg e3, w (a / 262144) (by omega) (by omega), w (a / 4096) (by omega) (by omega), w (a / 64) (by omega) (by omega), t64, t4096, w (240 + a / 262144) (by omega) (by omega), w (128 + a / 4096 % 64) (by omega) (by omega), w (128 + a / 64 % 64) (by omega) (by omega), w (128 + a % 64) (by omega) (by omega)]
  rw [show (240 + a / 262144) % 256 = 240 + a / 262144 by omega, show (128 + a / 4096 % 64) % 256 = 128 + a / 4096 % 64 by omega, show (128 + a / 64 % 64) % 256 = 128 + a / 64 % 64 by omega, show (128 + a % 64) % 256 = 128 + a % 64 by omega]
/-! ### the first point of a text -/
def gb (s : ByteArray) (i : Nat) : Nat := (s.get! i).toNat
theorem gb_lt (s : ByteArray) (i : Nat) : gb s i < 256 := UInt8.toNat_lt _
theorem bt_gb {s : ByteArray} {i : Nat} (h : i < s.size) : bt s (i : Int) = (gb s i : Int) := by
  unfold bt gb
  rw [Int.toNat_natCast, dif_pos h, Utf8W.get!_of_lt s i h]
theorem getD_get (s : ByteArray) (i : Nat) (h : i < s.size) : s.data.toList[i]? = some (s.get! i) := by
  rw [Utf8W.get!_of_lt s i h]
  rw [Array.getElem?_toList]
  exact Array.getElem?_eq_getElem h
theorem ext_eq (s : ByteArray) (n : Nat) (hn : n ≤ s.size) : (s.extract 0 n).toList = (List.range n).map (fun i => s.get! i) := by
  rw [ByteArray.toList_eq, Lib.extract_data, List.drop_zero, Nat.sub_zero]
  apply List.ext_getElem?
  intro i
  rw [List.getElem?_take, List.getElem?_map]
  by_cases h : i < n
  · rw [if_pos h, getD_get s i (by omega), List.getElem?_range h]
    rfl
  · rw [if_neg h, List.getElem?_eq_none (by rw [List.length_range]; omega)]
    rfl
theorem nums_eq (s : ByteArray) (xs : List Int) (n : Nat) (h : xs = (List.range n).map (fun i => (gb s i : Int))) : (strOfNums xs).toList = (List.range n).map (fun i => s.get! i) := by
  subst h
  rw [Lib.strOfNums_toList, Lib.bytesOf, List.map_map]
  apply List.map_congr_left
  intro i _
  show UInt8.ofNat ((gb s i : Int).toNat) = s.get! i
  rw [Int.toNat_natCast]
  exact UInt8.ofNat_toNat
theorem test_eq (s : ByteArray) (p : Int) (n : Nat) (hn : n ≤ s.size) (he : (enc p).length = n → enc p = (List.range n).map (fun i => (gb s i : Int))) : ((strOfNums (enc p)).toList = (s.extract 0 n).toList) = ((enc p).length = n) := by
  rw [ext_eq s n hn]
  refine propext ⟨fun e => ?_, fun e => nums_eq s _ n (he e)⟩
  have := congrArg List.length e
  rw [Lib.strOfNums_toList, Lib.bytesOf_length, List.length_map, List.length_range] at this
  exact this
theorem first_last (s : ByteArray) (p : Int) (n k : Nat) (hn : n ≤ s.size) (he : (enc p).length = n → enc p = (List.range n).map (fun i => (gb s i : Int))) : spec_l01First.l0 (k + 1) s (n : Int) p (n : Int) = some (if isPt p = true ∧ (enc p).length = n then (p, (n : Int)) else (65533, 1)) := by
  rw [spec_l01First.l0, if_neg (by omega), spec_l01Point.eq]
  simp only [Option.bind_some]
  by_cases h : isPt p = true
  · rw [if_pos h, spec_l01Bytes.eq h]
    simp only [Option.bind_some]
    rw [if_pos (int_nn n), if_pos (by omega), Int.toNat_natCast]
    have ht := test_eq s p n hn he
    by_cases h2 : (enc p).length = n
    · rw [if_pos (ht.symm ▸ h2), if_pos ⟨h, h2⟩]
    · rw [if_neg (fun e => h2 (ht ▸ e)), if_neg (fun e => h2 e.2)]
  · rw [if_neg h, if_neg (fun e => h e.1)]
theorem first_step (s : ByteArray) (p : Int) (n i k : Nat) (hi : i < n) (hs : i < s.size) (hs2 : s.size ≤ 4611686018427387903) (h0 : 0 ≤ p) (h1 : p ≤ 1000000) : spec_l01First.l0 (k + 1) s (n : Int) p (i : Int) = if gb s i / 64 = 2 then spec_l01First.l0 k s (n : Int) (64 * p + ((gb s i % 64 : Nat) : Int)) ((i + 1 : Nat) : Int) else some (65533, 1) := by
  have hb := gb_lt s i
  rw [spec_l01First.l0, if_pos (by omega), if_pos (int_nn i), if_pos (by omega), bt_gb hs, wrap_succ (by omega)]
  by_cases h : gb s i / 64 = 2
  · rw [if_pos h, if_neg (by omega), if_neg (by omega), wrap_in (x := 64 * p) (by omega) (by omega), wrap_in (by omega) (by omega), show ((gb s i : Int) - 128) % 256 = ((gb s i % 64 : Nat) : Int) by omega]
  · rw [if_neg h]
    by_cases h2 : (gb s i : Int) < 128
    · rw [if_pos h2]
    · rw [if_neg h2, if_pos (by omega)]
theorem enc2 {p : Int} : (enc p).length = 2 ↔ 128 ≤ p ∧ p < 2048 := by
  unfold enc
  by_cases h1 : p < 128
  · rw [if_pos h1]; simp; omega
  rw [if_neg h1]
  by_cases h2 : p < 2048
  · rw [if_pos h2]; simp; omega
  rw [if_neg h2]
  split <;> simp <;> omega
theorem enc3 {p : Int} : (enc p).length = 3 ↔ 2048 ≤ p ∧ p < 65536 := by
  unfold enc
  by_cases h1 : p < 128
  · rw [if_pos h1]; simp; omega
  rw [if_neg h1]
  by_cases h2 : p < 2048
  · rw [if_pos h2]; simp; omega
  rw [if_neg h2]
  by_cases h3 : p < 65536
  · rw [if_pos h3]; simp; omega
  · rw [if_neg h3]; simp; omega
theorem enc4 {p : Int} : (enc p).length = 4 ↔ 65536 ≤ p := by
  unfold enc
  by_cases h1 : p < 128
  · rw [if_pos h1]; simp; omega
  rw [if_neg h1]
  by_cases h2 : p < 2048
  · rw [if_pos h2]; simp; omega
  rw [if_neg h2]
  by_cases h3 : p < 65536
  · rw [if_pos h3]; simp; omega
  · rw [if_neg h3]; simp; omega
theorem isPt_dec (p : Nat) : isPt (p : Int) = decide (p < 55296 ∨ (57344 ≤ p ∧ p ≤ 1114111)) := decide_eq_decide.2 (by omega)
def fR (o : Nat × Nat) : Option (Int × Int) := some ((o.1 : Int), (o.2 : Int))
theorem spec_l01First.eq (s : ByteArray) (h0 : 0 < s.size) (hs : s.size ≤ 4611686018427387903) {k : Nat} (hk : 20 < k) : spec_l01First.f k s = fR (Utf8.decode s 0) := by
  obtain ⟨k, rfl⟩ : ∃ m, k = m + 10 := ⟨k - 10, by omega⟩
  have hD : Utf8.decode s 0 = Lib.decodeN s.size (gb s 0) (gb s 1) (gb s 2) (gb s 3) := Lib.decode_at s 0
  have hc : bt s 0 = (gb s 0 : Int) := bt_gb (i := 0) h0
  have a0 := gb_lt s 0
  have a1 := gb_lt s 1
  have a2 := gb_lt s 2
  have a3 := gb_lt s 3
  obtain ⟨b0, e0⟩ : ∃ b, b = gb s 0 := ⟨_, rfl⟩
  obtain ⟨b1, e1⟩ : ∃ b, b = gb s 1 := ⟨_, rfl⟩
  obtain ⟨b2, e2⟩ : ∃ b, b = gb s 2 := ⟨_, rfl⟩
  obtain ⟨b3, e3⟩ : ∃ b, b = gb s 3 := ⟨_, rfl⟩
  rw [hD]
  unfold spec_l01First.f
  rw [if_pos (by omega), hc, ← e0, ← e1, ← e2, ← e3, wrap_in (x := (b0 : Int)) (by omega) (by omega)]
  rw [← e0] at a0
  rw [← e1] at a1
  rw [← e2] at a2
  rw [← e3] at a3
  unfold Lib.decodeN
  by_cases c1 : b0 < 128
  · rw [if_pos (by omega), if_pos c1]
    rfl
  rw [if_neg (by omega), if_neg c1]
  have bad : ∀ k p, spec_l01First.j2 (k + 2) s 0 p = some (65533, 1) := by
    intro k p
    rw [spec_l01First.j2, if_pos rfl, spec_l01First.j3, if_pos rfl]
  have go : ∀ (k n : Nat) (p : Int), 0 < n → spec_l01First.j2 (k + 2) s (n : Int) p = if s.size < n then some (65533, 1) else spec_l01First.l0 k s (n : Int) p ((1 : Nat) : Int) := by
    intro k n p hn
    rw [spec_l01First.j2, if_neg (by omega), spec_l01First.j3]
    by_cases h : s.size < n
    · rw [if_pos (by rw [decide_eq_true_eq]; omega), if_pos h]
    · rw [if_neg (by rw [decide_eq_true_eq]; omega), if_neg h]
      rfl
  by_cases c2 : b0 < 192
  · rw [if_neg (by omega), spec_l01First.j0, if_neg Bool.false_ne_true, if_neg (by omega), spec_l01First.j1, if_neg Bool.false_ne_true, if_neg (by omega), bad, if_neg (fun e => by omega), if_neg (fun e => by omega), if_neg (fun e => by omega)]
    rfl
  rw [if_pos (show ((b0 : Int)) ≥ 192 by omega), spec_l01First.j0]
  by_cases c3 : b0 < 224
  · rw [if_pos (by rw [decide_eq_true_eq]; omega), wrap_in (by omega) (by omega)]
    refine (show _ = _ from go (k + 7) 2 _ (by omega)).trans ?_
    by_cases c4 : s.size < 2
    · rw [if_pos c4, if_neg (fun e => by omega), if_neg (fun e => by omega), if_neg (fun e => by omega)]
      rfl
    rw [if_neg c4, first_step s _ 2 1 _ (by omega) (by omega) hs (by omega) (by omega), ← e1]
    by_cases c5 : b1 / 64 = 2
    · have hP : 64 * ((b0 : Int) - 192) + ((b1 % 64 : Nat) : Int) = ((b0 % 32 * 64 + b1 % 64 : Nat) : Int) := by omega
      obtain ⟨P, eP⟩ : ∃ P, P = b0 % 32 * 64 + b1 % 64 := ⟨_, rfl⟩
      rw [if_pos c5, if_pos (by omega), hP, ← eP]
      refine (show _ = _ from first_last s (P : Int) 2 (k + 5) (by omega) (fun e => ?_)).trans ?_
      · have := enc2.1 e
        unfold enc
        rw [if_neg (by omega), if_pos (by omega)]
        show _ = [(gb s 0 : Int), (gb s 1 : Int)]
        rw [← e0, ← e1, show (192 + (P : Int) / 64) = (b0 : Int) by omega, show (128 + (P : Int) % 64) = (b1 : Int) by omega]
      · have hI : (isPt (P : Int) = true ∧ (enc (P : Int)).length = 2) ↔ ((P < 55296 ∨ (57344 ≤ P ∧ P ≤ 1114111)) ∧ 128 ≤ (P : Int) ∧ (P : Int) < 2048) := by rw [isPt_dec, decide_eq_true_eq, enc2]
        by_cases c6 : P ≥ 128
        · rw [if_pos (hI.2 (by omega)), if_pos c6]
          rfl
        · rw [if_neg (fun e => by have := hI.1 e; omega), if_neg c6]
          rfl
    · rw [if_neg c5, if_neg (fun e => by omega), if_neg (fun e => by omega), if_neg (fun e => by omega)]
      rfl
  rw [if_neg (by rw [decide_eq_true_eq]; omega), if_pos (show ((b0 : Int)) ≥ 224 by omega), spec_l01First.j1, if_neg (show ¬ (b0 / 32 = 6 ∧ 1 < s.size ∧ b1 / 64 = 2) from fun e => by omega)]
  by_cases c4 : b0 < 240
  · rw [if_pos (by rw [decide_eq_true_eq]; omega), wrap_in (by omega) (by omega)]
    refine (show _ = _ from go (k + 6) 3 _ (by omega)).trans ?_
    by_cases c5 : s.size < 3
    · rw [if_pos c5, if_neg (fun e => by omega), if_neg (fun e => by omega)]
      rfl
    rw [if_neg c5, first_step s _ 3 1 _ (by omega) (by omega) hs (by omega) (by omega), ← e1]
    by_cases c6 : b1 / 64 = 2
    · rw [if_pos c6]
      refine (show _ = _ from first_step s _ 3 2 _ (by omega) (by omega) hs (by omega) (by omega)).trans ?_
      rw [← e2]
      by_cases c7 : b2 / 64 = 2
      · have hP : 64 * (64 * ((b0 : Int) - 224) + ((b1 % 64 : Nat) : Int)) + ((b2 % 64 : Nat) : Int) = ((b0 % 16 * 4096 + b1 % 64 * 64 + b2 % 64 : Nat) : Int) := by omega
        obtain ⟨P, eP⟩ : ∃ P, P = b0 % 16 * 4096 + b1 % 64 * 64 + b2 % 64 := ⟨_, rfl⟩
        rw [if_pos c7, if_pos (by omega), hP, ← eP]
        refine (show _ = _ from first_last s (P : Int) 3 (k + 3) (by omega) (fun e => ?_)).trans ?_
        · have := enc3.1 e
          unfold enc
          rw [if_neg (by omega), if_neg (by omega), if_pos (by omega)]
          show _ = [(gb s 0 : Int), (gb s 1 : Int), (gb s 2 : Int)]
          rw [← e0, ← e1, ← e2, show (224 + (P : Int) / 4096) = (b0 : Int) by omega, show (128 + (P : Int) / 64 % 64) = (b1 : Int) by omega, show (128 + (P : Int) % 64) = (b2 : Int) by omega]
        · have hI : (isPt (P : Int) = true ∧ (enc (P : Int)).length = 3) ↔ ((P < 55296 ∨ (57344 ≤ P ∧ P ≤ 1114111)) ∧ 2048 ≤ (P : Int) ∧ (P : Int) < 65536) := by rw [isPt_dec, decide_eq_true_eq, enc3]
          by_cases c8 : P ≥ 2048 ∧ (P < 55296 ∨ (57344 ≤ P ∧ P ≤ 1114111))
          · rw [if_pos (hI.2 (by omega)), if_pos c8]
            rfl
          · rw [if_neg (fun e => by have := hI.1 e; omega), if_neg c8]
            rfl
      · rw [if_neg c7, if_neg (fun e => by omega), if_neg (fun e => by omega)]
        rfl
    · rw [if_neg c6, if_neg (fun e => by omega), if_neg (fun e => by omega)]
      rfl
  rw [if_neg (by rw [decide_eq_true_eq]; omega), if_pos (show ((b0 : Int)) ≥ 240 by omega), if_neg (show ¬ (b0 / 16 = 14 ∧ (1 < s.size ∧ b1 / 64 = 2) ∧ 2 < s.size ∧ b2 / 64 = 2) from fun e => by omega)]
  by_cases c5 : b0 < 248
  · rw [if_pos (show ((b0 : Int)) < 248 by omega), wrap_in (by omega) (by omega)]
    refine (show _ = _ from go (k + 6) 4 _ (by omega)).trans ?_
    by_cases c6 : s.size < 4
    · rw [if_pos c6, if_neg (fun e => by omega)]
      rfl
    rw [if_neg c6, first_step s _ 4 1 _ (by omega) (by omega) hs (by omega) (by omega), ← e1]
    by_cases c7 : b1 / 64 = 2
    · rw [if_pos c7]
      refine (show _ = _ from first_step s _ 4 2 _ (by omega) (by omega) hs (by omega) (by omega)).trans ?_
      rw [← e2]
      by_cases c8 : b2 / 64 = 2
      · rw [if_pos c8]
        refine (show _ = _ from first_step s _ 4 3 _ (by omega) (by omega) hs (by omega) (by omega)).trans ?_
        rw [← e3]
        by_cases c9 : b3 / 64 = 2
        · have hP : 64 * (64 * (64 * ((b0 : Int) - 240) + ((b1 % 64 : Nat) : Int)) + ((b2 % 64 : Nat) : Int)) + ((b3 % 64 : Nat) : Int) = ((b0 % 8 * 262144 + b1 % 64 * 4096 + b2 % 64 * 64 + b3 % 64 : Nat) : Int) := by omega
          obtain ⟨P, eP⟩ : ∃ P, P = b0 % 8 * 262144 + b1 % 64 * 4096 + b2 % 64 * 64 + b3 % 64 := ⟨_, rfl⟩
          rw [if_pos c9, if_pos (by omega), hP, ← eP]
          refine (show _ = _ from first_last s (P : Int) 4 (k + 2) (by omega) (fun e => ?_)).trans ?_
          · have := enc4.1 e
            unfold enc
            rw [if_neg (by omega), if_neg (by omega), if_neg (by omega)]
            show _ = [(gb s 0 : Int), (gb s 1 : Int), (gb s 2 : Int), (gb s 3 : Int)]
            rw [← e0, ← e1, ← e2, ← e3, show (240 + (P : Int) / 262144) = (b0 : Int) by omega, show (128 + (P : Int) / 4096 % 64) = (b1 : Int) by omega, show (128 + (P : Int) / 64 % 64) = (b2 : Int) by omega, show (128 + (P : Int) % 64) = (b3 : Int) by omega]
          · have hI : (isPt (P : Int) = true ∧ (enc (P : Int)).length = 4) ↔ ((P < 55296 ∨ (57344 ≤ P ∧ P ≤ 1114111)) ∧ 65536 ≤ (P : Int)) := by rw [isPt_dec, decide_eq_true_eq, enc4]
            by_cases c10 : P ≥ 65536 ∧ (P < 55296 ∨ (57344 ≤ P ∧ P ≤ 1114111))
            · rw [if_pos (hI.2 (by omega)), if_pos c10]
              rfl
            · rw [if_neg (fun e => by have := hI.1 e; omega), if_neg c10]
              rfl
        · rw [if_neg c9, if_neg (fun e => by omega)]
          rfl
      · rw [if_neg c8, if_neg (fun e => by omega)]
        rfl
    · rw [if_neg c7, if_neg (fun e => by omega)]
      rfl
  · rw [if_neg (show ¬ ((b0 : Int)) < 248 by omega), bad, if_neg (fun e => by omega)]
    rfl
theorem laws_eqInt64S.loop (a b : List Int) (hab : a.length = b.length) (hl : a.length ≤ 1048576) (d : Nat) : ∀ (k i : Nat), i ≤ a.length → a.length - i = d → d < k → laws_eqInt64S.l0 k a b (i : Int) = some (decide (a.drop i = b.drop i)) := by
  induction d with
  | zero =>
    intro k i hi hd hk
    obtain ⟨k, rfl⟩ : ∃ m, k = m + 1 := ⟨k - 1, by omega⟩
    simp only [laws_eqInt64S.l0]
    rw [if_neg (by omega), List.drop_eq_nil_of_le (by omega), List.drop_eq_nil_of_le (by omega)]
    rfl
  | succ d ih =>
    intro k i hi hd hk
    obtain ⟨k, rfl⟩ : ∃ m, k = m + 1 := ⟨k - 1, by omega⟩
    have hlt : i < a.length := by omega
    simp only [laws_eqInt64S.l0]
    rw [if_pos (int_lt hlt), if_pos (int_nn i), if_pos (by omega), wrap_succ (by omega), ih k (i + 1) (by omega) (by omega) (by omega), drop_rd hlt, drop_rd (show i < b.length by omega)]
    by_cases h : rd a (i : Int) = rd b (i : Int)
    · rw [if_pos h, h]
      simp
    · rw [if_neg h]
      simp [h]
theorem laws_eqInt64S.eq {a b : List Int} {k : Nat} (hl : a.length ≤ 1048576) (hk : a.length < k) : laws_eqInt64S.f k a b = some (decide (a = b)) := by
  unfold laws_eqInt64S.f
  by_cases h : a.length = b.length
  · rw [if_pos (by omega)]
    have := laws_eqInt64S.loop a b h hl a.length k 0 (by omega) (by omega) hk
    simpa using this
  · rw [if_neg (by omega)]
    refine congrArg some (decide_eq_false (fun e => h (by rw [e]))).symm
/-- the row of marks -/
def mkL : Nat → Int → List Int
  | 0, _ => []
  | n + 1, a => mkL n a ++ [a + (n : Int)]
theorem mkL_zero (a : Int) : mkL 0 a = [] := rfl
theorem mkL_succ (n : Nat) (a : Int) : mkL (n + 1) a = mkL n a ++ [a + (n : Int)] := rfl
theorem mkL_length (n : Nat) (a : Int) : (mkL n a).length = n := by
  induction n with
  | zero => rfl
  | succ n ih => rw [mkL_succ, List.length_append, ih]; rfl
theorem mkL_rd {n : Nat} {a : Int} : ∀ {i : Nat}, i < n → rd (mkL n a) (i : Int) = a + (i : Int) := by
  induction n with
  | zero => intro i h; omega
  | succ n ih =>
    intro i h
    rw [rd_nat, mkL_succ, List.getD_eq_getElem?_getD]
    by_cases e : i = n
    · subst e
      rw [List.getElem?_append_right (by rw [mkL_length]; omega), mkL_length]
      simp
    · rw [List.getElem?_append_left (by rw [mkL_length]; omega)]
      have := ih (i := i) (by omega)
      rw [rd_nat, List.getD_eq_getElem?_getD] at this
      exact this
theorem laws_markInt64S.loop (l : List Int) (hl : l.length ≤ 1048576) (a : Int) (h0 : 0 ≤ a) (h1 : a ≤ 4000000000) (d : Nat) : ∀ (k i : Nat), i ≤ l.length → l.length - i = d → d < k → laws_markInt64S.l0 k (mkL i a ++ l.drop i) (a + (i : Int)) (i : Int) = some (a + (l.length : Int), mkL l.length a) := by
  induction d with
  | zero =>
    intro k i hi hd hk
    obtain ⟨k, rfl⟩ : ∃ m, k = m + 1 := ⟨k - 1, by omega⟩
    obtain rfl : i = l.length := by omega
    simp only [laws_markInt64S.l0]
    rw [List.drop_length, List.append_nil, mkL_length, if_neg (by omega)]
  | succ d ih =>
    intro k i hi hd hk
    obtain ⟨k, rfl⟩ : ∃ m, k = m + 1 := ⟨k - 1, by omega⟩
    have hlt : i < l.length := by omega
    have hlen : (mkL i a ++ l.drop i).length = l.length := by rw [List.length_append, mkL_length, List.length_drop]; omega
    simp only [laws_markInt64S.l0]
    rw [if_pos (by omega), if_pos (int_nn i), wrap_succ (by omega), wrap_in (by omega) (by omega), Int.toNat_natCast]
    have hs : (mkL i a ++ l.drop i).set i (a + (i : Int)) = mkL (i + 1) a ++ l.drop (i + 1) := by
      rw [List.set_append_right _ _ (by rw [mkL_length]; omega), mkL_length, Nat.sub_self, drop_rd hlt, List.set_cons_zero, mkL_succ, List.append_assoc]
      rfl
    rw [hs, show a + (i : Int) + 1 = a + ((i + 1 : Nat) : Int) by omega]
    exact ih k (i + 1) (by omega) (by omega) (by omega)
theorem laws_markInt64S.eq {l : List Int} {a : Int} {k : Nat} (hl : l.length ≤ 1048576) (h0 : 0 ≤ a) (h1 : a ≤ 4000000000) (hk : l.length < k) : laws_markInt64S.f k l a = some (a + (l.length : Int), mkL l.length a) := by
  have := laws_markInt64S.loop l hl a h0 h1 l.length k 0 (by omega) (by omega) hk
  rw [mkL_zero, List.drop_zero] at this
  unfold laws_markInt64S.f
  simpa using this
theorem laws_heldInt64S.loop (n : Nat) (hl : n ≤ 1048576) (a : Int) (h0 : 0 ≤ a) (h1 : a ≤ 4000000000) (d : Nat) : ∀ (k i : Nat), i ≤ n → n - i = d → d < k → laws_heldInt64S.l0 k (mkL n a) (a + (i : Int)) (i : Int) = some (a + (n : Int)) := by
  induction d with
  | zero =>
    intro k i hi hd hk
    obtain ⟨k, rfl⟩ : ∃ m, k = m + 1 := ⟨k - 1, by omega⟩
    obtain rfl : i = n := by omega
    simp only [laws_heldInt64S.l0]
    rw [mkL_length, if_neg (by omega)]
  | succ d ih =>
    intro k i hi hd hk
    obtain ⟨k, rfl⟩ : ∃ m, k = m + 1 := ⟨k - 1, by omega⟩
    have hlt : i < n := by omega
    simp only [laws_heldInt64S.l0]
    rw [mkL_length, if_pos (int_lt hlt), if_pos (int_nn i), mkL_rd hlt, if_pos rfl, wrap_succ (by omega), wrap_in (by omega) (by omega), show a + (i : Int) + 1 = a + ((i + 1 : Nat) : Int) by omega]
    exact ih k (i + 1) (by omega) (by omega) (by omega)
theorem laws_heldInt64S.eq {n : Nat} {a : Int} {k : Nat} (hl : n ≤ 1048576) (h0 : 0 ≤ a) (h1 : a ≤ 4000000000) (hk : n < k) : laws_heldInt64S.f k (mkL n a) a = some (a + (n : Int)) := by
  have := laws_heldInt64S.loop n hl a h0 h1 n k 0 (by omega) (by omega) hk
  unfold laws_heldInt64S.f
  simpa using this
/-! ### all points -/
theorem ba_ext {a b : ByteArray} (h : a.data.toList = b.data.toList) : a = b := by
  obtain ⟨⟨a⟩⟩ := a
  obtain ⟨⟨b⟩⟩ := b
  have : a = b := h
  rw [this]
theorem ext_ext (s : ByteArray) (i n : Nat) : (s.extract i s.size).extract n (s.extract i s.size).size = s.extract (i + n) s.size := by
  apply ba_ext
  rw [Lib.extract_to_end, Lib.extract_to_end, Lib.extract_to_end, List.drop_drop]
theorem ext_size (s : ByteArray) (i : Nat) : (s.extract i s.size).size = s.size - i := by
  rw [Lib.size_eq, Lib.extract_to_end, List.length_drop, ← Lib.size_eq]
theorem ext_all (s : ByteArray) : s.extract 0 s.size = s := by
  apply ba_ext
  rw [Lib.extract_to_end, List.drop_zero]
theorem nil_size (s : ByteArray) : s.toList = [] ↔ s.size = 0 := by
  rw [ByteArray.toList_eq, Lib.size_eq]
  exact List.length_eq_zero_iff.symm
def ptA (s : ByteArray) : Nat → Nat → List Int
  | 0, _ => []
  | d + 1, i => if i < s.size then ((Utf8.decode s i).1 : Int) :: ptA s d (i + (Utf8.decode s i).2) else []
theorem ptA_nil {s : ByteArray} {d i : Nat} (h : ¬ i < s.size) : ptA s d i = [] := by
  cases d with
  | zero => rfl
  | succ d => rw [ptA, if_neg h]
theorem dec_width (s : ByteArray) (i : Nat) (h : i < s.size) : 1 ≤ (Utf8.decode s i).2 ∧ i + (Utf8.decode s i).2 ≤ s.size := by
  have e : Utf8.decode (s.extract i s.size) 0 = Utf8.decode s i := Lib.tail_decode s i 0
  have h1 := Lib.width_pos s i
  have h2 := Lib.width_le (s.extract i s.size) (by rw [ext_size]; omega)
  rw [e, ext_size] at h2
  omega
theorem spec_l01Points.loop (s : ByteArray) (hs : s.size ≤ 1048576) (d : Nat) : ∀ (k i : Nat) (acc : List Int), i ≤ s.size → s.size - i ≤ d → acc.length ≤ i → d + 21 < k → spec_l01Points.l0 k s acc (i : Int) = some (acc ++ ptA s d i) := by
  induction d with
  | zero =>
    intro k i acc hi hd ha hk
    obtain ⟨k, rfl⟩ : ∃ m, k = m + 1 := ⟨k - 1, by omega⟩
    rw [spec_l01Points.l0, if_neg (by omega), ptA, List.append_nil]
  | succ d ih =>
    intro k i acc hi hd ha hk
    obtain ⟨k, rfl⟩ : ∃ m, k = m + 1 := ⟨k - 1, by omega⟩
    by_cases h : i < s.size
    · have hw := dec_width s i h
      have hf := spec_l01First.eq (s.extract i s.size) (by rw [ext_size]; omega) (by rw [ext_size]; omega) (k := k) (by omega)
      rw [Lib.tail_decode s i 0, Nat.add_zero] at hf
      rw [spec_l01Points.l0, if_pos (by omega), if_pos (int_nn i), if_pos (by omega), Int.toNat_natCast, hf, ptA, if_pos h]
      unfold fR
      simp only [Option.bind_some]
      rw [if_pos (by omega), wrap_in (x := (i : Int) + ((Utf8.decode s i).2 : Int)) (by omega) (by omega), show (i : Int) + ((Utf8.decode s i).2 : Int) = ((i + (Utf8.decode s i).2 : Nat) : Int) by omega]
      rw [ih k _ (acc ++ [((Utf8.decode s i).1 : Int)]) hw.2 (by omega) (by rw [List.length_append]; simp only [List.length_cons, List.length_nil]; omega) (by omega), List.append_assoc]
      rfl
    · rw [spec_l01Points.l0, if_neg (by omega), ptA_nil h, List.append_nil]
theorem impl_allPoints.loop (s : ByteArray) (hs : s.size ≤ 1048576) (d : Nat) : ∀ (k i : Nat) (acc : List Int), i ≤ s.size → s.size - i ≤ d → acc.length ≤ i → d + 21 < k → impl_allPoints.l0 k (s.extract i s.size) acc = some (acc ++ ptA s d i) := by
  induction d with
  | zero =>
    intro k i acc hi hd ha hk
    obtain ⟨k, rfl⟩ : ∃ m, k = m + 1 := ⟨k - 1, by omega⟩
    rw [impl_allPoints.l0, if_pos ((nil_size _).2 (by rw [ext_size]; omega)), ptA, List.append_nil]
  | succ d ih =>
    intro k i acc hi hd ha hk
    obtain ⟨k, rfl⟩ : ∃ m, k = m + 1 := ⟨k - 1, by omega⟩
    by_cases h : i < s.size
    · have hw := dec_width s i h
      have hr : (Utf8.decode s i).1 ≤ 1114111 := Lib.rune_le s i
      have hd0 : Lib.decodeGo (s.extract i s.size) = Utf8.decode s i := by
        unfold Lib.decodeGo
        rw [if_neg (by rw [ext_size]; omega)]
        exact Lib.tail_decode s i 0
      rw [impl_allPoints.l0, if_neg (fun e => by have := (nil_size _).1 e; rw [ext_size] at this; omega), ptA, if_pos h]
      unfold utf8_DecodeRuneInString.f
      rw [hd0]
      simp only [Option.bind_some]
      rw [if_pos (by omega), if_pos (int_nn _), if_pos (by rw [ext_size]; omega), Int.toNat_natCast, ext_ext, wrap_in (by omega) (by omega)]
      rw [ih k _ (acc ++ [((Utf8.decode s i).1 : Int)]) hw.2 (by omega) (by rw [List.length_append]; simp only [List.length_cons, List.length_nil]; omega) (by omega), List.append_assoc]
      rfl
    · rw [impl_allPoints.l0, if_pos ((nil_size _).2 (by rw [ext_size]; omega)), ptA_nil h, List.append_nil]
theorem impl_isLong.one (s : ByteArray) {k : Nat} (hk : 5 < k) : impl_isLong.f k [s] = some (decide ((s.size : Int) > 20000)) := by
  obtain ⟨k, rfl⟩ : ∃ m, k = m + 2 := ⟨k - 2, by omega⟩
  have hw : wrap64 (0 + 1) = 1 := by unfold wrap64; omega
  have hx : rdOf ByteArray.empty [s] 0 = s := rfl
  unfold impl_isLong.f slices_ContainsFunc_sstring_string.f slices_IndexFunc_sstring_string.f
  simp only [List.length_cons, List.length_nil]
  rw [slices_IndexFunc_sstring_string.l0, if_pos (by decide), if_pos (by decide), if_pos (by simp), hx]
  unfold impl_isLong_1.f
  simp only [Option.bind_some]
  by_cases h : (s.size : Int) > 20000
  · rw [decide_eq_true h, if_pos rfl]
    rfl
  · rw [decide_eq_false h, if_neg Bool.false_ne_true, hw, slices_IndexFunc_sstring_string.l0, if_neg (by decide)]
    rfl
def ptsV (s : ByteArray) : List Int := if s.size > 20000 then [] else (if (ptA s s.size 0).length > 300 then [] else ptA s s.size 0)
theorem ptsV_len (s : ByteArray) : (ptsV s).length ≤ 300 := by
  unfold ptsV
  split
  · simp
  · split
    · simp
    · omega
theorem spec_PointsOf.eq (s : ByteArray) (hs : s.size ≤ 1048576) {k : Nat} (hk : 1100000 < k) : spec_PointsOf.f k s = some (ptsV s) := by
  unfold spec_PointsOf.f ptsV
  by_cases h : s.size > 20000
  · rw [if_pos (by omega), if_pos h]
  · have := spec_l01Points.loop s hs s.size k 0 [] (by omega) (by omega) (Nat.le_refl 0) (by omega)
    rw [if_neg (by omega), if_neg h]
    refine (congrArg (fun z => Option.bind z _) (show spec_l01Points.f k s = _ from this)).trans ?_
    simp only [Option.bind_some, List.nil_append]
    by_cases h2 : (ptA s s.size 0).length > 300
    · rw [if_pos (by omega), if_pos h2]
    · rw [if_neg (by omega), if_neg h2]
theorem impl_PointsOf.eq (s : ByteArray) (hs : s.size ≤ 1048576) {k : Nat} (hk : 1100000 < k) : impl_PointsOf.f k s = some (ptsV s) := by
  unfold impl_PointsOf.f ptsV
  rw [impl_isLong.one s (by omega)]
  simp only [Option.bind_some, decide_eq_true_eq]
  by_cases h : s.size > 20000
  · rw [if_pos (by omega), if_pos h]
  · have := impl_allPoints.loop s hs s.size k 0 [] (by omega) (by omega) (Nat.le_refl 0) (by omega)
    rw [ext_all] at this
    rw [if_neg (by omega), if_neg h]
    refine (congrArg (fun z => Option.bind z _) (show impl_allPoints.f k s = _ from this)).trans ?_
    simp only [Option.bind_some, List.nil_append]
    by_cases h2 : (ptA s s.size 0).length > 300
    · rw [if_pos (by omega), if_pos h2]
    · rw [if_neg (by omega), if_neg h2]

theorem FnExactBufOf : laws_FnExactBufOf.Pure := by
  intro s hs
  refine ⟨1200010, ?_⟩
  unfold laws_FnExactBufOf.f
  by_cases h : (s.size : Int) > 1048576
  · rw [if_pos h]
  · have hn := ptsV_len s
    have hS : ∀ k, 1100000 < k → spec_BufOf.f k s = some (ptsV s, ((ptsV s).length : Int), 0) := by
      intro k hk
      unfold spec_BufOf.f
      rw [spec_PointsOf.eq s (by omega) hk]
      rfl
    have hI : ∀ k, 1100000 < k → impl_BufOf.f k s = some (ptsV s, ((ptsV s).length : Int), 0) := by
      intro k hk
      unfold impl_BufOf.f impl_atEnd.f slices_Clone_sint64_int64.f impl_size_int64.f
      rw [impl_PointsOf.eq s (by omega) hk]
      simp only [Option.bind_some, List.length_nil, List.nil_append]
      rw [if_pos (by omega)]
      rfl
    rw [if_neg h, hS _ (by omega), hI _ (by omega)]
    simp only [Option.bind_some, laws_FnExactBufOf.j0, laws_FnExactBufOf.j1, laws_FnExactBufOf.j2]
    unfold laws_eqBuf.f laws_markBuf.f laws_heldBuf.f
    rw [laws_eqInt64S.eq (by omega) (by omega), laws_markInt64S.eq (by omega) (by omega) (by omega) (by omega)]
    simp only [Option.bind_some, decide_true, if_true]
    rw [laws_heldInt64S.eq (by omega) (by omega) (by omega) (by omega)]
    simp only [Option.bind_some]
    rw [if_neg (by omega)]
    simp only [Option.bind_some]
    rw [if_neg (by omega)]
    simp only [if_true]
    rw [hI _ (by omega)]
    simp only [Option.bind_some]
    rw [laws_eqInt64S.eq (by omega) (by omega)]
    simp only [Option.bind_some, decide_true, if_true]
    rw [laws_heldInt64S.eq (by omega) (by omega) (by omega) (by omega)]
    simp only [Option.bind_some]
    rw [if_neg (by omega)]
    simp only [Option.bind_some]
    rw [if_neg (by omega)]
    simp

end Go.Proofs.YtbbhdggikcipaaaDoor.Pure
