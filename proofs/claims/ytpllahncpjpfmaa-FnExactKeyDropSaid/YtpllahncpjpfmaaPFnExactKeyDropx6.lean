-- Written by xprint.py (this claim's own program, over the kit's printer); Lean checks it.
import Derived.Test.YtpllahncpjpfmaaPFnExactKeyDropx0
import Derived.Test.YtpllahncpjpfmaaPFnExactKeyDropx3
import Derived.Test.YtpllahncpjpfmaaPFnExactKeyDropx5
namespace Go.Proofs.Ytpllahncpjpfmaa.PFnExactKeyDrop
open Go.RowKit Go.Proofs.YtpllahncpjpfmaaW.PrintWords Go.Proofs.YtpllahncpjpfmaaW.PrintLast Go.Proofs.YtpllahncpjpfmaaW.PrintMore
attribute [local go_sem] max2_int min2_int max_two min_two max_three min_three max_four min_four   -- for this text's walks alone
set_option linter.unusedVariables false
set_option linter.unusedSimpArgs false   -- squeezed
set_option maxHeartbeats 8000000
set_option maxRecDepth 100000

/-! ### impl_KeyDrop: function 8 -/
/-! ### impl_KeyDrop_1: function 22 -/
def hitK (m : Int) (q : ByteArray) (x : S34) : Bool := decide (x.f0 = m ∧ x.f1.toList = q.toList)
theorem cell_alloc_ {W : World} {a : Addr} {v : Value} (h : W.cell? a = some v) (o : Obj) : (W.alloc o).cell? a = some v := by
 have hlt : a.block < W.heap.size := by
  rcases Nat.lt_or_ge a.block W.heap.size with h' | h'
  · exact h'
  · simp [World.cell?, Array.getElem?_eq_none h'] at h
 rw [← h]
 simp only [World.cell?, World.alloc, Array.getElem?_push, Nat.ne_of_lt hlt, if_false]
theorem impl_KeyDrop_1.calls (x : S34) (p1 : Addr) (m : Int) (p2 : Addr) (q : ByteArray) (w : World) (h1 : w.cell? p1 = some (.int .i64 m)) (h2 : w.cell? p2 = some (.string q)) :
  Calls Try.prog 22 #[.agg #[.int .i64 x.f0, .string x.f1, .string x.f2], .pointer (some p1), .pointer (some p2)] w fun e w' => e = .returned (.bool (hitK m q x)) ∧ Below w.heap.size w w' := by
 obtain ⟨a, s, n⟩ := x
 have hu34 := Try.underlying34
 have g1 := cell_alloc_ h1
 have g2 := cell_alloc_ h2
 clear h1 h2
 by_cases c1 : a = m
 · by_cases c2 : s.toList = q.toList
   · have hr : hitK m q ⟨a, s, n⟩ = true := decide_eq_true ⟨c1, c2⟩
     rw [hr]
     have c1b : (a == m) = true := by rw [beq_iff_eq]; exact c1
     have c2b : (s.toList == q.toList) = true := by rw [beq_iff_eq]; exact c2
     clear hr c1 c2
     dsimp only
     go_enter Try.func22, Try.ntmps22
     go_wp2
     go_ret
     exact ⟨by first | rfl | (simp; done) | (simp [*]; done), by repeat (first | exact Below.refl _ _ | apply below_alloc | apply pw_below_drewN | apply below_drew1)⟩
   · have hr : hitK m q ⟨a, s, n⟩ = false := decide_eq_false (fun h => c2 h.2)
     rw [hr]
     have c1b : (a == m) = true := by rw [beq_iff_eq]; exact c1
     have c2b : (s.toList == q.toList) = false := by rw [beq_eq_false_iff_ne]; exact c2
     clear hr c1 c2
     dsimp only
     go_enter Try.func22, Try.ntmps22
     go_wp2
     go_ret
     exact ⟨by first | rfl | (simp; done) | (simp [*]; done), by repeat (first | exact Below.refl _ _ | apply below_alloc | apply pw_below_drewN | apply below_drew1)⟩
 · have hr : hitK m q ⟨a, s, n⟩ = false := decide_eq_false (fun h => c1 h.1)
   rw [hr]
   have c1b : (a == m) = false := by rw [beq_eq_false_iff_ne]; exact c1
   clear hr c1
   dsimp only
   go_enter Try.func22, Try.ntmps22
   go_wp2
   go_ret
   exact ⟨by first | rfl | (simp; done) | (simp [*]; done), by repeat (first | exact Below.refl _ _ | apply below_alloc | apply pw_below_drewN | apply below_drew1)⟩
/-! ### slices.IndexFunc and slices.DeleteFunc with it -/
def ixK (m : Int) (q : ByteArray) (l : List S34) : Nat → Nat → Int
 | 0, _ => -1
 | d + 1, i => if hitK m q (rd_T34 l (i : Int)) = true then (i : Int) else ixK m q l d (i + 1)
theorem wrapK {i : Nat} (h : i < 4611686018427387904) : wrap64 ((i : Int) + 1) = ((i + 1 : Nat) : Int) := by unfold wrap64; omega
theorem slices_IndexFunc_K.calls (A0 : Option Addr) (c0 : Nat) (l0 : List S34) (p1 : Addr) (m : Int) (p2 : Addr) (q : ByteArray) (w : World) (hr0 : Kd.C k34 w A0 l0.length l0) (hl : l0.length ≤ 1000000) (h1 : w.cell? p1 = some (.int .i64 m)) (h2 : w.cell? p2 = some (.string q)) (hp1 : p1.block < w.heap.size) (hp2 : p2.block < w.heap.size) :
  Calls Try.prog 33 #[.slice A0 l0.length c0, .func (.func 22) #[] #[.pointer (some p1), .pointer (some p2)]] w fun e w' => e = .returned (.int .i64 (ixK m q l0 l0.length 0)) ∧ Below w.heap.size w w' := by
 have HR0 := am hr0
 have HL := am hl
 have H1 := am h1
 have H2 := am h2
 have HP1 := am hp1
 have HP2 := am hp2
 clear hr0 hl h1 h2 hp1 hp2
 obtain ⟨r, hr⟩ : ∃ r, r = ixK m q l0 l0.length 0 := ⟨_, rfl⟩
 rw [← hr]
 have HR := am hr
 clear hr
 have HB := am (Below.refl w.heap.size w)
 go_enter Try.func33, Try.ntmps33
 go_wp2
 go_loopg [8] l0.length (fun kq v8 w' => ∃ (i : Nat), v8 = .int .i64 (i : Int) ∧ Aside0 (i + kq = l0.length ∧ r = ixK m q l0 kq i) ∧ Aside0 (Below w.heap.size w w'))
 case atStart => exact ⟨0, rfl, ⟨by omega, HR.out⟩, HB⟩
 case round =>
  obtain ⟨i, rfl, HA, HB⟩ := hrel
  have HC := am (Kd.C_below HR0.out HB.out)
  have h1 := (HB.out.cell (p := p1) HP1.out).trans H1.out
  have h2 := (HB.out.cell (p := p2) HP2.out).trans H2.out
  have G1 := am h1
  have G2 := am h2
  clear h1 h2
  cases gk with
  | zero =>
   have hi : i = l0.length := by have := HA.out.1; omega
   have hx := HA.out.2
   have HX2 := am (show r = -1 from hx)
   have c3 : decide ((i : Int) < (l0.length : Int)) = false := decide_eq_false (by omega)
   have c4 : decide (i < l0.length) = false := decide_eq_false (by omega)
   clear hi hx
   go_wp2
   go_ret
   exact ⟨by rw [HX2.out]; rfl, bl HB.out⟩
  | succ k1 =>
   have hi : i < l0.length := by have := HA.out.1; omega
   have hx := HA.out.2
   have c3 : decide ((i : Int) < (l0.length : Int)) = true := decide_eq_true (by omega)
   have c4 : decide (i < l0.length) = true := decide_eq_true hi
   have p379 : 0 ≤ (i : Int) := by omega
   have q379 : (i : Int) < (l0.length : Int) := by omega
   obtain ⟨ad379, e379, hx0, hx1, hx2⟩ := at_T34 HC.out (i : Int) p379 q379
   cases e379
   obtain ⟨x, hX⟩ : ∃ x, x = rd_T34 l0 (i : Int) := ⟨_, rfl⟩
   rw [← hX] at hx0 hx1 hx2
   rw [Int.toNat_natCast] at hx0 hx1 hx2
   rw [ixK, ← hX] at hx
   have HX := am hX
   clear hX
   replace p379 := eq_true p379
   replace q379 := eq_true q379
   cases hh : hitK m q x with
   | true =>
    rw [hh, if_pos rfl] at hx
    have HH := am hh
    have HX2 := am hx
    clear hh hx
    go_wp2_with (first | (go_at_call 22; (refine (impl_KeyDrop_1.calls x p1 m p2 q _ ?g1 ?g2).mono ?_); (case g1 => exact G1.out); (case g2 => exact G2.out); rw [HH.out]; rintro e w2 ⟨rfl, hb⟩; have HB2 := am hb; clear hb))
    go_ret
    exact ⟨by rw [HX2.out]; rfl, below_step (bl HB.out) HB2.out⟩
   | false =>
    rw [hh, if_neg (by decide)] at hx
    have HH := am hh
    have HX2 := am hx
    clear hh hx
    go_wp2_with (first | (go_at_call 22; (refine (impl_KeyDrop_1.calls x p1 m p2 q _ ?g1 ?g2).mono ?_); (case g1 => exact G1.out); (case g2 => exact G2.out); rw [HH.out]; rintro e w2 ⟨rfl, hb⟩; have HB2 := am hb; clear hb))
    go_roundg k1
    case measure => omega
    case rel => exact ⟨i + 1, (by first | rfl | (go_num) | (rw [wrapK (by have := HL.out; omega)]) | (simp; done)), ⟨by have := HA.out.1; omega, HX2.out⟩, ⟨below_step (bl HB.out) HB2.out⟩⟩
/-! ### what clear does to the tail of a row of the call's own -/
theorem Kd.R_beyond {α : Type} {d : Kd α} {e n cap g o base : Nat} {W : World} {ok : Nat → Prop} {xs : List α} {seg : List Value} (h : d.R e W base ok (.slice (some ⟨g, 0, none⟩) n cap) xs) (hs : n * d.sz ≤ o) (hf : o + seg.length ≤ cap * d.sz) : d.R e (W.setCells g o seg) base ok (.slice (some ⟨g, 0, none⟩) n cap) xs ∧ W.grownBy (W.setCells g o seg) (some g) := by
 obtain ⟨hn, hnc, _⟩ := Kd.R_reads' h
 subst hn
 obtain ⟨hok, inner, ho, hr⟩ := h
 obtain ⟨ho1, ho2⟩ := ho
 rcases ho2 with ⟨hv, _⟩ | ⟨g', cap', cur, hv, hb, hh, hnc', hcm, hcs, ht⟩
 · cases hv
 have hv0 := hv
 injection hv0 with ha _ hc
 injection ha with ha
 injection ha with hg
 subst hg; subst hc
 obtain ⟨cur', h3, h4, h5⟩ := setCells_row seg o W cur hh (by omega)
 obtain ⟨s1, s2, s3, s4⟩ := setCells_same g seg o W
 have hfar : ∀ k, k ≠ g → (W.setCells g o seg).heap[k]? = W.heap[k]? := fun k hk => setCells_far seg _ k hk
 refine ⟨⟨hok, inner, ⟨ho1, .inr ⟨g, cap, cur', rfl, hb, h3, hnc', hcm, by rw [h4, hcs], ?_⟩⟩, ?_⟩, ⟨s1, s2, s3, by rw [s4]; exact Nat.le_refl _, fun k _ hk => hfar k (fun he => hk (by rw [he]))⟩⟩
 · rw [← ht, h5]
   have hc : cap * d.sz = cur.toList.length := by rw [Array.length_toList, hcs]
   rw [List.append_assoc, List.take_append_of_le_length (by rw [List.length_take]; omega), List.take_take, Nat.min_eq_left (by omega)]
 · exact hr.imp_ (fun _ _ hp => d.M_move (fun k hk => hfar k (fun he => hk.2 (by rw [he]; simp [Value.ownBlock]))) hp)
theorem run_clear_rows_ {P : Program} (w : World) (t e ty : TypeId) (z : Value) (ht : P.underlying t = some (.slice e)) (hv : ∀ w, (zeroValue e).run P w = .ok z w) (b o n c : Nat) (h1 : ∀ v ∈ (Builtin.zeroCells z.cells n).toList, v.oneCell' = true) (hn : 0 < n)
    (hc : ∀ j, j < (Builtin.zeroCells z.cells n).toList.length → (w.cell? ⟨b, o + j, none⟩).isSome = true) (hf : ∀ j, j < (Builtin.zeroCells z.cells n).toList.length → w.frozen? ⟨b, o + j, none⟩ = false) :
    (Builtin.clear_ #[t] ty #[.slice (some ⟨b, o, none⟩) n c]).run P w = .ok (.tuple #[]) (w.setCells b o (Builtin.zeroCells z.cells n).toList) := by
 have hst := run_storeCells_cells (P := P) b o (Builtin.zeroCells z.cells n).toList 0 w (by simpa using hc) (by simpa using hf) h1
 simp only [Nat.add_zero] at hst
 obtain ⟨m, rfl⟩ : ∃ m, n = m + 1 := ⟨n - 1, by omega⟩
 simp [Builtin.clear_, run_underlying ht, hv, hst]
theorem Kd.R_block {α : Type} {d : Kd α} {e n cap g base : Nat} {W : World} {ok : Nat → Prop} {xs : List α} (h : d.R e W base ok (.slice (some ⟨g, 0, none⟩) n cap) xs) : ∃ cur, W.heap[g]? = some (.cells cur e (0, 0)) ∧ cur.size = cap * d.sz ∧ n ≤ cap := by
 obtain ⟨_, hnc, _⟩ := Kd.R_reads' h
 obtain ⟨hok, inner, ⟨ho1, ho2⟩, hr⟩ := h
 rcases ho2 with ⟨hv, _⟩ | ⟨g', cap', cur, hv, hb, hh, hnc', hcm, hcs, ht⟩
 · cases hv
 injection hv with ha _ hc
 injection ha with ha
 injection ha with hg
 subst hg; subst hc
 exact ⟨cur, hh, hcs, hnc⟩
theorem zeroK_one (n : Nat) : ∀ v ∈ (Builtin.zeroCells (Value.agg #[.int .i64 0, .string ⟨#[]⟩, .string ⟨#[]⟩]).cells n).toList, v.oneCell' = true := by
 intro v hv
 rw [show (Value.agg #[.int .i64 0, .string ⟨#[]⟩, .string ⟨#[]⟩]).cells = #[.int .i64 0, .string ⟨#[]⟩, .string ⟨#[]⟩] from rfl] at hv
 unfold Builtin.zeroCells at hv
 simp only [Array.toList_map, List.mem_map] at hv
 obtain ⟨i, _, rfl⟩ := hv
 have h3 : i % 3 < 3 := Nat.mod_lt _ (by decide)
 show (#[Value.int .i64 0, .string ⟨#[]⟩, .string ⟨#[]⟩][i % 3]!).oneCell' = true
 generalize i % 3 = r at h3
 match r, h3 with
 | 0, _ => rfl
 | 1, _ => rfl
 | 2, _ => rfl
theorem below_setCells_ {w W : World} {g : Nat} (h : Below w.heap.size w W) (hg : w.heap.size ≤ g) : ∀ (o : Nat) (vs : List Value), Below w.heap.size w (W.setCells g o vs) := by
 intro o vs
 induction vs generalizing o W with
 | nil => exact h
 | cons v r ih => rw [World.setCells]; exact ih (below_set h hg) (o + 1)
theorem cell_grown_ {W W2 : World} {g : Nat} {p : Addr} (h : W.grownBy W2 (some g)) (hn : p.block ≠ g) (hl : p.block < W.heap.size) : W2.cell? p = W.cell? p := by
 simp only [World.cell?, h.block p.block hl (fun e => hn (Option.some.inj e))]
def dfK (m : Int) (q : ByteArray) : Nat → Nat → Nat → List S34 → Nat × List S34
 | 0, _, i, x => (i, x)
 | d + 1, j, i, x => if hitK m q (rd_T34 x (j : Int)) = true then dfK m q d (j + 1) i x else dfK m q d (j + 1) (i + 1) (x.set i (rd_T34 x (j : Int)))
def delK (m : Int) (q : ByteArray) (l : List S34) : List S34 :=
 if ixK m q l l.length 0 = -1 then l else (dfK m q (l.length - ((ixK m q l l.length 0).toNat + 1)) ((ixK m q l l.length 0).toNat + 1) (ixK m q l l.length 0).toNat l).2.take (dfK m q (l.length - ((ixK m q l l.length 0).toNat + 1)) ((ixK m q l l.length 0).toNat + 1) (ixK m q l l.length 0).toNat l).1
theorem ixK_in (m : Int) (q : ByteArray) (l : List S34) (d : Nat) : ∀ i, ixK m q l d i = -1 ∨ ∃ n : Nat, ixK m q l d i = (n : Int) ∧ i ≤ n ∧ n < i + d := by
 induction d with
 | zero => intro i; exact Or.inl rfl
 | succ d ih =>
  intro i
  rw [ixK]
  by_cases h : hitK m q (rd_T34 l (i : Int)) = true
  · rw [if_pos h]
    exact Or.inr ⟨i, rfl, by omega, by omega⟩
  · rw [if_neg h]
    rcases ih (i + 1) with e | ⟨n, e, h1, h2⟩
    · exact Or.inl e
    · exact Or.inr ⟨n, e, by omega, by omega⟩
theorem slices_DeleteFunc_K.calls (P : Nat → Prop) (u : Value) (l0 : List S34) (p1 : Addr) (m : Int) (p2 : Addr) (q : ByteArray) (w0 w : World) (hB : Below w0.heap.size w0 w) (ho : Kd.R k34 34 w w0.heap.size P u l0) (hl : l0.length ≤ 1000000) (h1 : w.cell? p1 = some (.int .i64 m)) (h2 : w.cell? p2 = some (.string q)) (hp1 : p1.block < w.heap.size) (hp2 : p2.block < w.heap.size) (hn1 : ∀ k, P k → p1.block ≠ k) (hn2 : ∀ k, P k → p2.block ≠ k) :
  Calls Try.prog 21 #[u, .func (.func 22) #[] #[.pointer (some p1), .pointer (some p2)]] w fun e w' => ∃ v, e = .returned v ∧ Kd.R k34 34 w' w0.heap.size P v (delK m q l0) ∧ Below w0.heap.size w0 w' := by
 have hu34 := Try.underlying34
 obtain ⟨A, c, rfl, hAc, hC⟩ := Kd.R_reads ho
 have HR0 := am hC
 have HO := am ho
 have HL := am hl
 have H1 := am h1
 have H2 := am h2
 have HP1 := am hp1
 have HP2 := am hp2
 have HN1 := am hn1
 have HN2 := am hn2
 have HB := am hB
 clear hC ho hl h1 h2 hp1 hp2 hn1 hn2 hB
 rcases ixK_in m q l0 l0.length 0 with hi | ⟨i0, hi, _, hi2⟩
 · have HD := am (show delK m q l0 = l0 by unfold delK; rw [if_pos hi])
   have HI := am hi
   clear hi
   go_enter Try.func21, Try.ntmps21
   go_wp2_with (first | (go_at_call 33; refine (slices_IndexFunc_K.calls A c l0 p1 m p2 q _ HR0.out HL.out H1.out H2.out HP1.out HP2.out).mono ?_; rw [HI.out]; rintro e w2 ⟨rfl, hb⟩; have HB2 := am hb; clear hb))
   go_ret
   exact ⟨_, rfl, by rw [HD.out]; exact Kd.R_below HO.out HB2.out, below_step HB.out HB2.out⟩
 · have hi3 : i0 < l0.length := by omega
   obtain ⟨X, hX⟩ : ∃ X, X = dfK m q (l0.length - (i0 + 1)) (i0 + 1) i0 l0 := ⟨_, rfl⟩
   have HD := am (show delK m q l0 = X.2.take X.1 by unfold delK; rw [if_neg (by omega), hi, Int.toNat_natCast, hX])
   have HX := am hX
   have HI := am hi
   have hne : ((i0 : Int) == -1) = false := beq_eq_false_iff_ne.2 (by omega)
   obtain ⟨g, cap, eo, hbg, hgl, hcl0⟩ := Kd.R_form HO.out (by omega)
   injection eo with ea_ en_ ec_
   clear en_
   subst ea_
   subst ec_
   have HG := am hbg
   have HPg := am (HO.out.1 g rfl)
   clear hi hX hbg hgl hcl0 hi2
   have HI3 := am hi3
   clear hi3
   go_enter Try.func21, Try.ntmps21
   go_wp2_with (first | (go_at_call 33; refine (slices_IndexFunc_K.calls (some ⟨g, 0, none⟩) c l0 p1 m p2 q _ HR0.out HL.out H1.out H2.out HP1.out HP2.out).mono ?_; rw [HI.out]; rintro e w2 ⟨rfl, hb⟩; have HB2 := am hb; clear hb))
   go_loopg [5, 6] (l0.length - (i0 + 1)) (fun kq v5 v6 w' => ∃ (i j : Nat) (x : List S34), v5 = .int .i64 (i : Int) ∧ v6 = .int .i64 (j : Int) ∧ Aside0 (j + kq = l0.length ∧ i < j ∧ x.length = l0.length ∧ X = dfK m q kq j i x) ∧ Aside0 (Kd.R k34 34 w' w0.heap.size P (.slice (some ⟨g, 0, none⟩) l0.length c) x) ∧ Aside0 (w'.cell? p1 = some (.int .i64 m) ∧ w'.cell? p2 = some (.string q) ∧ p1.block < w'.heap.size ∧ p2.block < w'.heap.size) ∧ Aside0 (Below w0.heap.size w0 w'))
   case atStart =>
    exact ⟨i0, i0 + 1, l0, rfl, (by first | rfl | (go_num) | (rw [wrapK (by have := HL.out; have := HI3.out; omega)]) | (simp; done)), ⟨by have := HI3.out; omega, by omega, rfl, HX.out⟩, ⟨Kd.R_below HO.out HB2.out⟩, ⟨(HB2.out.cell (p := p1) HP1.out).trans H1.out, (HB2.out.cell (p := p2) HP2.out).trans H2.out, Nat.lt_of_lt_of_le HP1.out HB2.out.size, Nat.lt_of_lt_of_le HP2.out HB2.out.size⟩, ⟨below_step HB.out HB2.out⟩⟩
   case round =>
    obtain ⟨i, j, x, rfl, rfl, HA, HO, HQ, HB⟩ := hrel
    cases gk with
    | zero =>
     have hA := HA.out
     obtain rfl : j = l0.length := by omega
     have hil : i < l0.length := hA.2.1
     have c3 : decide ((l0.length : Int) < (l0.length : Int)) = false := decide_eq_false (by omega)
     have c4 : decide (l0.length < l0.length) = false := decide_eq_false (by omega)
     have hcc : l0.length ≤ c := hAc
     have c5 : ¬ (c = i) := by omega
     have c5b : (c == i) = false := beq_eq_false_iff_ne.2 c5
     have hRb := Kd.R_beyond (seg := (Builtin.zeroCells (Value.agg #[.int .i64 0, .string ⟨#[]⟩, .string ⟨#[]⟩]).cells (l0.length - i)).toList) (o := i * 3) (Kd.R_take HO.out (m := i) (by omega)) (Nat.le_refl _) (by
      rw [Array.length_toList, size_zeroCells]
      show i * 3 + (l0.length - i) * 3 ≤ c * 3
      omega)
     obtain ⟨cur_, hcur_, hcs_, _⟩ := Kd.R_block HO.out
     have hcs_ : cur_.size = c * 3 := hcs_
     have hzl : (Builtin.zeroCells (Value.agg #[.int .i64 0, .string ⟨#[]⟩, .string ⟨#[]⟩]).cells (l0.length - i)).toList.length = (l0.length - i) * 3 := by rw [Array.length_toList, size_zeroCells]; rfl
     have hcl : ∀ ty, (Builtin.clear_ #[24] ty #[.slice (some ⟨g, i * 3, none⟩) (l0.length - i) (c - i)]).run Try.prog wr = .ok (.tuple #[]) (wr.setCells g (i * 3) (Builtin.zeroCells (Value.agg #[.int .i64 0, .string ⟨#[]⟩, .string ⟨#[]⟩]).cells (l0.length - i)).toList) := fun ty =>
      run_clear_rows_ wr 24 34 ty (.agg #[.int .i64 0, .string ⟨#[]⟩, .string ⟨#[]⟩]) Try.underlying24 (fun _ => rfl) g (i * 3) (l0.length - i) (c - i) (zeroK_one _) (by omega) (fun t ht => by rw [hzl] at ht; rw [cell_of_row wr g _ cur_ 34 (0, 0) hcur_, Array.getElem?_eq_getElem (show i * 3 + t < cur_.size by omega)]; rfl) (fun t _ => blk_frozen hcur_ _)
     have HRB := am hRb
     have hX := hA.2.2.2
     rw [dfK] at hX
     have HX2 := am hX
     clear hRb hA hcur_ hcs_ hzl hX
     go_wp2
     go_ret
     exact ⟨_, rfl, by rw [HD.out, HX2.out]; exact HRB.out.1, below_setCells_ HB.out HG.out _ _⟩
    | succ k1 =>
     have hA := HA.out
     have hj : j < l0.length := by omega
     have hi : i < l0.length := by omega
     have c3 : decide ((j : Int) < (l0.length : Int)) = true := decide_eq_true (by omega)
     have c4 : decide (j < l0.length) = true := decide_eq_true hj
     obtain ⟨ce5, hcl5, hM5, hcc5, hfr5⟩ := Kd.R_elem HO.out z34 (j : Int) (by omega) (by omega)
     obtain rfl := k34_openM hM5
     obtain ⟨y, hY⟩ : ∃ y, y = rd_T34 x (j : Int) := ⟨_, rfl⟩
     rw [Int.toNat_natCast] at hcc5
     have hy0 : wr.cell? ⟨g, j * 3, none⟩ = some (.int .i64 y.f0) := by rw [hY]; exact hcc5 0 _ rfl
     have hy1 : wr.cell? ⟨g, j * 3 + 1, none⟩ = some (.string y.f1) := by rw [hY]; exact hcc5 1 _ rfl
     have hy2 : wr.cell? ⟨g, j * 3 + 2, none⟩ = some (.string y.f2) := by rw [hY]; exact hcc5 2 _ rfl
     have hX := hA.2.2.2
     rw [dfK, ← hY] at hX
     have hA1 := am hA.1
     have hA2 := am hA.2.1
     have hA3 := am hA.2.2.1
     have p5 : (0 ≤ (j : Int)) = True := eq_true (by omega)
     have q5 : ((j : Int) < (l0.length : Int)) = True := eq_true (by omega)
     have p6 : (0 ≤ (i : Int)) = True := eq_true (by omega)
     have q6 : ((i : Int) < (l0.length : Int)) = True := eq_true (by omega)
     have HY := am hY
     have HJ := am hj
     have HI1 := am hi
     clear hcl5 hM5 hcc5 hfr5 hA hj hi hY
     cases hh : hitK m q y with
     | true =>
      rw [hh, if_pos rfl] at hX
      have HX2 := am hX
      have HH := am hh
      clear hX hh
      go_wp2_with (first | ((with_reducible refine gate_dst (N := 7) rfl ?_); refine box_event ?hg (N := 7) ?hd (cs := #[.int .i64 0, .string (⟨#[]⟩ : ByteArray), .string (⟨#[]⟩ : ByteArray)]) (t := 34) ?hr ?_; (case hd => rfl); (case hg => rfl); (case hr => first | (go_simp; done) | (go_simp; rfl)); intro gb hg w6 hbox hb; have BK6 := am hbox; have GE6 := am (show wr.heap.size ≤ gb from Nat.le_of_eq hg.symm); have HB6 := am hb; have hz0 := bc hbox 0; have hz1 := bc hbox 1; have hz2 := bc hbox 2; have hf0 := blk_frozen hbox 0; have hf1 := blk_frozen hbox 1; have hf2 := blk_frozen hbox 2; have hy0' := (hb.cell (p := ⟨g, j * 3, none⟩) (own_lt (Kd.R_own HO.out).choose_spec g (by simp [Value.ownBlock]))).trans hy0; clear hg hbox hb hy0') | ((with_reducible refine gate_store (t := 34) (p := 7) rfl ?_); refine store_event (t := 34) (p := 7) (v := ?vo_1) (w1 := (((w6.setCell ⟨gb, 0, none⟩ (.int .i64 y.f0)).setCell ⟨gb, 1, none⟩ (.string y.f1)).setCell ⟨gb, 2, none⟩ (.string y.f2))) ?hg ?ho ?hn ?hr ?_; (case ho => rfl); (case hg => rfl); (case hn => rfl); (case hr => first | (go_simp; done) | (go_simp; rfl)); intro w7 hw; have BK7 := am (show w7.heap[gb]? = some (.cells #[.int .i64 y.f0, .string y.f1, .string y.f2] 34 (0, 0)) from (by rw [hw]; refine blk_put (cs := #[.int .i64 y.f0, .string y.f1, .string (⟨#[]⟩ : ByteArray)]) ?_ 2 _ rfl; refine blk_put (cs := #[.int .i64 y.f0, .string (⟨#[]⟩ : ByteArray), .string (⟨#[]⟩ : ByteArray)]) ?_ 1 _ rfl; refine blk_put (cs := #[.int .i64 0, .string (⟨#[]⟩ : ByteArray), .string (⟨#[]⟩ : ByteArray)]) ?_ 0 _ rfl; exact BK6.out)); have HB7 := am (show Below wr.heap.size wr w7 from (by rw [hw]; exact below_set (below_set (below_set HB6.out GE6.out) GE6.out) GE6.out)); clear hw hz0 hz1 hz2 hf0 hf1 hf2 BK6; have hz0 := bc BK7.out 0; have hz1 := bc BK7.out 1; have hz2 := bc BK7.out 2) | (go_at_call 22; (refine (impl_KeyDrop_1.calls y p1 m p2 q _ ?g1 ?g2).mono ?_); (case g1 => exact (HB7.out.cell (p := p1) HQ.out.2.2.1).trans HQ.out.1); (case g2 => exact (HB7.out.cell (p := p2) HQ.out.2.2.2).trans HQ.out.2.1); rw [HH.out]; rintro e w8 ⟨rfl, hb⟩; have HB8 := am (below_step HB7.out hb); have BK8 := am (blk_below BK7.out hb); clear hb hz0 hz1 hz2 BK7))
      go_roundg k1
      case measure => omega
      case rel => exact ⟨i, j + 1, x, rfl, (by first | rfl | (go_num) | (rw [wrapK (by have := HL.out; have := HJ.out; omega)]) | (simp; done)), ⟨by have := hA1.out; omega, by have := hA2.out; omega, hA3.out, HX2.out⟩, ⟨Kd.R_below HO.out HB8.out⟩, ⟨(HB8.out.cell (p := p1) HQ.out.2.2.1).trans HQ.out.1, (HB8.out.cell (p := p2) HQ.out.2.2.2).trans HQ.out.2.1, Nat.lt_of_lt_of_le HQ.out.2.2.1 HB8.out.size, Nat.lt_of_lt_of_le HQ.out.2.2.2 HB8.out.size⟩, ⟨below_step HB.out HB8.out⟩⟩
     | false =>
      rw [hh, if_neg (by decide)] at hX
      have HX2 := am hX
      have HH := am hh
      clear hX hh
      go_wp2_with (first | ((with_reducible refine gate_dst (N := 7) rfl ?_); refine box_event ?hg (N := 7) ?hd (cs := #[.int .i64 0, .string (⟨#[]⟩ : ByteArray), .string (⟨#[]⟩ : ByteArray)]) (t := 34) ?hr ?_; (case hd => rfl); (case hg => rfl); (case hr => first | (go_simp; done) | (go_simp; rfl)); intro gb hg w6 hbox hb; have BK6 := am hbox; have GE6 := am (show wr.heap.size ≤ gb from Nat.le_of_eq hg.symm); have HB6 := am hb; have hz0 := bc hbox 0; have hz1 := bc hbox 1; have hz2 := bc hbox 2; have hf0 := blk_frozen hbox 0; have hf1 := blk_frozen hbox 1; have hf2 := blk_frozen hbox 2; have hy0' := (hb.cell (p := ⟨g, j * 3, none⟩) (own_lt (Kd.R_own HO.out).choose_spec g (by simp [Value.ownBlock]))).trans hy0; clear hg hbox hb hy0') | ((with_reducible refine gate_store (t := 34) (p := 7) rfl ?_); refine store_event (t := 34) (p := 7) (v := ?vo_1) (w1 := (((w6.setCell ⟨gb, 0, none⟩ (.int .i64 y.f0)).setCell ⟨gb, 1, none⟩ (.string y.f1)).setCell ⟨gb, 2, none⟩ (.string y.f2))) ?hg ?ho ?hn ?hr ?_; (case ho => rfl); (case hg => rfl); (case hn => rfl); (case hr => first | (go_simp; done) | (go_simp; rfl)); intro w7 hw; have BK7 := am (show w7.heap[gb]? = some (.cells #[.int .i64 y.f0, .string y.f1, .string y.f2] 34 (0, 0)) from (by rw [hw]; refine blk_put (cs := #[.int .i64 y.f0, .string y.f1, .string (⟨#[]⟩ : ByteArray)]) ?_ 2 _ rfl; refine blk_put (cs := #[.int .i64 y.f0, .string (⟨#[]⟩ : ByteArray), .string (⟨#[]⟩ : ByteArray)]) ?_ 1 _ rfl; refine blk_put (cs := #[.int .i64 0, .string (⟨#[]⟩ : ByteArray), .string (⟨#[]⟩ : ByteArray)]) ?_ 0 _ rfl; exact BK6.out)); have HB7 := am (show Below wr.heap.size wr w7 from (by rw [hw]; exact below_set (below_set (below_set HB6.out GE6.out) GE6.out) GE6.out)); clear hw hz0 hz1 hz2 hf0 hf1 hf2 BK6; have hz0 := bc BK7.out 0; have hz1 := bc BK7.out 1; have hz2 := bc BK7.out 2) | (go_at_call 22; (refine (impl_KeyDrop_1.calls y p1 m p2 q _ ?g1 ?g2).mono ?_); (case g1 => exact (HB7.out.cell (p := p1) HQ.out.2.2.1).trans HQ.out.1); (case g2 => exact (HB7.out.cell (p := p2) HQ.out.2.2.2).trans HQ.out.2.1); rw [HH.out]; rintro e w8 ⟨rfl, hb⟩; have HB8 := am (below_step HB7.out hb); have BK8 := am (blk_below BK7.out hb); clear hb hz0 hz1 hz2 BK7; have hz0 := bc BK8.out 0; have hz1 := bc BK8.out 1; have hz2 := bc BK8.out 2; have HR8 := am (Kd.R_below HO.out HB8.out); obtain ⟨ce6, hcl6, hM6, hcc6, hfr6⟩ := Kd.R_elem HR8.out z34 (i : Int) (by have := HI1.out; omega) (by have := HI1.out; omega); obtain rfl := k34_openM hM6; have HP8 := am (Kd.R_seg HR8.out (i : Int) (by have := HI1.out; omega) (by have := HI1.out; omega) (seg := [.int .i64 y.f0, .string y.f1, .string y.f2]) (j := 0) hcl6 hcc6 (show 3 ≤ 3 from by decide) (x' := y) (k34_mkM _ _ _ y) (fun _ hk => hk)); rw [Int.toNat_natCast] at hcc6 hfr6; have hu0 := hcc6 0 _ rfl; have hu1 := hcc6 1 _ rfl; have hu2 := hcc6 2 _ rfl; have hv0 := hfr6 0; have hv1 := hfr6 1; have hv2 := hfr6 2; (try simp only [show (k34).sz = 3 from rfl, Nat.mul_one, Nat.add_zero] at hu0 hu1 hu2 hv0 hv1 hv2); clear hcl6 hM6 hcc6 hfr6) | ((with_reducible refine gate_store (t := 34) (p := 33) rfl ?_); refine store_event (t := 34) (p := 33) (v := ?vo_2) (w1 := (((w8.setCell ⟨g, i * 3, none⟩ (.int .i64 y.f0)).setCell ⟨g, i * 3 + 1, none⟩ (.string y.f1)).setCell ⟨g, i * 3 + 2, none⟩ (.string y.f2))) ?hg ?ho ?hn ?hr ?_; (case ho => rfl); (case hg => rfl); (case hn => rfl); (case hr => first | (go_simp; done) | (go_simp; rfl)); intro w9 hw; have hg9 : w8.grownBy w9 (some g) := (by rw [hw]; exact HP8.out.2); have HR9 := am (show Kd.R k34 34 w9 w0.heap.size P (.slice (some ⟨g, 0, none⟩) l0.length c) (x.set i y) from (by rw [hw]; exact HP8.out.1)); have HB9 := am (show Below w0.heap.size w0 w9 from (by rw [hw]; exact below_set (below_set (below_set (below_step HB.out HB8.out) HG.out) HG.out) HG.out)); have HQ9 := am (show w9.cell? p1 = some (.int .i64 m) ∧ w9.cell? p2 = some (.string q) ∧ p1.block < w9.heap.size ∧ p2.block < w9.heap.size from ⟨(cell_grown_ hg9 (HN1.out g HPg.out) (Nat.lt_of_lt_of_le HQ.out.2.2.1 HB8.out.size)).trans ((HB8.out.cell (p := p1) HQ.out.2.2.1).trans HQ.out.1), (cell_grown_ hg9 (HN2.out g HPg.out) (Nat.lt_of_lt_of_le HQ.out.2.2.2 HB8.out.size)).trans ((HB8.out.cell (p := p2) HQ.out.2.2.2).trans HQ.out.2.1), Nat.lt_of_lt_of_le (Nat.lt_of_lt_of_le HQ.out.2.2.1 HB8.out.size) hg9.size, Nat.lt_of_lt_of_le (Nat.lt_of_lt_of_le HQ.out.2.2.2 HB8.out.size) hg9.size⟩); clear hw hg9))
      go_roundg k1
      case measure => omega
      case rel => exact ⟨i + 1, j + 1, x.set i y, (by first | rfl | (go_num) | (rw [wrapK (by have := HL.out; have := HI1.out; omega)]) | (simp; done)), (by first | rfl | (go_num) | (rw [wrapK (by have := HL.out; have := HJ.out; omega)]) | (simp; done)), ⟨by have := hA1.out; omega, by have := hA2.out; omega, by rw [List.length_set]; exact hA3.out, HX2.out⟩, ⟨HR9.out⟩, ⟨HQ9.out.1, HQ9.out.2.1, HQ9.out.2.2.1, HQ9.out.2.2.2⟩, ⟨HB9.out⟩⟩
def impl_KeyDrop.f (k : Nat) (l0 : List S34) (a1 : Int) (a2 : ByteArray) : Option (List S34) := (impl_isMany.f (l0.length : Int)).bind fun t1 => (if t1 = true then (some []) else ((impl_isLong.f k ([a2] : List ByteArray)).bind fun t2 => (if t2 = true then (some []) else ((slices_Clone_simpl_Key_impl_Key.f l0).bind fun y => ((impl_KeysRight.f k l0).bind fun t3 => (if t3 = true then (if y.length ≤ 1000000 then (some (delK a1 a2 y)) else none) else (some y)))))))
theorem impl_KeyDrop.mono : ∀ a0 a1 a2 k, LeO (impl_KeyDrop.f k a0 a1 a2) (impl_KeyDrop.f (k + 1) a0 a1 a2) := by
 intro a0 a1 a2 k
 unfold impl_KeyDrop.f
 repeat' first
   | (with_reducible exact impl_isLong.mono _ _)
   | (with_reducible exact impl_KeysRight.mono _ _)
   | (with_reducible exact LeO.refl _)
   | (with_reducible exact LeO.none _)
   | (with_reducible refine LeO.ite ?_ ?_)
   | (with_reducible refine LeO.bind ?_ (fun _ => ?_))
theorem impl_KeyDrop.calls (k : Nat) (A0 : Option Addr) (c0 : Nat) (l0 : List (S34)) (a1 : Int) (a2 : ByteArray) (r : List (S34)) (w : World) (hr0 : Kd.C k34 w A0 l0.length l0) (hc0 : l0.length ≤ c0) (h : impl_KeyDrop.f k l0 a1 a2 = some r) :
  Calls Try.prog 8 #[.slice A0 l0.length c0, .int .i64 a1, .string a2] w fun e w' => ∃ v0_ : Value, e = .returned (v0_) ∧ Kd.R k34 34 w' w.heap.size (fun _ => True) v0_ r ∧ Below w.heap.size w w' := by
 have hu34 := Try.underlying34
 have HR0 := am hr0
 have HC0 := am hc0
 clear hr0 hc0
 have HB := am (Below.refl w.heap.size w)
 unfold impl_KeyDrop.f at h
 obtain ⟨t1, A10, h⟩ := Option.bind_eq_some_iff.mp h
 have A1 := am A10
 clear A10
 by_cases c1 : t1 = true
 · subst c1
   rw [if_pos rfl] at h
   obtain rfl := Option.some.inj h
   clear h
   go_enter Try.func8, Try.ntmps8
   go_wp2_with (first | ((with_reducible refine gate_dst (N := 4) rfl ?_); refine box_event ?hg (N := 4) ?hd (cs := #[.int .i64 a1]) (t := 2) ?hr ?_; (case hd => rfl); (case hg => rfl); (case hr => first | (go_simp; done) | (go_simp; rfl)); intro gm hg w1 hbox hb; have BKm := am hbox; replace HB := am (below_step (bl HB.out) hb); have GEm := am (show w.heap.size ≤ gm from Nat.le_of_eq hg.symm); clear hg hbox hb) | ((with_reducible refine gate_dst (N := 5) rfl ?_); refine box_event ?hg (N := 5) ?hd (cs := #[.string a2]) (t := 9) ?hr ?_; (case hd => rfl); (case hg => rfl); (case hr => first | (go_simp; done) | (go_simp; rfl)); intro gq hg w2 hbox hb; have BKq := am hbox; have GEq := am (show w.heap.size ≤ gq from (by rw [hg]; exact HB.out.size)); replace BKm := am (blk_below BKm.out hb); replace HB := am (below_step (bl HB.out) hb); have hz0 := bc hbox 0; clear hg hbox hb) | ((with_reducible refine gate_callee (f := 17) rfl ?_); refine gl (some 10) Try.func17 #[.int .i64 (l0.length : Int)] ?_; (with_reducible refine (impl_isMany.calls (l0.length : Int) true _ A1.out).mono ?_); rintro e w' ⟨rfl, ⟨nd, rfl⟩⟩; refine ⟨_, rfl, ?_⟩))
   go_ret
   exact ⟨_, rfl, Kd.R_nil _ _ _ _ _, bl HB.out⟩
 · rw [if_neg c1] at h
   obtain rfl : t1 = false := Bool.eq_false_iff.mpr c1
   clear c1
   obtain ⟨yl, hyl⟩ : ∃ yl : List ByteArray, yl = [a2] := ⟨_, rfl⟩
   rw [← hyl] at h
   have NYL := am hyl
   clear hyl
   obtain ⟨t2, A20, h⟩ := Option.bind_eq_some_iff.mp h
   have A2 := am A20
   clear A20
   by_cases c2 : t2 = true
   · subst c2
     rw [if_pos rfl] at h
     obtain rfl := Option.some.inj h
     clear h
     go_enter Try.func8, Try.ntmps8
     go_wp2_with (first | ((with_reducible refine gate_dst (N := 4) rfl ?_); refine box_event ?hg (N := 4) ?hd (cs := #[.int .i64 a1]) (t := 2) ?hr ?_; (case hd => rfl); (case hg => rfl); (case hr => first | (go_simp; done) | (go_simp; rfl)); intro gm hg w1 hbox hb; have BKm := am hbox; replace HB := am (below_step (bl HB.out) hb); have GEm := am (show w.heap.size ≤ gm from Nat.le_of_eq hg.symm); clear hg hbox hb) | ((with_reducible refine gate_dst (N := 5) rfl ?_); refine box_event ?hg (N := 5) ?hd (cs := #[.string a2]) (t := 9) ?hr ?_; (case hd => rfl); (case hg => rfl); (case hr => first | (go_simp; done) | (go_simp; rfl)); intro gq hg w2 hbox hb; have BKq := am hbox; have GEq := am (show w.heap.size ≤ gq from (by rw [hg]; exact HB.out.size)); replace BKm := am (blk_below BKm.out hb); replace HB := am (below_step (bl HB.out) hb); have hz0 := bc hbox 0; clear hg hbox hb) | ((with_reducible refine gate_callee (f := 17) rfl ?_); refine gl (some 10) Try.func17 #[.int .i64 (l0.length : Int)] ?_; (with_reducible refine (impl_isMany.calls (l0.length : Int) false _ A1.out).mono ?_); rintro e w' ⟨rfl, ⟨nd, rfl⟩⟩; refine ⟨_, rfl, ?_⟩) | ((with_reducible refine gate_dst (N := 13) rfl ?_); (try (refine gate_guard (by rfl) ?_; dsimp only)); refine Kd.R_lit Kd.string _ 9 ?hg (N := 13) ?hd (xs := ([a2] : List ByteArray)) (inner := [.string a2]) (ok := fun _ => True) (okp := fun _ => True) ?hr ?hp (fun _ hk => hk) trivial (Below.refl _ _) (Nat.le_refl _) (by simp) ?_; (case hd => rfl); (case hg => rfl); (case hr => first | (go_simp; done) | (go_simp; rfl)); (case hp => exact (Reps.one (show Kd.M Kd.string _ _ _ a2 [.string a2] from rfl) (Reps.none _ _))); intro v428 w10 ho11 hb hg_ hnew_; clear hg_ hnew_; rw [← NYL.out] at ho11; have HO429 := am (Kd.R_lower ho11 (below_size (bl HB.out))); replace BKm := am (blk_below (pk BKm.out) hb); replace BKq := am (blk_below (pk BKq.out) hb); replace HB := am (below_step (bl HB.out) hb); clear hb ho11 hz0; obtain ⟨Ao12, co12, eo12⟩ := Kd.R_slice HO429.out; subst eo12) | (go_at_call 18; (with_reducible refine (impl_isLong.calls k _ _ yl true _ ?side1 ?side2 A2.out).mono ?_); (case side1 => repeat (first | exact (Kd.R_reads' HO429.out).2.2 | (with_reducible refine Kd.C_alloc ?_ _) | (with_reducible refine Kd.C_drewN ?_ _) | (with_reducible refine Kd.C_drew ?_))); (case side2 => exact (Kd.R_reads' HO429.out).2.1); rintro e w' ⟨rfl, ⟨nd, rfl⟩⟩))
     go_ret
     exact ⟨_, rfl, Kd.R_nil _ _ _ _ _, bl HB.out⟩
   · rw [if_neg c2] at h
     obtain rfl : t2 = false := Bool.eq_false_iff.mpr c2
     clear c2
     obtain ⟨y, A30, h⟩ := Option.bind_eq_some_iff.mp h
     have A3 := am A30
     clear A30
     obtain ⟨t3, A40, h⟩ := Option.bind_eq_some_iff.mp h
     have A4 := am A40
     clear A40
     by_cases c3 : t3 = true
     · subst c3
       rw [if_pos rfl] at h
       by_cases c4 : y.length ≤ 1000000
       · rw [if_pos c4] at h
         obtain rfl := Option.some.inj h
         have HYL := am c4
         clear h c4
         go_enter Try.func8, Try.ntmps8
         go_wp2_with (first | ((with_reducible refine gate_dst (N := 4) rfl ?_); refine box_event ?hg (N := 4) ?hd (cs := #[.int .i64 a1]) (t := 2) ?hr ?_; (case hd => rfl); (case hg => rfl); (case hr => first | (go_simp; done) | (go_simp; rfl)); intro gm hg w1 hbox hb; have BKm := am hbox; replace HB := am (below_step (bl HB.out) hb); have GEm := am (show w.heap.size ≤ gm from Nat.le_of_eq hg.symm); clear hg hbox hb) | ((with_reducible refine gate_dst (N := 5) rfl ?_); refine box_event ?hg (N := 5) ?hd (cs := #[.string a2]) (t := 9) ?hr ?_; (case hd => rfl); (case hg => rfl); (case hr => first | (go_simp; done) | (go_simp; rfl)); intro gq hg w2 hbox hb; have BKq := am hbox; have GEq := am (show w.heap.size ≤ gq from (by rw [hg]; exact HB.out.size)); replace BKm := am (blk_below BKm.out hb); replace HB := am (below_step (bl HB.out) hb); have hz0 := bc hbox 0; clear hg hbox hb) | ((with_reducible refine gate_callee (f := 17) rfl ?_); refine gl (some 10) Try.func17 #[.int .i64 (l0.length : Int)] ?_; (with_reducible refine (impl_isMany.calls (l0.length : Int) false _ A1.out).mono ?_); rintro e w' ⟨rfl, ⟨nd, rfl⟩⟩; refine ⟨_, rfl, ?_⟩) | ((with_reducible refine gate_dst (N := 13) rfl ?_); (try (refine gate_guard (by rfl) ?_; dsimp only)); refine Kd.R_lit Kd.string _ 9 ?hg (N := 13) ?hd (xs := ([a2] : List ByteArray)) (inner := [.string a2]) (ok := fun _ => True) (okp := fun _ => True) ?hr ?hp (fun _ hk => hk) trivial (Below.refl _ _) (Nat.le_refl _) (by simp) ?_; (case hd => rfl); (case hg => rfl); (case hr => first | (go_simp; done) | (go_simp; rfl)); (case hp => exact (Reps.one (show Kd.M Kd.string _ _ _ a2 [.string a2] from rfl) (Reps.none _ _))); intro v428 w10 ho11 hb hg_ hnew_; clear hg_ hnew_; rw [← NYL.out] at ho11; have HO429 := am (Kd.R_lower ho11 (below_size (bl HB.out))); replace BKm := am (blk_below (pk BKm.out) hb); replace BKq := am (blk_below (pk BKq.out) hb); replace HB := am (below_step (bl HB.out) hb); clear hb ho11 hz0; obtain ⟨Ao12, co12, eo12⟩ := Kd.R_slice HO429.out; subst eo12) | (go_at_call 18; (with_reducible refine (impl_isLong.calls k _ _ yl false _ ?side1 ?side2 A2.out).mono ?_); (case side1 => repeat (first | exact (Kd.R_reads' HO429.out).2.2 | (with_reducible refine Kd.C_alloc ?_ _) | (with_reducible refine Kd.C_drewN ?_ _) | (with_reducible refine Kd.C_drew ?_))); (case side2 => exact (Kd.R_reads' HO429.out).2.1); rintro e w' ⟨rfl, ⟨nd, rfl⟩⟩) | (go_at_call 19; (with_reducible refine (slices_Clone_simpl_Key_impl_Key.calls A0 c0 l0 y _ ?sc1 ?sc2 A3.out).mono ?_); (case sc1 => exact (Kd.C_below HR0.out (bl HB.out))); (case sc2 => exact HC0.out); rintro e w20 ⟨vy, rfl, ho, hb⟩; have HOy := am (Kd.R_lower ho (below_size (bl HB.out))); replace BKm := am (blk_below (pk BKm.out) hb); replace BKq := am (blk_below (pk BKq.out) hb); replace HB := am (below_step (bl HB.out) hb); clear ho hb) | (go_at_call 20; (with_reducible refine (impl_KeysRight.calls k A0 c0 l0 true _ ?sr1 ?sr2 A4.out).mono ?_); (case sr1 => exact (Kd.C_below HR0.out (bl HB.out))); (case sr2 => exact HC0.out); rintro e w21 ⟨rfl, hb⟩; replace BKm := am (blk_below (pk BKm.out) hb); replace BKq := am (blk_below (pk BKq.out) hb); replace HOy := am (Kd.R_below HOy.out hb); replace HB := am (below_step (bl HB.out) hb); clear hb) | (go_at_call 21; (have hd_ := Kd.R_types (Kd.R_types HOy.out BKm.out (by decide)) BKq.out (by decide); (refine (slices_DeleteFunc_K.calls (fun k_ => (True ∧ k_ ≠ gm) ∧ k_ ≠ gq) vy y ⟨gm, 0, none⟩ a1 ⟨gq, 0, none⟩ a2 w _ (bl HB.out) hd_ HYL.out (bc BKm.out 0) (bc BKq.out 0) (blk_lt BKm.out) (blk_lt BKq.out) (fun k_ hk_ => Ne.symm hk_.1.2) (fun k_ hk_ => Ne.symm hk_.2)).mono ?_); rintro e w22 ⟨vr, rfl, ho, hb⟩)))
         go_ret
         exact ⟨_, rfl, Kd.R_mono ho (fun _ _ => trivial), hb⟩
       · rw [if_neg c4] at h
         cases h
     · rw [if_neg c3] at h
       obtain rfl : t3 = false := Bool.eq_false_iff.mpr c3
       clear c3
       obtain rfl := Option.some.inj h
       clear h
       go_enter Try.func8, Try.ntmps8
       go_wp2_with (first | ((with_reducible refine gate_dst (N := 4) rfl ?_); refine box_event ?hg (N := 4) ?hd (cs := #[.int .i64 a1]) (t := 2) ?hr ?_; (case hd => rfl); (case hg => rfl); (case hr => first | (go_simp; done) | (go_simp; rfl)); intro gm hg w1 hbox hb; have BKm := am hbox; replace HB := am (below_step (bl HB.out) hb); have GEm := am (show w.heap.size ≤ gm from Nat.le_of_eq hg.symm); clear hg hbox hb) | ((with_reducible refine gate_dst (N := 5) rfl ?_); refine box_event ?hg (N := 5) ?hd (cs := #[.string a2]) (t := 9) ?hr ?_; (case hd => rfl); (case hg => rfl); (case hr => first | (go_simp; done) | (go_simp; rfl)); intro gq hg w2 hbox hb; have BKq := am hbox; have GEq := am (show w.heap.size ≤ gq from (by rw [hg]; exact HB.out.size)); replace BKm := am (blk_below BKm.out hb); replace HB := am (below_step (bl HB.out) hb); have hz0 := bc hbox 0; clear hg hbox hb) | ((with_reducible refine gate_callee (f := 17) rfl ?_); refine gl (some 10) Try.func17 #[.int .i64 (l0.length : Int)] ?_; (with_reducible refine (impl_isMany.calls (l0.length : Int) false _ A1.out).mono ?_); rintro e w' ⟨rfl, ⟨nd, rfl⟩⟩; refine ⟨_, rfl, ?_⟩) | ((with_reducible refine gate_dst (N := 13) rfl ?_); (try (refine gate_guard (by rfl) ?_; dsimp only)); refine Kd.R_lit Kd.string _ 9 ?hg (N := 13) ?hd (xs := ([a2] : List ByteArray)) (inner := [.string a2]) (ok := fun _ => True) (okp := fun _ => True) ?hr ?hp (fun _ hk => hk) trivial (Below.refl _ _) (Nat.le_refl _) (by simp) ?_; (case hd => rfl); (case hg => rfl); (case hr => first | (go_simp; done) | (go_simp; rfl)); (case hp => exact (Reps.one (show Kd.M Kd.string _ _ _ a2 [.string a2] from rfl) (Reps.none _ _))); intro v428 w10 ho11 hb hg_ hnew_; clear hg_ hnew_; rw [← NYL.out] at ho11; have HO429 := am (Kd.R_lower ho11 (below_size (bl HB.out))); replace BKm := am (blk_below (pk BKm.out) hb); replace BKq := am (blk_below (pk BKq.out) hb); replace HB := am (below_step (bl HB.out) hb); clear hb ho11 hz0; obtain ⟨Ao12, co12, eo12⟩ := Kd.R_slice HO429.out; subst eo12) | (go_at_call 18; (with_reducible refine (impl_isLong.calls k _ _ yl false _ ?side1 ?side2 A2.out).mono ?_); (case side1 => repeat (first | exact (Kd.R_reads' HO429.out).2.2 | (with_reducible refine Kd.C_alloc ?_ _) | (with_reducible refine Kd.C_drewN ?_ _) | (with_reducible refine Kd.C_drew ?_))); (case side2 => exact (Kd.R_reads' HO429.out).2.1); rintro e w' ⟨rfl, ⟨nd, rfl⟩⟩) | (go_at_call 19; (with_reducible refine (slices_Clone_simpl_Key_impl_Key.calls A0 c0 l0 y _ ?sc1 ?sc2 A3.out).mono ?_); (case sc1 => exact (Kd.C_below HR0.out (bl HB.out))); (case sc2 => exact HC0.out); rintro e w20 ⟨vy, rfl, ho, hb⟩; have HOy := am (Kd.R_lower ho (below_size (bl HB.out))); replace BKm := am (blk_below (pk BKm.out) hb); replace BKq := am (blk_below (pk BKq.out) hb); replace HB := am (below_step (bl HB.out) hb); clear ho hb) | (go_at_call 20; (with_reducible refine (impl_KeysRight.calls k A0 c0 l0 false _ ?sr1 ?sr2 A4.out).mono ?_); (case sr1 => exact (Kd.C_below HR0.out (bl HB.out))); (case sr2 => exact HC0.out); rintro e w21 ⟨rfl, hb⟩; replace BKm := am (blk_below (pk BKm.out) hb); replace BKq := am (blk_below (pk BKq.out) hb); replace HOy := am (Kd.R_below HOy.out hb); replace HB := am (below_step (bl HB.out) hb); clear hb))
       go_ret
       exact ⟨_, rfl, Kd.R_mono HOy.out (fun _ _ => trivial), bl HB.out⟩

/-! ### laws_eqKey: function 23 -/
def laws_eqKey.f (a0_0 : Int) (a0_1 : ByteArray) (a0_2 : ByteArray) (a1_0 : Int) (a1_1 : ByteArray) (a1_2 : ByteArray) : Option (Bool) := if a0_0 = a1_0 then (if a0_1.toList = a1_1.toList then (if a0_2.toList = a1_2.toList then (some true) else (some false)) else (some false)) else (some false)
theorem laws_eqKey.calls (a0_0 : Int) (a0_1 : ByteArray) (a0_2 : ByteArray) (a1_0 : Int) (a1_1 : ByteArray) (a1_2 : ByteArray) (r : Bool) (w : World) (h : laws_eqKey.f a0_0 a0_1 a0_2 a1_0 a1_1 a1_2 = some r) :
  Calls Try.prog 23 #[.agg #[.int .i64 a0_0, .string a0_1, .string a0_2], .agg #[.int .i64 a1_0, .string a1_1, .string a1_2]] w fun e w' => e = .returned (.bool r) ∧ Below w.heap.size w w' := by
 have hu34 := Try.underlying34
 have HB := am (Below.refl w.heap.size w)
 have H : (if a0_0 = a1_0 then (if a0_1.toList = a1_1.toList then (if a0_2.toList = a1_2.toList then (some true) else (some false)) else (some false)) else (some false)) = some r := h
 clear h
 by_cases c3 : a0_0 = a1_0
 ·rw [if_pos c3] at H
  have c3b0 : (a0_0 == a1_0) = true := beq_iff_eq.mpr c3
  have c3b1 : (a0_0 != a1_0) = false := bne_eq_false_iff_eq.mpr c3
  clear c3
  by_cases c4 : a0_1.toList = a1_1.toList
  ·rw [if_pos c4] at H
   have c4b0 : (a0_1.toList == a1_1.toList) = true := beq_iff_eq.mpr c4
   have c4b1 : (a0_1.toList != a1_1.toList) = false := bne_eq_false_iff_eq.mpr c4
   clear c4
   by_cases c5 : a0_2.toList = a1_2.toList
   ·rw [if_pos c5] at H
    have c5b0 : (a0_2.toList == a1_2.toList) = true := beq_iff_eq.mpr c5
    have c5b1 : (a0_2.toList != a1_2.toList) = false := bne_eq_false_iff_eq.mpr c5
    clear c5
    obtain rfl := Option.some.inj H
    go_enter Try.func23, Try.ntmps23
    go_wp2_with (first | ((with_reducible refine gate_dst (N := 2) rfl ?_); refine box_event ?hg (N := 2) ?hd (cs := #[.int .i64 a0_0, .string a0_1, .string a0_2]) (t := 34) ?hr ?_; (case hd => rfl); (case hg => rfl); (case hr => first | (go_simp; done) | (go_simp; rfl)); intro gb173 hg w6 hbox hb; have BK173 := am (hbox); have GW173 := am ((by rw [hg]; exact (below_size (bl HB.out)) : w.heap.size ≤ gb173)); have GE173 := GW173; replace HB := am (below_step (bl HB.out) hb); clear hb hbox hg) | ((with_reducible refine gate_dst (N := 3) rfl ?_); refine box_event ?hg (N := 3) ?hd (cs := #[.int .i64 a1_0, .string a1_1, .string a1_2]) (t := 34) ?hr ?_; (case hd => rfl); (case hg => rfl); (case hr => first | (go_simp; done) | (go_simp; rfl)); intro gb174 hg w7 hbox hb; have BK174 := am (hbox); have GW174 := am ((by rw [hg]; exact (below_size (bl HB.out)) : w.heap.size ≤ gb174)); have GE174 := GW174; replace HB := am (below_step (bl HB.out) hb); have NB173_174 := am ((by rw [hg]; exact Nat.ne_of_lt (blk_lt (pk BK173.out)) : gb173 ≠ gb174)); have NB174_173 := am ((by rw [hg]; exact Nat.ne_of_gt (blk_lt (pk BK173.out)) : gb174 ≠ gb173)); replace BK173 := am (blk_below (pk BK173.out) hb); clear hb hbox hg; have hnb8 := NB173_174.out; have hnc8 := NB174_173.out; have hcz9_0 : w7.cell? ⟨gb173, 0, none⟩ = some (.int .i64 a0_0) := bc BK173.out 0; have hcz9_1 : w7.cell? ⟨gb173, 1, none⟩ = some (.string a0_1) := bc BK173.out 1; have hcz9_2 : w7.cell? ⟨gb173, 2, none⟩ = some (.string a0_2) := bc BK173.out 2; have hcz10_0 : w7.cell? ⟨gb174, 0, none⟩ = some (.int .i64 a1_0) := bc BK174.out 0; have hcz10_1 : w7.cell? ⟨gb174, 1, none⟩ = some (.string a1_1) := bc BK174.out 1; have hcz10_2 : w7.cell? ⟨gb174, 2, none⟩ = some (.string a1_2) := bc BK174.out 2))
    go_ret
    exact ⟨by first | rfl | (simp [errW_none, errW_some] <;> rfl) | (simp [*, errW_none, errW_some] <;> rfl), by repeat (first | (with_reducible first | exact HB.out | apply below_alloc | apply pw_below_drewN | apply below_drew1 | refine below_set ?_ GE173.out | refine below_set ?_ GE174.out) | exact HB.out)⟩
   ·rw [if_neg c5] at H
    have c5b0 : (a0_2.toList == a1_2.toList) = false := beq_eq_false_iff_ne.mpr c5
    have c5b1 : (a0_2.toList != a1_2.toList) = true := bne_iff_ne.mpr c5
    obtain rfl := Option.some.inj H
    go_enter Try.func23, Try.ntmps23
    go_wp2_with (first | ((with_reducible refine gate_dst (N := 2) rfl ?_); refine box_event ?hg (N := 2) ?hd (cs := #[.int .i64 a0_0, .string a0_1, .string a0_2]) (t := 34) ?hr ?_; (case hd => rfl); (case hg => rfl); (case hr => first | (go_simp; done) | (go_simp; rfl)); intro gb173 hg w11 hbox hb; have BK173 := am (hbox); have GW173 := am ((by rw [hg]; exact (below_size (bl HB.out)) : w.heap.size ≤ gb173)); have GE173 := GW173; replace HB := am (below_step (bl HB.out) hb); clear hb hbox hg) | ((with_reducible refine gate_dst (N := 3) rfl ?_); refine box_event ?hg (N := 3) ?hd (cs := #[.int .i64 a1_0, .string a1_1, .string a1_2]) (t := 34) ?hr ?_; (case hd => rfl); (case hg => rfl); (case hr => first | (go_simp; done) | (go_simp; rfl)); intro gb174 hg w12 hbox hb; have BK174 := am (hbox); have GW174 := am ((by rw [hg]; exact (below_size (bl HB.out)) : w.heap.size ≤ gb174)); have GE174 := GW174; replace HB := am (below_step (bl HB.out) hb); have NB173_174 := am ((by rw [hg]; exact Nat.ne_of_lt (blk_lt (pk BK173.out)) : gb173 ≠ gb174)); have NB174_173 := am ((by rw [hg]; exact Nat.ne_of_gt (blk_lt (pk BK173.out)) : gb174 ≠ gb173)); replace BK173 := am (blk_below (pk BK173.out) hb); clear hb hbox hg; have hnb13 := NB173_174.out; have hnc13 := NB174_173.out; have hcz14_0 : w12.cell? ⟨gb173, 0, none⟩ = some (.int .i64 a0_0) := bc BK173.out 0; have hcz14_1 : w12.cell? ⟨gb173, 1, none⟩ = some (.string a0_1) := bc BK173.out 1; have hcz14_2 : w12.cell? ⟨gb173, 2, none⟩ = some (.string a0_2) := bc BK173.out 2; have hcz15_0 : w12.cell? ⟨gb174, 0, none⟩ = some (.int .i64 a1_0) := bc BK174.out 0; have hcz15_1 : w12.cell? ⟨gb174, 1, none⟩ = some (.string a1_1) := bc BK174.out 1; have hcz15_2 : w12.cell? ⟨gb174, 2, none⟩ = some (.string a1_2) := bc BK174.out 2))
    go_ret
    exact ⟨by first | rfl | (simp [errW_none, errW_some] <;> rfl) | (simp [*, errW_none, errW_some] <;> rfl), by repeat (first | (with_reducible first | exact HB.out | apply below_alloc | apply pw_below_drewN | apply below_drew1 | refine below_set ?_ GE173.out | refine below_set ?_ GE174.out) | exact HB.out)⟩
  ·rw [if_neg c4] at H
   have c4b0 : (a0_1.toList == a1_1.toList) = false := beq_eq_false_iff_ne.mpr c4
   have c4b1 : (a0_1.toList != a1_1.toList) = true := bne_iff_ne.mpr c4
   obtain rfl := Option.some.inj H
   go_enter Try.func23, Try.ntmps23
   go_wp2_with (first | ((with_reducible refine gate_dst (N := 2) rfl ?_); refine box_event ?hg (N := 2) ?hd (cs := #[.int .i64 a0_0, .string a0_1, .string a0_2]) (t := 34) ?hr ?_; (case hd => rfl); (case hg => rfl); (case hr => first | (go_simp; done) | (go_simp; rfl)); intro gb173 hg w16 hbox hb; have BK173 := am (hbox); have GW173 := am ((by rw [hg]; exact (below_size (bl HB.out)) : w.heap.size ≤ gb173)); have GE173 := GW173; replace HB := am (below_step (bl HB.out) hb); clear hb hbox hg) | ((with_reducible refine gate_dst (N := 3) rfl ?_); refine box_event ?hg (N := 3) ?hd (cs := #[.int .i64 a1_0, .string a1_1, .string a1_2]) (t := 34) ?hr ?_; (case hd => rfl); (case hg => rfl); (case hr => first | (go_simp; done) | (go_simp; rfl)); intro gb174 hg w17 hbox hb; have BK174 := am (hbox); have GW174 := am ((by rw [hg]; exact (below_size (bl HB.out)) : w.heap.size ≤ gb174)); have GE174 := GW174; replace HB := am (below_step (bl HB.out) hb); have NB173_174 := am ((by rw [hg]; exact Nat.ne_of_lt (blk_lt (pk BK173.out)) : gb173 ≠ gb174)); have NB174_173 := am ((by rw [hg]; exact Nat.ne_of_gt (blk_lt (pk BK173.out)) : gb174 ≠ gb173)); replace BK173 := am (blk_below (pk BK173.out) hb); clear hb hbox hg; have hnb18 := NB173_174.out; have hnc18 := NB174_173.out; have hcz19_0 : w17.cell? ⟨gb173, 0, none⟩ = some (.int .i64 a0_0) := bc BK173.out 0; have hcz19_1 : w17.cell? ⟨gb173, 1, none⟩ = some (.string a0_1) := bc BK173.out 1; have hcz19_2 : w17.cell? ⟨gb173, 2, none⟩ = some (.string a0_2) := bc BK173.out 2; have hcz20_0 : w17.cell? ⟨gb174, 0, none⟩ = some (.int .i64 a1_0) := bc BK174.out 0; have hcz20_1 : w17.cell? ⟨gb174, 1, none⟩ = some (.string a1_1) := bc BK174.out 1; have hcz20_2 : w17.cell? ⟨gb174, 2, none⟩ = some (.string a1_2) := bc BK174.out 2))
   go_ret
   exact ⟨by first | rfl | (simp [errW_none, errW_some] <;> rfl) | (simp [*, errW_none, errW_some] <;> rfl), by repeat (first | (with_reducible first | exact HB.out | apply below_alloc | apply pw_below_drewN | apply below_drew1 | refine below_set ?_ GE173.out | refine below_set ?_ GE174.out) | exact HB.out)⟩
 ·rw [if_neg c3] at H
  have c3b0 : (a0_0 == a1_0) = false := beq_eq_false_iff_ne.mpr c3
  have c3b1 : (a0_0 != a1_0) = true := bne_iff_ne.mpr c3
  obtain rfl := Option.some.inj H
  go_enter Try.func23, Try.ntmps23
  go_wp2_with (first | ((with_reducible refine gate_dst (N := 2) rfl ?_); refine box_event ?hg (N := 2) ?hd (cs := #[.int .i64 a0_0, .string a0_1, .string a0_2]) (t := 34) ?hr ?_; (case hd => rfl); (case hg => rfl); (case hr => first | (go_simp; done) | (go_simp; rfl)); intro gb173 hg w21 hbox hb; have BK173 := am (hbox); have GW173 := am ((by rw [hg]; exact (below_size (bl HB.out)) : w.heap.size ≤ gb173)); have GE173 := GW173; replace HB := am (below_step (bl HB.out) hb); clear hb hbox hg) | ((with_reducible refine gate_dst (N := 3) rfl ?_); refine box_event ?hg (N := 3) ?hd (cs := #[.int .i64 a1_0, .string a1_1, .string a1_2]) (t := 34) ?hr ?_; (case hd => rfl); (case hg => rfl); (case hr => first | (go_simp; done) | (go_simp; rfl)); intro gb174 hg w22 hbox hb; have BK174 := am (hbox); have GW174 := am ((by rw [hg]; exact (below_size (bl HB.out)) : w.heap.size ≤ gb174)); have GE174 := GW174; replace HB := am (below_step (bl HB.out) hb); have NB173_174 := am ((by rw [hg]; exact Nat.ne_of_lt (blk_lt (pk BK173.out)) : gb173 ≠ gb174)); have NB174_173 := am ((by rw [hg]; exact Nat.ne_of_gt (blk_lt (pk BK173.out)) : gb174 ≠ gb173)); replace BK173 := am (blk_below (pk BK173.out) hb); clear hb hbox hg; have hnb23 := NB173_174.out; have hnc23 := NB174_173.out; have hcz24_0 : w22.cell? ⟨gb173, 0, none⟩ = some (.int .i64 a0_0) := bc BK173.out 0; have hcz24_1 : w22.cell? ⟨gb173, 1, none⟩ = some (.string a0_1) := bc BK173.out 1; have hcz24_2 : w22.cell? ⟨gb173, 2, none⟩ = some (.string a0_2) := bc BK173.out 2; have hcz25_0 : w22.cell? ⟨gb174, 0, none⟩ = some (.int .i64 a1_0) := bc BK174.out 0; have hcz25_1 : w22.cell? ⟨gb174, 1, none⟩ = some (.string a1_1) := bc BK174.out 1; have hcz25_2 : w22.cell? ⟨gb174, 2, none⟩ = some (.string a1_2) := bc BK174.out 2))
  go_ret
  exact ⟨by first | rfl | (simp [errW_none, errW_some] <;> rfl) | (simp [*, errW_none, errW_some] <;> rfl), by repeat (first | (with_reducible first | exact HB.out | apply below_alloc | apply pw_below_drewN | apply below_drew1 | refine below_set ?_ GE173.out | refine below_set ?_ GE174.out) | exact HB.out)⟩

/-! ### laws_eqKeyS: function 9 -/
@[reducible] def b9_0 : Array Bool := (br true [0, 10]).toArray
@[reducible] def b9_1 : Array Bool := (br true [1, 9]).toArray
@[reducible] def b9_2 : Array Bool := (br true [2, 8]).toArray
@[reducible] def b9_3 : Array Bool := (br true [3, 7]).toArray
@[reducible] def b9_4 : Array Bool := (br true [3, 1, 1, 5]).toArray
@[reducible] def b9_5 : Array Bool := (br true [3, 1, 2, 4]).toArray
@[reducible] def b9_6 : Array Bool := (br true [3, 1, 3, 3]).toArray
@[reducible] def b9_7 : Array Bool := (br true [7, 3]).toArray
@[reducible] def b9_8 : Array Bool := (br true [8, 2]).toArray
@[reducible] def b9_9 : Array Bool := (br true [9, 1]).toArray
@[reducible] def b9_10 : Array Bool := (br true [10]).toArray
def laws_eqKeyS.l0 : Nat → List (S34) → List (S34) → Int → Option (Bool)
 | 0, _, _, _ => none
 | k + 1, x0, x1, x5 => if x5 < (x0.length : Int) then (if 0 ≤ x5 then (if x5 < (x1.length : Int) then ((laws_eqKey.f ((rd_T34 x0 x5).f0) ((rd_T34 x0 x5).f1) ((rd_T34 x0 x5).f2) ((rd_T34 x1 x5).f0) ((rd_T34 x1 x5).f1) ((rd_T34 x1 x5).f2)).bind fun t177 => (if t177 = true then (laws_eqKeyS.l0 k x0 x1 (wrap64 (x5 + 1))) else (some false))) else (none)) else (none)) else (some true)
def laws_eqKeyS.f (k : Nat) (l0 : List (S34)) (l1 : List (S34)) : Option (Bool) := if (l0.length : Int) = (l1.length : Int) then (laws_eqKeyS.l0 k l0 l1 0) else (some false)
theorem laws_eqKeyS.mono_l : ∀ k, (∀ y0 y1 y2, LeO (laws_eqKeyS.l0 k y0 y1 y2) (laws_eqKeyS.l0 (k + 1) y0 y1 y2))
 | 0 => fun _ _ _ r h => by simp [laws_eqKeyS.l0] at h
 | k + 1 => by
  have ih0 := laws_eqKeyS.mono_l k
  ·intro y0 y1 y2
   unfold laws_eqKeyS.l0
   repeat' first
   | (with_reducible exact ih0 _ _ _)
   | (with_reducible exact LeO.refl _)
   | (with_reducible exact LeO.none _)
   | (with_reducible refine LeO.ite ?_ ?_)
   | (with_reducible refine LeO.bind ?_ (fun _ => ?_))
   | exact ih0 _ _ _
   | refine LeO.bind ?_ (fun _ => ?_)
theorem laws_eqKeyS.mono : ∀ a0 a1 k, LeO (laws_eqKeyS.f k a0 a1) (laws_eqKeyS.f (k + 1) a0 a1) := by
 intro a0 a1 k
 have ih0 := laws_eqKeyS.mono_l k
 unfold laws_eqKeyS.f
 repeat' first
   | (with_reducible exact ih0 _ _ _)
   | (with_reducible exact LeO.refl _)
   | (with_reducible exact LeO.none _)
   | (with_reducible refine LeO.ite ?_ ?_)
   | (with_reducible refine LeO.bind ?_ (fun _ => ?_))
   | exact ih0 _ _ _
   | refine LeO.bind ?_ (fun _ => ?_)
def laws_eqKeyS.T6 : Bool × List (List Nat × List Nat) := (true, [([], []), ([], []), ([0, 1], [0, 1]), ([2], [2]), ([], []), ([], []), ([4, 5], [4, 5]), ([6], [6]), ([3, 7], [3, 7]), ([8], [8])])
def laws_eqKeyS.B6 : List Nat := [0, 0, 3, 7, 0, 0, 48, 112, 255, 511]
theorem laws_eqKeyS.tab6 : rtab .any (opsOf Try.f9 6) = laws_eqKeyS.T6 := by kernel_rfl
theorem laws_eqKeyS.bits6 : waitsOk laws_eqKeyS.T6.2 laws_eqKeyS.B6 = true := by kernel_rfl
theorem laws_eqKeyS.calls (k : Nat) (A0 : Option Addr) (c0 : Nat) (l0 : List (S34)) (A1 : Option Addr) (c1 : Nat) (l1 : List (S34)) (r : Bool) (w : World) (hr0 : Kd.C k34 w A0 l0.length l0) (hc0 : l0.length ≤ c0) (hr1 : Kd.C k34 w A1 l1.length l1) (hc1 : l1.length ≤ c1) (h : laws_eqKeyS.f k l0 l1 = some r) :
  Calls Try.prog 9 #[.slice A0 l0.length c0, .slice A1 l1.length c1] w fun e w' => e = .returned (.bool r) ∧ Below w.heap.size w w' := by
 have hu34 := Try.underlying34
 have HR0 := am hr0
 have HC0 := am hc0
 clear hr0 hc0
 have HR1 := am hr1
 have HC1 := am hc1
 clear hr1 hc1
 have HB := am (Below.refl w.heap.size w)
 have H : (if (l0.length : Int) = (l1.length : Int) then (laws_eqKeyS.l0 k l0 l1 0) else (some false)) = some r := h
 clear h
 by_cases c3 : (l0.length : Int) = (l1.length : Int)
 ·rw [if_pos c3] at H
  have c3b0 : ((l0.length : Int) == (l1.length : Int)) = true := beq_iff_eq.mpr c3
  have c3b1 : ((l0.length : Int) != (l1.length : Int)) = false := bne_eq_false_iff_eq.mpr c3
  have c3b2 : (l0.length == l1.length) = true := by first | simpa using c3 | (simp at c3 ⊢; omega)
  clear c3
  have H' := Aside0.mk H
  clear H
  go_enter Try.func9, Try.ntmps9
  go_wp2
  go_loopg [5] k (fun kq v5 w' => ∃ (x5_1 : Int), v5 = .int .i64 x5_1 ∧ Aside0 (laws_eqKeyS.l0 kq l0 l1 x5_1 = some r) ∧ Aside0 (kq ≤ k) ∧ Aside0 (Below w.heap.size w w'))
  case atStart => exact ⟨(0), (by first | rfl | (simp; done) | (simp [*]; done)), H', ⟨Nat.le_refl _⟩, ⟨by repeat (first | (with_reducible first | exact HB.out | apply below_alloc | apply pw_below_drewN | apply below_drew1) | exact HB.out)⟩⟩
  case round =>
   clear H'
   try clear c1
   try clear p2
   try clear c3
   try clear c3b0
   try clear c3b1
   try clear c3b2
   obtain ⟨x5_1, rfl, HA, HK1, HB⟩ := hrel
   cases gk with
   | zero => exact absurd HA.out (by simp [laws_eqKeyS.l0])
   | succ k1 =>
    have H := HA.out
    clear HA
    simp only [laws_eqKeyS.l0] at H
    by_cases c4 : x5_1 < (l0.length : Int)
    ·rw [if_pos c4] at H
     have c4b0 : decide (x5_1 < (l0.length : Int)) = true := decide_eq_true c4
     clear c4
     by_cases c5 : 0 ≤ x5_1
     ·rw [if_pos c5] at H
      have c5b0 : decide (0 ≤ x5_1) = true := decide_eq_true c5
      clear c5
      by_cases c6 : x5_1 < (l1.length : Int)
      ·rw [if_pos c6] at H
       have c6b0 : decide (x5_1 < (l1.length : Int)) = true := decide_eq_true c6
       clear c6
       replace H := Option.bind_eq_some_iff.mp H
       obtain ⟨t177, A70, H⟩ := H
       replace H : (if t177 = true then (laws_eqKeyS.l0 k1 l0 l1 (wrap64 (x5_1 + 1))) else (some false)) = some r := H
       have A7 := Aside0.mk A70
       clear A70
       by_cases c8 : t177 = true
       ·subst c8
        have H1 : (laws_eqKeyS.l0 k1 l0 l1 (wrap64 (x5_1 + 1))) = some r := by rw [if_pos rfl] at H; exact H
        clear H
        have H := H1
        clear H1
        have H' := Aside0.mk H
        clear H
        try go_wp2
        replace HB := am (below_drew1 HB.out)
        have p175 : 0 ≤ (x5_1 : Int) := of_decide_eq_true (by first | (with_reducible assumption) | assumption)
        have q175 : x5_1 < (l0.length : Int) := of_decide_eq_true (by first | (with_reducible assumption) | assumption)
        obtain ⟨ad175, e175, hx175_0, hx175_1, hx175_2⟩ := at_T34 HR0.out x5_1 p175 q175
        have hw175_2 := hx175_2
        have hw175_1 := hx175_1
        have hw175_0 := hx175_0
        cases e175
        replace hx175_0 := (HB.out.cell (World.block_lt_of_cell? w _ hx175_0)).trans hx175_0
        replace hx175_1 := (HB.out.cell (World.block_lt_of_cell? w _ hx175_1)).trans hx175_1
        replace hx175_2 := (HB.out.cell (World.block_lt_of_cell? w _ hx175_2)).trans hx175_2
        replace p175 := eq_true p175
        replace q175 := eq_true q175
        have p176 : 0 ≤ (x5_1 : Int) := of_decide_eq_true (by first | (with_reducible assumption) | assumption)
        have q176 : x5_1 < (l1.length : Int) := of_decide_eq_true (by first | (with_reducible assumption) | assumption)
        obtain ⟨ad176, e176, hx176_0, hx176_1, hx176_2⟩ := at_T34 HR1.out x5_1 p176 q176
        have hw176_2 := hx176_2
        have hw176_1 := hx176_1
        have hw176_0 := hx176_0
        cases e176
        replace hx176_0 := (HB.out.cell (World.block_lt_of_cell? w _ hx176_0)).trans hx176_0
        replace hx176_1 := (HB.out.cell (World.block_lt_of_cell? w _ hx176_1)).trans hx176_1
        replace hx176_2 := (HB.out.cell (World.block_lt_of_cell? w _ hx176_2)).trans hx176_2
        replace p176 := eq_true p176
        replace q176 := eq_true q176
        refine start_ (n := 10) (S := fun w' => w'.cell? (ad175.add ((x5_1).toNat * 3)) = some (.int .i64 ((rd_T34 l0 x5_1).f0)) ∧ w'.cell? ⟨(ad175.add ((x5_1).toNat * 3)).block, (ad175.add ((x5_1).toNat * 3)).off + 1, none⟩ = some (.string ((rd_T34 l0 x5_1).f1)) ∧ w'.cell? ⟨(ad175.add ((x5_1).toNat * 3)).block, (ad175.add ((x5_1).toNat * 3)).off + 2, none⟩ = some (.string ((rd_T34 l0 x5_1).f2)) ∧ w'.cell? (ad176.add ((x5_1).toNat * 3)) = some (.int .i64 ((rd_T34 l1 x5_1).f0)) ∧ w'.cell? ⟨(ad176.add ((x5_1).toNat * 3)).block, (ad176.add ((x5_1).toNat * 3)).off + 1, none⟩ = some (.string ((rd_T34 l1 x5_1).f1)) ∧ w'.cell? ⟨(ad176.add ((x5_1).toNat * 3)).block, (ad176.add ((x5_1).toNat * 3)).off + 2, none⟩ = some (.string ((rd_T34 l1 x5_1).f2))) (ds := []) b9_0 (by kernel_rfl) rfl rfl ⟨((HB.out.cell (World.block_lt_of_cell? _ _ hw175_0)).trans hw175_0), ((HB.out.cell (World.block_lt_of_cell? _ _ hw175_1)).trans hw175_1), ((HB.out.cell (World.block_lt_of_cell? _ _ hw175_2)).trans hw175_2), ((HB.out.cell (World.block_lt_of_cell? _ _ hw176_0)).trans hw176_0), ((HB.out.cell (World.block_lt_of_cell? _ _ hw176_1)).trans hw176_1), ((HB.out.cell (World.block_lt_of_cell? _ _ hw176_2)).trans hw176_2)⟩ (fun hHeld => ?_); refine with_tabW laws_eqKeyS.tab6 laws_eqKeyS.bits6 (fun HT_ HW_ => ?_)
        generalize wr.drew = w9 at HB hx175_0 hx175_1 hx175_2 hx176_0 hx176_1 hx176_2 hHeld ⊢
        refine pu_ 0 (some 17) ?_ b9_1 rfl rfl HT_.out (by kernel_rfl) (fun _ _ _ h => h) (Or.inl ⟨by rfl, ?_⟩) ?_ ?_ ?_; rotate_left
        ·intro w'; go_simp; with_reducible rfl
        rotate_left
        ·simp only [Act.put, sa_, s0_, ss_, i64_w, i32_w]; rfl
        refine pu_ 1 (some 18) ?_ b9_2 rfl rfl HT_.out (by kernel_rfl) (fun _ _ _ h => h) (Or.inl ⟨by rfl, ?_⟩) ?_ ?_ ?_; rotate_left
        ·intro w'; go_simp; with_reducible rfl
        rotate_left
        ·simp only [Act.put, sa_, s0_, ss_, i64_w, i32_w]; rfl
        refine pu_ 2 (some 19) ?_ b9_3 rfl rfl HT_.out (by kernel_rfl) (fun _ _ _ h => h) (Or.inl ⟨by rfl, ?_⟩) ?_ ?_ ?_; rotate_left
        ·intro w'; go_simp; with_reducible rfl
        rotate_left
        ·simp only [Act.put, sa_, s0_, ss_, i64_w, i32_w]; rfl
        refine pu_ 4 (some 21) ?_ b9_4 rfl rfl HT_.out (by kernel_rfl) (fun _ _ _ h => h) (Or.inl ⟨by rfl, ?_⟩) ?_ ?_ ?_; rotate_left
        ·intro w'; go_simp; with_reducible rfl
        rotate_left
        ·simp only [Act.put, sa_, s0_, ss_, i64_w, i32_w]; rfl
        refine pu_ 5 (some 22) ?_ b9_5 rfl rfl HT_.out (by kernel_rfl) (fun _ _ _ h => h) (Or.inl ⟨by rfl, ?_⟩) ?_ ?_ ?_; rotate_left
        ·intro w'; go_simp; with_reducible rfl
        rotate_left
        ·simp only [Act.put, sa_, s0_, ss_, i64_w, i32_w]; rfl
        refine pu_ 6 (some 23) ?_ b9_6 rfl rfl HT_.out (by kernel_rfl) (fun _ _ _ h => h) (Or.inl ⟨by rfl, ?_⟩) ?_ ?_ ?_; rotate_left
        ·intro w'; go_simp; with_reducible rfl
        rotate_left
        ·simp only [Act.put, sa_, s0_, ss_, i64_w, i32_w]; rfl
        refine tk_ 3 (some 20) ?_ b9_7 rfl rfl HT_.out HW_.out (by kernel_rfl) (fun _ _ _ h => h) (Or.inl ⟨by rfl, ?_⟩) hHeld ?_ ?_ ?_; rotate_left
        ·rintro w' ⟨s0, s1, s2, s3, s4, s5⟩; go_simp; with_reducible rfl
        rotate_left
        ·simp only [Act.put, sa_, s0_, ss_, i64_w, i32_w]; rfl
        refine tk_ 7 (some 24) ?_ b9_8 rfl rfl HT_.out HW_.out (by kernel_rfl) (fun _ _ _ h => h) (Or.inl ⟨by rfl, ?_⟩) hHeld ?_ ?_ ?_; rotate_left
        ·rintro w' ⟨s0, s1, s2, s3, s4, s5⟩; go_simp; with_reducible rfl
        rotate_left
        ·simp only [Act.put, sa_, s0_, ss_, i64_w, i32_w]; rfl
        refine one_ (i := 8) (N := some 25) b9_9 rfl rfl (one_of HT_.out (by kernel_rfl)) (by decide) (fun K hK => ?_)
        refine gs_ Try.func23 #[.agg #[.int .i64 ((rd_T34 l0 x5_1).f0), .string ((rd_T34 l0 x5_1).f1), .string ((rd_T34 l0 x5_1).f2)], .agg #[.int .i64 ((rd_T34 l1 x5_1).f0), .string ((rd_T34 l1 x5_1).f1), .string ((rd_T34 l1 x5_1).f2)]] ?_
        with_reducible refine (laws_eqKey.calls ((rd_T34 l0 x5_1).f0) ((rd_T34 l0 x5_1).f1) ((rd_T34 l0 x5_1).f2) ((rd_T34 l1 x5_1).f0) ((rd_T34 l1 x5_1).f1) ((rd_T34 l1 x5_1).f2) true _ A7.out).mono ?_
        rintro e w10 ⟨rfl, hb⟩
        refine ⟨_, rfl, ?_⟩
        replace HB := am (below_step (bl HB.out) hb)
        (try clear hb)
        (try clear hb2)
        (try clear hk)
        (try clear hi)
        refine hK.out _ _ ⟨((HB.out.cell (World.block_lt_of_cell? _ _ hw175_0)).trans hw175_0), ((HB.out.cell (World.block_lt_of_cell? _ _ hw175_1)).trans hw175_1), ((HB.out.cell (World.block_lt_of_cell? _ _ hw175_2)).trans hw175_2), ((HB.out.cell (World.block_lt_of_cell? _ _ hw176_0)).trans hw176_0), ((HB.out.cell (World.block_lt_of_cell? _ _ hw176_1)).trans hw176_1), ((HB.out.cell (World.block_lt_of_cell? _ _ hw176_2)).trans hw176_2)⟩ (fun hHeld => ?_)
        clear hK K
        refine norm_ (a' := ?_) ?_ ?_
        rotate_left
        ·show Act.put _ (some 25) _ = _
         simp only [Act.put, sa_, s0_, ss_, i64_w, i32_w]
         rfl
        refine pu_ 9 (some 26) ?_ b9_10 rfl rfl HT_.out (by kernel_rfl) (fun _ _ _ h => h) (Or.inl ⟨by rfl, ?_⟩) ?_ ?_ ?_; rotate_left
        ·intro w'; go_simp; with_reducible rfl
        rotate_left
        ·simp only [Act.put, sa_, s0_, ss_, i64_w, i32_w]; rfl
        refine done_ (done_of HT_.out (by kernel_rfl)) ?_
        try go_wp2
        go_roundg k1
        case measure => have := HK1.out; omega
        case rel => exact ⟨(wrap64 (x5_1 + 1)), (by first | rfl | (simp; done) | (simp [*]; done)), H', ⟨by have := HK1.out; omega⟩, ⟨by repeat (first | (with_reducible first | exact HB.out | apply below_alloc | apply pw_below_drewN | apply below_drew1) | exact HB.out)⟩⟩
       ·replace c8 := Bool.eq_false_iff.mpr c8
        subst c8
        have H1 : (some false) = some r := by rw [if_neg (show ¬ (false = true) by decide)] at H; exact H
        clear H
        have H := H1
        clear H1
        obtain rfl := Option.some.inj H
        try go_wp2
        replace HB := am (below_drew1 HB.out)
        have p175 : 0 ≤ (x5_1 : Int) := of_decide_eq_true (by first | (with_reducible assumption) | assumption)
        have q175 : x5_1 < (l0.length : Int) := of_decide_eq_true (by first | (with_reducible assumption) | assumption)
        obtain ⟨ad175, e175, hx175_0, hx175_1, hx175_2⟩ := at_T34 HR0.out x5_1 p175 q175
        have hw175_2 := hx175_2
        have hw175_1 := hx175_1
        have hw175_0 := hx175_0
        cases e175
        replace hx175_0 := (HB.out.cell (World.block_lt_of_cell? w _ hx175_0)).trans hx175_0
        replace hx175_1 := (HB.out.cell (World.block_lt_of_cell? w _ hx175_1)).trans hx175_1
        replace hx175_2 := (HB.out.cell (World.block_lt_of_cell? w _ hx175_2)).trans hx175_2
        replace p175 := eq_true p175
        replace q175 := eq_true q175
        have p176 : 0 ≤ (x5_1 : Int) := of_decide_eq_true (by first | (with_reducible assumption) | assumption)
        have q176 : x5_1 < (l1.length : Int) := of_decide_eq_true (by first | (with_reducible assumption) | assumption)
        obtain ⟨ad176, e176, hx176_0, hx176_1, hx176_2⟩ := at_T34 HR1.out x5_1 p176 q176
        have hw176_2 := hx176_2
        have hw176_1 := hx176_1
        have hw176_0 := hx176_0
        cases e176
        replace hx176_0 := (HB.out.cell (World.block_lt_of_cell? w _ hx176_0)).trans hx176_0
        replace hx176_1 := (HB.out.cell (World.block_lt_of_cell? w _ hx176_1)).trans hx176_1
        replace hx176_2 := (HB.out.cell (World.block_lt_of_cell? w _ hx176_2)).trans hx176_2
        replace p176 := eq_true p176
        replace q176 := eq_true q176
        refine start_ (n := 10) (S := fun w' => w'.cell? (ad175.add ((x5_1).toNat * 3)) = some (.int .i64 ((rd_T34 l0 x5_1).f0)) ∧ w'.cell? ⟨(ad175.add ((x5_1).toNat * 3)).block, (ad175.add ((x5_1).toNat * 3)).off + 1, none⟩ = some (.string ((rd_T34 l0 x5_1).f1)) ∧ w'.cell? ⟨(ad175.add ((x5_1).toNat * 3)).block, (ad175.add ((x5_1).toNat * 3)).off + 2, none⟩ = some (.string ((rd_T34 l0 x5_1).f2)) ∧ w'.cell? (ad176.add ((x5_1).toNat * 3)) = some (.int .i64 ((rd_T34 l1 x5_1).f0)) ∧ w'.cell? ⟨(ad176.add ((x5_1).toNat * 3)).block, (ad176.add ((x5_1).toNat * 3)).off + 1, none⟩ = some (.string ((rd_T34 l1 x5_1).f1)) ∧ w'.cell? ⟨(ad176.add ((x5_1).toNat * 3)).block, (ad176.add ((x5_1).toNat * 3)).off + 2, none⟩ = some (.string ((rd_T34 l1 x5_1).f2))) (ds := []) b9_0 (by kernel_rfl) rfl rfl ⟨((HB.out.cell (World.block_lt_of_cell? _ _ hw175_0)).trans hw175_0), ((HB.out.cell (World.block_lt_of_cell? _ _ hw175_1)).trans hw175_1), ((HB.out.cell (World.block_lt_of_cell? _ _ hw175_2)).trans hw175_2), ((HB.out.cell (World.block_lt_of_cell? _ _ hw176_0)).trans hw176_0), ((HB.out.cell (World.block_lt_of_cell? _ _ hw176_1)).trans hw176_1), ((HB.out.cell (World.block_lt_of_cell? _ _ hw176_2)).trans hw176_2)⟩ (fun hHeld => ?_); refine with_tabW laws_eqKeyS.tab6 laws_eqKeyS.bits6 (fun HT_ HW_ => ?_)
        generalize wr.drew = w11 at HB hx175_0 hx175_1 hx175_2 hx176_0 hx176_1 hx176_2 hHeld ⊢
        refine pu_ 0 (some 17) ?_ b9_1 rfl rfl HT_.out (by kernel_rfl) (fun _ _ _ h => h) (Or.inl ⟨by rfl, ?_⟩) ?_ ?_ ?_; rotate_left
        ·intro w'; go_simp; with_reducible rfl
        rotate_left
        ·simp only [Act.put, sa_, s0_, ss_, i64_w, i32_w]; rfl
        refine pu_ 1 (some 18) ?_ b9_2 rfl rfl HT_.out (by kernel_rfl) (fun _ _ _ h => h) (Or.inl ⟨by rfl, ?_⟩) ?_ ?_ ?_; rotate_left
        ·intro w'; go_simp; with_reducible rfl
        rotate_left
        ·simp only [Act.put, sa_, s0_, ss_, i64_w, i32_w]; rfl
        refine pu_ 2 (some 19) ?_ b9_3 rfl rfl HT_.out (by kernel_rfl) (fun _ _ _ h => h) (Or.inl ⟨by rfl, ?_⟩) ?_ ?_ ?_; rotate_left
        ·intro w'; go_simp; with_reducible rfl
        rotate_left
        ·simp only [Act.put, sa_, s0_, ss_, i64_w, i32_w]; rfl
        refine pu_ 4 (some 21) ?_ b9_4 rfl rfl HT_.out (by kernel_rfl) (fun _ _ _ h => h) (Or.inl ⟨by rfl, ?_⟩) ?_ ?_ ?_; rotate_left
        ·intro w'; go_simp; with_reducible rfl
        rotate_left
        ·simp only [Act.put, sa_, s0_, ss_, i64_w, i32_w]; rfl
        refine pu_ 5 (some 22) ?_ b9_5 rfl rfl HT_.out (by kernel_rfl) (fun _ _ _ h => h) (Or.inl ⟨by rfl, ?_⟩) ?_ ?_ ?_; rotate_left
        ·intro w'; go_simp; with_reducible rfl
        rotate_left
        ·simp only [Act.put, sa_, s0_, ss_, i64_w, i32_w]; rfl
        refine pu_ 6 (some 23) ?_ b9_6 rfl rfl HT_.out (by kernel_rfl) (fun _ _ _ h => h) (Or.inl ⟨by rfl, ?_⟩) ?_ ?_ ?_; rotate_left
        ·intro w'; go_simp; with_reducible rfl
        rotate_left
        ·simp only [Act.put, sa_, s0_, ss_, i64_w, i32_w]; rfl
        refine tk_ 3 (some 20) ?_ b9_7 rfl rfl HT_.out HW_.out (by kernel_rfl) (fun _ _ _ h => h) (Or.inl ⟨by rfl, ?_⟩) hHeld ?_ ?_ ?_; rotate_left
        ·rintro w' ⟨s0, s1, s2, s3, s4, s5⟩; go_simp; with_reducible rfl
        rotate_left
        ·simp only [Act.put, sa_, s0_, ss_, i64_w, i32_w]; rfl
        refine tk_ 7 (some 24) ?_ b9_8 rfl rfl HT_.out HW_.out (by kernel_rfl) (fun _ _ _ h => h) (Or.inl ⟨by rfl, ?_⟩) hHeld ?_ ?_ ?_; rotate_left
        ·rintro w' ⟨s0, s1, s2, s3, s4, s5⟩; go_simp; with_reducible rfl
        rotate_left
        ·simp only [Act.put, sa_, s0_, ss_, i64_w, i32_w]; rfl
        refine one_ (i := 8) (N := some 25) b9_9 rfl rfl (one_of HT_.out (by kernel_rfl)) (by decide) (fun K hK => ?_)
        refine gs_ Try.func23 #[.agg #[.int .i64 ((rd_T34 l0 x5_1).f0), .string ((rd_T34 l0 x5_1).f1), .string ((rd_T34 l0 x5_1).f2)], .agg #[.int .i64 ((rd_T34 l1 x5_1).f0), .string ((rd_T34 l1 x5_1).f1), .string ((rd_T34 l1 x5_1).f2)]] ?_
        with_reducible refine (laws_eqKey.calls ((rd_T34 l0 x5_1).f0) ((rd_T34 l0 x5_1).f1) ((rd_T34 l0 x5_1).f2) ((rd_T34 l1 x5_1).f0) ((rd_T34 l1 x5_1).f1) ((rd_T34 l1 x5_1).f2) false _ A7.out).mono ?_
        rintro e w12 ⟨rfl, hb⟩
        refine ⟨_, rfl, ?_⟩
        replace HB := am (below_step (bl HB.out) hb)
        (try clear hb)
        (try clear hb2)
        (try clear hk)
        (try clear hi)
        refine hK.out _ _ ⟨((HB.out.cell (World.block_lt_of_cell? _ _ hw175_0)).trans hw175_0), ((HB.out.cell (World.block_lt_of_cell? _ _ hw175_1)).trans hw175_1), ((HB.out.cell (World.block_lt_of_cell? _ _ hw175_2)).trans hw175_2), ((HB.out.cell (World.block_lt_of_cell? _ _ hw176_0)).trans hw176_0), ((HB.out.cell (World.block_lt_of_cell? _ _ hw176_1)).trans hw176_1), ((HB.out.cell (World.block_lt_of_cell? _ _ hw176_2)).trans hw176_2)⟩ (fun hHeld => ?_)
        clear hK K
        refine norm_ (a' := ?_) ?_ ?_
        rotate_left
        ·show Act.put _ (some 25) _ = _
         simp only [Act.put, sa_, s0_, ss_, i64_w, i32_w]
         rfl
        refine pu_ 9 (some 26) ?_ b9_10 rfl rfl HT_.out (by kernel_rfl) (fun _ _ _ h => h) (Or.inl ⟨by rfl, ?_⟩) ?_ ?_ ?_; rotate_left
        ·intro w'; go_simp; with_reducible rfl
        rotate_left
        ·simp only [Act.put, sa_, s0_, ss_, i64_w, i32_w]; rfl
        refine done_ (done_of HT_.out (by kernel_rfl)) ?_
        try go_wp2
        go_ret
        exact ⟨by first | rfl | (simp [errW_none, errW_some] <;> rfl) | (simp [*, errW_none, errW_some] <;> rfl), by repeat (first | (with_reducible first | exact HB.out | apply below_alloc | apply pw_below_drewN | apply below_drew1) | exact HB.out)⟩
      ·rw [if_neg c6] at H
       exact absurd H (by simp)
     ·rw [if_neg c5] at H
      exact absurd H (by simp)
    ·rw [if_neg c4] at H
     have c4b0 : decide (x5_1 < (l0.length : Int)) = false := decide_eq_false c4
     clear c4
     obtain rfl := Option.some.inj H
     go_wp2
     go_ret
     exact ⟨by first | rfl | (simp [errW_none, errW_some] <;> rfl) | (simp [*, errW_none, errW_some] <;> rfl), by repeat (first | (with_reducible first | exact HB.out | apply below_alloc | apply pw_below_drewN | apply below_drew1) | exact HB.out)⟩
 ·rw [if_neg c3] at H
  have c3b0 : ((l0.length : Int) == (l1.length : Int)) = false := beq_eq_false_iff_ne.mpr c3
  have c3b1 : ((l0.length : Int) != (l1.length : Int)) = true := bne_iff_ne.mpr c3
  have c3b2 : (l0.length == l1.length) = false := by first | simpa using c3 | (simp at c3 ⊢; omega)
  obtain rfl := Option.some.inj H
  go_enter Try.func9, Try.ntmps9
  go_wp2
  go_ret
  exact ⟨by first | rfl | (simp [errW_none, errW_some] <;> rfl) | (simp [*, errW_none, errW_some] <;> rfl), by repeat (first | (with_reducible first | exact HB.out | apply below_alloc | apply pw_below_drewN | apply below_drew1) | exact HB.out)⟩

end Go.Proofs.Ytpllahncpjpfmaa.PFnExactKeyDrop
