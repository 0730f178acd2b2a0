-- Written by xprint.py (this claim's own program, over the kit's printer); Lean checks it.
import Derived.Test.YtpllahncpjpfmaaPFnExactKeyBindx0
import Derived.Test.YtpllahncpjpfmaaPFnExactKeyBindx6
import Derived.Test.YtpllahncpjpfmaaPFnExactKeyBindx7
import Derived.Test.YtpllahncpjpfmaaPFnExactKeyBindx8
namespace Go.Proofs.Ytpllahncpjpfmaa.PFnExactKeyBind
open Go.RowKit Go.Proofs.YtpllahncpjpfmaaW.PrintWords Go.Proofs.YtpllahncpjpfmaaW.PrintLast Go.Proofs.YtpllahncpjpfmaaW.PrintMore
attribute [local go_sem] max2_int min2_int max_two min_two max_three min_three max_four min_four   -- for this text's walks alone
set_option linter.unusedVariables false
set_option linter.unusedSimpArgs false   -- squeezed
set_option maxHeartbeats 8000000
set_option maxRecDepth 100000

/-! ### impl_KeyBind: function 15 -/
/-! ### rows of keys, cell by cell; copy of rows of several cells -/
def cK (x : S34) : List Value := [.int .i64 x.f0, .string x.f1, .string x.f2]
def csK : List S34 → List Value
 | [] => []
 | x :: l => cK x ++ csK l
theorem csK_len (l : List S34) : (csK l).length = l.length * 3 := by
 induction l with
 | nil => rfl
 | cons x l ih => rw [csK, List.length_append, ih, List.length_cons]; show 3 + _ = _; omega
theorem csK_app (a b : List S34) : csK (a ++ b) = csK a ++ csK b := by
 induction a with
 | nil => rfl
 | cons x a ih => rw [List.cons_append, csK, csK, ih, List.append_assoc]
theorem csK_one (l : List S34) : ∀ v ∈ csK l, v.oneCell' = true := by
 induction l with
 | nil => intro v h; exact absurd h List.not_mem_nil
 | cons x l ih =>
  intro v h
  rcases List.mem_append.1 h with h | h
  · simp only [cK, List.mem_cons, List.not_mem_nil, or_false] at h
    rcases h with rfl | rfl | rfl <;> rfl
  · exact ih v h
theorem csK_of (l : List S34) : ∀ (inner : List Value), inner.length = l.length * 3 → (∀ (j : Nat) p, l[j]? = some p → (inner.drop (j * 3)).take 3 = cK p) → inner = csK l := by
 induction l with
 | nil => intro inner h _; exact List.eq_nil_of_length_eq_zero (by simpa using h)
 | cons x l ih =>
  intro inner h hr
  have h0 := hr 0 x rfl
  rw [Nat.zero_mul, List.drop_zero] at h0
  rw [List.length_cons] at h
  have h1 := ih (inner.drop 3) (by rw [List.length_drop]; omega) (fun j p hj => by
   have := hr (j + 1) p hj
   rw [List.drop_drop, show 3 + j * 3 = (j + 1) * 3 by omega]
   exact this)
  rw [csK, ← h0, ← h1, List.take_append_drop]
theorem csK_take (l : List S34) (i : Nat) : (csK l).take (i * 3) = csK (l.take i) := by
 rcases Nat.lt_or_ge l.length i with h | h
 · rw [List.take_of_length_le (by rw [csK_len]; omega), List.take_of_length_le (by omega)]
 · have := congrArg csK (List.take_append_drop i l)
   rw [csK_app] at this
   rw [← this, List.take_append_of_le_length (by rw [csK_len, List.length_take]; omega), List.take_of_length_le (by rw [csK_len, List.length_take]; omega)]
theorem csK_drop (l : List S34) (i : Nat) (h : i ≤ l.length) : (csK l).drop (i * 3) = csK (l.drop i) := by
 have := congrArg csK (List.take_append_drop i l)
 rw [csK_app] at this
 rw [← this, List.drop_append_of_le_length (by rw [csK_len, List.length_take]; omega), List.drop_of_length_le (by rw [csK_len, List.length_take]; omega), List.nil_append]
theorem rowK_of {w : World} {base : Nat} {ok : Nat → Prop} {g n cap : Nat} {xs : List S34} (h : Kd.R k34 34 w base ok (.slice (some ⟨g, 0, none⟩) n cap) xs) : ∃ cur, w.heap[g]? = some (.cells cur 34 (0, 0)) ∧ base ≤ g ∧ n = xs.length ∧ n ≤ cap ∧ cap ≤ maxLen ∧ cur.size = cap * 3 ∧ cur.toList.take (n * 3) = csK xs ∧ ok g := by
 obtain ⟨hn, _, _⟩ := Kd.R_reads' h
 obtain ⟨hok, inner, ⟨ho1, ho2⟩, hr⟩ := h
 rcases ho2 with ⟨hv, _⟩ | ⟨g', cap', cur, hv, hb, hh, hnc', hcm, hcs, ht⟩
 · cases hv
 have hv0 := hv
 injection hv0 with ha _ hc
 injection ha with ha
 injection ha with hg
 subst hg; subst hc
 refine ⟨cur, hh, hb, hn, by omega, hcm, hcs, ?_, hok g (by simp [Value.ownBlock])⟩
 have he : inner = csK xs := csK_of xs inner hr.1 (fun j p hj => k34_openM (hr.2 j p hj))
 rw [← he, ← ht, hn]
 rfl
theorem rowK_mk {w : World} {base : Nat} {ok : Nat → Prop} {g cap : Nat} {xs : List S34} {cur : Array Value} (hh : w.heap[g]? = some (.cells cur 34 (0, 0))) (hb : base ≤ g) (hn : xs.length ≤ cap) (hm : cap ≤ maxLen) (hs : cur.size = cap * 3) (ht : cur.toList.take (xs.length * 3) = csK xs) (hok : ok g) : Kd.R k34 34 w base ok (.slice (some ⟨g, 0, none⟩) xs.length cap) xs := by
 refine ⟨fun k hk => ?_, csK xs, ⟨csK_len xs, .inr ⟨g, cap, cur, rfl, hb, hh, hn, hm, hs, ht⟩⟩, csK_len xs, fun j p hj => ?_⟩
 · have : g = k := by simpa [Value.ownBlock] using hk
   rw [← this]; exact hok
 · obtain ⟨hj1, hj2⟩ := List.getElem?_eq_some_iff.1 hj
   have e : ((csK xs).drop (j * 3)).take 3 = cK p := by
    rw [csK_drop xs j (by omega), List.drop_eq_getElem_cons hj1, hj2]
    rfl
   show k34.M w base _ p (((csK xs).drop (j * 3)).take 3)
   rw [e]
   exact k34_mkM _ _ _ p
theorem run_copy_k_ {P : Program} (w : World) (dT sT ty elem : TypeId) (b o dLen dCap : Nat) (a : Addr) (sLen sCap sz : Nat) (cs : List Value) (hu : P.underlying dT = some (.slice elem)) (hs : (P.info? elem).map (·.size) = some sz) (hn : cs.length = Nat.min sLen dLen * sz)
    (hsrc : ∀ j v, cs[j]? = some v → w.cell? (a.add j) = some v) (hc : ∀ j, j < cs.length → (w.cell? ⟨b, o + j, none⟩).isSome = true) (hf : ∀ j, j < cs.length → w.frozen? ⟨b, o + j, none⟩ = false) (h1 : ∀ v ∈ cs, v.oneCell' = true) :
    (Builtin.copy_ #[dT, sT] ty #[.slice (some ⟨b, o, none⟩) dLen dCap, .slice (some a) sLen sCap]).run P w = .ok (goInt (Nat.min sLen dLen)) (w.setCells b o cs) := by
 have hl := run_loadCells_list (P := P) w a cs hsrc
 have hst := run_storeCells_cells (P := P) b o cs 0 w (by simpa using hc) (by simpa using hf) h1
 simp only [Nat.add_zero] at hst
 cases hq : P.info? elem with
 | none => simp [hq] at hs
 | some i =>
  have hi : i.size = sz := by simpa [hq] using hs
  simp [Builtin.copy_, run_underlying hu, Builtin.lenOf, Builtin.firstCells, sizeOf, typeInfo, hq, hi, ← hn, hl, hst]
theorem below_setCells2_ {w W : World} {g : Nat} (h : Below w.heap.size w W) (hg : w.heap.size ≤ g) : ∀ (o : Nat) (vs : List Value), Below w.heap.size w (W.setCells g o vs) := by
 intro o vs
 induction vs generalizing o W with
 | nil => exact h
 | cons v r ih => rw [World.setCells]; exact ih (below_set h hg) (o + 1)
theorem setCells_heap_ {g : Nat} : ∀ (vs : List Value) (o : Nat) (W W' : World), W.heap = W'.heap → (W.setCells g o vs).heap = (W'.setCells g o vs).heap
 | [], _, _, _, h => h
 | v :: r, o, W, W', h => by
  rw [World.setCells, World.setCells]
  exact setCells_heap_ r (o + 1) _ _ (by simp only [World.setCell, h])
theorem slices_Insert_K.atEnd (P : Nat → Prop) (u : Value) (l0 : List S34) (y : S34) (vb vc : Nat) (w0 w : World) (hB : Below w0.heap.size w0 w) (ho : Kd.R k34 34 w w0.heap.size P u l0) (hv : Kd.C k34 w (some ⟨vb, 0, none⟩) 1 [y]) (hfr : ∀ k, w.heap.size ≤ k → P k) (hl : l0.length ≤ 1000) :
  Calls Try.prog 29 #[u, .int .i64 (l0.length : Int), .slice (some ⟨vb, 0, none⟩) 1 vc] w fun e w' => ∃ v, e = .returned v ∧ Kd.R k34 34 w' w0.heap.size P v (l0 ++ [y]) ∧ Below w0.heap.size w0 w' := by
 have hu34 := Try.underlying34
 obtain ⟨A, c, rfl, hAc, hC⟩ := Kd.R_reads ho
 have HO := am ho
 have HV := am hv
 have HF := am hfr
 have HL := am hl
 have HB := am hB
 clear hC ho hv hfr hl hB
 have p0 : (0 ≤ (l0.length : Int)) = True := eq_true (by omega)
 go_enter Try.func29, Try.ntmps29
 go_wp2_with (first | ((with_reducible refine gate_builtin (b := .append) (xs := #[.tmp 23, .tmp 24]) rfl ?_); at_builtin; refine Kd.R_append_rows k34 (w0 := w0) w0.heap.size rfl (.tmp 23) (.tmp 24) 24 34 (.agg #[(.int .i64 0), (.string ⟨#[]⟩), (.string ⟨#[]⟩)]) 40 rfl Try.underlying24 info34 rfl (by decide) (by omega) _ l0 [y] _ _ _ P (fun _ => False) rfl rfl HO.out HV.out (fun _ _ h => h) (fun _ h => h.elim) HF.out HB.out HB.out.size (by have := HL.out; omega) ?_; intro v1 w1 ho1 hb1 hg1 hat1))
 all_goals
  go_ret
  exact ⟨_, rfl, ho1, hb1⟩
theorem cellK {w : World} {base : Nat} {ok : Nat → Prop} {g n cap : Nat} {xs : List S34} (h : Kd.R k34 34 w base ok (.slice (some ⟨g, 0, none⟩) n cap) xs) : ∀ (j : Nat) v, (csK xs)[j]? = some v → w.cell? ⟨g, j, none⟩ = some v := by
 intro j v hj
 obtain ⟨cur, hh, _, _, _, _, _, ht, _⟩ := rowK_of h
 rw [cell_of_row w g _ cur 34 (0, 0) hh]
 rw [← ht, List.getElem?_take] at hj
 split at hj
 · rw [Array.getElem?_toList] at hj; exact hj
 · cases hj
theorem twoK (L X Y Z : List Value) (a : Nat) (h : L.take a = X) (ha : a ≤ L.length) (hf : a + Y.length + Z.length ≤ L.length) : (((L.take a ++ Y ++ L.drop (a + Y.length)).take (a + Y.length) ++ Z ++ (L.take a ++ Y ++ L.drop (a + Y.length)).drop (a + Y.length + Z.length)).take (a + Y.length + Z.length)) = X ++ Y ++ Z := by
 have hx : X.length = a := by rw [← h, List.length_take]; omega
 have h1 : (L.take a ++ Y ++ L.drop (a + Y.length)).take (a + Y.length) = X ++ Y := by
  rw [h, List.take_append_of_le_length (by rw [List.length_append]; omega), List.take_of_length_le (by rw [List.length_append]; omega)]
 rw [h1, List.take_append_of_le_length (by simp only [List.length_append]; omega), List.take_of_length_le (by simp only [List.length_append]; omega)]
theorem insK (l : List S34) (i : Nat) (y : S34) : csK (l.take i ++ y :: l.drop i) = csK (l.take i) ++ cK y ++ csK (l.drop i) := by
 rw [csK_app, csK, List.append_assoc]
theorem slices_Insert_K.grow (P : Nat → Prop) (g c : Nat) (l0 : List S34) (i : Nat) (y : S34) (vb vc : Nat) (w0 w : World) (hB : Below w0.heap.size w0 w) (ho : Kd.R k34 34 w w0.heap.size P (.slice (some ⟨g, 0, none⟩) l0.length c) l0) (hv : Kd.R k34 34 w w0.heap.size (fun _ => True) (.slice (some ⟨vb, 0, none⟩) 1 vc) [y]) (hfr : ∀ k, w.heap.size ≤ k → P k) (hi : i < l0.length) (hl : l0.length ≤ 1000) (hroom : c < l0.length + 1) :
  Calls Try.prog 29 #[.slice (some ⟨g, 0, none⟩) l0.length c, .int .i64 (i : Int), .slice (some ⟨vb, 0, none⟩) 1 vc] w fun e w' => ∃ v, e = .returned v ∧ Kd.R k34 34 w' w0.heap.size P v (l0.take i ++ y :: l0.drop i) ∧ Below w0.heap.size w0 w' := by
 have hu34 := Try.underlying34
 obtain ⟨cur, hh, hbg, -, hnc, hcm, hcs, hct, hPg⟩ := rowK_of ho
 obtain ⟨curv, hhv, -⟩ := rowK_of hv
 have hgw : g < w.heap.size := blk_lt hh
 have hvw : vb < w.heap.size := blk_lt hhv
 have hco := cellK ho
 have hcv := cellK hv
 obtain ⟨n, hn⟩ : ∃ n, n = l0.length := ⟨_, rfl⟩
 rw [← hn] at hi hl hroom hnc hct ho ⊢
 obtain ⟨i0, hi0, hzz⟩ := Option.map_eq_some_iff.1 info34
 simp only [Prod.mk.injEq] at hzz
 obtain ⟨hz0, hzs, hzb⟩ := hzz
 have hsz : (Try.prog.info? 34).map (·.size) = some 3 := by rw [hi0]; simp [hzs]
 have hold : (Builtin.firstCells i0.size i (.slice (some ⟨g, 0, none⟩) i c)).run Try.prog w.drew = .ok (csK (l0.take i)).toArray w.drew := by
  rw [hzs]
  exact run_firstCells_some w.drew 3 i ⟨g, 0, none⟩ i c (csK (l0.take i)) (by rw [csK_len, List.length_take]; omega) (fun j v hj => by
   rw [Addr.add_lit, Nat.zero_add]
   rw [← csK_take, List.getElem?_take] at hj
   split at hj
   · exact hco j v hj
   · cases hj)
 have hrz : ∀ ty, (Builtin.append_ #[24, 3] ty #[.slice (some ⟨g, 0, none⟩) i c, .int .i64 ((n : Int) + 1 - (i : Int))]).run Try.prog w =
   .ok (.slice (some ⟨w.heap.size, 0, none⟩) (n + 1) (grownCap w (n + 1) c 34)) (w.drew.alloc (.cells ((csK (l0.take i)).toArray ++ Builtin.zeroCells (Value.agg #[(.int .i64 0), (.string ⟨#[]⟩), (.string ⟨#[]⟩)]).cells (n + 1 - i) ++ Builtin.zeroCells (Value.agg #[(.int .i64 0), (.string ⟨#[]⟩), (.string ⟨#[]⟩)]).cells (grownCap w (n + 1) c 34 - (n + 1))) 34)) := fun ty => by
  have h := Lib.run_append_grow_zeros w 24 3 ty 34 i0 _ .i64 .i64 Try.underlying24 Try.underlying3 hi0 hz0 (some ⟨g, 0, none⟩) i c (csK (l0.take i)) hold (n + 1 - i) (by omega) (by omega) (by omega) (by omega) (by rw [hzb]; omega) (by rw [hzb, show i + (n + 1 - i) = n + 1 by omega]; exact growslice_fits hroom (by omega))
  rw [show i + (n + 1 - i) = n + 1 by omega] at h
  rw [show (n : Int) + 1 - (i : Int) = ((n + 1 - i : Nat) : Int) by omega]
  exact h
 obtain ⟨G, hG⟩ : ∃ G, G = grownCap w (n + 1) c 34 := ⟨_, rfl⟩
 obtain ⟨ROW, hROW⟩ : ∃ ROW : Array Value, ROW = (csK (l0.take i)).toArray ++ Builtin.zeroCells (Value.agg #[(.int .i64 0), (.string ⟨#[]⟩), (.string ⟨#[]⟩)]).cells (n + 1 - i) ++ Builtin.zeroCells (Value.agg #[(.int .i64 0), (.string ⟨#[]⟩), (.string ⟨#[]⟩)]).cells (G - (n + 1)) := ⟨_, rfl⟩
 rw [← hG] at hrz
 rw [← hROW] at hrz
 have hGn : n + 1 ≤ G := by rw [hG]; exact grownCap_ge w _ _ _
 have hGm : G ≤ maxLen := by rw [hG]; exact grownCap_le_maxLen w (n + 1) c 34 (by unfold maxLen; omega)
 have hG63 : G ≤ 9223372036854775807 := by unfold maxLen at hGm; exact hGm
 have hRl : ROW.size = G * 3 := by
  rw [hROW, Array.size_append, Array.size_append, List.size_toArray, csK_len, size_zeroCells, size_zeroCells, List.length_take]
  show min i l0.length * 3 + (n + 1 - i) * 3 + (G - (n + 1)) * 3 = G * 3
  omega
 have hRt : ROW.toList.take (i * 3) = csK (l0.take i) := by
  rw [hROW]
  simp only [Array.toList_append, List.append_assoc]
  rw [List.take_append_of_le_length (by rw [csK_len, List.length_take]; omega), List.take_of_length_le (by rw [csK_len, List.length_take]; omega)]
 have hN : ∀ (W : World), (W.heap[w.heap.size]? = some (.cells ROW 34 (0, 0))) → ∀ j, j < G * 3 → (W.cell? ⟨w.heap.size, j, none⟩).isSome = true := fun W h j hj => by
  rw [cell_of_row W _ _ ROW 34 (0, 0) h, Array.getElem?_eq_getElem (by omega)]; rfl
 obtain ⟨W1, hW1⟩ : ∃ W1, W1 = w.drew.alloc (.cells ROW 34) := ⟨_, rfl⟩
 rw [← hW1] at hrz
 have hWN : W1.heap[w.heap.size]? = some (.cells ROW 34 (0, 0)) := by rw [hW1]; exact blk_new w.drew _
 have hWo : ∀ k, k < w.heap.size → W1.heap[k]? = w.heap[k]? := fun k hk => by
  rw [hW1]
  show (w.heap.push _)[k]? = _
  rw [Array.getElem?_push, if_neg (by omega)]
 have hbW : Below w.heap.size w W1 := by rw [hW1]; exact below_alloc (below_drew1 (Below.refl _ _)) _
 have cellW : ∀ (W : World) (b j : Nat) (v : Value), W.heap = W1.heap → b < w.heap.size → w.cell? ⟨b, j, none⟩ = some v → W.cell? ⟨b, j, none⟩ = some v := fun W b j v hW hb h => by
  rw [← h]
  simp only [World.cell?, hW, hWo b hb]
 have hcpA : ∀ (W : World), W.heap = W1.heap → ∀ ty dc, (Builtin.copy_ #[24, 24] ty #[.slice (some ⟨w.heap.size, i * 3, none⟩) (n + 1 - i) dc, .slice (some ⟨vb, 0, none⟩) 1 vc]).run Try.prog W = .ok (goInt (Nat.min 1 (n + 1 - i))) (W.setCells w.heap.size (i * 3) (cK y)) := fun W hW ty dc =>
  run_copy_k_ W 24 24 ty 34 w.heap.size (i * 3) (n + 1 - i) dc ⟨vb, 0, none⟩ 1 vc 3 (cK y) Try.underlying24 hsz (by rw [show Nat.min 1 (n + 1 - i) = 1 by simp only [Nat.min_def]; split <;> omega]; rfl)
   (fun j v hj => by rw [Addr.add_lit, Nat.zero_add]; exact cellW W vb j v hW hvw (hcv j v (by rw [show csK [y] = cK y from List.append_nil _]; exact hj)))
   (fun j hj => by have hj : j < 3 := hj; exact hN W (by rw [hW]; exact hWN) _ (by omega)) (fun j _ => blk_frozen (show W.heap[w.heap.size]? = some (.cells ROW 34 (0, 0)) by rw [hW]; exact hWN) _) (fun v hv => csK_one [y] v (by rw [show csK [y] = cK y from List.append_nil _]; exact hv))
 obtain ⟨ROW2, hR2, hR2s, hR2t⟩ := setCells_row (cK y) (i * 3) W1 ROW hWN (by show i * 3 + 3 ≤ _; omega)
 have hdl : (csK (l0.drop i)).length = (n - i) * 3 := by rw [csK_len, List.length_drop, hn]
 have hcpB : ∀ (W : World), W.heap = (W1.setCells w.heap.size (i * 3) (cK y)).heap → ∀ ty dc sc, (Builtin.copy_ #[24, 24] ty #[.slice (some ⟨w.heap.size, (i + 1) * 3, none⟩) (n + 1 - (i + 1)) dc, .slice (some ⟨g, i * 3, none⟩) (n - i) sc]).run Try.prog W = .ok (goInt (Nat.min (n - i) (n + 1 - (i + 1)))) (W.setCells w.heap.size ((i + 1) * 3) (csK (l0.drop i))) := fun W hW ty dc sc => by
  have hR2' : W.heap[w.heap.size]? = some (.cells ROW2 34 (0, 0)) := by rw [hW]; exact hR2
  exact run_copy_k_ W 24 24 ty 34 w.heap.size ((i + 1) * 3) (n + 1 - (i + 1)) dc ⟨g, i * 3, none⟩ (n - i) sc 3 (csK (l0.drop i)) Try.underlying24 hsz (by rw [hdl, show Nat.min (n - i) (n + 1 - (i + 1)) = n - i by simp only [Nat.min_def]; split <;> omega])
   (fun j v hj => by
    rw [Addr.add_lit]
    have h1 : w.cell? ⟨g, i * 3 + j, none⟩ = some v := hco (i * 3 + j) v (by rw [← csK_drop l0 i (by omega), List.getElem?_drop] at hj; exact hj)
    rw [← h1]
    simp only [World.cell?, hW, setCells_far _ _ g (show g ≠ w.heap.size by omega), hWo g hgw])
   (fun j hj => by rw [hdl] at hj; rw [cell_of_row W _ _ ROW2 34 (0, 0) hR2', Array.getElem?_eq_getElem (by omega)]; rfl) (fun j _ => blk_frozen hR2' _) (csK_one _)
 have hfin : ∀ (W : World), W.heap = ((W1.setCells w.heap.size (i * 3) (cK y)).setCells w.heap.size ((i + 1) * 3) (csK (l0.drop i))).heap → Kd.R k34 34 W w0.heap.size P (.slice (some ⟨w.heap.size, 0, none⟩) (n + 1) G) (l0.take i ++ y :: l0.drop i) := fun W hW => by
  obtain ⟨ROW3, hR3, hR3s, hR3t⟩ := setCells_row (csK (l0.drop i)) ((i + 1) * 3) (W1.setCells w.heap.size (i * 3) (cK y)) ROW2 hR2 (by rw [hdl]; omega)
  have hlen : (l0.take i ++ y :: l0.drop i).length = n + 1 := by rw [List.length_append, List.length_take, List.length_cons, List.length_drop]; omega
  rw [← hlen]
  refine rowK_mk (by rw [hW]; exact hR3) hB.size (by omega) hGm (by omega) ?_ (hfr _ (Nat.le_refl _))
  rw [hlen, hR3t, hR2t, insK]
  have := twoK ROW.toList (csK (l0.take i)) (cK y) (csK (l0.drop i)) (i * 3) hRt (by rw [Array.length_toList]; omega) (by rw [show (cK y).length = 3 from rfl, hdl, Array.length_toList, hRl]; omega)
  rw [hdl] at this
  rw [hdl]
  have e1 : i * 3 + (cK y).length = (i + 1) * 3 := by show i * 3 + 3 = _; omega
  rw [e1] at this ⊢
  rw [show (n + 1) * 3 = (i + 1) * 3 + (n - i) * 3 by omega]
  exact this
 have hbf : ∀ (W : World), Below w.heap.size w W → Below w0.heap.size w0 W := fun W h => below_step hB h
 have hw1 : IntKind.i64.wrap ((i : Int) + 1) = (i : Int) + 1 := by rw [IntKind.wrap_i64]; omega
 have hw2 : IntKind.i64.wrap ((n : Int) + 1) = (n : Int) + 1 := by rw [IntKind.wrap_i64]; omega
 have hb1 : (0 : Int) ≤ (i : Int) + 1 := by omega
 have htn : ((i : Int) + 1).toNat = i + 1 := by omega
 have hGi : ¬ (G = i) := by omega
 have hGim : ¬ (G = i + 1) := by omega
 have hci : ¬ (c = i) := by omega
 have hb3 : (i : Int) ≤ (n : Int) := by omega
 have hin : i ≤ n := by omega
 have hne : ¬ ((i : Int) = (n : Int)) := by omega
 have HFIN := am hfin
 have HNN := am hn
 have HBF := am hbf
 have HBW := am hbW
 subst hW1
 clear hfin hbf hbW hG hGm hROW hRl hRt hN hWN hWo cellW hR2 hR2s hR2t hdl hold hi0 hz0 hzs hzb hco hcv hct hcs hcm hh hhv ho hv hfr hsz hB hn
 have mixed : Try.prog.follows .mixedOrders = true := by kernel_rfl
 have hE1 : ((w.alloc (.cells ROW 34)).drew).heap = (w.drew.alloc (.cells ROW 34)).heap := rfl
 have hF1 : (((w.alloc (.cells ROW 34)).drew.setCells w.heap.size (i * 3) (cK y)).drew).heap = ((w.drew.alloc (.cells ROW 34)).setCells w.heap.size (i * 3) (cK y)).heap := rfl
 go_enter Try.func29, Try.ntmps29
 go_wp2_with (first
   | (at_builtin; refine Lib.wpList_append_run _ rfl _ _ _ _ rfl _ _ rfl rfl _ _ (hrz _) ?_)
   | (at_builtin; refine wpList_copy_runI _ rfl _ _ 24 24 rfl _ _ rfl rfl (hcpA _ hE1 _ _) ?_))
 go_region_law_o (refine step_copy_runI rfl _ _ 24 24 rfl (.slice (some ⟨w.heap.size, (i + 1) * 3, none⟩) (n + 1 - (i + 1)) (G - (i + 1))) (.slice (some ⟨g, i * 3, none⟩) (n - i) (c - i)) (by simp [Act.eval, Act.put]) (by simp [Act.eval, Act.put]) (hcpB _ hF1 3 (G - (i + 1)) (c - i)) ?_)
 go_wp2
 go_ret
 exact ⟨_, rfl, HFIN.out _ (setCells_heap_ _ _ _ _ (setCells_heap_ _ _ _ _ rfl)), HBF.out _ (by repeat (first | exact Below.refl _ _ | refine below_setCells2_ ?_ (Nat.le_refl _) _ _ | apply below_drew1 | apply below_alloc))⟩
theorem slices_Insert_K.shift (P : Nat → Prop) (g c : Nat) (l0 : List S34) (i : Nat) (y : S34) (vb vc : Nat) (w0 w : World) (hB : Below w0.heap.size w0 w) (ho : Kd.R k34 34 w w0.heap.size P (.slice (some ⟨g, 0, none⟩) l0.length c) l0) (hv : Kd.R k34 34 w w0.heap.size (fun _ => True) (.slice (some ⟨vb, 0, none⟩) 1 vc) [y]) (hvg : vb ≠ g) (hi : i < l0.length) (hl : l0.length ≤ 1000) (hroom : l0.length + 1 ≤ c) :
  Calls Try.prog 29 #[.slice (some ⟨g, 0, none⟩) l0.length c, .int .i64 (i : Int), .slice (some ⟨vb, 0, none⟩) 1 vc] w fun e w' => ∃ v, e = .returned v ∧ Kd.R k34 34 w' w0.heap.size P v (l0.take i ++ y :: l0.drop i) ∧ Below w0.heap.size w0 w' := by
 have hu34 := Try.underlying34
 obtain ⟨cur, hh, hbg, -, hnc, hcm, hcs, hct, hPg⟩ := rowK_of ho
 obtain ⟨curv, hhv, -⟩ := rowK_of hv
 have hgw : g < w.heap.size := blk_lt hh
 have hvw : vb < w.heap.size := blk_lt hhv
 have hco := cellK ho
 have hcv := cellK hv
 obtain ⟨n, hn⟩ : ∃ n, n = l0.length := ⟨_, rfl⟩
 rw [← hn] at hi hl hroom hnc hct ho ⊢
 obtain ⟨i0, hi0, hzz⟩ := Option.map_eq_some_iff.1 info34
 simp only [Prod.mk.injEq] at hzz
 obtain ⟨hz0, hzs, hzb⟩ := hzz
 have hsz : (Try.prog.info? 34).map (·.size) = some 3 := by rw [hi0]; simp [hzs]
 have hc63 : c ≤ 9223372036854775807 := by unfold maxLen at hcm; exact hcm
 have hov : ∀ lb cb, (callFunc 39 #[.slice (some ⟨vb, 0, none⟩) 1 vc, .slice (some ⟨g, (i + 1) * 3, none⟩) lb cb]).run Try.prog w = .ok (.value (.bool false)) w := fun lb cb => by
  rw [run_callFunc_extern Try.func39 (by kernel_rfl) (by kernel_rfl) (by kernel_rfl) (e := Extern.SlicesOverlaps.overlaps #[24, 24] #[4]) (by kernel_rfl),
   Lib.run_overlaps_apart w 24 4 34 Try.underlying24 3 (fun W => by simp [sizeOf, typeInfo, hi0, hzs]) ⟨vb, 0, none⟩ ⟨g, (i + 1) * 3, none⟩ 1 vc lb cb hvg 34 34 curv.size cur.size (by simp [World.shape?, hhv]) (by simp [World.shape?, hh]) (by omega) (blk_frozen hhv _) (blk_frozen hhv _)]
  rfl
 have hdl : (csK (l0.drop i)).length = (n - i) * 3 := by rw [csK_len, List.length_drop, hn]
 have hcp1 : ∀ (W : World), W.heap = w.heap → ∀ ty dc sc, (Builtin.copy_ #[24, 24] ty #[.slice (some ⟨g, (i + 1) * 3, none⟩) (n + 1 - (i + 1)) dc, .slice (some ⟨g, i * 3, none⟩) (n + 1 - i) sc]).run Try.prog W = .ok (goInt (Nat.min (n + 1 - i) (n + 1 - (i + 1)))) (W.setCells g ((i + 1) * 3) (csK (l0.drop i))) := fun W hW ty dc sc => by
  have hh' : W.heap[g]? = some (.cells cur 34 (0, 0)) := by rw [hW]; exact hh
  exact run_copy_k_ W 24 24 ty 34 g ((i + 1) * 3) (n + 1 - (i + 1)) dc ⟨g, i * 3, none⟩ (n + 1 - i) sc 3 (csK (l0.drop i)) Try.underlying24 hsz (by rw [hdl, show Nat.min (n + 1 - i) (n + 1 - (i + 1)) = n - i by simp only [Nat.min_def]; split <;> omega])
   (fun j v hj => by
    rw [Addr.add_lit]
    have h1 : w.cell? ⟨g, i * 3 + j, none⟩ = some v := hco (i * 3 + j) v (by rw [← csK_drop l0 i (by omega), List.getElem?_drop] at hj; exact hj)
    rw [← h1]
    simp only [World.cell?, hW])
   (fun j hj => by rw [hdl] at hj; rw [cell_of_row W _ _ cur 34 (0, 0) hh', Array.getElem?_eq_getElem (by omega)]; rfl) (fun j _ => blk_frozen hh' _) (csK_one _)
 obtain ⟨ROW2, hR2, hR2s, hR2t⟩ := setCells_row (csK (l0.drop i)) ((i + 1) * 3) w cur hh (by rw [hdl]; omega)
 have hcp2 : ∀ (W : World), W.heap = (w.setCells g ((i + 1) * 3) (csK (l0.drop i))).heap → ∀ ty dc, (Builtin.copy_ #[24, 24] ty #[.slice (some ⟨g, i * 3, none⟩) (n + 1 - i) dc, .slice (some ⟨vb, 0, none⟩) 1 vc]).run Try.prog W = .ok (goInt (Nat.min 1 (n + 1 - i))) (W.setCells g (i * 3) (cK y)) := fun W hW ty dc => by
  have hR2' : W.heap[g]? = some (.cells ROW2 34 (0, 0)) := by rw [hW]; exact hR2
  exact run_copy_k_ W 24 24 ty 34 g (i * 3) (n + 1 - i) dc ⟨vb, 0, none⟩ 1 vc 3 (cK y) Try.underlying24 hsz (by rw [show Nat.min 1 (n + 1 - i) = 1 by simp only [Nat.min_def]; split <;> omega]; rfl)
   (fun j v hj => by
    rw [Addr.add_lit, Nat.zero_add]
    have h1 : w.cell? ⟨vb, j, none⟩ = some v := hcv j v (by rw [show csK [y] = cK y from List.append_nil _]; exact hj)
    rw [← h1]
    simp only [World.cell?, hW, setCells_far _ _ vb hvg])
   (fun j hj => by have hj : j < 3 := hj; rw [cell_of_row W _ _ ROW2 34 (0, 0) hR2', Array.getElem?_eq_getElem (by omega)]; rfl) (fun j _ => blk_frozen hR2' _) (fun v hv => csK_one [y] v (by rw [show csK [y] = cK y from List.append_nil _]; exact hv))
 have hfin : ∀ (W : World), W.heap = ((w.setCells g ((i + 1) * 3) (csK (l0.drop i))).setCells g (i * 3) (cK y)).heap → Kd.R k34 34 W w0.heap.size P (.slice (some ⟨g, 0, none⟩) (n + 1) c) (l0.take i ++ y :: l0.drop i) := fun W hW => by
  obtain ⟨ROW3, hR3, hR3s, hR3t⟩ := setCells_row (cK y) (i * 3) (w.setCells g ((i + 1) * 3) (csK (l0.drop i))) ROW2 hR2 (by show i * 3 + 3 ≤ _; omega)
  have hlen : (l0.take i ++ y :: l0.drop i).length = n + 1 := by rw [List.length_append, List.length_take, List.length_cons, List.length_drop]; omega
  rw [← hlen]
  refine rowK_mk (by rw [hW]; exact hR3) hbg (by omega) hcm (by omega) ?_ hPg
  have hcl : cur.toList.length = c * 3 := by rw [Array.length_toList]; exact hcs
  have h2l : ROW2.toList.length = c * 3 := by rw [Array.length_toList, hR2s]; exact hcs
  have ct : cur.toList.take (i * 3) = csK (l0.take i) := by rw [← csK_take, ← hct, List.take_take, Nat.min_eq_left (by omega)]
  have e3 : (cK y).length = 3 := rfl
  rw [hlen, hR3t, insK]
  have t2 : ROW2.toList.take (i * 3) = csK (l0.take i) := by
   rw [hR2t, List.append_assoc, List.take_append_of_le_length (by rw [List.length_take]; omega), List.take_take, Nat.min_eq_left (by omega), ct]
  have d2 : ROW2.toList.drop (i * 3 + (cK y).length) = csK (l0.drop i) ++ cur.toList.drop ((i + 1) * 3 + (csK (l0.drop i)).length) := by
   rw [hR2t, e3, List.append_assoc, List.drop_append_of_le_length (by rw [List.length_take]; omega), List.drop_of_length_le (by rw [List.length_take]; omega), List.nil_append]
  rw [t2, d2, show (n + 1) * 3 = i * 3 + 3 + (n - i) * 3 by omega, ← List.append_assoc, List.take_append_of_le_length (by simp only [List.length_append]; rw [csK_len, hdl, e3, List.length_take]; omega), List.take_of_length_le (by simp only [List.length_append]; rw [csK_len, hdl, e3, List.length_take]; omega)]
 have HB := am hB
 have HG := am hbg
 have hw1 : IntKind.i64.wrap ((i : Int) + 1) = (i : Int) + 1 := by rw [IntKind.wrap_i64]; omega
 have hw2 : IntKind.i64.wrap ((n : Int) + 1) = (n : Int) + 1 := by rw [IntKind.wrap_i64]; omega
 have hb1 : (0 : Int) ≤ (i : Int) + 1 := by omega
 have htn : ((i : Int) + 1).toNat = i + 1 := by omega
 have hcim : ¬ (c = i + 1) := by omega
 have hci : ¬ (c = i) := by omega
 have hb3 : (i : Int) ≤ (n : Int) := by omega
 have hb4 : (i : Int) ≤ (n : Int) + 1 := by omega
 have hin : i ≤ n := by omega
 have hne : ¬ ((i : Int) = (n : Int)) := by omega
 have HFIN := am hfin
 have mixed : Try.prog.follows .mixedOrders = true := by kernel_rfl
 have hE1 : w.drew.heap = w.heap := rfl
 have hF1 : (w.drew.setCells g ((i + 1) * 3) (csK (l0.drop i))).heap = (w.setCells g ((i + 1) * 3) (csK (l0.drop i))).heap := setCells_heap_ _ _ _ _ rfl
 clear hfin hR2 hR2s hR2t hdl hi0 hz0 hzs hzb hco hcv hct hcs hcm hh hhv ho hv hsz hB hn hbg
 go_enter Try.func29, Try.ntmps29
 go_wp2_with (simp only [hov])
 go_region_law_o (refine step_copy_runI rfl _ _ 24 24 rfl (.slice (some ⟨g, (i + 1) * 3, none⟩) (n + 1 - (i + 1)) (c - (i + 1))) (.slice (some ⟨g, i * 3, none⟩) (n + 1 - i) (c - i)) (by simp [Act.eval, Act.put]) (by simp [Act.eval, Act.put]) (hcp1 _ hE1 3 (c - (i + 1)) (c - i)) ?_)
 go_wp2_with (at_builtin; refine wpList_copy_runI _ rfl _ _ 24 24 rfl _ _ rfl rfl (hcp2 _ hF1 _ _) ?_)
 go_ret
 exact ⟨_, rfl, HFIN.out _ (setCells_heap_ _ _ _ _ (setCells_heap_ _ _ _ _ rfl)), below_setCells2_ (below_setCells2_ (below_drew1 HB.out) HG.out _ _) HG.out _ _⟩
theorem repsK1 {w : World} {base : Nat} {ok : Nat → Prop} (x : S34) : Reps (k34.M w base ok) k34.sz [x] (cK x) := ⟨rfl, fun j p hj => by
 cases j with
 | zero =>
  obtain rfl := Option.some.inj hj
  exact k34_mkM _ _ _ x
 | succ j => simp at hj⟩
theorem slices_Insert_K.calls (P : Nat → Prop) (u : Value) (l0 : List S34) (i : Nat) (y : S34) (vb vc : Nat) (w0 w : World) (hB : Below w0.heap.size w0 w) (ho : Kd.R k34 34 w w0.heap.size P u l0) (hv : Kd.R k34 34 w w0.heap.size (fun _ => True) (.slice (some ⟨vb, 0, none⟩) 1 vc) [y]) (hPv : ∀ k, P k → k ≠ vb) (hfr : ∀ k, w.heap.size ≤ k → P k) (hi : i ≤ l0.length) (hl : l0.length ≤ 1000) :
  Calls Try.prog 29 #[u, .int .i64 (i : Int), .slice (some ⟨vb, 0, none⟩) 1 vc] w fun e w' => ∃ v, e = .returned v ∧ Kd.R k34 34 w' w0.heap.size P v (l0.take i ++ y :: l0.drop i) ∧ Below w0.heap.size w0 w' := by
 by_cases h : i = l0.length
 · subst h
   rw [List.take_of_length_le (Nat.le_refl _), List.drop_of_length_le (Nat.le_refl _)]
   exact slices_Insert_K.atEnd P u l0 y vb vc w0 w hB ho (Kd.R_reads' hv).2.2 hfr hl
 · obtain ⟨g, cap, eo, _, _, _⟩ := Kd.R_form ho (by omega)
   subst eo
   by_cases h2 : cap < l0.length + 1
   · exact slices_Insert_K.grow P g cap l0 i y vb vc w0 w hB ho hv hfr (by omega) hl h2
   · exact slices_Insert_K.shift P g cap l0 i y vb vc w0 w hB ho hv (Ne.symm (hPv g (ho.1 g rfl))) (by omega) hl (by omega)
def impl_KeyBind.f (k : Nat) (l0 : List S34) (a1_0 : Int) (a1_1 : ByteArray) (a1_2 : ByteArray) : Option (List S34) := (impl_isMany.f (l0.length : Int)).bind fun t1 => (if t1 = true then (some []) else ((slices_Clone_simpl_Key_impl_Key.f l0).bind fun y => ((impl_KeysRight.f k l0).bind fun t3 => (if t3 = true then ((impl_keyRight.f k a1_0 a1_1 a1_2).bind fun t4 => (if t4 = true then ((slices_BinarySearchFunc_simpl_Key_impl_Key_impl_Key.f k y a1_0 a1_1 a1_2).bind fun bt => (if 0 ≤ bt.1 then (if bt.2 = true then (if bt.1.toNat < y.length then (some (y.set bt.1.toNat ⟨a1_0, a1_1, a1_2⟩)) else none) else (if y.length < 60 then (if bt.1.toNat ≤ y.length then (some (y.take bt.1.toNat ++ ⟨a1_0, a1_1, a1_2⟩ :: y.drop bt.1.toNat)) else none) else (some y))) else none)) else (some y))) else (some y)))))
theorem impl_KeyBind.mono : ∀ a0 a1 a2 a3 k, LeO (impl_KeyBind.f k a0 a1 a2 a3) (impl_KeyBind.f (k + 1) a0 a1 a2 a3) := by
 intro a0 a1 a2 a3 k
 unfold impl_KeyBind.f
 repeat' first
   | (with_reducible exact impl_KeysRight.mono _ _)
   | (with_reducible exact impl_keyRight.mono _ _ _ _)
   | (with_reducible exact slices_BinarySearchFunc_simpl_Key_impl_Key_impl_Key.mono _ _ _ _ _)
   | (with_reducible exact LeO.refl _)
   | (with_reducible exact LeO.none _)
   | (with_reducible refine LeO.ite ?_ ?_)
   | (with_reducible refine LeO.bind ?_ (fun _ => ?_))
theorem impl_KeyBind.callsX (k : Nat) (A0 : Option Addr) (c0 : Nat) (l0 : List (S34)) (x : S34) (r : List (S34)) (w : World) (hr0 : Kd.C k34 w A0 l0.length l0) (hc0 : l0.length ≤ c0) (h : impl_KeyBind.f k l0 x.f0 x.f1 x.f2 = some r) :
  Calls Try.prog 15 #[.slice A0 l0.length c0, .agg #[.int .i64 x.f0, .string x.f1, .string x.f2]] w fun e w' => ∃ v0_ : Value, e = .returned (v0_) ∧ Kd.R k34 34 w' w.heap.size (fun _ => True) v0_ r ∧ Below w.heap.size w w' := by
 have hu34 := Try.underlying34
 have HR0 := am hr0
 have HC0 := am hc0
 clear hr0 hc0
 have HB := am (Below.refl w.heap.size w)
 unfold impl_KeyBind.f at h
 rw [show (⟨x.f0, x.f1, x.f2⟩ : S34) = x from rfl] at h
 obtain ⟨t1, A10, h⟩ := Option.bind_eq_some_iff.mp h
 have A1 := am A10
 clear A10
 by_cases c1 : t1 = true
 · subst c1
   rw [if_pos rfl] at h
   obtain rfl := Option.some.inj h
   clear h
   go_enter Try.func15, Try.ntmps15
   go_wp2_with (first | ((with_reducible refine gate_dst (N := 3) rfl ?_); refine box_event ?hg (N := 3) ?hd (cs := #[.int .i64 x.f0, .string x.f1, .string x.f2]) (t := 34) ?hr ?_; (case hd => rfl); (case hg => rfl); (case hr => first | (go_simp; done) | (go_simp; rfl)); intro gk hg w1 hbox hb; have BKk := am hbox; replace HB := am (below_step (bl HB.out) hb); have hz0 := bc hbox 0; have hz1 := bc hbox 1; have hz2 := bc hbox 2; clear hg hbox hb) | ((with_reducible refine gate_callee (f := 17) rfl ?_); refine gl (some 10) Try.func17 #[.int .i64 (l0.length : Int)] ?_; (with_reducible refine (impl_isMany.calls (l0.length : Int) true _ A1.out).mono ?_); rintro e w' ⟨rfl, ⟨nd, rfl⟩⟩; refine ⟨_, rfl, ?_⟩))
   go_ret
   exact ⟨_, rfl, Kd.R_nil _ _ _ _ _, bl HB.out⟩
 · rw [if_neg c1] at h
   obtain rfl : t1 = false := Bool.eq_false_iff.mpr c1
   clear c1
   obtain ⟨y, A30, h⟩ := Option.bind_eq_some_iff.mp h
   have A3 := am A30
   clear A30
   obtain ⟨t3, A40, h⟩ := Option.bind_eq_some_iff.mp h
   have A4 := am A40
   clear A40
   by_cases c3 : t3 = true
   · subst c3
     rw [if_pos rfl] at h
     obtain ⟨t4, A50, h⟩ := Option.bind_eq_some_iff.mp h
     have A5 := am A50
     clear A50
     by_cases c4 : t4 = true
     · subst c4
       rw [if_pos rfl] at h
       obtain ⟨⟨i, t5⟩, A60, h⟩ := Option.bind_eq_some_iff.mp h
       dsimp only at h
       by_cases c5 : 0 ≤ i
       · rw [if_pos c5] at h
         obtain ⟨i, rfl⟩ : ∃ n : Nat, i = (n : Int) := ⟨i.toNat, by omega⟩
         rw [Int.toNat_natCast] at h
         have A6 := am A60
         clear A60
         by_cases c6 : t5 = true
         · subst c6
           rw [if_pos rfl] at h
           by_cases c7 : i < y.length
           · rw [if_pos c7] at h
             obtain rfl := Option.some.inj h
             have HIL := am c7
             have p6 : (0 ≤ (i : Int)) = True := eq_true c5
             have q6 : ((i : Int) < (y.length : Int)) = True := eq_true (by omega)
             clear h c5 c7
             go_enter Try.func15, Try.ntmps15
             go_wp2_with (first | ((with_reducible refine gate_dst (N := 3) rfl ?_); refine box_event ?hg (N := 3) ?hd (cs := #[.int .i64 x.f0, .string x.f1, .string x.f2]) (t := 34) ?hr ?_; (case hd => rfl); (case hg => rfl); (case hr => first | (go_simp; done) | (go_simp; rfl)); intro gk hg w1 hbox hb; have BKk := am hbox; replace HB := am (below_step (bl HB.out) hb); have hz0 := bc hbox 0; have hz1 := bc hbox 1; have hz2 := bc hbox 2; clear hg hbox hb) | ((with_reducible refine gate_callee (f := 17) rfl ?_); refine gl (some 10) Try.func17 #[.int .i64 (l0.length : Int)] ?_; (with_reducible refine (impl_isMany.calls (l0.length : Int) false _ A1.out).mono ?_); rintro e w' ⟨rfl, ⟨nd, rfl⟩⟩; refine ⟨_, rfl, ?_⟩) | (go_at_call 19; (with_reducible refine (slices_Clone_simpl_Key_impl_Key.calls A0 c0 l0 y _ ?sc1 ?sc2 A3.out).mono ?_); (case sc1 => exact (Kd.C_below HR0.out (bl HB.out))); (case sc2 => exact HC0.out); rintro e w20 ⟨vy, rfl, ho, hb⟩; have HOy := am (Kd.R_lower ho (below_size (bl HB.out))); replace BKk := am (blk_below (pk BKk.out) hb); replace HB := am (below_step (bl HB.out) hb); clear hz0 hz1 hz2; have hz0 := bc BKk.out 0; have hz1 := bc BKk.out 1; have hz2 := bc BKk.out 2; clear ho hb) | (go_at_call 20; (with_reducible refine (impl_KeysRight.calls k A0 c0 l0 true _ ?sr1 ?sr2 A4.out).mono ?_); (case sr1 => exact (Kd.C_below HR0.out (bl HB.out))); (case sr2 => exact HC0.out); rintro e w21 ⟨rfl, hb⟩; replace HOy := am (Kd.R_below HOy.out hb); replace BKk := am (blk_below (pk BKk.out) hb); replace HB := am (below_step (bl HB.out) hb); clear hz0 hz1 hz2; have hz0 := bc BKk.out 0; have hz1 := bc BKk.out 1; have hz2 := bc BKk.out 2; clear hb) | (go_at_call 26; (refine (impl_keyRight.calls k x.f0 x.f1 x.f2 true _ A5.out).mono ?_); rintro e w22 ⟨rfl, hb⟩; replace HOy := am (Kd.R_below HOy.out hb); replace BKk := am (blk_below (pk BKk.out) hb); replace HB := am (below_step (bl HB.out) hb); clear hz0 hz1 hz2; have hz0 := bc BKk.out 0; have hz1 := bc BKk.out 1; have hz2 := bc BKk.out 2; clear hb; obtain ⟨Ay, cy, ey⟩ := Kd.R_slice HOy.out; subst ey) | (go_at_call 27; (refine (slices_BinarySearchFunc_simpl_Key_impl_Key_impl_Key.calls k Ay cy y x.f0 x.f1 x.f2 (i : Int) true _ (Kd.R_reads' HOy.out).2.2 (Kd.R_reads' HOy.out).2.1 A6.out).mono ?_); rintro e w23 ⟨rfl, hb⟩; replace HOy := am (Kd.R_below HOy.out hb); replace BKk := am (blk_below (pk BKk.out) hb); replace HB := am (below_step (bl HB.out) hb); clear hz0 hz1 hz2; have hz0 := bc BKk.out 0; have hz1 := bc BKk.out 1; have hz2 := bc BKk.out 2; clear hb; obtain ⟨g, cap, eo, hbg, hgl, hcl0⟩ := Kd.R_form HOy.out (by have := HIL.out; omega); injection eo with ea_ en_ ec_; clear en_; subst ea_; subst ec_; have HGg := am hbg; clear hbg hgl hcl0; obtain ⟨ce6, hcl6, hM6, hcc6, hfr6⟩ := Kd.R_elem HOy.out z34 (i : Int) (by omega) (by have := HIL.out; omega); obtain rfl := k34_openM hM6; have HP8 := am (Kd.R_seg HOy.out (i : Int) (by omega) (by have := HIL.out; omega) (seg := [.int .i64 x.f0, .string x.f1, .string x.f2]) (j := 0) hcl6 hcc6 (show 3 ≤ 3 from by decide) (x' := x) (k34_mkM _ _ _ x) (fun _ hk => hk)); rw [Int.toNat_natCast] at hcc6 hfr6; have hu0 := hcc6 0 _ rfl; have hu1 := hcc6 1 _ rfl; have hu2 := hcc6 2 _ rfl; have hv0 := hfr6 0; have hv1 := hfr6 1; have hv2 := hfr6 2; (try simp only [show (k34).sz = 3 from rfl, Nat.add_zero] at hu0 hu1 hu2 hv0 hv1 hv2); clear hcl6 hM6 hcc6 hfr6))
             all_goals
              go_ret
              exact ⟨_, rfl, HP8.out.1, below_set (below_set (below_set HB.out HGg.out) HGg.out) HGg.out⟩
           · rw [if_neg c7] at h
             cases h
         · rw [if_neg c6] at h
           obtain rfl : t5 = false := Bool.eq_false_iff.mpr c6
           clear c6
           by_cases c7 : y.length < 60
           · rw [if_pos c7] at h
             by_cases c8 : i ≤ y.length
             · rw [if_pos c8] at h
               obtain rfl := Option.some.inj h
               have HIL := am c8
               have HYL := am (show y.length ≤ 1000 by omega)
               have c7b : decide ((y.length : Int) < 60) = true := decide_eq_true (by omega)
               have c7c : decide (y.length < 60) = true := decide_eq_true c7
               clear h c5 c7 c8
               go_enter Try.func15, Try.ntmps15
               go_wp2_with (first | ((with_reducible refine gate_dst (N := 3) rfl ?_); refine box_event ?hg (N := 3) ?hd (cs := #[.int .i64 x.f0, .string x.f1, .string x.f2]) (t := 34) ?hr ?_; (case hd => rfl); (case hg => rfl); (case hr => first | (go_simp; done) | (go_simp; rfl)); intro gk hg w1 hbox hb; have BKk := am hbox; replace HB := am (below_step (bl HB.out) hb); have hz0 := bc hbox 0; have hz1 := bc hbox 1; have hz2 := bc hbox 2; clear hg hbox hb) | ((with_reducible refine gate_callee (f := 17) rfl ?_); refine gl (some 10) Try.func17 #[.int .i64 (l0.length : Int)] ?_; (with_reducible refine (impl_isMany.calls (l0.length : Int) false _ A1.out).mono ?_); rintro e w' ⟨rfl, ⟨nd, rfl⟩⟩; refine ⟨_, rfl, ?_⟩) | (go_at_call 19; (with_reducible refine (slices_Clone_simpl_Key_impl_Key.calls A0 c0 l0 y _ ?sc1 ?sc2 A3.out).mono ?_); (case sc1 => exact (Kd.C_below HR0.out (bl HB.out))); (case sc2 => exact HC0.out); rintro e w20 ⟨vy, rfl, ho, hb⟩; have HOy := am (Kd.R_lower ho (below_size (bl HB.out))); replace BKk := am (blk_below (pk BKk.out) hb); replace HB := am (below_step (bl HB.out) hb); clear hz0 hz1 hz2; have hz0 := bc BKk.out 0; have hz1 := bc BKk.out 1; have hz2 := bc BKk.out 2; clear ho hb) | (go_at_call 20; (with_reducible refine (impl_KeysRight.calls k A0 c0 l0 true _ ?sr1 ?sr2 A4.out).mono ?_); (case sr1 => exact (Kd.C_below HR0.out (bl HB.out))); (case sr2 => exact HC0.out); rintro e w21 ⟨rfl, hb⟩; replace HOy := am (Kd.R_below HOy.out hb); replace BKk := am (blk_below (pk BKk.out) hb); replace HB := am (below_step (bl HB.out) hb); clear hz0 hz1 hz2; have hz0 := bc BKk.out 0; have hz1 := bc BKk.out 1; have hz2 := bc BKk.out 2; clear hb) | (go_at_call 26; (refine (impl_keyRight.calls k x.f0 x.f1 x.f2 true _ A5.out).mono ?_); rintro e w22 ⟨rfl, hb⟩; replace HOy := am (Kd.R_below HOy.out hb); replace BKk := am (blk_below (pk BKk.out) hb); replace HB := am (below_step (bl HB.out) hb); clear hz0 hz1 hz2; have hz0 := bc BKk.out 0; have hz1 := bc BKk.out 1; have hz2 := bc BKk.out 2; clear hb; obtain ⟨Ay, cy, ey⟩ := Kd.R_slice HOy.out; subst ey) | (go_at_call 27; (refine (slices_BinarySearchFunc_simpl_Key_impl_Key_impl_Key.calls k Ay cy y x.f0 x.f1 x.f2 (i : Int) false _ (Kd.R_reads' HOy.out).2.2 (Kd.R_reads' HOy.out).2.1 A6.out).mono ?_); rintro e w23 ⟨rfl, hb⟩; replace HOy := am (Kd.R_below HOy.out hb); replace BKk := am (blk_below (pk BKk.out) hb); replace HB := am (below_step (bl HB.out) hb); clear hz0 hz1 hz2; have hz0 := bc BKk.out 0; have hz1 := bc BKk.out 1; have hz2 := bc BKk.out 2; clear hb) | ((with_reducible refine gate_dst (N := 41) rfl ?_); (refine Kd.R_lit k34 _ 34 ?hg (N := 41) ?hd (xs := ([x] : List S34)) (inner := cK x) (ok := fun _ => True) (okp := fun _ => True) ?hr ?hp (fun _ hk => hk) trivial (Below.refl _ _) (Nat.le_refl _) (by simp) ?_; (case hd => rfl); (case hg => rfl); (case hr => first | (go_simp; done) | (go_simp; rfl)); (case hp => exact repsK1 x); intro vl w10 ho11 hb hg_ hnew_; obtain ⟨vb, vc, el, hvb0, _, _⟩ := Kd.R_form ho11 (by simp); subst el; have HVl := am (Kd.R_lower ho11 (below_size (bl HB.out))); have HVb := am hvb0; have HY2 := am (Kd.R_mono (ok' := fun k_ => k_ ≠ vb) (Kd.R_below (Kd.R_bound HOy.out) hb) (fun k_ hk_ => by have := hk_.2.2.1; have := HVb.out; omega)); replace HB := am (below_step (bl HB.out) hb); clear hg_ hnew_ hb ho11 hvb0)) | (go_at_call 29; ((refine (slices_Insert_K.calls (fun k_ => k_ ≠ vb) _ y i x vb vc w _ (bl HB.out) HY2.out HVl.out (fun _ h => h) (fun k_ hk_ => by have := Kd.R_lt HVl.out vb rfl; omega) HIL.out HYL.out).mono ?_); rintro e w24 ⟨vr, rfl, ho, hb⟩; have HRr := am (Kd.R_mono ho (fun _ _ => trivial)); have HBr := am hb; clear ho hb)))
               go_ret
               exact ⟨_, rfl, HRr.out, HBr.out⟩
             · rw [if_neg c8] at h
               cases h
           · rw [if_neg c7] at h
             obtain rfl := Option.some.inj h
             have c7b : decide ((y.length : Int) < 60) = false := decide_eq_false (by omega)
             have c7c : decide (y.length < 60) = false := decide_eq_false c7
             clear h c5 c7
             go_enter Try.func15, Try.ntmps15
             go_wp2_with (first | ((with_reducible refine gate_dst (N := 3) rfl ?_); refine box_event ?hg (N := 3) ?hd (cs := #[.int .i64 x.f0, .string x.f1, .string x.f2]) (t := 34) ?hr ?_; (case hd => rfl); (case hg => rfl); (case hr => first | (go_simp; done) | (go_simp; rfl)); intro gk hg w1 hbox hb; have BKk := am hbox; replace HB := am (below_step (bl HB.out) hb); have hz0 := bc hbox 0; have hz1 := bc hbox 1; have hz2 := bc hbox 2; clear hg hbox hb) | ((with_reducible refine gate_callee (f := 17) rfl ?_); refine gl (some 10) Try.func17 #[.int .i64 (l0.length : Int)] ?_; (with_reducible refine (impl_isMany.calls (l0.length : Int) false _ A1.out).mono ?_); rintro e w' ⟨rfl, ⟨nd, rfl⟩⟩; refine ⟨_, rfl, ?_⟩) | (go_at_call 19; (with_reducible refine (slices_Clone_simpl_Key_impl_Key.calls A0 c0 l0 y _ ?sc1 ?sc2 A3.out).mono ?_); (case sc1 => exact (Kd.C_below HR0.out (bl HB.out))); (case sc2 => exact HC0.out); rintro e w20 ⟨vy, rfl, ho, hb⟩; have HOy := am (Kd.R_lower ho (below_size (bl HB.out))); replace BKk := am (blk_below (pk BKk.out) hb); replace HB := am (below_step (bl HB.out) hb); clear hz0 hz1 hz2; have hz0 := bc BKk.out 0; have hz1 := bc BKk.out 1; have hz2 := bc BKk.out 2; clear ho hb) | (go_at_call 20; (with_reducible refine (impl_KeysRight.calls k A0 c0 l0 true _ ?sr1 ?sr2 A4.out).mono ?_); (case sr1 => exact (Kd.C_below HR0.out (bl HB.out))); (case sr2 => exact HC0.out); rintro e w21 ⟨rfl, hb⟩; replace HOy := am (Kd.R_below HOy.out hb); replace BKk := am (blk_below (pk BKk.out) hb); replace HB := am (below_step (bl HB.out) hb); clear hz0 hz1 hz2; have hz0 := bc BKk.out 0; have hz1 := bc BKk.out 1; have hz2 := bc BKk.out 2; clear hb) | (go_at_call 26; (refine (impl_keyRight.calls k x.f0 x.f1 x.f2 true _ A5.out).mono ?_); rintro e w22 ⟨rfl, hb⟩; replace HOy := am (Kd.R_below HOy.out hb); replace BKk := am (blk_below (pk BKk.out) hb); replace HB := am (below_step (bl HB.out) hb); clear hz0 hz1 hz2; have hz0 := bc BKk.out 0; have hz1 := bc BKk.out 1; have hz2 := bc BKk.out 2; clear hb; obtain ⟨Ay, cy, ey⟩ := Kd.R_slice HOy.out; subst ey) | (go_at_call 27; (refine (slices_BinarySearchFunc_simpl_Key_impl_Key_impl_Key.calls k Ay cy y x.f0 x.f1 x.f2 (i : Int) false _ (Kd.R_reads' HOy.out).2.2 (Kd.R_reads' HOy.out).2.1 A6.out).mono ?_); rintro e w23 ⟨rfl, hb⟩; replace HOy := am (Kd.R_below HOy.out hb); replace BKk := am (blk_below (pk BKk.out) hb); replace HB := am (below_step (bl HB.out) hb); clear hz0 hz1 hz2; have hz0 := bc BKk.out 0; have hz1 := bc BKk.out 1; have hz2 := bc BKk.out 2; clear hb))
             go_ret
             exact ⟨_, rfl, HOy.out, bl HB.out⟩
       · rw [if_neg c5] at h
         cases h
     · rw [if_neg c4] at h
       obtain rfl : t4 = false := Bool.eq_false_iff.mpr c4
       clear c4
       obtain rfl := Option.some.inj h
       clear h
       go_enter Try.func15, Try.ntmps15
       go_wp2_with (first | ((with_reducible refine gate_dst (N := 3) rfl ?_); refine box_event ?hg (N := 3) ?hd (cs := #[.int .i64 x.f0, .string x.f1, .string x.f2]) (t := 34) ?hr ?_; (case hd => rfl); (case hg => rfl); (case hr => first | (go_simp; done) | (go_simp; rfl)); intro gk hg w1 hbox hb; have BKk := am hbox; replace HB := am (below_step (bl HB.out) hb); have hz0 := bc hbox 0; have hz1 := bc hbox 1; have hz2 := bc hbox 2; clear hg hbox hb) | ((with_reducible refine gate_callee (f := 17) rfl ?_); refine gl (some 10) Try.func17 #[.int .i64 (l0.length : Int)] ?_; (with_reducible refine (impl_isMany.calls (l0.length : Int) false _ A1.out).mono ?_); rintro e w' ⟨rfl, ⟨nd, rfl⟩⟩; refine ⟨_, rfl, ?_⟩) | (go_at_call 19; (with_reducible refine (slices_Clone_simpl_Key_impl_Key.calls A0 c0 l0 y _ ?sc1 ?sc2 A3.out).mono ?_); (case sc1 => exact (Kd.C_below HR0.out (bl HB.out))); (case sc2 => exact HC0.out); rintro e w20 ⟨vy, rfl, ho, hb⟩; have HOy := am (Kd.R_lower ho (below_size (bl HB.out))); replace BKk := am (blk_below (pk BKk.out) hb); replace HB := am (below_step (bl HB.out) hb); clear hz0 hz1 hz2; have hz0 := bc BKk.out 0; have hz1 := bc BKk.out 1; have hz2 := bc BKk.out 2; clear ho hb) | (go_at_call 20; (with_reducible refine (impl_KeysRight.calls k A0 c0 l0 true _ ?sr1 ?sr2 A4.out).mono ?_); (case sr1 => exact (Kd.C_below HR0.out (bl HB.out))); (case sr2 => exact HC0.out); rintro e w21 ⟨rfl, hb⟩; replace HOy := am (Kd.R_below HOy.out hb); replace BKk := am (blk_below (pk BKk.out) hb); replace HB := am (below_step (bl HB.out) hb); clear hz0 hz1 hz2; have hz0 := bc BKk.out 0; have hz1 := bc BKk.out 1; have hz2 := bc BKk.out 2; clear hb) | (go_at_call 26; (refine (impl_keyRight.calls k x.f0 x.f1 x.f2 false _ A5.out).mono ?_); rintro e w22 ⟨rfl, hb⟩; replace HOy := am (Kd.R_below HOy.out hb); replace BKk := am (blk_below (pk BKk.out) hb); replace HB := am (below_step (bl HB.out) hb); clear hz0 hz1 hz2; have hz0 := bc BKk.out 0; have hz1 := bc BKk.out 1; have hz2 := bc BKk.out 2; clear hb))
       go_ret
       exact ⟨_, rfl, HOy.out, bl HB.out⟩
   · rw [if_neg c3] at h
     obtain rfl : t3 = false := Bool.eq_false_iff.mpr c3
     clear c3
     obtain rfl := Option.some.inj h
     clear h
     go_enter Try.func15, Try.ntmps15
     go_wp2_with (first | ((with_reducible refine gate_dst (N := 3) rfl ?_); refine box_event ?hg (N := 3) ?hd (cs := #[.int .i64 x.f0, .string x.f1, .string x.f2]) (t := 34) ?hr ?_; (case hd => rfl); (case hg => rfl); (case hr => first | (go_simp; done) | (go_simp; rfl)); intro gk hg w1 hbox hb; have BKk := am hbox; replace HB := am (below_step (bl HB.out) hb); have hz0 := bc hbox 0; have hz1 := bc hbox 1; have hz2 := bc hbox 2; clear hg hbox hb) | ((with_reducible refine gate_callee (f := 17) rfl ?_); refine gl (some 10) Try.func17 #[.int .i64 (l0.length : Int)] ?_; (with_reducible refine (impl_isMany.calls (l0.length : Int) false _ A1.out).mono ?_); rintro e w' ⟨rfl, ⟨nd, rfl⟩⟩; refine ⟨_, rfl, ?_⟩) | (go_at_call 19; (with_reducible refine (slices_Clone_simpl_Key_impl_Key.calls A0 c0 l0 y _ ?sc1 ?sc2 A3.out).mono ?_); (case sc1 => exact (Kd.C_below HR0.out (bl HB.out))); (case sc2 => exact HC0.out); rintro e w20 ⟨vy, rfl, ho, hb⟩; have HOy := am (Kd.R_lower ho (below_size (bl HB.out))); replace BKk := am (blk_below (pk BKk.out) hb); replace HB := am (below_step (bl HB.out) hb); clear hz0 hz1 hz2; have hz0 := bc BKk.out 0; have hz1 := bc BKk.out 1; have hz2 := bc BKk.out 2; clear ho hb) | (go_at_call 20; (with_reducible refine (impl_KeysRight.calls k A0 c0 l0 false _ ?sr1 ?sr2 A4.out).mono ?_); (case sr1 => exact (Kd.C_below HR0.out (bl HB.out))); (case sr2 => exact HC0.out); rintro e w21 ⟨rfl, hb⟩; replace HOy := am (Kd.R_below HOy.out hb); replace BKk := am (blk_below (pk BKk.out) hb); replace HB := am (below_step (bl HB.out) hb); clear hz0 hz1 hz2; have hz0 := bc BKk.out 0; have hz1 := bc BKk.out 1; have hz2 := bc BKk.out 2; clear hb))
     go_ret
     exact ⟨_, rfl, HOy.out, bl HB.out⟩
theorem impl_KeyBind.calls (k : Nat) (A0 : Option Addr) (c0 : Nat) (l0 : List (S34)) (a1_0 : Int) (a1_1 : ByteArray) (a1_2 : ByteArray) (r : List (S34)) (w : World) (hr0 : Kd.C k34 w A0 l0.length l0) (hc0 : l0.length ≤ c0) (h : impl_KeyBind.f k l0 a1_0 a1_1 a1_2 = some r) :
  Calls Try.prog 15 #[.slice A0 l0.length c0, .agg #[.int .i64 a1_0, .string a1_1, .string a1_2]] w fun e w' => ∃ v0_ : Value, e = .returned (v0_) ∧ Kd.R k34 34 w' w.heap.size (fun _ => True) v0_ r ∧ Below w.heap.size w w' :=
 impl_KeyBind.callsX k A0 c0 l0 ⟨a1_0, a1_1, a1_2⟩ r w hr0 hc0 h

end Go.Proofs.Ytpllahncpjpfmaa.PFnExactKeyBind
