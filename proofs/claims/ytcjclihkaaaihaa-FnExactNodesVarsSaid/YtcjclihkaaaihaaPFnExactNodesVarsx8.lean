-- Written by xprint.py (this claim's own program, over the kit's printer); Lean checks it.
import Derived.Test.YtcjclihkaaaihaaPFnExactNodesVarsx0
import Derived.Test.YtcjclihkaaaihaaPFnExactNodesVarsx5
import Derived.Test.YtcjclihkaaaihaaPFnExactNodesVarsx6
import Derived.Test.YtcjclihkaaaihaaPFnExactNodesVarsx7
namespace Go.Proofs.Ytcjclihkaaaihaa.PFnExactNodesVars
open Go.RowKit Go.Proofs.YtcjclihkaaaihaaW.PrintWords Go.Proofs.YtcjclihkaaaihaaW.PrintLast Go.Proofs.YtcjclihkaaaihaaW.PrintMore
attribute [local go_sem] max2_int min2_int max_two min_two max_three min_three max_four min_four   -- for this text's walks alone
set_option linter.unusedVariables false
set_option linter.unusedSimpArgs false   -- squeezed
set_option maxHeartbeats 8000000
set_option maxRecDepth 100000

/-! ### impl_survey: function 62 -/
/-! ### survey's closure and its state -/
def SV (w0 : World) (g5 g6 : Nat) (w : World) (names : List ByteArray) (deep : Int) : Prop := w.heap[g6]? = some (.cells #[.int .i64 deep] 2 (0, 0)) ∧ ∃ v, w.heap[g5]? = some (.cells #[v] 57 (0, 0)) ∧ Kd.R Kd.string 9 w w0.heap.size (fun _ => True) v names
def KT (w w' : World) : Prop := Kept w w' (fun k => ∃ c t, w.heap[k]? = some (.cells c t (0, 0)) ∧ (t = 57 ∨ t = 2 ∨ t = 9))
theorem ne_type_ {w : World} {g g' t t' : Nat} {c c' : Array Value} (h : w.heap[g]? = some (.cells c t (0, 0))) (h' : w.heap[g']? = some (.cells c' t' (0, 0))) (hne : t ≠ t') : g ≠ g' := by
 rintro rfl
 rw [h] at h'
 injection h' with h'
 injection h' with _ h'
 exact hne h'
theorem SV_below {w0 w w' : World} {g5 g6 : Nat} {names : List ByteArray} {deep : Int} (h : SV w0 g5 g6 w names deep) (hb : Below w.heap.size w w') : SV w0 g5 g6 w' names deep := by
 obtain ⟨h1, v, h2, h3⟩ := h
 exact ⟨blk_below h1 hb, v, blk_below h2 hb, Kd.R_below h3 hb⟩
theorem KT_below {w w' : World} (hb : Below w.heap.size w w') : KT w w' := Kept.of_below hb _
theorem KT_trans {w w1 w2 : World} (h1 : KT w w1) (h2 : KT w1 w2) : KT w w2 := by
 refine Kept.then_ h1 h2 (fun k hk => ?_)
 obtain ⟨c, t, hc, ht⟩ := hk
 by_cases hlt : k < w.heap.size
 · by_cases hS : ∃ c t, w.heap[k]? = some (.cells c t (0, 0)) ∧ (t = 57 ∨ t = 2 ∨ t = 9)
   · exact Or.inl hS
   · exact absurd ⟨c, t, by rw [← h1.2 k hlt hS]; exact hc, ht⟩ hS
 · exact Or.inr (by omega)
theorem KT_set {w w1 : World} {g t : Nat} {c : Array Value} (h : KT w w1) (hg : w1.heap[g]? = some (.cells c t (0, 0))) (ht : t = 57 ∨ t = 2 ∨ t = 9) {j : Nat} (u : Value) : KT w (w1.setCell ⟨g, j, none⟩ u) :=
 KT_trans h (Kept.mono (Kept.setCell (Kept.refl w1 (fun k => k = g)) (.inl rfl) u) (fun k hk => by rw [hk]; exact ⟨c, t, hg, ht⟩))
theorem KT_blk {w w' : World} {g t : Nat} {c : Array Value} (h : KT w w') (hg : w.heap[g]? = some (.cells c t (0, 0))) (ht : ¬ (t = 57 ∨ t = 2 ∨ t = 9)) : w'.heap[g]? = some (.cells c t (0, 0)) :=
 blk_kept hg h (fun ⟨c', t', h1, h2⟩ => by
  rw [hg] at h1
  injection h1 with h1
  injection h1 with _ h1
  exact ht (h1 ▸ h2))
theorem SV_deep {w0 w : World} {g5 g6 : Nat} {names : List ByteArray} {deep : Int} (h : SV w0 g5 g6 w names deep) (d : Int) : SV w0 g5 g6 (w.setCell ⟨g6, 0, none⟩ (.int .i64 d)) names d := by
 obtain ⟨h1, v, h2, h3⟩ := h
 exact ⟨blk_put (cs := #[.int .i64 deep]) h1 0 _ rfl, v, blk_far h2 (ne_type_ h2 h1 (by decide)) _, Kd.R_set h3 h1 (by decide) _ _⟩
theorem SV_names {w0 w : World} {g5 g6 : Nat} {names ns : List ByteArray} {deep : Int} {v : Value} (h : SV w0 g5 g6 w names deep) (hr : Kd.R Kd.string 9 w w0.heap.size (fun _ => True) v ns) : SV w0 g5 g6 (w.setCell ⟨g5, 0, none⟩ v) ns deep := by
 obtain ⟨h1, v0, h2, h3⟩ := h
 exact ⟨blk_far h1 (ne_type_ h1 h2 (by decide)) _, v, blk_put (cs := #[v0]) h2 0 _ rfl, Kd.R_set hr h2 (by decide) _ _⟩
theorem SV_app {w0 W w4 : World} {g5 g6 : Nat} {names ns : List ByteArray} {deep : Int} {v v4 : Value} (h : SV w0 g5 g6 W names deep) (hR : Kd.R Kd.string 9 W w0.heap.size (fun _ => True) v names) (hg : W.grownBy w4 v.ownBlock) (hn : Kd.R Kd.string 9 w4 w0.heap.size (fun _ => True) v4 ns) : w4.heap[g5]? = W.heap[g5]? ∧ SV w0 g5 g6 (w4.setCell ⟨g5, 0, none⟩ v4) ns deep ∧ KT W (w4.setCell ⟨g5, 0, none⟩ v4) := by
 obtain ⟨h1, v0, h2, h3⟩ := h
 have e1 := hg.block g6 (blk_lt h1) (Kd.R_ne hR h1 (by decide))
 have e2 := hg.block g5 (blk_lt h2) (Kd.R_ne hR h2 (by decide))
 have q1 := e1.trans h1
 have q2 := e2.trans h2
 have K : KT W w4 := Kept.of_grown (S := _) hg (Kept.refl W _) (fun k hk => by
  obtain ⟨c, hc⟩ := Kd.R_typed hR k hk
  exact Or.inl ⟨c, 9, hc, Or.inr (Or.inr rfl)⟩)
 exact ⟨e2, ⟨blk_far q1 (ne_type_ q1 q2 (by decide)) _, v4, blk_put (cs := #[v0]) q2 0 _ rfl, Kd.R_set hn q2 (by decide) _ _⟩, KT_set K q2 (Or.inl rfl) _⟩
def namesF (b : Bool) (x : S95) (names : List ByteArray) : List ByteArray := if x.f0 = 2 ∨ x.f0 = 12 then (if b = true then names else names ++ [x.f2]) else names
theorem impl_survey_1.calls (k : Nat) (x : S95) (dp : Int) (names : List ByteArray) (deep : Int) (b : Bool) (w0 w : World) (g5 g6 : Nat) (hg5 : w0.heap.size ≤ g5) (hg6 : w0.heap.size ≤ g6) (hB : Below w0.heap.size w0 w) (hS : SV w0 g5 g6 w names deep) (hl : names.length ≤ 1000000) (hc : slices_Contains_sstring_string.f k names x.f2 = some b) :
  Calls Try.prog 86 #[.agg #[.int .i64 x.f0, .int .i64 x.f1, .string x.f2, .int .i64 x.f3], .int .i64 dp, .pointer (some ⟨g6, 0, none⟩), .pointer (some ⟨g5, 0, none⟩)] w fun e w' => e = .returned (.tuple #[]) ∧ SV w0 g5 g6 w' (namesF b x names) (mx deep dp) ∧ Below w0.heap.size w0 w' ∧ KT w w' := by
 have hu95 := Try.underlying95
 have HG5 := am hg5
 have HG6 := am hg6
 have HB := am hB
 have HS := am hS
 have HL0 := am hl
 have A1 := am hc
 clear hg5 hg6 hB hS hl hc
 by_cases c1 : x.f0 = 2 ∨ x.f0 = 12
 · cases b with
   | true =>
     by_cases c2 : x.f0 = 2
     · have c2b : (x.f0 == 2) = true := by rw [beq_iff_eq]; exact c2
       clear c2
       have hN := am (show namesF true x names = names by unfold namesF; rw [if_pos c1, if_pos rfl])
       clear c1
       go_enter Try.func86, Try.ntmps86
       go_wp2_with (first | ((with_reducible refine gate_dst (N := 4) rfl ?_); refine box_event ?hg (N := 4) ?hd (cs := #[.int .i64 x.f0, .int .i64 x.f1, .string x.f2, .int .i64 x.f3]) (t := 95) ?hr ?_; (case hd => rfl); (case hg => rfl); (case hr => first | (go_simp; done) | (go_simp; rfl)); intro gk hg w1 hbox hb; have BKk := am hbox; have SV1 := am (SV_below HS.out hb); have K1 := am (KT_below hb); have B1 := am (below_step HB.out hb); have hz0 := bc hbox 0; have hz1 := bc hbox 1; have hz2 := bc hbox 2; have hz3 := bc hbox 3; have hd0 := bc SV1.out.1 0; have hf0 := blk_frozen SV1.out.1 0; clear hg hbox hb) | ((with_reducible refine gate_store (t := 2) (p := 2) rfl ?_); refine store_event (t := 2) (p := 2) (v := ?vo_1) (w1 := (w1.setCell ⟨g6, 0, none⟩ (.int .i64 (mx deep dp)))) ?hg ?ho ?hn ?hr ?_; (case ho => rfl); (case hg => rfl); (case hn => rfl); (case hr => first | (go_simp; done) | (go_simp; rfl)); intro w2 hw; have SV2 := am (show SV w0 g5 g6 w2 names (mx deep dp) from (by rw [hw]; exact SV_deep SV1.out _)); have K2 := am (show KT w w2 from (by rw [hw]; exact KT_set K1.out SV1.out.1 (Or.inr (Or.inl rfl)) _)); have B2 := am (show Below w0.heap.size w0 w2 from (by rw [hw]; exact below_set B1.out HG6.out)); replace BKk := am (show w2.heap[gk]? = some (.cells #[.int .i64 x.f0, .int .i64 x.f1, .string x.f2, .int .i64 x.f3] 95 (0, 0)) from (by rw [hw]; exact blk_far BKk.out (ne_type_ BKk.out SV1.out.1 (by decide)) _)); clear hw hz0 hz1 hz2 hz3 hd0 hf0; have hz0 := bc BKk.out 0; have hz1 := bc BKk.out 1; have hz2 := bc BKk.out 2; have hz3 := bc BKk.out 3; have hsv := SV2.out.2; obtain ⟨vn, hvn, hRn⟩ := hsv; have HVN := am hvn; have HRN := am hRn; have hn0 := bc hvn 0; have hnf := blk_frozen hvn 0; clear hvn hRn; obtain ⟨An, cn, en⟩ := Kd.R_slice HRN.out; subst en) | (go_at_call 87; (refine (slices_Contains_sstring_string.calls k An cn names x.f2 true _ (Kd.C_below (Kd.R_reads' HRN.out).2.2 ?sb) (Kd.R_reads' HRN.out).2.1 A1.out).mono ?_); (case sb => repeat (first | exact Below.refl _ _ | apply below_alloc | apply pw_below_drewN | apply below_drew1)); rintro e w' ⟨rfl, ⟨nd, rfl⟩⟩))
       all_goals
        go_end0
        exact ⟨by first | rfl | (simp; done), by rw [hN.out]; exact SV_below SV2.out (pw_below_drewN (Below.refl _ _) _), pw_below_drewN B2.out _, KT_trans K2.out (KT_below (pw_below_drewN (Below.refl _ _) _))⟩
     · have c2b : (x.f0 == 2) = false := by rw [beq_eq_false_iff_ne]; exact c2
       have c3b : (x.f0 == 12) = true := by rw [beq_iff_eq]; exact c1.resolve_left c2
       clear c2
       have hN := am (show namesF true x names = names by unfold namesF; rw [if_pos c1, if_pos rfl])
       clear c1
       go_enter Try.func86, Try.ntmps86
       go_wp2_with (first | ((with_reducible refine gate_dst (N := 4) rfl ?_); refine box_event ?hg (N := 4) ?hd (cs := #[.int .i64 x.f0, .int .i64 x.f1, .string x.f2, .int .i64 x.f3]) (t := 95) ?hr ?_; (case hd => rfl); (case hg => rfl); (case hr => first | (go_simp; done) | (go_simp; rfl)); intro gk hg w1 hbox hb; have BKk := am hbox; have SV1 := am (SV_below HS.out hb); have K1 := am (KT_below hb); have B1 := am (below_step HB.out hb); have hz0 := bc hbox 0; have hz1 := bc hbox 1; have hz2 := bc hbox 2; have hz3 := bc hbox 3; have hd0 := bc SV1.out.1 0; have hf0 := blk_frozen SV1.out.1 0; clear hg hbox hb) | ((with_reducible refine gate_store (t := 2) (p := 2) rfl ?_); refine store_event (t := 2) (p := 2) (v := ?vo_1) (w1 := (w1.setCell ⟨g6, 0, none⟩ (.int .i64 (mx deep dp)))) ?hg ?ho ?hn ?hr ?_; (case ho => rfl); (case hg => rfl); (case hn => rfl); (case hr => first | (go_simp; done) | (go_simp; rfl)); intro w2 hw; have SV2 := am (show SV w0 g5 g6 w2 names (mx deep dp) from (by rw [hw]; exact SV_deep SV1.out _)); have K2 := am (show KT w w2 from (by rw [hw]; exact KT_set K1.out SV1.out.1 (Or.inr (Or.inl rfl)) _)); have B2 := am (show Below w0.heap.size w0 w2 from (by rw [hw]; exact below_set B1.out HG6.out)); replace BKk := am (show w2.heap[gk]? = some (.cells #[.int .i64 x.f0, .int .i64 x.f1, .string x.f2, .int .i64 x.f3] 95 (0, 0)) from (by rw [hw]; exact blk_far BKk.out (ne_type_ BKk.out SV1.out.1 (by decide)) _)); clear hw hz0 hz1 hz2 hz3 hd0 hf0; have hz0 := bc BKk.out 0; have hz1 := bc BKk.out 1; have hz2 := bc BKk.out 2; have hz3 := bc BKk.out 3; have hsv := SV2.out.2; obtain ⟨vn, hvn, hRn⟩ := hsv; have HVN := am hvn; have HRN := am hRn; have hn0 := bc hvn 0; have hnf := blk_frozen hvn 0; clear hvn hRn; obtain ⟨An, cn, en⟩ := Kd.R_slice HRN.out; subst en) | (go_at_call 87; (refine (slices_Contains_sstring_string.calls k An cn names x.f2 true _ (Kd.C_below (Kd.R_reads' HRN.out).2.2 ?sb) (Kd.R_reads' HRN.out).2.1 A1.out).mono ?_); (case sb => repeat (first | exact Below.refl _ _ | apply below_alloc | apply pw_below_drewN | apply below_drew1)); rintro e w' ⟨rfl, ⟨nd, rfl⟩⟩))
       all_goals
        go_end0
        exact ⟨by first | rfl | (simp; done), by rw [hN.out]; exact SV_below SV2.out (pw_below_drewN (Below.refl _ _) _), pw_below_drewN B2.out _, KT_trans K2.out (KT_below (pw_below_drewN (Below.refl _ _) _))⟩
   | false =>
     by_cases c2 : x.f0 = 2
     · have c2b : (x.f0 == 2) = true := by rw [beq_iff_eq]; exact c2
       clear c2
       have hN := am (show namesF false x names = names ++ [x.f2] by unfold namesF; rw [if_pos c1, if_neg (by decide)])
       clear c1
       go_enter Try.func86, Try.ntmps86
       go_wp2_with (first | ((with_reducible refine gate_dst (N := 4) rfl ?_); refine box_event ?hg (N := 4) ?hd (cs := #[.int .i64 x.f0, .int .i64 x.f1, .string x.f2, .int .i64 x.f3]) (t := 95) ?hr ?_; (case hd => rfl); (case hg => rfl); (case hr => first | (go_simp; done) | (go_simp; rfl)); intro gk hg w1 hbox hb; have BKk := am hbox; have SV1 := am (SV_below HS.out hb); have K1 := am (KT_below hb); have B1 := am (below_step HB.out hb); have hz0 := bc hbox 0; have hz1 := bc hbox 1; have hz2 := bc hbox 2; have hz3 := bc hbox 3; have hd0 := bc SV1.out.1 0; have hf0 := blk_frozen SV1.out.1 0; clear hg hbox hb) | ((with_reducible refine gate_store (t := 2) (p := 2) rfl ?_); refine store_event (t := 2) (p := 2) (v := ?vo_1) (w1 := (w1.setCell ⟨g6, 0, none⟩ (.int .i64 (mx deep dp)))) ?hg ?ho ?hn ?hr ?_; (case ho => rfl); (case hg => rfl); (case hn => rfl); (case hr => first | (go_simp; done) | (go_simp; rfl)); intro w2 hw; have SV2 := am (show SV w0 g5 g6 w2 names (mx deep dp) from (by rw [hw]; exact SV_deep SV1.out _)); have K2 := am (show KT w w2 from (by rw [hw]; exact KT_set K1.out SV1.out.1 (Or.inr (Or.inl rfl)) _)); have B2 := am (show Below w0.heap.size w0 w2 from (by rw [hw]; exact below_set B1.out HG6.out)); replace BKk := am (show w2.heap[gk]? = some (.cells #[.int .i64 x.f0, .int .i64 x.f1, .string x.f2, .int .i64 x.f3] 95 (0, 0)) from (by rw [hw]; exact blk_far BKk.out (ne_type_ BKk.out SV1.out.1 (by decide)) _)); clear hw hz0 hz1 hz2 hz3 hd0 hf0; have hz0 := bc BKk.out 0; have hz1 := bc BKk.out 1; have hz2 := bc BKk.out 2; have hz3 := bc BKk.out 3; have hsv := SV2.out.2; obtain ⟨vn, hvn, hRn⟩ := hsv; have HVN := am hvn; have HRN := am hRn; have hn0 := bc hvn 0; have hnf := blk_frozen hvn 0; clear hvn hRn; obtain ⟨An, cn, en⟩ := Kd.R_slice HRN.out; subst en) | (go_at_call 87; (refine (slices_Contains_sstring_string.calls k An cn names x.f2 false _ (Kd.C_below (Kd.R_reads' HRN.out).2.2 ?sb) (Kd.R_reads' HRN.out).2.1 A1.out).mono ?_); (case sb => repeat (first | exact Below.refl _ _ | apply below_alloc | apply pw_below_drewN | apply below_drew1)); rintro e w' ⟨rfl, ⟨nd, rfl⟩⟩) | ((with_reducible refine gate_builtin (b := .append) (xs := #[.tmp 24, .tmp 27]) rfl ?_); at_builtin; refine Kd.R_append Kd.string (w0 := w0) w0.heap.size rfl (.tmp 24) (.tmp 27) 57 9 (.string ⟨#[]⟩) 16 rfl Try.underlying57 info9 rfl (by decide) (by omega) (.slice An names.length cn) names x.f2 [.string x.f2] (fun _ => True) (fun _ => False) rfl rfl ?aP (fun _ hk => hk.elim) ?aF ?aO ?aB ?aS ?aL ?_; (case aP => exact rfl); (case aB => exact (bl B2.out)); (case aF => exact (fun _ _ => trivial)); (case aO => exact (kr HRN.out)); (case aS => exact (below_size (bl B2.out))); (case aL => have := HL0.out; omega); intro v4 w4 ho hb hg hat; obtain ⟨A4, c4, e4⟩ := Kd.R_slice ho; subst e4; have SX := am (SV_app (SV_below SV2.out (by repeat (first | exact Below.refl _ _ | apply below_alloc | apply pw_below_drewN | apply below_drew1))) (kr HRN.out) hg ho); have KX := am (KT_trans K2.out (KT_trans (KT_below (by repeat (first | exact Below.refl _ _ | apply below_alloc | apply pw_below_drewN | apply below_drew1))) SX.out.2.2)); have BX := am hb; have hq5 := SX.out.1.trans ((Below.block (by repeat (first | exact Below.refl _ _ | apply below_alloc | apply pw_below_drewN | apply below_drew1)) g5 (blk_lt HVN.out)).trans HVN.out); have hq50 := bc hq5 0; have hq5f := blk_frozen hq5 0; clear ho hb hg hat hn0 hnf hq5))
       all_goals
        go_end0
        exact ⟨by first | rfl | (simp; done), by have q_ := SX.out.2.1; rw [show (names ++ [x.f2]).length = names.length + 1 from List.length_append] at q_; rw [hN.out]; exact q_, below_set BX.out HG5.out, by have q_ := KX.out; rw [show (names ++ [x.f2]).length = names.length + 1 from List.length_append] at q_; exact q_⟩
     · have c2b : (x.f0 == 2) = false := by rw [beq_eq_false_iff_ne]; exact c2
       have c3b : (x.f0 == 12) = true := by rw [beq_iff_eq]; exact c1.resolve_left c2
       clear c2
       have hN := am (show namesF false x names = names ++ [x.f2] by unfold namesF; rw [if_pos c1, if_neg (by decide)])
       clear c1
       go_enter Try.func86, Try.ntmps86
       go_wp2_with (first | ((with_reducible refine gate_dst (N := 4) rfl ?_); refine box_event ?hg (N := 4) ?hd (cs := #[.int .i64 x.f0, .int .i64 x.f1, .string x.f2, .int .i64 x.f3]) (t := 95) ?hr ?_; (case hd => rfl); (case hg => rfl); (case hr => first | (go_simp; done) | (go_simp; rfl)); intro gk hg w1 hbox hb; have BKk := am hbox; have SV1 := am (SV_below HS.out hb); have K1 := am (KT_below hb); have B1 := am (below_step HB.out hb); have hz0 := bc hbox 0; have hz1 := bc hbox 1; have hz2 := bc hbox 2; have hz3 := bc hbox 3; have hd0 := bc SV1.out.1 0; have hf0 := blk_frozen SV1.out.1 0; clear hg hbox hb) | ((with_reducible refine gate_store (t := 2) (p := 2) rfl ?_); refine store_event (t := 2) (p := 2) (v := ?vo_1) (w1 := (w1.setCell ⟨g6, 0, none⟩ (.int .i64 (mx deep dp)))) ?hg ?ho ?hn ?hr ?_; (case ho => rfl); (case hg => rfl); (case hn => rfl); (case hr => first | (go_simp; done) | (go_simp; rfl)); intro w2 hw; have SV2 := am (show SV w0 g5 g6 w2 names (mx deep dp) from (by rw [hw]; exact SV_deep SV1.out _)); have K2 := am (show KT w w2 from (by rw [hw]; exact KT_set K1.out SV1.out.1 (Or.inr (Or.inl rfl)) _)); have B2 := am (show Below w0.heap.size w0 w2 from (by rw [hw]; exact below_set B1.out HG6.out)); replace BKk := am (show w2.heap[gk]? = some (.cells #[.int .i64 x.f0, .int .i64 x.f1, .string x.f2, .int .i64 x.f3] 95 (0, 0)) from (by rw [hw]; exact blk_far BKk.out (ne_type_ BKk.out SV1.out.1 (by decide)) _)); clear hw hz0 hz1 hz2 hz3 hd0 hf0; have hz0 := bc BKk.out 0; have hz1 := bc BKk.out 1; have hz2 := bc BKk.out 2; have hz3 := bc BKk.out 3; have hsv := SV2.out.2; obtain ⟨vn, hvn, hRn⟩ := hsv; have HVN := am hvn; have HRN := am hRn; have hn0 := bc hvn 0; have hnf := blk_frozen hvn 0; clear hvn hRn; obtain ⟨An, cn, en⟩ := Kd.R_slice HRN.out; subst en) | (go_at_call 87; (refine (slices_Contains_sstring_string.calls k An cn names x.f2 false _ (Kd.C_below (Kd.R_reads' HRN.out).2.2 ?sb) (Kd.R_reads' HRN.out).2.1 A1.out).mono ?_); (case sb => repeat (first | exact Below.refl _ _ | apply below_alloc | apply pw_below_drewN | apply below_drew1)); rintro e w' ⟨rfl, ⟨nd, rfl⟩⟩) | ((with_reducible refine gate_builtin (b := .append) (xs := #[.tmp 24, .tmp 27]) rfl ?_); at_builtin; refine Kd.R_append Kd.string (w0 := w0) w0.heap.size rfl (.tmp 24) (.tmp 27) 57 9 (.string ⟨#[]⟩) 16 rfl Try.underlying57 info9 rfl (by decide) (by omega) (.slice An names.length cn) names x.f2 [.string x.f2] (fun _ => True) (fun _ => False) rfl rfl ?aP (fun _ hk => hk.elim) ?aF ?aO ?aB ?aS ?aL ?_; (case aP => exact rfl); (case aB => exact (bl B2.out)); (case aF => exact (fun _ _ => trivial)); (case aO => exact (kr HRN.out)); (case aS => exact (below_size (bl B2.out))); (case aL => have := HL0.out; omega); intro v4 w4 ho hb hg hat; obtain ⟨A4, c4, e4⟩ := Kd.R_slice ho; subst e4; have SX := am (SV_app (SV_below SV2.out (by repeat (first | exact Below.refl _ _ | apply below_alloc | apply pw_below_drewN | apply below_drew1))) (kr HRN.out) hg ho); have KX := am (KT_trans K2.out (KT_trans (KT_below (by repeat (first | exact Below.refl _ _ | apply below_alloc | apply pw_below_drewN | apply below_drew1))) SX.out.2.2)); have BX := am hb; have hq5 := SX.out.1.trans ((Below.block (by repeat (first | exact Below.refl _ _ | apply below_alloc | apply pw_below_drewN | apply below_drew1)) g5 (blk_lt HVN.out)).trans HVN.out); have hq50 := bc hq5 0; have hq5f := blk_frozen hq5 0; clear ho hb hg hat hn0 hnf hq5))
       all_goals
        go_end0
        exact ⟨by first | rfl | (simp; done), by have q_ := SX.out.2.1; rw [show (names ++ [x.f2]).length = names.length + 1 from List.length_append] at q_; rw [hN.out]; exact q_, below_set BX.out HG5.out, by have q_ := KX.out; rw [show (names ++ [x.f2]).length = names.length + 1 from List.length_append] at q_; exact q_⟩
 · have hN := am (show namesF b x names = names by unfold namesF; rw [if_neg c1])
   have c2 : (x.f0 == 2) = false := by rw [beq_eq_false_iff_ne]; exact fun e => c1 (Or.inl e)
   have c3 : (x.f0 == 12) = false := by rw [beq_eq_false_iff_ne]; exact fun e => c1 (Or.inr e)
   clear c1
   go_enter Try.func86, Try.ntmps86
   go_wp2_with (first | ((with_reducible refine gate_dst (N := 4) rfl ?_); refine box_event ?hg (N := 4) ?hd (cs := #[.int .i64 x.f0, .int .i64 x.f1, .string x.f2, .int .i64 x.f3]) (t := 95) ?hr ?_; (case hd => rfl); (case hg => rfl); (case hr => first | (go_simp; done) | (go_simp; rfl)); intro gk hg w1 hbox hb; have BKk := am hbox; have SV1 := am (SV_below HS.out hb); have K1 := am (KT_below hb); have B1 := am (below_step HB.out hb); have hz0 := bc hbox 0; have hz1 := bc hbox 1; have hz2 := bc hbox 2; have hz3 := bc hbox 3; have hd0 := bc SV1.out.1 0; have hf0 := blk_frozen SV1.out.1 0; clear hg hbox hb) | ((with_reducible refine gate_store (t := 2) (p := 2) rfl ?_); refine store_event (t := 2) (p := 2) (v := ?vo_1) (w1 := (w1.setCell ⟨g6, 0, none⟩ (.int .i64 (mx deep dp)))) ?hg ?ho ?hn ?hr ?_; (case ho => rfl); (case hg => rfl); (case hn => rfl); (case hr => first | (go_simp; done) | (go_simp; rfl)); intro w2 hw; have SV2 := am (show SV w0 g5 g6 w2 names (mx deep dp) from (by rw [hw]; exact SV_deep SV1.out _)); have K2 := am (show KT w w2 from (by rw [hw]; exact KT_set K1.out SV1.out.1 (Or.inr (Or.inl rfl)) _)); have B2 := am (show Below w0.heap.size w0 w2 from (by rw [hw]; exact below_set B1.out HG6.out)); replace BKk := am (show w2.heap[gk]? = some (.cells #[.int .i64 x.f0, .int .i64 x.f1, .string x.f2, .int .i64 x.f3] 95 (0, 0)) from (by rw [hw]; exact blk_far BKk.out (ne_type_ BKk.out SV1.out.1 (by decide)) _)); clear hw hz0 hz1 hz2 hz3 hd0 hf0; have hz0 := bc BKk.out 0; have hz1 := bc BKk.out 1; have hz2 := bc BKk.out 2; have hz3 := bc BKk.out 3; have hsv := SV2.out.2; obtain ⟨vn, hvn, hRn⟩ := hsv; have HVN := am hvn; have HRN := am hRn; have hn0 := bc hvn 0; have hnf := blk_frozen hvn 0; clear hvn hRn; obtain ⟨An, cn, en⟩ := Kd.R_slice HRN.out; subst en))
   all_goals
    go_end0
    exact ⟨by first | rfl | (simp; done), by rw [hN.out]; exact SV2.out, B2.out, K2.out⟩
/-! ### tree -/
mutual
def treeF : Nat → List S95 → Int → Int → List ByteArray → Int → Option (Int × List ByteArray × Int)
 | 0, _, _, _, _, _ => none
 | k + 1, l, at_, dp, ns, de => if at_ ≥ (l.length : Int) then (some (-1, ns, de)) else (if dp > 20 then (some (-1, ns, de)) else (if 0 ≤ at_ then ((impl_kidsOf.f k (rd_T95 l at_).f0).bind fun p => ((impl_within.f (rd_T95 l at_).f0 1 26).bind fun t1 => (if t1 = true then ((impl_within.f (rd_T95 l at_).f3 p.1 p.2).bind fun t2 => (if t2 = true then ((impl_fieldsRight.f k (rd_T95 l at_).f0 (rd_T95 l at_).f1 (rd_T95 l at_).f2 (rd_T95 l at_).f3).bind fun t3 => (if t3 = true then ((slices_Contains_sstring_string.f k ns (rd_T95 l at_).f2).bind fun b => (if ns.length ≤ 1000000 then (treeL k l (rd_T95 l at_) 0 (wrap64 (at_ + 1)) dp (namesF b (rd_T95 l at_) ns) (mx de dp)) else none)) else (some (-1, ns, de)))) else (some (-1, ns, de)))) else (some (-1, ns, de))))) else none))
def treeL : Nat → List S95 → S95 → Int → Int → Int → List ByteArray → Int → Option (Int × List ByteArray × Int)
 | 0, _, _, _, _, _, _, _ => none
 | k + 1, l, n, i, at_, dp, ns, de => if i < n.f3 then (if at_ ≥ (l.length : Int) then (some (-1, ns, de)) else (if 0 ≤ at_ then ((impl_isKid.f n.f0 n.f1 n.f2 n.f3 i (rd_T95 l at_).f0 (rd_T95 l at_).f1 (rd_T95 l at_).f2 (rd_T95 l at_).f3).bind fun t => (if t = true then ((treeF k l at_ (wrap64 (dp + 1)) ns de).bind fun r => (if r.1 < 0 then (some (-1, r.2.1, r.2.2)) else (treeL k l n (wrap64 (i + 1)) r.1 dp r.2.1 r.2.2))) else (some (-1, ns, de)))) else none)) else (some (at_, ns, de))
end
theorem impl_tree.calls (K : Nat) : ∀ (A : Option Addr) (c : Nat) (l : List S95) (at_ dp : Int) (ns : List ByteArray) (de : Int) (r : Int) (ns' : List ByteArray) (de' : Int) (w0 w : World) (g5 g6 : Nat), w0.heap.size ≤ g5 → w0.heap.size ≤ g6 → Below w0.heap.size w0 w → SV w0 g5 g6 w ns de → Kd.C k95 w0 A l.length l → treeF K l at_ dp ns de = some (r, ns', de') →
  Calls Try.prog 85 #[.slice A l.length c, .int .i64 at_, .int .i64 dp, .func (.func 86) #[] #[.pointer (some ⟨g6, 0, none⟩), .pointer (some ⟨g5, 0, none⟩)]] w fun e w' => e = .returned (.int .i64 r) ∧ SV w0 g5 g6 w' ns' de' ∧ Below w0.heap.size w0 w' ∧ KT w w' := by
 induction K using Nat.strongRecOn with
 | ind K IH =>
 intro A c l at_ dp ns de r ns' de' w0 w g5 g6 hg5 hg6 hB hS hC h
 cases K with
 | zero => simp [treeF] at h
 | succ k =>
 have hu95 := Try.underlying95
 have HG5 := am hg5
 have HG6 := am hg6
 have HB := am hB
 have HS := am hS
 have HR := am hC
 clear hg5 hg6 hB hS hC
 rw [treeF] at h
 by_cases c1 : at_ ≥ (l.length : Int)
 · rw [if_pos c1] at h
   simp only [Option.some.injEq, Prod.mk.injEq] at h
   obtain ⟨rfl, rfl, rfl⟩ := h
   have c1b : decide ((l.length : Int) ≤ at_) = true := decide_eq_true c1
   clear c1
   go_enter Try.func85, Try.ntmps85
   go_wp2
   go_ret
   exact ⟨rfl, HS.out, HB.out, KT_below (Below.refl _ _)⟩
 · rw [if_neg c1] at h
   have c1b : decide ((l.length : Int) ≤ at_) = false := decide_eq_false c1
   have c1p : at_ < (l.length : Int) := by omega
   clear c1
   by_cases c2 : dp > 20
   · rw [if_pos c2] at h
     simp only [Option.some.injEq, Prod.mk.injEq] at h
     obtain ⟨rfl, rfl, rfl⟩ := h
     have c2b : decide (20 < dp) = true := decide_eq_true c2
     clear c2 c1p
     go_enter Try.func85, Try.ntmps85
     go_wp2
     go_ret
     exact ⟨rfl, HS.out, HB.out, KT_below (Below.refl _ _)⟩
   · rw [if_neg c2] at h
     have c2b : decide (20 < dp) = false := decide_eq_false c2
     clear c2
     by_cases c3 : 0 ≤ at_
     · rw [if_pos c3] at h
       obtain ⟨x, hx⟩ : ∃ x, x = rd_T95 l at_ := ⟨_, rfl⟩
       rw [← hx] at h
       obtain ⟨ad, e_, hx0, hx1, hx2, hx3⟩ := at_T95 (Kd.C_below HR.out HB.out) at_ c3 c1p
       cases e_
       rw [← hx] at hx0 hx1 hx2 hx3
       have HX := am hx
       clear hx
       have p5 : (0 ≤ (at_ : Int)) = True := eq_true c3
       have q5 : ((at_ : Int) < (l.length : Int)) = True := eq_true c1p
       clear c3 c1p
       obtain ⟨⟨lo, hi⟩, A10, h⟩ := Option.bind_eq_some_iff.mp h
       dsimp only at h
       have A1 := am A10
       clear A10
       obtain ⟨t1, A20, h⟩ := Option.bind_eq_some_iff.mp h
       have A2 := am A20
       clear A20
       by_cases c4 : t1 = true
       · subst c4
         rw [if_pos rfl] at h
         obtain ⟨t2, A30, h⟩ := Option.bind_eq_some_iff.mp h
         have A3 := am A30
         clear A30
         by_cases c5 : t2 = true
         · subst c5
           rw [if_pos rfl] at h
           obtain ⟨t3, A40, h⟩ := Option.bind_eq_some_iff.mp h
           have A4 := am A40
           clear A40
           by_cases c6 : t3 = true
           · subst c6
             rw [if_pos rfl] at h
             obtain ⟨b, A50, h⟩ := Option.bind_eq_some_iff.mp h
             by_cases c7 : ns.length ≤ 1000000
             · rw [if_pos c7] at h
               have A5 := am A50
               have HL := am c7
               have HA0 := am h
               clear A50 c7 h
               go_enter Try.func85, Try.ntmps85
               go_wp2_with (first | ((with_reducible refine gate_dst (N := 9) rfl ?_); refine box_event ?hg (N := 9) ?hd (cs := #[.int .i64 0, .int .i64 0, .string (⟨#[]⟩ : ByteArray), .int .i64 0]) (t := 95) ?hr ?_; (case hd => rfl); (case hg => rfl); (case hr => first | (go_simp; done) | (go_simp; rfl)); intro gn hg w1 hbox hb; have BN := am hbox; have SV1 := am (SV_below HS.out hb); have K1 := am hb; have B1 := am (below_step HB.out hb); have GN := am (show w.heap.size ≤ gn from Nat.le_of_eq hg.symm); have hz0 := bc hbox 0; have hz1 := bc hbox 1; have hz2 := bc hbox 2; have hz3 := bc hbox 3; have hf0 := blk_frozen hbox 0; have hf1 := blk_frozen hbox 1; have hf2 := blk_frozen hbox 2; have hf3 := blk_frozen hbox 3; clear hg hbox hb) | ((with_reducible refine gate_store (t := 95) (p := 9) rfl ?_); refine store_event (t := 95) (p := 9) (v := ?vo_1) (w1 := ((((w1.setCell ⟨gn, 0, none⟩ (.int .i64 x.f0)).setCell ⟨gn, 1, none⟩ (.int .i64 x.f1)).setCell ⟨gn, 2, none⟩ (.string x.f2)).setCell ⟨gn, 3, none⟩ (.int .i64 x.f3))) ?hg ?ho ?hn ?hr ?_; (case ho => rfl); (case hg => rfl); (case hn => rfl); (case hr => first | (go_simp; done) | (go_simp; rfl)); intro w2 hw; have BN2 := am (show w2.heap[gn]? = some (.cells #[.int .i64 x.f0, .int .i64 x.f1, .string x.f2, .int .i64 x.f3] 95 (0, 0)) from (by rw [hw]; refine blk_put (cs := #[.int .i64 x.f0, .int .i64 x.f1, .string x.f2, .int .i64 0]) ?_ 3 _ rfl; refine blk_put (cs := #[.int .i64 x.f0, .int .i64 x.f1, .string (⟨#[]⟩ : ByteArray), .int .i64 0]) ?_ 2 _ rfl; refine blk_put (cs := #[.int .i64 x.f0, .int .i64 0, .string (⟨#[]⟩ : ByteArray), .int .i64 0]) ?_ 1 _ rfl; refine blk_put (cs := #[.int .i64 0, .int .i64 0, .string (⟨#[]⟩ : ByteArray), .int .i64 0]) ?_ 0 _ rfl; exact BN.out)); have B12 := am (show Below w.heap.size w w2 from (by rw [hw]; exact below_set (below_set (below_set (below_set K1.out GN.out) GN.out) GN.out) GN.out)); clear hw hz0 hz1 hz2 hz3 hf0 hf1 hf2 hf3 SV1 K1 B1 BN; have SV2 := am (SV_below HS.out B12.out); have K2 := am (KT_below B12.out); have B2 := am (below_step HB.out B12.out); have hz0 := bc BN2.out 0; have hz1 := bc BN2.out 1; have hz2 := bc BN2.out 2; have hz3 := bc BN2.out 3) | ((with_reducible refine gate_callee (f := 100) rfl ?_); refine gl (some 28) Try.func100 #[.int .i64 x.f0] ?_; (with_reducible refine (impl_kidsOf.calls k x.f0 lo hi _ A1.out).mono ?_); rintro e w' ⟨rfl, ⟨nd, rfl⟩⟩; refine ⟨_, rfl, ?_⟩) | ((with_reducible refine gate_callee (f := 51) rfl ?_); refine gl (some 33) Try.func51 #[.int .i64 x.f0, .int .i64 1, .int .i64 26] ?_; (with_reducible refine (impl_within.calls x.f0 1 26 true _ A2.out).mono ?_); rintro e w' ⟨rfl, ⟨nd, rfl⟩⟩; refine ⟨_, rfl, ?_⟩) | (go_at_call 51; (with_reducible refine (impl_within.calls x.f3 lo hi true _ A3.out).mono ?_); rintro e w' ⟨rfl, ⟨nd, rfl⟩⟩) | (go_at_call 101; (refine (impl_fieldsRight.calls k x.f0 x.f1 x.f2 x.f3 true _ A4.out).mono ?_); rintro e w3 ⟨rfl, hb⟩; have B23 := am (below_step (show Below w2.heap.size w2 _ from (by repeat (first | exact Below.refl _ _ | apply below_alloc | apply pw_below_drewN | apply below_drew1))) hb); have SV3 := am (SV_below SV2.out B23.out); have B3 := am (below_step B2.out B23.out); have K3 := am (KT_trans K2.out (KT_below B23.out)); have BN3 := am (blk_below BN2.out B23.out); clear hb hz0 hz1 hz2 hz3; have hz0 := bc BN3.out 0; have hz1 := bc BN3.out 1; have hz2 := bc BN3.out 2; have hz3 := bc BN3.out 3) | (go_at_call 86; (refine (impl_survey_1.calls k x dp ns de b w0 _ g5 g6 HG5.out HG6.out B3.out SV3.out HL.out A5.out).mono ?_); rintro e w4 ⟨rfl, hs, hb, hk⟩; have SV4 := am hs; have B4 := am hb; have K4 := am (KT_trans K3.out hk); have BN4 := am (KT_blk hk BN3.out (by decide)); clear hs hb hk hz0 hz1 hz2 hz3; have hz0 := bc BN4.out 0; have hz1 := bc BN4.out 1; have hz2 := bc BN4.out 2; have hz3 := bc BN4.out 3))
               go_loopg [1, 56] k (fun kq v1 v56 w' => ∃ (at2 i : Int) (ns2 : List ByteArray) (de2 : Int), v1 = .int .i64 at2 ∧ v56 = .int .i64 i ∧ Aside0 (treeL kq l x i at2 dp ns2 de2 = some (r, ns', de')) ∧ Aside0 (kq ≤ k) ∧ Aside0 (SV w0 g5 g6 w' ns2 de2) ∧ Aside0 (Below w0.heap.size w0 w') ∧ Aside0 (KT w w') ∧ Aside0 (w'.heap[gn]? = some (.cells #[.int .i64 x.f0, .int .i64 x.f1, .string x.f2, .int .i64 x.f3] 95 (0, 0))))
               case atStart => exact ⟨wrap64 (at_ + 1), 0, namesF b x ns, mx de dp, (by first | rfl | (simp; done)), (by first | rfl | (simp; done)), HA0, ⟨Nat.le_refl _⟩, SV4, B4, K4, BN4⟩
               case round =>
                clear hx0 hx1 hx2 hx3 hz0 hz1 hz2 hz3 p5 q5
                obtain ⟨at2, i, ns2, de2, rfl, rfl, HA, HK1, HSl, HBl, HKl, HNl⟩ := hrel
                cases gk with
                | zero => exact absurd HA.out (by simp [treeL])
                | succ k1 =>
                 have H := HA.out
                 clear HA
                 rw [treeL] at H
                 have hz0 := bc HNl.out 0
                 have hz1 := bc HNl.out 1
                 have hz2 := bc HNl.out 2
                 have hz3 := bc HNl.out 3
                 by_cases d1 : i < x.f3
                 · rw [if_pos d1] at H
                   have d1b : decide (i < x.f3) = true := decide_eq_true d1
                   clear d1
                   by_cases d2 : at2 ≥ (l.length : Int)
                   · rw [if_pos d2] at H
                     simp only [Option.some.injEq, Prod.mk.injEq] at H
                     obtain ⟨rfl, rfl, rfl⟩ := H
                     have d2b : decide ((l.length : Int) ≤ at2) = true := decide_eq_true d2
                     clear d2
                     go_upto_region 12 with (fail)
                     go_quiet ((fail))
                     go_wp2
                     go_ret
                     exact ⟨rfl, SV_below HSl.out (by repeat (first | exact Below.refl _ _ | apply below_alloc | apply pw_below_drewN | apply below_drew1)), below_step HBl.out (by repeat (first | exact Below.refl _ _ | apply below_alloc | apply pw_below_drewN | apply below_drew1)), KT_trans HKl.out (KT_below (by repeat (first | exact Below.refl _ _ | apply below_alloc | apply pw_below_drewN | apply below_drew1)))⟩
                   · rw [if_neg d2] at H
                     have d2b : decide ((l.length : Int) ≤ at2) = false := decide_eq_false d2
                     have d2p : at2 < (l.length : Int) := by omega
                     clear d2
                     by_cases d3 : 0 ≤ at2
                     · rw [if_pos d3] at H
                       obtain ⟨y, hy⟩ : ∃ y, y = rd_T95 l at2 := ⟨_, rfl⟩
                       rw [← hy] at H
                       obtain ⟨ad2, e2_, hy0, hy1, hy2, hy3⟩ := at_T95 (Kd.C_below HR.out HBl.out) at2 d3 d2p
                       injection e2_ with e2_
                       subst e2_
                       rw [← hy] at hy0 hy1 hy2 hy3
                       have HY := am hy
                       clear hy
                       have p6 : (0 ≤ (at2 : Int)) = True := eq_true d3
                       have q6 : ((at2 : Int) < (l.length : Int)) = True := eq_true d2p
                       clear d3 d2p
                       obtain ⟨t5, AK0, H⟩ := Option.bind_eq_some_iff.mp H
                       have AK := am AK0
                       clear AK0
                       by_cases d4 : t5 = true
                       · subst d4
                         rw [if_pos rfl] at H
                         obtain ⟨⟨r3, ns3, de3⟩, AR0, H⟩ := Option.bind_eq_some_iff.mp H
                         have AR := am AR0
                         clear AR0
                         dsimp only at H
                         by_cases d5 : r3 < 0
                         · rw [if_pos d5] at H
                           simp only [Option.some.injEq, Prod.mk.injEq] at H
                           obtain ⟨rfl, rfl, rfl⟩ := H
                           have d5b : decide (r3 < 0) = true := decide_eq_true d5
                           clear d5
                           go_upto_region 12 with (fail)
                           go_still_tail 11, (by kernel_rfl)
                           change wpList _ _ _ _ _ wr.drew
                           have WB_ : Below wr.heap.size wr wr.drew := below_drew1 (Below.refl _ _)
                           generalize wr.drew = w5 at WB_ ⊢
                           go_wp2_with (first | (go_at_call 102; (refine (impl_isKid.calls x.f0 x.f1 x.f2 x.f3 i y.f0 y.f1 y.f2 y.f3 true _ AK.out).mono ?_); rintro e w6 ⟨rfl, hb⟩; have B56 := am (below_step (show Below wr.heap.size wr _ from WB_) hb); have SV6 := am (SV_below HSl.out B56.out); have B6 := am (below_step HBl.out B56.out); have K6 := am (KT_trans HKl.out (KT_below B56.out)); have BN6 := am (blk_below HNl.out B56.out); clear hb) | (go_at_call 85; (refine (IH k1 (by have := HK1.out; omega) (some ad) c l at2 (wrap64 (dp + 1)) ns2 de2 r3 ns3 de3 w0 _ g5 g6 HG5.out HG6.out B6.out SV6.out HR.out AR.out).mono ?_); rintro e w7 ⟨rfl, hs, hb, hk⟩; have SV7 := am hs; have B7 := am hb; have K7 := am (KT_trans K6.out hk); have BN7 := am (KT_blk hk BN6.out (by decide)); clear hs hb hk))
                           go_ret
                           exact ⟨rfl, SV_below SV7.out (by repeat (first | exact Below.refl _ _ | apply below_alloc | apply pw_below_drewN | apply below_drew1)), below_step B7.out (by repeat (first | exact Below.refl _ _ | apply below_alloc | apply pw_below_drewN | apply below_drew1)), KT_trans K7.out (KT_below (by repeat (first | exact Below.refl _ _ | apply below_alloc | apply pw_below_drewN | apply below_drew1)))⟩
                         · rw [if_neg d5] at H
                           have d5b : decide (r3 < 0) = false := decide_eq_false d5
                           have HA := am H
                           clear d5 H
                           go_upto_region 12 with (fail)
                           go_still_tail 11, (by kernel_rfl)
                           change wpList _ _ _ _ _ wr.drew
                           have WB_ : Below wr.heap.size wr wr.drew := below_drew1 (Below.refl _ _)
                           generalize wr.drew = w5 at WB_ ⊢
                           go_wp2_with (first | (go_at_call 102; (refine (impl_isKid.calls x.f0 x.f1 x.f2 x.f3 i y.f0 y.f1 y.f2 y.f3 true _ AK.out).mono ?_); rintro e w6 ⟨rfl, hb⟩; have B56 := am (below_step (show Below wr.heap.size wr _ from WB_) hb); have SV6 := am (SV_below HSl.out B56.out); have B6 := am (below_step HBl.out B56.out); have K6 := am (KT_trans HKl.out (KT_below B56.out)); have BN6 := am (blk_below HNl.out B56.out); clear hb) | (go_at_call 85; (refine (IH k1 (by have := HK1.out; omega) (some ad) c l at2 (wrap64 (dp + 1)) ns2 de2 r3 ns3 de3 w0 _ g5 g6 HG5.out HG6.out B6.out SV6.out HR.out AR.out).mono ?_); rintro e w7 ⟨rfl, hs, hb, hk⟩; have SV7 := am hs; have B7 := am hb; have K7 := am (KT_trans K6.out hk); have BN7 := am (KT_blk hk BN6.out (by decide)); clear hs hb hk))
                           go_roundg k1
                           case measure => have := HK1.out; omega
                           case rel => exact ⟨r3, wrap64 (i + 1), ns3, de3, (by first | rfl | (simp; done)), (by first | rfl | (simp; done)), HA, ⟨by have := HK1.out; omega⟩, SV7, B7, K7, BN7⟩
                       · rw [if_neg d4] at H
                         obtain rfl : t5 = false := Bool.eq_false_iff.mpr d4
                         clear d4
                         simp only [Option.some.injEq, Prod.mk.injEq] at H
                         obtain ⟨rfl, rfl, rfl⟩ := H
                         go_upto_region 12 with (fail)
                         go_still_tail 11, (by kernel_rfl)
                         change wpList _ _ _ _ _ wr.drew
                         have WB_ : Below wr.heap.size wr wr.drew := below_drew1 (Below.refl _ _)
                         generalize wr.drew = w5 at WB_ ⊢
                         go_wp2_with (first | (go_at_call 102; (refine (impl_isKid.calls x.f0 x.f1 x.f2 x.f3 i y.f0 y.f1 y.f2 y.f3 false _ AK.out).mono ?_); rintro e w6 ⟨rfl, hb⟩; have B56 := am (below_step (show Below wr.heap.size wr _ from WB_) hb); have SV6 := am (SV_below HSl.out B56.out); have B6 := am (below_step HBl.out B56.out); have K6 := am (KT_trans HKl.out (KT_below B56.out)); have BN6 := am (blk_below HNl.out B56.out); clear hb))
                         go_ret
                         exact ⟨rfl, SV_below SV6.out (by repeat (first | exact Below.refl _ _ | apply below_alloc | apply pw_below_drewN | apply below_drew1)), below_step B6.out (by repeat (first | exact Below.refl _ _ | apply below_alloc | apply pw_below_drewN | apply below_drew1)), KT_trans K6.out (KT_below (by repeat (first | exact Below.refl _ _ | apply below_alloc | apply pw_below_drewN | apply below_drew1)))⟩
                     · rw [if_neg d3] at H
                       cases H
                 · rw [if_neg d1] at H
                   have d1b : decide (i < x.f3) = false := decide_eq_false d1
                   clear d1
                   simp only [Option.some.injEq, Prod.mk.injEq] at H
                   obtain ⟨rfl, rfl, rfl⟩ := H
                   go_wp2
                   go_ret
                   exact ⟨rfl, HSl.out, HBl.out, HKl.out⟩
             · rw [if_neg c7] at h
               cases h
           · rw [if_neg c6] at h
             obtain rfl : t3 = false := Bool.eq_false_iff.mpr c6
             clear c6
             simp only [Option.some.injEq, Prod.mk.injEq] at h
             obtain ⟨rfl, rfl, rfl⟩ := h
             go_enter Try.func85, Try.ntmps85
             go_wp2_with (first | ((with_reducible refine gate_dst (N := 9) rfl ?_); refine box_event ?hg (N := 9) ?hd (cs := #[.int .i64 0, .int .i64 0, .string (⟨#[]⟩ : ByteArray), .int .i64 0]) (t := 95) ?hr ?_; (case hd => rfl); (case hg => rfl); (case hr => first | (go_simp; done) | (go_simp; rfl)); intro gn hg w1 hbox hb; have BN := am hbox; have SV1 := am (SV_below HS.out hb); have K1 := am hb; have B1 := am (below_step HB.out hb); have GN := am (show w.heap.size ≤ gn from Nat.le_of_eq hg.symm); have hz0 := bc hbox 0; have hz1 := bc hbox 1; have hz2 := bc hbox 2; have hz3 := bc hbox 3; have hf0 := blk_frozen hbox 0; have hf1 := blk_frozen hbox 1; have hf2 := blk_frozen hbox 2; have hf3 := blk_frozen hbox 3; clear hg hbox hb) | ((with_reducible refine gate_store (t := 95) (p := 9) rfl ?_); refine store_event (t := 95) (p := 9) (v := ?vo_1) (w1 := ((((w1.setCell ⟨gn, 0, none⟩ (.int .i64 x.f0)).setCell ⟨gn, 1, none⟩ (.int .i64 x.f1)).setCell ⟨gn, 2, none⟩ (.string x.f2)).setCell ⟨gn, 3, none⟩ (.int .i64 x.f3))) ?hg ?ho ?hn ?hr ?_; (case ho => rfl); (case hg => rfl); (case hn => rfl); (case hr => first | (go_simp; done) | (go_simp; rfl)); intro w2 hw; have BN2 := am (show w2.heap[gn]? = some (.cells #[.int .i64 x.f0, .int .i64 x.f1, .string x.f2, .int .i64 x.f3] 95 (0, 0)) from (by rw [hw]; refine blk_put (cs := #[.int .i64 x.f0, .int .i64 x.f1, .string x.f2, .int .i64 0]) ?_ 3 _ rfl; refine blk_put (cs := #[.int .i64 x.f0, .int .i64 x.f1, .string (⟨#[]⟩ : ByteArray), .int .i64 0]) ?_ 2 _ rfl; refine blk_put (cs := #[.int .i64 x.f0, .int .i64 0, .string (⟨#[]⟩ : ByteArray), .int .i64 0]) ?_ 1 _ rfl; refine blk_put (cs := #[.int .i64 0, .int .i64 0, .string (⟨#[]⟩ : ByteArray), .int .i64 0]) ?_ 0 _ rfl; exact BN.out)); have B12 := am (show Below w.heap.size w w2 from (by rw [hw]; exact below_set (below_set (below_set (below_set K1.out GN.out) GN.out) GN.out) GN.out)); clear hw hz0 hz1 hz2 hz3 hf0 hf1 hf2 hf3 SV1 K1 B1 BN; have SV2 := am (SV_below HS.out B12.out); have K2 := am (KT_below B12.out); have B2 := am (below_step HB.out B12.out); have hz0 := bc BN2.out 0; have hz1 := bc BN2.out 1; have hz2 := bc BN2.out 2; have hz3 := bc BN2.out 3) | ((with_reducible refine gate_callee (f := 100) rfl ?_); refine gl (some 28) Try.func100 #[.int .i64 x.f0] ?_; (with_reducible refine (impl_kidsOf.calls k x.f0 lo hi _ A1.out).mono ?_); rintro e w' ⟨rfl, ⟨nd, rfl⟩⟩; refine ⟨_, rfl, ?_⟩) | ((with_reducible refine gate_callee (f := 51) rfl ?_); refine gl (some 33) Try.func51 #[.int .i64 x.f0, .int .i64 1, .int .i64 26] ?_; (with_reducible refine (impl_within.calls x.f0 1 26 true _ A2.out).mono ?_); rintro e w' ⟨rfl, ⟨nd, rfl⟩⟩; refine ⟨_, rfl, ?_⟩) | (go_at_call 51; (with_reducible refine (impl_within.calls x.f3 lo hi true _ A3.out).mono ?_); rintro e w' ⟨rfl, ⟨nd, rfl⟩⟩) | (go_at_call 101; (refine (impl_fieldsRight.calls k x.f0 x.f1 x.f2 x.f3 false _ A4.out).mono ?_); rintro e w3 ⟨rfl, hb⟩; have B23 := am (below_step (show Below w2.heap.size w2 _ from (by repeat (first | exact Below.refl _ _ | apply below_alloc | apply pw_below_drewN | apply below_drew1))) hb); have SV3 := am (SV_below SV2.out B23.out); have B3 := am (below_step B2.out B23.out); have K3 := am (KT_trans K2.out (KT_below B23.out)); have BN3 := am (blk_below BN2.out B23.out); clear hb hz0 hz1 hz2 hz3; have hz0 := bc BN3.out 0; have hz1 := bc BN3.out 1; have hz2 := bc BN3.out 2; have hz3 := bc BN3.out 3))
             go_ret
             exact ⟨rfl, SV3.out, B3.out, K3.out⟩
         · rw [if_neg c5] at h
           obtain rfl : t2 = false := Bool.eq_false_iff.mpr c5
           clear c5
           simp only [Option.some.injEq, Prod.mk.injEq] at h
           obtain ⟨rfl, rfl, rfl⟩ := h
           go_enter Try.func85, Try.ntmps85
           go_wp2_with (first | ((with_reducible refine gate_dst (N := 9) rfl ?_); refine box_event ?hg (N := 9) ?hd (cs := #[.int .i64 0, .int .i64 0, .string (⟨#[]⟩ : ByteArray), .int .i64 0]) (t := 95) ?hr ?_; (case hd => rfl); (case hg => rfl); (case hr => first | (go_simp; done) | (go_simp; rfl)); intro gn hg w1 hbox hb; have BN := am hbox; have SV1 := am (SV_below HS.out hb); have K1 := am hb; have B1 := am (below_step HB.out hb); have GN := am (show w.heap.size ≤ gn from Nat.le_of_eq hg.symm); have hz0 := bc hbox 0; have hz1 := bc hbox 1; have hz2 := bc hbox 2; have hz3 := bc hbox 3; have hf0 := blk_frozen hbox 0; have hf1 := blk_frozen hbox 1; have hf2 := blk_frozen hbox 2; have hf3 := blk_frozen hbox 3; clear hg hbox hb) | ((with_reducible refine gate_store (t := 95) (p := 9) rfl ?_); refine store_event (t := 95) (p := 9) (v := ?vo_1) (w1 := ((((w1.setCell ⟨gn, 0, none⟩ (.int .i64 x.f0)).setCell ⟨gn, 1, none⟩ (.int .i64 x.f1)).setCell ⟨gn, 2, none⟩ (.string x.f2)).setCell ⟨gn, 3, none⟩ (.int .i64 x.f3))) ?hg ?ho ?hn ?hr ?_; (case ho => rfl); (case hg => rfl); (case hn => rfl); (case hr => first | (go_simp; done) | (go_simp; rfl)); intro w2 hw; have BN2 := am (show w2.heap[gn]? = some (.cells #[.int .i64 x.f0, .int .i64 x.f1, .string x.f2, .int .i64 x.f3] 95 (0, 0)) from (by rw [hw]; refine blk_put (cs := #[.int .i64 x.f0, .int .i64 x.f1, .string x.f2, .int .i64 0]) ?_ 3 _ rfl; refine blk_put (cs := #[.int .i64 x.f0, .int .i64 x.f1, .string (⟨#[]⟩ : ByteArray), .int .i64 0]) ?_ 2 _ rfl; refine blk_put (cs := #[.int .i64 x.f0, .int .i64 0, .string (⟨#[]⟩ : ByteArray), .int .i64 0]) ?_ 1 _ rfl; refine blk_put (cs := #[.int .i64 0, .int .i64 0, .string (⟨#[]⟩ : ByteArray), .int .i64 0]) ?_ 0 _ rfl; exact BN.out)); have B12 := am (show Below w.heap.size w w2 from (by rw [hw]; exact below_set (below_set (below_set (below_set K1.out GN.out) GN.out) GN.out) GN.out)); clear hw hz0 hz1 hz2 hz3 hf0 hf1 hf2 hf3 SV1 K1 B1 BN; have SV2 := am (SV_below HS.out B12.out); have K2 := am (KT_below B12.out); have B2 := am (below_step HB.out B12.out); have hz0 := bc BN2.out 0; have hz1 := bc BN2.out 1; have hz2 := bc BN2.out 2; have hz3 := bc BN2.out 3) | ((with_reducible refine gate_callee (f := 100) rfl ?_); refine gl (some 28) Try.func100 #[.int .i64 x.f0] ?_; (with_reducible refine (impl_kidsOf.calls k x.f0 lo hi _ A1.out).mono ?_); rintro e w' ⟨rfl, ⟨nd, rfl⟩⟩; refine ⟨_, rfl, ?_⟩) | ((with_reducible refine gate_callee (f := 51) rfl ?_); refine gl (some 33) Try.func51 #[.int .i64 x.f0, .int .i64 1, .int .i64 26] ?_; (with_reducible refine (impl_within.calls x.f0 1 26 true _ A2.out).mono ?_); rintro e w' ⟨rfl, ⟨nd, rfl⟩⟩; refine ⟨_, rfl, ?_⟩) | (go_at_call 51; (with_reducible refine (impl_within.calls x.f3 lo hi false _ A3.out).mono ?_); rintro e w' ⟨rfl, ⟨nd, rfl⟩⟩))
           go_ret
           exact ⟨rfl, SV_below SV2.out (by repeat (first | exact Below.refl _ _ | apply pw_below_drewN)), by repeat (first | exact B2.out | apply pw_below_drewN), KT_trans K2.out (KT_below (by repeat (first | exact Below.refl _ _ | apply pw_below_drewN)))⟩
       · rw [if_neg c4] at h
         obtain rfl : t1 = false := Bool.eq_false_iff.mpr c4
         clear c4
         simp only [Option.some.injEq, Prod.mk.injEq] at h
         obtain ⟨rfl, rfl, rfl⟩ := h
         go_enter Try.func85, Try.ntmps85
         go_wp2_with (first | ((with_reducible refine gate_dst (N := 9) rfl ?_); refine box_event ?hg (N := 9) ?hd (cs := #[.int .i64 0, .int .i64 0, .string (⟨#[]⟩ : ByteArray), .int .i64 0]) (t := 95) ?hr ?_; (case hd => rfl); (case hg => rfl); (case hr => first | (go_simp; done) | (go_simp; rfl)); intro gn hg w1 hbox hb; have BN := am hbox; have SV1 := am (SV_below HS.out hb); have K1 := am hb; have B1 := am (below_step HB.out hb); have GN := am (show w.heap.size ≤ gn from Nat.le_of_eq hg.symm); have hz0 := bc hbox 0; have hz1 := bc hbox 1; have hz2 := bc hbox 2; have hz3 := bc hbox 3; have hf0 := blk_frozen hbox 0; have hf1 := blk_frozen hbox 1; have hf2 := blk_frozen hbox 2; have hf3 := blk_frozen hbox 3; clear hg hbox hb) | ((with_reducible refine gate_store (t := 95) (p := 9) rfl ?_); refine store_event (t := 95) (p := 9) (v := ?vo_1) (w1 := ((((w1.setCell ⟨gn, 0, none⟩ (.int .i64 x.f0)).setCell ⟨gn, 1, none⟩ (.int .i64 x.f1)).setCell ⟨gn, 2, none⟩ (.string x.f2)).setCell ⟨gn, 3, none⟩ (.int .i64 x.f3))) ?hg ?ho ?hn ?hr ?_; (case ho => rfl); (case hg => rfl); (case hn => rfl); (case hr => first | (go_simp; done) | (go_simp; rfl)); intro w2 hw; have BN2 := am (show w2.heap[gn]? = some (.cells #[.int .i64 x.f0, .int .i64 x.f1, .string x.f2, .int .i64 x.f3] 95 (0, 0)) from (by rw [hw]; refine blk_put (cs := #[.int .i64 x.f0, .int .i64 x.f1, .string x.f2, .int .i64 0]) ?_ 3 _ rfl; refine blk_put (cs := #[.int .i64 x.f0, .int .i64 x.f1, .string (⟨#[]⟩ : ByteArray), .int .i64 0]) ?_ 2 _ rfl; refine blk_put (cs := #[.int .i64 x.f0, .int .i64 0, .string (⟨#[]⟩ : ByteArray), .int .i64 0]) ?_ 1 _ rfl; refine blk_put (cs := #[.int .i64 0, .int .i64 0, .string (⟨#[]⟩ : ByteArray), .int .i64 0]) ?_ 0 _ rfl; exact BN.out)); have B12 := am (show Below w.heap.size w w2 from (by rw [hw]; exact below_set (below_set (below_set (below_set K1.out GN.out) GN.out) GN.out) GN.out)); clear hw hz0 hz1 hz2 hz3 hf0 hf1 hf2 hf3 SV1 K1 B1 BN; have SV2 := am (SV_below HS.out B12.out); have K2 := am (KT_below B12.out); have B2 := am (below_step HB.out B12.out); have hz0 := bc BN2.out 0; have hz1 := bc BN2.out 1; have hz2 := bc BN2.out 2; have hz3 := bc BN2.out 3) | ((with_reducible refine gate_callee (f := 100) rfl ?_); refine gl (some 28) Try.func100 #[.int .i64 x.f0] ?_; (with_reducible refine (impl_kidsOf.calls k x.f0 lo hi _ A1.out).mono ?_); rintro e w' ⟨rfl, ⟨nd, rfl⟩⟩; refine ⟨_, rfl, ?_⟩) | ((with_reducible refine gate_callee (f := 51) rfl ?_); refine gl (some 33) Try.func51 #[.int .i64 x.f0, .int .i64 1, .int .i64 26] ?_; (with_reducible refine (impl_within.calls x.f0 1 26 false _ A2.out).mono ?_); rintro e w' ⟨rfl, ⟨nd, rfl⟩⟩; refine ⟨_, rfl, ?_⟩))
         go_ret
         exact ⟨rfl, SV_below SV2.out (by repeat (first | exact Below.refl _ _ | apply pw_below_drewN)), by repeat (first | exact B2.out | apply pw_below_drewN), KT_trans K2.out (KT_below (by repeat (first | exact Below.refl _ _ | apply pw_below_drewN)))⟩
     · rw [if_neg c3] at h
       cases h
/-! ### survey -/
def impl_survey.f (k : Nat) (l0 : List S95) : Option (List ByteArray × Int × Bool) := if l0.length = 0 then (some ([], 0, false)) else (if 200 < l0.length then (some ([], 0, false)) else (if (rd_T95 l0 0).f0 = 1 then ((treeF k l0 0 1 [] 0).bind fun r => (some (r.2.1, r.2.2, decide (r.1 = (l0.length : Int) ∧ r.2.1.length ≤ 8)))) else (some ([], 0, false))))
theorem treeB.mono : ∀ k, (∀ y0 y1 y2 y3 y4, LeO (treeF k y0 y1 y2 y3 y4) (treeF (k + 1) y0 y1 y2 y3 y4)) ∧ (∀ y0 y1 y2 y3 y4 y5 y6, LeO (treeL k y0 y1 y2 y3 y4 y5 y6) (treeL (k + 1) y0 y1 y2 y3 y4 y5 y6))
 | 0 => ⟨fun _ _ _ _ _ r h => by simp [treeF] at h, fun _ _ _ _ _ _ _ r h => by simp [treeL] at h⟩
 | k + 1 => by
  obtain ⟨ih0, ih1⟩ := treeB.mono k
  refine ⟨?_, ?_⟩
  · intro y0 y1 y2 y3 y4
    rw [treeF, treeF]
    repeat' first
      | (with_reducible exact ih1 _ _ _ _ _ _ _)
      | (with_reducible exact impl_kidsOf.mono _ _)
      | (with_reducible exact impl_fieldsRight.mono _ _ _ _ _)
      | (with_reducible exact slices_Contains_sstring_string.mono _ _ _)
      | (with_reducible exact LeO.refl _)
      | (with_reducible exact LeO.none _)
      | (with_reducible refine LeO.ite ?_ ?_)
      | (with_reducible refine LeO.bind ?_ (fun _ => ?_))
  · intro y0 y1 y2 y3 y4 y5 y6
    rw [treeL, treeL]
    repeat' first
      | (with_reducible exact ih0 _ _ _ _ _)
      | (with_reducible exact ih1 _ _ _ _ _ _ _)
      | (with_reducible exact LeO.refl _)
      | (with_reducible exact LeO.none _)
      | (with_reducible refine LeO.ite ?_ ?_)
      | (with_reducible refine LeO.bind ?_ (fun _ => ?_))
theorem impl_survey.mono : ∀ a0 k, LeO (impl_survey.f k a0) (impl_survey.f (k + 1) a0) := by
 intro a0 k
 unfold impl_survey.f
 repeat' first
   | (with_reducible exact (treeB.mono k).1 _ _ _ _ _)
   | (with_reducible exact LeO.refl _)
   | (with_reducible refine LeO.ite ?_ ?_)
   | (with_reducible refine LeO.bind ?_ (fun _ => ?_))
theorem impl_survey.calls (k : Nat) (A0 : Option Addr) (c0 : Nat) (l0 : List (S95)) (r1 : List ByteArray) (r2 : Int) (r3 : Bool) (w : World) (hr0 : Kd.C k95 w A0 l0.length l0) (hc0 : l0.length ≤ c0) (h : impl_survey.f k l0 = some (r1, r2, r3)) :
  Calls Try.prog 62 #[.slice A0 l0.length c0] w fun e w' => ∃ v0_ : Value, e = .returned (.tuple #[v0_, .int .i64 r2, .bool r3]) ∧ Kd.R Kd.string 9 w' w.heap.size (fun _ => True) v0_ r1 ∧ Below w.heap.size w w' := by
 have hu95 := Try.underlying95
 have HR0 := am hr0
 have HC0 := am hc0
 clear hr0 hc0
 have HB := am (Below.refl w.heap.size w)
 unfold impl_survey.f at h
 by_cases c1 : l0.length = 0
 · rw [if_pos c1] at h
   simp only [Option.some.injEq, Prod.mk.injEq] at h
   obtain ⟨rfl, rfl, rfl⟩ := h
   have c1b : ((l0.length : Int) == 0) = true := by rw [beq_iff_eq]; omega
   have c1c : (l0.length == 0) = true := by rw [beq_iff_eq]; exact c1
   have HC1 := am c1
   clear c1
   go_enter Try.func62, Try.ntmps62
   go_wp2
   go_ret3
   exact ⟨_, rfl, Kd.R_nil _ _ _ _ _, bl HB.out⟩
 · rw [if_neg c1] at h
   have c1b : ((l0.length : Int) == 0) = false := by rw [beq_eq_false_iff_ne]; omega
   have c1c : (l0.length == 0) = false := by rw [beq_eq_false_iff_ne]; exact c1
   by_cases c2 : 200 < l0.length
   · rw [if_pos c2] at h
     simp only [Option.some.injEq, Prod.mk.injEq] at h
     obtain ⟨rfl, rfl, rfl⟩ := h
     have c2b : decide ((200 : Int) < (l0.length : Int)) = true := decide_eq_true (by omega)
     have c2c : decide (200 < l0.length) = true := decide_eq_true c2
     clear c1 c2
     go_enter Try.func62, Try.ntmps62
     go_wp2
     go_ret3
     exact ⟨_, rfl, Kd.R_nil _ _ _ _ _, bl HB.out⟩
   · rw [if_neg c2] at h
     have c2b : decide ((200 : Int) < (l0.length : Int)) = false := decide_eq_false (by omega)
     have c2c : decide (200 < l0.length) = false := decide_eq_false c2
     obtain ⟨ad, e_, hx0, _, _, _⟩ := at_T95 HR0.out 0 (by omega) (by omega)
     subst e_
     have hx0b : w.cell? ad = some (.int .i64 (rd_T95 l0 0).f0) := by simpa [Addr.add] using hx0
     clear hx0
     have p0 : ((0 : Int) < (l0.length : Int)) = True := eq_true (by omega)
     have p1 : (0 < l0.length) = True := eq_true (by omega)
     clear c1 c2
     obtain ⟨f0, hf0⟩ : ∃ f0, f0 = (rd_T95 l0 0).f0 := ⟨_, rfl⟩
     rw [← hf0] at hx0b h
     clear hf0
     by_cases c3 : f0 = 1
     · rw [if_pos c3] at h
       have c3b : (f0 == 1) = true := by rw [beq_iff_eq]; exact c3
       have c3c : (f0 != 1) = false := by unfold bne; rw [c3b]; rfl
       clear c3
       obtain ⟨⟨r1_, ns, de⟩, AT0, hq⟩ := Option.bind_eq_some_iff.mp h
       clear h
       have AT := am AT0
       clear AT0
       simp only [Option.some.injEq, Prod.mk.injEq] at hq
       obtain ⟨rfl, rfl, h⟩ := hq
       by_cases c4 : r1_ = (l0.length : Int)
       · have c4b : (r1_ == (l0.length : Int)) = true := by rw [beq_iff_eq]; exact c4
         by_cases c5 : ns.length ≤ 8
         · rw [decide_eq_true (⟨c4, c5⟩ : r1_ = (l0.length : Int) ∧ ns.length ≤ 8)] at h
           subst h
           have c5b : decide ((ns.length : Int) ≤ 8) = true := decide_eq_true (by omega)
           have c5c : decide (ns.length ≤ 8) = true := decide_eq_true c5
           clear c4 c5
           go_enter Try.func62, Try.ntmps62
           go_wp2_with (first | ((with_reducible refine gate_dst (N := 23) rfl ?_); refine Kd.R_lit Kd.string _ 9 ?hg (N := 23) ?hd (xs := ([] : List ByteArray)) (inner := []) (ok := fun _ => True) (okp := fun _ => True) ?hr ?hp (fun _ hk => hk) trivial (Below.refl _ _) (Nat.le_refl _) (by simp) ?_; (case hd => rfl); (case hg => rfl); (case hr => first | (go_simp; done) | (go_simp; rfl)); (case hp => exact (Reps.none _ _)); intro v1 w1 ho1 hb hg_ hnew_; obtain ⟨A1_, c1_, e1_⟩ := Kd.R_slice ho1; subst e1_; have HO1 := am (Kd.R_lower ho1 (below_size (bl HB.out))); replace HB := am (below_step (bl HB.out) hb); clear hg_ hnew_ hb ho1) | ((with_reducible refine gate_dst (N := 5) rfl ?_); refine box_event ?hg (N := 5) ?hd (cs := #[.slice none 0 0]) (t := 57) ?hr ?_; (case hd => rfl); (case hg => rfl); (case hr => first | (go_simp; done) | (go_simp; rfl)); intro g5 hg w2 hbox hb; have BK5 := am hbox; have GE5 := am (show w.heap.size ≤ g5 from (by rw [hg]; exact below_size HB.out)); replace HO1 := am (Kd.R_below HO1.out hb); replace HB := am (below_step HB.out hb); clear hg hbox hb) | ((with_reducible refine gate_dst (N := 6) rfl ?_); refine box_event ?hg (N := 6) ?hd (cs := #[.int .i64 0]) (t := 2) ?hr ?_; (case hd => rfl); (case hg => rfl); (case hr => first | (go_simp; done) | (go_simp; rfl)); intro g6 hg w3 hbox hb; have BK6 := am hbox; have GE6 := am (show w.heap.size ≤ g6 from (by rw [hg]; exact below_size HB.out)); replace HO1 := am (Kd.R_below HO1.out hb); replace BK5 := am (blk_below BK5.out hb); replace HB := am (below_step HB.out hb); have hz5 := bc BK5.out 0; have hf5 := blk_frozen BK5.out 0; have hz6 := bc BK6.out 0; have hf6 := blk_frozen BK6.out 0; clear hg hbox hb) | ((with_reducible refine gate_store (t := 57) (p := 5) rfl ?_); refine store_event (t := 57) (p := 5) (v := ?vo_1) (w1 := (w3.setCell ⟨g5, 0, none⟩ (.slice A1_ 0 c1_))) ?hg ?ho ?hn ?hr ?_; (case ho => rfl); (case hg => rfl); (case hn => rfl); (case hr => first | (go_simp; done) | (go_simp; rfl)); intro w4 hw; have SV4 := am (show SV w g5 g6 w4 [] 0 from (by rw [hw]; exact SV_names (names := []) ⟨BK6.out, _, BK5.out, Kd.R_nil _ _ _ _ _⟩ HO1.out)); have B4 := am (show Below w.heap.size w w4 from (by rw [hw]; exact below_set HB.out GE5.out)); clear hw hz5 hz6 hf5 hf6; have hz6 := bc SV4.out.1 0; have hf6 := blk_frozen SV4.out.1 0) | ((with_reducible refine gate_store (t := 2) (p := 6) rfl ?_); refine store_event (t := 2) (p := 6) (v := ?vo_2) (w1 := (w4.setCell ⟨g6, 0, none⟩ (.int .i64 0))) ?hg ?ho ?hn ?hr ?_; (case ho => rfl); (case hg => rfl); (case hn => rfl); (case hr => first | (go_simp; done) | (go_simp; rfl)); intro w5 hw; have SV5 := am (show SV w g5 g6 w5 [] 0 from (by rw [hw]; exact SV_deep SV4.out 0)); have B5 := am (show Below w.heap.size w w5 from (by rw [hw]; exact below_set B4.out GE6.out)); clear hw hz6 hf6) | (go_at_call 85; (refine (impl_tree.calls k (some ad) c0 l0 0 1 [] 0 r1_ ns de w _ g5 g6 GE5.out GE6.out B5.out SV5.out HR0.out AT.out).mono ?_); rintro e w6 ⟨rfl, hs, hb, _⟩; have SV6 := am hs; have B6 := am hb; obtain ⟨hd6, vn, hn6, hr6⟩ := hs; have HR6 := am hr6; have hz6 := bc hd6 0; have hz5 := bc hn6 0; clear hd6 hn6 hr6 hb; obtain ⟨An, cn, en⟩ := Kd.R_slice HR6.out; subst en))
           go_quiet ((fail))
           go_wp2
           go_ret3
           exact ⟨_, rfl, Kd.R_below HR6.out (by repeat (first | exact Below.refl _ _ | apply below_alloc | apply pw_below_drewN | apply below_drew1)), below_step B6.out (by repeat (first | exact Below.refl _ _ | apply below_alloc | apply pw_below_drewN | apply below_drew1))⟩
         · rw [decide_eq_false (fun q : r1_ = (l0.length : Int) ∧ ns.length ≤ 8 => c5 q.2)] at h
           subst h
           have c5b : decide ((ns.length : Int) ≤ 8) = false := decide_eq_false (by omega)
           have c5c : decide (ns.length ≤ 8) = false := decide_eq_false c5
           clear c4 c5
           go_enter Try.func62, Try.ntmps62
           go_wp2_with (first | ((with_reducible refine gate_dst (N := 23) rfl ?_); refine Kd.R_lit Kd.string _ 9 ?hg (N := 23) ?hd (xs := ([] : List ByteArray)) (inner := []) (ok := fun _ => True) (okp := fun _ => True) ?hr ?hp (fun _ hk => hk) trivial (Below.refl _ _) (Nat.le_refl _) (by simp) ?_; (case hd => rfl); (case hg => rfl); (case hr => first | (go_simp; done) | (go_simp; rfl)); (case hp => exact (Reps.none _ _)); intro v1 w1 ho1 hb hg_ hnew_; obtain ⟨A1_, c1_, e1_⟩ := Kd.R_slice ho1; subst e1_; have HO1 := am (Kd.R_lower ho1 (below_size (bl HB.out))); replace HB := am (below_step (bl HB.out) hb); clear hg_ hnew_ hb ho1) | ((with_reducible refine gate_dst (N := 5) rfl ?_); refine box_event ?hg (N := 5) ?hd (cs := #[.slice none 0 0]) (t := 57) ?hr ?_; (case hd => rfl); (case hg => rfl); (case hr => first | (go_simp; done) | (go_simp; rfl)); intro g5 hg w2 hbox hb; have BK5 := am hbox; have GE5 := am (show w.heap.size ≤ g5 from (by rw [hg]; exact below_size HB.out)); replace HO1 := am (Kd.R_below HO1.out hb); replace HB := am (below_step HB.out hb); clear hg hbox hb) | ((with_reducible refine gate_dst (N := 6) rfl ?_); refine box_event ?hg (N := 6) ?hd (cs := #[.int .i64 0]) (t := 2) ?hr ?_; (case hd => rfl); (case hg => rfl); (case hr => first | (go_simp; done) | (go_simp; rfl)); intro g6 hg w3 hbox hb; have BK6 := am hbox; have GE6 := am (show w.heap.size ≤ g6 from (by rw [hg]; exact below_size HB.out)); replace HO1 := am (Kd.R_below HO1.out hb); replace BK5 := am (blk_below BK5.out hb); replace HB := am (below_step HB.out hb); have hz5 := bc BK5.out 0; have hf5 := blk_frozen BK5.out 0; have hz6 := bc BK6.out 0; have hf6 := blk_frozen BK6.out 0; clear hg hbox hb) | ((with_reducible refine gate_store (t := 57) (p := 5) rfl ?_); refine store_event (t := 57) (p := 5) (v := ?vo_1) (w1 := (w3.setCell ⟨g5, 0, none⟩ (.slice A1_ 0 c1_))) ?hg ?ho ?hn ?hr ?_; (case ho => rfl); (case hg => rfl); (case hn => rfl); (case hr => first | (go_simp; done) | (go_simp; rfl)); intro w4 hw; have SV4 := am (show SV w g5 g6 w4 [] 0 from (by rw [hw]; exact SV_names (names := []) ⟨BK6.out, _, BK5.out, Kd.R_nil _ _ _ _ _⟩ HO1.out)); have B4 := am (show Below w.heap.size w w4 from (by rw [hw]; exact below_set HB.out GE5.out)); clear hw hz5 hz6 hf5 hf6; have hz6 := bc SV4.out.1 0; have hf6 := blk_frozen SV4.out.1 0) | ((with_reducible refine gate_store (t := 2) (p := 6) rfl ?_); refine store_event (t := 2) (p := 6) (v := ?vo_2) (w1 := (w4.setCell ⟨g6, 0, none⟩ (.int .i64 0))) ?hg ?ho ?hn ?hr ?_; (case ho => rfl); (case hg => rfl); (case hn => rfl); (case hr => first | (go_simp; done) | (go_simp; rfl)); intro w5 hw; have SV5 := am (show SV w g5 g6 w5 [] 0 from (by rw [hw]; exact SV_deep SV4.out 0)); have B5 := am (show Below w.heap.size w w5 from (by rw [hw]; exact below_set B4.out GE6.out)); clear hw hz6 hf6) | (go_at_call 85; (refine (impl_tree.calls k (some ad) c0 l0 0 1 [] 0 r1_ ns de w _ g5 g6 GE5.out GE6.out B5.out SV5.out HR0.out AT.out).mono ?_); rintro e w6 ⟨rfl, hs, hb, _⟩; have SV6 := am hs; have B6 := am hb; obtain ⟨hd6, vn, hn6, hr6⟩ := hs; have HR6 := am hr6; have hz6 := bc hd6 0; have hz5 := bc hn6 0; clear hd6 hn6 hr6 hb; obtain ⟨An, cn, en⟩ := Kd.R_slice HR6.out; subst en))
           go_quiet ((fail))
           go_wp2
           go_ret3
           exact ⟨_, rfl, Kd.R_below HR6.out (by repeat (first | exact Below.refl _ _ | apply below_alloc | apply pw_below_drewN | apply below_drew1)), below_step B6.out (by repeat (first | exact Below.refl _ _ | apply below_alloc | apply pw_below_drewN | apply below_drew1))⟩
       · have c4b : (r1_ == (l0.length : Int)) = false := by rw [beq_eq_false_iff_ne]; exact c4
         rw [decide_eq_false (fun q : r1_ = (l0.length : Int) ∧ ns.length ≤ 8 => c4 q.1)] at h
         subst h
         clear c4
         go_enter Try.func62, Try.ntmps62
         go_wp2_with (first | ((with_reducible refine gate_dst (N := 23) rfl ?_); refine Kd.R_lit Kd.string _ 9 ?hg (N := 23) ?hd (xs := ([] : List ByteArray)) (inner := []) (ok := fun _ => True) (okp := fun _ => True) ?hr ?hp (fun _ hk => hk) trivial (Below.refl _ _) (Nat.le_refl _) (by simp) ?_; (case hd => rfl); (case hg => rfl); (case hr => first | (go_simp; done) | (go_simp; rfl)); (case hp => exact (Reps.none _ _)); intro v1 w1 ho1 hb hg_ hnew_; obtain ⟨A1_, c1_, e1_⟩ := Kd.R_slice ho1; subst e1_; have HO1 := am (Kd.R_lower ho1 (below_size (bl HB.out))); replace HB := am (below_step (bl HB.out) hb); clear hg_ hnew_ hb ho1) | ((with_reducible refine gate_dst (N := 5) rfl ?_); refine box_event ?hg (N := 5) ?hd (cs := #[.slice none 0 0]) (t := 57) ?hr ?_; (case hd => rfl); (case hg => rfl); (case hr => first | (go_simp; done) | (go_simp; rfl)); intro g5 hg w2 hbox hb; have BK5 := am hbox; have GE5 := am (show w.heap.size ≤ g5 from (by rw [hg]; exact below_size HB.out)); replace HO1 := am (Kd.R_below HO1.out hb); replace HB := am (below_step HB.out hb); clear hg hbox hb) | ((with_reducible refine gate_dst (N := 6) rfl ?_); refine box_event ?hg (N := 6) ?hd (cs := #[.int .i64 0]) (t := 2) ?hr ?_; (case hd => rfl); (case hg => rfl); (case hr => first | (go_simp; done) | (go_simp; rfl)); intro g6 hg w3 hbox hb; have BK6 := am hbox; have GE6 := am (show w.heap.size ≤ g6 from (by rw [hg]; exact below_size HB.out)); replace HO1 := am (Kd.R_below HO1.out hb); replace BK5 := am (blk_below BK5.out hb); replace HB := am (below_step HB.out hb); have hz5 := bc BK5.out 0; have hf5 := blk_frozen BK5.out 0; have hz6 := bc BK6.out 0; have hf6 := blk_frozen BK6.out 0; clear hg hbox hb) | ((with_reducible refine gate_store (t := 57) (p := 5) rfl ?_); refine store_event (t := 57) (p := 5) (v := ?vo_1) (w1 := (w3.setCell ⟨g5, 0, none⟩ (.slice A1_ 0 c1_))) ?hg ?ho ?hn ?hr ?_; (case ho => rfl); (case hg => rfl); (case hn => rfl); (case hr => first | (go_simp; done) | (go_simp; rfl)); intro w4 hw; have SV4 := am (show SV w g5 g6 w4 [] 0 from (by rw [hw]; exact SV_names (names := []) ⟨BK6.out, _, BK5.out, Kd.R_nil _ _ _ _ _⟩ HO1.out)); have B4 := am (show Below w.heap.size w w4 from (by rw [hw]; exact below_set HB.out GE5.out)); clear hw hz5 hz6 hf5 hf6; have hz6 := bc SV4.out.1 0; have hf6 := blk_frozen SV4.out.1 0) | ((with_reducible refine gate_store (t := 2) (p := 6) rfl ?_); refine store_event (t := 2) (p := 6) (v := ?vo_2) (w1 := (w4.setCell ⟨g6, 0, none⟩ (.int .i64 0))) ?hg ?ho ?hn ?hr ?_; (case ho => rfl); (case hg => rfl); (case hn => rfl); (case hr => first | (go_simp; done) | (go_simp; rfl)); intro w5 hw; have SV5 := am (show SV w g5 g6 w5 [] 0 from (by rw [hw]; exact SV_deep SV4.out 0)); have B5 := am (show Below w.heap.size w w5 from (by rw [hw]; exact below_set B4.out GE6.out)); clear hw hz6 hf6) | (go_at_call 85; (refine (impl_tree.calls k (some ad) c0 l0 0 1 [] 0 r1_ ns de w _ g5 g6 GE5.out GE6.out B5.out SV5.out HR0.out AT.out).mono ?_); rintro e w6 ⟨rfl, hs, hb, _⟩; have SV6 := am hs; have B6 := am hb; obtain ⟨hd6, vn, hn6, hr6⟩ := hs; have HR6 := am hr6; have hz6 := bc hd6 0; have hz5 := bc hn6 0; clear hd6 hn6 hr6 hb; obtain ⟨An, cn, en⟩ := Kd.R_slice HR6.out; subst en))
         go_quiet ((fail))
         go_wp2
         go_ret3
         exact ⟨_, rfl, Kd.R_below HR6.out (by repeat (first | exact Below.refl _ _ | apply below_alloc | apply pw_below_drewN | apply below_drew1)), below_step B6.out (by repeat (first | exact Below.refl _ _ | apply below_alloc | apply pw_below_drewN | apply below_drew1))⟩
     · rw [if_neg c3] at h
       simp only [Option.some.injEq, Prod.mk.injEq] at h
       obtain ⟨rfl, rfl, rfl⟩ := h
       have c3b : (f0 == 1) = false := by rw [beq_eq_false_iff_ne]; exact c3
       have c3c : (f0 != 1) = true := by unfold bne; rw [c3b]; rfl
       clear c3
       go_enter Try.func62, Try.ntmps62
       go_wp2
       go_ret3
       exact ⟨_, rfl, Kd.R_nil _ _ _ _ _, bl HB.out⟩

/-! ### impl_NodesVars: function 34 -/
def impl_NodesVars.f (k : Nat) (l0 : List (S95)) : Option (List ByteArray) := (impl_survey.f k l0).bind fun bt198 => (if bt198.2.2 = true then (some bt198.1) else (some ([] : List ByteArray)))
theorem impl_NodesVars.mono : ∀ a0 k, LeO (impl_NodesVars.f k a0) (impl_NodesVars.f (k + 1) a0) := by
 intro a0 k
 unfold impl_NodesVars.f
 repeat' first
   | (with_reducible exact impl_survey.mono _ _)
   | (with_reducible exact LeO.refl _)
   | (with_reducible exact LeO.none _)
   | (with_reducible refine LeO.ite ?_ ?_)
   | (with_reducible refine LeO.bind ?_ (fun _ => ?_))
   | exact impl_survey.mono _ _
   | refine LeO.bind ?_ (fun _ => ?_)
theorem impl_NodesVars.calls (k : Nat) (A0 : Option Addr) (c0 : Nat) (l0 : List (S95)) (r : List ByteArray) (w : World) (hr0 : Kd.C k95 w A0 l0.length l0) (hc0 : l0.length ≤ c0) (h : impl_NodesVars.f k l0 = some r) :
  Calls Try.prog 34 #[.slice A0 l0.length c0] w fun e w' => ∃ v0_ : Value, e = .returned (v0_) ∧ Kd.R Kd.string 9 w' w.heap.size (fun _ => True) v0_ r ∧ Below w.heap.size w w' := by
 have HR0 := am hr0
 have HC0 := am hc0
 clear hr0 hc0
 have HB := am (Below.refl w.heap.size w)
 have H : ((impl_survey.f k l0).bind fun bt198 => (if bt198.2.2 = true then (some bt198.1) else (some ([] : List ByteArray)))) = some r := h
 clear h
 replace H := Option.bind_eq_some_iff.mp H
 obtain ⟨⟨t198, t199, t200⟩, A20, H⟩ := H
 replace H : (if t200 = true then (some t198) else (some ([] : List ByteArray))) = some r := H
 have A2 := Aside0.mk A20
 clear A20
 by_cases c3 : t200 = true
 ·subst c3
  have H1 : (some t198) = some r := by rw [if_pos rfl] at H; exact H
  clear H
  have H := H1
  clear H1
  obtain rfl := Option.some.inj H
  go_enter Try.func34, Try.ntmps34
  go_wp2_with (first | ((with_reducible refine gate_callee (f := 62) rfl ?_); refine gl (some 8) Try.func62 #[.slice A0 l0.length c0] ?_; (with_reducible refine (impl_survey.calls k _ _ l0 t198 t199 true _ ?side1 ?side2 A2.out).mono ?_); (case side1 => repeat (first | exact HR0.out | (with_reducible refine Kd.C_alloc ?_ _) | (with_reducible refine Kd.C_drewN ?_ _) | (with_reducible refine Kd.C_drew ?_))); (case side2 => exact HC0.out); rintro e w4 ⟨v201, rfl, ho0, hb⟩; refine ⟨_, rfl, ?_⟩; have HO202 := am (Kd.R_lower ho0 (below_size (bl HB.out))); replace HB := am (below_step (bl HB.out) hb); (try clear hb); (try clear hb2); (try clear hk); (try clear hi); (try clear ho0)))
  go_ret
  exact ⟨_, by first | rfl | (simp [errW_none, errW_some] <;> rfl) | (simp [*, errW_none, errW_some] <;> rfl), kr HO202.out, by repeat (first | (with_reducible first | exact HB.out | apply below_alloc | apply pw_below_drewN | apply below_drew1) | exact HB.out)⟩
 ·replace c3 := Bool.eq_false_iff.mpr c3
  subst c3
  have H1 : (some ([] : List ByteArray)) = some r := by rw [if_neg (show ¬ (false = true) by decide)] at H; exact H
  clear H
  have H := H1
  clear H1
  obtain rfl := Option.some.inj H
  go_enter Try.func34, Try.ntmps34
  go_wp2_with (first | ((with_reducible refine gate_callee (f := 62) rfl ?_); refine gl (some 8) Try.func62 #[.slice A0 l0.length c0] ?_; (with_reducible refine (impl_survey.calls k _ _ l0 t198 t199 false _ ?side1 ?side2 A2.out).mono ?_); (case side1 => repeat (first | exact HR0.out | (with_reducible refine Kd.C_alloc ?_ _) | (with_reducible refine Kd.C_drewN ?_ _) | (with_reducible refine Kd.C_drew ?_))); (case side2 => exact HC0.out); rintro e w5 ⟨v201, rfl, ho0, hb⟩; refine ⟨_, rfl, ?_⟩; have HO202 := am (Kd.R_lower ho0 (below_size (bl HB.out))); replace HB := am (below_step (bl HB.out) hb); (try clear hb); (try clear hb2); (try clear hk); (try clear hi); (try clear ho0)))
  go_ret
  exact ⟨_, by first | rfl | (simp [errW_none, errW_some] <;> rfl) | (simp [*, errW_none, errW_some] <;> rfl), by first | exact Kd.R_nil _ _ _ _ _ | exact Kd.N_nil _ _ _ _ _ | exact Kd.V_nil _ _ _ _ _ | exact Kd.Q_nil _ _ _ _ _ | exact Kd.S_nil _ _ _ _ _, by repeat (first | (with_reducible first | exact HB.out | apply below_alloc | apply pw_below_drewN | apply below_drew1) | exact HB.out)⟩

/-! ### laws_eqStringS: function 35 -/
def laws_eqStringS.l0 : Nat → List ByteArray → List ByteArray → Int → Option (Bool)
 | 0, _, _, _ => none
 | k + 1, x0, x1, x5 => if x5 < (x0.length : Int) then (if 0 ≤ x5 then (if x5 < (x1.length : Int) then (if (rdOf ByteArray.empty x0 x5).toList = (rdOf ByteArray.empty x1 x5).toList then (laws_eqStringS.l0 k x0 x1 (wrap64 (x5 + 1))) else (some false)) else (none)) else (none)) else (some true)
def laws_eqStringS.f (k : Nat) (l0 : List ByteArray) (l1 : List ByteArray) : Option (Bool) := if (l0.length : Int) = (l1.length : Int) then (laws_eqStringS.l0 k l0 l1 0) else (some false)
theorem laws_eqStringS.mono_l : ∀ k, (∀ y0 y1 y2, LeO (laws_eqStringS.l0 k y0 y1 y2) (laws_eqStringS.l0 (k + 1) y0 y1 y2))
 | 0 => fun _ _ _ r h => by simp [laws_eqStringS.l0] at h
 | k + 1 => by
  have ih0 := laws_eqStringS.mono_l k
  ·intro y0 y1 y2
   unfold laws_eqStringS.l0
   repeat' first
   | (with_reducible exact ih0 _ _ _)
   | (with_reducible exact LeO.refl _)
   | (with_reducible exact LeO.none _)
   | (with_reducible refine LeO.ite ?_ ?_)
   | (with_reducible refine LeO.bind ?_ (fun _ => ?_))
   | exact ih0 _ _ _
   | refine LeO.bind ?_ (fun _ => ?_)
theorem laws_eqStringS.mono : ∀ a0 a1 k, LeO (laws_eqStringS.f k a0 a1) (laws_eqStringS.f (k + 1) a0 a1) := by
 intro a0 a1 k
 have ih0 := laws_eqStringS.mono_l k
 unfold laws_eqStringS.f
 repeat' first
   | (with_reducible exact ih0 _ _ _)
   | (with_reducible exact LeO.refl _)
   | (with_reducible exact LeO.none _)
   | (with_reducible refine LeO.ite ?_ ?_)
   | (with_reducible refine LeO.bind ?_ (fun _ => ?_))
   | exact ih0 _ _ _
   | refine LeO.bind ?_ (fun _ => ?_)
theorem laws_eqStringS.calls (k : Nat) (A0 : Option Addr) (c0 : Nat) (l0 : List ByteArray) (A1 : Option Addr) (c1 : Nat) (l1 : List ByteArray) (r : Bool) (w : World) (hr0 : Kd.C Kd.string w A0 l0.length l0) (hc0 : l0.length ≤ c0) (hr1 : Kd.C Kd.string w A1 l1.length l1) (hc1 : l1.length ≤ c1) (h : laws_eqStringS.f k l0 l1 = some r) :
  Calls Try.prog 35 #[.slice A0 l0.length c0, .slice A1 l1.length c1] w fun e w' => e = .returned (.bool r) ∧ Drawn0 w w' := by
 have HR0 := am hr0
 have HC0 := am hc0
 clear hr0 hc0
 have HR1 := am hr1
 have HC1 := am hc1
 clear hr1 hc1
 have H : (if (l0.length : Int) = (l1.length : Int) then (laws_eqStringS.l0 k l0 l1 0) else (some false)) = some r := h
 clear h
 by_cases c3 : (l0.length : Int) = (l1.length : Int)
 ·rw [if_pos c3] at H
  have c3b0 : ((l0.length : Int) == (l1.length : Int)) = true := beq_iff_eq.mpr c3
  have c3b1 : ((l0.length : Int) != (l1.length : Int)) = false := bne_eq_false_iff_eq.mpr c3
  have c3b2 : (l0.length == l1.length) = true := by first | simpa using c3 | (simp at c3 ⊢; omega)
  clear c3
  have H' := Aside0.mk H
  clear H
  go_enter Try.func35, Try.ntmps35
  go_wp2
  repeat (go_quiet (fail); try go_wp2)
  go_loopg [5] k (fun kq v5 w' => ∃ (x5_1 : Int), v5 = .int .i64 x5_1 ∧ Aside0 (laws_eqStringS.l0 kq l0 l1 x5_1 = some r) ∧ Aside0 (kq ≤ k) ∧ Drawn0 w w')
  case atStart => exact ⟨(0), (by first | rfl | (simp; done) | (simp [*]; done)), H', ⟨Nat.le_refl _⟩, by repeat (first | exact Drawn0.refl _ | apply Drawn0.step)⟩
  case round =>
   clear H'
   try clear c1
   try clear p2
   try clear c3
   try clear c3b0
   try clear c3b1
   try clear c3b2
   obtain ⟨x5_1, rfl, HA, HK1, ⟨m1, rfl⟩⟩ := hrel
   cases gk with
   | zero => exact absurd HA.out (by simp [laws_eqStringS.l0])
   | succ k1 =>
    have H := HA.out
    clear HA
    simp only [laws_eqStringS.l0] at H
    by_cases c4 : x5_1 < (l0.length : Int)
    ·rw [if_pos c4] at H
     have c4b0 : decide (x5_1 < (l0.length : Int)) = true := decide_eq_true c4
     clear c4
     by_cases c5 : 0 ≤ x5_1
     ·rw [if_pos c5] at H
      have c5b0 : decide (0 ≤ x5_1) = true := decide_eq_true c5
      clear c5
      by_cases c6 : x5_1 < (l1.length : Int)
      ·rw [if_pos c6] at H
       have c6b0 : decide (x5_1 < (l1.length : Int)) = true := decide_eq_true c6
       clear c6
       by_cases c7 : (rdOf ByteArray.empty l0 x5_1).toList = (rdOf ByteArray.empty l1 x5_1).toList
       ·rw [if_pos c7] at H
        have c7b0 : ((rdOf ByteArray.empty l0 x5_1).toList == (rdOf ByteArray.empty l1 x5_1).toList) = true := beq_iff_eq.mpr c7
        have c7b1 : ((rdOf ByteArray.empty l0 x5_1).toList != (rdOf ByteArray.empty l1 x5_1).toList) = false := bne_eq_false_iff_eq.mpr c7
        clear c7
        have H' := Aside0.mk H
        clear H
        have p203 : 0 ≤ (x5_1 : Int) := of_decide_eq_true (by first | (with_reducible assumption) | assumption)
        have q203 : x5_1 < (l0.length : Int) := of_decide_eq_true (by first | (with_reducible assumption) | assumption)
        obtain ⟨ad203, e203, hx203_0⟩ := Kd.at_string HR0.out x5_1 p203 q203
        cases e203
        replace p203 := eq_true p203
        replace q203 := eq_true q203
        have p204 : 0 ≤ (x5_1 : Int) := of_decide_eq_true (by first | (with_reducible assumption) | assumption)
        have q204 : x5_1 < (l1.length : Int) := of_decide_eq_true (by first | (with_reducible assumption) | assumption)
        obtain ⟨ad204, e204, hx204_0⟩ := Kd.at_string HR1.out x5_1 p204 q204
        cases e204
        replace p204 := eq_true p204
        replace q204 := eq_true q204
        go_wp2
        repeat (go_quiet (fail); try go_wp2)
        go_roundg k1
        case measure => have := HK1.out; omega
        case rel => exact ⟨(wrap64 (x5_1 + 1)), (by first | rfl | (simp; done) | (simp [*]; done)), H', ⟨by have := HK1.out; omega⟩, by repeat (first | exact Drawn0.refl _ | apply Drawn0.step)⟩
       ·rw [if_neg c7] at H
        have c7b0 : ((rdOf ByteArray.empty l0 x5_1).toList == (rdOf ByteArray.empty l1 x5_1).toList) = false := beq_eq_false_iff_ne.mpr c7
        have c7b1 : ((rdOf ByteArray.empty l0 x5_1).toList != (rdOf ByteArray.empty l1 x5_1).toList) = true := bne_iff_ne.mpr c7
        obtain rfl := Option.some.inj H
        have p203 : 0 ≤ (x5_1 : Int) := of_decide_eq_true (by first | (with_reducible assumption) | assumption)
        have q203 : x5_1 < (l0.length : Int) := of_decide_eq_true (by first | (with_reducible assumption) | assumption)
        obtain ⟨ad203, e203, hx203_0⟩ := Kd.at_string HR0.out x5_1 p203 q203
        cases e203
        replace p203 := eq_true p203
        replace q203 := eq_true q203
        have p204 : 0 ≤ (x5_1 : Int) := of_decide_eq_true (by first | (with_reducible assumption) | assumption)
        have q204 : x5_1 < (l1.length : Int) := of_decide_eq_true (by first | (with_reducible assumption) | assumption)
        obtain ⟨ad204, e204, hx204_0⟩ := Kd.at_string HR1.out x5_1 p204 q204
        cases e204
        replace p204 := eq_true p204
        replace q204 := eq_true q204
        go_wp2
        repeat (go_quiet (fail); try go_wp2)
        go_ret
        exact ⟨by first | rfl | (simp; done) | (simp [*]; done), by repeat (first | exact Drawn0.refl _ | apply Drawn0.step)⟩
      ·rw [if_neg c6] at H
       exact absurd H (by simp)
     ·rw [if_neg c5] at H
      exact absurd H (by simp)
    ·rw [if_neg c4] at H
     have c4b0 : decide (x5_1 < (l0.length : Int)) = false := decide_eq_false c4
     clear c4
     obtain rfl := Option.some.inj H
     go_wp2
     repeat (go_quiet (fail); try go_wp2)
     go_ret
     exact ⟨by first | rfl | (simp; done) | (simp [*]; done), by repeat (first | exact Drawn0.refl _ | apply Drawn0.step)⟩
 ·rw [if_neg c3] at H
  have c3b0 : ((l0.length : Int) == (l1.length : Int)) = false := beq_eq_false_iff_ne.mpr c3
  have c3b1 : ((l0.length : Int) != (l1.length : Int)) = true := bne_iff_ne.mpr c3
  have c3b2 : (l0.length == l1.length) = false := by first | simpa using c3 | (simp at c3 ⊢; omega)
  obtain rfl := Option.some.inj H
  go_enter Try.func35, Try.ntmps35
  go_wp2
  repeat (go_quiet (fail); try go_wp2)
  go_ret
  exact ⟨by first | rfl | (simp; done) | (simp [*]; done), by repeat (first | exact Drawn0.refl _ | apply Drawn0.step)⟩

/-! ### laws_markText: function 65 -/
def laws_markText.l0 : Nat → Int → ByteArray → Option (ByteArray)
 | 0, _, _ => none
 | k + 1, x0, x3 => if x0 > 0 then ((some (([(wrap64 (48 + (Int.tmod x0 10))) % 256] : List Int) : List Int)).bind fun y205 => (if (strOfNums y205).size + x3.size ≤ 9223372036854775807 then (laws_markText.l0 k (wrap64 (Int.tdiv x0 10)) ((strOfNums y205) ++ x3)) else (none))) else (if 1 + x3.size ≤ 9223372036854775807 then (some ((⟨#[109]⟩ : ByteArray) ++ x3)) else (none))
def laws_markText.f (k : Nat) (a0 : Int) : Option (ByteArray) := if a0 ≤ 0 then (some (⟨#[109, 48]⟩ : ByteArray)) else (laws_markText.l0 k a0 (⟨#[]⟩ : ByteArray))
theorem laws_markText.mono_l : ∀ k, (∀ y0 y1, LeO (laws_markText.l0 k y0 y1) (laws_markText.l0 (k + 1) y0 y1))
 | 0 => fun _ _ r h => by simp [laws_markText.l0] at h
 | k + 1 => by
  have ih0 := laws_markText.mono_l k
  ·intro y0 y1
   unfold laws_markText.l0
   repeat' first
   | (with_reducible exact ih0 _ _)
   | (with_reducible exact LeO.refl _)
   | (with_reducible exact LeO.none _)
   | (with_reducible refine LeO.ite ?_ ?_)
   | (with_reducible refine LeO.bind ?_ (fun _ => ?_))
   | exact ih0 _ _
   | refine LeO.bind ?_ (fun _ => ?_)
theorem laws_markText.mono : ∀ a0 k, LeO (laws_markText.f k a0) (laws_markText.f (k + 1) a0) := by
 intro a0 k
 have ih0 := laws_markText.mono_l k
 unfold laws_markText.f
 repeat' first
   | (with_reducible exact ih0 _ _)
   | (with_reducible exact LeO.refl _)
   | (with_reducible exact LeO.none _)
   | (with_reducible refine LeO.ite ?_ ?_)
   | (with_reducible refine LeO.bind ?_ (fun _ => ?_))
   | exact ih0 _ _
   | refine LeO.bind ?_ (fun _ => ?_)
theorem laws_markText.calls (k : Nat) (a0 : Int) (r : ByteArray) (w : World) (h : laws_markText.f k a0 = some r) :
  Calls Try.prog 65 #[.int .i64 a0] w fun e w' => e = .returned (.string r) ∧ Below w.heap.size w w' := by
 have HB := am (Below.refl w.heap.size w)
 have H : (if a0 ≤ 0 then (some (⟨#[109, 48]⟩ : ByteArray)) else (laws_markText.l0 k a0 (⟨#[]⟩ : ByteArray))) = some r := h
 clear h
 by_cases c2 : a0 ≤ 0
 ·rw [if_pos c2] at H
  have c2b0 : decide (a0 ≤ 0) = true := decide_eq_true c2
  clear c2
  obtain rfl := Option.some.inj H
  go_enter Try.func65, Try.ntmps65
  go_wp2
  go_ret
  exact ⟨by first | rfl | (simp [errW_none, errW_some] <;> rfl) | (simp [*, errW_none, errW_some] <;> rfl), by repeat (first | (with_reducible first | exact HB.out | apply below_alloc | apply pw_below_drewN | apply below_drew1) | exact HB.out)⟩
 ·rw [if_neg c2] at H
  have c2b0 : decide (a0 ≤ 0) = false := decide_eq_false c2
  clear c2
  have H' := Aside0.mk H
  clear H
  go_enter Try.func65, Try.ntmps65
  go_wp2
  go_loopg [0, 3] k (fun kq v0 v3 w' => ∃ (x0_1 : Int) (x3_1 : ByteArray), v0 = .int .i64 x0_1 ∧ v3 = .string x3_1 ∧ Aside0 (laws_markText.l0 kq x0_1 x3_1 = some r) ∧ Aside0 (kq ≤ k) ∧ Aside0 (Below w.heap.size w w'))
  case atStart => exact ⟨(a0), ((⟨#[]⟩ : ByteArray)), (by first | rfl | (simp; done) | (simp [*]; done)), (by first | rfl | (simp; done) | (simp [*]; done)), H', ⟨Nat.le_refl _⟩, ⟨by repeat (first | (with_reducible first | exact HB.out | apply below_alloc | apply pw_below_drewN | apply below_drew1) | exact HB.out)⟩⟩
  case round =>
   clear H'
   try clear c2
   try clear c2b0
   try clear p2
   obtain ⟨x0_1, x3_1, rfl, rfl, HA, HK1, HB⟩ := hrel
   cases gk with
   | zero => exact absurd HA.out (by simp [laws_markText.l0])
   | succ k1 =>
    have H := HA.out
    clear HA
    simp only [laws_markText.l0] at H
    by_cases c3 : x0_1 > 0
    ·rw [if_pos c3] at H
     have c3b0 : decide (0 < x0_1) = true := decide_eq_true c3
     clear c3
     obtain ⟨y205, hy205⟩ : ∃ y_ : List Int, y_ = (([(wrap64 (48 + (Int.tmod x0_1 10))) % 256] : List Int)) := ⟨_, rfl⟩
     replace H : (if (strOfNums y205).size + x3_1.size ≤ 9223372036854775807 then (laws_markText.l0 k1 (wrap64 (Int.tdiv x0_1 10)) ((strOfNums y205) ++ x3_1)) else (none)) = some r := by first | (rw [hy205]; with_reducible exact H) | (have H2_ := (Option.bind_some _ _).symm.trans H; rw [hy205]; with_reducible exact H2_) | (have H2_ := (Option.bind_some _ _).symm.trans H; with_reducible exact H2_) | with_reducible exact H | (rw [hy205]; exact H) | exact H
     have Ny205 := am hy205
     clear hy205
     by_cases c4 : (strOfNums y205).size + x3_1.size ≤ 9223372036854775807
     ·rw [if_pos c4] at H
      have c4b0 := eq_true c4
      have c4b1 : decide ((strOfNums y205).size + x3_1.size ≤ 9223372036854775807) = true := decide_eq_true c4
      try have c4b2 : (9223372036854775807 < (strOfNums y205).size + x3_1.size) = False := eq_false (Nat.not_lt.2 c4)
      have H' := Aside0.mk H
      clear H
      go_wp2_with (first | ((with_reducible refine gate_dst (N := 12) rfl ?_); refine Kd.R_lit (Kd.int .u8) _ 5 ?hg (N := 12) ?hd (xs := ([(wrap64 (48 + (Int.tmod x0_1 10))) % 256] : List Int)) (inner := [.int .u8 ((wrap64 (48 + (Int.tmod x0_1 10))) % 256)]) (ok := fun _ => True) (okp := fun _ => True) ?hr ?hp (fun _ hk => hk) trivial (Below.refl _ _) (Nat.le_refl _) (by simp) ?_; (case hd => rfl); (case hg => rfl); (case hr => first | (go_simp; done) | (go_simp; rfl) | (go_simp; simp (disch := omega) only [Go.u8_and63, Go.u8_or128, Go.u8_or192, Go.u8_or224, Go.u8_or240, Int.emod_emod_of_dvd, Int.reduceDvd]; first | done | rfl)); (case hp => exact (Reps.one (show Kd.M (Kd.int .u8) _ _ _ ((wrap64 (48 + (Int.tmod x0_1 10))) % 256) [.int .u8 ((wrap64 (48 + (Int.tmod x0_1 10))) % 256)] from rfl) (Reps.none _ _))); intro v206 w5 ho6 hb hg_ hnew_; clear hg_ hnew_; (first | rw [← Ny205.out] at ho6 | (simp only [Int.reduceToNat] at ho6; rw [← Ny205.out] at ho6)); have HO207 := am (Kd.R_lower ho6 (below_size (bl HB.out))); replace HB := am (below_step (bl HB.out) hb); clear hb ho6; have hcv7 := own_string (P := Try.prog) Try.underlying117 Try.underlying5 Try.underlying9 (Kd.own_of_R HO207.out)))
      go_roundg k1
      case measure => have := HK1.out; omega
      case rel => exact ⟨(wrap64 (Int.tdiv x0_1 10)), ((strOfNums y205) ++ x3_1), (by first | rfl | (simp; done) | (simp [*]; done)), (by first | rfl | (simp; done) | (simp [*]; done)), H', ⟨by have := HK1.out; omega⟩, ⟨by repeat (first | (with_reducible first | exact HB.out | apply below_alloc | apply pw_below_drewN | apply below_drew1) | exact HB.out)⟩⟩
     ·rw [if_neg c4] at H
      exact absurd H (by simp)
    ·rw [if_neg c3] at H
     have c3b0 : decide (0 < x0_1) = false := decide_eq_false c3
     clear c3
     by_cases c8 : 1 + x3_1.size ≤ 9223372036854775807
     ·rw [if_pos c8] at H
      have c8b0 := eq_true c8
      have c8b1 : decide (1 + x3_1.size ≤ 9223372036854775807) = true := decide_eq_true c8
      try have c8b2 : (9223372036854775807 < 1 + x3_1.size) = False := eq_false (Nat.not_lt.2 c8)
      obtain rfl := Option.some.inj H
      go_wp2
      go_ret
      exact ⟨by first | rfl | (simp [errW_none, errW_some] <;> rfl) | (simp [*, errW_none, errW_some] <;> rfl), by repeat (first | (with_reducible first | exact HB.out | apply below_alloc | apply pw_below_drewN | apply below_drew1) | exact HB.out)⟩
     ·rw [if_neg c8] at H
      exact absurd H (by simp)

end Go.Proofs.Ytcjclihkaaaihaa.PFnExactNodesVars
