-- Written by xprint.py (this claim's own program, over the kit's printer); Lean checks it.
import Derived.Test.YtcjclihkaaaihaaPFnExactViewOfx0
import Derived.Test.YtcjclihkaaaihaaPFnExactViewOfx1
import Derived.Test.YtcjclihkaaaihaaPFnExactViewOfx2
import Derived.Test.YtcjclihkaaaihaaPFnExactViewOfx3
namespace Go.Proofs.Ytcjclihkaaaihaa.PFnExactViewOf
open Go.RowKit Go.Proofs.YtcjclihkaaaihaaW.PrintWords Go.Proofs.YtcjclihkaaaihaaW.PrintLast Go.Proofs.YtcjclihkaaaihaaW.PrintMore
attribute [local go_sem] max2_int min2_int max_two min_two max_three min_three max_four min_four   -- for this text's walks alone
set_option linter.unusedVariables false
set_option linter.unusedSimpArgs false   -- squeezed
set_option maxHeartbeats 8000000
set_option maxRecDepth 100000

/-! ### spec_ViewOf: function 10 -/
theorem vinfo45 : (Try.prog.info? 45).map (fun i => (i.zero, i.size, i.bytes)) = some (some (.agg #[(.int .i64 0), (.int .i64 0)]), 2, 16) := by kernel_rfl
theorem vinfo75 : (Try.prog.info? 75).map (fun i => (i.zero, i.size, i.bytes)) = some (some (.agg #[(.slice none 0 0), (.int .i64 0)]), 2, 32) := by kernel_rfl
theorem vinfo26 : (Try.prog.info? 26).map (fun i => (i.zero, i.size, i.bytes)) = some (some (.slice none 0 0), 1, 24) := by kernel_rfl

/-! ### the reference's pen: its rows, each with a block of its own -/
/-- Rows of numbers and of spots stay as they are. -/
def TK (w w' : World) : Prop := ∀ (k t : Nat) (cells : Array Value), t = 2 ∨ t = 45 → w.heap[k]? = some (.cells cells t (0, 0)) → w'.heap[k]? = w.heap[k]?
theorem TK.refl (w : World) : TK w w := fun _ _ _ _ _ => rfl
theorem TK.trans {w w1 w2 : World} (h : TK w w1) (k : TK w1 w2) : TK w w2 := fun i t cells ht hi => (k i t cells ht ((h i t cells ht hi).trans hi)).trans (h i t cells ht hi)
theorem TK.below {w w1 w2 : World} (h : TK w w1) (hb : Below w1.heap.size w1 w2) : TK w w2 := h.trans fun i _ _ _ hi => hb.block i (blk_lt hi)
theorem TK.grown {w w1 w2 : World} {row : Option Nat} {e : Nat} (h : TK w w1) (hg : w1.grownBy w2 row) (ht : ∀ k, row = some k → ∃ cells, w1.heap[k]? = some (.cells cells e (0, 0))) (he : ¬ (e = 2 ∨ e = 45)) : TK w w2 := h.trans fun i t cells ht2 hi => hg.block i (blk_lt hi) (fun hr => by
 obtain ⟨c, hc⟩ := ht i hr.symm
 rw [hc] at hi
 injection hi with hi
 injection hi with _ hi
 exact he (by rw [hi]; exact ht2))
theorem TK.set {w w1 : World} {g t : Nat} {cells : Array Value} (h : TK w w1) (hb : w1.heap[g]? = some (.cells cells t (0, 0))) (ht : ¬ (t = 2 ∨ t = 45)) (j : Nat) (u : Value) : TK w (w1.setCell ⟨g, j, none⟩ u) := h.trans fun i t2 c ht2 hi => Below.heap_setCell w1 ⟨g, j, none⟩ u i (by
 intro he
 have he' : i = g := he
 subst he'
 rw [hb] at hi
 injection hi with hi
 injection hi with _ hi
 exact ht (by rw [hi]; exact ht2))
theorem R_tk {α : Type} {d : Kd α} {e : Nat} {w w1 : World} {base : Nat} {v : Value} {l : List α} (hd : d.E = []) (he : e = 2 ∨ e = 45) (h : Kd.R d e w base (fun _ => True) v l) (ht : TK w w1) : Kd.R d e w1 base (fun _ => True) v l :=
 Kd.R_mono (Kd.R_step (Kd.R_tight hd h) (fun k hk _ => by
  obtain ⟨c, hc⟩ := Kd.R_typed h k hk.symm
  exact ht k e c he hc)) (fun _ _ => trivial)
abbrev kRow := Kd.slice 75 k75
def PS (w0 w : World) (g : Nat) (cols : Int) (rows : List (List S75)) (col : Int) : Prop :=
 w0.heap.size ≤ g ∧ ∃ vr, w.heap[g]? = some (.cells #[.int .i64 cols, vr, .int .i64 col] 73 (0, 0)) ∧ Kd.S kRow 26 w w0.heap.size (fun _ => True) vr rows
theorem PS_below {w0 w w' : World} {g : Nat} {cols col : Int} {rows : List (List S75)} (h : PS w0 w g cols rows col) (hb : Below w.heap.size w w') : PS w0 w' g cols rows col := by
 obtain ⟨hg, vr, h1, h2⟩ := h
 exact ⟨hg, vr, blk_below h1 hb, Kd.S_below h2 hb⟩
theorem PS_lower {w0 w0' w : World} {g : Nat} {cols col : Int} {rows : List (List S75)} (h : PS w0 w g cols rows col) (hl : w0'.heap.size ≤ w0.heap.size) : PS w0' w g cols rows col := by
 obtain ⟨hg, vr, h1, h2⟩ := h
 exact ⟨Nat.le_trans hl hg, vr, h1, Kd.S_lower h2 hl⟩
theorem PS_col {w0 w : World} {g : Nat} {cols col : Int} {rows : List (List S75)} (h : PS w0 w g cols rows col) (c : Int) : PS w0 (w.setCell ⟨g, 2, none⟩ (.int .i64 c)) g cols rows c := by
 obtain ⟨hg, vr, h1, h2⟩ := h
 exact ⟨hg, vr, blk_put h1 2 _ rfl, Kd.S_set h2 h1 (by decide) _ _⟩
/-- The last row lent: what was stored into its block is put back. -/
theorem PS_last {w0 w : World} {g : Nat} {cols col : Int} {rows : List (List S75)} (h : PS w0 w g cols rows col) (hp : 0 < rows.length) {x : List S75} (hx : x = rd_L3 rows ((rows.length - 1 : Nat) : Int)) :
  ∃ (gr cap : Nat) (oki : Nat → Prop) (Ar : Option Addr) (cr : Nat), w.heap[g]? = some (.cells #[.int .i64 cols, .slice (some ⟨gr, 0, none⟩) rows.length cap, .int .i64 col] 73 (0, 0)) ∧ w.cell? ⟨gr, rows.length - 1, none⟩ = some (.slice Ar x.length cr) ∧
   Kd.R k75 75 w w0.heap.size oki (.slice Ar x.length cr) x ∧
   ∀ (w1 : World) (x' : List S75), w.heap.size ≤ w1.heap.size → (∀ k, k < w.heap.size → some k ≠ (Value.slice Ar x.length cr).ownBlock → w1.heap[k]? = w.heap[k]?) → Kd.R k75 75 w1 w0.heap.size (fun k => oki k ∨ w.heap.size ≤ k) (.slice Ar x.length cr) x' → PS w0 w1 g cols (rows.set (rows.length - 1) x') col := by
 obtain ⟨hg, vr, h1, h2⟩ := h
 obtain ⟨gr, cap, rfl, hbg, hgl, cells, hcl⟩ := Kd.S_form h2 hp
 obtain ⟨oki, c, _, hM, hcc, hfr, hoki, hH⟩ := Kd.S_elem h2 ([] : List S75) ((rows.length - 1 : Nat) : Int) (by omega) (by omega)
 rw [Int.toNat_natCast] at hM hcc hfr
 rw [show rows.getD (rows.length - 1) ([] : List S75) = x by rw [hx]; unfold rd_L3; rw [Int.toNat_natCast]] at hM
 obtain ⟨ve, rfl, hR⟩ := hM
 obtain ⟨Ar, cr, rfl⟩ := Kd.R_slice hR
 have hv := hcc 0 _ rfl
 rw [show kRow.sz = 1 from rfl, Nat.add_zero, Nat.mul_one] at hv
 refine ⟨gr, cap, oki, Ar, cr, h1, hv, hR, fun w1 x' hsz hkp hR1 => ?_⟩
 have hne : ∀ {k t : Nat} {cs' : Array Value}, w.heap[k]? = some (.cells cs' t (0, 0)) → 75 ≠ t → some k ≠ (Value.slice Ar x.length cr).ownBlock := fun hb ht => Kd.R_ne hR hb ht
 have h1' := (hkp g (blk_lt h1) (hne h1 (by decide))).trans h1
 have hH1 := Kd.H_step (w1 := w1) (Kd.H_widen hH) (fun k _ hn hlt => hkp k hlt (fun he => hn (.inl (hR.1 k he.symm))))
 have hS := Kd.H_back (okp := fun k => oki k ∨ w.heap.size ≤ k) hH1 ⟨_, rfl, hR1⟩ (fun k hk => hk.elim .inl (fun h => .inr ⟨trivial, h⟩))
 rw [Int.toNat_natCast] at hS
 exact ⟨hg, _, h1', hS⟩

def pn0.T : Bool × List (List Nat × List Nat) := (true, [([], []), ([], []), ([1], [1]), ([2], [2]), ([3], [3]), ([], []), ([5], [5]), ([6], [6]), ([7], [7]), ([8, 8], [8]), ([9], [9]), ([4, 10], [4, 10]), ([0, 0, 1, 2, 3, 4, 5, 6, 7, 8, 9, 10, 11], [0]), ([12, 0, 1, 2, 3, 4, 5, 6, 7, 8, 9, 10, 11], [12]), ([13, 11, 11, 0, 1, 2, 3, 4, 5, 6, 7, 8, 9, 10, 11], [11, 13])])
def pn0.B : List Nat := [0, 0, 2, 6, 14, 0, 32, 96, 224, 480, 992, 2046, 4095, 8191, 16383]
theorem pn0.tab : rtab .any (opsOf Try.f67 0) = pn0.T := by kernel_rfl
theorem pn0.bits : waitsOk pn0.T.2 pn0.B = true := by kernel_rfl
@[reducible] def pn0.a0 : Array Bool := (br true [0, 15]).toArray
@[reducible] def pn0.a1 : Array Bool := (br true [1, 14]).toArray
@[reducible] def pn0.a2 : Array Bool := (br true [2, 13]).toArray
@[reducible] def pn0.a3 : Array Bool := (br true [3, 12]).toArray
@[reducible] def pn0.a4 : Array Bool := (br true [4, 11]).toArray
@[reducible] def pn0.a5 : Array Bool := (br true [4, 1, 1, 9]).toArray
@[reducible] def pn0.a6 : Array Bool := (br true [4, 1, 2, 8]).toArray
@[reducible] def pn0.a7 : Array Bool := (br true [4, 1, 3, 7]).toArray
@[reducible] def pn0.a8 : Array Bool := (br true [8, 7]).toArray
@[reducible] def pn0.a9 : Array Bool := (br true [9, 6]).toArray
@[reducible] def pn0.a10 : Array Bool := (br true [10, 5]).toArray
@[reducible] def pn0.a11 : Array Bool := (br true [11, 4]).toArray
@[reducible] def pn0.a12 : Array Bool := (br true [12, 3]).toArray
@[reducible] def pn0.a13 : Array Bool := (br true [13, 2]).toArray
@[reducible] def pn0.a14 : Array Bool := (br true [14, 1]).toArray
@[reducible] def pn0.a15 : Array Bool := (br true [15]).toArray
theorem pen_next.calls (g : Nat) (cols col : Int) (rows : List (List S75)) (w0 w : World) (hI : PS w0 w g cols rows col) (hB : Below w0.heap.size w0 w) (hc : 0 ≤ cols ∧ cols ≤ 1000000) (hl : rows.length ≤ 1000000) :
  Calls Try.prog 67 #[.pointer (some ⟨g, 0, none⟩)] w fun e w' => e = .returned (.tuple #[]) ∧ PS w0 w' g cols (rows ++ [List.replicate cols.toNat z75]) 0 ∧ Below w0.heap.size w0 w' ∧ TK w w' := by
 have HB2 := am (below_drew1 hB)
 have HC := am hc
 have HL := am hl
 obtain ⟨HG, vr, h1, h2⟩ := hI
 replace HG := am HG
 obtain ⟨Ar, cr, ec⟩ := Kd.S_slice h2
 subst ec
 have HBL := am (blk_drew h1)
 have HSr := am (Kd.S_drew h2)
 have HTK := am (show TK w w.drew from TK.refl w)
 clear h1 h2 hB hc hl
 go_enter Try.func67, Try.ntmps67
 try go_wp2
 refine start_ (n := 15) (S := fun w' => w'.cell? ⟨g, 0, none⟩ = some (.int .i64 cols) ∧ w'.cell? ⟨g, 1, none⟩ = some (.slice Ar rows.length cr)) (ds := [14]) pn0.a0 (by kernel_rfl) rfl rfl ⟨bc HBL.out 0, bc HBL.out 1⟩ (fun hHeld => ?_); refine with_tabW pn0.tab pn0.bits (fun HT_ HW_ => ?_)
 generalize w.drew = w5 at HBL HSr HB2 HTK hHeld ⊢
 refine pu_ 0 (some 2) ?_ pn0.a1 rfl rfl HT_.out (by kernel_rfl) (fun _ _ _ h => h) (Or.inl ⟨by rfl, ?_⟩) ?_ ?_ ?_; rotate_left
 ·intro w'; go_simp; with_reducible rfl
 rotate_left
 ·simp only [Act.put, sa_, s0_, ss_, i64_w, i32_w]; rfl
 refine pu_ 1 (some 3) ?_ pn0.a2 rfl rfl HT_.out (by kernel_rfl) (fun _ _ _ h => h) (Or.inl ⟨by rfl, ?_⟩) ?_ ?_ ?_; rotate_left
 ·intro w'; go_simp; with_reducible rfl
 rotate_left
 ·simp only [Act.put, sa_, s0_, ss_, i64_w, i32_w]; rfl
 refine pu_ 2 (some 4) ?_ pn0.a3 rfl rfl HT_.out (by kernel_rfl) (fun _ _ _ h => h) (Or.inl ⟨by rfl, ?_⟩) ?_ ?_ ?_; rotate_left
 ·intro w'; go_simp; with_reducible rfl
 rotate_left
 ·simp only [Act.put, sa_, s0_, ss_, i64_w, i32_w]; rfl
 refine pu_ 3 (some 5) ?_ pn0.a4 rfl rfl HT_.out (by kernel_rfl) (fun _ _ _ h => h) (Or.inl ⟨by rfl, ?_⟩) ?_ ?_ ?_; rotate_left
 ·intro w'; go_simp; with_reducible rfl
 rotate_left
 ·simp only [Act.put, sa_, s0_, ss_, i64_w, i32_w]; rfl
 refine pu_ 5 (some 7) ?_ pn0.a5 rfl rfl HT_.out (by kernel_rfl) (fun _ _ _ h => h) (Or.inl ⟨by rfl, ?_⟩) ?_ ?_ ?_; rotate_left
 ·intro w'; go_simp; with_reducible rfl
 rotate_left
 ·simp only [Act.put, sa_, s0_, ss_, i64_w, i32_w]; rfl
 refine pu_ 6 (some 8) ?_ pn0.a6 rfl rfl HT_.out (by kernel_rfl) (fun _ _ _ h => h) (Or.inl ⟨by rfl, ?_⟩) ?_ ?_ ?_; rotate_left
 ·intro w'; go_simp; with_reducible rfl
 rotate_left
 ·simp only [Act.put, sa_, s0_, ss_, i64_w, i32_w]; rfl
 refine pu_ 7 (some 9) ?_ pn0.a7 rfl rfl HT_.out (by kernel_rfl) (fun _ _ _ h => h) (Or.inl ⟨by rfl, ?_⟩) ?_ ?_ ?_; rotate_left
 ·intro w'; go_simp; with_reducible rfl
 rotate_left
 ·simp only [Act.put, sa_, s0_, ss_, i64_w, i32_w]; rfl
 refine tk_ 4 (some 6) ?_ pn0.a8 rfl rfl HT_.out HW_.out (by kernel_rfl) (fun _ _ _ h => h) (Or.inl ⟨by rfl, ?_⟩) hHeld ?_ ?_ ?_; rotate_left
 ·rintro w' ⟨s0, s1⟩; go_simp; with_reducible rfl
 rotate_left
 ·simp only [Act.put, sa_, s0_, ss_, i64_w, i32_w]; rfl
 refine tk_ 8 (some 10) ?_ pn0.a9 rfl rfl HT_.out HW_.out (by kernel_rfl) (fun _ _ _ h => h) (Or.inl ⟨by rfl, ?_⟩) hHeld ?_ ?_ ?_; rotate_left
 ·rintro w' ⟨s0, s1⟩; go_simp; with_reducible rfl
 rotate_left
 ·simp only [Act.put, sa_, s0_, ss_, i64_w, i32_w]; rfl
 refine one_ (i := 9) (N := some 11) pn0.a10 rfl rfl (one_of HT_.out (by kernel_rfl)) (by decide) (fun K hK => ?_)
 refine Kd.R_make_step k75 _ 75 (by rfl) (N := 11) rfl 26 (.tmp 10) (.tmp 10) rfl cols rfl rfl Try.underlying26 (.agg #[(.slice none 0 0), (.int .i64 0)]) 32 vinfo75 rfl (by decide) (by omega) z75 (ok := fun _ => True) (okp := fun _ => True) (k75_mkM _ _ _ z75 (Kd.R_nil _ _ _ _ _)) (fun _ hk => hk) trivial HC.out.1 (by have := HC.out.2; omega) (Below.refl _ _) (Nat.le_refl _) ?_
 intro v6 w6 ho hb hg_ hnew_
 obtain ⟨A6, c6_, e6⟩ := Kd.R_slice ho
 generalize hn6 : (List.replicate cols.toNat z75).length = n6 at e6
 subst e6
 have HLt : Aside0 (∀ k, (.slice Ar rows.length cr : Value).ownBlock = some k → k < w5.heap.size) := ⟨Kd.S_lt HSr.out⟩
 replace HSr := am (Kd.S_below (Kd.S_mono (ok' := fun k => True ∧ ¬ w5.heap.size ≤ k) (Kd.S_bound HSr.out) (fun k hk => ⟨trivial, Nat.not_le.mpr hk.2.2.1⟩)) hb)
 have HO6 := am (Kd.R_lower (Kd.R_mono (ok' := fun k => w5.heap.size ≤ k) (Kd.R_bound ho) (fun k hk => hk.2.1)) HB2.out.size)
 replace HBL := am (blk_below HBL.out hb)
 replace HB2 := am (below_step HB2.out hb)
 replace HTK := am (TK.below HTK.out hb)
 clear ho hb hg_ hnew_
 refine hK.out _ _ ⟨bc HBL.out 0, bc HBL.out 1⟩ (fun hHeld => ?_)
 clear hK K
 refine norm_ (a' := ?_) ?_ ?_; rotate_left
 ·show Act.put _ (some 11) _ = _
  simp only [Act.put, sa_, s0_, ss_, i64_w, i32_w]
  rfl
 refine one_ (i := 10) (N := some 12) pn0.a11 rfl rfl (one_of HT_.out (by kernel_rfl)) (by decide) (fun K hK => ?_)
 refine value_ (w1 := ?_) (v := ?_) (by rfl) rfl ?_ ?_; rotate_left 2
 ·go_simp
  constructor
  ·rfl
  ·rfl
 refine hK.out _ _ ⟨bc (blk_alloc HBL.out _) 0, bc (blk_alloc HBL.out _) 1⟩ (fun hHeld => ?_)
 clear hK K
 refine norm_ (a' := ?_) ?_ ?_; rotate_left
 ·show Act.put _ (some 12) _ = _
  simp only [Act.put, sa_, s0_, ss_, i64_w, i32_w]
  rfl
 refine one_ (i := 11) (N := some 13) pn0.a12 rfl rfl (one_of HT_.out (by kernel_rfl)) (by decide) (fun K hK => ?_)
 refine Kd.S_append_step kRow (w0 := w0) w0.heap.size (by rfl) (.tmp 6) (.tmp 12) 71 26 (.slice none 0 0) 24 rfl Try.underlying71 vinfo26 rfl (by decide) (by omega) (.slice Ar rows.length cr) rows (List.replicate cols.toNat z75) [.slice A6 n6 c6_] (fun _ => True) (fun k => w5.heap.size ≤ k) rfl rfl ?aP ?aK ?aF ?aO ?aB ?aS ?aL ?_
 (case aP => exact ⟨_, rfl, HO6.out⟩)
 (case aK => exact fun k hk => ⟨trivial, fun he => Nat.lt_irrefl _ (Nat.lt_of_lt_of_le (HLt.out k he.symm) hk)⟩)
 (case aF => exact fun _ _ => trivial)
 (case aO => exact HSr.out)
 (case aB => exact HB2.out)
 (case aS => exact HB2.out.size)
 (case aL => have := HL.out; omega)
 intro v9 w9 ho hb hg hat
 replace HTK := am (TK.grown HTK.out hg (Kd.S_typed HSr.out) (by decide))
 replace HBL := am (blk_grown HBL.out hg (Kd.S_ne HSr.out HBL.out (by decide)))
 replace HB2 := am hb
 obtain ⟨A9, c9_, e9⟩ := Kd.S_slice ho
 generalize (rows ++ [(List.replicate cols.toNat z75)]).length = n9 at e9
 subst e9
 have HO9 := am ho
 clear HSr HO6 HLt ho hb hg hat
 refine hK.out _ _ ⟨bc HBL.out 0, bc HBL.out 1⟩ (fun hHeld => ?_)
 clear hK K
 refine norm_ (a' := ?_) ?_ ?_; rotate_left
 ·show Act.put _ (some 13) _ = _
  simp only [Act.put, sa_, s0_, ss_, i64_w, i32_w]
  rfl
 refine pu_ 12 (some 14) ?_ pn0.a13 rfl rfl HT_.out (by kernel_rfl) (fun _ _ _ h => h) (Or.inl ⟨by rfl, ?_⟩) ?_ ?_ ?_; rotate_left
 ·intro w'; go_simp; with_reducible rfl
 rotate_left
 ·simp only [Act.put, sa_, s0_, ss_, i64_w, i32_w]; rfl
 refine pu_ 13 (some 15) ?_ pn0.a14 rfl rfl HT_.out (by kernel_rfl) (fun _ _ _ h => h) (Or.inl ⟨by rfl, ?_⟩) ?_ ?_ ?_; rotate_left
 ·intro w'; go_simp; with_reducible rfl
 rotate_left
 ·simp only [Act.put, sa_, s0_, ss_, i64_w, i32_w]; rfl
 refine last_ (i := 14) (N := none) pn0.a15 rfl rfl (one_of HT_.out (by kernel_rfl)) (by decide) (fun K hK => ?_)
 have hs14 := bc HBL.out 1
 have hfs14 := blk_frozen HBL.out 1
 refine skip_ (w1 := ?_) (by rfl) rfl ?_ ?_
 rotate_left
 ·go_simp
  rfl
 refine hK.out _ _ ?_
 clear hK K
 refine done_ (done_of HT_.out (by kernel_rfl)) ?_
 have HI9 : Aside0 (PS w0 (w9.setCell ⟨g, 1, none⟩ (.slice A9 n9 c9_)) g cols (rows ++ [(List.replicate cols.toNat z75)]) col) := ⟨⟨HG.out, _, blk_put HBL.out 1 _ rfl, Kd.S_set HO9.out HBL.out (by decide) _ _⟩⟩
 have HB9 := am (below_set (j := 1) (v := (.slice A9 n9 c9_)) HB2.out HG.out)
 replace HTK := am (TK.set HTK.out HBL.out (by decide) 1 (.slice A9 n9 c9_))
 clear HBL HO9 HB2 hHeld hs14 hfs14
 generalize (w9.setCell ⟨g, 1, none⟩ (.slice A9 n9 c9_)) = w16 at HI9 HB9 HTK ⊢
 obtain ⟨_, vr, h1, _⟩ := HI9.out
 have hz2 := bc h1 2
 have hf2 := blk_frozen h1 2
 have HBL := am h1
 clear h1
 go_wp2
 go_end0
 exact ⟨by first | rfl | (simp; done), PS_col HI9.out _, below_set HB9.out HG.out, TK.set HTK.out HBL.out (by decide) _ _⟩

theorem row_elem {w : World} {base ga n cr : Nat} {oki : Nat → Prop} {row : List S75} (hR : Kd.R k75 75 w base oki (.slice (some ⟨ga, 0, none⟩) n cr) row) (a : Int) (h0 : 0 ≤ a) (h1 : a < (n : Int)) {x : S75} (hx : x = rd_T75 row a) :
  ∃ (A0 : Option Addr) (c0 : Nat), w.cell? ⟨ga, a.toNat * 2, none⟩ = some (.slice A0 x.f0.length c0) ∧ w.cell? ⟨ga, a.toNat * 2 + 1, none⟩ = some (.int .i64 x.f1) ∧ x.f0.length ≤ c0 ∧ Kd.C (Kd.int .i64) w A0 x.f0.length x.f0 ∧ w.frozen? ⟨ga, a.toNat * 2, none⟩ = false ∧ w.frozen? ⟨ga, a.toNat * 2 + 1, none⟩ = false := by
 obtain ⟨c, _, hM, hcc, hfr⟩ := Kd.R_elem hR z75 a h0 h1
 rw [show row.getD a.toNat z75 = x from hx.symm] at hM
 obtain ⟨v0, rfl, hv⟩ := k75_openM hM
 obtain ⟨A0, c0, rfl, hl, hC⟩ := Kd.R_reads hv
 have e0 := hcc 0 _ rfl
 have e1 := hcc 1 _ rfl
 have f0 := hfr 0
 have f1 := hfr 1
 rw [show k75.sz = 2 from rfl] at e0 e1 f0 f1
 exact ⟨A0, c0, e0, e1, hl, hC, f0, f1⟩
theorem row_put {w : World} {base ga n cr : Nat} {oki okp : Nat → Prop} {row : List S75} (hR : Kd.R k75 75 w base oki (.slice (some ⟨ga, 0, none⟩) n cr) row) (a : Int) (h0 : 0 ≤ a) (h1 : a < (n : Int)) {x : S75} (hx : x = rd_T75 row a) {v : Value} {ys : List Int} (hv : Kd.R (Kd.int .i64) 2 w base okp v ys) (hok : ∀ k, okp k → oki k ∧ k ≠ ga) :
  Kd.R k75 75 (w.setCell ⟨ga, a.toNat * 2, none⟩ v) base oki (.slice (some ⟨ga, 0, none⟩) n cr) (row.set a.toNat ⟨ys, x.f1⟩) := by
 obtain ⟨c, hcl, hM, hcc, hfr⟩ := Kd.R_elem hR z75 a h0 h1
 rw [show row.getD a.toNat z75 = x from hx.symm] at hM
 obtain ⟨v0, rfl, _⟩ := k75_openM hM
 exact (Kd.R_seg hR a h0 h1 (seg := [v]) (j := 0) hcl hcc (show 0 + 1 ≤ 2 by decide) (x' := (⟨ys, x.f1⟩ : S75)) (k75_mkM w base okp (⟨ys, x.f1⟩ : S75) hv) hok).1
theorem row_put2 {w : World} {base ga n cr : Nat} {oki okp : Nat → Prop} {row : List S75} (hR : Kd.R k75 75 w base oki (.slice (some ⟨ga, 0, none⟩) n cr) row) (a : Int) (h0 : 0 ≤ a) (h1 : a < (n : Int)) {v : Value} {ys : List Int} (b : Int) (hv : Kd.R (Kd.int .i64) 2 w base okp v ys) (hok : ∀ k, okp k → oki k ∧ k ≠ ga) :
  Kd.R k75 75 ((w.setCell ⟨ga, a.toNat * 2, none⟩ v).setCell ⟨ga, a.toNat * 2 + 1, none⟩ (.int .i64 b)) base oki (.slice (some ⟨ga, 0, none⟩) n cr) (row.set a.toNat ⟨ys, b⟩) := by
 obtain ⟨c, hcl, hM, hcc, hfr⟩ := Kd.R_elem hR z75 a h0 h1
 obtain ⟨v0, rfl, _⟩ := k75_openM hM
 exact (Kd.R_seg hR a h0 h1 (seg := [v, .int .i64 b]) (j := 0) hcl hcc (show 0 + 2 ≤ 2 by decide) (x' := (⟨ys, b⟩ : S75)) (k75_mkM w base okp (⟨ys, b⟩ : S75) hv) hok).1
def shAt (k : Nat) (row : List S75) (col : Int) : Option Int := if 0 < wrap64 (col - 1) then (if 0 ≤ wrap64 (wrap64 (col - 1) - 1) then (if wrap64 (wrap64 (col - 1) - 1) < (row.length : Int) then ((spec_l08Wide.f k (rd_T75 row (wrap64 (wrap64 (col - 1) - 1))).f0 (rd_T75 row (wrap64 (wrap64 (col - 1) - 1))).f1).bind fun b => some (if b = true then wrap64 (wrap64 (col - 1) - 1) else wrap64 (col - 1))) else none) else none) else some (wrap64 (col - 1))
def sh0 (rows : List (List S75)) (row : List S75) (p : Int) (a : Int) : Option (List (List S75)) := if 0 ≤ a then (if a < (row.length : Int) then (if 0 < (rd_T75 row a).f0.length then (if (rd_T75 row a).f0.length < 4 then ((spec_l01Copy.f (rd_T75 row a).f0).bind fun t => if t.length ≤ 1000 then some (rows.set (rows.length - 1) (row.set a.toNat ⟨t ++ [p], (rd_T75 row a).f1⟩)) else none) else some rows) else some rows) else none) else some rows
def sh1 (rows : List (List S75)) (col wd p attr : Int) : Option (List (List S75) × Int) := if 0 < rows.length then (if 0 ≤ col then (if col < ((rd_L3 rows ((rows.length - 1 : Nat) : Int)).length : Int) then (if wd = 2 then (if 0 ≤ wrap64 (col + 1) then (if wrap64 (col + 1) < ((rd_L3 rows ((rows.length - 1 : Nat) : Int)).length : Int) then some (rows.set (rows.length - 1) (((rd_L3 rows ((rows.length - 1 : Nat) : Int)).set col.toNat ⟨[p], attr⟩).set (wrap64 (col + 1)).toNat ⟨[], attr⟩), wrap64 (col + wd)) else none) else none) else some (rows.set (rows.length - 1) ((rd_L3 rows ((rows.length - 1 : Nat) : Int)).set col.toNat ⟨[p], attr⟩), wrap64 (col + wd))) else none) else none) else none
def shF (k : Nat) (cols : Int) (rows : List (List S75)) (col p attr : Int) : Option (List (List S75) × Int) := (spec_WidthOf.f k p).bind fun wd => if 0 < rows.length ∧ rows.length ≤ 1000000 then (if wd = 0 then ((shAt k (rd_L3 rows ((rows.length - 1 : Nat) : Int)) col).bind fun a => (sh0 rows (rd_L3 rows ((rows.length - 1 : Nat) : Int)) p a).bind fun r => some (r, col)) else (if wrap64 (cols - col) < wd then (if (0 ≤ cols ∧ cols ≤ 1000000) ∧ rows.length ≤ 1000000 then sh1 (rows ++ [List.replicate cols.toNat z75]) 0 wd p attr else none) else sh1 rows col wd p attr)) else none
theorem pen_shown.calls (k g : Nat) (cols col p attr : Int) (rows rows' : List (List S75)) (col' : Int) (w0 w : World) (hI : PS w0 w g cols rows col) (hB : Below w0.heap.size w0 w) (h : shF k cols rows col p attr = some (rows', col')) :
  Calls Try.prog 89 #[.pointer (some ⟨g, 0, none⟩), .int .i64 p, .int .i64 attr] w fun e w' => e = .returned (.tuple #[]) ∧ PS w0 w' g cols rows' col' ∧ Below w0.heap.size w0 w' ∧ TK w w' := by
 have HI := am hI
 have HB := am hB
 clear hI hB
 unfold shF at h
 obtain ⟨wd, AW0, h⟩ := Option.bind_eq_some_iff.mp h
 have AW := am AW0
 clear AW0
 by_cases c1 : 0 < rows.length ∧ rows.length ≤ 1000000
 rotate_left
 · rw [if_neg c1] at h; cases h
 rw [if_pos c1] at h
 obtain ⟨row, hrow⟩ : ∃ r, r = rd_L3 rows ((rows.length - 1 : Nat) : Int) := ⟨_, rfl⟩
 rw [← hrow] at h
 obtain ⟨gr, cap, oki, Ar, cr, h1, hv, hR, hfin⟩ := PS_last HI.out c1.1 hrow
 have HROW := am hrow
 have HF := am hfin
 have HR := am hR
 have HC1 := am c1
 have HP1 := am c1.1
 have HG1 := am h1
 have wm : wrap64 ((rows.length : Int) - 1) = ((rows.length - 1 : Nat) : Int) := by unfold wrap64; omega
 have q0 : (0 ≤ ((rows.length - 1 : Nat) : Int)) = True := eq_true (by omega)
 have q1 : (((rows.length - 1 : Nat) : Int) < (rows.length : Int)) = True := eq_true (by omega)
 have hz0 := bc h1 0
 have hz1 := bc h1 1
 have hz2 := bc h1 2
 clear hrow hfin hR c1 h1
 by_cases c2 : wd = 0
 · rw [if_pos c2] at h
   have c2b : (wd == 0) = true := beq_iff_eq.mpr c2
   subst c2
   obtain ⟨a, AA, h⟩ := Option.bind_eq_some_iff.mp h
   obtain ⟨r, AR, h⟩ := Option.bind_eq_some_iff.mp h
   simp only [Option.some.injEq, Prod.mk.injEq] at h
   obtain ⟨rfl, rfl⟩ := h
   unfold shAt at AA
   obtain ⟨a0, ha0⟩ : ∃ j, wrap64 (col - 1) = j := ⟨_, rfl⟩
   rw [ha0] at AA
   have HW := am (Below.refl w.heap.size w)
   by_cases c3 : 0 < a0
   · rw [if_pos c3] at AA
     obtain ⟨a1, ha1⟩ : ∃ j, wrap64 (a0 - 1) = j := ⟨_, rfl⟩
     rw [ha1] at AA
     have c3b : decide (0 < a0) = true := decide_eq_true c3
     by_cases c4 : 0 ≤ a1
     rotate_left
     · rw [if_neg c4] at AA
       cases AA
     rw [if_pos c4] at AA
     by_cases c5 : a1 < (row.length : Int)
     rotate_left
     · rw [if_neg c5] at AA
       cases AA
     rw [if_pos c5] at AA
     obtain ⟨x1, hx1⟩ : ∃ x, x = rd_T75 row a1 := ⟨_, rfl⟩
     rw [← hx1] at AA
     obtain ⟨b, AB0, AA⟩ := Option.bind_eq_some_iff.mp AA
     have AB := am AB0
     clear AB0
     obtain ⟨ga, cap2, eA, hga, hgal, cellsA, hcA⟩ := Kd.R_form HR.out (show 0 < row.length by omega)
     injection eA with ea_ en_ ec_
     clear en_
     subst ea_
     subst ec_
     have HGA := am hga
     have HGL := am hgal
     have HCA := am hcA
     clear hga hgal hcA
     obtain ⟨A1x, c1x, e1a, e1b, l1x, hC1x, _, _⟩ := row_elem HR.out a1 c4 c5 hx1
     have HC1x := am hC1x
     have HL1x := am l1x
     have p4 := eq_true c4
     have p5 := eq_true c5
     clear hx1 c3 c4 c5 hC1x l1x
     injection AA with AA
     cases b with
     | true =>
      rw [if_pos rfl] at AA
      subst AA
      unfold sh0 at AR
      by_cases d1 : 0 ≤ a1
      · rw [if_pos d1] at AR
        by_cases d2 : a1 < (row.length : Int)
        · rw [if_pos d2] at AR
          obtain ⟨x, hx⟩ : ∃ x, x = rd_T75 row a1 := ⟨_, rfl⟩
          rw [← hx] at AR
          obtain ⟨Ax, cx, ex0, ex1, lx, hCx, _, _⟩ := row_elem HR.out a1 d1 d2 hx
          have u1 := eq_true d1
          have u2 := eq_true d2
          have u1b : decide (0 ≤ a1) = true := decide_eq_true d1
          by_cases d3 : 0 < x.f0.length
          · rw [if_pos d3] at AR
            have d3b : decide (0 < (x.f0.length : Int)) = true := decide_eq_true (by omega)
            have d3c : decide (0 < x.f0.length) = true := decide_eq_true d3
            clear d3
            by_cases d4 : x.f0.length < 4
            · rw [if_pos d4] at AR
              have d4b : decide ((x.f0.length : Int) < 4) = true := decide_eq_true (by omega)
              clear d4
              obtain ⟨t, AT0, AR⟩ := Option.bind_eq_some_iff.mp AR
              have AT := am AT0
              clear AT0
              by_cases d5 : t.length ≤ 1000
              · rw [if_pos d5] at AR
                injection AR with AR
                subst AR
                have HT := am d5
                clear d5
                have HD1 := am d1
                have HD2 := am d2
                have HX := am hx
                have HLx := am lx
                have HCx := am hCx
                clear hx lx hCx d1 d2
                go_enter Try.func89, Try.ntmps89
                go_wp2_with (go_at_call 104; refine (spec_WidthOf.calls k p _ _ AW.out).mono ?_; rintro e w' ⟨rfl, ⟨nd, rfl⟩⟩)
                go_quiet ((fail))
                go_wp2_with (first | (go_at_call 105; refine (spec_l08Wide.calls k A1x c1x x1.f0 x1.f1 true _ (Kd.C_drewN HC1x.out _) HL1x.out AB.out).mono ?_; rintro e w6 ⟨rfl, hb⟩; replace HW := am (below_step (pw_below_drewN HW.out _) hb); (try replace ex0 := pw_cell_below HW.out ex0); (try replace ex1 := pw_cell_below HW.out ex1); clear hb e1a e1b) | (go_at_call 106; refine (spec_l01Copy.calls Ax cx x.f0 t _ (by first | exact Kd.C_below HCx.out HW.out | exact Kd.C_below HCx.out (pw_below_drewN HW.out _)) HLx.out AT.out).mono ?_; rintro e w7 ⟨v7, rfl, ho, hb⟩; obtain ⟨A7, c7_, e7⟩ := Kd.R_slice ho; subst e7; have HW7 := am (below_step (by first | exact HW.out | exact pw_below_drewN HW.out _) hb); have HO7 := am (Kd.R_lower (base' := w.heap.size) ho HW.out.size); clear ho hb) | ((with_reducible refine gate_builtin (b := .append) (xs := #[.tmp 69, .tmp 71]) rfl ?_); at_builtin; refine Kd.R_append (Kd.int .i64) (w0 := w) w.heap.size rfl (.tmp 69) (.tmp 71) 22 2 (.int .i64 0) 8 rfl Try.underlying22 info2 rfl (by decide) (by omega) (.slice A7 t.length c7_) t p [.int .i64 p] (fun _ => True) (fun _ => False) rfl rfl ?aP (fun _ hk => hk.elim) ?aF ?aO ?aB ?aS ?aL ?_; (case aP => exact rfl); (case aB => exact HW7.out); (case aF => exact fun _ _ => trivial); (case aO => exact HO7.out); (case aS => exact HW7.out.size); (case aL => have := HT.out; omega); intro v9 w9 ho hb hg hat; obtain ⟨A9, c9_, e9⟩ := Kd.R_slice ho; generalize (t ++ [p]).length = n9 at e9; subst e9; have HW9 := am hb; have HO9 := am ho; have HR9 := am (Kd.R_below HR.out hb); obtain ⟨Ay, cy, ey, _, _, _, fy, _⟩ := row_elem HR9.out a1 HD1.out HD2.out rfl; clear ho hb hg hat ex0 ex1) | ((with_reducible refine gate_store (t := 22) (p := 74) rfl ?_); refine store_event (t := 22) (p := 74) (v := .tmp 72) (w1 := (w9.setCell ⟨ga, a1.toNat * 2, none⟩ (.slice A9 n9 c9_))) ?hg ?ho ?hn ?hr ?_; (case ho => rfl); (case hg => rfl); (case hn => rfl); (case hr => first | (go_simp; done) | (go_simp; rfl)); intro w10 hw; have hk_ := KeepBut.set_ (KeepBut.of_below HW9.out ga none) (a1.toNat * 2) (.slice A9 n9 c9_); rw [← hw] at hk_; have hr_ := row_put (Kd.R_mono (ok' := fun k => oki k ∨ w.heap.size ≤ k) HR9.out (fun _ h_ => .inl h_)) a1 HD1.out HD2.out HX.out (Kd.R_lower (base' := w0.heap.size) (Kd.R_mono (ok' := fun k => w.heap.size ≤ k) (Kd.R_bound HO9.out) (fun k h_ => h_.2.1)) HB.out.size) (fun k h_ => ⟨.inr h_, fun e_ => by have := HGL.out; omega⟩); rw [← hw] at hr_; have n1_ := am (HF.out w10 _ hk_.1 (fun k h_ hn_ => hk_.2 k h_ (fun e_ => hn_ (by rw [e_]; rfl)) (by simp)) hr_); have n2_ : Aside0 (Below w0.heap.size w0 w10) := ⟨by rw [hw]; exact below_set (below_step HB.out HW9.out) HGA.out⟩; have n3_ : Aside0 (TK w w10) := ⟨by rw [hw]; exact TK.set (TK.below (TK.refl w) HW9.out) (blk_below HCA.out HW9.out) (by decide) _ _⟩; clear hw hk_ hr_ ey fy HO9 HR9 HW9))
                first | go_end0 | ((try simp only [Exit.inBlock, Exit.then]); refine bodyPost_ret (results_none rfl _ _ _) rfl ?_)
                exact ⟨by first | rfl | (simp; done), n1_.out, n2_.out, n3_.out⟩
              · rw [if_neg d5] at AR
                cases AR
            · rw [if_neg d4] at AR
              injection AR with AR
              subst AR
              have d4b : decide ((x.f0.length : Int) < 4) = false := decide_eq_false (by omega)
              clear d4 hx lx hCx d1 d2
              go_enter Try.func89, Try.ntmps89
              go_wp2_with (go_at_call 104; refine (spec_WidthOf.calls k p _ _ AW.out).mono ?_; rintro e w' ⟨rfl, ⟨nd, rfl⟩⟩)
              go_quiet ((fail))
              go_wp2_with (first | (go_at_call 105; refine (spec_l08Wide.calls k A1x c1x x1.f0 x1.f1 true _ (Kd.C_drewN HC1x.out _) HL1x.out AB.out).mono ?_; rintro e w6 ⟨rfl, hb⟩; replace HW := am (below_step (pw_below_drewN HW.out _) hb); (try replace ex0 := pw_cell_below HW.out ex0); (try replace ex1 := pw_cell_below HW.out ex1); clear hb e1a e1b))
              first | go_end0 | ((try simp only [Exit.inBlock, Exit.then]); refine bodyPost_ret (results_none rfl _ _ _) rfl ?_)
              exact ⟨by first | rfl | (simp; done), PS_below HI.out (by first | exact HW.out | exact pw_below_drewN HW.out _), below_step HB.out (by first | exact HW.out | exact pw_below_drewN HW.out _), TK.below (TK.refl _) (by first | exact HW.out | exact pw_below_drewN HW.out _)⟩
          · rw [if_neg d3] at AR
            injection AR with AR
            subst AR
            have d3b : decide (0 < (x.f0.length : Int)) = false := decide_eq_false (by omega)
            have d3c : decide (0 < x.f0.length) = false := decide_eq_false d3
            clear d3 hx lx hCx d1 d2
            go_enter Try.func89, Try.ntmps89
            go_wp2_with (go_at_call 104; refine (spec_WidthOf.calls k p _ _ AW.out).mono ?_; rintro e w' ⟨rfl, ⟨nd, rfl⟩⟩)
            go_quiet ((fail))
            go_wp2_with (first | (go_at_call 105; refine (spec_l08Wide.calls k A1x c1x x1.f0 x1.f1 true _ (Kd.C_drewN HC1x.out _) HL1x.out AB.out).mono ?_; rintro e w6 ⟨rfl, hb⟩; replace HW := am (below_step (pw_below_drewN HW.out _) hb); (try replace ex0 := pw_cell_below HW.out ex0); (try replace ex1 := pw_cell_below HW.out ex1); clear hb e1a e1b))
            first | go_end0 | ((try simp only [Exit.inBlock, Exit.then]); refine bodyPost_ret (results_none rfl _ _ _) rfl ?_)
            exact ⟨by first | rfl | (simp; done), PS_below HI.out (by first | exact HW.out | exact pw_below_drewN HW.out _), below_step HB.out (by first | exact HW.out | exact pw_below_drewN HW.out _), TK.below (TK.refl _) (by first | exact HW.out | exact pw_below_drewN HW.out _)⟩
        · rw [if_neg d2] at AR
          cases AR
      · exact absurd (of_eq_true p4) d1
     | false =>
      rw [if_neg Bool.false_ne_true] at AA
      subst AA
      unfold sh0 at AR
      by_cases d1 : 0 ≤ a0
      · rw [if_pos d1] at AR
        by_cases d2 : a0 < (row.length : Int)
        · rw [if_pos d2] at AR
          obtain ⟨x, hx⟩ : ∃ x, x = rd_T75 row a0 := ⟨_, rfl⟩
          rw [← hx] at AR
          obtain ⟨Ax, cx, ex0, ex1, lx, hCx, _, _⟩ := row_elem HR.out a0 d1 d2 hx
          have u1 := eq_true d1
          have u2 := eq_true d2
          have u1b : decide (0 ≤ a0) = true := decide_eq_true d1
          by_cases d3 : 0 < x.f0.length
          · rw [if_pos d3] at AR
            have d3b : decide (0 < (x.f0.length : Int)) = true := decide_eq_true (by omega)
            have d3c : decide (0 < x.f0.length) = true := decide_eq_true d3
            clear d3
            by_cases d4 : x.f0.length < 4
            · rw [if_pos d4] at AR
              have d4b : decide ((x.f0.length : Int) < 4) = true := decide_eq_true (by omega)
              clear d4
              obtain ⟨t, AT0, AR⟩ := Option.bind_eq_some_iff.mp AR
              have AT := am AT0
              clear AT0
              by_cases d5 : t.length ≤ 1000
              · rw [if_pos d5] at AR
                injection AR with AR
                subst AR
                have HT := am d5
                clear d5
                have HD1 := am d1
                have HD2 := am d2
                have HX := am hx
                have HLx := am lx
                have HCx := am hCx
                clear hx lx hCx d1 d2
                go_enter Try.func89, Try.ntmps89
                go_wp2_with (go_at_call 104; refine (spec_WidthOf.calls k p _ _ AW.out).mono ?_; rintro e w' ⟨rfl, ⟨nd, rfl⟩⟩)
                go_quiet ((fail))
                go_wp2_with (first | (go_at_call 105; refine (spec_l08Wide.calls k A1x c1x x1.f0 x1.f1 false _ (Kd.C_drewN HC1x.out _) HL1x.out AB.out).mono ?_; rintro e w6 ⟨rfl, hb⟩; replace HW := am (below_step (pw_below_drewN HW.out _) hb); (try replace ex0 := pw_cell_below HW.out ex0); (try replace ex1 := pw_cell_below HW.out ex1); clear hb e1a e1b) | (go_at_call 106; refine (spec_l01Copy.calls Ax cx x.f0 t _ (by first | exact Kd.C_below HCx.out HW.out | exact Kd.C_below HCx.out (pw_below_drewN HW.out _)) HLx.out AT.out).mono ?_; rintro e w7 ⟨v7, rfl, ho, hb⟩; obtain ⟨A7, c7_, e7⟩ := Kd.R_slice ho; subst e7; have HW7 := am (below_step (by first | exact HW.out | exact pw_below_drewN HW.out _) hb); have HO7 := am (Kd.R_lower (base' := w.heap.size) ho HW.out.size); clear ho hb) | ((with_reducible refine gate_builtin (b := .append) (xs := #[.tmp 69, .tmp 71]) rfl ?_); at_builtin; refine Kd.R_append (Kd.int .i64) (w0 := w) w.heap.size rfl (.tmp 69) (.tmp 71) 22 2 (.int .i64 0) 8 rfl Try.underlying22 info2 rfl (by decide) (by omega) (.slice A7 t.length c7_) t p [.int .i64 p] (fun _ => True) (fun _ => False) rfl rfl ?aP (fun _ hk => hk.elim) ?aF ?aO ?aB ?aS ?aL ?_; (case aP => exact rfl); (case aB => exact HW7.out); (case aF => exact fun _ _ => trivial); (case aO => exact HO7.out); (case aS => exact HW7.out.size); (case aL => have := HT.out; omega); intro v9 w9 ho hb hg hat; obtain ⟨A9, c9_, e9⟩ := Kd.R_slice ho; generalize (t ++ [p]).length = n9 at e9; subst e9; have HW9 := am hb; have HO9 := am ho; have HR9 := am (Kd.R_below HR.out hb); obtain ⟨Ay, cy, ey, _, _, _, fy, _⟩ := row_elem HR9.out a0 HD1.out HD2.out rfl; clear ho hb hg hat ex0 ex1) | ((with_reducible refine gate_store (t := 22) (p := 74) rfl ?_); refine store_event (t := 22) (p := 74) (v := .tmp 72) (w1 := (w9.setCell ⟨ga, a0.toNat * 2, none⟩ (.slice A9 n9 c9_))) ?hg ?ho ?hn ?hr ?_; (case ho => rfl); (case hg => rfl); (case hn => rfl); (case hr => first | (go_simp; done) | (go_simp; rfl)); intro w10 hw; have hk_ := KeepBut.set_ (KeepBut.of_below HW9.out ga none) (a0.toNat * 2) (.slice A9 n9 c9_); rw [← hw] at hk_; have hr_ := row_put (Kd.R_mono (ok' := fun k => oki k ∨ w.heap.size ≤ k) HR9.out (fun _ h_ => .inl h_)) a0 HD1.out HD2.out HX.out (Kd.R_lower (base' := w0.heap.size) (Kd.R_mono (ok' := fun k => w.heap.size ≤ k) (Kd.R_bound HO9.out) (fun k h_ => h_.2.1)) HB.out.size) (fun k h_ => ⟨.inr h_, fun e_ => by have := HGL.out; omega⟩); rw [← hw] at hr_; have n1_ := am (HF.out w10 _ hk_.1 (fun k h_ hn_ => hk_.2 k h_ (fun e_ => hn_ (by rw [e_]; rfl)) (by simp)) hr_); have n2_ : Aside0 (Below w0.heap.size w0 w10) := ⟨by rw [hw]; exact below_set (below_step HB.out HW9.out) HGA.out⟩; have n3_ : Aside0 (TK w w10) := ⟨by rw [hw]; exact TK.set (TK.below (TK.refl w) HW9.out) (blk_below HCA.out HW9.out) (by decide) _ _⟩; clear hw hk_ hr_ ey fy HO9 HR9 HW9))
                first | go_end0 | ((try simp only [Exit.inBlock, Exit.then]); refine bodyPost_ret (results_none rfl _ _ _) rfl ?_)
                exact ⟨by first | rfl | (simp; done), n1_.out, n2_.out, n3_.out⟩
              · rw [if_neg d5] at AR
                cases AR
            · rw [if_neg d4] at AR
              injection AR with AR
              subst AR
              have d4b : decide ((x.f0.length : Int) < 4) = false := decide_eq_false (by omega)
              clear d4 hx lx hCx d1 d2
              go_enter Try.func89, Try.ntmps89
              go_wp2_with (go_at_call 104; refine (spec_WidthOf.calls k p _ _ AW.out).mono ?_; rintro e w' ⟨rfl, ⟨nd, rfl⟩⟩)
              go_quiet ((fail))
              go_wp2_with (first | (go_at_call 105; refine (spec_l08Wide.calls k A1x c1x x1.f0 x1.f1 false _ (Kd.C_drewN HC1x.out _) HL1x.out AB.out).mono ?_; rintro e w6 ⟨rfl, hb⟩; replace HW := am (below_step (pw_below_drewN HW.out _) hb); (try replace ex0 := pw_cell_below HW.out ex0); (try replace ex1 := pw_cell_below HW.out ex1); clear hb e1a e1b))
              first | go_end0 | ((try simp only [Exit.inBlock, Exit.then]); refine bodyPost_ret (results_none rfl _ _ _) rfl ?_)
              exact ⟨by first | rfl | (simp; done), PS_below HI.out (by first | exact HW.out | exact pw_below_drewN HW.out _), below_step HB.out (by first | exact HW.out | exact pw_below_drewN HW.out _), TK.below (TK.refl _) (by first | exact HW.out | exact pw_below_drewN HW.out _)⟩
          · rw [if_neg d3] at AR
            injection AR with AR
            subst AR
            have d3b : decide (0 < (x.f0.length : Int)) = false := decide_eq_false (by omega)
            have d3c : decide (0 < x.f0.length) = false := decide_eq_false d3
            clear d3 hx lx hCx d1 d2
            go_enter Try.func89, Try.ntmps89
            go_wp2_with (go_at_call 104; refine (spec_WidthOf.calls k p _ _ AW.out).mono ?_; rintro e w' ⟨rfl, ⟨nd, rfl⟩⟩)
            go_quiet ((fail))
            go_wp2_with (first | (go_at_call 105; refine (spec_l08Wide.calls k A1x c1x x1.f0 x1.f1 false _ (Kd.C_drewN HC1x.out _) HL1x.out AB.out).mono ?_; rintro e w6 ⟨rfl, hb⟩; replace HW := am (below_step (pw_below_drewN HW.out _) hb); (try replace ex0 := pw_cell_below HW.out ex0); (try replace ex1 := pw_cell_below HW.out ex1); clear hb e1a e1b))
            first | go_end0 | ((try simp only [Exit.inBlock, Exit.then]); refine bodyPost_ret (results_none rfl _ _ _) rfl ?_)
            exact ⟨by first | rfl | (simp; done), PS_below HI.out (by first | exact HW.out | exact pw_below_drewN HW.out _), below_step HB.out (by first | exact HW.out | exact pw_below_drewN HW.out _), TK.below (TK.refl _) (by first | exact HW.out | exact pw_below_drewN HW.out _)⟩
        · rw [if_neg d2] at AR
          cases AR
      · rw [if_neg d1] at AR
        injection AR with AR
        subst AR
        have u1b : decide (0 ≤ a0) = false := decide_eq_false d1
        clear d1
        go_enter Try.func89, Try.ntmps89
        go_wp2_with (go_at_call 104; refine (spec_WidthOf.calls k p _ _ AW.out).mono ?_; rintro e w' ⟨rfl, ⟨nd, rfl⟩⟩)
        go_quiet ((fail))
        go_wp2_with (first | (go_at_call 105; refine (spec_l08Wide.calls k A1x c1x x1.f0 x1.f1 false _ (Kd.C_drewN HC1x.out _) HL1x.out AB.out).mono ?_; rintro e w6 ⟨rfl, hb⟩; replace HW := am (below_step (pw_below_drewN HW.out _) hb); (try replace ex0 := pw_cell_below HW.out ex0); (try replace ex1 := pw_cell_below HW.out ex1); clear hb e1a e1b))
        first | go_end0 | ((try simp only [Exit.inBlock, Exit.then]); refine bodyPost_ret (results_none rfl _ _ _) rfl ?_)
        exact ⟨by first | rfl | (simp; done), PS_below HI.out (by first | exact HW.out | exact pw_below_drewN HW.out _), below_step HB.out (by first | exact HW.out | exact pw_below_drewN HW.out _), TK.below (TK.refl _) (by first | exact HW.out | exact pw_below_drewN HW.out _)⟩
   · rw [if_neg c3] at AA
     injection AA with AA
     subst AA
     have c3b : decide (0 < a0) = false := decide_eq_false c3
     clear c3
     unfold sh0 at AR
     by_cases d1 : 0 ≤ a0
     · rw [if_pos d1] at AR
       by_cases d2 : a0 < (row.length : Int)
       · rw [if_pos d2] at AR
         obtain ⟨ga, cap2, eA, hga, hgal, cellsA, hcA⟩ := Kd.R_form HR.out (show 0 < row.length by omega)
         injection eA with ea_ en_ ec_
         clear en_
         subst ea_
         subst ec_
         have HGA := am hga
         have HGL := am hgal
         have HCA := am hcA
         clear hga hgal hcA
         obtain ⟨x, hx⟩ : ∃ x, x = rd_T75 row a0 := ⟨_, rfl⟩
         rw [← hx] at AR
         obtain ⟨Ax, cx, ex0, ex1, lx, hCx, _, _⟩ := row_elem HR.out a0 d1 d2 hx
         have u1 := eq_true d1
         have u2 := eq_true d2
         have u1b : decide (0 ≤ a0) = true := decide_eq_true d1
         by_cases d3 : 0 < x.f0.length
         · rw [if_pos d3] at AR
           have d3b : decide (0 < (x.f0.length : Int)) = true := decide_eq_true (by omega)
           have d3c : decide (0 < x.f0.length) = true := decide_eq_true d3
           clear d3
           by_cases d4 : x.f0.length < 4
           · rw [if_pos d4] at AR
             have d4b : decide ((x.f0.length : Int) < 4) = true := decide_eq_true (by omega)
             clear d4
             obtain ⟨t, AT0, AR⟩ := Option.bind_eq_some_iff.mp AR
             have AT := am AT0
             clear AT0
             by_cases d5 : t.length ≤ 1000
             · rw [if_pos d5] at AR
               injection AR with AR
               subst AR
               have HT := am d5
               clear d5
               have HD1 := am d1
               have HD2 := am d2
               have HX := am hx
               have HLx := am lx
               have HCx := am hCx
               clear hx lx hCx d1 d2
               go_enter Try.func89, Try.ntmps89
               go_wp2_with (go_at_call 104; refine (spec_WidthOf.calls k p _ _ AW.out).mono ?_; rintro e w' ⟨rfl, ⟨nd, rfl⟩⟩)
               go_quiet ((fail))
               go_wp2_with (first | (go_at_call 106; refine (spec_l01Copy.calls Ax cx x.f0 t _ (by first | exact Kd.C_below HCx.out HW.out | exact Kd.C_below HCx.out (pw_below_drewN HW.out _)) HLx.out AT.out).mono ?_; rintro e w7 ⟨v7, rfl, ho, hb⟩; obtain ⟨A7, c7_, e7⟩ := Kd.R_slice ho; subst e7; have HW7 := am (below_step (by first | exact HW.out | exact pw_below_drewN HW.out _) hb); have HO7 := am (Kd.R_lower (base' := w.heap.size) ho HW.out.size); clear ho hb) | ((with_reducible refine gate_builtin (b := .append) (xs := #[.tmp 69, .tmp 71]) rfl ?_); at_builtin; refine Kd.R_append (Kd.int .i64) (w0 := w) w.heap.size rfl (.tmp 69) (.tmp 71) 22 2 (.int .i64 0) 8 rfl Try.underlying22 info2 rfl (by decide) (by omega) (.slice A7 t.length c7_) t p [.int .i64 p] (fun _ => True) (fun _ => False) rfl rfl ?aP (fun _ hk => hk.elim) ?aF ?aO ?aB ?aS ?aL ?_; (case aP => exact rfl); (case aB => exact HW7.out); (case aF => exact fun _ _ => trivial); (case aO => exact HO7.out); (case aS => exact HW7.out.size); (case aL => have := HT.out; omega); intro v9 w9 ho hb hg hat; obtain ⟨A9, c9_, e9⟩ := Kd.R_slice ho; generalize (t ++ [p]).length = n9 at e9; subst e9; have HW9 := am hb; have HO9 := am ho; have HR9 := am (Kd.R_below HR.out hb); obtain ⟨Ay, cy, ey, _, _, _, fy, _⟩ := row_elem HR9.out a0 HD1.out HD2.out rfl; clear ho hb hg hat ex0 ex1) | ((with_reducible refine gate_store (t := 22) (p := 74) rfl ?_); refine store_event (t := 22) (p := 74) (v := .tmp 72) (w1 := (w9.setCell ⟨ga, a0.toNat * 2, none⟩ (.slice A9 n9 c9_))) ?hg ?ho ?hn ?hr ?_; (case ho => rfl); (case hg => rfl); (case hn => rfl); (case hr => first | (go_simp; done) | (go_simp; rfl)); intro w10 hw; have hk_ := KeepBut.set_ (KeepBut.of_below HW9.out ga none) (a0.toNat * 2) (.slice A9 n9 c9_); rw [← hw] at hk_; have hr_ := row_put (Kd.R_mono (ok' := fun k => oki k ∨ w.heap.size ≤ k) HR9.out (fun _ h_ => .inl h_)) a0 HD1.out HD2.out HX.out (Kd.R_lower (base' := w0.heap.size) (Kd.R_mono (ok' := fun k => w.heap.size ≤ k) (Kd.R_bound HO9.out) (fun k h_ => h_.2.1)) HB.out.size) (fun k h_ => ⟨.inr h_, fun e_ => by have := HGL.out; omega⟩); rw [← hw] at hr_; have n1_ := am (HF.out w10 _ hk_.1 (fun k h_ hn_ => hk_.2 k h_ (fun e_ => hn_ (by rw [e_]; rfl)) (by simp)) hr_); have n2_ : Aside0 (Below w0.heap.size w0 w10) := ⟨by rw [hw]; exact below_set (below_step HB.out HW9.out) HGA.out⟩; have n3_ : Aside0 (TK w w10) := ⟨by rw [hw]; exact TK.set (TK.below (TK.refl w) HW9.out) (blk_below HCA.out HW9.out) (by decide) _ _⟩; clear hw hk_ hr_ ey fy HO9 HR9 HW9))
               first | go_end0 | ((try simp only [Exit.inBlock, Exit.then]); refine bodyPost_ret (results_none rfl _ _ _) rfl ?_)
               exact ⟨by first | rfl | (simp; done), n1_.out, n2_.out, n3_.out⟩
             · rw [if_neg d5] at AR
               cases AR
           · rw [if_neg d4] at AR
             injection AR with AR
             subst AR
             have d4b : decide ((x.f0.length : Int) < 4) = false := decide_eq_false (by omega)
             clear d4 hx lx hCx d1 d2
             go_enter Try.func89, Try.ntmps89
             go_wp2_with (go_at_call 104; refine (spec_WidthOf.calls k p _ _ AW.out).mono ?_; rintro e w' ⟨rfl, ⟨nd, rfl⟩⟩)
             go_quiet ((fail))
             go_wp2
             first | go_end0 | ((try simp only [Exit.inBlock, Exit.then]); refine bodyPost_ret (results_none rfl _ _ _) rfl ?_)
             exact ⟨by first | rfl | (simp; done), PS_below HI.out (by first | exact HW.out | exact pw_below_drewN HW.out _), below_step HB.out (by first | exact HW.out | exact pw_below_drewN HW.out _), TK.below (TK.refl _) (by first | exact HW.out | exact pw_below_drewN HW.out _)⟩
         · rw [if_neg d3] at AR
           injection AR with AR
           subst AR
           have d3b : decide (0 < (x.f0.length : Int)) = false := decide_eq_false (by omega)
           have d3c : decide (0 < x.f0.length) = false := decide_eq_false d3
           clear d3 hx lx hCx d1 d2
           go_enter Try.func89, Try.ntmps89
           go_wp2_with (go_at_call 104; refine (spec_WidthOf.calls k p _ _ AW.out).mono ?_; rintro e w' ⟨rfl, ⟨nd, rfl⟩⟩)
           go_quiet ((fail))
           go_wp2
           first | go_end0 | ((try simp only [Exit.inBlock, Exit.then]); refine bodyPost_ret (results_none rfl _ _ _) rfl ?_)
           exact ⟨by first | rfl | (simp; done), PS_below HI.out (by first | exact HW.out | exact pw_below_drewN HW.out _), below_step HB.out (by first | exact HW.out | exact pw_below_drewN HW.out _), TK.below (TK.refl _) (by first | exact HW.out | exact pw_below_drewN HW.out _)⟩
       · rw [if_neg d2] at AR
         cases AR
     · rw [if_neg d1] at AR
       injection AR with AR
       subst AR
       have u1b : decide (0 ≤ a0) = false := decide_eq_false d1
       clear d1
       go_enter Try.func89, Try.ntmps89
       go_wp2_with (go_at_call 104; refine (spec_WidthOf.calls k p _ _ AW.out).mono ?_; rintro e w' ⟨rfl, ⟨nd, rfl⟩⟩)
       go_quiet ((fail))
       go_wp2
       first | go_end0 | ((try simp only [Exit.inBlock, Exit.then]); refine bodyPost_ret (results_none rfl _ _ _) rfl ?_)
       exact ⟨by first | rfl | (simp; done), PS_below HI.out (by first | exact HW.out | exact pw_below_drewN HW.out _), below_step HB.out (by first | exact HW.out | exact pw_below_drewN HW.out _), TK.below (TK.refl _) (by first | exact HW.out | exact pw_below_drewN HW.out _)⟩
 · rw [if_neg c2] at h
   have c2b : (wd == 0) = false := beq_eq_false_iff_ne.mpr c2
   clear c2
   by_cases c6 : wrap64 (cols - col) < wd
   · rw [if_pos c6] at h
     have c6b : decide (wrap64 (cols - col) < wd) = true := decide_eq_true c6
     clear c6
     by_cases c7 : (0 ≤ cols ∧ cols ≤ 1000000) ∧ rows.length ≤ 1000000
     rotate_left
     · rw [if_neg c7] at h
       cases h
     rw [if_pos c7] at h
     have HC6 := am c7
     obtain ⟨rows1, hr1⟩ : ∃ r, r = rows ++ [List.replicate cols.toNat z75] := ⟨_, rfl⟩
     rw [← hr1] at h
     obtain ⟨z0, hz0_⟩ : ∃ z : Int, z = 0 := ⟨0, rfl⟩
     rw [← hz0_] at h
     have HZ := am hz0_
     clear hz0_
     have hl1 : rows1.length = rows.length + 1 := by rw [hr1, List.length_append]; rfl
     have HR1S := am hr1
     clear hr1
     have wm1 : wrap64 ((rows1.length : Int) - 1) = ((rows1.length - 1 : Nat) : Int) := by have := c7.2; unfold wrap64; omega
     have q01 : (0 ≤ ((rows1.length - 1 : Nat) : Int)) = True := eq_true (by omega)
     have q11 : (((rows1.length - 1 : Nat) : Int) < (rows1.length : Int)) = True := eq_true (by omega)
     replace HP1 := am (show 0 < rows1.length by omega)
     clear hl1 c7
     obtain ⟨row1, hrow1⟩ : ∃ r, r = rd_L3 rows1 ((rows1.length - 1 : Nat) : Int) := ⟨_, rfl⟩
     have HROW1 := am hrow1
     clear hrow1
     go_enter Try.func89, Try.ntmps89
     go_wp2_with (go_at_call 104; refine (spec_WidthOf.calls k p _ _ AW.out).mono ?_; rintro e w' ⟨rfl, ⟨nd, rfl⟩⟩)
     go_quiet ((fail))
     go_wp2
     go_quiet ((fail))
     go_wp2_with (go_at_call 67; refine (pen_next.calls g cols col rows w0 _ (PS_below HI.out (pw_below_drewN (Below.refl _ _) _)) (pw_below_drewN HB.out _) HC6.out.1 HC6.out.2).mono ?_; rintro e w5 ⟨rfl, hi, hb, ht⟩; have HI5 := am hi; have HB5 := am hb; have HT5 : Aside0 (TK w w5) := ⟨ht⟩; clear hi hb ht hz0 hz1 hz2 hv; rw [← HR1S.out] at HI5; replace HI5 : Aside0 (PS w0 w5 g cols rows1 z0) := ⟨by rw [HZ.out]; exact HI5.out⟩; obtain ⟨gr5, cap5, oki5, Ar5, cr5, h15, hv5, hR5, hfin5⟩ := PS_last HI5.out HP1.out HROW1.out; have HF5 := am hfin5; have HR5 := am hR5; have HG5 := am h15; have hz1 := bc h15 1; have hz2 := bc h15 2; clear hfin5 hR5 h15)
     go_quiet ((fail))
     clear hz1 hv5
     unfold sh1 at h
     rw [if_pos HP1.out] at h
     by_cases d1 : 0 ≤ (z0 : Int)
     rotate_left
     · rw [if_neg d1] at h
       cases h
     rw [if_pos d1, ← HROW1.out] at h
     by_cases d2 : (z0 : Int) < (row1.length : Int)
     rotate_left
     · rw [if_neg d2] at h
       cases h
     rw [if_pos d2] at h
     obtain ⟨ga, cap2, eA, hga, hgal, cellsA, hcA⟩ := Kd.R_form HR5.out (show 0 < row1.length by omega)
     injection eA with ea_ en_ ec_
     clear en_
     subst ea_
     subst ec_
     have HGA := am hga
     have HGL := am hgal
     have HCA := am hcA
     have HNE := am (blk_ne HG5.out hcA (by decide))
     clear hga hgal hcA
     have HD1 := am d1
     have HD2 := am d2
     have u1 := eq_true d1
     have u2 := eq_true d2
     clear d1 d2
     by_cases e1 : wd = 2
     · rw [if_pos e1] at h
       subst e1
       have e1b : ((2 : Int) == 2) = true := rfl
       obtain ⟨a2, ha2⟩ : ∃ j, wrap64 ((z0 : Int) + 1) = j := ⟨_, rfl⟩
       rw [ha2] at h
       by_cases f1 : 0 ≤ a2
       rotate_left
       · rw [if_neg f1] at h
         cases h
       rw [if_pos f1] at h
       by_cases f2 : a2 < (row1.length : Int)
       rotate_left
       · rw [if_neg f2] at h
         cases h
       rw [if_pos f2] at h
       simp only [Option.some.injEq, Prod.mk.injEq] at h
       obtain ⟨rfl, rfl⟩ := h
       have HE1 := am f1
       have HE2 := am f2
       have v1_ := eq_true f1
       have v2_ := eq_true f2
       clear f1 f2
       go_wp2_with (first | ((with_reducible refine gate_dst (N := 106) rfl ?_); refine Kd.R_lit (Kd.int .i64) _ 2 ?hg (N := 106) ?hd (xs := ([p] : List Int)) (inner := [.int .i64 p]) (ok := fun _ => True) (okp := fun _ => True) ?hr ?hp (fun _ hk => hk) trivial (Below.refl _ _) (Nat.le_refl _) (by simp) ?_; (case hd => rfl); (case hg => rfl); (case hr => first | (go_simp; done) | (go_simp; rfl)); (case hp => exact (Reps.one (show Kd.M (Kd.int .i64) _ _ _ p [.int .i64 p] from rfl) (Reps.none _ _))); intro v6 w6 ho hb hg_ hnew_; obtain ⟨A6, c6_, e6⟩ := Kd.R_slice ho; generalize ([p] : List Int).length = n6 at e6; subst e6; have HW6 := am (below_step (pw_below_drewN (Below.refl w5.heap.size w5) _) hb); have HO6 := am (Kd.R_lower (base' := w0.heap.size) (Kd.R_mono (ok' := fun k => w5.heap.size ≤ k) (Kd.R_bound ho) (fun k h_ => h_.2.1)) HB5.out.size); have HR6 := am (Kd.R_mono (ok' := fun k => oki5 k ∨ w5.heap.size ≤ k) (Kd.R_below HR5.out HW6.out) (fun _ h_ => .inl h_)); obtain ⟨Ay, cy, ey0, ey1, _, _, fy0, fy1⟩ := row_elem HR6.out z0 HD1.out HD2.out rfl; clear ho hb hg_ hnew_) | ((with_reducible refine gate_store (t := 75) (p := 109) rfl ?_); refine store_event (t := 75) (p := 109) (v := .tmp 108) (w1 := ((w6.setCell ⟨ga, (z0 : Int).toNat * 2, none⟩ (.slice A6 n6 c6_)).setCell ⟨ga, (z0 : Int).toNat * 2 + 1, none⟩ (.int .i64 attr))) ?hg ?ho ?hn ?hr ?_; (case ho => rfl); (case hg => rfl); (case hn => rfl); (case hr => first | (go_simp; done) | (go_simp; rfl)); intro w10 hw; have hk_ := KeepBut.set_ (KeepBut.set_ (KeepBut.of_below HW6.out ga none) ((z0 : Int).toNat * 2) (.slice A6 n6 c6_)) ((z0 : Int).toNat * 2 + 1) (.int .i64 attr); rw [← hw] at hk_; have hr_ := row_put2 HR6.out z0 HD1.out HD2.out attr HO6.out (fun k h_ => ⟨.inr h_, fun e_ => by have := HGL.out; omega⟩); rw [← hw] at hr_; have HK10 := am hk_; have HR10 := am hr_; have HB10 : Aside0 (Below w0.heap.size w0 w10) := ⟨by rw [hw]; exact below_set (below_set (below_step HB5.out HW6.out) HGA.out) HGA.out⟩; have HT10 : Aside0 (TK w5 w10) := ⟨by rw [hw]; exact TK.set (TK.set (TK.below (TK.refl w5) HW6.out) (blk_below HCA.out HW6.out) (by decide) _ _) (blk_put (blk_below HCA.out HW6.out) _ _ rfl) (by decide) _ _⟩; have hg10 := HK10.out.blk HG5.out HNE.out (by simp); have hz2 := bc hg10 2; have hf2 := blk_frozen hg10 2; clear hw hk_ hr_ ey0 ey1 fy0 fy1 HO6 HR6 HW6; obtain ⟨Az, cz, ez0, ez1, _, _, fz0, fz1⟩ := row_elem HR10.out a2 HE1.out HE2.out rfl) | ((with_reducible refine gate_store (t := 75) (p := 120) rfl ?_); refine store_event (t := 75) (p := 120) (v := .tmp 119) (w1 := ((w10.setCell ⟨ga, a2.toNat * 2, none⟩ (.slice none 0 0)).setCell ⟨ga, a2.toNat * 2 + 1, none⟩ (.int .i64 attr))) ?hg ?ho ?hn ?hr ?_; (case ho => rfl); (case hg => rfl); (case hn => rfl); (case hr => first | (go_simp; done) | (go_simp; rfl)); intro w11 hw; have hk_ := KeepBut.set_ (KeepBut.set_ HK10.out (a2.toNat * 2) (.slice none 0 0)) (a2.toNat * 2 + 1) (.int .i64 attr); rw [← hw] at hk_; have hr_ := row_put2 HR10.out a2 HE1.out HE2.out attr (Kd.R_nil (Kd.int .i64) 2 w10 w0.heap.size (fun _ => False)) (fun k h_ => h_.elim); rw [← hw] at hr_; have HK11 := am hk_; have HR11 := am hr_; have HB11 : Aside0 (Below w0.heap.size w0 w11) := ⟨by rw [hw]; exact below_set (below_set HB10.out HGA.out) HGA.out⟩; obtain ⟨cA10, hcA10⟩ := Kd.R_typed HR10.out ga rfl; have HT11 : Aside0 (TK w5 w11) := ⟨by rw [hw]; exact TK.set (TK.set HT10.out hcA10 (by decide) _ _) (blk_put hcA10 _ _ rfl) (by decide) _ _⟩; clear hz2 hf2; have hg11 := HK11.out.blk HG5.out HNE.out (by simp); have hz2 := bc hg11 2; have hf2 := blk_frozen hg11 2; clear hw hk_ hr_ ez0 ez1 fz0 fz1 hcA10))
       have hgE := HK11.out.blk HG5.out HNE.out (by simp)
       first | go_end0 | ((try simp only [Exit.inBlock, Exit.then]); refine bodyPost_ret (results_none rfl _ _ _) rfl ?_)
       exact ⟨by first | rfl | (simp; done), PS_col (HF5.out w11 _ HK11.out.1 (fun k h_ hn_ => HK11.out.2 k h_ (fun e_ => hn_ (by rw [e_]; rfl)) (by simp)) HR11.out) _, below_set HB11.out (HI5.out).1, TK.set (TK.trans HT5.out HT11.out) (hgE) (by decide) _ _⟩
     · rw [if_neg e1] at h
       have e1b : (wd == 2) = false := beq_eq_false_iff_ne.mpr e1
       simp only [Option.some.injEq, Prod.mk.injEq] at h
       obtain ⟨rfl, rfl⟩ := h
       go_wp2_with (first | ((with_reducible refine gate_dst (N := 106) rfl ?_); refine Kd.R_lit (Kd.int .i64) _ 2 ?hg (N := 106) ?hd (xs := ([p] : List Int)) (inner := [.int .i64 p]) (ok := fun _ => True) (okp := fun _ => True) ?hr ?hp (fun _ hk => hk) trivial (Below.refl _ _) (Nat.le_refl _) (by simp) ?_; (case hd => rfl); (case hg => rfl); (case hr => first | (go_simp; done) | (go_simp; rfl)); (case hp => exact (Reps.one (show Kd.M (Kd.int .i64) _ _ _ p [.int .i64 p] from rfl) (Reps.none _ _))); intro v6 w6 ho hb hg_ hnew_; obtain ⟨A6, c6_, e6⟩ := Kd.R_slice ho; generalize ([p] : List Int).length = n6 at e6; subst e6; have HW6 := am (below_step (pw_below_drewN (Below.refl w5.heap.size w5) _) hb); have HO6 := am (Kd.R_lower (base' := w0.heap.size) (Kd.R_mono (ok' := fun k => w5.heap.size ≤ k) (Kd.R_bound ho) (fun k h_ => h_.2.1)) HB5.out.size); have HR6 := am (Kd.R_mono (ok' := fun k => oki5 k ∨ w5.heap.size ≤ k) (Kd.R_below HR5.out HW6.out) (fun _ h_ => .inl h_)); obtain ⟨Ay, cy, ey0, ey1, _, _, fy0, fy1⟩ := row_elem HR6.out z0 HD1.out HD2.out rfl; clear ho hb hg_ hnew_) | ((with_reducible refine gate_store (t := 75) (p := 109) rfl ?_); refine store_event (t := 75) (p := 109) (v := .tmp 108) (w1 := ((w6.setCell ⟨ga, (z0 : Int).toNat * 2, none⟩ (.slice A6 n6 c6_)).setCell ⟨ga, (z0 : Int).toNat * 2 + 1, none⟩ (.int .i64 attr))) ?hg ?ho ?hn ?hr ?_; (case ho => rfl); (case hg => rfl); (case hn => rfl); (case hr => first | (go_simp; done) | (go_simp; rfl)); intro w10 hw; have hk_ := KeepBut.set_ (KeepBut.set_ (KeepBut.of_below HW6.out ga none) ((z0 : Int).toNat * 2) (.slice A6 n6 c6_)) ((z0 : Int).toNat * 2 + 1) (.int .i64 attr); rw [← hw] at hk_; have hr_ := row_put2 HR6.out z0 HD1.out HD2.out attr HO6.out (fun k h_ => ⟨.inr h_, fun e_ => by have := HGL.out; omega⟩); rw [← hw] at hr_; have HK10 := am hk_; have HR10 := am hr_; have HB10 : Aside0 (Below w0.heap.size w0 w10) := ⟨by rw [hw]; exact below_set (below_set (below_step HB5.out HW6.out) HGA.out) HGA.out⟩; have HT10 : Aside0 (TK w5 w10) := ⟨by rw [hw]; exact TK.set (TK.set (TK.below (TK.refl w5) HW6.out) (blk_below HCA.out HW6.out) (by decide) _ _) (blk_put (blk_below HCA.out HW6.out) _ _ rfl) (by decide) _ _⟩; have hg10 := HK10.out.blk HG5.out HNE.out (by simp); have hz2 := bc hg10 2; have hf2 := blk_frozen hg10 2; clear hw hk_ hr_ ey0 ey1 fy0 fy1 HO6 HR6 HW6))
       have hgE := HK10.out.blk HG5.out HNE.out (by simp)
       first | go_end0 | ((try simp only [Exit.inBlock, Exit.then]); refine bodyPost_ret (results_none rfl _ _ _) rfl ?_)
       exact ⟨by first | rfl | (simp; done), PS_col (HF5.out w10 _ HK10.out.1 (fun k h_ hn_ => HK10.out.2 k h_ (fun e_ => hn_ (by rw [e_]; rfl)) (by simp)) HR10.out) _, below_set HB10.out (HI5.out).1, TK.set (TK.trans HT5.out HT10.out) (hgE) (by decide) _ _⟩
   · rw [if_neg c6] at h
     have c6b : decide (wrap64 (cols - col) < wd) = false := decide_eq_false c6
     clear c6
     unfold sh1 at h
     rw [if_pos HP1.out] at h
     by_cases d1 : 0 ≤ (col : Int)
     rotate_left
     · rw [if_neg d1] at h
       cases h
     rw [if_pos d1, ← HROW.out] at h
     by_cases d2 : (col : Int) < (row.length : Int)
     rotate_left
     · rw [if_neg d2] at h
       cases h
     rw [if_pos d2] at h
     obtain ⟨ga, cap2, eA, hga, hgal, cellsA, hcA⟩ := Kd.R_form HR.out (show 0 < row.length by omega)
     injection eA with ea_ en_ ec_
     clear en_
     subst ea_
     subst ec_
     have HGA := am hga
     have HGL := am hgal
     have HCA := am hcA
     have HNE := am (blk_ne HG1.out hcA (by decide))
     clear hga hgal hcA
     have HD1 := am d1
     have HD2 := am d2
     have u1 := eq_true d1
     have u2 := eq_true d2
     clear d1 d2
     by_cases e1 : wd = 2
     · rw [if_pos e1] at h
       subst e1
       have e1b : ((2 : Int) == 2) = true := rfl
       obtain ⟨a2, ha2⟩ : ∃ j, wrap64 ((col : Int) + 1) = j := ⟨_, rfl⟩
       rw [ha2] at h
       by_cases f1 : 0 ≤ a2
       rotate_left
       · rw [if_neg f1] at h
         cases h
       rw [if_pos f1] at h
       by_cases f2 : a2 < (row.length : Int)
       rotate_left
       · rw [if_neg f2] at h
         cases h
       rw [if_pos f2] at h
       simp only [Option.some.injEq, Prod.mk.injEq] at h
       obtain ⟨rfl, rfl⟩ := h
       have HE1 := am f1
       have HE2 := am f2
       have v1_ := eq_true f1
       have v2_ := eq_true f2
       clear f1 f2
       go_enter Try.func89, Try.ntmps89
       go_wp2_with (go_at_call 104; refine (spec_WidthOf.calls k p _ _ AW.out).mono ?_; rintro e w' ⟨rfl, ⟨nd, rfl⟩⟩)
       go_quiet ((fail))
       go_wp2
       go_quiet ((fail))
       go_wp2_with (first | ((with_reducible refine gate_dst (N := 106) rfl ?_); refine Kd.R_lit (Kd.int .i64) _ 2 ?hg (N := 106) ?hd (xs := ([p] : List Int)) (inner := [.int .i64 p]) (ok := fun _ => True) (okp := fun _ => True) ?hr ?hp (fun _ hk => hk) trivial (Below.refl _ _) (Nat.le_refl _) (by simp) ?_; (case hd => rfl); (case hg => rfl); (case hr => first | (go_simp; done) | (go_simp; rfl)); (case hp => exact (Reps.one (show Kd.M (Kd.int .i64) _ _ _ p [.int .i64 p] from rfl) (Reps.none _ _))); intro v6 w6 ho hb hg_ hnew_; obtain ⟨A6, c6_, e6⟩ := Kd.R_slice ho; generalize ([p] : List Int).length = n6 at e6; subst e6; have HW6 := am (below_step (pw_below_drewN (Below.refl w.heap.size w) _) hb); have HO6 := am (Kd.R_lower (base' := w0.heap.size) (Kd.R_mono (ok' := fun k => w.heap.size ≤ k) (Kd.R_bound ho) (fun k h_ => h_.2.1)) HB.out.size); have HR6 := am (Kd.R_mono (ok' := fun k => oki k ∨ w.heap.size ≤ k) (Kd.R_below HR.out HW6.out) (fun _ h_ => .inl h_)); obtain ⟨Ay, cy, ey0, ey1, _, _, fy0, fy1⟩ := row_elem HR6.out col HD1.out HD2.out rfl; clear ho hb hg_ hnew_) | ((with_reducible refine gate_store (t := 75) (p := 109) rfl ?_); refine store_event (t := 75) (p := 109) (v := .tmp 108) (w1 := ((w6.setCell ⟨ga, (col : Int).toNat * 2, none⟩ (.slice A6 n6 c6_)).setCell ⟨ga, (col : Int).toNat * 2 + 1, none⟩ (.int .i64 attr))) ?hg ?ho ?hn ?hr ?_; (case ho => rfl); (case hg => rfl); (case hn => rfl); (case hr => first | (go_simp; done) | (go_simp; rfl)); intro w10 hw; have hk_ := KeepBut.set_ (KeepBut.set_ (KeepBut.of_below HW6.out ga none) ((col : Int).toNat * 2) (.slice A6 n6 c6_)) ((col : Int).toNat * 2 + 1) (.int .i64 attr); rw [← hw] at hk_; have hr_ := row_put2 HR6.out col HD1.out HD2.out attr HO6.out (fun k h_ => ⟨.inr h_, fun e_ => by have := HGL.out; omega⟩); rw [← hw] at hr_; have HK10 := am hk_; have HR10 := am hr_; have HB10 : Aside0 (Below w0.heap.size w0 w10) := ⟨by rw [hw]; exact below_set (below_set (below_step HB.out HW6.out) HGA.out) HGA.out⟩; have HT10 : Aside0 (TK w w10) := ⟨by rw [hw]; exact TK.set (TK.set (TK.below (TK.refl w) HW6.out) (blk_below HCA.out HW6.out) (by decide) _ _) (blk_put (blk_below HCA.out HW6.out) _ _ rfl) (by decide) _ _⟩; have hg10 := HK10.out.blk HG1.out HNE.out (by simp); have hz2 := bc hg10 2; have hf2 := blk_frozen hg10 2; clear hw hk_ hr_ ey0 ey1 fy0 fy1 HO6 HR6 HW6; obtain ⟨Az, cz, ez0, ez1, _, _, fz0, fz1⟩ := row_elem HR10.out a2 HE1.out HE2.out rfl) | ((with_reducible refine gate_store (t := 75) (p := 120) rfl ?_); refine store_event (t := 75) (p := 120) (v := .tmp 119) (w1 := ((w10.setCell ⟨ga, a2.toNat * 2, none⟩ (.slice none 0 0)).setCell ⟨ga, a2.toNat * 2 + 1, none⟩ (.int .i64 attr))) ?hg ?ho ?hn ?hr ?_; (case ho => rfl); (case hg => rfl); (case hn => rfl); (case hr => first | (go_simp; done) | (go_simp; rfl)); intro w11 hw; have hk_ := KeepBut.set_ (KeepBut.set_ HK10.out (a2.toNat * 2) (.slice none 0 0)) (a2.toNat * 2 + 1) (.int .i64 attr); rw [← hw] at hk_; have hr_ := row_put2 HR10.out a2 HE1.out HE2.out attr (Kd.R_nil (Kd.int .i64) 2 w10 w0.heap.size (fun _ => False)) (fun k h_ => h_.elim); rw [← hw] at hr_; have HK11 := am hk_; have HR11 := am hr_; have HB11 : Aside0 (Below w0.heap.size w0 w11) := ⟨by rw [hw]; exact below_set (below_set HB10.out HGA.out) HGA.out⟩; obtain ⟨cA10, hcA10⟩ := Kd.R_typed HR10.out ga rfl; have HT11 : Aside0 (TK w w11) := ⟨by rw [hw]; exact TK.set (TK.set HT10.out hcA10 (by decide) _ _) (blk_put hcA10 _ _ rfl) (by decide) _ _⟩; clear hz2 hf2; have hg11 := HK11.out.blk HG1.out HNE.out (by simp); have hz2 := bc hg11 2; have hf2 := blk_frozen hg11 2; clear hw hk_ hr_ ez0 ez1 fz0 fz1 hcA10))
       have hgE := HK11.out.blk HG1.out HNE.out (by simp)
       first | go_end0 | ((try simp only [Exit.inBlock, Exit.then]); refine bodyPost_ret (results_none rfl _ _ _) rfl ?_)
       exact ⟨by first | rfl | (simp; done), PS_col (HF.out w11 _ HK11.out.1 (fun k h_ hn_ => HK11.out.2 k h_ (fun e_ => hn_ (by rw [e_]; rfl)) (by simp)) HR11.out) _, below_set HB11.out (HI.out).1, TK.set HT11.out (hgE) (by decide) _ _⟩
     · rw [if_neg e1] at h
       have e1b : (wd == 2) = false := beq_eq_false_iff_ne.mpr e1
       simp only [Option.some.injEq, Prod.mk.injEq] at h
       obtain ⟨rfl, rfl⟩ := h
       go_enter Try.func89, Try.ntmps89
       go_wp2_with (go_at_call 104; refine (spec_WidthOf.calls k p _ _ AW.out).mono ?_; rintro e w' ⟨rfl, ⟨nd, rfl⟩⟩)
       go_quiet ((fail))
       go_wp2
       go_quiet ((fail))
       go_wp2_with (first | ((with_reducible refine gate_dst (N := 106) rfl ?_); refine Kd.R_lit (Kd.int .i64) _ 2 ?hg (N := 106) ?hd (xs := ([p] : List Int)) (inner := [.int .i64 p]) (ok := fun _ => True) (okp := fun _ => True) ?hr ?hp (fun _ hk => hk) trivial (Below.refl _ _) (Nat.le_refl _) (by simp) ?_; (case hd => rfl); (case hg => rfl); (case hr => first | (go_simp; done) | (go_simp; rfl)); (case hp => exact (Reps.one (show Kd.M (Kd.int .i64) _ _ _ p [.int .i64 p] from rfl) (Reps.none _ _))); intro v6 w6 ho hb hg_ hnew_; obtain ⟨A6, c6_, e6⟩ := Kd.R_slice ho; generalize ([p] : List Int).length = n6 at e6; subst e6; have HW6 := am (below_step (pw_below_drewN (Below.refl w.heap.size w) _) hb); have HO6 := am (Kd.R_lower (base' := w0.heap.size) (Kd.R_mono (ok' := fun k => w.heap.size ≤ k) (Kd.R_bound ho) (fun k h_ => h_.2.1)) HB.out.size); have HR6 := am (Kd.R_mono (ok' := fun k => oki k ∨ w.heap.size ≤ k) (Kd.R_below HR.out HW6.out) (fun _ h_ => .inl h_)); obtain ⟨Ay, cy, ey0, ey1, _, _, fy0, fy1⟩ := row_elem HR6.out col HD1.out HD2.out rfl; clear ho hb hg_ hnew_) | ((with_reducible refine gate_store (t := 75) (p := 109) rfl ?_); refine store_event (t := 75) (p := 109) (v := .tmp 108) (w1 := ((w6.setCell ⟨ga, (col : Int).toNat * 2, none⟩ (.slice A6 n6 c6_)).setCell ⟨ga, (col : Int).toNat * 2 + 1, none⟩ (.int .i64 attr))) ?hg ?ho ?hn ?hr ?_; (case ho => rfl); (case hg => rfl); (case hn => rfl); (case hr => first | (go_simp; done) | (go_simp; rfl)); intro w10 hw; have hk_ := KeepBut.set_ (KeepBut.set_ (KeepBut.of_below HW6.out ga none) ((col : Int).toNat * 2) (.slice A6 n6 c6_)) ((col : Int).toNat * 2 + 1) (.int .i64 attr); rw [← hw] at hk_; have hr_ := row_put2 HR6.out col HD1.out HD2.out attr HO6.out (fun k h_ => ⟨.inr h_, fun e_ => by have := HGL.out; omega⟩); rw [← hw] at hr_; have HK10 := am hk_; have HR10 := am hr_; have HB10 : Aside0 (Below w0.heap.size w0 w10) := ⟨by rw [hw]; exact below_set (below_set (below_step HB.out HW6.out) HGA.out) HGA.out⟩; have HT10 : Aside0 (TK w w10) := ⟨by rw [hw]; exact TK.set (TK.set (TK.below (TK.refl w) HW6.out) (blk_below HCA.out HW6.out) (by decide) _ _) (blk_put (blk_below HCA.out HW6.out) _ _ rfl) (by decide) _ _⟩; have hg10 := HK10.out.blk HG1.out HNE.out (by simp); have hz2 := bc hg10 2; have hf2 := blk_frozen hg10 2; clear hw hk_ hr_ ey0 ey1 fy0 fy1 HO6 HR6 HW6))
       have hgE := HK10.out.blk HG1.out HNE.out (by simp)
       first | go_end0 | ((try simp only [Exit.inBlock, Exit.then]); refine bodyPost_ret (results_none rfl _ _ _) rfl ?_)
       exact ⟨by first | rfl | (simp; done), PS_col (HF.out w10 _ HK10.out.1 (fun k h_ hn_ => HK10.out.2 k h_ (fun e_ => hn_ (by rw [e_]; rfl)) (by simp)) HR10.out) _, below_set HB10.out (HI.out).1, TK.set HT10.out (hgE) (by decide) _ _⟩

def pnL (cols attr : Int) : Nat → List Int → Int → List (List S75) → Int → Option (List (List S75) × Int)
 | 0, _, _, _, _ => none
 | k + 1, l, i, rows, col => if i < (l.length : Int) then (if 0 ≤ i then ((shF k cols rows col (rd l i) attr).bind fun t => pnL cols attr k l (wrap64 (i + 1)) t.1 t.2) else none) else some (rows, col)
def pnF (k : Nat) (cols : Int) (rows : List (List S75)) (col p attr : Int) : Option (List (List S75) × Int) := if p = 10 then (if (0 ≤ cols ∧ cols ≤ 1000000) ∧ rows.length ≤ 1000000 then some (rows ++ [List.replicate cols.toNat z75], 0) else none) else (spec_l01Shown.f p).bind fun l => pnL cols attr k l 0 rows col
theorem pen_point.calls (k g : Nat) (cols col p attr : Int) (rows rows' : List (List S75)) (col' : Int) (w0 w : World) (hI : PS w0 w g cols rows col) (hB : Below w0.heap.size w0 w) (h : pnF k cols rows col p attr = some (rows', col')) :
  Calls Try.prog 68 #[.pointer (some ⟨g, 0, none⟩), .int .i64 p, .int .i64 attr] w fun e w' => e = .returned (.tuple #[]) ∧ PS w0 w' g cols rows' col' ∧ Below w0.heap.size w0 w' ∧ TK w w' := by
 have HI := am hI
 have HB := am hB
 clear hI hB
 unfold pnF at h
 by_cases c1 : p = 10
 · rw [if_pos c1] at h
   by_cases c2 : (0 ≤ cols ∧ cols ≤ 1000000) ∧ rows.length ≤ 1000000
   rotate_left
   · rw [if_neg c2] at h; cases h
   rw [if_pos c2] at h
   simp only [Option.some.injEq, Prod.mk.injEq] at h
   obtain ⟨rfl, rfl⟩ := h
   have HC := am c2
   have c1b : (p == 10) = true := beq_iff_eq.mpr c1
   clear c1 c2
   go_enter Try.func68, Try.ntmps68
   go_wp2_with (go_at_call 67; refine (pen_next.calls g cols col rows w0 _ HI.out HB.out HC.out.1 HC.out.2).mono ?_; rintro e w1 ⟨rfl, hi, hb, ht⟩)
   first | go_end0 | ((try simp only [Exit.inBlock, Exit.then]); refine bodyPost_ret (results_none rfl _ _ _) rfl ?_)
   exact ⟨by first | rfl | (simp; done), hi, hb, ht⟩
 · rw [if_neg c1] at h
   have c1b : (p == 10) = false := beq_eq_false_iff_ne.mpr c1
   clear c1
   obtain ⟨l, AS0, h⟩ := Option.bind_eq_some_iff.mp h
   have AS := am AS0
   have H' := am h
   clear h AS0
   go_enter Try.func68, Try.ntmps68
   go_wp2_with (go_at_call 88; refine (spec_l01Shown.calls p l _ AS.out).mono ?_; rintro e w1 ⟨v, rfl, ho, hb⟩; obtain ⟨As, c_s, e_⟩ := Kd.R_slice ho; subst e_; have HS := am ho; have HT := am (TK.below (TK.refl w) hb); replace HI := am (PS_below HI.out hb); replace HB := am (below_step HB.out hb); clear ho hb)
   go_loopg [7] k (fun kq v7 w' => ∃ (i : Int) (rows2 : List (List S75)) (col2 : Int), v7 = .int .i64 i ∧ Aside0 (pnL cols attr kq l i rows2 col2 = some (rows', col')) ∧ Aside0 (kq ≤ k) ∧ Aside0 (PS w0 w' g cols rows2 col2) ∧ Aside0 (Below w0.heap.size w0 w') ∧ Aside0 (TK w w') ∧ Aside0 (Kd.R (Kd.int .i64) 2 w' w.heap.size (fun _ => True) (.slice As l.length c_s) l))
   case atStart => exact ⟨0, rows, col, (by first | rfl | (simp; done)), H', ⟨Nat.le_refl _⟩, HI, HB, HT, HS⟩
   case round =>
    clear H' HI HB HS HT
    obtain ⟨i, rows2, col2, rfl, HA, HK1, HI, HB, HT, HS⟩ := hrel
    cases gk with
    | zero => exact absurd HA.out (by simp [pnL])
    | succ k1 =>
     have H := HA.out
     clear HA
     rw [pnL] at H
     by_cases c2 : i < (l.length : Int)
     · rw [if_pos c2] at H
       by_cases c3 : 0 ≤ i
       · rw [if_pos c3] at H
         have c2b : decide (i < (l.length : Int)) = true := decide_eq_true c2
         obtain ⟨ad, ead, hx⟩ := Kd.at_int (Kd.R_reads' HS.out).2.2 i c3 c2
         have p2 := eq_true c2
         have p3 := eq_true c3
         clear c2 c3
         subst ead
         obtain ⟨⟨rw_, cl_⟩, AW0, H⟩ := Option.bind_eq_some_iff.mp H
         have AW := am AW0
         have H' := am H
         clear AW0 H
         go_wp2_with (go_at_call 89; refine (pen_shown.calls k1 g cols col2 (rd l i) attr rows2 rw_ cl_ w0 _ HI.out HB.out AW.out).mono ?_; rintro e w4 ⟨rfl, hi, hb, ht⟩; replace HI := am hi; replace HB := am hb; replace HS := am (R_tk rfl (by decide) HS.out ht); replace HT := am (TK.trans HT.out ht); clear hi hb ht)
         go_roundg k1
         case measure => have := HK1.out; omega
         case rel => exact ⟨wrap64 (i + 1), rw_, cl_, (by first | rfl | (simp; done)), H', ⟨by have := HK1.out; omega⟩, HI, HB, HT, HS⟩
       · rw [if_neg c3] at H
         cases H
     · rw [if_neg c2] at H
       simp only [Option.some.injEq, Prod.mk.injEq] at H
       obtain ⟨rfl, rfl⟩ := H
       have c2b : decide (i < (l.length : Int)) = false := decide_eq_false c2
       clear c2
       go_wp2
       first | go_end0 | ((try simp only [Exit.inBlock, Exit.then]); refine bodyPost_ret (results_none rfl _ _ _) rfl ?_)
       exact ⟨by first | rfl | (simp; done), HI.out, HB.out, HT.out⟩

def lzA (cols : Int) : Nat → List Int → Int → List (List S75) → Int → Option (List (List S75) × Int)
 | 0, _, _, _, _ => none
 | k + 1, l, i, rows, col => if i < (l.length : Int) then (if 0 ≤ i then ((pnF k cols rows col (rd l i) 0).bind fun t => lzA cols k l (wrap64 (i + 1)) t.1 t.2) else none) else some (rows, col)
def lzB (cols : Int) (region : Bool) (low high : Int) : Nat → List Int → Int → List (List S75) → Int → List S45 → Option (List (List S75) × Int × List S45)
 | 0, _, _, _, _, _ => none
 | k + 1, l, i, rows, col, sp => if i < (l.length : Int) then (if 0 ≤ i then (if sp.length ≤ 1000000 then ((pnF k cols rows col (rd l i) (if region = true then (if low ≤ i then (if i < high then 1 else 0) else 0) else 0)).bind fun t => (spec_l09Pen_spot.f cols t.1 t.2).bind fun q => lzB cols region low high k l (wrap64 (i + 1)) t.1 t.2 (sp ++ [⟨q.1, q.2⟩])) else none) else none) else some (rows, col, sp)
def lzF (k : Nat) (l0 l1 : List Int) (a1 a2 : Int) (region : Bool) (cols : Int) : Option (List (List S75) × Int × List S45) := if 0 ≤ cols ∧ cols ≤ 1000000 then ((lzA cols k l0 0 ([] ++ [List.replicate cols.toNat z75]) 0).bind fun t => (spec_l09Pen_spot.f cols t.1 t.2).bind fun q => (spec_l01Min.f a1 a2).bind fun low => (spec_l01Max.f a1 a2).bind fun high => lzB cols region low high k l1 0 t.1 t.2 [⟨q.1, q.2⟩]) else none
theorem spec_lay.calls (k : Nat) (A0 : Option Addr) (c0 : Nat) (l0 : List Int) (A1 : Option Addr) (c1 : Nat) (l1 : List Int) (a1 a2 : Int) (region : Bool) (cols : Int) (rows' : List (List S75)) (col' : Int) (sp' : List S45) (w : World) (hr0 : Kd.C (Kd.int .i64) w A0 l0.length l0) (hc0 : l0.length ≤ c0) (hr1 : Kd.C (Kd.int .i64) w A1 l1.length l1) (hc1 : l1.length ≤ c1) (h : lzF k l0 l1 a1 a2 region cols = some (rows', col', sp')) :
  Calls Try.prog 43 #[.slice A0 l0.length c0, .agg #[.slice A1 l1.length c1, .int .i64 a1, .int .i64 a2], .bool region, .int .i64 cols] w fun e w' => ∃ g v, e = .returned (.tuple #[.pointer (some ⟨g, 0, none⟩), v]) ∧ PS w w' g cols rows' col' ∧ Kd.R k45 45 w' w.heap.size (fun _ => True) v sp' ∧ Below w.heap.size w w' := by
 have HR0 := am hr0
 have HC0 := am hc0
 have HR1 := am hr1
 have HC1 := am hc1
 clear hr0 hc0 hr1 hc1
 have HB := am (Below.refl w.heap.size w)
 unfold lzF at h
 by_cases c1' : 0 ≤ cols ∧ cols ≤ 1000000
 rotate_left
 · rw [if_neg c1'] at h; cases h
 rw [if_pos c1'] at h
 have HC := am c1'
 clear c1'
 obtain ⟨⟨rows1, col1⟩, A40, h⟩ := Option.bind_eq_some_iff.mp h
 obtain ⟨⟨q1, q2⟩, A50, h⟩ := Option.bind_eq_some_iff.mp h
 obtain ⟨low, A60, h⟩ := Option.bind_eq_some_iff.mp h
 obtain ⟨high, A70, h⟩ := Option.bind_eq_some_iff.mp h
 have A4 := am A40
 have A5 := am A50
 have A6 := am A60
 have A7 := am A70
 have A8 := am (show lzB cols region low high k l1 0 rows1 col1 [⟨q1, q2⟩] = some (rows', col', sp') from h)
 clear A40 A50 A60 A70 h
 go_enter Try.func43, Try.ntmps43
 go_wp2_with (first | ((with_reducible refine gate_dst (N := 5) rfl ?_); refine box_event ?hg (N := 5) ?hd (cs := #[.slice A1 l1.length c1, .int .i64 a1, .int .i64 a2]) (t := 33) ?hr ?_; (case hd => rfl); (case hg => rfl); (case hr => first | (go_simp; done) | (go_simp; rfl)); intro gb hg wb hbox hb; have BK := am hbox; replace HB := am (below_step HB.out hb); clear hb hbox hg; have HB2 := am (Below.refl wb.heap.size wb)) | ((with_reducible refine gate_dst (N := 19) rfl ?_); refine box_event ?hg (N := 19) ?hd (cs := #[.int .i64 cols, .slice none 0 0, .int .i64 0]) (t := 73) ?hr ?_; (case hd => rfl); (case hg => rfl); (case hr => first | (go_simp; done) | (go_simp; rfl)); intro g hg w1 hbox hb; have HI : Aside0 (PS wb w1 g cols [] 0) := ⟨⟨Nat.le_of_eq hg.symm, _, hbox, Kd.S_nil _ _ _ _ _⟩⟩; replace HB2 := am (below_step HB2.out hb); clear hb hbox hg) | (go_at_call 67; refine (pen_next.calls g cols 0 [] wb _ HI.out HB2.out HC.out (by simp)).mono ?_; rintro e w2 ⟨rfl, hi, hb, ht⟩; replace HI := am hi; replace HB2 := am hb; clear hi hb ht))
 go_loopg [11] k (fun kq v11 w' => ∃ (i : Int) (rows2 : List (List S75)) (col2 : Int), v11 = .int .i64 i ∧ Aside0 (lzA cols kq l0 i rows2 col2 = some (rows1, col1)) ∧ Aside0 (kq ≤ k) ∧ Aside0 (PS wb w' g cols rows2 col2) ∧ Aside0 (Below wb.heap.size wb w'))
 case atStart => exact ⟨0, _, 0, (by first | rfl | (simp; done)), A4, ⟨Nat.le_refl _⟩, HI, HB2⟩
 case round =>
  clear HI HB2 A4
  obtain ⟨i, rows2, col2, rfl, HA, HK1, HI, HB2⟩ := hrel
  cases gk with
  | zero => exact absurd HA.out (by simp [lzA])
  | succ k1 =>
   have H := HA.out
   clear HA
   rw [lzA] at H
   by_cases c2 : i < (l0.length : Int)
   · rw [if_pos c2] at H
     by_cases c3 : 0 ≤ i
     · rw [if_pos c3] at H
       obtain ⟨⟨rw_, cl_⟩, AT0, H⟩ := Option.bind_eq_some_iff.mp H
       have AT := am AT0
       have H' := am H
       clear H AT0
       have c2b : decide (i < (l0.length : Int)) = true := decide_eq_true c2
       obtain ⟨ad, ead, hx⟩ := Kd.at_int (Kd.C_below HR0.out (below_then HB.out HB.out.size HB2.out)) i c3 c2
       have p2 := eq_true c2
       have p3 := eq_true c3
       clear c2 c3
       subst ead
       go_wp2_with (go_at_call 68; refine (pen_point.calls k1 g cols col2 (rd l0 i) 0 rows2 rw_ cl_ wb _ HI.out HB2.out AT.out).mono ?_; rintro e w4 ⟨rfl, hi, hb, ht⟩; replace HI := am hi; replace HB2 := am hb; clear hi hb ht)
       go_roundg k1
       case measure => have := HK1.out; omega
       case rel => exact ⟨wrap64 (i + 1), rw_, cl_, (by first | rfl | (simp; done)), H', ⟨by have := HK1.out; omega⟩, HI, HB2⟩
     · rw [if_neg c3] at H
       cases H
   · rw [if_neg c2] at H
     simp only [Option.some.injEq, Prod.mk.injEq] at H
     obtain ⟨rfl, rfl⟩ := H
     have c2b : decide (i < (l0.length : Int)) = false := decide_eq_false c2
     clear c2
     obtain ⟨HGP, vr, hp1, hp2⟩ := HI.out
     obtain ⟨Ar, cr, er⟩ := Kd.S_slice hp2
     subst er
     have HPB := am hp1
     have HPS := am hp2
     clear hp1 hp2 HGP
     go_wp2_with (first | (go_at_call 69; refine (spec_l09Pen_spot.calls ⟨g, 0, none⟩ cols Ar cr rows2 col2 q1 q2 _ (Kd.S_reads' HPS.out).2.2 (Kd.S_reads' HPS.out).2.1 (AtP.of_blk HPB.out) A5.out).mono ?_; rintro e w5 ⟨rfl, hb⟩; replace HI := am (PS_below HI.out hb); replace HB2 := am (below_step HB2.out hb); clear hb HPS HPB) | ((with_reducible refine gate_dst (N := 36) rfl ?_); refine Kd.R_lit k45 _ 45 ?hg (N := 36) ?hd (xs := ([⟨q1, q2⟩] : List S45)) (inner := [.int .i64 q1, .int .i64 q2]) (ok := fun _ => True) (okp := fun _ => True) ?hr ?hp (fun _ hk => hk) trivial (Below.refl _ _) (Nat.le_refl _) (by simp) ?_; (case hd => rfl); (case hg => rfl); (case hr => first | (go_simp; done) | (go_simp; rfl)); (case hp => exact (Reps.c2 (k45_mkM _ _ _ (⟨q1, q2⟩ : S45)) (Reps.none _ _))); intro v6 w6 ho hb hg_ hnew_; have HSp := am (Kd.R_lower ho (show wb.heap.size ≤ _ from HB2.out.size)); replace HI := am (PS_below HI.out hb); replace HB2 := am (below_step HB2.out hb); have hb1 := bc (blk_below BK.out HB2.out) 1; have hb2 := bc (blk_below BK.out HB2.out) 2; clear hb ho hg_ hnew_) | (go_at_call 70; refine (spec_l01Min.calls a1 a2 low _ A6.out).mono ?_; rintro e w' ⟨rfl, ⟨nd, rfl⟩⟩) | (go_at_call 45; refine (spec_l01Max.calls a1 a2 high _ A7.out).mono ?_; rintro e w' ⟨rfl, ⟨nd, rfl⟩⟩))
     go_loopg [12, 15] k (fun kq v12 v15 w' => ∃ (i : Int) (rows_ : List (List S75)) (col_ : Int) (sp_ : List S45), v15 = .int .i64 i ∧ Aside0 (lzB cols region low high kq l1 i rows_ col_ sp_ = some (rows', col', sp')) ∧ Aside0 (kq ≤ k) ∧ Aside0 (PS wb w' g cols rows_ col_) ∧ Aside0 (Kd.R k45 45 w' wb.heap.size (fun _ => True) v12 sp_) ∧ Aside0 (Below wb.heap.size wb w'))
     case atStart => exact ⟨0, rows2, col2, _, (by first | rfl | (simp; done)), A8, ⟨Nat.le_refl _⟩, (by first | exact HI | exact ⟨PS_below HI.out (pw_below_drewN (Below.refl _ _) _)⟩), (by first | exact HSp | exact ⟨Kd.R_drewN HSp.out _⟩), (by first | exact HB2 | exact ⟨pw_below_drewN HB2.out _⟩)⟩
     case round =>
      clear HI HB2 A8 HSp hb1 hb2
      obtain ⟨i, rows_, col_, sp_, rfl, HA, HK1, HI, HSp, HB2⟩ := hrel
      have hb0 := bc (blk_below BK.out HB2.out) 0
      obtain ⟨As, ks, e_⟩ := Kd.R_slice HSp.out
      subst e_
      cases gk with
      | zero => exact absurd HA.out (by simp [lzB])
      | succ k1 =>
       have H := HA.out
       clear HA
       rw [lzB] at H
       by_cases c2 : i < (l1.length : Int)
       · rw [if_pos c2] at H
         by_cases c3 : 0 ≤ i
         · rw [if_pos c3] at H
           by_cases c4 : sp_.length ≤ 1000000
           · rw [if_pos c4] at H
             have HL5 := am c4
             obtain ⟨attr, hat⟩ : ∃ a, a = (if region = true then (if low ≤ i then (if i < high then (1 : Int) else 0) else 0) else 0) := ⟨_, rfl⟩
             rw [← hat] at H
             obtain ⟨⟨rw_, cl_⟩, AT0, H⟩ := Option.bind_eq_some_iff.mp H
             obtain ⟨⟨p1, p2⟩, AQ0, H⟩ := Option.bind_eq_some_iff.mp H
             have AQ := am AQ0
             have AT := am AT0
             have H' := am H
             clear H AQ0 AT0 c4
             have c2b : decide (i < (l1.length : Int)) = true := decide_eq_true c2
             obtain ⟨ad, ead, hx⟩ := Kd.at_int (Kd.C_below HR1.out (below_then HB.out HB.out.size HB2.out)) i c3 c2
             have e2 := eq_true c2
             have e3 := eq_true c3
             clear c2 c3
             subst ead
             cases region with
             | false =>
              simp only [Bool.false_eq_true, if_false] at hat
              subst hat
              go_wp2_with (first | (go_at_call 68; refine (pen_point.calls k1 g cols col_ (rd l1 i) 0 rows_ rw_ cl_ wb _ (by first | exact HI.out | exact PS_below HI.out (pw_below_drewN (Below.refl _ _) _)) (by first | exact HB2.out | exact pw_below_drewN HB2.out _) AT.out).mono ?_; rintro e w4 ⟨rfl, hi, hb, ht⟩; replace HI := am hi; replace HB2 := am hb; replace HSp := am (R_tk (e := 45) rfl (.inr rfl) (by first | exact HSp.out | exact Kd.R_drewN HSp.out _) ht); clear hi hb ht hb0; obtain ⟨HGP, vr, hp1, hp2⟩ := HI.out; obtain ⟨Ar, cr, er⟩ := Kd.S_slice hp2; subst er; have HPB := am hp1; have HPS := am hp2; clear hp1 hp2 HGP) | (go_at_call 69; refine (spec_l09Pen_spot.calls ⟨g, 0, none⟩ cols Ar cr rw_ cl_ p1 p2 _ (Kd.S_reads' HPS.out).2.2 (Kd.S_reads' HPS.out).2.1 (AtP.of_blk HPB.out) AQ.out).mono ?_; rintro e w5 ⟨rfl, hb⟩; replace HI := am (PS_below HI.out hb); replace HB2 := am (below_step HB2.out hb); replace HSp := am (Kd.R_below HSp.out hb); replace HPB := am (blk_below HPB.out hb); replace HPS := am (Kd.S_below HPS.out hb); clear hb) | ((with_reducible refine gate_builtin (b := .append) (xs := #[.tmp 73, .tmp 76]) rfl ?_); at_builtin; refine Kd.R_append k45 (w0 := wb) wb.heap.size rfl (.tmp 73) (.tmp 76) 66 45 (.agg #[(.int .i64 0), (.int .i64 0)]) 16 rfl Try.underlying66 vinfo45 rfl (by decide) (by omega) (.slice As sp_.length ks) sp_ (⟨p1, p2⟩ : S45) [.int .i64 p1, .int .i64 p2] (fun _ => True) (fun _ => False) rfl rfl ?aP (fun _ hk => hk.elim) ?aF ?aO ?aB ?aS ?aL ?_; (case aP => exact k45_mkM _ _ _ (⟨p1, p2⟩ : S45)); (case aB => exact HB2.out); (case aF => exact fun _ _ => trivial); (case aO => exact HSp.out); (case aS => exact HB2.out.size); (case aL => have := HL5.out; omega); intro v9 w9 ho hb hg hat_; replace HI : Aside0 (PS wb w9 g cols rw_ cl_) := ⟨⟨HI.out.1, _, blk_grown HPB.out hg (Kd.R_ne HSp.out HPB.out (by decide)), Kd.S_over' HPS.out (Kd.R_typed HSp.out) (by decide) hg⟩⟩; replace HB2 := am hb; have HSn := am ho; clear HSp ho hb hg hat_ HPB HPS))
              go_roundg k1
              case measure => have := HK1.out; omega
              case rel => exact ⟨wrap64 (i + 1), rw_, cl_, _, (by first | rfl | (simp; done)), H', ⟨by have := HK1.out; omega⟩, HI, HSn, HB2⟩
             | true =>
              rw [if_pos rfl] at hat
              by_cases r1 : low ≤ i
              · rw [if_pos r1] at hat
                have r1b : decide (low ≤ i) = true := decide_eq_true r1
                clear r1
                by_cases r2 : i < high
                · rw [if_pos r2] at hat
                  have r2b : decide (i < high) = true := decide_eq_true r2
                  clear r2
                  subst hat
                  go_wp2_with (first | (go_at_call 68; refine (pen_point.calls k1 g cols col_ (rd l1 i) 1 rows_ rw_ cl_ wb _ (by first | exact HI.out | exact PS_below HI.out (pw_below_drewN (Below.refl _ _) _)) (by first | exact HB2.out | exact pw_below_drewN HB2.out _) AT.out).mono ?_; rintro e w4 ⟨rfl, hi, hb, ht⟩; replace HI := am hi; replace HB2 := am hb; replace HSp := am (R_tk (e := 45) rfl (.inr rfl) (by first | exact HSp.out | exact Kd.R_drewN HSp.out _) ht); clear hi hb ht hb0; obtain ⟨HGP, vr, hp1, hp2⟩ := HI.out; obtain ⟨Ar, cr, er⟩ := Kd.S_slice hp2; subst er; have HPB := am hp1; have HPS := am hp2; clear hp1 hp2 HGP) | (go_at_call 69; refine (spec_l09Pen_spot.calls ⟨g, 0, none⟩ cols Ar cr rw_ cl_ p1 p2 _ (Kd.S_reads' HPS.out).2.2 (Kd.S_reads' HPS.out).2.1 (AtP.of_blk HPB.out) AQ.out).mono ?_; rintro e w5 ⟨rfl, hb⟩; replace HI := am (PS_below HI.out hb); replace HB2 := am (below_step HB2.out hb); replace HSp := am (Kd.R_below HSp.out hb); replace HPB := am (blk_below HPB.out hb); replace HPS := am (Kd.S_below HPS.out hb); clear hb) | ((with_reducible refine gate_builtin (b := .append) (xs := #[.tmp 73, .tmp 76]) rfl ?_); at_builtin; refine Kd.R_append k45 (w0 := wb) wb.heap.size rfl (.tmp 73) (.tmp 76) 66 45 (.agg #[(.int .i64 0), (.int .i64 0)]) 16 rfl Try.underlying66 vinfo45 rfl (by decide) (by omega) (.slice As sp_.length ks) sp_ (⟨p1, p2⟩ : S45) [.int .i64 p1, .int .i64 p2] (fun _ => True) (fun _ => False) rfl rfl ?aP (fun _ hk => hk.elim) ?aF ?aO ?aB ?aS ?aL ?_; (case aP => exact k45_mkM _ _ _ (⟨p1, p2⟩ : S45)); (case aB => exact HB2.out); (case aF => exact fun _ _ => trivial); (case aO => exact HSp.out); (case aS => exact HB2.out.size); (case aL => have := HL5.out; omega); intro v9 w9 ho hb hg hat_; replace HI : Aside0 (PS wb w9 g cols rw_ cl_) := ⟨⟨HI.out.1, _, blk_grown HPB.out hg (Kd.R_ne HSp.out HPB.out (by decide)), Kd.S_over' HPS.out (Kd.R_typed HSp.out) (by decide) hg⟩⟩; replace HB2 := am hb; have HSn := am ho; clear HSp ho hb hg hat_ HPB HPS))
                  go_roundg k1
                  case measure => have := HK1.out; omega
                  case rel => exact ⟨wrap64 (i + 1), rw_, cl_, _, (by first | rfl | (simp; done)), H', ⟨by have := HK1.out; omega⟩, HI, HSn, HB2⟩
                · rw [if_neg r2] at hat
                  have r2b : decide (i < high) = false := decide_eq_false r2
                  clear r2
                  subst hat
                  go_wp2_with (first | (go_at_call 68; refine (pen_point.calls k1 g cols col_ (rd l1 i) 0 rows_ rw_ cl_ wb _ (by first | exact HI.out | exact PS_below HI.out (pw_below_drewN (Below.refl _ _) _)) (by first | exact HB2.out | exact pw_below_drewN HB2.out _) AT.out).mono ?_; rintro e w4 ⟨rfl, hi, hb, ht⟩; replace HI := am hi; replace HB2 := am hb; replace HSp := am (R_tk (e := 45) rfl (.inr rfl) (by first | exact HSp.out | exact Kd.R_drewN HSp.out _) ht); clear hi hb ht hb0; obtain ⟨HGP, vr, hp1, hp2⟩ := HI.out; obtain ⟨Ar, cr, er⟩ := Kd.S_slice hp2; subst er; have HPB := am hp1; have HPS := am hp2; clear hp1 hp2 HGP) | (go_at_call 69; refine (spec_l09Pen_spot.calls ⟨g, 0, none⟩ cols Ar cr rw_ cl_ p1 p2 _ (Kd.S_reads' HPS.out).2.2 (Kd.S_reads' HPS.out).2.1 (AtP.of_blk HPB.out) AQ.out).mono ?_; rintro e w5 ⟨rfl, hb⟩; replace HI := am (PS_below HI.out hb); replace HB2 := am (below_step HB2.out hb); replace HSp := am (Kd.R_below HSp.out hb); replace HPB := am (blk_below HPB.out hb); replace HPS := am (Kd.S_below HPS.out hb); clear hb) | ((with_reducible refine gate_builtin (b := .append) (xs := #[.tmp 73, .tmp 76]) rfl ?_); at_builtin; refine Kd.R_append k45 (w0 := wb) wb.heap.size rfl (.tmp 73) (.tmp 76) 66 45 (.agg #[(.int .i64 0), (.int .i64 0)]) 16 rfl Try.underlying66 vinfo45 rfl (by decide) (by omega) (.slice As sp_.length ks) sp_ (⟨p1, p2⟩ : S45) [.int .i64 p1, .int .i64 p2] (fun _ => True) (fun _ => False) rfl rfl ?aP (fun _ hk => hk.elim) ?aF ?aO ?aB ?aS ?aL ?_; (case aP => exact k45_mkM _ _ _ (⟨p1, p2⟩ : S45)); (case aB => exact HB2.out); (case aF => exact fun _ _ => trivial); (case aO => exact HSp.out); (case aS => exact HB2.out.size); (case aL => have := HL5.out; omega); intro v9 w9 ho hb hg hat_; replace HI : Aside0 (PS wb w9 g cols rw_ cl_) := ⟨⟨HI.out.1, _, blk_grown HPB.out hg (Kd.R_ne HSp.out HPB.out (by decide)), Kd.S_over' HPS.out (Kd.R_typed HSp.out) (by decide) hg⟩⟩; replace HB2 := am hb; have HSn := am ho; clear HSp ho hb hg hat_ HPB HPS))
                  go_roundg k1
                  case measure => have := HK1.out; omega
                  case rel => exact ⟨wrap64 (i + 1), rw_, cl_, _, (by first | rfl | (simp; done)), H', ⟨by have := HK1.out; omega⟩, HI, HSn, HB2⟩
              · rw [if_neg r1] at hat
                have r1b : decide (low ≤ i) = false := decide_eq_false r1
                clear r1
                subst hat
                go_wp2_with (first | (go_at_call 68; refine (pen_point.calls k1 g cols col_ (rd l1 i) 0 rows_ rw_ cl_ wb _ (by first | exact HI.out | exact PS_below HI.out (pw_below_drewN (Below.refl _ _) _)) (by first | exact HB2.out | exact pw_below_drewN HB2.out _) AT.out).mono ?_; rintro e w4 ⟨rfl, hi, hb, ht⟩; replace HI := am hi; replace HB2 := am hb; replace HSp := am (R_tk (e := 45) rfl (.inr rfl) (by first | exact HSp.out | exact Kd.R_drewN HSp.out _) ht); clear hi hb ht hb0; obtain ⟨HGP, vr, hp1, hp2⟩ := HI.out; obtain ⟨Ar, cr, er⟩ := Kd.S_slice hp2; subst er; have HPB := am hp1; have HPS := am hp2; clear hp1 hp2 HGP) | (go_at_call 69; refine (spec_l09Pen_spot.calls ⟨g, 0, none⟩ cols Ar cr rw_ cl_ p1 p2 _ (Kd.S_reads' HPS.out).2.2 (Kd.S_reads' HPS.out).2.1 (AtP.of_blk HPB.out) AQ.out).mono ?_; rintro e w5 ⟨rfl, hb⟩; replace HI := am (PS_below HI.out hb); replace HB2 := am (below_step HB2.out hb); replace HSp := am (Kd.R_below HSp.out hb); replace HPB := am (blk_below HPB.out hb); replace HPS := am (Kd.S_below HPS.out hb); clear hb) | ((with_reducible refine gate_builtin (b := .append) (xs := #[.tmp 73, .tmp 76]) rfl ?_); at_builtin; refine Kd.R_append k45 (w0 := wb) wb.heap.size rfl (.tmp 73) (.tmp 76) 66 45 (.agg #[(.int .i64 0), (.int .i64 0)]) 16 rfl Try.underlying66 vinfo45 rfl (by decide) (by omega) (.slice As sp_.length ks) sp_ (⟨p1, p2⟩ : S45) [.int .i64 p1, .int .i64 p2] (fun _ => True) (fun _ => False) rfl rfl ?aP (fun _ hk => hk.elim) ?aF ?aO ?aB ?aS ?aL ?_; (case aP => exact k45_mkM _ _ _ (⟨p1, p2⟩ : S45)); (case aB => exact HB2.out); (case aF => exact fun _ _ => trivial); (case aO => exact HSp.out); (case aS => exact HB2.out.size); (case aL => have := HL5.out; omega); intro v9 w9 ho hb hg hat_; replace HI : Aside0 (PS wb w9 g cols rw_ cl_) := ⟨⟨HI.out.1, _, blk_grown HPB.out hg (Kd.R_ne HSp.out HPB.out (by decide)), Kd.S_over' HPS.out (Kd.R_typed HSp.out) (by decide) hg⟩⟩; replace HB2 := am hb; have HSn := am ho; clear HSp ho hb hg hat_ HPB HPS))
                go_roundg k1
                case measure => have := HK1.out; omega
                case rel => exact ⟨wrap64 (i + 1), rw_, cl_, _, (by first | rfl | (simp; done)), H', ⟨by have := HK1.out; omega⟩, HI, HSn, HB2⟩
           · rw [if_neg c4] at H
             cases H
         · rw [if_neg c3] at H
           cases H
       · rw [if_neg c2] at H
         simp only [Option.some.injEq, Prod.mk.injEq] at H
         obtain ⟨rfl, rfl, rfl⟩ := H
         have c2b : decide (i < (l1.length : Int)) = false := decide_eq_false c2
         clear c2
         go_wp2
         go_ret2
         exact ⟨g, _, by first | rfl | (simp; done), (by first | exact PS_lower HI.out HB.out.size | exact PS_lower (PS_below HI.out (pw_below_drewN (Below.refl _ _) _)) HB.out.size), (by first | exact Kd.R_lower HSp.out HB.out.size | exact Kd.R_lower (Kd.R_drewN HSp.out _) HB.out.size), (by first | exact below_then HB.out HB.out.size HB2.out | exact below_then HB.out HB.out.size (pw_below_drewN HB2.out _))⟩

theorem shAt.mono : ∀ a0 a1 k, LeO (shAt k a0 a1) (shAt (k + 1) a0 a1) := by
 intro a0 a1 k
 unfold shAt
 repeat' first
   | (with_reducible exact spec_l08Wide.mono _ _ _)
   | (with_reducible exact LeO.refl _)
   | (with_reducible exact LeO.none _)
   | (with_reducible refine LeO.ite ?_ ?_)
   | (with_reducible refine LeO.bind ?_ (fun _ => ?_))
theorem shF.mono : ∀ a0 a1 a2 a3 a4 k, LeO (shF k a0 a1 a2 a3 a4) (shF (k + 1) a0 a1 a2 a3 a4) := by
 intro a0 a1 a2 a3 a4 k
 unfold shF
 repeat' first
   | (with_reducible exact spec_WidthOf.mono _ _)
   | (with_reducible exact shAt.mono _ _ _)
   | (with_reducible exact LeO.refl _)
   | (with_reducible exact LeO.none _)
   | (with_reducible refine LeO.ite ?_ ?_)
   | (with_reducible refine LeO.bind ?_ (fun _ => ?_))
theorem pnL.mono (cols attr : Int) : ∀ k a0 a1 a2 a3, LeO (pnL cols attr k a0 a1 a2 a3) (pnL cols attr (k + 1) a0 a1 a2 a3)
 | 0 => fun _ _ _ _ r h => by simp [pnL] at h
 | k + 1 => by
  have ih0 := pnL.mono cols attr k
  intro a0 a1 a2 a3
  unfold pnL
  repeat' first
   | (with_reducible exact ih0 _ _ _ _)
   | (with_reducible exact LeO.refl _)
   | (with_reducible exact LeO.none _)
   | (with_reducible exact shF.mono _ _ _ _ _ _)
   | (with_reducible refine LeO.ite ?_ ?_)
   | (with_reducible refine LeO.bind ?_ (fun _ => ?_))
theorem pnF.mono : ∀ a0 a1 a2 a3 a4 k, LeO (pnF k a0 a1 a2 a3 a4) (pnF (k + 1) a0 a1 a2 a3 a4) := by
 intro a0 a1 a2 a3 a4 k
 unfold pnF
 repeat' first
   | (with_reducible exact pnL.mono _ _ _ _ _ _ _)
   | (with_reducible exact LeO.refl _)
   | (with_reducible refine LeO.ite ?_ ?_)
   | (with_reducible refine LeO.bind ?_ (fun _ => ?_))
theorem lzA.mono (cols : Int) : ∀ k a0 a1 a2 a3, LeO (lzA cols k a0 a1 a2 a3) (lzA cols (k + 1) a0 a1 a2 a3)
 | 0 => fun _ _ _ _ r h => by simp [lzA] at h
 | k + 1 => by
  have ih0 := lzA.mono cols k
  intro a0 a1 a2 a3
  unfold lzA
  repeat' first
   | (with_reducible exact ih0 _ _ _ _)
   | (with_reducible exact LeO.refl _)
   | (with_reducible exact LeO.none _)
   | (with_reducible exact pnF.mono _ _ _ _ _ _)
   | (with_reducible refine LeO.ite ?_ ?_)
   | (with_reducible refine LeO.bind ?_ (fun _ => ?_))
theorem lzB.mono (cols : Int) (region : Bool) (low high : Int) : ∀ k a0 a1 a2 a3 a4, LeO (lzB cols region low high k a0 a1 a2 a3 a4) (lzB cols region low high (k + 1) a0 a1 a2 a3 a4)
 | 0 => fun _ _ _ _ _ r h => by simp [lzB] at h
 | k + 1 => by
  have ih0 := lzB.mono cols region low high k
  intro a0 a1 a2 a3 a4
  unfold lzB
  repeat' first
   | (with_reducible exact ih0 _ _ _ _ _)
   | (with_reducible exact LeO.refl _)
   | (with_reducible exact LeO.none _)
   | (with_reducible exact pnF.mono _ _ _ _ _ _)
   | (with_reducible refine LeO.ite ?_ ?_)
   | (with_reducible refine LeO.bind ?_ (fun _ => ?_))
theorem lzF.mono : ∀ a0 a1 a2 a3 a4 a5 k, LeO (lzF k a0 a1 a2 a3 a4 a5) (lzF (k + 1) a0 a1 a2 a3 a4 a5) := by
 intro a0 a1 a2 a3 a4 a5 k
 unfold lzF
 repeat' first
   | (with_reducible exact lzA.mono _ _ _ _ _ _)
   | (with_reducible exact lzB.mono _ _ _ _ _ _ _ _ _ _)
   | (with_reducible exact LeO.refl _)
   | (with_reducible exact LeO.none _)
   | (with_reducible refine LeO.ite ?_ ?_)
   | (with_reducible refine LeO.bind ?_ (fun _ => ?_))

/-! ### the reference's ViewOf -/
theorem pen_row {N0 : Nat} {w : World} {base gr m cap : Nat} {rws : List (List S75)} (h : Kd.S kRow 26 w base (fun k => k < N0) (.slice (some ⟨gr, 0, none⟩) m cap) rws) (a : Int) (h0 : 0 ≤ a) (h1 : a < (m : Int)) {row : List S75} (hx : row = rd_L3 rws a) :
  ∃ (Ar : Option Addr) (cr : Nat), w.cell? ⟨gr, a.toNat, none⟩ = some (.slice Ar row.length cr) ∧ Kd.R k75 75 w base (fun k => k < N0) (.slice Ar row.length cr) row := by
 obtain ⟨c, hcl, hM, hcc, hfr⟩ := Kd.R_elem (Kd.S_R h) ([] : List S75) a h0 h1
 rw [show rws.getD a.toNat ([] : List S75) = row from hx.symm] at hM
 obtain ⟨v, rfl, hR⟩ := hM
 obtain ⟨Ar, cr, rfl⟩ := Kd.R_slice hR
 have e0 := hcc 0 _ rfl
 rw [show kRow.sz = 1 from rfl, Nat.add_zero, Nat.mul_one] at e0
 exact ⟨Ar, cr, e0, Kd.R_mono hR (fun k hk => hk.1)⟩
theorem row_elemR {w : World} {base ga n cr : Nat} {oki : Nat → Prop} {row : List S75} (hR : Kd.R k75 75 w base oki (.slice (some ⟨ga, 0, none⟩) n cr) row) (a : Int) (h0 : 0 ≤ a) (h1 : a < (n : Int)) {x : S75} (hx : x = rd_T75 row a) :
  ∃ (A0 : Option Addr) (c0 : Nat), w.cell? ⟨ga, a.toNat * 2, none⟩ = some (.slice A0 x.f0.length c0) ∧ w.cell? ⟨ga, a.toNat * 2 + 1, none⟩ = some (.int .i64 x.f1) ∧ Kd.R (Kd.int .i64) 2 w base oki (.slice A0 x.f0.length c0) x.f0 := by
 obtain ⟨c, _, hM, hcc, hfr⟩ := Kd.R_elem hR z75 a h0 h1
 rw [show row.getD a.toNat z75 = x from hx.symm] at hM
 obtain ⟨v0, rfl, hv⟩ := k75_openM hM
 obtain ⟨A0, c0, rfl⟩ := Kd.R_slice hv
 have e0 := hcc 0 _ rfl
 have e1 := hcc 1 _ rfl
 rw [show k75.sz = 2 from rfl] at e0 e1
 exact ⟨A0, c0, e0, e1, Kd.R_mono hv (fun k hk => hk.1)⟩
def voC (cols top r : Int) (rws : List (List S75)) : Nat → Int → List S75 → Option (List S75)
 | 0, _, _ => none
 | k + 1, c, G => if c < cols then (if 0 ≤ wrap64 (top + r) then (if wrap64 (top + r) < (rws.length : Int) then (if 0 ≤ c then (if c < ((rd_L3 rws (wrap64 (top + r))).length : Int) then (if 0 ≤ wrap64 (wrap64 (r * cols) + c) then (if wrap64 (wrap64 (r * cols) + c) < (G.length : Int) then voC cols top r rws k (wrap64 (c + 1)) (G.set (wrap64 (wrap64 (r * cols) + c)).toNat (rd_T75 (rd_L3 rws (wrap64 (top + r))) c)) else none) else none) else none) else none) else none) else none) else some G
def voR (rows cols top : Int) (rws : List (List S75)) : Nat → Int → List S75 → Option (List S75)
 | 0, _, _ => none
 | k + 1, r, G => if r < rows then (if wrap64 (top + r) < (rws.length : Int) then ((voC cols top r rws k 0 G).bind fun G2 => voR rows cols top rws k (wrap64 (r + 1)) G2) else some G) else some G

def vp7.T : Bool × List (List Nat × List Nat) := (true, [([], []), ([], []), ([0, 1], [0, 1]), ([], []), ([3], [3]), ([], []), ([4, 5], [4, 5]), ([6], [6]), ([7, 2], [7]), ([2, 8], [2, 8]), ([], []), ([10, 9, 8, 0, 1, 2, 3, 4, 5, 6, 7, 8, 9, 10], [9, 10])])
def vp7.B : List Nat := [0, 0, 3, 0, 8, 0, 56, 120, 255, 511, 0, 2047]
theorem vp7.tab : rtab .any (opsOf Try.f10 7) = vp7.T := by kernel_rfl
theorem vp7.bits : waitsOk vp7.T.2 vp7.B = true := by kernel_rfl
@[reducible] def vp7.a0 : Array Bool := (br true [0, 12]).toArray
@[reducible] def vp7.a1 : Array Bool := (br true [1, 11]).toArray
@[reducible] def vp7.a2 : Array Bool := (br true [2, 10]).toArray
@[reducible] def vp7.a3 : Array Bool := (br true [2, 1, 1, 8]).toArray
@[reducible] def vp7.a4 : Array Bool := (br true [2, 1, 1, 1, 1, 6]).toArray
@[reducible] def vp7.a5 : Array Bool := (br true [2, 1, 3, 6]).toArray
@[reducible] def vp7.a6 : Array Bool := (br true [2, 1, 4, 5]).toArray
@[reducible] def vp7.a7 : Array Bool := (br true [2, 1, 5, 4]).toArray
@[reducible] def vp7.a8 : Array Bool := (br true [11, 1]).toArray
@[reducible] def vp7.a9 : Array Bool := (br true [10, 2]).toArray
@[reducible] def vp7.a10 : Array Bool := (br true [9, 1, 1, 1]).toArray
@[reducible] def vp7.a11 : Array Bool := (br true [8, 2, 1, 1]).toArray
@[reducible] def vp7.a12 : Array Bool := (br true [8, 4]).toArray
@[reducible] def vp7.a13 : Array Bool := (br true [2, 1, 5, 2, 1, 1]).toArray
@[reducible] def vp7.a14 : Array Bool := (br true [9, 3]).toArray
@[reducible] def vp7.a15 : Array Bool := (br true [12]).toArray
def vp16.T : Bool × List (List Nat × List Nat) := (true, [([], []), ([0], [0]), ([1], [1]), ([], []), ([], []), ([3, 4], [3, 4]), ([], []), ([5, 6], [5, 6]), ([], []), ([8], [8]), ([9], [9]), ([10], [10]), ([], []), ([12], [12]), ([], []), ([13, 14], [13, 14]), ([11, 15], [11, 15]), ([16], [16]), ([], []), ([17, 18], [17, 18]), ([19], [19]), ([2, 7, 0, 1, 2, 3, 4, 5, 6, 7, 8, 9, 10, 11, 12, 13, 14, 15, 16, 17, 18, 19, 20], [2, 7]), ([21, 20, 0, 1, 2, 3, 4, 5, 6, 7, 8, 9, 10, 11, 12, 13, 14, 15, 16, 17, 18, 19, 20], [20, 21])])
def vp16.B : List Nat := [0, 1, 3, 0, 0, 24, 0, 120, 0, 256, 768, 1792, 0, 4096, 0, 28672, 65280, 130816, 0, 524032, 1048320, 2097151, 4194303]
theorem vp16.tab : rtab .any (opsOf Try.f10 16) = vp16.T := by kernel_rfl
theorem vp16.bits : waitsOk vp16.T.2 vp16.B = true := by kernel_rfl
@[reducible] def vp16.a0 : Array Bool := (br true [0, 23]).toArray
@[reducible] def vp16.a1 : Array Bool := (br true [1, 22]).toArray
@[reducible] def vp16.a2 : Array Bool := (br true [2, 21]).toArray
@[reducible] def vp16.a3 : Array Bool := (br true [2, 1, 1, 19]).toArray
@[reducible] def vp16.a4 : Array Bool := (br true [2, 1, 2, 18]).toArray
@[reducible] def vp16.a5 : Array Bool := (br true [2, 1, 3, 17]).toArray
@[reducible] def vp16.a6 : Array Bool := (br true [2, 1, 4, 16]).toArray
@[reducible] def vp16.a7 : Array Bool := (br true [2, 1, 5, 15]).toArray
@[reducible] def vp16.a8 : Array Bool := (br true [2, 1, 6, 14]).toArray
@[reducible] def vp16.a9 : Array Bool := (br true [2, 1, 7, 13]).toArray
@[reducible] def vp16.a10 : Array Bool := (br true [2, 1, 8, 12]).toArray
@[reducible] def vp16.a11 : Array Bool := (br true [2, 1, 8, 1, 1, 10]).toArray
@[reducible] def vp16.a12 : Array Bool := (br true [2, 1, 8, 1, 1, 1, 1, 8]).toArray
@[reducible] def vp16.a13 : Array Bool := (br true [2, 1, 8, 1, 1, 1, 1, 3, 1, 4]).toArray
@[reducible] def vp16.a14 : Array Bool := (br true [11, 1, 1, 1, 1, 3, 1, 4]).toArray
@[reducible] def vp16.a15 : Array Bool := (br true [13, 1, 1, 3, 1, 4]).toArray
@[reducible] def vp16.a16 : Array Bool := (br true [15, 3, 1, 4]).toArray
@[reducible] def vp16.a17 : Array Bool := (br true [16, 2, 1, 4]).toArray
@[reducible] def vp16.a18 : Array Bool := (br true [17, 1, 1, 4]).toArray
@[reducible] def vp16.a19 : Array Bool := (br true [19, 4]).toArray
@[reducible] def vp16.a20 : Array Bool := (br true [20, 3]).toArray
@[reducible] def vp16.a21 : Array Bool := (br true [21, 2]).toArray
@[reducible] def vp16.a22 : Array Bool := (br true [22, 1]).toArray
@[reducible] def vp16.a23 : Array Bool := (br true [23]).toArray
def spec_ViewOf.f (k : Nat) (l0 l1 : List Int) (a1 a2 : Int) (region : Bool) (rows cols : Int) : Option (Int × Int × List S75 × Int × Int × Bool × Int × Int × Int) :=
 if 400 < (l0.length : Int) then some (0, 0, [], 0, 0, false, 0, 0, 2) else (spec_PointsRight.f k l0).bind fun t => if t = true then ((spec_BufRight.f k l1 a1 a2).bind fun u => if u = true then ((spec_l08Size.f rows cols).bind fun x => if x = true then ((lzF k l0 l1 a1 a2 region cols).bind fun v => if 0 ≤ a1 then (if a1 < (v.2.2.length : Int) then ((spec_GridNew.f rows cols).bind fun g => (spec_l01Max.f 0 (wrap64 (wrap64 ((rd_T45 v.2.2 a1).f0 - rows) + 1))).bind fun top => (voR rows cols top v.1 k 0 g.2.2.1).bind fun G => some (g.1, g.2.1, G, wrap64 ((rd_T45 v.2.2 a1).f0 - top), (rd_T45 v.2.2 a1).f1, g.2.2.2.2.2.1, g.2.2.2.2.2.2, top, 0)) else none) else none) else some (0, 0, [], 0, 0, false, 0, 0, 1)) else some (0, 0, [], 0, 0, false, 0, 0, 1)) else some (0, 0, [], 0, 0, false, 0, 0, 1)
theorem spec_ViewOf.calls (k : Nat) (A0 : Option Addr) (c0 : Nat) (l0 : List Int) (A1 : Option Addr) (c1 : Nat) (l1 : List Int) (a1 a2 : Int) (region : Bool) (rows cols : Int) (r1 r2 : Int) (r3 : List S75) (r4 r5 : Int) (r6 : Bool) (r7 r8 r9 : Int) (w : World) (hr0 : Kd.C (Kd.int .i64) w A0 l0.length l0) (hc0 : l0.length ≤ c0) (hr1 : Kd.C (Kd.int .i64) w A1 l1.length l1) (hc1 : l1.length ≤ c1) (h : spec_ViewOf.f k l0 l1 a1 a2 region rows cols = some (r1, r2, r3, r4, r5, r6, r7, r8, r9)) :
  Calls Try.prog 10 #[.slice A0 l0.length c0, .agg #[.slice A1 l1.length c1, .int .i64 a1, .int .i64 a2], .bool region, .int .i64 rows, .int .i64 cols] w fun e w' => ∃ v2_ : Value, e = .returned (.agg #[.int .i64 r1, .int .i64 r2, v2_, .int .i64 r4, .int .i64 r5, .bool r6, .int .i64 r7, .int .i64 r8, .int .i64 r9]) ∧ Kd.R k75 75 w' w.heap.size (fun _ => True) v2_ r3 ∧ Below w.heap.size w w' := by
 have HR0 := am hr0
 have HC0 := am hc0
 have HR1 := am hr1
 have HC1 := am hc1
 clear hr0 hc0 hr1 hc1
 have HB := am (Below.refl w.heap.size w)
 unfold spec_ViewOf.f at h
 by_cases e0 : 400 < (l0.length : Int)
 · rw [if_pos e0] at h
   have e0b : decide (400 < (l0.length : Int)) = true := decide_eq_true e0
   have e0c : decide (400 < l0.length) = true := decide_eq_true (by omega)
   clear e0
   simp only [Option.some.injEq, Prod.mk.injEq] at h
   obtain ⟨rfl, rfl, rfl, rfl, rfl, rfl, rfl, rfl, rfl⟩ := h
   go_enter Try.func10, Try.ntmps10
   go_wp2_with (first | ((with_reducible refine gate_dst (N := 6) rfl ?_); refine box_event ?hg (N := 6) ?hd (cs := #[(.slice A1 l1.length c1), (.int .i64 a1), (.int .i64 a2)]) (t := 33) ?hr ?_; (case hd => rfl); (case hg => rfl); (case hr => first | (go_simp; done) | (go_simp; rfl)); intro gb hg wb hbox hb; have BK := am hbox; replace HB := am (below_step HB.out hb); have hb0 := bc hbox 0; have hb1 := bc hbox 1; have hb2 := bc hbox 2; clear hb hbox hg) | ((with_reducible refine gate_dst (N := 10) rfl ?_); refine box_event ?hg (N := 10) ?hd (cs := #[(.int .i64 0), (.int .i64 0), (.slice none 0 0), (.int .i64 0), (.int .i64 0), (.bool false), (.int .i64 0), (.int .i64 0), (.int .i64 0)]) (t := 30) ?hr ?_; (case hd => rfl); (case hg => rfl); (case hr => first | (go_simp; done) | (go_simp; rfl)); intro gv hg ws hbox hb; have BV := am hbox; have GV : Aside0 (w.heap.size ≤ gv) := ⟨by rw [hg]; exact HB.out.size⟩; replace BK := am (blk_below BK.out hb); replace HB := am (below_step HB.out hb); clear hb0 hb1 hb2; have hb0 := bc BK.out 0; have hb1 := bc BK.out 1; have hb2 := bc BK.out 2; have hs0 := bc BV.out 0; have hs1 := bc BV.out 1; have hs2 := bc BV.out 2; have hs3 := bc BV.out 3; have hs4 := bc BV.out 4; have hs5 := bc BV.out 5; have hs6 := bc BV.out 6; have hs7 := bc BV.out 7; have hs8 := bc BV.out 8; have hsf0 := blk_frozen BV.out 0; have hsf1 := blk_frozen BV.out 1; have hsf2 := blk_frozen BV.out 2; have hsf3 := blk_frozen BV.out 3; have hsf4 := blk_frozen BV.out 4; have hsf5 := blk_frozen BV.out 5; have hsf6 := blk_frozen BV.out 6; have hsf7 := blk_frozen BV.out 7; have hsf8 := blk_frozen BV.out 8; clear hb hbox hg) | ((with_reducible refine gate_store (t := 30) (p := 10) rfl ?_); refine store_event (t := 30) (p := 10) (v := .tmp 20) (w1 := (((((((((ws.setCell ⟨gv, 0, none⟩ (.int .i64 0)).setCell ⟨gv, 1, none⟩ (.int .i64 0)).setCell ⟨gv, 2, none⟩ (.slice none 0 0)).setCell ⟨gv, 3, none⟩ (.int .i64 0)).setCell ⟨gv, 4, none⟩ (.int .i64 0)).setCell ⟨gv, 5, none⟩ (.bool false)).setCell ⟨gv, 6, none⟩ (.int .i64 0)).setCell ⟨gv, 7, none⟩ (.int .i64 0)).setCell ⟨gv, 8, none⟩ (.int .i64 2))) ?hg ?ho ?hn ?hr ?_; (case ho => rfl); (case hg => rfl); (case hn => rfl); (case hr => first | (go_simp; done) | (go_simp; rfl)); intro w9 hw; have BV9 : Aside0 (w9.heap[gv]? = some (.cells #[(.int .i64 0), (.int .i64 0), (.slice none 0 0), (.int .i64 0), (.int .i64 0), (.bool false), (.int .i64 0), (.int .i64 0), (.int .i64 2)] 30 (0, 0))) := ⟨by rw [hw]; exact (blk_put (cs := #[(.int .i64 0), (.int .i64 0), (.slice none 0 0), (.int .i64 0), (.int .i64 0), (.bool false), (.int .i64 0), (.int .i64 0), (.int .i64 0)]) (blk_put (cs := #[(.int .i64 0), (.int .i64 0), (.slice none 0 0), (.int .i64 0), (.int .i64 0), (.bool false), (.int .i64 0), (.int .i64 0), (.int .i64 0)]) (blk_put (cs := #[(.int .i64 0), (.int .i64 0), (.slice none 0 0), (.int .i64 0), (.int .i64 0), (.bool false), (.int .i64 0), (.int .i64 0), (.int .i64 0)]) (blk_put (cs := #[(.int .i64 0), (.int .i64 0), (.slice none 0 0), (.int .i64 0), (.int .i64 0), (.bool false), (.int .i64 0), (.int .i64 0), (.int .i64 0)]) (blk_put (cs := #[(.int .i64 0), (.int .i64 0), (.slice none 0 0), (.int .i64 0), (.int .i64 0), (.bool false), (.int .i64 0), (.int .i64 0), (.int .i64 0)]) (blk_put (cs := #[(.int .i64 0), (.int .i64 0), (.slice none 0 0), (.int .i64 0), (.int .i64 0), (.bool false), (.int .i64 0), (.int .i64 0), (.int .i64 0)]) (blk_put (cs := #[(.int .i64 0), (.int .i64 0), (.slice none 0 0), (.int .i64 0), (.int .i64 0), (.bool false), (.int .i64 0), (.int .i64 0), (.int .i64 0)]) (blk_put (cs := #[(.int .i64 0), (.int .i64 0), (.slice none 0 0), (.int .i64 0), (.int .i64 0), (.bool false), (.int .i64 0), (.int .i64 0), (.int .i64 0)]) (blk_put (cs := #[(.int .i64 0), (.int .i64 0), (.slice none 0 0), (.int .i64 0), (.int .i64 0), (.bool false), (.int .i64 0), (.int .i64 0), (.int .i64 0)]) BV.out 0 _ rfl) 1 _ rfl) 2 _ rfl) 3 _ rfl) 4 _ rfl) 5 _ rfl) 6 _ rfl) 7 _ rfl) 8 _ rfl)⟩; have HB9 : Aside0 (Below w.heap.size w w9) := ⟨by rw [hw]; exact below_set (below_set (below_set (below_set (below_set (below_set (below_set (below_set (below_set HB.out GV.out) GV.out) GV.out) GV.out) GV.out) GV.out) GV.out) GV.out) GV.out⟩; clear hw))
   refine bodyPost_ret (results_cell_row rfl _ _ gv 30 #[(.int .i64 0), (.int .i64 0), (.slice none 0 0), (.int .i64 0), (.int .i64 0), (.bool false), (.int .i64 0), (.int .i64 0), (.int .i64 2)] (0, 0) _ rfl (by (with_reducible repeat (first | refine blk_drewN ?_ _ | refine blk_drew ?_)); exact BV9.out) Try.underlying30 rfl (by kernel_rfl)) rfl ?_
   exact ⟨_, by first | rfl | (simp; done), Kd.R_nil _ _ _ _ _, by repeat (first | exact HB9.out | apply pw_below_drewN | apply below_drew1)⟩
 · rw [if_neg e0] at h
   have e0b : decide (400 < (l0.length : Int)) = false := decide_eq_false e0
   have e0c : decide (400 < l0.length) = false := decide_eq_false (by omega)
   clear e0
   obtain ⟨t, A40, h⟩ := Option.bind_eq_some_iff.mp h
   have A4 := am A40
   clear A40
   cases t with
   | false =>
    rw [if_neg Bool.false_ne_true] at h
    simp only [Option.some.injEq, Prod.mk.injEq] at h
    obtain ⟨rfl, rfl, rfl, rfl, rfl, rfl, rfl, rfl, rfl⟩ := h
    go_enter Try.func10, Try.ntmps10
    go_wp2_with (first | ((with_reducible refine gate_dst (N := 6) rfl ?_); refine box_event ?hg (N := 6) ?hd (cs := #[(.slice A1 l1.length c1), (.int .i64 a1), (.int .i64 a2)]) (t := 33) ?hr ?_; (case hd => rfl); (case hg => rfl); (case hr => first | (go_simp; done) | (go_simp; rfl)); intro gb hg wb hbox hb; have BK := am hbox; replace HB := am (below_step HB.out hb); have hb0 := bc hbox 0; have hb1 := bc hbox 1; have hb2 := bc hbox 2; clear hb hbox hg) | ((with_reducible refine gate_dst (N := 10) rfl ?_); refine box_event ?hg (N := 10) ?hd (cs := #[(.int .i64 0), (.int .i64 0), (.slice none 0 0), (.int .i64 0), (.int .i64 0), (.bool false), (.int .i64 0), (.int .i64 0), (.int .i64 0)]) (t := 30) ?hr ?_; (case hd => rfl); (case hg => rfl); (case hr => first | (go_simp; done) | (go_simp; rfl)); intro gv hg ws hbox hb; have BV := am hbox; have GV : Aside0 (w.heap.size ≤ gv) := ⟨by rw [hg]; exact HB.out.size⟩; replace BK := am (blk_below BK.out hb); replace HB := am (below_step HB.out hb); clear hb0 hb1 hb2; have hb0 := bc BK.out 0; have hb1 := bc BK.out 1; have hb2 := bc BK.out 2; have hs0 := bc BV.out 0; have hs1 := bc BV.out 1; have hs2 := bc BV.out 2; have hs3 := bc BV.out 3; have hs4 := bc BV.out 4; have hs5 := bc BV.out 5; have hs6 := bc BV.out 6; have hs7 := bc BV.out 7; have hs8 := bc BV.out 8; have hsf0 := blk_frozen BV.out 0; have hsf1 := blk_frozen BV.out 1; have hsf2 := blk_frozen BV.out 2; have hsf3 := blk_frozen BV.out 3; have hsf4 := blk_frozen BV.out 4; have hsf5 := blk_frozen BV.out 5; have hsf6 := blk_frozen BV.out 6; have hsf7 := blk_frozen BV.out 7; have hsf8 := blk_frozen BV.out 8; clear hb hbox hg) | (go_at_call 40; refine (spec_PointsRight.calls k A0 c0 l0 false _ (by first | exact Kd.C_below HR0.out HB.out | exact Kd.C_below HR0.out (pw_below_drewN HB.out _)) HC0.out A4.out).mono ?_; rintro e w5 ⟨rfl, hd_⟩; have hb := Drawn0.below hd_; clear hd_; replace BK := am (blk_below BK.out hb); replace BV := am (blk_below BV.out hb); replace HB := am (below_step HB.out hb); clear hb0 hb1 hb2 hs0 hs1 hs2 hs3 hs4 hs5 hs6 hs7 hs8 hsf0 hsf1 hsf2 hsf3 hsf4 hsf5 hsf6 hsf7 hsf8; have hb0 := bc BK.out 0; have hb1 := bc BK.out 1; have hb2 := bc BK.out 2; have hs0 := bc BV.out 0; have hs1 := bc BV.out 1; have hs2 := bc BV.out 2; have hs3 := bc BV.out 3; have hs4 := bc BV.out 4; have hs5 := bc BV.out 5; have hs6 := bc BV.out 6; have hs7 := bc BV.out 7; have hs8 := bc BV.out 8; have hsf0 := blk_frozen BV.out 0; have hsf1 := blk_frozen BV.out 1; have hsf2 := blk_frozen BV.out 2; have hsf3 := blk_frozen BV.out 3; have hsf4 := blk_frozen BV.out 4; have hsf5 := blk_frozen BV.out 5; have hsf6 := blk_frozen BV.out 6; have hsf7 := blk_frozen BV.out 7; have hsf8 := blk_frozen BV.out 8; clear hb) | ((with_reducible refine gate_store (t := 30) (p := 10) rfl ?_); refine store_event (t := 30) (p := 10) (v := .tmp 35) (w1 := (((((((((w5.setCell ⟨gv, 0, none⟩ (.int .i64 0)).setCell ⟨gv, 1, none⟩ (.int .i64 0)).setCell ⟨gv, 2, none⟩ (.slice none 0 0)).setCell ⟨gv, 3, none⟩ (.int .i64 0)).setCell ⟨gv, 4, none⟩ (.int .i64 0)).setCell ⟨gv, 5, none⟩ (.bool false)).setCell ⟨gv, 6, none⟩ (.int .i64 0)).setCell ⟨gv, 7, none⟩ (.int .i64 0)).setCell ⟨gv, 8, none⟩ (.int .i64 1))) ?hg ?ho ?hn ?hr ?_; (case ho => rfl); (case hg => rfl); (case hn => rfl); (case hr => first | (go_simp; done) | (go_simp; rfl)); intro w9 hw; have BV9 : Aside0 (w9.heap[gv]? = some (.cells #[(.int .i64 0), (.int .i64 0), (.slice none 0 0), (.int .i64 0), (.int .i64 0), (.bool false), (.int .i64 0), (.int .i64 0), (.int .i64 1)] 30 (0, 0))) := ⟨by rw [hw]; exact (blk_put (cs := #[(.int .i64 0), (.int .i64 0), (.slice none 0 0), (.int .i64 0), (.int .i64 0), (.bool false), (.int .i64 0), (.int .i64 0), (.int .i64 0)]) (blk_put (cs := #[(.int .i64 0), (.int .i64 0), (.slice none 0 0), (.int .i64 0), (.int .i64 0), (.bool false), (.int .i64 0), (.int .i64 0), (.int .i64 0)]) (blk_put (cs := #[(.int .i64 0), (.int .i64 0), (.slice none 0 0), (.int .i64 0), (.int .i64 0), (.bool false), (.int .i64 0), (.int .i64 0), (.int .i64 0)]) (blk_put (cs := #[(.int .i64 0), (.int .i64 0), (.slice none 0 0), (.int .i64 0), (.int .i64 0), (.bool false), (.int .i64 0), (.int .i64 0), (.int .i64 0)]) (blk_put (cs := #[(.int .i64 0), (.int .i64 0), (.slice none 0 0), (.int .i64 0), (.int .i64 0), (.bool false), (.int .i64 0), (.int .i64 0), (.int .i64 0)]) (blk_put (cs := #[(.int .i64 0), (.int .i64 0), (.slice none 0 0), (.int .i64 0), (.int .i64 0), (.bool false), (.int .i64 0), (.int .i64 0), (.int .i64 0)]) (blk_put (cs := #[(.int .i64 0), (.int .i64 0), (.slice none 0 0), (.int .i64 0), (.int .i64 0), (.bool false), (.int .i64 0), (.int .i64 0), (.int .i64 0)]) (blk_put (cs := #[(.int .i64 0), (.int .i64 0), (.slice none 0 0), (.int .i64 0), (.int .i64 0), (.bool false), (.int .i64 0), (.int .i64 0), (.int .i64 0)]) (blk_put (cs := #[(.int .i64 0), (.int .i64 0), (.slice none 0 0), (.int .i64 0), (.int .i64 0), (.bool false), (.int .i64 0), (.int .i64 0), (.int .i64 0)]) BV.out 0 _ rfl) 1 _ rfl) 2 _ rfl) 3 _ rfl) 4 _ rfl) 5 _ rfl) 6 _ rfl) 7 _ rfl) 8 _ rfl)⟩; have HB9 : Aside0 (Below w.heap.size w w9) := ⟨by rw [hw]; exact below_set (below_set (below_set (below_set (below_set (below_set (below_set (below_set (below_set HB.out GV.out) GV.out) GV.out) GV.out) GV.out) GV.out) GV.out) GV.out) GV.out⟩; clear hw))
    refine bodyPost_ret (results_cell_row rfl _ _ gv 30 #[(.int .i64 0), (.int .i64 0), (.slice none 0 0), (.int .i64 0), (.int .i64 0), (.bool false), (.int .i64 0), (.int .i64 0), (.int .i64 1)] (0, 0) _ rfl (by (with_reducible repeat (first | refine blk_drewN ?_ _ | refine blk_drew ?_)); exact BV9.out) Try.underlying30 rfl (by kernel_rfl)) rfl ?_
    exact ⟨_, by first | rfl | (simp; done), Kd.R_nil _ _ _ _ _, by repeat (first | exact HB9.out | apply pw_below_drewN | apply below_drew1)⟩
   | true =>
    rw [if_pos rfl] at h
    obtain ⟨u, A50, h⟩ := Option.bind_eq_some_iff.mp h
    have A5 := am A50
    clear A50
    cases u with
    | false =>
     rw [if_neg Bool.false_ne_true] at h
     simp only [Option.some.injEq, Prod.mk.injEq] at h
     obtain ⟨rfl, rfl, rfl, rfl, rfl, rfl, rfl, rfl, rfl⟩ := h
     go_enter Try.func10, Try.ntmps10
     go_wp2_with (first | ((with_reducible refine gate_dst (N := 6) rfl ?_); refine box_event ?hg (N := 6) ?hd (cs := #[(.slice A1 l1.length c1), (.int .i64 a1), (.int .i64 a2)]) (t := 33) ?hr ?_; (case hd => rfl); (case hg => rfl); (case hr => first | (go_simp; done) | (go_simp; rfl)); intro gb hg wb hbox hb; have BK := am hbox; replace HB := am (below_step HB.out hb); have hb0 := bc hbox 0; have hb1 := bc hbox 1; have hb2 := bc hbox 2; clear hb hbox hg) | ((with_reducible refine gate_dst (N := 10) rfl ?_); refine box_event ?hg (N := 10) ?hd (cs := #[(.int .i64 0), (.int .i64 0), (.slice none 0 0), (.int .i64 0), (.int .i64 0), (.bool false), (.int .i64 0), (.int .i64 0), (.int .i64 0)]) (t := 30) ?hr ?_; (case hd => rfl); (case hg => rfl); (case hr => first | (go_simp; done) | (go_simp; rfl)); intro gv hg ws hbox hb; have BV := am hbox; have GV : Aside0 (w.heap.size ≤ gv) := ⟨by rw [hg]; exact HB.out.size⟩; replace BK := am (blk_below BK.out hb); replace HB := am (below_step HB.out hb); clear hb0 hb1 hb2; have hb0 := bc BK.out 0; have hb1 := bc BK.out 1; have hb2 := bc BK.out 2; have hs0 := bc BV.out 0; have hs1 := bc BV.out 1; have hs2 := bc BV.out 2; have hs3 := bc BV.out 3; have hs4 := bc BV.out 4; have hs5 := bc BV.out 5; have hs6 := bc BV.out 6; have hs7 := bc BV.out 7; have hs8 := bc BV.out 8; have hsf0 := blk_frozen BV.out 0; have hsf1 := blk_frozen BV.out 1; have hsf2 := blk_frozen BV.out 2; have hsf3 := blk_frozen BV.out 3; have hsf4 := blk_frozen BV.out 4; have hsf5 := blk_frozen BV.out 5; have hsf6 := blk_frozen BV.out 6; have hsf7 := blk_frozen BV.out 7; have hsf8 := blk_frozen BV.out 8; clear hb hbox hg) | (go_at_call 40; refine (spec_PointsRight.calls k A0 c0 l0 true _ (by first | exact Kd.C_below HR0.out HB.out | exact Kd.C_below HR0.out (pw_below_drewN HB.out _)) HC0.out A4.out).mono ?_; rintro e w5 ⟨rfl, hd_⟩; have hb := Drawn0.below hd_; clear hd_; replace BK := am (blk_below BK.out hb); replace BV := am (blk_below BV.out hb); replace HB := am (below_step HB.out hb); clear hb0 hb1 hb2 hs0 hs1 hs2 hs3 hs4 hs5 hs6 hs7 hs8 hsf0 hsf1 hsf2 hsf3 hsf4 hsf5 hsf6 hsf7 hsf8; have hb0 := bc BK.out 0; have hb1 := bc BK.out 1; have hb2 := bc BK.out 2; have hs0 := bc BV.out 0; have hs1 := bc BV.out 1; have hs2 := bc BV.out 2; have hs3 := bc BV.out 3; have hs4 := bc BV.out 4; have hs5 := bc BV.out 5; have hs6 := bc BV.out 6; have hs7 := bc BV.out 7; have hs8 := bc BV.out 8; have hsf0 := blk_frozen BV.out 0; have hsf1 := blk_frozen BV.out 1; have hsf2 := blk_frozen BV.out 2; have hsf3 := blk_frozen BV.out 3; have hsf4 := blk_frozen BV.out 4; have hsf5 := blk_frozen BV.out 5; have hsf6 := blk_frozen BV.out 6; have hsf7 := blk_frozen BV.out 7; have hsf8 := blk_frozen BV.out 8; clear hb) | (go_at_call 41; refine (spec_BufRight.calls k A1 c1 l1 a1 a2 false _ (by first | exact Kd.C_below HR1.out HB.out | exact Kd.C_below HR1.out (pw_below_drewN HB.out _)) HC1.out A5.out).mono ?_; rintro e w6 ⟨rfl, hb⟩; replace BK := am (blk_below BK.out hb); replace BV := am (blk_below BV.out hb); replace HB := am (below_step HB.out hb); clear hb0 hb1 hb2 hs0 hs1 hs2 hs3 hs4 hs5 hs6 hs7 hs8 hsf0 hsf1 hsf2 hsf3 hsf4 hsf5 hsf6 hsf7 hsf8; have hb0 := bc BK.out 0; have hb1 := bc BK.out 1; have hb2 := bc BK.out 2; have hs0 := bc BV.out 0; have hs1 := bc BV.out 1; have hs2 := bc BV.out 2; have hs3 := bc BV.out 3; have hs4 := bc BV.out 4; have hs5 := bc BV.out 5; have hs6 := bc BV.out 6; have hs7 := bc BV.out 7; have hs8 := bc BV.out 8; have hsf0 := blk_frozen BV.out 0; have hsf1 := blk_frozen BV.out 1; have hsf2 := blk_frozen BV.out 2; have hsf3 := blk_frozen BV.out 3; have hsf4 := blk_frozen BV.out 4; have hsf5 := blk_frozen BV.out 5; have hsf6 := blk_frozen BV.out 6; have hsf7 := blk_frozen BV.out 7; have hsf8 := blk_frozen BV.out 8; clear hb) | ((with_reducible refine gate_store (t := 30) (p := 10) rfl ?_); refine store_event (t := 30) (p := 10) (v := .tmp 35) (w1 := (((((((((w6.setCell ⟨gv, 0, none⟩ (.int .i64 0)).setCell ⟨gv, 1, none⟩ (.int .i64 0)).setCell ⟨gv, 2, none⟩ (.slice none 0 0)).setCell ⟨gv, 3, none⟩ (.int .i64 0)).setCell ⟨gv, 4, none⟩ (.int .i64 0)).setCell ⟨gv, 5, none⟩ (.bool false)).setCell ⟨gv, 6, none⟩ (.int .i64 0)).setCell ⟨gv, 7, none⟩ (.int .i64 0)).setCell ⟨gv, 8, none⟩ (.int .i64 1))) ?hg ?ho ?hn ?hr ?_; (case ho => rfl); (case hg => rfl); (case hn => rfl); (case hr => first | (go_simp; done) | (go_simp; rfl)); intro w9 hw; have BV9 : Aside0 (w9.heap[gv]? = some (.cells #[(.int .i64 0), (.int .i64 0), (.slice none 0 0), (.int .i64 0), (.int .i64 0), (.bool false), (.int .i64 0), (.int .i64 0), (.int .i64 1)] 30 (0, 0))) := ⟨by rw [hw]; exact (blk_put (cs := #[(.int .i64 0), (.int .i64 0), (.slice none 0 0), (.int .i64 0), (.int .i64 0), (.bool false), (.int .i64 0), (.int .i64 0), (.int .i64 0)]) (blk_put (cs := #[(.int .i64 0), (.int .i64 0), (.slice none 0 0), (.int .i64 0), (.int .i64 0), (.bool false), (.int .i64 0), (.int .i64 0), (.int .i64 0)]) (blk_put (cs := #[(.int .i64 0), (.int .i64 0), (.slice none 0 0), (.int .i64 0), (.int .i64 0), (.bool false), (.int .i64 0), (.int .i64 0), (.int .i64 0)]) (blk_put (cs := #[(.int .i64 0), (.int .i64 0), (.slice none 0 0), (.int .i64 0), (.int .i64 0), (.bool false), (.int .i64 0), (.int .i64 0), (.int .i64 0)]) (blk_put (cs := #[(.int .i64 0), (.int .i64 0), (.slice none 0 0), (.int .i64 0), (.int .i64 0), (.bool false), (.int .i64 0), (.int .i64 0), (.int .i64 0)]) (blk_put (cs := #[(.int .i64 0), (.int .i64 0), (.slice none 0 0), (.int .i64 0), (.int .i64 0), (.bool false), (.int .i64 0), (.int .i64 0), (.int .i64 0)]) (blk_put (cs := #[(.int .i64 0), (.int .i64 0), (.slice none 0 0), (.int .i64 0), (.int .i64 0), (.bool false), (.int .i64 0), (.int .i64 0), (.int .i64 0)]) (blk_put (cs := #[(.int .i64 0), (.int .i64 0), (.slice none 0 0), (.int .i64 0), (.int .i64 0), (.bool false), (.int .i64 0), (.int .i64 0), (.int .i64 0)]) (blk_put (cs := #[(.int .i64 0), (.int .i64 0), (.slice none 0 0), (.int .i64 0), (.int .i64 0), (.bool false), (.int .i64 0), (.int .i64 0), (.int .i64 0)]) BV.out 0 _ rfl) 1 _ rfl) 2 _ rfl) 3 _ rfl) 4 _ rfl) 5 _ rfl) 6 _ rfl) 7 _ rfl) 8 _ rfl)⟩; have HB9 : Aside0 (Below w.heap.size w w9) := ⟨by rw [hw]; exact below_set (below_set (below_set (below_set (below_set (below_set (below_set (below_set (below_set HB.out GV.out) GV.out) GV.out) GV.out) GV.out) GV.out) GV.out) GV.out) GV.out⟩; clear hw))
     refine bodyPost_ret (results_cell_row rfl _ _ gv 30 #[(.int .i64 0), (.int .i64 0), (.slice none 0 0), (.int .i64 0), (.int .i64 0), (.bool false), (.int .i64 0), (.int .i64 0), (.int .i64 1)] (0, 0) _ rfl (by (with_reducible repeat (first | refine blk_drewN ?_ _ | refine blk_drew ?_)); exact BV9.out) Try.underlying30 rfl (by kernel_rfl)) rfl ?_
     exact ⟨_, by first | rfl | (simp; done), Kd.R_nil _ _ _ _ _, by repeat (first | exact HB9.out | apply pw_below_drewN | apply below_drew1)⟩
    | true =>
     rw [if_pos rfl] at h
     obtain ⟨x, A60, h⟩ := Option.bind_eq_some_iff.mp h
     have A6 := am A60
     clear A60
     cases x with
     | false =>
      rw [if_neg Bool.false_ne_true] at h
      simp only [Option.some.injEq, Prod.mk.injEq] at h
      obtain ⟨rfl, rfl, rfl, rfl, rfl, rfl, rfl, rfl, rfl⟩ := h
      go_enter Try.func10, Try.ntmps10
      go_wp2_with (first | ((with_reducible refine gate_dst (N := 6) rfl ?_); refine box_event ?hg (N := 6) ?hd (cs := #[(.slice A1 l1.length c1), (.int .i64 a1), (.int .i64 a2)]) (t := 33) ?hr ?_; (case hd => rfl); (case hg => rfl); (case hr => first | (go_simp; done) | (go_simp; rfl)); intro gb hg wb hbox hb; have BK := am hbox; replace HB := am (below_step HB.out hb); have hb0 := bc hbox 0; have hb1 := bc hbox 1; have hb2 := bc hbox 2; clear hb hbox hg) | ((with_reducible refine gate_dst (N := 10) rfl ?_); refine box_event ?hg (N := 10) ?hd (cs := #[(.int .i64 0), (.int .i64 0), (.slice none 0 0), (.int .i64 0), (.int .i64 0), (.bool false), (.int .i64 0), (.int .i64 0), (.int .i64 0)]) (t := 30) ?hr ?_; (case hd => rfl); (case hg => rfl); (case hr => first | (go_simp; done) | (go_simp; rfl)); intro gv hg ws hbox hb; have BV := am hbox; have GV : Aside0 (w.heap.size ≤ gv) := ⟨by rw [hg]; exact HB.out.size⟩; replace BK := am (blk_below BK.out hb); replace HB := am (below_step HB.out hb); clear hb0 hb1 hb2; have hb0 := bc BK.out 0; have hb1 := bc BK.out 1; have hb2 := bc BK.out 2; have hs0 := bc BV.out 0; have hs1 := bc BV.out 1; have hs2 := bc BV.out 2; have hs3 := bc BV.out 3; have hs4 := bc BV.out 4; have hs5 := bc BV.out 5; have hs6 := bc BV.out 6; have hs7 := bc BV.out 7; have hs8 := bc BV.out 8; have hsf0 := blk_frozen BV.out 0; have hsf1 := blk_frozen BV.out 1; have hsf2 := blk_frozen BV.out 2; have hsf3 := blk_frozen BV.out 3; have hsf4 := blk_frozen BV.out 4; have hsf5 := blk_frozen BV.out 5; have hsf6 := blk_frozen BV.out 6; have hsf7 := blk_frozen BV.out 7; have hsf8 := blk_frozen BV.out 8; clear hb hbox hg) | (go_at_call 40; refine (spec_PointsRight.calls k A0 c0 l0 true _ (by first | exact Kd.C_below HR0.out HB.out | exact Kd.C_below HR0.out (pw_below_drewN HB.out _)) HC0.out A4.out).mono ?_; rintro e w5 ⟨rfl, hd_⟩; have hb := Drawn0.below hd_; clear hd_; replace BK := am (blk_below BK.out hb); replace BV := am (blk_below BV.out hb); replace HB := am (below_step HB.out hb); clear hb0 hb1 hb2 hs0 hs1 hs2 hs3 hs4 hs5 hs6 hs7 hs8 hsf0 hsf1 hsf2 hsf3 hsf4 hsf5 hsf6 hsf7 hsf8; have hb0 := bc BK.out 0; have hb1 := bc BK.out 1; have hb2 := bc BK.out 2; have hs0 := bc BV.out 0; have hs1 := bc BV.out 1; have hs2 := bc BV.out 2; have hs3 := bc BV.out 3; have hs4 := bc BV.out 4; have hs5 := bc BV.out 5; have hs6 := bc BV.out 6; have hs7 := bc BV.out 7; have hs8 := bc BV.out 8; have hsf0 := blk_frozen BV.out 0; have hsf1 := blk_frozen BV.out 1; have hsf2 := blk_frozen BV.out 2; have hsf3 := blk_frozen BV.out 3; have hsf4 := blk_frozen BV.out 4; have hsf5 := blk_frozen BV.out 5; have hsf6 := blk_frozen BV.out 6; have hsf7 := blk_frozen BV.out 7; have hsf8 := blk_frozen BV.out 8; clear hb) | (go_at_call 41; refine (spec_BufRight.calls k A1 c1 l1 a1 a2 true _ (by first | exact Kd.C_below HR1.out HB.out | exact Kd.C_below HR1.out (pw_below_drewN HB.out _)) HC1.out A5.out).mono ?_; rintro e w6 ⟨rfl, hb⟩; replace BK := am (blk_below BK.out hb); replace BV := am (blk_below BV.out hb); replace HB := am (below_step HB.out hb); clear hb0 hb1 hb2 hs0 hs1 hs2 hs3 hs4 hs5 hs6 hs7 hs8 hsf0 hsf1 hsf2 hsf3 hsf4 hsf5 hsf6 hsf7 hsf8; have hb0 := bc BK.out 0; have hb1 := bc BK.out 1; have hb2 := bc BK.out 2; have hs0 := bc BV.out 0; have hs1 := bc BV.out 1; have hs2 := bc BV.out 2; have hs3 := bc BV.out 3; have hs4 := bc BV.out 4; have hs5 := bc BV.out 5; have hs6 := bc BV.out 6; have hs7 := bc BV.out 7; have hs8 := bc BV.out 8; have hsf0 := blk_frozen BV.out 0; have hsf1 := blk_frozen BV.out 1; have hsf2 := blk_frozen BV.out 2; have hsf3 := blk_frozen BV.out 3; have hsf4 := blk_frozen BV.out 4; have hsf5 := blk_frozen BV.out 5; have hsf6 := blk_frozen BV.out 6; have hsf7 := blk_frozen BV.out 7; have hsf8 := blk_frozen BV.out 8; clear hb) | (go_at_call 42; refine (spec_l08Size.calls rows cols false _ A6.out).mono ?_; rintro e w7 ⟨rfl, hd_⟩; have hb := Drawn0.below hd_; clear hd_; replace BK := am (blk_below BK.out hb); replace BV := am (blk_below BV.out hb); replace HB := am (below_step HB.out hb); clear hb0 hb1 hb2 hs0 hs1 hs2 hs3 hs4 hs5 hs6 hs7 hs8 hsf0 hsf1 hsf2 hsf3 hsf4 hsf5 hsf6 hsf7 hsf8; have hb0 := bc BK.out 0; have hb1 := bc BK.out 1; have hb2 := bc BK.out 2; have hs0 := bc BV.out 0; have hs1 := bc BV.out 1; have hs2 := bc BV.out 2; have hs3 := bc BV.out 3; have hs4 := bc BV.out 4; have hs5 := bc BV.out 5; have hs6 := bc BV.out 6; have hs7 := bc BV.out 7; have hs8 := bc BV.out 8; have hsf0 := blk_frozen BV.out 0; have hsf1 := blk_frozen BV.out 1; have hsf2 := blk_frozen BV.out 2; have hsf3 := blk_frozen BV.out 3; have hsf4 := blk_frozen BV.out 4; have hsf5 := blk_frozen BV.out 5; have hsf6 := blk_frozen BV.out 6; have hsf7 := blk_frozen BV.out 7; have hsf8 := blk_frozen BV.out 8; clear hb) | ((with_reducible refine gate_store (t := 30) (p := 10) rfl ?_); refine store_event (t := 30) (p := 10) (v := .tmp 35) (w1 := (((((((((w7.setCell ⟨gv, 0, none⟩ (.int .i64 0)).setCell ⟨gv, 1, none⟩ (.int .i64 0)).setCell ⟨gv, 2, none⟩ (.slice none 0 0)).setCell ⟨gv, 3, none⟩ (.int .i64 0)).setCell ⟨gv, 4, none⟩ (.int .i64 0)).setCell ⟨gv, 5, none⟩ (.bool false)).setCell ⟨gv, 6, none⟩ (.int .i64 0)).setCell ⟨gv, 7, none⟩ (.int .i64 0)).setCell ⟨gv, 8, none⟩ (.int .i64 1))) ?hg ?ho ?hn ?hr ?_; (case ho => rfl); (case hg => rfl); (case hn => rfl); (case hr => first | (go_simp; done) | (go_simp; rfl)); intro w9 hw; have BV9 : Aside0 (w9.heap[gv]? = some (.cells #[(.int .i64 0), (.int .i64 0), (.slice none 0 0), (.int .i64 0), (.int .i64 0), (.bool false), (.int .i64 0), (.int .i64 0), (.int .i64 1)] 30 (0, 0))) := ⟨by rw [hw]; exact (blk_put (cs := #[(.int .i64 0), (.int .i64 0), (.slice none 0 0), (.int .i64 0), (.int .i64 0), (.bool false), (.int .i64 0), (.int .i64 0), (.int .i64 0)]) (blk_put (cs := #[(.int .i64 0), (.int .i64 0), (.slice none 0 0), (.int .i64 0), (.int .i64 0), (.bool false), (.int .i64 0), (.int .i64 0), (.int .i64 0)]) (blk_put (cs := #[(.int .i64 0), (.int .i64 0), (.slice none 0 0), (.int .i64 0), (.int .i64 0), (.bool false), (.int .i64 0), (.int .i64 0), (.int .i64 0)]) (blk_put (cs := #[(.int .i64 0), (.int .i64 0), (.slice none 0 0), (.int .i64 0), (.int .i64 0), (.bool false), (.int .i64 0), (.int .i64 0), (.int .i64 0)]) (blk_put (cs := #[(.int .i64 0), (.int .i64 0), (.slice none 0 0), (.int .i64 0), (.int .i64 0), (.bool false), (.int .i64 0), (.int .i64 0), (.int .i64 0)]) (blk_put (cs := #[(.int .i64 0), (.int .i64 0), (.slice none 0 0), (.int .i64 0), (.int .i64 0), (.bool false), (.int .i64 0), (.int .i64 0), (.int .i64 0)]) (blk_put (cs := #[(.int .i64 0), (.int .i64 0), (.slice none 0 0), (.int .i64 0), (.int .i64 0), (.bool false), (.int .i64 0), (.int .i64 0), (.int .i64 0)]) (blk_put (cs := #[(.int .i64 0), (.int .i64 0), (.slice none 0 0), (.int .i64 0), (.int .i64 0), (.bool false), (.int .i64 0), (.int .i64 0), (.int .i64 0)]) (blk_put (cs := #[(.int .i64 0), (.int .i64 0), (.slice none 0 0), (.int .i64 0), (.int .i64 0), (.bool false), (.int .i64 0), (.int .i64 0), (.int .i64 0)]) BV.out 0 _ rfl) 1 _ rfl) 2 _ rfl) 3 _ rfl) 4 _ rfl) 5 _ rfl) 6 _ rfl) 7 _ rfl) 8 _ rfl)⟩; have HB9 : Aside0 (Below w.heap.size w w9) := ⟨by rw [hw]; exact below_set (below_set (below_set (below_set (below_set (below_set (below_set (below_set (below_set HB.out GV.out) GV.out) GV.out) GV.out) GV.out) GV.out) GV.out) GV.out) GV.out⟩; clear hw))
      refine bodyPost_ret (results_cell_row rfl _ _ gv 30 #[(.int .i64 0), (.int .i64 0), (.slice none 0 0), (.int .i64 0), (.int .i64 0), (.bool false), (.int .i64 0), (.int .i64 0), (.int .i64 1)] (0, 0) _ rfl (by (with_reducible repeat (first | refine blk_drewN ?_ _ | refine blk_drew ?_)); exact BV9.out) Try.underlying30 rfl (by kernel_rfl)) rfl ?_
      exact ⟨_, by first | rfl | (simp; done), Kd.R_nil _ _ _ _ _, by repeat (first | exact HB9.out | apply pw_below_drewN | apply below_drew1)⟩
     | true =>
      rw [if_pos rfl] at h
      obtain ⟨⟨rws, col_, sp_⟩, A70, h⟩ := Option.bind_eq_some_iff.mp h
      have A7 := am A70
      clear A70
      dsimp only at h
      obtain ⟨s1, hs1⟩ : ∃ s, s = (rd_T45 sp_ a1).f0 := ⟨_, rfl⟩
      obtain ⟨s2, hs2⟩ : ∃ s, s = (rd_T45 sp_ a1).f1 := ⟨_, rfl⟩
      obtain ⟨x56, hx56⟩ : ∃ x, wrap64 (wrap64 (s1 - rows) + 1) = x := ⟨_, rfl⟩
      rw [← hs1, ← hs2, hx56] at h
      have HS1 := am hs1
      have HS2 := am hs2
      clear hs1 hs2
      by_cases d1 : 0 ≤ a1
      rotate_left
      · rw [if_neg d1] at h; cases h
      rw [if_pos d1] at h
      by_cases d2 : a1 < (sp_.length : Int)
      rotate_left
      · rw [if_neg d2] at h; cases h
      rw [if_pos d2] at h
      have HD1 := am d1
      have HD2 := am d2
      have u1 := eq_true d1
      have u2 := eq_true d2
      clear d1 d2
      obtain ⟨⟨g1, g2, g3, g4, g5, g6, g7⟩, A80, h⟩ := Option.bind_eq_some_iff.mp h
      obtain ⟨top, A90, h⟩ := Option.bind_eq_some_iff.mp h
      obtain ⟨G', AA0, h⟩ := Option.bind_eq_some_iff.mp h
      have A8 := am A80
      have A9 := am A90
      have AA := am AA0
      clear A80 A90 AA0
      simp only [Option.some.injEq, Prod.mk.injEq] at h
      obtain ⟨rfl, rfl, rfl, rfl, rfl, rfl, rfl, rfl, rfl⟩ := h
      go_enter Try.func10, Try.ntmps10
      go_wp2_with (first | ((with_reducible refine gate_dst (N := 6) rfl ?_); refine box_event ?hg (N := 6) ?hd (cs := #[(.slice A1 l1.length c1), (.int .i64 a1), (.int .i64 a2)]) (t := 33) ?hr ?_; (case hd => rfl); (case hg => rfl); (case hr => first | (go_simp; done) | (go_simp; rfl)); intro gb hg wb hbox hb; have BK := am hbox; replace HB := am (below_step HB.out hb); have hb0 := bc hbox 0; have hb1 := bc hbox 1; have hb2 := bc hbox 2; clear hb hbox hg) | ((with_reducible refine gate_dst (N := 10) rfl ?_); refine box_event ?hg (N := 10) ?hd (cs := #[(.int .i64 0), (.int .i64 0), (.slice none 0 0), (.int .i64 0), (.int .i64 0), (.bool false), (.int .i64 0), (.int .i64 0), (.int .i64 0)]) (t := 30) ?hr ?_; (case hd => rfl); (case hg => rfl); (case hr => first | (go_simp; done) | (go_simp; rfl)); intro gv hg ws hbox hb; have BV := am hbox; have GV : Aside0 (w.heap.size ≤ gv) := ⟨by rw [hg]; exact HB.out.size⟩; replace BK := am (blk_below BK.out hb); replace HB := am (below_step HB.out hb); clear hb0 hb1 hb2; have hb0 := bc BK.out 0; have hb1 := bc BK.out 1; have hb2 := bc BK.out 2; have hs0 := bc BV.out 0; have hs1 := bc BV.out 1; have hs2 := bc BV.out 2; have hs3 := bc BV.out 3; have hs4 := bc BV.out 4; have hs5 := bc BV.out 5; have hs6 := bc BV.out 6; have hs7 := bc BV.out 7; have hs8 := bc BV.out 8; have hsf0 := blk_frozen BV.out 0; have hsf1 := blk_frozen BV.out 1; have hsf2 := blk_frozen BV.out 2; have hsf3 := blk_frozen BV.out 3; have hsf4 := blk_frozen BV.out 4; have hsf5 := blk_frozen BV.out 5; have hsf6 := blk_frozen BV.out 6; have hsf7 := blk_frozen BV.out 7; have hsf8 := blk_frozen BV.out 8; clear hb hbox hg) | (go_at_call 40; refine (spec_PointsRight.calls k A0 c0 l0 true _ (by first | exact Kd.C_below HR0.out HB.out | exact Kd.C_below HR0.out (pw_below_drewN HB.out _)) HC0.out A4.out).mono ?_; rintro e w5 ⟨rfl, hd_⟩; have hb := Drawn0.below hd_; clear hd_; replace BK := am (blk_below BK.out hb); replace BV := am (blk_below BV.out hb); replace HB := am (below_step HB.out hb); clear hb0 hb1 hb2 hs0 hs1 hs2 hs3 hs4 hs5 hs6 hs7 hs8 hsf0 hsf1 hsf2 hsf3 hsf4 hsf5 hsf6 hsf7 hsf8; have hb0 := bc BK.out 0; have hb1 := bc BK.out 1; have hb2 := bc BK.out 2; have hs0 := bc BV.out 0; have hs1 := bc BV.out 1; have hs2 := bc BV.out 2; have hs3 := bc BV.out 3; have hs4 := bc BV.out 4; have hs5 := bc BV.out 5; have hs6 := bc BV.out 6; have hs7 := bc BV.out 7; have hs8 := bc BV.out 8; have hsf0 := blk_frozen BV.out 0; have hsf1 := blk_frozen BV.out 1; have hsf2 := blk_frozen BV.out 2; have hsf3 := blk_frozen BV.out 3; have hsf4 := blk_frozen BV.out 4; have hsf5 := blk_frozen BV.out 5; have hsf6 := blk_frozen BV.out 6; have hsf7 := blk_frozen BV.out 7; have hsf8 := blk_frozen BV.out 8; clear hb) | (go_at_call 41; refine (spec_BufRight.calls k A1 c1 l1 a1 a2 true _ (by first | exact Kd.C_below HR1.out HB.out | exact Kd.C_below HR1.out (pw_below_drewN HB.out _)) HC1.out A5.out).mono ?_; rintro e w6 ⟨rfl, hb⟩; replace BK := am (blk_below BK.out hb); replace BV := am (blk_below BV.out hb); replace HB := am (below_step HB.out hb); clear hb0 hb1 hb2 hs0 hs1 hs2 hs3 hs4 hs5 hs6 hs7 hs8 hsf0 hsf1 hsf2 hsf3 hsf4 hsf5 hsf6 hsf7 hsf8; have hb0 := bc BK.out 0; have hb1 := bc BK.out 1; have hb2 := bc BK.out 2; have hs0 := bc BV.out 0; have hs1 := bc BV.out 1; have hs2 := bc BV.out 2; have hs3 := bc BV.out 3; have hs4 := bc BV.out 4; have hs5 := bc BV.out 5; have hs6 := bc BV.out 6; have hs7 := bc BV.out 7; have hs8 := bc BV.out 8; have hsf0 := blk_frozen BV.out 0; have hsf1 := blk_frozen BV.out 1; have hsf2 := blk_frozen BV.out 2; have hsf3 := blk_frozen BV.out 3; have hsf4 := blk_frozen BV.out 4; have hsf5 := blk_frozen BV.out 5; have hsf6 := blk_frozen BV.out 6; have hsf7 := blk_frozen BV.out 7; have hsf8 := blk_frozen BV.out 8; clear hb) | (go_at_call 42; refine (spec_l08Size.calls rows cols true _ A6.out).mono ?_; rintro e w7 ⟨rfl, hd_⟩; have hb := Drawn0.below hd_; clear hd_; replace BK := am (blk_below BK.out hb); replace BV := am (blk_below BV.out hb); replace HB := am (below_step HB.out hb); clear hb0 hb1 hb2 hs0 hs1 hs2 hs3 hs4 hs5 hs6 hs7 hs8 hsf0 hsf1 hsf2 hsf3 hsf4 hsf5 hsf6 hsf7 hsf8; have hb0 := bc BK.out 0; have hb1 := bc BK.out 1; have hb2 := bc BK.out 2; have hs0 := bc BV.out 0; have hs1 := bc BV.out 1; have hs2 := bc BV.out 2; have hs3 := bc BV.out 3; have hs4 := bc BV.out 4; have hs5 := bc BV.out 5; have hs6 := bc BV.out 6; have hs7 := bc BV.out 7; have hs8 := bc BV.out 8; have hsf0 := blk_frozen BV.out 0; have hsf1 := blk_frozen BV.out 1; have hsf2 := blk_frozen BV.out 2; have hsf3 := blk_frozen BV.out 3; have hsf4 := blk_frozen BV.out 4; have hsf5 := blk_frozen BV.out 5; have hsf6 := blk_frozen BV.out 6; have hsf7 := blk_frozen BV.out 7; have hsf8 := blk_frozen BV.out 8; clear hb) | (go_at_call 43; refine (spec_lay.calls k A0 c0 l0 A1 c1 l1 a1 a2 region cols rws col_ sp_ _ (by first | exact Kd.C_below HR0.out HB.out | exact Kd.C_below HR0.out (pw_below_drewN HB.out _)) HC0.out (by first | exact Kd.C_below HR1.out HB.out | exact Kd.C_below HR1.out (pw_below_drewN HB.out _)) HC1.out A7.out).mono ?_; rintro e w8 ⟨g, v, rfl, hi, h3, hb⟩; obtain ⟨_, vr, h1, h2⟩ := PS_lower hi HB.out.size; obtain ⟨Av, cv, ev⟩ := Kd.R_slice h3; subst ev; obtain ⟨Ar, cr, er⟩ := Kd.S_slice h2; subst er; have HN0 : Aside0 (w.heap.size ≤ w8.heap.size) := ⟨Nat.le_trans HB.out.size hb.size⟩; replace BK := am (blk_below BK.out hb); replace BV := am (blk_below BV.out hb); have HGV : Aside0 (gv < w8.heap.size) := ⟨blk_lt BV.out⟩; have HGP : Aside0 (g < w8.heap.size) := ⟨blk_lt h1⟩; have HSp := am (Kd.R_lower h3 HB.out.size); replace HB := am (below_step HB.out hb); have BP := am h1; have HPn := am (Kd.S_mono (ok' := fun k => k < w8.heap.size) (Kd.S_bound h2) (fun k h_ => h_.2.2.1)); have HBN := am (Below.refl w8.heap.size w8); clear hb1; have hb1 := bc BK.out 1; obtain ⟨ad, ead, e0, e1⟩ := at_T45 (Kd.R_reads' HSp.out).2.2 a1 HD1.out HD2.out; subst ead; rw [← HS1.out] at e0; rw [← HS2.out] at e1; clear hb0 hb2 hs0 hs1 hs2 hs3 hs4 hs5 hs6 hs7 hs8 hsf0 hsf1 hsf2 hsf3 hsf4 hsf5 hsf6 hsf7 hsf8 hi h1 h2 h3 hb HSp) | ((with_reducible refine gate_dst (N := 13) rfl ?_); refine box_event ?hg (N := 13) ?hd (cs := #[(.int .i64 0), (.int .i64 0)]) (t := 45) ?hr ?_; (case hd => rfl); (case hg => rfl); (case hr => first | (go_simp; done) | (go_simp; rfl)); intro g13 hg w9 hbox hb; have B13 := am hbox; have G13 : Aside0 (w8.heap.size ≤ g13) := ⟨by rw [hg]; exact HBN.out.size⟩; replace BV := am (blk_below BV.out hb); replace BP := am (blk_below BP.out hb); replace HPn := am (Kd.S_below HPn.out hb); replace HB := am (below_step HB.out hb); replace HBN := am (below_step HBN.out hb); have hq0 := bc B13.out 0; have hq1 := bc B13.out 1; have hqf0 := blk_frozen B13.out 0; have hqf1 := blk_frozen B13.out 1; clear hb hbox hg hb1 e0 e1) | ((with_reducible refine gate_store (t := 45) (p := 13) rfl ?_); refine store_event (t := 45) (p := 13) (v := .tmp 48) (w1 := ((w9.setCell ⟨g13, 0, none⟩ (.int .i64 s1)).setCell ⟨g13, 1, none⟩ (.int .i64 s2))) ?hg ?ho ?hn ?hr ?_; (case ho => rfl); (case hg => rfl); (case hn => rfl); (case hr => first | (go_simp; done) | (go_simp; rfl)); intro w10 hw; have hk_ : KeepBut w9 w10 g13 none := (by rw [hw]; exact (KeepBut.set_ (KeepBut.set_ (KeepBut.refl _ _ _) 0 (.int .i64 s1)) 1 (.int .i64 s2))); have B13n : Aside0 (w10.heap[g13]? = some (.cells #[(.int .i64 s1), (.int .i64 s2)] 45 (0, 0))) := ⟨(by rw [hw]; exact (blk_put (cs := #[(.int .i64 s1), (.int .i64 0)]) (blk_put (cs := #[(.int .i64 0), (.int .i64 0)]) B13.out 0 _ rfl) 1 _ rfl))⟩; replace HB : Aside0 (Below w.heap.size w w10) := ⟨(by rw [hw]; exact below_set (below_set HB.out (Nat.le_trans HN0.out G13.out)) (Nat.le_trans HN0.out G13.out))⟩; replace HBN : Aside0 (Below w8.heap.size w8 w10) := ⟨(by rw [hw]; exact below_set (below_set HBN.out G13.out) G13.out)⟩; replace HPn := am (Kd.S_keep HPn.out hk_ (fun k h_ e_ => by have := G13.out; omega)); replace BV := am (hk_.blk BV.out (blk_ne BV.out B13.out (by decide)) (by simp)); replace BP := am (hk_.blk BP.out (blk_ne BP.out B13.out (by decide)) (by simp)); replace B13 := B13n; clear B13n hw hk_ hq0 hq1 hqf0 hqf1 BK))
      replace BV := am (blk_drew BV.out)
      replace BP := am (blk_drew BP.out)
      replace HPn := am (Kd.S_drew HPn.out)
      replace B13 := am (blk_drew B13.out)
      replace HB := am (below_drew1 HB.out)
      replace HBN := am (below_drew1 HBN.out)
      refine start_ (n := 12) (S := fun w' => w'.cell? ⟨g13, 0, none⟩ = some (.int .i64 s1) ∧ True) (ds := []) vp7.a0 (by kernel_rfl) rfl rfl ⟨bc B13.out 0, trivial⟩ (fun hHeld => ?_); refine with_tabW vp7.tab vp7.bits (fun HT_ HW_ => ?_)
      generalize w10.drew = w11 at BV BP HPn B13 HB HBN hHeld ⊢
      have HBN11 : Aside0 (w8.heap.size ≤ w11.heap.size) := ⟨HBN.out.size⟩
      refine pu_ 0 (some 49) ?_ vp7.a1 rfl rfl HT_.out (by kernel_rfl) (fun _ _ _ h => h) (Or.inl ⟨by rfl, ?_⟩) ?_ ?_ ?_; rotate_left
      ·intro w'; go_simp; with_reducible rfl
      rotate_left
      ·simp only [Act.put, sa_, s0_, ss_, i64_w, i32_w]; rfl
      refine pu_ 1 (some 50) ?_ vp7.a2 rfl rfl HT_.out (by kernel_rfl) (fun _ _ _ h => h) (Or.inl ⟨by rfl, ?_⟩) ?_ ?_ ?_; rotate_left
      ·intro w'; go_simp; with_reducible rfl
      rotate_left
      ·simp only [Act.put, sa_, s0_, ss_, i64_w, i32_w]; rfl
      refine pu_ 3 (some 52) ?_ vp7.a3 rfl rfl HT_.out (by kernel_rfl) (fun _ _ _ h => h) (Or.inl ⟨by rfl, ?_⟩) ?_ ?_ ?_; rotate_left
      ·intro w'; go_simp; with_reducible rfl
      rotate_left
      ·simp only [Act.put, sa_, s0_, ss_, i64_w, i32_w]; rfl
      refine pu_ 5 (some 54) ?_ vp7.a4 rfl rfl HT_.out (by kernel_rfl) (fun _ _ _ h => h) (Or.inl ⟨by rfl, ?_⟩) ?_ ?_ ?_; rotate_left
      ·intro w'; go_simp; with_reducible rfl
      rotate_left
      ·simp only [Act.put, sa_, s0_, ss_, i64_w, i32_w]; rfl
      refine tk_ 4 (some 53) ?_ vp7.a5 rfl rfl HT_.out HW_.out (by kernel_rfl) (fun _ _ _ h => h) (Or.inl ⟨by rfl, ?_⟩) hHeld ?_ ?_ ?_; rotate_left
      ·rintro w' ⟨t0, _⟩; go_simp; with_reducible rfl
      rotate_left
      ·simp only [Act.put, sa_, s0_, ss_, i64_w, i32_w]; rfl
      refine pu_ 6 (some 55) ?_ vp7.a6 rfl rfl HT_.out (by kernel_rfl) (fun _ _ _ h => h) (Or.inl ⟨by rfl, ?_⟩) ?_ ?_ ?_; rotate_left
      ·intro w'; go_simp; with_reducible rfl
      rotate_left
      ·simp only [Act.put, sa_, s0_, ss_, i64_w, i32_w]; rfl
      refine pu_ 7 (some 56) ?_ vp7.a7 rfl rfl HT_.out (by kernel_rfl) (fun _ _ _ h => h) (Or.inl ⟨by rfl, ?_⟩) ?_ ?_ ?_; rotate_left
      ·intro w'; go_simp; with_reducible rfl
      rotate_left
      ·simp only [Act.put, sa_, s0_, ss_, i64_w, i32_w]; rfl
      refine join_ (σ := Nat × Value) 1 vp7.a8 (fun s_ => [(51, .agg #[.int .i64 g1, .int .i64 g2, s_.2, .int .i64 g4, .int .i64 g5, .bool g6, .int .i64 g7]), (57, .int .i64 top), (58, .agg #[.int .i64 g1, .int .i64 g2, s_.2, .int .i64 g4, .int .i64 g5, .bool g6, .int .i64 g7, .int .i64 top, .int .i64 0]), (14, .pointer (some ⟨s_.1, 0, none⟩))]) (fun s_ w' => (w'.cell? ⟨g13, 0, none⟩ = some (.int .i64 s1) ∧ True) ∧ Below w11.heap.size w11 w' ∧ w'.heap[s_.1]? = some (.cells #[(.int .i64 0), (.int .i64 0), (.slice none 0 0), (.int .i64 0), (.int .i64 0), (.bool false), (.int .i64 0), (.int .i64 0), (.int .i64 0)] 30 (0, 0)) ∧ w11.heap.size ≤ s_.1 ∧ Kd.R k75 75 w' w11.heap.size (fun _ => True) s_.2 g3) ?_ ?_
      rotate_left
      ·intro hCont
       have HBJ := am (Below.refl w11.heap.size w11)
       refine two_ (i := 2) (j := 10) (Ni := some 51) (Nj := some 14) vp7.a12 vp7.a13 rfl rfl rfl rfl (two_of HT_.out (by kernel_rfl)) (by decide) (by decide) (fun K hK => ?_) (fun K hK => ?_)
       ·skip
        refine goes_ Try.func44 (by kernel_rfl) rfl #[.int .i64 rows, .int .i64 cols] (by rfl) rfl rfl (by (try simp only [List.map_toArray, List.map_cons, List.map_nil]); first | done | rfl) ?_
        with_reducible refine (spec_GridNew.calls rows cols g1 g2 g3 g4 g5 g6 g7 _ A8.out).mono ?_
        rintro e wG ⟨vG, rfl, hG, hb⟩
        refine ⟨_, rfl, ?_⟩
        have HG := am (Kd.R_lower (Kd.S_R hG) HBJ.out.size)
        replace B13 := am (blk_below B13.out hb)
        replace HBJ := am (below_step HBJ.out hb)
        clear hG hb
        refine hK.out _ _ ⟨bc B13.out 0, trivial⟩ (fun hHeld => ?_)
        clear hK K
        refine norm_ (a' := ?_) ?_ ?_
        rotate_left
        ·show Act.put _ (some 51) _ = _
         simp only [Act.put, sa_, s0_, ss_, i64_w, i32_w]
         rfl
        refine two_ (i := 8) (j := 10) (Ni := some 57) (Nj := some 14) vp7.a14 vp7.a11 rfl rfl rfl rfl (two_of HT_.out (by kernel_rfl)) (by decide) (by decide) (fun K hK => ?_) (fun K hK => ?_)
        ·skip
         refine goes_ Try.func45 (by kernel_rfl) rfl #[.int .i64 0, .int .i64 x56] (by rfl) rfl rfl (by (try simp only [List.map_toArray, List.map_cons, List.map_nil]); first | done | rfl | (simp only [Act.eval, hx56]; done) | (simp [Act.eval, hx56]; done)) ?_
         with_reducible refine (spec_l01Max.calls 0 x56 top _ A9.out).mono ?_
         rintro e wM ⟨rfl, hd_⟩
         have hb := Drawn0.below hd_
         refine ⟨_, rfl, ?_⟩
         replace HG := am (Kd.R_below HG.out hb)
         replace B13 := am (blk_below B13.out hb)
         replace HBJ := am (below_step HBJ.out hb)
         clear hb hd_
         refine hK.out _ _ ⟨bc B13.out 0, trivial⟩ (fun hHeld => ?_)
         clear hK K
         refine norm_ (a' := ?_) ?_ ?_
         rotate_left
         ·show Act.put _ (some 57) _ = _
          simp only [Act.put, sa_, s0_, ss_, i64_w, i32_w]
          rfl
         refine pu_ 9 (some 58) ?_ vp7.a9 rfl rfl HT_.out (by kernel_rfl) (fun _ _ _ h => h) (Or.inl ⟨by rfl, ?_⟩) ?_ ?_ ?_; rotate_left
         ·intro w'; go_simp; with_reducible rfl
         rotate_left
         ·simp only [Act.put, sa_, s0_, ss_, i64_w, i32_w]; rfl
         refine one_ (i := 10) (N := some 14) vp7.a8 rfl rfl (one_of HT_.out (by kernel_rfl)) (by decide) (fun K hK => ?_)
         refine box_step ?hg (N := 14) ?hd (cs := #[(.int .i64 0), (.int .i64 0), (.slice none 0 0), (.int .i64 0), (.int .i64 0), (.bool false), (.int .i64 0), (.int .i64 0), (.int .i64 0)]) (t := 30) ?hr ?_; (case hd => rfl); (case hg => rfl); (case hr => first | (go_simp; done) | (go_simp; rfl))
         intro gX hg wX hbox hb
         have BX := am hbox
         have GX : Aside0 (w11.heap.size ≤ gX) := ⟨by rw [hg]; exact HBJ.out.size⟩
         replace HG := am (Kd.R_below HG.out hb)
         replace B13 := am (blk_below B13.out hb)
         replace HBJ := am (below_step HBJ.out hb)
         clear hb hbox hg
         refine hK.out _ _ ⟨bc B13.out 0, trivial⟩ (fun hHeld => ?_)
         clear hK K
         refine norm_ (a' := ?_) ?_ ?_
         rotate_left
         ·show Act.put _ (some 14) _ = _
          simp only [Act.put, sa_, s0_, ss_, i64_w, i32_w]
          rfl
         exact norm_ (by simp only [putAll, Act.put, sa_, s0_, ss_]) (hCont (gX, vG) _ ⟨hHeld, HBJ.out, BX.out, GX.out, HG.out⟩)
        ·skip
         refine box_step ?hg (N := 14) ?hd (cs := #[(.int .i64 0), (.int .i64 0), (.slice none 0 0), (.int .i64 0), (.int .i64 0), (.bool false), (.int .i64 0), (.int .i64 0), (.int .i64 0)]) (t := 30) ?hr ?_; (case hd => rfl); (case hg => rfl); (case hr => first | (go_simp; done) | (go_simp; rfl))
         intro gX hg wX hbox hb
         have BX := am hbox
         have GX : Aside0 (w11.heap.size ≤ gX) := ⟨by rw [hg]; exact HBJ.out.size⟩
         replace HG := am (Kd.R_below HG.out hb)
         replace B13 := am (blk_below B13.out hb)
         replace HBJ := am (below_step HBJ.out hb)
         clear hb hbox hg
         refine hK.out _ _ ⟨bc B13.out 0, trivial⟩ (fun hHeld => ?_)
         clear hK K
         refine norm_ (a' := ?_) ?_ ?_
         rotate_left
         ·show Act.put _ (some 14) _ = _
          simp only [Act.put, sa_, s0_, ss_, i64_w, i32_w]
          rfl
         refine one_ (i := 8) (N := some 57) vp7.a10 rfl rfl (one_of HT_.out (by kernel_rfl)) (by decide) (fun K hK => ?_)
         refine goes_ Try.func45 (by kernel_rfl) rfl #[.int .i64 0, .int .i64 x56] (by rfl) rfl rfl (by (try simp only [List.map_toArray, List.map_cons, List.map_nil]); first | done | rfl | (simp only [Act.eval, hx56]; done) | (simp [Act.eval, hx56]; done)) ?_
         with_reducible refine (spec_l01Max.calls 0 x56 top _ A9.out).mono ?_
         rintro e wM ⟨rfl, hd_⟩
         have hb := Drawn0.below hd_
         refine ⟨_, rfl, ?_⟩
         replace HG := am (Kd.R_below HG.out hb)
         replace BX := am (blk_below BX.out hb)
         replace B13 := am (blk_below B13.out hb)
         replace HBJ := am (below_step HBJ.out hb)
         clear hb hd_
         refine hK.out _ _ ⟨bc B13.out 0, trivial⟩ (fun hHeld => ?_)
         clear hK K
         refine norm_ (a' := ?_) ?_ ?_
         rotate_left
         ·show Act.put _ (some 57) _ = _
          simp only [Act.put, sa_, s0_, ss_, i64_w, i32_w]
          rfl
         refine pu_ 9 (some 58) ?_ vp7.a8 rfl rfl HT_.out (by kernel_rfl) (fun _ _ _ h => h) (Or.inl ⟨by rfl, ?_⟩) ?_ ?_ ?_; rotate_left
         ·intro w'; go_simp; with_reducible rfl
         rotate_left
         ·simp only [Act.put, sa_, s0_, ss_, i64_w, i32_w]; rfl
         exact norm_ (by simp only [putAll, Act.put, sa_, s0_, ss_]) (hCont (gX, vG) _ ⟨hHeld, HBJ.out, BX.out, GX.out, HG.out⟩)
       ·skip
        refine box_step ?hg (N := 14) ?hd (cs := #[(.int .i64 0), (.int .i64 0), (.slice none 0 0), (.int .i64 0), (.int .i64 0), (.bool false), (.int .i64 0), (.int .i64 0), (.int .i64 0)]) (t := 30) ?hr ?_; (case hd => rfl); (case hg => rfl); (case hr => first | (go_simp; done) | (go_simp; rfl))
        intro gX hg wX hbox hb
        have BX := am hbox
        have GX : Aside0 (w11.heap.size ≤ gX) := ⟨by rw [hg]; exact HBJ.out.size⟩
        replace B13 := am (blk_below B13.out hb)
        replace HBJ := am (below_step HBJ.out hb)
        clear hb hbox hg
        refine hK.out _ _ ⟨bc B13.out 0, trivial⟩ (fun hHeld => ?_)
        clear hK K
        refine norm_ (a' := ?_) ?_ ?_
        rotate_left
        ·show Act.put _ (some 14) _ = _
         simp only [Act.put, sa_, s0_, ss_, i64_w, i32_w]
         rfl
        refine one_ (i := 2) (N := some 51) vp7.a11 rfl rfl (one_of HT_.out (by kernel_rfl)) (by decide) (fun K hK => ?_)
        refine goes_ Try.func44 (by kernel_rfl) rfl #[.int .i64 rows, .int .i64 cols] (by rfl) rfl rfl (by (try simp only [List.map_toArray, List.map_cons, List.map_nil]); first | done | rfl) ?_
        with_reducible refine (spec_GridNew.calls rows cols g1 g2 g3 g4 g5 g6 g7 _ A8.out).mono ?_
        rintro e wG ⟨vG, rfl, hG, hb⟩
        refine ⟨_, rfl, ?_⟩
        have HG := am (Kd.R_lower (Kd.S_R hG) HBJ.out.size)
        replace BX := am (blk_below BX.out hb)
        replace B13 := am (blk_below B13.out hb)
        replace HBJ := am (below_step HBJ.out hb)
        clear hG hb
        refine hK.out _ _ ⟨bc B13.out 0, trivial⟩ (fun hHeld => ?_)
        clear hK K
        refine norm_ (a' := ?_) ?_ ?_
        rotate_left
        ·show Act.put _ (some 51) _ = _
         simp only [Act.put, sa_, s0_, ss_, i64_w, i32_w]
         rfl
        refine one_ (i := 8) (N := some 57) vp7.a10 rfl rfl (one_of HT_.out (by kernel_rfl)) (by decide) (fun K hK => ?_)
        refine goes_ Try.func45 (by kernel_rfl) rfl #[.int .i64 0, .int .i64 x56] (by rfl) rfl rfl (by (try simp only [List.map_toArray, List.map_cons, List.map_nil]); first | done | rfl | (simp only [Act.eval, hx56]; done) | (simp [Act.eval, hx56]; done)) ?_
        with_reducible refine (spec_l01Max.calls 0 x56 top _ A9.out).mono ?_
        rintro e wM ⟨rfl, hd_⟩
        have hb := Drawn0.below hd_
        refine ⟨_, rfl, ?_⟩
        replace HG := am (Kd.R_below HG.out hb)
        replace BX := am (blk_below BX.out hb)
        replace B13 := am (blk_below B13.out hb)
        replace HBJ := am (below_step HBJ.out hb)
        clear hb hd_
        refine hK.out _ _ ⟨bc B13.out 0, trivial⟩ (fun hHeld => ?_)
        clear hK K
        refine norm_ (a' := ?_) ?_ ?_
        rotate_left
        ·show Act.put _ (some 57) _ = _
         simp only [Act.put, sa_, s0_, ss_, i64_w, i32_w]
         rfl
        refine pu_ 9 (some 58) ?_ vp7.a8 rfl rfl HT_.out (by kernel_rfl) (fun _ _ _ h => h) (Or.inl ⟨by rfl, ?_⟩) ?_ ?_ ?_; rotate_left
        ·intro w'; go_simp; with_reducible rfl
        rotate_left
        ·simp only [Act.put, sa_, s0_, ss_, i64_w, i32_w]; rfl
        exact norm_ (by simp only [putAll, Act.put, sa_, s0_, ss_]) (hCont (gX, vG) _ ⟨hHeld, HBJ.out, BX.out, GX.out, HG.out⟩)
      rintro ⟨g14, vG⟩ w12 ⟨hHeld, hb, hbox, hg14, hG⟩
      dsimp only at hbox hg14 hG ⊢
      obtain ⟨AG, cG, eG⟩ := Kd.R_slice hG
      subst eG
      have HG := am hG
      have B14 := am hbox
      have G14 : Aside0 (w8.heap.size ≤ g14) := ⟨Nat.le_trans HBN.out.size hg14⟩
      have HFr : Aside0 (∀ k, (Value.slice AG g3.length cG).ownBlock = some k → w8.heap.size ≤ k) := ⟨fun k h_ => Nat.le_trans HBN.out.size (Kd.R_base hG k h_)⟩
      replace B13 := am (blk_below B13.out hb)
      replace BV := am (blk_below BV.out hb); replace BP := am (blk_below BP.out hb); replace HPn := am (Kd.S_below HPn.out hb); replace HB := am (below_step HB.out hb); replace HBN := am (below_step HBN.out hb)
      replace HG := am (Kd.R_lower HG.out (Nat.le_trans HN0.out (show w8.heap.size ≤ w11.heap.size from HBN11.out)))
      clear hb hbox hg14 hG HBN11
      refine norm_ (a' := ?_) ?_ ?_
      rotate_left
      ·simp only [putAll, Act.put, sa_, s0_, ss_, i64_w, i32_w]
       rfl
      refine one_ (i := 11) (N := none) vp7.a15 rfl rfl (one_of HT_.out (by kernel_rfl)) (by decide) (fun K hK => ?_)
      have hq0 := bc B14.out 0
      have hq1 := bc B14.out 1
      have hq2 := bc B14.out 2
      have hq3 := bc B14.out 3
      have hq4 := bc B14.out 4
      have hq5 := bc B14.out 5
      have hq6 := bc B14.out 6
      have hq7 := bc B14.out 7
      have hq8 := bc B14.out 8
      have hqf0 := blk_frozen B14.out 0
      have hqf1 := blk_frozen B14.out 1
      have hqf2 := blk_frozen B14.out 2
      have hqf3 := blk_frozen B14.out 3
      have hqf4 := blk_frozen B14.out 4
      have hqf5 := blk_frozen B14.out 5
      have hqf6 := blk_frozen B14.out 6
      have hqf7 := blk_frozen B14.out 7
      have hqf8 := blk_frozen B14.out 8
      have hk_ : KeepBut w12 (((((((((w12.setCell ⟨g14, 0, none⟩ (.int .i64 g1)).setCell ⟨g14, 1, none⟩ (.int .i64 g2)).setCell ⟨g14, 2, none⟩ (.slice AG g3.length cG)).setCell ⟨g14, 3, none⟩ (.int .i64 g4)).setCell ⟨g14, 4, none⟩ (.int .i64 g5)).setCell ⟨g14, 5, none⟩ (.bool g6)).setCell ⟨g14, 6, none⟩ (.int .i64 g7)).setCell ⟨g14, 7, none⟩ (.int .i64 top)).setCell ⟨g14, 8, none⟩ (.int .i64 0)) g14 none := (KeepBut.set_ (KeepBut.set_ (KeepBut.set_ (KeepBut.set_ (KeepBut.set_ (KeepBut.set_ (KeepBut.set_ (KeepBut.set_ (KeepBut.set_ (KeepBut.refl _ _ _) 0 (.int .i64 g1)) 1 (.int .i64 g2)) 2 (.slice AG g3.length cG)) 3 (.int .i64 g4)) 4 (.int .i64 g5)) 5 (.bool g6)) 6 (.int .i64 g7)) 7 (.int .i64 top)) 8 (.int .i64 0))
      have B14n := am (show ((((((((((w12.setCell ⟨g14, 0, none⟩ (.int .i64 g1)).setCell ⟨g14, 1, none⟩ (.int .i64 g2)).setCell ⟨g14, 2, none⟩ (.slice AG g3.length cG)).setCell ⟨g14, 3, none⟩ (.int .i64 g4)).setCell ⟨g14, 4, none⟩ (.int .i64 g5)).setCell ⟨g14, 5, none⟩ (.bool g6)).setCell ⟨g14, 6, none⟩ (.int .i64 g7)).setCell ⟨g14, 7, none⟩ (.int .i64 top)).setCell ⟨g14, 8, none⟩ (.int .i64 0))).heap[g14]? = some (.cells #[(.int .i64 g1), (.int .i64 g2), (.slice AG g3.length cG), (.int .i64 g4), (.int .i64 g5), (.bool g6), (.int .i64 g7), (.int .i64 top), (.int .i64 0)] 30 (0, 0)) from (blk_put (cs := #[(.int .i64 g1), (.int .i64 g2), (.slice AG g3.length cG), (.int .i64 g4), (.int .i64 g5), (.bool g6), (.int .i64 g7), (.int .i64 top), (.int .i64 0)]) (blk_put (cs := #[(.int .i64 g1), (.int .i64 g2), (.slice AG g3.length cG), (.int .i64 g4), (.int .i64 g5), (.bool g6), (.int .i64 g7), (.int .i64 0), (.int .i64 0)]) (blk_put (cs := #[(.int .i64 g1), (.int .i64 g2), (.slice AG g3.length cG), (.int .i64 g4), (.int .i64 g5), (.bool g6), (.int .i64 0), (.int .i64 0), (.int .i64 0)]) (blk_put (cs := #[(.int .i64 g1), (.int .i64 g2), (.slice AG g3.length cG), (.int .i64 g4), (.int .i64 g5), (.bool false), (.int .i64 0), (.int .i64 0), (.int .i64 0)]) (blk_put (cs := #[(.int .i64 g1), (.int .i64 g2), (.slice AG g3.length cG), (.int .i64 g4), (.int .i64 0), (.bool false), (.int .i64 0), (.int .i64 0), (.int .i64 0)]) (blk_put (cs := #[(.int .i64 g1), (.int .i64 g2), (.slice AG g3.length cG), (.int .i64 0), (.int .i64 0), (.bool false), (.int .i64 0), (.int .i64 0), (.int .i64 0)]) (blk_put (cs := #[(.int .i64 g1), (.int .i64 g2), (.slice none 0 0), (.int .i64 0), (.int .i64 0), (.bool false), (.int .i64 0), (.int .i64 0), (.int .i64 0)]) (blk_put (cs := #[(.int .i64 g1), (.int .i64 0), (.slice none 0 0), (.int .i64 0), (.int .i64 0), (.bool false), (.int .i64 0), (.int .i64 0), (.int .i64 0)]) (blk_put (cs := #[(.int .i64 0), (.int .i64 0), (.slice none 0 0), (.int .i64 0), (.int .i64 0), (.bool false), (.int .i64 0), (.int .i64 0), (.int .i64 0)]) B14.out 0 _ rfl) 1 _ rfl) 2 _ rfl) 3 _ rfl) 4 _ rfl) 5 _ rfl) 6 _ rfl) 7 _ rfl) 8 _ rfl))
      have HPn2 := am (Kd.S_keep HPn.out hk_ (fun k h_ e_ => by have := G14.out; omega))
      have HG2 := am (Kd.R_mono (ok' := fun _ => True) (Kd.R_keep (Kd.R_types HG.out B14.out (by decide)) hk_ (fun _ h_ => h_.2)) (fun _ _ => trivial))
      have BV2 := am (hk_.blk BV.out (fun e_ => by have := HGV.out; have := G14.out; omega) (by simp))
      have BP2 := am (hk_.blk BP.out (blk_ne BP.out B14.out (by decide)) (by simp))
      have B132 := am (hk_.blk B13.out (blk_ne B13.out B14.out (by decide)) (by simp))
      have HB2 := am (show Below w.heap.size w (((((((((w12.setCell ⟨g14, 0, none⟩ (.int .i64 g1)).setCell ⟨g14, 1, none⟩ (.int .i64 g2)).setCell ⟨g14, 2, none⟩ (.slice AG g3.length cG)).setCell ⟨g14, 3, none⟩ (.int .i64 g4)).setCell ⟨g14, 4, none⟩ (.int .i64 g5)).setCell ⟨g14, 5, none⟩ (.bool g6)).setCell ⟨g14, 6, none⟩ (.int .i64 g7)).setCell ⟨g14, 7, none⟩ (.int .i64 top)).setCell ⟨g14, 8, none⟩ (.int .i64 0)) from below_set (below_set (below_set (below_set (below_set (below_set (below_set (below_set (below_set HB.out (Nat.le_trans HN0.out G14.out)) (Nat.le_trans HN0.out G14.out)) (Nat.le_trans HN0.out G14.out)) (Nat.le_trans HN0.out G14.out)) (Nat.le_trans HN0.out G14.out)) (Nat.le_trans HN0.out G14.out)) (Nat.le_trans HN0.out G14.out)) (Nat.le_trans HN0.out G14.out)) (Nat.le_trans HN0.out G14.out))
      have HBN2 := am (show Below w8.heap.size w8 (((((((((w12.setCell ⟨g14, 0, none⟩ (.int .i64 g1)).setCell ⟨g14, 1, none⟩ (.int .i64 g2)).setCell ⟨g14, 2, none⟩ (.slice AG g3.length cG)).setCell ⟨g14, 3, none⟩ (.int .i64 g4)).setCell ⟨g14, 4, none⟩ (.int .i64 g5)).setCell ⟨g14, 5, none⟩ (.bool g6)).setCell ⟨g14, 6, none⟩ (.int .i64 g7)).setCell ⟨g14, 7, none⟩ (.int .i64 top)).setCell ⟨g14, 8, none⟩ (.int .i64 0)) from below_set (below_set (below_set (below_set (below_set (below_set (below_set (below_set (below_set HBN.out G14.out) G14.out) G14.out) G14.out) G14.out) G14.out) G14.out) G14.out) G14.out)
      refine skip_ (w1 := ?_) (by rfl) rfl ?_ ?_
      rotate_left
      ·go_simp
       rfl
      refine hK.out _ _ ⟨bc B132.out 0, trivial⟩ (fun hHeld => ?_)
      clear hK K hq0 hqf0 hq1 hqf1 hq2 hqf2 hq3 hqf3 hq4 hqf4 hq5 hqf5 hq6 hqf6 hq7 hqf7 hq8 hqf8 hk_ HPn HG BV BP B13 HB HBN B14
      generalize (((((((((w12.setCell ⟨g14, 0, none⟩ (.int .i64 g1)).setCell ⟨g14, 1, none⟩ (.int .i64 g2)).setCell ⟨g14, 2, none⟩ (.slice AG g3.length cG)).setCell ⟨g14, 3, none⟩ (.int .i64 g4)).setCell ⟨g14, 4, none⟩ (.int .i64 g5)).setCell ⟨g14, 5, none⟩ (.bool g6)).setCell ⟨g14, 6, none⟩ (.int .i64 g7)).setCell ⟨g14, 7, none⟩ (.int .i64 top)).setCell ⟨g14, 8, none⟩ (.int .i64 0)) = w13 at HPn2 HG2 BV2 BP2 B132 HB2 HBN2 B14n hHeld ⊢
      refine done_ (done_of HT_.out (by kernel_rfl)) ?_
      obtain ⟨x17, hx17⟩ : ∃ x, wrap64 (s1 - top) = x := ⟨_, rfl⟩
      have hz0 := bc B132.out 0
      have hz1 := bc B132.out 1
      have hz7 := bc B14n.out 7
      have hf3 := blk_frozen B14n.out 3
      have hf4 := blk_frozen B14n.out 4
      have hz3 := bc B14n.out 3
      have hz4 := bc B14n.out 4
      go_wp2_with (first | ((with_reducible refine gate_store (t := 2) (p := 65) rfl ?_); refine store_event (t := 2) (p := 65) (v := .tmp 63) (w1 := (w13.setCell ⟨g14, 3, none⟩ (.int .i64 x17))) ?hg ?ho ?hn ?hr ?_; (case ho => rfl); (case hg => rfl); (case hn => rfl); (case hr => first | (go_simp; done) | (go_simp; rfl)); intro w14 hw; have hk_ : KeepBut w13 w14 g14 none := (by rw [hw]; exact KeepBut.set_ (KeepBut.refl _ _ _) _ _); have B14m : Aside0 (w14.heap[g14]? = some (.cells #[(.int .i64 g1), (.int .i64 g2), (.slice AG g3.length cG), (.int .i64 x17), (.int .i64 g5), (.bool g6), (.int .i64 g7), (.int .i64 top), (.int .i64 0)] 30 (0, 0))) := ⟨(by rw [hw]; exact blk_put (cs := #[(.int .i64 g1), (.int .i64 g2), (.slice AG g3.length cG), (.int .i64 g4), (.int .i64 g5), (.bool g6), (.int .i64 g7), (.int .i64 top), (.int .i64 0)]) B14n.out 3 _ rfl)⟩; replace HPn2 := am (Kd.S_keep HPn2.out hk_ (fun k h_ e_ => by have := G14.out; omega)); replace HG2 := am (Kd.R_mono (ok' := fun _ => True) (Kd.R_keep (Kd.R_types HG2.out B14n.out (by decide)) hk_ (fun _ h_ => h_.2)) (fun _ _ => trivial)); replace BV2 := am (hk_.blk BV2.out (fun e_ => by have := HGV.out; have := G14.out; omega) (by simp)); replace BP2 := am (hk_.blk BP2.out (blk_ne BP2.out B14n.out (by decide)) (by simp)); replace B132 := am (hk_.blk B132.out (blk_ne B132.out B14n.out (by decide)) (by simp)); replace HB2 : Aside0 (Below w.heap.size w w14) := ⟨(by rw [hw]; exact below_set HB2.out (Nat.le_trans HN0.out G14.out))⟩; replace HBN2 : Aside0 (Below w8.heap.size w8 w14) := ⟨(by rw [hw]; exact below_set HBN2.out G14.out)⟩; clear hz0 hz1 hz7 hf3 hf4 hz3 hz4; replace B14n := B14m; have hz0 := bc B132.out 0; have hz1 := bc B132.out 1; have hz7 := bc B14n.out 7; have hf3 := blk_frozen B14n.out 3; have hf4 := blk_frozen B14n.out 4; have hz3 := bc B14n.out 3; have hz4 := bc B14n.out 4; clear hw hk_ B14m) | ((with_reducible refine gate_store (t := 2) (p := 69) rfl ?_); refine store_event (t := 2) (p := 69) (v := .tmp 67) (w1 := (w14.setCell ⟨g14, 4, none⟩ (.int .i64 s2))) ?hg ?ho ?hn ?hr ?_; (case ho => rfl); (case hg => rfl); (case hn => rfl); (case hr => first | (go_simp; done) | (go_simp; rfl)); intro w15 hw; have hk_ : KeepBut w14 w15 g14 none := (by rw [hw]; exact KeepBut.set_ (KeepBut.refl _ _ _) _ _); have B14m : Aside0 (w15.heap[g14]? = some (.cells #[(.int .i64 g1), (.int .i64 g2), (.slice AG g3.length cG), (.int .i64 x17), (.int .i64 s2), (.bool g6), (.int .i64 g7), (.int .i64 top), (.int .i64 0)] 30 (0, 0))) := ⟨(by rw [hw]; exact blk_put (cs := #[(.int .i64 g1), (.int .i64 g2), (.slice AG g3.length cG), (.int .i64 x17), (.int .i64 g5), (.bool g6), (.int .i64 g7), (.int .i64 top), (.int .i64 0)]) B14n.out 4 _ rfl)⟩; replace HPn2 := am (Kd.S_keep HPn2.out hk_ (fun k h_ e_ => by have := G14.out; omega)); replace HG2 := am (Kd.R_mono (ok' := fun _ => True) (Kd.R_keep (Kd.R_types HG2.out B14n.out (by decide)) hk_ (fun _ h_ => h_.2)) (fun _ _ => trivial)); replace BV2 := am (hk_.blk BV2.out (fun e_ => by have := HGV.out; have := G14.out; omega) (by simp)); replace BP2 := am (hk_.blk BP2.out (blk_ne BP2.out B14n.out (by decide)) (by simp)); replace B132 := am (hk_.blk B132.out (blk_ne B132.out B14n.out (by decide)) (by simp)); replace HB2 : Aside0 (Below w.heap.size w w15) := ⟨(by rw [hw]; exact below_set HB2.out (Nat.le_trans HN0.out G14.out))⟩; replace HBN2 : Aside0 (Below w8.heap.size w8 w15) := ⟨(by rw [hw]; exact below_set HBN2.out G14.out)⟩; clear hz0 hz1 hz7 hf3 hf4 hz3 hz4; replace B14n := B14m; have hz0 := bc B132.out 0; have hz1 := bc B132.out 1; have hz7 := bc B14n.out 7; have hf3 := blk_frozen B14n.out 3; have hf4 := blk_frozen B14n.out 4; have hz3 := bc B14n.out 3; have hz4 := bc B14n.out 4; clear hw hk_ B14m))
      clear hz0 hz1 hz7 hf3 hf4 hz3 hz4
      go_loopg [15] k (fun kq v15 w' => ∃ (r : Int) (G : List S75), v15 = .int .i64 r ∧ Aside0 (voR rows cols top rws kq r G = some G') ∧ Aside0 (kq ≤ k) ∧ Aside0 (Kd.S kRow 26 w' w.heap.size (fun k => k < w8.heap.size) (.slice Ar rws.length cr) rws) ∧ Aside0 (Kd.R k75 75 w' w.heap.size (fun _ => True) (.slice AG g3.length cG) G) ∧ Aside0 (w'.heap[gv]? = some (.cells #[(.int .i64 0), (.int .i64 0), (.slice none 0 0), (.int .i64 0), (.int .i64 0), (.bool false), (.int .i64 0), (.int .i64 0), (.int .i64 0)] 30 (0, 0))) ∧ Aside0 (w'.heap[g]? = some (.cells #[.int .i64 cols, .slice Ar rws.length cr, .int .i64 col_] 73 (0, 0))) ∧ Aside0 (w'.heap[g14]? = some (.cells #[(.int .i64 g1), (.int .i64 g2), (.slice AG g3.length cG), (.int .i64 x17), (.int .i64 s2), (.bool g6), (.int .i64 g7), (.int .i64 top), (.int .i64 0)] 30 (0, 0))) ∧ Aside0 (Below w.heap.size w w') ∧ Aside0 (Below w8.heap.size w8 w'))
      case atStart => exact ⟨0, g3, (by first | rfl | (simp; done)), AA, ⟨Nat.le_refl _⟩, (by first | exact HPn2 | exact ⟨Kd.S_drewN HPn2.out _⟩), (by first | exact HG2 | exact ⟨Kd.R_drewN HG2.out _⟩), (by first | exact BV2 | exact ⟨blk_drewN BV2.out _⟩), (by first | exact BP2 | exact ⟨blk_drewN BP2.out _⟩), (by first | exact B14n | exact ⟨blk_drewN B14n.out _⟩), (by first | exact HB2 | exact ⟨pw_below_drewN HB2.out _⟩), (by first | exact HBN2 | exact ⟨pw_below_drewN HBN2.out _⟩)⟩
      case round =>
       clear AA HPn2 HG2 BV2 BP2 B14n HB2 HBN2 B132 hx56
       have HX17 := am hx17
       clear hx17
       obtain ⟨r, G, rfl, HA, HK1, HPn2, HG2, BV2, BP2, B14n, HB2, HBN2⟩ := hrel
       cases gk with
       | zero => exact absurd HA.out (by simp [voR])
       | succ k1 =>
        have H := HA.out
        clear HA
        rw [voR] at H
        obtain ⟨rr, hrr⟩ : ∃ y, wrap64 (top + r) = y := ⟨_, rfl⟩
        rw [hrr] at H
        have hz1 := bc BP2.out 1
        have hz7 := bc B14n.out 7
        by_cases c1_ : r < rows
        · rw [if_pos c1_] at H
          have c1b : decide (r < rows) = true := decide_eq_true c1_
          clear c1_
          by_cases c3 : rr < (rws.length : Int)
          · rw [if_pos c3] at H
            have c3b : decide (rr < (rws.length : Int)) = true := decide_eq_true c3
            clear c3
            obtain ⟨G3, HV0, HN0_⟩ := Option.bind_eq_some_iff.mp H
            have HV := am HV0
            have HN := am HN0_
            clear H HV0 HN0_
            go_wp2
            go_quiet ((fail))
            go_wp2
            clear hz1 hz7
            go_loopg [16] k1 (fun kq v16 w' => ∃ (c : Int) (G : List S75), v16 = .int .i64 c ∧ Aside0 (voC cols top r rws kq c G = some G3) ∧ Aside0 (kq ≤ k1) ∧ Aside0 (Kd.S kRow 26 w' w.heap.size (fun k => k < w8.heap.size) (.slice Ar rws.length cr) rws) ∧ Aside0 (Kd.R k75 75 w' w.heap.size (fun _ => True) (.slice AG g3.length cG) G) ∧ Aside0 (w'.heap[gv]? = some (.cells #[(.int .i64 0), (.int .i64 0), (.slice none 0 0), (.int .i64 0), (.int .i64 0), (.bool false), (.int .i64 0), (.int .i64 0), (.int .i64 0)] 30 (0, 0))) ∧ Aside0 (w'.heap[g]? = some (.cells #[.int .i64 cols, .slice Ar rws.length cr, .int .i64 col_] 73 (0, 0))) ∧ Aside0 (w'.heap[g14]? = some (.cells #[(.int .i64 g1), (.int .i64 g2), (.slice AG g3.length cG), (.int .i64 x17), (.int .i64 s2), (.bool g6), (.int .i64 g7), (.int .i64 top), (.int .i64 0)] 30 (0, 0))) ∧ Aside0 (Below w.heap.size w w') ∧ Aside0 (Below w8.heap.size w8 w'))
            case atStart => exact ⟨0, G, (by first | rfl | (simp; done)), HV, ⟨Nat.le_refl _⟩, (by first | exact HPn2 | exact ⟨Kd.S_drewN HPn2.out _⟩), (by first | exact HG2 | exact ⟨Kd.R_drewN HG2.out _⟩), (by first | exact BV2 | exact ⟨blk_drewN BV2.out _⟩), (by first | exact BP2 | exact ⟨blk_drewN BP2.out _⟩), (by first | exact B14n | exact ⟨blk_drewN B14n.out _⟩), (by first | exact HB2 | exact ⟨pw_below_drewN HB2.out _⟩), (by first | exact HBN2 | exact ⟨pw_below_drewN HBN2.out _⟩)⟩
            case round =>
             clear HV HPn2 HG2 BV2 BP2 B14n HB2 HBN2
             obtain ⟨c, G, rfl, HA, HK2, HPn2, HG2, BV2, BP2, B14n, HB2, HBN2⟩ := hrel
             cases gk with
             | zero => exact absurd HA.out (by simp [voC])
             | succ k2 =>
              have H := HA.out
              clear HA
              rw [voC] at H
              by_cases c2 : c < cols
              · rw [if_pos c2, hrr] at H
                have c2b : decide (c < cols) = true := decide_eq_true c2
                clear c2
                by_cases d1 : 0 ≤ rr
                rotate_left
                · rw [if_neg d1] at H; cases H
                rw [if_pos d1] at H
                by_cases d2 : rr < (rws.length : Int)
                rotate_left
                · rw [if_neg d2] at H; cases H
                rw [if_pos d2] at H
                by_cases d3 : 0 ≤ c
                rotate_left
                · rw [if_neg d3] at H; cases H
                rw [if_pos d3] at H
                obtain ⟨row, hrow⟩ : ∃ x, x = rd_L3 rws rr := ⟨_, rfl⟩
                rw [← hrow] at H
                by_cases d4 : c < (row.length : Int)
                rotate_left
                · rw [if_neg d4] at H; cases H
                rw [if_pos d4] at H
                obtain ⟨y2, hy2⟩ : ∃ y, wrap64 (r * cols) = y := ⟨_, rfl⟩
                have hy2w : (IntKind.i64.wrap (r * cols)) = y2 := (i64_w _).trans hy2
                rw [hy2] at H
                obtain ⟨kk, hkk⟩ : ∃ y, wrap64 (y2 + c) = y := ⟨_, rfl⟩
                rw [hkk] at H
                by_cases d5 : 0 ≤ kk
                rotate_left
                · rw [if_neg d5] at H; cases H
                rw [if_pos d5] at H
                by_cases d6 : kk < (G.length : Int)
                rotate_left
                · rw [if_neg d6] at H; cases H
                rw [if_pos d6] at H
                obtain ⟨x, hx⟩ : ∃ x, x = rd_T75 row c := ⟨_, rfl⟩
                rw [← hx] at H
                have H' := am H
                clear H
                obtain ⟨gr, capr, eA, hga, hgal, cellsA, hcA⟩ := Kd.S_form HPn2.out (show 0 < rws.length by omega)
                injection eA with ea_ en_ ec_
                clear en_
                subst ea_
                subst ec_
                clear hga hgal hcA
                obtain ⟨gg, cg, eG, hbg, hgl, cells, hcl⟩ := Kd.R_form HG2.out (show 0 < G.length by omega)
                injection eG with ea_ en_ ec_
                subst ea_
                subst ec_
                have HGG : Aside0 (w8.heap.size ≤ gg) := ⟨HFr.out gg rfl⟩
                have HK0 := am d5
                have HKl : Aside0 (kk < (g3.length : Int)) := ⟨by omega⟩
                obtain ⟨Aw, cw, er0, hRw⟩ := pen_row HPn2.out rr d1 d2 hrow
                obtain ⟨ga, capa, eA, hga, hgal, cellsA, hcA⟩ := Kd.R_form hRw (show 0 < row.length by omega)
                injection eA with ea_ en_ ec_
                clear en_
                subst ea_
                subst ec_
                obtain ⟨A0x, c0x, ex0, ex1, hRx⟩ := row_elemR hRw c d3 d4 hx
                have HRx := am (Kd.R_drew hRx)
                have r1 := eq_true d1
                have r2 := eq_true d2
                have r3 := eq_true d3
                have r4 := eq_true d4
                have r5 := eq_true d5
                have r6 := eq_true HKl.out
                clear d1 d2 d3 d4 d5 d6 hbg hgl hcl hga hgal hcA hRw hRx hx hrow en_
                go_wp2
                replace HPn2 := am (Kd.S_drew HPn2.out)
                replace HG2 := am (Kd.R_drew HG2.out)
                replace BV2 := am (blk_drew BV2.out)
                replace BP2 := am (blk_drew BP2.out)
                replace B14n := am (blk_drew B14n.out)
                replace HB2 := am (below_drew1 HB2.out)
                replace HBN2 := am (below_drew1 HBN2.out)
                replace er0 : wr.drew.cell? _ = _ := er0
                replace ex0 : wr.drew.cell? _ = _ := ex0
                replace ex1 : wr.drew.cell? _ = _ := ex1
                refine start_ (n := 23) (S := fun w' => w'.cell? ⟨g14, 2, none⟩ = some (.slice (some ⟨gg, 0, none⟩) g3.length cG) ∧ w'.cell? ⟨g, 1, none⟩ = some (.slice (some ⟨gr, 0, none⟩) rws.length cr) ∧ w'.cell? ⟨g14, 7, none⟩ = some (.int .i64 top) ∧ w'.cell? ⟨gr, rr.toNat, none⟩ = some (.slice (some ⟨ga, 0, none⟩) row.length cw) ∧ w'.cell? ⟨ga, c.toNat * 2, none⟩ = some (.slice A0x x.f0.length c0x) ∧ w'.cell? ⟨ga, c.toNat * 2 + 1, none⟩ = some (.int .i64 x.f1)) (ds := [22]) vp16.a0 (by kernel_rfl) rfl rfl ⟨bc B14n.out 2, bc BP2.out 1, bc B14n.out 7, er0, ex0, ex1⟩ (fun hHeld => ?_); refine with_tabW vp16.tab vp16.bits (fun HT_ HW_ => ?_)
                generalize wr.drew = wq at HPn2 HG2 BV2 BP2 B14n HB2 HBN2 HRx hHeld ⊢
                refine pu_ 0 (some 92) ?_ vp16.a1 rfl rfl HT_.out (by kernel_rfl) (fun _ _ _ h => h) (Or.inl ⟨by rfl, ?_⟩) ?_ ?_ ?_; rotate_left
                ·intro w'; go_simp; with_reducible rfl
                rotate_left
                ·simp only [Act.put, sa_, s0_, ss_, i64_w, i32_w]; rfl
                refine pu_ 1 (some 93) ?_ vp16.a2 rfl rfl HT_.out (by kernel_rfl) (fun _ _ _ h => h) (Or.inl ⟨by rfl, ?_⟩) ?_ ?_ ?_; rotate_left
                ·intro w'; go_simp; with_reducible rfl
                rotate_left
                ·simp only [Act.put, sa_, s0_, ss_, i64_w, i32_w]; rfl
                refine pu_ 3 (some 95) ?_ vp16.a3 rfl rfl HT_.out (by kernel_rfl) (fun _ _ _ h => h) (Or.inl ⟨by rfl, ?_⟩) ?_ ?_ ?_; rotate_left
                ·intro w'; go_simp; with_reducible rfl
                rotate_left
                ·simp only [Act.put, sa_, s0_, ss_, i64_w, i32_w]; rfl
                refine pu_ 4 (some 96) ?_ vp16.a4 rfl rfl HT_.out (by kernel_rfl) (fun _ _ _ h => h) (Or.inl ⟨by rfl, ?_⟩) ?_ ?_ ?_; rotate_left
                ·intro w'; go_simp; with_reducible rfl
                rotate_left
                ·simp only [Act.put, sa_, s0_, ss_, i64_w, i32_w]; rfl
                refine pu_ 5 (some 97) ?_ vp16.a5 rfl rfl HT_.out (by kernel_rfl) (fun _ _ _ h => h) (Or.inl ⟨by rfl, ?_⟩) ?_ ?_ ?_; rotate_left
                ·intro w'; go_simp; with_reducible rfl
                rotate_left
                ·simp only [Act.put, sa_, s0_, ss_, i64_w, i32_w]; rfl
                refine pu_ 6 (some 98) ?_ vp16.a6 rfl rfl HT_.out (by kernel_rfl) (fun _ _ _ h => h) (Or.inl ⟨by rfl, ?_⟩) ?_ ?_ ?_; rotate_left
                ·intro w'; go_simp; with_reducible rfl
                rotate_left
                ·simp only [Act.put, sa_, s0_, ss_, i64_w, i32_w]; rfl
                refine pu_ 7 (some 99) ?_ vp16.a7 rfl rfl HT_.out (by kernel_rfl) (fun _ _ _ h => h) (Or.inl ⟨by rfl, ?_⟩) ?_ ?_ ?_; rotate_left
                ·intro w'; go_simp; with_reducible rfl
                rotate_left
                ·simp only [Act.put, sa_, s0_, ss_, i64_w, i32_w]; rfl
                refine pu_ 8 (some 100) ?_ vp16.a8 rfl rfl HT_.out (by kernel_rfl) (fun _ _ _ h => h) (Or.inl ⟨by rfl, ?_⟩) ?_ ?_ ?_; rotate_left
                ·intro w'; go_simp; with_reducible rfl
                rotate_left
                ·simp only [Act.put, sa_, s0_, ss_, i64_w, i32_w]; rfl
                refine pu_ 9 (some 101) ?_ vp16.a9 rfl rfl HT_.out (by kernel_rfl) (fun _ _ _ h => h) (Or.inl ⟨by rfl, ?_⟩) ?_ ?_ ?_; rotate_left
                ·intro w'; go_simp; with_reducible rfl
                rotate_left
                ·simp only [Act.put, sa_, s0_, ss_, i64_w, i32_w]; rfl
                refine pu_ 10 (some 102) ?_ vp16.a10 rfl rfl HT_.out (by kernel_rfl) (fun _ _ _ h => h) (Or.inl ⟨by rfl, ?_⟩) ?_ ?_ ?_; rotate_left
                ·intro w'; go_simp; with_reducible rfl
                rotate_left
                ·simp only [Act.put, sa_, s0_, ss_, i64_w, i32_w]; rfl
                refine pu_ 12 (some 104) ?_ vp16.a11 rfl rfl HT_.out (by kernel_rfl) (fun _ _ _ h => h) (Or.inl ⟨by rfl, ?_⟩) ?_ ?_ ?_; rotate_left
                ·intro w'; go_simp; with_reducible rfl
                rotate_left
                ·simp only [Act.put, sa_, s0_, ss_, i64_w, i32_w]; rfl
                refine pu_ 14 (some 106) ?_ vp16.a12 rfl rfl HT_.out (by kernel_rfl) (fun _ _ _ h => h) (Or.inl ⟨by rfl, ?_⟩) ?_ ?_ ?_; rotate_left
                ·intro w'; go_simp; with_reducible rfl
                rotate_left
                ·simp only [Act.put, sa_, s0_, ss_, i64_w, i32_w]; rfl
                refine pu_ 18 (some 110) ?_ vp16.a13 rfl rfl HT_.out (by kernel_rfl) (fun _ _ _ h => h) (Or.inl ⟨by rfl, ?_⟩) ?_ ?_ ?_; rotate_left
                ·intro w'; go_simp; with_reducible rfl
                rotate_left
                ·simp only [Act.put, sa_, s0_, ss_, i64_w, i32_w]; rfl
                refine tk_ 2 (some 94) ?_ vp16.a14 rfl rfl HT_.out HW_.out (by kernel_rfl) (fun _ _ _ h => h) (Or.inl ⟨by rfl, ?_⟩) hHeld ?_ ?_ ?_; rotate_left
                ·rintro w' ⟨t0, t1, t2, t3, t4, t5⟩; go_simp; with_reducible rfl
                rotate_left
                ·simp only [Act.put, sa_, s0_, ss_, i64_w, i32_w]; rfl
                refine tk_ 11 (some 103) ?_ vp16.a15 rfl rfl HT_.out HW_.out (by kernel_rfl) (fun _ _ _ h => h) (Or.inl ⟨by rfl, ?_⟩) hHeld ?_ ?_ ?_; rotate_left
                ·rintro w' ⟨t0, t1, t2, t3, t4, t5⟩; go_simp; with_reducible rfl
                rotate_left
                ·simp only [Act.put, sa_, s0_, ss_, i64_w, i32_w]; rfl
                refine tk_ 13 (some 105) ?_ vp16.a16 rfl rfl HT_.out HW_.out (by kernel_rfl) (fun _ _ _ h => h) (Or.inl ⟨by rfl, ?_⟩) hHeld ?_ ?_ ?_; rotate_left
                ·rintro w' ⟨t0, t1, t2, t3, t4, t5⟩; go_simp; with_reducible rfl
                rotate_left
                ·simp only [Act.put, sa_, s0_, ss_, i64_w, i32_w]; rfl
                refine pu_ 15 (some 107) ?_ vp16.a17 rfl rfl HT_.out (by kernel_rfl) (fun _ _ _ h => h) (Or.inl ⟨by rfl, ?_⟩) ?_ ?_ ?_; rotate_left
                ·intro w'; go_simp; with_reducible rfl
                rotate_left
                ·simp only [Act.put, sa_, s0_, ss_, i64_w, i32_w]; rfl
                refine pu_ 16 (some 108) ?_ vp16.a18 rfl rfl HT_.out (by kernel_rfl) (fun _ _ _ h => h) (Or.inl ⟨by rfl, ?_⟩) ?_ ?_ ?_; rotate_left
                ·intro w'; go_simp; with_reducible rfl
                rotate_left
                ·simp only [Act.put, sa_, s0_, ss_, i64_w, i32_w]; rfl
                refine tk_ 17 (some 109) ?_ vp16.a19 rfl rfl HT_.out HW_.out (by kernel_rfl) (fun _ _ _ h => h) (Or.inl ⟨by rfl, ?_⟩) hHeld ?_ ?_ ?_; rotate_left
                ·rintro w' ⟨t0, t1, t2, t3, t4, t5⟩; go_simp; with_reducible rfl
                rotate_left
                ·simp only [Act.put, sa_, s0_, ss_, i64_w, i32_w]; rfl
                refine pu_ 19 (some 111) ?_ vp16.a20 rfl rfl HT_.out (by kernel_rfl) (fun _ _ _ h => h) (Or.inl ⟨by rfl, ?_⟩) ?_ ?_ ?_; rotate_left
                ·intro w'; go_simp; with_reducible rfl
                rotate_left
                ·simp only [Act.put, sa_, s0_, ss_, i64_w, i32_w]; rfl
                refine tk_ 20 (some 112) ?_ vp16.a21 rfl rfl HT_.out HW_.out (by kernel_rfl) (fun _ _ _ h => h) (Or.inl ⟨by rfl, ?_⟩) hHeld ?_ ?_ ?_; rotate_left
                ·rintro w' ⟨t0, t1, t2, t3, t4, t5⟩; go_simp; with_reducible rfl
                rotate_left
                ·simp only [Act.put, sa_, s0_, ss_, i64_w, i32_w]; rfl
                refine pu_ 21 (some 113) ?_ vp16.a22 rfl rfl HT_.out (by kernel_rfl) (fun _ _ _ h => h) (Or.inl ⟨by rfl, ?_⟩) ?_ ?_ ?_; rotate_left
                ·intro w'; go_simp; with_reducible rfl
                rotate_left
                ·simp only [Act.put, sa_, s0_, ss_, i64_w, i32_w]; rfl
                refine last_ (i := 22) (N := none) vp16.a23 rfl rfl (one_of HT_.out (by kernel_rfl)) (by decide) (fun K hK => ?_)
                obtain ⟨Ay, cy, ey0, ey1, _, _, fy0, fy1⟩ := row_elem HG2.out kk HK0.out HKl.out rfl
                refine skip_ (w1 := ?_) (by rfl) rfl ?_ ?_
                rotate_left
                ·go_simp
                 rfl
                refine hK.out _ _ ?_
                clear hK K
                refine done_ (done_of HT_.out (by kernel_rfl)) ?_
                have hk_ : KeepBut wq ((wq.setCell ⟨gg, kk.toNat * 2, none⟩ (.slice A0x x.f0.length c0x)).setCell ⟨gg, kk.toNat * 2 + 1, none⟩ (.int .i64 x.f1)) gg none := KeepBut.set_ (KeepBut.set_ (KeepBut.refl _ _ _) _ _) _ _
                obtain ⟨cl_, hcl_⟩ := Kd.R_typed HG2.out gg rfl
                have HPn3 := am (Kd.S_keep HPn2.out hk_ (fun k h_ e_ => by have := HGG.out; omega))
                have HG3 := am (show Kd.R k75 75 ((wq.setCell ⟨gg, kk.toNat * 2, none⟩ (.slice A0x x.f0.length c0x)).setCell ⟨gg, kk.toNat * 2 + 1, none⟩ (.int .i64 x.f1)) w.heap.size (fun _ => True) (.slice (some ⟨gg, 0, none⟩) g3.length cG) (G.set kk.toNat x) from row_put2 HG2.out kk HK0.out HKl.out x.f1 HRx.out (fun k h_ => ⟨trivial, fun e_ => by have := HGG.out; omega⟩))
                have BV3 := am (hk_.blk BV2.out (blk_ne BV2.out hcl_ (by decide)) (by simp))
                have BP3 := am (hk_.blk BP2.out (blk_ne BP2.out hcl_ (by decide)) (by simp))
                have B143 := am (hk_.blk B14n.out (blk_ne B14n.out hcl_ (by decide)) (by simp))
                have HB3 := am (below_set (j := kk.toNat * 2 + 1) (v := .int .i64 x.f1) (below_set (j := kk.toNat * 2) (v := (.slice A0x x.f0.length c0x)) HB2.out (Nat.le_trans HN0.out HGG.out)) (Nat.le_trans HN0.out HGG.out))
                have HBN3 := am (below_set (j := kk.toNat * 2 + 1) (v := .int .i64 x.f1) (below_set (j := kk.toNat * 2) (v := (.slice A0x x.f0.length c0x)) HBN2.out HGG.out) HGG.out)
                clear HPn2 HG2 BV2 BP2 B14n HB2 HBN2 hk_ hcl_ hHeld ey0 ey1 fy0 fy1 HRx er0 ex0 ex1
                generalize ((wq.setCell ⟨gg, kk.toNat * 2, none⟩ (.slice A0x x.f0.length c0x)).setCell ⟨gg, kk.toNat * 2 + 1, none⟩ (.int .i64 x.f1)) = wz at HPn3 HG3 BV3 BP3 B143 HB3 HBN3 ⊢
                go_wp2
                go_roundg k2
                case measure => have := HK2.out; omega
                case rel => exact ⟨wrap64 (c + 1), G.set kk.toNat x, (by first | rfl | (simp; done)), H', ⟨by have := HK2.out; omega⟩, HPn3, HG3, BV3, BP3, B143, HB3, HBN3⟩
              · rw [if_neg c2] at H
                obtain rfl := Option.some.inj H
                have c2b : decide (c < cols) = false := decide_eq_false c2
                clear c2
                go_wp2
                go_roundg k1
                case measure => have := HK1.out; omega
                case rel => exact ⟨wrap64 (r + 1), G, (by first | rfl | (simp; done)), HN, ⟨by have := HK1.out; omega⟩, (by first | exact HPn2 | exact ⟨Kd.S_drewN HPn2.out _⟩), (by first | exact HG2 | exact ⟨Kd.R_drewN HG2.out _⟩), (by first | exact BV2 | exact ⟨blk_drewN BV2.out _⟩), (by first | exact BP2 | exact ⟨blk_drewN BP2.out _⟩), (by first | exact B14n | exact ⟨blk_drewN B14n.out _⟩), (by first | exact HB2 | exact ⟨pw_below_drewN HB2.out _⟩), (by first | exact HBN2 | exact ⟨pw_below_drewN HBN2.out _⟩)⟩
          · rw [if_neg c3] at H
            have c3b : decide (rr < (rws.length : Int)) = false := decide_eq_false c3
            clear c3
            obtain rfl := Option.some.inj H
            go_wp2
            go_quiet ((fail))
            clear hz1 hz7
            have hg0 := bc B14n.out 0; have hg1 := bc B14n.out 1; have hg2 := bc B14n.out 2; have hg3 := bc B14n.out 3; have hg4 := bc B14n.out 4; have hg5 := bc B14n.out 5; have hg6 := bc B14n.out 6; have hg7 := bc B14n.out 7; have hg8 := bc B14n.out 8
            have hv0 := bc BV2.out 0; have hv1 := bc BV2.out 1; have hv2 := bc BV2.out 2; have hv3 := bc BV2.out 3; have hv4 := bc BV2.out 4; have hv5 := bc BV2.out 5; have hv6 := bc BV2.out 6; have hv7 := bc BV2.out 7; have hv8 := bc BV2.out 8; have hvf0 := blk_frozen BV2.out 0; have hvf1 := blk_frozen BV2.out 1; have hvf2 := blk_frozen BV2.out 2; have hvf3 := blk_frozen BV2.out 3; have hvf4 := blk_frozen BV2.out 4; have hvf5 := blk_frozen BV2.out 5; have hvf6 := blk_frozen BV2.out 6; have hvf7 := blk_frozen BV2.out 7; have hvf8 := blk_frozen BV2.out 8
            have HG4 := am (Kd.R_drewN HG2.out nq)
            have BV4 := am (blk_drewN BV2.out nq)
            have HB4 := am (pw_below_drewN HB2.out nq)
            go_wp2_with (first | ((with_reducible refine gate_store (t := 30) (p := 10) rfl ?_); refine store_event (t := 30) (p := 10) (v := .tmp 114) (w1 := ((((((((((wr.drewN nq).setCell ⟨gv, 0, none⟩ (.int .i64 g1)).setCell ⟨gv, 1, none⟩ (.int .i64 g2)).setCell ⟨gv, 2, none⟩ (.slice AG g3.length cG)).setCell ⟨gv, 3, none⟩ (.int .i64 x17)).setCell ⟨gv, 4, none⟩ (.int .i64 s2)).setCell ⟨gv, 5, none⟩ (.bool g6)).setCell ⟨gv, 6, none⟩ (.int .i64 g7)).setCell ⟨gv, 7, none⟩ (.int .i64 top)).setCell ⟨gv, 8, none⟩ (.int .i64 0))) ?hg ?ho ?hn ?hr ?_; (case ho => rfl); (case hg => rfl); (case hn => rfl); (case hr => first | (go_simp; done) | (go_simp; rfl)); intro w20 hw; have hk_ : KeepBut (wr.drewN nq) w20 gv none := (by rw [hw]; exact (KeepBut.set_ (KeepBut.set_ (KeepBut.set_ (KeepBut.set_ (KeepBut.set_ (KeepBut.set_ (KeepBut.set_ (KeepBut.set_ (KeepBut.set_ (KeepBut.refl _ _ _) 0 (.int .i64 g1)) 1 (.int .i64 g2)) 2 (.slice AG g3.length cG)) 3 (.int .i64 x17)) 4 (.int .i64 s2)) 5 (.bool g6)) 6 (.int .i64 g7)) 7 (.int .i64 top)) 8 (.int .i64 0))); have BV9 : Aside0 (w20.heap[gv]? = some (.cells #[(.int .i64 g1), (.int .i64 g2), (.slice AG g3.length cG), (.int .i64 x17), (.int .i64 s2), (.bool g6), (.int .i64 g7), (.int .i64 top), (.int .i64 0)] 30 (0, 0))) := ⟨(by rw [hw]; exact (blk_put (cs := #[(.int .i64 g1), (.int .i64 g2), (.slice AG g3.length cG), (.int .i64 x17), (.int .i64 s2), (.bool g6), (.int .i64 g7), (.int .i64 top), (.int .i64 0)]) (blk_put (cs := #[(.int .i64 g1), (.int .i64 g2), (.slice AG g3.length cG), (.int .i64 x17), (.int .i64 s2), (.bool g6), (.int .i64 g7), (.int .i64 0), (.int .i64 0)]) (blk_put (cs := #[(.int .i64 g1), (.int .i64 g2), (.slice AG g3.length cG), (.int .i64 x17), (.int .i64 s2), (.bool g6), (.int .i64 0), (.int .i64 0), (.int .i64 0)]) (blk_put (cs := #[(.int .i64 g1), (.int .i64 g2), (.slice AG g3.length cG), (.int .i64 x17), (.int .i64 s2), (.bool false), (.int .i64 0), (.int .i64 0), (.int .i64 0)]) (blk_put (cs := #[(.int .i64 g1), (.int .i64 g2), (.slice AG g3.length cG), (.int .i64 x17), (.int .i64 0), (.bool false), (.int .i64 0), (.int .i64 0), (.int .i64 0)]) (blk_put (cs := #[(.int .i64 g1), (.int .i64 g2), (.slice AG g3.length cG), (.int .i64 0), (.int .i64 0), (.bool false), (.int .i64 0), (.int .i64 0), (.int .i64 0)]) (blk_put (cs := #[(.int .i64 g1), (.int .i64 g2), (.slice none 0 0), (.int .i64 0), (.int .i64 0), (.bool false), (.int .i64 0), (.int .i64 0), (.int .i64 0)]) (blk_put (cs := #[(.int .i64 g1), (.int .i64 0), (.slice none 0 0), (.int .i64 0), (.int .i64 0), (.bool false), (.int .i64 0), (.int .i64 0), (.int .i64 0)]) (blk_put (cs := #[(.int .i64 0), (.int .i64 0), (.slice none 0 0), (.int .i64 0), (.int .i64 0), (.bool false), (.int .i64 0), (.int .i64 0), (.int .i64 0)]) BV4.out 0 _ rfl) 1 _ rfl) 2 _ rfl) 3 _ rfl) 4 _ rfl) 5 _ rfl) 6 _ rfl) 7 _ rfl) 8 _ rfl))⟩; have HB9 : Aside0 (Below w.heap.size w w20) := ⟨(by rw [hw]; exact below_set (below_set (below_set (below_set (below_set (below_set (below_set (below_set (below_set HB4.out GV.out) GV.out) GV.out) GV.out) GV.out) GV.out) GV.out) GV.out) GV.out)⟩; have HG9 := am (Kd.R_mono (ok' := fun _ => True) (Kd.R_keep (Kd.R_types HG4.out BV4.out (by decide)) hk_ (fun _ h_ => h_.2)) (fun _ _ => trivial)); clear hw hk_))
            refine bodyPost_ret (results_cell_row rfl _ _ gv 30 #[(.int .i64 g1), (.int .i64 g2), (.slice AG g3.length cG), (.int .i64 x17), (.int .i64 s2), (.bool g6), (.int .i64 g7), (.int .i64 top), (.int .i64 0)] (0, 0) _ rfl (by (with_reducible repeat (first | refine blk_drewN ?_ _ | refine blk_drew ?_)); exact BV9.out) Try.underlying30 rfl (by kernel_rfl)) rfl ?_
            exact ⟨.slice AG g3.length cG, by first | rfl | (rw [HX17.out]) | (simp [HX17.out]; done), (by first | exact HG9.out | exact Kd.R_drewN HG9.out _), by repeat (first | exact HB9.out | apply pw_below_drewN | apply below_drew1)⟩
        · rw [if_neg c1_] at H
          have c1b : decide (r < rows) = false := decide_eq_false c1_
          clear c1_
          obtain rfl := Option.some.inj H
          go_wp2
          go_quiet ((fail))
          clear hz1 hz7
          have hg0 := bc B14n.out 0; have hg1 := bc B14n.out 1; have hg2 := bc B14n.out 2; have hg3 := bc B14n.out 3; have hg4 := bc B14n.out 4; have hg5 := bc B14n.out 5; have hg6 := bc B14n.out 6; have hg7 := bc B14n.out 7; have hg8 := bc B14n.out 8
          have hv0 := bc BV2.out 0; have hv1 := bc BV2.out 1; have hv2 := bc BV2.out 2; have hv3 := bc BV2.out 3; have hv4 := bc BV2.out 4; have hv5 := bc BV2.out 5; have hv6 := bc BV2.out 6; have hv7 := bc BV2.out 7; have hv8 := bc BV2.out 8; have hvf0 := blk_frozen BV2.out 0; have hvf1 := blk_frozen BV2.out 1; have hvf2 := blk_frozen BV2.out 2; have hvf3 := blk_frozen BV2.out 3; have hvf4 := blk_frozen BV2.out 4; have hvf5 := blk_frozen BV2.out 5; have hvf6 := blk_frozen BV2.out 6; have hvf7 := blk_frozen BV2.out 7; have hvf8 := blk_frozen BV2.out 8
          have HG4 := am (Kd.R_drewN HG2.out nq)
          have BV4 := am (blk_drewN BV2.out nq)
          have HB4 := am (pw_below_drewN HB2.out nq)
          go_wp2_with (first | ((with_reducible refine gate_store (t := 30) (p := 10) rfl ?_); refine store_event (t := 30) (p := 10) (v := .tmp 114) (w1 := ((((((((((wr.drewN nq).setCell ⟨gv, 0, none⟩ (.int .i64 g1)).setCell ⟨gv, 1, none⟩ (.int .i64 g2)).setCell ⟨gv, 2, none⟩ (.slice AG g3.length cG)).setCell ⟨gv, 3, none⟩ (.int .i64 x17)).setCell ⟨gv, 4, none⟩ (.int .i64 s2)).setCell ⟨gv, 5, none⟩ (.bool g6)).setCell ⟨gv, 6, none⟩ (.int .i64 g7)).setCell ⟨gv, 7, none⟩ (.int .i64 top)).setCell ⟨gv, 8, none⟩ (.int .i64 0))) ?hg ?ho ?hn ?hr ?_; (case ho => rfl); (case hg => rfl); (case hn => rfl); (case hr => first | (go_simp; done) | (go_simp; rfl)); intro w20 hw; have hk_ : KeepBut (wr.drewN nq) w20 gv none := (by rw [hw]; exact (KeepBut.set_ (KeepBut.set_ (KeepBut.set_ (KeepBut.set_ (KeepBut.set_ (KeepBut.set_ (KeepBut.set_ (KeepBut.set_ (KeepBut.set_ (KeepBut.refl _ _ _) 0 (.int .i64 g1)) 1 (.int .i64 g2)) 2 (.slice AG g3.length cG)) 3 (.int .i64 x17)) 4 (.int .i64 s2)) 5 (.bool g6)) 6 (.int .i64 g7)) 7 (.int .i64 top)) 8 (.int .i64 0))); have BV9 : Aside0 (w20.heap[gv]? = some (.cells #[(.int .i64 g1), (.int .i64 g2), (.slice AG g3.length cG), (.int .i64 x17), (.int .i64 s2), (.bool g6), (.int .i64 g7), (.int .i64 top), (.int .i64 0)] 30 (0, 0))) := ⟨(by rw [hw]; exact (blk_put (cs := #[(.int .i64 g1), (.int .i64 g2), (.slice AG g3.length cG), (.int .i64 x17), (.int .i64 s2), (.bool g6), (.int .i64 g7), (.int .i64 top), (.int .i64 0)]) (blk_put (cs := #[(.int .i64 g1), (.int .i64 g2), (.slice AG g3.length cG), (.int .i64 x17), (.int .i64 s2), (.bool g6), (.int .i64 g7), (.int .i64 0), (.int .i64 0)]) (blk_put (cs := #[(.int .i64 g1), (.int .i64 g2), (.slice AG g3.length cG), (.int .i64 x17), (.int .i64 s2), (.bool g6), (.int .i64 0), (.int .i64 0), (.int .i64 0)]) (blk_put (cs := #[(.int .i64 g1), (.int .i64 g2), (.slice AG g3.length cG), (.int .i64 x17), (.int .i64 s2), (.bool false), (.int .i64 0), (.int .i64 0), (.int .i64 0)]) (blk_put (cs := #[(.int .i64 g1), (.int .i64 g2), (.slice AG g3.length cG), (.int .i64 x17), (.int .i64 0), (.bool false), (.int .i64 0), (.int .i64 0), (.int .i64 0)]) (blk_put (cs := #[(.int .i64 g1), (.int .i64 g2), (.slice AG g3.length cG), (.int .i64 0), (.int .i64 0), (.bool false), (.int .i64 0), (.int .i64 0), (.int .i64 0)]) (blk_put (cs := #[(.int .i64 g1), (.int .i64 g2), (.slice none 0 0), (.int .i64 0), (.int .i64 0), (.bool false), (.int .i64 0), (.int .i64 0), (.int .i64 0)]) (blk_put (cs := #[(.int .i64 g1), (.int .i64 0), (.slice none 0 0), (.int .i64 0), (.int .i64 0), (.bool false), (.int .i64 0), (.int .i64 0), (.int .i64 0)]) (blk_put (cs := #[(.int .i64 0), (.int .i64 0), (.slice none 0 0), (.int .i64 0), (.int .i64 0), (.bool false), (.int .i64 0), (.int .i64 0), (.int .i64 0)]) BV4.out 0 _ rfl) 1 _ rfl) 2 _ rfl) 3 _ rfl) 4 _ rfl) 5 _ rfl) 6 _ rfl) 7 _ rfl) 8 _ rfl))⟩; have HB9 : Aside0 (Below w.heap.size w w20) := ⟨(by rw [hw]; exact below_set (below_set (below_set (below_set (below_set (below_set (below_set (below_set (below_set HB4.out GV.out) GV.out) GV.out) GV.out) GV.out) GV.out) GV.out) GV.out) GV.out)⟩; have HG9 := am (Kd.R_mono (ok' := fun _ => True) (Kd.R_keep (Kd.R_types HG4.out BV4.out (by decide)) hk_ (fun _ h_ => h_.2)) (fun _ _ => trivial)); clear hw hk_))
          refine bodyPost_ret (results_cell_row rfl _ _ gv 30 #[(.int .i64 g1), (.int .i64 g2), (.slice AG g3.length cG), (.int .i64 x17), (.int .i64 s2), (.bool g6), (.int .i64 g7), (.int .i64 top), (.int .i64 0)] (0, 0) _ rfl (by (with_reducible repeat (first | refine blk_drewN ?_ _ | refine blk_drew ?_)); exact BV9.out) Try.underlying30 rfl (by kernel_rfl)) rfl ?_
          exact ⟨.slice AG g3.length cG, by first | rfl | (rw [HX17.out]) | (simp [HX17.out]; done), (by first | exact HG9.out | exact Kd.R_drewN HG9.out _), by repeat (first | exact HB9.out | apply pw_below_drewN | apply below_drew1)⟩

theorem voC.mono (cols top r : Int) (rws : List (List S75)) : ∀ k a0 a1, LeO (voC cols top r rws k a0 a1) (voC cols top r rws (k + 1) a0 a1)
 | 0 => fun _ _ r h => by simp [voC] at h
 | k + 1 => by
  have ih0 := voC.mono cols top r rws k
  intro a0 a1
  unfold voC
  repeat' first
   | (with_reducible exact ih0 _ _)
   | (with_reducible exact LeO.refl _)
   | (with_reducible exact LeO.none _)
   | (with_reducible refine LeO.ite ?_ ?_)
theorem voR.mono (rows cols top : Int) (rws : List (List S75)) : ∀ k a0 a1, LeO (voR rows cols top rws k a0 a1) (voR rows cols top rws (k + 1) a0 a1)
 | 0 => fun _ _ r h => by simp [voR] at h
 | k + 1 => by
  have ih0 := voR.mono rows cols top rws k
  intro a0 a1
  unfold voR
  repeat' first
   | (with_reducible exact ih0 _ _)
   | (with_reducible exact voC.mono _ _ _ _ _ _ _)
   | (with_reducible exact LeO.refl _)
   | (with_reducible exact LeO.none _)
   | (with_reducible refine LeO.ite ?_ ?_)
   | (with_reducible refine LeO.bind ?_ (fun _ => ?_))
theorem spec_ViewOf.mono : ∀ a0 a1 a2 a3 a4 a5 a6 k, LeO (spec_ViewOf.f k a0 a1 a2 a3 a4 a5 a6) (spec_ViewOf.f (k + 1) a0 a1 a2 a3 a4 a5 a6) := by
 intro a0 a1 a2 a3 a4 a5 a6 k
 unfold spec_ViewOf.f
 repeat' first
   | (with_reducible exact voR.mono _ _ _ _ _ _ _)
   | (with_reducible exact spec_PointsRight.mono _ _)
   | (with_reducible exact spec_BufRight.mono _ _ _ _)
   | (with_reducible exact lzF.mono _ _ _ _ _ _ _)
   | (with_reducible exact LeO.refl _)
   | (with_reducible exact LeO.none _)
   | (with_reducible refine LeO.ite ?_ ?_)
   | (with_reducible refine LeO.bind ?_ (fun _ => ?_))

end Go.Proofs.Ytcjclihkaaaihaa.PFnExactViewOf
