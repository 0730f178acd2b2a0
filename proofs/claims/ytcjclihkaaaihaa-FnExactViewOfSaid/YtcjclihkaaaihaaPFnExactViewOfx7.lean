-- Written by xprint.py (this claim's own program, over the kit's printer); Lean checks it.
import Derived.Test.YtcjclihkaaaihaaPFnExactViewOfx0
import Derived.Test.YtcjclihkaaaihaaPFnExactViewOfx4
import Derived.Test.YtcjclihkaaaihaaPFnExactViewOfx5
import Derived.Test.YtcjclihkaaaihaaPFnExactViewOfx6
namespace Go.Proofs.Ytcjclihkaaaihaa.PFnExactViewOf
open Go.RowKit Go.Proofs.YtcjclihkaaaihaaW.PrintWords Go.Proofs.YtcjclihkaaaihaaW.PrintLast Go.Proofs.YtcjclihkaaaihaaW.PrintMore
attribute [local go_sem] max2_int min2_int max_two min_two max_three min_three max_four min_four   -- for this text's walks alone
set_option linter.unusedVariables false
set_option linter.unusedSimpArgs false   -- squeezed
set_option maxHeartbeats 8000000
set_option maxRecDepth 100000

/-! ### impl_ViewOf: function 13 -/
/-! ### a layout that is being made: its cells, no two of which lead to one block, and its spots -/
def LS (okc : Nat → Prop) (w0 w : World) (g : Nat) (cols row col : Int) (cs : List S85) (inR : Bool) (sp : List S45) : Prop :=
 w0.heap.size ≤ g ∧ ∃ vc vs, w.heap[g]? = some (.cells #[.int .i64 cols, .int .i64 row, .int .i64 col, vc, .bool inR, vs] 83 (0, 0)) ∧ Kd.S k85 85 w w0.heap.size okc vc cs ∧ Kd.R k45 45 w w0.heap.size (fun _ => True) vs sp
theorem LS_below {okc : Nat → Prop} {w0 w w' : World} {g : Nat} {cols row col : Int} {cs : List S85} {inR : Bool} {sp : List S45} (h : LS okc w0 w g cols row col cs inR sp) (hb : Below w.heap.size w w') : LS okc w0 w' g cols row col cs inR sp := by
 obtain ⟨hg, vc, vs, h1, h2, h3⟩ := h
 exact ⟨hg, vc, vs, blk_below h1 hb, Kd.S_below h2 hb, Kd.R_below h3 hb⟩
/-- A store into one of the layout's own cells. -/
theorem LS_ints {okc : Nat → Prop} {w0 w : World} {g : Nat} {cols row col row' col' : Int} {cs : List S85} {inR inR' : Bool} {sp : List S45} {w' : World} (h : LS okc w0 w g cols row col cs inR sp)
  (hw : ∀ vc vs, w.heap[g]? = some (.cells #[.int .i64 cols, .int .i64 row, .int .i64 col, vc, .bool inR, vs] 83 (0, 0)) → w'.heap[g]? = some (.cells #[.int .i64 cols, .int .i64 row', .int .i64 col', vc, .bool inR', vs] 83 (0, 0)))
  (hS : ∀ v, Kd.S k85 85 w w0.heap.size okc v cs → Kd.S k85 85 w' w0.heap.size okc v cs) (hR : ∀ v, Kd.R k45 45 w w0.heap.size (fun _ => True) v sp → Kd.R k45 45 w' w0.heap.size (fun _ => True) v sp) : LS okc w0 w' g cols row' col' cs inR' sp := by
 obtain ⟨hg, vc, vs, h1, h2, h3⟩ := h
 exact ⟨hg, vc, vs, hw vc vs h1, hS vc h2, hR vs h3⟩
theorem LS_row {okc : Nat → Prop} {w0 w : World} {g : Nat} {cols row col : Int} {cs : List S85} {inR : Bool} {sp : List S45} (h : LS okc w0 w g cols row col cs inR sp) (r : Int) : LS okc w0 (w.setCell ⟨g, 1, none⟩ (.int .i64 r)) g cols r col cs inR sp := by
 obtain ⟨hg, vc, vs, h1, h2, h3⟩ := h
 exact ⟨hg, vc, vs, blk_put h1 1 _ rfl, Kd.S_set h2 h1 (by decide) _ _, Kd.R_set h3 h1 (by decide) _ _⟩
theorem LS_col {okc : Nat → Prop} {w0 w : World} {g : Nat} {cols row col : Int} {cs : List S85} {inR : Bool} {sp : List S45} (h : LS okc w0 w g cols row col cs inR sp) (r : Int) : LS okc w0 (w.setCell ⟨g, 2, none⟩ (.int .i64 r)) g cols row r cs inR sp := by
 obtain ⟨hg, vc, vs, h1, h2, h3⟩ := h
 exact ⟨hg, vc, vs, blk_put h1 2 _ rfl, Kd.S_set h2 h1 (by decide) _ _, Kd.R_set h3 h1 (by decide) _ _⟩
theorem LS_inR {okc : Nat → Prop} {w0 w : World} {g : Nat} {cols row col : Int} {cs : List S85} {inR : Bool} {sp : List S45} (h : LS okc w0 w g cols row col cs inR sp) (b : Bool) : LS okc w0 (w.setCell ⟨g, 4, none⟩ (.bool b)) g cols row col cs b sp := by
 obtain ⟨hg, vc, vs, h1, h2, h3⟩ := h
 exact ⟨hg, vc, vs, blk_put h1 4 _ rfl, Kd.S_set h2 h1 (by decide) _ _, Kd.R_set h3 h1 (by decide) _ _⟩
theorem LS_cells {okc : Nat → Prop} {w0 w : World} {g : Nat} {cols row col : Int} {cs cs' : List S85} {inR : Bool} {sp : List S45} (h : LS okc w0 w g cols row col cs inR sp) {v : Value} (hS : Kd.S k85 85 w w0.heap.size okc v cs') : LS okc w0 (w.setCell ⟨g, 3, none⟩ v) g cols row col cs' inR sp := by
 obtain ⟨hg, vc, vs, h1, h2, h3⟩ := h
 exact ⟨hg, v, vs, blk_put h1 3 _ rfl, Kd.S_set hS h1 (by decide) _ _, Kd.R_set h3 h1 (by decide) _ _⟩
theorem LS_spots {okc : Nat → Prop} {w0 w : World} {g : Nat} {cols row col : Int} {cs : List S85} {inR : Bool} {sp sp' : List S45} (h : LS okc w0 w g cols row col cs inR sp) {v : Value} (hR : Kd.R k45 45 w w0.heap.size (fun _ => True) v sp') : LS okc w0 (w.setCell ⟨g, 5, none⟩ v) g cols row col cs inR sp' := by
 obtain ⟨hg, vc, vs, h1, h2, h3⟩ := h
 exact ⟨hg, vc, v, blk_put h1 5 _ rfl, Kd.S_set h2 h1 (by decide) _ _, Kd.R_set hR h1 (by decide) _ _⟩

theorem layout_next.calls (okc : Nat → Prop) (g : Nat) (cols row col : Int) (cs : List S85) (inR : Bool) (sp : List S45) (w0 w : World) (hI : LS okc w0 w g cols row col cs inR sp) (hB : Below w0.heap.size w0 w) :
  Calls Try.prog 93 #[.pointer (some ⟨g, 0, none⟩)] w fun e w' => e = .returned (.tuple #[]) ∧ LS okc w0 w' g cols (wrap64 (row + 1)) 0 cs false sp ∧ Below w0.heap.size w0 w' ∧ KeepBut w w' g none := by
 have HI := am hI
 have HB := am hB
 obtain ⟨hg, vc, vs, h1, _, _⟩ := hI
 have HG := am hg
 clear hB hg
 have hz0 := bc h1 0
 have hz1 := bc h1 1
 have hz2 := bc h1 2
 have hz3 := bc h1 3
 have hz4 := bc h1 4
 have hz5 := bc h1 5
 have hf1 := blk_frozen h1 1
 have hf2 := blk_frozen h1 2
 have hf4 := blk_frozen h1 4
 clear h1
 go_enter Try.func93, Try.ntmps93
 go_wp2
 go_end0
 exact ⟨by first | rfl | (simp; done), LS_inR (LS_col (LS_row HI.out _) _) _, by repeat (first | exact HB.out | refine below_set ?_ HG.out), by repeat (first | exact KeepBut.refl _ _ _ | apply KeepBut.set_)⟩
def ptL : Nat → Int → List Int → Int → Int → Int → Int → List S85 → Bool → Option (Int × Int × List S85 × Bool)
 | 0, _, _, _, _, _, _, _, _ => none
 | k + 1, attr, l, i, cols, row, col, cs, inR => if i < (l.length : Int) then (if 0 ≤ i then ((impl_WidthOf.f k (rd l i)).bind fun wd => (if wd = 0 then (if inR = true then (if 0 < cs.length ∧ cs.length ≤ 1000000 then (if (rd_T85 cs ((cs.length - 1 : Nat) : Int)).f0.f0.length < 4 then ptL k attr l (wrap64 (i + 1)) cols row col (cs.set (cs.length - 1) ⟨⟨(rd_T85 cs ((cs.length - 1 : Nat) : Int)).f0.f0 ++ [rd l i], (rd_T85 cs ((cs.length - 1 : Nat) : Int)).f0.f1⟩, (rd_T85 cs ((cs.length - 1 : Nat) : Int)).f1, (rd_T85 cs ((cs.length - 1 : Nat) : Int)).f2⟩) inR else ptL k attr l (wrap64 (i + 1)) cols row col cs inR) else none) else ptL k attr l (wrap64 (i + 1)) cols row col cs inR) else (if cs.length ≤ 1000000 then (if wrap64 (cols - col) < wd then ptL k attr l (wrap64 (i + 1)) cols (wrap64 (row + 1)) (wrap64 wd) (cs ++ [⟨⟨[rd l i], attr⟩, wrap64 (row + 1), 0⟩]) true else ptL k attr l (wrap64 (i + 1)) cols row (wrap64 (col + wd)) (cs ++ [⟨⟨[rd l i], attr⟩, row, col⟩]) true) else none))) else none) else some (row, col, cs, inR)
def ptF (k : Nat) (p attr cols row col : Int) (cs : List S85) (inR : Bool) : Option (Int × Int × List S85 × Bool) := if p = 10 then some (wrap64 (row + 1), 0, cs, false) else (impl_shown.f p).bind fun l => ptL k attr l 0 cols row col cs inR
theorem LS_mono {okc okc' : Nat → Prop} {w0 w : World} {g : Nat} {cols row col : Int} {cs : List S85} {inR : Bool} {sp : List S45} (h : LS okc w0 w g cols row col cs inR sp) (hk : ∀ k, okc k → okc' k) : LS okc' w0 w g cols row col cs inR sp := by
 obtain ⟨hg, vc, vs, h1, h2, h3⟩ := h
 exact ⟨hg, vc, vs, h1, Kd.S_mono h2 hk, h3⟩
theorem LS_elder {w0 w w1 : World} {g : Nat} {cols row col : Int} {cs : List S85} {inR : Bool} {sp : List S45} (h : LS (fun _ => True) w0 w g cols row col cs inR sp) {v : Value} (hv : ∀ k, v.ownBlock = some k → w.heap.size ≤ k) (hb : Below w.heap.size w w1) : LS (fun k => True ∧ some k ≠ v.ownBlock) w0 w1 g cols row col cs inR sp := by
 obtain ⟨hg, vc, vs, h1, h2, h3⟩ := h
 exact ⟨hg, vc, vs, blk_below h1 hb, Kd.S_elder' h2 hv hb, Kd.R_below h3 hb⟩
theorem vinfo85 : (Try.prog.info? 85).map (fun i => (i.zero, i.size, i.bytes)) = some (some (.agg #[(.slice none 0 0), (.int .i64 0), (.int .i64 0), (.int .i64 0)]), 4, 48) := by kernel_rfl
/-- The last cell lent: what was appended to its points is put back. -/
theorem LS_last {okc : Nat → Prop} {w0 w : World} {g : Nat} {cols row col : Int} {cs : List S85} {inR : Bool} {sp : List S45} (h : LS okc w0 w g cols row col cs inR sp) (hp : 0 < cs.length) {x : S85} (hx : x = rd_T85 cs ((cs.length - 1 : Nat) : Int)) :
  ∃ (gc cap : Nat) (vs : Value) (oki : Nat → Prop) (Ae : Option Addr) (ce : Nat), w.heap[g]? = some (.cells #[.int .i64 cols, .int .i64 row, .int .i64 col, .slice (some ⟨gc, 0, none⟩) cs.length cap, .bool inR, vs] 83 (0, 0)) ∧ w.cell? ⟨gc, (cs.length - 1) * 4, none⟩ = some (.slice Ae x.f0.f0.length ce) ∧
   Kd.R (Kd.int .i64) 2 w w0.heap.size oki (.slice Ae x.f0.f0.length ce) x.f0.f0 ∧ (∀ k, oki k → okc k) ∧
   ∀ (w1 : World) (v1 : Value) (ys : List Int), w.heap.size ≤ w1.heap.size → (∀ k, k < w.heap.size → some k ≠ (Value.slice Ae x.f0.f0.length ce).ownBlock → w1.heap[k]? = w.heap[k]?) → Kd.R (Kd.int .i64) 2 w1 w0.heap.size (fun k => oki k ∨ okc k ∧ w.heap.size ≤ k) v1 ys →
    w1.cell? ⟨gc, (cs.length - 1) * 4, none⟩ = some (.slice Ae x.f0.f0.length ce) ∧ w1.frozen? ⟨gc, (cs.length - 1) * 4, none⟩ = false ∧ w0.heap.size ≤ gc ∧ some gc ≠ (Value.slice Ae x.f0.f0.length ce).ownBlock ∧ (∃ cells, w1.heap[gc]? = some (.cells cells 85 (0, 0))) ∧
    LS okc w0 (w1.setCell ⟨gc, (cs.length - 1) * 4, none⟩ v1) g cols row col (cs.set (cs.length - 1) ⟨⟨ys, x.f0.f1⟩, x.f1, x.f2⟩) inR sp := by
 obtain ⟨hg, vc, vs, h1, h2, h3⟩ := h
 obtain ⟨gc, cap, rfl, hbg, hgl, cells, hcl⟩ := Kd.S_form h2 hp
 obtain ⟨oki, c, _, hM, hcc, hfr, hoki, hH⟩ := Kd.S_elem h2 z85 ((cs.length - 1 : Nat) : Int) (by omega) (by omega)
 rw [Int.toNat_natCast] at hM hcc hfr
 rw [show cs.getD (cs.length - 1) z85 = x by rw [hx]; unfold rd_T85; rw [Int.toNat_natCast]] at hM
 obtain ⟨ve, rfl, hR⟩ := k85_openM hM
 obtain ⟨Ae, ce, rfl⟩ := Kd.R_slice hR
 have hv := hcc 0 _ rfl
 rw [show k85.sz = 4 from rfl, Nat.add_zero] at hv
 refine ⟨gc, cap, vs, oki, Ae, ce, h1, hv, hR, fun k hk => (hoki k hk).1, fun w1 v1 ys hsz hkp hR1 => ?_⟩
 have hty := Kd.R_typed hR
 have hne : ∀ {k t : Nat} {cs' : Array Value}, w.heap[k]? = some (.cells cs' t (0, 0)) → 2 ≠ t → some k ≠ (Value.slice Ae x.f0.f0.length ce).ownBlock := fun hb ht => Kd.R_ne hR hb ht
 have hgcne := hne hcl (by decide)
 have hcl1 : w1.heap[gc]? = some (.cells cells 85 (0, 0)) := (hkp gc hgl hgcne).trans hcl
 have h1' := (hkp g (blk_lt h1) (hne h1 (by decide))).trans h1
 have hH1 := Kd.H_step (w1 := w1) (Kd.H_widen hH) (fun k _ hn hlt => hkp k hlt (fun he => hn (.inl (hR.1 k he.symm))))
 have hR45 : Kd.R k45 45 w1 w0.heap.size (fun k => some k = vs.ownBlock) vs sp := Kd.R_step (Kd.R_tight rfl h3) (fun k hk hlt => hkp k hlt (by
   obtain ⟨cs', hc⟩ := Kd.R_typed h3 k hk.symm
   exact hne hc (by decide)))
 have hS := (Kd.S_seg0 hH1 (by omega) (by omega) (seg := [v1]) (j := 0) (show 0 + 1 ≤ 4 by decide) (x' := (⟨⟨ys, x.f0.f1⟩, x.f1, x.f2⟩ : S85)) (k85_mkM w1 w0.heap.size _ (⟨⟨ys, x.f0.f1⟩, x.f1, x.f2⟩ : S85) hR1) (fun _ hk => hk)).1
 rw [Int.toNat_natCast] at hS
 have hcg : g ≠ gc := blk_ne h1 hcl (by decide)
 refine ⟨?_, blk_frozen hcl1 _, hbg, hgcne, ⟨_, hcl1⟩, hg, _, vs, blk_far h1' hcg v1, hS, Kd.R_mono (Kd.R_set hR45 hcl1 (by decide) _ v1) (fun _ _ => trivial)⟩
 rw [blk_cell hcl1]
 rw [blk_cell hcl] at hv
 exact hv

def pt13.T : Bool × List (List Nat × List Nat) := (true, [([], []), ([], []), ([1], [1]), ([2], [2]), ([3], [3]), ([], []), ([5], [5]), ([], []), ([6, 7], [6, 7]), ([], []), ([9], [9]), ([10], [10]), ([11], [11]), ([], []), ([13], [13]), ([14], [14]), ([15], [15]), ([8, 12, 16], [8, 12, 16]), ([17], [17]), ([4, 18], [4, 18]), ([0, 0, 1, 2, 3, 4, 5, 6, 7, 8, 9, 10, 11, 12, 13, 14, 15, 16, 17, 18, 19], [0]), ([20, 0, 1, 2, 3, 4, 5, 6, 7, 8, 9, 10, 11, 12, 13, 14, 15, 16, 17, 18, 19], [20]), ([21, 19, 19, 0, 1, 2, 3, 4, 5, 6, 7, 8, 9, 10, 11, 12, 13, 14, 15, 16, 17, 18, 19], [19, 21])])
def pt13.B : List Nat := [0, 0, 2, 6, 14, 0, 32, 0, 224, 0, 512, 1536, 3584, 0, 8192, 24576, 57344, 131040, 262112, 524286, 1048575, 2097151, 4194303]
theorem pt13.tab : rtab .any (opsOf Try.f74 13) = pt13.T := by kernel_rfl
theorem pt13.bits : waitsOk pt13.T.2 pt13.B = true := by kernel_rfl
@[reducible] def pt13.a0 : Array Bool := (br true [0, 23]).toArray
@[reducible] def pt13.a1 : Array Bool := (br true [1, 22]).toArray
@[reducible] def pt13.a2 : Array Bool := (br true [2, 21]).toArray
@[reducible] def pt13.a3 : Array Bool := (br true [3, 20]).toArray
@[reducible] def pt13.a4 : Array Bool := (br true [4, 19]).toArray
@[reducible] def pt13.a5 : Array Bool := (br true [4, 1, 1, 17]).toArray
@[reducible] def pt13.a6 : Array Bool := (br true [4, 1, 1, 1, 1, 15]).toArray
@[reducible] def pt13.a7 : Array Bool := (br true [4, 1, 1, 1, 1, 1, 1, 13]).toArray
@[reducible] def pt13.a8 : Array Bool := (br true [4, 1, 1, 1, 1, 1, 2, 12]).toArray
@[reducible] def pt13.a9 : Array Bool := (br true [4, 1, 1, 1, 1, 1, 3, 11]).toArray
@[reducible] def pt13.a10 : Array Bool := (br true [4, 1, 1, 1, 1, 1, 3, 1, 1, 9]).toArray
@[reducible] def pt13.a11 : Array Bool := (br true [4, 1, 1, 1, 1, 1, 3, 1, 2, 8]).toArray
@[reducible] def pt13.a12 : Array Bool := (br true [4, 1, 1, 1, 1, 1, 3, 1, 3, 7]).toArray
@[reducible] def pt13.a13 : Array Bool := (br true [6, 1, 1, 1, 3, 1, 3, 7]).toArray
@[reducible] def pt13.a14 : Array Bool := (br true [6, 1, 1, 1, 7, 7]).toArray
@[reducible] def pt13.a15 : Array Bool := (br true [6, 1, 1, 1, 8, 6]).toArray
@[reducible] def pt13.a16 : Array Bool := (br true [8, 1, 8, 6]).toArray
@[reducible] def pt13.a17 : Array Bool := (br true [17, 6]).toArray
@[reducible] def pt13.a18 : Array Bool := (br true [18, 5]).toArray
@[reducible] def pt13.a19 : Array Bool := (br true [19, 4]).toArray
@[reducible] def pt13.a20 : Array Bool := (br true [20, 3]).toArray
@[reducible] def pt13.a21 : Array Bool := (br true [21, 2]).toArray
@[reducible] def pt13.a22 : Array Bool := (br true [22, 1]).toArray
@[reducible] def pt13.a23 : Array Bool := (br true [23]).toArray
theorem impl_layout_point.calls (k : Nat) (g : Nat) (p attr cols row col : Int) (cs : List S85) (inR : Bool) (sp : List S45) (row' col' : Int) (cs' : List S85) (inR' : Bool) (w0 w : World) (hI : LS (fun _ => True) w0 w g cols row col cs inR sp) (hB : Below w0.heap.size w0 w) (h : ptF k p attr cols row col cs inR = some (row', col', cs', inR')) :
  Calls Try.prog 74 #[.pointer (some ⟨g, 0, none⟩), .int .i64 p, .int .i64 attr] w fun e w' => e = .returned (.tuple #[]) ∧ LS (fun _ => True) w0 w' g cols row' col' cs' inR' sp ∧ Below w0.heap.size w0 w' := by
 have HI := am hI
 have HB := am hB
 have HG := am hI.1
 clear hI hB
 unfold ptF at h
 by_cases c1 : p = 10
 · rw [if_pos c1] at h
   simp only [Option.some.injEq, Prod.mk.injEq] at h
   obtain ⟨rfl, rfl, rfl, rfl⟩ := h
   have c1b : (p == 10) = true := beq_iff_eq.mpr c1
   clear c1
   go_enter Try.func74, Try.ntmps74
   go_wp2_with (go_at_call 93; refine (layout_next.calls _ g cols row col cs inR sp w0 _ HI.out HB.out).mono ?_; rintro e w1 ⟨rfl, hi, hb, _⟩)
   first | go_end0 | ((try simp only [Exit.inBlock, Exit.then]); refine bodyPost_ret (results_none rfl _ _ _) rfl ?_)
   exact ⟨by first | rfl | (simp; done), hi, hb⟩
 · rw [if_neg c1] at h
   have c1b : (p == 10) = false := beq_eq_false_iff_ne.mpr c1
   clear c1
   obtain ⟨l, AS0, h⟩ := Option.bind_eq_some_iff.mp h
   have AS := am AS0
   clear AS0
   have H' := am h
   clear h
   go_enter Try.func74, Try.ntmps74
   go_wp2_with (go_at_call 94; refine (impl_shown.calls p l _ AS.out).mono ?_; rintro e w1 ⟨v, rfl, ho, hb⟩; obtain ⟨As, c_s, e_⟩ := Kd.R_slice ho; subst e_; have HS := am ho; have HI1 := am (LS_elder HI.out (Kd.R_base ho) hb); have HB1 := am (below_step HB.out hb); clear ho hb)
   go_loopg [17] k (fun kq v17 w' => ∃ (i row2 col2 : Int) (cs2 : List S85) (in2 : Bool), v17 = .int .i64 i ∧ Aside0 (ptL kq attr l i cols row2 col2 cs2 in2 = some (row', col', cs', inR')) ∧ Aside0 (kq ≤ k) ∧ Aside0 (LS (fun k => True ∧ some k ≠ (.slice As l.length c_s : Value).ownBlock) w0 w' g cols row2 col2 cs2 in2 sp) ∧ Aside0 (Below w0.heap.size w0 w') ∧ Aside0 (Kd.R (Kd.int .i64) 2 w' w.heap.size (fun _ => True) (.slice As l.length c_s) l))
   case atStart => exact ⟨0, row, col, cs, inR, (by first | rfl | (simp; done)), H', ⟨Nat.le_refl _⟩, HI1, HB1, HS⟩
   case round =>
    clear H' HI HI1 HB1 HS
    obtain ⟨i, row2, col2, cs2, in2, rfl, HA, HK1, HI, HB2, HS⟩ := hrel
    cases gk with
    | zero => exact absurd HA.out (by simp [ptL])
    | succ k1 =>
     have H := HA.out
     clear HA
     rw [ptL] at H
     by_cases c2 : i < (l.length : Int)
     · rw [if_pos c2] at H
       by_cases c3 : 0 ≤ i
       · rw [if_pos c3] at H
         have c2b : decide (i < (l.length : Int)) = true := decide_eq_true c2
         obtain ⟨ad, ead, hx⟩ := Kd.at_int (Kd.R_reads' HS.out).2.2 i c3 c2
         have p2 := eq_true c2
         have p3 := eq_true c3
         clear c2 c3
         subst ead
         obtain ⟨wd, AW0, H⟩ := Option.bind_eq_some_iff.mp H
         have AW := am AW0
         clear AW0
         by_cases c4 : wd = 0
         · rw [if_pos c4] at H
           have c4b : (wd == 0) = true := beq_iff_eq.mpr c4
           subst c4
           cases in2 with
           | false =>
             rw [if_neg Bool.false_ne_true] at H
             have H' := am H
             clear H
             obtain ⟨_, vc, vs, h1, _, _⟩ := HI.out
             have HBL := am h1
             have hz4 := bc h1 4
             clear h1
             go_wp2_with (go_at_call 76; refine (impl_WidthOf.calls k1 _ 0 _ AW.out).mono ?_; rintro e w4 ⟨rfl, hb⟩; replace HI := am (LS_below HI.out hb); replace HB2 := am (below_step HB2.out hb); replace HS := am (Kd.R_below HS.out hb); clear hz4; have hz4 := bc (blk_below HBL.out hb) 4; clear hb)
             go_roundg k1
             case measure => have := HK1.out; omega
             case rel => exact ⟨wrap64 (i + 1), row2, col2, cs2, false, (by first | rfl | (simp; done)), H', ⟨by have := HK1.out; omega⟩, HI, HB2, HS⟩
           | true =>
             rw [if_pos rfl] at H
             by_cases c5 : 0 < cs2.length ∧ cs2.length ≤ 1000000
             · rw [if_pos c5] at H
               have wm : wrap64 ((cs2.length : Int) - 1) = ((cs2.length - 1 : Nat) : Int) := by unfold wrap64; omega
               have q0 : (0 ≤ ((cs2.length - 1 : Nat) : Int)) = True := eq_true (by omega)
               have q1 : (((cs2.length - 1 : Nat) : Int) < (cs2.length : Int)) = True := eq_true (by omega)
               obtain ⟨x, hxx⟩ : ∃ x, x = rd_T85 cs2 ((cs2.length - 1 : Nat) : Int) := ⟨_, rfl⟩
               rw [← hxx] at H
               have HX := am hxx
               have HC5 := am c5
               clear hxx c5
               by_cases c6 : x.f0.f0.length < 4
               · rw [if_pos c6] at H
                 have HC6 := am c6
                 have c6b : decide ((x.f0.f0.length : Int) < 4) = true := decide_eq_true (by omega)
                 clear c6
                 have H' := am H
                 clear H
                 go_wp2_with (go_at_call 76; refine (impl_WidthOf.calls k1 _ 0 _ AW.out).mono ?_; rintro e w4 ⟨rfl, hb⟩; replace HI := am (LS_below HI.out hb); replace HB2 := am (below_step HB2.out hb); replace HS := am (Kd.R_below HS.out hb); clear hb; obtain ⟨gc, cap, vs, oki, Ae, ce, h1, hv, hR, hoki, hfin⟩ := LS_last HI.out HC5.out.1 HX.out; have hz3 := bc h1 3; have hz4 := bc h1 4; have HRe := am hR; have HFin := am hfin; have HOki := am hoki; clear h1 hR hfin hoki)
                 go_quiet ((fail))
                 go_wp2_with (first | ((with_reducible refine gate_builtin (b := .append) (xs := #[.tmp 51, .tmp 53]) rfl ?_); at_builtin; refine Kd.R_append (Kd.int .i64) (w0 := w0) w0.heap.size rfl (.tmp 51) (.tmp 53) 22 2 (.int .i64 0) 8 rfl Try.underlying22 info2 rfl (by decide) (by omega) (.slice Ae x.f0.f0.length ce) x.f0.f0 (rd l i) [.int .i64 (rd l i)] (fun k => oki k ∨ (True ∧ some k ≠ (.slice (some ad) l.length c_s : Value).ownBlock) ∧ w4.heap.size ≤ k) (fun _ => False) rfl rfl ?aP (fun _ hk => hk.elim) ?aF ?aO ?aB ?aS ?aL ?_; (case aP => exact rfl); (case aB => exact (pw_below_drewN HB2.out _)); (case aF => exact fun k hk => .inr ⟨⟨trivial, fun he => Nat.lt_irrefl _ (Nat.lt_of_lt_of_le (Kd.R_lt HS.out k he.symm) hk)⟩, hk⟩); (case aO => exact Kd.R_drewN (Kd.R_mono HRe.out (fun _ hk => .inl hk)) _); (case aS => exact HB2.out.size); (case aL => have := HC6.out; omega); intro v9 w9 ho hb hg hat; obtain ⟨A9, c9_, e9⟩ := Kd.R_slice ho; subst e9; obtain ⟨hs1, hf1, hgcb, hgcn, ⟨cl, hgc⟩, hLS⟩ := HFin.out w9 _ (x.f0.f0 ++ [rd l i]) hg.size (fun k hk hn => hg.block k hk hn) ho; have HI9 := am hLS; have HGC := am hgc; have HGB := am hgcb; replace HS := am (Kd.R_mono (ok' := fun _ => True) (Kd.R_grown (Kd.R_drewN (Kd.R_tight rfl HS.out) _) hg (fun k hk he => (HOki.out k (HRe.out.1 k he.symm)).2 hk)) (fun _ _ => trivial)); replace HB2 := am hb; clear ho hb hg hat hz3 hz4 hv hLS hgc hgcb HI HRe HFin HOki) | ((with_reducible refine gate_store (t := 22) (p := 56) rfl ?_); refine store_event (t := 22) (p := 56) (v := ?vo) (w1 := (w9.setCell ⟨gc, (cs2.length - 1) * 4, none⟩ (.slice A9 (x.f0.f0 ++ [rd l i]).length c9_))) ?hg ?ho ?hn ?hr ?_; (case ho => rfl); (case hg => rfl); (case hn => rfl); (case hr => first | (go_simp; done) | (go_simp; rfl)); intro w10 hw; have n1_ : Aside0 (LS (fun k => True ∧ some k ≠ (.slice (some ad) l.length c_s : Value).ownBlock) w0 w10 g cols row2 col2 (cs2.set (cs2.length - 1) ⟨⟨x.f0.f0 ++ [rd l i], x.f0.f1⟩, x.f1, x.f2⟩) true sp) := ⟨by rw [hw]; exact HI9.out⟩; have n2_ : Aside0 (Below w0.heap.size w0 w10) := ⟨by rw [hw]; exact below_set HB2.out HGB.out⟩; have n3_ : Aside0 (Kd.R (Kd.int .i64) 2 w10 w.heap.size (fun _ => True) (.slice (some ad) l.length c_s) l) := ⟨by rw [hw]; exact Kd.R_set HS.out HGC.out (by decide) _ _⟩; clear hw hs1 hf1 HI9 HB2 HS HGC HGB; have HI := n1_; have HB2 := n2_; have HS := n3_; clear n1_ n2_ n3_))
                 go_roundg k1
                 case measure => have := HK1.out; omega
                 case rel => exact ⟨wrap64 (i + 1), row2, col2, _, true, (by first | rfl | (simp; done)), H', ⟨by have := HK1.out; omega⟩, HI, HB2, HS⟩
               · rw [if_neg c6] at H
                 have c6b : decide ((x.f0.f0.length : Int) < 4) = false := decide_eq_false (by omega)
                 clear c6
                 have H' := am H
                 clear H
                 go_wp2_with (go_at_call 76; refine (impl_WidthOf.calls k1 _ 0 _ AW.out).mono ?_; rintro e w4 ⟨rfl, hb⟩; replace HI := am (LS_below HI.out hb); replace HB2 := am (below_step HB2.out hb); replace HS := am (Kd.R_below HS.out hb); clear hb; obtain ⟨hg_, vc, vs, h1, h2, h3⟩ := HI.out; obtain ⟨Ac, cc, ec⟩ := Kd.S_slice h2; subst ec; obtain ⟨ac, A5, c5_, eac, h85, _⟩ := at_T85 (Kd.S_reads' h2).2.2 ((cs2.length - 1 : Nat) : Int) (by omega) (by have := HC5.out; omega); subst eac; rw [← HX.out, Int.toNat_natCast] at h85; have hz3 := bc h1 3; have hz4 := bc h1 4; clear h1 h2 h3 hg_)
                 go_quiet ((fail))
                 go_wp2
                 go_roundg k1
                 case measure => have := HK1.out; omega
                 case rel => exact ⟨wrap64 (i + 1), row2, col2, cs2, true, (by first | rfl | (simp; done)), H', ⟨by have := HK1.out; omega⟩, ⟨LS_below HI.out (pw_below_drewN (Below.refl _ _) _)⟩, ⟨pw_below_drewN HB2.out _⟩, ⟨Kd.R_below HS.out (pw_below_drewN (Below.refl _ _) _)⟩⟩
             · rw [if_neg c5] at H
               cases H
         · rw [if_neg c4] at H
           have c4b : (wd == 0) = false := beq_eq_false_iff_ne.mpr c4
           clear c4
           by_cases c5 : cs2.length ≤ 1000000
           · rw [if_pos c5] at H
             have HL5 := am c5
             clear c5
             by_cases c6 : wrap64 (cols - col2) < wd
             · rw [if_pos c6] at H
               have c6b : decide (wrap64 (cols - col2) < wd) = true := decide_eq_true c6
               clear c6
               have H' := am H
               clear H
               go_wp2_with (go_at_call 76; refine (impl_WidthOf.calls k1 _ wd _ AW.out).mono ?_; rintro e w4 ⟨rfl, hb⟩; replace HI := am (LS_below HI.out hb); replace HB2 := am (below_step HB2.out hb); replace HS := am (Kd.R_below HS.out hb); clear hb; obtain ⟨hg_, vc, vs, h1, h2, h3⟩ := HI.out; have hz0 := bc h1 0; have hz1 := bc h1 1; have hz2 := bc h1 2; have hz3 := bc h1 3; have HBL := am h1; have hBL0 := am h1; clear h1 h2 h3 hg_)
               go_quiet ((fail))
               clear hz0 hz1 hz2 hz3 HBL
               go_wp2_with (go_at_call 93; refine (layout_next.calls (fun k => True ∧ some k ≠ (.slice (some ad) l.length c_s : Value).ownBlock) g cols row2 col2 cs2 in2 sp w0 _ (LS_below HI.out (pw_below_drewN (Below.refl _ _) _)) (pw_below_drewN HB2.out _)).mono ?_; rintro e w6 ⟨rfl, hi, hb, hk⟩; replace HI := am hi; replace HS := am (Kd.R_mono (ok' := fun _ => True) (Kd.R_step (Kd.R_types (Kd.R_drewN HS.out _) (blk_drewN hBL0.out _) (by decide)) (fun k hk_ hlt => hk.2 k hlt hk_.2 (by simp))) (fun _ _ => trivial)); replace HB2 := am hb; clear hi hb hk hBL0)
               obtain ⟨hg_, vc, vs, h1, h2, h3⟩ := HI.out
               obtain ⟨Ac, cc, ec⟩ := Kd.S_slice h2
               subst ec
               have HBL := am (blk_drew h1)
               have HSc := am (Kd.S_drew h2)
               have HRs := am (Kd.R_drew h3)
               replace HB2 := am (below_drew1 HB2.out)
               replace HS := am (Kd.R_drew HS.out)
               clear HI hg_ h1 h2 h3
               refine start_ (n := 23) (S := fun w' => w'.cell? ⟨g, 1, none⟩ = some (.int .i64 (wrap64 (row2 + 1))) ∧ w'.cell? ⟨g, 2, none⟩ = some (.int .i64 (0)) ∧ w'.cell? ⟨g, 3, none⟩ = some (.slice Ac cs2.length cc)) (ds := [22]) pt13.a0 (by kernel_rfl) rfl rfl ⟨bc HBL.out 1, bc HBL.out 2, bc HBL.out 3⟩ (fun hHeld => ?_); refine with_tabW pt13.tab pt13.bits (fun HT_ HW_ => ?_)
               generalize w6.drew = w5 at HBL HSc HRs HB2 HS hHeld ⊢
               refine pu_ 0 (some 70) ?_ pt13.a1 rfl rfl HT_.out (by kernel_rfl) (fun _ _ _ h => h) (Or.inl ⟨by rfl, ?_⟩) ?_ ?_ ?_; rotate_left
               ·intro w'; go_simp; with_reducible rfl
               rotate_left
               ·simp only [Act.put, sa_, s0_, ss_, i64_w, i32_w]; rfl
               refine pu_ 1 (some 71) ?_ pt13.a2 rfl rfl HT_.out (by kernel_rfl) (fun _ _ _ h => h) (Or.inl ⟨by rfl, ?_⟩) ?_ ?_ ?_; rotate_left
               ·intro w'; go_simp; with_reducible rfl
               rotate_left
               ·simp only [Act.put, sa_, s0_, ss_, i64_w, i32_w]; rfl
               refine pu_ 2 (some 72) ?_ pt13.a3 rfl rfl HT_.out (by kernel_rfl) (fun _ _ _ h => h) (Or.inl ⟨by rfl, ?_⟩) ?_ ?_ ?_; rotate_left
               ·intro w'; go_simp; with_reducible rfl
               rotate_left
               ·simp only [Act.put, sa_, s0_, ss_, i64_w, i32_w]; rfl
               refine pu_ 3 (some 73) ?_ pt13.a4 rfl rfl HT_.out (by kernel_rfl) (fun _ _ _ h => h) (Or.inl ⟨by rfl, ?_⟩) ?_ ?_ ?_; rotate_left
               ·intro w'; go_simp; with_reducible rfl
               rotate_left
               ·simp only [Act.put, sa_, s0_, ss_, i64_w, i32_w]; rfl
               refine pu_ 5 (some 75) ?_ pt13.a5 rfl rfl HT_.out (by kernel_rfl) (fun _ _ _ h => h) (Or.inl ⟨by rfl, ?_⟩) ?_ ?_ ?_; rotate_left
               ·intro w'; go_simp; with_reducible rfl
               rotate_left
               ·simp only [Act.put, sa_, s0_, ss_, i64_w, i32_w]; rfl
               refine pu_ 7 (some 77) ?_ pt13.a6 rfl rfl HT_.out (by kernel_rfl) (fun _ _ _ h => h) (Or.inl ⟨by rfl, ?_⟩) ?_ ?_ ?_; rotate_left
               ·intro w'; go_simp; with_reducible rfl
               rotate_left
               ·simp only [Act.put, sa_, s0_, ss_, i64_w, i32_w]; rfl
               refine pu_ 9 (some 79) ?_ pt13.a7 rfl rfl HT_.out (by kernel_rfl) (fun _ _ _ h => h) (Or.inl ⟨by rfl, ?_⟩) ?_ ?_ ?_; rotate_left
               ·intro w'; go_simp; with_reducible rfl
               rotate_left
               ·simp only [Act.put, sa_, s0_, ss_, i64_w, i32_w]; rfl
               refine pu_ 10 (some 80) ?_ pt13.a8 rfl rfl HT_.out (by kernel_rfl) (fun _ _ _ h => h) (Or.inl ⟨by rfl, ?_⟩) ?_ ?_ ?_; rotate_left
               ·intro w'; go_simp; with_reducible rfl
               rotate_left
               ·simp only [Act.put, sa_, s0_, ss_, i64_w, i32_w]; rfl
               refine pu_ 11 (some 81) ?_ pt13.a9 rfl rfl HT_.out (by kernel_rfl) (fun _ _ _ h => h) (Or.inl ⟨by rfl, ?_⟩) ?_ ?_ ?_; rotate_left
               ·intro w'; go_simp; with_reducible rfl
               rotate_left
               ·simp only [Act.put, sa_, s0_, ss_, i64_w, i32_w]; rfl
               refine pu_ 13 (some 83) ?_ pt13.a10 rfl rfl HT_.out (by kernel_rfl) (fun _ _ _ h => h) (Or.inl ⟨by rfl, ?_⟩) ?_ ?_ ?_; rotate_left
               ·intro w'; go_simp; with_reducible rfl
               rotate_left
               ·simp only [Act.put, sa_, s0_, ss_, i64_w, i32_w]; rfl
               refine pu_ 14 (some 84) ?_ pt13.a11 rfl rfl HT_.out (by kernel_rfl) (fun _ _ _ h => h) (Or.inl ⟨by rfl, ?_⟩) ?_ ?_ ?_; rotate_left
               ·intro w'; go_simp; with_reducible rfl
               rotate_left
               ·simp only [Act.put, sa_, s0_, ss_, i64_w, i32_w]; rfl
               refine pu_ 15 (some 85) ?_ pt13.a12 rfl rfl HT_.out (by kernel_rfl) (fun _ _ _ h => h) (Or.inl ⟨by rfl, ?_⟩) ?_ ?_ ?_; rotate_left
               ·intro w'; go_simp; with_reducible rfl
               rotate_left
               ·simp only [Act.put, sa_, s0_, ss_, i64_w, i32_w]; rfl
               refine tk_ 4 (some 74) ?_ pt13.a13 rfl rfl HT_.out HW_.out (by kernel_rfl) (fun _ _ _ h => h) (Or.inl ⟨by rfl, ?_⟩) hHeld ?_ ?_ ?_; rotate_left
               ·rintro w' ⟨s1, s2, s3⟩; go_simp; with_reducible rfl
               rotate_left
               ·simp only [Act.put, sa_, s0_, ss_, i64_w, i32_w]; rfl
               refine tk_ 12 (some 82) ?_ pt13.a14 rfl rfl HT_.out HW_.out (by kernel_rfl) (fun _ _ _ h => h) (Or.inl ⟨by rfl, ?_⟩) hHeld ?_ ?_ ?_; rotate_left
               ·rintro w' ⟨s1, s2, s3⟩; go_simp; with_reducible rfl
               rotate_left
               ·simp only [Act.put, sa_, s0_, ss_, i64_w, i32_w]; rfl
               refine tk_ 16 (some 86) ?_ pt13.a15 rfl rfl HT_.out HW_.out (by kernel_rfl) (fun _ _ _ h => h) (Or.inl ⟨by rfl, ?_⟩) hHeld ?_ ?_ ?_; rotate_left
               ·rintro w' ⟨s1, s2, s3⟩; go_simp; with_reducible rfl
               rotate_left
               ·simp only [Act.put, sa_, s0_, ss_, i64_w, i32_w]; rfl
               refine one_ (i := 6) (N := some 76) pt13.a16 rfl rfl (one_of HT_.out (by kernel_rfl)) (by decide) (fun K hK => ?_)
               refine Kd.R_lit_step (Kd.int .i64) _ 2 ?hg (N := 76) ?hd (xs := ([rd l i] : List Int)) (inner := [.int .i64 (rd l i)]) (ok := fun _ => True) (okp := fun _ => True) ?hr ?hp (fun _ hk => hk) trivial (Below.refl _ _) (Nat.le_refl _) (by simp) ?_; (case hd => rfl); (case hg => rfl); (case hr => first | (go_simp; done) | (go_simp; rfl)); (case hp => exact (Reps.one (show Kd.M (Kd.int .i64) _ _ _ (rd l i) [.int .i64 (rd l i)] from rfl) (Reps.none _ _)))
               intro v6 w6 ho hb hg_ hnew_
               obtain ⟨A6, c6_, e6⟩ := Kd.R_slice ho
               subst e6
               have HN6 : Aside0 (∀ k, some k = (.slice A6 ([rd l i] : List Int).length c6_ : Value).ownBlock → some k ≠ (.slice (some ad) l.length c_s : Value).ownBlock) := ⟨fun k hk he => Nat.lt_irrefl _ (Nat.lt_of_lt_of_le (Kd.R_lt HS.out k he.symm) (Kd.R_base ho k hk.symm))⟩
               replace HBL := am (blk_below HBL.out hb)
               replace HSc := am (Kd.S_elder' HSc.out (Kd.R_base ho) hb)
               replace HRs := am (Kd.R_below HRs.out hb)
               replace HS := am (Kd.R_below HS.out hb)
               have HO6 := am (Kd.R_tight rfl (Kd.R_lower ho HB2.out.size))
               replace HB2 := am (below_step HB2.out hb)
               clear ho hb hg_ hnew_
               refine hK.out _ _ ⟨bc HBL.out 1, bc HBL.out 2, bc HBL.out 3⟩ (fun hHeld => ?_)
               clear hK K
               refine norm_ (a' := ?_) ?_ ?_; rotate_left
               ·show Act.put _ (some 76) _ = _
                simp only [Act.put, sa_, s0_, ss_, i64_w, i32_w]
                rfl
               refine pu_ 8 (some 78) ?_ pt13.a17 rfl rfl HT_.out (by kernel_rfl) (fun _ _ _ h => h) (Or.inl ⟨by rfl, ?_⟩) ?_ ?_ ?_; rotate_left
               ·intro w'; go_simp; with_reducible rfl
               rotate_left
               ·simp only [Act.put, sa_, s0_, ss_, i64_w, i32_w]; rfl
               refine pu_ 17 (some 87) ?_ pt13.a18 rfl rfl HT_.out (by kernel_rfl) (fun _ _ _ h => h) (Or.inl ⟨by rfl, ?_⟩) ?_ ?_ ?_; rotate_left
               ·intro w'; go_simp; with_reducible rfl
               rotate_left
               ·simp only [Act.put, sa_, s0_, ss_, i64_w, i32_w]; rfl
               refine one_ (i := 18) (N := some 88) pt13.a19 rfl rfl (one_of HT_.out (by kernel_rfl)) (by decide) (fun K hK => ?_)
               refine value_ (w1 := ?_) (v := ?_) (by rfl) rfl ?_ ?_; rotate_left 2
               ·go_simp
                constructor
                ·rfl
                ·rfl
               refine hK.out _ _ ⟨bc (blk_alloc HBL.out _) 1, bc (blk_alloc HBL.out _) 2, bc (blk_alloc HBL.out _) 3⟩ (fun hHeld => ?_)
               clear hK K
               refine norm_ (a' := ?_) ?_ ?_; rotate_left
               ·show Act.put _ (some 88) _ = _
                simp only [Act.put, sa_, s0_, ss_, i64_w, i32_w]
                rfl
               refine one_ (i := 19) (N := some 89) pt13.a20 rfl rfl (one_of HT_.out (by kernel_rfl)) (by decide) (fun K hK => ?_)
               refine Kd.S_append_step k85 (w0 := w0) w0.heap.size (by rfl) (.tmp 74) (.tmp 88) 81 85 (.agg #[(.slice none 0 0), (.int .i64 0), (.int .i64 0), (.int .i64 0)]) 48 rfl Try.underlying81 vinfo85 rfl (by decide) (by omega) (.slice Ac cs2.length cc) cs2 (⟨⟨[rd l i], attr⟩, wrap64 (row2 + 1), 0⟩ : S85) [.slice A6 ([rd l i] : List Int).length c6_, .int .i64 attr, .int .i64 (wrap64 (row2 + 1)), .int .i64 (0)] (fun k => True ∧ some k ≠ (.slice (some ad) l.length c_s : Value).ownBlock) (fun k => some k = (.slice A6 ([rd l i] : List Int).length c6_ : Value).ownBlock) rfl rfl ?aP ?aK ?aF ?aO ?aB ?aS ?aL ?_
               (case aP => exact k85_mkM _ _ _ (⟨⟨[rd l i], attr⟩, wrap64 (row2 + 1), 0⟩ : S85) HO6.out)
               (case aK => exact fun k hk => ⟨⟨trivial, HN6.out k hk⟩, fun he => ((Kd.S_R HSc.out).1 k he.symm).2 hk⟩)
               (case aF => exact fun k hk => ⟨trivial, fun he => Nat.lt_irrefl _ (Nat.lt_of_lt_of_le (Kd.R_lt HS.out k he.symm) hk)⟩)
               (case aO => exact Kd.S_mono HSc.out (fun k hk => ⟨hk.1, fun e_ => hk.2 e_⟩))
               (case aB => exact HB2.out)
               (case aS => exact HB2.out.size)
               (case aL => have := HL5.out; omega)
               intro v9 w9 ho hb hg hat
               replace HBL := am (blk_grown HBL.out hg (Kd.S_ne HSc.out HBL.out (by decide)))
               replace HRs := am (Kd.R_over' HRs.out (Kd.S_typed HSc.out) (by decide) hg)
               replace HS := am (Kd.R_over' HS.out (Kd.S_typed HSc.out) (by decide) hg)
               replace HB2 := am hb
               obtain ⟨A9, c9_, e9⟩ := Kd.S_slice ho
               generalize (cs2 ++ [(⟨⟨[rd l i], attr⟩, wrap64 (row2 + 1), 0⟩ : S85)]).length = n9 at e9
               subst e9
               have HO9 := am ho
               clear HSc ho hb hg hat HO6 HN6
               refine hK.out _ _ ⟨bc HBL.out 1, bc HBL.out 2, bc HBL.out 3⟩ (fun hHeld => ?_)
               clear hK K
               refine norm_ (a' := ?_) ?_ ?_; rotate_left
               ·show Act.put _ (some 89) _ = _
                simp only [Act.put, sa_, s0_, ss_, i64_w, i32_w]
                rfl
               refine pu_ 20 (some 90) ?_ pt13.a21 rfl rfl HT_.out (by kernel_rfl) (fun _ _ _ h => h) (Or.inl ⟨by rfl, ?_⟩) ?_ ?_ ?_; rotate_left
               ·intro w'; go_simp; with_reducible rfl
               rotate_left
               ·simp only [Act.put, sa_, s0_, ss_, i64_w, i32_w]; rfl
               refine pu_ 21 (some 91) ?_ pt13.a22 rfl rfl HT_.out (by kernel_rfl) (fun _ _ _ h => h) (Or.inl ⟨by rfl, ?_⟩) ?_ ?_ ?_; rotate_left
               ·intro w'; go_simp; with_reducible rfl
               rotate_left
               ·simp only [Act.put, sa_, s0_, ss_, i64_w, i32_w]; rfl
               refine last_ (i := 22) (N := none) pt13.a23 rfl rfl (one_of HT_.out (by kernel_rfl)) (by decide) (fun K hK => ?_)
               have hs14 := bc HBL.out 3
               have hfs14 := blk_frozen HBL.out 3
               refine skip_ (w1 := ?_) (by rfl) rfl ?_ ?_
               rotate_left
               ·go_simp
                rfl
               refine hK.out _ _ ?_
               clear hK K
               refine done_ (done_of HT_.out (by kernel_rfl)) ?_
               have HI9 : Aside0 (LS (fun k => True ∧ some k ≠ (.slice (some ad) l.length c_s : Value).ownBlock) w0 (w9.setCell ⟨g, 3, none⟩ (.slice A9 n9 c9_)) g cols (wrap64 (row2 + 1)) (0) (cs2 ++ [(⟨⟨[rd l i], attr⟩, wrap64 (row2 + 1), 0⟩ : S85)]) false sp) := ⟨⟨HG.out, _, vs, blk_put HBL.out 3 _ rfl, Kd.S_set HO9.out HBL.out (by decide) _ _, Kd.R_set HRs.out HBL.out (by decide) _ _⟩⟩
               have HB9 := am (below_set (j := 3) (v := (.slice A9 n9 c9_)) HB2.out HG.out)
               have HS9 := am (Kd.R_set HS.out HBL.out (by decide) 3 (.slice A9 n9 c9_))
               clear HBL HO9 HRs HB2 HS hHeld hs14 hfs14
               generalize (w9.setCell ⟨g, 3, none⟩ (.slice A9 n9 c9_)) = w16 at HI9 HB9 HS9 ⊢
               obtain ⟨_, vc, _, h1, _, _⟩ := HI9.out
               have hz2 := bc h1 2
               have hz4 := bc h1 4
               have hf2 := blk_frozen h1 2
               have hf4 := blk_frozen h1 4
               have HBL := am h1
               clear h1
               go_wp2
               go_roundg k1
               case measure => have := HK1.out; omega
               case rel => exact ⟨wrap64 (i + 1), (wrap64 (row2 + 1)), wrap64 wd, cs2 ++ [(⟨⟨[rd l i], attr⟩, wrap64 (row2 + 1), 0⟩ : S85)], true, (by first | rfl | (simp; done)), H', ⟨by have := HK1.out; omega⟩, ⟨LS_inR (LS_col HI9.out _) _⟩, ⟨below_set (below_set HB9.out HG.out) HG.out⟩, ⟨Kd.R_set (Kd.R_set HS9.out HBL.out (by decide) _ _) (blk_put HBL.out 2 _ rfl) (by decide) _ _⟩⟩
             · rw [if_neg c6] at H
               have c6b : decide (wrap64 (cols - col2) < wd) = false := decide_eq_false c6
               clear c6
               have H' := am H
               clear H
               go_wp2_with (go_at_call 76; refine (impl_WidthOf.calls k1 _ wd _ AW.out).mono ?_; rintro e w4 ⟨rfl, hb⟩; replace HI := am (LS_below HI.out hb); replace HB2 := am (below_step HB2.out hb); replace HS := am (Kd.R_below HS.out hb); clear hb; obtain ⟨hg_, vc, vs, h1, h2, h3⟩ := HI.out; have hz0 := bc h1 0; have hz1 := bc h1 1; have hz2 := bc h1 2; have hz3 := bc h1 3; have HBL := am h1; clear h1 h2 h3 hg_)
               go_quiet ((fail))
               clear hz0 hz1 hz2 hz3 HBL
               go_wp2
               replace HI := am (LS_below HI.out (pw_below_drewN (Below.refl _ _) nq))
               replace HB2 := am (pw_below_drewN HB2.out nq)
               replace HS := am (Kd.R_drewN HS.out nq)
               obtain ⟨hg_, vc, vs, h1, h2, h3⟩ := HI.out
               obtain ⟨Ac, cc, ec⟩ := Kd.S_slice h2
               subst ec
               have HBL := am (blk_drew h1)
               have HSc := am (Kd.S_drew h2)
               have HRs := am (Kd.R_drew h3)
               replace HB2 := am (below_drew1 HB2.out)
               replace HS := am (Kd.R_drew HS.out)
               clear HI hg_ h1 h2 h3
               refine start_ (n := 23) (S := fun w' => w'.cell? ⟨g, 1, none⟩ = some (.int .i64 (row2)) ∧ w'.cell? ⟨g, 2, none⟩ = some (.int .i64 (col2)) ∧ w'.cell? ⟨g, 3, none⟩ = some (.slice Ac cs2.length cc)) (ds := [22]) pt13.a0 (by kernel_rfl) rfl rfl ⟨bc HBL.out 1, bc HBL.out 2, bc HBL.out 3⟩ (fun hHeld => ?_); refine with_tabW pt13.tab pt13.bits (fun HT_ HW_ => ?_)
               generalize (w4.drewN nq).drew = w5 at HBL HSc HRs HB2 HS hHeld ⊢
               refine pu_ 0 (some 70) ?_ pt13.a1 rfl rfl HT_.out (by kernel_rfl) (fun _ _ _ h => h) (Or.inl ⟨by rfl, ?_⟩) ?_ ?_ ?_; rotate_left
               ·intro w'; go_simp; with_reducible rfl
               rotate_left
               ·simp only [Act.put, sa_, s0_, ss_, i64_w, i32_w]; rfl
               refine pu_ 1 (some 71) ?_ pt13.a2 rfl rfl HT_.out (by kernel_rfl) (fun _ _ _ h => h) (Or.inl ⟨by rfl, ?_⟩) ?_ ?_ ?_; rotate_left
               ·intro w'; go_simp; with_reducible rfl
               rotate_left
               ·simp only [Act.put, sa_, s0_, ss_, i64_w, i32_w]; rfl
               refine pu_ 2 (some 72) ?_ pt13.a3 rfl rfl HT_.out (by kernel_rfl) (fun _ _ _ h => h) (Or.inl ⟨by rfl, ?_⟩) ?_ ?_ ?_; rotate_left
               ·intro w'; go_simp; with_reducible rfl
               rotate_left
               ·simp only [Act.put, sa_, s0_, ss_, i64_w, i32_w]; rfl
               refine pu_ 3 (some 73) ?_ pt13.a4 rfl rfl HT_.out (by kernel_rfl) (fun _ _ _ h => h) (Or.inl ⟨by rfl, ?_⟩) ?_ ?_ ?_; rotate_left
               ·intro w'; go_simp; with_reducible rfl
               rotate_left
               ·simp only [Act.put, sa_, s0_, ss_, i64_w, i32_w]; rfl
               refine pu_ 5 (some 75) ?_ pt13.a5 rfl rfl HT_.out (by kernel_rfl) (fun _ _ _ h => h) (Or.inl ⟨by rfl, ?_⟩) ?_ ?_ ?_; rotate_left
               ·intro w'; go_simp; with_reducible rfl
               rotate_left
               ·simp only [Act.put, sa_, s0_, ss_, i64_w, i32_w]; rfl
               refine pu_ 7 (some 77) ?_ pt13.a6 rfl rfl HT_.out (by kernel_rfl) (fun _ _ _ h => h) (Or.inl ⟨by rfl, ?_⟩) ?_ ?_ ?_; rotate_left
               ·intro w'; go_simp; with_reducible rfl
               rotate_left
               ·simp only [Act.put, sa_, s0_, ss_, i64_w, i32_w]; rfl
               refine pu_ 9 (some 79) ?_ pt13.a7 rfl rfl HT_.out (by kernel_rfl) (fun _ _ _ h => h) (Or.inl ⟨by rfl, ?_⟩) ?_ ?_ ?_; rotate_left
               ·intro w'; go_simp; with_reducible rfl
               rotate_left
               ·simp only [Act.put, sa_, s0_, ss_, i64_w, i32_w]; rfl
               refine pu_ 10 (some 80) ?_ pt13.a8 rfl rfl HT_.out (by kernel_rfl) (fun _ _ _ h => h) (Or.inl ⟨by rfl, ?_⟩) ?_ ?_ ?_; rotate_left
               ·intro w'; go_simp; with_reducible rfl
               rotate_left
               ·simp only [Act.put, sa_, s0_, ss_, i64_w, i32_w]; rfl
               refine pu_ 11 (some 81) ?_ pt13.a9 rfl rfl HT_.out (by kernel_rfl) (fun _ _ _ h => h) (Or.inl ⟨by rfl, ?_⟩) ?_ ?_ ?_; rotate_left
               ·intro w'; go_simp; with_reducible rfl
               rotate_left
               ·simp only [Act.put, sa_, s0_, ss_, i64_w, i32_w]; rfl
               refine pu_ 13 (some 83) ?_ pt13.a10 rfl rfl HT_.out (by kernel_rfl) (fun _ _ _ h => h) (Or.inl ⟨by rfl, ?_⟩) ?_ ?_ ?_; rotate_left
               ·intro w'; go_simp; with_reducible rfl
               rotate_left
               ·simp only [Act.put, sa_, s0_, ss_, i64_w, i32_w]; rfl
               refine pu_ 14 (some 84) ?_ pt13.a11 rfl rfl HT_.out (by kernel_rfl) (fun _ _ _ h => h) (Or.inl ⟨by rfl, ?_⟩) ?_ ?_ ?_; rotate_left
               ·intro w'; go_simp; with_reducible rfl
               rotate_left
               ·simp only [Act.put, sa_, s0_, ss_, i64_w, i32_w]; rfl
               refine pu_ 15 (some 85) ?_ pt13.a12 rfl rfl HT_.out (by kernel_rfl) (fun _ _ _ h => h) (Or.inl ⟨by rfl, ?_⟩) ?_ ?_ ?_; rotate_left
               ·intro w'; go_simp; with_reducible rfl
               rotate_left
               ·simp only [Act.put, sa_, s0_, ss_, i64_w, i32_w]; rfl
               refine tk_ 4 (some 74) ?_ pt13.a13 rfl rfl HT_.out HW_.out (by kernel_rfl) (fun _ _ _ h => h) (Or.inl ⟨by rfl, ?_⟩) hHeld ?_ ?_ ?_; rotate_left
               ·rintro w' ⟨s1, s2, s3⟩; go_simp; with_reducible rfl
               rotate_left
               ·simp only [Act.put, sa_, s0_, ss_, i64_w, i32_w]; rfl
               refine tk_ 12 (some 82) ?_ pt13.a14 rfl rfl HT_.out HW_.out (by kernel_rfl) (fun _ _ _ h => h) (Or.inl ⟨by rfl, ?_⟩) hHeld ?_ ?_ ?_; rotate_left
               ·rintro w' ⟨s1, s2, s3⟩; go_simp; with_reducible rfl
               rotate_left
               ·simp only [Act.put, sa_, s0_, ss_, i64_w, i32_w]; rfl
               refine tk_ 16 (some 86) ?_ pt13.a15 rfl rfl HT_.out HW_.out (by kernel_rfl) (fun _ _ _ h => h) (Or.inl ⟨by rfl, ?_⟩) hHeld ?_ ?_ ?_; rotate_left
               ·rintro w' ⟨s1, s2, s3⟩; go_simp; with_reducible rfl
               rotate_left
               ·simp only [Act.put, sa_, s0_, ss_, i64_w, i32_w]; rfl
               refine one_ (i := 6) (N := some 76) pt13.a16 rfl rfl (one_of HT_.out (by kernel_rfl)) (by decide) (fun K hK => ?_)
               refine Kd.R_lit_step (Kd.int .i64) _ 2 ?hg (N := 76) ?hd (xs := ([rd l i] : List Int)) (inner := [.int .i64 (rd l i)]) (ok := fun _ => True) (okp := fun _ => True) ?hr ?hp (fun _ hk => hk) trivial (Below.refl _ _) (Nat.le_refl _) (by simp) ?_; (case hd => rfl); (case hg => rfl); (case hr => first | (go_simp; done) | (go_simp; rfl)); (case hp => exact (Reps.one (show Kd.M (Kd.int .i64) _ _ _ (rd l i) [.int .i64 (rd l i)] from rfl) (Reps.none _ _)))
               intro v6 w6 ho hb hg_ hnew_
               obtain ⟨A6, c6_, e6⟩ := Kd.R_slice ho
               subst e6
               have HN6 : Aside0 (∀ k, some k = (.slice A6 ([rd l i] : List Int).length c6_ : Value).ownBlock → some k ≠ (.slice (some ad) l.length c_s : Value).ownBlock) := ⟨fun k hk he => Nat.lt_irrefl _ (Nat.lt_of_lt_of_le (Kd.R_lt HS.out k he.symm) (Kd.R_base ho k hk.symm))⟩
               replace HBL := am (blk_below HBL.out hb)
               replace HSc := am (Kd.S_elder' HSc.out (Kd.R_base ho) hb)
               replace HRs := am (Kd.R_below HRs.out hb)
               replace HS := am (Kd.R_below HS.out hb)
               have HO6 := am (Kd.R_tight rfl (Kd.R_lower ho HB2.out.size))
               replace HB2 := am (below_step HB2.out hb)
               clear ho hb hg_ hnew_
               refine hK.out _ _ ⟨bc HBL.out 1, bc HBL.out 2, bc HBL.out 3⟩ (fun hHeld => ?_)
               clear hK K
               refine norm_ (a' := ?_) ?_ ?_; rotate_left
               ·show Act.put _ (some 76) _ = _
                simp only [Act.put, sa_, s0_, ss_, i64_w, i32_w]
                rfl
               refine pu_ 8 (some 78) ?_ pt13.a17 rfl rfl HT_.out (by kernel_rfl) (fun _ _ _ h => h) (Or.inl ⟨by rfl, ?_⟩) ?_ ?_ ?_; rotate_left
               ·intro w'; go_simp; with_reducible rfl
               rotate_left
               ·simp only [Act.put, sa_, s0_, ss_, i64_w, i32_w]; rfl
               refine pu_ 17 (some 87) ?_ pt13.a18 rfl rfl HT_.out (by kernel_rfl) (fun _ _ _ h => h) (Or.inl ⟨by rfl, ?_⟩) ?_ ?_ ?_; rotate_left
               ·intro w'; go_simp; with_reducible rfl
               rotate_left
               ·simp only [Act.put, sa_, s0_, ss_, i64_w, i32_w]; rfl
               refine one_ (i := 18) (N := some 88) pt13.a19 rfl rfl (one_of HT_.out (by kernel_rfl)) (by decide) (fun K hK => ?_)
               refine value_ (w1 := ?_) (v := ?_) (by rfl) rfl ?_ ?_; rotate_left 2
               ·go_simp
                constructor
                ·rfl
                ·rfl
               refine hK.out _ _ ⟨bc (blk_alloc HBL.out _) 1, bc (blk_alloc HBL.out _) 2, bc (blk_alloc HBL.out _) 3⟩ (fun hHeld => ?_)
               clear hK K
               refine norm_ (a' := ?_) ?_ ?_; rotate_left
               ·show Act.put _ (some 88) _ = _
                simp only [Act.put, sa_, s0_, ss_, i64_w, i32_w]
                rfl
               refine one_ (i := 19) (N := some 89) pt13.a20 rfl rfl (one_of HT_.out (by kernel_rfl)) (by decide) (fun K hK => ?_)
               refine Kd.S_append_step k85 (w0 := w0) w0.heap.size (by rfl) (.tmp 74) (.tmp 88) 81 85 (.agg #[(.slice none 0 0), (.int .i64 0), (.int .i64 0), (.int .i64 0)]) 48 rfl Try.underlying81 vinfo85 rfl (by decide) (by omega) (.slice Ac cs2.length cc) cs2 (⟨⟨[rd l i], attr⟩, row2, col2⟩ : S85) [.slice A6 ([rd l i] : List Int).length c6_, .int .i64 attr, .int .i64 (row2), .int .i64 (col2)] (fun k => True ∧ some k ≠ (.slice (some ad) l.length c_s : Value).ownBlock) (fun k => some k = (.slice A6 ([rd l i] : List Int).length c6_ : Value).ownBlock) rfl rfl ?aP ?aK ?aF ?aO ?aB ?aS ?aL ?_
               (case aP => exact k85_mkM _ _ _ (⟨⟨[rd l i], attr⟩, row2, col2⟩ : S85) HO6.out)
               (case aK => exact fun k hk => ⟨⟨trivial, HN6.out k hk⟩, fun he => ((Kd.S_R HSc.out).1 k he.symm).2 hk⟩)
               (case aF => exact fun k hk => ⟨trivial, fun he => Nat.lt_irrefl _ (Nat.lt_of_lt_of_le (Kd.R_lt HS.out k he.symm) hk)⟩)
               (case aO => exact Kd.S_mono HSc.out (fun k hk => ⟨hk.1, fun e_ => hk.2 e_⟩))
               (case aB => exact HB2.out)
               (case aS => exact HB2.out.size)
               (case aL => have := HL5.out; omega)
               intro v9 w9 ho hb hg hat
               replace HBL := am (blk_grown HBL.out hg (Kd.S_ne HSc.out HBL.out (by decide)))
               replace HRs := am (Kd.R_over' HRs.out (Kd.S_typed HSc.out) (by decide) hg)
               replace HS := am (Kd.R_over' HS.out (Kd.S_typed HSc.out) (by decide) hg)
               replace HB2 := am hb
               obtain ⟨A9, c9_, e9⟩ := Kd.S_slice ho
               generalize (cs2 ++ [(⟨⟨[rd l i], attr⟩, row2, col2⟩ : S85)]).length = n9 at e9
               subst e9
               have HO9 := am ho
               clear HSc ho hb hg hat HO6 HN6
               refine hK.out _ _ ⟨bc HBL.out 1, bc HBL.out 2, bc HBL.out 3⟩ (fun hHeld => ?_)
               clear hK K
               refine norm_ (a' := ?_) ?_ ?_; rotate_left
               ·show Act.put _ (some 89) _ = _
                simp only [Act.put, sa_, s0_, ss_, i64_w, i32_w]
                rfl
               refine pu_ 20 (some 90) ?_ pt13.a21 rfl rfl HT_.out (by kernel_rfl) (fun _ _ _ h => h) (Or.inl ⟨by rfl, ?_⟩) ?_ ?_ ?_; rotate_left
               ·intro w'; go_simp; with_reducible rfl
               rotate_left
               ·simp only [Act.put, sa_, s0_, ss_, i64_w, i32_w]; rfl
               refine pu_ 21 (some 91) ?_ pt13.a22 rfl rfl HT_.out (by kernel_rfl) (fun _ _ _ h => h) (Or.inl ⟨by rfl, ?_⟩) ?_ ?_ ?_; rotate_left
               ·intro w'; go_simp; with_reducible rfl
               rotate_left
               ·simp only [Act.put, sa_, s0_, ss_, i64_w, i32_w]; rfl
               refine last_ (i := 22) (N := none) pt13.a23 rfl rfl (one_of HT_.out (by kernel_rfl)) (by decide) (fun K hK => ?_)
               have hs14 := bc HBL.out 3
               have hfs14 := blk_frozen HBL.out 3
               refine skip_ (w1 := ?_) (by rfl) rfl ?_ ?_
               rotate_left
               ·go_simp
                rfl
               refine hK.out _ _ ?_
               clear hK K
               refine done_ (done_of HT_.out (by kernel_rfl)) ?_
               have HI9 : Aside0 (LS (fun k => True ∧ some k ≠ (.slice (some ad) l.length c_s : Value).ownBlock) w0 (w9.setCell ⟨g, 3, none⟩ (.slice A9 n9 c9_)) g cols (row2) (col2) (cs2 ++ [(⟨⟨[rd l i], attr⟩, row2, col2⟩ : S85)]) in2 sp) := ⟨⟨HG.out, _, vs, blk_put HBL.out 3 _ rfl, Kd.S_set HO9.out HBL.out (by decide) _ _, Kd.R_set HRs.out HBL.out (by decide) _ _⟩⟩
               have HB9 := am (below_set (j := 3) (v := (.slice A9 n9 c9_)) HB2.out HG.out)
               have HS9 := am (Kd.R_set HS.out HBL.out (by decide) 3 (.slice A9 n9 c9_))
               clear HBL HO9 HRs HB2 HS hHeld hs14 hfs14
               generalize (w9.setCell ⟨g, 3, none⟩ (.slice A9 n9 c9_)) = w16 at HI9 HB9 HS9 ⊢
               obtain ⟨_, vc, _, h1, _, _⟩ := HI9.out
               have hz2 := bc h1 2
               have hz4 := bc h1 4
               have hf2 := blk_frozen h1 2
               have hf4 := blk_frozen h1 4
               have HBL := am h1
               clear h1
               go_wp2
               go_roundg k1
               case measure => have := HK1.out; omega
               case rel => exact ⟨wrap64 (i + 1), (row2), wrap64 (col2 + wd), cs2 ++ [(⟨⟨[rd l i], attr⟩, row2, col2⟩ : S85)], true, (by first | rfl | (simp; done)), H', ⟨by have := HK1.out; omega⟩, ⟨LS_inR (LS_col HI9.out _) _⟩, ⟨below_set (below_set HB9.out HG.out) HG.out⟩, ⟨Kd.R_set (Kd.R_set HS9.out HBL.out (by decide) _ _) (blk_put HBL.out 2 _ rfl) (by decide) _ _⟩⟩
           · rw [if_neg c5] at H
             cases H
       · rw [if_neg c3] at H
         cases H
     · rw [if_neg c2] at H
       simp only [Option.some.injEq, Prod.mk.injEq] at H
       obtain ⟨rfl, rfl, rfl, rfl⟩ := H
       have c2b : decide (i < (l.length : Int)) = false := decide_eq_false c2
       clear c2
       go_wp2
       first | go_end0 | ((try simp only [Exit.inBlock, Exit.then]); refine bodyPost_ret (results_none rfl _ _ _) rfl ?_)
       exact ⟨by first | rfl | (simp; done), LS_mono HI.out (fun _ _ => trivial), HB2.out⟩

def ly11.T : Bool × List (List Nat × List Nat) := (true, [([], []), ([], []), ([1], [1]), ([2], [2]), ([3], [3]), ([], []), ([5], [5]), ([6], [6]), ([4, 7, 6], [4, 7]), ([0, 0, 1, 2, 3, 4, 5, 6, 7, 8], [0]), ([9, 0, 1, 2, 3, 4, 5, 6, 7, 8], [9]), ([10, 8, 8, 0, 1, 2, 3, 4, 5, 6, 7, 8], [8, 10])])
def ly11.B : List Nat := [0, 0, 2, 6, 14, 0, 32, 96, 254, 511, 1023, 2047]
theorem ly11.tab : rtab .any (opsOf Try.f49 11) = ly11.T := by kernel_rfl
theorem ly11.bits : waitsOk ly11.T.2 ly11.B = true := by kernel_rfl
@[reducible] def ly11.a0 : Array Bool := (br true [0, 12]).toArray
@[reducible] def ly11.a1 : Array Bool := (br true [1, 11]).toArray
@[reducible] def ly11.a2 : Array Bool := (br true [2, 10]).toArray
@[reducible] def ly11.a3 : Array Bool := (br true [3, 9]).toArray
@[reducible] def ly11.a4 : Array Bool := (br true [4, 8]).toArray
@[reducible] def ly11.a5 : Array Bool := (br true [4, 1, 1, 6]).toArray
@[reducible] def ly11.a6 : Array Bool := (br true [6, 6]).toArray
@[reducible] def ly11.a7 : Array Bool := (br true [7, 5]).toArray
@[reducible] def ly11.a8 : Array Bool := (br true [8, 4]).toArray
@[reducible] def ly11.a9 : Array Bool := (br true [9, 3]).toArray
@[reducible] def ly11.a10 : Array Bool := (br true [10, 2]).toArray
@[reducible] def ly11.a11 : Array Bool := (br true [11, 1]).toArray
@[reducible] def ly11.a12 : Array Bool := (br true [12]).toArray
def ly17.T : Bool × List (List Nat × List Nat) := (true, [([], []), ([], []), ([1], [1]), ([2], [2]), ([3], [3]), ([], []), ([5], [5]), ([6], [6]), ([4, 7, 6], [4, 7]), ([0, 0, 1, 2, 3, 4, 5, 6, 7, 8], [0]), ([9, 0, 1, 2, 3, 4, 5, 6, 7, 8], [9]), ([10, 8, 8, 0, 1, 2, 3, 4, 5, 6, 7, 8], [8, 10])])
def ly17.B : List Nat := [0, 0, 2, 6, 14, 0, 32, 96, 254, 511, 1023, 2047]
theorem ly17.tab : rtab .any (opsOf Try.f49 17) = ly17.T := by kernel_rfl
theorem ly17.bits : waitsOk ly17.T.2 ly17.B = true := by kernel_rfl
@[reducible] def ly17.a0 : Array Bool := (br true [0, 12]).toArray
@[reducible] def ly17.a1 : Array Bool := (br true [1, 11]).toArray
@[reducible] def ly17.a2 : Array Bool := (br true [2, 10]).toArray
@[reducible] def ly17.a3 : Array Bool := (br true [3, 9]).toArray
@[reducible] def ly17.a4 : Array Bool := (br true [4, 8]).toArray
@[reducible] def ly17.a5 : Array Bool := (br true [4, 1, 1, 6]).toArray
@[reducible] def ly17.a6 : Array Bool := (br true [6, 6]).toArray
@[reducible] def ly17.a7 : Array Bool := (br true [7, 5]).toArray
@[reducible] def ly17.a8 : Array Bool := (br true [8, 4]).toArray
@[reducible] def ly17.a9 : Array Bool := (br true [9, 3]).toArray
@[reducible] def ly17.a10 : Array Bool := (br true [10, 2]).toArray
@[reducible] def ly17.a11 : Array Bool := (br true [11, 1]).toArray
@[reducible] def ly17.a12 : Array Bool := (br true [12]).toArray
def lyA (cols : Int) : Nat → List Int → Int → Int → Int → List S85 → Bool → Option (Int × Int × List S85 × Bool)
 | 0, _, _, _, _, _, _ => none
 | k + 1, l, i, row, col, cs, inR => if i < (l.length : Int) then (if 0 ≤ i then ((ptF k (rd l i) 0 cols row col cs inR).bind fun t => lyA cols k l (wrap64 (i + 1)) t.1 t.2.1 t.2.2.1 t.2.2.2) else none) else some (row, col, cs, inR)
def lyB (cols : Int) (region : Bool) (fr tw : Int) : Nat → List Int → Int → Int → Int → List S85 → Bool → List S45 → Option (Int × Int × List S85 × Bool × List S45)
 | 0, _, _, _, _, _, _, _ => none
 | k + 1, l, i, row, col, cs, inR, sp => if i < (l.length : Int) then (if 0 ≤ i then (if sp.length ≤ 1000000 then ((impl_layout_spot.f cols row col cs inR sp).bind fun q => (if region = true then impl_within.f i fr (wrap64 (tw - 1)) else some false).bind fun b => ((ptF k (rd l i) (if b = true then 1 else 0) cols row col cs inR).bind fun t => lyB cols region fr tw k l (wrap64 (i + 1)) t.1 t.2.1 t.2.2.1 t.2.2.2 (sp ++ [⟨q.1, q.2⟩]))) else none) else none) else some (row, col, cs, inR, sp)
def lyF (k : Nat) (l0 l1 : List Int) (a1 a2 : Int) (region : Bool) (cols : Int) : Option (Int × Int × List S85 × Bool × List S45) :=
 (lyA cols k l0 0 0 0 [] false).bind fun t => (impl_Buf_region.f l1 a1 a2).bind fun u => (lyB cols region u.1 u.2 k l1 0 t.1 t.2.1 t.2.2.1 t.2.2.2 []).bind fun v => if v.2.2.2.2.length ≤ 1000000 then ((impl_layout_spot.f cols v.1 v.2.1 v.2.2.1 v.2.2.2.1 v.2.2.2.2).bind fun q => some (v.1, v.2.1, v.2.2.1, v.2.2.2.1, v.2.2.2.2 ++ [⟨q.1, q.2⟩])) else none
theorem LS_lower {okc : Nat → Prop} {w0 w0' w : World} {g : Nat} {cols row col : Int} {cs : List S85} {inR : Bool} {sp : List S45} (h : LS okc w0 w g cols row col cs inR sp) (hl : w0'.heap.size ≤ w0.heap.size) : LS okc w0' w g cols row col cs inR sp := by
 obtain ⟨hg, vc, vs, h1, h2, h3⟩ := h
 exact ⟨Nat.le_trans hl hg, vc, vs, h1, Kd.S_lower h2 hl, Kd.R_lower h3 hl⟩
theorem impl_lay.calls (k : Nat) (A0 : Option Addr) (c0 : Nat) (l0 : List Int) (A1 : Option Addr) (c1 : Nat) (l1 : List Int) (a1 a2 : Int) (region : Bool) (cols : Int) (row' col' : Int) (cs' : List S85) (inR' : Bool) (sp' : List S45) (w : World) (hr0 : Kd.C (Kd.int .i64) w A0 l0.length l0) (hc0 : l0.length ≤ c0) (hr1 : Kd.C (Kd.int .i64) w A1 l1.length l1) (hc1 : l1.length ≤ c1) (h : lyF k l0 l1 a1 a2 region cols = some (row', col', cs', inR', sp')) :
  Calls Try.prog 49 #[.slice A0 l0.length c0, .agg #[.slice A1 l1.length c1, .int .i64 a1, .int .i64 a2], .bool region, .int .i64 cols] w fun e w' => ∃ g, e = .returned (.pointer (some ⟨g, 0, none⟩)) ∧ LS (fun _ => True) w w' g cols row' col' cs' inR' sp' ∧ Below w.heap.size w w' := by
 have HR0 := am hr0
 have HC0 := am hc0
 have HR1 := am hr1
 have HC1 := am hc1
 clear hr0 hc0 hr1 hc1
 have HB := am (Below.refl w.heap.size w)
 unfold lyF at h
 obtain ⟨⟨row1, col1, cs1, in1⟩, A40, h⟩ := Option.bind_eq_some_iff.mp h
 obtain ⟨⟨fr, tw⟩, A50, h⟩ := Option.bind_eq_some_iff.mp h
 obtain ⟨⟨row2, col2, cs2, in2, sp2⟩, A60, h⟩ := Option.bind_eq_some_iff.mp h
 replace h : (if sp2.length ≤ 1000000 then ((impl_layout_spot.f cols row2 col2 cs2 in2 sp2).bind fun q => some (row2, col2, cs2, in2, sp2 ++ [⟨q.1, q.2⟩])) else none) = some (row', col', cs', inR', sp') := h
 by_cases c7 : sp2.length ≤ 1000000
 rotate_left
 · rw [if_neg c7] at h; cases h
 rw [if_pos c7] at h
 obtain ⟨⟨q1, q2⟩, A70, h⟩ := Option.bind_eq_some_iff.mp h
 simp only [Option.some.injEq, Prod.mk.injEq] at h
 obtain ⟨rfl, rfl, rfl, rfl, rfl⟩ := h
 have HL7 := am c7
 have A4 := am A40
 have A5 := am A50
 have A6 := am (show lyB cols region fr tw k l1 0 row1 col1 cs1 in1 [] = some (row2, col2, cs2, in2, sp2) from A60)
 have AQ7 := am A70
 clear A40 A50 A60 A70 c7
 go_enter Try.func49, Try.ntmps49
 go_wp2_with (first | ((with_reducible refine gate_dst (N := 5) rfl ?_); refine box_event ?hg (N := 5) ?hd (cs := #[.slice A1 l1.length c1, .int .i64 a1, .int .i64 a2]) (t := 33) ?hr ?_; (case hd => rfl); (case hg => rfl); (case hr => first | (go_simp; done) | (go_simp; rfl)); intro gb hg wb hbox hb; have BK := am hbox; replace HB := am (below_step HB.out hb); clear hb hbox hg; have HB2 := am (Below.refl wb.heap.size wb)) | ((with_reducible refine gate_dst (N := 19) rfl ?_); refine box_event ?hg (N := 19) ?hd (cs := #[.int .i64 cols, .int .i64 0, .int .i64 0, .slice none 0 0, .bool false, .slice none 0 0]) (t := 83) ?hr ?_; (case hd => rfl); (case hg => rfl); (case hr => first | (go_simp; done) | (go_simp; rfl)); intro g hg w1 hbox hb; have HI : Aside0 (LS (fun _ => True) wb w1 g cols 0 0 [] false []) := ⟨⟨Nat.le_of_eq hg.symm, _, _, hbox, Kd.S_nil _ _ _ _ _, Kd.R_nil _ _ _ _ _⟩⟩; replace HB2 := am (below_step HB2.out hb); clear hb hbox hg))
 go_loopg [22] k (fun kq v22 w' => ∃ (i row2 col2 : Int) (cs2 : List S85) (in2 : Bool), v22 = .int .i64 i ∧ Aside0 (lyA cols kq l0 i row2 col2 cs2 in2 = some (row1, col1, cs1, in1)) ∧ Aside0 (kq ≤ k) ∧ Aside0 (LS (fun _ => True) wb w' g cols row2 col2 cs2 in2 []) ∧ Aside0 (Below wb.heap.size wb w'))
 case atStart => exact ⟨0, 0, 0, [], false, (by first | rfl | (simp; done)), A4, ⟨Nat.le_refl _⟩, HI, HB2⟩
 case round =>
  clear HI HB2 A4
  obtain ⟨i, row2_, col2_, cs2_, in2_, rfl, HA, HK1, HI, HB2⟩ := hrel
  cases gk with
  | zero => exact absurd HA.out (by simp [lyA])
  | succ k1 =>
   have H := HA.out
   clear HA
   rw [lyA] at H
   by_cases c2 : i < (l0.length : Int)
   · rw [if_pos c2] at H
     by_cases c3 : 0 ≤ i
     · rw [if_pos c3] at H
       obtain ⟨⟨rw_, cl_, cs_, in_⟩, AT0, H⟩ := Option.bind_eq_some_iff.mp H
       have AT := am AT0
       have H' := am H
       clear H AT0
       have c2b : decide (i < (l0.length : Int)) = true := decide_eq_true c2
       obtain ⟨ad, ead, hx⟩ := Kd.at_int (Kd.C_below HR0.out (below_then HB.out HB.out.size HB2.out)) i c3 c2
       have p2 := eq_true c2
       have p3 := eq_true c3
       clear c2 c3
       subst ead
       go_wp2_with (go_at_call 74; refine (impl_layout_point.calls k1 g (rd l0 i) 0 cols row2_ col2_ cs2_ in2_ [] rw_ cl_ cs_ in_ wb _ HI.out HB2.out AT.out).mono ?_; rintro e w4 ⟨rfl, hi, hb⟩; replace HI := am hi; replace HB2 := am hb; clear hi hb)
       go_roundg k1
       case measure => have := HK1.out; omega
       case rel => exact ⟨wrap64 (i + 1), rw_, cl_, cs_, in_, (by first | rfl | (simp; done)), H', ⟨by have := HK1.out; omega⟩, HI, HB2⟩
     · rw [if_neg c3] at H
       cases H
   · rw [if_neg c2] at H
     simp only [Option.some.injEq, Prod.mk.injEq] at H
     obtain ⟨rfl, rfl, rfl, rfl⟩ := H
     have c2b : decide (i < (l0.length : Int)) = false := decide_eq_false c2
     clear c2
     go_wp2_with (go_at_call 75; refine (impl_Buf_region.calls ⟨gb, 0, none⟩ A1 c1 l1 a1 a2 fr tw _ ?s1 ?s2 ?s3 A5.out).mono ?_; (case s1 => exact Kd.C_below HR1.out (below_then HB.out HB.out.size HB2.out)); (case s2 => exact HC1.out); (case s3 => exact AtP.of_blk (blk_below BK.out HB2.out)); rintro e w5 ⟨rfl, hb⟩; replace HI := am (LS_below HI.out hb); replace HB2 := am (below_step HB2.out hb); clear hb; have hb0 := bc (blk_below BK.out HB2.out) 0)
     go_loopg [37] k (fun kq v37 w' => ∃ (i row_ col_ : Int) (cs_ : List S85) (in_ : Bool) (sp_ : List S45), v37 = .int .i64 i ∧ Aside0 (lyB cols region fr tw kq l1 i row_ col_ cs_ in_ sp_ = some (row2, col2, cs2, in2, sp2)) ∧ Aside0 (kq ≤ k) ∧ Aside0 (LS (fun _ => True) wb w' g cols row_ col_ cs_ in_ sp_) ∧ Aside0 (Below wb.heap.size wb w'))
     case atStart => exact ⟨0, row2_, col2_, cs2_, in2_, [], (by first | rfl | (simp; done)), A6, ⟨Nat.le_refl _⟩, HI, HB2⟩
     case round =>
      clear HI HB2 A6 hb0
      obtain ⟨i, row_, col_, cs_, in_, sp_, rfl, HA, HK1, HI, HB2⟩ := hrel
      cases gk with
      | zero => exact absurd HA.out (by simp [lyB])
      | succ k1 =>
       have H := HA.out
       clear HA
       rw [lyB] at H
       by_cases c2 : i < (l1.length : Int)
       · rw [if_pos c2] at H
         by_cases c3 : 0 ≤ i
         · rw [if_pos c3] at H
           by_cases c4 : sp_.length ≤ 1000000
           · rw [if_pos c4] at H
             have HL5 := am c4
             obtain ⟨⟨p1, p2⟩, AQ0, H⟩ := Option.bind_eq_some_iff.mp H
             obtain ⟨b, AB0, H⟩ := Option.bind_eq_some_iff.mp H
             obtain ⟨⟨rw_, cl_, cn_, iw_⟩, AT0, H⟩ := Option.bind_eq_some_iff.mp H
             have AQ := am AQ0
             have AT := am AT0
             have H' := am H
             clear H AQ0 AT0 c4
             have c2b : decide (i < (l1.length : Int)) = true := decide_eq_true c2
             obtain ⟨ad, ead, hx⟩ := Kd.at_int (Kd.C_below HR1.out (below_then HB.out HB.out.size HB2.out)) i c3 c2
             have e2 := eq_true c2
             have e3 := eq_true c3
             clear c2 c3
             subst ead
             cases region with
             | true =>
               have AB := am (show impl_within.f i fr (wrap64 (tw - 1)) = some b from by simpa using AB0)
               clear AB0
               cases b with
               | true =>
                 go_wp2
                 obtain ⟨HG, vc, vs, h1, h2, h3⟩ := HI.out
                 replace HG := am HG
                 obtain ⟨As, ks_, ec⟩ := Kd.R_slice h3
                 subst ec
                 obtain ⟨Ac, cc, ec⟩ := Kd.S_slice h2
                 subst ec
                 have HBL := am (blk_drew h1)
                 have HSc := am (Kd.S_drew h2)
                 have HRs := am (Kd.R_drew h3)
                 replace HB2 := am (below_drew1 HB2.out)
                 clear HI h1 h2 h3
                 refine start_ (n := 12) (S := fun w' => w'.cell? ⟨g, 5, none⟩ = some (.slice As sp_.length ks_) ∧ True) (ds := [11]) ly11.a0 (by kernel_rfl) rfl rfl ⟨bc HBL.out 5, trivial⟩ (fun hHeld => ?_); refine with_tabW ly11.tab ly11.bits (fun HT_ HW_ => ?_)
                 generalize wr.drew = w5 at HBL HSc HRs HB2 hHeld ⊢
                 refine pu_ 0 (some 42) ?_ ly11.a1 rfl rfl HT_.out (by kernel_rfl) (fun _ _ _ h => h) (Or.inl ⟨by rfl, ?_⟩) ?_ ?_ ?_; rotate_left
                 ·intro w'; go_simp; with_reducible rfl
                 rotate_left
                 ·simp only [Act.put, sa_, s0_, ss_, i64_w, i32_w]; rfl
                 refine pu_ 1 (some 43) ?_ ly11.a2 rfl rfl HT_.out (by kernel_rfl) (fun _ _ _ h => h) (Or.inl ⟨by rfl, ?_⟩) ?_ ?_ ?_; rotate_left
                 ·intro w'; go_simp; with_reducible rfl
                 rotate_left
                 ·simp only [Act.put, sa_, s0_, ss_, i64_w, i32_w]; rfl
                 refine pu_ 2 (some 44) ?_ ly11.a3 rfl rfl HT_.out (by kernel_rfl) (fun _ _ _ h => h) (Or.inl ⟨by rfl, ?_⟩) ?_ ?_ ?_; rotate_left
                 ·intro w'; go_simp; with_reducible rfl
                 rotate_left
                 ·simp only [Act.put, sa_, s0_, ss_, i64_w, i32_w]; rfl
                 refine pu_ 3 (some 45) ?_ ly11.a4 rfl rfl HT_.out (by kernel_rfl) (fun _ _ _ h => h) (Or.inl ⟨by rfl, ?_⟩) ?_ ?_ ?_; rotate_left
                 ·intro w'; go_simp; with_reducible rfl
                 rotate_left
                 ·simp only [Act.put, sa_, s0_, ss_, i64_w, i32_w]; rfl
                 refine pu_ 5 (some 47) ?_ ly11.a5 rfl rfl HT_.out (by kernel_rfl) (fun _ _ _ h => h) (Or.inl ⟨by rfl, ?_⟩) ?_ ?_ ?_; rotate_left
                 ·intro w'; go_simp; with_reducible rfl
                 rotate_left
                 ·simp only [Act.put, sa_, s0_, ss_, i64_w, i32_w]; rfl
                 refine tk_ 4 (some 46) ?_ ly11.a6 rfl rfl HT_.out HW_.out (by kernel_rfl) (fun _ _ _ h => h) (Or.inl ⟨by rfl, ?_⟩) hHeld ?_ ?_ ?_; rotate_left
                 ·rintro w' ⟨s1, _⟩; go_simp; with_reducible rfl
                 rotate_left
                 ·simp only [Act.put, sa_, s0_, ss_, i64_w, i32_w]; rfl
                 refine one_ (i := 6) (N := some 48) ly11.a7 rfl rfl (one_of HT_.out (by kernel_rfl)) (by decide) (fun K hK => ?_)
                 refine goes_ Try.func56 (by kernel_rfl) rfl #[.pointer (some ⟨g, 0, none⟩)] (by rfl) rfl rfl (by (try simp only [List.map_toArray, List.map_cons, List.map_nil]); first | done | rfl) ?_
                 with_reducible refine (impl_layout_spot.calls ⟨g, 0, none⟩ cols row_ col_ Ac cc cs_ in_ As ks_ sp_ p1 p2 _ (Kd.S_reads' HSc.out).2.2 (Kd.S_reads' HSc.out).2.1 (Kd.R_reads' HRs.out).2.2 (Kd.R_reads' HRs.out).2.1 (AtP.of_blk HBL.out) AQ.out).mono ?_
                 rintro e w6 ⟨rfl, hb⟩
                 refine ⟨_, rfl, ?_⟩
                 replace HBL := am (blk_below HBL.out hb)
                 replace HSc := am (Kd.S_below HSc.out hb)
                 replace HRs := am (Kd.R_below HRs.out hb)
                 replace HB2 := am (below_step HB2.out hb)
                 clear hb
                 refine hK.out _ _ ⟨bc HBL.out 5, trivial⟩ (fun hHeld => ?_)
                 clear hK K
                 refine norm_ (a' := ?_) ?_ ?_; rotate_left
                 ·show Act.put _ (some 48) _ = _
                  simp only [Act.put, sa_, s0_, ss_, i64_w, i32_w]
                  rfl
                 refine one_ (i := 7) (N := some 49) ly11.a8 rfl rfl (one_of HT_.out (by kernel_rfl)) (by decide) (fun K hK => ?_)
                 refine value_ (w1 := ?_) (v := ?_) (by rfl) rfl ?_ ?_; rotate_left 2
                 ·go_simp
                  constructor
                  ·rfl
                  ·rfl
                 refine hK.out _ _ ⟨bc (blk_alloc HBL.out _) 5, trivial⟩ (fun hHeld => ?_)
                 clear hK K
                 refine norm_ (a' := ?_) ?_ ?_; rotate_left
                 ·show Act.put _ (some 49) _ = _
                  simp only [Act.put, sa_, s0_, ss_, i64_w, i32_w]
                  rfl
                 refine one_ (i := 8) (N := some 50) ly11.a9 rfl rfl (one_of HT_.out (by kernel_rfl)) (by decide) (fun K hK => ?_)
                 refine Kd.R_append_step k45 (w0 := wb) wb.heap.size (by rfl) (.tmp 46) (.tmp 49) 66 45 (.agg #[(.int .i64 0), (.int .i64 0)]) 16 rfl Try.underlying66 vinfo45 rfl (by decide) (by omega) (.slice As sp_.length ks_) sp_ (⟨p1, p2⟩ : S45) [.int .i64 p1, .int .i64 p2] (fun _ => True) (fun _ => False) rfl rfl ?aP (fun _ hk => hk.elim) ?aF ?aO ?aB ?aS ?aL ?_
                 (case aP => exact k45_mkM _ _ _ (⟨p1, p2⟩ : S45))
                 (case aF => exact fun _ _ => trivial)
                 (case aO => exact HRs.out)
                 (case aB => exact HB2.out)
                 (case aS => exact HB2.out.size)
                 (case aL => have := HL5.out; omega)
                 intro v9 w9 ho hb hg hat
                 have hxt : ∀ k, (Value.slice As sp_.length ks_).ownBlock = some k → ∃ cells, w6.heap[k]? = some (.cells cells 45 (0, 0)) := Kd.R_typed HRs.out
                 replace HBL := am (blk_grown HBL.out hg (Kd.R_ne HRs.out HBL.out (by decide)))
                 replace HSc := am (Kd.S_over' HSc.out hxt (by decide) hg)
                 replace HB2 := am hb
                 obtain ⟨A9, c9_, e9⟩ := Kd.R_slice ho
                 generalize (sp_ ++ [(⟨p1, p2⟩ : S45)]).length = n9 at e9
                 subst e9
                 have HO9 := am ho
                 clear HRs ho hb hg hat hxt
                 refine hK.out _ _ ⟨bc HBL.out 5, trivial⟩ (fun hHeld => ?_)
                 clear hK K
                 refine norm_ (a' := ?_) ?_ ?_; rotate_left
                 ·show Act.put _ (some 50) _ = _
                  simp only [Act.put, sa_, s0_, ss_, i64_w, i32_w]
                  rfl
                 refine pu_ 9 (some 51) ?_ ly11.a10 rfl rfl HT_.out (by kernel_rfl) (fun _ _ _ h => h) (Or.inl ⟨by rfl, ?_⟩) ?_ ?_ ?_; rotate_left
                 ·intro w'; go_simp; with_reducible rfl
                 rotate_left
                 ·simp only [Act.put, sa_, s0_, ss_, i64_w, i32_w]; rfl
                 refine pu_ 10 (some 52) ?_ ly11.a11 rfl rfl HT_.out (by kernel_rfl) (fun _ _ _ h => h) (Or.inl ⟨by rfl, ?_⟩) ?_ ?_ ?_; rotate_left
                 ·intro w'; go_simp; with_reducible rfl
                 rotate_left
                 ·simp only [Act.put, sa_, s0_, ss_, i64_w, i32_w]; rfl
                 refine last_ (i := 11) (N := none) ly11.a12 rfl rfl (one_of HT_.out (by kernel_rfl)) (by decide) (fun K hK => ?_)
                 have hs14 := bc HBL.out 5
                 have hfs14 := blk_frozen HBL.out 5
                 refine skip_ (w1 := ?_) (by rfl) rfl ?_ ?_
                 rotate_left
                 ·go_simp
                  rfl
                 refine hK.out _ _ ?_
                 clear hK K
                 refine done_ (done_of HT_.out (by kernel_rfl)) ?_
                 have HI9 : Aside0 (LS (fun _ => True) wb (w9.setCell ⟨g, 5, none⟩ (.slice A9 n9 c9_)) g cols row_ col_ cs_ in_ (sp_ ++ [⟨p1, p2⟩])) := ⟨⟨HG.out, _, _, blk_put HBL.out 5 _ rfl, Kd.S_set HSc.out HBL.out (by decide) _ _, Kd.R_set HO9.out HBL.out (by decide) _ _⟩⟩
                 have HB9 := am (below_set (j := 5) (v := (.slice A9 n9 c9_)) HB2.out HG.out)
                 clear HBL HO9 HSc HB2 hHeld hs14 hfs14
                 generalize (w9.setCell ⟨g, 5, none⟩ (.slice A9 n9 c9_)) = w16 at HI9 HB9 ⊢
                 go_wp2_with (first | (go_at_call 51; (with_reducible refine (impl_within.calls i fr (wrap64 (tw - 1)) true _ AB.out).mono ?_); rintro e w' ⟨rfl, ⟨nd, rfl⟩⟩) | (go_at_call 74; refine (impl_layout_point.calls k1 g (rd l1 i) 1 cols row_ col_ cs_ in_ (sp_ ++ [⟨p1, p2⟩]) rw_ cl_ cn_ iw_ wb _ (by first | exact HI9.out | exact LS_below HI9.out (pw_below_drewN (Below.refl _ _) _)) (by first | exact HB9.out | exact pw_below_drewN HB9.out _) AT.out).mono ?_; rintro e w4 ⟨rfl, hi, hb⟩; have HI := am hi; have HB2 := am hb; clear hi hb))
                 go_roundg k1
                 case measure => have := HK1.out; omega
                 case rel => exact ⟨wrap64 (i + 1), rw_, cl_, cn_, iw_, _, (by first | rfl | (simp; done)), H', ⟨by have := HK1.out; omega⟩, HI, HB2⟩
               | false =>
                 go_wp2
                 obtain ⟨HG, vc, vs, h1, h2, h3⟩ := HI.out
                 replace HG := am HG
                 obtain ⟨As, ks_, ec⟩ := Kd.R_slice h3
                 subst ec
                 obtain ⟨Ac, cc, ec⟩ := Kd.S_slice h2
                 subst ec
                 have HBL := am (blk_drew h1)
                 have HSc := am (Kd.S_drew h2)
                 have HRs := am (Kd.R_drew h3)
                 replace HB2 := am (below_drew1 HB2.out)
                 clear HI h1 h2 h3
                 refine start_ (n := 12) (S := fun w' => w'.cell? ⟨g, 5, none⟩ = some (.slice As sp_.length ks_) ∧ True) (ds := [11]) ly11.a0 (by kernel_rfl) rfl rfl ⟨bc HBL.out 5, trivial⟩ (fun hHeld => ?_); refine with_tabW ly11.tab ly11.bits (fun HT_ HW_ => ?_)
                 generalize wr.drew = w5 at HBL HSc HRs HB2 hHeld ⊢
                 refine pu_ 0 (some 42) ?_ ly11.a1 rfl rfl HT_.out (by kernel_rfl) (fun _ _ _ h => h) (Or.inl ⟨by rfl, ?_⟩) ?_ ?_ ?_; rotate_left
                 ·intro w'; go_simp; with_reducible rfl
                 rotate_left
                 ·simp only [Act.put, sa_, s0_, ss_, i64_w, i32_w]; rfl
                 refine pu_ 1 (some 43) ?_ ly11.a2 rfl rfl HT_.out (by kernel_rfl) (fun _ _ _ h => h) (Or.inl ⟨by rfl, ?_⟩) ?_ ?_ ?_; rotate_left
                 ·intro w'; go_simp; with_reducible rfl
                 rotate_left
                 ·simp only [Act.put, sa_, s0_, ss_, i64_w, i32_w]; rfl
                 refine pu_ 2 (some 44) ?_ ly11.a3 rfl rfl HT_.out (by kernel_rfl) (fun _ _ _ h => h) (Or.inl ⟨by rfl, ?_⟩) ?_ ?_ ?_; rotate_left
                 ·intro w'; go_simp; with_reducible rfl
                 rotate_left
                 ·simp only [Act.put, sa_, s0_, ss_, i64_w, i32_w]; rfl
                 refine pu_ 3 (some 45) ?_ ly11.a4 rfl rfl HT_.out (by kernel_rfl) (fun _ _ _ h => h) (Or.inl ⟨by rfl, ?_⟩) ?_ ?_ ?_; rotate_left
                 ·intro w'; go_simp; with_reducible rfl
                 rotate_left
                 ·simp only [Act.put, sa_, s0_, ss_, i64_w, i32_w]; rfl
                 refine pu_ 5 (some 47) ?_ ly11.a5 rfl rfl HT_.out (by kernel_rfl) (fun _ _ _ h => h) (Or.inl ⟨by rfl, ?_⟩) ?_ ?_ ?_; rotate_left
                 ·intro w'; go_simp; with_reducible rfl
                 rotate_left
                 ·simp only [Act.put, sa_, s0_, ss_, i64_w, i32_w]; rfl
                 refine tk_ 4 (some 46) ?_ ly11.a6 rfl rfl HT_.out HW_.out (by kernel_rfl) (fun _ _ _ h => h) (Or.inl ⟨by rfl, ?_⟩) hHeld ?_ ?_ ?_; rotate_left
                 ·rintro w' ⟨s1, _⟩; go_simp; with_reducible rfl
                 rotate_left
                 ·simp only [Act.put, sa_, s0_, ss_, i64_w, i32_w]; rfl
                 refine one_ (i := 6) (N := some 48) ly11.a7 rfl rfl (one_of HT_.out (by kernel_rfl)) (by decide) (fun K hK => ?_)
                 refine goes_ Try.func56 (by kernel_rfl) rfl #[.pointer (some ⟨g, 0, none⟩)] (by rfl) rfl rfl (by (try simp only [List.map_toArray, List.map_cons, List.map_nil]); first | done | rfl) ?_
                 with_reducible refine (impl_layout_spot.calls ⟨g, 0, none⟩ cols row_ col_ Ac cc cs_ in_ As ks_ sp_ p1 p2 _ (Kd.S_reads' HSc.out).2.2 (Kd.S_reads' HSc.out).2.1 (Kd.R_reads' HRs.out).2.2 (Kd.R_reads' HRs.out).2.1 (AtP.of_blk HBL.out) AQ.out).mono ?_
                 rintro e w6 ⟨rfl, hb⟩
                 refine ⟨_, rfl, ?_⟩
                 replace HBL := am (blk_below HBL.out hb)
                 replace HSc := am (Kd.S_below HSc.out hb)
                 replace HRs := am (Kd.R_below HRs.out hb)
                 replace HB2 := am (below_step HB2.out hb)
                 clear hb
                 refine hK.out _ _ ⟨bc HBL.out 5, trivial⟩ (fun hHeld => ?_)
                 clear hK K
                 refine norm_ (a' := ?_) ?_ ?_; rotate_left
                 ·show Act.put _ (some 48) _ = _
                  simp only [Act.put, sa_, s0_, ss_, i64_w, i32_w]
                  rfl
                 refine one_ (i := 7) (N := some 49) ly11.a8 rfl rfl (one_of HT_.out (by kernel_rfl)) (by decide) (fun K hK => ?_)
                 refine value_ (w1 := ?_) (v := ?_) (by rfl) rfl ?_ ?_; rotate_left 2
                 ·go_simp
                  constructor
                  ·rfl
                  ·rfl
                 refine hK.out _ _ ⟨bc (blk_alloc HBL.out _) 5, trivial⟩ (fun hHeld => ?_)
                 clear hK K
                 refine norm_ (a' := ?_) ?_ ?_; rotate_left
                 ·show Act.put _ (some 49) _ = _
                  simp only [Act.put, sa_, s0_, ss_, i64_w, i32_w]
                  rfl
                 refine one_ (i := 8) (N := some 50) ly11.a9 rfl rfl (one_of HT_.out (by kernel_rfl)) (by decide) (fun K hK => ?_)
                 refine Kd.R_append_step k45 (w0 := wb) wb.heap.size (by rfl) (.tmp 46) (.tmp 49) 66 45 (.agg #[(.int .i64 0), (.int .i64 0)]) 16 rfl Try.underlying66 vinfo45 rfl (by decide) (by omega) (.slice As sp_.length ks_) sp_ (⟨p1, p2⟩ : S45) [.int .i64 p1, .int .i64 p2] (fun _ => True) (fun _ => False) rfl rfl ?aP (fun _ hk => hk.elim) ?aF ?aO ?aB ?aS ?aL ?_
                 (case aP => exact k45_mkM _ _ _ (⟨p1, p2⟩ : S45))
                 (case aF => exact fun _ _ => trivial)
                 (case aO => exact HRs.out)
                 (case aB => exact HB2.out)
                 (case aS => exact HB2.out.size)
                 (case aL => have := HL5.out; omega)
                 intro v9 w9 ho hb hg hat
                 have hxt : ∀ k, (Value.slice As sp_.length ks_).ownBlock = some k → ∃ cells, w6.heap[k]? = some (.cells cells 45 (0, 0)) := Kd.R_typed HRs.out
                 replace HBL := am (blk_grown HBL.out hg (Kd.R_ne HRs.out HBL.out (by decide)))
                 replace HSc := am (Kd.S_over' HSc.out hxt (by decide) hg)
                 replace HB2 := am hb
                 obtain ⟨A9, c9_, e9⟩ := Kd.R_slice ho
                 generalize (sp_ ++ [(⟨p1, p2⟩ : S45)]).length = n9 at e9
                 subst e9
                 have HO9 := am ho
                 clear HRs ho hb hg hat hxt
                 refine hK.out _ _ ⟨bc HBL.out 5, trivial⟩ (fun hHeld => ?_)
                 clear hK K
                 refine norm_ (a' := ?_) ?_ ?_; rotate_left
                 ·show Act.put _ (some 50) _ = _
                  simp only [Act.put, sa_, s0_, ss_, i64_w, i32_w]
                  rfl
                 refine pu_ 9 (some 51) ?_ ly11.a10 rfl rfl HT_.out (by kernel_rfl) (fun _ _ _ h => h) (Or.inl ⟨by rfl, ?_⟩) ?_ ?_ ?_; rotate_left
                 ·intro w'; go_simp; with_reducible rfl
                 rotate_left
                 ·simp only [Act.put, sa_, s0_, ss_, i64_w, i32_w]; rfl
                 refine pu_ 10 (some 52) ?_ ly11.a11 rfl rfl HT_.out (by kernel_rfl) (fun _ _ _ h => h) (Or.inl ⟨by rfl, ?_⟩) ?_ ?_ ?_; rotate_left
                 ·intro w'; go_simp; with_reducible rfl
                 rotate_left
                 ·simp only [Act.put, sa_, s0_, ss_, i64_w, i32_w]; rfl
                 refine last_ (i := 11) (N := none) ly11.a12 rfl rfl (one_of HT_.out (by kernel_rfl)) (by decide) (fun K hK => ?_)
                 have hs14 := bc HBL.out 5
                 have hfs14 := blk_frozen HBL.out 5
                 refine skip_ (w1 := ?_) (by rfl) rfl ?_ ?_
                 rotate_left
                 ·go_simp
                  rfl
                 refine hK.out _ _ ?_
                 clear hK K
                 refine done_ (done_of HT_.out (by kernel_rfl)) ?_
                 have HI9 : Aside0 (LS (fun _ => True) wb (w9.setCell ⟨g, 5, none⟩ (.slice A9 n9 c9_)) g cols row_ col_ cs_ in_ (sp_ ++ [⟨p1, p2⟩])) := ⟨⟨HG.out, _, _, blk_put HBL.out 5 _ rfl, Kd.S_set HSc.out HBL.out (by decide) _ _, Kd.R_set HO9.out HBL.out (by decide) _ _⟩⟩
                 have HB9 := am (below_set (j := 5) (v := (.slice A9 n9 c9_)) HB2.out HG.out)
                 clear HBL HO9 HSc HB2 hHeld hs14 hfs14
                 generalize (w9.setCell ⟨g, 5, none⟩ (.slice A9 n9 c9_)) = w16 at HI9 HB9 ⊢
                 go_wp2_with (first | (go_at_call 51; (with_reducible refine (impl_within.calls i fr (wrap64 (tw - 1)) false _ AB.out).mono ?_); rintro e w' ⟨rfl, ⟨nd, rfl⟩⟩) | (go_at_call 74; refine (impl_layout_point.calls k1 g (rd l1 i) 0 cols row_ col_ cs_ in_ (sp_ ++ [⟨p1, p2⟩]) rw_ cl_ cn_ iw_ wb _ (by first | exact HI9.out | exact LS_below HI9.out (pw_below_drewN (Below.refl _ _) _)) (by first | exact HB9.out | exact pw_below_drewN HB9.out _) AT.out).mono ?_; rintro e w4 ⟨rfl, hi, hb⟩; have HI := am hi; have HB2 := am hb; clear hi hb))
                 go_roundg k1
                 case measure => have := HK1.out; omega
                 case rel => exact ⟨wrap64 (i + 1), rw_, cl_, cn_, iw_, _, (by first | rfl | (simp; done)), H', ⟨by have := HK1.out; omega⟩, HI, HB2⟩
             | false =>
               have eb : b = false := by simpa using AB0.symm
               subst eb
               clear AB0
               go_wp2
               obtain ⟨HG, vc, vs, h1, h2, h3⟩ := HI.out
               replace HG := am HG
               obtain ⟨As, ks_, ec⟩ := Kd.R_slice h3
               subst ec
               obtain ⟨Ac, cc, ec⟩ := Kd.S_slice h2
               subst ec
               have HBL := am (blk_drew h1)
               have HSc := am (Kd.S_drew h2)
               have HRs := am (Kd.R_drew h3)
               replace HB2 := am (below_drew1 HB2.out)
               clear HI h1 h2 h3
               refine start_ (n := 12) (S := fun w' => w'.cell? ⟨g, 5, none⟩ = some (.slice As sp_.length ks_) ∧ True) (ds := [11]) ly11.a0 (by kernel_rfl) rfl rfl ⟨bc HBL.out 5, trivial⟩ (fun hHeld => ?_); refine with_tabW ly11.tab ly11.bits (fun HT_ HW_ => ?_)
               generalize wr.drew = w5 at HBL HSc HRs HB2 hHeld ⊢
               refine pu_ 0 (some 42) ?_ ly11.a1 rfl rfl HT_.out (by kernel_rfl) (fun _ _ _ h => h) (Or.inl ⟨by rfl, ?_⟩) ?_ ?_ ?_; rotate_left
               ·intro w'; go_simp; with_reducible rfl
               rotate_left
               ·simp only [Act.put, sa_, s0_, ss_, i64_w, i32_w]; rfl
               refine pu_ 1 (some 43) ?_ ly11.a2 rfl rfl HT_.out (by kernel_rfl) (fun _ _ _ h => h) (Or.inl ⟨by rfl, ?_⟩) ?_ ?_ ?_; rotate_left
               ·intro w'; go_simp; with_reducible rfl
               rotate_left
               ·simp only [Act.put, sa_, s0_, ss_, i64_w, i32_w]; rfl
               refine pu_ 2 (some 44) ?_ ly11.a3 rfl rfl HT_.out (by kernel_rfl) (fun _ _ _ h => h) (Or.inl ⟨by rfl, ?_⟩) ?_ ?_ ?_; rotate_left
               ·intro w'; go_simp; with_reducible rfl
               rotate_left
               ·simp only [Act.put, sa_, s0_, ss_, i64_w, i32_w]; rfl
               refine pu_ 3 (some 45) ?_ ly11.a4 rfl rfl HT_.out (by kernel_rfl) (fun _ _ _ h => h) (Or.inl ⟨by rfl, ?_⟩) ?_ ?_ ?_; rotate_left
               ·intro w'; go_simp; with_reducible rfl
               rotate_left
               ·simp only [Act.put, sa_, s0_, ss_, i64_w, i32_w]; rfl
               refine pu_ 5 (some 47) ?_ ly11.a5 rfl rfl HT_.out (by kernel_rfl) (fun _ _ _ h => h) (Or.inl ⟨by rfl, ?_⟩) ?_ ?_ ?_; rotate_left
               ·intro w'; go_simp; with_reducible rfl
               rotate_left
               ·simp only [Act.put, sa_, s0_, ss_, i64_w, i32_w]; rfl
               refine tk_ 4 (some 46) ?_ ly11.a6 rfl rfl HT_.out HW_.out (by kernel_rfl) (fun _ _ _ h => h) (Or.inl ⟨by rfl, ?_⟩) hHeld ?_ ?_ ?_; rotate_left
               ·rintro w' ⟨s1, _⟩; go_simp; with_reducible rfl
               rotate_left
               ·simp only [Act.put, sa_, s0_, ss_, i64_w, i32_w]; rfl
               refine one_ (i := 6) (N := some 48) ly11.a7 rfl rfl (one_of HT_.out (by kernel_rfl)) (by decide) (fun K hK => ?_)
               refine goes_ Try.func56 (by kernel_rfl) rfl #[.pointer (some ⟨g, 0, none⟩)] (by rfl) rfl rfl (by (try simp only [List.map_toArray, List.map_cons, List.map_nil]); first | done | rfl) ?_
               with_reducible refine (impl_layout_spot.calls ⟨g, 0, none⟩ cols row_ col_ Ac cc cs_ in_ As ks_ sp_ p1 p2 _ (Kd.S_reads' HSc.out).2.2 (Kd.S_reads' HSc.out).2.1 (Kd.R_reads' HRs.out).2.2 (Kd.R_reads' HRs.out).2.1 (AtP.of_blk HBL.out) AQ.out).mono ?_
               rintro e w6 ⟨rfl, hb⟩
               refine ⟨_, rfl, ?_⟩
               replace HBL := am (blk_below HBL.out hb)
               replace HSc := am (Kd.S_below HSc.out hb)
               replace HRs := am (Kd.R_below HRs.out hb)
               replace HB2 := am (below_step HB2.out hb)
               clear hb
               refine hK.out _ _ ⟨bc HBL.out 5, trivial⟩ (fun hHeld => ?_)
               clear hK K
               refine norm_ (a' := ?_) ?_ ?_; rotate_left
               ·show Act.put _ (some 48) _ = _
                simp only [Act.put, sa_, s0_, ss_, i64_w, i32_w]
                rfl
               refine one_ (i := 7) (N := some 49) ly11.a8 rfl rfl (one_of HT_.out (by kernel_rfl)) (by decide) (fun K hK => ?_)
               refine value_ (w1 := ?_) (v := ?_) (by rfl) rfl ?_ ?_; rotate_left 2
               ·go_simp
                constructor
                ·rfl
                ·rfl
               refine hK.out _ _ ⟨bc (blk_alloc HBL.out _) 5, trivial⟩ (fun hHeld => ?_)
               clear hK K
               refine norm_ (a' := ?_) ?_ ?_; rotate_left
               ·show Act.put _ (some 49) _ = _
                simp only [Act.put, sa_, s0_, ss_, i64_w, i32_w]
                rfl
               refine one_ (i := 8) (N := some 50) ly11.a9 rfl rfl (one_of HT_.out (by kernel_rfl)) (by decide) (fun K hK => ?_)
               refine Kd.R_append_step k45 (w0 := wb) wb.heap.size (by rfl) (.tmp 46) (.tmp 49) 66 45 (.agg #[(.int .i64 0), (.int .i64 0)]) 16 rfl Try.underlying66 vinfo45 rfl (by decide) (by omega) (.slice As sp_.length ks_) sp_ (⟨p1, p2⟩ : S45) [.int .i64 p1, .int .i64 p2] (fun _ => True) (fun _ => False) rfl rfl ?aP (fun _ hk => hk.elim) ?aF ?aO ?aB ?aS ?aL ?_
               (case aP => exact k45_mkM _ _ _ (⟨p1, p2⟩ : S45))
               (case aF => exact fun _ _ => trivial)
               (case aO => exact HRs.out)
               (case aB => exact HB2.out)
               (case aS => exact HB2.out.size)
               (case aL => have := HL5.out; omega)
               intro v9 w9 ho hb hg hat
               have hxt : ∀ k, (Value.slice As sp_.length ks_).ownBlock = some k → ∃ cells, w6.heap[k]? = some (.cells cells 45 (0, 0)) := Kd.R_typed HRs.out
               replace HBL := am (blk_grown HBL.out hg (Kd.R_ne HRs.out HBL.out (by decide)))
               replace HSc := am (Kd.S_over' HSc.out hxt (by decide) hg)
               replace HB2 := am hb
               obtain ⟨A9, c9_, e9⟩ := Kd.R_slice ho
               generalize (sp_ ++ [(⟨p1, p2⟩ : S45)]).length = n9 at e9
               subst e9
               have HO9 := am ho
               clear HRs ho hb hg hat hxt
               refine hK.out _ _ ⟨bc HBL.out 5, trivial⟩ (fun hHeld => ?_)
               clear hK K
               refine norm_ (a' := ?_) ?_ ?_; rotate_left
               ·show Act.put _ (some 50) _ = _
                simp only [Act.put, sa_, s0_, ss_, i64_w, i32_w]
                rfl
               refine pu_ 9 (some 51) ?_ ly11.a10 rfl rfl HT_.out (by kernel_rfl) (fun _ _ _ h => h) (Or.inl ⟨by rfl, ?_⟩) ?_ ?_ ?_; rotate_left
               ·intro w'; go_simp; with_reducible rfl
               rotate_left
               ·simp only [Act.put, sa_, s0_, ss_, i64_w, i32_w]; rfl
               refine pu_ 10 (some 52) ?_ ly11.a11 rfl rfl HT_.out (by kernel_rfl) (fun _ _ _ h => h) (Or.inl ⟨by rfl, ?_⟩) ?_ ?_ ?_; rotate_left
               ·intro w'; go_simp; with_reducible rfl
               rotate_left
               ·simp only [Act.put, sa_, s0_, ss_, i64_w, i32_w]; rfl
               refine last_ (i := 11) (N := none) ly11.a12 rfl rfl (one_of HT_.out (by kernel_rfl)) (by decide) (fun K hK => ?_)
               have hs14 := bc HBL.out 5
               have hfs14 := blk_frozen HBL.out 5
               refine skip_ (w1 := ?_) (by rfl) rfl ?_ ?_
               rotate_left
               ·go_simp
                rfl
               refine hK.out _ _ ?_
               clear hK K
               refine done_ (done_of HT_.out (by kernel_rfl)) ?_
               have HI9 : Aside0 (LS (fun _ => True) wb (w9.setCell ⟨g, 5, none⟩ (.slice A9 n9 c9_)) g cols row_ col_ cs_ in_ (sp_ ++ [⟨p1, p2⟩])) := ⟨⟨HG.out, _, _, blk_put HBL.out 5 _ rfl, Kd.S_set HSc.out HBL.out (by decide) _ _, Kd.R_set HO9.out HBL.out (by decide) _ _⟩⟩
               have HB9 := am (below_set (j := 5) (v := (.slice A9 n9 c9_)) HB2.out HG.out)
               clear HBL HO9 HSc HB2 hHeld hs14 hfs14
               generalize (w9.setCell ⟨g, 5, none⟩ (.slice A9 n9 c9_)) = w16 at HI9 HB9 ⊢
               go_wp2_with (go_at_call 74; refine (impl_layout_point.calls k1 g (rd l1 i) 0 cols row_ col_ cs_ in_ (sp_ ++ [⟨p1, p2⟩]) rw_ cl_ cn_ iw_ wb _ (by first | exact HI9.out | exact LS_below HI9.out (pw_below_drewN (Below.refl _ _) _)) (by first | exact HB9.out | exact pw_below_drewN HB9.out _) AT.out).mono ?_; rintro e w4 ⟨rfl, hi, hb⟩; have HI := am hi; have HB2 := am hb; clear hi hb)
               go_roundg k1
               case measure => have := HK1.out; omega
               case rel => exact ⟨wrap64 (i + 1), rw_, cl_, cn_, iw_, _, (by first | rfl | (simp; done)), H', ⟨by have := HK1.out; omega⟩, HI, HB2⟩
           · rw [if_neg c4] at H
             cases H
         · rw [if_neg c3] at H
           cases H
       · rw [if_neg c2] at H
         simp only [Option.some.injEq, Prod.mk.injEq] at H
         obtain ⟨rfl, rfl, rfl, rfl, rfl⟩ := H
         have c2b : decide (i < (l1.length : Int)) = false := decide_eq_false c2
         clear c2
         go_wp2
         obtain ⟨HG, vc, vs, h1, h2, h3⟩ := HI.out
         replace HG := am HG
         obtain ⟨As, ks_, ec⟩ := Kd.R_slice h3
         subst ec
         obtain ⟨Ac, cc, ec⟩ := Kd.S_slice h2
         subst ec
         have HBL := am (blk_drew h1)
         have HSc := am (Kd.S_drew h2)
         have HRs := am (Kd.R_drew h3)
         replace HB2 := am (below_drew1 HB2.out)
         clear HI h1 h2 h3
         refine start_ (n := 12) (S := fun w' => w'.cell? ⟨g, 5, none⟩ = some (.slice As sp_.length ks_) ∧ True) (ds := [11]) ly17.a0 (by kernel_rfl) rfl rfl ⟨bc HBL.out 5, trivial⟩ (fun hHeld => ?_); refine with_tabW ly17.tab ly17.bits (fun HT_ HW_ => ?_)
         generalize wr.drew = w5 at HBL HSc HRs HB2 hHeld ⊢
         refine pu_ 0 (some 66) ?_ ly17.a1 rfl rfl HT_.out (by kernel_rfl) (fun _ _ _ h => h) (Or.inl ⟨by rfl, ?_⟩) ?_ ?_ ?_; rotate_left
         ·intro w'; go_simp; with_reducible rfl
         rotate_left
         ·simp only [Act.put, sa_, s0_, ss_, i64_w, i32_w]; rfl
         refine pu_ 1 (some 67) ?_ ly17.a2 rfl rfl HT_.out (by kernel_rfl) (fun _ _ _ h => h) (Or.inl ⟨by rfl, ?_⟩) ?_ ?_ ?_; rotate_left
         ·intro w'; go_simp; with_reducible rfl
         rotate_left
         ·simp only [Act.put, sa_, s0_, ss_, i64_w, i32_w]; rfl
         refine pu_ 2 (some 68) ?_ ly17.a3 rfl rfl HT_.out (by kernel_rfl) (fun _ _ _ h => h) (Or.inl ⟨by rfl, ?_⟩) ?_ ?_ ?_; rotate_left
         ·intro w'; go_simp; with_reducible rfl
         rotate_left
         ·simp only [Act.put, sa_, s0_, ss_, i64_w, i32_w]; rfl
         refine pu_ 3 (some 69) ?_ ly17.a4 rfl rfl HT_.out (by kernel_rfl) (fun _ _ _ h => h) (Or.inl ⟨by rfl, ?_⟩) ?_ ?_ ?_; rotate_left
         ·intro w'; go_simp; with_reducible rfl
         rotate_left
         ·simp only [Act.put, sa_, s0_, ss_, i64_w, i32_w]; rfl
         refine pu_ 5 (some 71) ?_ ly17.a5 rfl rfl HT_.out (by kernel_rfl) (fun _ _ _ h => h) (Or.inl ⟨by rfl, ?_⟩) ?_ ?_ ?_; rotate_left
         ·intro w'; go_simp; with_reducible rfl
         rotate_left
         ·simp only [Act.put, sa_, s0_, ss_, i64_w, i32_w]; rfl
         refine tk_ 4 (some 70) ?_ ly17.a6 rfl rfl HT_.out HW_.out (by kernel_rfl) (fun _ _ _ h => h) (Or.inl ⟨by rfl, ?_⟩) hHeld ?_ ?_ ?_; rotate_left
         ·rintro w' ⟨s1, _⟩; go_simp; with_reducible rfl
         rotate_left
         ·simp only [Act.put, sa_, s0_, ss_, i64_w, i32_w]; rfl
         refine one_ (i := 6) (N := some 72) ly17.a7 rfl rfl (one_of HT_.out (by kernel_rfl)) (by decide) (fun K hK => ?_)
         refine goes_ Try.func56 (by kernel_rfl) rfl #[.pointer (some ⟨g, 0, none⟩)] (by rfl) rfl rfl (by (try simp only [List.map_toArray, List.map_cons, List.map_nil]); first | done | rfl) ?_
         with_reducible refine (impl_layout_spot.calls ⟨g, 0, none⟩ cols row_ col_ Ac cc cs_ in_ As ks_ sp_ q1 q2 _ (Kd.S_reads' HSc.out).2.2 (Kd.S_reads' HSc.out).2.1 (Kd.R_reads' HRs.out).2.2 (Kd.R_reads' HRs.out).2.1 (AtP.of_blk HBL.out) AQ7.out).mono ?_
         rintro e w6 ⟨rfl, hb⟩
         refine ⟨_, rfl, ?_⟩
         replace HBL := am (blk_below HBL.out hb)
         replace HSc := am (Kd.S_below HSc.out hb)
         replace HRs := am (Kd.R_below HRs.out hb)
         replace HB2 := am (below_step HB2.out hb)
         clear hb
         refine hK.out _ _ ⟨bc HBL.out 5, trivial⟩ (fun hHeld => ?_)
         clear hK K
         refine norm_ (a' := ?_) ?_ ?_; rotate_left
         ·show Act.put _ (some 72) _ = _
          simp only [Act.put, sa_, s0_, ss_, i64_w, i32_w]
          rfl
         refine one_ (i := 7) (N := some 73) ly17.a8 rfl rfl (one_of HT_.out (by kernel_rfl)) (by decide) (fun K hK => ?_)
         refine value_ (w1 := ?_) (v := ?_) (by rfl) rfl ?_ ?_; rotate_left 2
         ·go_simp
          constructor
          ·rfl
          ·rfl
         refine hK.out _ _ ⟨bc (blk_alloc HBL.out _) 5, trivial⟩ (fun hHeld => ?_)
         clear hK K
         refine norm_ (a' := ?_) ?_ ?_; rotate_left
         ·show Act.put _ (some 73) _ = _
          simp only [Act.put, sa_, s0_, ss_, i64_w, i32_w]
          rfl
         refine one_ (i := 8) (N := some 74) ly17.a9 rfl rfl (one_of HT_.out (by kernel_rfl)) (by decide) (fun K hK => ?_)
         refine Kd.R_append_step k45 (w0 := wb) wb.heap.size (by rfl) (.tmp 70) (.tmp 73) 66 45 (.agg #[(.int .i64 0), (.int .i64 0)]) 16 rfl Try.underlying66 vinfo45 rfl (by decide) (by omega) (.slice As sp_.length ks_) sp_ (⟨q1, q2⟩ : S45) [.int .i64 q1, .int .i64 q2] (fun _ => True) (fun _ => False) rfl rfl ?aP (fun _ hk => hk.elim) ?aF ?aO ?aB ?aS ?aL ?_
         (case aP => exact k45_mkM _ _ _ (⟨q1, q2⟩ : S45))
         (case aF => exact fun _ _ => trivial)
         (case aO => exact HRs.out)
         (case aB => exact HB2.out)
         (case aS => exact HB2.out.size)
         (case aL => have := HL7.out; omega)
         intro v9 w9 ho hb hg hat
         have hxt : ∀ k, (Value.slice As sp_.length ks_).ownBlock = some k → ∃ cells, w6.heap[k]? = some (.cells cells 45 (0, 0)) := Kd.R_typed HRs.out
         replace HBL := am (blk_grown HBL.out hg (Kd.R_ne HRs.out HBL.out (by decide)))
         replace HSc := am (Kd.S_over' HSc.out hxt (by decide) hg)
         replace HB2 := am hb
         obtain ⟨A9, c9_, e9⟩ := Kd.R_slice ho
         generalize (sp_ ++ [(⟨q1, q2⟩ : S45)]).length = n9 at e9
         subst e9
         have HO9 := am ho
         clear HRs ho hb hg hat hxt
         refine hK.out _ _ ⟨bc HBL.out 5, trivial⟩ (fun hHeld => ?_)
         clear hK K
         refine norm_ (a' := ?_) ?_ ?_; rotate_left
         ·show Act.put _ (some 74) _ = _
          simp only [Act.put, sa_, s0_, ss_, i64_w, i32_w]
          rfl
         refine pu_ 9 (some 75) ?_ ly17.a10 rfl rfl HT_.out (by kernel_rfl) (fun _ _ _ h => h) (Or.inl ⟨by rfl, ?_⟩) ?_ ?_ ?_; rotate_left
         ·intro w'; go_simp; with_reducible rfl
         rotate_left
         ·simp only [Act.put, sa_, s0_, ss_, i64_w, i32_w]; rfl
         refine pu_ 10 (some 76) ?_ ly17.a11 rfl rfl HT_.out (by kernel_rfl) (fun _ _ _ h => h) (Or.inl ⟨by rfl, ?_⟩) ?_ ?_ ?_; rotate_left
         ·intro w'; go_simp; with_reducible rfl
         rotate_left
         ·simp only [Act.put, sa_, s0_, ss_, i64_w, i32_w]; rfl
         refine last_ (i := 11) (N := none) ly17.a12 rfl rfl (one_of HT_.out (by kernel_rfl)) (by decide) (fun K hK => ?_)
         have hs14 := bc HBL.out 5
         have hfs14 := blk_frozen HBL.out 5
         refine skip_ (w1 := ?_) (by rfl) rfl ?_ ?_
         rotate_left
         ·go_simp
          rfl
         refine hK.out _ _ ?_
         clear hK K
         refine done_ (done_of HT_.out (by kernel_rfl)) ?_
         have HI9 : Aside0 (LS (fun _ => True) wb (w9.setCell ⟨g, 5, none⟩ (.slice A9 n9 c9_)) g cols row_ col_ cs_ in_ (sp_ ++ [⟨q1, q2⟩])) := ⟨⟨HG.out, _, _, blk_put HBL.out 5 _ rfl, Kd.S_set HSc.out HBL.out (by decide) _ _, Kd.R_set HO9.out HBL.out (by decide) _ _⟩⟩
         have HB9 := am (below_set (j := 5) (v := (.slice A9 n9 c9_)) HB2.out HG.out)
         clear HBL HO9 HSc HB2 hHeld hs14 hfs14
         generalize (w9.setCell ⟨g, 5, none⟩ (.slice A9 n9 c9_)) = w16 at HI9 HB9 ⊢
         go_wp2
         go_ret
         exact ⟨g, by first | rfl | (simp; done), LS_lower HI9.out HB.out.size, below_then HB.out HB.out.size HB9.out⟩

theorem ptL.mono : ∀ k a0 a1 a2 a3 a4 a5 a6 a7, LeO (ptL k a0 a1 a2 a3 a4 a5 a6 a7) (ptL (k + 1) a0 a1 a2 a3 a4 a5 a6 a7)
 | 0 => fun _ _ _ _ _ _ _ _ r h => by simp [ptL] at h
 | k + 1 => by
  have ih0 := ptL.mono k
  intro a0 a1 a2 a3 a4 a5 a6 a7
  unfold ptL
  repeat' first
   | (with_reducible exact ih0 _ _ _ _ _ _ _ _)
   | (with_reducible exact LeO.refl _)
   | (with_reducible exact LeO.none _)
   | (with_reducible exact impl_WidthOf.mono _ _)
   | (with_reducible refine LeO.ite ?_ ?_)
   | (with_reducible refine LeO.bind ?_ (fun _ => ?_))
theorem ptF.mono : ∀ a0 a1 a2 a3 a4 a5 a6 k, LeO (ptF k a0 a1 a2 a3 a4 a5 a6) (ptF (k + 1) a0 a1 a2 a3 a4 a5 a6) := by
 intro a0 a1 a2 a3 a4 a5 a6 k
 unfold ptF
 repeat' first
   | (with_reducible exact ptL.mono _ _ _ _ _ _ _ _ _)
   | (with_reducible exact LeO.refl _)
   | (with_reducible refine LeO.ite ?_ ?_)
   | (with_reducible refine LeO.bind ?_ (fun _ => ?_))
theorem lyA.mono (cols : Int) : ∀ k a0 a1 a2 a3 a4 a5, LeO (lyA cols k a0 a1 a2 a3 a4 a5) (lyA cols (k + 1) a0 a1 a2 a3 a4 a5)
 | 0 => fun _ _ _ _ _ _ r h => by simp [lyA] at h
 | k + 1 => by
  have ih0 := lyA.mono cols k
  intro a0 a1 a2 a3 a4 a5
  unfold lyA
  repeat' first
   | (with_reducible exact ih0 _ _ _ _ _ _)
   | (with_reducible exact LeO.refl _)
   | (with_reducible exact LeO.none _)
   | (with_reducible exact ptF.mono _ _ _ _ _ _ _ _)
   | (with_reducible refine LeO.ite ?_ ?_)
   | (with_reducible refine LeO.bind ?_ (fun _ => ?_))
theorem lyB.mono (cols : Int) (region : Bool) (fr tw : Int) : ∀ k a0 a1 a2 a3 a4 a5 a6, LeO (lyB cols region fr tw k a0 a1 a2 a3 a4 a5 a6) (lyB cols region fr tw (k + 1) a0 a1 a2 a3 a4 a5 a6)
 | 0 => fun _ _ _ _ _ _ _ r h => by simp [lyB] at h
 | k + 1 => by
  have ih0 := lyB.mono cols region fr tw k
  intro a0 a1 a2 a3 a4 a5 a6
  unfold lyB
  repeat' first
   | (with_reducible exact ih0 _ _ _ _ _ _ _)
   | (with_reducible exact LeO.refl _)
   | (with_reducible exact LeO.none _)
   | (with_reducible exact ptF.mono _ _ _ _ _ _ _ _)
   | (with_reducible refine LeO.ite ?_ ?_)
   | (with_reducible refine LeO.bind ?_ (fun _ => ?_))
theorem lyF.mono : ∀ a0 a1 a2 a3 a4 a5 k, LeO (lyF k a0 a1 a2 a3 a4 a5) (lyF (k + 1) a0 a1 a2 a3 a4 a5) := by
 intro a0 a1 a2 a3 a4 a5 k
 unfold lyF
 repeat' first
   | (with_reducible exact lyA.mono _ _ _ _ _ _ _ _)
   | (with_reducible exact lyB.mono _ _ _ _ _ _ _ _ _ _ _ _)
   | (with_reducible exact LeO.refl _)
   | (with_reducible exact LeO.none _)
   | (with_reducible refine LeO.ite ?_ ?_)
   | (with_reducible refine LeO.bind ?_ (fun _ => ?_))

/-! ### the program's ViewOf: the grid takes the layout's cells over, each once -/
/-- The grid's blocks are new ones (from N0 on), or those of the layout's first n cells (f tells whose). -/
def GI (f : Nat → Nat) (N0 n : Nat) (w : World) (base : Nat) (v : Value) (G : List S75) : Prop := Kd.S k75 75 w base (fun k => N0 ≤ k ∨ f k < n) v G
def HLay (f : Nat → Nat) (N0 : Nat) (w : World) (base : Nat) (v : Value) (cs : List S85) : Prop := (Kd.tag f k85).R 85 w base (fun k => k < N0) v cs.zipIdx
theorem GI_next {f : Nat → Nat} {N0 n : Nat} {w : World} {base : Nat} {v : Value} {G : List S75} (h : GI f N0 n w base v G) : GI f N0 (n + 1) w base v G := Kd.S_mono h (fun k hk => hk.elim .inl (fun h2 => .inr (by omega)))
theorem GI_put {f : Nat → Nat} {N0 n : Nat} {w : World} {base gg m cg : Nat} {G : List S75} (h : GI f N0 n w base (.slice (some ⟨gg, 0, none⟩) m cg) G) (hgg : N0 ≤ gg) (a : Int) (h0 : 0 ≤ a) (h1 : a < (m : Int)) {v0 : Value} {x : S75} (hv : Kd.R (Kd.int .i64) 2 w base (fun k => k < N0 ∧ f k = n) v0 x.f0) :
  GI f N0 (n + 1) ((w.setCell ⟨gg, a.toNat * 2, none⟩ v0).setCell ⟨gg, a.toNat * 2 + 1, none⟩ (.int .i64 x.f1)) base (.slice (some ⟨gg, 0, none⟩) m cg) (G.set a.toNat x) := by
 obtain ⟨oki, c, hcl, hM, hcc, hfr, hoki, hH⟩ := Kd.S_elem h z75 a h0 h1
 obtain ⟨ve, rfl, hR⟩ := k75_openM hM
 have hH2 : Kd.H k75 75 w base (fun k => (N0 ≤ k ∨ f k < n + 1) ∧ ¬ (k < N0 ∧ f k = n)) (.slice (some ⟨gg, 0, none⟩) m cg) G a oki [ve, .int .i64 (G.getD a.toNat z75).f1] := Kd.H_mono hH (fun k hk => ⟨hk.elim .inl (fun h2 => .inr (by omega)), fun h2 => hk.elim (fun h3 => by omega) (fun h3 => by omega)⟩)
 exact (Kd.S_seg hH2 h0 h1 (seg := [v0, .int .i64 x.f1]) (j := 0) (show 0 + 2 ≤ 2 by decide) (x' := x) (k75_mkM w base (fun k => k < N0 ∧ f k = n) x hv) (fun k hk => .inr hk) (fun k hk => ⟨.inr (by omega), fun e => by omega⟩)).1
theorem GI_put0 {f : Nat → Nat} {N0 n : Nat} {w : World} {base gg m cg : Nat} {G : List S75} (h : GI f N0 n w base (.slice (some ⟨gg, 0, none⟩) m cg) G) (a : Int) (h0 : 0 ≤ a) (h1 : a < (m : Int)) (b : Int) :
  GI f N0 n ((w.setCell ⟨gg, a.toNat * 2, none⟩ (.slice none 0 0)).setCell ⟨gg, a.toNat * 2 + 1, none⟩ (.int .i64 b)) base (.slice (some ⟨gg, 0, none⟩) m cg) (G.set a.toNat ⟨[], b⟩) := by
 obtain ⟨oki, c, hcl, hM, hcc, hfr, hoki, hH⟩ := Kd.S_elem h z75 a h0 h1
 obtain ⟨ve, rfl, hR⟩ := k75_openM hM
 exact (Kd.S_seg0 hH h0 h1 (seg := [.slice none 0 0, .int .i64 b]) (j := 0) (show 0 + 2 ≤ 2 by decide) (x' := (⟨[], b⟩ : S75)) (k75_mkM w base oki (⟨[], b⟩ : S75) (Kd.R_nil _ _ _ _ _)) (fun _ hk => hk)).1
theorem lay_elem {f : Nat → Nat} {N0 : Nat} {w : World} {base gc m cap : Nat} {cs : List S85} (h : HLay f N0 w base (.slice (some ⟨gc, 0, none⟩) m cap) cs) (i : Nat) (hi : i < cs.length) {x : S85} (hx : x = rd_T85 cs (i : Int)) :
  ∃ (A0 : Option Addr) (c0 : Nat), w.cell? ⟨gc, i * 4, none⟩ = some (.slice A0 x.f0.f0.length c0) ∧ w.cell? ⟨gc, i * 4 + 1, none⟩ = some (.int .i64 x.f0.f1) ∧ w.cell? ⟨gc, i * 4 + 2, none⟩ = some (.int .i64 x.f1) ∧ w.cell? ⟨gc, i * 4 + 3, none⟩ = some (.int .i64 x.f2) ∧
   Kd.R (Kd.int .i64) 2 w base (fun k => k < N0 ∧ f k = i) (.slice A0 x.f0.f0.length c0) x.f0.f0 := by
 have hn := (Kd.R_reads' h).1
 rw [List.length_zipIdx] at hn
 obtain ⟨c, hcl, hM, hcc, hfr⟩ := Kd.R_elem h (z85, 0) (i : Int) (by omega) (by omega)
 rw [Int.toNat_natCast] at hM hcc
 have hg : cs.zipIdx.getD i (z85, 0) = (x, i) := by
  rw [List.getD_eq_getElem?_getD, Kd.zip_at (List.getElem?_eq_getElem hi), hx]
  unfold rd_T85
  rw [Int.toNat_natCast, List.getD_eq_getElem?_getD, List.getElem?_eq_getElem hi]
  rfl
 rw [hg] at hM
 have hM2 : k85.M w base (fun k => (k < N0 ∧ k ≠ gc) ∧ f k = i) x c := hM
 obtain ⟨v0, rfl, hR⟩ := k85_openM hM2
 obtain ⟨A0, c0, rfl⟩ := Kd.R_slice hR
 have e0 := hcc 0 _ rfl
 have e1 := hcc 1 _ rfl
 have e2 := hcc 2 _ rfl
 have e3 := hcc 3 _ rfl
 rw [show (Kd.tag f k85).sz = 4 from rfl] at e0 e1 e2 e3
 exact ⟨A0, c0, e0, e1, e2, e3, Kd.R_mono hR (fun k hk => ⟨hk.1.1, hk.2⟩)⟩
theorem HLay_len {f : Nat → Nat} {N0 : Nat} {w : World} {base m cap : Nat} {A : Option Addr} {cs : List S85} (h : HLay f N0 w base (.slice A m cap) cs) : m = cs.length ∧ cs.length ≤ 9223372036854775807 := by
 have hn := Kd.R_reads' h
 rw [List.length_zipIdx] at hn
 exact ⟨hn.1, hn.2.2.2.1⟩
theorem HLay_far {f : Nat → Nat} {N0 : Nat} {w w1 : World} {base g : Nat} {v : Value} {cs : List S85} (h : HLay f N0 w base v cs) (hg : N0 ≤ g) (hk : KeepBut w w1 g none) : HLay f N0 w1 base v cs := Kd.R_keep h hk (fun k h2 => by omega)
theorem GI_S {f : Nat → Nat} {N0 n : Nat} {w : World} {base : Nat} {v : Value} {G : List S75} (h : GI f N0 n w base v G) : Kd.S k75 75 w base (fun _ => True) v G := Kd.S_mono h (fun _ _ => trivial)
/-- A layout's cells, with whose blocks are whose; the new grid behind it. -/
theorem lay_open {w0 w : World} {v : Value} {cs : List S85} (h : Kd.S k85 85 w w0.heap.size (fun _ => True) v cs) : ∃ f, HLay f w.heap.size w w0.heap.size v cs := by
 obtain ⟨f, h⟩ := h
 exact ⟨f, Kd.R_mono (Kd.R_bound h) (fun k hk => hk.2.2.1)⟩
theorem GI_new {f : Nat → Nat} {N0 base : Nat} {W w : World} {v : Value} {G : List S75} (h : Kd.S k75 75 w W.heap.size (fun _ => True) v G) (hN : N0 ≤ W.heap.size) (hb : base ≤ W.heap.size) : GI f N0 0 w base v G := Kd.S_mono (Kd.S_bound (Kd.S_lower (Kd.S_mono (ok' := fun k => N0 ≤ k) (Kd.S_bound h) (fun k hk => Nat.le_trans hN hk.2.1)) hb)) (fun k hk => .inl hk.1)
def voK (cols top : Int) (s : S85) : Int := wrap64 (wrap64 (wrap64 (s.f1 - top) * cols) + s.f2)
def voL (rows cols top : Int) : Nat → List S85 → Int → List S75 → Option (List S75)
 | 0, _, _, _ => none
 | k + 1, cs, i, G => if i < (cs.length : Int) then (if 0 ≤ i then ((impl_within.f (rd_T85 cs i).f1 top (wrap64 (wrap64 (top + rows) - 1))).bind fun b => if b = true then (if 0 ≤ voK cols top (rd_T85 cs i) then (if voK cols top (rd_T85 cs i) < (G.length : Int) then ((impl_Cell_isWide.f k (rd_T85 cs i).f0.f0 (rd_T85 cs i).f0.f1).bind fun wd => if wd = true then (if 0 ≤ wrap64 (voK cols top (rd_T85 cs i) + 1) then (if wrap64 (voK cols top (rd_T85 cs i) + 1) < (G.length : Int) then voL rows cols top k cs (wrap64 (i + 1)) ((G.set (voK cols top (rd_T85 cs i)).toNat (rd_T85 cs i).f0).set (wrap64 (voK cols top (rd_T85 cs i) + 1)).toNat ⟨[], (rd_T85 cs i).f0.f1⟩) else none) else none) else voL rows cols top k cs (wrap64 (i + 1)) (G.set (voK cols top (rd_T85 cs i)).toNat (rd_T85 cs i).f0)) else none) else none) else voL rows cols top k cs (wrap64 (i + 1)) G) else none) else some G

def vo6.T : Bool × List (List Nat × List Nat) := (true, [([], []), ([0], [0]), ([1], [1]), ([2], [2]), ([], []), ([4], [4]), ([3, 5], [3, 5]), ([6], [6]), ([], []), ([8, 7, 0, 1, 2, 3, 4, 5, 6, 7, 8], [7, 8])])
def vo6.B : List Nat := [0, 1, 3, 7, 0, 16, 63, 127, 0, 511]
theorem vo6.tab : rtab .any (opsOf Try.f13 6) = vo6.T := by kernel_rfl
theorem vo6.bits : waitsOk vo6.T.2 vo6.B = true := by kernel_rfl
@[reducible] def vo6.a0 : Array Bool := (br true [0, 10]).toArray
@[reducible] def vo6.a1 : Array Bool := (br true [1, 9]).toArray
@[reducible] def vo6.a2 : Array Bool := (br true [2, 8]).toArray
@[reducible] def vo6.a3 : Array Bool := (br true [3, 7]).toArray
@[reducible] def vo6.a4 : Array Bool := (br true [3, 1, 1, 5]).toArray
@[reducible] def vo6.a5 : Array Bool := (br true [5, 5]).toArray
@[reducible] def vo6.a6 : Array Bool := (br true [6, 4]).toArray
@[reducible] def vo6.a7 : Array Bool := (br true [7, 3]).toArray
@[reducible] def vo6.a8 : Array Bool := (br true [8, 2]).toArray
@[reducible] def vo6.a9 : Array Bool := (br true [9, 1]).toArray
@[reducible] def vo6.a10 : Array Bool := (br true [10]).toArray
def vo17.T : Bool × List (List Nat × List Nat) := (true, [([], []), ([0], [0]), ([], []), ([1, 2], [1, 2]), ([], []), ([4], [4]), ([0, 1, 2, 3], []), ([6, 3, 0, 1, 2, 3], [3, 6]), ([0, 1, 2, 3, 4, 5, 6, 7], []), ([8, 5, 7, 0, 1, 2, 3, 4, 5, 6, 7], [5, 8])])
def vo17.B : List Nat := [0, 1, 0, 7, 0, 16, 15, 79, 255, 511]
theorem vo17.tab : rtab .any (opsOf Try.f13 17) = vo17.T := by kernel_rfl
theorem vo17.bits : waitsOk vo17.T.2 vo17.B = true := by kernel_rfl
@[reducible] def vo17.a0 : Array Bool := (br true [0, 10]).toArray
@[reducible] def vo17.a1 : Array Bool := (br true [1, 9]).toArray
@[reducible] def vo17.a2 : Array Bool := (br true [1, 1, 1, 7]).toArray
@[reducible] def vo17.a3 : Array Bool := (br true [1, 1, 1, 1, 1, 5]).toArray
@[reducible] def vo17.a4 : Array Bool := (br true [3, 1, 1, 5]).toArray
@[reducible] def vo17.a5 : Array Bool := (br true [5, 5]).toArray
@[reducible] def vo17.a6 : Array Bool := (br true [5, 1, 1, 3]).toArray
@[reducible] def vo17.a7 : Array Bool := (br true [7, 3]).toArray
@[reducible] def vo17.a8 : Array Bool := (br true [8, 2]).toArray
@[reducible] def vo17.a9 : Array Bool := (br true [9, 1]).toArray
@[reducible] def vo17.a10 : Array Bool := (br true [10]).toArray
def voTop (s1 rows : Int) : Int := if wrap64 (wrap64 (s1 - rows) + 1) < 0 then 0 else wrap64 (wrap64 (s1 - rows) + 1)
def impl_ViewOf.f (k : Nat) (l0 l1 : List Int) (a1 a2 : Int) (region : Bool) (rows cols : Int) : Option (Int × Int × List S75 × Int × Int × Bool × Int × Int × Int) :=
 (impl_isMany.f (l0.length : Int)).bind fun m => if m = true then some (0, 0, [], 0, 0, false, 0, 0, 2) else (impl_isViewed.f k l0 l1 a1 a2 cols).bind fun t => if t = true then ((impl_isRows.f rows).bind fun u => if u = true then ((lyF k l0 l1 a1 a2 region cols).bind fun v => (impl_GridNew.f rows cols).bind fun g => if 0 ≤ a1 then (if a1 < (v.2.2.2.2.length : Int) then ((voL rows cols (voTop (rd_T45 v.2.2.2.2 a1).f0 rows) k v.2.2.1 0 g.2.2.1).bind fun G => some (g.1, g.2.1, G, wrap64 ((rd_T45 v.2.2.2.2 a1).f0 - voTop (rd_T45 v.2.2.2.2 a1).f0 rows), (rd_T45 v.2.2.2.2 a1).f1, g.2.2.2.2.2.1, g.2.2.2.2.2.2, voTop (rd_T45 v.2.2.2.2 a1).f0 rows, 0)) else none) else none) else some (0, 0, [], 0, 0, false, 0, 0, 1)) else some (0, 0, [], 0, 0, false, 0, 0, 1)
theorem impl_ViewOf.calls (k : Nat) (A0 : Option Addr) (c0 : Nat) (l0 : List Int) (A1 : Option Addr) (c1 : Nat) (l1 : List Int) (a1 a2 : Int) (region : Bool) (rows cols : Int) (r1 r2 : Int) (r3 : List S75) (r4 r5 : Int) (r6 : Bool) (r7 r8 r9 : Int) (w : World) (hr0 : Kd.C (Kd.int .i64) w A0 l0.length l0) (hc0 : l0.length ≤ c0) (hr1 : Kd.C (Kd.int .i64) w A1 l1.length l1) (hc1 : l1.length ≤ c1) (h : impl_ViewOf.f k l0 l1 a1 a2 region rows cols = some (r1, r2, r3, r4, r5, r6, r7, r8, r9)) :
  Calls Try.prog 13 #[.slice A0 l0.length c0, .agg #[.slice A1 l1.length c1, .int .i64 a1, .int .i64 a2], .bool region, .int .i64 rows, .int .i64 cols] w fun e w' => ∃ v2_ : Value, e = .returned (.agg #[.int .i64 r1, .int .i64 r2, v2_, .int .i64 r4, .int .i64 r5, .bool r6, .int .i64 r7, .int .i64 r8, .int .i64 r9]) ∧ Kd.S k75 75 w' w.heap.size (fun _ => True) v2_ r3 ∧ Below w.heap.size w w' := by
 have HR0 := am hr0
 have HC0 := am hc0
 have HR1 := am hr1
 have HC1 := am hc1
 clear hr0 hc0 hr1 hc1
 have HB := am (Below.refl w.heap.size w)
 unfold impl_ViewOf.f at h
 obtain ⟨m, A30, h⟩ := Option.bind_eq_some_iff.mp h
 have A3 := am A30
 clear A30
 cases m with
 | true =>
  rw [if_pos rfl] at h
  simp only [Option.some.injEq, Prod.mk.injEq] at h
  obtain ⟨rfl, rfl, rfl, rfl, rfl, rfl, rfl, rfl, rfl⟩ := h
  go_enter Try.func13, Try.ntmps13
  go_wp2_with (first | ((with_reducible refine gate_dst (N := 6) rfl ?_); refine box_event ?hg (N := 6) ?hd (cs := #[(.slice A1 l1.length c1), (.int .i64 a1), (.int .i64 a2)]) (t := 33) ?hr ?_; (case hd => rfl); (case hg => rfl); (case hr => first | (go_simp; done) | (go_simp; rfl)); intro gb hg wb hbox hb; have BK := am hbox; replace HB := am (below_step HB.out hb); have hb0 := bc hbox 0; have hb1 := bc hbox 1; have hb2 := bc hbox 2; clear hb hbox hg) | ((with_reducible refine gate_dst (N := 10) rfl ?_); refine box_event ?hg (N := 10) ?hd (cs := #[(.int .i64 0), (.int .i64 0), (.slice none 0 0), (.int .i64 0), (.int .i64 0), (.bool false), (.int .i64 0), (.int .i64 0), (.int .i64 0)]) (t := 30) ?hr ?_; (case hd => rfl); (case hg => rfl); (case hr => first | (go_simp; done) | (go_simp; rfl)); intro gv hg ws hbox hb; have BV := am hbox; have GV : Aside0 (w.heap.size ≤ gv) := ⟨by rw [hg]; exact HB.out.size⟩; replace BK := am (blk_below BK.out hb); replace HB := am (below_step HB.out hb); clear hb0 hb1 hb2; have hb0 := bc BK.out 0; have hb1 := bc BK.out 1; have hb2 := bc BK.out 2; have hs0 := bc BV.out 0; have hs1 := bc BV.out 1; have hs2 := bc BV.out 2; have hs3 := bc BV.out 3; have hs4 := bc BV.out 4; have hs5 := bc BV.out 5; have hs6 := bc BV.out 6; have hs7 := bc BV.out 7; have hs8 := bc BV.out 8; have hsf0 := blk_frozen BV.out 0; have hsf1 := blk_frozen BV.out 1; have hsf2 := blk_frozen BV.out 2; have hsf3 := blk_frozen BV.out 3; have hsf4 := blk_frozen BV.out 4; have hsf5 := blk_frozen BV.out 5; have hsf6 := blk_frozen BV.out 6; have hsf7 := blk_frozen BV.out 7; have hsf8 := blk_frozen BV.out 8; clear hb hbox hg) | (go_at_call 46; refine (impl_isMany.calls (l0.length : Int) true _ A3.out).mono ?_; rintro e w5 ⟨rfl, hd_⟩; have hb := Drawn0.below hd_; clear hd_; replace BK := am (blk_below BK.out hb); replace BV := am (blk_below BV.out hb); replace HB := am (below_step HB.out hb); clear hb0 hb1 hb2 hs0 hs1 hs2 hs3 hs4 hs5 hs6 hs7 hs8 hsf0 hsf1 hsf2 hsf3 hsf4 hsf5 hsf6 hsf7 hsf8; have hb0 := bc BK.out 0; have hb1 := bc BK.out 1; have hb2 := bc BK.out 2; have hs0 := bc BV.out 0; have hs1 := bc BV.out 1; have hs2 := bc BV.out 2; have hs3 := bc BV.out 3; have hs4 := bc BV.out 4; have hs5 := bc BV.out 5; have hs6 := bc BV.out 6; have hs7 := bc BV.out 7; have hs8 := bc BV.out 8; have hsf0 := blk_frozen BV.out 0; have hsf1 := blk_frozen BV.out 1; have hsf2 := blk_frozen BV.out 2; have hsf3 := blk_frozen BV.out 3; have hsf4 := blk_frozen BV.out 4; have hsf5 := blk_frozen BV.out 5; have hsf6 := blk_frozen BV.out 6; have hsf7 := blk_frozen BV.out 7; have hsf8 := blk_frozen BV.out 8; clear hb) | ((with_reducible refine gate_store (t := 30) (p := 10) rfl ?_); refine store_event (t := 30) (p := 10) (v := .tmp 22) (w1 := (((((((((w5.setCell ⟨gv, 0, none⟩ (.int .i64 0)).setCell ⟨gv, 1, none⟩ (.int .i64 0)).setCell ⟨gv, 2, none⟩ (.slice none 0 0)).setCell ⟨gv, 3, none⟩ (.int .i64 0)).setCell ⟨gv, 4, none⟩ (.int .i64 0)).setCell ⟨gv, 5, none⟩ (.bool false)).setCell ⟨gv, 6, none⟩ (.int .i64 0)).setCell ⟨gv, 7, none⟩ (.int .i64 0)).setCell ⟨gv, 8, none⟩ (.int .i64 2))) ?hg ?ho ?hn ?hr ?_; (case ho => rfl); (case hg => rfl); (case hn => rfl); (case hr => first | (go_simp; done) | (go_simp; rfl)); intro w9 hw; have BV9 : Aside0 (w9.heap[gv]? = some (.cells #[(.int .i64 0), (.int .i64 0), (.slice none 0 0), (.int .i64 0), (.int .i64 0), (.bool false), (.int .i64 0), (.int .i64 0), (.int .i64 2)] 30 (0, 0))) := ⟨by rw [hw]; exact (blk_put (cs := #[(.int .i64 0), (.int .i64 0), (.slice none 0 0), (.int .i64 0), (.int .i64 0), (.bool false), (.int .i64 0), (.int .i64 0), (.int .i64 0)]) (blk_put (cs := #[(.int .i64 0), (.int .i64 0), (.slice none 0 0), (.int .i64 0), (.int .i64 0), (.bool false), (.int .i64 0), (.int .i64 0), (.int .i64 0)]) (blk_put (cs := #[(.int .i64 0), (.int .i64 0), (.slice none 0 0), (.int .i64 0), (.int .i64 0), (.bool false), (.int .i64 0), (.int .i64 0), (.int .i64 0)]) (blk_put (cs := #[(.int .i64 0), (.int .i64 0), (.slice none 0 0), (.int .i64 0), (.int .i64 0), (.bool false), (.int .i64 0), (.int .i64 0), (.int .i64 0)]) (blk_put (cs := #[(.int .i64 0), (.int .i64 0), (.slice none 0 0), (.int .i64 0), (.int .i64 0), (.bool false), (.int .i64 0), (.int .i64 0), (.int .i64 0)]) (blk_put (cs := #[(.int .i64 0), (.int .i64 0), (.slice none 0 0), (.int .i64 0), (.int .i64 0), (.bool false), (.int .i64 0), (.int .i64 0), (.int .i64 0)]) (blk_put (cs := #[(.int .i64 0), (.int .i64 0), (.slice none 0 0), (.int .i64 0), (.int .i64 0), (.bool false), (.int .i64 0), (.int .i64 0), (.int .i64 0)]) (blk_put (cs := #[(.int .i64 0), (.int .i64 0), (.slice none 0 0), (.int .i64 0), (.int .i64 0), (.bool false), (.int .i64 0), (.int .i64 0), (.int .i64 0)]) (blk_put (cs := #[(.int .i64 0), (.int .i64 0), (.slice none 0 0), (.int .i64 0), (.int .i64 0), (.bool false), (.int .i64 0), (.int .i64 0), (.int .i64 0)]) BV.out 0 _ rfl) 1 _ rfl) 2 _ rfl) 3 _ rfl) 4 _ rfl) 5 _ rfl) 6 _ rfl) 7 _ rfl) 8 _ rfl)⟩; have HB9 : Aside0 (Below w.heap.size w w9) := ⟨by rw [hw]; exact below_set (below_set (below_set (below_set (below_set (below_set (below_set (below_set (below_set HB.out GV.out) GV.out) GV.out) GV.out) GV.out) GV.out) GV.out) GV.out) GV.out⟩; clear hw))
  refine bodyPost_ret (results_cell_row rfl _ _ gv 30 #[(.int .i64 0), (.int .i64 0), (.slice none 0 0), (.int .i64 0), (.int .i64 0), (.bool false), (.int .i64 0), (.int .i64 0), (.int .i64 2)] (0, 0) _ rfl (by (with_reducible repeat (first | refine blk_drewN ?_ _ | refine blk_drew ?_)); exact BV9.out) Try.underlying30 rfl (by kernel_rfl)) rfl ?_
  exact ⟨_, by first | rfl | (simp; done), Kd.S_nil _ _ _ _ _, by repeat (first | exact HB9.out | apply pw_below_drewN | apply below_drew1)⟩
 | false =>
  rw [if_neg Bool.false_ne_true] at h
  obtain ⟨t, A40, h⟩ := Option.bind_eq_some_iff.mp h
  have A4 := am A40
  clear A40
  cases t with
  | false =>
   rw [if_neg Bool.false_ne_true] at h
   simp only [Option.some.injEq, Prod.mk.injEq] at h
   obtain ⟨rfl, rfl, rfl, rfl, rfl, rfl, rfl, rfl, rfl⟩ := h
   go_enter Try.func13, Try.ntmps13
   go_wp2_with (first | ((with_reducible refine gate_dst (N := 6) rfl ?_); refine box_event ?hg (N := 6) ?hd (cs := #[(.slice A1 l1.length c1), (.int .i64 a1), (.int .i64 a2)]) (t := 33) ?hr ?_; (case hd => rfl); (case hg => rfl); (case hr => first | (go_simp; done) | (go_simp; rfl)); intro gb hg wb hbox hb; have BK := am hbox; replace HB := am (below_step HB.out hb); have hb0 := bc hbox 0; have hb1 := bc hbox 1; have hb2 := bc hbox 2; clear hb hbox hg) | ((with_reducible refine gate_dst (N := 10) rfl ?_); refine box_event ?hg (N := 10) ?hd (cs := #[(.int .i64 0), (.int .i64 0), (.slice none 0 0), (.int .i64 0), (.int .i64 0), (.bool false), (.int .i64 0), (.int .i64 0), (.int .i64 0)]) (t := 30) ?hr ?_; (case hd => rfl); (case hg => rfl); (case hr => first | (go_simp; done) | (go_simp; rfl)); intro gv hg ws hbox hb; have BV := am hbox; have GV : Aside0 (w.heap.size ≤ gv) := ⟨by rw [hg]; exact HB.out.size⟩; replace BK := am (blk_below BK.out hb); replace HB := am (below_step HB.out hb); clear hb0 hb1 hb2; have hb0 := bc BK.out 0; have hb1 := bc BK.out 1; have hb2 := bc BK.out 2; have hs0 := bc BV.out 0; have hs1 := bc BV.out 1; have hs2 := bc BV.out 2; have hs3 := bc BV.out 3; have hs4 := bc BV.out 4; have hs5 := bc BV.out 5; have hs6 := bc BV.out 6; have hs7 := bc BV.out 7; have hs8 := bc BV.out 8; have hsf0 := blk_frozen BV.out 0; have hsf1 := blk_frozen BV.out 1; have hsf2 := blk_frozen BV.out 2; have hsf3 := blk_frozen BV.out 3; have hsf4 := blk_frozen BV.out 4; have hsf5 := blk_frozen BV.out 5; have hsf6 := blk_frozen BV.out 6; have hsf7 := blk_frozen BV.out 7; have hsf8 := blk_frozen BV.out 8; clear hb hbox hg) | (go_at_call 46; refine (impl_isMany.calls (l0.length : Int) false _ A3.out).mono ?_; rintro e w5 ⟨rfl, hd_⟩; have hb := Drawn0.below hd_; clear hd_; replace BK := am (blk_below BK.out hb); replace BV := am (blk_below BV.out hb); replace HB := am (below_step HB.out hb); clear hb0 hb1 hb2 hs0 hs1 hs2 hs3 hs4 hs5 hs6 hs7 hs8 hsf0 hsf1 hsf2 hsf3 hsf4 hsf5 hsf6 hsf7 hsf8; have hb0 := bc BK.out 0; have hb1 := bc BK.out 1; have hb2 := bc BK.out 2; have hs0 := bc BV.out 0; have hs1 := bc BV.out 1; have hs2 := bc BV.out 2; have hs3 := bc BV.out 3; have hs4 := bc BV.out 4; have hs5 := bc BV.out 5; have hs6 := bc BV.out 6; have hs7 := bc BV.out 7; have hs8 := bc BV.out 8; have hsf0 := blk_frozen BV.out 0; have hsf1 := blk_frozen BV.out 1; have hsf2 := blk_frozen BV.out 2; have hsf3 := blk_frozen BV.out 3; have hsf4 := blk_frozen BV.out 4; have hsf5 := blk_frozen BV.out 5; have hsf6 := blk_frozen BV.out 6; have hsf7 := blk_frozen BV.out 7; have hsf8 := blk_frozen BV.out 8; clear hb) | (go_at_call 47; refine (impl_isViewed.calls k A0 c0 l0 A1 c1 l1 a1 a2 cols false _ (by first | exact Kd.C_below HR0.out HB.out | exact Kd.C_below HR0.out (pw_below_drewN HB.out _)) HC0.out (by first | exact Kd.C_below HR1.out HB.out | exact Kd.C_below HR1.out (pw_below_drewN HB.out _)) HC1.out A4.out).mono ?_; rintro e w6 ⟨rfl, hb⟩; replace BK := am (blk_below BK.out hb); replace BV := am (blk_below BV.out hb); replace HB := am (below_step HB.out hb); clear hb0 hb1 hb2 hs0 hs1 hs2 hs3 hs4 hs5 hs6 hs7 hs8 hsf0 hsf1 hsf2 hsf3 hsf4 hsf5 hsf6 hsf7 hsf8; have hb0 := bc BK.out 0; have hb1 := bc BK.out 1; have hb2 := bc BK.out 2; have hs0 := bc BV.out 0; have hs1 := bc BV.out 1; have hs2 := bc BV.out 2; have hs3 := bc BV.out 3; have hs4 := bc BV.out 4; have hs5 := bc BV.out 5; have hs6 := bc BV.out 6; have hs7 := bc BV.out 7; have hs8 := bc BV.out 8; have hsf0 := blk_frozen BV.out 0; have hsf1 := blk_frozen BV.out 1; have hsf2 := blk_frozen BV.out 2; have hsf3 := blk_frozen BV.out 3; have hsf4 := blk_frozen BV.out 4; have hsf5 := blk_frozen BV.out 5; have hsf6 := blk_frozen BV.out 6; have hsf7 := blk_frozen BV.out 7; have hsf8 := blk_frozen BV.out 8; clear hb) | ((with_reducible refine gate_store (t := 30) (p := 10) rfl ?_); refine store_event (t := 30) (p := 10) (v := .tmp 34) (w1 := (((((((((w6.setCell ⟨gv, 0, none⟩ (.int .i64 0)).setCell ⟨gv, 1, none⟩ (.int .i64 0)).setCell ⟨gv, 2, none⟩ (.slice none 0 0)).setCell ⟨gv, 3, none⟩ (.int .i64 0)).setCell ⟨gv, 4, none⟩ (.int .i64 0)).setCell ⟨gv, 5, none⟩ (.bool false)).setCell ⟨gv, 6, none⟩ (.int .i64 0)).setCell ⟨gv, 7, none⟩ (.int .i64 0)).setCell ⟨gv, 8, none⟩ (.int .i64 1))) ?hg ?ho ?hn ?hr ?_; (case ho => rfl); (case hg => rfl); (case hn => rfl); (case hr => first | (go_simp; done) | (go_simp; rfl)); intro w9 hw; have BV9 : Aside0 (w9.heap[gv]? = some (.cells #[(.int .i64 0), (.int .i64 0), (.slice none 0 0), (.int .i64 0), (.int .i64 0), (.bool false), (.int .i64 0), (.int .i64 0), (.int .i64 1)] 30 (0, 0))) := ⟨by rw [hw]; exact (blk_put (cs := #[(.int .i64 0), (.int .i64 0), (.slice none 0 0), (.int .i64 0), (.int .i64 0), (.bool false), (.int .i64 0), (.int .i64 0), (.int .i64 0)]) (blk_put (cs := #[(.int .i64 0), (.int .i64 0), (.slice none 0 0), (.int .i64 0), (.int .i64 0), (.bool false), (.int .i64 0), (.int .i64 0), (.int .i64 0)]) (blk_put (cs := #[(.int .i64 0), (.int .i64 0), (.slice none 0 0), (.int .i64 0), (.int .i64 0), (.bool false), (.int .i64 0), (.int .i64 0), (.int .i64 0)]) (blk_put (cs := #[(.int .i64 0), (.int .i64 0), (.slice none 0 0), (.int .i64 0), (.int .i64 0), (.bool false), (.int .i64 0), (.int .i64 0), (.int .i64 0)]) (blk_put (cs := #[(.int .i64 0), (.int .i64 0), (.slice none 0 0), (.int .i64 0), (.int .i64 0), (.bool false), (.int .i64 0), (.int .i64 0), (.int .i64 0)]) (blk_put (cs := #[(.int .i64 0), (.int .i64 0), (.slice none 0 0), (.int .i64 0), (.int .i64 0), (.bool false), (.int .i64 0), (.int .i64 0), (.int .i64 0)]) (blk_put (cs := #[(.int .i64 0), (.int .i64 0), (.slice none 0 0), (.int .i64 0), (.int .i64 0), (.bool false), (.int .i64 0), (.int .i64 0), (.int .i64 0)]) (blk_put (cs := #[(.int .i64 0), (.int .i64 0), (.slice none 0 0), (.int .i64 0), (.int .i64 0), (.bool false), (.int .i64 0), (.int .i64 0), (.int .i64 0)]) (blk_put (cs := #[(.int .i64 0), (.int .i64 0), (.slice none 0 0), (.int .i64 0), (.int .i64 0), (.bool false), (.int .i64 0), (.int .i64 0), (.int .i64 0)]) BV.out 0 _ rfl) 1 _ rfl) 2 _ rfl) 3 _ rfl) 4 _ rfl) 5 _ rfl) 6 _ rfl) 7 _ rfl) 8 _ rfl)⟩; have HB9 : Aside0 (Below w.heap.size w w9) := ⟨by rw [hw]; exact below_set (below_set (below_set (below_set (below_set (below_set (below_set (below_set (below_set HB.out GV.out) GV.out) GV.out) GV.out) GV.out) GV.out) GV.out) GV.out) GV.out⟩; clear hw))
   refine bodyPost_ret (results_cell_row rfl _ _ gv 30 #[(.int .i64 0), (.int .i64 0), (.slice none 0 0), (.int .i64 0), (.int .i64 0), (.bool false), (.int .i64 0), (.int .i64 0), (.int .i64 1)] (0, 0) _ rfl (by (with_reducible repeat (first | refine blk_drewN ?_ _ | refine blk_drew ?_)); exact BV9.out) Try.underlying30 rfl (by kernel_rfl)) rfl ?_
   exact ⟨_, by first | rfl | (simp; done), Kd.S_nil _ _ _ _ _, by repeat (first | exact HB9.out | apply pw_below_drewN | apply below_drew1)⟩
  | true =>
   rw [if_pos rfl] at h
   obtain ⟨u, A50, h⟩ := Option.bind_eq_some_iff.mp h
   have A5 := am A50
   clear A50
   cases u with
   | false =>
    rw [if_neg Bool.false_ne_true] at h
    simp only [Option.some.injEq, Prod.mk.injEq] at h
    obtain ⟨rfl, rfl, rfl, rfl, rfl, rfl, rfl, rfl, rfl⟩ := h
    go_enter Try.func13, Try.ntmps13
    go_wp2_with (first | ((with_reducible refine gate_dst (N := 6) rfl ?_); refine box_event ?hg (N := 6) ?hd (cs := #[(.slice A1 l1.length c1), (.int .i64 a1), (.int .i64 a2)]) (t := 33) ?hr ?_; (case hd => rfl); (case hg => rfl); (case hr => first | (go_simp; done) | (go_simp; rfl)); intro gb hg wb hbox hb; have BK := am hbox; replace HB := am (below_step HB.out hb); have hb0 := bc hbox 0; have hb1 := bc hbox 1; have hb2 := bc hbox 2; clear hb hbox hg) | ((with_reducible refine gate_dst (N := 10) rfl ?_); refine box_event ?hg (N := 10) ?hd (cs := #[(.int .i64 0), (.int .i64 0), (.slice none 0 0), (.int .i64 0), (.int .i64 0), (.bool false), (.int .i64 0), (.int .i64 0), (.int .i64 0)]) (t := 30) ?hr ?_; (case hd => rfl); (case hg => rfl); (case hr => first | (go_simp; done) | (go_simp; rfl)); intro gv hg ws hbox hb; have BV := am hbox; have GV : Aside0 (w.heap.size ≤ gv) := ⟨by rw [hg]; exact HB.out.size⟩; replace BK := am (blk_below BK.out hb); replace HB := am (below_step HB.out hb); clear hb0 hb1 hb2; have hb0 := bc BK.out 0; have hb1 := bc BK.out 1; have hb2 := bc BK.out 2; have hs0 := bc BV.out 0; have hs1 := bc BV.out 1; have hs2 := bc BV.out 2; have hs3 := bc BV.out 3; have hs4 := bc BV.out 4; have hs5 := bc BV.out 5; have hs6 := bc BV.out 6; have hs7 := bc BV.out 7; have hs8 := bc BV.out 8; have hsf0 := blk_frozen BV.out 0; have hsf1 := blk_frozen BV.out 1; have hsf2 := blk_frozen BV.out 2; have hsf3 := blk_frozen BV.out 3; have hsf4 := blk_frozen BV.out 4; have hsf5 := blk_frozen BV.out 5; have hsf6 := blk_frozen BV.out 6; have hsf7 := blk_frozen BV.out 7; have hsf8 := blk_frozen BV.out 8; clear hb hbox hg) | (go_at_call 46; refine (impl_isMany.calls (l0.length : Int) false _ A3.out).mono ?_; rintro e w5 ⟨rfl, hd_⟩; have hb := Drawn0.below hd_; clear hd_; replace BK := am (blk_below BK.out hb); replace BV := am (blk_below BV.out hb); replace HB := am (below_step HB.out hb); clear hb0 hb1 hb2 hs0 hs1 hs2 hs3 hs4 hs5 hs6 hs7 hs8 hsf0 hsf1 hsf2 hsf3 hsf4 hsf5 hsf6 hsf7 hsf8; have hb0 := bc BK.out 0; have hb1 := bc BK.out 1; have hb2 := bc BK.out 2; have hs0 := bc BV.out 0; have hs1 := bc BV.out 1; have hs2 := bc BV.out 2; have hs3 := bc BV.out 3; have hs4 := bc BV.out 4; have hs5 := bc BV.out 5; have hs6 := bc BV.out 6; have hs7 := bc BV.out 7; have hs8 := bc BV.out 8; have hsf0 := blk_frozen BV.out 0; have hsf1 := blk_frozen BV.out 1; have hsf2 := blk_frozen BV.out 2; have hsf3 := blk_frozen BV.out 3; have hsf4 := blk_frozen BV.out 4; have hsf5 := blk_frozen BV.out 5; have hsf6 := blk_frozen BV.out 6; have hsf7 := blk_frozen BV.out 7; have hsf8 := blk_frozen BV.out 8; clear hb) | (go_at_call 47; refine (impl_isViewed.calls k A0 c0 l0 A1 c1 l1 a1 a2 cols true _ (by first | exact Kd.C_below HR0.out HB.out | exact Kd.C_below HR0.out (pw_below_drewN HB.out _)) HC0.out (by first | exact Kd.C_below HR1.out HB.out | exact Kd.C_below HR1.out (pw_below_drewN HB.out _)) HC1.out A4.out).mono ?_; rintro e w6 ⟨rfl, hb⟩; replace BK := am (blk_below BK.out hb); replace BV := am (blk_below BV.out hb); replace HB := am (below_step HB.out hb); clear hb0 hb1 hb2 hs0 hs1 hs2 hs3 hs4 hs5 hs6 hs7 hs8 hsf0 hsf1 hsf2 hsf3 hsf4 hsf5 hsf6 hsf7 hsf8; have hb0 := bc BK.out 0; have hb1 := bc BK.out 1; have hb2 := bc BK.out 2; have hs0 := bc BV.out 0; have hs1 := bc BV.out 1; have hs2 := bc BV.out 2; have hs3 := bc BV.out 3; have hs4 := bc BV.out 4; have hs5 := bc BV.out 5; have hs6 := bc BV.out 6; have hs7 := bc BV.out 7; have hs8 := bc BV.out 8; have hsf0 := blk_frozen BV.out 0; have hsf1 := blk_frozen BV.out 1; have hsf2 := blk_frozen BV.out 2; have hsf3 := blk_frozen BV.out 3; have hsf4 := blk_frozen BV.out 4; have hsf5 := blk_frozen BV.out 5; have hsf6 := blk_frozen BV.out 6; have hsf7 := blk_frozen BV.out 7; have hsf8 := blk_frozen BV.out 8; clear hb) | (go_at_call 48; refine (impl_isRows.calls rows false _ A5.out).mono ?_; rintro e w7 ⟨rfl, hd_⟩; have hb := Drawn0.below hd_; clear hd_; replace BK := am (blk_below BK.out hb); replace BV := am (blk_below BV.out hb); replace HB := am (below_step HB.out hb); clear hb0 hb1 hb2 hs0 hs1 hs2 hs3 hs4 hs5 hs6 hs7 hs8 hsf0 hsf1 hsf2 hsf3 hsf4 hsf5 hsf6 hsf7 hsf8; have hb0 := bc BK.out 0; have hb1 := bc BK.out 1; have hb2 := bc BK.out 2; have hs0 := bc BV.out 0; have hs1 := bc BV.out 1; have hs2 := bc BV.out 2; have hs3 := bc BV.out 3; have hs4 := bc BV.out 4; have hs5 := bc BV.out 5; have hs6 := bc BV.out 6; have hs7 := bc BV.out 7; have hs8 := bc BV.out 8; have hsf0 := blk_frozen BV.out 0; have hsf1 := blk_frozen BV.out 1; have hsf2 := blk_frozen BV.out 2; have hsf3 := blk_frozen BV.out 3; have hsf4 := blk_frozen BV.out 4; have hsf5 := blk_frozen BV.out 5; have hsf6 := blk_frozen BV.out 6; have hsf7 := blk_frozen BV.out 7; have hsf8 := blk_frozen BV.out 8; clear hb) | ((with_reducible refine gate_store (t := 30) (p := 10) rfl ?_); refine store_event (t := 30) (p := 10) (v := .tmp 34) (w1 := (((((((((w7.setCell ⟨gv, 0, none⟩ (.int .i64 0)).setCell ⟨gv, 1, none⟩ (.int .i64 0)).setCell ⟨gv, 2, none⟩ (.slice none 0 0)).setCell ⟨gv, 3, none⟩ (.int .i64 0)).setCell ⟨gv, 4, none⟩ (.int .i64 0)).setCell ⟨gv, 5, none⟩ (.bool false)).setCell ⟨gv, 6, none⟩ (.int .i64 0)).setCell ⟨gv, 7, none⟩ (.int .i64 0)).setCell ⟨gv, 8, none⟩ (.int .i64 1))) ?hg ?ho ?hn ?hr ?_; (case ho => rfl); (case hg => rfl); (case hn => rfl); (case hr => first | (go_simp; done) | (go_simp; rfl)); intro w9 hw; have BV9 : Aside0 (w9.heap[gv]? = some (.cells #[(.int .i64 0), (.int .i64 0), (.slice none 0 0), (.int .i64 0), (.int .i64 0), (.bool false), (.int .i64 0), (.int .i64 0), (.int .i64 1)] 30 (0, 0))) := ⟨by rw [hw]; exact (blk_put (cs := #[(.int .i64 0), (.int .i64 0), (.slice none 0 0), (.int .i64 0), (.int .i64 0), (.bool false), (.int .i64 0), (.int .i64 0), (.int .i64 0)]) (blk_put (cs := #[(.int .i64 0), (.int .i64 0), (.slice none 0 0), (.int .i64 0), (.int .i64 0), (.bool false), (.int .i64 0), (.int .i64 0), (.int .i64 0)]) (blk_put (cs := #[(.int .i64 0), (.int .i64 0), (.slice none 0 0), (.int .i64 0), (.int .i64 0), (.bool false), (.int .i64 0), (.int .i64 0), (.int .i64 0)]) (blk_put (cs := #[(.int .i64 0), (.int .i64 0), (.slice none 0 0), (.int .i64 0), (.int .i64 0), (.bool false), (.int .i64 0), (.int .i64 0), (.int .i64 0)]) (blk_put (cs := #[(.int .i64 0), (.int .i64 0), (.slice none 0 0), (.int .i64 0), (.int .i64 0), (.bool false), (.int .i64 0), (.int .i64 0), (.int .i64 0)]) (blk_put (cs := #[(.int .i64 0), (.int .i64 0), (.slice none 0 0), (.int .i64 0), (.int .i64 0), (.bool false), (.int .i64 0), (.int .i64 0), (.int .i64 0)]) (blk_put (cs := #[(.int .i64 0), (.int .i64 0), (.slice none 0 0), (.int .i64 0), (.int .i64 0), (.bool false), (.int .i64 0), (.int .i64 0), (.int .i64 0)]) (blk_put (cs := #[(.int .i64 0), (.int .i64 0), (.slice none 0 0), (.int .i64 0), (.int .i64 0), (.bool false), (.int .i64 0), (.int .i64 0), (.int .i64 0)]) (blk_put (cs := #[(.int .i64 0), (.int .i64 0), (.slice none 0 0), (.int .i64 0), (.int .i64 0), (.bool false), (.int .i64 0), (.int .i64 0), (.int .i64 0)]) BV.out 0 _ rfl) 1 _ rfl) 2 _ rfl) 3 _ rfl) 4 _ rfl) 5 _ rfl) 6 _ rfl) 7 _ rfl) 8 _ rfl)⟩; have HB9 : Aside0 (Below w.heap.size w w9) := ⟨by rw [hw]; exact below_set (below_set (below_set (below_set (below_set (below_set (below_set (below_set (below_set HB.out GV.out) GV.out) GV.out) GV.out) GV.out) GV.out) GV.out) GV.out) GV.out⟩; clear hw))
    refine bodyPost_ret (results_cell_row rfl _ _ gv 30 #[(.int .i64 0), (.int .i64 0), (.slice none 0 0), (.int .i64 0), (.int .i64 0), (.bool false), (.int .i64 0), (.int .i64 0), (.int .i64 1)] (0, 0) _ rfl (by (with_reducible repeat (first | refine blk_drewN ?_ _ | refine blk_drew ?_)); exact BV9.out) Try.underlying30 rfl (by kernel_rfl)) rfl ?_
    exact ⟨_, by first | rfl | (simp; done), Kd.S_nil _ _ _ _ _, by repeat (first | exact HB9.out | apply pw_below_drewN | apply below_drew1)⟩
   | true =>
    rw [if_pos rfl] at h
    obtain ⟨⟨row_, col_, cs_, in_, sp_⟩, A60, h⟩ := Option.bind_eq_some_iff.mp h
    obtain ⟨⟨g1, g2, g3, g4, g5, g6, g7⟩, A70, h⟩ := Option.bind_eq_some_iff.mp h
    have A6 := am A60
    have A7 := am A70
    clear A60 A70
    dsimp only at h
    obtain ⟨s1, hs1⟩ : ∃ s, s = (rd_T45 sp_ a1).f0 := ⟨_, rfl⟩
    obtain ⟨s2, hs2⟩ : ∃ s, s = (rd_T45 sp_ a1).f1 := ⟨_, rfl⟩
    obtain ⟨x55, hx55⟩ : ∃ x, wrap64 (wrap64 (s1 - rows) + 1) = x := ⟨_, rfl⟩
    obtain ⟨top, htop⟩ : ∃ t, (if x55 < 0 then 0 else x55) = t := ⟨_, rfl⟩
    have HTop := am (show voTop s1 rows = top by unfold voTop; rw [hx55, htop])
    rw [← hs1, ← hs2, HTop.out] at h
    have HS1 := am hs1
    have HS2 := am hs2
    clear hs1 hs2
    by_cases d1 : 0 ≤ a1
    rotate_left
    · rw [if_neg d1] at h; cases h
    rw [if_pos d1] at h
    by_cases d2 : a1 < (sp_.length : Int)
    rotate_left
    · rw [if_neg d2] at h; cases h
    rw [if_pos d2] at h
    have HD1 := am d1
    have HD2 := am d2
    have u1 := eq_true d1
    have u2 := eq_true d2
    clear d1 d2
    obtain ⟨G', A80, h⟩ := Option.bind_eq_some_iff.mp h
    have A8 := am A80
    clear A80
    simp only [Option.some.injEq, Prod.mk.injEq] at h
    obtain ⟨rfl, rfl, rfl, rfl, rfl, rfl, rfl, rfl, rfl⟩ := h
    go_enter Try.func13, Try.ntmps13
    go_wp2_with (first | ((with_reducible refine gate_dst (N := 6) rfl ?_); refine box_event ?hg (N := 6) ?hd (cs := #[(.slice A1 l1.length c1), (.int .i64 a1), (.int .i64 a2)]) (t := 33) ?hr ?_; (case hd => rfl); (case hg => rfl); (case hr => first | (go_simp; done) | (go_simp; rfl)); intro gb hg wb hbox hb; have BK := am hbox; replace HB := am (below_step HB.out hb); have hb0 := bc hbox 0; have hb1 := bc hbox 1; have hb2 := bc hbox 2; clear hb hbox hg) | ((with_reducible refine gate_dst (N := 10) rfl ?_); refine box_event ?hg (N := 10) ?hd (cs := #[(.int .i64 0), (.int .i64 0), (.slice none 0 0), (.int .i64 0), (.int .i64 0), (.bool false), (.int .i64 0), (.int .i64 0), (.int .i64 0)]) (t := 30) ?hr ?_; (case hd => rfl); (case hg => rfl); (case hr => first | (go_simp; done) | (go_simp; rfl)); intro gv hg ws hbox hb; have BV := am hbox; have GV : Aside0 (w.heap.size ≤ gv) := ⟨by rw [hg]; exact HB.out.size⟩; replace BK := am (blk_below BK.out hb); replace HB := am (below_step HB.out hb); clear hb0 hb1 hb2; have hb0 := bc BK.out 0; have hb1 := bc BK.out 1; have hb2 := bc BK.out 2; have hs0 := bc BV.out 0; have hs1 := bc BV.out 1; have hs2 := bc BV.out 2; have hs3 := bc BV.out 3; have hs4 := bc BV.out 4; have hs5 := bc BV.out 5; have hs6 := bc BV.out 6; have hs7 := bc BV.out 7; have hs8 := bc BV.out 8; have hsf0 := blk_frozen BV.out 0; have hsf1 := blk_frozen BV.out 1; have hsf2 := blk_frozen BV.out 2; have hsf3 := blk_frozen BV.out 3; have hsf4 := blk_frozen BV.out 4; have hsf5 := blk_frozen BV.out 5; have hsf6 := blk_frozen BV.out 6; have hsf7 := blk_frozen BV.out 7; have hsf8 := blk_frozen BV.out 8; clear hb hbox hg) | (go_at_call 46; refine (impl_isMany.calls (l0.length : Int) false _ A3.out).mono ?_; rintro e w5 ⟨rfl, hd_⟩; have hb := Drawn0.below hd_; clear hd_; replace BK := am (blk_below BK.out hb); replace BV := am (blk_below BV.out hb); replace HB := am (below_step HB.out hb); clear hb0 hb1 hb2 hs0 hs1 hs2 hs3 hs4 hs5 hs6 hs7 hs8 hsf0 hsf1 hsf2 hsf3 hsf4 hsf5 hsf6 hsf7 hsf8; have hb0 := bc BK.out 0; have hb1 := bc BK.out 1; have hb2 := bc BK.out 2; have hs0 := bc BV.out 0; have hs1 := bc BV.out 1; have hs2 := bc BV.out 2; have hs3 := bc BV.out 3; have hs4 := bc BV.out 4; have hs5 := bc BV.out 5; have hs6 := bc BV.out 6; have hs7 := bc BV.out 7; have hs8 := bc BV.out 8; have hsf0 := blk_frozen BV.out 0; have hsf1 := blk_frozen BV.out 1; have hsf2 := blk_frozen BV.out 2; have hsf3 := blk_frozen BV.out 3; have hsf4 := blk_frozen BV.out 4; have hsf5 := blk_frozen BV.out 5; have hsf6 := blk_frozen BV.out 6; have hsf7 := blk_frozen BV.out 7; have hsf8 := blk_frozen BV.out 8; clear hb) | (go_at_call 47; refine (impl_isViewed.calls k A0 c0 l0 A1 c1 l1 a1 a2 cols true _ (by first | exact Kd.C_below HR0.out HB.out | exact Kd.C_below HR0.out (pw_below_drewN HB.out _)) HC0.out (by first | exact Kd.C_below HR1.out HB.out | exact Kd.C_below HR1.out (pw_below_drewN HB.out _)) HC1.out A4.out).mono ?_; rintro e w6 ⟨rfl, hb⟩; replace BK := am (blk_below BK.out hb); replace BV := am (blk_below BV.out hb); replace HB := am (below_step HB.out hb); clear hb0 hb1 hb2 hs0 hs1 hs2 hs3 hs4 hs5 hs6 hs7 hs8 hsf0 hsf1 hsf2 hsf3 hsf4 hsf5 hsf6 hsf7 hsf8; have hb0 := bc BK.out 0; have hb1 := bc BK.out 1; have hb2 := bc BK.out 2; have hs0 := bc BV.out 0; have hs1 := bc BV.out 1; have hs2 := bc BV.out 2; have hs3 := bc BV.out 3; have hs4 := bc BV.out 4; have hs5 := bc BV.out 5; have hs6 := bc BV.out 6; have hs7 := bc BV.out 7; have hs8 := bc BV.out 8; have hsf0 := blk_frozen BV.out 0; have hsf1 := blk_frozen BV.out 1; have hsf2 := blk_frozen BV.out 2; have hsf3 := blk_frozen BV.out 3; have hsf4 := blk_frozen BV.out 4; have hsf5 := blk_frozen BV.out 5; have hsf6 := blk_frozen BV.out 6; have hsf7 := blk_frozen BV.out 7; have hsf8 := blk_frozen BV.out 8; clear hb) | (go_at_call 48; refine (impl_isRows.calls rows true _ A5.out).mono ?_; rintro e w7 ⟨rfl, hd_⟩; have hb := Drawn0.below hd_; clear hd_; replace BK := am (blk_below BK.out hb); replace BV := am (blk_below BV.out hb); replace HB := am (below_step HB.out hb); clear hb0 hb1 hb2 hs0 hs1 hs2 hs3 hs4 hs5 hs6 hs7 hs8 hsf0 hsf1 hsf2 hsf3 hsf4 hsf5 hsf6 hsf7 hsf8; have hb0 := bc BK.out 0; have hb1 := bc BK.out 1; have hb2 := bc BK.out 2; have hs0 := bc BV.out 0; have hs1 := bc BV.out 1; have hs2 := bc BV.out 2; have hs3 := bc BV.out 3; have hs4 := bc BV.out 4; have hs5 := bc BV.out 5; have hs6 := bc BV.out 6; have hs7 := bc BV.out 7; have hs8 := bc BV.out 8; have hsf0 := blk_frozen BV.out 0; have hsf1 := blk_frozen BV.out 1; have hsf2 := blk_frozen BV.out 2; have hsf3 := blk_frozen BV.out 3; have hsf4 := blk_frozen BV.out 4; have hsf5 := blk_frozen BV.out 5; have hsf6 := blk_frozen BV.out 6; have hsf7 := blk_frozen BV.out 7; have hsf8 := blk_frozen BV.out 8; clear hb) | (go_at_call 49; refine (impl_lay.calls k A0 c0 l0 A1 c1 l1 a1 a2 region cols row_ col_ cs_ in_ sp_ _ (Kd.C_below HR0.out HB.out) HC0.out (Kd.C_below HR1.out HB.out) HC1.out A6.out).mono ?_; rintro e w8 ⟨g, rfl, hi, hb⟩; obtain ⟨hlg, vc, vs, h1, h2, h3⟩ := LS_lower hi HB.out.size; obtain ⟨fo, hfo⟩ := lay_open h2; obtain ⟨Av, cv, ev⟩ := Kd.R_slice h3; subst ev; obtain ⟨Ac, cc, ec⟩ := Kd.S_slice h2; subst ec; have HN0 : Aside0 (w.heap.size ≤ w8.heap.size) := ⟨Nat.le_trans HB.out.size hb.size⟩; replace BK := am (blk_below BK.out hb); replace BV := am (blk_below BV.out hb); replace HB := am (below_step HB.out hb); have BL := am h1; have HSp := am h3; have HLy := am hfo; have HGL : Aside0 (g < w8.heap.size) := ⟨blk_lt h1⟩; clear hb0 hb1 hb2 hs0 hs1 hs2 hs3 hs4 hs5 hs6 hs7 hs8 hsf0 hsf1 hsf2 hsf3 hsf4 hsf5 hsf6 hsf7 hsf8 hi hlg hfo h1 h2 h3 hb) | (go_at_call 50; refine (impl_GridNew.calls rows cols g1 g2 g3 g4 g5 g6 g7 _ A7.out).mono ?_; rintro e w9 ⟨vG, rfl, hG, hb⟩; obtain ⟨AG, cG, eG⟩ := Kd.S_slice hG; subst eG; have HG := am (GI_new (f := fo) (N0 := w8.heap.size) (base := w.heap.size) hG (Nat.le_refl _) HB.out.size); replace HLy := am (Kd.R_below HLy.out hb); have HBN : Aside0 (Below w8.heap.size w8 w9) := ⟨hb⟩; have HFr : Aside0 (∀ k, (Value.slice AG g3.length cG).ownBlock = some k → w8.heap.size ≤ k) := ⟨Kd.S_base hG⟩; replace BK := am (blk_below BK.out hb); replace BV := am (blk_below BV.out hb); replace BL := am (blk_below BL.out hb); replace HSp := am (Kd.R_below HSp.out hb); replace HB := am (below_step HB.out hb); clear hG hb) | ((with_reducible refine gate_dst (N := 12) rfl ?_); refine box_event ?hg (N := 12) ?hd (cs := #[(.int .i64 0), (.int .i64 0), (.slice none 0 0), (.int .i64 0), (.int .i64 0), (.bool false), (.int .i64 0)]) (t := 28) ?hr ?_; (case hd => rfl); (case hg => rfl); (case hr => first | (go_simp; done) | (go_simp; rfl)); intro g12 hg w10 hbox hb; have B12 := am hbox; have G12 : Aside0 (w8.heap.size ≤ g12) := ⟨by rw [hg]; exact HBN.out.size⟩; replace BK := am (blk_below BK.out hb); replace BV := am (blk_below BV.out hb); replace BL := am (blk_below BL.out hb); replace HSp := am (Kd.R_below HSp.out hb); replace HLy := am (Kd.R_below HLy.out hb); replace HG := am (Kd.S_below HG.out hb); replace HB := am (below_step HB.out hb); replace HBN := am (below_step HBN.out hb); have hq0 := bc hbox 0; have hq1 := bc hbox 1; have hq2 := bc hbox 2; have hq3 := bc hbox 3; have hq4 := bc hbox 4; have hq5 := bc hbox 5; have hq6 := bc hbox 6; have hqf0 := blk_frozen hbox 0; have hqf1 := blk_frozen hbox 1; have hqf2 := blk_frozen hbox 2; have hqf3 := blk_frozen hbox 3; have hqf4 := blk_frozen hbox 4; have hqf5 := blk_frozen hbox 5; have hqf6 := blk_frozen hbox 6; clear hb hbox hg) | ((with_reducible refine gate_store (t := 28) (p := 12) rfl ?_); refine store_event (t := 28) (p := 12) (v := .tmp 42) (w1 := (((((((w10.setCell ⟨g12, 0, none⟩ (.int .i64 g1)).setCell ⟨g12, 1, none⟩ (.int .i64 g2)).setCell ⟨g12, 2, none⟩ (.slice AG g3.length cG)).setCell ⟨g12, 3, none⟩ (.int .i64 g4)).setCell ⟨g12, 4, none⟩ (.int .i64 g5)).setCell ⟨g12, 5, none⟩ (.bool g6)).setCell ⟨g12, 6, none⟩ (.int .i64 g7))) ?hg ?ho ?hn ?hr ?_; (case ho => rfl); (case hg => rfl); (case hn => rfl); (case hr => first | (go_simp; done) | (go_simp; rfl)); intro w11 hw; have hk_ : KeepBut w10 w11 g12 none := (by rw [hw]; exact (KeepBut.set_ (KeepBut.set_ (KeepBut.set_ (KeepBut.set_ (KeepBut.set_ (KeepBut.set_ (KeepBut.set_ (KeepBut.refl _ _ _) 0 (.int .i64 g1)) 1 (.int .i64 g2)) 2 (.slice AG g3.length cG)) 3 (.int .i64 g4)) 4 (.int .i64 g5)) 5 (.bool g6)) 6 (.int .i64 g7))); replace HB : Aside0 (Below w.heap.size w w11) := ⟨by rw [hw]; exact below_set (below_set (below_set (below_set (below_set (below_set (below_set HB.out (Nat.le_trans HN0.out G12.out)) (Nat.le_trans HN0.out G12.out)) (Nat.le_trans HN0.out G12.out)) (Nat.le_trans HN0.out G12.out)) (Nat.le_trans HN0.out G12.out)) (Nat.le_trans HN0.out G12.out)) (Nat.le_trans HN0.out G12.out)⟩; replace HBN : Aside0 (Below w8.heap.size w8 w11) := ⟨by rw [hw]; exact below_set (below_set (below_set (below_set (below_set (below_set (below_set HBN.out G12.out) G12.out) G12.out) G12.out) G12.out) G12.out) G12.out⟩; have B12n : Aside0 (w11.heap[g12]? = some (.cells #[(.int .i64 g1), (.int .i64 g2), (.slice AG g3.length cG), (.int .i64 g4), (.int .i64 g5), (.bool g6), (.int .i64 g7)] 28 (0, 0))) := ⟨by rw [hw]; exact (blk_put (cs := #[(.int .i64 g1), (.int .i64 g2), (.slice AG g3.length cG), (.int .i64 g4), (.int .i64 g5), (.bool g6), (.int .i64 0)]) (blk_put (cs := #[(.int .i64 g1), (.int .i64 g2), (.slice AG g3.length cG), (.int .i64 g4), (.int .i64 g5), (.bool false), (.int .i64 0)]) (blk_put (cs := #[(.int .i64 g1), (.int .i64 g2), (.slice AG g3.length cG), (.int .i64 g4), (.int .i64 0), (.bool false), (.int .i64 0)]) (blk_put (cs := #[(.int .i64 g1), (.int .i64 g2), (.slice AG g3.length cG), (.int .i64 0), (.int .i64 0), (.bool false), (.int .i64 0)]) (blk_put (cs := #[(.int .i64 g1), (.int .i64 g2), (.slice none 0 0), (.int .i64 0), (.int .i64 0), (.bool false), (.int .i64 0)]) (blk_put (cs := #[(.int .i64 g1), (.int .i64 0), (.slice none 0 0), (.int .i64 0), (.int .i64 0), (.bool false), (.int .i64 0)]) (blk_put (cs := #[(.int .i64 0), (.int .i64 0), (.slice none 0 0), (.int .i64 0), (.int .i64 0), (.bool false), (.int .i64 0)]) B12.out 0 _ rfl) 1 _ rfl) 2 _ rfl) 3 _ rfl) 4 _ rfl) 5 _ rfl) 6 _ rfl)⟩; replace HLy := am (HLay_far HLy.out G12.out hk_); replace HG : Aside0 (GI fo w8.heap.size 0 w11 w.heap.size (.slice AG g3.length cG) g3) := ⟨Kd.S_mono (Kd.S_keep (Kd.S_types HG.out B12.out (by decide)) hk_ (fun _ h_ => h_.2)) (fun _ h_ => h_.1)⟩; replace HSp := am (Kd.R_mono (ok' := fun _ => True) (Kd.R_keep (Kd.R_types HSp.out B12.out (by decide)) hk_ (fun _ h_ => h_.2)) (fun _ _ => trivial)); replace BK := am (hk_.blk BK.out (blk_ne BK.out B12.out (by decide)) (by simp)); replace BV := am (hk_.blk BV.out (blk_ne BV.out B12.out (by decide)) (by simp)); replace BL := am (hk_.blk BL.out (blk_ne BL.out B12.out (by decide)) (by simp)); replace B12 := B12n; clear B12n hw hk_ hq0 hq1 hq2 hq3 hq4 hq5 hq6 hqf0 hqf1 hqf2 hqf3 hqf4 hqf5 hqf6))
    obtain ⟨ad, ead, e0, e1⟩ := at_T45 (Kd.R_reads' HSp.out).2.2 a1 HD1.out HD2.out
    subst ead
    rw [← HS1.out] at e0
    rw [← HS2.out] at e1
    replace BK := am (blk_drew BK.out)
    replace BV := am (blk_drew BV.out)
    replace BL := am (blk_drew BL.out)
    replace B12 := am (blk_drew B12.out)
    replace HLy := am (Kd.R_drew HLy.out)
    replace HG := am (Kd.S_drew HG.out)
    replace HB := am (below_drew1 HB.out)
    replace HBN := am (below_drew1 HBN.out)
    replace e0 : w11.drew.cell? (ad.add (a1.toNat * 2)) = some (.int .i64 s1) := e0
    replace e1 : w11.drew.cell? ⟨(ad.add (a1.toNat * 2)).block, (ad.add (a1.toNat * 2)).off + 1, none⟩ = some (.int .i64 s2) := e1
    clear HSp
    refine start_ (n := 10) (S := fun w' => w'.cell? ⟨g, 5, none⟩ = some (.slice (some ad) sp_.length cv) ∧ w'.cell? ⟨gb, 1, none⟩ = some (.int .i64 a1) ∧ w'.cell? (ad.add (a1.toNat * 2)) = some (.int .i64 s1) ∧ w'.cell? ⟨(ad.add (a1.toNat * 2)).block, (ad.add (a1.toNat * 2)).off + 1, none⟩ = some (.int .i64 s2)) (ds := [9]) vo6.a0 (by kernel_rfl) rfl rfl ⟨bc BL.out 5, bc BK.out 1, e0, e1⟩ (fun hHeld => ?_); refine with_tabW vo6.tab vo6.bits (fun HT_ HW_ => ?_)
    generalize w11.drew = w12 at BK BV BL B12 HLy HG HB HBN e0 e1 hHeld ⊢
    refine pu_ 0 (some 43) ?_ vo6.a1 rfl rfl HT_.out (by kernel_rfl) (fun _ _ _ h => h) (Or.inl ⟨by rfl, ?_⟩) ?_ ?_ ?_; rotate_left
    ·intro w'; go_simp; with_reducible rfl
    rotate_left
    ·simp only [Act.put, sa_, s0_, ss_, i64_w, i32_w]; rfl
    refine pu_ 1 (some 44) ?_ vo6.a2 rfl rfl HT_.out (by kernel_rfl) (fun _ _ _ h => h) (Or.inl ⟨by rfl, ?_⟩) ?_ ?_ ?_; rotate_left
    ·intro w'; go_simp; with_reducible rfl
    rotate_left
    ·simp only [Act.put, sa_, s0_, ss_, i64_w, i32_w]; rfl
    refine pu_ 2 (some 45) ?_ vo6.a3 rfl rfl HT_.out (by kernel_rfl) (fun _ _ _ h => h) (Or.inl ⟨by rfl, ?_⟩) ?_ ?_ ?_; rotate_left
    ·intro w'; go_simp; with_reducible rfl
    rotate_left
    ·simp only [Act.put, sa_, s0_, ss_, i64_w, i32_w]; rfl
    refine pu_ 4 (some 47) ?_ vo6.a4 rfl rfl HT_.out (by kernel_rfl) (fun _ _ _ h => h) (Or.inl ⟨by rfl, ?_⟩) ?_ ?_ ?_; rotate_left
    ·intro w'; go_simp; with_reducible rfl
    rotate_left
    ·simp only [Act.put, sa_, s0_, ss_, i64_w, i32_w]; rfl
    refine tk_ 3 (some 46) ?_ vo6.a5 rfl rfl HT_.out HW_.out (by kernel_rfl) (fun _ _ _ h => h) (Or.inl ⟨by rfl, ?_⟩) hHeld ?_ ?_ ?_; rotate_left
    ·rintro w' ⟨t0, t1, t2, t3⟩; go_simp; with_reducible rfl
    rotate_left
    ·simp only [Act.put, sa_, s0_, ss_, i64_w, i32_w]; rfl
    refine tk_ 5 (some 48) ?_ vo6.a6 rfl rfl HT_.out HW_.out (by kernel_rfl) (fun _ _ _ h => h) (Or.inl ⟨by rfl, ?_⟩) hHeld ?_ ?_ ?_; rotate_left
    ·rintro w' ⟨t0, t1, t2, t3⟩; go_simp; with_reducible rfl
    rotate_left
    ·simp only [Act.put, sa_, s0_, ss_, i64_w, i32_w]; rfl
    refine pu_ 6 (some 49) ?_ vo6.a7 rfl rfl HT_.out (by kernel_rfl) (fun _ _ _ h => h) (Or.inl ⟨by rfl, ?_⟩) ?_ ?_ ?_; rotate_left
    ·intro w'; go_simp; with_reducible rfl
    rotate_left
    ·simp only [Act.put, sa_, s0_, ss_, i64_w, i32_w]; rfl
    refine tk_ 7 (some 50) ?_ vo6.a8 rfl rfl HT_.out HW_.out (by kernel_rfl) (fun _ _ _ h => h) (Or.inl ⟨by rfl, ?_⟩) hHeld ?_ ?_ ?_; rotate_left
    ·rintro w' ⟨t0, t1, t2, t3⟩; go_simp; with_reducible rfl
    rotate_left
    ·simp only [Act.put, sa_, s0_, ss_, i64_w, i32_w]; rfl
    refine one_ (i := 8) (N := some 13) vo6.a9 rfl rfl (one_of HT_.out (by kernel_rfl)) (by decide) (fun K hK => ?_)
    refine box_step ?hg (N := 13) ?hd (cs := #[.int .i64 0, .int .i64 0]) (t := 45) ?hr ?_
    (case hd => rfl)
    (case hg => rfl)
    (case hr => first | (go_simp; done) | (go_simp; rfl))
    intro g13 hg w13 hbox hb
    have B13 := am hbox
    have G13 : Aside0 (w8.heap.size ≤ g13) := ⟨by rw [hg]; exact HBN.out.size⟩
    replace BK := am (blk_below BK.out hb); replace BV := am (blk_below BV.out hb); replace BL := am (blk_below BL.out hb); replace B12 := am (blk_below B12.out hb); replace HLy := am (Kd.R_below HLy.out hb); replace HG := am (Kd.S_below HG.out hb); replace HB := am (below_step HB.out hb); replace HBN := am (below_step HBN.out hb)
    replace e0 := pw_cell_below hb e0
    replace e1 := pw_cell_below hb e1
    clear hb hbox hg
    refine hK.out _ _ ⟨bc BL.out 5, bc BK.out 1, e0, e1⟩ (fun hHeld => ?_)
    clear hK K
    refine norm_ (a' := ?_) ?_ ?_; rotate_left
    ·show Act.put _ (some 13) _ = _
     simp only [Act.put, sa_, s0_, ss_, i64_w, i32_w]
     rfl
    refine last_ (i := 9) (N := none) vo6.a10 rfl rfl (one_of HT_.out (by kernel_rfl)) (by decide) (fun K hK => ?_)
    have hq0 := bc B13.out 0
    have hq1 := bc B13.out 1
    have hqf0 := blk_frozen B13.out 0
    have hqf1 := blk_frozen B13.out 1
    refine skip_ (w1 := ?_) (by rfl) rfl ?_ ?_
    rotate_left
    ·go_simp
     rfl
    refine hK.out _ _ ?_
    clear hK K
    refine done_ (done_of HT_.out (by kernel_rfl)) ?_
    have hk_ := (KeepBut.set_ (KeepBut.set_ (KeepBut.refl w13 g13 none) 0 (.int .i64 s1)) 1 (.int .i64 s2))
    have B13n := am (show (((w13.setCell ⟨g13, 0, none⟩ (.int .i64 s1)).setCell ⟨g13, 1, none⟩ (.int .i64 s2))).heap[g13]? = some (.cells #[(.int .i64 s1), (.int .i64 s2)] 45 (0, 0)) from (blk_put (cs := #[(.int .i64 s1), (.int .i64 0)]) (blk_put (cs := #[(.int .i64 0), (.int .i64 0)]) B13.out 0 _ rfl) 1 _ rfl))
    have HLn := am (HLay_far HLy.out G13.out hk_)
    have HGn := am (show GI fo w8.heap.size 0 ((w13.setCell ⟨g13, 0, none⟩ (.int .i64 s1)).setCell ⟨g13, 1, none⟩ (.int .i64 s2)) w.heap.size (.slice AG g3.length cG) g3 from Kd.S_mono (Kd.S_keep (Kd.S_types HG.out B13.out (by decide)) hk_ (fun _ h_ => h_.2)) (fun _ h_ => h_.1))
    have BVn := am (hk_.blk BV.out (blk_ne BV.out B13.out (by decide)) (by simp))
    have BLn := am (hk_.blk BL.out (blk_ne BL.out B13.out (by decide)) (by simp))
    have B12n := am (hk_.blk B12.out (blk_ne B12.out B13.out (by decide)) (by simp))
    have HBn := am (below_set (j := 1) (v := .int .i64 s2) (below_set (j := 0) (v := .int .i64 s1) HB.out (Nat.le_trans HN0.out G13.out)) (Nat.le_trans HN0.out G13.out))
    have HBNn := am (below_set (j := 1) (v := .int .i64 s2) (below_set (j := 0) (v := .int .i64 s1) HBN.out G13.out) G13.out)
    clear HLy HG BV BL B12 HB HBN BK B13 hHeld hk_ hq0 hq1 hqf0 hqf1 e0 e1
    generalize ((w13.setCell ⟨g13, 0, none⟩ (.int .i64 s1)).setCell ⟨g13, 1, none⟩ (.int .i64 s2)) = w14 at B13n HLn HGn BVn BLn B12n HBn HBNn ⊢
    have hq0 := bc B13n.out 0
    have hq1 := bc B13n.out 1
    have hl3 := bc BLn.out 3
    go_wp2
    go_loopg [62] k (fun kq v62 w' => ∃ (i : Nat) (G : List S75), v62 = .int .i64 (i : Int) ∧ Aside0 (voL rows cols top kq cs_ (i : Int) G = some G') ∧ Aside0 (kq ≤ k) ∧ Aside0 (HLay fo w8.heap.size w' w.heap.size (.slice Ac cs_.length cc) cs_) ∧ Aside0 (GI fo w8.heap.size i w' w.heap.size (.slice AG g3.length cG) G) ∧ Aside0 (w'.heap[g12]? = some (.cells #[(.int .i64 g1), (.int .i64 g2), (.slice AG g3.length cG), (.int .i64 g4), (.int .i64 g5), (.bool g6), (.int .i64 g7)] 28 (0, 0))) ∧ Aside0 (w'.heap[g13]? = some (.cells #[(.int .i64 s1), (.int .i64 s2)] 45 (0, 0))) ∧ Aside0 (w'.heap[gv]? = some (.cells #[(.int .i64 0), (.int .i64 0), (.slice none 0 0), (.int .i64 0), (.int .i64 0), (.bool false), (.int .i64 0), (.int .i64 0), (.int .i64 0)] 30 (0, 0))) ∧ Aside0 (Below w.heap.size w w') ∧ Aside0 (Below w8.heap.size w8 w'))
    case atStart => exact ⟨0, g3, (by first | rfl | (simp; done)), A8, ⟨Nat.le_refl _⟩, (by first | exact HLn | exact ⟨Kd.R_drewN HLn.out _⟩), (by first | exact HGn | exact ⟨Kd.S_drewN HGn.out _⟩), (by first | exact B12n | exact ⟨blk_drewN B12n.out _⟩), (by first | exact B13n | exact ⟨blk_drewN B13n.out _⟩), (by first | exact BVn | exact ⟨blk_drewN BVn.out _⟩), (by first | exact HBn | exact ⟨pw_below_drewN HBn.out _⟩), (by first | exact HBNn | exact ⟨pw_below_drewN HBNn.out _⟩)⟩
    case round =>
     clear A8 HLn HGn B12n B13n BVn HBn HBNn BLn hq0 hq1 hl3 hx55 htop
     obtain ⟨i, G, rfl, HA, HK1, HLy, HG, B12, B13, BV, HB, HBN⟩ := hrel
     cases gk with
     | zero => exact absurd HA.out (by simp [voL])
     | succ k1 =>
      have H := HA.out
      clear HA
      rw [voL] at H
      have hmx := HLay_len HLy.out
      by_cases c2 : (i : Int) < (cs_.length : Int)
      · rw [if_pos c2, if_pos (by omega)] at H
        obtain ⟨x, hx⟩ : ∃ x, x = rd_T85 cs_ (i : Int) := ⟨_, rfl⟩
        rw [← hx] at H
        obtain ⟨i2, hi2⟩ : ∃ j : Nat, j = i + 1 := ⟨_, rfl⟩
        have hwi : wrap64 ((i : Int) + 1) = (i2 : Int) := by rw [hi2]; unfold wrap64; omega
        rw [hwi] at H
        obtain ⟨gc, cap2, eA, hga, hgal, cellsA, hcA⟩ := Kd.R_form HLy.out (show 0 < cs_.zipIdx.length by rw [List.length_zipIdx]; omega)
        injection eA with ea_ en_ ec_
        clear en_
        subst ea_
        subst ec_
        obtain ⟨A0x, c0x, e0, e1, e2, e3, hRx⟩ := lay_elem HLy.out i (by omega) hx
        have HRx := am hRx
        have c2b : decide ((i : Int) < (cs_.length : Int)) = true := decide_eq_true c2
        have p2 := eq_true c2
        have p3 : (0 ≤ (i : Int)) = True := eq_true (by omega)
        have HI2 := am hi2
        clear c2 hRx hx hga hgal hcA hmx hi2
        obtain ⟨b, AB0, H⟩ := Option.bind_eq_some_iff.mp H
        have AB := am AB0
        clear AB0
        cases b with
        | false =>
         rw [if_neg Bool.false_ne_true] at H
         have H' := am H
         clear H
         go_wp2_with (first | ((with_reducible refine gate_dst (N := 16) rfl ?_); refine box_event ?hg (N := 16) ?hd (cs := #[(.slice none 0 0), (.int .i64 0), (.int .i64 0), (.int .i64 0)]) (t := 85) ?hr ?_; (case hd => rfl); (case hg => rfl); (case hr => first | (go_simp; done) | (go_simp; rfl)); intro gs hg wS hbox hb; have BS := am hbox; have GS : Aside0 (wr.heap.size ≤ gs) := ⟨(by rw [hg]; exact Nat.le_refl _)⟩; have HBr : Aside0 (Below wr.heap.size wr wS) := ⟨by first | exact hb | exact below_step (pw_below_drewN (Below.refl wr.heap.size wr) _) hb⟩; have hs0 := bc BS.out 0; have hs1 := bc BS.out 1; have hs2 := bc BS.out 2; have hs3 := bc BS.out 3; have hsf0 := blk_frozen BS.out 0; have hsf1 := blk_frozen BS.out 1; have hsf2 := blk_frozen BS.out 2; have hsf3 := blk_frozen BS.out 3; clear hb hbox hg e0 e1 e2 e3) | ((with_reducible refine gate_store (t := 85) (p := 16) rfl ?_); refine store_event (t := 85) (p := 16) (v := .tmp 65) (w1 := ((((wS.setCell ⟨gs, 0, none⟩ (.slice A0x x.f0.f0.length c0x)).setCell ⟨gs, 1, none⟩ (.int .i64 x.f0.f1)).setCell ⟨gs, 2, none⟩ (.int .i64 x.f1)).setCell ⟨gs, 3, none⟩ (.int .i64 x.f2))) ?hg ?ho ?hn ?hr ?_; (case ho => rfl); (case hg => rfl); (case hn => rfl); (case hr => first | (go_simp; done) | (go_simp; rfl)); intro wq hw; have hb : Below wr.heap.size wr wq := (by rw [hw]; exact below_set (below_set (below_set (below_set HBr.out GS.out) GS.out) GS.out) GS.out); have BSn : Aside0 (wq.heap[gs]? = some (.cells #[(.slice A0x x.f0.f0.length c0x), (.int .i64 x.f0.f1), (.int .i64 x.f1), (.int .i64 x.f2)] 85 (0, 0))) := ⟨(by rw [hw]; exact (blk_put (cs := #[(.slice A0x x.f0.f0.length c0x), (.int .i64 x.f0.f1), (.int .i64 x.f1), (.int .i64 0)]) (blk_put (cs := #[(.slice A0x x.f0.f0.length c0x), (.int .i64 x.f0.f1), (.int .i64 0), (.int .i64 0)]) (blk_put (cs := #[(.slice A0x x.f0.f0.length c0x), (.int .i64 0), (.int .i64 0), (.int .i64 0)]) (blk_put (cs := #[(.slice none 0 0), (.int .i64 0), (.int .i64 0), (.int .i64 0)]) BS.out 0 _ rfl) 1 _ rfl) 2 _ rfl) 3 _ rfl))⟩; replace BS := BSn; replace HLy := am (Kd.R_below HLy.out hb); replace HG := am (Kd.S_below HG.out hb); replace B12 := am (blk_below B12.out hb); replace B13 := am (blk_below B13.out hb); replace BV := am (blk_below BV.out hb); replace HB := am (below_step HB.out hb); replace HBN := am (below_step HBN.out hb); replace HRx := am (Kd.R_below HRx.out hb); clear BSn HBr hw hb hs0 hs1 hs2 hs3 hsf0 hsf1 hsf2 hsf3; have hs0 := bc BS.out 0; have hs1 := bc BS.out 1; have hs2 := bc BS.out 2; have hs3 := bc BS.out 3) | (go_at_call 51; refine (impl_within.calls x.f1 top (wrap64 (wrap64 (top + rows) - 1)) false _ AB.out).mono ?_; rintro e wk ⟨rfl, hd_⟩; have hb := Drawn0.below hd_; clear hd_; replace HLy := am (Kd.R_below HLy.out hb); replace HG := am (Kd.S_below HG.out hb); replace B12 := am (blk_below B12.out hb); replace B13 := am (blk_below B13.out hb); replace BV := am (blk_below BV.out hb); replace HB := am (below_step HB.out hb); replace HBN := am (below_step HBN.out hb); replace HRx := am (Kd.R_below HRx.out hb); replace BS := am (blk_below BS.out hb); clear hb hs0 hs1 hs2 hs3; have hs0 := bc BS.out 0; have hs1 := bc BS.out 1; have hs2 := bc BS.out 2; have hs3 := bc BS.out 3))
         go_roundg k1
         case measure => have := HK1.out; omega
         case rel => exact ⟨i2, G, (by first | rfl | (simp; done) | (simp [hwi]; done)), H', ⟨by have := HK1.out; omega⟩, HLy, (⟨by rw [HI2.out]; exact GI_next HG.out⟩), B12, B13, BV, HB, HBN⟩
        | true =>
         rw [if_pos rfl] at H
         obtain ⟨y1, hy1⟩ : ∃ y, wrap64 (x.f1 - top) = y := ⟨_, rfl⟩
         obtain ⟨y2, hy2⟩ : ∃ y, wrap64 (y1 * cols) = y := ⟨_, rfl⟩
         have hy2w : (IntKind.i64.wrap (y1 * cols)) = y2 := (i64_w _).trans hy2
         obtain ⟨kk, hkk⟩ : ∃ y, wrap64 (y2 + x.f2) = y := ⟨_, rfl⟩
         have hvk : voK cols top x = kk := by unfold voK; rw [hy1, hy2, hkk]
         rw [hvk] at H
         by_cases d1 : 0 ≤ kk
         rotate_left
         · rw [if_neg d1] at H; cases H
         rw [if_pos d1] at H
         by_cases d2 : kk < (G.length : Int)
         rotate_left
         · rw [if_neg d2] at H; cases H
         rw [if_pos d2] at H
         obtain ⟨gg, cg, eG, hbg, hgl, cells, hcl⟩ := Kd.S_form HG.out (show 0 < G.length by omega)
         injection eG with ea_ en_ ec_
         subst ea_
         subst ec_
         have HGG : Aside0 (w8.heap.size ≤ gg) := ⟨HFr.out gg rfl⟩
         have HK0 := am d1
         have HKl : Aside0 (kk < (g3.length : Int)) := ⟨by omega⟩
         have HX1 : Aside0 (x.f0 = rd_T75 (G.set kk.toNat x.f0) kk) := ⟨by unfold rd_T75; rw [List.getD_eq_getElem?_getD, List.getElem?_set_self (by omega)]; rfl⟩
         have r1 := eq_true d1
         have r2 := eq_true HKl.out
         have HEN := am en_
         clear d1 d2 hbg hgl hcl en_ hvk
         obtain ⟨wd, AW0, H⟩ := Option.bind_eq_some_iff.mp H
         have AW := am AW0
         clear AW0
         cases wd with
         | false =>
          rw [if_neg Bool.false_ne_true] at H
          have H' := am H
          clear H
          go_wp2_with (first | ((with_reducible refine gate_dst (N := 16) rfl ?_); refine box_event ?hg (N := 16) ?hd (cs := #[(.slice none 0 0), (.int .i64 0), (.int .i64 0), (.int .i64 0)]) (t := 85) ?hr ?_; (case hd => rfl); (case hg => rfl); (case hr => first | (go_simp; done) | (go_simp; rfl)); intro gs hg wS hbox hb; have BS := am hbox; have GS : Aside0 (wr.heap.size ≤ gs) := ⟨(by rw [hg]; exact Nat.le_refl _)⟩; have HBr : Aside0 (Below wr.heap.size wr wS) := ⟨by first | exact hb | exact below_step (pw_below_drewN (Below.refl wr.heap.size wr) _) hb⟩; have hs0 := bc BS.out 0; have hs1 := bc BS.out 1; have hs2 := bc BS.out 2; have hs3 := bc BS.out 3; have hsf0 := blk_frozen BS.out 0; have hsf1 := blk_frozen BS.out 1; have hsf2 := blk_frozen BS.out 2; have hsf3 := blk_frozen BS.out 3; clear hb hbox hg e0 e1 e2 e3) | ((with_reducible refine gate_store (t := 85) (p := 16) rfl ?_); refine store_event (t := 85) (p := 16) (v := .tmp 65) (w1 := ((((wS.setCell ⟨gs, 0, none⟩ (.slice A0x x.f0.f0.length c0x)).setCell ⟨gs, 1, none⟩ (.int .i64 x.f0.f1)).setCell ⟨gs, 2, none⟩ (.int .i64 x.f1)).setCell ⟨gs, 3, none⟩ (.int .i64 x.f2))) ?hg ?ho ?hn ?hr ?_; (case ho => rfl); (case hg => rfl); (case hn => rfl); (case hr => first | (go_simp; done) | (go_simp; rfl)); intro wq hw; have hb : Below wr.heap.size wr wq := (by rw [hw]; exact below_set (below_set (below_set (below_set HBr.out GS.out) GS.out) GS.out) GS.out); have BSn : Aside0 (wq.heap[gs]? = some (.cells #[(.slice A0x x.f0.f0.length c0x), (.int .i64 x.f0.f1), (.int .i64 x.f1), (.int .i64 x.f2)] 85 (0, 0))) := ⟨(by rw [hw]; exact (blk_put (cs := #[(.slice A0x x.f0.f0.length c0x), (.int .i64 x.f0.f1), (.int .i64 x.f1), (.int .i64 0)]) (blk_put (cs := #[(.slice A0x x.f0.f0.length c0x), (.int .i64 x.f0.f1), (.int .i64 0), (.int .i64 0)]) (blk_put (cs := #[(.slice A0x x.f0.f0.length c0x), (.int .i64 0), (.int .i64 0), (.int .i64 0)]) (blk_put (cs := #[(.slice none 0 0), (.int .i64 0), (.int .i64 0), (.int .i64 0)]) BS.out 0 _ rfl) 1 _ rfl) 2 _ rfl) 3 _ rfl))⟩; replace BS := BSn; replace HLy := am (Kd.R_below HLy.out hb); replace HG := am (Kd.S_below HG.out hb); replace B12 := am (blk_below B12.out hb); replace B13 := am (blk_below B13.out hb); replace BV := am (blk_below BV.out hb); replace HB := am (below_step HB.out hb); replace HBN := am (below_step HBN.out hb); replace HRx := am (Kd.R_below HRx.out hb); clear BSn HBr hw hb hs0 hs1 hs2 hs3 hsf0 hsf1 hsf2 hsf3; have hs0 := bc BS.out 0; have hs1 := bc BS.out 1; have hs2 := bc BS.out 2; have hs3 := bc BS.out 3) | (go_at_call 51; refine (impl_within.calls x.f1 top (wrap64 (wrap64 (top + rows) - 1)) true _ AB.out).mono ?_; rintro e wk ⟨rfl, hd_⟩; have hb := Drawn0.below hd_; clear hd_; replace HLy := am (Kd.R_below HLy.out hb); replace HG := am (Kd.S_below HG.out hb); replace B12 := am (blk_below B12.out hb); replace B13 := am (blk_below B13.out hb); replace BV := am (blk_below BV.out hb); replace HB := am (below_step HB.out hb); replace HBN := am (below_step HBN.out hb); replace HRx := am (Kd.R_below HRx.out hb); replace BS := am (blk_below BS.out hb); clear hb hs0 hs1 hs2 hs3; have hs0 := bc BS.out 0; have hs1 := bc BS.out 1; have hs2 := bc BS.out 2; have hs3 := bc BS.out 3; have hg2 := bc B12.out 2; obtain ⟨Ay, cy, ey0, ey1, _, _, fy0, fy1⟩ := row_elem (Kd.S_R HG.out) kk HK0.out HKl.out rfl; have HGC : Aside0 (∃ cl, wk.heap[gg]? = some (.cells cl 75 (0, 0))) := ⟨Kd.S_typed HG.out gg rfl⟩) | ((with_reducible refine gate_store (t := 75) (p := 89) rfl ?_); refine store_event (t := 75) (p := 89) (v := .tmp 88) (w1 := ((wk.setCell ⟨gg, kk.toNat * 2, none⟩ (.slice A0x x.f0.f0.length c0x)).setCell ⟨gg, kk.toNat * 2 + 1, none⟩ (.int .i64 x.f0.f1))) ?hg ?ho ?hn ?hr ?_; (case ho => rfl); (case hg => rfl); (case hn => rfl); (case hr => first | (go_simp; done) | (go_simp; rfl)); intro wm hw; have hk_ : KeepBut wk wm gg none := (by rw [hw]; exact KeepBut.set_ (KeepBut.set_ (KeepBut.refl _ _ _) _ _) _ _); have HGn : Aside0 (GI fo w8.heap.size (i + 1) wm w.heap.size (.slice (some ⟨gg, 0, none⟩) g3.length cG) (G.set kk.toNat x.f0)) := ⟨(by rw [hw]; exact GI_put HG.out HGG.out kk HK0.out HKl.out HRx.out)⟩; replace HG := HGn; replace HLy := am (HLay_far HLy.out HGG.out hk_); replace HB : Aside0 (Below w.heap.size w wm) := ⟨(by rw [hw]; exact below_set (below_set HB.out (Nat.le_trans HN0.out HGG.out)) (Nat.le_trans HN0.out HGG.out))⟩; replace HBN : Aside0 (Below w8.heap.size w8 wm) := ⟨(by rw [hw]; exact below_set (below_set HBN.out HGG.out) HGG.out)⟩; have hgc_ : ∃ cl, wk.heap[gg]? = some (.cells cl 75 (0, 0)) := HGC.out; obtain ⟨cl_, hcl_⟩ := hgc_; replace B12 := am (hk_.blk B12.out (blk_ne B12.out hcl_ (by decide)) (by simp)); replace B13 := am (hk_.blk B13.out (blk_ne B13.out hcl_ (by decide)) (by simp)); replace BV := am (hk_.blk BV.out (blk_ne BV.out hcl_ (by decide)) (by simp)); replace BS := am (hk_.blk BS.out (blk_ne BS.out hcl_ (by decide)) (by simp)); replace HGC : Aside0 (∃ cl, wm.heap[gg]? = some (.cells cl 75 (0, 0))) := ⟨Kd.S_typed HG.out gg rfl⟩; clear HGn hw hk_ hcl_ hg2 ey0 ey1 fy0 fy1 hs0 hs1 hs2 hs3 HRx; have hg2 := bc B12.out 2; obtain ⟨Aw, cw, ew0, ew1, lw, hCw, _, _⟩ := row_elem (Kd.S_R HG.out) kk HK0.out HKl.out HX1.out) | (go_at_call 52; refine (impl_Cell_isWide.calls k1 ⟨gg, kk.toNat * 2, none⟩ Aw cw x.f0.f0 x.f0.f1 false _ hCw lw ⟨ew0, ew1, trivial⟩ AW.out).mono ?_; rintro e wn ⟨rfl, hb⟩; replace HLy := am (Kd.R_below HLy.out hb); replace HG := am (Kd.S_below HG.out hb); replace B12 := am (blk_below B12.out hb); replace B13 := am (blk_below B13.out hb); replace BV := am (blk_below BV.out hb); replace HB := am (below_step HB.out hb); replace HBN := am (below_step HBN.out hb); replace BS := am (blk_below BS.out hb); clear hb hg2 ew0 ew1 lw hCw))
          go_roundg k1
          case measure => have := HK1.out; omega
          case rel => exact ⟨i2, (G.set kk.toNat x.f0), (by first | rfl | (simp; done) | (simp [hwi]; done)), H', ⟨by have := HK1.out; omega⟩, HLy, (⟨by rw [HI2.out]; exact HG.out⟩), B12, B13, BV, HB, HBN⟩
         | true =>
          rw [if_pos rfl] at H
          obtain ⟨kk2, hkk2⟩ : ∃ y, wrap64 (kk + 1) = y := ⟨_, rfl⟩
          rw [hkk2] at H
          by_cases d3 : 0 ≤ kk2
          rotate_left
          · rw [if_neg d3] at H; cases H
          rw [if_pos d3] at H
          by_cases d4 : kk2 < (G.length : Int)
          rotate_left
          · rw [if_neg d4] at H; cases H
          rw [if_pos d4] at H
          have HK20 := am d3
          have HK2l : Aside0 (kk2 < (g3.length : Int)) := ⟨by have := HEN.out; omega⟩
          have r3 := eq_true d3
          have r4 := eq_true HK2l.out
          have H' := am H
          clear H d3 d4
          go_wp2_with (first | ((with_reducible refine gate_dst (N := 16) rfl ?_); refine box_event ?hg (N := 16) ?hd (cs := #[(.slice none 0 0), (.int .i64 0), (.int .i64 0), (.int .i64 0)]) (t := 85) ?hr ?_; (case hd => rfl); (case hg => rfl); (case hr => first | (go_simp; done) | (go_simp; rfl)); intro gs hg wS hbox hb; have BS := am hbox; have GS : Aside0 (wr.heap.size ≤ gs) := ⟨(by rw [hg]; exact Nat.le_refl _)⟩; have HBr : Aside0 (Below wr.heap.size wr wS) := ⟨by first | exact hb | exact below_step (pw_below_drewN (Below.refl wr.heap.size wr) _) hb⟩; have hs0 := bc BS.out 0; have hs1 := bc BS.out 1; have hs2 := bc BS.out 2; have hs3 := bc BS.out 3; have hsf0 := blk_frozen BS.out 0; have hsf1 := blk_frozen BS.out 1; have hsf2 := blk_frozen BS.out 2; have hsf3 := blk_frozen BS.out 3; clear hb hbox hg e0 e1 e2 e3) | ((with_reducible refine gate_store (t := 85) (p := 16) rfl ?_); refine store_event (t := 85) (p := 16) (v := .tmp 65) (w1 := ((((wS.setCell ⟨gs, 0, none⟩ (.slice A0x x.f0.f0.length c0x)).setCell ⟨gs, 1, none⟩ (.int .i64 x.f0.f1)).setCell ⟨gs, 2, none⟩ (.int .i64 x.f1)).setCell ⟨gs, 3, none⟩ (.int .i64 x.f2))) ?hg ?ho ?hn ?hr ?_; (case ho => rfl); (case hg => rfl); (case hn => rfl); (case hr => first | (go_simp; done) | (go_simp; rfl)); intro wq hw; have hb : Below wr.heap.size wr wq := (by rw [hw]; exact below_set (below_set (below_set (below_set HBr.out GS.out) GS.out) GS.out) GS.out); have BSn : Aside0 (wq.heap[gs]? = some (.cells #[(.slice A0x x.f0.f0.length c0x), (.int .i64 x.f0.f1), (.int .i64 x.f1), (.int .i64 x.f2)] 85 (0, 0))) := ⟨(by rw [hw]; exact (blk_put (cs := #[(.slice A0x x.f0.f0.length c0x), (.int .i64 x.f0.f1), (.int .i64 x.f1), (.int .i64 0)]) (blk_put (cs := #[(.slice A0x x.f0.f0.length c0x), (.int .i64 x.f0.f1), (.int .i64 0), (.int .i64 0)]) (blk_put (cs := #[(.slice A0x x.f0.f0.length c0x), (.int .i64 0), (.int .i64 0), (.int .i64 0)]) (blk_put (cs := #[(.slice none 0 0), (.int .i64 0), (.int .i64 0), (.int .i64 0)]) BS.out 0 _ rfl) 1 _ rfl) 2 _ rfl) 3 _ rfl))⟩; replace BS := BSn; replace HLy := am (Kd.R_below HLy.out hb); replace HG := am (Kd.S_below HG.out hb); replace B12 := am (blk_below B12.out hb); replace B13 := am (blk_below B13.out hb); replace BV := am (blk_below BV.out hb); replace HB := am (below_step HB.out hb); replace HBN := am (below_step HBN.out hb); replace HRx := am (Kd.R_below HRx.out hb); clear BSn HBr hw hb hs0 hs1 hs2 hs3 hsf0 hsf1 hsf2 hsf3; have hs0 := bc BS.out 0; have hs1 := bc BS.out 1; have hs2 := bc BS.out 2; have hs3 := bc BS.out 3) | (go_at_call 51; refine (impl_within.calls x.f1 top (wrap64 (wrap64 (top + rows) - 1)) true _ AB.out).mono ?_; rintro e wk ⟨rfl, hd_⟩; have hb := Drawn0.below hd_; clear hd_; replace HLy := am (Kd.R_below HLy.out hb); replace HG := am (Kd.S_below HG.out hb); replace B12 := am (blk_below B12.out hb); replace B13 := am (blk_below B13.out hb); replace BV := am (blk_below BV.out hb); replace HB := am (below_step HB.out hb); replace HBN := am (below_step HBN.out hb); replace HRx := am (Kd.R_below HRx.out hb); replace BS := am (blk_below BS.out hb); clear hb hs0 hs1 hs2 hs3; have hs0 := bc BS.out 0; have hs1 := bc BS.out 1; have hs2 := bc BS.out 2; have hs3 := bc BS.out 3; have hg2 := bc B12.out 2; obtain ⟨Ay, cy, ey0, ey1, _, _, fy0, fy1⟩ := row_elem (Kd.S_R HG.out) kk HK0.out HKl.out rfl; have HGC : Aside0 (∃ cl, wk.heap[gg]? = some (.cells cl 75 (0, 0))) := ⟨Kd.S_typed HG.out gg rfl⟩) | ((with_reducible refine gate_store (t := 75) (p := 89) rfl ?_); refine store_event (t := 75) (p := 89) (v := .tmp 88) (w1 := ((wk.setCell ⟨gg, kk.toNat * 2, none⟩ (.slice A0x x.f0.f0.length c0x)).setCell ⟨gg, kk.toNat * 2 + 1, none⟩ (.int .i64 x.f0.f1))) ?hg ?ho ?hn ?hr ?_; (case ho => rfl); (case hg => rfl); (case hn => rfl); (case hr => first | (go_simp; done) | (go_simp; rfl)); intro wm hw; have hk_ : KeepBut wk wm gg none := (by rw [hw]; exact KeepBut.set_ (KeepBut.set_ (KeepBut.refl _ _ _) _ _) _ _); have HGn : Aside0 (GI fo w8.heap.size (i + 1) wm w.heap.size (.slice (some ⟨gg, 0, none⟩) g3.length cG) (G.set kk.toNat x.f0)) := ⟨(by rw [hw]; exact GI_put HG.out HGG.out kk HK0.out HKl.out HRx.out)⟩; replace HG := HGn; replace HLy := am (HLay_far HLy.out HGG.out hk_); replace HB : Aside0 (Below w.heap.size w wm) := ⟨(by rw [hw]; exact below_set (below_set HB.out (Nat.le_trans HN0.out HGG.out)) (Nat.le_trans HN0.out HGG.out))⟩; replace HBN : Aside0 (Below w8.heap.size w8 wm) := ⟨(by rw [hw]; exact below_set (below_set HBN.out HGG.out) HGG.out)⟩; have hgc_ : ∃ cl, wk.heap[gg]? = some (.cells cl 75 (0, 0)) := HGC.out; obtain ⟨cl_, hcl_⟩ := hgc_; replace B12 := am (hk_.blk B12.out (blk_ne B12.out hcl_ (by decide)) (by simp)); replace B13 := am (hk_.blk B13.out (blk_ne B13.out hcl_ (by decide)) (by simp)); replace BV := am (hk_.blk BV.out (blk_ne BV.out hcl_ (by decide)) (by simp)); replace BS := am (hk_.blk BS.out (blk_ne BS.out hcl_ (by decide)) (by simp)); replace HGC : Aside0 (∃ cl, wm.heap[gg]? = some (.cells cl 75 (0, 0))) := ⟨Kd.S_typed HG.out gg rfl⟩; clear HGn hw hk_ hcl_ hg2 ey0 ey1 fy0 fy1 hs0 hs1 hs2 hs3 HRx; have hg2 := bc B12.out 2; obtain ⟨Aw, cw, ew0, ew1, lw, hCw, _, _⟩ := row_elem (Kd.S_R HG.out) kk HK0.out HKl.out HX1.out) | (go_at_call 52; refine (impl_Cell_isWide.calls k1 ⟨gg, kk.toNat * 2, none⟩ Aw cw x.f0.f0 x.f0.f1 true _ hCw lw ⟨ew0, ew1, trivial⟩ AW.out).mono ?_; rintro e wn ⟨rfl, hb⟩; replace HLy := am (Kd.R_below HLy.out hb); replace HG := am (Kd.S_below HG.out hb); replace B12 := am (blk_below B12.out hb); replace B13 := am (blk_below B13.out hb); replace BV := am (blk_below BV.out hb); replace HB := am (below_step HB.out hb); replace HBN := am (below_step HBN.out hb); replace BS := am (blk_below BS.out hb); clear hb hg2 ew0 ew1 lw hCw; replace HGC : Aside0 (∃ cl, wn.heap[gg]? = some (.cells cl 75 (0, 0))) := ⟨Kd.S_typed HG.out gg rfl⟩; have hg2 := bc B12.out 2; have hs1 := bc BS.out 1; obtain ⟨Az, cz, ez0, ez1, _, _, fz0, fz1⟩ := row_elem (Kd.S_R HG.out) kk2 HK20.out HK2l.out rfl) | ((with_reducible refine gate_store (t := 75) (p := 103) rfl ?_); refine store_event (t := 75) (p := 103) (v := .tmp 102) (w1 := ((wn.setCell ⟨gg, kk2.toNat * 2, none⟩ (.slice none 0 0)).setCell ⟨gg, kk2.toNat * 2 + 1, none⟩ (.int .i64 x.f0.f1))) ?hg ?ho ?hn ?hr ?_; (case ho => rfl); (case hg => rfl); (case hn => rfl); (case hr => first | (go_simp; done) | (go_simp; rfl)); intro wo hw; have hk_ : KeepBut wn wo gg none := (by rw [hw]; exact KeepBut.set_ (KeepBut.set_ (KeepBut.refl _ _ _) _ _) _ _); have HGn : Aside0 (GI fo w8.heap.size (i + 1) wo w.heap.size (.slice (some ⟨gg, 0, none⟩) g3.length cG) ((G.set kk.toNat x.f0).set kk2.toNat ⟨[], x.f0.f1⟩)) := ⟨(by rw [hw]; exact GI_put0 HG.out kk2 HK20.out HK2l.out x.f0.f1)⟩; replace HG := HGn; replace HLy := am (HLay_far HLy.out HGG.out hk_); replace HB : Aside0 (Below w.heap.size w wo) := ⟨(by rw [hw]; exact below_set (below_set HB.out (Nat.le_trans HN0.out HGG.out)) (Nat.le_trans HN0.out HGG.out))⟩; replace HBN : Aside0 (Below w8.heap.size w8 wo) := ⟨(by rw [hw]; exact below_set (below_set HBN.out HGG.out) HGG.out)⟩; have hgc_ : ∃ cl, wn.heap[gg]? = some (.cells cl 75 (0, 0)) := HGC.out; obtain ⟨cl_, hcl_⟩ := hgc_; replace B12 := am (hk_.blk B12.out (blk_ne B12.out hcl_ (by decide)) (by simp)); replace B13 := am (hk_.blk B13.out (blk_ne B13.out hcl_ (by decide)) (by simp)); replace BV := am (hk_.blk BV.out (blk_ne BV.out hcl_ (by decide)) (by simp)); replace BS := am (hk_.blk BS.out (blk_ne BS.out hcl_ (by decide)) (by simp)); replace HGC : Aside0 (∃ cl, wo.heap[gg]? = some (.cells cl 75 (0, 0))) := ⟨Kd.S_typed HG.out gg rfl⟩; clear HGn hw hk_ hcl_ hg2 hs1 ez0 ez1 fz0 fz1; skip))
          go_roundg k1
          case measure => have := HK1.out; omega
          case rel => exact ⟨i2, ((G.set kk.toNat x.f0).set kk2.toNat ⟨[], x.f0.f1⟩), (by first | rfl | (simp; done) | (simp [hwi]; done)), H', ⟨by have := HK1.out; omega⟩, HLy, (⟨by rw [HI2.out]; exact HG.out⟩), B12, B13, BV, HB, HBN⟩
      · rw [if_neg c2] at H
        obtain rfl := Option.some.inj H
        have c2b : decide ((i : Int) < (cs_.length : Int)) = false := decide_eq_false c2
        have c2c : decide (i < cs_.length) = false := decide_eq_false (by omega)
        clear c2
        go_wp2
        replace B12 := am (blk_drew B12.out)
        replace B13 := am (blk_drew B13.out)
        replace BV := am (blk_drew BV.out)
        replace HG := am (Kd.S_drew HG.out)
        replace HB := am (below_drew1 HB.out)
        clear HLy HBN
        obtain ⟨x17, hx17⟩ : ∃ x, wrap64 (s1 - top) = x := ⟨_, rfl⟩
        refine start_ (n := 10) (S := fun w' => w'.cell? ⟨g13, 0, none⟩ = some (.int .i64 s1) ∧ w'.cell? ⟨g13, 1, none⟩ = some (.int .i64 s2)) (ds := []) vo17.a0 (by kernel_rfl) rfl rfl ⟨bc B13.out 0, bc B13.out 1⟩ (fun hHeld => ?_); refine with_tabW vo17.tab vo17.bits (fun HT_ HW_ => ?_)
        generalize wr.drew = w17 at HG B12 B13 BV HB hHeld ⊢
        refine pu_ 0 (some 105) ?_ vo17.a1 rfl rfl HT_.out (by kernel_rfl) (fun _ _ _ h => h) (Or.inl ⟨by rfl, ?_⟩) ?_ ?_ ?_; rotate_left
        ·intro w'; go_simp; with_reducible rfl
        rotate_left
        ·simp only [Act.put, sa_, s0_, ss_, i64_w, i32_w]; rfl
        refine pu_ 2 (some 107) ?_ vo17.a2 rfl rfl HT_.out (by kernel_rfl) (fun _ _ _ h => h) (Or.inl ⟨by rfl, ?_⟩) ?_ ?_ ?_; rotate_left
        ·intro w'; go_simp; with_reducible rfl
        rotate_left
        ·simp only [Act.put, sa_, s0_, ss_, i64_w, i32_w]; rfl
        refine pu_ 4 (some 109) ?_ vo17.a3 rfl rfl HT_.out (by kernel_rfl) (fun _ _ _ h => h) (Or.inl ⟨by rfl, ?_⟩) ?_ ?_ ?_; rotate_left
        ·intro w'; go_simp; with_reducible rfl
        rotate_left
        ·simp only [Act.put, sa_, s0_, ss_, i64_w, i32_w]; rfl
        refine tk_ 1 (some 106) ?_ vo17.a4 rfl rfl HT_.out HW_.out (by kernel_rfl) (fun _ _ _ h => h) (Or.inl ⟨by rfl, ?_⟩) hHeld ?_ ?_ ?_; rotate_left
        ·rintro w' ⟨t0, t1⟩; go_simp; with_reducible rfl
        rotate_left
        ·simp only [Act.put, sa_, s0_, ss_, i64_w, i32_w]; rfl
        refine pu_ 3 (some 108) ?_ vo17.a5 rfl rfl HT_.out (by kernel_rfl) (fun _ _ _ h => h) (Or.inl ⟨by rfl, ?_⟩) ?_ ?_ ?_; rotate_left
        ·intro w'; go_simp; with_reducible rfl
        rotate_left
        ·simp only [Act.put, sa_, s0_, ss_, i64_w, i32_w]; rfl
        refine pu_ 6 (some 111) ?_ vo17.a6 rfl rfl HT_.out (by kernel_rfl) (fun _ _ _ h => h) (Or.inl ⟨by rfl, ?_⟩) ?_ ?_ ?_; rotate_left
        ·intro w'; go_simp; with_reducible rfl
        rotate_left
        ·simp only [Act.put, sa_, s0_, ss_, i64_w, i32_w]; rfl
        refine tk_ 5 (some 110) ?_ vo17.a7 rfl rfl HT_.out HW_.out (by kernel_rfl) (fun _ _ _ h => h) (Or.inl ⟨by rfl, ?_⟩) hHeld ?_ ?_ ?_; rotate_left
        ·rintro w' ⟨t0, t1⟩; go_simp; with_reducible rfl
        rotate_left
        ·simp only [Act.put, sa_, s0_, ss_, i64_w, i32_w]; rfl
        refine one_ (i := 7) (N := none) vo17.a8 rfl rfl (one_of HT_.out (by kernel_rfl)) (by decide) (fun K hK => ?_)
        have hq_ := bc B12.out 3
        have hqf_ := blk_frozen B12.out 3
        refine skip_ (w1 := ?_) (by rfl) rfl ?_ ?_
        rotate_left
        ·go_simp
         rfl
        have hk_ := KeepBut.set_ (KeepBut.refl w17 g12 none) 3 (.int .i64 x17)
        have B12m := am (show (w17.setCell ⟨g12, 3, none⟩ (.int .i64 x17)).heap[g12]? = some (.cells #[(.int .i64 g1), (.int .i64 g2), (.slice AG g3.length cG), (.int .i64 x17), (.int .i64 g5), (.bool g6), (.int .i64 g7)] 28 (0, 0)) from blk_put (cs := #[(.int .i64 g1), (.int .i64 g2), (.slice AG g3.length cG), (.int .i64 g4), (.int .i64 g5), (.bool g6), (.int .i64 g7)]) B12.out 3 _ rfl)
        have HGm := am (show GI fo w8.heap.size i (w17.setCell ⟨g12, 3, none⟩ (.int .i64 x17)) w.heap.size (.slice AG g3.length cG) G from Kd.S_mono (Kd.S_keep (Kd.S_types HG.out B12.out (by decide)) hk_ (fun _ h_ => h_.2)) (fun _ h_ => h_.1))
        have B13m := am (hk_.blk B13.out (blk_ne B13.out B12.out (by decide)) (by simp))
        have BVm := am (hk_.blk BV.out (blk_ne BV.out B12.out (by decide)) (by simp))
        have HBm := am (below_set (j := 3) (v := (.int .i64 x17)) HB.out (Nat.le_trans HN0.out G12.out))
        clear HG B12 B13 BV HB hk_ hq_ hqf_
        refine hK.out _ _ ⟨bc B13m.out 0, bc B13m.out 1⟩ (fun hHeld => ?_)
        clear hK K
        generalize (w17.setCell ⟨g12, 3, none⟩ (.int .i64 x17)) = w18 at HGm B12m B13m BVm HBm hHeld ⊢
        have HG := HGm
        have B12 := B12m
        have B13 := B13m
        have BV := BVm
        have HB := HBm
        clear HGm B12m B13m BVm HBm
        refine pu_ 8 (some 112) ?_ vo17.a9 rfl rfl HT_.out (by kernel_rfl) (fun _ _ _ h => h) (Or.inl ⟨by rfl, ?_⟩) ?_ ?_ ?_; rotate_left
        ·intro w'; go_simp; with_reducible rfl
        rotate_left
        ·simp only [Act.put, sa_, s0_, ss_, i64_w, i32_w]; rfl
        refine one_ (i := 9) (N := none) vo17.a10 rfl rfl (one_of HT_.out (by kernel_rfl)) (by decide) (fun K hK => ?_)
        have hq_ := bc B12.out 4
        have hqf_ := blk_frozen B12.out 4
        refine skip_ (w1 := ?_) (by rfl) rfl ?_ ?_
        rotate_left
        ·go_simp
         rfl
        have hk_ := KeepBut.set_ (KeepBut.refl w18 g12 none) 4 (.int .i64 s2)
        have B12m := am (show (w18.setCell ⟨g12, 4, none⟩ (.int .i64 s2)).heap[g12]? = some (.cells #[(.int .i64 g1), (.int .i64 g2), (.slice AG g3.length cG), (.int .i64 x17), (.int .i64 s2), (.bool g6), (.int .i64 g7)] 28 (0, 0)) from blk_put (cs := #[(.int .i64 g1), (.int .i64 g2), (.slice AG g3.length cG), (.int .i64 x17), (.int .i64 g5), (.bool g6), (.int .i64 g7)]) B12.out 4 _ rfl)
        have HGm := am (show GI fo w8.heap.size i (w18.setCell ⟨g12, 4, none⟩ (.int .i64 s2)) w.heap.size (.slice AG g3.length cG) G from Kd.S_mono (Kd.S_keep (Kd.S_types HG.out B12.out (by decide)) hk_ (fun _ h_ => h_.2)) (fun _ h_ => h_.1))
        have B13m := am (hk_.blk B13.out (blk_ne B13.out B12.out (by decide)) (by simp))
        have BVm := am (hk_.blk BV.out (blk_ne BV.out B12.out (by decide)) (by simp))
        have HBm := am (below_set (j := 4) (v := (.int .i64 s2)) HB.out (Nat.le_trans HN0.out G12.out))
        clear HG B12 B13 BV HB hk_ hq_ hqf_
        refine hK.out _ _ ⟨bc B13m.out 0, bc B13m.out 1⟩ (fun hHeld => ?_)
        clear hK K
        generalize (w18.setCell ⟨g12, 4, none⟩ (.int .i64 s2)) = w19 at HGm B12m B13m BVm HBm hHeld ⊢
        refine done_ (done_of HT_.out (by kernel_rfl)) ?_
        have hg0 := bc B12m.out 0; have hg1 := bc B12m.out 1; have hg2 := bc B12m.out 2; have hg3 := bc B12m.out 3; have hg4 := bc B12m.out 4; have hg5 := bc B12m.out 5; have hg6 := bc B12m.out 6
        have hv0 := bc BVm.out 0; have hv1 := bc BVm.out 1; have hv2 := bc BVm.out 2; have hv3 := bc BVm.out 3; have hv4 := bc BVm.out 4; have hv5 := bc BVm.out 5; have hv6 := bc BVm.out 6; have hv7 := bc BVm.out 7; have hv8 := bc BVm.out 8; have hvf0 := blk_frozen BVm.out 0; have hvf1 := blk_frozen BVm.out 1; have hvf2 := blk_frozen BVm.out 2; have hvf3 := blk_frozen BVm.out 3; have hvf4 := blk_frozen BVm.out 4; have hvf5 := blk_frozen BVm.out 5; have hvf6 := blk_frozen BVm.out 6; have hvf7 := blk_frozen BVm.out 7; have hvf8 := blk_frozen BVm.out 8
        clear hHeld
        go_wp2_with (first | ((with_reducible refine gate_store (t := 30) (p := 10) rfl ?_); refine store_event (t := 30) (p := 10) (v := .tmp 115) (w1 := (((((((((w19.setCell ⟨gv, 0, none⟩ (.int .i64 g1)).setCell ⟨gv, 1, none⟩ (.int .i64 g2)).setCell ⟨gv, 2, none⟩ (.slice AG g3.length cG)).setCell ⟨gv, 3, none⟩ (.int .i64 x17)).setCell ⟨gv, 4, none⟩ (.int .i64 s2)).setCell ⟨gv, 5, none⟩ (.bool g6)).setCell ⟨gv, 6, none⟩ (.int .i64 g7)).setCell ⟨gv, 7, none⟩ (.int .i64 top)).setCell ⟨gv, 8, none⟩ (.int .i64 0))) ?hg ?ho ?hn ?hr ?_; (case ho => rfl); (case hg => rfl); (case hn => rfl); (case hr => first | (go_simp; done) | (go_simp; rfl)); intro w20 hw; have hk_ : KeepBut w19 w20 gv none := (by rw [hw]; exact (KeepBut.set_ (KeepBut.set_ (KeepBut.set_ (KeepBut.set_ (KeepBut.set_ (KeepBut.set_ (KeepBut.set_ (KeepBut.set_ (KeepBut.set_ (KeepBut.refl _ _ _) 0 (.int .i64 g1)) 1 (.int .i64 g2)) 2 (.slice AG g3.length cG)) 3 (.int .i64 x17)) 4 (.int .i64 s2)) 5 (.bool g6)) 6 (.int .i64 g7)) 7 (.int .i64 top)) 8 (.int .i64 0))); have BV9 : Aside0 (w20.heap[gv]? = some (.cells #[(.int .i64 g1), (.int .i64 g2), (.slice AG g3.length cG), (.int .i64 x17), (.int .i64 s2), (.bool g6), (.int .i64 g7), (.int .i64 top), (.int .i64 0)] 30 (0, 0))) := ⟨(by rw [hw]; exact (blk_put (cs := #[(.int .i64 g1), (.int .i64 g2), (.slice AG g3.length cG), (.int .i64 x17), (.int .i64 s2), (.bool g6), (.int .i64 g7), (.int .i64 top), (.int .i64 0)]) (blk_put (cs := #[(.int .i64 g1), (.int .i64 g2), (.slice AG g3.length cG), (.int .i64 x17), (.int .i64 s2), (.bool g6), (.int .i64 g7), (.int .i64 0), (.int .i64 0)]) (blk_put (cs := #[(.int .i64 g1), (.int .i64 g2), (.slice AG g3.length cG), (.int .i64 x17), (.int .i64 s2), (.bool g6), (.int .i64 0), (.int .i64 0), (.int .i64 0)]) (blk_put (cs := #[(.int .i64 g1), (.int .i64 g2), (.slice AG g3.length cG), (.int .i64 x17), (.int .i64 s2), (.bool false), (.int .i64 0), (.int .i64 0), (.int .i64 0)]) (blk_put (cs := #[(.int .i64 g1), (.int .i64 g2), (.slice AG g3.length cG), (.int .i64 x17), (.int .i64 0), (.bool false), (.int .i64 0), (.int .i64 0), (.int .i64 0)]) (blk_put (cs := #[(.int .i64 g1), (.int .i64 g2), (.slice AG g3.length cG), (.int .i64 0), (.int .i64 0), (.bool false), (.int .i64 0), (.int .i64 0), (.int .i64 0)]) (blk_put (cs := #[(.int .i64 g1), (.int .i64 g2), (.slice none 0 0), (.int .i64 0), (.int .i64 0), (.bool false), (.int .i64 0), (.int .i64 0), (.int .i64 0)]) (blk_put (cs := #[(.int .i64 g1), (.int .i64 0), (.slice none 0 0), (.int .i64 0), (.int .i64 0), (.bool false), (.int .i64 0), (.int .i64 0), (.int .i64 0)]) (blk_put (cs := #[(.int .i64 0), (.int .i64 0), (.slice none 0 0), (.int .i64 0), (.int .i64 0), (.bool false), (.int .i64 0), (.int .i64 0), (.int .i64 0)]) BVm.out 0 _ rfl) 1 _ rfl) 2 _ rfl) 3 _ rfl) 4 _ rfl) 5 _ rfl) 6 _ rfl) 7 _ rfl) 8 _ rfl))⟩; have HB9 : Aside0 (Below w.heap.size w w20) := ⟨(by rw [hw]; exact below_set (below_set (below_set (below_set (below_set (below_set (below_set (below_set (below_set HBm.out GV.out) GV.out) GV.out) GV.out) GV.out) GV.out) GV.out) GV.out) GV.out)⟩; have HG9 := am (Kd.S_mono (Kd.S_keep (Kd.S_types (GI_S HGm.out) BVm.out (by decide)) hk_ (fun _ h_ => h_.2)) (ok' := fun _ => True) (fun _ _ => trivial)); clear hw hk_))
        refine bodyPost_ret (results_cell_row rfl _ _ gv 30 #[(.int .i64 g1), (.int .i64 g2), (.slice AG g3.length cG), (.int .i64 x17), (.int .i64 s2), (.bool g6), (.int .i64 g7), (.int .i64 top), (.int .i64 0)] (0, 0) _ rfl (by (with_reducible repeat (first | refine blk_drewN ?_ _ | refine blk_drew ?_)); exact BV9.out) Try.underlying30 rfl (by kernel_rfl)) rfl ?_
        exact ⟨.slice AG g3.length cG, by first | rfl | (rw [hx17]) | (simp [hx17]; done), (by first | exact HG9.out | exact Kd.S_drewN HG9.out _), by repeat (first | exact HB9.out | apply pw_below_drewN | apply below_drew1)⟩

theorem voL.mono (rows cols top : Int) : ∀ k a0 a1 a2, LeO (voL rows cols top k a0 a1 a2) (voL rows cols top (k + 1) a0 a1 a2)
 | 0 => fun _ _ _ r h => by simp [voL] at h
 | k + 1 => by
  have ih0 := voL.mono rows cols top k
  intro a0 a1 a2
  unfold voL
  repeat' first
   | (with_reducible exact ih0 _ _ _)
   | (with_reducible exact LeO.refl _)
   | (with_reducible exact LeO.none _)
   | (with_reducible exact impl_Cell_isWide.mono _ _ _)
   | (with_reducible refine LeO.ite ?_ ?_)
   | (with_reducible refine LeO.bind ?_ (fun _ => ?_))
theorem impl_ViewOf.mono : ∀ a0 a1 a2 a3 a4 a5 a6 k, LeO (impl_ViewOf.f k a0 a1 a2 a3 a4 a5 a6) (impl_ViewOf.f (k + 1) a0 a1 a2 a3 a4 a5 a6) := by
 intro a0 a1 a2 a3 a4 a5 a6 k
 unfold impl_ViewOf.f
 repeat' first
   | (with_reducible exact voL.mono _ _ _ _ _ _ _)
   | (with_reducible exact impl_isViewed.mono _ _ _ _ _ _)
   | (with_reducible exact lyF.mono _ _ _ _ _ _ _)
   | (with_reducible exact LeO.refl _)
   | (with_reducible exact LeO.none _)
   | (with_reducible refine LeO.ite ?_ ?_)
   | (with_reducible refine LeO.bind ?_ (fun _ => ?_))

end Go.Proofs.Ytcjclihkaaaihaa.PFnExactViewOf
