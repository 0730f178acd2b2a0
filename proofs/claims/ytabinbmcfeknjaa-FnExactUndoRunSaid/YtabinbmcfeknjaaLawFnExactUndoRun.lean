-- Written by xprint.py (this claim's own program, over the kit's printer); Lean checks it.
import Derived.Test.YtabinbmcfeknjaaRows
import Derived.Test.YtabinbmcfeknjaaPFnExactUndoRunx13
import Derived.Test.YtabinbmcfeknjaaPureFnExactUndoRun
import Derived.WalkKit
import Derived.ProofKit
import Derived.OpenShut
import Derived.ShutString
import Derived.ChangeOld
import Derived.Below
import Derived.SizedLaws
import Derived.Deep.Slices
import Derived.DataReads
import Derived.ChangeArms
namespace Go.Proofs.Ytabinbmcfeknjaa.fnExactUndoRun
open Go.ChangeShapes Go.WideShapes Go.ChangeAt Go.RowKit
open Go.ChangeMaps (open_string shut_string)
open Go.Proofs.Ytabinbmcfeknjaa.PFnExactUndoRun Go.Proofs.YtabinbmcfeknjaaW.PrintWords Go.Proofs.YtabinbmcfeknjaaW.PrintLast Go.Proofs.YtabinbmcfeknjaaW.PrintMore
set_option linter.unusedVariables false
/-- Whatever of type t reads as data is a value of this kind. -/
structure Opens {α : Type} (P : Program) (d : Kd α) (Wf : α → Prop) (t : TypeId) : Prop where
  sz : P.cellsOf t = d.sz
  open_ : ∀ {H : Type} {enc : TypeId × Value → H} {w : World} {fuel : Nat} {cs : List Value} {x : DataW H × List MemPlace}, DataW.trod enc P w 0 (fun _ => true) true fuel t cs = some x → ∃ v : α, d.K w v cs ∧ Wf v
theorem Opens.int {P : Program} {k : IntKind} {t : TypeId} (ht : P.underlying t = some (.int k)) (hc : P.cellsOf t = 1) : Opens P (Kd.int k) (fun n => (Lit.int k n).wf = true) t :=
  ⟨hc, fun h => by
    obtain ⟨n, rfl, _, hw⟩ := DataW.trod_int ht h
    exact ⟨n, rfl, hw⟩⟩
theorem Opens.bool {P : Program} {t : TypeId} (ht : P.underlying t = some .bool) (hc : P.cellsOf t = 1) : Opens P Kd.bool (fun _ => True) t :=
  ⟨hc, fun h => by
    obtain ⟨b, rfl, _⟩ := DataW.trod_bool ht h
    exact ⟨b, rfl, trivial⟩⟩
theorem Opens.string {P : Program} {t : TypeId} (ht : P.underlying t = some .string) (hc : P.cellsOf t = 1) : Opens P Kd.string (fun s => s.size ≤ maxLen) t :=
  ⟨hc, fun h => by
    obtain ⟨s, rfl, _, hs⟩ := DataW.trod_string ht h
    exact ⟨s, rfl, hs⟩⟩
theorem Opens.slice {α : Type} (z : α) {P : Program} {d : Kd α} {Wf : α → Prop} {t e : TypeId} (ht : P.underlying t = some (.slice e)) (hc : P.cellsOf t = 1) (he : Opens P d Wf e) :
    Opens P (Kd.slice e d) (fun l => l.length ≤ maxLen ∧ ∀ x ∈ l, Wf x) t :=
  ⟨hc, fun {H enc w fuel cs x} h => by
    rcases Go.Deep.open_slice ht h with ⟨rfl, _⟩ | ⟨a, len, cap, m, n, D, Pl, rfl, hb, hl, hm, hmm, _, hx⟩
    · exact ⟨[], ⟨none, 0, rfl, Nat.le_refl _, Kd.C_nil _ _⟩, by simp, by simp⟩
    · have hmc : m = cap := by simpa using hmm
      have ex : ∀ i, i < len → ∃ v : α, (∃ cs', w.cells? 0 (a.add (i * P.cellsOf e)) (P.cellsOf e) = some cs' ∧ d.K w v cs') ∧ Wf v := by
        intro i hi
        obtain ⟨cs', h1, h2⟩ := hx i (by omega)
        obtain ⟨v, hv, hw⟩ := he.open_ h2
        exact ⟨v, ⟨cs', h1, hv⟩, hw⟩
      let f : Nat → α := fun i => if hi : i < len then (ex i hi).choose else z
      have hf : ∀ i (hi : i < len), (∃ cs', w.cells? 0 (a.add (i * P.cellsOf e)) (P.cellsOf e) = some cs' ∧ d.K w (f i) cs') ∧ Wf (f i) := by
        intro i hi
        have := (ex i hi).choose_spec
        simp only [f, hi, dif_pos]
        exact this
      have hlen : ((List.range len).map f).length = len := by simp
      refine ⟨(List.range len).map f, ⟨some a, cap, by rw [hlen], by rw [hlen]; exact hl, ?_⟩, ?_, ?_⟩
      · refine ⟨by rw [hlen], by rw [hlen]; simp only [maxLen] at hm; omega, fun _ => ⟨a, rfl, fun j p hj => ?_⟩⟩
        obtain ⟨hj1, hj2⟩ := List.getElem?_eq_some_iff.1 hj
        have hjl : j < len := by simpa using hj1
        have hp : p = f j := by rw [← hj2]; simp
        subst hp
        obtain ⟨⟨cs', h1, h2⟩, _⟩ := hf j hjl
        obtain ⟨_, h3, h4⟩ := World.cells?_some h1
        refine ⟨cs', by rw [h3, he.sz], h2, fun i u hu => ?_⟩
        have hi : i < P.cellsOf e := by
          have := (List.getElem?_eq_some_iff.1 hu).1
          omega
        have h5 := h4 i hi
        rw [hu, he.sz, add_add] at h5
        exact h5
      · rw [hlen]; omega
      · intro y hy
        obtain ⟨i, hi, rfl⟩ := List.mem_map.1 hy
        exact (hf i (List.mem_range.1 hi)).2⟩
/-- The cells of a struct's fields, one behind the other, from the cell o on. -/
structure OpensF {α : Type} (P : Program) (d : Kd α) (Wf : α → Prop) (fs : List Field) (o : Nat) : Prop where
  open_ : ∀ {H : Type} {enc : TypeId × Value → H} {w : World} {n : Nat} {cs : List Value}, cs.length = o + d.sz → (∀ f, f ∈ fs → ∃ x, DataW.trod enc P w 0 (fun _ => true) true n f.type ((cs.drop f.offset).take (P.cellsOf f.type)) = some x) → ∃ v : α, d.K w v (cs.drop o) ∧ Wf v
theorem OpensF.one {α : Type} {P : Program} {d : Kd α} {Wf : α → Prop} {f : Field} {o : Nat} (ho : f.offset = o) (h : Opens P d Wf f.type) : OpensF P d Wf [f] o :=
  ⟨fun {H enc w n cs} hl hx => by
    obtain ⟨x, hx⟩ := hx f (by simp)
    obtain ⟨v, hv, hw⟩ := h.open_ hx
    rw [ho, h.sz, List.take_of_length_le (by rw [List.length_drop]; omega)] at hv
    exact ⟨v, hv, hw⟩⟩
theorem OpensF.cons {α β : Type} {P : Program} {a : Kd α} {b : Kd β} {Wa : α → Prop} {Wb : β → Prop} {f : Field} {fs : List Field} {o : Nat} (ho : f.offset = o) (h : Opens P a Wa f.type) (hs : OpensF P b Wb fs (o + a.sz)) :
    OpensF P (Kd.pair a b) (fun x => Wa x.1 ∧ Wb x.2) (f :: fs) o :=
  ⟨fun {H enc w n cs} hl hx => by
    obtain ⟨x, hx0⟩ := hx f (by simp)
    obtain ⟨v, hv, hw⟩ := h.open_ hx0
    obtain ⟨u, hu, hw'⟩ := hs.open_ (cs := cs) (by rw [hl]; show o + (a.sz + b.sz) = _; omega) (fun g hg => hx g (by simp [hg]))
    refine ⟨(v, u), ⟨(cs.drop o).take a.sz, cs.drop (o + a.sz), ?_, ?_, hu⟩, hw, hw'⟩
    · rw [← List.drop_drop, List.take_append_drop]
    · rw [ho, h.sz] at hv
      exact hv⟩
theorem Opens.struct {α β : Type} {P : Program} {d : Kd α} {Wf : α → Prop} {t : TypeId} {fs : List Field} (f : β → α) (g : α → β) (hg : ∀ y, f (g y) = y) (ht : P.underlying t = some (.struct fs.toArray)) (hc : P.cellsOf t = d.sz) (h : OpensF P d Wf fs 0) :
    Opens P (Kd.iso d f) (fun x => Wf (f x)) t :=
  ⟨hc, fun {H enc w fuel cs x} hx => by
    obtain ⟨xs, n, _, _, hl, hxl, hf⟩ := DataW.trod_struct ht hx
    obtain ⟨v, hv, hw⟩ := h.open_ (cs := cs) (w := w) (by rw [hl, hc, Nat.zero_add]) (fun q hq => by
      obtain ⟨i, hi, rfl⟩ := List.getElem_of_mem hq
      have h1 := hf i fs[i] (by simp [List.getElem?_eq_getElem hi])
      have hi2 : i < xs.length := by rw [hxl]; simpa using hi
      rw [List.getElem?_eq_getElem hi2] at h1
      exact ⟨_, h1⟩)
    refine ⟨g v, ?_, ?_⟩
    · show d.K w (f (g v)) cs
      rw [hg]
      simpa using hv
    · show Wf (f (g v))
      rw [hg]
      exact hw⟩
theorem own : ownKnob Try.prog.godebug = none := by kernel_rfl
theorem laidOut : laidOutB Try.prog = true := by kernel_rfl
set_option maxRecDepth 100000 in
theorem lifted (os : Os) (started : os.Started) (H : Type) (enc : TypeId × Value → H) :
    ReturnsInHanded {} Try.checked os 3 .any (Rows.fnExactUndoRunSpec.pre6 enc Try.prog Try.f3 Rows.fnExactUndoRunRow.domain false) (Rows.fnExactUndoRunSpec.post enc Try.prog Try.f3 false true false false) := by
  refine returnsInHanded_of_change_sized (C := Try.checked) own started (by kernel_rfl) Try.func3
    (ChangeSpec.witness6 (enc := enc) (C := Try.checked) false ⟨#[], #[.agg #[.slice none 0 0, .int .i64 0, .int .i64 0], .slice none 0 0], []⟩ 8 (by kernel_rfl) (by kernel_rfl) (by kernel_rfl) (by kernel_rfl)) ?_
  intro W base args ds gs before hval0 hW hcnd hsz0 _
  have hval : ∀ (j : Nat) t v, Try.f3.params[j]? = some t → args[j]? = some v → Value.okWide Try.prog W .any base t v := hval0
  have hW' := hW
  obtain ⟨p, q, hA0, hV, rfl, hfz, hnd⟩ := hW
  have hA : DataW.TrodAll enc Try.prog W 0 (fun _ => true) true Try.f3.params.toList args.toList ds p := hA0
  rw [Try.params3] at hA hval
  obtain ⟨v0, vs0, d0, ds0, p0, q0, hargs, rfl, rfl, h0, r0⟩ := trodAll_cons hA
  obtain ⟨v1, vs1, d1, ds1, p1, q1, rfl, rfl, rfl, h1, r1⟩ := trodAll_cons r0
  obtain ⟨rfl, rfl, rfl⟩ := trodAll_nil r1
  obtain rfl : args = #[v0, v1] := by cases args; simp_all
  obtain ⟨rfl, rfl⟩ := trodVars_none hV
  have opens0 := (show Opens Try.prog k24 _ 24 from (Opens.struct (fun x : S24 => (x.f0, x.f1, x.f2)) (fun y => (⟨y.1, y.2.1, y.2.2⟩ : S24)) (fun _ => rfl) Try.underlying24 (by kernel_rfl) (OpensF.cons rfl (Opens.slice 0 Try.underlying22 (by kernel_rfl) (Opens.int Try.underlying2 (by kernel_rfl))) (OpensF.cons rfl (Opens.int Try.underlying2 (by kernel_rfl)) (OpensF.one rfl (Opens.int Try.underlying2 (by kernel_rfl)))))))
  have opens1 := (show Opens Try.prog (Kd.slice 22 (Kd.slice 2 (Kd.int .i64))) _ 25 from (Opens.slice [] Try.underlying25 (by kernel_rfl) (Opens.slice 0 Try.underlying22 (by kernel_rfl) (Opens.int Try.underlying2 (by kernel_rfl)))))
  have k0_ := h0
  have lt0 : ∀ x ∈ p0, x.block < W.heap.size := by obtain ⟨m, hm⟩ := k0_; exact DataW.trod_lt m _ _ _ hm
  obtain ⟨cells0, rfl, _⟩ := okWide_struct Try.underlying24 (hval 0 24 v0 rfl rfl)
  obtain ⟨fuel0, hf0⟩ := h0
  obtain ⟨x0, hK0, hw0⟩ := opens0.open_ hf0
  obtain ⟨A0_0, c0_0, hcs0, hl0_0, hC0_0⟩ := k24_open hK0
  obtain rfl : cells0 = #[.slice A0_0 x0.f0.length c0_0, .int .i64 x0.f1, .int .i64 x0.f2] := by
    have hcs_ : cells0.toList = [.slice A0_0 x0.f0.length c0_0, .int .i64 x0.f1, .int .i64 x0.f2] := hcs0
    exact Array.toList_inj.1 hcs_
  have k1_ := h1
  have lt1 : ∀ x ∈ p1, x.block < W.heap.size := by obtain ⟨m, hm⟩ := k1_; exact DataW.trod_lt m _ _ _ hm
  obtain ⟨a1, len1, cap1, rfl⟩ := okWide_slice Try.underlying25 (hval 1 25 v1 rfl rfl)
  obtain ⟨fuel1, hf1⟩ := h1
  obtain ⟨x1, ⟨A1, c1, hcs1, hl1, hC1⟩, hw1⟩ := opens1.open_ hf1
  obtain ⟨rfl, rfl, rfl⟩ : a1 = A1 ∧ len1 = x1.length ∧ cap1 = c1 := by
    have hcs_ : [Value.slice a1 len1 cap1] = [Value.slice A1 x1.length c1] := hcs1
    injection hcs_ with hcs_ _
    injection hcs_ with e1 e2 e3
    exact ⟨e1, e2, e3⟩
  clear hA0 hval0 hsz0
  obtain ⟨k_, hP⟩ := Pure.FnExactUndoRun x0.f0 x0.f1 x0.f2 x1 hw0 hw1
  refine (PFnExactUndoRun.laws_FnExactUndoRun.calls k_ A0_0 c0_0 x0.f0 x0.f1 x0.f2 _ _ x1 true W hC0_0 hl0_0 hC1 hl1 hP).mono fun e W' he_ => ?_
  obtain ⟨he, bel0⟩ := he_
  have bel : Below W.heap.size W W' := bel0
  subst he
  exact ⟨_, rfl, _, _, _, [], _, [], hW', trodAll_mk1 (shut_bool Try.underlying4 _), (trodAll_cons_mk (Below.trod laidOut (by kernel_rfl) (of_decide_eq_true (by kernel_rfl)) k0_ bel lt0) (trodAll_cons_mk (Below.trod laidOut (by kernel_rfl) (of_decide_eq_true (by kernel_rfl)) k1_ bel lt1) trodAll_mk0)), rfl, bel.frame _, fun h => by cases h⟩
theorem over : Rows.fnExactUndoRunRow.holds Try.pinned (OpenSpec.ofChange Rows.fnExactUndoRunSpec) :=
  OpenClaim.holds_of_wide 3 Try.f3 rfl rfl rfl rfl rfl rfl rfl ⟨rfl, rfl, rfl, rfl, rfl⟩ rfl rfl rfl rfl rfl (by kernel_rfl) Try.func3 (by kernel_rfl)
    (of_decide_eq_true (by kernel_rfl)) (by unfold Func.isWrapper; first | (rw [if_pos (by decide +kernel)]; kernel_rfl) | (rw [if_neg (by decide +kernel)]; exact ⟨rfl, rfl⟩))
    (fun os started H enc _ => lifted os started H enc)
theorem proved : Rows.FnExactUndoRunSaid := over
#print axioms proved
end Go.Proofs.Ytabinbmcfeknjaa.fnExactUndoRun
namespace Go.Proofs.Ytabinbmcfeknjaa
/-- The row, under a short name, for the claim. -/
theorem fnExactUndoRun_holds : Rows.FnExactUndoRunSaid := fnExactUndoRun.proved
end Go.Proofs.Ytabinbmcfeknjaa
