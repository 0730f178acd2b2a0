-- Written by xprint.py (this claim's own program, over the kit's printer); Lean checks it.
import Derived.Test.YtkplopkhdejleaaProg
import Derived.WalkSpells
import Derived.Below
import Derived.Deep.Draws
import Derived.Deep.AppendLies
import Derived.Maps.AppendAt
import Derived.OwnWalk
import Derived.Laws.BytesArg
import Derived.Laws.MakeOwn
import Derived.Laws.OwnMore
import Derived.Deep.OwnRows
import Derived.Tactics
import Derived.Lib.ConvBytes
import Derived.Laws.Slices
import Derived.WalkKit
import Derived.KernelRfl
import Derived.RowKit3
import Derived.Deep.LoopGhost
import Derived.Deep.QuietTactic
import Derived.BigQuiet
import Derived.WideLaws
import Derived.Deep.DeepCutAuto
import Derived.Deep.CutBlock
import Derived.Deep.RegionHeld3
import Derived.Laws.Rows
import Derived.Lib.AppendStr
import Derived.ArgAppend
import Derived.Laws.IdiomCopy
import Derived.OrdersHeld
import Derived.Laws.BitsLemmas
import Derived.RowKit
import Derived.Test.YtkplopkhdejleaaWWords
import Derived.Test.YtkplopkhdejleaaWLast
import Derived.Test.YtkplopkhdejleaaWTab
import Derived.Test.YtkplopkhdejleaaWQPut
import Derived.Test.YtkplopkhdejleaaWApart
import Derived.Test.YtkplopkhdejleaaWArr
import Derived.Test.YtkplopkhdejleaaWZeros
import Derived.Test.YtkplopkhdejleaaWFoot
import Derived.Test.YtkplopkhdejleaaWKept
import Derived.Test.YtkplopkhdejleaaWShare
import Derived.Test.YtkplopkhdejleaaWN
import Derived.Test.YtkplopkhdejleaaWRepsOne
import Derived.Test.YtkplopkhdejleaaWInv
import Derived.Test.YtkplopkhdejleaaWNEv
import Derived.Test.YtkplopkhdejleaaWMore
namespace Go.Proofs.Ytkplopkhdejleaa.PFnExactUndoForth
open Go.RowKit Go.Proofs.YtkplopkhdejleaaW.PrintWords Go.Proofs.YtkplopkhdejleaaW.PrintLast Go.Proofs.YtkplopkhdejleaaW.PrintMore
attribute [local go_sem] max2_int min2_int max_two min_two max_three min_three max_four min_four   -- for this text's walks alone
set_option linter.unusedVariables false
set_option linter.unusedSimpArgs false   -- squeezed



def errW : Option Int → Value
 | none => .nilIface
 | some c => .iface 0 (.int .i64 c)
theorem errW_none : errW none = .nilIface := rfl
theorem errW_some (c : Int) : errW (some c) = .iface 0 (.int .i64 c) := rfl

/-- The cells of a variable of several cells, from the j-th on, at an address, as the walk spells a field's address. -/
def cellAt (p : Addr) : Nat → Addr
 | 0 => p
 | j + 1 => ⟨p.block, p.off + (j + 1), none⟩
def AtP (w : World) (p : Addr) : Nat → List Value → Prop
 | _, [] => True
 | j, c :: cs => w.cell? (cellAt p j) = some c ∧ AtP w p (j + 1) cs
theorem AtP.below {w w1 : World} {p : Addr} : ∀ {cs : List Value} {j : Nat}, Below w.heap.size w w1 → AtP w p j cs → AtP w1 p j cs
 | [], _, _, _ => trivial
 | _ :: _, _, hb, h => ⟨pw_cell_below hb h.1, AtP.below hb h.2⟩
theorem AtP.drewN {w : World} {p : Addr} (n : Nat) : ∀ {cs : List Value} {j : Nat}, AtP w p j cs → AtP (w.drewN n) p j cs
 | [], _, _ => trivial
 | _ :: _, _, h => ⟨h.1, AtP.drewN n h.2⟩
theorem AtP.drew {w : World} {p : Addr} : ∀ {cs : List Value} {j : Nat}, AtP w p j cs → AtP w.drew p j cs
 | [], _, _ => trivial
 | _ :: _, _, h => ⟨h.1, AtP.drew h.2⟩
theorem AtP.of_list {w : World} {g : Nat} : ∀ {cs : List Value} {j : Nat}, (∀ i u, cs[i]? = some u → w.cell? ⟨g, j + i, none⟩ = some u) → AtP w ⟨g, 0, none⟩ j cs
 | [], _, _ => trivial
 | c :: cs, j, h => ⟨by
   have h0 := h 0 c rfl
   cases j with
   | zero => exact h0
   | succ j => show w.cell? ⟨g, 0 + (j + 1), none⟩ = some c; rw [Nat.zero_add]; exact h0, AtP.of_list fun i u hu => by
   have h1 := h (i + 1) u hu
   rwa [Nat.add_assoc, Nat.add_comm 1 i]⟩
theorem AtP.of_blk {w : World} {g t : Nat} {cs : Array Value} (h : w.heap[g]? = some (.cells cs t (0, 0))) : AtP w ⟨g, 0, none⟩ 0 cs.toList :=
 AtP.of_list fun i u hu => by
  rw [Nat.zero_add, blk_cell h i, ← Array.getElem?_toList]
  exact hu
/-- A block is the same in a later world: drawn orders and new blocks. -/
def SameBlk (w w' : World) (g : Nat) : Prop := ∀ o : Obj, w.heap[g]? = some o → w'.heap[g]? = some o
theorem SameBlk.refl (w : World) (g : Nat) : SameBlk w w g := fun _ h => h
theorem SameBlk.drewN {w w' : World} {g : Nat} (h : SameBlk w w' g) (n : Nat) : SameBlk w (w'.drewN n) g := h
theorem SameBlk.drew {w w' : World} {g : Nat} (h : SameBlk w w' g) : SameBlk w w'.drew g := h
theorem SameBlk.alloc {w w' : World} {g : Nat} (h : SameBlk w w' g) (o' : Obj) : SameBlk w (w'.alloc o') g := fun o ho => blk_alloc (h o ho) o'
theorem pk {w w' : World} {g : Nat} {o : Obj} (h : w.heap[g]? = some o) (e : SameBlk w w' g := by (with_reducible repeat (first | refine SameBlk.drewN ?_ _ | refine SameBlk.drew ?_ | refine SameBlk.alloc ?_ _)); exact SameBlk.refl _ _) : w'.heap[g]? = some o := e o h
theorem am {p : Prop} (h : p) : Aside0 p := ⟨h⟩
def LaterB (w w1 w2 : World) : Prop := Below w.heap.size w w1 → Below w.heap.size w w2
theorem LaterB.refl (w w1 : World) : LaterB w w1 w1 := fun h => h
theorem LaterB.alloc {w w1 w2 : World} (h : LaterB w w1 w2) (o : Obj) : LaterB w w1 (w2.alloc o) := fun k => below_alloc (h k) o
theorem LaterB.drewN {w w1 w2 : World} (h : LaterB w w1 w2) (n : Nat) : LaterB w w1 (w2.drewN n) := fun k => pw_below_drewN (h k) n
theorem LaterB.drew {w w1 w2 : World} (h : LaterB w w1 w2) : LaterB w w1 w2.drew := fun k => below_drew1 (h k)
theorem LaterB.set {w w1 w2 : World} {g j : Nat} {v : Value} (h : LaterB w w1 w2) (hg : Aside0 (w.heap.size ≤ g)) : LaterB w w1 (w2.setCell ⟨g, j, none⟩ v) := fun k => below_set (h k) hg.out
theorem bl {w w1 w2 : World} (h : Below w.heap.size w w1) (e : LaterB w w1 w2 := by (with_reducible repeat (first | refine LaterB.drewN ?_ _ | refine LaterB.drew ?_ | refine LaterB.alloc ?_ _ | refine LaterB.set ?_ (by assumption))); exact LaterB.refl _ _) : Below w.heap.size w w2 := e h
section
variable {P : Program} {ops : Array Oper} {Q : Exit → Act → World → Prop}
theorem gl {rest : List Oper} {oi : Oper} {a : Act} {w : World} (N : Option Tmp) {f : FuncId} {fn : Func} {os_ : Array Operand} {ts : Array TypeId} (hf : P.funcs[f]? = some fn) (args : Array Value)
  (h : Calls P f args w fun e w' => ∃ v, e = .returned v ∧ wpList P ops Q rest (a.put N v) w') (hd : oi.dst = N := by rfl) (hg : oi.guard = none := by rfl) (hname : (fn.name == "runtime.NumGoroutine") = false := by kernel_rfl) (hb : fn.body.isSome = true := by rfl)
  (hop : oi.op = .call { callee := .value (.func f), args := os_, argTypes := ts } := by rfl) (hargs : os_.map a.eval = args := by (try simp only [List.map_toArray, List.map_cons, List.map_nil]); first | done | rfl | (simp only [List.length_drop, List.length_take]; rfl)) : wpList P ops Q (oi :: rest) a w :=
 goesL_ N hd hg hf hname hb args hop hargs h
end
theorem vAt2 {α : Type} {d : Kd α} {e base m : Nat} {w w' : World} {ok : Nat → Prop} {v : Value} {xs : List α} (hq : w.drewN m = w') (h : Kd.V d e w base ok v xs) : Kd.V d e w' base ok v xs := by subst hq; exact Kd.V_drewN h m
theorem sa_ {α : Type} (l : List α) (i : Nat) (a : α) : l.toArray.setIfInBounds i a = (l.set i a).toArray := List.setIfInBounds_toArray l i a
theorem s0_ {α : Type} (x : α) (xs : List α) (a : α) : (x :: xs).set 0 a = a :: xs := List.set_cons_zero
theorem ss_ {α : Type} (x : α) (xs : List α) (n : Nat) (a : α) : (x :: xs).set (n + 1) a = x :: xs.set n a := List.set_cons_succ
theorem pu_ {P : Program} {ops : Array Oper} {Q : Exit → Act → World → Prop} {md : Region.Mode} {S : World → Prop} {ds : List Nat} {T : Bool × List (List Nat × List Nat)} {oi : Oper} {fuel : Nat} {l : Array Bool} {a : Act} {w : World} (i : Nat) (N : Option Tmp) (v : Value) (l' : Array Bool) (hi : ops[i]? = some oi) (hN : oi.dst = N) (hT : rtab md ops = T) (h1 : anyT T l.toList l'.toList i = true)
  (hQ : ∀ c a w, Q (.panic c) (a.put oi.dst v) w → Q (.panic c) a w) (hy : Yields P ops oi v a) (a' : Act) (ha : a.put N v = a')
  (h : wpAnyLast P md ops Q S ds fuel l' a' w) : wpAnyLast P md ops Q S ds (fuel + 1) l a w := pure_ l' hi hN (any_of hT h1) hQ hy ha h
theorem tk_ {P : Program} {ops : Array Oper} {Q : Exit → Act → World → Prop} {md : Region.Mode} {S : World → Prop} {ds : List Nat} {T : Bool × List (List Nat × List Nat)} {B : List Nat} {oi : Oper} {fuel : Nat} {l : Array Bool} {a : Act} {w : World} (i : Nat) (N : Option Tmp) (v : Value) (l' : Array Bool) (hi : ops[i]? = some oi) (hN : oi.dst = N) (hT : rtab md ops = T) (hB : waitsOk T.2 B = true) (h1 : takeW T B ds l.toList l'.toList i = true)
  (hQ : ∀ c a w, Q (.panic c) (a.put oi.dst v) w → Q (.panic c) a w) (hy : YieldsIf P ops S oi v a) (hS : S w) (a' : Act) (ha : a.put N v = a')
  (h : wpAnyLast P md ops Q S ds fuel l' a' w) : wpAnyLast P md ops Q S ds (fuel + 1) l a w := take_ l' hi hN (take_ofW hT hB h1) hQ hy hS ha h
def br : Bool → List Nat → List Bool
 | _, [] => []
 | b, n :: l => List.replicate n b ++ br (!b) l
theorem kr {α : Type} {d : Kd α} {e base : Nat} {w w1 : World} {ok : Nat → Prop} {v : Value} {xs : List α} (h : Kd.R d e w base ok v xs) (s : Below w.heap.size w w1 := by (with_reducible repeat (first | apply below_alloc | apply pw_below_drewN | apply below_drew1)); exact Below.refl _ _) : Kd.R d e w1 base ok v xs := Kd.R_below h s
theorem ks {α : Type} {d : Kd α} {e base : Nat} {w w1 : World} {ok : Nat → Prop} {v : Value} {xs : List α} (h : Kd.S d e w base ok v xs) (s : Below w.heap.size w w1 := by (with_reducible repeat (first | apply below_alloc | apply pw_below_drewN | apply below_drew1)); exact Below.refl _ _) : Kd.S d e w1 base ok v xs := Kd.S_below h s
theorem bc {w : World} {g : Nat} {t : TypeId} {cs : Array Value} {v : Value} (h : w.heap[g]? = some (.cells cs t (0, 0))) (i : Nat) (hv : cs[i]? = some v := by rfl) : w.cell? ⟨g, i, none⟩ = some v := (blk_cell h i).trans hv
theorem gs_ {P : Program} {ops : Array Oper} {Q : Exit → Act → World → Prop} {oi : Oper} {N : Option Tmp} {a : Act} {w : World} {K : Act → World → Prop} {f : FuncId} {fn : Func} {os_ : Array Operand} {ts : Array TypeId} (hf : P.funcs[f]? = some fn) (args : Array Value)
  (h : Calls P f args w fun e w' => ∃ v, e = .returned v ∧ K (a.put N v) w') (hname : (fn.name == "runtime.NumGoroutine") = false := by kernel_rfl) (hb : fn.body.isSome = true := by rfl) (hw : Region.wanted oi (yielded ops a.tmps) = true := by rfl) (hN : oi.dst = N := by rfl)
  (hop : oi.op = .call { callee := .value (.func f), args := os_, argTypes := ts } := by rfl) (hargs : os_.map a.eval = args := by (try simp only [List.map_toArray, List.map_cons, List.map_nil]); first | done | rfl | (simp only [List.length_drop, List.length_take]; rfl)) : if Region.wanted oi (yielded ops a.tmps) = true then Oper.wp P oi a w K Q else K (a.put N undef) w :=
 goes_ hf hname hb args hw hN hop hargs h
/-! Rows whose elements' inner rows lie apart (as S), and that may begin inside their block (as Q). -/
def Kd.T {α : Type} (d : Kd α) (e : Nat) (w : World) (base : Nat) (ok : Nat → Prop) (v : Value) (xs : List α) : Prop := ∃ f, (Kd.tag f d).Q e w base ok v xs.zipIdx
def Kd.HT {α : Type} (d : Kd α) (e : Nat) (w : World) (base : Nat) (ok : Nat → Prop) (v : Value) (xs : List α) (i : Int) (oki : Nat → Prop) (c : List Value) : Prop :=
 (∀ k, oki k → ok k) ∧ ∃ f, (Kd.gap f d i.toNat c).Q e w base (fun k => ok k ∧ ¬ oki k) v xs.zipIdx
section
variable {α β : Type} {d : Kd α} {d' : Kd β} {e e' g o n cap : Nat} {w w1 W W2 : World} {base b : Nat} {ok ok' okv oku oki okp S : Nat → Prop} {u v : Value} {xs : List α} {ys : List β} {i : Int} {c : List Value}
theorem Kd.T_of_S (h : Kd.S d e w base ok v xs) : Kd.T d e w base ok v xs := by
 obtain ⟨f, h⟩ := h
 exact ⟨f, Kd.Q_of_R h⟩
theorem Kd.T_Q (h : Kd.T d e w base ok v xs) : d.Q e w base ok v xs := by
 obtain ⟨f, h0, inner, ho, hr⟩ := h
 rw [List.length_zipIdx] at ho
 exact ⟨h0, inner, ho, by have := hr.1; rw [List.length_zipIdx] at this; exact this, fun j p hj => d.M_mono (fun _ hk => hk.1) (hr.2 j (p, j) (Kd.zip_at hj))⟩
theorem Kd.T_nil (d : Kd α) (e : Nat) (w : World) (base : Nat) (ok : Nat → Prop) : Kd.T d e w base ok (.slice none 0 0) [] := ⟨fun _ => 0, Kd.Q_nil _ _ _ _ _⟩
theorem Kd.T_mono (h : Kd.T d e w base ok v xs) (hok : ∀ k, ok k → ok' k) : Kd.T d e w base ok' v xs := by
 obtain ⟨f, h⟩ := h
 exact ⟨f, Kd.Q_mono h hok⟩
theorem Kd.T_bound (h : Kd.T d e w base ok v xs) : Kd.T d e w base (fun k => ok k ∧ base ≤ k ∧ k < w.heap.size ∧ ∃ q, q ∈ e :: d.E ∧ ∃ cells, w.heap[k]? = some (.cells cells q (0, 0))) v xs := by
 obtain ⟨f, h⟩ := h
 exact ⟨f, Kd.Q_bound h⟩
theorem Kd.T_move (h : Kd.T d e w base ok v xs) (hm : ∀ k, ok k → w1.heap[k]? = w.heap[k]?) : Kd.T d e w1 base ok v xs := by
 obtain ⟨f, h⟩ := h
 exact ⟨f, Kd.Q_move h hm⟩
theorem Kd.T_lower {base' : Nat} (h : Kd.T d e w base ok v xs) (hb : base' ≤ base) : Kd.T d e w base' ok v xs := by
 obtain ⟨f, h⟩ := h
 exact ⟨f, Kd.Q_lower h hb⟩
theorem Kd.T_step (h : Kd.T d e w base ok v xs) (hm : ∀ k, ok k → k < w.heap.size → w1.heap[k]? = w.heap[k]?) : Kd.T d e w1 base ok v xs :=
 Kd.T_mono (Kd.T_move (Kd.T_bound h) (fun k hk => hm k hk.1 hk.2.2.1)) (fun _ hk => hk.1)
theorem Kd.T_below (h : Kd.T d e w base ok v xs) (hb : Below w.heap.size w w1) : Kd.T d e w1 base ok v xs := Kd.T_step h (fun k _ hk => hb.block k hk)
theorem Kd.T_alloc (h : Kd.T d e w base ok v xs) (o : Obj) : Kd.T d e (w.alloc o) base ok v xs := Kd.T_below h (below_alloc (Below.refl _ _) o)
theorem Kd.T_drew (h : Kd.T d e w base ok v xs) : Kd.T d e w.drew base ok v xs := Kd.T_below h (below_drew (Below.refl _ _))
theorem Kd.T_drewN (h : Kd.T d e w base ok v xs) (m : Nat) : Kd.T d e (w.drewN m) base ok v xs := Kd.T_below h (pw_below_drewN (Below.refl _ _) m)
theorem Kd.T_at {m : Nat} (hq : w.drewN m = w1) (h : Kd.T d e w base ok v xs) : Kd.T d e w1 base ok v xs := by
 subst hq
 exact Kd.T_drewN h m
theorem Kd.T_grown (h : Kd.T d e w base ok v xs) {row : Option Nat} (hg : w.grownBy w1 row) (hok : ∀ k, ok k → some k ≠ row) : Kd.T d e w1 base ok v xs := Kd.T_step h (fun k ho hk => hg.block k hk (hok k ho))
theorem Kd.T_far (h : Kd.T d e w base ok v xs) {p : Addr} (hok : ∀ k, ok k → k ≠ p.block) (u : Value) : Kd.T d e (w.setCell p u) base ok v xs := Kd.T_step h (fun k ho _ => Below.heap_setCell w p u k (hok k ho))
theorem Kd.T_kept (h : Kd.T d e W base ok v xs) (hk : Kept W W2 S) (hne : ∀ k, ok k → ¬ S k) : Kd.T d e W2 base ok v xs := Kd.T_step h (fun k ho hlt => hk.2 k hlt (hne k ho))
theorem Kd.T_types (h : Kd.T d e w base ok v xs) {g t : Nat} {cells : Array Value} (hb : w.heap[g]? = some (.cells cells t (0, 0))) (ht : ∀ q, q ∈ e :: d.E → q ≠ t) : Kd.T d e w base (fun k => ok k ∧ k ≠ g) v xs := by
 obtain ⟨f, h⟩ := h
 exact ⟨f, Kd.Q_types h hb ht⟩
theorem Kd.T_typed (h : Kd.T d e w base ok v xs) : ∀ k, v.ownBlock = some k → ∃ cells, w.heap[k]? = some (.cells cells e (0, 0)) := Kd.Q_typed (Kd.T_Q h)
theorem Kd.T_lt (h : Kd.T d e w base ok v xs) : ∀ k, v.ownBlock = some k → k < w.heap.size := Kd.Q_lt (Kd.T_Q h)
theorem Kd.T_base (h : Kd.T d e w base ok v xs) : ∀ k, v.ownBlock = some k → base ≤ k := Kd.Q_base (Kd.T_Q h)
theorem Kd.T_ne (h : Kd.T d e w base ok v xs) {g t : Nat} {cells : Array Value} (hb : w.heap[g]? = some (.cells cells t (0, 0))) (ht : e ≠ t) : some g ≠ v.ownBlock := Kd.Q_ne (Kd.T_Q h) hb ht
theorem Kd.T_elder' (h : Kd.T d e W base ok u xs) (hbase : ∀ k, v.ownBlock = some k → W.heap.size ≤ k) (hb : Below W.heap.size W w1) : Kd.T d e w1 base (fun k => ok k ∧ some k ≠ v.ownBlock) u xs := by
 obtain ⟨f, h⟩ := h
 exact ⟨f, Kd.Q_elder' h hbase hb⟩
theorem Kd.T_slice (h : Kd.T d e w base ok v xs) : ∃ A c, v = .slice A xs.length c ∧ xs.length ≤ c := Kd.Q_slice (Kd.T_Q h)
theorem Kd.T_form (h : Kd.T d e w base ok v xs) (hp : 0 < xs.length) : ∃ g o cap, v = .slice (some ⟨g, o, none⟩) xs.length cap ∧ base ≤ g ∧ g < w.heap.size ∧ ∃ cells, w.heap[g]? = some (.cells cells e (0, 0)) := Kd.Q_form (Kd.T_Q h) hp
theorem Kd.T_reads' {A : Option Addr} {n c : Nat} (h : Kd.T d e w base ok (.slice A n c) xs) : n = xs.length ∧ n ≤ c ∧ d.C w A xs.length xs := Kd.Q_reads' (Kd.T_Q h)
theorem Kd.T_drop {A : Option Addr} {k n c : Nat} (h : Kd.T d e w base ok (.slice A n c) xs) (hk : k ≤ xs.length) : Kd.T d e w base ok (.slice (if c = k then A else A.map (·.add (k * d.sz))) (n - k) (c - k)) (xs.drop k) := by
 obtain ⟨f, h⟩ := h
 obtain ⟨h0, inner, ho, hr⟩ := Kd.Q_drop h (k := k) (by rw [List.length_zipIdx]; exact hk)
 have hl : (xs.zipIdx.drop k).length = (xs.drop k).length := by simp only [List.length_drop, List.length_zipIdx]
 rw [hl] at ho
 refine ⟨fun b => f b - k, h0, inner, by rw [List.length_zipIdx]; exact ho, by rw [List.length_zipIdx, ← hl]; exact hr.1, fun j p hj => ?_⟩
 rw [List.getElem?_zipIdx, Nat.zero_add] at hj
 obtain ⟨x, hx, rfl⟩ := Option.map_eq_some_iff.1 hj
 rw [List.getElem?_drop] at hx
 refine d.M_mono (fun b hb => ⟨hb.1, ?_⟩) (hr.2 j (x, k + j) (by rw [List.getElem?_drop]; exact Kd.zip_at hx))
 have h2 : f b = k + j := hb.2
 show f b - k = j
 omega
theorem Kd.Q_tag {f f' : Nat → Nat} {zs : List (α × Nat)} (h : (Kd.tag f d).Q e w base ok v zs) (hf : ∀ k, ok k → k < w.heap.size → f' k = f k) : (Kd.tag f' d).Q e w base ok v zs := by
 obtain ⟨h0, inner, ho, hr⟩ := Kd.Q_bound h
 exact ⟨fun k hk => (h0 k hk).1, inner, ho, hr.1, fun j p hj => d.M_mono (fun k hk => ⟨⟨hk.1.1.1, hk.1.2⟩, (hf k hk.1.1.1 hk.1.1.2.2.1).trans hk.2⟩) (hr.2 j p hj)⟩
open Classical in
theorem Kd.T_tag (h : Kd.T d e w base okv v xs) (m : Nat) (okp : Nat → Prop) (hap : ∀ k, okp k → ¬ okv k) : ∃ f, (∀ k, okp k → f k = m) ∧ (Kd.tag f d).Q e w base okv v xs.zipIdx := by
 obtain ⟨f, h⟩ := h
 exact ⟨fun k => if okp k then m else f k, fun k hk => if_pos hk, Kd.Q_tag h (fun k hk _ => if_neg (fun h2 => hap k h2 hk))⟩
/-- Element i, lent: its cells, its blocks, and the row without it. -/
theorem Kd.T_elem (h : Kd.T d e W base ok (.slice (some ⟨g, o, none⟩) n cap) xs) (z : α) (i : Int) (h0 : 0 ≤ i) (h1 : i < n) :
  ∃ (oki : Nat → Prop) (c : List Value), c.length = d.sz ∧ d.M W base oki (xs.getD i.toNat z) c ∧ (∀ j u, c[j]? = some u → W.cell? ⟨g, o + i.toNat * d.sz + j, none⟩ = some u) ∧ (∀ j, W.frozen? ⟨g, o + i.toNat * d.sz + j, none⟩ = false) ∧ (∀ k, oki k → ok k ∧ k ≠ g) ∧ Kd.HT d e W base ok (.slice (some ⟨g, o, none⟩) n cap) xs i oki c := by
 obtain ⟨f, hR⟩ := h
 have hn := (Kd.Q_reads' hR).1
 rw [List.length_zipIdx] at hn
 have hgo : some g = (Value.slice (some ⟨g, o, none⟩) n cap).ownBlock := by simp [Value.ownBlock]
 obtain ⟨hok0, inner, ho, hr⟩ := hR
 have hil : i.toNat < xs.length := by omega
 have hlen : inner.length = xs.length * d.sz := by have := hr.1; rw [List.length_zipIdx] at this; exact this
 have hseg : i.toNat * d.sz + d.sz ≤ inner.length := by rw [hlen, ← Nat.succ_mul]; exact Nat.mul_le_mul_right _ hil
 have hM := hr.2 i.toNat _ (Kd.zip_at (List.getElem?_eq_getElem hil))
 have hkg : ∀ k, some k ≠ (Value.slice (some ⟨g, o, none⟩) n cap).ownBlock → k ≠ g := fun k hk he => hk (by rw [he]; exact hgo)
 refine ⟨fun k => (ok k ∧ k ≠ g) ∧ f k = i.toNat, (inner.drop (i.toNat * d.sz)).take d.sz, by rw [List.length_take, List.length_drop]; omega, ?_, fun j u hu => ?_, fun j => ?_, fun k hk => hk.1, fun k hk => hk.1.1, f, fun k hk => ⟨hok0 k hk, fun h2 => h2.1.2 ?_⟩, inner, ho, hr.1, fun m p hm => ?_⟩
 ·rw [List.getD_eq_getElem?_getD, List.getElem?_eq_getElem hil]
  exact d.M_mono (fun k hk => ⟨⟨hk.1.1, hkg k hk.1.2⟩, hk.2⟩) hM
 ·rw [List.getElem?_take] at hu
  split at hu
  ·rw [List.getElem?_drop] at hu
   rw [List.length_zipIdx] at ho
   subst hn
   obtain ⟨ad, he, hc⟩ := q_cells ho (by omega)
   injection he with he
   subst he
   have := hc _ u hu
   rwa [add_at, ← Nat.add_assoc] at this
  ·cases hu
 ·obtain ⟨_, cells, hc⟩ := q_typed ho g (by simp [Value.ownBlock])
  exact blk_frozen hc _
 ·rw [← hgo] at hk; injection hk with hk; exact hk.symm
 ·have hold := hr.2 m p hm
  have hp2 : p.2 = m := by
   rw [List.getElem?_zipIdx, Nat.zero_add] at hm
   obtain ⟨q, _, rfl⟩ := Option.map_eq_some_iff.1 hm
   rfl
  refine ⟨fun hx => ?_, fun hx => d.M_mono (fun k hk => ⟨⟨⟨hk.1.1, fun h2 => hx ?_⟩, hk.1.2⟩, hk.2⟩) hold⟩
  ·have hmi : m = i.toNat := by omega
   subst hmi
   exact ⟨rfl, d.K_len (d.K_of_M hM), d.K_one (d.K_of_M hM)⟩
  ·rw [← hk.2]; exact h2.2
open Classical in
theorem Kd.HT_back (h : Kd.HT d e w base ok v xs i oki c) {x' : α} (hM : d.M w base okp x' c) (hok : ∀ k, okp k → oki k) : Kd.T d e w base ok v (xs.set i.toNat x') := by
 obtain ⟨ho, f, h0, inner, hown, hr⟩ := h
 refine ⟨fun k => if oki k then i.toNat else f k, fun k hk => (h0 k hk).1, inner, by rw [List.length_zipIdx, List.length_set]; rw [List.length_zipIdx] at hown; exact hown, by have := hr.1; rw [List.length_zipIdx] at this; rw [List.length_zipIdx, List.length_set]; exact this, fun m p hm => ?_⟩
 rw [List.getElem?_zipIdx, Nat.zero_add] at hm
 obtain ⟨q, hq, rfl⟩ := Option.map_eq_some_iff.1 hm
 have hml : m < xs.length := by
  have := (List.getElem?_eq_some_iff.1 hq).1
  rwa [List.length_set] at this
 by_cases hmi : m = i.toNat
 ·subst hmi
  rw [List.getElem?_set_self hml] at hq
  injection hq with hq
  subst hq
  have hc := ((hr.2 i.toNat _ (Kd.zip_at (List.getElem?_eq_getElem hml))).1 rfl).1
  show d.M w base _ x' ((inner.drop (i.toNat * d.sz)).take d.sz)
  rw [show (inner.drop (i.toNat * d.sz)).take d.sz = c from hc]
  exact d.M_mono (fun k hk => ⟨⟨ho k (hok k hk), fun he => (h0 k he.symm).2 (hok k hk)⟩, if_pos (hok k hk)⟩) hM
 ·rw [List.getElem?_set_ne (Ne.symm hmi)] at hq
  exact d.M_mono (fun k hk => ⟨⟨hk.1.1.1, hk.1.2⟩, (if_neg hk.1.1.2).trans hk.2⟩) ((hr.2 m (q, m) (Kd.zip_at hq)).2 hmi)
theorem Kd.HT_step (h : Kd.HT d e w base ok v xs i oki c) (hm : ∀ k, ok k → ¬ oki k → k < w.heap.size → w1.heap[k]? = w.heap[k]?) : Kd.HT d e w1 base ok v xs i oki c := by
 obtain ⟨ho, f, h⟩ := h
 exact ⟨ho, f, Kd.Q_step h (fun k hk hlt => hm k hk.1 hk.2 hlt)⟩
theorem Kd.HT_below (h : Kd.HT d e w base ok v xs i oki c) (hb : Below w.heap.size w w1) : Kd.HT d e w1 base ok v xs i oki c := Kd.HT_step h (fun k _ _ hlt => hb.block k hlt)
theorem Kd.HT_alloc (h : Kd.HT d e w base ok v xs i oki c) (o : Obj) : Kd.HT d e (w.alloc o) base ok v xs i oki c := Kd.HT_below h (below_alloc (Below.refl _ _) o)
theorem Kd.HT_drew (h : Kd.HT d e w base ok v xs i oki c) : Kd.HT d e w.drew base ok v xs i oki c := Kd.HT_below h (below_drew (Below.refl _ _))
theorem Kd.HT_drewN (h : Kd.HT d e w base ok v xs i oki c) (m : Nat) : Kd.HT d e (w.drewN m) base ok v xs i oki c := Kd.HT_below h (pw_below_drewN (Below.refl _ _) m)
theorem Kd.T_V {base' : Nat} (h : Kd.T d e W base ok v xs) : Kd.V d e W base' ok v xs := Kd.Q_V (Kd.T_Q h)
theorem Kd.T_newB {o : Obj} (h : Kd.T d e w1 w.heap.size ok v xs) (hb : w.heap[g]? = some o) : Kd.T d e w1 w.heap.size (fun k => ok k ∧ k ≠ g) v xs := Kd.T_mono (Kd.T_bound h) (fun k hk => ⟨hk.1, by have := blk_lt hb; have := hk.2.1; omega⟩)
theorem Kd.T_elderB (h : Kd.T d e w base ok v xs) (a : Nat) (ha : w.heap.size ≤ a) : Kd.T d e w base (fun k => ok k ∧ k ≠ a) v xs := Kd.T_mono (Kd.T_bound h) (fun k hk => ⟨hk.1, by have := hk.2.2.1; omega⟩)
theorem Kd.T_new' (h : Kd.T d e w1 W.heap.size ok v xs) (hlt : ∀ k, u.ownBlock = some k → k < W.heap.size) : Kd.T d e w1 W.heap.size (fun k => ok k ∧ some k ≠ u.ownBlock) v xs := Kd.T_mono (Kd.T_bound h) (fun k hk => ⟨hk.1, fun e_ => by have := hlt k e_.symm; have := hk.2.1; omega⟩)
theorem Kd.T_own (h : Kd.T d e w base ok v xs) : ∀ k, v.ownBlock = some k → ok k := (Kd.T_Q h).1
theorem Kd.S_own (h : Kd.S d e w base ok v xs) : ∀ k, v.ownBlock = some k → ok k := (Kd.S_R h).1
theorem Kd.R_own (h : d.R e w base ok v xs) : ∀ k, v.ownBlock = some k → ok k := h.1
theorem Kd.T_put (h : Kd.T d e W base ok (.slice (some ⟨g, o, none⟩) n cap) xs) (z : α) (i : Int) (h0 : 0 ≤ i) (h1 : i < n) {seg : List Value} {j : Nat} (hj : j + seg.length ≤ d.sz) {x' : α}
  (hM : ∀ (okp : Nat → Prop) (c : List Value), d.M W base okp (xs.getD i.toNat z) c → d.M W base okp x' (c.take j ++ seg ++ c.drop (j + seg.length))) :
  Kd.T d e (W.setCells g (o + i.toNat * d.sz + j) seg) base ok (.slice (some ⟨g, o, none⟩) n cap) (xs.set i.toNat x') ∧ W.grownBy (W.setCells g (o + i.toNat * d.sz + j) seg) (some g) := by
 obtain ⟨f, hQ⟩ := h
 have hn := (Kd.Q_reads' hQ).1
 rw [List.length_zipIdx] at hn
 have hil : i.toNat < xs.length := by omega
 obtain ⟨c, hcl, hMc, hcc, _⟩ := Kd.Q_elem hQ (z, 0) i h0 h1
 have hg : xs.zipIdx.getD i.toNat (z, 0) = (xs.getD i.toNat z, i.toNat) := by
  rw [List.getD_eq_getElem?_getD, Kd.zip_at (List.getElem?_eq_getElem hil), List.getD_eq_getElem?_getD, List.getElem?_eq_getElem hil]
  rfl
 rw [hg] at hMc
 have hs : xs.zipIdx.set i.toNat (x', i.toNat) = (xs.set i.toNat x').zipIdx := by
  apply List.ext_getElem?
  intro m
  rw [List.getElem?_zipIdx, Nat.zero_add, List.getElem?_set, List.getElem?_set, List.getElem?_zipIdx, Nat.zero_add, List.length_zipIdx]
  by_cases hm : i.toNat = m
  ·subst hm
   simp [hil]
  ·simp [hm]
 have h2 := Kd.Q_seg hQ i h0 h1 hcl hcc hj (x' := (x', i.toNat)) (okp := fun k => ok k ∧ k ≠ g) (hM _ c hMc) (fun _ hk => hk)
 rw [hs] at h2
 exact ⟨⟨f, h2.1⟩, h2.2⟩
theorem T_rg {a b : Nat} {w2 : World} (ha : a = w.heap.size) (hb : b = w2.heap.size) (hW : base ≤ w.heap.size) (h : Kd.T d e w2 w.heap.size ok v xs) : Kd.T d e w2 base (fun k_ => (a ≤ k_ ∧ k_ < b) ∧ ok k_) v xs := by
 subst ha hb
 exact Kd.T_lower (Kd.T_mono (Kd.T_bound h) (fun k hk => ⟨⟨hk.2.1, hk.2.2.1⟩, hk.1⟩)) hW
theorem T_farR {a b j : Nat} {T : Nat → Prop} (h : Kd.T d e W base (fun k_ => (a ≤ k_ ∧ k_ < b) ∧ T k_) v xs) (hg : b ≤ g ∨ g < a) (u : Value) : Kd.T d e (W.setCell ⟨g, j, none⟩ u) base (fun k_ => (a ≤ k_ ∧ k_ < b) ∧ T k_) v xs := Kd.T_far h (fun k_ hk_ => by have := hk_.1; show k_ ≠ g; omega) u
end
section
variable {P : Program} {ops : Array Oper} {rest : List Oper} {o : Oper} {a : Act} {Q : Exit → Act → World → Prop} {Kc : Act → World → Prop} {α : Type}
theorem Kd.T_append (d : Kd α) {w0 W : World} (base : Nat) (hgd : o.guard = none) (s x : Operand) (t e : TypeId) (z : Value) (bytes : Nat)
  (ho : o.op = .call { callee := .builtin .append, args := #[s, x], argTypes := #[t, t] })
  (ht : P.underlying t = some (.slice e)) (hinfo : (P.info? e).map (fun i => (i.zero, i.size, i.bytes)) = some (some z, d.sz, bytes)) (hz : z.cells.size = d.sz) (hs0 : 0 < d.sz) (hb0 : 0 < bytes)
  (v : Value) (xs : List α) (p : α) (cs : List Value) (ok okp : Nat → Prop) (hs : a.eval s = v) (hx : a.eval x = .slice (some ⟨W.heap.size, 0, none⟩) 1 1) (hp : d.M W base okp p cs) (hokp : ∀ k, okp k → ok k ∧ some k ≠ v.ownBlock) (hfresh : ∀ k, W.heap.size ≤ k → ok k)
  (HO : Kd.T d e W base (fun k => ok k ∧ ¬ okp k) v xs) (HB : Below base w0 W) (hbase : base ≤ W.heap.size) (hl : (xs.length + 1) * bytes ≤ 140737488355328)
  (h : ∀ v1 w1, Kd.T d e w1 base ok v1 (xs ++ [p]) → Below base w0 w1 → W.grownBy w1 v.ownBlock → (v1.ownBlock = v.ownBlock ∨ ∃ b, v1.ownBlock = some b ∧ W.heap.size ≤ b) → wpList P ops Q rest (a.put o.dst v1) w1) :
  wpList P ops Q (o :: rest) a (W.alloc (.cells cs.toArray e)) := by
 obtain ⟨f, hf, hR⟩ := Kd.T_tag HO xs.length okp (fun _ hk h2 => h2.2 hk)
 refine Kd.Q_append (Kd.tag f d) base hgd s x t e z bytes ho ht hinfo hz hs0 hb0 v xs.zipIdx (p, xs.length) cs ok okp hs hx (d.M_mono (fun k hk => ⟨hk, hf k hk⟩) hp) hokp hfresh (Kd.Q_mono hR (fun _ hk => hk.1)) HB hbase (by rw [List.length_zipIdx]; exact hl) ?_
 intro v1 w1 hr
 rw [← Kd.zip_snoc] at hr
 exact h v1 w1 ⟨f, hr⟩
theorem Kd.T_append_step (d : Kd α) {w0 W : World} (base : Nat) (hw : Region.wanted o (yielded ops a.tmps) = true) (s x : Operand) (t e : TypeId) (z : Value) (bytes : Nat)
  (ho : o.op = .call { callee := .builtin .append, args := #[s, x], argTypes := #[t, t] })
  (ht : P.underlying t = some (.slice e)) (hinfo : (P.info? e).map (fun i => (i.zero, i.size, i.bytes)) = some (some z, d.sz, bytes)) (hz : z.cells.size = d.sz) (hs0 : 0 < d.sz) (hb0 : 0 < bytes)
  (v : Value) (xs : List α) (p : α) (cs : List Value) (ok okp : Nat → Prop) (hs : a.eval s = v) (hx : a.eval x = .slice (some ⟨W.heap.size, 0, none⟩) 1 1) (hp : d.M W base okp p cs) (hokp : ∀ k, okp k → ok k ∧ some k ≠ v.ownBlock) (hfresh : ∀ k, W.heap.size ≤ k → ok k)
  (HO : Kd.T d e W base (fun k => ok k ∧ ¬ okp k) v xs) (HB : Below base w0 W) (hbase : base ≤ W.heap.size) (hl : (xs.length + 1) * bytes ≤ 140737488355328)
  (h : ∀ v1 w1, Kd.T d e w1 base ok v1 (xs ++ [p]) → Below base w0 w1 → W.grownBy w1 v.ownBlock → (v1.ownBlock = v.ownBlock ∨ ∃ b, v1.ownBlock = some b ∧ W.heap.size ≤ b) → Kc (a.put o.dst v1) w1) :
  if Region.wanted o (yielded ops a.tmps) = true then Oper.wp P o a (W.alloc (.cells cs.toArray e)) Kc Q else Kc (a.put o.dst undef) (W.alloc (.cells cs.toArray e)) := by
 obtain ⟨f, hf, hR⟩ := Kd.T_tag HO xs.length okp (fun _ hk h2 => h2.2 hk)
 refine Kd.Q_append_step (Kd.tag f d) base hw s x t e z bytes ho ht hinfo hz hs0 hb0 v xs.zipIdx (p, xs.length) cs ok okp hs hx (d.M_mono (fun k hk => ⟨hk, hf k hk⟩) hp) hokp hfresh (Kd.Q_mono hR (fun _ hk => hk.1)) HB hbase (by rw [List.length_zipIdx]; exact hl) ?_
 intro v1 w1 hr
 rw [← Kd.zip_snoc] at hr
 exact h v1 w1 ⟨f, hr⟩
end

theorem info2 : (Try.prog.info? 2).map (fun i => (i.zero, i.size, i.bytes)) = some (some (.int .i64 0), 1, 8) := by kernel_rfl
theorem info31 : (Try.prog.info? 31).map (fun i => (i.zero, i.size, i.bytes)) = some (some (.agg #[(.slice none 0 0), (.int .i64 0), (.int .i64 0)]), 3, 40) := by kernel_rfl
-- the values' own types
def rd_L1 (xs : List (List Int)) (i : Int) : (List Int) := xs.getD i.toNat ([] : List Int)
theorem at_L1 {w : World} {A : Option Addr} {n : Nat} {xs : List (List Int)} (h : Kd.C (Kd.slice 2 (Kd.int .i64)) w A n xs) (i : Int) (h0 : 0 ≤ i) (h1 : i < n) : ∃ ad A0 c0, A = some ad ∧ w.cell? (ad.add i.toNat) = some (.slice A0 (rd_L1 xs i).length c0) ∧ (rd_L1 xs i).length ≤ c0 ∧ (Kd.int .i64).C w A0 (rd_L1 xs i).length (rd_L1 xs i) := by
 obtain ⟨ad, c, e, _, hK, hc0⟩ := Kd.C_get h ([] : List Int) i h0 h1
 have hc : ∀ j u, c[j]? = some u → w.cell? (ad.add (i.toNat * 1 + j)) = some u := hc0
 obtain ⟨A0, c0, rfl, l0, g0⟩ := hK
 exact ⟨ad, A0, c0, e, by have hq := hc 0 _ rfl; rwa [Nat.mul_one, Nat.add_zero] at hq, l0, g0⟩

/-! #### struct type 31 -/
structure S31 where
 f0 : (List Int)
 f1 : Int
 f2 : Int
def z31 : S31 := ⟨([] : List Int), (0 : Int), (0 : Int)⟩
def k31 : Kd S31 := Kd.iso (Kd.pair (Kd.slice 2 (Kd.int .i64)) (Kd.pair (Kd.int .i64) (Kd.int .i64))) (fun x : S31 => (x.f0, x.f1, x.f2))
theorem k31_open {w : World} {x : S31} {cs : List Value} (h : k31.K w x cs) : ∃ A0 c0, cs = [.slice A0 x.f0.length c0, .int .i64 x.f1, .int .i64 x.f2] ∧ x.f0.length ≤ c0 ∧ (Kd.int .i64).C w A0 x.f0.length x.f0 := by
 obtain ⟨_, _, rfl, ⟨A0, c0, rfl, l0, g0⟩, ⟨_, _, rfl, rfl, rfl⟩⟩ := h
 exact ⟨A0, c0, rfl, l0, g0⟩
theorem k31_openM {w : World} {base : Nat} {ok : Nat → Prop} {x : S31} {cs : List Value} (h : k31.M w base ok x cs) : ∃ v0, cs = [v0, .int .i64 x.f1, .int .i64 x.f2] ∧ (Kd.int .i64).R 2 w base ok v0 x.f0 := by
 obtain ⟨_, _, rfl, ⟨v0, rfl, g0⟩, ⟨_, _, rfl, rfl, rfl⟩⟩ := h
 exact ⟨v0, rfl, g0⟩
theorem k31_mk (w : World) (x : S31) {A0 : Option Addr} {c0 : Nat} (l0 : x.f0.length ≤ c0) (g0 : (Kd.int .i64).C w A0 x.f0.length x.f0) : k31.K w x [.slice A0 x.f0.length c0, .int .i64 x.f1, .int .i64 x.f2] := ⟨[.slice A0 x.f0.length c0], [.int .i64 x.f1, .int .i64 x.f2], rfl, ⟨A0, c0, rfl, l0, g0⟩, ⟨[.int .i64 x.f1], [.int .i64 x.f2], rfl, rfl, rfl⟩⟩
theorem k31_mkM (w : World) (base : Nat) (ok : Nat → Prop) (x : S31) {v0 : Value} (g0 : (Kd.int .i64).R 2 w base ok v0 x.f0) : k31.M w base ok x [v0, .int .i64 x.f1, .int .i64 x.f2] := ⟨[v0], [.int .i64 x.f1, .int .i64 x.f2], rfl, ⟨v0, rfl, g0⟩, ⟨[.int .i64 x.f1], [.int .i64 x.f2], rfl, rfl, rfl⟩⟩
def rd_T31 (xs : List S31) (i : Int) : S31 := xs.getD i.toNat z31
theorem at_T31 {w : World} {A : Option Addr} {n : Nat} {xs : List S31} (h : Kd.C k31 w A n xs) (i : Int) (h0 : 0 ≤ i) (h1 : i < n) : ∃ ad A0 c0, A = some ad ∧ w.cell? (ad.add (i.toNat * 3)) = some (.slice A0 (rd_T31 xs i).f0.length c0) ∧ w.cell? ⟨(ad.add (i.toNat * 3)).block, (ad.add (i.toNat * 3)).off + 1, none⟩ = some (.int .i64 (rd_T31 xs i).f1) ∧ w.cell? ⟨(ad.add (i.toNat * 3)).block, (ad.add (i.toNat * 3)).off + 2, none⟩ = some (.int .i64 (rd_T31 xs i).f2) ∧ (rd_T31 xs i).f0.length ≤ c0 ∧ (Kd.int .i64).C w A0 (rd_T31 xs i).f0.length (rd_T31 xs i).f0 := by
 obtain ⟨ad, c, e, _, hK, hc0⟩ := Kd.C_get h z31 i h0 h1
 have hc : ∀ j u, c[j]? = some u → w.cell? (ad.add (i.toNat * 3 + j)) = some u := hc0
 obtain ⟨A0, c0, rfl, l0, g0⟩ := k31_open hK
 exact ⟨ad, A0, c0, e, hc 0 _ rfl, by rw [← add_field _ _ 1 (by omega)]; exact hc 1 _ rfl, by rw [← add_field _ _ 2 (by omega)]; exact hc 2 _ rfl, l0, g0⟩

/-! #### struct type 24 -/
structure S24 where
 f0 : (List Int)
 f1 : Int
 f2 : Int
def z24 : S24 := ⟨([] : List Int), (0 : Int), (0 : Int)⟩
def k24 : Kd S24 := Kd.iso (Kd.pair (Kd.slice 2 (Kd.int .i64)) (Kd.pair (Kd.int .i64) (Kd.int .i64))) (fun x : S24 => (x.f0, x.f1, x.f2))
theorem k24_open {w : World} {x : S24} {cs : List Value} (h : k24.K w x cs) : ∃ A0 c0, cs = [.slice A0 x.f0.length c0, .int .i64 x.f1, .int .i64 x.f2] ∧ x.f0.length ≤ c0 ∧ (Kd.int .i64).C w A0 x.f0.length x.f0 := by
 obtain ⟨_, _, rfl, ⟨A0, c0, rfl, l0, g0⟩, ⟨_, _, rfl, rfl, rfl⟩⟩ := h
 exact ⟨A0, c0, rfl, l0, g0⟩
theorem k24_openM {w : World} {base : Nat} {ok : Nat → Prop} {x : S24} {cs : List Value} (h : k24.M w base ok x cs) : ∃ v0, cs = [v0, .int .i64 x.f1, .int .i64 x.f2] ∧ (Kd.int .i64).R 2 w base ok v0 x.f0 := by
 obtain ⟨_, _, rfl, ⟨v0, rfl, g0⟩, ⟨_, _, rfl, rfl, rfl⟩⟩ := h
 exact ⟨v0, rfl, g0⟩
theorem k24_mk (w : World) (x : S24) {A0 : Option Addr} {c0 : Nat} (l0 : x.f0.length ≤ c0) (g0 : (Kd.int .i64).C w A0 x.f0.length x.f0) : k24.K w x [.slice A0 x.f0.length c0, .int .i64 x.f1, .int .i64 x.f2] := ⟨[.slice A0 x.f0.length c0], [.int .i64 x.f1, .int .i64 x.f2], rfl, ⟨A0, c0, rfl, l0, g0⟩, ⟨[.int .i64 x.f1], [.int .i64 x.f2], rfl, rfl, rfl⟩⟩
theorem k24_mkM (w : World) (base : Nat) (ok : Nat → Prop) (x : S24) {v0 : Value} (g0 : (Kd.int .i64).R 2 w base ok v0 x.f0) : k24.M w base ok x [v0, .int .i64 x.f1, .int .i64 x.f2] := ⟨[v0], [.int .i64 x.f1, .int .i64 x.f2], rfl, ⟨v0, rfl, g0⟩, ⟨[.int .i64 x.f1], [.int .i64 x.f2], rfl, rfl, rfl⟩⟩
def rd_T24 (xs : List S24) (i : Int) : S24 := xs.getD i.toNat z24
theorem at_T24 {w : World} {A : Option Addr} {n : Nat} {xs : List S24} (h : Kd.C k24 w A n xs) (i : Int) (h0 : 0 ≤ i) (h1 : i < n) : ∃ ad A0 c0, A = some ad ∧ w.cell? (ad.add (i.toNat * 3)) = some (.slice A0 (rd_T24 xs i).f0.length c0) ∧ w.cell? ⟨(ad.add (i.toNat * 3)).block, (ad.add (i.toNat * 3)).off + 1, none⟩ = some (.int .i64 (rd_T24 xs i).f1) ∧ w.cell? ⟨(ad.add (i.toNat * 3)).block, (ad.add (i.toNat * 3)).off + 2, none⟩ = some (.int .i64 (rd_T24 xs i).f2) ∧ (rd_T24 xs i).f0.length ≤ c0 ∧ (Kd.int .i64).C w A0 (rd_T24 xs i).f0.length (rd_T24 xs i).f0 := by
 obtain ⟨ad, c, e, _, hK, hc0⟩ := Kd.C_get h z24 i h0 h1
 have hc : ∀ j u, c[j]? = some u → w.cell? (ad.add (i.toNat * 3 + j)) = some u := hc0
 obtain ⟨A0, c0, rfl, l0, g0⟩ := k24_open hK
 exact ⟨ad, A0, c0, e, hc 0 _ rfl, by rw [← add_field _ _ 1 (by omega)]; exact hc 1 _ rfl, by rw [← add_field _ _ 2 (by omega)]; exact hc 2 _ rfl, l0, g0⟩

def rd_L4 (xs : List (List S24)) (i : Int) : (List S24) := xs.getD i.toNat ([] : List S24)
theorem at_L4 {w : World} {A : Option Addr} {n : Nat} {xs : List (List S24)} (h : Kd.C (Kd.slice 24 k24) w A n xs) (i : Int) (h0 : 0 ≤ i) (h1 : i < n) : ∃ ad A0 c0, A = some ad ∧ w.cell? (ad.add i.toNat) = some (.slice A0 (rd_L4 xs i).length c0) ∧ (rd_L4 xs i).length ≤ c0 ∧ k24.C w A0 (rd_L4 xs i).length (rd_L4 xs i) := by
 obtain ⟨ad, c, e, _, hK, hc0⟩ := Kd.C_get h ([] : List S24) i h0 h1
 have hc : ∀ j u, c[j]? = some u → w.cell? (ad.add (i.toNat * 1 + j)) = some u := hc0
 obtain ⟨A0, c0, rfl, l0, g0⟩ := hK
 exact ⟨ad, A0, c0, e, by have hq := hc 0 _ rfl; rwa [Nat.mul_one, Nat.add_zero] at hq, l0, g0⟩

/-! #### struct type 45 -/
structure S45 where
 f0 : (List S24)
 f1 : (List S24)
def z45 : S45 := ⟨([] : List S24), ([] : List S24)⟩
def k45 : Kd S45 := Kd.iso (Kd.pair (Kd.slice 24 k24) (Kd.slice 24 k24)) (fun x : S45 => (x.f0, x.f1))
theorem k45_open {w : World} {x : S45} {cs : List Value} (h : k45.K w x cs) : ∃ A0 c0 A1 c1, cs = [.slice A0 x.f0.length c0, .slice A1 x.f1.length c1] ∧ x.f0.length ≤ c0 ∧ k24.C w A0 x.f0.length x.f0 ∧ x.f1.length ≤ c1 ∧ k24.C w A1 x.f1.length x.f1 := by
 obtain ⟨_, _, rfl, ⟨A0, c0, rfl, l0, g0⟩, ⟨A1, c1, rfl, l1, g1⟩⟩ := h
 exact ⟨A0, c0, A1, c1, rfl, l0, g0, l1, g1⟩
theorem k45_openM {w : World} {base : Nat} {ok : Nat → Prop} {x : S45} {cs : List Value} (h : k45.M w base ok x cs) : ∃ v0 v1, cs = [v0, v1] ∧ k24.R 24 w base ok v0 x.f0 ∧ k24.R 24 w base ok v1 x.f1 := by
 obtain ⟨_, _, rfl, ⟨v0, rfl, g0⟩, ⟨v1, rfl, g1⟩⟩ := h
 exact ⟨v0, v1, rfl, g0, g1⟩
theorem k45_mk (w : World) (x : S45) {A0 : Option Addr} {c0 : Nat} (l0 : x.f0.length ≤ c0) (g0 : k24.C w A0 x.f0.length x.f0) {A1 : Option Addr} {c1 : Nat} (l1 : x.f1.length ≤ c1) (g1 : k24.C w A1 x.f1.length x.f1) : k45.K w x [.slice A0 x.f0.length c0, .slice A1 x.f1.length c1] := ⟨[.slice A0 x.f0.length c0], [.slice A1 x.f1.length c1], rfl, ⟨A0, c0, rfl, l0, g0⟩, ⟨A1, c1, rfl, l1, g1⟩⟩
theorem k45_mkM (w : World) (base : Nat) (ok : Nat → Prop) (x : S45) {v0 : Value} (g0 : k24.R 24 w base ok v0 x.f0) {v1 : Value} (g1 : k24.R 24 w base ok v1 x.f1) : k45.M w base ok x [v0, v1] := ⟨[v0], [v1], rfl, ⟨v0, rfl, g0⟩, ⟨v1, rfl, g1⟩⟩
def rd_T45 (xs : List S45) (i : Int) : S45 := xs.getD i.toNat z45
theorem at_T45 {w : World} {A : Option Addr} {n : Nat} {xs : List S45} (h : Kd.C k45 w A n xs) (i : Int) (h0 : 0 ≤ i) (h1 : i < n) : ∃ ad A0 c0 A1 c1, A = some ad ∧ w.cell? (ad.add (i.toNat * 2)) = some (.slice A0 (rd_T45 xs i).f0.length c0) ∧ w.cell? ⟨(ad.add (i.toNat * 2)).block, (ad.add (i.toNat * 2)).off + 1, none⟩ = some (.slice A1 (rd_T45 xs i).f1.length c1) ∧ (rd_T45 xs i).f0.length ≤ c0 ∧ k24.C w A0 (rd_T45 xs i).f0.length (rd_T45 xs i).f0 ∧ (rd_T45 xs i).f1.length ≤ c1 ∧ k24.C w A1 (rd_T45 xs i).f1.length (rd_T45 xs i).f1 := by
 obtain ⟨ad, c, e, _, hK, hc0⟩ := Kd.C_get h z45 i h0 h1
 have hc : ∀ j u, c[j]? = some u → w.cell? (ad.add (i.toNat * 2 + j)) = some u := hc0
 obtain ⟨A0, c0, A1, c1, rfl, l0, g0, l1, g1⟩ := k45_open hK
 exact ⟨ad, A0, c0, A1, c1, e, hc 0 _ rfl, by rw [← add_field _ _ 1 (by omega)]; exact hc 1 _ rfl, l0, g0, l1, g1⟩

end Go.Proofs.Ytkplopkhdejleaa.PFnExactUndoForth
