-- Written by xprint.py (this claim's own program, over the kit's printer); Lean checks it.
import Derived.Test.YtbbhdggikcipaaaDoorProg
import Derived.WalkSpells
import Derived.Below
import Derived.Deep.Draws
import Derived.Deep.AppendLies
import Derived.Maps.AppendAt
import Derived.OwnWalk
import Derived.Laws.BytesArg
import Derived.Laws.MakeOwn
import Derived.Laws.OwnMore
import Derived.Deep.OwnRows
import Derived.Tactics
import Derived.Lib.ConvBytes
import Derived.Laws.Slices
import Derived.WalkKit
import Derived.KernelRfl
import Derived.RowKit3
import Derived.Deep.LoopGhost
import Derived.Deep.QuietTactic
import Derived.BigQuiet
import Derived.WideLaws
import Derived.Deep.DeepCutAuto
import Derived.Deep.CutBlock
import Derived.Deep.RegionHeld3
import Derived.Laws.Rows
import Derived.Lib.AppendStr
import Derived.ArgAppend
import Derived.Laws.IdiomCopy
import Derived.OrdersHeld
import Derived.Laws.BitsLemmas
import Derived.RowKit
import Derived.WideMake
import Derived.Carry
import Derived.StillTailTactics
import Derived.Test.YtbbhdggikcipaaaDoorShelf
import Derived.Test.YtbbhdggikcipaaaDoorWWords
import Derived.Test.YtbbhdggikcipaaaDoorWLast
import Derived.Test.YtbbhdggikcipaaaDoorWTab
import Derived.Test.YtbbhdggikcipaaaDoorWQPut
import Derived.Test.YtbbhdggikcipaaaDoorWApart
import Derived.Test.YtbbhdggikcipaaaDoorWArr
import Derived.Test.YtbbhdggikcipaaaDoorWZeros
import Derived.Test.YtbbhdggikcipaaaDoorWFoot
import Derived.Test.YtbbhdggikcipaaaDoorWKept
import Derived.Test.YtbbhdggikcipaaaDoorWShare
import Derived.Test.YtbbhdggikcipaaaDoorWN
import Derived.Test.YtbbhdggikcipaaaDoorWFootNe
import Derived.Test.YtbbhdggikcipaaaDoorWAt
import Derived.Test.YtbbhdggikcipaaaDoorWRepsOne
import Derived.Test.YtbbhdggikcipaaaDoorWNEv
import Derived.Test.YtbbhdggikcipaaaDoorWMore
namespace Go.Proofs.YtbbhdggikcipaaaDoor.PFnExactBufOf
open Go.RowKit Go.Proofs.YtbbhdggikcipaaaDoorW.PrintWords Go.Proofs.YtbbhdggikcipaaaDoorW.PrintLast Go.Proofs.YtbbhdggikcipaaaDoorW.PrintMore
attribute [local go_sem] max2_int min2_int max_two min_two max_three min_three max_four min_four   -- for this text's walks alone
set_option linter.unusedVariables false
set_option linter.unusedSimpArgs false   -- squeezed



def errW : Option Int → Value
 | none => .nilIface
 | some c => .iface 0 (.int .i64 c)
theorem errW_none : errW none = .nilIface := rfl
theorem errW_some (c : Int) : errW (some c) = .iface 0 (.int .i64 c) := rfl

/-- The cells of a variable of several cells, from the j-th on, at an address, as the walk spells a field's address. -/
def cellAt (p : Addr) : Nat → Addr
 | 0 => p
 | j + 1 => ⟨p.block, p.off + (j + 1), none⟩
def AtP (w : World) (p : Addr) : Nat → List Value → Prop
 | _, [] => True
 | j, c :: cs => w.cell? (cellAt p j) = some c ∧ AtP w p (j + 1) cs
theorem AtP.below {w w1 : World} {p : Addr} : ∀ {cs : List Value} {j : Nat}, Below w.heap.size w w1 → AtP w p j cs → AtP w1 p j cs
 | [], _, _, _ => trivial
 | _ :: _, _, hb, h => ⟨pw_cell_below hb h.1, AtP.below hb h.2⟩
theorem AtP.drewN {w : World} {p : Addr} (n : Nat) : ∀ {cs : List Value} {j : Nat}, AtP w p j cs → AtP (w.drewN n) p j cs
 | [], _, _ => trivial
 | _ :: _, _, h => ⟨h.1, AtP.drewN n h.2⟩
theorem AtP.drew {w : World} {p : Addr} : ∀ {cs : List Value} {j : Nat}, AtP w p j cs → AtP w.drew p j cs
 | [], _, _ => trivial
 | _ :: _, _, h => ⟨h.1, AtP.drew h.2⟩
theorem AtP.of_list {w : World} {g : Nat} : ∀ {cs : List Value} {j : Nat}, (∀ i u, cs[i]? = some u → w.cell? ⟨g, j + i, none⟩ = some u) → AtP w ⟨g, 0, none⟩ j cs
 | [], _, _ => trivial
 | c :: cs, j, h => ⟨by
   have h0 := h 0 c rfl
   cases j with
   | zero => exact h0
   | succ j => show w.cell? ⟨g, 0 + (j + 1), none⟩ = some c; rw [Nat.zero_add]; exact h0, AtP.of_list fun i u hu => by
   have h1 := h (i + 1) u hu
   rwa [Nat.add_assoc, Nat.add_comm 1 i]⟩
theorem AtP.of_blk {w : World} {g t : Nat} {cs : Array Value} (h : w.heap[g]? = some (.cells cs t (0, 0))) : AtP w ⟨g, 0, none⟩ 0 cs.toList :=
 AtP.of_list fun i u hu => by
  rw [Nat.zero_add, blk_cell h i, ← Array.getElem?_toList]
  exact hu
/-- A block is the same in a later world: drawn orders and new blocks. -/
def SameBlk (w w' : World) (g : Nat) : Prop := ∀ o : Obj, w.heap[g]? = some o → w'.heap[g]? = some o
theorem SameBlk.refl (w : World) (g : Nat) : SameBlk w w g := fun _ h => h
theorem SameBlk.drewN {w w' : World} {g : Nat} (h : SameBlk w w' g) (n : Nat) : SameBlk w (w'.drewN n) g := h
theorem SameBlk.drew {w w' : World} {g : Nat} (h : SameBlk w w' g) : SameBlk w w'.drew g := h
theorem SameBlk.alloc {w w' : World} {g : Nat} (h : SameBlk w w' g) (o' : Obj) : SameBlk w (w'.alloc o') g := fun o ho => blk_alloc (h o ho) o'
theorem pk {w w' : World} {g : Nat} {o : Obj} (h : w.heap[g]? = some o) (e : SameBlk w w' g := by (with_reducible repeat (first | refine SameBlk.drewN ?_ _ | refine SameBlk.drew ?_ | refine SameBlk.alloc ?_ _)); exact SameBlk.refl _ _) : w'.heap[g]? = some o := e o h
theorem am {p : Prop} (h : p) : Aside0 p := ⟨h⟩
def LaterB (w w1 w2 : World) : Prop := Below w.heap.size w w1 → Below w.heap.size w w2
theorem LaterB.refl (w w1 : World) : LaterB w w1 w1 := fun h => h
theorem LaterB.alloc {w w1 w2 : World} (h : LaterB w w1 w2) (o : Obj) : LaterB w w1 (w2.alloc o) := fun k => below_alloc (h k) o
theorem LaterB.drewN {w w1 w2 : World} (h : LaterB w w1 w2) (n : Nat) : LaterB w w1 (w2.drewN n) := fun k => pw_below_drewN (h k) n
theorem LaterB.drew {w w1 w2 : World} (h : LaterB w w1 w2) : LaterB w w1 w2.drew := fun k => below_drew1 (h k)
theorem LaterB.set {w w1 w2 : World} {g j : Nat} {v : Value} (h : LaterB w w1 w2) (hg : Aside0 (w.heap.size ≤ g)) : LaterB w w1 (w2.setCell ⟨g, j, none⟩ v) := fun k => below_set (h k) hg.out
theorem bl {w w1 w2 : World} (h : Below w.heap.size w w1) (e : LaterB w w1 w2 := by (with_reducible repeat (first | refine LaterB.drewN ?_ _ | refine LaterB.drew ?_ | refine LaterB.alloc ?_ _ | refine LaterB.set ?_ (by assumption))); exact LaterB.refl _ _) : Below w.heap.size w w2 := e h
section
variable {P : Program} {ops : Array Oper} {Q : Exit → Act → World → Prop}
theorem gl {rest : List Oper} {oi : Oper} {a : Act} {w : World} (N : Option Tmp) {f : FuncId} {fn : Func} {os_ : Array Operand} {ts : Array TypeId} (hf : P.funcs[f]? = some fn) (args : Array Value)
  (h : Calls P f args w fun e w' => ∃ v, e = .returned v ∧ wpList P ops Q rest (a.put N v) w') (hd : oi.dst = N := by rfl) (hg : oi.guard = none := by rfl) (hname : (fn.name == "runtime.NumGoroutine") = false := by kernel_rfl) (hb : fn.body.isSome = true := by rfl)
  (hop : oi.op = .call { callee := .value (.func f), args := os_, argTypes := ts } := by rfl) (hargs : os_.map a.eval = args := by (try simp only [List.map_toArray, List.map_cons, List.map_nil]); first | done | rfl | (simp only [List.length_drop, List.length_take]; rfl)) : wpList P ops Q (oi :: rest) a w :=
 goesL_ N hd hg hf hname hb args hop hargs h
end
theorem vAt2 {α : Type} {d : Kd α} {e base m : Nat} {w w' : World} {ok : Nat → Prop} {v : Value} {xs : List α} (hq : w.drewN m = w') (h : Kd.V d e w base ok v xs) : Kd.V d e w' base ok v xs := by subst hq; exact Kd.V_drewN h m
theorem sa_ {α : Type} (l : List α) (i : Nat) (a : α) : l.toArray.setIfInBounds i a = (l.set i a).toArray := List.setIfInBounds_toArray l i a
theorem s0_ {α : Type} (x : α) (xs : List α) (a : α) : (x :: xs).set 0 a = a :: xs := List.set_cons_zero
theorem ss_ {α : Type} (x : α) (xs : List α) (n : Nat) (a : α) : (x :: xs).set (n + 1) a = x :: xs.set n a := List.set_cons_succ
theorem pu_ {P : Program} {ops : Array Oper} {Q : Exit → Act → World → Prop} {md : Region.Mode} {S : World → Prop} {ds : List Nat} {T : Bool × List (List Nat × List Nat)} {oi : Oper} {fuel : Nat} {l : Array Bool} {a : Act} {w : World} (i : Nat) (N : Option Tmp) (v : Value) (l' : Array Bool) (hi : ops[i]? = some oi) (hN : oi.dst = N) (hT : rtab md ops = T) (h1 : anyT T l.toList l'.toList i = true)
  (hQ : ∀ c a w, Q (.panic c) (a.put oi.dst v) w → Q (.panic c) a w) (hy : Yields P ops oi v a) (a' : Act) (ha : a.put N v = a')
  (h : wpAnyLast P md ops Q S ds fuel l' a' w) : wpAnyLast P md ops Q S ds (fuel + 1) l a w := pure_ l' hi hN (any_of hT h1) hQ hy ha h
theorem tk_ {P : Program} {ops : Array Oper} {Q : Exit → Act → World → Prop} {md : Region.Mode} {S : World → Prop} {ds : List Nat} {T : Bool × List (List Nat × List Nat)} {B : List Nat} {oi : Oper} {fuel : Nat} {l : Array Bool} {a : Act} {w : World} (i : Nat) (N : Option Tmp) (v : Value) (l' : Array Bool) (hi : ops[i]? = some oi) (hN : oi.dst = N) (hT : rtab md ops = T) (hB : waitsOk T.2 B = true) (h1 : takeW T B ds l.toList l'.toList i = true)
  (hQ : ∀ c a w, Q (.panic c) (a.put oi.dst v) w → Q (.panic c) a w) (hy : YieldsIf P ops S oi v a) (hS : S w) (a' : Act) (ha : a.put N v = a')
  (h : wpAnyLast P md ops Q S ds fuel l' a' w) : wpAnyLast P md ops Q S ds (fuel + 1) l a w := take_ l' hi hN (take_ofW hT hB h1) hQ hy hS ha h
def br : Bool → List Nat → List Bool
 | _, [] => []
 | b, n :: l => List.replicate n b ++ br (!b) l
theorem kr {α : Type} {d : Kd α} {e base : Nat} {w w1 : World} {ok : Nat → Prop} {v : Value} {xs : List α} (h : Kd.R d e w base ok v xs) (s : Below w.heap.size w w1 := by (with_reducible repeat (first | apply below_alloc | apply pw_below_drewN | apply below_drew1)); exact Below.refl _ _) : Kd.R d e w1 base ok v xs := Kd.R_below h s
theorem bc {w : World} {g : Nat} {t : TypeId} {cs : Array Value} {v : Value} (h : w.heap[g]? = some (.cells cs t (0, 0))) (i : Nat) (hv : cs[i]? = some v := by rfl) : w.cell? ⟨g, i, none⟩ = some v := (blk_cell h i).trans hv
theorem gs_ {P : Program} {ops : Array Oper} {Q : Exit → Act → World → Prop} {oi : Oper} {N : Option Tmp} {a : Act} {w : World} {K : Act → World → Prop} {f : FuncId} {fn : Func} {os_ : Array Operand} {ts : Array TypeId} (hf : P.funcs[f]? = some fn) (args : Array Value)
  (h : Calls P f args w fun e w' => ∃ v, e = .returned v ∧ K (a.put N v) w') (hname : (fn.name == "runtime.NumGoroutine") = false := by kernel_rfl) (hb : fn.body.isSome = true := by rfl) (hw : Region.wanted oi (yielded ops a.tmps) = true := by rfl) (hN : oi.dst = N := by rfl)
  (hop : oi.op = .call { callee := .value (.func f), args := os_, argTypes := ts } := by rfl) (hargs : os_.map a.eval = args := by (try simp only [List.map_toArray, List.map_cons, List.map_nil]); first | done | rfl | (simp only [List.length_drop, List.length_take]; rfl)) : if Region.wanted oi (yielded ops a.tmps) = true then Oper.wp P oi a w K Q else K (a.put N undef) w :=
 goes_ hf hname hb args hw hN hop hargs h

theorem info2 : (Tryd.prog.info? 2).map (fun i => (i.zero, i.size, i.bytes)) = some (some (.int .i64 0), 1, 8) := by kernel_rfl
theorem info5 : (Tryd.prog.info? 5).map (fun i => (i.zero, i.size, i.bytes)) = some (some (.int .u8 0), 1, 1) := by kernel_rfl
theorem info9 : (Tryd.prog.info? 9).map (fun i => (i.zero, i.size, i.bytes)) = some (some (.string ⟨#[]⟩), 1, 16) := by kernel_rfl
-- the values' own types

end Go.Proofs.YtbbhdggikcipaaaDoor.PFnExactBufOf
