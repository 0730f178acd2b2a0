-- Written by xprint.py (this claim's own program, over the kit's printer); Lean checks it.
import Derived.Test.YthcnhafdhjajpaaProg
import Derived.WalkSpells
import Derived.Below
import Derived.Deep.Draws
import Derived.Deep.AppendLies
import Derived.Maps.AppendAt
import Derived.OwnWalk
import Derived.Laws.BytesArg
import Derived.Laws.MakeOwn
import Derived.Laws.OwnMore
import Derived.Deep.OwnRows
import Derived.Tactics
import Derived.Lib.ConvBytes
import Derived.Laws.Slices
import Derived.WalkKit
import Derived.KernelRfl
import Derived.RowKit3
import Derived.Deep.LoopGhost
import Derived.Deep.QuietTactic
import Derived.BigQuiet
import Derived.WideLaws
import Derived.Deep.DeepCutAuto
import Derived.Deep.CutBlock
import Derived.Deep.RegionHeld3
import Derived.Laws.Rows
import Derived.Lib.AppendStr
import Derived.ArgAppend
import Derived.Laws.IdiomCopy
import Derived.OrdersHeld
import Derived.Laws.BitsLemmas
import Derived.RowKit
import Derived.Test.YthcnhafdhjajpaaWWords
import Derived.Test.YthcnhafdhjajpaaWLast
import Derived.Test.YthcnhafdhjajpaaWTab
import Derived.Test.YthcnhafdhjajpaaWQPut
import Derived.Test.YthcnhafdhjajpaaWApart
import Derived.Test.YthcnhafdhjajpaaWArr
import Derived.Test.YthcnhafdhjajpaaWZeros
import Derived.Test.YthcnhafdhjajpaaWFoot
import Derived.Test.YthcnhafdhjajpaaWKept
import Derived.Test.YthcnhafdhjajpaaWShare
import Derived.Test.YthcnhafdhjajpaaWN
import Derived.Test.YthcnhafdhjajpaaWFootNe
import Derived.Test.YthcnhafdhjajpaaWAt
import Derived.Test.YthcnhafdhjajpaaWRepsOne
import Derived.Test.YthcnhafdhjajpaaWGuard
import Derived.Test.YthcnhafdhjajpaaWNEv
import Derived.Test.YthcnhafdhjajpaaWMore
namespace Go.Proofs.Ythcnhafdhjajpaa.PFnHistFind
open Go.RowKit Go.Proofs.YthcnhafdhjajpaaW.PrintWords Go.Proofs.YthcnhafdhjajpaaW.PrintLast Go.Proofs.YthcnhafdhjajpaaW.PrintMore
attribute [local go_sem] max2_int min2_int max_two min_two max_three min_three max_four min_four   -- for this text's walks alone
set_option linter.unusedVariables false
set_option linter.unusedSimpArgs false   -- squeezed



def errW : Option Int → Value
 | none => .nilIface
 | some c => .iface 0 (.int .i64 c)
theorem errW_none : errW none = .nilIface := rfl
theorem errW_some (c : Int) : errW (some c) = .iface 0 (.int .i64 c) := rfl

/-- The cells of a variable of several cells, from the j-th on, at an address, as the walk spells a field's address. -/
def cellAt (p : Addr) : Nat → Addr
 | 0 => p
 | j + 1 => ⟨p.block, p.off + (j + 1), none⟩
def AtP (w : World) (p : Addr) : Nat → List Value → Prop
 | _, [] => True
 | j, c :: cs => w.cell? (cellAt p j) = some c ∧ AtP w p (j + 1) cs
theorem AtP.below {w w1 : World} {p : Addr} : ∀ {cs : List Value} {j : Nat}, Below w.heap.size w w1 → AtP w p j cs → AtP w1 p j cs
 | [], _, _, _ => trivial
 | _ :: _, _, hb, h => ⟨pw_cell_below hb h.1, AtP.below hb h.2⟩
theorem AtP.drewN {w : World} {p : Addr} (n : Nat) : ∀ {cs : List Value} {j : Nat}, AtP w p j cs → AtP (w.drewN n) p j cs
 | [], _, _ => trivial
 | _ :: _, _, h => ⟨h.1, AtP.drewN n h.2⟩
theorem AtP.drew {w : World} {p : Addr} : ∀ {cs : List Value} {j : Nat}, AtP w p j cs → AtP w.drew p j cs
 | [], _, _ => trivial
 | _ :: _, _, h => ⟨h.1, AtP.drew h.2⟩
theorem AtP.of_list {w : World} {g : Nat} : ∀ {cs : List Value} {j : Nat}, (∀ i u, cs[i]? = some u → w.cell? ⟨g, j + i, none⟩ = some u) → AtP w ⟨g, 0, none⟩ j cs
 | [], _, _ => trivial
 | c :: cs, j, h => ⟨by
   have h0 := h 0 c rfl
   cases j with
   | zero => exact h0
   | succ j => show w.cell? ⟨g, 0 + (j + 1), none⟩ = some c; rw [Nat.zero_add]; exact h0, AtP.of_list fun i u hu => by
   have h1 := h (i + 1) u hu
   rwa [Nat.add_assoc, Nat.add_comm 1 i]⟩
theorem AtP.of_blk {w : World} {g t : Nat} {cs : Array Value} (h : w.heap[g]? = some (.cells cs t (0, 0))) : AtP w ⟨g, 0, none⟩ 0 cs.toList :=
 AtP.of_list fun i u hu => by
  rw [Nat.zero_add, blk_cell h i, ← Array.getElem?_toList]
  exact hu
/-- A block is the same in a later world: drawn orders and new blocks. -/
def SameBlk (w w' : World) (g : Nat) : Prop := ∀ o : Obj, w.heap[g]? = some o → w'.heap[g]? = some o
theorem SameBlk.refl (w : World) (g : Nat) : SameBlk w w g := fun _ h => h
theorem SameBlk.drewN {w w' : World} {g : Nat} (h : SameBlk w w' g) (n : Nat) : SameBlk w (w'.drewN n) g := h
theorem SameBlk.drew {w w' : World} {g : Nat} (h : SameBlk w w' g) : SameBlk w w'.drew g := h
theorem SameBlk.alloc {w w' : World} {g : Nat} (h : SameBlk w w' g) (o' : Obj) : SameBlk w (w'.alloc o') g := fun o ho => blk_alloc (h o ho) o'
theorem pk {w w' : World} {g : Nat} {o : Obj} (h : w.heap[g]? = some o) (e : SameBlk w w' g := by (with_reducible repeat (first | refine SameBlk.drewN ?_ _ | refine SameBlk.drew ?_ | refine SameBlk.alloc ?_ _)); exact SameBlk.refl _ _) : w'.heap[g]? = some o := e o h
theorem am {p : Prop} (h : p) : Aside0 p := ⟨h⟩
theorem bl {w w1 w2 : World} (h : Below w.heap.size w w1) (e : Below w1.heap.size w1 w2 := by (with_reducible repeat (first | apply below_alloc | apply pw_below_drewN | apply below_drew1)); exact Below.refl _ _) : Below w.heap.size w w2 := below_step h e
section
variable {P : Program} {ops : Array Oper} {Q : Exit → Act → World → Prop}
theorem gl {rest : List Oper} {oi : Oper} {a : Act} {w : World} (N : Option Tmp) {f : FuncId} {fn : Func} {os_ : Array Operand} {ts : Array TypeId} (hf : P.funcs[f]? = some fn) (args : Array Value)
  (h : Calls P f args w fun e w' => ∃ v, e = .returned v ∧ wpList P ops Q rest (a.put N v) w') (hd : oi.dst = N := by rfl) (hg : oi.guard = none := by rfl) (hname : (fn.name == "runtime.NumGoroutine") = false := by kernel_rfl) (hb : fn.body.isSome = true := by rfl)
  (hop : oi.op = .call { callee := .value (.func f), args := os_, argTypes := ts } := by rfl) (hargs : os_.map a.eval = args := by (try simp only [List.map_toArray, List.map_cons, List.map_nil]); first | done | rfl | (simp only [List.length_drop, List.length_take]; rfl)) : wpList P ops Q (oi :: rest) a w :=
 goesL_ N hd hg hf hname hb args hop hargs h
end
theorem vAt2 {α : Type} {d : Kd α} {e base m : Nat} {w w' : World} {ok : Nat → Prop} {v : Value} {xs : List α} (hq : w.drewN m = w') (h : Kd.V d e w base ok v xs) : Kd.V d e w' base ok v xs := by subst hq; exact Kd.V_drewN h m

theorem info2 : (Try.prog.info? 2).map (fun i => (i.zero, i.size, i.bytes)) = some (some (.int .i64 0), 1, 8) := by kernel_rfl
theorem info5 : (Try.prog.info? 5).map (fun i => (i.zero, i.size, i.bytes)) = some (some (.int .u8 0), 1, 1) := by kernel_rfl
theorem info9 : (Try.prog.info? 9).map (fun i => (i.zero, i.size, i.bytes)) = some (some (.string ⟨#[]⟩), 1, 16) := by kernel_rfl
theorem info23 : (Try.prog.info? 23).map (fun i => (i.zero, i.size, i.bytes)) = some (some (.slice none 0 0), 1, 24) := by kernel_rfl
-- the values' own types
def rd_L3 (xs : List (List Int)) (i : Int) : (List Int) := xs.getD i.toNat ([] : List Int)
theorem at_L3 {w : World} {A : Option Addr} {n : Nat} {xs : List (List Int)} (h : Kd.C (Kd.slice 2 (Kd.int .i64)) w A n xs) (i : Int) (h0 : 0 ≤ i) (h1 : i < n) : ∃ ad A0 c0, A = some ad ∧ w.cell? (ad.add i.toNat) = some (.slice A0 (rd_L3 xs i).length c0) ∧ (rd_L3 xs i).length ≤ c0 ∧ (Kd.int .i64).C w A0 (rd_L3 xs i).length (rd_L3 xs i) := by
 obtain ⟨ad, c, e, _, hK, hc0⟩ := Kd.C_get h ([] : List Int) i h0 h1
 have hc : ∀ j u, c[j]? = some u → w.cell? (ad.add (i.toNat * 1 + j)) = some u := hc0
 obtain ⟨A0, c0, rfl, l0, g0⟩ := hK
 exact ⟨ad, A0, c0, e, by have hq := hc 0 _ rfl; rwa [Nat.mul_one, Nat.add_zero] at hq, l0, g0⟩

end Go.Proofs.Ythcnhafdhjajpaa.PFnHistFind
