-- Written by xprint.py (this claim's own program, over the kit's printer); Lean checks it.
import Derived.Test.YtpjdjbbfbalhpaaProg
import Derived.Below
import Derived.Deep.Draws
import Derived.Deep.AppendLies
import Derived.Maps.AppendAt
import Derived.OwnWalk
import Derived.Laws.BytesArg
import Derived.Laws.MakeOwn
import Derived.Laws.OwnMore
import Derived.Deep.OwnRows
import Derived.Tactics
import Derived.Lib.ConvBytes
import Derived.Laws.Slices
import Derived.WalkKit
import Derived.KernelRfl
import Derived.RowKit3
import Derived.Deep.LoopGhost
import Derived.Deep.QuietTactic
import Derived.BigQuiet
import Derived.WideLaws
import Derived.Deep.DeepCutAuto
import Derived.Deep.CutBlock
import Derived.Deep.RegionHeld3
import Derived.Laws.Rows
import Derived.Lib.AppendStr
import Derived.ArgAppend
import Derived.Laws.IdiomCopy
import Derived.OrdersHeld
import Derived.Laws.BitsLemmas
import Derived.RowKit
import Derived.Test.YtpjdjbbfbalhpaaWWords
import Derived.Test.YtpjdjbbfbalhpaaWLast
import Derived.Test.YtpjdjbbfbalhpaaWTab
import Derived.Test.YtpjdjbbfbalhpaaWFour
import Derived.Test.YtpjdjbbfbalhpaaWQPut
import Derived.Test.YtpjdjbbfbalhpaaWApart
import Derived.Test.YtpjdjbbfbalhpaaWArr
import Derived.Test.YtpjdjbbfbalhpaaWZeros
import Derived.Test.YtpjdjbbfbalhpaaWFoot
import Derived.Test.YtpjdjbbfbalhpaaWKept
import Derived.Test.YtpjdjbbfbalhpaaWShare
import Derived.Test.YtpjdjbbfbalhpaaWN
import Derived.Test.YtpjdjbbfbalhpaaWFootNe
import Derived.Test.YtpjdjbbfbalhpaaWAt
import Derived.Test.YtpjdjbbfbalhpaaWEqStruct
import Derived.Test.YtpjdjbbfbalhpaaWRepsOne
import Derived.Test.YtpjdjbbfbalhpaaWInv
import Derived.Test.YtpjdjbbfbalhpaaWInvWords
import Derived.Test.YtpjdjbbfbalhpaaWGuard
import Derived.Test.YtpjdjbbfbalhpaaWNEv
import Derived.Test.YtpjdjbbfbalhpaaWMore
namespace Go.Proofs.Ytpjdjbbfbalhpaa.PFnExactPointsRight
open Go.RowKit Go.Proofs.YtpjdjbbfbalhpaaW.PrintWords Go.Proofs.YtpjdjbbfbalhpaaW.PrintLast Go.Proofs.YtpjdjbbfbalhpaaW.PrintMore
attribute [local go_sem] max2_int min2_int max_two min_two max_three min_three max_four min_four   -- for this text's walks alone
set_option linter.unusedVariables false
set_option linter.unusedSimpArgs false



def errW : Option Int → Value
  | none => .nilIface
  | some c => .iface 0 (.int .i64 c)
theorem errW_none : errW none = .nilIface := rfl
theorem errW_some (c : Int) : errW (some c) = .iface 0 (.int .i64 c) := rfl

/-- The cells of a variable of several cells, from the j-th on, at an address, as the walk spells a field's address. -/
def cellAt (p : Addr) : Nat → Addr
  | 0 => p
  | j + 1 => ⟨p.block, p.off + (j + 1), none⟩
def AtP (w : World) (p : Addr) : Nat → List Value → Prop
  | _, [] => True
  | j, c :: cs => w.cell? (cellAt p j) = some c ∧ AtP w p (j + 1) cs
theorem AtP.below {w w1 : World} {p : Addr} : ∀ {cs : List Value} {j : Nat}, Below w.heap.size w w1 → AtP w p j cs → AtP w1 p j cs
  | [], _, _, _ => trivial
  | _ :: _, _, hb, h => ⟨pw_cell_below hb h.1, AtP.below hb h.2⟩
theorem AtP.drewN {w : World} {p : Addr} (n : Nat) : ∀ {cs : List Value} {j : Nat}, AtP w p j cs → AtP (w.drewN n) p j cs
  | [], _, _ => trivial
  | _ :: _, _, h => ⟨h.1, AtP.drewN n h.2⟩
theorem AtP.drew {w : World} {p : Addr} : ∀ {cs : List Value} {j : Nat}, AtP w p j cs → AtP w.drew p j cs
  | [], _, _ => trivial
  | _ :: _, _, h => ⟨h.1, AtP.drew h.2⟩
theorem AtP.of_list {w : World} {g : Nat} : ∀ {cs : List Value} {j : Nat}, (∀ i u, cs[i]? = some u → w.cell? ⟨g, j + i, none⟩ = some u) → AtP w ⟨g, 0, none⟩ j cs
  | [], _, _ => trivial
  | c :: cs, j, h => ⟨by
      have h0 := h 0 c rfl
      cases j with
      | zero => exact h0
      | succ j => show w.cell? ⟨g, 0 + (j + 1), none⟩ = some c; rw [Nat.zero_add]; exact h0, AtP.of_list fun i u hu => by
      have h1 := h (i + 1) u hu
      rwa [Nat.add_assoc, Nat.add_comm 1 i]⟩
theorem AtP.of_blk {w : World} {g t : Nat} {cs : Array Value} (h : w.heap[g]? = some (.cells cs t (0, 0))) : AtP w ⟨g, 0, none⟩ 0 cs.toList :=
  AtP.of_list fun i u hu => by
    rw [Nat.zero_add, blk_cell h i, ← Array.getElem?_toList]
    exact hu

theorem info2 : (Try.prog.info? 2).map (fun i => (i.zero, i.size, i.bytes)) = some (some (.int .i64 0), 1, 8) := by kernel_rfl
-- the values' own types

end Go.Proofs.Ytpjdjbbfbalhpaa.PFnExactPointsRight
