-- Written by xprint.py (this claim's own program, over the kit's printer); Lean checks it.
import Derived.Test.YtabinbmcfeknjaaProg
import Derived.WalkSpells
import Derived.Below
import Derived.Deep.Draws
import Derived.Deep.AppendLies
import Derived.Maps.AppendAt
import Derived.OwnWalk
import Derived.Laws.BytesArg
import Derived.Laws.MakeOwn
import Derived.Laws.OwnMore
import Derived.Deep.OwnRows
import Derived.Tactics
import Derived.Lib.ConvBytes
import Derived.Laws.Slices
import Derived.WalkKit
import Derived.KernelRfl
import Derived.RowKit3
import Derived.Deep.LoopGhost
import Derived.Deep.QuietTactic
import Derived.BigQuiet
import Derived.WideLaws
import Derived.Deep.DeepCutAuto
import Derived.Deep.CutBlock
import Derived.Deep.RegionHeld3
import Derived.Laws.Rows
import Derived.Lib.AppendStr
import Derived.ArgAppend
import Derived.Laws.IdiomCopy
import Derived.OrdersHeld
import Derived.Laws.BitsLemmas
import Derived.RowKit
import Derived.Lib.AppendZerosOnto
import Derived.Test.YtabinbmcfeknjaaWWords
import Derived.Test.YtabinbmcfeknjaaWLast
import Derived.Test.YtabinbmcfeknjaaWTab
import Derived.Test.YtabinbmcfeknjaaWQPut
import Derived.Test.YtabinbmcfeknjaaWApart
import Derived.Test.YtabinbmcfeknjaaWArr
import Derived.Test.YtabinbmcfeknjaaWZeros
import Derived.Test.YtabinbmcfeknjaaWFoot
import Derived.Test.YtabinbmcfeknjaaWKept
import Derived.Test.YtabinbmcfeknjaaWShare
import Derived.Test.YtabinbmcfeknjaaWN
import Derived.Test.YtabinbmcfeknjaaWFootNe
import Derived.Test.YtabinbmcfeknjaaWAt
import Derived.Test.YtabinbmcfeknjaaWRepsOne
import Derived.Test.YtabinbmcfeknjaaWInv
import Derived.Test.YtabinbmcfeknjaaWNEv
import Derived.Test.YtabinbmcfeknjaaWMore
namespace Go.Proofs.Ytabinbmcfeknjaa.PFnExactUndoRun
open Go.RowKit Go.Proofs.YtabinbmcfeknjaaW.PrintWords Go.Proofs.YtabinbmcfeknjaaW.PrintLast Go.Proofs.YtabinbmcfeknjaaW.PrintMore
attribute [local go_sem] max2_int min2_int max_two min_two max_three min_three max_four min_four   -- for this text's walks alone
set_option linter.unusedVariables false
set_option linter.unusedSimpArgs false   -- squeezed



def errW : Option Int → Value
 | none => .nilIface
 | some c => .iface 0 (.int .i64 c)
theorem errW_none : errW none = .nilIface := rfl
theorem errW_some (c : Int) : errW (some c) = .iface 0 (.int .i64 c) := rfl

/-- The cells of a variable of several cells, from the j-th on, at an address, as the walk spells a field's address. -/
def cellAt (p : Addr) : Nat → Addr
 | 0 => p
 | j + 1 => ⟨p.block, p.off + (j + 1), none⟩
def AtP (w : World) (p : Addr) : Nat → List Value → Prop
 | _, [] => True
 | j, c :: cs => w.cell? (cellAt p j) = some c ∧ AtP w p (j + 1) cs
theorem AtP.below {w w1 : World} {p : Addr} : ∀ {cs : List Value} {j : Nat}, Below w.heap.size w w1 → AtP w p j cs → AtP w1 p j cs
 | [], _, _, _ => trivial
 | _ :: _, _, hb, h => ⟨pw_cell_below hb h.1, AtP.below hb h.2⟩
theorem AtP.drewN {w : World} {p : Addr} (n : Nat) : ∀ {cs : List Value} {j : Nat}, AtP w p j cs → AtP (w.drewN n) p j cs
 | [], _, _ => trivial
 | _ :: _, _, h => ⟨h.1, AtP.drewN n h.2⟩
theorem AtP.drew {w : World} {p : Addr} : ∀ {cs : List Value} {j : Nat}, AtP w p j cs → AtP w.drew p j cs
 | [], _, _ => trivial
 | _ :: _, _, h => ⟨h.1, AtP.drew h.2⟩
theorem AtP.of_list {w : World} {g : Nat} : ∀ {cs : List Value} {j : Nat}, (∀ i u, cs[i]? = some u → w.cell? ⟨g, j + i, none⟩ = some u) → AtP w ⟨g, 0, none⟩ j cs
 | [], _, _ => trivial
 | c :: cs, j, h => ⟨by
   have h0 := h 0 c rfl
   cases j with
   | zero => exact h0
   | succ j => show w.cell? ⟨g, 0 + (j + 1), none⟩ = some c; rw [Nat.zero_add]; exact h0, AtP.of_list fun i u hu => by
   have h1 := h (i + 1) u hu
   rwa [Nat.add_assoc, Nat.add_comm 1 i]⟩
theorem AtP.of_blk {w : World} {g t : Nat} {cs : Array Value} (h : w.heap[g]? = some (.cells cs t (0, 0))) : AtP w ⟨g, 0, none⟩ 0 cs.toList :=
 AtP.of_list fun i u hu => by
  rw [Nat.zero_add, blk_cell h i, ← Array.getElem?_toList]
  exact hu
/-- A block is the same in a later world: drawn orders and new blocks. -/
def SameBlk (w w' : World) (g : Nat) : Prop := ∀ o : Obj, w.heap[g]? = some o → w'.heap[g]? = some o
theorem SameBlk.refl (w : World) (g : Nat) : SameBlk w w g := fun _ h => h
theorem SameBlk.drewN {w w' : World} {g : Nat} (h : SameBlk w w' g) (n : Nat) : SameBlk w (w'.drewN n) g := h
theorem SameBlk.drew {w w' : World} {g : Nat} (h : SameBlk w w' g) : SameBlk w w'.drew g := h
theorem SameBlk.alloc {w w' : World} {g : Nat} (h : SameBlk w w' g) (o' : Obj) : SameBlk w (w'.alloc o') g := fun o ho => blk_alloc (h o ho) o'
theorem pk {w w' : World} {g : Nat} {o : Obj} (h : w.heap[g]? = some o) (e : SameBlk w w' g := by (with_reducible repeat (first | refine SameBlk.drewN ?_ _ | refine SameBlk.drew ?_ | refine SameBlk.alloc ?_ _)); exact SameBlk.refl _ _) : w'.heap[g]? = some o := e o h
theorem am {p : Prop} (h : p) : Aside0 p := ⟨h⟩
def LaterB (w w1 w2 : World) : Prop := Below w.heap.size w w1 → Below w.heap.size w w2
theorem LaterB.refl (w w1 : World) : LaterB w w1 w1 := fun h => h
theorem LaterB.alloc {w w1 w2 : World} (h : LaterB w w1 w2) (o : Obj) : LaterB w w1 (w2.alloc o) := fun k => below_alloc (h k) o
theorem LaterB.drewN {w w1 w2 : World} (h : LaterB w w1 w2) (n : Nat) : LaterB w w1 (w2.drewN n) := fun k => pw_below_drewN (h k) n
theorem LaterB.drew {w w1 w2 : World} (h : LaterB w w1 w2) : LaterB w w1 w2.drew := fun k => below_drew1 (h k)
theorem LaterB.set {w w1 w2 : World} {g j : Nat} {v : Value} (h : LaterB w w1 w2) (hg : Aside0 (w.heap.size ≤ g)) : LaterB w w1 (w2.setCell ⟨g, j, none⟩ v) := fun k => below_set (h k) hg.out
theorem bl {w w1 w2 : World} (h : Below w.heap.size w w1) (e : LaterB w w1 w2 := by (with_reducible repeat (first | refine LaterB.drewN ?_ _ | refine LaterB.drew ?_ | refine LaterB.alloc ?_ _ | refine LaterB.set ?_ (by assumption))); exact LaterB.refl _ _) : Below w.heap.size w w2 := e h
section
variable {P : Program} {ops : Array Oper} {Q : Exit → Act → World → Prop}
theorem gl {rest : List Oper} {oi : Oper} {a : Act} {w : World} (N : Option Tmp) {f : FuncId} {fn : Func} {os_ : Array Operand} {ts : Array TypeId} (hf : P.funcs[f]? = some fn) (args : Array Value)
  (h : Calls P f args w fun e w' => ∃ v, e = .returned v ∧ wpList P ops Q rest (a.put N v) w') (hd : oi.dst = N := by rfl) (hg : oi.guard = none := by rfl) (hname : (fn.name == "runtime.NumGoroutine") = false := by kernel_rfl) (hb : fn.body.isSome = true := by rfl)
  (hop : oi.op = .call { callee := .value (.func f), args := os_, argTypes := ts } := by rfl) (hargs : os_.map a.eval = args := by (try simp only [List.map_toArray, List.map_cons, List.map_nil]); first | done | rfl | (simp only [List.length_drop, List.length_take]; rfl)) : wpList P ops Q (oi :: rest) a w :=
 goesL_ N hd hg hf hname hb args hop hargs h
end
theorem sa_ {α : Type} (l : List α) (i : Nat) (a : α) : l.toArray.setIfInBounds i a = (l.set i a).toArray := List.setIfInBounds_toArray l i a
theorem s0_ {α : Type} (x : α) (xs : List α) (a : α) : (x :: xs).set 0 a = a :: xs := List.set_cons_zero
theorem ss_ {α : Type} (x : α) (xs : List α) (n : Nat) (a : α) : (x :: xs).set (n + 1) a = x :: xs.set n a := List.set_cons_succ
theorem pu_ {P : Program} {ops : Array Oper} {Q : Exit → Act → World → Prop} {md : Region.Mode} {S : World → Prop} {ds : List Nat} {T : Bool × List (List Nat × List Nat)} {oi : Oper} {fuel : Nat} {l : Array Bool} {a : Act} {w : World} (i : Nat) (N : Option Tmp) (v : Value) (l' : Array Bool) (hi : ops[i]? = some oi) (hN : oi.dst = N) (hT : rtab md ops = T) (h1 : anyT T l.toList l'.toList i = true)
  (hQ : ∀ c a w, Q (.panic c) (a.put oi.dst v) w → Q (.panic c) a w) (hy : Yields P ops oi v a) (a' : Act) (ha : a.put N v = a')
  (h : wpAnyLast P md ops Q S ds fuel l' a' w) : wpAnyLast P md ops Q S ds (fuel + 1) l a w := pure_ l' hi hN (any_of hT h1) hQ hy ha h
theorem tk_ {P : Program} {ops : Array Oper} {Q : Exit → Act → World → Prop} {md : Region.Mode} {S : World → Prop} {ds : List Nat} {T : Bool × List (List Nat × List Nat)} {B : List Nat} {oi : Oper} {fuel : Nat} {l : Array Bool} {a : Act} {w : World} (i : Nat) (N : Option Tmp) (v : Value) (l' : Array Bool) (hi : ops[i]? = some oi) (hN : oi.dst = N) (hT : rtab md ops = T) (hB : waitsOk T.2 B = true) (h1 : takeW T B ds l.toList l'.toList i = true)
  (hQ : ∀ c a w, Q (.panic c) (a.put oi.dst v) w → Q (.panic c) a w) (hy : YieldsIf P ops S oi v a) (hS : S w) (a' : Act) (ha : a.put N v = a')
  (h : wpAnyLast P md ops Q S ds fuel l' a' w) : wpAnyLast P md ops Q S ds (fuel + 1) l a w := take_ l' hi hN (take_ofW hT hB h1) hQ hy hS ha h
def br : Bool → List Nat → List Bool
 | _, [] => []
 | b, n :: l => List.replicate n b ++ br (!b) l
/-- A call of a closure that is known: what it has caught stands behind its arguments. -/
theorem goesC_ {P : Program} {ops : Array Oper} {Q : Exit → Act → World → Prop} {oi : Oper} {N : Option Tmp} {a : Act} {w : World} {K : Act → World → Prop} {f : FuncId} {fn : Func} {x : Operand} {az : Array Operand} {ts : Array TypeId} {caps : Array Value} (hf : P.funcs[f]? = some fn) (hname : (fn.name == "runtime.NumGoroutine") = false) (hb : fn.body.isSome = true) (args : Array Value)
  (hw : Region.wanted oi (yielded ops a.tmps) = true) (hN : oi.dst = N) (hop : oi.op = .call { callee := .value x, args := az, argTypes := ts }) (hx : a.eval x = .func (.func f) #[] caps) (hargs : az.map a.eval ++ caps = args)
  (h : Calls P f args w fun e w' => ∃ v, e = .returned v ∧ K (a.put N v) w') : if Region.wanted oi (yielded ops a.tmps) = true then Oper.wp P oi a w K Q else K (a.put N undef) w := by
 refine call_ f args hw hN ?_ h
 have he := enters_ hf hname hb args w
 unfold execOp
 simp [hop, resolve, Deferred.ofValue, invoke, hx, hargs, he]
theorem kr {α : Type} {d : Kd α} {e base : Nat} {w w1 : World} {ok : Nat → Prop} {v : Value} {xs : List α} (h : Kd.R d e w base ok v xs) (s : Below w.heap.size w w1 := by (with_reducible repeat (first | apply below_alloc | apply pw_below_drewN | apply below_drew1)); exact Below.refl _ _) : Kd.R d e w1 base ok v xs := Kd.R_below h s
theorem ks {α : Type} {d : Kd α} {e base : Nat} {w w1 : World} {ok : Nat → Prop} {v : Value} {xs : List α} (h : Kd.S d e w base ok v xs) (s : Below w.heap.size w w1 := by (with_reducible repeat (first | apply below_alloc | apply pw_below_drewN | apply below_drew1)); exact Below.refl _ _) : Kd.S d e w1 base ok v xs := Kd.S_below h s
theorem bc {w : World} {g : Nat} {t : TypeId} {cs : Array Value} {v : Value} (h : w.heap[g]? = some (.cells cs t (0, 0))) (i : Nat) (hv : cs[i]? = some v := by rfl) : w.cell? ⟨g, i, none⟩ = some v := (blk_cell h i).trans hv
theorem gs_ {P : Program} {ops : Array Oper} {Q : Exit → Act → World → Prop} {oi : Oper} {N : Option Tmp} {a : Act} {w : World} {K : Act → World → Prop} {f : FuncId} {fn : Func} {os_ : Array Operand} {ts : Array TypeId} (hf : P.funcs[f]? = some fn) (args : Array Value)
  (h : Calls P f args w fun e w' => ∃ v, e = .returned v ∧ K (a.put N v) w') (hname : (fn.name == "runtime.NumGoroutine") = false := by kernel_rfl) (hb : fn.body.isSome = true := by rfl) (hw : Region.wanted oi (yielded ops a.tmps) = true := by rfl) (hN : oi.dst = N := by rfl)
  (hop : oi.op = .call { callee := .value (.func f), args := os_, argTypes := ts } := by rfl) (hargs : os_.map a.eval = args := by (try simp only [List.map_toArray, List.map_cons, List.map_nil]); first | done | rfl | (simp only [List.length_drop, List.length_take]; rfl)) : if Region.wanted oi (yielded ops a.tmps) = true then Oper.wp P oi a w K Q else K (a.put N undef) w :=
 goes_ hf hname hb args hw hN hop hargs h
/-! Rows whose elements' inner rows lie apart (as S), and that may begin inside their block (as Q). -/
def Kd.T {α : Type} (d : Kd α) (e : Nat) (w : World) (base : Nat) (ok : Nat → Prop) (v : Value) (xs : List α) : Prop := ∃ f, (Kd.tag f d).Q e w base ok v xs.zipIdx
def Kd.HT {α : Type} (d : Kd α) (e : Nat) (w : World) (base : Nat) (ok : Nat → Prop) (v : Value) (xs : List α) (i : Int) (oki : Nat → Prop) (c : List Value) : Prop :=
 (∀ k, oki k → ok k) ∧ ∃ f, (Kd.gap f d i.toNat c).Q e w base (fun k => ok k ∧ ¬ oki k) v xs.zipIdx
section
variable {α β : Type} {d : Kd α} {d' : Kd β} {e e' g o n cap : Nat} {w w1 W W2 : World} {base b : Nat} {ok ok' okv oku oki okp S : Nat → Prop} {u v : Value} {xs : List α} {ys : List β} {i : Int} {c : List Value}
theorem Kd.T_of_S (h : Kd.S d e w base ok v xs) : Kd.T d e w base ok v xs := by
 obtain ⟨f, h⟩ := h
 exact ⟨f, Kd.Q_of_R h⟩
theorem Kd.T_Q (h : Kd.T d e w base ok v xs) : d.Q e w base ok v xs := by
 obtain ⟨f, h0, inner, ho, hr⟩ := h
 rw [List.length_zipIdx] at ho
 exact ⟨h0, inner, ho, by have := hr.1; rw [List.length_zipIdx] at this; exact this, fun j p hj => d.M_mono (fun _ hk => hk.1) (hr.2 j (p, j) (Kd.zip_at hj))⟩
theorem Kd.T_nil (d : Kd α) (e : Nat) (w : World) (base : Nat) (ok : Nat → Prop) : Kd.T d e w base ok (.slice none 0 0) [] := ⟨fun _ => 0, Kd.Q_nil _ _ _ _ _⟩
theorem Kd.T_mono (h : Kd.T d e w base ok v xs) (hok : ∀ k, ok k → ok' k) : Kd.T d e w base ok' v xs := by
 obtain ⟨f, h⟩ := h
 exact ⟨f, Kd.Q_mono h hok⟩
theorem Kd.T_bound (h : Kd.T d e w base ok v xs) : Kd.T d e w base (fun k => ok k ∧ base ≤ k ∧ k < w.heap.size ∧ ∃ q, q ∈ e :: d.E ∧ ∃ cells, w.heap[k]? = some (.cells cells q (0, 0))) v xs := by
 obtain ⟨f, h⟩ := h
 exact ⟨f, Kd.Q_bound h⟩
theorem Kd.T_move (h : Kd.T d e w base ok v xs) (hm : ∀ k, ok k → w1.heap[k]? = w.heap[k]?) : Kd.T d e w1 base ok v xs := by
 obtain ⟨f, h⟩ := h
 exact ⟨f, Kd.Q_move h hm⟩
theorem Kd.T_lower {base' : Nat} (h : Kd.T d e w base ok v xs) (hb : base' ≤ base) : Kd.T d e w base' ok v xs := by
 obtain ⟨f, h⟩ := h
 exact ⟨f, Kd.Q_lower h hb⟩
theorem Kd.T_step (h : Kd.T d e w base ok v xs) (hm : ∀ k, ok k → k < w.heap.size → w1.heap[k]? = w.heap[k]?) : Kd.T d e w1 base ok v xs :=
 Kd.T_mono (Kd.T_move (Kd.T_bound h) (fun k hk => hm k hk.1 hk.2.2.1)) (fun _ hk => hk.1)
theorem Kd.T_below (h : Kd.T d e w base ok v xs) (hb : Below w.heap.size w w1) : Kd.T d e w1 base ok v xs := Kd.T_step h (fun k _ hk => hb.block k hk)
theorem Kd.T_alloc (h : Kd.T d e w base ok v xs) (o : Obj) : Kd.T d e (w.alloc o) base ok v xs := Kd.T_below h (below_alloc (Below.refl _ _) o)
theorem Kd.T_drew (h : Kd.T d e w base ok v xs) : Kd.T d e w.drew base ok v xs := Kd.T_below h (below_drew (Below.refl _ _))
theorem Kd.T_drewN (h : Kd.T d e w base ok v xs) (m : Nat) : Kd.T d e (w.drewN m) base ok v xs := Kd.T_below h (pw_below_drewN (Below.refl _ _) m)
theorem Kd.T_far (h : Kd.T d e w base ok v xs) {p : Addr} (hok : ∀ k, ok k → k ≠ p.block) (u : Value) : Kd.T d e (w.setCell p u) base ok v xs := Kd.T_step h (fun k ho _ => Below.heap_setCell w p u k (hok k ho))
theorem Kd.T_kept (h : Kd.T d e W base ok v xs) (hk : Kept W W2 S) (hne : ∀ k, ok k → ¬ S k) : Kd.T d e W2 base ok v xs := Kd.T_step h (fun k ho hlt => hk.2 k hlt (hne k ho))
theorem Kd.T_types (h : Kd.T d e w base ok v xs) {g t : Nat} {cells : Array Value} (hb : w.heap[g]? = some (.cells cells t (0, 0))) (ht : ∀ q, q ∈ e :: d.E → q ≠ t) : Kd.T d e w base (fun k => ok k ∧ k ≠ g) v xs := by
 obtain ⟨f, h⟩ := h
 exact ⟨f, Kd.Q_types h hb ht⟩
theorem Kd.T_base (h : Kd.T d e w base ok v xs) : ∀ k, v.ownBlock = some k → base ≤ k := Kd.Q_base (Kd.T_Q h)
theorem Kd.T_elder' (h : Kd.T d e W base ok u xs) (hbase : ∀ k, v.ownBlock = some k → W.heap.size ≤ k) (hb : Below W.heap.size W w1) : Kd.T d e w1 base (fun k => ok k ∧ some k ≠ v.ownBlock) u xs := by
 obtain ⟨f, h⟩ := h
 exact ⟨f, Kd.Q_elder' h hbase hb⟩
theorem Kd.T_slice (h : Kd.T d e w base ok v xs) : ∃ A c, v = .slice A xs.length c ∧ xs.length ≤ c := Kd.Q_slice (Kd.T_Q h)
theorem Kd.T_form (h : Kd.T d e w base ok v xs) (hp : 0 < xs.length) : ∃ g o cap, v = .slice (some ⟨g, o, none⟩) xs.length cap ∧ base ≤ g ∧ g < w.heap.size ∧ ∃ cells, w.heap[g]? = some (.cells cells e (0, 0)) := Kd.Q_form (Kd.T_Q h) hp
theorem Kd.T_reads' {A : Option Addr} {n c : Nat} (h : Kd.T d e w base ok (.slice A n c) xs) : n = xs.length ∧ n ≤ c ∧ d.C w A xs.length xs := Kd.Q_reads' (Kd.T_Q h)
theorem Kd.T_drop {A : Option Addr} {k n c : Nat} (h : Kd.T d e w base ok (.slice A n c) xs) (hk : k ≤ xs.length) : Kd.T d e w base ok (.slice (if c = k then A else A.map (·.add (k * d.sz))) (n - k) (c - k)) (xs.drop k) := by
 obtain ⟨f, h⟩ := h
 obtain ⟨h0, inner, ho, hr⟩ := Kd.Q_drop h (k := k) (by rw [List.length_zipIdx]; exact hk)
 have hl : (xs.zipIdx.drop k).length = (xs.drop k).length := by simp only [List.length_drop, List.length_zipIdx]
 rw [hl] at ho
 refine ⟨fun b => f b - k, h0, inner, by rw [List.length_zipIdx]; exact ho, by rw [List.length_zipIdx, ← hl]; exact hr.1, fun j p hj => ?_⟩
 rw [List.getElem?_zipIdx, Nat.zero_add] at hj
 obtain ⟨x, hx, rfl⟩ := Option.map_eq_some_iff.1 hj
 rw [List.getElem?_drop] at hx
 refine d.M_mono (fun b hb => ⟨hb.1, ?_⟩) (hr.2 j (x, k + j) (by rw [List.getElem?_drop]; exact Kd.zip_at hx))
 have h2 : f b = k + j := hb.2
 show f b - k = j
 omega
/-- Element i, lent: its cells, its blocks, and the row without it. -/
theorem Kd.T_elem (h : Kd.T d e W base ok (.slice (some ⟨g, o, none⟩) n cap) xs) (z : α) (i : Int) (h0 : 0 ≤ i) (h1 : i < n) :
  ∃ (oki : Nat → Prop) (c : List Value), c.length = d.sz ∧ d.M W base oki (xs.getD i.toNat z) c ∧ (∀ j u, c[j]? = some u → W.cell? ⟨g, o + i.toNat * d.sz + j, none⟩ = some u) ∧ (∀ j, W.frozen? ⟨g, o + i.toNat * d.sz + j, none⟩ = false) ∧ (∀ k, oki k → ok k ∧ k ≠ g) ∧ Kd.HT d e W base ok (.slice (some ⟨g, o, none⟩) n cap) xs i oki c := by
 obtain ⟨f, hR⟩ := h
 have hn := (Kd.Q_reads' hR).1
 rw [List.length_zipIdx] at hn
 have hgo : some g = (Value.slice (some ⟨g, o, none⟩) n cap).ownBlock := by simp [Value.ownBlock]
 obtain ⟨hok0, inner, ho, hr⟩ := hR
 have hil : i.toNat < xs.length := by omega
 have hlen : inner.length = xs.length * d.sz := by have := hr.1; rw [List.length_zipIdx] at this; exact this
 have hseg : i.toNat * d.sz + d.sz ≤ inner.length := by rw [hlen, ← Nat.succ_mul]; exact Nat.mul_le_mul_right _ hil
 have hM := hr.2 i.toNat _ (Kd.zip_at (List.getElem?_eq_getElem hil))
 have hkg : ∀ k, some k ≠ (Value.slice (some ⟨g, o, none⟩) n cap).ownBlock → k ≠ g := fun k hk he => hk (by rw [he]; exact hgo)
 refine ⟨fun k => (ok k ∧ k ≠ g) ∧ f k = i.toNat, (inner.drop (i.toNat * d.sz)).take d.sz, by rw [List.length_take, List.length_drop]; omega, ?_, fun j u hu => ?_, fun j => ?_, fun k hk => hk.1, fun k hk => hk.1.1, f, fun k hk => ⟨hok0 k hk, fun h2 => h2.1.2 ?_⟩, inner, ho, hr.1, fun m p hm => ?_⟩
 ·rw [List.getD_eq_getElem?_getD, List.getElem?_eq_getElem hil]
  exact d.M_mono (fun k hk => ⟨⟨hk.1.1, hkg k hk.1.2⟩, hk.2⟩) hM
 ·rw [List.getElem?_take] at hu
  split at hu
  ·rw [List.getElem?_drop] at hu
   rw [List.length_zipIdx] at ho
   subst hn
   obtain ⟨ad, he, hc⟩ := q_cells ho (by omega)
   injection he with he
   subst he
   have := hc _ u hu
   rwa [add_at, ← Nat.add_assoc] at this
  ·cases hu
 ·obtain ⟨_, cells, hc⟩ := q_typed ho g (by simp [Value.ownBlock])
  exact blk_frozen hc _
 ·rw [← hgo] at hk; injection hk with hk; exact hk.symm
 ·have hold := hr.2 m p hm
  have hp2 : p.2 = m := by
   rw [List.getElem?_zipIdx, Nat.zero_add] at hm
   obtain ⟨q, _, rfl⟩ := Option.map_eq_some_iff.1 hm
   rfl
  refine ⟨fun hx => ?_, fun hx => d.M_mono (fun k hk => ⟨⟨⟨hk.1.1, fun h2 => hx ?_⟩, hk.1.2⟩, hk.2⟩) hold⟩
  ·have hmi : m = i.toNat := by omega
   subst hmi
   exact ⟨rfl, d.K_len (d.K_of_M hM), d.K_one (d.K_of_M hM)⟩
  ·rw [← hk.2]; exact h2.2
open Classical in
theorem Kd.HT_back (h : Kd.HT d e w base ok v xs i oki c) {x' : α} (hM : d.M w base okp x' c) (hok : ∀ k, okp k → oki k) : Kd.T d e w base ok v (xs.set i.toNat x') := by
 obtain ⟨ho, f, h0, inner, hown, hr⟩ := h
 refine ⟨fun k => if oki k then i.toNat else f k, fun k hk => (h0 k hk).1, inner, by rw [List.length_zipIdx, List.length_set]; rw [List.length_zipIdx] at hown; exact hown, by have := hr.1; rw [List.length_zipIdx] at this; rw [List.length_zipIdx, List.length_set]; exact this, fun m p hm => ?_⟩
 rw [List.getElem?_zipIdx, Nat.zero_add] at hm
 obtain ⟨q, hq, rfl⟩ := Option.map_eq_some_iff.1 hm
 have hml : m < xs.length := by
  have := (List.getElem?_eq_some_iff.1 hq).1
  rwa [List.length_set] at this
 by_cases hmi : m = i.toNat
 ·subst hmi
  rw [List.getElem?_set_self hml] at hq
  injection hq with hq
  subst hq
  have hc := ((hr.2 i.toNat _ (Kd.zip_at (List.getElem?_eq_getElem hml))).1 rfl).1
  show d.M w base _ x' ((inner.drop (i.toNat * d.sz)).take d.sz)
  rw [show (inner.drop (i.toNat * d.sz)).take d.sz = c from hc]
  exact d.M_mono (fun k hk => ⟨⟨ho k (hok k hk), fun he => (h0 k he.symm).2 (hok k hk)⟩, if_pos (hok k hk)⟩) hM
 ·rw [List.getElem?_set_ne (Ne.symm hmi)] at hq
  exact d.M_mono (fun k hk => ⟨⟨hk.1.1.1, hk.1.2⟩, (if_neg hk.1.1.2).trans hk.2⟩) ((hr.2 m (q, m) (Kd.zip_at hq)).2 hmi)
theorem Kd.HT_step (h : Kd.HT d e w base ok v xs i oki c) (hm : ∀ k, ok k → ¬ oki k → k < w.heap.size → w1.heap[k]? = w.heap[k]?) : Kd.HT d e w1 base ok v xs i oki c := by
 obtain ⟨ho, f, h⟩ := h
 exact ⟨ho, f, Kd.Q_step h (fun k hk hlt => hm k hk.1 hk.2 hlt)⟩
theorem Kd.HT_below (h : Kd.HT d e w base ok v xs i oki c) (hb : Below w.heap.size w w1) : Kd.HT d e w1 base ok v xs i oki c := Kd.HT_step h (fun k _ _ hlt => hb.block k hlt)
theorem Kd.HT_alloc (h : Kd.HT d e w base ok v xs i oki c) (o : Obj) : Kd.HT d e (w.alloc o) base ok v xs i oki c := Kd.HT_below h (below_alloc (Below.refl _ _) o)
theorem Kd.HT_drew (h : Kd.HT d e w base ok v xs i oki c) : Kd.HT d e w.drew base ok v xs i oki c := Kd.HT_below h (below_drew (Below.refl _ _))
theorem Kd.HT_drewN (h : Kd.HT d e w base ok v xs i oki c) (m : Nat) : Kd.HT d e (w.drewN m) base ok v xs i oki c := Kd.HT_below h (pw_below_drewN (Below.refl _ _) m)
theorem Kd.T_newB {o : Obj} (h : Kd.T d e w1 w.heap.size ok v xs) (hb : w.heap[g]? = some o) : Kd.T d e w1 w.heap.size (fun k => ok k ∧ k ≠ g) v xs := Kd.T_mono (Kd.T_bound h) (fun k hk => ⟨hk.1, by have := blk_lt hb; have := hk.2.1; omega⟩)
theorem Kd.T_new' (h : Kd.T d e w1 W.heap.size ok v xs) (hlt : ∀ k, u.ownBlock = some k → k < W.heap.size) : Kd.T d e w1 W.heap.size (fun k => ok k ∧ some k ≠ u.ownBlock) v xs := Kd.T_mono (Kd.T_bound h) (fun k hk => ⟨hk.1, fun e_ => by have := hlt k e_.symm; have := hk.2.1; omega⟩)
theorem Kd.T_put (h : Kd.T d e W base ok (.slice (some ⟨g, o, none⟩) n cap) xs) (z : α) (i : Int) (h0 : 0 ≤ i) (h1 : i < n) {seg : List Value} {j : Nat} (hj : j + seg.length ≤ d.sz) {x' : α}
  (hM : ∀ (okp : Nat → Prop) (c : List Value), d.M W base okp (xs.getD i.toNat z) c → d.M W base okp x' (c.take j ++ seg ++ c.drop (j + seg.length))) :
  Kd.T d e (W.setCells g (o + i.toNat * d.sz + j) seg) base ok (.slice (some ⟨g, o, none⟩) n cap) (xs.set i.toNat x') ∧ W.grownBy (W.setCells g (o + i.toNat * d.sz + j) seg) (some g) := by
 obtain ⟨f, hQ⟩ := h
 have hn := (Kd.Q_reads' hQ).1
 rw [List.length_zipIdx] at hn
 have hil : i.toNat < xs.length := by omega
 obtain ⟨c, hcl, hMc, hcc, _⟩ := Kd.Q_elem hQ (z, 0) i h0 h1
 have hg : xs.zipIdx.getD i.toNat (z, 0) = (xs.getD i.toNat z, i.toNat) := by
  rw [List.getD_eq_getElem?_getD, Kd.zip_at (List.getElem?_eq_getElem hil), List.getD_eq_getElem?_getD, List.getElem?_eq_getElem hil]
  rfl
 rw [hg] at hMc
 have hs : xs.zipIdx.set i.toNat (x', i.toNat) = (xs.set i.toNat x').zipIdx := by
  apply List.ext_getElem?
  intro m
  rw [List.getElem?_zipIdx, Nat.zero_add, List.getElem?_set, List.getElem?_set, List.getElem?_zipIdx, Nat.zero_add, List.length_zipIdx]
  by_cases hm : i.toNat = m
  ·subst hm
   simp [hil]
  ·simp [hm]
 have h2 := Kd.Q_seg hQ i h0 h1 hcl hcc hj (x' := (x', i.toNat)) (okp := fun k => ok k ∧ k ≠ g) (hM _ c hMc) (fun _ hk => hk)
 rw [hs] at h2
 exact ⟨⟨f, h2.1⟩, h2.2⟩
end
section
variable {P : Program} {ops : Array Oper} {rest : List Oper} {o : Oper} {a : Act} {Q : Exit → Act → World → Prop} {Kc : Act → World → Prop} {α : Type}
end
/-! ### what lives: facts, each over a range of blocks of its own -/
/-- A fact that hangs on the blocks from a up to b alone (n: where the call's own blocks begin). -/
structure Ent where
 P : Nat → Nat → Nat → World → Prop
 loc : ∀ {n a b : Nat} {w w1 : World}, (∀ k, a ≤ k → k < b → w1.heap[k]? = w.heap[k]?) → P n a b w → P n a b w1
 low : ∀ {n n' a b : Nat} {w : World}, n' ≤ n → P n a b w → P n' a b w
def Ent.box (g : Nat) (cs : Array Value) (t : TypeId) : Ent := ⟨fun _ a b w => a ≤ g ∧ g < b ∧ w.heap[g]? = some (.cells cs t (0, 0)), fun h p => ⟨p.1, p.2.1, (h _ p.1 p.2.1).trans p.2.2⟩, fun _ p => p⟩
def Ent.R {α : Type} (d : Kd α) (e : Nat) (v : Value) (xs : List α) : Ent := ⟨fun n a b w => d.R e w n (fun k => a ≤ k ∧ k < b) v xs, fun h p => Kd.R_move p (fun k hk => h k hk.1 hk.2), fun h p => Kd.R_lower p h⟩
def Ent.S {α : Type} (d : Kd α) (e : Nat) (v : Value) (xs : List α) : Ent := ⟨fun n a b w => Kd.S d e w n (fun k => a ≤ k ∧ k < b) v xs, fun h p => Kd.S_move p (fun k hk => h k hk.1 hk.2), fun h p => Kd.S_lower p h⟩
def Ent.T {α : Type} (d : Kd α) (e : Nat) (v : Value) (xs : List α) : Ent := ⟨fun n a b w => Kd.T d e w n (fun k => a ≤ k ∧ k < b) v xs, fun h p => Kd.T_move p (fun k hk => h k hk.1 hk.2), fun h p => Kd.T_lower p h⟩
/-- The facts L hold, each over its own range, all made since w0, all below m. -/
structure Lv (w0 : World) (m : Nat) (L : List Ent) (w : World) : Prop where
 below : Below w0.heap.size w0 w
 top : m ≤ w.heap.size
 base : w0.heap.size ≤ m
 ents : ∃ r : Nat → Nat × Nat, (∀ i e, L[i]? = some e → w0.heap.size ≤ (r i).1 ∧ (r i).2 ≤ m ∧ e.P w0.heap.size (r i).1 (r i).2 w) ∧ ∀ i j, i < L.length → j < L.length → i ≠ j → (r i).2 ≤ (r j).1 ∨ (r j).2 ≤ (r i).1
def Lw (w0 : World) (L : List Ent) (w : World) : Prop := Lv w0 w.heap.size L w
section
variable {α : Type} {d : Kd α} {t g n c m a b : Nat} {w0 w w1 w2 : World} {L L' : List Ent} {e e' : Ent} {v : Value} {xs : List α} {cs cs' : Array Value} {A : Option Addr} {ok : Nat → Prop}
theorem Lw.nil (w : World) : Lw w [] w := ⟨Below.refl _ _, Nat.le_refl _, Nat.le_refl _, fun _ => (0, 0), fun i e h => by simp at h, fun i j h => by simp at h⟩
theorem Lv.on (h : Lv w0 m L w) (hb : Below w.heap.size w w1) : Lv w0 m L w1 := by
 obtain ⟨h1, h2, h0, r, h3, h4⟩ := h
 refine ⟨below_step h1 hb, Nat.le_trans h2 hb.size, h0, r, fun i e he => ?_, h4⟩
 obtain ⟨p1, p2, p3⟩ := h3 i e he
 exact ⟨p1, p2, e.loc (fun k _ hk => hb.block k (by omega)) p3⟩
theorem Lv.cons (h : Lv w0 m L w) (a b : Nat) (ha : m ≤ a) (hab : a ≤ b) (hb : b ≤ w.heap.size) (p : e.P w0.heap.size a b w) : Lv w0 b (e :: L) w := by
 obtain ⟨h1, h2, h0, r, h3, h4⟩ := h
 refine ⟨h1, hb, by omega, fun i => match i with | 0 => (a, b) | i + 1 => r i, fun i e' he => ?_, fun i j hi hj hn => ?_⟩
 ·cases i with
  | zero =>
   obtain rfl : e = e' := by simpa using he
   exact ⟨(by show w0.heap.size ≤ a; omega), Nat.le_refl _, p⟩
  | succ i =>
   obtain ⟨p1, p2, p3⟩ := h3 i e' (by simpa using he)
   exact ⟨p1, Nat.le_trans p2 (by omega), p3⟩
 ·cases i with
  | zero => cases j with
   | zero => omega
   | succ j =>
    have hj' : j < L.length := by simpa using hj
    obtain ⟨p1, p2, p3⟩ := h3 j _ (List.getElem?_eq_getElem hj')
    exact .inr (by show (r j).2 ≤ a; omega)
  | succ i => cases j with
   | zero =>
    have hi' : i < L.length := by simpa using hi
    obtain ⟨p1, p2, p3⟩ := h3 i _ (List.getElem?_eq_getElem hi')
    exact .inl (by show (r i).2 ≤ a; omega)
   | succ j => exact h4 i j (by simpa using hi) (by simpa using hj) (by omega)
theorem Lv.up (h : Lv w0 m L w) : Lw w0 L w := by
 obtain ⟨h1, h2, h0, r, h3, h4⟩ := h
 exact ⟨h1, Nat.le_refl _, by omega, r, fun i e he => ⟨(h3 i e he).1, by have := (h3 i e he).2.1; omega, (h3 i e he).2.2⟩, h4⟩
theorem Lw.step (h : Lw w0 L w) (hb : Below w.heap.size w w1) : Lw w0 L w1 := (Lv.on h hb).up
theorem Lw.drawn (h : Lw w0 L w) (hd : Drawn0 w w1) : Lw w0 L w1 := h.step (Drawn0.below hd)
theorem Lw.bel (h : Lw w0 L w) : Below w0.heap.size w0 w := h.below
theorem Lw.cel {a : Addr} (h : Lw w0 L w) (hx : w0.cell? a = some v) : w.cell? a = some v := (h.below.cell (World.block_lt_of_cell? _ _ hx)).trans hx
theorem Lw.drew (h : Lw w0 L w) : Lw w0 L w.drew := h.step (below_drew1 (Below.refl _ _))
theorem Lw.drewN (h : Lw w0 L w) (n : Nat) : Lw w0 L (w.drewN n) := h.step (pw_below_drewN (Below.refl _ _) n)
theorem pR {n : Nat} (ho : d.R t w1 w.heap.size ok v xs) (h : n ≤ w.heap.size) : (Ent.R d t v xs).P n w.heap.size w1.heap.size w1 := Kd.R_lower (Kd.R_mono (Kd.R_bound ho) (fun _ hk => ⟨hk.2.1, hk.2.2.1⟩)) h
theorem pS {n : Nat} (ho : Kd.S d t w1 w.heap.size ok v xs) (h : n ≤ w.heap.size) : (Ent.S d t v xs).P n w.heap.size w1.heap.size w1 := Kd.S_lower (Kd.S_mono (Kd.S_bound ho) (fun _ hk => ⟨hk.2.1, hk.2.2.1⟩)) h
theorem pT {n : Nat} (ho : Kd.T d t w1 w.heap.size ok v xs) (hn : n ≤ w.heap.size) (hk : ∀ k, ok k → w.heap.size ≤ k → k < w1.heap.size → a ≤ k ∧ k < b) : (Ent.T d t v xs).P n a b w1 := Kd.T_lower (Kd.T_mono (Kd.T_bound ho) (fun k h => hk k h.1 h.2.1 h.2.2.1)) hn
theorem pR' {n : Nat} (ho : d.R t w1 w.heap.size ok v xs) (hn : n ≤ w.heap.size) (hk : ∀ k, ok k → w.heap.size ≤ k → k < w1.heap.size → a ≤ k ∧ k < b) : (Ent.R d t v xs).P n a b w1 := Kd.R_lower (Kd.R_mono (Kd.R_bound ho) (fun k h => hk k h.1 h.2.1 h.2.2.1)) hn
theorem Lw.addR (h : Lw w0 L w) (hb : Below w.heap.size w w1) (ho : d.R t w1 w.heap.size ok v xs) : Lw w0 (Ent.R d t v xs :: L) w1 := (Lv.on h hb).cons w.heap.size w1.heap.size (Nat.le_refl _) hb.size (Nat.le_refl _) (pR ho h.base)
theorem Lw.addS (h : Lw w0 L w) (hb : Below w.heap.size w w1) (ho : Kd.S d t w1 w.heap.size ok v xs) : Lw w0 (Ent.S d t v xs :: L) w1 := (Lv.on h hb).cons w.heap.size w1.heap.size (Nat.le_refl _) hb.size (Nat.le_refl _) (pS ho h.base)
theorem Lw.addT (h : Lw w0 L w) (hb : Below w.heap.size w w1) (ho : Kd.T d t w1 w.heap.size ok v xs) : Lw w0 (Ent.T d t v xs :: L) w1 := (Lv.on h hb).cons w.heap.size w1.heap.size (Nat.le_refl _) hb.size (Nat.le_refl _) (pT ho h.base (fun _ _ h1 h2 => ⟨h1, h2⟩))
theorem Lw.addT0 (h : Lw w0 L w) (hb : Below w.heap.size w w1) (ho : Kd.S d t w1 w.heap.size ok v xs) : Lw w0 (Ent.T d t v xs :: L) w1 := h.addT hb (Kd.T_of_S ho)
theorem Lw.addBox (h : Lw w0 L w) (hg : g = w.heap.size) (ho : w1.heap[g]? = some (.cells cs t (0, 0))) (hb : Below w.heap.size w w1) : Lw w0 (Ent.box g cs t :: L) w1 := by
 refine (Lv.on h hb).cons w.heap.size w1.heap.size (Nat.le_refl _) hb.size (Nat.le_refl _) ⟨by omega, ?_, ho⟩
 exact (Array.getElem?_eq_some_iff.1 ho).1
theorem Lv.get (h : Lv w0 m L w) (i : Nat) (hi : L[i]? = some e := by rfl) : ∃ a b, w0.heap.size ≤ a ∧ b ≤ m ∧ e.P w0.heap.size a b w := by
 obtain ⟨_, _, _, r, h3, _⟩ := h
 obtain ⟨p1, p2, p3⟩ := h3 i e hi
 exact ⟨_, _, p1, p2, p3⟩
theorem Lw.bx (h : Lw w0 L w) (i : Nat) (hi : L[i]? = some (.box g cs t) := by rfl) : w.heap[g]? = some (.cells cs t (0, 0)) := by
 obtain ⟨_, _, _, _, _, _, p⟩ := Lv.get h i hi
 exact p
theorem Lw.gR (h : Lw w0 L w) (i : Nat) (hi : L[i]? = some (.R d t v xs) := by rfl) : d.R t w w0.heap.size (fun _ => True) v xs := by
 obtain ⟨_, _, _, _, p⟩ := Lv.get h i hi
 exact Kd.R_mono p (fun _ _ => trivial)
theorem Lw.gT (h : Lw w0 L w) (i : Nat) (hi : L[i]? = some (.T d t v xs) := by rfl) : Kd.T d t w w0.heap.size (fun _ => True) v xs := by
 obtain ⟨_, _, _, _, p⟩ := Lv.get h i hi
 exact Kd.T_mono p (fun _ _ => trivial)
theorem Lw.rR (h : Lw w0 L w) (i : Nat) (hi : L[i]? = some (.R d t (.slice A n c) xs) := by rfl) : d.C w A xs.length xs := (Kd.R_reads' (Lw.gR h i hi)).2.2
theorem Lw.cR (h : Lw w0 L w) (i : Nat) (hi : L[i]? = some (.R d t (.slice A n c) xs) := by rfl) : xs.length ≤ c := by
 have p := Kd.R_reads' (Lw.gR h i hi)
 omega
theorem Lw.rT (h : Lw w0 L w) (i : Nat) (hi : L[i]? = some (.T d t (.slice A n c) xs) := by rfl) : d.C w A xs.length xs := (Kd.T_reads' (Lw.gT h i hi)).2.2
theorem Lw.cT (h : Lw w0 L w) (i : Nat) (hi : L[i]? = some (.T d t (.slice A n c) xs) := by rfl) : xs.length ≤ c := by
 have p := Kd.T_reads' (Lw.gT h i hi)
 omega
theorem Lw.gS (h : Lw w0 L w) (i : Nat) (hi : L[i]? = some (.S d t v xs) := by rfl) : Kd.S d t w w0.heap.size (fun _ => True) v xs := by
 obtain ⟨_, _, _, _, p⟩ := Lv.get h i hi
 exact Kd.S_mono p (fun _ _ => trivial)
theorem Lw.rS (h : Lw w0 L w) (i : Nat) (hi : L[i]? = some (.S d t (.slice A n c) xs) := by rfl) : d.C w A xs.length xs := (Kd.R_reads' (Kd.S_R (Lw.gS h i hi))).2.2
theorem Lw.cS (h : Lw w0 L w) (i : Nat) (hi : L[i]? = some (.S d t (.slice A n c) xs) := by rfl) : xs.length ≤ c := by
 have p := Kd.R_reads' (Kd.S_R (Lw.gS h i hi))
 omega
/-- One fact turned; what lies outside its range is as it was. -/
theorem Lv.turn (h : Lv w0 m L w) (i : Nat) (hi : L[i]? = some e) (hs : w.heap.size ≤ w1.heap.size)
  (hb : Below w0.heap.size w0 w1) (hp : ∀ a b, w0.heap.size ≤ a → b ≤ m → e.P w0.heap.size a b w → e'.P w0.heap.size a b w1 ∧ ∀ k, k < w.heap.size → ¬ (a ≤ k ∧ k < b) → w1.heap[k]? = w.heap[k]?) (hL : L.set i e' = L') : Lv w0 m L' w1 := by
 subst hL
 obtain ⟨h1, h2, h0, r, h3, h4⟩ := h
 obtain ⟨p1, p2, p3⟩ := h3 i e hi
 obtain ⟨q1, q2⟩ := hp _ _ p1 p2 p3
 have hil : i < L.length := (List.getElem?_eq_some_iff.1 hi).1
 refine ⟨hb, by omega, h0, r, fun j e2 he => ?_, by simpa using h4⟩
 by_cases hj : i = j
 ·subst hj
  rw [List.getElem?_set_self hil] at he
  obtain rfl := Option.some.inj he
  exact ⟨p1, p2, q1⟩
 ·rw [List.getElem?_set_ne hj] at he
  obtain ⟨u1, u2, u3⟩ := h3 j e2 he
  have hjl : j < L.length := (List.getElem?_eq_some_iff.1 he).1
  refine ⟨u1, u2, e2.loc (fun k ha hk => q2 k (by omega) (fun hh => ?_)) u3⟩
  rcases h4 i j hil hjl hj with h5 | h5 <;> omega
/-- One fact, or three, lent out: what is kept beside their ranges keeps all the others. -/
theorem Lw.open1 (h : Lw w0 L w) (i : Nat) {e : Ent} (hi : L[i]? = some e := by rfl) : ∃ a b, (w0.heap.size ≤ a ∧ b ≤ w.heap.size) ∧ e.P w0.heap.size a b w ∧ ∀ (e' : Ent) (w1 : World), e'.P w0.heap.size a b w1 → Below w0.heap.size w0 w1 → Kept w w1 (fun k => a ≤ k ∧ k < b) → Lw w0 (L.set i e') w1 := by
 have hh := h
 obtain ⟨h1, h2, h0, r, h3, h4⟩ := h
 obtain ⟨p1, p2, p3⟩ := h3 i e hi
 have hil : i < L.length := (List.getElem?_eq_some_iff.1 hi).1
 refine ⟨_, _, ⟨p1, p2⟩, p3, fun e' w1 he' hb hk => ⟨hb, Nat.le_refl _, hb.size, r, fun j e2 hj => ?_, by simpa using h4⟩⟩
 by_cases hij : i = j
 ·subst hij
  rw [List.getElem?_set_self hil] at hj
  obtain rfl := Option.some.inj hj
  exact ⟨p1, Nat.le_trans p2 hk.1, he'⟩
 ·rw [List.getElem?_set_ne hij] at hj
  obtain ⟨u1, u2, u3⟩ := h3 j e2 hj
  have hjl : j < L.length := (List.getElem?_eq_some_iff.1 hj).1
  refine ⟨u1, Nat.le_trans u2 hk.1, e2.loc (fun k ha hb' => hk.2 k (by omega) (fun hh => ?_)) u3⟩
  rcases h4 i j hil hjl hij with h5 | h5 <;> omega
theorem Lw.open3 (h : Lw w0 L w) (i j l : Nat) {e0 e1 e2 : Ent} (h0' : L[i]? = some e0 := by rfl) (h1' : L[j]? = some e1 := by rfl) (h2' : L[l]? = some e2 := by rfl) (hij : i ≠ j := by decide) (hil : i ≠ l := by decide) (hjl : j ≠ l := by decide) : ∃ a0 b0 a1 b1 a2 b2, e0.P w0.heap.size a0 b0 w ∧ e1.P w0.heap.size a1 b1 w ∧ e2.P w0.heap.size a2 b2 w ∧
  (∀ k, (a0 ≤ k ∧ k < b0) → ¬ (a1 ≤ k ∧ k < b1)) ∧ (∀ k, (a0 ≤ k ∧ k < b0) → ¬ (a2 ≤ k ∧ k < b2)) ∧ (∀ k, (a1 ≤ k ∧ k < b1) → ¬ (a2 ≤ k ∧ k < b2)) ∧
  ∀ (f0 f1 f2 : Ent) (w1 : World), f0.P w0.heap.size a0 b0 w1 → f1.P w0.heap.size a1 b1 w1 → f2.P w0.heap.size a2 b2 w1 → Below w0.heap.size w0 w1 → Kept w w1 (fun k => (a0 ≤ k ∧ k < b0) ∨ (a1 ≤ k ∧ k < b1) ∨ (a2 ≤ k ∧ k < b2)) → Lw w0 (((L.set i f0).set j f1).set l f2) w1 := by
 obtain ⟨h1, h2, h0, r, h3, h4⟩ := h
 obtain ⟨p1, p2, p3⟩ := h3 i e0 h0'
 obtain ⟨q1, q2, q3⟩ := h3 j e1 h1'
 obtain ⟨s1, s2, s3⟩ := h3 l e2 h2'
 have li : i < L.length := (List.getElem?_eq_some_iff.1 h0').1
 have lj : j < L.length := (List.getElem?_eq_some_iff.1 h1').1
 have ll : l < L.length := (List.getElem?_eq_some_iff.1 h2').1
 refine ⟨_, _, _, _, _, _, p3, q3, s3, fun k ha hb => ?_, fun k ha hb => ?_, fun k ha hb => ?_, fun f0 f1 f2 w1 y0 y1 y2 hb hk => ⟨hb, Nat.le_refl _, hb.size, r, fun n e' hn => ?_, by simpa using h4⟩⟩
 ·rcases h4 i j li lj hij with h5 | h5 <;> omega
 ·rcases h4 i l li ll hil with h5 | h5 <;> omega
 ·rcases h4 j l lj ll hjl with h5 | h5 <;> omega
 ·have hks := hk.1
  by_cases e2n : l = n
  ·subst e2n
   rw [List.getElem?_set_self (by simpa using ll)] at hn
   obtain rfl := Option.some.inj hn
   exact ⟨s1, by omega, y2⟩
  rw [List.getElem?_set_ne e2n] at hn
  by_cases e1n : j = n
  ·subst e1n
   rw [List.getElem?_set_self (by simpa using lj)] at hn
   obtain rfl := Option.some.inj hn
   exact ⟨q1, by omega, y1⟩
  rw [List.getElem?_set_ne e1n] at hn
  by_cases e0n : i = n
  ·subst e0n
   rw [List.getElem?_set_self li] at hn
   obtain rfl := Option.some.inj hn
   exact ⟨p1, by omega, y0⟩
  rw [List.getElem?_set_ne e0n] at hn
  obtain ⟨u1, u2, u3⟩ := h3 n e' hn
  have ln : n < L.length := (List.getElem?_eq_some_iff.1 hn).1
  refine ⟨u1, by omega, e'.loc (fun k ha hb' => hk.2 k (by omega) (fun hh => ?_)) u3⟩
  rcases hh with hh | hh | hh
  ·rcases h4 i n li ln e0n with h5 | h5 <;> omega
  ·rcases h4 j n lj ln e1n with h5 | h5 <;> omega
  ·rcases h4 l n ll ln e2n with h5 | h5 <;> omega
/-- A store of one cell into a box. -/
theorem Lw.set (h : Lw w0 L w) (i j : Nat) (u : Value) (hi : L[i]? = some (.box g cs t)) (hc : cs.setIfInBounds j u = cs') (hL : L.set i (.box g cs' t) = L') : Lw w0 L' (w.setCell ⟨g, j, none⟩ u) := by
 obtain ⟨a, b, p1, p2, p3, p4, p5⟩ := Lv.get h i hi
 refine (Lv.turn (e' := .box g cs' t) h i hi (by rw [World.size_setCell]; exact Nat.le_refl _) (below_set h.below (by omega)) (fun a b _ _ p => ⟨⟨p.1, p.2.1, blk_put p.2.2 j u hc⟩, fun k _ hn => Below.heap_setCell w ⟨g, j, none⟩ u k (fun e => hn (by have := p.1; have := p.2.1; have e' : k = g := e; omega))⟩) hL).up
/-- A store of several cells. -/
def putc (w : World) (g : Nat) : Nat → List Value → World
 | _, [] => w
 | j, v :: vs => putc (w.setCell ⟨g, j, none⟩ v) g (j + 1) vs
def seta (cs : Array Value) : Nat → List Value → Array Value
 | _, [] => cs
 | j, v :: vs => seta (cs.setIfInBounds j v) (j + 1) vs
theorem Lw.fill (i : Nat) : ∀ (vs : List Value) (j : Nat) {w : World} {L : List Ent} {cs : Array Value} {L' : List Ent}, Lw w0 L w → L[i]? = some (.box g cs t) → L.set i (.box g (seta cs j vs) t) = L' → Lw w0 L' (putc w g j vs)
 | [], j, w, L, cs, L', h, hi, hL => by
  subst hL
  have hil : i < L.length := (List.getElem?_eq_some_iff.1 hi).1
  have e : L.set i (.box g cs t) = L := by
   apply List.ext_getElem?
   intro j
   by_cases hj : i = j
   ·subst hj; rw [List.getElem?_set_self hil, hi]
   ·rw [List.getElem?_set_ne hj]
  show Lw w0 (L.set i (.box g cs t)) w
  rw [e]; exact h
 | v :: vs, j, w, L, cs, L', h, hi, hL => by
  have hil : i < L.length := (List.getElem?_eq_some_iff.1 hi).1
  exact Lw.fill i vs (j + 1) (Lw.set h i j v hi rfl rfl) (by rw [List.getElem?_set_self hil]) (by rw [List.set_set]; exact hL)
theorem Lw.fil (h : Lw w0 L w) (i j : Nat) (vs : List Value) (hw : w1 = putc w g j vs) (hi : L[i]? = some (.box g cs t) := by rfl) (hc : seta cs j vs = cs' := by rfl) (hL : L.set i (.box g cs' t) = L' := by rfl) : Lw w0 L' w1 := by
 subst hw hc; exact Lw.fill i vs j h hi hL
theorem Lw.fil0 (h : Lw w0 (.box g cs t :: L) w) (vs : List Value) (hw : w1 = putc w g 0 vs) (hc : seta cs 0 vs = vs.toArray := by rfl) : Lw w0 (.box g vs.toArray t :: L) w1 := Lw.fil h 0 0 vs hw rfl hc rfl
/-- What a call made, ahead of what was there. -/
theorem Lw.app (h : Lw w0 L w) (h' : Lw w L' w1) : Lw w0 (L' ++ L) w1 := by
 have hb : Below w.heap.size w w1 := h'.below
 have hL := Lv.on h hb
 obtain ⟨h1, h2, h0, r, h3, h4⟩ := hL
 obtain ⟨_, _, b0, q, g3, g4⟩ := h'
 refine ⟨h1, Nat.le_refl _, Nat.le_trans h0 b0, fun i => if i < L'.length then q i else r (i - L'.length), fun i e he => ?_, fun i j hi hj hij => ?_⟩
 ·by_cases hi : i < L'.length
  ·rw [List.getElem?_append_left hi] at he
   obtain ⟨p1, p2, p3⟩ := g3 i e he
   simp only [if_pos hi]
   exact ⟨by omega, p2, e.low h0 p3⟩
  ·rw [List.getElem?_append_right (by omega)] at he
   obtain ⟨p1, p2, p3⟩ := h3 _ e he
   simp only [if_neg hi]
   exact ⟨p1, by omega, p3⟩
 ·simp only [List.length_append] at hi hj
  by_cases hi' : i < L'.length <;> by_cases hj' : j < L'.length
  ·simp only [if_pos hi', if_pos hj']; exact g4 i j hi' hj' hij
  ·simp only [if_pos hi', if_neg hj']
   have a1 := (g3 i _ (List.getElem?_eq_getElem hi')).1
   have a2 := (h3 (j - L'.length) _ (List.getElem?_eq_getElem (by omega))).2.1
   exact .inr (by omega)
  ·simp only [if_neg hi', if_pos hj']
   have a1 := (g3 j _ (List.getElem?_eq_getElem hj')).1
   have a2 := (h3 (i - L'.length) _ (List.getElem?_eq_getElem (by omega))).2.1
   exact .inl (by omega)
  ·simp only [if_neg hi', if_neg hj']; exact h4 _ _ (by omega) (by omega) (by omega)
/-- A call's two or three parts, told apart by numbers. -/
theorem Lw.add2 {v' : Value} {xs' : List α} {m1 : Nat} (h : Lw w0 L w) (hs : w.heap.size ≤ m1 ∧ m1 ≤ w1.heap.size) (ho : Kd.T d t w1 w.heap.size (fun k => k < m1) v xs) (ho' : Kd.S d t w1 w.heap.size (fun k => m1 ≤ k) v' xs') (hb : Below w.heap.size w w1) : Lw w0 (.T d t v' xs' :: .T d t v xs :: L) w1 :=
 ((Lv.on h hb).cons w.heap.size m1 (Nat.le_refl _) hs.1 hs.2 (pT ho h.base (fun k h1 h2 _ => ⟨h2, h1⟩))).cons m1 w1.heap.size (Nat.le_refl _) hs.2 (Nat.le_refl _) (pT (Kd.T_of_S ho') h.base (fun k h1 _ h3 => ⟨h1, h3⟩))
theorem Lw.add3 {β : Type} {d' : Kd β} {t' : Nat} {v' v2 : Value} {xs' : List α} {ys : List β} {m1 m2 : Nat} (h : Lw w0 L w) (hs : w.heap.size ≤ m1 ∧ m1 ≤ m2 ∧ m2 ≤ w1.heap.size) (ho : Kd.S d t w1 w.heap.size (fun k => k < m1) v xs) (ho' : Kd.T d t w1 w.heap.size (fun k => m1 ≤ k ∧ k < m2) v' xs') (ho2 : Kd.R d' t' w1 w.heap.size (fun k => m2 ≤ k) v2 ys) (hb : Below w.heap.size w w1) : Lw w0 (.R d' t' v2 ys :: .T d t v' xs' :: .T d t v xs :: L) w1 :=
 (((Lv.on h hb).cons w.heap.size m1 (Nat.le_refl _) hs.1 (by omega) (pT (Kd.T_of_S ho) h.base (fun k h1 h2 _ => ⟨h2, h1⟩))).cons m1 m2 (Nat.le_refl _) hs.2.1 hs.2.2 (pT ho' h.base (fun k h1 _ _ => h1))).cons m2 w1.heap.size (Nat.le_refl _) hs.2.2 (Nat.le_refl _) (pR' ho2 h.base (fun k h1 _ h3 => ⟨h1, h3⟩))
/-- Some of the facts, in another order. -/
theorem Lw.pick (h : Lw w0 L w) (is : List Nat) (hn : is.Nodup := by decide) (hL : is.filterMap (fun i => L[i]?) = L' := by rfl) (hl : is.all (fun i => decide (i < L.length)) = true := by rfl) : Lw w0 L' w := by
 subst hL
 obtain ⟨h1, h2, h0, r, h3, h4⟩ := h
 have key : ∀ is : List Nat, is.all (fun i => decide (i < L.length)) = true → ∀ k : Nat, (is.filterMap (fun i => L[i]?))[k]? = (is[k]?).bind (fun i => L[i]?) := by
  intro is
  induction is with
  | nil => intro _ k; simp
  | cons i is ih =>
   intro hl k
   simp only [List.all_cons, Bool.and_eq_true, decide_eq_true_eq] at hl
   rw [List.filterMap_cons, List.getElem?_eq_getElem hl.1]
   cases k with
   | zero => simp [List.getElem?_eq_getElem hl.1]
   | succ k => simpa using ih hl.2 k
 have hlen : (is.filterMap (fun i => L[i]?)).length ≤ is.length := List.length_filterMap_le _ _
 refine ⟨h1, h2, h0, fun k => r ((is[k]?).getD 0), fun k e he => ?_, fun k j hk hj hkj => ?_⟩
 ·rw [key is hl k] at he
  cases hq : is[k]? with
  | none => rw [hq] at he; cases he
  | some i =>
   rw [hq] at he
   show w0.heap.size ≤ (r ((is[k]?).getD 0)).1 ∧ (r ((is[k]?).getD 0)).2 ≤ w.heap.size ∧ e.P w0.heap.size (r ((is[k]?).getD 0)).1 (r ((is[k]?).getD 0)).2 w
   rw [hq]; exact h3 i e he
 ·have hk' : k < is.length := by omega
  have hj' : j < is.length := by omega
  show (r ((is[k]?).getD 0)).2 ≤ (r ((is[j]?).getD 0)).1 ∨ (r ((is[j]?).getD 0)).2 ≤ (r ((is[k]?).getD 0)).1
  rw [List.getElem?_eq_getElem hk', List.getElem?_eq_getElem hj']
  rw [List.all_eq_true] at hl
  exact h4 _ _ (by simpa using hl _ (List.getElem_mem hk')) (by simpa using hl _ (List.getElem_mem hj')) (fun e => hkj ((List.getElem_inj hn).1 e))
theorem Lw.nilT {α : Type} {w0 w : World} {L : List Ent} (h : Lw w0 L w) (d : Kd α) (t : Nat) : Lw w0 (.T d t (.slice none 0 0) [] :: L) w := Lv.cons h w.heap.size w.heap.size (Nat.le_refl _) (Nat.le_refl _) (Nat.le_refl _) (Kd.T_nil _ _ _ _ _)
theorem Lw.nilR {α : Type} {w0 w : World} {L : List Ent} (h : Lw w0 L w) (d : Kd α) (t : Nat) : Lw w0 (.R d t (.slice none 0 0) [] :: L) w := Lv.cons h w.heap.size w.heap.size (Nat.le_refl _) (Nat.le_refl _) (Nat.le_refl _) (Kd.R_nil _ _ _ _ _)
theorem cells1 {x0 : Value} (h : w.heap[g]? = some (.cells #[x0] t (0, 0))) : w.cell? ⟨g, 0, none⟩ = some x0 ∧ w.frozen? ⟨g, 0, none⟩ = false := ⟨bc h 0, blk_frozen h 0⟩
theorem cells2 {x0 x1 : Value} (h : w.heap[g]? = some (.cells #[x0, x1] t (0, 0))) : w.cell? ⟨g, 0, none⟩ = some x0 ∧ w.frozen? ⟨g, 0, none⟩ = false ∧ w.cell? ⟨g, 1, none⟩ = some x1 ∧ w.frozen? ⟨g, 1, none⟩ = false := ⟨bc h 0, blk_frozen h 0, bc h 1, blk_frozen h 1⟩
theorem cells3 {x0 x1 x2 : Value} (h : w.heap[g]? = some (.cells #[x0, x1, x2] t (0, 0))) : w.cell? ⟨g, 0, none⟩ = some x0 ∧ w.frozen? ⟨g, 0, none⟩ = false ∧ w.cell? ⟨g, 1, none⟩ = some x1 ∧ w.frozen? ⟨g, 1, none⟩ = false ∧ w.cell? ⟨g, 2, none⟩ = some x2 ∧ w.frozen? ⟨g, 2, none⟩ = false := ⟨bc h 0, blk_frozen h 0, bc h 1, blk_frozen h 1, bc h 2, blk_frozen h 2⟩
theorem cells5 {x0 x1 x2 x3 x4 : Value} (h : w.heap[g]? = some (.cells #[x0, x1, x2, x3, x4] t (0, 0))) : w.cell? ⟨g, 0, none⟩ = some x0 ∧ w.frozen? ⟨g, 0, none⟩ = false ∧ w.cell? ⟨g, 1, none⟩ = some x1 ∧ w.frozen? ⟨g, 1, none⟩ = false ∧ w.cell? ⟨g, 2, none⟩ = some x2 ∧ w.frozen? ⟨g, 2, none⟩ = false ∧ w.cell? ⟨g, 3, none⟩ = some x3 ∧ w.frozen? ⟨g, 3, none⟩ = false ∧ w.cell? ⟨g, 4, none⟩ = some x4 ∧ w.frozen? ⟨g, 4, none⟩ = false := ⟨bc h 0, blk_frozen h 0, bc h 1, blk_frozen h 1, bc h 2, blk_frozen h 2, bc h 3, blk_frozen h 3, bc h 4, blk_frozen h 4⟩
theorem cells6 {x0 x1 x2 x3 x4 x5 : Value} (h : w.heap[g]? = some (.cells #[x0, x1, x2, x3, x4, x5] t (0, 0))) : w.cell? ⟨g, 0, none⟩ = some x0 ∧ w.frozen? ⟨g, 0, none⟩ = false ∧ w.cell? ⟨g, 1, none⟩ = some x1 ∧ w.frozen? ⟨g, 1, none⟩ = false ∧ w.cell? ⟨g, 2, none⟩ = some x2 ∧ w.frozen? ⟨g, 2, none⟩ = false ∧ w.cell? ⟨g, 3, none⟩ = some x3 ∧ w.frozen? ⟨g, 3, none⟩ = false ∧ w.cell? ⟨g, 4, none⟩ = some x4 ∧ w.frozen? ⟨g, 4, none⟩ = false ∧ w.cell? ⟨g, 5, none⟩ = some x5 ∧ w.frozen? ⟨g, 5, none⟩ = false := ⟨bc h 0, blk_frozen h 0, bc h 1, blk_frozen h 1, bc h 2, blk_frozen h 2, bc h 3, blk_frozen h 3, bc h 4, blk_frozen h 4, bc h 5, blk_frozen h 5⟩
end

theorem info2 : (Try.prog.info? 2).map (fun i => (i.zero, i.size, i.bytes)) = some (some (.int .i64 0), 1, 8) := by kernel_rfl
theorem info22 : (Try.prog.info? 22).map (fun i => (i.zero, i.size, i.bytes)) = some (some (.slice none 0 0), 1, 24) := by kernel_rfl
theorem info31 : (Try.prog.info? 31).map (fun i => (i.zero, i.size, i.bytes)) = some (some (.agg #[(.slice none 0 0), (.int .i64 0), (.int .i64 0)]), 3, 40) := by kernel_rfl
-- the values' own types
def rd_L1 (xs : List (List Int)) (i : Int) : (List Int) := xs.getD i.toNat ([] : List Int)
theorem at_L1 {w : World} {A : Option Addr} {n : Nat} {xs : List (List Int)} (h : Kd.C (Kd.slice 2 (Kd.int .i64)) w A n xs) (i : Int) (h0 : 0 ≤ i) (h1 : i < n) : ∃ ad A0 c0, A = some ad ∧ w.cell? (ad.add i.toNat) = some (.slice A0 (rd_L1 xs i).length c0) ∧ (rd_L1 xs i).length ≤ c0 ∧ (Kd.int .i64).C w A0 (rd_L1 xs i).length (rd_L1 xs i) := by
 obtain ⟨ad, c, e, _, hK, hc0⟩ := Kd.C_get h ([] : List Int) i h0 h1
 have hc : ∀ j u, c[j]? = some u → w.cell? (ad.add (i.toNat * 1 + j)) = some u := hc0
 obtain ⟨A0, c0, rfl, l0, g0⟩ := hK
 exact ⟨ad, A0, c0, e, by have hq := hc 0 _ rfl; rwa [Nat.mul_one, Nat.add_zero] at hq, l0, g0⟩

/-! #### struct type 31 -/
structure S31 where
 f0 : (List Int)
 f1 : Int
 f2 : Int
def z31 : S31 := ⟨([] : List Int), (0 : Int), (0 : Int)⟩
def k31 : Kd S31 := Kd.iso (Kd.pair (Kd.slice 2 (Kd.int .i64)) (Kd.pair (Kd.int .i64) (Kd.int .i64))) (fun x : S31 => (x.f0, x.f1, x.f2))
theorem k31_open {w : World} {x : S31} {cs : List Value} (h : k31.K w x cs) : ∃ A0 c0, cs = [.slice A0 x.f0.length c0, .int .i64 x.f1, .int .i64 x.f2] ∧ x.f0.length ≤ c0 ∧ (Kd.int .i64).C w A0 x.f0.length x.f0 := by
 obtain ⟨_, _, rfl, ⟨A0, c0, rfl, l0, g0⟩, ⟨_, _, rfl, rfl, rfl⟩⟩ := h
 exact ⟨A0, c0, rfl, l0, g0⟩
theorem k31_openM {w : World} {base : Nat} {ok : Nat → Prop} {x : S31} {cs : List Value} (h : k31.M w base ok x cs) : ∃ v0, cs = [v0, .int .i64 x.f1, .int .i64 x.f2] ∧ (Kd.int .i64).R 2 w base ok v0 x.f0 := by
 obtain ⟨_, _, rfl, ⟨v0, rfl, g0⟩, ⟨_, _, rfl, rfl, rfl⟩⟩ := h
 exact ⟨v0, rfl, g0⟩
theorem k31_mkM (w : World) (base : Nat) (ok : Nat → Prop) (x : S31) {v0 : Value} (g0 : (Kd.int .i64).R 2 w base ok v0 x.f0) : k31.M w base ok x [v0, .int .i64 x.f1, .int .i64 x.f2] := ⟨[v0], [.int .i64 x.f1, .int .i64 x.f2], rfl, ⟨v0, rfl, g0⟩, ⟨[.int .i64 x.f1], [.int .i64 x.f2], rfl, rfl, rfl⟩⟩
def rd_T31 (xs : List S31) (i : Int) : S31 := xs.getD i.toNat z31
theorem at_T31 {w : World} {A : Option Addr} {n : Nat} {xs : List S31} (h : Kd.C k31 w A n xs) (i : Int) (h0 : 0 ≤ i) (h1 : i < n) : ∃ ad A0 c0, A = some ad ∧ w.cell? (ad.add (i.toNat * 3)) = some (.slice A0 (rd_T31 xs i).f0.length c0) ∧ w.cell? ⟨(ad.add (i.toNat * 3)).block, (ad.add (i.toNat * 3)).off + 1, none⟩ = some (.int .i64 (rd_T31 xs i).f1) ∧ w.cell? ⟨(ad.add (i.toNat * 3)).block, (ad.add (i.toNat * 3)).off + 2, none⟩ = some (.int .i64 (rd_T31 xs i).f2) ∧ (rd_T31 xs i).f0.length ≤ c0 ∧ (Kd.int .i64).C w A0 (rd_T31 xs i).f0.length (rd_T31 xs i).f0 := by
 obtain ⟨ad, c, e, _, hK, hc0⟩ := Kd.C_get h z31 i h0 h1
 have hc : ∀ j u, c[j]? = some u → w.cell? (ad.add (i.toNat * 3 + j)) = some u := hc0
 obtain ⟨A0, c0, rfl, l0, g0⟩ := k31_open hK
 exact ⟨ad, A0, c0, e, hc 0 _ rfl, by rw [← add_field _ _ 1 (by omega)]; exact hc 1 _ rfl, by rw [← add_field _ _ 2 (by omega)]; exact hc 2 _ rfl, l0, g0⟩

/-! #### struct type 24 -/
structure S24 where
 f0 : (List Int)
 f1 : Int
 f2 : Int
def k24 : Kd S24 := Kd.iso (Kd.pair (Kd.slice 2 (Kd.int .i64)) (Kd.pair (Kd.int .i64) (Kd.int .i64))) (fun x : S24 => (x.f0, x.f1, x.f2))
theorem k24_open {w : World} {x : S24} {cs : List Value} (h : k24.K w x cs) : ∃ A0 c0, cs = [.slice A0 x.f0.length c0, .int .i64 x.f1, .int .i64 x.f2] ∧ x.f0.length ≤ c0 ∧ (Kd.int .i64).C w A0 x.f0.length x.f0 := by
 obtain ⟨_, _, rfl, ⟨A0, c0, rfl, l0, g0⟩, ⟨_, _, rfl, rfl, rfl⟩⟩ := h
 exact ⟨A0, c0, rfl, l0, g0⟩
end Go.Proofs.Ytabinbmcfeknjaa.PFnExactUndoRun
