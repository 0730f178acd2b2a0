/- Proved: the program's ClassOf returns what the reference's returns, for every int64 argument. No conditions. -/
import Derived.Test.YtpjdjbbfbalhpaaPFnExactClassOfx1
namespace Go.Proofs.Ytpjdjbbfbalhpaa.Pure
open Go.RowKit Go.Proofs.Ytpjdjbbfbalhpaa.PFnExactClassOf Go.Proofs.YtpjdjbbfbalhpaaW.PrintWords Go.Proofs.YtpjdjbbfbalhpaaW.PrintLast

def isPt (a : Int) : Bool := decide (0 ≤ a ∧ a ≤ 1114111 ∧ ¬ (55296 ≤ a ∧ a ≤ 57343))
def cl2 (a : Int) : Int := if (97 ≤ a ∧ a ≤ 122) ∨ (65 ≤ a ∧ a ≤ 90) ∨ (48 ≤ a ∧ a ≤ 57) ∨ a = 95 ∨ 128 ≤ a then 2 else 3
def cls (a : Int) : Int := if isPt a = true then (if a = 32 ∨ a = 9 ∨ a = 10 then 1 else cl2 a) else 0

theorem within_eq (a b c : Int) : impl_within.f a b c = some (decide (b ≤ a ∧ a ≤ c)) := by
  unfold impl_within.f
  by_cases h : b ≤ a <;> simp [h]
theorem ispoint_eq (a : Int) : impl_isPoint.f a = some (isPt a) := by
  simp only [impl_isPoint.f, within_eq, Option.bind_some, isPt, decide_eq_true_eq]
  split <;> (refine congrArg some (Bool.eq_iff_iff.2 ?_); simp only [Bool.not_eq_true', decide_eq_true_eq, decide_eq_false_iff_not, Bool.false_eq_true]; first | omega | (rw [false_iff]; omega) | (rw [true_iff]; omega))
theorem l01point_eq (a : Int) : spec_l01Point.f a = some (isPt a) := by
  simp only [spec_l01Point.f, isPt]
  (repeat' split) <;> (refine congrArg some (Bool.eq_iff_iff.2 ?_); simp only [Bool.not_eq_true', Bool.not_false, decide_eq_true_eq, decide_eq_false_iff_not, Bool.false_eq_true]; first | omega | (rw [false_iff]; omega) | (rw [true_iff]; omega))
theorem sj0_eq (k : Nat) (a : Int) (b : Bool) : spec_ClassOf.j0 (k + 1) a b = some (if b = true then 1 else cl2 a) := by
  simp only [spec_ClassOf.j0]
  cases b
  · simp only [Bool.false_eq_true, if_false, cl2]
    (repeat' split) <;> first | rfl | omega
  · rfl
theorem ij0_eq (k : Nat) (a : Int) (b : Bool) : impl_ClassOf.j0 (k + 1) a b = some (if b = true then 1 else cl2 a) := by
  simp only [impl_ClassOf.j0, within_eq, Option.bind_some, decide_eq_true_eq]
  cases b
  · simp only [Bool.false_eq_true, if_false, cl2]
    (repeat' split) <;> first | rfl | omega
  · rfl
theorem sclass_eq (k : Nat) (a : Int) : spec_ClassOf.f (k + 1) a = some (cls a) := by
  simp only [spec_ClassOf.f, sj0_eq, l01point_eq, Option.bind_some, cls, beq_iff_eq, if_true]
  (repeat' split) <;> first | rfl | omega
theorem iclass_eq (k : Nat) (a : Int) : impl_ClassOf.f (k + 1) a = some (cls a) := by
  simp only [impl_ClassOf.f, ij0_eq, ispoint_eq, Option.bind_some, cls, beq_iff_eq, if_true]
  (repeat' split) <;> first | rfl | omega

theorem FnExactClassOf : laws_FnExactClassOf.Pure := by
  intro a _
  refine ⟨1, ?_⟩
  simp only [laws_FnExactClassOf.f, sclass_eq, iclass_eq, Option.bind_some, if_true]

end Go.Proofs.Ytpjdjbbfbalhpaa.Pure
