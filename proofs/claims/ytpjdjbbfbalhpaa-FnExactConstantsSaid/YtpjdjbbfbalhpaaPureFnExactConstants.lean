/- Proved: every exported constant of the program has the value given in the specification (FnExactConstants returns true). No conditions. -/
import Derived.Test.YtpjdjbbfbalhpaaPFnExactConstantsx1
namespace Go.Proofs.Ytpjdjbbfbalhpaa.Pure
open Go.RowKit Go.Proofs.Ytpjdjbbfbalhpaa.PFnExactConstants Go.Proofs.YtpjdjbbfbalhpaaW.PrintWords Go.Proofs.YtpjdjbbfbalhpaaW.PrintLast

/-- YOURS: laws_FnExactConstants.f  = some true
What it reaches (each with k first where it has rounds; `.mono`: more rounds tell the same; `.l0`, ..: its loops, with `.mono_l`): laws_FnExactConstants.f -/
theorem FnExactConstants : laws_FnExactConstants.Pure := by
  rfl

end Go.Proofs.Ytpjdjbbfbalhpaa.Pure
