/-
The law FnExactConstants returns true; there are no conditions.
-/
import Derived.Test.YtiemojacdjkheaaPFnExactConstantsx1
namespace Go.Proofs.Ytiemojacdjkheaa.Pure
open Go.RowKit Go.Proofs.Ytiemojacdjkheaa.PFnExactConstants Go.Proofs.YtiemojacdjkheaaW.PrintWords Go.Proofs.YtiemojacdjkheaaW.PrintLast Go.Proofs.YtiemojacdjkheaaW.PrintMore
set_option linter.unusedVariables false

theorem FnExactConstants : laws_FnExactConstants.Pure := rfl

end Go.Proofs.Ytiemojacdjkheaa.Pure
