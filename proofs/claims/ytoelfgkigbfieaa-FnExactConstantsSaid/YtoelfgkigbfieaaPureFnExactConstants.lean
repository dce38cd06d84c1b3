/- Proved: the law FnExactConstants returns true (it has no input). Conditions: none. -/
import Derived.Test.YtoelfgkigbfieaaPFnExactConstantsx1
namespace Go.Proofs.Ytoelfgkigbfieaa.Pure
open Go.RowKit Go.Proofs.Ytoelfgkigbfieaa.PFnExactConstants Go.Proofs.YtoelfgkigbfieaaW.PrintWords Go.Proofs.YtoelfgkigbfieaaW.PrintLast

theorem FnExactConstants : laws_FnExactConstants.Pure := rfl

end Go.Proofs.Ytoelfgkigbfieaa.Pure
