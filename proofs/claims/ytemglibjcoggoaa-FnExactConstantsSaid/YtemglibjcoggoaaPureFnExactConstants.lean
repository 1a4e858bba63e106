/- The program's constants are the reference's: for every input the law FnExactConstants returns true. -/
import Derived.Test.YtemglibjcoggoaaPFnExactConstantsx1
namespace Go.Proofs.Ytemglibjcoggoaa.Pure
open Go.RowKit Go.Proofs.Ytemglibjcoggoaa.PFnExactConstants Go.Proofs.YtemglibjcoggoaaW.PrintWords Go.Proofs.YtemglibjcoggoaaW.PrintLast

theorem FnExactConstants : laws_FnExactConstants.Pure := rfl

end Go.Proofs.Ytemglibjcoggoaa.Pure
