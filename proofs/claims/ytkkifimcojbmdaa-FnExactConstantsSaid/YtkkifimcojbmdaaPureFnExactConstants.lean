/-
  FnExactConstants: the program's constants are the document's: the law returns true. No condition.
-/
import Derived.Test.YtkkifimcojbmdaaPFnExactConstantsx1
namespace Go.Proofs.Ytkkifimcojbmdaa.Pure
open Go.RowKit Go.Proofs.Ytkkifimcojbmdaa.PFnExactConstants Go.Proofs.YtkkifimcojbmdaaW.PrintWords Go.Proofs.YtkkifimcojbmdaaW.PrintLast

theorem FnExactConstants : laws_FnExactConstants.Pure := rfl

end Go.Proofs.Ytkkifimcojbmdaa.Pure
