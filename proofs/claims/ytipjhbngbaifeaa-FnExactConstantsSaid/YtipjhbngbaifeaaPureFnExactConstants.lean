/- Every exported constant of the program is the document's: the law FnExactConstants answers true. No condition. -/
import Derived.Test.YtipjhbngbaifeaaPFnExactConstantsx1
namespace Go.Proofs.Ytipjhbngbaifeaa.Pure
open Go.RowKit Go.Proofs.Ytipjhbngbaifeaa.PFnExactConstants

theorem FnExactConstants : laws_FnExactConstants.Pure := rfl

end Go.Proofs.Ytipjhbngbaifeaa.Pure
