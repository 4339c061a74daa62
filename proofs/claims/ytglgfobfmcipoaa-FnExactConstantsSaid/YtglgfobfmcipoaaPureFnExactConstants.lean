/- Proves, in plain numbers and lists, that the law FnExactConstants answers true at all inputs. No condition is added. -/
import Derived.Test.YtglgfobfmcipoaaPFnExactConstantsx0
import Derived.Test.YtglgfobfmcipoaaPFnExactConstantsx1
namespace Go.Proofs.Ytglgfobfmcipoaa.Pure
open Go.RowKit Go.Proofs.Ytglgfobfmcipoaa.PFnExactConstants Go.Proofs.YtglgfobfmcipoaaW.PrintWords Go.Proofs.YtglgfobfmcipoaaW.PrintLast Go.Proofs.YtglgfobfmcipoaaW.PrintMore
theorem FnExactConstants : laws_FnExactConstants.Pure := rfl

end Go.Proofs.Ytglgfobfmcipoaa.Pure
