/- FnExactConstants: the program's constants have the values that the document tells; the law's printed function answers true. No condition. -/
import Derived.Test.YtihglabpnladoaaPTx1
namespace Go.Proofs.Ytihglabpnladoaa.Pure
open Go.RowKit Go.Proofs.Ytihglabpnladoaa.PT

theorem FnExactConstants : laws_FnExactConstants.Pure := rfl

end Go.Proofs.Ytihglabpnladoaa.Pure
