import Derived.Test.YtdaiohcgdpclnaaWInv
import Derived.Test.YtdaiohcgdpclnaaWFootNe
namespace Go.Proofs.YtdaiohcgdpclnaaW.PrintWords
open Go.RowKit
end Go.Proofs.YtdaiohcgdpclnaaW.PrintWords
namespace Go.Proofs.YtdaiohcgdpclnaaW.PrintLast
end Go.Proofs.YtdaiohcgdpclnaaW.PrintLast
