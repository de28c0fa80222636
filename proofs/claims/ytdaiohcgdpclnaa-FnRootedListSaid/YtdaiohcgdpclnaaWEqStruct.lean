import Derived.Test.YtdaiohcgdpclnaaWWords
import Derived.Laws.StructEq
namespace Go.Proofs.YtdaiohcgdpclnaaW.PrintWords
open Go.RowKit
end Go.Proofs.YtdaiohcgdpclnaaW.PrintWords
