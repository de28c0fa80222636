import Derived.Test.YtdaiohcgdpclnaaWWords
import Derived.Test.YtdaiohcgdpclnaaWLast
namespace Go.Proofs.YtdaiohcgdpclnaaW.PrintWords
open Go.RowKit
namespace Kd
end Kd
end Go.Proofs.YtdaiohcgdpclnaaW.PrintWords
