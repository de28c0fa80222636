import Derived.Test.YtdaiohcgdpclnaaWApart
import Derived.Test.YtdaiohcgdpclnaaWArr
namespace Go.Proofs.YtdaiohcgdpclnaaW.PrintWords
open Go.RowKit
namespace Kd
end Kd
end Go.Proofs.YtdaiohcgdpclnaaW.PrintWords
