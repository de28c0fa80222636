import Derived.Test.YtdaiohcgdpclnaaWN
namespace Go.Proofs.YtdaiohcgdpclnaaW.PrintWords
open Go.RowKit
namespace Kd
end Kd
end Go.Proofs.YtdaiohcgdpclnaaW.PrintWords
