import Derived.Test.YtdaiohcgdpclnaaWTab
namespace Go.Proofs.YtdaiohcgdpclnaaW.PrintLast
end Go.Proofs.YtdaiohcgdpclnaaW.PrintLast
