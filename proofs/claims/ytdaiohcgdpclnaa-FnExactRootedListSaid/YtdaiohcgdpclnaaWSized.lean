import Derived.SizedLaws
import Derived.ChangeSlices
namespace Go.Proofs.YtdaiohcgdpclnaaW.PrintWords
open Go.ChangeShapes Go.WideShapes
end Go.Proofs.YtdaiohcgdpclnaaW.PrintWords
