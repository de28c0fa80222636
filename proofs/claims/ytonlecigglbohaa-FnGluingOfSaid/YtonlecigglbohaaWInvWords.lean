import Derived.Test.YtonlecigglbohaaWInv
import Derived.Test.YtonlecigglbohaaWFootNe
namespace Go.Proofs.YtonlecigglbohaaW.PrintWords
open Go.RowKit
end Go.Proofs.YtonlecigglbohaaW.PrintWords
namespace Go.Proofs.YtonlecigglbohaaW.PrintLast
end Go.Proofs.YtonlecigglbohaaW.PrintLast
