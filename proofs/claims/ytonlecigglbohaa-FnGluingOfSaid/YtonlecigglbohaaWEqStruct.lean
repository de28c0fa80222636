import Derived.Test.YtonlecigglbohaaWWords
import Derived.Laws.StructEq
namespace Go.Proofs.YtonlecigglbohaaW.PrintWords
open Go.RowKit
end Go.Proofs.YtonlecigglbohaaW.PrintWords
