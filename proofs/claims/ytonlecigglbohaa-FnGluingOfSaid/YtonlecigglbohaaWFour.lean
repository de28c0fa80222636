import Derived.Test.YtonlecigglbohaaWTab
namespace Go.Proofs.YtonlecigglbohaaW.PrintLast
end Go.Proofs.YtonlecigglbohaaW.PrintLast
