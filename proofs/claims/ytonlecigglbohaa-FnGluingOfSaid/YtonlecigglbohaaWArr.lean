import Derived.Test.YtonlecigglbohaaWWords
namespace Go.Proofs.YtonlecigglbohaaW.PrintWords
open Go.RowKit
namespace Kd
end Kd
end Go.Proofs.YtonlecigglbohaaW.PrintWords
