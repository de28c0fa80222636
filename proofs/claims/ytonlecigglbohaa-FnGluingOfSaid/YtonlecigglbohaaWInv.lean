import Derived.Test.YtonlecigglbohaaWTab
namespace Go.Proofs.YtonlecigglbohaaW.PrintLast
def up (b:Nat→Bool) (i:Nat):Nat→Bool:=fun j=>if j = i then true else b j
end Go.Proofs.YtonlecigglbohaaW.PrintLast
