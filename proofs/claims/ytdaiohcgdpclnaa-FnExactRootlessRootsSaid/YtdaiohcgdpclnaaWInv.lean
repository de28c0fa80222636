import Derived.Test.YtdaiohcgdpclnaaWTab
namespace Go.Proofs.YtdaiohcgdpclnaaW.PrintLast
def up (b:Nat→Bool) (i:Nat):Nat→Bool:=fun j=>if j = i then true else b j
end Go.Proofs.YtdaiohcgdpclnaaW.PrintLast
