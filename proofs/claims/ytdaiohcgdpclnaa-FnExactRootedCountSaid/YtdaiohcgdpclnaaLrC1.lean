import Derived.Test.YtdaiohcgdpclnaaLrA
namespace Go.Proofs.Ytdaiohcgdpclnaa.LrA
open Go.RowKit Go.Proofs.YtdaiohcgdpclnaaW.PrintWords Go.Proofs.YtdaiohcgdpclnaaW.PrintMore Go.Proofs.Ytdaiohcgdpclnaa.Q Go.Proofs.Ytdaiohcgdpclnaa.M Go.Proofs.Ytdaiohcgdpclnaa.B
set_option maxRecDepth 100000
def lc3 : List (S33 × Int) := []
set_option maxHeartbeats 16000000 in
theorem lc3_is : coll0 3 (FL 6) (chunk 6 20 3) = some lc3 := eqO_eq eqP_eq (by decide +kernel)
def lc4 : List (S33 × Int) := []
set_option maxHeartbeats 16000000 in
theorem lc4_is : coll0 3 (FL 6) (chunk 6 20 4) = some lc4 := eqO_eq eqP_eq (by decide +kernel)
def lc5 : List (S33 × Int) := []
set_option maxHeartbeats 16000000 in
theorem lc5_is : coll0 3 (FL 6) (chunk 6 20 5) = some lc5 := eqO_eq eqP_eq (by decide +kernel)
end Go.Proofs.Ytdaiohcgdpclnaa.LrA
