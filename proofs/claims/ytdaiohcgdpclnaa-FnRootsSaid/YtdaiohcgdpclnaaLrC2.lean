import Derived.Test.YtdaiohcgdpclnaaLrA
namespace Go.Proofs.Ytdaiohcgdpclnaa.LrA
open Go.RowKit Go.Proofs.YtdaiohcgdpclnaaW.PrintWords Go.Proofs.YtdaiohcgdpclnaaW.PrintMore Go.Proofs.Ytdaiohcgdpclnaa.Q Go.Proofs.Ytdaiohcgdpclnaa.M Go.Proofs.Ytdaiohcgdpclnaa.B
set_option maxRecDepth 100000
def lc12 : List (S33 × Int) := []
set_option maxHeartbeats 16000000 in
theorem lc12_is : coll0 3 (FL 6) (chunk 6 20 12) = some lc12 := eqO_eq eqP_eq (by decide +kernel)
def lc13 : List (S33 × Int) := []
set_option maxHeartbeats 16000000 in
theorem lc13_is : coll0 3 (FL 6) (chunk 6 20 13) = some lc13 := eqO_eq eqP_eq (by decide +kernel)
def lc14 : List (S33 × Int) := []
set_option maxHeartbeats 16000000 in
theorem lc14_is : coll0 3 (FL 6) (chunk 6 20 14) = some lc14 := eqO_eq eqP_eq (by decide +kernel)
def lc15 : List (S33 × Int) := []
set_option maxHeartbeats 16000000 in
theorem lc15_is : coll0 3 (FL 6) (chunk 6 20 15) = some lc15 := eqO_eq eqP_eq (by decide +kernel)
def lc16 : List (S33 × Int) := []
set_option maxHeartbeats 16000000 in
theorem lc16_is : coll0 3 (FL 6) (chunk 6 20 16) = some lc16 := eqO_eq eqP_eq (by decide +kernel)
def lc17 : List (S33 × Int) := []
set_option maxHeartbeats 16000000 in
theorem lc17_is : coll0 3 (FL 6) (chunk 6 20 17) = some lc17 := eqO_eq eqP_eq (by decide +kernel)
end Go.Proofs.Ytdaiohcgdpclnaa.LrA
