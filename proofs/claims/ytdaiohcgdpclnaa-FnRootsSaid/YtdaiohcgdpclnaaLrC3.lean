import Derived.Test.YtdaiohcgdpclnaaLrA
namespace Go.Proofs.Ytdaiohcgdpclnaa.LrA
open Go.RowKit Go.Proofs.YtdaiohcgdpclnaaW.PrintWords Go.Proofs.YtdaiohcgdpclnaaW.PrintMore Go.Proofs.Ytdaiohcgdpclnaa.Q Go.Proofs.Ytdaiohcgdpclnaa.M Go.Proofs.Ytdaiohcgdpclnaa.B
set_option maxRecDepth 100000
def lc18 : List (S33 × Int) := []
set_option maxHeartbeats 16000000 in
theorem lc18_is : coll0 3 (FL 6) (chunk 6 20 18) = some lc18 := eqO_eq eqP_eq (by decide +kernel)
def lc19 : List (S33 × Int) := []
set_option maxHeartbeats 16000000 in
theorem lc19_is : coll0 3 (FL 6) (chunk 6 20 19) = some lc19 := eqO_eq eqP_eq (by decide +kernel)
def lc20 : List (S33 × Int) := []
set_option maxHeartbeats 16000000 in
theorem lc20_is : coll0 3 (FL 6) (chunk 6 20 20) = some lc20 := eqO_eq eqP_eq (by decide +kernel)
def lc21 : List (S33 × Int) := []
set_option maxHeartbeats 16000000 in
theorem lc21_is : coll0 3 (FL 6) (chunk 6 20 21) = some lc21 := eqO_eq eqP_eq (by decide +kernel)
def lc22 : List (S33 × Int) := []
set_option maxHeartbeats 16000000 in
theorem lc22_is : coll0 3 (FL 6) (chunk 6 20 22) = some lc22 := eqO_eq eqP_eq (by decide +kernel)
def lc23 : List (S33 × Int) := []
set_option maxHeartbeats 16000000 in
theorem lc23_is : coll0 3 (FL 6) (chunk 6 20 23) = some lc23 := eqO_eq eqP_eq (by decide +kernel)
end Go.Proofs.Ytdaiohcgdpclnaa.LrA
