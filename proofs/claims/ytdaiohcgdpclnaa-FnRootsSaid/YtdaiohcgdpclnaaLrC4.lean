import Derived.Test.YtdaiohcgdpclnaaLrA
namespace Go.Proofs.Ytdaiohcgdpclnaa.LrA
open Go.RowKit Go.Proofs.YtdaiohcgdpclnaaW.PrintWords Go.Proofs.YtdaiohcgdpclnaaW.PrintMore Go.Proofs.Ytdaiohcgdpclnaa.Q Go.Proofs.Ytdaiohcgdpclnaa.M Go.Proofs.Ytdaiohcgdpclnaa.B
set_option maxRecDepth 100000
def lc24 : List (S33 × Int) := []
set_option maxHeartbeats 16000000 in
theorem lc24_is : coll0 3 (FL 6) (chunk 6 20 24) = some lc24 := eqO_eq eqP_eq (by decide +kernel)
def lc25 : List (S33 × Int) := []
set_option maxHeartbeats 16000000 in
theorem lc25_is : coll0 3 (FL 6) (chunk 6 20 25) = some lc25 := eqO_eq eqP_eq (by decide +kernel)
def lc26 : List (S33 × Int) := []
set_option maxHeartbeats 16000000 in
theorem lc26_is : coll0 3 (FL 6) (chunk 6 20 26) = some lc26 := eqO_eq eqP_eq (by decide +kernel)
def lc27 : List (S33 × Int) := []
set_option maxHeartbeats 16000000 in
theorem lc27_is : coll0 3 (FL 6) (chunk 6 20 27) = some lc27 := eqO_eq eqP_eq (by decide +kernel)
def lc28 : List (S33 × Int) := []
set_option maxHeartbeats 16000000 in
theorem lc28_is : coll0 3 (FL 6) (chunk 6 20 28) = some lc28 := eqO_eq eqP_eq (by decide +kernel)
def lc29 : List (S33 × Int) := []
set_option maxHeartbeats 16000000 in
theorem lc29_is : coll0 3 (FL 6) (chunk 6 20 29) = some lc29 := eqO_eq eqP_eq (by decide +kernel)
end Go.Proofs.Ytdaiohcgdpclnaa.LrA
