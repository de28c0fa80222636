import Derived.Test.YtdaiohcgdpclnaaLrA
namespace Go.Proofs.Ytdaiohcgdpclnaa.LrA
open Go.RowKit Go.Proofs.YtdaiohcgdpclnaaW.PrintWords Go.Proofs.YtdaiohcgdpclnaaW.PrintMore Go.Proofs.Ytdaiohcgdpclnaa.Q Go.Proofs.Ytdaiohcgdpclnaa.M Go.Proofs.Ytdaiohcgdpclnaa.B
set_option maxRecDepth 100000
def lc30 : List (S33 × Int) := []
set_option maxHeartbeats 16000000 in
theorem lc30_is : coll0 3 (FL 6) (chunk 6 20 30) = some lc30 := eqO_eq eqP_eq (by decide +kernel)
def lc31 : List (S33 × Int) := []
set_option maxHeartbeats 16000000 in
theorem lc31_is : coll0 3 (FL 6) (chunk 6 20 31) = some lc31 := eqO_eq eqP_eq (by decide +kernel)
def lc32 : List (S33 × Int) := []
set_option maxHeartbeats 16000000 in
theorem lc32_is : coll0 3 (FL 6) (chunk 6 20 32) = some lc32 := eqO_eq eqP_eq (by decide +kernel)
def lc33 : List (S33 × Int) := []
set_option maxHeartbeats 16000000 in
theorem lc33_is : coll0 3 (FL 6) (chunk 6 20 33) = some lc33 := eqO_eq eqP_eq (by decide +kernel)
def lc34 : List (S33 × Int) := []
set_option maxHeartbeats 16000000 in
theorem lc34_is : coll0 3 (FL 6) (chunk 6 20 34) = some lc34 := eqO_eq eqP_eq (by decide +kernel)
def lc35 : List (S33 × Int) := []
set_option maxHeartbeats 16000000 in
theorem lc35_is : coll0 3 (FL 6) (chunk 6 20 35) = some lc35 := eqO_eq eqP_eq (by decide +kernel)
end Go.Proofs.Ytdaiohcgdpclnaa.LrA
