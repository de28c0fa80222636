import Derived.Test.YtdaiohcgdpclnaaLrA
namespace Go.Proofs.Ytdaiohcgdpclnaa.LrA
open Go.RowKit Go.Proofs.YtdaiohcgdpclnaaW.PrintWords Go.Proofs.YtdaiohcgdpclnaaW.PrintMore Go.Proofs.Ytdaiohcgdpclnaa.Q Go.Proofs.Ytdaiohcgdpclnaa.M Go.Proofs.Ytdaiohcgdpclnaa.B
set_option maxRecDepth 100000
def lc0 : List (S33 × Int) := []
set_option maxHeartbeats 16000000 in
theorem lc0_is : coll0 3 (FL 6) (chunk 6 20 0) = some lc0 := eqO_eq eqP_eq (by decide +kernel)
def lc1 : List (S33 × Int) := [(⟨[0, 2, 1, 4, 3, 5], [1, 0, 3, 2, 5, 4]⟩, 0),
  (⟨[0, 2, 1, 4, 5, 3], [1, 0, 3, 2, 5, 4]⟩, 0),
  (⟨[0, 2, 3, 1, 4, 5], [1, 0, 4, 5, 2, 3]⟩, 0),
  (⟨[0, 2, 3, 1, 5, 4], [1, 0, 4, 5, 2, 3]⟩, 0),
  (⟨[0, 2, 3, 4, 1, 5], [1, 0, 3, 2, 5, 4]⟩, 0),
  (⟨[0, 2, 3, 4, 1, 5], [1, 0, 4, 5, 2, 3]⟩, 0),
  (⟨[0, 2, 3, 4, 5, 1], [1, 0, 3, 2, 5, 4]⟩, 0),
  (⟨[0, 2, 3, 4, 5, 1], [1, 0, 4, 5, 2, 3]⟩, 1),
  (⟨[0, 2, 3, 5, 1, 4], [1, 0, 4, 5, 2, 3]⟩, 0),
  (⟨[0, 2, 3, 5, 4, 1], [1, 0, 4, 5, 2, 3]⟩, 0)]
set_option maxHeartbeats 16000000 in
theorem lc1_is : coll0 3 (FL 6) (chunk 6 20 1) = some lc1 := eqO_eq eqP_eq (by decide +kernel)
def lc2 : List (S33 × Int) := []
set_option maxHeartbeats 16000000 in
theorem lc2_is : coll0 3 (FL 6) (chunk 6 20 2) = some lc2 := eqO_eq eqP_eq (by decide +kernel)
def lc3 : List (S33 × Int) := []
set_option maxHeartbeats 16000000 in
theorem lc3_is : coll0 3 (FL 6) (chunk 6 20 3) = some lc3 := eqO_eq eqP_eq (by decide +kernel)
def lc4 : List (S33 × Int) := []
set_option maxHeartbeats 16000000 in
theorem lc4_is : coll0 3 (FL 6) (chunk 6 20 4) = some lc4 := eqO_eq eqP_eq (by decide +kernel)
def lc5 : List (S33 × Int) := []
set_option maxHeartbeats 16000000 in
theorem lc5_is : coll0 3 (FL 6) (chunk 6 20 5) = some lc5 := eqO_eq eqP_eq (by decide +kernel)
end Go.Proofs.Ytdaiohcgdpclnaa.LrA
