import Derived.Test.YtdaiohcgdpclnaaLrA
namespace Go.Proofs.Ytdaiohcgdpclnaa.LrA
open Go.RowKit Go.Proofs.YtdaiohcgdpclnaaW.PrintWords Go.Proofs.YtdaiohcgdpclnaaW.PrintMore Go.Proofs.Ytdaiohcgdpclnaa.Q Go.Proofs.Ytdaiohcgdpclnaa.M Go.Proofs.Ytdaiohcgdpclnaa.B
set_option maxRecDepth 100000
def lc9 : List (S33 × Int) := [(⟨[1, 3, 4, 0, 2, 5], [2, 3, 0, 1, 5, 4]⟩, 0),
  (⟨[1, 3, 4, 0, 2, 5], [2, 4, 0, 5, 1, 3]⟩, 0),
  (⟨[1, 3, 4, 0, 5, 2], [2, 3, 0, 1, 5, 4]⟩, 0),
  (⟨[1, 3, 4, 0, 5, 2], [2, 4, 0, 5, 1, 3]⟩, 1),
  (⟨[1, 3, 4, 2, 0, 5], [2, 3, 0, 1, 5, 4]⟩, 0),
  (⟨[1, 3, 4, 2, 0, 5], [2, 4, 0, 5, 1, 3]⟩, 1),
  (⟨[1, 3, 4, 2, 5, 0], [2, 3, 0, 1, 5, 4]⟩, 0),
  (⟨[1, 3, 4, 2, 5, 0], [2, 4, 0, 5, 1, 3]⟩, 1),
  (⟨[1, 3, 4, 5, 0, 2], [2, 3, 0, 1, 5, 4]⟩, 1),
  (⟨[1, 3, 4, 5, 0, 2], [2, 4, 0, 5, 1, 3]⟩, 1),
  (⟨[1, 3, 4, 5, 2, 0], [2, 3, 0, 1, 5, 4]⟩, 0),
  (⟨[1, 3, 4, 5, 2, 0], [2, 4, 0, 5, 1, 3]⟩, 0),
  (⟨[1, 3, 5, 0, 2, 4], [2, 4, 0, 5, 1, 3]⟩, 0),
  (⟨[1, 3, 5, 0, 4, 2], [2, 4, 0, 5, 1, 3]⟩, 0),
  (⟨[1, 3, 5, 2, 0, 4], [2, 4, 0, 5, 1, 3]⟩, 1),
  (⟨[1, 3, 5, 2, 4, 0], [2, 4, 0, 5, 1, 3]⟩, 1),
  (⟨[1, 3, 5, 4, 0, 2], [2, 4, 0, 5, 1, 3]⟩, 1),
  (⟨[1, 3, 5, 4, 2, 0], [2, 4, 0, 5, 1, 3]⟩, 1)]
set_option maxHeartbeats 16000000 in
theorem lc9_is : coll0 3 (FL 6) (chunk 6 20 9) = some lc9 := eqO_eq eqP_eq (by decide +kernel)
def lc10 : List (S33 × Int) := []
set_option maxHeartbeats 16000000 in
theorem lc10_is : coll0 3 (FL 6) (chunk 6 20 10) = some lc10 := eqO_eq eqP_eq (by decide +kernel)
def lc11 : List (S33 × Int) := []
set_option maxHeartbeats 16000000 in
theorem lc11_is : coll0 3 (FL 6) (chunk 6 20 11) = some lc11 := eqO_eq eqP_eq (by decide +kernel)
end Go.Proofs.Ytdaiohcgdpclnaa.LrA
