import Derived.Test.YtonlecigglbohaaLturnK
/- The kernel's look at the gluings of ten sides, part 1. -/
namespace Go.Proofs.Ytonlecigglbohaa.LturnK
open Go.RowKit Go.Proofs.Ytonlecigglbohaa.Q Go.Proofs.YtonlecigglbohaaW.PrintWords Go.Proofs.YtonlecigglbohaaW.PrintMore Go.Proofs.YtonlecigglbohaaW.PrintLast Go.Proofs.Ytonlecigglbohaa.M Go.Proofs.Ytonlecigglbohaa.B Go.Proofs.Ytonlecigglbohaa.Lgv Go.Proofs.Ytonlecigglbohaa.Lgl Go.Proofs.Ytonlecigglbohaa.Lcorn Go.Proofs.Ytonlecigglbohaa.Lturn
set_option maxHeartbeats 16000000 in
theorem t_3 : (gl5 3).all tchk = true := by decide +kernel
set_option maxHeartbeats 16000000 in
theorem t_4 : (gl5 4).all tchk = true := by decide +kernel
set_option maxHeartbeats 16000000 in
theorem t_5 : (gl5 5).all tchk = true := by decide +kernel
end Go.Proofs.Ytonlecigglbohaa.LturnK
