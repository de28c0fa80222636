import Derived.Test.YtonlecigglbohaaLturnK
/- The kernel's look at the gluings of ten sides, part 2. -/
namespace Go.Proofs.Ytonlecigglbohaa.LturnK
open Go.RowKit Go.Proofs.Ytonlecigglbohaa.Q Go.Proofs.YtonlecigglbohaaW.PrintWords Go.Proofs.YtonlecigglbohaaW.PrintMore Go.Proofs.YtonlecigglbohaaW.PrintLast Go.Proofs.Ytonlecigglbohaa.M Go.Proofs.Ytonlecigglbohaa.B Go.Proofs.Ytonlecigglbohaa.Lgv Go.Proofs.Ytonlecigglbohaa.Lgl Go.Proofs.Ytonlecigglbohaa.Lcorn Go.Proofs.Ytonlecigglbohaa.Lturn
set_option maxHeartbeats 16000000 in
theorem t_6 : (gl5 6).all tchk = true := by decide +kernel
set_option maxHeartbeats 16000000 in
theorem t_7 : (gl5 7).all tchk = true := by decide +kernel
set_option maxHeartbeats 16000000 in
theorem t_8 : (gl5 8).all tchk = true := by decide +kernel
end Go.Proofs.Ytonlecigglbohaa.LturnK
