import Derived.Test.YtpejdgkaapnekaaGreatKPb
import Derived.Test.YtpejdgkaapnekaaGreatKKE
set_option linter.unusedVariables false
set_option linter.unusedSimpArgs false
set_option maxHeartbeats 1000000
namespace Go.Proofs.YtpejdgkaapnekaaGreat
open Go Go.Abs
set_option maxRecDepth 1000000
theorem b53:bh Tryz.prog env cfg [] 40 e53=true:=by kernel_rfl
theorem Uj:bh Tryz.prog env cfg [] 40 Gi=true:=by kernel_rfl
theorem Uk:bh Tryz.prog env cfg [] 40 pf=true:=by kernel_rfl
theorem Ul:bh Tryz.prog env cfg [] 40 Gj=true:=by kernel_rfl
theorem Um:bh Tryz.prog env cfg [Fx] 40 Gk=true:=by kernel_rfl
theorem Un:bh Tryz.prog env cfg [Gl] 40 Gm=true:=by kernel_rfl
end Go.Proofs.YtpejdgkaapnekaaGreat
