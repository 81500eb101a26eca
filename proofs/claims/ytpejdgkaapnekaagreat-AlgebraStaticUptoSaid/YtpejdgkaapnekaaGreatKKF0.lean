import Derived.Test.YtpejdgkaapnekaaGreatKPb
import Derived.Test.YtpejdgkaapnekaaGreatKKE
set_option linter.unusedVariables false
set_option linter.unusedSimpArgs false
set_option maxHeartbeats 1000000
namespace Go.Proofs.YtpejdgkaapnekaaGreat
open Go Go.Abs
set_option maxRecDepth 1000000
theorem UM:bh Tryz.prog env cfg [Ft] 40 Gq=true:=by kernel_rfl
theorem UZ:bh Tryz.prog env cfg [] 40 Gu=true:=by kernel_rfl
theorem Vh:bh Tryz.prog env cfg [] 40 Gw=true:=by kernel_rfl
theorem VA:bh Tryz.prog env cfg [e53,e69,e98,Gn,Fs,Gv,Gz,GA,GB,Fz] 40 PD=true:=by kernel_rfl
end Go.Proofs.YtpejdgkaapnekaaGreat
