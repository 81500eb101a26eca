import Derived.Test.YtpejdgkaapnekaaGreatKPb
import Derived.Test.YtpejdgkaapnekaaGreatKKE
set_option linter.unusedVariables false
set_option linter.unusedSimpArgs false
set_option maxHeartbeats 1000000
namespace Go.Proofs.YtpejdgkaapnekaaGreat
open Go Go.Abs
set_option maxRecDepth 1000000
theorem Sk:bh Tryz.prog env cfg [e53] 40 Fs=true:=by kernel_rfl
theorem Sl:bh Tryz.prog env cfg [] 40 Ft=true:=by kernel_rfl
theorem Sm:bh Tryz.prog env cfg [pf,Fu] 40 Fv=true:=by kernel_rfl
theorem Sn:bh Tryz.prog env cfg [] 40 Fw=true:=by kernel_rfl
theorem Sp:bh Tryz.prog env cfg [] 40 Fx=true:=by kernel_rfl
theorem Sq:bh Tryz.prog env cfg [e53,Fy] 40 Fz=true:=by kernel_rfl
end Go.Proofs.YtpejdgkaapnekaaGreat
