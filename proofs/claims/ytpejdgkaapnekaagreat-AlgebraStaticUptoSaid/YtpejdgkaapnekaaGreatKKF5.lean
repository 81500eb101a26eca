import Derived.Test.YtpejdgkaapnekaaGreatKPb
import Derived.Test.YtpejdgkaapnekaaGreatKKE
set_option linter.unusedVariables false
set_option linter.unusedSimpArgs false
set_option maxHeartbeats 1000000
namespace Go.Proofs.YtpejdgkaapnekaaGreat
open Go Go.Abs
set_option maxRecDepth 1000000
theorem UJ:bh Tryz.prog env cfg [pf] 40 Gp=true:=by kernel_rfl
theorem UQ:bh Tryz.prog env cfg [] 40 Gs=true:=by kernel_rfl
theorem US:bh Tryz.prog env cfg [Gs] 40 Fu=true:=by kernel_rfl
theorem U8:bh Tryz.prog env cfg [e53,Gi,Gp,Gr,Fv,pf,Gt,Gu] 40 Gv=true:=by kernel_rfl
theorem Vj:bh Tryz.prog env cfg [] 40 Gx=true:=by kernel_rfl
theorem Vw:bh Tryz.prog env cfg [e53] 40 GB=true:=by kernel_rfl
end Go.Proofs.YtpejdgkaapnekaaGreat
