import Derived.Test.YtpejdgkaapnekaaGreatKPb
import Derived.Test.YtpejdgkaapnekaaGreatKKF0
import Derived.Test.YtpejdgkaapnekaaGreatKKF1
import Derived.Test.YtpejdgkaapnekaaGreatKKF2
import Derived.Test.YtpejdgkaapnekaaGreatKKF3
import Derived.Test.YtpejdgkaapnekaaGreatKKF4
import Derived.Test.YtpejdgkaapnekaaGreatKKF5
set_option linter.unusedVariables false
set_option linter.unusedSimpArgs false
set_option maxHeartbeats 1000000
namespace Go.Proofs.YtpejdgkaapnekaaGreat
open Go Go.Abs
set_option maxRecDepth 1000000
theorem k53:cK Tryz.prog e53:=bD progOk (l:=[]) trivial b53
theorem k69:cK Tryz.prog e69:=bD progOk (l:=[]) trivial b69
theorem k92:cK Tryz.prog e92:=bD progOk (l:=[]) trivial b92
theorem k98:cK Tryz.prog e98:=bD progOk (l:=[e92]) ⟨k92,trivial⟩ b98
theorem UE:cK Tryz.prog Gn:=bD progOk (l:=[]) trivial UF
theorem UG:cK Tryz.prog Fs:=bD progOk (l:=[e53]) ⟨k53,trivial⟩ Sk
theorem UH:cK Tryz.prog Gi:=bD progOk (l:=[]) trivial Uj
theorem GD:cK Tryz.prog pf:=bD progOk (l:=[]) trivial Uk
theorem UI:cK Tryz.prog Gp:=bD progOk (l:=[pf]) ⟨GD,trivial⟩ UJ
theorem UK:cK Tryz.prog Ft:=bD progOk (l:=[]) trivial Sl
theorem UL:cK Tryz.prog Gq:=bD progOk (l:=[Ft]) ⟨UK,trivial⟩ UM
theorem UN:cK Tryz.prog Gr:=bD progOk (l:=[pf,Gq]) ⟨GD,UL,trivial⟩ UO
theorem UP:cK Tryz.prog Gs:=bD progOk (l:=[]) trivial UQ
theorem UR:cK Tryz.prog Fu:=bD progOk (l:=[Gs]) ⟨UP,trivial⟩ US
theorem UT:cK Tryz.prog Fv:=bD progOk (l:=[pf,Fu]) ⟨GD,UR,trivial⟩ Sm
theorem UU:cK Tryz.prog Fw:=bD progOk (l:=[]) trivial Sn
theorem UW:cK Tryz.prog Gt:=bD progOk (l:=[Fw]) ⟨UU,trivial⟩ UX
theorem UY:cK Tryz.prog Gu:=bD progOk (l:=[]) trivial UZ
theorem U7:cK Tryz.prog Gv:=bD progOk (l:=[e53,Gi,Gp,Gr,Fv,pf,Gt,Gu]) ⟨k53,UH,UI,UN,UT,GD,UW,UY,trivial⟩ U8
theorem U9:cK Tryz.prog Gj:=bD progOk (l:=[]) trivial Ul
theorem Vg:cK Tryz.prog Gw:=bD progOk (l:=[]) trivial Vh
theorem Vi:cK Tryz.prog Gx:=bD progOk (l:=[]) trivial Vj
theorem Vk:cK Tryz.prog Gy:=bD progOk (l:=[]) trivial Vl
theorem Vm:cK Tryz.prog Fx:=bD progOk (l:=[]) trivial Sp
theorem Vn:cK Tryz.prog Gk:=bD progOk (l:=[Fx]) ⟨Vm,trivial⟩ Um
theorem Vo:cK Tryz.prog Gz:=bD progOk (l:=[e53,Gj,Gw,Gx,Gy,Gk]) ⟨k53,U9,Vg,Vi,Vk,Vn,trivial⟩ Vp
theorem Vq:cK Tryz.prog Gl:=bD progOk (l:=[]) trivial Vr
theorem Vs:cK Tryz.prog Gm:=bD progOk (l:=[Gl]) ⟨Vq,trivial⟩ Un
theorem Vt:cK Tryz.prog GA:=bD progOk (l:=[e53,Gm]) ⟨k53,Vs,trivial⟩ Vu
theorem Vv:cK Tryz.prog GB:=bD progOk (l:=[e53]) ⟨k53,trivial⟩ Vw
theorem Vx:cK Tryz.prog Fy:=bD progOk (l:=[]) trivial Vy
theorem Vz:cK Tryz.prog Fz:=bD progOk (l:=[e53,Fy]) ⟨k53,Vx,trivial⟩ Sq
theorem P2:cK Tryz.prog PD:=bD progOk (l:=[e53,e69,e98,Gn,Fs,Gv,Gz,GA,GB,Fz]) ⟨k53,k69,k98,UE,UG,U7,Vo,Vt,Vv,Vz,trivial⟩ VA
end Go.Proofs.YtpejdgkaapnekaaGreat
