import Derived.Test.YtpejdgkaapnekaaGreatIPb
import Derived.Test.YtpejdgkaapnekaaGreatIKF0
import Derived.Test.YtpejdgkaapnekaaGreatIKF1
import Derived.Test.YtpejdgkaapnekaaGreatIKF2
import Derived.Test.YtpejdgkaapnekaaGreatIKF3
import Derived.Test.YtpejdgkaapnekaaGreatIKF4
import Derived.Test.YtpejdgkaapnekaaGreatIKF5
set_option linter.unusedVariables false
set_option linter.unusedSimpArgs false
set_option maxHeartbeats 1000000
namespace Go.Proofs.YtpejdgkaapnekaaGreat
open Go Go.Abs
set_option maxRecDepth 1000000
theorem k53:bD Tryz.prog e53:=bL progOk (l:=[]) trivial b53
theorem k69:bD Tryz.prog e69:=bL progOk (l:=[]) trivial b69
theorem k92:bD Tryz.prog e92:=bL progOk (l:=[]) trivial b92
theorem k98:bD Tryz.prog e98:=bL progOk (l:=[e92]) ⟨k92,trivial⟩ b98
theorem Ff:bD Tryz.prog xn:=bL progOk (l:=[]) trivial Fg
theorem Fh:bD Tryz.prog wq:=bL progOk (l:=[e53]) ⟨k53,trivial⟩ Ed
theorem Fi:bD Tryz.prog xi:=bL progOk (l:=[]) trivial E9
theorem xD:bD Tryz.prog kC:=bL progOk (l:=[]) trivial Fa
theorem Fj:bD Tryz.prog xo:=bL progOk (l:=[kC]) ⟨xD,trivial⟩ Fk
theorem Fl:bD Tryz.prog wu:=bL progOk (l:=[]) trivial Ee
theorem Fm:bD Tryz.prog xp:=bL progOk (l:=[wu]) ⟨Fl,trivial⟩ Fo
theorem Fp:bD Tryz.prog xq:=bL progOk (l:=[kC,xp]) ⟨xD,Fm,trivial⟩ Fq
theorem Fs:bD Tryz.prog xr:=bL progOk (l:=[]) trivial Ft
theorem Fu:bD Tryz.prog wv:=bL progOk (l:=[xr]) ⟨Fs,trivial⟩ Fv
theorem Fw:bD Tryz.prog wy:=bL progOk (l:=[kC,wv]) ⟨xD,Fu,trivial⟩ Eg
theorem Fx:bD Tryz.prog wz:=bL progOk (l:=[]) trivial Eh
theorem Fy:bD Tryz.prog xt:=bL progOk (l:=[wz]) ⟨Fx,trivial⟩ Fz
theorem FA:bD Tryz.prog xu:=bL progOk (l:=[]) trivial FB
theorem FC:bD Tryz.prog xv:=bL progOk (l:=[e53,xi,xo,xq,wy,kC,xt,xu]) ⟨k53,Fi,Fj,Fp,Fw,xD,Fy,FA,trivial⟩ FD
theorem FE:bD Tryz.prog xj:=bL progOk (l:=[]) trivial Fb
theorem FF:bD Tryz.prog xw:=bL progOk (l:=[]) trivial FG
theorem FH:bD Tryz.prog xx:=bL progOk (l:=[]) trivial FI
theorem FJ:bD Tryz.prog xy:=bL progOk (l:=[]) trivial FK
theorem FL:bD Tryz.prog wA:=bL progOk (l:=[]) trivial Ei
theorem FM:bD Tryz.prog xk:=bL progOk (l:=[wA]) ⟨FL,trivial⟩ Fc
theorem FN:bD Tryz.prog xz:=bL progOk (l:=[e53,xj,xw,xx,xy,xk]) ⟨k53,FE,FF,FH,FJ,FM,trivial⟩ FO
theorem FP:bD Tryz.prog xl:=bL progOk (l:=[]) trivial FQ
theorem FR:bD Tryz.prog xm:=bL progOk (l:=[xl]) ⟨FP,trivial⟩ Fe
theorem FT:bD Tryz.prog xA:=bL progOk (l:=[e53,xm]) ⟨k53,FR,trivial⟩ FU
theorem FV:bD Tryz.prog xB:=bL progOk (l:=[e53]) ⟨k53,trivial⟩ FW
theorem FX:bD Tryz.prog wC:=bL progOk (l:=[]) trivial FY
theorem FZ:bD Tryz.prog wD:=bL progOk (l:=[e53,wC]) ⟨k53,FX,trivial⟩ Ej
theorem F0:bD Tryz.prog C9:=bL progOk (l:=[e53,e69,e98,xn,wq,xv,xz,xA,xB,wD]) ⟨k53,k69,k98,Ff,Fh,FC,FN,FT,FV,FZ,trivial⟩ F1
end Go.Proofs.YtpejdgkaapnekaaGreat
