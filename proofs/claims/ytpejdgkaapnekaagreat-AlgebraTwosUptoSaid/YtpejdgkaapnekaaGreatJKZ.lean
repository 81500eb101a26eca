import Derived.Test.YtpejdgkaapnekaaGreatJPb
import Derived.Test.YtpejdgkaapnekaaGreatJKF0
import Derived.Test.YtpejdgkaapnekaaGreatJKF1
import Derived.Test.YtpejdgkaapnekaaGreatJKF2
import Derived.Test.YtpejdgkaapnekaaGreatJKF3
import Derived.Test.YtpejdgkaapnekaaGreatJKF4
import Derived.Test.YtpejdgkaapnekaaGreatJKF5
set_option linter.unusedVariables false
set_option linter.unusedSimpArgs false
set_option maxHeartbeats 1000000
namespace Go.Proofs.YtpejdgkaapnekaaGreat
open Go Go.Abs
set_option maxRecDepth 1000000
theorem k53 : bS Tryz.prog e53:=b5 progOk (l:=[]) trivial b53
theorem k69 : bS Tryz.prog e69:=b5 progOk (l:=[]) trivial b69
theorem k92 : bS Tryz.prog e92:=b5 progOk (l:=[]) trivial b92
theorem k98 : bS Tryz.prog e98:=b5 progOk (l:=[e92]) ⟨k92,trivial⟩ b98
theorem Gy : bS Tryz.prog yh:=b5 progOk (l:=[]) trivial Gz
theorem GA : bS Tryz.prog xh:=b5 progOk (l:=[e53]) ⟨k53,trivial⟩ Fc
theorem GB : bS Tryz.prog yb:=b5 progOk (l:=[]) trivial Gt
theorem yy : bS Tryz.prog kU:=b5 progOk (l:=[]) trivial Gu
theorem GC : bS Tryz.prog yi:=b5 progOk (l:=[kU]) ⟨yy,trivial⟩ GD
theorem GF : bS Tryz.prog xi:=b5 progOk (l:=[]) trivial Fe
theorem GG : bS Tryz.prog yj:=b5 progOk (l:=[xi]) ⟨GF,trivial⟩ GH
theorem GI : bS Tryz.prog yk:=b5 progOk (l:=[kU,yj]) ⟨yy,GG,trivial⟩ GJ
theorem GK : bS Tryz.prog ym:=b5 progOk (l:=[]) trivial GL
theorem GM : bS Tryz.prog xj:=b5 progOk (l:=[ym]) ⟨GK,trivial⟩ GN
theorem GO : bS Tryz.prog xk:=b5 progOk (l:=[kU,xj]) ⟨yy,GM,trivial⟩ Ff
theorem GP : bS Tryz.prog xl:=b5 progOk (l:=[]) trivial Fg
theorem GQ : bS Tryz.prog yn:=b5 progOk (l:=[xl]) ⟨GP,trivial⟩ GR
theorem GS : bS Tryz.prog yo:=b5 progOk (l:=[]) trivial GU
theorem GV : bS Tryz.prog yp:=b5 progOk (l:=[e53,yb,yi,yk,xk,kU,yn,yo]) ⟨k53,GB,GC,GI,GO,yy,GQ,GS,trivial⟩ GW
theorem GX : bS Tryz.prog yc:=b5 progOk (l:=[]) trivial Gv
theorem GY : bS Tryz.prog yq:=b5 progOk (l:=[]) trivial GZ
theorem G1 : bS Tryz.prog yr:=b5 progOk (l:=[]) trivial G2
theorem G3 : bS Tryz.prog yt:=b5 progOk (l:=[]) trivial G4
theorem G5 : bS Tryz.prog xm:=b5 progOk (l:=[]) trivial Fh
theorem G6 : bS Tryz.prog yd:=b5 progOk (l:=[xm]) ⟨G5,trivial⟩ Gw
theorem G7 : bS Tryz.prog yu:=b5 progOk (l:=[e53,yc,yq,yr,yt,yd]) ⟨k53,GX,GY,G1,G3,G6,trivial⟩ G8
theorem G9 : bS Tryz.prog ye:=b5 progOk (l:=[]) trivial Ha
theorem Hb : bS Tryz.prog yg:=b5 progOk (l:=[ye]) ⟨G9,trivial⟩ Gx
theorem Hc : bS Tryz.prog yw:=b5 progOk (l:=[e53,yg]) ⟨k53,Hb,trivial⟩ Hd
theorem He : bS Tryz.prog yx:=b5 progOk (l:=[e53]) ⟨k53,trivial⟩ Hf
theorem Hg : bS Tryz.prog xn:=b5 progOk (l:=[]) trivial Hh
theorem Hi : bS Tryz.prog xo:=b5 progOk (l:=[e53,xn]) ⟨k53,Hg,trivial⟩ Fi
theorem Hj : bS Tryz.prog Ea:=b5 progOk (l:=[e53,e69,e98,yh,xh,yp,yu,yw,yx,xo]) ⟨k53,k69,k98,Gy,GA,GV,G7,Hc,He,Hi,trivial⟩ Hk
end Go.Proofs.YtpejdgkaapnekaaGreat
