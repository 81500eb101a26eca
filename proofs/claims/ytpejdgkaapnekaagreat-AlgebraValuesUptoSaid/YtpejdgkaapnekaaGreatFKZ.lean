import Derived.Test.YtpejdgkaapnekaaGreatFPb
import Derived.Test.YtpejdgkaapnekaaGreatFKF0
import Derived.Test.YtpejdgkaapnekaaGreatFKF1
import Derived.Test.YtpejdgkaapnekaaGreatFKF2
import Derived.Test.YtpejdgkaapnekaaGreatFKF3
import Derived.Test.YtpejdgkaapnekaaGreatFKF4
import Derived.Test.YtpejdgkaapnekaaGreatFKF5
set_option linter.unusedVariables false
set_option linter.unusedSimpArgs false
set_option maxHeartbeats 1000000

namespace Go.Proofs.YtpejdgkaapnekaaGreat
open Go Go.Abs
set_option maxRecDepth 1000000
theorem k53 : cr Tryz.prog e53:=bR progOk (l:=[]) trivial b53
theorem k69 : cr Tryz.prog e69:=bR progOk (l:=[]) trivial b69
theorem k92 : cr Tryz.prog e92:=bR progOk (l:=[]) trivial b92
theorem k98 : cr Tryz.prog e98:=bR progOk (l:=[e92]) ⟨k92,trivial⟩ b98
theorem KL : cr Tryz.prog Ai:=bR progOk (l:=[]) trivial KM
theorem KN : cr Tryz.prog zt:=bR progOk (l:=[e53]) ⟨k53,trivial⟩ IT
theorem KO : cr Tryz.prog Ad:=bR progOk (l:=[]) trivial Km
theorem Ay : cr Tryz.prog l7:=bR progOk (l:=[]) trivial Ko
theorem KP : cr Tryz.prog Aj:=bR progOk (l:=[l7]) ⟨Ay,trivial⟩ KQ
theorem KR : cr Tryz.prog zu:=bR progOk (l:=[]) trivial IU
theorem KS : cr Tryz.prog Ak:=bR progOk (l:=[zu]) ⟨KR,trivial⟩ KT
theorem KU : cr Tryz.prog Al:=bR progOk (l:=[l7,Ak]) ⟨Ay,KS,trivial⟩ KV
theorem KW : cr Tryz.prog Am:=bR progOk (l:=[]) trivial KX
theorem KY : cr Tryz.prog zw:=bR progOk (l:=[Am]) ⟨KW,trivial⟩ K4
theorem K5 : cr Tryz.prog zx:=bR progOk (l:=[l7,zw]) ⟨Ay,KY,trivial⟩ IV
theorem K6 : cr Tryz.prog zy:=bR progOk (l:=[]) trivial IW
theorem K7 : cr Tryz.prog Ao:=bR progOk (l:=[zy]) ⟨K6,trivial⟩ K8
theorem K9 : cr Tryz.prog Ap:=bR progOk (l:=[]) trivial La
theorem Lb : cr Tryz.prog Aq:=bR progOk (l:=[e53,Ad,Aj,Al,zx,l7,Ao,Ap]) ⟨k53,KO,KP,KU,K5,Ay,K7,K9,trivial⟩ Lc
theorem Ld : cr Tryz.prog Ae:=bR progOk (l:=[]) trivial Kp
theorem Le : cr Tryz.prog Ar:=bR progOk (l:=[]) trivial Lf
theorem Lg : cr Tryz.prog As:=bR progOk (l:=[]) trivial Lh
theorem Li : cr Tryz.prog At:=bR progOk (l:=[]) trivial Lj
theorem Lk : cr Tryz.prog zA:=bR progOk (l:=[]) trivial IX
theorem Ll : cr Tryz.prog Af:=bR progOk (l:=[zA]) ⟨Lk,trivial⟩ Kq
theorem Lm : cr Tryz.prog Au:=bR progOk (l:=[e53,Ae,Ar,As,At,Af]) ⟨k53,Ld,Le,Lg,Li,Ll,trivial⟩ Ln
theorem Lo : cr Tryz.prog Ag:=bR progOk (l:=[]) trivial Lq
theorem Lr : cr Tryz.prog Ah:=bR progOk (l:=[Ag]) ⟨Lo,trivial⟩ Kr
theorem Lt : cr Tryz.prog Av:=bR progOk (l:=[e53,Ah]) ⟨k53,Lr,trivial⟩ Lu
theorem Lv : cr Tryz.prog Aw:=bR progOk (l:=[e53]) ⟨k53,trivial⟩ Lw
theorem Lx : cr Tryz.prog zB:=bR progOk (l:=[]) trivial Ly
theorem LA : cr Tryz.prog zC:=bR progOk (l:=[e53,zB]) ⟨k53,Lx,trivial⟩ IY
theorem LB : cr Tryz.prog G6:=bR progOk (l:=[e53,e69,e98,Ai,zt,Aq,Au,Av,Aw,zC]) ⟨k53,k69,k98,KL,KN,Lb,Lm,Lt,Lv,LA,trivial⟩ LC
end Go.Proofs.YtpejdgkaapnekaaGreat
