import Derived.Test.YtpejdgkaapnekaaGreatXPb
import Derived.Test.YtpejdgkaapnekaaGreatXKF0
import Derived.Test.YtpejdgkaapnekaaGreatXKF1
import Derived.Test.YtpejdgkaapnekaaGreatXKF2
import Derived.Test.YtpejdgkaapnekaaGreatXKF3
import Derived.Test.YtpejdgkaapnekaaGreatXKF4
import Derived.Test.YtpejdgkaapnekaaGreatXKF5
set_option linter.unusedVariables false
set_option linter.unusedSimpArgs false
set_option maxHeartbeats 1000000
namespace Go.Proofs.YtpejdgkaapnekaaGreat
open Go Go.Abs
set_option maxRecDepth 1000000
theorem k53 : b0 Tryz.prog e53:=br progOk (l:=[]) trivial b53
theorem k69 : b0 Tryz.prog e69:=br progOk (l:=[]) trivial b69
theorem k92 : b0 Tryz.prog e92:=br progOk (l:=[]) trivial b92
theorem k98 : b0 Tryz.prog e98:=br progOk (l:=[e92]) ⟨k92,trivial⟩ b98
theorem Rj : b0 Tryz.prog D0:=br progOk (l:=[]) trivial Rk
theorem Rm : b0 Tryz.prog CV:=br progOk (l:=[e53]) ⟨k53,trivial⟩ OG
theorem Rn : b0 Tryz.prog DV:=br progOk (l:=[]) trivial QK
theorem Eg : b0 Tryz.prog nR:=br progOk (l:=[]) trivial QL
theorem Ro : b0 Tryz.prog D1:=br progOk (l:=[nR]) ⟨Eg,trivial⟩ Rp
theorem Rq : b0 Tryz.prog CW:=br progOk (l:=[]) trivial OH
theorem Rr : b0 Tryz.prog D2:=br progOk (l:=[CW]) ⟨Rq,trivial⟩ Rs
theorem Rt : b0 Tryz.prog D3:=br progOk (l:=[nR,D2]) ⟨Eg,Rr,trivial⟩ Ru
theorem Rv : b0 Tryz.prog D4:=br progOk (l:=[]) trivial Rx
theorem Ry : b0 Tryz.prog CX:=br progOk (l:=[D4]) ⟨Rv,trivial⟩ Rz
theorem RA : b0 Tryz.prog CY:=br progOk (l:=[nR,CX]) ⟨Eg,Ry,trivial⟩ OI
theorem RB : b0 Tryz.prog CZ:=br progOk (l:=[]) trivial OJ
theorem RC : b0 Tryz.prog D5:=br progOk (l:=[CZ]) ⟨RB,trivial⟩ RD
theorem RE : b0 Tryz.prog D6:=br progOk (l:=[]) trivial RF
theorem RG : b0 Tryz.prog D7:=br progOk (l:=[e53,DV,D1,D3,CY,nR,D5,D6]) ⟨k53,Rn,Ro,Rt,RA,Eg,RC,RE,trivial⟩ RH
theorem RI : b0 Tryz.prog DW:=br progOk (l:=[]) trivial QM
theorem RJ : b0 Tryz.prog D8:=br progOk (l:=[]) trivial RL
theorem RM : b0 Tryz.prog D9:=br progOk (l:=[]) trivial RN
theorem RO : b0 Tryz.prog Ea:=br progOk (l:=[]) trivial RP
theorem RQ : b0 Tryz.prog C6:=br progOk (l:=[]) trivial OK
theorem RR : b0 Tryz.prog DX:=br progOk (l:=[C6]) ⟨RQ,trivial⟩ QN
theorem RS : b0 Tryz.prog Eb:=br progOk (l:=[e53,DW,D8,D9,Ea,DX]) ⟨k53,RI,RJ,RM,RO,RR,trivial⟩ RT
theorem RU : b0 Tryz.prog DY:=br progOk (l:=[]) trivial RV
theorem RW : b0 Tryz.prog DZ:=br progOk (l:=[DY]) ⟨RU,trivial⟩ QO
theorem RX : b0 Tryz.prog Ec:=br progOk (l:=[e53,DZ]) ⟨k53,RW,trivial⟩ RY
theorem RZ : b0 Tryz.prog Ed:=br progOk (l:=[e53]) ⟨k53,trivial⟩ R6
theorem R7 : b0 Tryz.prog C7:=br progOk (l:=[]) trivial R8
theorem R9 : b0 Tryz.prog C8:=br progOk (l:=[e53,C7]) ⟨k53,R7,trivial⟩ OL
theorem Sa : b0 Tryz.prog LS:=br progOk (l:=[e53,e69,e98,D0,CV,D7,Eb,Ec,Ed,C8]) ⟨k53,k69,k98,Rj,Rm,RG,RS,RX,RZ,R9,trivial⟩ Se
end Go.Proofs.YtpejdgkaapnekaaGreat
