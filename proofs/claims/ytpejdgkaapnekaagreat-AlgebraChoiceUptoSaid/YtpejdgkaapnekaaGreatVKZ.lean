import Derived.Test.YtpejdgkaapnekaaGreatVPb
import Derived.Test.YtpejdgkaapnekaaGreatVKF0
import Derived.Test.YtpejdgkaapnekaaGreatVKF1
import Derived.Test.YtpejdgkaapnekaaGreatVKF2
import Derived.Test.YtpejdgkaapnekaaGreatVKF3
import Derived.Test.YtpejdgkaapnekaaGreatVKF4
import Derived.Test.YtpejdgkaapnekaaGreatVKF5
set_option linter.unusedVariables false
set_option linter.unusedSimpArgs false
set_option linter.unnecessarySimpa false
set_option maxHeartbeats 1000000
namespace Go.Proofs.YtpejdgkaapnekaaGreat
open Go Go.Abs
set_option maxRecDepth 1000000
theorem k53 : bJ Tryz.prog e53:=aZ progOk (l:=[]) trivial b53
theorem k69 : bJ Tryz.prog e69:=aZ progOk (l:=[]) trivial b69
theorem k92 : bJ Tryz.prog e92:=aZ progOk (l:=[]) trivial b92
theorem k98 : bJ Tryz.prog e98:=aZ progOk (l:=[e92]) ⟨k92,trivial⟩ b98
theorem LR : bJ Tryz.prog Bk:=aZ progOk (l:=[]) trivial LS
theorem LU : bJ Tryz.prog Au:=aZ progOk (l:=[e53]) ⟨k53,trivial⟩ JA
theorem LV : bJ Tryz.prog Bf:=aZ progOk (l:=[]) trivial Lr
theorem BA : bJ Tryz.prog mj:=aZ progOk (l:=[]) trivial Lt
theorem LW : bJ Tryz.prog Bl:=aZ progOk (l:=[mj]) ⟨BA,trivial⟩ LX
theorem LY : bJ Tryz.prog Av:=aZ progOk (l:=[]) trivial JB
theorem LZ : bJ Tryz.prog Bm:=aZ progOk (l:=[Av]) ⟨LY,trivial⟩ L5
theorem L6 : bJ Tryz.prog Bn:=aZ progOk (l:=[mj,Bm]) ⟨BA,LZ,trivial⟩ L7
theorem L8 : bJ Tryz.prog Bo:=aZ progOk (l:=[]) trivial Ma
theorem Mb : bJ Tryz.prog Aw:=aZ progOk (l:=[Bo]) ⟨L8,trivial⟩ Mc
theorem Md : bJ Tryz.prog Ax:=aZ progOk (l:=[mj,Aw]) ⟨BA,Mb,trivial⟩ JC
theorem Me : bJ Tryz.prog Ay:=aZ progOk (l:=[]) trivial JD
theorem Mf : bJ Tryz.prog Bp:=aZ progOk (l:=[Ay]) ⟨Me,trivial⟩ Mg
theorem Mh : bJ Tryz.prog Br:=aZ progOk (l:=[]) trivial Mi
theorem Mj : bJ Tryz.prog Bs:=aZ progOk (l:=[e53,Bf,Bl,Bn,Ax,mj,Bp,Br]) ⟨k53,LV,LW,L6,Md,BA,Mf,Mh,trivial⟩ Mk
theorem Ml : bJ Tryz.prog Bg:=aZ progOk (l:=[]) trivial Lu
theorem Mm : bJ Tryz.prog Bt:=aZ progOk (l:=[]) trivial Mn
theorem Mo : bJ Tryz.prog Bu:=aZ progOk (l:=[]) trivial Mp
theorem Mq : bJ Tryz.prog Bv:=aZ progOk (l:=[]) trivial Mr
theorem Ms : bJ Tryz.prog Az:=aZ progOk (l:=[]) trivial JE
theorem Mt : bJ Tryz.prog Bh:=aZ progOk (l:=[Az]) ⟨Ms,trivial⟩ Lv
theorem Mu : bJ Tryz.prog Bw:=aZ progOk (l:=[e53,Bg,Bt,Bu,Bv,Bh]) ⟨k53,Ml,Mm,Mo,Mq,Mt,trivial⟩ Mv
theorem Mw : bJ Tryz.prog Bi:=aZ progOk (l:=[]) trivial Mx
theorem My : bJ Tryz.prog Bj:=aZ progOk (l:=[Bi]) ⟨Mw,trivial⟩ Lw
theorem Mz : bJ Tryz.prog Bx:=aZ progOk (l:=[e53,Bj]) ⟨k53,My,trivial⟩ MA
theorem MB : bJ Tryz.prog By:=aZ progOk (l:=[e53]) ⟨k53,trivial⟩ MC
theorem MD : bJ Tryz.prog AA:=aZ progOk (l:=[]) trivial ME
theorem MF : bJ Tryz.prog AB:=aZ progOk (l:=[e53,AA]) ⟨k53,MD,trivial⟩ JF
theorem MG : bJ Tryz.prog HQ:=aZ progOk (l:=[e53,e69,e98,Bk,Au,Bs,Bw,Bx,By,AB]) ⟨k53,k69,k98,LR,LU,Mj,Mu,Mz,MB,MF,trivial⟩ MH
end Go.Proofs.YtpejdgkaapnekaaGreat
