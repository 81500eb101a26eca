import Derived.Test.YtpejdgkaapnekaaGreatGPb
import Derived.Test.YtpejdgkaapnekaaGreatGKF0
import Derived.Test.YtpejdgkaapnekaaGreatGKF1
import Derived.Test.YtpejdgkaapnekaaGreatGKF2
import Derived.Test.YtpejdgkaapnekaaGreatGKF3
import Derived.Test.YtpejdgkaapnekaaGreatGKF4
import Derived.Test.YtpejdgkaapnekaaGreatGKF5
set_option linter.unusedVariables false
set_option linter.unusedSimpArgs false
set_option linter.unnecessarySimpa false
set_option maxHeartbeats 1000000
namespace Go.Proofs.YtpejdgkaapnekaaGreat
open Go Go.Abs
set_option maxRecDepth 1000000
theorem k53 : bO Tryz.prog e53:=bi progOk (l:=[]) trivial b53
theorem k69 : bO Tryz.prog e69:=bi progOk (l:=[]) trivial b69
theorem k92 : bO Tryz.prog e92:=bi progOk (l:=[]) trivial b92
theorem k98 : bO Tryz.prog e98:=bi progOk (l:=[e92]) ⟨k92,trivial⟩ b98
theorem OT : bO Tryz.prog Cf:=bi progOk (l:=[]) trivial OU
theorem OV : bO Tryz.prog Bn:=bi progOk (l:=[e53]) ⟨k53,trivial⟩ Mh
theorem OW : bO Tryz.prog Ca:=bi progOk (l:=[]) trivial Oy
theorem Cw : bO Tryz.prog mV:=bi progOk (l:=[]) trivial Oz
theorem OX : bO Tryz.prog Cg:=bi progOk (l:=[mV]) ⟨Cw,trivial⟩ OY
theorem OZ : bO Tryz.prog Bo:=bi progOk (l:=[]) trivial Mi
theorem O3 : bO Tryz.prog Ch:=bi progOk (l:=[Bo]) ⟨OZ,trivial⟩ O4
theorem O5 : bO Tryz.prog Ci:=bi progOk (l:=[mV,Ch]) ⟨Cw,O3,trivial⟩ O6
theorem O7 : bO Tryz.prog Cj:=bi progOk (l:=[]) trivial O8
theorem O9 : bO Tryz.prog Bp:=bi progOk (l:=[Cj]) ⟨O7,trivial⟩ Pa
theorem Pb : bO Tryz.prog Br:=bi progOk (l:=[mV,Bp]) ⟨Cw,O9,trivial⟩ Mj
theorem Pc : bO Tryz.prog Bt:=bi progOk (l:=[]) trivial Mk
theorem Pd : bO Tryz.prog Ck:=bi progOk (l:=[Bt]) ⟨Pc,trivial⟩ Pe
theorem Pf : bO Tryz.prog Cl:=bi progOk (l:=[]) trivial Pg
theorem Ph : bO Tryz.prog Cn:=bi progOk (l:=[e53,Ca,Cg,Ci,Br,mV,Ck,Cl]) ⟨k53,OW,OX,O5,Pb,Cw,Pd,Pf,trivial⟩ Pi
theorem Pj : bO Tryz.prog Cb:=bi progOk (l:=[]) trivial OA
theorem Pk : bO Tryz.prog Co:=bi progOk (l:=[]) trivial Pm
theorem Pn : bO Tryz.prog Cp:=bi progOk (l:=[]) trivial Po
theorem Pp : bO Tryz.prog Cq:=bi progOk (l:=[]) trivial Pq
theorem Pr : bO Tryz.prog Bu:=bi progOk (l:=[]) trivial Ml
theorem Ps : bO Tryz.prog Cc:=bi progOk (l:=[Bu]) ⟨Pr,trivial⟩ OB
theorem Pt : bO Tryz.prog Cr:=bi progOk (l:=[e53,Cb,Co,Cp,Cq,Cc]) ⟨k53,Pj,Pk,Pn,Pp,Ps,trivial⟩ Pu
theorem Pv : bO Tryz.prog Cd:=bi progOk (l:=[]) trivial Pw
theorem Px : bO Tryz.prog Ce:=bi progOk (l:=[Cd]) ⟨Pv,trivial⟩ OC
theorem Py : bO Tryz.prog Ct:=bi progOk (l:=[e53,Ce]) ⟨k53,Px,trivial⟩ Pz
theorem PA : bO Tryz.prog Cu:=bi progOk (l:=[e53]) ⟨k53,trivial⟩ PB
theorem PC : bO Tryz.prog Bv:=bi progOk (l:=[]) trivial PD
theorem PE : bO Tryz.prog Bw:=bi progOk (l:=[e53,Bv]) ⟨k53,PC,trivial⟩ Mm
theorem PF : bO Tryz.prog JY:=bi progOk (l:=[e53,e69,e98,Cf,Bn,Cn,Cr,Ct,Cu,Bw]) ⟨k53,k69,k98,OT,OV,Ph,Pt,Py,PA,PE,trivial⟩ PG
end Go.Proofs.YtpejdgkaapnekaaGreat
