import Derived.Test.YtpejdgkaapnekaaGreatWPb
import Derived.Test.YtpejdgkaapnekaaGreatWKF0
import Derived.Test.YtpejdgkaapnekaaGreatWKF1
import Derived.Test.YtpejdgkaapnekaaGreatWKF2
import Derived.Test.YtpejdgkaapnekaaGreatWKF3
import Derived.Test.YtpejdgkaapnekaaGreatWKF4
import Derived.Test.YtpejdgkaapnekaaGreatWKF5
set_option linter.unusedVariables false
set_option linter.unusedSimpArgs false
set_option linter.unnecessarySimpa false
set_option maxHeartbeats 1000000
namespace Go.Proofs.YtpejdgkaapnekaaGreat
open Go Go.Abs
set_option maxRecDepth 1000000
theorem k53 : bT Tryz.prog e53:=bf progOk (l:=[]) trivial b53
theorem k69 : bT Tryz.prog e69:=bf progOk (l:=[]) trivial b69
theorem k92 : bT Tryz.prog e92:=bf progOk (l:=[]) trivial b92
theorem k98 : bT Tryz.prog e98:=bf progOk (l:=[e92]) ⟨k92,trivial⟩ b98
theorem NM : bT Tryz.prog B4:=bf progOk (l:=[]) trivial NO
theorem NP : bT Tryz.prog Bj:=bf progOk (l:=[e53]) ⟨k53,trivial⟩ Lb
theorem NQ : bT Tryz.prog BZ:=bf progOk (l:=[]) trivial M6
theorem Cj : bT Tryz.prog mG:=bf progOk (l:=[]) trivial M7
theorem NR : bT Tryz.prog B5:=bf progOk (l:=[mG]) ⟨Cj,trivial⟩ NS
theorem NT : bT Tryz.prog Bk:=bf progOk (l:=[]) trivial Lc
theorem NU : bT Tryz.prog B6:=bf progOk (l:=[Bk]) ⟨NT,trivial⟩ NV
theorem NW : bT Tryz.prog B7:=bf progOk (l:=[mG,B6]) ⟨Cj,NU,trivial⟩ NX
theorem NY : bT Tryz.prog B8:=bf progOk (l:=[]) trivial NZ
theorem N1 : bT Tryz.prog Bl:=bf progOk (l:=[B8]) ⟨NY,trivial⟩ N2
theorem N3 : bT Tryz.prog Bm:=bf progOk (l:=[mG,Bl]) ⟨Cj,N1,trivial⟩ Ld
theorem N4 : bT Tryz.prog Bn:=bf progOk (l:=[]) trivial Le
theorem N5 : bT Tryz.prog B9:=bf progOk (l:=[Bn]) ⟨N4,trivial⟩ N6
theorem N7 : bT Tryz.prog Ca:=bf progOk (l:=[]) trivial N8
theorem N9 : bT Tryz.prog Cb:=bf progOk (l:=[e53,BZ,B5,B7,Bm,mG,B9,Ca]) ⟨k53,NQ,NR,NW,N3,Cj,N5,N7,trivial⟩ Oa
theorem Ob : bT Tryz.prog B0:=bf progOk (l:=[]) trivial M8
theorem Oc : bT Tryz.prog Cc:=bf progOk (l:=[]) trivial Od
theorem Oe : bT Tryz.prog Cd:=bf progOk (l:=[]) trivial Of
theorem Og : bT Tryz.prog Ce:=bf progOk (l:=[]) trivial Oh
theorem Oi : bT Tryz.prog Bo:=bf progOk (l:=[]) trivial Lf
theorem Oj : bT Tryz.prog B1:=bf progOk (l:=[Bo]) ⟨Oi,trivial⟩ M9
theorem Ol : bT Tryz.prog Cf:=bf progOk (l:=[e53,B0,Cc,Cd,Ce,B1]) ⟨k53,Ob,Oc,Oe,Og,Oj,trivial⟩ Om
theorem On : bT Tryz.prog B2:=bf progOk (l:=[]) trivial Oo
theorem Oq : bT Tryz.prog B3:=bf progOk (l:=[B2]) ⟨On,trivial⟩ Na
theorem Ot : bT Tryz.prog Cg:=bf progOk (l:=[e53,B3]) ⟨k53,Oq,trivial⟩ Ou
theorem Ov : bT Tryz.prog Ch:=bf progOk (l:=[e53]) ⟨k53,trivial⟩ Ow
theorem Ox : bT Tryz.prog Bp:=bf progOk (l:=[]) trivial Oy
theorem Oz : bT Tryz.prog Br:=bf progOk (l:=[e53,Bp]) ⟨k53,Ox,trivial⟩ Lg
theorem OA : bT Tryz.prog I8:=bf progOk (l:=[e53,e69,e98,B4,Bj,Cb,Cf,Cg,Ch,Br]) ⟨k53,k69,k98,NM,NP,N9,Ol,Ot,Ov,Oz,trivial⟩ OB
end Go.Proofs.YtpejdgkaapnekaaGreat
