import Derived.Test.YtpejdgkaapnekaaGreatGPb
set_option linter.unusedVariables false
set_option linter.unusedSimpArgs false
set_option linter.unnecessarySimpa false
set_option maxHeartbeats 1000000
namespace Go.Proofs.YtpejdgkaapnekaaGreat
open Go Go.Abs
set_option maxRecDepth 1000000
def cfg : Cfg:=⟨[190,216,217,181,231,271,272,273,274,275,276,277,278,338,339,340,368],[(23,[5]),(34,[6,18,22])]⟩
def xI(n : Nat) : D:=.int .i64 (.ofNat n)
def xS(l : List Nat) : D:=.str (u8s l)
def xE : D:=.str []
def m7 : List (List D):=[[xS [120],xI 0,xI 3],[xS [121],xI 0,xI 1]]
def m0 : List AC:=[.d (.sl 3 32 m7),.d (.sl 2 24 [[xS [118],xI 2]]),.d (.sl 2 48 [[.sl 1 8 [[xI 0],[xI 0]],.sl 4 40 [[xI 2,xI 5,xI 1,xE]]],[.sl 1 8 [[xI 1],[xI 0]],.sl 4 40 [[xI 2,xI 7,xI 1,xE]]],[.sl 1 8 [[xI 1],[xI 1]],.sl 4 40 [[xI 0,xI 1,xI 0,xE]]],[.sl 1 8 [[xI 3],[xI 1]],.sl 4 40 [[xI 2,xI 2,xI 1,xE]]]])]
def m1 : List (List D):=[[.sl 1 8 [[xI 0],[xI 0]],.sl 4 40 [[xI 2,xI 5,xI 1,xE]]],[.sl 1 8 [[xI 1],[xI 0]],.sl 4 40 [[xI 2,xI 7,xI 1,xE]]],[.sl 1 8 [[xI 1],[xI 1]],.sl 4 40 [[xI 0,xI 1,xI 0,xE]]],[.sl 1 8 [[xI 3],[xI 1]],.sl 4 40 [[xI 2,xI 2,xI 1,xE]]],[.sl 1 8 [[xI 4],[xI 0]],.sl 4 40 [[xI 2,xI 5,xI 1,xE]]],[.sl 1 8 [[xI 5],[xI 0]],.sl 4 40 [[xI 2,xI 7,xI 1,xE]]],[.sl 1 8 [[xI 5],[xI 1]],.sl 4 40 [[xI 0,xI 1,xI 0,xE]]],[.sl 1 8 [[xI 7],[xI 1]],.sl 4 40 [[xI 2,xI 2,xI 1,xE]]]]
def m2 : List (List D):=[[.sl 1 8 [[xI 1]],.sl 4 40 [[xI 2,xI 5,xI 1,xE]]],[.sl 1 8 [[xI 3]],.sl 4 40 [[xI 2,xI 7,xI 1,xE]]],[.sl 1 8 [[xI 4]],.sl 4 40 [[xI 0,xI 1,xI 0,xE]]],[.sl 1 8 [[xI 8]],.sl 4 40 [[xI 2,xI 2,xI 1,xE]]]]
def m3 : List AC:=[.d (xI 17),.d (xE),.d (xI 0),.d (xI 0),.d (xI 0),.d (xE),.d (.sl 7 88 [[xI 2,xS [118],xI 0,xI 0,xI 0,xE,.nil],[xI 1,xE,xI 2,xI 2,xI 1,xE,.nil]])]
def m4 : List (Bool×List AC):=[(true,[.d (.sl 3 32 m7),.d (.sl 2 24 [[xS [118],xI 2]]),.d (.sl 2 48 [[.sl 1 8 [[xI 0],[xI 0]],.sl 4 40 [[xI 2,xI 5,xI 1,xE]]],[.sl 1 8 [[xI 1],[xI 0]],.sl 4 40 [[xI 2,xI 7,xI 1,xE]]]])]),(false,[.d (xI 0)])]
def m5 : List (Bool×List AC):=[(true,[.d (.sl 3 32 [[xS [121],xI 0,xI 1]]),.d (.sl 2 24 [[xS [118],xI 2]]),.d (.sl 2 48 [[.sl 1 8 [[xI 0]],.sl 4 40 [[xI 2,xI 7,xI 1,xE]]],[.sl 1 8 [[xI 1]],.sl 4 40 [[xI 2,xI 2,xI 1,xE]]]])]),(false,[.d (xI 0)])]
def m6 : List D:=[.bool false,.sl 1 4 [[.int .u32 (.ofNat 2)]],.sl 1 4 [[.int .u32 (.ofNat 1)]]]
def m8 : List AC:=[.d (xI 12),.d (xE),.d (xI 0),.d (xI 0),.d (xI 0),.d (xE),.d (.sl 7 88 [[xI 2,xS [118],xI 0,xI 0,xI 0,xE,.nil],[xI 1,xE,xI 2,xI 2,xI 1,xE,.nil]])]
def m9 : List (Bool×List AC):=[(true,[.d (.sl 3 32 [[xS [120],xI 0,xI 7],[xS [121],xI 0,xI 1]]),.d (.sl 2 24 [[xS [118],xI 2]]),.d (.sl 2 48 m1)]),(false,[.d (xI 0)])]
def m10 : List (Bool×List AC):=[(true,[.d (.sl 3 32 [[xS [122],xI 1,xI 8]]),.d (.sl 2 24 [[xS [118],xI 2]]),.d (.sl 2 48 m2)]),(false,[.d (xI 0)])]
def m11 : List D:=[.bool false,.sl 1 4 [[.int .u32 (.ofNat 5)]],.sl 1 4 [[.int .u32 (.ofNat 1)]]]
def e53 : Ent:=⟨59,false,[.agg m0],[],.one (.d (xI 0)),[]⟩
def e69 : Ent:=⟨87,false,[.agg m8],[],.one (.d (xI 0)),[]⟩
def e92 : Ent:=⟨226,false,[.one (.d (xI 12)),.one (.d (xI 2))],[],.tup [(true,[.d (xI 2),.d (.fn 350 [.ptr [xI 2]]),.d (.fn 304 []),.d (.bool false),.d (.fn 324 [])]),(false,[.d (.bool true)])],[]⟩
def e98 : Ent:=⟨88,false,[.agg m0,.agg m8],[],.tup [(false,[.d (xI 3)]),(false,[.d (xI 0)])],[]⟩
def Cf : Ent:=⟨87,false,[.agg [.d (xI 19),.d (xE),.d (xI 0),.d (xI 0),.d (xI 0),.d (xE),.d (.sl 7 88 [[xI 2,xS [118],xI 0,xI 0,xI 0,xE,.nil],[xI 2,xS [119],xI 0,xI 0,xI 0,xE,.nil]])]],[],.one (.d (xI 0)),[]⟩
def Bn : Ent:=⟨23,false,[.agg m0,.one (.d (.sl 1 8 [[xI 1],[xI 0]])),.one (.d (.sl 1 8 [[xI 9],[xI 0]]))],[],.tup [(true,[.d (.sl 3 32 [[xS [120],xI 1,xI 3],[xS [121],xI 0,xI 0]]),.d (.sl 2 24 [[xS [118],xI 2]]),.d (.sl 2 48 [[.sl 1 8 [[xI 1],[xI 0]],.sl 4 40 [[xI 2,xI 7,xI 1,xE]]]])]),(false,[.d (xI 0)])],[]⟩
def Ca : Ent:=⟨87,false,[.agg m3],[],.one (.d (xI 0)),[]⟩
def mV : Ent:=⟨226,false,[.one (.d (xI 17)),.one (.d (xI 2))],[],.tup [(true,[.d (xI 2),.d (.fn 333 []),.d (.fn 363 []),.d (.bool false),.d (.fn 364 [.ptr [.fn 330 []]])]),(false,[.d (.bool true)])],[]⟩
def Cg : Ent:=⟨88,false,[.agg m0,.agg m3],[],.tup [(false,[.d (xI 1)]),(false,[.d (xI 0)])],[]⟩
def Bo : Ent:=⟨359,false,[.one (.d (.ptr m11)),.one (.d (.ptr m6)),.one (.d (.bool true))],[],.one (.d (.ptr [.bool false,.sl 1 4 [[.int .u32 (.ofNat 3)]],.sl 1 4 [[.int .u32 (.ofNat 1)]]])),[]⟩
def Ch : Ent:=⟨365,false,[.agg [.d (xI 2),.d (xI 5),.d (xI 1),.d (xE)],.agg [.d (xI 2),.d (xI 2),.d (xI 1),.d (xE)]],[],.one (.d (xI 1)),[]⟩
def Ci : Ent:=⟨102,false,[.agg m0,.agg m3,.agg [.d (.sl 1 8 [[xI 0],[xI 0]]),.d (.sl 4 40 [[xI 2,xI 5,xI 1,xE]])]],[],.agg [.d (xI 1),.d (xI 1),.d (xI 0),.d (xE)],[]⟩
def Cj : Ent:=⟨359,false,[.one (.d (.ptr [.bool false,.sl 1 4 [[.int .u32 (.ofNat 7)]],.sl 1 4 [[.int .u32 (.ofNat 1)]]])),.one (.d (.ptr m6)),.one (.d (.bool true))],[],.one (.d (.ptr m11)),[]⟩
def Bp : Ent:=⟨365,false,[.agg [.d (xI 2),.d (xI 7),.d (xI 1),.d (xE)],.agg [.d (xI 2),.d (xI 2),.d (xI 1),.d (xE)]],[],.one (.d (xI 1)),[]⟩
def Br : Ent:=⟨102,false,[.agg m0,.agg m3,.agg [.d (.sl 1 8 [[xI 1],[xI 0]]),.d (.sl 4 40 [[xI 2,xI 7,xI 1,xE]])]],[],.agg [.d (xI 1),.d (xI 1),.d (xI 0),.d (xE)],[]⟩
def Bt : Ent:=⟨359,false,[.one (.d (.ptr m6)),.one (.d (.ptr m6)),.one (.d (.bool true))],[],.one (.d (.ptr [.bool false,.sl 1 4 [],.sl 1 4 [[.int .u32 (.ofNat 1)]]])),[]⟩
def Ck : Ent:=⟨364,false,[.one (.d (.sl 4 40 [[xI 2,xI 2,xI 1,xE],[xI 2,xI 2,xI 1,xE]])),.one (.d (.ptr [.fn 330 []]))],[],.agg [.d (xI 1),.d (xI 0),.d (xI 0),.d (xE)],[]⟩
def Cl : Ent:=⟨99,false,[.one (.d (.sl 3 32 m7)),.one (.d (.sl 2 24 [[xS [118],xI 2]])),.one (.d (.sl 2 48 [[.sl 1 8 [[xI 0],[xI 0]],.sl 4 40 [[xI 2,xI 5,xI 1,xE]]],[.sl 1 8 [[xI 1],[xI 0]],.sl 4 40 [[xI 2,xI 7,xI 1,xE]]]]))],[],.tup m4,[]⟩
def Cn : Ent:=⟨26,false,[.agg m0,.agg m3],[],.tup m4,[]⟩
def Cb : Ent:=⟨133,false,[.one (.d (.sl 3 32 m7)),.one (.d (.sl 1 8 [[xI 0],[xI 0]]))],[],.tup [(false,[.d (xI 0)]),(false,[.d (xI 0)])],[]⟩
def Co : Ent:=⟨133,false,[.one (.d (.sl 3 32 m7)),.one (.d (.sl 1 8 [[xI 1],[xI 0]]))],[],.tup [(false,[.d (xI 2)]),(false,[.d (xI 0)])],[]⟩
def Cp : Ent:=⟨133,false,[.one (.d (.sl 3 32 m7)),.one (.d (.sl 1 8 [[xI 1],[xI 1]]))],[],.tup [(false,[.d (xI 3)]),(false,[.d (xI 0)])],[]⟩
def Cq : Ent:=⟨133,false,[.one (.d (.sl 3 32 m7)),.one (.d (.sl 1 8 [[xI 3],[xI 1]]))],[],.tup [(false,[.d (xI 7)]),(false,[.d (xI 0)])],[]⟩
def Bu : Ent:=⟨271,false,[.one (.own 1000000 4),.one (.d (xI 0)),.one (.d (xI 4)),.one (.d (.fn 182 []))],[(1000000,.row 2 48 m2)],.tup [],[(1000000,.row 2 48 m2)]⟩
def Cc : Ent:=⟨99,false,[.one (.d (.sl 3 32 [[xS [122],xI 1,xI 8]])),.one (.d (.sl 2 24 [[xS [118],xI 2]])),.one (.d (.sl 2 48 m2))],[],.tup m10,[]⟩
def Cr : Ent:=⟨40,false,[.agg m0,.one (.d (.sl 3 32 [[xS [122],xI 1,xI 8]]))],[],.tup m10,[]⟩
def Cd : Ent:=⟨271,false,[.one (.own 1000000 8),.one (.d (xI 0)),.one (.d (xI 8)),.one (.d (.fn 182 []))],[(1000000,.row 2 48 m1)],.tup [],[(1000000,.row 2 48 m1)]⟩
def Ce : Ent:=⟨99,false,[.one (.d (.sl 3 32 [[xS [120],xI 0,xI 7],[xS [121],xI 0,xI 1]])),.one (.d (.sl 2 24 [[xS [118],xI 2]])),.one (.d (.sl 2 48 m1))],[],.tup m9,[]⟩
def Ct : Ent:=⟨34,false,[.agg m0,.agg m0,.one (.d (xS [120]))],[],.tup m9,[]⟩
def Cu : Ent:=⟨29,false,[.agg m0,.one (.d (.sl 3 32 [[xS [121],xI 0,xI 1]])),.one (.d (.sl 1 16 [[xS [118]]])),.one (.d (xI 1))],[],.tup [(true,[.d (.nil),.d (.nil),.d (.nil)]),(false,[.d (xI 19)])],[]⟩
def Bv : Ent:=⟨99,false,[.one (.d (.sl 3 32 [[xS [121],xI 0,xI 1]])),.one (.d (.sl 2 24 [[xS [118],xI 2]])),.one (.d (.sl 2 48 [[.sl 1 8 [[xI 0]],.sl 4 40 [[xI 2,xI 7,xI 1,xE]]],[.sl 1 8 [[xI 1]],.sl 4 40 [[xI 2,xI 2,xI 1,xE]]]]))],[],.tup m5,[]⟩
def Bw : Ent:=⟨29,false,[.agg m0,.one (.d (.sl 3 32 [[xS [121],xI 0,xI 1]])),.one (.d (.sl 1 16 [[xS [118]]])),.one (.d (xI 3))],[],.tup m5,[]⟩
def JY : Ent:=⟨19,false,[],[],.one (.d (.bool true)),[]⟩
end Go.Proofs.YtpejdgkaapnekaaGreat
