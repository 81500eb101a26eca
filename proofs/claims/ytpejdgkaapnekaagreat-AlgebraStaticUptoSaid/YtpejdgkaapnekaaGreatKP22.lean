import Derived.Shelf.Small.Strs
import Derived.Test.YtpejdgkaapnekaaGreatKP21
import Derived.Test.YtpejdgkaapnekaaGreatKP13
import Derived.Test.YtpejdgkaapnekaaGreatKP18
import Derived.Test.YtpejdgkaapnekaaGreatKTab
import Derived.Test.YtpejdgkaapnekaaGreatKE1
import Derived.Test.YtpejdgkaapnekaaGreatKP15
import Derived.Test.YtpejdgkaapnekaaGreatKP14
import Derived.Test.YtpejdgkaapnekaaGreatKP16
set_option linter.unusedVariables false
set_option linter.unusedSimpArgs false
set_option maxHeartbeats 1000000
namespace Go.Proofs.YtpejdgkaapnekaaGreat
open Go Go.Abs
attribute [local irreducible] aa OkC ak av aq aI
set_option maxRecDepth 10000
def b0(v:Val):AV:=.agg [.d (.int .i64 v.kind),.d (.int .i64 v.num),.d (.int .i64 v.den),.d (.str v.str)]
def dA(b:Bool):Val:=⟨1,if b then 1 else 0,0,[]⟩
def isV(v:Val)(k:Int):Bool:=v.kind==0||v.kind==k
def mL(a b:Val):Bool:=a.kind==0||isV b a.kind
def sgF(a b:Int):Int:=if a<b then -1 else if b<a then 1 else 0
theorem AX(b:Bool):CallA Tryz.prog 310 [.one (.d (.bool b))] [] (b0 (dA b)) []:=by
 refine enter af Tryz.func310 rfl (by decide +kernel) rfl fun hok w0 σ0 φ0 M=>?_
 clear hok
 repeat' (first|refine wG ?_|(refine h2H ?_;refine aj J (fun h=>?_) (fun h=>?_)))
 all_goals first|rfl|(simp_all[b0,dA,isV];done)
theorem JO(v:Val)(k:Int):CallA Tryz.prog 336 [b0 v,.one (.d (.int .i64 k))] [] (.one (.d (.bool (isV v k)))) []:=by
 unfold b0
 refine enter af Tryz.func336 rfl (by decide +kernel) rfl fun hok w0 σ0 φ0 M=>?_
 clear hok
 repeat' (first|refine wG ?_|(refine h1H ?_;(refine dv ?_;refine bx J J J J (fun h=>?_) (fun h=>?_))))
 all_goals first|rfl|(simp_all[b0,dA,isV];done)
theorem OA(l:D):CallA Tryz.prog 316 [.one (.d l)] [] (.one (.d (.bool true))) []:=by
 refine enter af Tryz.func316 rfl (by decide +kernel) rfl fun hok w0 σ0 φ0 M=>?_
 clear hok
 repeat' (first|refine wG ?_)
 all_goals first|rfl|(simp_all[b0,dA,isV];done)
theorem SD(a b:Int):CallA Tryz.prog 380 [.one (.d (.int .i64 a)),.one (.d (.int .i64 b))] [] (.one (.d (.int .i64 (sgF a b)))) []:=by
 refine enter af Tryz.func380 rfl (by decide +kernel) rfl fun hok w0 σ0 φ0 M=>?_
 clear hok
 repeat' (first|refine wG ?_|(refine h2H ?_;refine aj J (fun h=>?_) (fun h=>?_)))
 all_goals (refine congrArg (fun x=>AV.one (.d (.int .i64 x))) ?_;simp only[Yi,Yj] at *;unfold sgF;first|(rw[if_pos (by assumption)];done)|(rw[if_neg (by omega),if_pos (by omega)];done)|(rw[if_neg (by omega),if_neg (by omega)];done))
theorem SE(a b:Int):CallA Tryz.prog 383 [.one (.d (.int .i64 a)),.one (.d (.int .i64 b))] [] (.one (.d (.int .i64 (sgF a b)))) []:=by
 refine enter af Tryz.func383 rfl (by decide +kernel) rfl fun hok w0 σ0 φ0 M=>?_
 clear hok
 repeat' (first|refine wG ?_|(refine h2H ?_;refine aj J (fun h=>?_) (fun h=>?_)))
 all_goals (refine congrArg (fun x=>AV.one (.d (.int .i64 x))) ?_;simp only[Yi,Yj] at *;unfold sgF;first|(rw[if_pos (by assumption)];done)|(rw[if_neg (by omega),if_pos (by omega)];done)|(rw[if_neg (by omega),if_neg (by omega)];done))
theorem SF(o:Int):CallA Tryz.prog 326 [.one (.d (.int .i64 o))] [] (.one (.d (.bool (o==0)))) []:=by
 refine enter af Tryz.func326 rfl (by decide +kernel) rfl fun hok w0 σ0 φ0 M=>?_
 clear hok
 repeat' (first|refine wG ?_)
 all_goals rfl
theorem SG(o:Int):CallA Tryz.prog 327 [.one (.d (.int .i64 o))] [] (.one (.d (.bool (o != 0)))) []:=by
 refine enter af Tryz.func327 rfl (by decide +kernel) rfl fun hok w0 σ0 φ0 M=>?_
 clear hok
 repeat' (first|refine wG ?_)
 all_goals rfl
theorem SH(o:Int):CallA Tryz.prog 328 [.one (.d (.int .i64 o))] [] (.one (.d (.bool (decide (o<0))))) []:=by
 refine enter af Tryz.func328 rfl (by decide +kernel) rfl fun hok w0 σ0 φ0 M=>?_
 clear hok
 repeat' (first|refine wG ?_)
 all_goals rfl
theorem SI(o:Int):CallA Tryz.prog 329 [.one (.d (.int .i64 o))] [] (.one (.d (.bool (decide (o≤0))))) []:=by
 refine enter af Tryz.func329 rfl (by decide +kernel) rfl fun hok w0 σ0 φ0 M=>?_
 clear hok
 repeat' (first|refine wG ?_)
 all_goals rfl
theorem SJ(o:Int):CallA Tryz.prog 330 [.one (.d (.int .i64 o))] [] (.one (.d (.bool (decide (0<o))))) []:=by
 refine enter af Tryz.func330 rfl (by decide +kernel) rfl fun hok w0 σ0 φ0 M=>?_
 clear hok
 repeat' (first|refine wG ?_)
 all_goals rfl
theorem SK(o:Int):CallA Tryz.prog 331 [.one (.d (.int .i64 o))] [] (.one (.d (.bool (decide (0≤o))))) []:=by
 refine enter af Tryz.func331 rfl (by decide +kernel) rfl fun hok w0 σ0 φ0 M=>?_
 clear hok
 repeat' (first|refine wG ?_)
 all_goals rfl
theorem SL(l:List Val)(hl:1≤l.length):CallA Tryz.prog 309 [.one (.d (aY l))] [] (b0 (dA ((at_ l 0).num==0))) []:=by
 refine enter af Tryz.func309 rfl (by decide +kernel) rfl fun hok w0 σ0 φ0 M=>?_
 clear hok
 repeat' (first|(refine h1H ?_;(refine h0H ?_;refine ae J J J J J J J J (AX _) J ?_))|refine wG ?_)
 all_goals rfl
theorem SM(l:List Val)(hl:1≤l.length):CallA Tryz.prog 318 [.one (.d (aY l))] [] (b0 (dA ((at_ l 0).kind==0))) []:=by
 refine enter af Tryz.func318 rfl (by decide +kernel) rfl fun hok w0 σ0 φ0 M=>?_
 clear hok
 repeat' (first|(refine h1H ?_;(refine h0H ?_;refine ae J J J J J J J J (AX _) J ?_))|refine wG ?_)
 all_goals rfl
theorem SN(l:List Val)(hl:1≤l.length):CallA Tryz.prog 319 [.one (.d (aY l))] [] (b0 ⟨2,if (at_ l 0).kind==0 then (at_ l 0).num else 0,1,[]⟩) []:=by
 refine enter af Tryz.func319 rfl (by decide +kernel) rfl fun hok w0 σ0 φ0 M=>?_
 clear hok
 repeat' (first|refine wG ?_|(refine h2H ?_;refine aj J (fun h=>?_) (fun h=>?_)))
 all_goals first|rfl|(simp_all[b0,dA,isV];done)
theorem SO(l:List Val)(hl:2≤l.length):CallA Tryz.prog 334 [.one (.d (aY l))] [] (b0 (if (at_ l 0).kind==0 then at_ l 1 else at_ l 0)) []:=by
 refine enter af Tryz.func334 rfl (by decide +kernel) rfl fun hok w0 σ0 φ0 M=>?_
 clear hok
 repeat' (first|refine wG ?_|(refine h2H ?_;refine aj J (fun h=>?_) (fun h=>?_)))
 all_goals first|rfl|(simp_all[b0,dA,isV];done)
theorem SP(l:List Val)(hl:3≤l.length):CallA Tryz.prog 337 [.one (.d (aY l))] [] (b0 (if (at_ l 0).kind==0 then at_ l 0 else if (at_ l 0).num==1 then at_ l 1 else at_ l 2)) []:=by
 refine enter af Tryz.func337 rfl (by decide +kernel) rfl fun hok w0 σ0 φ0 M=>?_
 clear hok
 repeat' (first|refine wG ?_|(refine h2H ?_;refine aj J (fun h=>?_) (fun h=>?_)))
 all_goals first|rfl|(simp_all[b0,dA,isV];done)
theorem r9(l:List Val)(hl:2≤l.length):CallA Tryz.prog 333 [.one (.d (aY l))] [] (.one (.d (.bool (mL (at_ l (l.length-2)) (at_ l (l.length-1)))))) []:=by
 refine enter af Tryz.func333 rfl (by decide +kernel) rfl fun hok w0 σ0 φ0 M=>?_
 have h1:=hok.1.sl.1;clear hok;simp only[WZ] at h1
 have e1:(((l.map aB).length:Int)-2).toNat=l.length-2:=by rw[WZ];omega
 have e2:(((l.map aB).length:Int)-1).toNat=l.length-1:=by rw[WZ];omega
 repeat' (first|(refine h1H ?_;(refine h0H ?_;refine ae J J J J J J J J (JO _ _) J ?_))|refine wG ?_|(refine h1H ?_;(refine dv ?_;refine bx J J J J (fun h=>?_) (fun h=>?_))))
 all_goals first|(rw[e1,e2];rw[e1] at h;simp[mL,h];done)|(rw[e1] at h;simp[mL,h];done)
theorem SQ(l:List Val)(hl:3≤l.length):CallA Tryz.prog 335 [.one (.d (aY l))] [] (.one (.d (.bool (isV (at_ l 0) 1&&mL (at_ l (l.length-2)) (at_ l (l.length-1)))))) []:=by
 refine enter af Tryz.func335 rfl (by decide +kernel) rfl fun hok w0 σ0 φ0 M=>?_
 clear hok
 repeat' (first|(refine h1H ?_;(refine h0H ?_;first|refine ae J J J J J J J J (JO _ _) J ?_|refine ae J J J J J J J J (r9 _ (by omega)) J ?_))|refine wG ?_|(refine h1H ?_;(refine dv ?_;refine bx J J J J (fun h=>?_) (fun h=>?_))))
 all_goals first|rfl|(simp_all;done)
theorem qM(l:List Val)(kd:Int):CallA Tryz.prog 350 [.one (.d (aY l)),.one (.d (.ptr [.int .i64 kd]))] [] (.one (.d (.bool (l.all fun v=>isV v kd)))) []:=by
 refine enter af Tryz.func350 rfl (by decide +kernel) rfl fun hok w0 σ0 φ0 M=>?_
 have h1:=hok.1.sl.1;clear hok;simp only[WZ] at h1
 repeat' (first|(refine h1H ?_;(refine h0H ?_;refine ae J J J J J J J J (JO _ _) J ?_))|refine wG ?_|(refine h2H ?_;first|refine aj J (fun h=>?_) (fun h=>?_)|refine cu 2 J [(1,_),(6,_),(7,_)] (q3Q J J J) (fun (k:Nat)=>[(8,.one (.d (.int .i64 (k:Int))))]) (fun (k:Nat)=>k≤l.length∧l.all (fun v=>isV v kd)=(l.drop k).all (fun v=>isV v kd)) (fun (k:Nat)=>l.length-k) 0 (q1Q J) ?_ (fun k ⟨hk,hq⟩=>?_))|(show Exists _;refine Exists.intro (k+1) ⟨?_,?_,wK,(q1Q J),(q3Q J J J)⟩))
 all_goals (try (((simp_all[au,W7])<;>exact wL);done))
def yo(neg:Bool)(m n:Nat):Bool×Nat×Nat:=(neg&&decide (m≠0),m / Nat.gcd m n,n / Nat.gcd m n)
def lr(s1:Bool)(a1 b1:Nat)(s2:Bool)(a2 b2:Nat)(minus:Bool):Bool×Nat×Nat :=
 if (s1==(!(s2==minus)))=true then yo (!(s2==minus)) (a1*b2+a2*b1) (b1*b2) else if a2*b1≤a1*b2 then yo s1 (a1*b2-a2*b1) (b1*b2) else yo (!(s2==minus)) (a2*b1-a1*b2) (b1*b2)
theorem CC{s1:Bool}{a1 b1:Nat}{s2:Bool}{a2 b2:Nat}{minus:Bool}:rq s1 a1 b1 s2 a2 b2 minus=di (lr s1 a1 b1 s2 a2 b2 minus).1 (lr s1 a1 b1 s2 a2 b2 minus).2.1 (lr s1 a1 b1 s2 a2 b2 minus).2.2:=by
 unfold rq lr
 split
 ·rfl
 ·split
  ·rfl
  ·rfl
def Ao(t:Bool×Nat×Nat):Int:=if t.2.2=0∨t.2.1=0 then 0 else if t.1=true then -1 else 1
theorem RL(hD:n5)(s1:Bool)(a1 b1:Nat)(s2:Bool)(a2 b2:Nat)(hR:RatOk a1 b1 a2 b2):CallA Tryz.prog 322 [.one (.d (di s1 a1 b1)),.one (.d (di s2 a2 b2))] [] (.one (.d (di (lr s1 a1 b1 s2 a2 b2 true).1 (lr s1 a1 b1 s2 a2 b2 true).2.1 (lr s1 a1 b1 s2 a2 b2 true).2.2))) []:=by
 rw[← CC];exact Pt hD s1 a1 b1 s2 a2 b2 hR
theorem Tb(hD:n5)(s1:Bool)(a1 b1:Nat)(s2:Bool)(a2 b2:Nat)(hR:RatOk a1 b1 a2 b2):CallA Tryz.prog 381 [.one (.d (di s1 a1 b1)),.one (.d (di s2 a2 b2))] [] (.one (.d (.int .i64 (Ao (lr s1 a1 b1 s2 a2 b2 true))))) []:=by
 refine enter af Tryz.func381 rfl (by decide +kernel) rfl fun hok w0 σ0 φ0 M=>?_
 clear hok
 repeat' (first|(refine h1H ?_;(refine h0H ?_;first|refine ae J J J J J J J J (Wq _ _ _) J ?_|refine aM 16 J J J J J J J J (RL hD _ _ _ _ _ _ hR) J J J ?_))|refine wG ?_)
 all_goals rfl
def nV(v:Val):D:=di (decide (v.num<0)) v.num.natAbs v.den.natAbs
theorem wi(v:Val):CallA Tryz.prog 314 [b0 v] [] (.one (.d (nV v))) []:=Wy _ _ _ _
def vP(neg:Bool)(a b:Nat):Val:=if a≤1099511627776∧b≤1099511627776 then ⟨2,if neg=true then -(a:Int) else a,b,[]⟩ else ⟨0,2,0,[]⟩
theorem GY(neg:Bool)(a b:Nat)(hb:b≠0):CallA Tryz.prog 313 [.one (.d (di neg a b))] [] (b0 (vP neg a b)) []:=by
 have h:=Ui neg a b hb
 have e:b0 (vP neg a b)=Gd neg a b:=by
  unfold Gd vP
  by_cases hc:a≤1099511627776∧b≤1099511627776
  ·rw[if_pos hc,if_pos hc];rfl
  ·rw[if_neg hc,if_neg hc];rfl
 rwa [e]
theorem WH(l:List Val)(hl:2≤l.length)(f:FuncId)(neg:Bool)(a b:Nat)(hb:b≠0)(hf:CallA Tryz.prog f [.one (.d (nV (at_ l 0))),.one (.d (nV (at_ l 1)))] [] (.one (.d (di neg a b))) []) :
  CallA Tryz.prog 358 [.one (.d (aY l)),.one (.d (.ptr [.fn f []]))] [] (b0 (vP neg a b)) []:=by
 refine enter af Tryz.func358 rfl (by decide +kernel) rfl fun hok w0 σ0 φ0 M=>?_
 clear hok
 repeat' (first|(refine h4H ?_;(refine h3H ?_;first|refine d_l J J (bM J J J J J J (GY _ _ _ hb) J) ?_|refine bz 16 J J J J J J J J (wi _) J J ?_|refine bz 16 J J J J J J J J (hf) J J ?_))|refine wG ?_)
 all_goals first|rfl|skip
theorem RT(l:List Val)(hl:2≤l.length)(neg:Bool)(a b:Nat)(hb:b≠0)(hf:CallA Tryz.prog 362 [.one (.d (nV (at_ l 0))),.one (.d (nV (at_ l 1)))] [] (.tup [(false,[.d (di neg a b)]),(false,[.d (.int .i64 0)])]) []) :
  CallA Tryz.prog 324 [.one (.d (aY l))] [] (b0 (vP neg a b)) []:=by
 refine enter af Tryz.func324 rfl (by decide +kernel) rfl fun hok w0 σ0 φ0 M=>?_
 clear hok
 repeat' (first|(refine h1H ?_;(refine h0H ?_;refine ae J J J J J J J J (GY _ _ _ hb) J ?_))|(refine h4H ?_;(refine h3H ?_;first|refine bz 16 J J J J J J J J (wi _) J J ?_|refine bz 16 J J J J J J J J (hf) J J ?_))|refine wG ?_)
 all_goals first|rfl|skip
theorem RS(l:List Val)(hl:2≤l.length)(hf:CallA Tryz.prog 362 [.one (.d (nV (at_ l 0))),.one (.d (nV (at_ l 1)))] [] (.tup [(false,[.d (.raw (.pointer none))]),(false,[.d (.int .i64 2)])]) []) :
  CallA Tryz.prog 324 [.one (.d (aY l))] [] (b0 ⟨0,3,0,[]⟩) []:=by
 refine enter af Tryz.func324 rfl (by decide +kernel) rfl fun hok w0 σ0 φ0 M=>?_
 clear hok
 repeat' (first|(refine h1H ?_;(refine h0H ?_;refine ae J J J J J J J J (KB _) J ?_))|(refine h4H ?_;(refine h3H ?_;first|refine d_l J J (bM J J J J J J (hf) J) ?_|refine bz 16 J J J J J J J J (wi _) J J ?_))|refine wG ?_)
 all_goals first|rfl|skip
theorem rN:bJ 1=.sl 1 4 [[.int .u32 1]]:=by unfold bJ fA;rw[yB];rfl
theorem R7(m:Nat)(hm:(dig m).length≤400):CallA Tryz.prog 356 [.one (.d (bJ m)),.one (.d (.sl 1 4 [[.int .u32 1]]))] [] (.one (.d (bJ (m+1)))) []:=by
 have:=Pe m 1 hm (by rw[yB];simp)
 rwa [rN] at this
theorem WN(neg:Bool)(a b:Nat)(hb:b≠0)(hm:dl a≤100)(hn:dl b≤100)(hq:(dig (a / b)).length≤400):CallA Tryz.prog 315 [.one (.d (di neg a b))] [] (.one (.d (di neg (if neg=true∧a % b≠0 then a / b+1 else a / b) 1))) []:=by
 have v1:decide (b≠0)=true:=by simp[hb]
 refine enter af Tryz.func315 rfl (by decide +kernel) rfl fun hok w0 σ0 φ0 M=>?_
 clear hok
 repeat' (first|(refine h1H ?_;(refine h0H ?_;first|refine eP 40 [0] J J J J J J J J J (R7 _ hq) J J J ?_|refine ae J J J J J J J J (rr _ _ _) J ?_))|(refine h2H ?_;first|refine bm (bq (dl:=[1,2]) J) (cr ?_)|refine bm (bq (dl:=[0,1]) J) (cr ?_))|(refine h4H ?_;(refine h3H ?_;refine bz 16 J J J J J J J J (xD _ _ hb hm hn) J J ?_))|refine wG ?_|(refine h1H ?_;(refine dv ?_;refine bx J J J J (fun h=>?_) (fun h=>?_)))|(refine h2H ?_;refine aj J (fun h=>?_) (fun h=>?_)))
 ·exact absurd ‹(!decide (b≠0))=true› (by rw[v1];simp)
 ·rw[if_pos ⟨‹neg=true›,tO h⟩];unfold di;rw[rN];rfl
 ·rw[if_neg (fun hc=>hc.2 (CL h))];unfold di;rw[rN];rfl
 ·rw[if_neg (fun hc=>by have h':neg=false:=h;rw[h'] at hc;cases hc.1)];unfold di;rw[rN];rfl
theorem WJ(l:List Val)(hl:1≤l.length)(hb:(at_ l 0).den.natAbs≠0)(hm:dl (at_ l 0).num.natAbs≤100)(hn:dl (at_ l 0).den.natAbs≤100)(hq:(dig ((at_ l 0).num.natAbs / (at_ l 0).den.natAbs)).length≤400) :
  CallA Tryz.prog 312 [.one (.d (aY l))] [] (b0 (vP (decide ((at_ l 0).num<0)) (if (decide ((at_ l 0).num<0))=true∧(at_ l 0).num.natAbs % (at_ l 0).den.natAbs≠0 then (at_ l 0).num.natAbs / (at_ l 0).den.natAbs+1 else (at_ l 0).num.natAbs / (at_ l 0).den.natAbs) 1)) []:=by
 refine enter af Tryz.func312 rfl (by decide +kernel) rfl fun hok w0 σ0 φ0 M=>?_
 clear hok
 repeat' (first|(refine h1H ?_;(refine h0H ?_;first|refine ae J J J J J J J J (GY _ _ _ (by omega)) J ?_|refine aM 16 J J J J J J J J (wi _) J J J ?_|refine aM 16 J J J J J J J J (WN _ _ _ hb hm hn hq) J J J ?_))|refine wG ?_)
 all_goals first|rfl|skip
def vz(v:Val):Val:=⟨v.kind,IntKind.i64.wrap (0-v.num),v.den,v.str⟩
theorem VE(l:List Val)(hl:1≤l.length) :
  CallA Tryz.prog 311 [.one (.own 1000000 l.length)] [(1000000,.row 4 40 (l.map aB))] (b0 (vz (at_ l 0))) [(1000000,.row 4 40 ((l.set 0 (vz (at_ l 0))).map aB))]:=by
 refine enter af Tryz.func311 rfl (by decide +kernel) rfl fun hok w0 σ0 φ0 M=>?_
 clear hok
 repeat' (first|refine wG ?_)
 exact kB (.inl rfl) rfl rfl rfl (ab (congrArg (fun x=>some (AObj.row 4 40 x)) (XW (f:=aB) (l:=l) (i:=0) (a:=vz (at_ l 0))).symm) aW)
end Go.Proofs.YtpejdgkaapnekaaGreat
namespace Go.Abs
open Go Go.Shelf Go.Proofs
variable {P:Program}
theorem AW {f : FuncId} {a b : List UInt8} {y : D} {yv : Value} (hfn : ∃ fn, P.funcs[f]? = some fn ∧ (fn.name == "runtime.NumGoroutine") = false ∧ fn.body.isSome = true)
  (hC:∀ w,Calls P f #[.string ⟨a.toArray⟩,.string ⟨b.toArray⟩] w fun e w'=>e=.returned yv∧w'=w) (hy:∀ σ,Rep σ y yv):CallA P f [.one (.d (.str a)),.one (.d (.str b))] [] (.one (.d y)) []:=by
 refine⟨hfn,fun w σ φ vs hI hA=>?_⟩
 match vs,hA with
 | [v0,v1],hA =>
   obtain⟨hv0,hv1,_⟩:=hA
   have hv0:RepC σ φ _ (.d (.str a)) v0:=hv0
   have hv1:RepC σ φ _ (.d (.str b)) v1:=hv1
   replace hv0:=hv0.d_inv
   replace hv1:=hv1.d_inv
   cases hv0
   cases hv1
   refine (hC w).mono ?_
   rintro e w' ⟨rfl,rfl⟩
   exact⟨_,σ,φ,rfl,Sig.le_refl _,fun b hb=>.inl hb,hI,.d (hy σ),fun i e p h1 h2=>(nomatch h1),fun _ _=>rfl,⟨rfl,rfl,rfl,Xc _,Xc _,fun _ _ _=>rfl⟩⟩
theorem D3:∀ (a b:List UInt8),Lib.compareBytes a b=if Op.bytesLess a b=true then -1 else if (!(Op.bytesLess a b||a==b))=true then 1 else 0
 | [],[]=>rfl
 | [],_::_=>rfl
 | _::_,[]=>rfl
 | x::a,y::b=>by
   have ih:=D3 a b
   unfold Lib.compareBytes
   rw[ih]
   rw[show Op.bytesLess (x::a) (y::b)=(decide (x<y)||(x==y&&Op.bytesLess a b)) from rfl]
   by_cases h1:x<y
   ·simp[h1]
   ·by_cases h2:y<x
    ·have:x≠y:=fun e=>by subst e;exact absurd h2 h1
     simp[h1,h2,this]
    ·have e:x=y:=by
      have h3:¬ x.toNat<y.toNat:=h1
      have h4:¬ y.toNat<x.toNat:=h2
      exact UInt8.toNat_inj.1 (by omega)
     subst e
     simp[h1]
end Go.Abs
namespace Go.Proofs.YtpejdgkaapnekaaGreat
open Go Go.Proofs Go.Shelf Go.Abs
def JM:Go.Shelf.Ren:=⟨fun|106=>382|213=>386|265=>387|n=>n,fun|3=>3|9=>9|n=>n,fun|n=>n⟩
theorem SB:Go.Proofs.Lays.n106 Tryz.prog JM:={
 mixed:=by kernel_rfl
 f106:=Tryz.func382.trans (congrArg some (by kernel_rfl))
 f213:=Tryz.func386.trans (congrArg some (by kernel_rfl))
 f265:=Tryz.func387.trans (congrArg some (by kernel_rfl))
 t3:=Tryz.underlying3
 a3:=Tryz.isAgg3
 z3:=Tryz.sizeOf3
 v3:=Tryz.zeroValue3
 t9:=Tryz.underlying9
 a9:=Tryz.isAgg9
 z9:=Tryz.sizeOf9
 v9:=Tryz.zeroValue9 }
def vT(a b:List UInt8):Int:=if Op.bytesLess a b=true then -1 else if (!(Op.bytesLess a b||a==b))=true then 1 else 0
theorem SC(a b:List UInt8):CallA Tryz.prog 382 [.one (.d (.str a)),.one (.d (.str b))] [] (.one (.d (.int .i64 (vT a b)))) []:=by
 refine AW (yv:=.int .i64 (vT a b)) ⟨Tryz.f382,Tryz.func382,by kernel_rfl,by kernel_rfl⟩ (fun w=>?_) (fun σ=>.int ?_)
 ·have:=Any.strings_Compare SB ⟨a.toArray⟩ ⟨b.toArray⟩ w
  rw[List.toList_toArray,List.toList_toArray,D3] at this
  exact this
 ·unfold vT
  simp only[inR,IntKind.min,IntKind.max,IntKind.signed,IntKind.bits,if_true]
  split
  ·omega
  ·split<;>omega
end Go.Proofs.YtpejdgkaapnekaaGreat
namespace Go.Proofs.YtpejdgkaapnekaaGreat
open Go Go.Abs
attribute [local irreducible] aa OkC ak av aq aI
set_option maxRecDepth 10000
theorem QR(a b:Val)(hR:RatOk a.num.natAbs a.den.natAbs b.num.natAbs b.den.natAbs):CallA Tryz.prog 381 [.one (.d (nV a)),.one (.d (nV b))] [] (.one (.d (.int .i64 (Ao (lr (decide (a.num<0)) a.num.natAbs a.den.natAbs (decide (b.num<0)) b.num.natAbs b.den.natAbs true))))) [] :=
 Tb xD _ _ _ _ _ _ hR
def xF(a b:Val):Int:=if sgF a.kind b.kind≠0 then sgF a.kind b.kind else if a.kind=2 then Ao (lr (decide (a.num<0)) a.num.natAbs a.den.natAbs (decide (b.num<0)) b.num.natAbs b.den.natAbs true) else if a.kind=3 then vT a.str b.str else sgF a.num b.num
theorem Tc(a b:Val)(hR:a.kind=2→RatOk a.num.natAbs a.den.natAbs b.num.natAbs b.den.natAbs):CallA Tryz.prog 365 [b0 a,b0 b] [] (.one (.d (.int .i64 (xF a b)))) []:=by
 unfold b0
 refine enter af Tryz.func365 rfl (by decide +kernel) rfl fun hok w0 σ0 φ0 M=>?_
 clear hok
 repeat' (first|(refine h1H ?_;(refine h0H ?_;first|refine ae J J J J J J J J (SD _ _) J ?_|refine ae J J J J J J J J (SE _ _) J ?_|refine ae J J J J J J J J (SC _ _) J ?_))|(refine h4H ?_;(refine h3H ?_;first|refine d_l J J (bM J J J J J J (QR _ _ (hR (by simpa using ‹(a.kind==2)=true›))) J) ?_|refine bz 16 J J J J J J J J (wi _) J J ?_))|refine wG ?_|(refine h2H ?_;refine aj J (fun h=>?_) (fun h=>?_)))
 all_goals refine congrArg (fun x=>AV.one (.d (.int .i64 x))) ?_
 ·have h':sgF a.kind b.kind≠0:=by simpa using h
  unfold xF;rw[if_pos h']
 ·have h1:¬ sgF a.kind b.kind≠0:=by simpa using ‹(sgF a.kind b.kind != 0)=false›
  have h2:a.kind=2:=by simpa using h
  unfold xF;rw[if_neg h1,if_pos h2]
 ·have h1:¬ sgF a.kind b.kind≠0:=by simpa using ‹(sgF a.kind b.kind != 0)=false›
  have h2:¬ a.kind=2:=by simpa using ‹(a.kind==2)=false›
  have h3:a.kind=3:=by simpa using h
  unfold xF;rw[if_neg h1,if_neg h2,if_pos h3]
 ·have h1:¬ sgF a.kind b.kind≠0:=by simpa using ‹(sgF a.kind b.kind != 0)=false›
  have h2:¬ a.kind=2:=by simpa using ‹(a.kind==2)=false›
  have h3:¬ a.kind=3:=by simpa using h
  unfold xF;rw[if_neg h1,if_neg h2,if_neg h3]
theorem Td(l:List Val)(f:FuncId)(g:Int→Bool)(hl:2≤l.length)(hR:(at_ l 0).kind=2→RatOk (at_ l 0).num.natAbs (at_ l 0).den.natAbs (at_ l 1).num.natAbs (at_ l 1).den.natAbs)
  (hf:∀ o:Int,CallA Tryz.prog f [.one (.d (.int .i64 o))] [] (.one (.d (.bool (g o)))) []):CallA Tryz.prog 364 [.one (.d (aY l)),.one (.d (.ptr [.fn f []]))] [] (b0 (dA (g (xF (at_ l 0) (at_ l 1))))) []:=by
 refine enter af Tryz.func364 rfl (by decide +kernel) rfl fun hok w0 σ0 φ0 M=>?_
 clear hok
 repeat' (first|(refine h4H ?_;(refine h3H ?_;first|refine d_l J J (bM J J J J J J (AX _) J) ?_|refine d_l J J (bM J J J J J J (Tc _ _ hR) J) ?_|refine d_l J J (bM J J J J J J (hf _) J) ?_))|refine wG ?_)
 all_goals first|rfl|skip
def dJ(l:List Val):Option Val:=l.find? fun v=>v.kind==0
def qV(b:Bool)(l:List Val):Val:=if jP (at_ l 0) (dA b)=true∨jP (at_ l 1) (dA b)=true then dA b else (dJ l).getD (dA (!b))
theorem OL{b:Bool}{l:List Val}(h:(jP (at_ l 0) (dA b)==true)=true):qV b l=dA b:=by unfold qV;rw[if_pos (.inl (by simpa using h))]
theorem OM{b:Bool}{l:List Val}(h:(jP (at_ l 1) (dA b)==true)=true):qV b l=dA b:=by unfold qV;rw[if_pos (.inr (by simpa using h))]
theorem HR{b:Bool}{l:List Val}(h:(jP (at_ l 0) (dA b)==true)=false)(h2:(jP (at_ l 1) (dA b)==true)=false):qV b l=(dJ l).getD (dA (!b)):=by
 unfold qV;rw[if_neg];rintro (e|e)
 ·rw[e] at h;cases h
 ·rw[e] at h2;cases h2
theorem uY{l:List Val}{k:Nat}(hk:k<l.length)(h:((at_ l k).kind==0)=true):dJ (l.drop k)=some (at_ l k):=by
 rw[au hk];unfold dJ;rw[List.find?_cons,h]
theorem uZ{l:List Val}{k:Nat}(hk:k<l.length)(h:((at_ l k).kind==0)=false):dJ (l.drop k)=dJ (l.drop (k+1)):=by
 rw[au hk];unfold dJ;rw[List.find?_cons,h]
theorem Bn{l:List Val}{k:Nat}(hk:l.length≤k):dJ (l.drop k)=none:=by
 rw[W7 hk];rfl
theorem ON(l:List Val)(b:Bool)(hl:2≤l.length):CallA Tryz.prog 367 [.one (.d (aY l)),.one (.d (.ptr [.bool b]))] [] (b0 (qV b l)) []:=by
 refine enter af Tryz.func367 rfl (by decide +kernel) rfl fun hok w0 σ0 φ0 M=>?_
 have h1:=hok.1.sl.1;clear hok;simp only[WZ] at h1
 repeat' (first|(refine h1H ?_;(refine h0H ?_;refine ae J J J J J J J J (AX _) J ?_))|(refine h4H ?_;(refine h3H ?_;refine d_l J J (bM J J J J J J (AX _) J) ?_))|refine wG ?_|(refine h2H ?_;first|refine aj J (fun h=>?_) (fun h=>?_)|refine cu 4 J [(1,_),(3,_),(22,_),(23,_)] (q4Q J J J J) (fun (k:Nat)=>[(24,.one (.d (.int .i64 (k:Int))))]) (fun (k:Nat)=>k≤l.length∧dJ l=dJ (l.drop k)) (fun (k:Nat)=>l.length-k) 0 (q1Q J) ?_ (fun k ⟨hk,hq⟩=>?_))|(refine h4H ?_;(refine OO ?_;refine Ei J J (fun h=>?_) (fun h=>?_)))|(show Exists _;refine Exists.intro (k+1) ⟨?_,?_,wK,(q1Q J),(q4Q J J J J)⟩))
 ·exact (congrArg b0 (OM h)).symm
 ·exact⟨Xk _,rfl⟩
 ·have hlt:k<l.length:=by simpa using ‹decide ((k:Int)<((l.map aB).length:Int))=true›
  rename_i h5 h6 _ _
  rw[HR h5 h6,hq,uY hlt h];rfl
 ·have hlt:k<l.length:=by simpa using ‹decide ((k:Int)<((l.map aB).length:Int))=true›
  exact⟨hlt,hq.trans (uZ hlt h)⟩
 ·have hlt:k<l.length:=by simpa using ‹decide ((k:Int)<((l.map aB).length:Int))=true›
  omega
 ·have hge:l.length≤k:=by simpa using h
  rename_i h5 h6 _
  rw[HR h5 h6,hq,Bn hge];rfl
 ·exact (congrArg b0 (OL h)).symm
def cJ(v:Val):Bool:=mO v.kind v.num v.den v.str
theorem Mb(v:Val):CallA Tryz.prog 233 [b0 v] [] (.one (.d (.bool (cJ v)))) []:=Kt _ _ _ _
def tJ:Val:=⟨0,0,0,[]⟩
def Cr(p:Val×Int):AV:=.tup [(true,[.d (.int .i64 p.1.kind),.d (.int .i64 p.1.num),.d (.int .i64 p.1.den),.d (.str p.1.str)]),(false,[.d (.int .i64 p.2)])]
def doG(l:List Val)(kd free:Bool)(rv:Val):Val×Int :=
 if l.all cJ=true then (if kd=true then (if free=true then (rv,0) else ((dJ l).getD rv,0)) else (tJ,12)) else (tJ,2)
theorem ki{l:List Val}{k:Nat}(hq:l.all cJ=(l.drop k).all cJ)(h:decide ((k:Int)<((l.map aB).length:Int))=false):l.all cJ=true:=by
 have h:l.length≤k:=by simpa using h
 rw[hq,W7 h];rfl
theorem Mc{l:List Val}{k:Nat}(hq:l.all cJ=(l.drop k).all cJ)(hlt:k<l.length)(h:(!cJ (at_ l k))=true):¬ l.all cJ=true:=by
 rw[hq,au hlt,List.all_cons]
 have h:cJ (at_ l k)=false:=by simpa using h
 rw[h];simp
theorem Md{l:List Val}{k:Nat}(hq:l.all cJ=(l.drop k).all cJ)(hlt:k<l.length)(h:(!cJ (at_ l k))=false):l.all cJ=(l.drop (k+1)).all cJ:=by
 rw[hq,au hlt,List.all_cons]
 have h:cJ (at_ l k)=true:=by simpa using h
 rw[h];simp
theorem yp{l:List Val}{k:Nat}(hq:dJ l=dJ (l.drop k))(h:decide ((k:Int)<((l.map aB).length:Int))=false):dJ l=none:=by
 have h:l.length≤k:=by simpa using h
 rw[hq,Bn h]
theorem Ct{f:FuncId}{l:List Val}{xs:List (List D)}{r:List AV}{rav:AV}(h:CallA Tryz.prog f (.one (.d (aY l))::r) [] rav [])(hx:xs=l.map aB):CallA Tryz.prog f (.one (.d (.sl 4 40 xs))::r) [] rav []:=by
 subst hx;exact h
theorem Me{l:List Val}{kd free:Bool}{rv:Val}(h:¬ l.all cJ=true):doG l kd free rv=(tJ,2):=if_neg h
theorem Mf{l:List Val}{kd free:Bool}{rv:Val}(h:l.all cJ=true)(h2:(!kd)=true):doG l kd free rv=(tJ,12):=by unfold doG;rw[if_pos h,if_neg (by simpa using h2)]
theorem RE{l:List Val}{kd free:Bool}{rv:Val}(h:l.all cJ=true)(h2:(!kd)=false)(h3:(!free)=false):doG l kd free rv=(rv,0):=by unfold doG;rw[if_pos h,if_pos (by simpa using h2),if_pos (by simpa using h3)]
theorem Aw{l:List Val}{kd free:Bool}{rv:Val}(h:l.all cJ=true)(h2:(!kd)=false)(h3:(!free)=true):doG l kd free rv=((dJ l).getD rv,0):=by unfold doG;rw[if_pos h,if_pos (by simpa using h2),if_neg (by simpa using h3)]
set_option maxHeartbeats 1000000 in
theorem gd(op:Int)(l:List Val)(hl:l.length≤3)(n:Int)(fk ft fd:FuncId)(ck ct cd:List D)(free kd:Bool)(rv:Val)
  (h226:CallA Tryz.prog 226 [.one (.d (.int .i64 op)),.one (.d (.int .i64 (l.map aB).length))] [] (.tup [(true,[.d (.int .i64 n),.d (.fn fk ck),.d (.fn ft ct),.d (.bool free),.d (.fn fd cd)]),(false,[.d (.bool true)])]) [])
  (hk:l.all cJ=true→CallA Tryz.prog fk (.one (.d (aY l))::ck.map fun x=>.one (.d x)) [] (.one (.d (.bool kd))) [])
  (hd:l.all cJ=true→kd=true→(free=true∨dJ l=none)→CallA Tryz.prog fd (.one (.d (aY l))::cd.map fun x=>.one (.d x)) [] (b0 rv) []) :
  CallA Tryz.prog 186 [.one (.d (.int .i64 op)),.one (.d (aY l))] [] (Cr (doG l kd free rv)) []:=by
 refine enter af Tryz.func186 rfl (by decide +kernel) rfl fun hok w0 σ0 φ0 M=>?_
 have h1:=hok.2.1.sl.1;clear hok;simp only[WZ] at h1
 repeat' (first|(refine h1H ?_;(refine h0H ?_;first|refine aM 60 J J J J J J J J h226 J J J ?_|refine ae J J J J J J J J (Mb _) J ?_|refine ae J J J J J J J J (hk (ki hq h)) J ?_))|(refine h4H ?_;(refine Kr ?_;refine dV envOk 10 J J J J J J ?_))|(refine h4H ?_;(refine h3H ?_;first|refine dV envOk 11 J J J (b5 (i:=10) J J J J J J J J (by simp) (by simp;omega) (W6 J)) J J ?_|refine p8 40 [11] J J J J J J J J J (Ct (hd (ki hq ‹decide ((k:Int)<((l.map aB).length:Int))=false›) (by simpa using ‹(!kd)=false›) (.inl (by simpa using ‹(!free)=false›))) (by simp;exact WY (by simp))) J J ?_|refine p8 40 [11] J J J J J J J J J (Ct (hd (ki hq ‹decide ((k:Int)<((l.map aB).length:Int))=false›) (by simpa using ‹(!kd)=false›) (.inr (yp hq1 h))) (by simp;exact WY (by simp))) J J ?_))|refine wG ?_|(refine h2H ?_;first|refine aj J (fun h=>?_) (fun h=>?_)|refine cu 5 J [(1,_),(4,_),(6,_),(22,_),(23,_)] (q5Q J J J J J) (fun (k:Nat)=>[(24,.one (.d (.int .i64 (k:Int))))]) (fun (k:Nat)=>k≤l.length∧l.all cJ=(l.drop k).all cJ) (fun (k:Nat)=>l.length-k) 0 (q1Q J) ?_ (fun k ⟨hk0,hq⟩=>?_)|refine cu 14 J [(1,_),(4,_),(6,_),(42,_),(43,_)] (q5Q J J J J J) (fun (j:Nat)=>[(44,.one (.d (.int .i64 (j:Int))))]) (fun (j:Nat)=>j≤l.length∧dJ l=dJ (l.drop j)) (fun (j:Nat)=>l.length-j) 0 (q1Q J) ?_ (fun j ⟨hk1,hq1⟩=>?_))|(show Exists _;first|refine Exists.intro (j+1) ⟨?_,?_,wK,(q1Q J),(q5Q J J J J J)⟩|refine Exists.intro (k+1) ⟨?_,?_,wK,(q1Q J),(q5Q J J J J J)⟩))
 ·exact⟨Xk _,rfl⟩
 ·have hlt:k<l.length:=by simpa using ‹decide ((k:Int)<((l.map aB).length:Int))=true›
  rw[Me (Mc hq hlt h)];rfl
 ·have hlt:k<l.length:=by simpa using ‹decide ((k:Int)<((l.map aB).length:Int))=true›
  exact⟨hlt,Md hq hlt h⟩
 ·have hlt:k<l.length:=by simpa using ‹decide ((k:Int)<((l.map aB).length:Int))=true›
  omega
 ·rw[Mf (ki hq ‹decide ((k:Int)<((l.map aB).length:Int))=false›) h];rfl
 ·exact⟨Xk _,rfl⟩
 ·have hlt:j<l.length:=by simpa using ‹decide ((j:Int)<((l.map aB).length:Int))=true›
  rw[Aw (ki hq ‹decide ((k:Int)<((l.map aB).length:Int))=false›) ‹(!kd)=false› ‹(!free)=true›,hq1,uY hlt h];rfl
 ·have hlt:j<l.length:=by simpa using ‹decide ((j:Int)<((l.map aB).length:Int))=true›
  exact⟨hlt,hq1.trans (uZ hlt h)⟩
 ·have hlt:j<l.length:=by simpa using ‹decide ((j:Int)<((l.map aB).length:Int))=true›
  omega
 ·rw[Aw (ki hq ‹decide ((k:Int)<((l.map aB).length:Int))=false›) ‹(!kd)=false› ‹(!free)=true›,yp hq1 h];rfl
 ·rw[RE (ki hq ‹decide ((k:Int)<((l.map aB).length:Int))=false›) ‹(!kd)=false› h];rfl
theorem NF{l:List Val}{m:Nat}{xs:List (List D)}(hl:1≤l.length)(hx:xs=l.map aB)(hm:m=l.length):CallA Tryz.prog 311 [.one (.own 1000000 m)] [(1000000,.row 4 40 xs)] (b0 (vz (at_ l 0))) [(1000000,.row 4 40 ((l.set 0 (vz (at_ l 0))).map aB))]:=by
 subst hx;subst hm;exact VE l hl
theorem NG(l:List Val)(hl:l.length≤3)(hl1:1≤l.length)
  (h226:CallA Tryz.prog 226 [.one (.d (.int .i64 5)),.one (.d (.int .i64 (l.map aB).length))] [] (.tup [(true,[.d (.int .i64 1),.d (.fn 350 [.ptr [.int .i64 2]]),.d (.fn 300 []),.d (.bool false),.d (.fn 311 [])]),(false,[.d (.bool true)])]) []) :
  CallA Tryz.prog 186 [.one (.d (.int .i64 5)),.one (.d (aY l))] [] (Cr (doG l (l.all fun v=>isV v 2) false (vz (at_ l 0)))) []:=by
 refine enter af Tryz.func186 rfl (by decide +kernel) rfl fun hok w0 σ0 φ0 M=>?_
 have h1:=hok.2.1.sl.1;clear hok;simp only[WZ] at h1
 repeat' (first|(refine h1H ?_;(refine h0H ?_;first|refine aM 60 J J J J J J J J h226 J J J ?_|refine ae J J J J J J J J (Mb _) J ?_|refine ae J J J J J J J J (qM _ _) J ?_))|(refine h4H ?_;(refine Kr ?_;refine dV envOk 10 J J J J J J ?_))|(refine h4H ?_;(refine h3H ?_;first|refine dV envOk 11 J J J (b5 (i:=10) J J J J J J J J (by simp) (by simp;omega) (W6 J)) J J ?_|refine Nz 40 (id:=11) J J J J J J J (NF (l:=l) hl1 J (by simp)) (by simp) J J J ?_))|refine wG ?_|(refine h2H ?_;first|refine aj J (fun h=>?_) (fun h=>?_)|refine cu 5 J [(1,_),(4,_),(6,_),(22,_),(23,_)] (q5Q J J J J J) (fun (k:Nat)=>[(24,.one (.d (.int .i64 (k:Int))))]) (fun (k:Nat)=>k≤l.length∧l.all cJ=(l.drop k).all cJ) (fun (k:Nat)=>l.length-k) 0 (q1Q J) ?_ (fun k ⟨hk0,hq⟩=>?_)|refine cu 14 J [(1,_),(4,_),(6,_),(42,_),(43,_)] (q5Q J J J J J) (fun (j:Nat)=>[(44,.one (.d (.int .i64 (j:Int))))]) (fun (j:Nat)=>j≤l.length∧dJ l=dJ (l.drop j)) (fun (j:Nat)=>l.length-j) 0 (q1Q J) ?_ (fun j ⟨hk1,hq1⟩=>?_))|(show Exists _;first|refine Exists.intro (j+1) ⟨?_,?_,wK,(q1Q J),(q5Q J J J J J)⟩|refine Exists.intro (k+1) ⟨?_,?_,wK,(q1Q J),(q5Q J J J J J)⟩))
 ·exact⟨Xk _,rfl⟩
 ·have hlt:k<l.length:=by simpa using ‹decide ((k:Int)<((l.map aB).length:Int))=true›
  rw[Me (Mc hq hlt h)];rfl
 ·have hlt:k<l.length:=by simpa using ‹decide ((k:Int)<((l.map aB).length:Int))=true›
  exact⟨hlt,Md hq hlt h⟩
 ·have hlt:k<l.length:=by simpa using ‹decide ((k:Int)<((l.map aB).length:Int))=true›
  omega
 ·rw[Mf (ki hq ‹decide ((k:Int)<((l.map aB).length:Int))=false›) h];rfl
 ·exact⟨Xk _,rfl⟩
 ·have hlt:j<l.length:=by simpa using ‹decide ((j:Int)<((l.map aB).length:Int))=true›
  rw[Aw (ki hq ‹decide ((k:Int)<((l.map aB).length:Int))=false›) ‹(!l.all fun v=>isV v 2)=false› rfl,hq1,uY hlt h];rfl
 ·have hlt:j<l.length:=by simpa using ‹decide ((j:Int)<((l.map aB).length:Int))=true›
  exact⟨hlt,hq1.trans (uZ hlt h)⟩
 ·have hlt:j<l.length:=by simpa using ‹decide ((j:Int)<((l.map aB).length:Int))=true›
  omega
 ·rw[Aw (ki hq ‹decide ((k:Int)<((l.map aB).length:Int))=false›) ‹(!l.all fun v=>isV v 2)=false› rfl,yp hq1 h];rfl
end Go.Proofs.YtpejdgkaapnekaaGreat
namespace Go.Proofs.YtpejdgkaapnekaaGreat
open Go Go.Abs
def vP3(t:Bool×Nat×Nat):Val:=vP t.1 t.2.1 t.2.2
def ngV(v:Val):Bool:=decide (v.num<0)
def naV(v:Val):Nat:=v.num.natAbs
def dnV(v:Val):Nat:=v.den.natAbs
def P8(x y:Val)(minus:Bool):Val:=vP3 (lr (ngV x) (naV x) (dnV x) (ngV y) (naV y) (dnV y) minus)
def VC(x y:Val):Val:=vP3 (yo (ngV x != ngV y) (naV x*naV y) (dnV x*dnV y))
def KJ(x y:Val):Val:=if naV y=0 then ⟨0,3,0,[]⟩ else vP3 (yo (ngV x != ngV y) (naV x*dnV y) (dnV x*naV y))
def P9(x:Val):Val:=vP (ngV x) (if ngV x=true∧naV x % dnV x≠0 then naV x / dnV x+1 else naV x / dnV x) 1
def Qa(a b:Val):Int:=if sgF a.kind b.kind≠0 then sgF a.kind b.kind else if a.kind=2 then Ao (lr (ngV a) (naV a) (dnV a) (ngV b) (naV b) (dnV b) true) else if a.kind=3 then vT a.str b.str else sgF a.num b.num
def VD(op o:Int):Bool:=if op=13 then o==0 else if op=14 then o != 0 else if op=15 then decide (o<0) else if op=16 then decide (o≤0) else if op=17 then decide (0<o) else decide (0≤o)
def rvF(op:Int)(l:List Val):Val :=
 if op=4 then dA ((at_ l 0).num==0) else if op=5 then vz (at_ l 0) else if op=6 then P9 (at_ l 0) else if op=7 then dA ((at_ l 0).kind==0)
 else if op=8 then ⟨2,if (at_ l 0).kind==0 then (at_ l 0).num else 0,1,[]⟩ else if op=9 then P8 (at_ l 0) (at_ l 1) false else if op=10 then P8 (at_ l 0) (at_ l 1) true
 else if op=11 then VC (at_ l 0) (at_ l 1) else if op=12 then KJ (at_ l 0) (at_ l 1) else if op≤18 then dA (VD op (Qa (at_ l 0) (at_ l 1))) else if op=19 then qV false l else if op=20 then qV true l
 else if op=21 then (if (at_ l 0).kind==0 then at_ l 1 else at_ l 0) else (if (at_ l 0).kind==0 then at_ l 0 else if (at_ l 0).num==1 then at_ l 1 else at_ l 2)
def kdF(op:Int)(l:List Val):Bool :=
 if op=4∨op=19∨op=20 then l.all (fun v=>isV v 1) else if op=5∨op=6∨(9≤op∧op≤12) then l.all (fun v=>isV v 2) else if op=7∨op=8 then true
 else if op=22 then isV (at_ l 0) 1&&mL (at_ l (l.length-2)) (at_ l (l.length-1)) else mL (at_ l (l.length-2)) (at_ l (l.length-1))
def frF(op:Int):Bool:=op==7||op==8||decide (19≤op)
def doF(op:Int)(l:List Val):Val×Int:=doG l (kdF op l) (frF op) (rvF op l)
theorem sZ{v:Val}(h:cJ v=true)(hk:v.kind=2):naV v≤1099511627776∧1≤dnV v∧dnV v≤1099511627776∧v.den=(dnV v:Int):=by
 unfold cJ mO at h
 rw[hk] at h
 simp at h
 unfold naV dnV
 omega
theorem Cp{n:Nat}(h:n<79228162514264337593543950336):dl n≤3:=LL (w:=3) h
theorem Cq{a1 b1 a2 b2:Nat}(h1:a1≤1099511627776)(h2:1≤b1∧b1≤1099511627776)(h3:a2≤1099511627776)(h4:1≤b2∧b2≤1099511627776):RatOk a1 b1 a2 b2:=by
 have hm:∀ {x y:Nat},x≤1099511627776→y≤1099511627776→x*y≤1208925819614629174706176:=fun hx hy=>Nat.mul_le_mul hx hy
 have d:∀ {x:Nat},x≤1099511627776→(dig x).length≤400:=fun hx=>Xg (Cp (Nat.lt_of_le_of_lt hx (Xz (show 1099511627776<1099511627777 from Nat.lt_succ_self _) (W6 rfl)))) (by omega)
 have p:∀ {x:Nat},x≤2417851639229258349412352→dl x≤100:=fun hx=>Xg (Cp (Nat.lt_of_le_of_lt hx (Xz (Nat.lt_succ_self _) (W6 rfl)))) (by omega)
 have p1:=hm h1 h4.2
 have p2:=hm h3 h2.2
 have p3:=hm h2.2 h4.2
 have p5:=hm h1 h3
 have p6:=hm h2.2 h3
 exact⟨by omega,by omega,d h1,d h2.2,d h3,d h4.2,p (by omega),p (by omega),p (by omega),p (by omega),p (by omega),p (by omega)⟩
theorem E7{v:Val}{k:Int}(h:isV v k=true)(h0:¬ v.kind=0):v.kind=k:=by
 unfold isV at h
 simp at h
 exact h.resolve_left h0
theorem ta{l:List Val}(h:dJ l=none){i:Nat}(hi:i<l.length):¬ (at_ l i).kind=0:=by
 have:=List.find?_eq_none.1 h (at_ l i) (aU hi)
 simpa using this
theorem wY{l:List Val}{p:Val→Bool}(h:l.all p=true){i:Nat}(hi:i<l.length):p (at_ l i)=true:=XY.1 h _ (aU hi)
end Go.Proofs.YtpejdgkaapnekaaGreat
namespace Go.Proofs.YtpejdgkaapnekaaGreat
open Go Go.Abs
mutual
def iH(ds:List Dim)(ats:List Attr)(at':List Int)(vs:List Val):Scalar→Val
 | .mk o n v a=>if o=1 then v else if o=2 then at_ vs (atI ats n).toNat else if o=3 then ⟨2,at_ at' (ph ds n).toNat,1,[]⟩ else (doF o (mC ds ats at' vs a)).1
def mC(ds:List Dim)(ats:List Attr)(at':List Int)(vs:List Val):List Scalar→List Val
 | []=>[]
 | x::r=>iH ds ats at' vs x::mC ds ats at' vs r
end
section
variable {ds:List Dim} {ats:List Attr} {at':List Int} {vs:List Val}
theorem E8:∀ {s:Scalar},iH ds ats at' vs s=if s.op=1 then s.val else if s.op=2 then at_ vs (atI ats s.name).toNat else if s.op=3 then ⟨2,at_ at' (ph ds s.name).toNat,1,[]⟩ else (doF s.op (mC ds ats at' vs s.args)).1
 | .mk _ _ _ _=>by simp only[iH,Scalar.op,Scalar.name,Scalar.val,Scalar.args];rfl
theorem zN:∀ {l:List Scalar},(mC ds ats at' vs l).length=l.length
 | []=>rfl
 | x::r=>by simp[mC,zN (l:=r)]
def yh(ds:List Dim)(ats:List Attr)(x:Scalar):Prop:=(x.op=2→0≤atI ats x.name)∧(x.op=3→0≤ph ds x.name)
theorem Cu{cst:Val→Int}:∀ {l:List Scalar} {ts:List Int},eT cst ds ats l=.inr ts→∀ x∈l,(dM cst ds ats x).2=0
 | [],_,_,x,hx=>by simp at hx
 | y::r,ts,h,x,hx=>by
   simp only[eT] at h
   split at h
   ·cases h
   ·rename_i h1
    split at h
    ·cases h
    ·rename_i l2 h2
     rcases Xo.1 hx with rfl|hx
     ·exact Decidable.not_not.1 h1
     ·exact Cu h2 x hx
theorem zO:∀ {l:List Scalar} {z:Scalar},z∈bk l→∃ x∈l,z∈bB x
 | [],z,h=>by simp[bk] at h
 | x::r,z,h=>by
   simp only[bk,XF] at h
   rcases h with h|h
   ·exact⟨x,Xd,h⟩
   ·obtain⟨y,h1,h2⟩:=zO h
    exact⟨y,Xa _ h1,h2⟩
theorem PK{cst:Val→Int}(s:Scalar):gu s=true→(dM cst ds ats s).2=0→∀ z∈bB s,yh ds ats z:=by
 induction s using Scalar.ind with
 | h s ih =>
   intro hp h z hz
   rw[oT,WX] at hp
   rw[gM,XF] at hz
   rw[pN] at h
   by_cases h3:s.op=1∨s.op=2∨s.op=3
   ·have ha:s.args=[]:=vh hp.1 h3
    rw[ha] at hz
    have hz:z=s:=by
     rcases hz with hz|hz
     ·simp[bk] at hz
     ·simpa using hz
    subst hz
    refine⟨fun h2=>?_,fun h2=>?_⟩
    ·rw[if_neg (by omega),if_pos h2] at h
     unfold mI at h
     refine Int.not_lt.1 fun hc=>?_
     rw[if_pos hc] at h;simp at h
    ·rw[if_neg (by omega),if_neg (by omega),if_pos h2] at h
     unfold oy at h
     refine Int.not_lt.1 fun hc=>?_
     rw[if_pos hc] at h;simp at h
   ·rw[if_neg (fun h=>h3 (.inl h)),if_neg (fun h=>h3 (.inr (.inl h))),if_neg (fun h=>h3 (.inr (.inr h)))] at h
    rcases hz with hz|hz
    ·obtain⟨x,hx,hzx⟩:=zO hz
     cases ht:eT cst ds ats s.args with
     | inl e =>
       rw[ht] at h
       have he:e=0:=h
       exfalso
       have:∀ {l:List Scalar} {e:Int},eT cst ds ats l=.inl e→e≠0:=by
        intro l
        induction l with
        | nil=>intro e h;simp[eT] at h
        | cons y r ihl =>
          intro e h
          simp only[eT] at h
          split at h
          ·rename_i h1;cases h;exact h1
          ·split at h
           ·rename_i e2 h2;cases h;exact ihl h2
           ·cases h
       exact this ht he
     | inr ts=>exact ih x hx (nr hp.2 x hx) (Cu ht x hx) z hzx
    ·have hz:z=s:=by simpa using hz
     subst hz
     exact⟨fun h2=>absurd (.inr (.inl h2)) h3,fun h2=>absurd (.inr (.inr h2)) h3⟩
def fX(ds:List Dim)(ats:List Attr)(at':List Int)(vs:List Val)(l:List Val)(x:Scalar):Bool×List Val :=
 (true,if x.op=1 then l++[x.val] else if x.op=2 then l++[at_ vs (atI ats x.name).toNat] else if x.op=3 then l++[⟨2,at_ at' (ph ds x.name).toNat,1,[]⟩] else
  l.take (l.length-x.args.length)++[(doF x.op (l.drop (l.length-x.args.length))).1])
def xa(ds:List Dim)(ats:List Attr)(l:List Val)(x:Scalar):Prop:=yh ds ats x∧fh x=true∧l.length≤64∧(4≤x.op→x.args.length≤l.length)
theorem rI{α β:Type}{F:α→β→Bool×α}{ok:α→β→Prop}:∀ {l m:List β} {a:α},dQ F ok l a→((bV F l a).1=true→dQ F ok m (bV F l a).2)→dQ F ok (l++m) a
 | [],_,_,_,h=>h rfl
 | x::l,m,a,h1,h2=>by
   simp only[XL,dQ] at h1 ⊢
   refine⟨h1.1,fun hx=>rI (h1.2 hx) fun h=>?_⟩
   have e:bV F (x::l) a=bV F l (F a x).2:=by simp only[bV];rw[if_pos hx]
   rw[e] at h2;exact h2 h
theorem xb:∀ {r:List Scalar},
  (∀ x∈r,∀ l:List Val,l.length+(bB x).length≤65→dQ (fX ds ats at' vs) (xa ds ats) (bB x) l∧bV (fX ds ats at' vs) (bB x) l=(true,l++[iH ds ats at' vs x])) →
  ∀ l:List Val,l.length+(bk r).length≤65→dQ (fX ds ats at' vs) (xa ds ats) (bk r) l∧bV (fX ds ats at' vs) (bk r) l=(true,l++mC ds ats at' vs r)
 | [],_,l,hl=>⟨trivial,by simp[mC,bk,bV]⟩
 | x::r,h,l,hl=>by
   have hp:1≤(bB x).length:=by rw[gM];simp
   simp only[bk,W9] at hl
   obtain⟨h1,h2⟩:=h x (by simp) l (by omega)
   simp only[bk,mC]
   have ih:=xb (r:=r) (fun y hy=>h y (Xa _ hy)) (l++[iH ds ats at' vs x]) (by simp;omega)
   rw[fS,h2]
   refine⟨rI h1 (fun _=>by rw[h2];exact ih.1),?_⟩
   simp only[if_true]
   rw[ih.2];simp
theorem RF(s:Scalar):gu s=true→(∀ z∈bB s,yh ds ats z)→∀ l:List Val,l.length+(bB s).length≤65→dQ (fX ds ats at' vs) (xa ds ats) (bB s) l∧bV (fX ds ats at' vs) (bB s) l=(true,l++[iH ds ats at' vs s]):=by
 induction s using Scalar.ind with
 | h s ih =>
   intro hp hn l hl
   rw[oT,WX] at hp
   have hmem:∀ x∈s.args,∀ z∈bB x,z∈bB s:=by
    intro x hx z hz
    rw[gM,XF]
    refine .inl ?_
    have:∀ {r:List Scalar},x∈r→z∈bk r:=by
     intro r
     induction r with
     | nil=>intro h;simp at h
     | cons y r ihr =>
       intro h
       simp only[bk,XF]
       rcases Xo.1 h with rfl|h
       ·exact .inl hz
       ·exact .inr (ihr h)
    exact this hx
   have hL:=xb (ds:=ds) (ats:=ats) (at':=at') (vs:=vs) (r:=s.args) (fun x hx l hl=>ih x hx (nr hp.2 x hx) (fun z hz=>hn z (hmem x hx z hz)) l hl)
   have hns:yh ds ats s:=hn s (by rw[gM];simp)
   rw[gM] at hl ⊢
   simp only[W9,Xq,List.length_nil] at hl
   by_cases h3:s.op=1∨s.op=2∨s.op=3
   ·have ha:s.args=[]:=vh hp.1 h3
    have hok:xa ds ats l s:=⟨hns,hp.1,by omega,fun h=>by omega⟩
    have hF:fX ds ats at' vs l s=(true,l++[iH ds ats at' vs s]):=by
     rw[E8];simp only[fX]
     rcases h3 with h3|h3|h3<;>simp[h3]
    rw[ha]
    simp only[bk,X3,dQ,bV]
    rw[hF]
    exact⟨⟨hok,fun _=>trivial⟩,by simp⟩
   ·obtain⟨hop,hlen⟩:=oS hp.1 (fun h=>h3 (.inl h)) (fun h=>h3 (.inr (.inl h))) (fun h=>h3 (.inr (.inr h)))
    obtain⟨h4,h5⟩:=hL l (by omega)
    have hts:=zN (ds:=ds) (ats:=ats) (at':=at') (vs:=vs) (l:=s.args)
    have hle:=rj (r:=s.args)
    have hd:(l++mC ds ats at' vs s.args).length-s.args.length=l.length:=by simp[hts]
    have hF:fX ds ats at' vs (l++mC ds ats at' vs s.args) s=(true,l++[iH ds ats at' vs s]):=by
     simp only[fX]
     rw[if_neg (fun h=>h3 (.inl h)),if_neg (fun h=>h3 (.inr (.inl h))),if_neg (fun h=>h3 (.inr (.inr h))),hd,E8,if_neg (fun h=>h3 (.inl h)),if_neg (fun h=>h3 (.inr (.inl h))),if_neg (fun h=>h3 (.inr (.inr h)))]
     simp
    refine⟨rI h4 (fun _=>?_),?_⟩
    ·rw[h5]
     exact⟨⟨hns,hp.1,by simp[hts];omega,fun _=>by simp[hts]⟩,fun _=>trivial⟩
    ·rw[fS,h5]
     simp only[if_true,bV,hF]
end
end Go.Proofs.YtpejdgkaapnekaaGreat
namespace Go.Proofs.YtpejdgkaapnekaaGreat
open Go Go.Abs
theorem qx{m n:Nat}(hn:n≠0):n / Nat.gcd m n≠0:=by
 have hp:=Nat.pos_of_ne_zero hn
 exact Nat.ne_of_gt (Nat.div_pos (Nat.le_of_dvd hp (Nat.gcd_dvd_right m n)) (Nat.gcd_pos_of_pos_right m hp))
theorem CN{s1 s2 minus:Bool}{a1 b1 a2 b2:Nat}(h1:b1≠0)(h2:b2≠0):(lr s1 a1 b1 s2 a2 b2 minus).2.2≠0:=by
 have h:=Nat.mul_ne_zero h1 h2
 unfold lr yo
 split
 ·exact qx h
 ·split
  ·exact qx h
  ·exact qx h
structure NumOk (v:Val):Prop where
 a:naV v≤1099511627776
 b:1≤dnV v∧dnV v≤1099511627776
theorem nA{l:List Val}(hall:l.all cJ=true)(hk:l.all (fun v=>isV v 2)=true)(hm:dJ l=none){i:Nat}(hi:i<l.length):NumOk (at_ l i):=by
 have h1:=wY hall hi
 have h2:=E7 (wY hk hi) (ta hm hi)
 obtain⟨q1,q2,q3,_⟩:=sZ h1 h2
 exact⟨q1,q2,q3⟩
theorem NumOk.rat{x y:Val}(h:NumOk x)(h':NumOk y):RatOk (naV x) (dnV x) (naV y) (dnV y):=Cq h.a h.b h'.a h'.b
theorem fe{p:Prop}(h:false=true∨p):p:=h.resolve_left (by simp)
theorem GR(l:List Val)(hl:2≤l.length)(f:FuncId)(t:Bool×Nat×Nat)(hb:t.2.2≠0)(hf:CallA Tryz.prog f [.one (.d (nV (at_ l 0))),.one (.d (nV (at_ l 1)))] [] (.one (.d (di t.1 t.2.1 t.2.2))) []) :
  CallA Tryz.prog 358 [.one (.d (aY l)),.one (.d (.ptr [.fn f []]))] [] (b0 (vP3 t)) []:=WH l hl f _ _ _ hb hf
theorem Qw(s1:Bool)(a1 b1:Nat)(s2:Bool)(a2 b2:Nat)(hz:a2=0)(h1:b1≠0)(h2:b2≠0):CallA Tryz.prog 362 [.one (.d (di s1 a1 b1)),.one (.d (di s2 a2 b2))] [] (.tup [(false,[.d (.raw (.pointer none))]),(false,[.d (.int .i64 2)])]) []:=by
 subst hz;exact Ro s1 a1 b1 s2 b2 h1 h2
theorem WI(op:Int)(l:List Val)(hop:4≤op∧op≤22)(hl:(l.length:Int)=mq op):CallA Tryz.prog 186 [.one (.d (.int .i64 op)),.one (.d (aY l))] [] (Cr (doF op l)) []:=by
 have hlen:∀ n:Int,(l.length:Int)=n→(((l.map aB).length:Nat):Int)=n:=by intro n h;simpa using h
 have cmpc:∀ {f:FuncId} (g:Int→Bool),l.length=2→(∀ o:Int,CallA Tryz.prog f [.one (.d (.int .i64 o))] [] (.one (.d (.bool (g o)))) [])→l.all cJ=true→mL (at_ l (l.length-2)) (at_ l (l.length-1))=true→dJ l=none →
   CallA Tryz.prog 364 [.one (.d (aY l)),.one (.d (.ptr [.fn f []]))] [] (b0 (dA (g (Qa (at_ l 0) (at_ l 1))))) []:=by
  intro f g h2 hf hall hal hm
  rw[h2] at hal
  refine Td l f g (by omega) (fun hk=>?_) hf
  have k0:=ta hm (i:=0) (by omega)
  have k1:=ta hm (i:=1) (by omega)
  have hkk:(at_ l 1).kind=2:=by
   unfold mL at hal
   have:isV (at_ l 1) (at_ l 0).kind=true:=by
    rcases Xs _ _ ▸ hal with h|h
    ·exact absurd (by simpa using h) k0
    ·exact h
   rw[hk] at this
   exact E7 this k1
  obtain⟨q1,q2,q3,_⟩:=sZ (wY hall (i:=0) (by omega)) hk
  obtain⟨r1,r2,r3,_⟩:=sZ (wY hall (i:=1) (by omega)) hkk
  exact Cq q1 ⟨q2,q3⟩ r1 ⟨r2,r3⟩
 unfold doF
 rcases Cg hop with rfl|rfl|rfl|rfl|rfl|rfl|rfl|rfl|rfl|rfl|rfl|rfl|rfl|rfl|rfl|rfl|rfl|rfl|rfl<;>simp[mq] at hl
 ·exact gd _ l (by omega) _ _ _ _ _ _ _ _ _ _ (by rw[hlen 1 (by omega)];exact Iy) (fun _=>qM l 1) (fun _ _ _=>SL l (by omega))
 ·exact NG l (by omega) (by omega) (by rw[hlen 1 (by omega)];exact Iz)
 ·refine gd _ l (by omega) _ _ _ _ _ _ _ _ _ _ (by rw[hlen 1 (by omega)];exact IA) (fun _=>qM l 2) (fun hall hk hf=>?_)
  have n0:=nA hall hk (fe hf) (i:=0) (by omega)
  have r:=n0.rat n0
  exact WJ l (by omega) r.h1 (Xg (kM (Nat.le_mul_of_pos_right _ n0.b.1)) r.m1) (Xg (kM (Nat.le_mul_of_pos_right _ n0.b.1)) r.m3) (Xg (kM (Nat.div_le_self _ _)) r.l1)
 ·exact gd _ l (by omega) _ _ _ _ _ _ _ _ _ _ (by rw[hlen 1 (by omega)];exact IB) (fun _=>OA _) (fun _ _ _=>SM l (by omega))
 ·exact gd _ l (by omega) _ _ _ _ _ _ _ _ _ _ (by rw[hlen 1 (by omega)];exact IC) (fun _=>OA _) (fun _ _ _=>SN l (by omega))
 ·refine gd _ l (by omega) _ _ _ _ _ _ _ _ _ _ (by rw[hlen 2 (by omega)];exact ID) (fun _=>qM l 2) (fun hall hk hf=>?_)
  have r:=(nA hall hk (fe hf) (i:=0) (by omega)).rat (nA hall hk (fe hf) (i:=1) (by omega))
  exact GR l (by omega) 321 _ (CN r.h1 r.h2) (by rw[← CC];exact T8 xD _ _ _ _ _ _ r)
 ·refine gd _ l (by omega) _ _ _ _ _ _ _ _ _ _ (by rw[hlen 2 (by omega)];exact EG) (fun _=>qM l 2) (fun hall hk hf=>?_)
  have r:=(nA hall hk (fe hf) (i:=0) (by omega)).rat (nA hall hk (fe hf) (i:=1) (by omega))
  exact GR l (by omega) 322 _ (CN r.h1 r.h2) (by rw[← CC];exact Pt xD _ _ _ _ _ _ r)
 ·refine gd _ l (by omega) _ _ _ _ _ _ _ _ _ _ (by rw[hlen 2 (by omega)];exact EH) (fun _=>qM l 2) (fun hall hk hf=>?_)
  have r:=(nA hall hk (fe hf) (i:=0) (by omega)).rat (nA hall hk (fe hf) (i:=1) (by omega))
  exact GR l (by omega) 323 _ (qx (Nat.mul_ne_zero r.h1 r.h2)) (T9 xD _ _ _ _ _ _ r)
 ·refine gd _ l (by omega) _ _ _ _ _ _ _ _ _ _ (by rw[hlen 2 (by omega)];exact EI) (fun _=>qM l 2) (fun hall hk hf=>?_)
  have r:=(nA hall hk (fe hf) (i:=0) (by omega)).rat (nA hall hk (fe hf) (i:=1) (by omega))
  show CallA Tryz.prog 324 _ [] (b0 (KJ (at_ l 0) (at_ l 1))) []
  unfold KJ
  by_cases h0:naV (at_ l 1)=0
  ·rw[if_pos h0]
   refine RS l (by omega) ?_
   exact Qw _ _ _ _ _ _ h0 r.h1 r.h2
  ·rw[if_neg h0]
   exact RT l (by omega) _ _ _ (qx (Nat.mul_ne_zero r.h1 h0)) (Ua xD _ _ _ _ _ _ r h0)
 ·exact gd _ l (by omega) _ _ _ _ _ _ _ _ _ _ (by rw[hlen 2 (by omega)];exact EJ) (fun _=>r9 l (by omega)) (fun hall hk hf=>cmpc (fun o=>o==0) (by omega) SF hall hk (fe hf))
 ·exact gd _ l (by omega) _ _ _ _ _ _ _ _ _ _ (by rw[hlen 2 (by omega)];exact EK) (fun _=>r9 l (by omega)) (fun hall hk hf=>cmpc (fun o=>o != 0) (by omega) SG hall hk (fe hf))
 ·exact gd _ l (by omega) _ _ _ _ _ _ _ _ _ _ (by rw[hlen 2 (by omega)];exact EL) (fun _=>r9 l (by omega)) (fun hall hk hf=>cmpc (fun o=>decide (o<0)) (by omega) SH hall hk (fe hf))
 ·exact gd _ l (by omega) _ _ _ _ _ _ _ _ _ _ (by rw[hlen 2 (by omega)];exact EM) (fun _=>r9 l (by omega)) (fun hall hk hf=>cmpc (fun o=>decide (o≤0)) (by omega) SI hall hk (fe hf))
 ·exact gd _ l (by omega) _ _ _ _ _ _ _ _ _ _ (by rw[hlen 2 (by omega)];exact EN) (fun _=>r9 l (by omega)) (fun hall hk hf=>cmpc (fun o=>decide (0<o)) (by omega) SJ hall hk (fe hf))
 ·exact gd _ l (by omega) _ _ _ _ _ _ _ _ _ _ (by rw[hlen 2 (by omega)];exact EO) (fun _=>r9 l (by omega)) (fun hall hk hf=>cmpc (fun o=>decide (0≤o)) (by omega) SK hall hk (fe hf))
 ·exact gd _ l (by omega) _ _ _ _ _ _ _ _ _ _ (by rw[hlen 2 (by omega)];exact EP) (fun _=>qM l 1) (fun _ _ _=>ON l false (by omega))
 ·exact gd _ l (by omega) _ _ _ _ _ _ _ _ _ _ (by rw[hlen 2 (by omega)];exact ER) (fun _=>qM l 1) (fun _ _ _=>ON l true (by omega))
 ·exact gd _ l (by omega) _ _ _ _ _ _ _ _ _ _ (by rw[hlen 2 (by omega)];exact ES) (fun _=>r9 l (by omega)) (fun _ _ _=>SO l (by omega))
 ·exact gd _ l (by omega) _ _ _ _ _ _ _ _ _ _ (by rw[hlen 3 (by omega)];exact ET) (fun _=>SQ l (by omega)) (fun _ _ _=>SP l (by omega))
end Go.Proofs.YtpejdgkaapnekaaGreat
namespace Go.Proofs.YtpejdgkaapnekaaGreat
open Go Go.Abs
attribute [local irreducible] aa OkC ak av aq aI
set_option maxRecDepth 10000
theorem GQ{op:Int}(h:1≤op∧op≤22):op=1∨op=2∨op=3∨op=4∨op=5∨op=6∨op=7∨op=8∨op=9∨op=10∨op=11∨op=12∨op=13∨op=14∨op=15∨op=16∨op=17∨op=18∨op=19∨op=20∨op=21∨op=22:=by omega
theorem Qt{op:Int}(h:1≤op∧op≤22):AZ env.T 208 (some (.one (.d (.int .i64 op)))) (some (.agg B7))=some (.agg [.d (.int .i64 (mq op)),.d (.bool (decide (op=2)||decide (op=3))),.d (.bool (decide (op=1)))]):=by
 rcases GQ h with rfl|rfl|rfl|rfl|rfl|rfl|rfl|rfl|rfl|rfl|rfl|rfl|rfl|rfl|rfl|rfl|rfl|rfl|rfl|rfl|rfl|rfl<;>rfl
theorem WD(s:Scalar):CallA Tryz.prog 173 [fc s] [] (.one (.d (.bool (fh s)))) []:=by
 refine enter af Tryz.func173 rfl (by decide +kernel) rfl fun hok w0 σ0 φ0 M=>?_
 clear hok
 repeat' (first|(refine h1H ?_;(refine h0H ?_;refine ae J J J J J J J J (TY _ _ _ _) J ?_))|(refine h4H ?_;(refine TN ?_;refine d_e envOk J J J (AY J J J J (Qt wB)) ?_))|(refine h4H ?_;(refine h3H ?_;refine d_l J J (bM J J J J J J (UD) J) ?_))|refine wG ?_|(refine h1H ?_;(refine dv ?_;refine bx J J J J (fun h=>?_) (fun h=>?_)))|(refine h2H ?_;refine aj J (fun h=>?_) (fun h=>?_)))
 all_goals (try rw[Bv] at *)
 all_goals (try (((simp_all[fh,mq,Bv,au,W7])<;>exact wL);done))
end Go.Proofs.YtpejdgkaapnekaaGreat
namespace Go.Proofs.YtpejdgkaapnekaaGreat
open Go Go.Abs
attribute [local irreducible] aa OkC ak av aq aI OkR tt dp jM xy
set_option maxRecDepth 10000
def FX(d:Bool):LoopState:=if d then .done else .ready
def xV(d:Bool):Option Code:=if d then some .ret else none
def nB(li:LI)(fr:List (Nat×AV))(a:Int×Bool×Bool):Sto :=
 [(1000000,.loop li fr (FX a.2.2) (xV a.2.2)),(1000001,.box [.d (.int .i64 (if a.2.2 then 9 else 0))]),(1000002,.box [.d (.int .i64 a.1)]),(1000003,.box [.d (.bool a.2.1)])]
def F87(a:Int×Bool×Bool)(x:Scalar):Bool×(Int×Bool×Bool):=if 64<a.1+1 then (false,(a.1+1,a.2.1,true)) else (true,(a.1+1,a.2.1&&fh x,false))
def GX(a:Int×Bool×Bool)(x:Scalar):Prop:=a.2.2=false∧0≤a.1∧a.1≤64
theorem C8:∀ (l:List Scalar) (n:Int) (r:Bool),0≤n→n≤64→dQ F87 GX l (n,r,false)∧mX l n r=(if (bV F87 l (n,r,false)).2.2.2=true then 9 else if (bV F87 l (n,r,false)).2.2.1=true then 0 else 2)
 | [],n,r,h0,h1=>⟨trivial,rfl⟩
 | x::l,n,r,h0,h1=>by
   simp only[dQ,bV,mX,F87,GX]
   by_cases h:64<n+1
   ·simp only[h,if_true]
    exact⟨⟨⟨trivial,h0,h1⟩,fun h=>by cases h⟩,rfl⟩
   ·have ih:=C8 l (n+1) (r&&fh x) (by omega) (by omega)
    simp only[h,if_false,if_true]
    exact⟨⟨⟨trivial,h0,h1⟩,fun _=>ih.1⟩,ih.2⟩
theorem R6(li:LI)(fr:List (Nat×AV))(hf:∀ a,iC (nB li fr a) fr=true):FamW (nB li fr):=by
 refine⟨fun a i e h=>?_,fun a=>?_,fun a=>⟨li,fr,FX a.2.2,xV a.2.2,rfl⟩,fun a=>rfl⟩
 ·unfold nB at h
  rcases ah h with⟨rfl,_⟩|⟨_,h⟩
  ·omega
  rcases ah h with⟨rfl,_⟩|⟨_,h⟩
  ·omega
  rcases ah h with⟨rfl,_⟩|⟨_,h⟩
  ·omega
  rcases ah h with⟨rfl,_⟩|⟨_,h⟩
  ·omega
  ·exact nomatch h
 ·show (iC (nB li fr a) fr&&_)=true
  rw[hf a];rfl
theorem y87{li:LI}{fr:List (Nat×AV)}(a:Int×Bool×Bool)(x:Scalar)(hok:GX a x)
  (hps:(ka li.n li.params.toList&&Nat.beq li.params.toList.length 1)=true)
  (h:∀ (n:Int) (r:Bool),0≤n→n≤64→∀ (w0:World) (σ0:Sig) (φ0:Pl) (M:Nat→Prop) (B:Nat),OkC Tryz.prog ⟨w0,σ0,φ0,M,li.n,some B,[]⟩ li.assign ⟨gX li.params.toList [fc x] fr,nB li fr (n,r,false)⟩
   (jM Tryz.prog 1000000 ⟨w0,σ0,φ0,M,li.n,some B,[]⟩ li.body (.one (.d (.bool (F87 (n,r,false) x).1))) (nB li fr (F87 (n,r,false) x).2))) :
  YieldA Tryz.prog 1000000 [fc x] (nB li fr a) (.one (.d (.bool (F87 a x).1))) (nB li fr (F87 a x).2):=by
 obtain⟨n,r,d⟩:=a
 obtain⟨rfl,h0,h1⟩:d=false∧0≤n∧n≤64:=hok
 exact oM ⟨by omega,by omega⟩ rfl hps (h n r h0 h1)
theorem c87(s:Scalar):CallA Tryz.prog 87 [fc s] [] (.one (.d (.int .i64 (gz s)))) []:=by
 obtain⟨h0,hform⟩:=C8 (bB s) 0 true (by omega) (by omega)
 obtain⟨⟨n',r',d'⟩,hR⟩:∃ a,(bV F87 (bB s) (0,true,false)).2=a:=⟨_,rfl⟩
 rw[hR] at hform
 refine enter af Tryz.func87 rfl (by decide +kernel) rfl fun hok w0 σ0 φ0 M=>?_
 clear hok
 repeat' (first|(refine h1H ?_;(refine h0H ?_;first|refine ae J J J J J J J J (Ps 12 s 12 J (by omega)) J ?_|refine aM 16 J J J J J J J J (Kv _) J J J ?_))|refine wG ?_|(refine h2H ?_;refine aj J (fun h=>?_) (fun h=>?_)))
 ·simp[gz,h]
 ·have hC:=fun li fr hf hY=>Kw (nB li fr) (R6 li fr hf) F87 GX hY s (0,true,false) h0
  rw[hR] at hC
  refine oH (f:=216) (caps:=[.ptr (sE s)]) (os:=[(1,.box [.d (.int .i64 0)]),(2,.box [.d (.int .i64 0)]),(3,.box [.d (.bool true)])]) (rav:=.tup []) [1,2,3] 10 rfl rfl rfl rfl (hC _ _ (fun a=>?_) (fun a x hok=>?_)) (by cases d'<;>rfl) (fun h=>?_) (fun h=>?_)
  ·rfl
  ·refine y87 a x hok rfl fun n r hn0 hn1 w0 σ0 φ0 M B=>?_
   clear hC hform hok a
   by_cases hb:64<n+1
   ·have e:F87 (n,r,false) x=(false,(n+1,r,true)):=by simp[F87,hb]
    have hd:decide (64<n+1)=true:=by simp[hb]
    rw[e]
    repeat' (first|refine wG ?_|(show dp _ _ _ _ _;refine pR J J ?_ ?_))
    ·rfl
    ·exact ab rfl (q3Q rfl rfl rfl)
   ·have e:F87 (n,r,false) x=(true,(n+1,r&&fh x,false)):=by simp[F87,hb]
    have hd:decide (64<n+1)=false:=by simp[hb]
    rw[e]
    cases r
    all_goals
     repeat' (first|(refine h1H ?_;(refine h0H ?_;refine ae J J J J J J J J (WD _) J ?_))|refine wG ?_|(show dp _ _ _ _ _;refine gj J ?_ ?_))
     all_goals first|rfl|refine ab ?_ (ab ?_ (ab ?_ (ab ?_ aW)))
     all_goals first|rfl|trace_state
  ·have:d'=false:=by cases d'<;>simp[xV] at h ⊢
   subst this
   rintro ⟨w1,σ1,φ1,M1,n1,rd1,mk1⟩ ⟨hn,hrd,_⟩
   dsimp only at hn hrd
   subst hn hrd
   repeat' (first|refine wG ?_|(refine h2H ?_;refine aj J (fun h=>?_) (fun h=>?_)))
   all_goals simp_all[gz]
  ·have:d'=true:=by cases d'<;>simp[xV] at h ⊢
   subst this
   repeat' (first|refine wG ?_)
   have hf:gz s=9:=by rw[gz,hform];simp_all
   rw[hf];rfl
end Go.Proofs.YtpejdgkaapnekaaGreat
