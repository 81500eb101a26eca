import Derived.LoopNIn
import Derived.Test.YtpejdgkaapnekaaGreatIP9
import Derived.Test.YtpejdgkaapnekaaGreatIPb
set_option linter.unusedVariables false
set_option linter.unusedSimpArgs false
set_option maxHeartbeats 1000000
namespace Go.Abs
open Go
variable {P:Program} {V:Env} {T:Tab} {c:Ctx} {w0:World} {σ0:Sig} {φ0:Pl} {M:Nat→Prop} {n:Nat} {rd:Option Nat} {mk:List Deferred} {ops:Array Oper} {o:Oper} {rest:List Oper} {fr:List (Nat×AV)} {sto:Sto} {K:St→Prop} {st st0:St} {acc:List Tr}
theorem vS(hg:o.guard=none):({ o with guard:=none }:Oper)=o:=by obtain⟨_,_,_,_,_,g⟩:=o;simp only at hg;subst hg;rfl
def wb:Op→Bool
 | .binOp .add _ _ _ _|.binOp .sub _ _ _ _|.binOp .mul _ _ _ _|.binOp .rem _ _ _ _|.binOp .quo _ _ _ _|.unOp .neg _ _|.convert _ _ _|.pick ..|.index ..|.indexAddr ..|.call { callee:=.value _,.. }=>false
 | _=>true
theorem Ca(hT:aD P T){d:Nat}{v:AV}(hp:wb o.op=true)(hg:o.guard=none)(hdst:o.dst=some d)(hd:Nat.blt d n=true)(hv:b5 T ⟨fr,sto⟩ o.op=some v)
  (h:aa P ⟨w0,σ0,φ0,M,n,rd,mk⟩ ops rest ⟨(d,v)::fr,sto⟩ K):aa P ⟨w0,σ0,φ0,M,n,rd,mk⟩ ops (o::rest) ⟨fr,sto⟩ K:=fQ hT hg hdst hd hv h
theorem ui(hV:EnvOk P V){e:Ef}{dst:Option Nat}(hg:o.guard=none)(hdst:o.dst=dst)(hd:aw n dst=true)(h:aR V ⟨fr,sto⟩ o 0=some e)(he:e.new=[])(hk:aa P ⟨w0,σ0,φ0,M,n,rd,mk⟩ ops rest ⟨aU dst e.v fr,bT e.wr sto⟩ K) :
  aa P ⟨w0,σ0,φ0,M,n,rd,mk⟩ ops (o::rest) ⟨fr,sto⟩ K:=by
 have:=mh (c:=⟨w0,σ0,φ0,M,n,rd,mk⟩) hV (o:=o) (by rw[hdst];exact hd) h rfl (fun i hi=>by rw[he] at hi;simp at hi) ops rest K (by rw[hdst];exact hk)
 rwa [vS hg] at this
theorem cq{d j:Nat}{want b:Bool}(hg:o.guard=some (j,want))(hb:eZ ⟨fr,sto⟩ ops j=some (some b))(hdst:o.dst=some d)(hd:Nat.blt d n=true)
  (h1:b=want→aa P ⟨w0,σ0,φ0,M,n,rd,mk⟩ ops ({ o with guard:=none }::rest) ⟨fr,sto⟩ K) (h2:b=!want→aa P ⟨w0,σ0,φ0,M,n,rd,mk⟩ ops rest ⟨(d,.tup [])::fr,sto⟩ K) :
  aa P ⟨w0,σ0,φ0,M,n,rd,mk⟩ ops (o::rest) ⟨fr,sto⟩ K:=by
 by_cases h:b=want
 ·exact vO hg hb h (h1 h)
 ·have h':b=!want:=by cases b<;>cases want<;>simp at h ⊢
  exact Br hg hb h' hdst hd (h2 h')
theorem Dj{d j:Nat}{want:Bool}(hg:o.guard=some (j,want))(hb:eZ ⟨fr,sto⟩ ops j=some none)(hdst:o.dst=some d)(hd:Nat.blt d n=true)
  (h:aa P ⟨w0,σ0,φ0,M,n,rd,mk⟩ ops rest ⟨(d,.tup [])::fr,sto⟩ K):aa P ⟨w0,σ0,φ0,M,n,rd,mk⟩ ops (o::rest) ⟨fr,sto⟩ K :=
 mY hg hb rfl (by rw[hdst];exact hd) (by rw[hdst];exact h)
theorem xM(id:Nat){d:Nat}{t:TypeId}{x:Operand}{v:AV}{cs:List AC}(ho:o.op=.box t x)(hg:o.guard=none)(hdst:o.dst=some d)(hd:(Nat.blt d n&&(Nat.blt id 1000000&&(!aZ sto id&&!aQ id fr&&!aF id sto)))=true)
  (hx:ev ⟨fr,sto⟩ x=some v) (hc:(match cellsOf v with|some cs'=>bif bZ id cs' then none else some cs'|none=>none)=some cs)
  (h:aa P ⟨w0,σ0,φ0,M,n,rd,mk⟩ ops rest ⟨(d,.one (.ref id 0))::fr,(id,.box cs)::sto⟩ K):aa P ⟨w0,σ0,φ0,M,n,rd,mk⟩ ops (o::rest) ⟨fr,sto⟩ K:=by
 simp only[GZ,Hd] at hd
 split at hc<;>(try (simp at hc;done))
 rename_i cs' hcs
 cases hm:bZ id cs'<;>simp[hm] at hc
 subst hc
 exact rB ho hg hdst (by simp only[GZ];exact⟨hd.1,hd.2.1⟩) hx hcs hd.2.2.1.2 hd.2.2.2 hm h
theorem aj{d:Nat}{fop:Operand}{args:Array Operand}{ats:Array TypeId}{f:FuncId}{caps:List D}{avs avs':List AV}{rav:AV}{rsto:Sto}
  (ho:o.op=.call { callee:=.value fop,args:=args,argTypes:=ats }) (hg:o.guard=none) (hdst:o.dst=some d) (hd:Nat.blt d n=true) (hf:ev ⟨fr,sto⟩ fop=some (.one (.d (.fn f caps))))
  (ha:evL ⟨fr,sto⟩ args.toList=some avs) (hD:bS avs=true) (hap:(avs++caps.map fun x=>.one (.d x))=avs') (hC:CallA P f avs' [] rav rsto) (hfl:fq rav=true)
  (h:aa P ⟨w0,σ0,φ0,M,n,rd,mk⟩ ops rest ⟨(d,rav)::fr,sto⟩ K):aa P ⟨w0,σ0,φ0,M,n,rd,mk⟩ ops (o::rest) ⟨fr,sto⟩ K:=by
 subst hap
 exact fJ ho hg (by rw[hdst];exact hd) (Imp.refl _) hf ha hD hC hfl (by rw[hdst];exact h)
theorem DY(h1:ij ops.toList st0 acc.reverse=true)(h2:K st):ah P c ops st0 [] st acc K:=⟨h1,h2⟩
theorem ji{tr:Tr}(hg:o.guard=none)(hl:Loc P c o st tr)(h:ah P c ops st0 rest ⟨aU o.dst tr.v st.fr,bT tr.wr st.sto⟩ (tr::acc) K):ah P c ops st0 (o::rest) st acc K :=
 ⟨true,tr,by unfold er;rw[hg],fun _=>hl,fun e=>by simp at e,fun e=>by simp at e,h⟩
theorem Cb{tr:Tr}{j:Nat}{want b:Bool}(hg:o.guard=some (j,want))(hb:eZ st ops j=some (some b))(hw:b=want)
  (hl:Loc P c o st tr) (h:ah P c ops st0 rest ⟨aU o.dst tr.v st.fr,bT tr.wr st.sto⟩ (tr::acc) K):ah P c ops st0 (o::rest) st acc K :=
 ⟨true,tr,by unfold er;rw[hg];exact⟨_,hb,by subst hw;simp⟩,fun _=>hl,fun e=>by simp at e,fun e=>by simp at e,h⟩
theorem DZ{d j:Nat}{want b:Bool}(hg:o.guard=some (j,want))(hb:eZ st ops j=some (some b))(hw:b=!want)(hdst:o.dst=some d)(hd:Nat.blt d c.n=true)
  (h:ah P c ops st0 rest ⟨(d,.tup [])::st.fr,st.sto⟩ (Tr.none::acc) K):ah P c ops st0 (o::rest) st acc K :=
 ⟨false,Tr.none,by unfold er;rw[hg];exact⟨_,hb,by subst hw;cases want<;>simp⟩,fun e=>by simp at e,fun _=>rfl,fun _=>by rw[hdst];exact hd,by rw[hdst];exact h⟩
theorem D0(hV:EnvOk P V){e:Ef}(hd:aw c.n o.dst=true)(h:aR V st o 0=some e):Loc P c o st (e.tr (oR st o.op)):=ka hV hd h rfl
theorem b9{v:AV}(hv:b5 V.T st o.op=some v):aR V st o 0=some ⟨v,[],[]⟩:=by
 simp only[aR,dg,hv]
theorem ve{v:AV}(hp:wb o.op=true)(hv:b5 V.T st o.op=some v):aR V st o 0=some ⟨v,[],[]⟩:=b9 hv
theorem kW{op:BinOp}{t ty:TypeId}{x y:Operand}{k k':IntKind}{a b z:Int}(ho:o.op=.binOp op t x y ty)(hop:vN op=true)
  (hx:ev st x=some (.one (.d (.int k a)))) (hy:ev st y=some (.one (.d (.int k' b)))) (hk:kEq k k'=true) (hz:k.wrap (Bp op a b)=z):aR V st o 0=some ⟨.one (.d (.int k z)),[],[]⟩:=by
 refine b9 ?_
 rw[ho]
 simp only[b5,hx,hy,oO,hk,HW]
 cases op<;>simp[vN] at hop<;>simp only[jz,HV,tB,← hz,Bp]
theorem ql{x y z:Operand}{b:Bool}{v:AV}(ho:o.op=.pick x y z)(hx:ev st x=some (.one (.d (.bool b))))(hv:ev st (if b then y else z)=some v):aR V st o 0=some ⟨v,[],[]⟩:=by
 simp only[aR,dg,b5,ho,db,hx,hv]
theorem oB{x y z:Operand}{b:Bool}{v:AV}(ho:o.op=.pick x y z)(hx:ev st x=some (.one (.d (.bool b))))(hb:b=true)(hv:ev st y=some v):aR V st o 0=some ⟨v,[],[]⟩:=ql ho hx (by rw[hb];exact hv)
theorem oC{x y z:Operand}{b:Bool}{v:AV}(ho:o.op=.pick x y z)(hx:ev st x=some (.one (.d (.bool b))))(hb:b=false)(hv:ev st z=some v):aR V st o 0=some ⟨v,[],[]⟩:=ql ho hx (by rw[hb];exact hv)
theorem d_e(hV:EnvOk P V){d:Nat}{v:AV}(hg:o.guard=none)(hdst:o.dst=some d)(hd:Nat.blt d c.n=true)(h:aR V ⟨fr,sto⟩ o 0=some ⟨v,[],[]⟩)
  (k:ah P c ops st0 rest ⟨(d,v)::fr,sto⟩ (⟨v,[],oR ⟨fr,sto⟩ o.op,[]⟩::acc) K):ah P c ops st0 (o::rest) ⟨fr,sto⟩ acc K :=
 ji hg (D0 hV (by rw[hdst];exact hd) h) (by rw[hdst];exact k)
theorem d_l{d:Nat}{v:AV}(hg:o.guard=none)(hdst:o.dst=some d)(hl:Loc P c o ⟨fr,sto⟩ ⟨v,[],[],[]⟩)
  (k:ah P c ops st0 rest ⟨(d,v)::fr,sto⟩ (⟨v,[],[],[]⟩::acc) K):ah P c ops st0 (o::rest) ⟨fr,sto⟩ acc K :=
 ji hg hl (by rw[hdst];exact k)
theorem Cc{j:Nat}{want b:Bool}(hg:o.guard=some (j,want))(hb:eZ st ops j=some (some b))(hw:b=want)
  (h:ah P c ops st0 ({ o with guard:=none }::rest) st acc K):ah P c ops st0 (o::rest) st acc K:=by
 obtain⟨run,tr,h1,h2,h3,h4,h5⟩:=h
 have hr:run=true:=h1
 subst hr
 exact Cb hg hb hw (h2 rfl) h5
theorem dS{k b k' b':Nat}{t e:TypeId}{z:List D}{x y:Operand}{xs:List (List D)}{ik:IntKind}{i:Int}{el:List D}
  (ho:o.op=.indexAddr t x y) (ht:aM V.T t=some (e,k',b',z)) (hx:ev st x=some (.one (.d (.sl k b xs)))) (hk:Nat.beq k k'=true)
  (hy:ev st y=some (.one (.d (.int ik i)))) (hi:0≤i) (hel:xs[i.toNat]?=some el):aR V st o 0=some ⟨.one (.d (.ptr el)),[],[]⟩:=by
 simp only[aR,dg,b5,ho,db,hx,hy,mQ,ht,hk,hi,decide_true,HL,HW,ey,hel]
theorem uj{t:TypeId}{x y:Operand}{ik:IntKind}{i:Int}{s:List UInt8}{b:UInt8}
  (ho:o.op=.index t x y) (ht:dD V.T t=true) (hx:ev st x=some (.one (.d (.str s))))
  (hy:ev st y=some (.one (.d (.int ik i)))) (hi:0≤i) (hb:s[i.toNat]?=some b):aR V st o 0=some ⟨.one (.d (.int .u8 (b.toNat:Int))),[],[]⟩:=by
 simp only[aR,dg,b5,ho,db,hx,hy,nU,ht,hi,decide_true,HL,HW,ey,hb]
theorem jk{fop:Operand}{args:Array Operand}{ats:Array TypeId}{f:FuncId}{caps:List D}{avs avs':List AV}{rav:AV}{rsto:Sto}
  (ho:o.op=.call { callee:=.value fop,args:=args,argTypes:=ats }) (hd:aw c.n o.dst=true) (hf:ev st fop=some (.one (.d (.fn f caps))))
  (ha:evL st args.toList=some avs) (hD:bS avs=true) (hap:(avs++caps.map fun x=>.one (.d x))=avs') (hC:CallA P f avs' [] rav rsto) (hfl:fq rav=true):Loc P c o st ⟨rav,[],[],[]⟩:=by
 subst hap
 intro st2 hs hri hnew opsA rest K h
 have he:∀ {x:Operand},x∈o.op.operands.toList→ev st2 x=ev st x:=fun hx=>c5 hs hx
 rw[ho] at he
 have ha2:evL st2 args.toList=some avs:=(gU fun x hx=>he (by simp[Op.operands,Call.operands];exact .inr (by simpa using hx))).trans ha
 exact fJ (o:={ o with guard:=none }) ho rfl hd (Imp.refl _) ((he (by simp[Op.operands,Call.operands])).trans hf) ha2 hD hC hfl h
theorem nC{t ty:TypeId}{x y:Operand}{k k':IntKind}{a b z:Int}(ho:o.op=.binOp .add t x y ty)
  (hx:ev st x=some (.one (.d (.int k a)))) (hy:ev st y=some (.one (.d (.int k' b)))) (hk:kEq k k'=true) (hz:k.wrap (a+b)=z):aR V st o 0=some ⟨.one (.d (.int k z)),[],[]⟩:=kW ho rfl hx hy hk hz
theorem se{t ty:TypeId}{x y:Operand}{k k':IntKind}{a b z:Int}(ho:o.op=.binOp .sub t x y ty)
  (hx:ev st x=some (.one (.d (.int k a)))) (hy:ev st y=some (.one (.d (.int k' b)))) (hk:kEq k k'=true) (hz:k.wrap (a-b)=z):aR V st o 0=some ⟨.one (.d (.int k z)),[],[]⟩:=kW ho rfl hx hy hk hz
theorem sf{t ty:TypeId}{x y:Operand}{k k':IntKind}{a b z:Int}(ho:o.op=.binOp .mul t x y ty)
  (hx:ev st x=some (.one (.d (.int k a)))) (hy:ev st y=some (.one (.d (.int k' b)))) (hk:kEq k k'=true) (hz:k.wrap (a*b)=z):aR V st o 0=some ⟨.one (.d (.int k z)),[],[]⟩:=kW ho rfl hx hy hk hz
theorem zi{t ty:TypeId}{x y:Operand}{k k':IntKind}{a b:Int}(ho:o.op=.binOp .rem t x y ty)
  (hx:ev st x=some (.one (.d (.int k a)))) (hy:ev st y=some (.one (.d (.int k' b)))) (hk:kEq k k'=true) (h0:¬ b=0):aR V st o 0=some ⟨.one (.d (.int k (a.tmod b))),[],[]⟩:=by
 simp only[aR,dg,b5,ho,hx,hy,oO,jz,HV,hk,HW,tB,db,jK,gA,xN,h0,decide_false,Bool.not_false,HL]
 cases o.dst<;>simp[fi]
theorem qY{z:Int}(h1:0≤z)(h2:z≤18446744073709551615):IntKind.u64.wrap z=z :=
 qQ ⟨by simp[IntKind.min,IntKind.signed];exact h1,by simp[IntKind.max,IntKind.signed,IntKind.bits];exact h2⟩
theorem Cd{z:Int}(h1:0≤z)(h2:z≤4294967295):IntKind.u32.wrap z=z :=
 qQ ⟨by simp[IntKind.min,IntKind.signed];exact h1,by simp[IntKind.max,IntKind.signed,IntKind.bits];exact h2⟩
def Bu(T:Tab)(t:TypeId):Bool:=match look T t with|some _=>true|none=>false
theorem zj{t:TypeId}{x:Operand}{k:IntKind}{a z:Int}(ho:o.op=.unOp .neg t x)
  (hx:ev st x=some (.one (.d (.int k a)))) (hz:k.wrap (0-a)=z):aR V st o 0=some ⟨.one (.d (.int k z)),[],[]⟩:=by
 subst hz
 exact b9 (by simp only[ho,b5,hx,unF])
def zk(T:Tab)(t:TypeId)(k:IntKind):Bool:=match look T t with|some ⟨.int k',_,_,_⟩=>kEq k' k|_=>false
theorem qm{src dst:TypeId}{x:Operand}{k k':IntKind}{a z:Int}(ho:o.op=.convert src dst x)
  (hx:ev st x=some (.one (.d (.int k a)))) (hs:Bu V.T src=true) (hd:zk V.T dst k'=true) (hz:k'.wrap a=z):aR V st o 0=some ⟨.one (.d (.int k' z)),[],[]⟩:=by
 subst hz
 refine b9 ?_
 unfold Bu at hs
 unfold zk at hd
 split at hs<;>(try (simp at hs;done))
 rename_i td hs'
 split at hd<;>(try (simp at hd;done))
 rename_i k'' h1 h2 h3 hd'
 obtain rfl:=dM hd
 simp only[ho,b5,hx,sI,hs',hd']
theorem Ce(hT:aD P T){d:Nat}{src dst:TypeId}{x:Operand}{s:List UInt8}(ho:o.op=.convert src dst x)(hg:o.guard=none)(hdst:o.dst=some d)(hd:Nat.blt d n=true)(hb:(dD T src&&fl T dst)=true)
  (hx:ev ⟨fr,sto⟩ x=some (.one (.d (.str s)))) (hl:s.length≤1000000) (h:aa P ⟨w0,σ0,φ0,M,n,rd,mk⟩ ops rest ⟨(d,.one (.d (lC s)))::fr,sto⟩ K):aa P ⟨w0,σ0,φ0,M,n,rd,mk⟩ ops (o::rest) ⟨fr,sto⟩ K :=
 oD hT ho hg (by rw[hdst];exact hd) hb hx (by omega) (by rw[hdst];exact h)
theorem s_e(hV:EnvOk P V){d:Nat}{v:AV}(hg:o.guard=none)(hdst:o.dst=some d)(hd:Nat.blt d n=true)(h:aR V ⟨fr,sto⟩ o 0=some ⟨v,[],[]⟩)
  (hk:aa P ⟨w0,σ0,φ0,M,n,rd,mk⟩ ops rest ⟨(d,v)::fr,sto⟩ K):aa P ⟨w0,σ0,φ0,M,n,rd,mk⟩ ops (o::rest) ⟨fr,sto⟩ K :=
 ui hV (dst:=some d) hg hdst hd h rfl hk
theorem jA(hT:aD P T)(id:Nat){d:Nat}{t:TypeId}{td:TD}(ho:o.op=.alloc t)(hg:o.guard=none)(hdst:o.dst=some d)(hd:(Nat.blt d n&&(Nat.blt id 1000000&&(!aZ sto id&&!aQ id fr&&!aF id sto)))=true)(ht:look T t=some td)
  (h:aa P ⟨w0,σ0,φ0,M,n,rd,mk⟩ ops rest ⟨(d,.one (.ref id 0))::fr,(id,.box (td.zero.map .d))::sto⟩ K):aa P ⟨w0,σ0,φ0,M,n,rd,mk⟩ ops (o::rest) ⟨fr,sto⟩ K:=by
 simp only[GZ,Hd] at hd
 exact oh hT ho hg hdst (by simp only[GZ];exact⟨hd.1,hd.2.1⟩) ht hd.2.2.1.2 hd.2.2.2 h
theorem qZ(hV:EnvOk P V){i:Nat}{ob:AObj}(hg:o.guard=none)(hdst:o.dst=none)(h:aR V ⟨fr,sto⟩ o 0=some ⟨.any,[(i,some ob)],[]⟩)(hk:aa P ⟨w0,σ0,φ0,M,n,rd,mk⟩ ops rest ⟨fr,bR i ob sto⟩ K) :
  aa P ⟨w0,σ0,φ0,M,n,rd,mk⟩ ops (o::rest) ⟨fr,sto⟩ K:=ui hV (dst:=none) hg hdst rfl h rfl hk
theorem D1(hV:EnvOk P V){d f:Nat}{caps:Array Operand}{v:AV}{wr:List (Nat×Option AObj)}(ho:o.op=.makeFunc (.func f) ⟨[]⟩ caps)(hg:o.guard=none)(hdst:o.dst=some d)(hd:Nat.blt d n=true)(h:aR V ⟨fr,sto⟩ o 0=some ⟨v,wr,[]⟩)
  (hk:aa P ⟨w0,σ0,φ0,M,n,rd,mk⟩ ops rest ⟨(d,v)::fr,bT wr sto⟩ K):aa P ⟨w0,σ0,φ0,M,n,rd,mk⟩ ops (o::rest) ⟨fr,sto⟩ K:=ui hV (dst:=some d) hg hdst hd h rfl hk
theorem uk{x:Operand}{p q:Code}{Q:Exit→St→Prop}(hx:ev st x=some (.one (.d (.bool true))))(ht:OkC P c p st Q):OkC P c (.cond x p q) st Q:=aA hx (fun _=>ht) (fun h=>by simp at h)
theorem um{x:Operand}{p q:Code}{Q:Exit→St→Prop}(hx:ev st x=some (.one (.d (.bool false))))(ht:OkC P c q st Q):OkC P c (.cond x p q) st Q:=aA hx (fun h=>by simp at h) (fun _=>ht)
theorem zl{x:Operand}{p q:Code}{Q:Exit→St→Prop}{b:Bool}(hx:ev st x=some (.one (.d (.bool b))))(hb:b=true)(ht:OkC P c p st Q):OkC P c (.cond x p q) st Q:=uk (by rw[hx,hb]) ht
theorem zm{x:Operand}{p q:Code}{Q:Exit→St→Prop}{b:Bool}(hx:ev st x=some (.one (.d (.bool b))))(hb:b=false)(ht:OkC P c q st Q):OkC P c (.cond x p q) st Q:=um (by rw[hx,hb]) ht
theorem jI{fr fr':List (Nat×AV)}(h:SubL fr fr'):Imp c ⟨fr,sto⟩ ⟨fr',sto⟩:=fun a w σ φ hr=>by
 exact⟨σ,φ,⟨hr.le,hr.fresh,hr.inv,hr.mine,fun s v hv=>hr.slot s v (h.look hv),hr.defers,hr.size,hr.fra,hr.pin⟩⟩
theorem b8{α:Type}{fr:List (Nat×α)}:SubL fr []:=trivial
theorem ae{α:Type}{fr r:List (Nat×α)}{s:Nat}{v:α}(h:look fr s=some v)(ht:SubL fr r):SubL fr ((s,v)::r):=⟨h,ht⟩
theorem q1Q{α:Type}{fr:List (Nat×α)}{s0:Nat}{v0:α}(h0:look fr s0=some v0):SubL fr [(s0,v0)]:=ae h0 b8
theorem q2Q{α:Type}{fr:List (Nat×α)}{s0 s1:Nat}{v0 v1:α}(h0:look fr s0=some v0)(h1:look fr s1=some v1):SubL fr [(s0,v0),(s1,v1)]:=ae h0 (ae h1 b8)
theorem q3Q{α:Type}{fr:List (Nat×α)}{s0 s1 s2:Nat}{v0 v1 v2:α}(h0:look fr s0=some v0)(h1:look fr s1=some v1)(h2:look fr s2=some v2):SubL fr [(s0,v0),(s1,v1),(s2,v2)]:=ae h0 (ae h1 (ae h2 b8))
theorem q4Q{α:Type}{fr:List (Nat×α)}{s0 s1 s2 s3:Nat}{v0 v1 v2 v3:α}(h0:look fr s0=some v0)(h1:look fr s1=some v1)(h2:look fr s2=some v2)(h3:look fr s3=some v3):SubL fr [(s0,v0),(s1,v1),(s2,v2),(s3,v3)]:=ae h0 (ae h1 (ae h2 (ae h3 b8)))
theorem q5Q{α:Type}{fr:List (Nat×α)}{s0 s1 s2 s3 s4:Nat}{v0 v1 v2 v3 v4:α}(h0:look fr s0=some v0)(h1:look fr s1=some v1)(h2:look fr s2=some v2)(h3:look fr s3=some v3)(h4:look fr s4=some v4):SubL fr [(s0,v0),(s1,v1),(s2,v2),(s3,v3),(s4,v4)]:=ae h0 (ae h1 (ae h2 (ae h3 (ae h4 b8))))
theorem q6Q{α:Type}{fr:List (Nat×α)}{s0 s1 s2 s3 s4 s5:Nat}{v0 v1 v2 v3 v4 v5:α}(h0:look fr s0=some v0)(h1:look fr s1=some v1)(h2:look fr s2=some v2)(h3:look fr s3=some v3)(h4:look fr s4=some v4)(h5:look fr s5=some v5):SubL fr [(s0,v0),(s1,v1),(s2,v2),(s3,v3),(s4,v4),(s5,v5)]:=ae h0 (ae h1 (ae h2 (ae h3 (ae h4 (ae h5 b8)))))
theorem q7Q{α:Type}{fr:List (Nat×α)}{s0 s1 s2 s3 s4 s5 s6:Nat}{v0 v1 v2 v3 v4 v5 v6:α}(h0:look fr s0=some v0)(h1:look fr s1=some v1)(h2:look fr s2=some v2)(h3:look fr s3=some v3)(h4:look fr s4=some v4)(h5:look fr s5=some v5)(h6:look fr s6=some v6):SubL fr [(s0,v0),(s1,v1),(s2,v2),(s3,v3),(s4,v4),(s5,v5),(s6,v6)]:=ae h0 (ae h1 (ae h2 (ae h3 (ae h4 (ae h5 (ae h6 b8))))))
theorem q8Q{α:Type}{fr:List (Nat×α)}{s0 s1 s2 s3 s4 s5 s6 s7:Nat}{v0 v1 v2 v3 v4 v5 v6 v7:α}(h0:look fr s0=some v0)(h1:look fr s1=some v1)(h2:look fr s2=some v2)(h3:look fr s3=some v3)(h4:look fr s4=some v4)(h5:look fr s5=some v5)(h6:look fr s6=some v6)(h7:look fr s7=some v7):SubL fr [(s0,v0),(s1,v1),(s2,v2),(s3,v3),(s4,v4),(s5,v5),(s6,v6),(s7,v7)]:=ae h0 (ae h1 (ae h2 (ae h3 (ae h4 (ae h5 (ae h6 (ae h7 b8)))))))
theorem q9Q{α:Type}{fr:List (Nat×α)}{s0 s1 s2 s3 s4 s5 s6 s7 s8:Nat}{v0 v1 v2 v3 v4 v5 v6 v7 v8:α}(h0:look fr s0=some v0)(h1:look fr s1=some v1)(h2:look fr s2=some v2)(h3:look fr s3=some v3)(h4:look fr s4=some v4)(h5:look fr s5=some v5)(h6:look fr s6=some v6)(h7:look fr s7=some v7)(h8:look fr s8=some v8):SubL fr [(s0,v0),(s1,v1),(s2,v2),(s3,v3),(s4,v4),(s5,v5),(s6,v6),(s7,v7),(s8,v8)]:=ae h0 (ae h1 (ae h2 (ae h3 (ae h4 (ae h5 (ae h6 (ae h7 (ae h8 b8))))))))
theorem Eu{α:Type}{fr:List (Nat×α)}{s0 s1 s2 s3 s4 s5 s6 s7 s8 s9:Nat}{v0 v1 v2 v3 v4 v5 v6 v7 v8 v9:α}(h0:look fr s0=some v0)(h1:look fr s1=some v1)(h2:look fr s2=some v2)(h3:look fr s3=some v3)(h4:look fr s4=some v4)(h5:look fr s5=some v5)(h6:look fr s6=some v6)(h7:look fr s7=some v7)(h8:look fr s8=some v8)(h9:look fr s9=some v9):SubL fr [(s0,v0),(s1,v1),(s2,v2),(s3,v3),(s4,v4),(s5,v5),(s6,v6),(s7,v7),(s8,v8),(s9,v9)]:=ae h0 (ae h1 (ae h2 (ae h3 (ae h4 (ae h5 (ae h6 (ae h7 (ae h8 (ae h9 b8)))))))))
theorem Dk{α:Type}{fr:List (Nat×α)}{s0 s1 s2 s3 s4 s5 s6 s7 s8 s9 s10:Nat}{v0 v1 v2 v3 v4 v5 v6 v7 v8 v9 v10:α}(h0:look fr s0=some v0)(h1:look fr s1=some v1)(h2:look fr s2=some v2)(h3:look fr s3=some v3)(h4:look fr s4=some v4)(h5:look fr s5=some v5)(h6:look fr s6=some v6)(h7:look fr s7=some v7)(h8:look fr s8=some v8)(h9:look fr s9=some v9)(h10:look fr s10=some v10):SubL fr [(s0,v0),(s1,v1),(s2,v2),(s3,v3),(s4,v4),(s5,v5),(s6,v6),(s7,v7),(s8,v8),(s9,v9),(s10,v10)]:=ae h0 (ae h1 (ae h2 (ae h3 (ae h4 (ae h5 (ae h6 (ae h7 (ae h8 (ae h9 (ae h10 b8))))))))))
theorem Et{α:Type}{fr:List (Nat×α)}{s0 s1 s2 s3 s4 s5 s6 s7 s8 s9 s10 s11:Nat}{v0 v1 v2 v3 v4 v5 v6 v7 v8 v9 v10 v11:α}(h0:look fr s0=some v0)(h1:look fr s1=some v1)(h2:look fr s2=some v2)(h3:look fr s3=some v3)(h4:look fr s4=some v4)(h5:look fr s5=some v5)(h6:look fr s6=some v6)(h7:look fr s7=some v7)(h8:look fr s8=some v8)(h9:look fr s9=some v9)(h10:look fr s10=some v10)(h11:look fr s11=some v11):SubL fr [(s0,v0),(s1,v1),(s2,v2),(s3,v3),(s4,v4),(s5,v5),(s6,v6),(s7,v7),(s8,v8),(s9,v9),(s10,v10),(s11,v11)]:=ae h0 (ae h1 (ae h2 (ae h3 (ae h4 (ae h5 (ae h6 (ae h7 (ae h8 (ae h9 (ae h10 (ae h11 b8)))))))))))
theorem Ac{α:Type}{fr:List (Nat×α)}{s0 s1 s2 s3 s4 s5 s6 s7 s8 s9 s10 s11 s12:Nat}{v0 v1 v2 v3 v4 v5 v6 v7 v8 v9 v10 v11 v12:α}(h0:look fr s0=some v0)(h1:look fr s1=some v1)(h2:look fr s2=some v2)(h3:look fr s3=some v3)(h4:look fr s4=some v4)(h5:look fr s5=some v5)(h6:look fr s6=some v6)(h7:look fr s7=some v7)(h8:look fr s8=some v8)(h9:look fr s9=some v9)(h10:look fr s10=some v10)(h11:look fr s11=some v11)(h12:look fr s12=some v12):SubL fr [(s0,v0),(s1,v1),(s2,v2),(s3,v3),(s4,v4),(s5,v5),(s6,v6),(s7,v7),(s8,v8),(s9,v9),(s10,v10),(s11,v11),(s12,v12)]:=ae h0 (ae h1 (ae h2 (ae h3 (ae h4 (ae h5 (ae h6 (ae h7 (ae h8 (ae h9 (ae h10 (ae h11 (ae h12 b8))))))))))))
theorem a0A:type_of% @decide_eq_true_eq:=@decide_eq_true_eq
theorem a1A:type_of% @decide_eq_false_iff_not:=@decide_eq_false_iff_not
theorem a2A:type_of% @Bool.not_eq_true':=@Bool.not_eq_true'
theorem a3A:type_of% @Bool.not_true:=@Bool.not_true
theorem a4A:type_of% @Bool.not_false:=@Bool.not_false
theorem a5A:type_of% @List.length_map:=@List.length_map
theorem a6A:type_of% @List.length_set:=@List.length_set
theorem a7A:type_of% @bne_iff_ne:=@bne_iff_ne
theorem a8A:type_of% @ne_eq:=@ne_eq
theorem a9A:type_of% @beq_iff_eq:=@beq_iff_eq
theorem CU:type_of% @bne_eq_false_iff_eq:=@bne_eq_false_iff_eq
theorem CV:type_of% @beq_eq_false_iff_ne:=@beq_eq_false_iff_ne
theorem q5:type_of% @List.length_cons:=@List.length_cons
theorem q6:type_of% @List.length_nil:=@List.length_nil
theorem q7:type_of% @List.length_append:=@List.length_append
theorem q8:type_of% @List.length_take:=@List.length_take
theorem q9:type_of% @List.length_drop:=@List.length_drop
theorem o6:type_of% @Int.toNat_natCast:=@Int.toNat_natCast
def ic:Code→Nat
 | .region id _ _=>id
 | .seq x _=>ic x
 | .block _ x=>ic x
 | .loop x=>ic x
 | _=>0
theorem c9{α:Type}{body:Code}{Q:Exit→St→Prop}(rg:Nat)(hrg:ic body=rg)(kept:List (Nat×AV))(hk:SubL fr kept)(L:α→List (Nat×AV))(Inv:α→Prop)(μ:α→Nat)(x0:α)(hL:SubL fr (L x0))(h0:Inv x0)
  (hround:∀ x,Inv x→OkC P c body ⟨L x++kept,sto⟩ (av (fun st'=>∃ y,Inv y∧μ y<μ x∧SubL st'.sto sto∧SubL st'.fr (L y)∧SubL st'.fr kept) Q)):OkC P c (.loop body) ⟨fr,sto⟩ Q:=by
 have hap:∀ {f a b:List (Nat×AV)},SubL f a→SubL f b→SubL f (a++b):=by
  intro f a b h1 h2
  induction a with
  | nil=>exact h2
  | cons p r ih=>exact⟨h1.1,ih h1.2⟩
 refine bG (st':=⟨L x0++kept,sto⟩) (jI (hap hL hk)) ?_
 refine nK (fun n st=>∃ x,Inv x∧n=μ x∧st=⟨L x++kept,sto⟩) (μ x0) ⟨x0,h0,rfl,rfl⟩ ?_
 rintro n st ⟨x,hx,rfl,rfl⟩
 refine ie (hround x hx) fun e st h=>?_
 cases e with
 | normal =>
   obtain⟨y,hy,hlt,hs,h1,h2⟩:=h
   obtain⟨f,s⟩:=st
   simp only at hs h1 h2
   exact⟨μ y,_,hlt,⟨y,hy,rfl,rfl⟩,Imp.trans (jI (hap h1 h2)) (fun a w σ φ hr=>⟨σ,φ,hr.dropTo fun i e h=>hs.look h⟩)⟩
 | _=>exact h
theorem yI{f:St→Prop}{Q:Exit→St→Prop}(h:f st):av f Q .normal st:=h
theorem Dl{f:St→Prop}{Q:Exit→St→Prop}(h:Q .ret st):av f Q .ret st:=h
theorem Dm{f:St→Prop}{Q:Exit→St→Prop}{i:Nat}(h:Q (.exit i) st):av f Q (.exit i) st:=h
theorem Cf{i:Nat}{Q:Exit→St→Prop}(h:Q .normal st):aq i Q .normal st:=h
theorem Cg{i:Nat}{Q:Exit→St→Prop}(h:Q .ret st):aq i Q .ret st:=h
theorem vF{i j:Nat}{Q:Exit→St→Prop}(hb:Nat.beq j i=true)(h:Q .normal st):aq i Q (.exit j) st:=by simp only[aq,hb,HW];exact h
def OkD(d:D):Prop:=∃ σ v,Rep σ d v
theorem OkD.str{s:List UInt8}(h:OkD (.str s)):s.length<281474976710656:=by
 obtain⟨σ,v,h⟩:=h
 cases h with
 | str h=>simpa using h
theorem OkD.int{k:IntKind}{z:Int}(h:OkD (.int k z)):inR k z:=by
 obtain⟨σ,v,h⟩:=h
 cases h with
 | int h=>exact h
theorem OkD.i64{z:Int}(h:OkD (.int .i64 z)):-9223372036854775808≤z∧z≤9223372036854775807:=by
 have:=h.int
 simpa[inR,IntKind.min,IntKind.max,IntKind.signed,IntKind.bits] using this
theorem OkD.sl{k b:Nat}{xs:List (List D)}(h:OkD (.sl k b xs)):xs.length<281474976710656∧xs.length*b≤140737488355328∧∀ x∈xs,x.length=k∧∀ d∈x,OkD d:=by
 obtain⟨σ,v,h⟩:=h
 cases h with
 | sl vs hc h48 hb hk hA hh =>
   refine⟨by simpa using h48,by simpa using hb,fun x hx=>⟨hk x hx,fun d hd=>?_⟩⟩
   obtain⟨i,hi⟩:=List.getElem?_of_mem hx
   obtain⟨j,hj⟩:=List.getElem?_of_mem hd
   exact⟨σ,_,hh i j x d hi hj⟩
def AM:AC→Prop
 | .d d=>OkD d
 | _=>True
def F7:AV→Prop
 | .one c=>AM c
 | .agg cs=>∀ c∈cs,AM c
 | _=>True
def xO:List AV→Prop
 | []=>True
 | v::r=>F7 v∧xO r
theorem uo{σ:Sig}{φ:Pl}{sto:Sto}:∀ {avs:List AV} {vs:List Value},All2 (RepV σ φ sto) avs vs→xO avs
 | [],[],_=>trivial
 | v::r,u::us,h=>by
   refine⟨?_,uo h.2⟩
   have h1:=h.1
   have key:∀ {x:AC} {u:Value},RepC σ φ sto x u→AM x:=by
    intro x u h
    cases x with
    | d d=>exact⟨σ,_,RepC.d_inv h⟩
    | _=>trivial
   cases v with
   | one x=>exact key h1
   | agg cs =>
     obtain⟨vs,rfl,h2⟩:=h1
     intro x hx
     obtain⟨j,hj⟩:=List.getElem?_of_mem hx
     obtain⟨w,_,hr⟩:=h2.get hj
     exact key hr
   | _=>trivial
 | [],_::_,h=>h.elim
 | _::_,[],h=>h.elim
theorem enter(hT:aD P T){f:FuncId}{fn:Func}{code:Code}{args:List AV}{sto:Sto}{rav:AV}{rsto:Sto}(hf:P.funcs[f]?=some fn)(hb:fn.body=some code)
  (hname : (fn.name == "runtime.NumGoroutine") = false) (hn : Nat.ble args.length fn.ntmps = true)
  (h:xO args→∀ (w0:World) (σ0:Sig) (φ0:Pl) (M:Nat→Prop),OkC P ⟨w0,σ0,φ0,M,fn.ntmps,none,[]⟩ code ⟨iU 0 args,sto⟩ (aP T fn.results.toList rav rsto)):CallA P f args sto rav rsto :=
 ⟨⟨fn,hf,hname,by rw[hb];rfl⟩,fun w σ φ vs hinv hargs=>(oE hT hf hb hname hn (h (uo hargs))).run w σ φ vs hinv hargs⟩
def at_{α:Type}[Inhabited α](l:List α)(i:Nat):α:=l.getD i default
theorem cv{α:Type}[Inhabited α]{l:List α}{i:Nat}(h:i<l.length):l[i]?=some (at_ l i):=by simp[at_,Hg,h]
theorem eJ{α β:Type}[Inhabited α]{f:α→β}{l:List α}{i:Nat}(h:i<l.length):(l.map f)[i]?=some (f (at_ l i)):=by simp[cv h]
theorem aB{α:Type}[Inhabited α]{l:List α}{i:Nat}(h:i<l.length):l.drop i=at_ l i::l.drop (i+1):=by
 rw[List.drop_eq_getElem_cons h]
 have:=cv h
 rw[He h] at this
 rw[Option.some.inj this]
theorem fY{α:Type}[Inhabited α]{l:List α}{i:Nat}(h:i<l.length):l.take (i+1)=l.take i++[at_ l i]:=by
 rw[List.take_add_one,cv h];rfl
theorem aW{α:Type}[Inhabited α]{l:List α}{i:Nat}(h:i<l.length):at_ l i∈l:=List.mem_of_getElem? (cv h)
theorem z1{α:Type}[Inhabited α]{l:List α}{n i:Nat}(h:i<n):at_ (l.take n) i=at_ l i:=by
 simp only[at_,Hg,HC,h,if_true]
theorem aK{α β:Type}[Inhabited α][Inhabited β]{f:α→β}{l:List α}{i:Nat}(h:i<l.length):at_ (l.map f) i=f (at_ l i):=by
 simp[at_,Hg,h]
theorem AN{T:Tab}{rs:List ResultVar}{rav rav':AV}{e:Exit}{st:St}{l:List (Bool×List AC)}(he:e=.ret∨e=.normal)(hl:kQ T st rs=some l)(hr:nS l=some rav')(h:rav'=rav):aP T rs rav [] e st :=
 ⟨he,l,hl,by rw[hr,h],by first|exact SubL.nil|(intro i;simp[look])|trivial⟩
theorem gQ0{Q:Prop}{x1 x2 x3 x4 x5 x6 x7 x8 x9 x10 x11 x12}(h:Q→aa x1 x2 x3 (Oper.mk x4 (x5) x6 x7 x8 (some x9)::x10) x11 x12):Q→aa x1 x2 x3 (Oper.mk x4 (x5) x6 x7 x8 (some x9)::x10) x11 x12:=h
theorem gQ1{Q:Prop}{x1 x2 x3 x4 x5 x6 x7 x8 x9 x10 x11 x12}(h:Q→aa x1 x2 x3 (Oper.mk x4 (Op.call x5) x6 x7 x8 (x9)::x10) x11 x12):Q→aa x1 x2 x3 (Oper.mk x4 (Op.call x5) x6 x7 x8 (x9)::x10) x11 x12:=h
theorem gQ2{Q:Prop}{x1 x2 x3 x4 x5 x6 x7 x8 x9 x10 x11 x12 x13 x14}(h:Q→aa x1 x2 x3 (Oper.mk x4 (Op.convert x5 x6 x7) x8 x9 x10 (x11)::x12) x13 x14):Q→aa x1 x2 x3 (Oper.mk x4 (Op.convert x5 x6 x7) x8 x9 x10 (x11)::x12) x13 x14:=h
theorem gQ3{Q:Prop}{x1 x2 x3 x4 x5 x6 x7 x8 x9 x10 x11 x12 x13 x14 x15}(h:Q→aa x1 x2 x3 (Oper.mk x4 (Op.binOp .add x5 x6 x7 x8) x9 x10 x11 (x12)::x13) x14 x15):Q→aa x1 x2 x3 (Oper.mk x4 (Op.binOp .add x5 x6 x7 x8) x9 x10 x11 (x12)::x13) x14 x15:=h
theorem gQ4{Q:Prop}{x1 x2 x3 x4 x5 x6 x7 x8 x9 x10 x11 x12 x13 x14 x15}(h:Q→aa x1 x2 x3 (Oper.mk x4 (Op.binOp .sub x5 x6 x7 x8) x9 x10 x11 (x12)::x13) x14 x15):Q→aa x1 x2 x3 (Oper.mk x4 (Op.binOp .sub x5 x6 x7 x8) x9 x10 x11 (x12)::x13) x14 x15:=h
theorem gQ5{Q:Prop}{x1 x2 x3 x4 x5 x6 x7 x8 x9 x10 x11 x12 x13 x14 x15}(h:Q→aa x1 x2 x3 (Oper.mk x4 (Op.binOp .mul x5 x6 x7 x8) x9 x10 x11 (x12)::x13) x14 x15):Q→aa x1 x2 x3 (Oper.mk x4 (Op.binOp .mul x5 x6 x7 x8) x9 x10 x11 (x12)::x13) x14 x15:=h
theorem gQ6{Q:Prop}{x1 x2 x3 x4 x5 x6 x7 x8 x9 x10 x11 x12 x13 x14 x15}(h:Q→aa x1 x2 x3 (Oper.mk x4 (Op.binOp .rem x5 x6 x7 x8) x9 x10 x11 (x12)::x13) x14 x15):Q→aa x1 x2 x3 (Oper.mk x4 (Op.binOp .rem x5 x6 x7 x8) x9 x10 x11 (x12)::x13) x14 x15:=h
theorem gQ7{Q:Prop}{x1 x2 x3 x4 x5 x6 x7 x8 x9 x10 x11 x12 x13 x14 x15}(h:Q→aa x1 x2 x3 (Oper.mk x4 (Op.binOp .quo x5 x6 x7 x8) x9 x10 x11 (x12)::x13) x14 x15):Q→aa x1 x2 x3 (Oper.mk x4 (Op.binOp .quo x5 x6 x7 x8) x9 x10 x11 (x12)::x13) x14 x15:=h
theorem gQ8{Q:Prop}{x1 x2 x3 x4 x5 x6 x7 x8 x9 x10 x11 x12 x13}(h:Q→aa x1 x2 x3 (Oper.mk x4 (Op.unOp .neg x5 x6) x7 x8 x9 (x10)::x11) x12 x13):Q→aa x1 x2 x3 (Oper.mk x4 (Op.unOp .neg x5 x6) x7 x8 x9 (x10)::x11) x12 x13:=h
theorem gQ9{Q:Prop}{x1 x2 x3 x4 x5 x6 x7 x8 x9 x10 x11 x12 x13 x14}(h:Q→aa x1 x2 x3 (Oper.mk x4 (Op.pick x5 x6 x7) x8 x9 x10 (x11)::x12) x13 x14):Q→aa x1 x2 x3 (Oper.mk x4 (Op.pick x5 x6 x7) x8 x9 x10 (x11)::x12) x13 x14:=h
theorem F8{Q:Prop}{x1 x2 x3 x4 x5 x6 x7 x8 x9 x10 x11 x12 x13 x14}(h:Q→aa x1 x2 x3 (Oper.mk x4 (Op.indexAddr x5 x6 x7) x8 x9 x10 (x11)::x12) x13 x14):Q→aa x1 x2 x3 (Oper.mk x4 (Op.indexAddr x5 x6 x7) x8 x9 x10 (x11)::x12) x13 x14:=h
theorem F9{Q:Prop}{x1 x2 x3 x4 x5 x6 x7 x8 x9 x10 x11 x12 x13 x14}(h:Q→aa x1 x2 x3 (Oper.mk x4 (Op.index x5 x6 x7) x8 x9 x10 (x11)::x12) x13 x14):Q→aa x1 x2 x3 (Oper.mk x4 (Op.index x5 x6 x7) x8 x9 x10 (x11)::x12) x13 x14:=h
theorem Gc{Q:Prop}{x1 x2 x3 x4 x5 x6 x7 x8 x9 x10 x11 x12 x13}(h:Q→aa x1 x2 x3 (Oper.mk x4 (Op.load x5 x6) x7 x8 x9 (x10)::x11) x12 x13):Q→aa x1 x2 x3 (Oper.mk x4 (Op.load x5 x6) x7 x8 x9 (x10)::x11) x12 x13:=h
theorem Gd{Q:Prop}{x1 x2 x3 x4 x5 x6 x7 x8 x9 x10 x11 x12 x13}(h:Q→aa x1 x2 x3 (Oper.mk x4 (Op.box x5 x6) x7 x8 x9 (x10)::x11) x12 x13):Q→aa x1 x2 x3 (Oper.mk x4 (Op.box x5 x6) x7 x8 x9 (x10)::x11) x12 x13:=h
theorem Ge{Q:Prop}{x1 x2 x3 x4 x5 x6 x7 x8 x9 x10 x11 x12}(h:Q→aa x1 x2 x3 (Oper.mk x4 (Op.alloc x5) x6 x7 x8 (x9)::x10) x11 x12):Q→aa x1 x2 x3 (Oper.mk x4 (Op.alloc x5) x6 x7 x8 (x9)::x10) x11 x12:=h
theorem Gf{Q:Prop}{x1 x2 x3 x4 x5 x6}(h:Q→aa x1 x2 x3 x4 x5 x6):Q→aa x1 x2 x3 x4 x5 x6:=h
theorem Gg{Q:Prop}{x1 x2 x3 x4 x5}(h:Q→OkC x1 x2 x3 x4 x5):Q→OkC x1 x2 x3 x4 x5:=h
theorem Gh{Q:Prop}{x1 x2 x3 x4 x5 x6 x7 x8 x9 x10 x11 x12 x13 x14}(h:Q→ah x1 x2 x3 x4 (Oper.mk x5 (Op.call x6) x7 x8 x9 (x10)::x11) x12 x13 x14):Q→ah x1 x2 x3 x4 (Oper.mk x5 (Op.call x6) x7 x8 x9 (x10)::x11) x12 x13 x14:=h
theorem Gi{Q:Prop}{x1 x2 x3 x4 x5 x6 x7 x8 x9 x10 x11 x12 x13 x14}(h:Q→ah x1 x2 x3 x4 (Oper.mk x5 (x6) x7 x8 x9 (some x10)::x11) x12 x13 x14):Q→ah x1 x2 x3 x4 (Oper.mk x5 (x6) x7 x8 x9 (some x10)::x11) x12 x13 x14:=h
theorem Gj{Q:Prop}{x1 x2 x3 x4 x5 x6 x7 x8 x9 x10 x11 x12 x13 x14 x15 x16 x17}(h:Q→ah x1 x2 x3 x4 (Oper.mk x5 (Op.binOp .add x6 x7 x8 x9) x10 x11 x12 (x13)::x14) x15 x16 x17):Q→ah x1 x2 x3 x4 (Oper.mk x5 (Op.binOp .add x6 x7 x8 x9) x10 x11 x12 (x13)::x14) x15 x16 x17:=h
theorem Gk{Q:Prop}{x1 x2 x3 x4 x5 x6 x7 x8 x9 x10 x11 x12 x13 x14 x15 x16 x17}(h:Q→ah x1 x2 x3 x4 (Oper.mk x5 (Op.binOp .sub x6 x7 x8 x9) x10 x11 x12 (x13)::x14) x15 x16 x17):Q→ah x1 x2 x3 x4 (Oper.mk x5 (Op.binOp .sub x6 x7 x8 x9) x10 x11 x12 (x13)::x14) x15 x16 x17:=h
theorem Gl{Q:Prop}{x1 x2 x3 x4 x5 x6 x7 x8 x9 x10 x11 x12 x13 x14 x15 x16 x17}(h:Q→ah x1 x2 x3 x4 (Oper.mk x5 (Op.binOp .mul x6 x7 x8 x9) x10 x11 x12 (x13)::x14) x15 x16 x17):Q→ah x1 x2 x3 x4 (Oper.mk x5 (Op.binOp .mul x6 x7 x8 x9) x10 x11 x12 (x13)::x14) x15 x16 x17:=h
theorem Gm{Q:Prop}{x1 x2 x3 x4 x5 x6 x7 x8 x9 x10 x11 x12 x13 x14 x15 x16 x17}(h:Q→ah x1 x2 x3 x4 (Oper.mk x5 (Op.binOp .rem x6 x7 x8 x9) x10 x11 x12 (x13)::x14) x15 x16 x17):Q→ah x1 x2 x3 x4 (Oper.mk x5 (Op.binOp .rem x6 x7 x8 x9) x10 x11 x12 (x13)::x14) x15 x16 x17:=h
theorem Gn{Q:Prop}{x1 x2 x3 x4 x5 x6 x7 x8 x9 x10 x11 x12 x13 x14 x15 x16 x17}(h:Q→ah x1 x2 x3 x4 (Oper.mk x5 (Op.binOp .quo x6 x7 x8 x9) x10 x11 x12 (x13)::x14) x15 x16 x17):Q→ah x1 x2 x3 x4 (Oper.mk x5 (Op.binOp .quo x6 x7 x8 x9) x10 x11 x12 (x13)::x14) x15 x16 x17:=h
theorem Gp{Q:Prop}{x1 x2 x3 x4 x5 x6 x7 x8 x9 x10 x11 x12 x13 x14 x15}(h:Q→ah x1 x2 x3 x4 (Oper.mk x5 (Op.unOp .neg x6 x7) x8 x9 x10 (x11)::x12) x13 x14 x15):Q→ah x1 x2 x3 x4 (Oper.mk x5 (Op.unOp .neg x6 x7) x8 x9 x10 (x11)::x12) x13 x14 x15:=h
theorem Gq{Q:Prop}{x1 x2 x3 x4 x5 x6 x7 x8 x9 x10 x11 x12 x13 x14 x15 x16}(h:Q→ah x1 x2 x3 x4 (Oper.mk x5 (Op.convert x6 x7 x8) x9 x10 x11 (x12)::x13) x14 x15 x16):Q→ah x1 x2 x3 x4 (Oper.mk x5 (Op.convert x6 x7 x8) x9 x10 x11 (x12)::x13) x14 x15 x16:=h
theorem Gr{Q:Prop}{x1 x2 x3 x4 x5 x6 x7 x8 x9 x10 x11 x12 x13 x14 x15 x16}(h:Q→ah x1 x2 x3 x4 (Oper.mk x5 (Op.pick x6 x7 x8) x9 x10 x11 (x12)::x13) x14 x15 x16):Q→ah x1 x2 x3 x4 (Oper.mk x5 (Op.pick x6 x7 x8) x9 x10 x11 (x12)::x13) x14 x15 x16:=h
theorem Gs{Q:Prop}{x1 x2 x3 x4 x5 x6 x7 x8 x9 x10 x11 x12 x13 x14 x15 x16}(h:Q→ah x1 x2 x3 x4 (Oper.mk x5 (Op.indexAddr x6 x7 x8) x9 x10 x11 (x12)::x13) x14 x15 x16):Q→ah x1 x2 x3 x4 (Oper.mk x5 (Op.indexAddr x6 x7 x8) x9 x10 x11 (x12)::x13) x14 x15 x16:=h
theorem Gt{Q:Prop}{x1 x2 x3 x4 x5 x6 x7 x8 x9 x10 x11 x12 x13 x14 x15 x16}(h:Q→ah x1 x2 x3 x4 (Oper.mk x5 (Op.index x6 x7 x8) x9 x10 x11 (x12)::x13) x14 x15 x16):Q→ah x1 x2 x3 x4 (Oper.mk x5 (Op.index x6 x7 x8) x9 x10 x11 (x12)::x13) x14 x15 x16:=h
theorem Gu{Q:Prop}{x1 x2 x3 x4 x5 x6 x7 x8 x9 x10 x11 x12 x13 x14 x15}(h:Q→ah x1 x2 x3 x4 (Oper.mk x5 (Op.load x6 x7) x8 x9 x10 (x11)::x12) x13 x14 x15):Q→ah x1 x2 x3 x4 (Oper.mk x5 (Op.load x6 x7) x8 x9 x10 (x11)::x12) x13 x14 x15:=h
theorem Gv{Q:Prop}{x1 x2 x3 x4 x5 x6 x7 x8}(h:Q→ah x1 x2 x3 x4 x5 x6 x7 x8):Q→ah x1 x2 x3 x4 x5 x6 x7 x8:=h
theorem wB{P:Prop}(h:P:=by first|omega|((try simp only[a0A,a1A,a2A,a3A,a4A,a5A,a6A,a7A,a8A,a9A,CU,CV] at *);omega)):P:=h
theorem wK{P:Prop}(h:P:=by first|(repeat' first|exact b8|refine ae rfl ?_)<;>fail|fail):P:=h
theorem wL{P:Prop}(h:P:=by first|omega|(rw[HK];simp;omega)|grind):P:=h
theorem wS0{P:Prop}(h:P:=by first|exact vO rfl rfl (by first|assumption|rfl)|exact Br rfl rfl (by first|assumption|rfl) rfl rfl|exact Dj rfl rfl rfl rfl):P:=h
theorem wS1{P:Prop}(h:P:=by exact AG ag rfl rfl rfl rfl rfl rfl rfl rfl rfl rfl rfl rfl rfl (by first|omega|((try simp only[a0A,a1A,a5A,q5,q6,q7,q8,q9,o6] at *);omega)) (by first|exact G5 rfl|omega|((try simp only[a0A,a1A,a5A,q5,q6,q7,q8,q9,o6] at *);omega)) (G5 rfl)):P:=h
theorem wS3{P:Prop}(h:P:=by first|exact s_e envOk rfl rfl rfl (nC rfl rfl rfl rfl (lA wB wB))|exact s_e envOk rfl rfl rfl (nC rfl rfl rfl rfl (qY wB wB))|exact fQ ag rfl rfl rfl rfl):P:=h
theorem wS4{P:Prop}(h:P:=by first|exact s_e envOk rfl rfl rfl (se rfl rfl rfl rfl (lA wB wB))|exact fQ ag rfl rfl rfl rfl):P:=h
theorem wS5{P:Prop}(h:P:=by first|exact s_e envOk rfl rfl rfl (sf rfl rfl rfl rfl (lA wB wB))|exact s_e envOk rfl rfl rfl (sf rfl rfl rfl rfl (qY wB wB))|exact fQ ag rfl rfl rfl rfl):P:=h
theorem wS8{P:Prop}(h:P:=by first|exact s_e envOk rfl rfl rfl (zj rfl rfl (lA wB wB))|exact fQ ag rfl rfl rfl rfl):P:=h
theorem wS2{P:Prop}(h:P:=by first|exact s_e envOk rfl rfl rfl (qm rfl rfl rfl rfl (qY wB wB))|exact s_e envOk rfl rfl rfl (qm rfl rfl rfl rfl (Cd wB wB))|exact fQ ag rfl rfl rfl rfl):P:=h
theorem wS9{P:Prop}(h:P:=by first|exact s_e envOk rfl rfl rfl (oB rfl rfl (by first|rfl|assumption) rfl)|exact s_e envOk rfl rfl rfl (oC rfl rfl (by first|rfl|assumption) rfl)|exact fQ ag rfl rfl rfl rfl):P:=h
theorem Gw{P:Prop}(h:P:=by first|exact s_e envOk rfl rfl rfl (gD rfl rfl rfl rfl rfl rfl wB wB)|exact s_e envOk rfl rfl rfl (dS rfl rfl rfl rfl rfl wB (B0 wB))|exact s_e envOk rfl rfl rfl (dS rfl rfl rfl rfl rfl wB (eJ wB))|exact fQ ag rfl rfl rfl rfl):P:=h
theorem Gx{P:Prop}(h:P:=by first|exact s_e envOk rfl rfl rfl (uj rfl rfl rfl rfl wB (cv wB))|exact fQ ag rfl rfl rfl rfl):P:=h
theorem Gy{P:Prop}(h:P:=by first|exact s_e envOk rfl rfl rfl (dK rfl rfl rfl rfl (lk wB) rfl)|exact fQ ag rfl rfl rfl rfl):P:=h
theorem Gz{P:Prop}(h:P:=by first|exact xM 0 rfl rfl rfl rfl rfl rfl|exact xM 1 rfl rfl rfl rfl rfl rfl|exact xM 2 rfl rfl rfl rfl rfl rfl):P:=h
theorem GA{P:Prop}(h:P:=by first|exact jA ag 0 rfl rfl rfl rfl rfl|exact jA ag 1 rfl rfl rfl rfl rfl|exact jA ag 2 rfl rfl rfl rfl rfl|exact jA ag 3 rfl rfl rfl rfl rfl|exact jA ag 4 rfl rfl rfl rfl rfl|exact jA ag 5 rfl rfl rfl rfl rfl):P:=h
theorem GB{P:Prop}(h:P:=by first|exact nD|exact Ca ag rfl rfl rfl rfl rfl|(apply gQ0;exact wS0)|(apply gQ1;exact wS1)|(apply gQ2;exact Ce ag rfl rfl rfl rfl rfl rfl wB)|(apply gQ3;exact wS3)|(apply gQ4;exact wS4)|(apply gQ5;exact wS5)|(apply gQ6;exact fQ ag rfl rfl rfl rfl)|(apply gQ7;exact fQ ag rfl rfl rfl rfl)|(apply gQ8;exact wS8)|(apply gQ2;exact wS2)|(apply gQ9;exact wS9)|(apply F8;exact Gw)|(apply F9;exact Gx)|(apply Gc;exact Gy)|(apply Gd;exact Gz)|(apply Ge;exact GA)|exact qZ envOk rfl rfl (cj rfl rfl rfl rfl rfl rfl rfl rfl rfl (eJ wB) rfl)|exact qZ envOk rfl rfl (cj rfl rfl rfl rfl rfl rfl rfl rfl rfl (ia (by assumption) wB) rfl)|exact qZ envOk rfl rfl rfl|exact D1 envOk rfl rfl rfl rfl rfl|exact s_e envOk rfl rfl rfl rfl|exact gF envOk 0 rfl rfl rfl rfl rfl rfl|exact gF envOk 1 rfl rfl rfl rfl rfl rfl|exact gF envOk 2 rfl rfl rfl rfl rfl rfl|exact gF envOk 3 rfl rfl rfl rfl rfl rfl|exact gF envOk 4 rfl rfl rfl rfl rfl rfl|exact gF envOk 5 rfl rfl rfl rfl rfl rfl|exact gF envOk 6 rfl rfl rfl rfl rfl rfl|exact y8 envOk rfl rfl rfl rfl rfl rfl rfl rfl rfl rfl rfl rfl|exact AE envOk rfl rfl rfl rfl rfl rfl rfl rfl rfl rfl rfl (by assumption)):P:=h
theorem GC{P:Prop}(h:P:=by first|exact yC|exact Dn|exact sh|exact AO|exact wc|exact cr|exact we|exact uk rfl|exact um rfl|exact zl rfl (by assumption)|exact zm rfl (by assumption)|exact pO progOk.mo):P:=h
theorem GD{P:Prop}(h:P:=by first|exact dF envOk 11 rfl rfl rfl (bM (i:=10) rfl rfl rfl rfl rfl rfl rfl rfl (by first|omega|((try simp only[a0A,a1A,a5A,q5,q6,q7,q8,q9,o6] at *);omega)) (by first|exact G5 rfl|omega|((try simp only[a0A,a1A,a5A,q5,q6,q7,q8,q9,o6] at *);omega)) (G5 rfl)) rfl rfl|exact dF envOk 13 rfl rfl rfl (bM (i:=12) rfl rfl rfl rfl rfl rfl rfl rfl (by first|omega|((try simp only[a0A,a1A,a5A,q5,q6,q7,q8,q9,o6] at *);omega)) (by first|exact G5 rfl|omega|((try simp only[a0A,a1A,a5A,q5,q6,q7,q8,q9,o6] at *);omega)) (G5 rfl)) rfl rfl):P:=h
theorem GF{P:Prop}(h:P:=by first|exact Cc rfl rfl (by first|assumption|rfl)|exact DZ rfl rfl (by first|assumption|rfl) rfl rfl):P:=h
theorem GG{P:Prop}(h:P:=by first|exact d_e envOk rfl rfl rfl (nC rfl rfl rfl rfl (lA wB wB))|exact d_e envOk rfl rfl rfl (b9 rfl)):P:=h
theorem GH{P:Prop}(h:P:=by first|exact d_e envOk rfl rfl rfl (se rfl rfl rfl rfl (lA wB wB))|exact d_e envOk rfl rfl rfl (b9 rfl)):P:=h
theorem GI{P:Prop}(h:P:=by first|exact d_e envOk rfl rfl rfl (oB rfl rfl (by first|rfl|assumption) rfl)|exact d_e envOk rfl rfl rfl (oC rfl rfl (by first|rfl|assumption) rfl)|exact d_e envOk rfl rfl rfl (b9 rfl)):P:=h
theorem GJ{P:Prop}(h:P:=by first|exact d_e envOk rfl rfl rfl (gD rfl rfl rfl rfl rfl rfl wB wB)|exact d_e envOk rfl rfl rfl (dS rfl rfl rfl rfl rfl wB (eJ wB))|exact d_e envOk rfl rfl rfl (b9 rfl)):P:=h
theorem GK{P:Prop}(h:P:=by first|exact d_e envOk rfl rfl rfl (dK rfl rfl rfl rfl (ia (by assumption) wB) rfl)|exact d_e envOk rfl rfl rfl (dK rfl rfl rfl rfl (lk wB) rfl)|exact d_e envOk rfl rfl rfl (b9 rfl)):P:=h
theorem GL{P:Prop}(h:P:=by first|(apply Gh;exact GD)|exact DY (by kernel_rfl)|exact d_e envOk rfl rfl rfl (ve rfl rfl)|(apply Gi;exact GF)|(apply Gj;exact GG)|(apply Gk;exact GH)|(apply Gl;exact d_e envOk rfl rfl rfl (b9 rfl))|(apply Gm;exact d_e envOk rfl rfl rfl (b9 rfl))|(apply Gn;exact d_e envOk rfl rfl rfl (b9 rfl))|(apply Gp;exact d_e envOk rfl rfl rfl (b9 rfl))|(apply Gq;exact d_e envOk rfl rfl rfl (b9 rfl))|(apply Gr;exact GI)|(apply Gs;exact GJ)|(apply Gt;exact d_e envOk rfl rfl rfl (b9 rfl))|(apply Gu;exact GK)|exact d_e envOk rfl rfl rfl rfl|exact dF envOk 2 rfl rfl rfl rfl rfl rfl|exact dF envOk 3 rfl rfl rfl rfl rfl rfl|exact dF envOk 4 rfl rfl rfl rfl rfl rfl|exact dF envOk 5 rfl rfl rfl rfl rfl rfl|exact dF envOk 6 rfl rfl rfl rfl rfl rfl|exact fX envOk rfl rfl (cj rfl rfl rfl rfl rfl rfl rfl rfl rfl (eJ wB) rfl)|exact fX envOk rfl rfl (cj rfl rfl rfl rfl rfl rfl rfl rfl rfl (ia (by assumption) wB) rfl)|exact fX envOk rfl rfl (cj rfl rfl rfl rfl rfl rfl rfl rfl rfl (lk wB) rfl)|exact fX envOk rfl rfl rfl):P:=h
theorem wG {P Q:Prop} (k:Q) (h:Q→P:=by first
  | (apply Gf;exact GB)
  | (apply Gg;exact GC)
  | exact yI
  | exact Dl
  | exact Dm
  | exact Cf
  | exact Cg
  | exact vF rfl
  | exact AN (.inl rfl) rfl rfl
  | exact fun k=>rQ (.inl rfl) rfl rfl k (by first|exact (q1Q rfl)|exact (q2Q rfl rfl))
  | (apply Gv;exact GL)
  | exact zZ rfl
  | exact CD
  | exact CQ (by simp)
  | exact BR (by simp)
  | exact CB):P:=h k
theorem h2H{x1 x2 x3 x4 x5}(h:OkC x1 x2 x3 x4 x5):OkC x1 x2 x3 x4 x5:=h
end Go.Abs
namespace Go.Proofs.YtpejdgkaapnekaaGreat
open Go Go.Abs
attribute [local irreducible] aa OkC ah av aq aP
set_option maxRecDepth 10000
def iu(c:Nat):Bool:=decide (97≤c)&&decide (c≤122)
def jP(c:Nat):Bool:=iu c||(decide (48≤c)&&decide (c≤57))||decide (c=95)
def eX(s:List UInt8):Bool:=decide (1≤s.length)&&decide (s.length≤12)&&iu (at_ s 0).toNat&&s.all (fun c=>jP c.toNat)
structure Dim where
 name:List UInt8
 lo:Int
 hi:Int
 deriving Inhabited
structure Attr where
 name:List UInt8
 type:Int
 deriving Inhabited
def aN(d:Dim):List D:=[.str d.name,.int .i64 d.lo,.int .i64 d.hi]
def ar(l:List Dim):D:=.sl 3 32 (l.map aN)
def aL(a:Attr):List D:=[.str a.name,.int .i64 a.type]
def al(l:List Attr):D:=.sl 2 24 (l.map aL)
def aH(n:Int):List D:=[.int .i64 n]
def aC(l:List Int):D:=.sl 1 8 (l.map aH)
def dU(hi:Int):Int:=min hi 1073741824
theorem EG(nm:List UInt8)(lo hi:Int):CallA Tryz.prog 247 [.agg [.d (.str nm),.d (.int .i64 lo),.d (.int .i64 hi)]] [] (.one (.d (.int .i64 (dU hi)))) []:=by
 refine enter ag Tryz.func247 rfl (by decide +kernel) rfl fun hok w0 σ0 φ0 M=>?_
 repeat' (first|refine wG ?_)
 all_goals (try (((simp_all[dU,aB,G6])<;>exact wL);done))
def ep(lo hi:Int):Bool:=decide (-1073741824≤lo)&&decide (lo≤1073741824)&&decide (lo≤hi)&&decide (hi≤1073741825)
def dL:List Dim→List Int→Bool
 | d::ds,x::xs=>decide (d.lo≤x)&&decide (x≤dU d.hi)&&dL ds xs
 | _,_=>true
def ofF(ds:List Dim)(at':List Int):Bool:=decide (at'.length=ds.length)&&dL ds at'
def fL:List (List UInt8)→List Dim→Int
 | _,[]=>0
 | met,d::r=>if !eX d.name||met.contains d.name then 11 else if !ep d.lo d.hi then 3 else fL (met++[d.name]) r
def dh(ds:List Dim):Int:=if (ds.length:Int)<1∨4<(ds.length:Int) then 13 else fL [] ds
def dv:List (List UInt8)→List Attr→Int
 | _,[]=>0
 | met,a::r=>if !eX a.name||met.contains a.name then 11 else if a.type<1∨4<a.type then 12 else dv (met++[a.name]) r
def c6(ds:List Dim)(ats:List Attr):Int:=if dh ds≠0 then dh ds else if (ats.length:Int)<1∨6<(ats.length:Int) then 9 else dv (ds.map Dim.name) ats
structure Val where
 kind:Int
 num:Int
 den:Int
 str:List UInt8
 deriving Inhabited
def bW(v:Val):List D:=[.int .i64 v.kind,.int .i64 v.num,.int .i64 v.den,.str v.str]
def cR(l:List Val):D:=.sl 4 40 (l.map bW)
def pI(d:Int)(s:List UInt8):Bool:=d==0&&s==[]
theorem GU(k n d:Int)(s:List UInt8):CallA Tryz.prog 279 [.agg [.d (.int .i64 k),.d (.int .i64 n),.d (.int .i64 d),.d (.str s)]] [] (.one (.d (.bool (pI d s)))) []:=by
 refine enter ag Tryz.func279 rfl (by decide +kernel) rfl fun hok w0 σ0 φ0 M=>?_
 repeat' (first|refine wG ?_|(refine h1H ?_;(refine h9H ?_;refine cq J J J J (fun h=>?_) (fun h=>?_))))
 all_goals (try (((simp_all[pI,aB,G6])<;>exact wL);done))
theorem GV(a b:Nat):CallA Tryz.prog 280 [.one (.d (.int .i64 a)),.one (.d (.int .i64 b))] [] (.one (.d (.int .i64 (Nat.gcd a b)))) []:=by
 refine enter ag Tryz.func280 rfl (by decide +kernel) rfl fun hok w0 σ0 φ0 M=>?_
 repeat' (first|(refine h4H ?_;(refine EV ?_;refine d_e envOk J J J (zi J J J J wB) ?_))|refine wG ?_|(refine h2H ?_;first|refine aA J (fun h=>?_) (fun h=>?_)|refine c9 1 J [] b8 (fun (p:Nat×Nat)=>[(0,.one (.d (.int .i64 (p.1:Int)))),(1,.one (.d (.int .i64 (p.2:Int))))]) (fun (p:Nat×Nat)=>Nat.gcd p.1 p.2=Nat.gcd a b) (fun (p:Nat×Nat)=>p.2) (a,b) (q2Q J J) ?_ (fun p hg=>?_))|(show Exists _;refine Exists.intro ((p.2,p.1 % p.2)) ⟨?_,?_,wK,(q2Q J J),b8⟩))
 all_goals (try (((simp_all[aB,G6])<;>exact wL);done))
 ·have h':p.2≠0:=by simpa using h
  show Nat.gcd p.2 (p.1 % p.2)=_
  rw[Nat.gcd_comm,← Nat.gcd_rec,Nat.gcd_comm];exact hg
 ·have h':p.2≠0:=by simpa using h
  exact Nat.mod_lt _ (by omega)
theorem Ew(ds:List Dim)(at':List Int):CallA Tryz.prog 204 [.one (.d (ar ds)),.one (.d (aC at'))] [] (.one (.d (.bool (ofF ds at')))) []:=by
 refine enter ag Tryz.func204 rfl (by decide +kernel) rfl fun hok w0 σ0 φ0 M=>?_
 have h1:=hok.1.sl;have h2:=hok.2.1.sl;clear hok;simp only[G2] at h1 h2;replace h1:=h1.1;replace h2:=h2.1
 repeat' (first|(refine h1H ?_;(refine h0H ?_;refine aj J J J J J J J J (EG _ _ _) J ?_))|refine wG ?_|(refine h1H ?_;(refine h9H ?_;refine cq J J J J (fun h=>?_) (fun h=>?_)))|(refine h2H ?_;first|refine aA J (fun h=>?_) (fun h=>?_)|refine c9 4 J [(0,_),(12,_),(13,_)] (q3Q J J J) (fun (k:Nat)=>[(14,.one (.d (.int .i64 k)))]) (fun (k:Nat)=>k≤ds.length∧at'.length=ds.length∧dL ds at'=dL (ds.drop k) (at'.drop k)) (fun (k:Nat)=>ds.length-k) 0 (q1Q J) ?_ (fun k ⟨hk,hq,hs⟩=>?_))|(show Exists _;refine Exists.intro (k+1) ⟨?_,?_,wK,(q1Q J),(q3Q J J J)⟩))
 all_goals (try (((simp_all[ofF,dL,aB,G6])<;>exact wL);done))
def aT:List Int→List Int→Int
 | [],[]=>0
 | [],_::_=>-1
 | _::_,[]=>1
 | x::xs,y::ys=>if x<y then -1 else if y<x then 1 else aT xs ys
theorem Av{b:List Int}:aT [] b=if b=[] then 0 else -1:=by cases b<;>simp[aT]
theorem yW{a:List Int}:aT a []=if a=[] then 0 else 1:=by cases a<;>simp[aT]
theorem EH(x:Int):CallA Tryz.prog 246 [.one (.d (.int .i64 x))] [] (.one (.d (.bool false))) []:=by
 refine enter ag Tryz.func246 rfl (by decide +kernel) rfl fun hok w0 σ0 φ0 M=>?_
 repeat' (first|refine wG ?_)
 all_goals (try (((simp_all[aB,G6])<;>exact wL);done))
theorem EI(x y:Int):CallA Tryz.prog 198 [.one (.d (.int .i64 x)),.one (.d (.int .i64 y))] [] (.one (.d (.int .i64 (if x<y then -1 else if y<x then 1 else 0)))) []:=by
 refine enter ag Tryz.func198 rfl (by decide +kernel) rfl fun hok w0 σ0 φ0 M=>?_
 repeat' (first|(refine h1H ?_;(refine h0H ?_;refine aj J J J J J J J J (EH _) J ?_))|refine wG ?_|(refine h2H ?_;refine aA J (fun h=>?_) (fun h=>?_)))
 all_goals (try (((simp_all[aB,G6])<;>exact wL);done))
theorem EJ(a b:List Int):CallA Tryz.prog 130 [.one (.d (aC a)),.one (.d (aC b))] [] (.one (.d (.int .i64 (aT a b)))) []:=by
 refine enter ag Tryz.func130 rfl (by decide +kernel) rfl fun hok w0 σ0 φ0 M=>?_
 have h1:=hok.1.sl;have h2:=hok.2.1.sl;clear hok;simp only[G2] at h1 h2;replace h1:=h1.1;replace h2:=h2.1
 repeat' (first|(refine h1H ?_;(refine h0H ?_;refine aj J J J J J J J J (EI _ _) J ?_))|refine wG ?_|(refine h2H ?_;first|refine aA J (fun h=>?_) (fun h=>?_)|refine c9 2 J [(0,_),(1,_),(9,_),(10,_)] (q4Q J J J J) (fun (k:Nat)=>[(11,.one (.d (.int .i64 k)))]) (fun (k:Nat)=>k≤a.length∧k≤b.length∧aT a b=aT (a.drop k) (b.drop k)) (fun (k:Nat)=>a.length-k) 0 (q1Q J) ?_ (fun k ⟨hk,hq,hs⟩=>?_))|(show Exists _;refine Exists.intro (k+1) ⟨?_,?_,wK,(q1Q J),(q4Q J J J J)⟩))
 all_goals (try (((simp_all[aT,Av,yW,aB,G6])<;>exact wL);done))
theorem c35(a b:List Int):CallA Tryz.prog 35 [.one (.d (aC a)),.one (.d (aC b))] [] (.one (.d (.int .i64 (aT a b)))) []:=by
 refine enter ag Tryz.func35 rfl (by decide +kernel) rfl fun hok w0 σ0 φ0 M=>?_
 repeat' (first|(refine h1H ?_;(refine h0H ?_;refine aj J J J J J J J J (EJ _ _) J ?_))|refine wG ?_)
 all_goals (try (((simp_all[aB,G6])<;>exact wL);done))
def aS{α:Type}(p:α→Bool):List α→Nat→Int
 | [],_=>-1
 | x::r,k=>if p x then k else aS p r (k+1)
end Go.Proofs.YtpejdgkaapnekaaGreat
namespace Go.Proofs.YtpejdgkaapnekaaGreat
open Go Go.Abs
theorem j7:∀ a:List Int,aT a a=0
 | []=>rfl
 | x::a=>by simp only[aT,if_neg (Int.lt_irrefl x)];exact j7 a
theorem e7:∀ a b:List Int,aT b a=- aT a b
 | [],[]=>rfl
 | [],_::_=>rfl
 | _::_,[]=>rfl
 | x::a,y::b=>by
   simp only[aT]
   by_cases h1:x<y
   ·rw[if_pos h1,if_neg (by omega),if_pos h1];rfl
   ·by_cases h2:y<x
    ·rw[if_pos h2,if_neg h1,if_pos h2]
    ·rw[if_neg h1,if_neg h2,if_neg h1,if_neg h2];exact e7 a b
theorem eH:∀ a b c:List Int,aT a b≤0→aT b c≤0→aT a c≤0∧(aT a c=0→aT a b=0∧aT b c=0)
 | [],[],[],_,_=>by simp[aT]
 | [],[],_::_,_,_=>by simp[aT]
 | [],_::_,[],_,h=>by simp[aT] at h
 | [],_::_,_::_,_,_=>by simp[aT]
 | _::_,[],_,h,_=>by simp[aT] at h
 | _::_,_::_,[],_,h=>by simp[aT] at h
 | x::a,y::b,z::c,h1,h2=>by
   have ih:=eH a b c
   simp only[aT] at h1 h2 ⊢
   split at h1<;>split at h2<;>(try split at h1)<;>(try split at h2)<;>(try omega)
   all_goals first
    | (rw[if_pos (by omega)];omega)
    | (have:=ih h1 h2
       simp only[if_neg (show ¬ x<y by omega),if_neg (show ¬ y<x by omega),if_neg (show ¬ y<z by omega),if_neg (show ¬ z<y by omega),if_neg (show ¬ x<z by omega),if_neg (show ¬ z<x by omega)]
       exact this)
theorem vL:∀ a b:List Int,aT a b=0→a=b
 | [],[],_=>rfl
 | [],_::_,h=>by simp[aT] at h
 | _::_,[],h=>by simp[aT] at h
 | x::a,y::b,h=>by
   simp only[aT] at h
   split at h
   ·omega
   ·split at h
    ·omega
    ·rw[vL a b h,show x=y by omega]
end Go.Proofs.YtpejdgkaapnekaaGreat
namespace Go.Proofs.YtpejdgkaapnekaaGreat
open Go Go.Abs
attribute [local irreducible] aa OkC ah av aq aP
set_option maxRecDepth 10000
def dT(c:UInt8):Bool:=decide (32≤c.toNat)&&decide (c.toNat≤126)
def mO(k n d:Int)(s:List UInt8):Bool :=
 if k=0 then pI d s&&(decide (1≤n)&&decide (n≤255))
 else if k=1 then pI d s&&(n==0||n==1)
 else if k=2 then s==[]&&(decide (1≤d)&&(decide (d≤1099511627776)&&(decide (-1099511627776≤n)&&(decide (n≤1099511627776)&&((Nat.gcd n.natAbs d.toNat:Nat):Int)==1))))
 else if k=3 then n==0&&(d==0&&(decide ((s.length:Int)≤16)&&s.all dT))
 else false
def sK(k n d:Int)(s:List UInt8)(t:Int):Bool :=
 mO k n d s&&(decide (1≤t)&&(decide (t≤4)&&(if k=0 then true else if k=1 then t==1 else if k=2 then t==3||t==2&&d==1 else t==4)))
theorem Ey(c:Int):CallA Tryz.prog 281 [.one (.d (.int .i32 c))] [] (.one (.d (.bool (decide (c<32)||decide (126<c))))) []:=by
 refine enter ag Tryz.func281 rfl (by decide +kernel) rfl fun hok w0 σ0 φ0 M=>?_
 repeat' (first|refine wG ?_|(refine h1H ?_;(refine h9H ?_;refine cq J J J J (fun h=>?_) (fun h=>?_))))
 all_goals (try (((simp_all[aB,G6])<;>exact wL);done))
end Go.Proofs.YtpejdgkaapnekaaGreat
namespace Go.Abs
open Go
variable {P:Program} {V:Env} {T:Tab} {c:Ctx} {w0:World} {σ0:Sig} {φ0:Pl} {M:Nat→Prop} {n:Nat} {rd:Option Nat} {mk:List Deferred} {ops:Array Oper} {o:Oper} {rest:List Oper} {fr:List (Nat×AV)} {sto:Sto} {K:St→Prop} {st st0:St}
def cw(met:List (List UInt8)):List (List D×List D):=met.map fun nm=>([.str nm],[.bool true])
theorem np{s:List UInt8}:∀ {met:List (List UInt8)} {i:Nat},(met.contains s=true→∃ j,bC [.str s] (cw met) i=some (j,[.bool true]))∧(met.contains s=false→bC [.str s] (cw met) i=none)
 | [],i=>by simp[cw,bC]
 | x::r,i=>by
   have ih:=np (s:=s) (met:=r) (i:=i+1)
   simp only[cw,HE,bC,bV,eqD,Bool.and_true,List.contains_cons] at ih ⊢
   cases hb:(s==x) with
   | true=>simp
   | false=>simpa[hb] using ih
theorem tV{s:List UInt8}:∀ {met:List (List UInt8)},met.contains s=false→eS [.str s] [.bool true] (cw met)=cw (met++[s])
 | [],_=>rfl
 | x::r,h=>by
   simp only[List.contains_cons,Hx] at h
   have ih:=tV (s:=s) (met:=r) h.2
   simp only[cw,HE,eS,bV,eqD,Bool.and_true,HF,h.1,HV] at ih ⊢
   rw[ih]
theorem kP:∀ {met:List (List UInt8)},dw [.str] (cw met)=true
 | []=>rfl
 | x::r=>by
   have ih:=kP (met:=r)
   simp only[cw,HE,dw,dO,wJ,Bool.and_true,Bool.true_and] at ih ⊢
   exact ih
theorem y8(hV:EnvOk P V){d t id:Nat}{m:MTy}{x y:Operand}{s:List UInt8}{met:List (List UInt8)}(ho:o.op=.lookup t x y false)(hg:o.guard=none)(hdst:o.dst=some d)(hd:Nat.blt d n=true)
  (hm:look V.M t=some m) (hms:m.ks=[.str]) (hk:m.kg=false) (hv:m.vg=false) (hz:m.z=[.bool false])
  (hx:ev ⟨fr,sto⟩ x=some (.one (.mapr id))) (hl:look sto id=some (.map false false (cw met))) (hy:ev ⟨fr,sto⟩ y=some (.one (.d (.str s))))
  (h:aa P ⟨w0,σ0,φ0,M,n,rd,mk⟩ ops rest ⟨(d,.one (.d (.bool (met.contains s))))::fr,sto⟩ K):aa P ⟨w0,σ0,φ0,M,n,rd,mk⟩ ops (o::rest) ⟨fr,sto⟩ K:=by
 refine nq (hV.M t m hm) ho hg (by rw[hdst];exact hd) hx (es:=cw met) (by rw[hl,hk,hv]) hy (kd:=[.str s]) (by rw[hk];rfl) (by rw[hms];rfl) (by rw[hms];exact kP) (v:=.one (.d (.bool (met.contains s)))) ?_ (by rw[hdst];exact h)
 cases hb:met.contains s with
 | true =>
   obtain⟨j,hj⟩:=(np (i:=0)).1 hb
   simp only[kp,hj,hv,nr];rfl
 | false =>
   simp only[kp,(np (i:=0)).2 hb,hv,hz,nr];rfl
theorem AE(hV:EnvOk P V){t id:Nat}{m:MTy}{x y z:Operand}{s:List UInt8}{met:List (List UInt8)}(ho:o.op=.mapUpdate t x y z)(hg:o.guard=none)(hdst:o.dst=none)
  (hm:look V.M t=some m) (hms:m.ks=[.str]) (hk:m.kg=false) (hv:m.vg=false)
  (hx:ev ⟨fr,sto⟩ x=some (.one (.mapr id))) (hl:look sto id=some (.map false false (cw met))) (hy:ev ⟨fr,sto⟩ y=some (.one (.d (.str s)))) (hz:ev ⟨fr,sto⟩ z=some (.one (.d (.bool true)))) (hnot:met.contains s=false)
  (h:aa P ⟨w0,σ0,φ0,M,n,rd,mk⟩ ops rest ⟨fr,bR id (.map false false (cw (met++[s]))) sto⟩ K):aa P ⟨w0,σ0,φ0,M,n,rd,mk⟩ ops (o::rest) ⟨fr,sto⟩ K:=by
 refine kq (hV.M t m hm) ho hg hdst hx (es:=cw met) (by rw[hl,hk,hv]) hy (kd:=[.str s]) (by rw[hk];rfl) (by rw[hms];rfl) (by rw[hms];exact kP) hz (vd:=[.bool true]) (by rw[hv];rfl) ?_
 rw[tV hnot,hk,hv]
 exact h
theorem qB(k:Nat)(ρ:List (Nat×Nat)){d:Nat}{fop:Operand}{args:Array Operand}{ats:Array TypeId}{f:FuncId}{cargs:List AV}{cs rs:Sto}{rav rav':AV}{sto':Sto}(hC:CallA P f cargs cs rav rs)
  (ho:o.op=.call { callee:=.value fop,args:=args,argTypes:=ats }) (hg:o.guard=none) (hdst:o.dst=some d) (hd:Nat.blt d n=true) (hf:ev ⟨fr,sto⟩ fop=some (.one (.d (.fn f []))))
  (ha:evL ⟨fr,sto⟩ args.toList=some (cC (rn k ρ) cargs)) (hpass:Pass ⟨fr,sto⟩ (rn k ρ) ρ cs) (hcomp:CompatL ⟨fr,sto⟩ (rn k ρ) ρ rs)
  (hk:(eA ρ&&gr ρ&&fo cs ρ&&fa ρ&&bY ρ rs&&fp cs (cargs++[])&&bg cs cs&&cE rs rav&&bg rs rs&&Nat.ble (k+16) 1000000)=true) (hfresh:jw k ⟨fr,sto⟩=true)
  (hr:cZ (rn k ρ) rav=rav') (hs:cL (rn k ρ) (ej ρ sto) rs=sto')
  (h:aa P ⟨w0,σ0,φ0,M,n,rd,mk⟩ ops rest ⟨(d,rav')::fr,sto'⟩ K):aa P ⟨w0,σ0,φ0,M,n,rd,mk⟩ ops (o::rest) ⟨fr,sto⟩ K:=by
 subst hr;subst hs
 exact kF k ρ ho hg (by rw[hdst];exact hd) hf ha (caps:=[]) (by simpa using hC) hpass hcomp hk (lW hfresh) (by rw[hdst];exact h)
theorem fy{α:Type}{body:Code}{Q:Exit→St→Prop}(rg:Nat)(hrg:ic body=rg)(kept:List (Nat×AV))(hk:SubL fr kept)(L:α→List (Nat×AV))(S:α→Sto)(Inv:α→Prop)(μ:α→Nat)(x0:α)(hL:SubL fr (L x0))(hS:SubL sto (S x0))(h0:Inv x0)
  (hround:∀ x,Inv x→OkC P c body ⟨L x++kept,S x⟩ (av (fun st'=>∃ y,Inv y∧μ y<μ x∧SubL st'.sto (S y)∧SubL st'.fr (L y)∧SubL st'.fr kept) Q)):OkC P c (.loop body) ⟨fr,sto⟩ Q:=by
 have hap:∀ {f a b:List (Nat×AV)},SubL f a→SubL f b→SubL f (a++b):=by
  intro f a b h1 h2
  induction a with
  | nil=>exact h2
  | cons p r ih=>exact⟨h1.1,ih h1.2⟩
 have hdr:∀ {f:List (Nat×AV)} {s s':Sto},SubL s s'→Imp c ⟨f,s⟩ ⟨f,s'⟩:=fun h a w σ φ hr=>⟨σ,φ,hr.dropTo fun i e hi=>h.look hi⟩
 refine bG (st':=⟨L x0++kept,S x0⟩) (Imp.trans (jI (hap hL hk)) (hdr hS)) ?_
 refine nK (fun n st=>∃ x,Inv x∧n=μ x∧st=⟨L x++kept,S x⟩) (μ x0) ⟨x0,h0,rfl,rfl⟩ ?_
 rintro n st ⟨x,hx,rfl,rfl⟩
 refine ie (hround x hx) fun e st h=>?_
 cases e with
 | normal =>
   obtain⟨y,hy,hlt,hs,h1,h2⟩:=h
   obtain⟨f,s⟩:=st
   simp only at hs h1 h2
   exact⟨μ y,_,hlt,⟨y,hy,rfl,rfl⟩,Imp.trans (jI (hap h1 h2)) (hdr hs)⟩
 | _=>exact h
theorem bA{dl:List Nat}{ss:St}(h:sealL st dl=some ss):Imp c st ss:=fun a w σ φ hr=>by
 obtain⟨σs,_,h3,_⟩:=Rel.sealL h hr
 exact⟨σs,φ,h3⟩
theorem bF(k:Nat){d:Nat}{fop:Operand}{args:Array Operand}{ats:Array TypeId}{f:FuncId}{caps:List D}{avs avs':List AV}{rav rav':AV}
  (ho:o.op=.call { callee:=.value fop,args:=args,argTypes:=ats }) (hg:o.guard=none) (hdst:o.dst=some d) (hd:Nat.blt d n=true) (hf:ev ⟨fr,sto⟩ fop=some (.one (.d (.fn f caps))))
  (ha:evL ⟨fr,sto⟩ args.toList=some avs) (hD:bS avs=true) (hap:(avs++caps.map fun x=>.one (.d x))=avs') (hC:CallA P f avs' [] rav [])
  (hk:(bY [] []&&Nat.ble (k+16) 1000000&&cE [] rav&&bg [] [])=true) (hfresh:jw k ⟨fr,sto⟩=true) (hr:cZ (rn k []) rav=rav')
  (h:aa P ⟨w0,σ0,φ0,M,n,rd,mk⟩ ops rest ⟨(d,rav')::fr,sto⟩ K):aa P ⟨w0,σ0,φ0,M,n,rd,mk⟩ ops (o::rest) ⟨fr,sto⟩ K:=by
 subst hap;subst hr
 exact xh k ho hg (by rw[hdst];exact hd) hf ha hD hC hk (lW hfresh) (by rw[hdst];exact h)
theorem ef(k:Nat){ops:Array Oper}{acc:List Tr}{d:Nat}{fop:Operand}{args:Array Operand}{ats:Array TypeId}{f:FuncId}{caps:List D}{avs avs':List AV}{rav rav':AV}
  (ho:o.op=.call { callee:=.value fop,args:=args,argTypes:=ats }) (hg:o.guard=none) (hdst:o.dst=some d) (hd:Nat.blt d c.n=true) (hf:ev ⟨fr,sto⟩ fop=some (.one (.d (.fn f caps))))
  (ha:evL ⟨fr,sto⟩ args.toList=some avs) (hD:bS avs=true) (hap:(avs++caps.map fun x=>.one (.d x))=avs') (hC:CallA P f avs' [] rav [])
  (hk:(bY [] []&&Nat.ble (k+16) 1000000&&cE [] rav&&bg [] [])=true) (hr:cZ (rn k []) rav=rav')
  (h:ah P c ops st0 rest ⟨(d,rav')::fr,sto⟩ (iK k [] [] rav []::acc) K):ah P c ops st0 (o::rest) ⟨fr,sto⟩ acc K:=by
 subst hap;subst hr
 refine ji hg (rX k ho (by rw[hdst];exact hd) hf ha hD hC hk) ?_
 rw[hdst];exact h
theorem gF(hV:EnvOk P V)(id:Nat){d:Nat}{v:AV}{wr:List (Nat×Option AObj)}{nw:List Nat}(hg:o.guard=none)(hdst:o.dst=some d)(hd:Nat.blt d n=true)(h:aR V ⟨fr,sto⟩ o id=some ⟨v,wr,nw⟩)(hid:Nat.blt (id+1) 1000000=true)(hf:cO ⟨fr,sto⟩ nw=true)
  (hk:aa P ⟨w0,σ0,φ0,M,n,rd,mk⟩ ops rest ⟨(d,v)::fr,bT wr sto⟩ K):aa P ⟨w0,σ0,φ0,M,n,rd,mk⟩ ops (o::rest) ⟨fr,sto⟩ K:=by
 have:=mh (c:=⟨w0,σ0,φ0,M,n,rd,mk⟩) hV (o:=o) (by rw[hdst];exact hd) h hid (dN hf) ops rest K (by rw[hdst];exact hk)
 rwa [vS hg] at this
theorem rQ{T:Tab}{rs:List ResultVar}{rav rav':AV}{rsto:Sto}{e:Exit}{st:St}{l:List (Bool×List AC)}(he:e=.ret∨e=.normal)(hl:kQ T st rs=some l)(hr:nS l=some rav')(h:rav'=rav)(hs:SubL st.sto rsto):aP T rs rav rsto e st :=
 ⟨he,l,hl,by rw[hr,h],hs⟩
end Go.Abs
