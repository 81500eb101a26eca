import Derived.Test.YtpejdgkaapnekaaGreatKP9
import Derived.Test.YtpejdgkaapnekaaGreatKPb
set_option linter.unusedVariables false
set_option linter.unusedSimpArgs false
set_option maxHeartbeats 1000000
namespace Go.Abs
open Go
variable {P:Program} {V:Env} {T:Tab} {c:Ctx} {w0:World} {σ0:Sig} {φ0:Pl} {M:Nat→Prop} {n:Nat} {rd:Option Nat} {mk:List Deferred} {ops:Array Oper} {o:Oper} {rest:List Oper} {fr:List (Nat×AV)} {sto:Sto} {K:St→Prop} {st st0:St} {acc:List Tr}
theorem ED(hg:o.guard=none):({ o with guard:=none }:Oper)=o:=by obtain⟨_,_,_,_,_,g⟩:=o;simp only at hg;subst hg;rfl
def E9:Op→Bool
 | .binOp .add _ _ _ _|.binOp .sub _ _ _ _|.binOp .mul _ _ _ _|.binOp .rem _ _ _ _|.binOp .quo _ _ _ _|.unOp .neg _ _|.convert _ _ _|.pick ..|.index ..|.indexAddr ..|.call { callee:=.value _,.. }=>false
 | _=>true
theorem NH(hT:bg P T){d:Nat}{v:AV}(hp:E9 o.op=true)(hg:o.guard=none)(hdst:o.dst=some d)(hd:Nat.blt d n=true)(hv:cL T ⟨fr,sto⟩ o.op=some v)
  (h:aa P ⟨w0,σ0,φ0,M,n,rd,mk⟩ ops rest ⟨(d,v)::fr,sto⟩ K):aa P ⟨w0,σ0,φ0,M,n,rd,mk⟩ ops (o::rest) ⟨fr,sto⟩ K:=kl hT hg hdst hd hv h
theorem Cv(hV:EnvOk P V){e:Ef}{dst:Option Nat}(hg:o.guard=none)(hdst:o.dst=dst)(hd:aX n dst=true)(h:aR V ⟨fr,sto⟩ o 0=some e)(he:e.new=[])(hk:aa P ⟨w0,σ0,φ0,M,n,rd,mk⟩ ops rest ⟨bI dst e.v fr,dh e.wr sto⟩ K) :
  aa P ⟨w0,σ0,φ0,M,n,rd,mk⟩ ops (o::rest) ⟨fr,sto⟩ K:=by
 have:=rB (c:=⟨w0,σ0,φ0,M,n,rd,mk⟩) hV (o:=o) (by rw[hdst];exact hd) h rfl (fun i hi=>by rw[he] at hi;simp at hi) ops rest K (by rw[hdst];exact hk)
 rwa [ED hg] at this
theorem bx{d j:Nat}{want b:Bool}(hg:o.guard=some (j,want))(hb:gQ ⟨fr,sto⟩ ops j=some (some b))(hdst:o.dst=some d)(hd:Nat.blt d n=true)
  (h1:b=want→aa P ⟨w0,σ0,φ0,M,n,rd,mk⟩ ops ({ o with guard:=none }::rest) ⟨fr,sto⟩ K) (h2:b=!want→aa P ⟨w0,σ0,φ0,M,n,rd,mk⟩ ops rest ⟨(d,.tup [])::fr,sto⟩ K) :
  aa P ⟨w0,σ0,φ0,M,n,rd,mk⟩ ops (o::rest) ⟨fr,sto⟩ K:=by
 by_cases h:b=want
 ·exact Es hg hb h (h1 h)
 ·have h':b=!want:=by cases b<;>cases want<;>simp at h ⊢
  exact LV hg hb h' hdst hd (h2 h')
theorem Qb{d j:Nat}{want:Bool}(hg:o.guard=some (j,want))(hb:gQ ⟨fr,sto⟩ ops j=some none)(hdst:o.dst=some d)(hd:Nat.blt d n=true)
  (h:aa P ⟨w0,σ0,φ0,M,n,rd,mk⟩ ops rest ⟨(d,.tup [])::fr,sto⟩ K):aa P ⟨w0,σ0,φ0,M,n,rd,mk⟩ ops (o::rest) ⟨fr,sto⟩ K :=
 sC hg hb rfl (by rw[hdst];exact hd) (by rw[hdst];exact h)
theorem oK(id:Nat){d:Nat}{t:TypeId}{x:Operand}{v:AV}{cs:List AC}(ho:o.op=.box t x)(hg:o.guard=none)(hdst:o.dst=some d)(hd:(Nat.blt d n&&(Nat.blt id 1000000&&(!bw sto id&&!br id fr&&!aN id sto)))=true)
  (hx:ev ⟨fr,sto⟩ x=some v) (hc:(match cellsOf v with|some cs'=>bif db id cs' then none else some cs'|none=>none)=some cs)
  (h:aa P ⟨w0,σ0,φ0,M,n,rd,mk⟩ ops rest ⟨(d,.one (.ref id 0))::fr,(id,.box cs)::sto⟩ K):aa P ⟨w0,σ0,φ0,M,n,rd,mk⟩ ops (o::rest) ⟨fr,sto⟩ K:=by
 simp only[WX,Xe] at hd
 split at hc<;>(try (simp at hc;done))
 rename_i cs' hcs
 cases hm:db id cs'<;>simp[hm] at hc
 subst hc
 exact yV ho hg hdst (by simp only[WX];exact⟨hd.1,hd.2.1⟩) hx hcs hd.2.2.1.2 hd.2.2.2 hm h
theorem ae{d:Nat}{fop:Operand}{args:Array Operand}{ats:Array TypeId}{f:FuncId}{caps:List D}{avs avs':List AV}{rav:AV}{rsto:Sto}
  (ho:o.op=.call { callee:=.value fop,args:=args,argTypes:=ats }) (hg:o.guard=none) (hdst:o.dst=some d) (hd:Nat.blt d n=true) (hf:ev ⟨fr,sto⟩ fop=some (.one (.d (.fn f caps))))
  (ha:evL ⟨fr,sto⟩ args.toList=some avs) (hD:c8 avs=true) (hap:(avs++caps.map fun x=>.one (.d x))=avs') (hC:CallA P f avs' [] rav rsto) (hfl:fZ rav=true)
  (h:aa P ⟨w0,σ0,φ0,M,n,rd,mk⟩ ops rest ⟨(d,rav)::fr,sto⟩ K):aa P ⟨w0,σ0,φ0,M,n,rd,mk⟩ ops (o::rest) ⟨fr,sto⟩ K:=by
 subst hap
 exact j9 ho hg (by rw[hdst];exact hd) (Imp.refl _) hf ha hD hC hfl (by rw[hdst];exact h)
theorem RG(h1:lU ops.toList st0 acc.reverse=true)(h2:K st):ak P c ops st0 [] st acc K:=⟨h1,h2⟩
theorem mi{tr:Tr}(hg:o.guard=none)(hl:Loc P c o st tr)(h:ak P c ops st0 rest ⟨bI o.dst tr.v st.fr,dh tr.wr st.sto⟩ (tr::acc) K):ak P c ops st0 (o::rest) st acc K :=
 ⟨true,tr,by unfold gl;rw[hg],fun _=>hl,fun e=>by simp at e,fun e=>by simp at e,h⟩
theorem NI{tr:Tr}{j:Nat}{want b:Bool}(hg:o.guard=some (j,want))(hb:gQ st ops j=some (some b))(hw:b=want)
  (hl:Loc P c o st tr) (h:ak P c ops st0 rest ⟨bI o.dst tr.v st.fr,dh tr.wr st.sto⟩ (tr::acc) K):ak P c ops st0 (o::rest) st acc K :=
 ⟨true,tr,by unfold gl;rw[hg];exact⟨_,hb,by subst hw;simp⟩,fun _=>hl,fun e=>by simp at e,fun e=>by simp at e,h⟩
theorem RH{d j:Nat}{want b:Bool}(hg:o.guard=some (j,want))(hb:gQ st ops j=some (some b))(hw:b=!want)(hdst:o.dst=some d)(hd:Nat.blt d c.n=true)
  (h:ak P c ops st0 rest ⟨(d,.tup [])::st.fr,st.sto⟩ (Tr.none::acc) K):ak P c ops st0 (o::rest) st acc K :=
 ⟨false,Tr.none,by unfold gl;rw[hg];exact⟨_,hb,by subst hw;cases want<;>simp⟩,fun e=>by simp at e,fun _=>rfl,fun _=>by rw[hdst];exact hd,by rw[hdst];exact h⟩
theorem Qc{d j:Nat}{want:Bool}(hg:o.guard=some (j,want))(hb:gQ st ops j=some none)(hdst:o.dst=some d)(hd:Nat.blt d c.n=true)
  (h:ak P c ops st0 rest ⟨(d,.tup [])::st.fr,st.sto⟩ (Tr.none::acc) K):ak P c ops st0 (o::rest) st acc K :=
 ⟨false,Tr.none,by unfold gl;rw[hg];exact⟨_,hb,rfl⟩,fun e=>by simp at e,fun _=>rfl,fun _=>by rw[hdst];exact hd,by rw[hdst];exact h⟩
theorem Ei{j:Nat}{want b:Bool}(hg:o.guard=some (j,want))(hb:gQ st ops j=some (some b))(h1:b=want→ak P c ops st0 (o::rest) st acc K)(h2:b=!want→ak P c ops st0 (o::rest) st acc K):ak P c ops st0 (o::rest) st acc K:=by
 by_cases h:b=want
 ·exact h1 h
 ·exact h2 (by cases b<;>cases want<;>simp at h ⊢)
theorem RI(hV:EnvOk P V){e:Ef}(hd:aX c.n o.dst=true)(h:aR V st o 0=some e):Loc P c o st (e.tr (uK st o.op)):=oE hV hd h rfl
theorem dL{v:AV}(hv:cL V.T st o.op=some v):aR V st o 0=some ⟨v,[],[]⟩:=by
 simp only[aR,dg,hv]
theorem DN{v:AV}(hp:E9 o.op=true)(hv:cL V.T st o.op=some v):aR V st o 0=some ⟨v,[],[]⟩:=dL hv
theorem pJ{op:BinOp}{t ty:TypeId}{x y:Operand}{k k':IntKind}{a b z:Int}(ho:o.op=.binOp op t x y ty)(hop:Er op=true)
  (hx:ev st x=some (.one (.d (.int k a)))) (hy:ev st y=some (.one (.d (.int k' b)))) (hk:kEq k k'=true) (hz:k.wrap (LU op a b)=z):aR V st o 0=some ⟨.one (.d (.int k z)),[],[]⟩:=by
 refine dL ?_
 rw[ho]
 simp only[cL,hx,hy,qE,hk,Yf]
 cases op<;>simp[Er] at hop<;>simp only[kK,Ye,ve,← hz,LU]
theorem xc{x y z:Operand}{b:Bool}{v:AV}(ho:o.op=.pick x y z)(hx:ev st x=some (.one (.d (.bool b))))(hv:ev st (if b then y else z)=some v):aR V st o 0=some ⟨v,[],[]⟩:=by
 simp only[aR,dg,cL,ho,df,hx,hv]
theorem uq{x y z:Operand}{b:Bool}{v:AV}(ho:o.op=.pick x y z)(hx:ev st x=some (.one (.d (.bool b))))(hb:b=true)(hv:ev st y=some v):aR V st o 0=some ⟨v,[],[]⟩:=xc ho hx (by rw[hb];exact hv)
theorem ur{x y z:Operand}{b:Bool}{v:AV}(ho:o.op=.pick x y z)(hx:ev st x=some (.one (.d (.bool b))))(hb:b=false)(hv:ev st z=some v):aR V st o 0=some ⟨v,[],[]⟩:=xc ho hx (by rw[hb];exact hv)
theorem d_e(hV:EnvOk P V){d:Nat}{v:AV}(hg:o.guard=none)(hdst:o.dst=some d)(hd:Nat.blt d c.n=true)(h:aR V ⟨fr,sto⟩ o 0=some ⟨v,[],[]⟩)
  (k:ak P c ops st0 rest ⟨(d,v)::fr,sto⟩ (⟨v,[],uK ⟨fr,sto⟩ o.op,[]⟩::acc) K):ak P c ops st0 (o::rest) ⟨fr,sto⟩ acc K :=
 mi hg (RI hV (by rw[hdst];exact hd) h) (by rw[hdst];exact k)
theorem d_l{d:Nat}{v:AV}(hg:o.guard=none)(hdst:o.dst=some d)(hl:Loc P c o ⟨fr,sto⟩ ⟨v,[],[],[]⟩)
  (k:ak P c ops st0 rest ⟨(d,v)::fr,sto⟩ (⟨v,[],[],[]⟩::acc) K):ak P c ops st0 (o::rest) ⟨fr,sto⟩ acc K :=
 mi hg hl (by rw[hdst];exact k)
theorem NJ{j:Nat}{want b:Bool}(hg:o.guard=some (j,want))(hb:gQ st ops j=some (some b))(hw:b=want)
  (h:ak P c ops st0 ({ o with guard:=none }::rest) st acc K):ak P c ops st0 (o::rest) st acc K:=by
 obtain⟨run,tr,h1,h2,h3,h4,h5⟩:=h
 have hr:run=true:=h1
 subst hr
 exact NI hg hb hw (h2 rfl) h5
theorem dr{k b k' b':Nat}{t e:TypeId}{z:List D}{x y:Operand}{xs:List (List D)}{ik:IntKind}{i:Int}{el:List D}
  (ho:o.op=.indexAddr t x y) (ht:bc V.T t=some (e,k',b',z)) (hx:ev st x=some (.one (.d (.sl k b xs)))) (hk:Nat.beq k k'=true)
  (hy:ev st y=some (.one (.d (.int ik i)))) (hi:0≤i) (hel:xs[i.toNat]?=some el):aR V st o 0=some ⟨.one (.d (.ptr el)),[],[]⟩:=by
 simp only[aR,dg,cL,ho,df,hx,hy,qY,ht,hk,hi,decide_true,XV,Yf,im,hel]
theorem Cw{t:TypeId}{x y:Operand}{ik:IntKind}{i:Int}{s:List UInt8}{b:UInt8}
  (ho:o.op=.index t x y) (ht:iq V.T t=true) (hx:ev st x=some (.one (.d (.str s))))
  (hy:ev st y=some (.one (.d (.int ik i)))) (hi:0≤i) (hb:s[i.toNat]?=some b):aR V st o 0=some ⟨.one (.d (.int .u8 (b.toNat:Int))),[],[]⟩:=by
 simp only[aR,dg,cL,ho,df,hx,hy,tK,ht,hi,decide_true,XV,Yf,im,hb]
theorem bM{fop:Operand}{args:Array Operand}{ats:Array TypeId}{f:FuncId}{caps:List D}{avs avs':List AV}{rav:AV}{rsto:Sto}
  (ho:o.op=.call { callee:=.value fop,args:=args,argTypes:=ats }) (hd:aX c.n o.dst=true) (hf:ev st fop=some (.one (.d (.fn f caps))))
  (ha:evL st args.toList=some avs) (hD:c8 avs=true) (hap:(avs++caps.map fun x=>.one (.d x))=avs') (hC:CallA P f avs' [] rav rsto) (hfl:fZ rav=true):Loc P c o st ⟨rav,[],[],[]⟩:=by
 subst hap
 intro st2 hs hri hnew opsA rest K h
 have he:∀ {x:Operand},x∈o.op.operands.toList→ev st2 x=ev st x:=fun hx=>fJ hs hx
 rw[ho] at he
 have ha2:evL st2 args.toList=some avs:=(kn fun x hx=>he (by simp[Op.operands,Call.operands];exact .inr (by simpa using hx))).trans ha
 exact j9 (o:={ o with guard:=none }) ho rfl hd (Imp.refl _) ((he (by simp[Op.operands,Call.operands])).trans hf) ha2 hD hC hfl h
theorem kP{t ty:TypeId}{x y:Operand}{k k':IntKind}{a b z:Int}(ho:o.op=.binOp .add t x y ty)
  (hx:ev st x=some (.one (.d (.int k a)))) (hy:ev st y=some (.one (.d (.int k' b)))) (hk:kEq k k'=true) (hz:k.wrap (a+b)=z):aR V st o 0=some ⟨.one (.d (.int k z)),[],[]⟩:=pJ ho rfl hx hy hk hz
theorem oZ{t ty:TypeId}{x y:Operand}{k k':IntKind}{a b z:Int}(ho:o.op=.binOp .sub t x y ty)
  (hx:ev st x=some (.one (.d (.int k a)))) (hy:ev st y=some (.one (.d (.int k' b)))) (hk:kEq k k'=true) (hz:k.wrap (a-b)=z):aR V st o 0=some ⟨.one (.d (.int k z)),[],[]⟩:=pJ ho rfl hx hy hk hz
theorem oY{t ty:TypeId}{x y:Operand}{k k':IntKind}{a b z:Int}(ho:o.op=.binOp .mul t x y ty)
  (hx:ev st x=some (.one (.d (.int k a)))) (hy:ev st y=some (.one (.d (.int k' b)))) (hk:kEq k k'=true) (hz:k.wrap (a*b)=z):aR V st o 0=some ⟨.one (.d (.int k z)),[],[]⟩:=pJ ho rfl hx hy hk hz
theorem zy{t ty:TypeId}{x y:Operand}{k k':IntKind}{a b:Int}(ho:o.op=.binOp .rem t x y ty)
  (hx:ev st x=some (.one (.d (.int k a)))) (hy:ev st y=some (.one (.d (.int k' b)))) (hk:kEq k k'=true) (h0:¬ b=0):aR V st o 0=some ⟨.one (.d (.int k (a.tmod b))),[],[]⟩:=by
 simp only[aR,dg,cL,ho,hx,hy,qE,kK,Ye,hk,Yf,ve,df,lv,jI,yn,h0,decide_false,Bool.not_false,XV]
 cases o.dst<;>simp[iE]
theorem Iu{t ty:TypeId}{x y:Operand}{k k':IntKind}{a b z:Int}(ho:o.op=.binOp .quo t x y ty)
  (hx:ev st x=some (.one (.d (.int k a)))) (hy:ev st y=some (.one (.d (.int k' b)))) (hk:kEq k k'=true) (h0:¬ b=0) (hz:k.wrap (a.tdiv b)=z):aR V st o 0=some ⟨.one (.d (.int k z)),[],[]⟩:=by
 subst hz
 simp only[aR,dg,cL,ho,hx,hy,qE,kK,Ye,hk,Yf,ve,df,lv,jI,yn,h0,decide_false,Bool.not_false,XV]
 cases o.dst<;>simp[iE]
theorem tL{z:Int}(h1:0≤z)(h2:z≤18446744073709551615):IntKind.u64.wrap z=z :=
 xU ⟨by simp[IntKind.min,IntKind.signed];exact h1,by simp[IntKind.max,IntKind.signed,IntKind.bits];exact h2⟩
theorem NK{z:Int}(h1:0≤z)(h2:z≤4294967295):IntKind.u32.wrap z=z :=
 xU ⟨by simp[IntKind.min,IntKind.signed];exact h1,by simp[IntKind.max,IntKind.signed,IntKind.bits];exact h2⟩
def Mg(T:Tab)(t:TypeId):Bool:=match look T t with|some _=>true|none=>false
theorem IW{t:TypeId}{x:Operand}{k:IntKind}{a z:Int}(ho:o.op=.unOp .neg t x)
  (hx:ev st x=some (.one (.d (.int k a)))) (hz:k.wrap (0-a)=z):aR V st o 0=some ⟨.one (.d (.int k z)),[],[]⟩:=by
 subst hz
 exact dL (by simp only[ho,cL,hx,unF])
def IX(T:Tab)(t:TypeId)(k:IntKind):Bool:=match look T t with|some ⟨.int k',_,_,_⟩=>kEq k' k|_=>false
theorem rJ{src dst:TypeId}{x:Operand}{k k':IntKind}{a z:Int}(ho:o.op=.convert src dst x)
  (hx:ev st x=some (.one (.d (.int k a)))) (hs:Mg V.T src=true) (hd:IX V.T dst k'=true) (hz:k'.wrap a=z):aR V st o 0=some ⟨.one (.d (.int k' z)),[],[]⟩:=by
 subst hz
 refine dL ?_
 unfold Mg at hs
 unfold IX at hd
 split at hs<;>(try (simp at hs;done))
 rename_i td hs'
 split at hd<;>(try (simp at hd;done))
 rename_i k'' h1 h2 h3 hd'
 obtain rfl:=gR hd
 simp only[ho,cL,hx,Ak,hs',hd']
theorem NL(hT:bg P T){d:Nat}{src dst:TypeId}{x:Operand}{s:List UInt8}(ho:o.op=.convert src dst x)(hg:o.guard=none)(hdst:o.dst=some d)(hd:Nat.blt d n=true)(hb:(iq T src&&ot T dst)=true)
  (hx:ev ⟨fr,sto⟩ x=some (.one (.d (.str s)))) (hl:s.length≤1000000) (h:aa P ⟨w0,σ0,φ0,M,n,rd,mk⟩ ops rest ⟨(d,.one (.d (qt s)))::fr,sto⟩ K):aa P ⟨w0,σ0,φ0,M,n,rd,mk⟩ ops (o::rest) ⟨fr,sto⟩ K :=
 uu hT ho hg (by rw[hdst];exact hd) hb hx (by omega) (by rw[hdst];exact h)
theorem s_e(hV:EnvOk P V){d:Nat}{v:AV}(hg:o.guard=none)(hdst:o.dst=some d)(hd:Nat.blt d n=true)(h:aR V ⟨fr,sto⟩ o 0=some ⟨v,[],[]⟩)
  (hk:aa P ⟨w0,σ0,φ0,M,n,rd,mk⟩ ops rest ⟨(d,v)::fr,sto⟩ K):aa P ⟨w0,σ0,φ0,M,n,rd,mk⟩ ops (o::rest) ⟨fr,sto⟩ K :=
 Cv hV (dst:=some d) hg hdst hd h rfl hk
theorem kH(hT:bg P T)(id:Nat){d:Nat}{t:TypeId}{td:TD}(ho:o.op=.alloc t)(hg:o.guard=none)(hdst:o.dst=some d)(hd:(Nat.blt d n&&(Nat.blt id 1000000&&(!bw sto id&&!br id fr&&!aN id sto)))=true)(ht:look T t=some td)
  (h:aa P ⟨w0,σ0,φ0,M,n,rd,mk⟩ ops rest ⟨(d,.one (.ref id 0))::fr,(id,.box (td.zero.map .d))::sto⟩ K):aa P ⟨w0,σ0,φ0,M,n,rd,mk⟩ ops (o::rest) ⟨fr,sto⟩ K:=by
 simp only[WX,Xe] at hd
 exact tZ hT ho hg hdst (by simp only[WX];exact⟨hd.1,hd.2.1⟩) ht hd.2.2.1.2 hd.2.2.2 h
theorem jJ(hV:EnvOk P V){i:Nat}{ob:AObj}(hg:o.guard=none)(hdst:o.dst=none)(h:aR V ⟨fr,sto⟩ o 0=some ⟨.any,[(i,some ob)],[]⟩)(hk:aa P ⟨w0,σ0,φ0,M,n,rd,mk⟩ ops rest ⟨fr,cD i ob sto⟩ K) :
  aa P ⟨w0,σ0,φ0,M,n,rd,mk⟩ ops (o::rest) ⟨fr,sto⟩ K:=Cv hV (dst:=none) hg hdst rfl h rfl hk
theorem RJ(hV:EnvOk P V){d f:Nat}{caps:Array Operand}{v:AV}{wr:List (Nat×Option AObj)}(ho:o.op=.makeFunc (.func f) ⟨[]⟩ caps)(hg:o.guard=none)(hdst:o.dst=some d)(hd:Nat.blt d n=true)(h:aR V ⟨fr,sto⟩ o 0=some ⟨v,wr,[]⟩)
  (hk:aa P ⟨w0,σ0,φ0,M,n,rd,mk⟩ ops rest ⟨(d,v)::fr,dh wr sto⟩ K):aa P ⟨w0,σ0,φ0,M,n,rd,mk⟩ ops (o::rest) ⟨fr,sto⟩ K:=Cv hV (dst:=some d) hg hdst hd h rfl hk
theorem Cx{x:Operand}{p q:Code}{Q:Exit→St→Prop}(hx:ev st x=some (.one (.d (.bool true))))(ht:OkC P c p st Q):OkC P c (.cond x p q) st Q:=aj hx (fun _=>ht) (fun h=>by simp at h)
theorem Cy{x:Operand}{p q:Code}{Q:Exit→St→Prop}(hx:ev st x=some (.one (.d (.bool false))))(ht:OkC P c q st Q):OkC P c (.cond x p q) st Q:=aj hx (fun h=>by simp at h) (fun _=>ht)
theorem IY{x:Operand}{p q:Code}{Q:Exit→St→Prop}{b:Bool}(hx:ev st x=some (.one (.d (.bool b))))(hb:b=true)(ht:OkC P c p st Q):OkC P c (.cond x p q) st Q:=Cx (by rw[hx,hb]) ht
theorem IZ{x:Operand}{p q:Code}{Q:Exit→St→Prop}{b:Bool}(hx:ev st x=some (.one (.d (.bool b))))(hb:b=false)(ht:OkC P c q st Q):OkC P c (.cond x p q) st Q:=Cy (by rw[hx,hb]) ht
theorem ko{fr fr':List (Nat×AV)}(h:SubL fr fr'):Imp c ⟨fr,sto⟩ ⟨fr',sto⟩:=fun a w σ φ hr=>by
 exact⟨σ,φ,⟨hr.le,hr.fresh,hr.inv,hr.mine,fun s v hv=>hr.slot s v (h.look hv),hr.defers,hr.size,hr.fra,hr.pin⟩⟩
theorem aW{α:Type}{fr:List (Nat×α)}:SubL fr []:=trivial
theorem ab{α:Type}{fr r:List (Nat×α)}{s:Nat}{v:α}(h:look fr s=some v)(ht:SubL fr r):SubL fr ((s,v)::r):=⟨h,ht⟩
theorem q1Q{α:Type}{fr:List (Nat×α)}{s0:Nat}{v0:α}(h0:look fr s0=some v0):SubL fr [(s0,v0)]:=ab h0 aW
theorem q2Q{α:Type}{fr:List (Nat×α)}{s0 s1:Nat}{v0 v1:α}(h0:look fr s0=some v0)(h1:look fr s1=some v1):SubL fr [(s0,v0),(s1,v1)]:=ab h0 (ab h1 aW)
theorem q3Q{α:Type}{fr:List (Nat×α)}{s0 s1 s2:Nat}{v0 v1 v2:α}(h0:look fr s0=some v0)(h1:look fr s1=some v1)(h2:look fr s2=some v2):SubL fr [(s0,v0),(s1,v1),(s2,v2)]:=ab h0 (ab h1 (ab h2 aW))
theorem q4Q{α:Type}{fr:List (Nat×α)}{s0 s1 s2 s3:Nat}{v0 v1 v2 v3:α}(h0:look fr s0=some v0)(h1:look fr s1=some v1)(h2:look fr s2=some v2)(h3:look fr s3=some v3):SubL fr [(s0,v0),(s1,v1),(s2,v2),(s3,v3)]:=ab h0 (ab h1 (ab h2 (ab h3 aW)))
theorem q5Q{α:Type}{fr:List (Nat×α)}{s0 s1 s2 s3 s4:Nat}{v0 v1 v2 v3 v4:α}(h0:look fr s0=some v0)(h1:look fr s1=some v1)(h2:look fr s2=some v2)(h3:look fr s3=some v3)(h4:look fr s4=some v4):SubL fr [(s0,v0),(s1,v1),(s2,v2),(s3,v3),(s4,v4)]:=ab h0 (ab h1 (ab h2 (ab h3 (ab h4 aW))))
theorem q6Q{α:Type}{fr:List (Nat×α)}{s0 s1 s2 s3 s4 s5:Nat}{v0 v1 v2 v3 v4 v5:α}(h0:look fr s0=some v0)(h1:look fr s1=some v1)(h2:look fr s2=some v2)(h3:look fr s3=some v3)(h4:look fr s4=some v4)(h5:look fr s5=some v5):SubL fr [(s0,v0),(s1,v1),(s2,v2),(s3,v3),(s4,v4),(s5,v5)]:=ab h0 (ab h1 (ab h2 (ab h3 (ab h4 (ab h5 aW)))))
theorem q7Q{α:Type}{fr:List (Nat×α)}{s0 s1 s2 s3 s4 s5 s6:Nat}{v0 v1 v2 v3 v4 v5 v6:α}(h0:look fr s0=some v0)(h1:look fr s1=some v1)(h2:look fr s2=some v2)(h3:look fr s3=some v3)(h4:look fr s4=some v4)(h5:look fr s5=some v5)(h6:look fr s6=some v6):SubL fr [(s0,v0),(s1,v1),(s2,v2),(s3,v3),(s4,v4),(s5,v5),(s6,v6)]:=ab h0 (ab h1 (ab h2 (ab h3 (ab h4 (ab h5 (ab h6 aW))))))
theorem q8Q{α:Type}{fr:List (Nat×α)}{s0 s1 s2 s3 s4 s5 s6 s7:Nat}{v0 v1 v2 v3 v4 v5 v6 v7:α}(h0:look fr s0=some v0)(h1:look fr s1=some v1)(h2:look fr s2=some v2)(h3:look fr s3=some v3)(h4:look fr s4=some v4)(h5:look fr s5=some v5)(h6:look fr s6=some v6)(h7:look fr s7=some v7):SubL fr [(s0,v0),(s1,v1),(s2,v2),(s3,v3),(s4,v4),(s5,v5),(s6,v6),(s7,v7)]:=ab h0 (ab h1 (ab h2 (ab h3 (ab h4 (ab h5 (ab h6 (ab h7 aW)))))))
theorem q9Q{α:Type}{fr:List (Nat×α)}{s0 s1 s2 s3 s4 s5 s6 s7 s8:Nat}{v0 v1 v2 v3 v4 v5 v6 v7 v8:α}(h0:look fr s0=some v0)(h1:look fr s1=some v1)(h2:look fr s2=some v2)(h3:look fr s3=some v3)(h4:look fr s4=some v4)(h5:look fr s5=some v5)(h6:look fr s6=some v6)(h7:look fr s7=some v7)(h8:look fr s8=some v8):SubL fr [(s0,v0),(s1,v1),(s2,v2),(s3,v3),(s4,v4),(s5,v5),(s6,v6),(s7,v7),(s8,v8)]:=ab h0 (ab h1 (ab h2 (ab h3 (ab h4 (ab h5 (ab h6 (ab h7 (ab h8 aW))))))))
theorem SU{α:Type}{fr:List (Nat×α)}{s0 s1 s2 s3 s4 s5 s6 s7 s8 s9:Nat}{v0 v1 v2 v3 v4 v5 v6 v7 v8 v9:α}(h0:look fr s0=some v0)(h1:look fr s1=some v1)(h2:look fr s2=some v2)(h3:look fr s3=some v3)(h4:look fr s4=some v4)(h5:look fr s5=some v5)(h6:look fr s6=some v6)(h7:look fr s7=some v7)(h8:look fr s8=some v8)(h9:look fr s9=some v9):SubL fr [(s0,v0),(s1,v1),(s2,v2),(s3,v3),(s4,v4),(s5,v5),(s6,v6),(s7,v7),(s8,v8),(s9,v9)]:=ab h0 (ab h1 (ab h2 (ab h3 (ab h4 (ab h5 (ab h6 (ab h7 (ab h8 (ab h9 aW)))))))))
theorem Qd{α:Type}{fr:List (Nat×α)}{s0 s1 s2 s3 s4 s5 s6 s7 s8 s9 s10:Nat}{v0 v1 v2 v3 v4 v5 v6 v7 v8 v9 v10:α}(h0:look fr s0=some v0)(h1:look fr s1=some v1)(h2:look fr s2=some v2)(h3:look fr s3=some v3)(h4:look fr s4=some v4)(h5:look fr s5=some v5)(h6:look fr s6=some v6)(h7:look fr s7=some v7)(h8:look fr s8=some v8)(h9:look fr s9=some v9)(h10:look fr s10=some v10):SubL fr [(s0,v0),(s1,v1),(s2,v2),(s3,v3),(s4,v4),(s5,v5),(s6,v6),(s7,v7),(s8,v8),(s9,v9),(s10,v10)]:=ab h0 (ab h1 (ab h2 (ab h3 (ab h4 (ab h5 (ab h6 (ab h7 (ab h8 (ab h9 (ab h10 aW))))))))))
theorem SS{α:Type}{fr:List (Nat×α)}{s0 s1 s2 s3 s4 s5 s6 s7 s8 s9 s10 s11:Nat}{v0 v1 v2 v3 v4 v5 v6 v7 v8 v9 v10 v11:α}(h0:look fr s0=some v0)(h1:look fr s1=some v1)(h2:look fr s2=some v2)(h3:look fr s3=some v3)(h4:look fr s4=some v4)(h5:look fr s5=some v5)(h6:look fr s6=some v6)(h7:look fr s7=some v7)(h8:look fr s8=some v8)(h9:look fr s9=some v9)(h10:look fr s10=some v10)(h11:look fr s11=some v11):SubL fr [(s0,v0),(s1,v1),(s2,v2),(s3,v3),(s4,v4),(s5,v5),(s6,v6),(s7,v7),(s8,v8),(s9,v9),(s10,v10),(s11,v11)]:=ab h0 (ab h1 (ab h2 (ab h3 (ab h4 (ab h5 (ab h6 (ab h7 (ab h8 (ab h9 (ab h10 (ab h11 aW)))))))))))
theorem JX{α:Type}{fr:List (Nat×α)}{s0 s1 s2 s3 s4 s5 s6 s7 s8 s9 s10 s11 s12:Nat}{v0 v1 v2 v3 v4 v5 v6 v7 v8 v9 v10 v11 v12:α}(h0:look fr s0=some v0)(h1:look fr s1=some v1)(h2:look fr s2=some v2)(h3:look fr s3=some v3)(h4:look fr s4=some v4)(h5:look fr s5=some v5)(h6:look fr s6=some v6)(h7:look fr s7=some v7)(h8:look fr s8=some v8)(h9:look fr s9=some v9)(h10:look fr s10=some v10)(h11:look fr s11=some v11)(h12:look fr s12=some v12):SubL fr [(s0,v0),(s1,v1),(s2,v2),(s3,v3),(s4,v4),(s5,v5),(s6,v6),(s7,v7),(s8,v8),(s9,v9),(s10,v10),(s11,v11),(s12,v12)]:=ab h0 (ab h1 (ab h2 (ab h3 (ab h4 (ab h5 (ab h6 (ab h7 (ab h8 (ab h9 (ab h10 (ab h11 (ab h12 aW))))))))))))
theorem q14Q{α:Type}{fr:List (Nat×α)}{s0 s1 s2 s3 s4 s5 s6 s7 s8 s9 s10 s11 s12 s13:Nat}{v0 v1 v2 v3 v4 v5 v6 v7 v8 v9 v10 v11 v12 v13:α}(h0:look fr s0=some v0)(h1:look fr s1=some v1)(h2:look fr s2=some v2)(h3:look fr s3=some v3)(h4:look fr s4=some v4)(h5:look fr s5=some v5)(h6:look fr s6=some v6)(h7:look fr s7=some v7)(h8:look fr s8=some v8)(h9:look fr s9=some v9)(h10:look fr s10=some v10)(h11:look fr s11=some v11)(h12:look fr s12=some v12)(h13:look fr s13=some v13):SubL fr [(s0,v0),(s1,v1),(s2,v2),(s3,v3),(s4,v4),(s5,v5),(s6,v6),(s7,v7),(s8,v8),(s9,v9),(s10,v10),(s11,v11),(s12,v12),(s13,v13)]:=ab h0 (ab h1 (ab h2 (ab h3 (ab h4 (ab h5 (ab h6 (ab h7 (ab h8 (ab h9 (ab h10 (ab h11 (ab h12 (ab h13 aW)))))))))))))
theorem q15Q{α:Type}{fr:List (Nat×α)}{s0 s1 s2 s3 s4 s5 s6 s7 s8 s9 s10 s11 s12 s13 s14:Nat}{v0 v1 v2 v3 v4 v5 v6 v7 v8 v9 v10 v11 v12 v13 v14:α}(h0:look fr s0=some v0)(h1:look fr s1=some v1)(h2:look fr s2=some v2)(h3:look fr s3=some v3)(h4:look fr s4=some v4)(h5:look fr s5=some v5)(h6:look fr s6=some v6)(h7:look fr s7=some v7)(h8:look fr s8=some v8)(h9:look fr s9=some v9)(h10:look fr s10=some v10)(h11:look fr s11=some v11)(h12:look fr s12=some v12)(h13:look fr s13=some v13)(h14:look fr s14=some v14):SubL fr [(s0,v0),(s1,v1),(s2,v2),(s3,v3),(s4,v4),(s5,v5),(s6,v6),(s7,v7),(s8,v8),(s9,v9),(s10,v10),(s11,v11),(s12,v12),(s13,v13),(s14,v14)]:=ab h0 (ab h1 (ab h2 (ab h3 (ab h4 (ab h5 (ab h6 (ab h7 (ab h8 (ab h9 (ab h10 (ab h11 (ab h12 (ab h13 (ab h14 aW))))))))))))))
theorem Qe{α:Type}{fr:List (Nat×α)}{s0 s1 s2 s3 s4 s5 s6 s7 s8 s9 s10 s11 s12 s13 s14 s15:Nat}{v0 v1 v2 v3 v4 v5 v6 v7 v8 v9 v10 v11 v12 v13 v14 v15:α}(h0:look fr s0=some v0)(h1:look fr s1=some v1)(h2:look fr s2=some v2)(h3:look fr s3=some v3)(h4:look fr s4=some v4)(h5:look fr s5=some v5)(h6:look fr s6=some v6)(h7:look fr s7=some v7)(h8:look fr s8=some v8)(h9:look fr s9=some v9)(h10:look fr s10=some v10)(h11:look fr s11=some v11)(h12:look fr s12=some v12)(h13:look fr s13=some v13)(h14:look fr s14=some v14)(h15:look fr s15=some v15):SubL fr [(s0,v0),(s1,v1),(s2,v2),(s3,v3),(s4,v4),(s5,v5),(s6,v6),(s7,v7),(s8,v8),(s9,v9),(s10,v10),(s11,v11),(s12,v12),(s13,v13),(s14,v14),(s15,v15)]:=ab h0 (ab h1 (ab h2 (ab h3 (ab h4 (ab h5 (ab h6 (ab h7 (ab h8 (ab h9 (ab h10 (ab h11 (ab h12 (ab h13 (ab h14 (ab h15 aW)))))))))))))))
theorem a0A:type_of% @decide_eq_true_eq:=@decide_eq_true_eq
theorem a1A:type_of% @decide_eq_false_iff_not:=@decide_eq_false_iff_not
theorem a2A:type_of% @Bool.not_eq_true':=@Bool.not_eq_true'
theorem a3A:type_of% @Bool.not_true:=@Bool.not_true
theorem a4A:type_of% @Bool.not_false:=@Bool.not_false
theorem a5A:type_of% @List.length_map:=@List.length_map
theorem a6A:type_of% @List.length_set:=@List.length_set
theorem a7A:type_of% @bne_iff_ne:=@bne_iff_ne
theorem a8A:type_of% @ne_eq:=@ne_eq
theorem a9A:type_of% @beq_iff_eq:=@beq_iff_eq
theorem O4:type_of% @bne_eq_false_iff_eq:=@bne_eq_false_iff_eq
theorem O5:type_of% @beq_eq_false_iff_ne:=@beq_eq_false_iff_ne
theorem yq:type_of% @List.length_cons:=@List.length_cons
theorem yr:type_of% @List.length_nil:=@List.length_nil
theorem yt:type_of% @List.length_append:=@List.length_append
theorem yu:type_of% @List.length_take:=@List.length_take
theorem yw:type_of% @List.length_drop:=@List.length_drop
theorem vc:type_of% @Int.toNat_natCast:=@Int.toNat_natCast
def kq:Code→Nat
 | .region id _ _=>id
 | .seq x _=>kq x
 | .block _ x=>kq x
 | .loop x=>kq x
 | _=>0
theorem cu{α:Type}{body:Code}{Q:Exit→St→Prop}(rg:Nat)(hrg:kq body=rg)(kept:List (Nat×AV))(hk:SubL fr kept)(L:α→List (Nat×AV))(Inv:α→Prop)(μ:α→Nat)(x0:α)(hL:SubL fr (L x0))(h0:Inv x0)
  (hround:∀ x,Inv x→OkC P c body ⟨L x++kept,sto⟩ (av (fun st'=>∃ y,Inv y∧μ y<μ x∧SubL st'.sto sto∧SubL st'.fr (L y)∧SubL st'.fr kept) Q)):OkC P c (.loop body) ⟨fr,sto⟩ Q:=by
 have hap:∀ {f a b:List (Nat×AV)},SubL f a→SubL f b→SubL f (a++b):=by
  intro f a b h1 h2
  induction a with
  | nil=>exact h2
  | cons p r ih=>exact⟨h1.1,ih h1.2⟩
 refine bm (st':=⟨L x0++kept,sto⟩) (ko (hap hL hk)) ?_
 refine pQ (fun n st=>∃ x,Inv x∧n=μ x∧st=⟨L x++kept,sto⟩) (μ x0) ⟨x0,h0,rfl,rfl⟩ ?_
 rintro n st ⟨x,hx,rfl,rfl⟩
 refine kF (hround x hx) fun e st h=>?_
 cases e with
 | normal =>
   obtain⟨y,hy,hlt,hs,h1,h2⟩:=h
   obtain⟨f,s⟩:=st
   simp only at hs h1 h2
   exact⟨μ y,_,hlt,⟨y,hy,rfl,rfl⟩,Imp.trans (ko (hap h1 h2)) (fun a w σ φ hr=>⟨σ,φ,hr.dropTo fun i e h=>hs.look h⟩)⟩
 | _=>exact h
theorem HN{f:St→Prop}{Q:Exit→St→Prop}(h:f st):av f Q .normal st:=h
theorem Qf{f:St→Prop}{Q:Exit→St→Prop}(h:Q .ret st):av f Q .ret st:=h
theorem Qg{f:St→Prop}{Q:Exit→St→Prop}{i:Nat}(h:Q (.exit i) st):av f Q (.exit i) st:=h
theorem NM{i:Nat}{Q:Exit→St→Prop}(h:Q .normal st):aq i Q .normal st:=h
theorem NO{i:Nat}{Q:Exit→St→Prop}(h:Q .ret st):aq i Q .ret st:=h
theorem Eh{i j:Nat}{Q:Exit→St→Prop}(hb:Nat.beq j i=true)(h:Q .normal st):aq i Q (.exit j) st:=by simp only[aq,hb,Yf];exact h
theorem NP{i j:Nat}{Q:Exit→St→Prop}(hb:Nat.beq j i=false)(h:Q (.exit j) st):aq i Q (.exit j) st:=by simp only[aq,hb,Ye];exact h
def OkD(d:D):Prop:=∃ σ v,Rep σ d v
theorem OkD.str{s:List UInt8}(h:OkD (.str s)):s.length<281474976710656:=by
 obtain⟨σ,v,h⟩:=h
 cases h with
 | str h=>simpa using h
theorem OkD.int{k:IntKind}{z:Int}(h:OkD (.int k z)):inR k z:=by
 obtain⟨σ,v,h⟩:=h
 cases h with
 | int h=>exact h
theorem OkD.i64{z:Int}(h:OkD (.int .i64 z)):-9223372036854775808≤z∧z≤9223372036854775807:=by
 have:=h.int
 simpa[inR,IntKind.min,IntKind.max,IntKind.signed,IntKind.bits] using this
theorem OkD.sl{k b:Nat}{xs:List (List D)}(h:OkD (.sl k b xs)):xs.length<281474976710656∧xs.length*b≤140737488355328∧∀ x∈xs,x.length=k∧∀ d∈x,OkD d:=by
 obtain⟨σ,v,h⟩:=h
 cases h with
 | sl vs hc h48 hb hk hA hh =>
   refine⟨by simpa using h48,by simpa using hb,fun x hx=>⟨hk x hx,fun d hd=>?_⟩⟩
   obtain⟨i,hi⟩:=List.getElem?_of_mem hx
   obtain⟨j,hj⟩:=List.getElem?_of_mem hd
   exact⟨σ,_,hh i j x d hi hj⟩
def KL:AC→Prop
 | .d d=>OkD d
 | _=>True
def VF:AV→Prop
 | .one c=>KL c
 | .agg cs=>∀ c∈cs,KL c
 | _=>True
def GM:List AV→Prop
 | []=>True
 | v::r=>VF v∧GM r
theorem Cz{σ:Sig}{φ:Pl}{sto:Sto}:∀ {avs:List AV} {vs:List Value},All2 (RepV σ φ sto) avs vs→GM avs
 | [],[],_=>trivial
 | v::r,u::us,h=>by
   refine⟨?_,Cz h.2⟩
   have h1:=h.1
   have key:∀ {x:AC} {u:Value},RepC σ φ sto x u→KL x:=by
    intro x u h
    cases x with
    | d d=>exact⟨σ,_,RepC.d_inv h⟩
    | _=>trivial
   cases v with
   | one x=>exact key h1
   | agg cs =>
     obtain⟨vs,rfl,h2⟩:=h1
     intro x hx
     obtain⟨j,hj⟩:=List.getElem?_of_mem hx
     obtain⟨w,_,hr⟩:=h2.get hj
     exact key hr
   | _=>trivial
 | [],_::_,h=>h.elim
 | _::_,[],h=>h.elim
theorem enter(hT:bg P T){f:FuncId}{fn:Func}{code:Code}{args:List AV}{sto:Sto}{rav:AV}{rsto:Sto}(hf:P.funcs[f]?=some fn)(hb:fn.body=some code)
  (hname : (fn.name == "runtime.NumGoroutine") = false) (hn : Nat.ble args.length fn.ntmps = true)
  (h:GM args→∀ (w0:World) (σ0:Sig) (φ0:Pl) (M:Nat→Prop),OkC P ⟨w0,σ0,φ0,M,fn.ntmps,none,[]⟩ code ⟨mW 0 args,sto⟩ (aI T fn.results.toList rav rsto)):CallA P f args sto rav rsto :=
 ⟨⟨fn,hf,hname,by rw[hb];rfl⟩,fun w σ φ vs hinv hargs=>(uv hT hf hb hname hn (h (Cz hargs))).run w σ φ vs hinv hargs⟩
def at_{α:Type}[Inhabited α](l:List α)(i:Nat):α:=l.getD i default
theorem ea{α:Type}[Inhabited α]{l:List α}{i:Nat}(h:i<l.length):l[i]?=some (at_ l i):=by simp[at_,Xi,h]
theorem dZ{α β:Type}[Inhabited α]{f:α→β}{l:List α}{i:Nat}(h:i<l.length):(l.map f)[i]?=some (f (at_ l i)):=by simp[ea h]
theorem au{α:Type}[Inhabited α]{l:List α}{i:Nat}(h:i<l.length):l.drop i=at_ l i::l.drop (i+1):=by
 rw[List.drop_eq_getElem_cons h]
 have:=ea h
 rw[Xf h] at this
 rw[Option.some.inj this]
theorem ez{α:Type}[Inhabited α]{l:List α}{i:Nat}(h:i<l.length):l.take (i+1)=l.take i++[at_ l i]:=by
 rw[List.take_add_one,ea h];rfl
theorem aU{α:Type}[Inhabited α]{l:List α}{i:Nat}(h:i<l.length):at_ l i∈l:=List.mem_of_getElem? (ea h)
theorem A8{α:Type}[Inhabited α]{l:List α}{n i:Nat}(h:i<n):at_ (l.take n) i=at_ l i:=by
 simp only[at_,Xi,XH,h,if_true]
theorem bj{α β:Type}[Inhabited α][Inhabited β]{f:α→β}{l:List α}{i:Nat}(h:i<l.length):at_ (l.map f) i=f (at_ l i):=by
 simp[at_,Xi,h]
theorem KM{T:Tab}{rs:List ResultVar}{rav rav':AV}{e:Exit}{st:St}{l:List (Bool×List AC)}(he:e=.ret∨e=.normal)(hl:nR T st rs=some l)(hr:qO l=some rav')(h:rav'=rav):aI T rs rav [] e st :=
 ⟨he,l,hl,by rw[hr,h],by first|exact SubL.nil|(intro i;simp[look])|trivial⟩
theorem gQ0{Q:Prop}{x1 x2 x3 x4 x5 x6 x7 x8 x9 x10 x11 x12}(h:Q→aa x1 x2 x3 (Oper.mk x4 (x5) x6 x7 x8 (some x9)::x10) x11 x12):Q→aa x1 x2 x3 (Oper.mk x4 (x5) x6 x7 x8 (some x9)::x10) x11 x12:=h
theorem gQ1{Q:Prop}{x1 x2 x3 x4 x5 x6 x7 x8 x9 x10 x11 x12}(h:Q→aa x1 x2 x3 (Oper.mk x4 (Op.call x5) x6 x7 x8 (x9)::x10) x11 x12):Q→aa x1 x2 x3 (Oper.mk x4 (Op.call x5) x6 x7 x8 (x9)::x10) x11 x12:=h
theorem gQ2{Q:Prop}{x1 x2 x3 x4 x5 x6 x7 x8 x9 x10 x11 x12 x13 x14}(h:Q→aa x1 x2 x3 (Oper.mk x4 (Op.convert x5 x6 x7) x8 x9 x10 (x11)::x12) x13 x14):Q→aa x1 x2 x3 (Oper.mk x4 (Op.convert x5 x6 x7) x8 x9 x10 (x11)::x12) x13 x14:=h
theorem gQ3{Q:Prop}{x1 x2 x3 x4 x5 x6 x7 x8 x9 x10 x11 x12 x13 x14 x15}(h:Q→aa x1 x2 x3 (Oper.mk x4 (Op.binOp .add x5 x6 x7 x8) x9 x10 x11 (x12)::x13) x14 x15):Q→aa x1 x2 x3 (Oper.mk x4 (Op.binOp .add x5 x6 x7 x8) x9 x10 x11 (x12)::x13) x14 x15:=h
theorem gQ4{Q:Prop}{x1 x2 x3 x4 x5 x6 x7 x8 x9 x10 x11 x12 x13 x14 x15}(h:Q→aa x1 x2 x3 (Oper.mk x4 (Op.binOp .sub x5 x6 x7 x8) x9 x10 x11 (x12)::x13) x14 x15):Q→aa x1 x2 x3 (Oper.mk x4 (Op.binOp .sub x5 x6 x7 x8) x9 x10 x11 (x12)::x13) x14 x15:=h
theorem gQ5{Q:Prop}{x1 x2 x3 x4 x5 x6 x7 x8 x9 x10 x11 x12 x13 x14 x15}(h:Q→aa x1 x2 x3 (Oper.mk x4 (Op.binOp .mul x5 x6 x7 x8) x9 x10 x11 (x12)::x13) x14 x15):Q→aa x1 x2 x3 (Oper.mk x4 (Op.binOp .mul x5 x6 x7 x8) x9 x10 x11 (x12)::x13) x14 x15:=h
theorem gQ6{Q:Prop}{x1 x2 x3 x4 x5 x6 x7 x8 x9 x10 x11 x12 x13 x14 x15}(h:Q→aa x1 x2 x3 (Oper.mk x4 (Op.binOp .rem x5 x6 x7 x8) x9 x10 x11 (x12)::x13) x14 x15):Q→aa x1 x2 x3 (Oper.mk x4 (Op.binOp .rem x5 x6 x7 x8) x9 x10 x11 (x12)::x13) x14 x15:=h
theorem gQ7{Q:Prop}{x1 x2 x3 x4 x5 x6 x7 x8 x9 x10 x11 x12 x13 x14 x15}(h:Q→aa x1 x2 x3 (Oper.mk x4 (Op.binOp .quo x5 x6 x7 x8) x9 x10 x11 (x12)::x13) x14 x15):Q→aa x1 x2 x3 (Oper.mk x4 (Op.binOp .quo x5 x6 x7 x8) x9 x10 x11 (x12)::x13) x14 x15:=h
theorem gQ8{Q:Prop}{x1 x2 x3 x4 x5 x6 x7 x8 x9 x10 x11 x12 x13}(h:Q→aa x1 x2 x3 (Oper.mk x4 (Op.unOp .neg x5 x6) x7 x8 x9 (x10)::x11) x12 x13):Q→aa x1 x2 x3 (Oper.mk x4 (Op.unOp .neg x5 x6) x7 x8 x9 (x10)::x11) x12 x13:=h
theorem gQ9{Q:Prop}{x1 x2 x3 x4 x5 x6 x7 x8 x9 x10 x11 x12 x13 x14}(h:Q→aa x1 x2 x3 (Oper.mk x4 (Op.pick x5 x6 x7) x8 x9 x10 (x11)::x12) x13 x14):Q→aa x1 x2 x3 (Oper.mk x4 (Op.pick x5 x6 x7) x8 x9 x10 (x11)::x12) x13 x14:=h
theorem VG{Q:Prop}{x1 x2 x3 x4 x5 x6 x7 x8 x9 x10 x11 x12 x13 x14}(h:Q→aa x1 x2 x3 (Oper.mk x4 (Op.indexAddr x5 x6 x7) x8 x9 x10 (x11)::x12) x13 x14):Q→aa x1 x2 x3 (Oper.mk x4 (Op.indexAddr x5 x6 x7) x8 x9 x10 (x11)::x12) x13 x14:=h
theorem VH{Q:Prop}{x1 x2 x3 x4 x5 x6 x7 x8 x9 x10 x11 x12 x13 x14}(h:Q→aa x1 x2 x3 (Oper.mk x4 (Op.index x5 x6 x7) x8 x9 x10 (x11)::x12) x13 x14):Q→aa x1 x2 x3 (Oper.mk x4 (Op.index x5 x6 x7) x8 x9 x10 (x11)::x12) x13 x14:=h
theorem VI{Q:Prop}{x1 x2 x3 x4 x5 x6 x7 x8 x9 x10 x11 x12 x13}(h:Q→aa x1 x2 x3 (Oper.mk x4 (Op.load x5 x6) x7 x8 x9 (x10)::x11) x12 x13):Q→aa x1 x2 x3 (Oper.mk x4 (Op.load x5 x6) x7 x8 x9 (x10)::x11) x12 x13:=h
theorem VJ{Q:Prop}{x1 x2 x3 x4 x5 x6 x7 x8 x9 x10 x11 x12 x13}(h:Q→aa x1 x2 x3 (Oper.mk x4 (Op.box x5 x6) x7 x8 x9 (x10)::x11) x12 x13):Q→aa x1 x2 x3 (Oper.mk x4 (Op.box x5 x6) x7 x8 x9 (x10)::x11) x12 x13:=h
theorem VK{Q:Prop}{x1 x2 x3 x4 x5 x6 x7 x8 x9 x10 x11 x12}(h:Q→aa x1 x2 x3 (Oper.mk x4 (Op.alloc x5) x6 x7 x8 (x9)::x10) x11 x12):Q→aa x1 x2 x3 (Oper.mk x4 (Op.alloc x5) x6 x7 x8 (x9)::x10) x11 x12:=h
theorem VL{Q:Prop}{x1 x2 x3 x4 x5 x6}(h:Q→aa x1 x2 x3 x4 x5 x6):Q→aa x1 x2 x3 x4 x5 x6:=h
theorem VM{Q:Prop}{x1 x2 x3 x4 x5}(h:Q→OkC x1 x2 x3 x4 x5):Q→OkC x1 x2 x3 x4 x5:=h
theorem VN{Q:Prop}{x1 x2 x3 x4 x5 x6 x7 x8 x9 x10 x11 x12 x13 x14}(h:Q→ak x1 x2 x3 x4 (Oper.mk x5 (Op.call x6) x7 x8 x9 (x10)::x11) x12 x13 x14):Q→ak x1 x2 x3 x4 (Oper.mk x5 (Op.call x6) x7 x8 x9 (x10)::x11) x12 x13 x14:=h
theorem VO{Q:Prop}{x1 x2 x3 x4 x5 x6 x7 x8 x9 x10 x11 x12 x13 x14}(h:Q→ak x1 x2 x3 x4 (Oper.mk x5 (x6) x7 x8 x9 (some x10)::x11) x12 x13 x14):Q→ak x1 x2 x3 x4 (Oper.mk x5 (x6) x7 x8 x9 (some x10)::x11) x12 x13 x14:=h
theorem VP{Q:Prop}{x1 x2 x3 x4 x5 x6 x7 x8 x9 x10 x11 x12 x13 x14 x15 x16 x17}(h:Q→ak x1 x2 x3 x4 (Oper.mk x5 (Op.binOp .add x6 x7 x8 x9) x10 x11 x12 (x13)::x14) x15 x16 x17):Q→ak x1 x2 x3 x4 (Oper.mk x5 (Op.binOp .add x6 x7 x8 x9) x10 x11 x12 (x13)::x14) x15 x16 x17:=h
theorem VQ{Q:Prop}{x1 x2 x3 x4 x5 x6 x7 x8 x9 x10 x11 x12 x13 x14 x15 x16 x17}(h:Q→ak x1 x2 x3 x4 (Oper.mk x5 (Op.binOp .sub x6 x7 x8 x9) x10 x11 x12 (x13)::x14) x15 x16 x17):Q→ak x1 x2 x3 x4 (Oper.mk x5 (Op.binOp .sub x6 x7 x8 x9) x10 x11 x12 (x13)::x14) x15 x16 x17:=h
theorem VS{Q:Prop}{x1 x2 x3 x4 x5 x6 x7 x8 x9 x10 x11 x12 x13 x14 x15 x16 x17}(h:Q→ak x1 x2 x3 x4 (Oper.mk x5 (Op.binOp .mul x6 x7 x8 x9) x10 x11 x12 (x13)::x14) x15 x16 x17):Q→ak x1 x2 x3 x4 (Oper.mk x5 (Op.binOp .mul x6 x7 x8 x9) x10 x11 x12 (x13)::x14) x15 x16 x17:=h
theorem VT{Q:Prop}{x1 x2 x3 x4 x5 x6 x7 x8 x9 x10 x11 x12 x13 x14 x15 x16 x17}(h:Q→ak x1 x2 x3 x4 (Oper.mk x5 (Op.binOp .rem x6 x7 x8 x9) x10 x11 x12 (x13)::x14) x15 x16 x17):Q→ak x1 x2 x3 x4 (Oper.mk x5 (Op.binOp .rem x6 x7 x8 x9) x10 x11 x12 (x13)::x14) x15 x16 x17:=h
theorem VU{Q:Prop}{x1 x2 x3 x4 x5 x6 x7 x8 x9 x10 x11 x12 x13 x14 x15 x16 x17}(h:Q→ak x1 x2 x3 x4 (Oper.mk x5 (Op.binOp .quo x6 x7 x8 x9) x10 x11 x12 (x13)::x14) x15 x16 x17):Q→ak x1 x2 x3 x4 (Oper.mk x5 (Op.binOp .quo x6 x7 x8 x9) x10 x11 x12 (x13)::x14) x15 x16 x17:=h
theorem VV{Q:Prop}{x1 x2 x3 x4 x5 x6 x7 x8 x9 x10 x11 x12 x13 x14 x15}(h:Q→ak x1 x2 x3 x4 (Oper.mk x5 (Op.unOp .neg x6 x7) x8 x9 x10 (x11)::x12) x13 x14 x15):Q→ak x1 x2 x3 x4 (Oper.mk x5 (Op.unOp .neg x6 x7) x8 x9 x10 (x11)::x12) x13 x14 x15:=h
theorem VW{Q:Prop}{x1 x2 x3 x4 x5 x6 x7 x8 x9 x10 x11 x12 x13 x14 x15 x16}(h:Q→ak x1 x2 x3 x4 (Oper.mk x5 (Op.convert x6 x7 x8) x9 x10 x11 (x12)::x13) x14 x15 x16):Q→ak x1 x2 x3 x4 (Oper.mk x5 (Op.convert x6 x7 x8) x9 x10 x11 (x12)::x13) x14 x15 x16:=h
theorem VX{Q:Prop}{x1 x2 x3 x4 x5 x6 x7 x8 x9 x10 x11 x12 x13 x14 x15 x16}(h:Q→ak x1 x2 x3 x4 (Oper.mk x5 (Op.pick x6 x7 x8) x9 x10 x11 (x12)::x13) x14 x15 x16):Q→ak x1 x2 x3 x4 (Oper.mk x5 (Op.pick x6 x7 x8) x9 x10 x11 (x12)::x13) x14 x15 x16:=h
theorem VY{Q:Prop}{x1 x2 x3 x4 x5 x6 x7 x8 x9 x10 x11 x12 x13 x14 x15 x16}(h:Q→ak x1 x2 x3 x4 (Oper.mk x5 (Op.indexAddr x6 x7 x8) x9 x10 x11 (x12)::x13) x14 x15 x16):Q→ak x1 x2 x3 x4 (Oper.mk x5 (Op.indexAddr x6 x7 x8) x9 x10 x11 (x12)::x13) x14 x15 x16:=h
theorem VZ{Q:Prop}{x1 x2 x3 x4 x5 x6 x7 x8 x9 x10 x11 x12 x13 x14 x15 x16}(h:Q→ak x1 x2 x3 x4 (Oper.mk x5 (Op.index x6 x7 x8) x9 x10 x11 (x12)::x13) x14 x15 x16):Q→ak x1 x2 x3 x4 (Oper.mk x5 (Op.index x6 x7 x8) x9 x10 x11 (x12)::x13) x14 x15 x16:=h
theorem V6{Q:Prop}{x1 x2 x3 x4 x5 x6 x7 x8 x9 x10 x11 x12 x13 x14 x15}(h:Q→ak x1 x2 x3 x4 (Oper.mk x5 (Op.load x6 x7) x8 x9 x10 (x11)::x12) x13 x14 x15):Q→ak x1 x2 x3 x4 (Oper.mk x5 (Op.load x6 x7) x8 x9 x10 (x11)::x12) x13 x14 x15:=h
theorem V7{Q:Prop}{x1 x2 x3 x4 x5 x6 x7 x8}(h:Q→ak x1 x2 x3 x4 x5 x6 x7 x8):Q→ak x1 x2 x3 x4 x5 x6 x7 x8:=h
theorem wB{P:Prop}(h:P:=by first|omega|((try simp only[a0A,a1A,a2A,a3A,a4A,a5A,a6A,a7A,a8A,a9A,O4,O5] at *);omega)):P:=h
theorem wK{P:Prop}(h:P:=by first|(repeat' first|exact aW|refine ab rfl ?_)<;>fail|fail):P:=h
theorem wL{P:Prop}(h:P:=by first|omega|(rw[XR];simp;omega)|grind):P:=h
theorem wS0{P:Prop}(h:P:=by first|exact Es rfl rfl (by first|assumption|rfl)|exact LV rfl rfl (by first|assumption|rfl) rfl rfl|exact Qb rfl rfl rfl rfl):P:=h
theorem wS1{P:Prop}(h:P:=by exact fV af rfl rfl rfl rfl rfl rfl rfl rfl rfl rfl rfl rfl rfl (by first|omega|((try simp only[a0A,a1A,a5A,yq,yr,yt,yu,yw,vc] at *);omega)) (by first|exact W6 rfl|omega|((try simp only[a0A,a1A,a5A,yq,yr,yt,yu,yw,vc] at *);omega)) (W6 rfl)):P:=h
theorem wS3{P:Prop}(h:P:=by first|exact s_e envOk rfl rfl rfl (kP rfl rfl rfl rfl (fx wB wB))|exact s_e envOk rfl rfl rfl (kP rfl rfl rfl rfl (tL wB wB))|exact kl af rfl rfl rfl rfl):P:=h
theorem wS4{P:Prop}(h:P:=by first|exact s_e envOk rfl rfl rfl (oZ rfl rfl rfl rfl (fx wB wB))|exact s_e envOk rfl rfl rfl (oZ rfl rfl rfl rfl (tL wB wB))|exact kl af rfl rfl rfl rfl):P:=h
theorem wS5{P:Prop}(h:P:=by first|exact s_e envOk rfl rfl rfl (oY rfl rfl rfl rfl (fx wB wB))|exact s_e envOk rfl rfl rfl (oY rfl rfl rfl rfl (tL wB wB))|exact kl af rfl rfl rfl rfl):P:=h
theorem wS8{P:Prop}(h:P:=by first|exact s_e envOk rfl rfl rfl (IW rfl rfl (fx wB wB))|exact kl af rfl rfl rfl rfl):P:=h
theorem wS2{P:Prop}(h:P:=by first|exact s_e envOk rfl rfl rfl (rJ rfl rfl rfl rfl (fx wB wB))|exact s_e envOk rfl rfl rfl (rJ rfl rfl rfl rfl (tL wB wB))|exact s_e envOk rfl rfl rfl (rJ rfl rfl rfl rfl (NK wB wB))|exact kl af rfl rfl rfl rfl):P:=h
theorem wS9{P:Prop}(h:P:=by first|exact s_e envOk rfl rfl rfl (uq rfl rfl (by first|rfl|assumption) rfl)|exact s_e envOk rfl rfl rfl (ur rfl rfl (by first|rfl|assumption) rfl)|exact kl af rfl rfl rfl rfl):P:=h
theorem V8{P:Prop}(h:P:=by first|exact s_e envOk rfl rfl rfl (ia rfl rfl rfl rfl rfl rfl wB wB)|exact s_e envOk rfl rfl rfl (dr rfl rfl rfl rfl rfl wB (EW wB))|exact s_e envOk rfl rfl rfl (dr rfl rfl rfl rfl rfl wB (dZ wB))|exact kl af rfl rfl rfl rfl):P:=h
theorem Wa{P:Prop}(h:P:=by first|exact s_e envOk rfl rfl rfl (Cw rfl rfl rfl rfl wB (ea wB))|exact kl af rfl rfl rfl rfl):P:=h
theorem Wb{P:Prop}(h:P:=by first|exact s_e envOk rfl rfl rfl (cz rfl rfl rfl rfl (dZ wB) rfl)|exact s_e envOk rfl rfl rfl (cz rfl rfl rfl rfl (eO (by assumption) wB) rfl)|exact s_e envOk rfl rfl rfl (cz rfl rfl rfl rfl (pZ wB) rfl)|exact kl af rfl rfl rfl rfl):P:=h
theorem Wc{P:Prop}(h:P:=by first|exact oK 0 rfl rfl rfl rfl rfl rfl|exact oK 1 rfl rfl rfl rfl rfl rfl|exact oK 2 rfl rfl rfl rfl rfl rfl|exact oK 3 rfl rfl rfl rfl rfl rfl|exact oK 4 rfl rfl rfl rfl rfl rfl|exact oK 5 rfl rfl rfl rfl rfl rfl|exact oK 6 rfl rfl rfl rfl rfl rfl):P:=h
theorem Wd{P:Prop}(h:P:=by first|exact kH af 0 rfl rfl rfl rfl rfl|exact kH af 1 rfl rfl rfl rfl rfl|exact kH af 2 rfl rfl rfl rfl rfl|exact kH af 3 rfl rfl rfl rfl rfl|exact kH af 4 rfl rfl rfl rfl rfl|exact kH af 5 rfl rfl rfl rfl rfl|exact kH af 7 rfl rfl rfl rfl rfl):P:=h
theorem We{P:Prop}(h:P:=by first|exact tb|exact NH af rfl rfl rfl rfl rfl|(apply gQ0;exact wS0)|(apply gQ1;exact wS1)|(apply gQ2;exact NL af rfl rfl rfl rfl rfl rfl wB)|(apply gQ3;exact wS3)|(apply gQ4;exact wS4)|(apply gQ5;exact wS5)|(apply gQ6;exact kl af rfl rfl rfl rfl)|(apply gQ7;exact kl af rfl rfl rfl rfl)|(apply gQ8;exact wS8)|(apply gQ2;exact wS2)|(apply gQ9;exact wS9)|(apply VG;exact V8)|(apply VH;exact Wa)|(apply VI;exact Wb)|(apply VJ;exact Wc)|(apply VK;exact Wd)|exact jJ envOk rfl rfl (cx rfl rfl rfl rfl rfl rfl rfl rfl rfl (dZ wB) rfl)|exact jJ envOk rfl rfl (cx rfl rfl rfl rfl rfl rfl rfl rfl rfl (eO (by assumption) wB) rfl)|exact jJ envOk rfl rfl rfl|exact RJ envOk rfl rfl rfl rfl rfl|exact s_e envOk rfl rfl rfl rfl|exact eG envOk 0 rfl rfl rfl rfl rfl rfl|exact eG envOk 1 rfl rfl rfl rfl rfl rfl|exact eG envOk 2 rfl rfl rfl rfl rfl rfl|exact eG envOk 3 rfl rfl rfl rfl rfl rfl|exact eG envOk 4 rfl rfl rfl rfl rfl rfl|exact eG envOk 5 rfl rfl rfl rfl rfl rfl|exact eG envOk 6 rfl rfl rfl rfl rfl rfl|exact It envOk rfl rfl rfl rfl rfl rfl rfl rfl rfl rfl rfl rfl|exact KC envOk rfl rfl rfl rfl rfl rfl rfl rfl rfl rfl rfl (by assumption)):P:=h
theorem Wf{P:Prop}(h:P:=by first|exact HG|exact Qh|exact zP|exact KN|exact Fa|exact cr|exact Fb|exact Cx rfl|exact Cy rfl|exact IY rfl (by assumption)|exact IZ rfl (by assumption)|exact wh progOk.mo):P:=h
theorem Wg{P:Prop}(h:P:=by first|exact dV envOk 11 rfl rfl rfl (b5 (i:=10) rfl rfl rfl rfl rfl rfl rfl rfl (by first|omega|((try simp only[a0A,a1A,a5A,yq,yr,yt,yu,yw,vc] at *);omega)) (by first|exact W6 rfl|omega|((try simp only[a0A,a1A,a5A,yq,yr,yt,yu,yw,vc] at *);omega)) (W6 rfl)) rfl rfl|exact dV envOk 13 rfl rfl rfl (b5 (i:=12) rfl rfl rfl rfl rfl rfl rfl rfl (by first|omega|((try simp only[a0A,a1A,a5A,yq,yr,yt,yu,yw,vc] at *);omega)) (by first|exact W6 rfl|omega|((try simp only[a0A,a1A,a5A,yq,yr,yt,yu,yw,vc] at *);omega)) (W6 rfl)) rfl rfl):P:=h
theorem Wh{P:Prop}(h:P:=by first|exact NJ rfl rfl (by first|assumption|rfl)|exact Qc rfl rfl rfl rfl|exact RH rfl rfl (by first|assumption|rfl) rfl rfl):P:=h
theorem Wi{P:Prop}(h:P:=by first|exact d_e envOk rfl rfl rfl (kP rfl rfl rfl rfl (fx wB wB))|exact d_e envOk rfl rfl rfl (dL rfl)):P:=h
theorem Wj{P:Prop}(h:P:=by first|exact d_e envOk rfl rfl rfl (oZ rfl rfl rfl rfl (fx wB wB))|exact d_e envOk rfl rfl rfl (dL rfl)):P:=h
theorem Wl{P:Prop}(h:P:=by first|exact d_e envOk rfl rfl rfl (uq rfl rfl (by first|rfl|assumption) rfl)|exact d_e envOk rfl rfl rfl (ur rfl rfl (by first|rfl|assumption) rfl)|exact d_e envOk rfl rfl rfl (dL rfl)):P:=h
theorem Wm{P:Prop}(h:P:=by first|exact d_e envOk rfl rfl rfl (ia rfl rfl rfl rfl rfl rfl wB wB)|exact d_e envOk rfl rfl rfl (dr rfl rfl rfl rfl rfl wB (EW wB))|exact d_e envOk rfl rfl rfl (dr rfl rfl rfl rfl rfl wB (dZ wB))|exact d_e envOk rfl rfl rfl (dL rfl)):P:=h
theorem Wn{P:Prop}(h:P:=by first|exact d_e envOk rfl rfl rfl (cz rfl rfl rfl rfl (dZ wB) rfl)|exact d_e envOk rfl rfl rfl (cz rfl rfl rfl rfl (eO (by assumption) wB) rfl)|exact d_e envOk rfl rfl rfl (cz rfl rfl rfl rfl (pZ wB) rfl)|exact d_e envOk rfl rfl rfl (dL rfl)):P:=h
theorem Wo{P:Prop}(h:P:=by first|(apply VN;exact Wg)|exact RG (by kernel_rfl)|exact d_e envOk rfl rfl rfl (DN rfl rfl)|(apply VO;exact Wh)|(apply VP;exact Wi)|(apply VQ;exact Wj)|(apply VS;exact d_e envOk rfl rfl rfl (dL rfl))|(apply VT;exact d_e envOk rfl rfl rfl (dL rfl))|(apply VU;exact d_e envOk rfl rfl rfl (dL rfl))|(apply VV;exact d_e envOk rfl rfl rfl (dL rfl))|(apply VW;exact d_e envOk rfl rfl rfl (dL rfl))|(apply VX;exact Wl)|(apply VY;exact Wm)|(apply VZ;exact d_e envOk rfl rfl rfl (dL rfl))|(apply V6;exact Wn)|exact d_e envOk rfl rfl rfl rfl|exact dV envOk 0 rfl rfl rfl rfl rfl rfl|exact dV envOk 1 rfl rfl rfl rfl rfl rfl|exact dV envOk 2 rfl rfl rfl rfl rfl rfl|exact dV envOk 3 rfl rfl rfl rfl rfl rfl|exact dV envOk 4 rfl rfl rfl rfl rfl rfl|exact dV envOk 5 rfl rfl rfl rfl rfl rfl|exact dV envOk 6 rfl rfl rfl rfl rfl rfl|exact kD envOk rfl rfl (cx rfl rfl rfl rfl rfl rfl rfl rfl rfl (dZ wB) rfl)|exact kD envOk rfl rfl (cx rfl rfl rfl rfl rfl rfl rfl rfl rfl (eO (by assumption) wB) rfl)|exact kD envOk rfl rfl (cx rfl rfl rfl rfl rfl rfl rfl rfl rfl (pZ wB) rfl)|exact kD envOk rfl rfl rfl):P:=h
theorem wG {P Q:Prop} (k:Q) (h:Q→P:=by first
  | (apply VL;exact We)
  | (apply VM;exact Wf)
  | exact HN
  | exact Qf
  | exact Qg
  | exact NM
  | exact NO
  | exact Eh rfl
  | exact NP rfl
  | exact KM (.inl rfl) rfl rfl
  | exact fun k=>kB (.inl rfl) rfl rfl k (by first|exact (q1Q rfl)|exact (q2Q rfl rfl))
  | (apply V7;exact Wo)
  | exact JR rfl
  | exact OC
  | exact OT (by simp)
  | exact MN (by simp)
  | exact OB):P:=h k
theorem h2H{x1 x2 x3 x4 x5}(h:OkC x1 x2 x3 x4 x5):OkC x1 x2 x3 x4 x5:=h
end Go.Abs
namespace Go.Proofs.YtpejdgkaapnekaaGreat
open Go Go.Abs
attribute [local irreducible] aa OkC ak av aq aI
set_option maxRecDepth 10000
def lX(c:Nat):Bool:=decide (97≤c)&&decide (c≤122)
def nZ(c:Nat):Bool:=lX c||(decide (48≤c)&&decide (c≤57))||decide (c=95)
def cW(s:List UInt8):Bool:=decide (1≤s.length)&&decide (s.length≤12)&&lX (at_ s 0).toNat&&s.all (fun c=>nZ c.toNat)
structure Dim where
 name:List UInt8
 lo:Int
 hi:Int
 deriving Inhabited
structure Attr where
 name:List UInt8
 type:Int
 deriving Inhabited
def ax(d:Dim):List D:=[.str d.name,.int .i64 d.lo,.int .i64 d.hi]
def ai(l:List Dim):D:=.sl 3 32 (l.map ax)
def aS(a:Attr):List D:=[.str a.name,.int .i64 a.type]
def ao(l:List Attr):D:=.sl 2 24 (l.map aS)
def aA(n:Int):List D:=[.int .i64 n]
def ar(l:List Int):D:=.sl 1 8 (l.map aA)
def dW(hi:Int):Int:=min hi 1073741824
theorem Tq(nm:List UInt8)(lo hi:Int):CallA Tryz.prog 247 [.agg [.d (.str nm),.d (.int .i64 lo),.d (.int .i64 hi)]] [] (.one (.d (.int .i64 (dW hi)))) []:=by
 refine enter af Tryz.func247 rfl (by decide +kernel) rfl fun hok w0 σ0 φ0 M=>?_
 repeat' (first|refine wG ?_)
 all_goals (try (((simp_all[dW,au,W7])<;>exact wL);done))
def ic(lo hi:Int):Bool:=decide (-1073741824≤lo)&&decide (lo≤1073741824)&&decide (lo≤hi)&&decide (hi≤1073741825)
def bF:List Dim→List Int→Bool
 | d::ds,x::xs=>decide (d.lo≤x)&&decide (x≤dW d.hi)&&bF ds xs
 | _,_=>true
def ofF(ds:List Dim)(at':List Int):Bool:=decide (at'.length=ds.length)&&bF ds at'
def kc:List (List UInt8)→List Dim→Int
 | _,[]=>0
 | met,d::r=>if !cW d.name||met.contains d.name then 11 else if !ic d.lo d.hi then 3 else kc (met++[d.name]) r
def cY(ds:List Dim):Int:=if (ds.length:Int)<1∨4<(ds.length:Int) then 13 else kc [] ds
def fb:List (List UInt8)→List Attr→Int
 | _,[]=>0
 | met,a::r=>if !cW a.name||met.contains a.name then 11 else if a.type<1∨4<a.type then 12 else fb (met++[a.name]) r
def bo(ds:List Dim)(ats:List Attr):Int:=if cY ds≠0 then cY ds else if (ats.length:Int)<1∨6<(ats.length:Int) then 9 else fb (ds.map Dim.name) ats
structure Val where
 kind:Int
 num:Int
 den:Int
 str:List UInt8
 deriving Inhabited
def aB(v:Val):List D:=[.int .i64 v.kind,.int .i64 v.num,.int .i64 v.den,.str v.str]
def aY(l:List Val):D:=.sl 4 40 (l.map aB)
def wb(d:Int)(s:List UInt8):Bool:=d==0&&s==[]
theorem WK(k n d:Int)(s:List UInt8):CallA Tryz.prog 279 [.agg [.d (.int .i64 k),.d (.int .i64 n),.d (.int .i64 d),.d (.str s)]] [] (.one (.d (.bool (wb d s)))) []:=by
 refine enter af Tryz.func279 rfl (by decide +kernel) rfl fun hok w0 σ0 φ0 M=>?_
 repeat' (first|refine wG ?_|(refine h1H ?_;(refine dv ?_;refine bx J J J J (fun h=>?_) (fun h=>?_))))
 all_goals (try (((simp_all[wb,au,W7])<;>exact wL);done))
theorem WL(a b:Nat):CallA Tryz.prog 280 [.one (.d (.int .i64 a)),.one (.d (.int .i64 b))] [] (.one (.d (.int .i64 (Nat.gcd a b)))) []:=by
 refine enter af Tryz.func280 rfl (by decide +kernel) rfl fun hok w0 σ0 φ0 M=>?_
 repeat' (first|(refine h4H ?_;(refine Ks ?_;refine d_e envOk J J J (zy rfl J J J wB) ?_))|refine wG ?_|(refine h2H ?_;first|refine aj J (fun h=>?_) (fun h=>?_)|refine cu 1 J [] aW (fun (p:Nat×Nat)=>[(0,.one (.d (.int .i64 (p.1:Int)))),(1,.one (.d (.int .i64 (p.2:Int))))]) (fun (p:Nat×Nat)=>Nat.gcd p.1 p.2=Nat.gcd a b) (fun (p:Nat×Nat)=>p.2) (a,b) (q2Q J J) ?_ (fun p hg=>?_))|(show Exists _;refine Exists.intro ((p.2,p.1 % p.2)) ⟨?_,?_,wK,(q2Q J J),aW⟩))
 all_goals (try (((simp_all[au,W7])<;>exact wL);done))
 ·have h':p.2≠0:=by simpa using h
  show Nat.gcd p.2 (p.1 % p.2)=_
  rw[Nat.gcd_comm,← Nat.gcd_rec,Nat.gcd_comm];exact hg
 ·have h':p.2≠0:=by simpa using h
  exact Nat.mod_lt _ (by omega)
theorem JZ(ds:List Dim)(at':List Int):CallA Tryz.prog 204 [.one (.d (ai ds)),.one (.d (ar at'))] [] (.one (.d (.bool (ofF ds at')))) []:=by
 refine enter af Tryz.func204 rfl (by decide +kernel) rfl fun hok w0 σ0 φ0 M=>?_
 have h1:=hok.1.sl;have h2:=hok.2.1.sl;clear hok;simp only[WZ] at h1 h2;replace h1:=h1.1;replace h2:=h2.1
 repeat' (first|(refine h1H ?_;(refine h0H ?_;refine ae J J J J J J J J (Tq _ _ _) J ?_))|refine wG ?_|(refine h1H ?_;(refine dv ?_;refine bx J J J J (fun h=>?_) (fun h=>?_)))|(refine h2H ?_;first|refine aj J (fun h=>?_) (fun h=>?_)|refine cu 4 J [(0,_),(12,_),(13,_)] (q3Q J J J) (fun (k:Nat)=>[(14,.one (.d (.int .i64 k)))]) (fun (k:Nat)=>k≤ds.length∧at'.length=ds.length∧bF ds at'=bF (ds.drop k) (at'.drop k)) (fun (k:Nat)=>ds.length-k) 0 (q1Q J) ?_ (fun k ⟨hk,hq,hs⟩=>?_))|(show Exists _;refine Exists.intro (k+1) ⟨?_,?_,wK,(q1Q J),(q3Q J J J)⟩))
 all_goals (try (((simp_all[ofF,bF,au,W7])<;>exact wL);done))
def bH:List Int→List Int→Int
 | [],[]=>0
 | [],_::_=>-1
 | _::_,[]=>1
 | x::xs,y::ys=>if x<y then -1 else if y<x then 1 else bH xs ys
theorem Kc{b:List Int}:bH [] b=if b=[] then 0 else -1:=by cases b<;>simp[bH]
theorem H7{a:List Int}:bH a []=if a=[] then 0 else 1:=by cases a<;>simp[bH]
theorem Ts(x:Int):CallA Tryz.prog 246 [.one (.d (.int .i64 x))] [] (.one (.d (.bool false))) []:=by
 refine enter af Tryz.func246 rfl (by decide +kernel) rfl fun hok w0 σ0 φ0 M=>?_
 repeat' (first|refine wG ?_)
 all_goals (try (((simp_all[au,W7])<;>exact wL);done))
theorem Tt(x y:Int):CallA Tryz.prog 198 [.one (.d (.int .i64 x)),.one (.d (.int .i64 y))] [] (.one (.d (.int .i64 (if x<y then -1 else if y<x then 1 else 0)))) []:=by
 refine enter af Tryz.func198 rfl (by decide +kernel) rfl fun hok w0 σ0 φ0 M=>?_
 repeat' (first|(refine h1H ?_;(refine h0H ?_;refine ae J J J J J J J J (Ts _) J ?_))|refine wG ?_|(refine h2H ?_;refine aj J (fun h=>?_) (fun h=>?_)))
 all_goals (try (((simp_all[au,W7])<;>exact wL);done))
theorem Tu(a b:List Int):CallA Tryz.prog 130 [.one (.d (ar a)),.one (.d (ar b))] [] (.one (.d (.int .i64 (bH a b)))) []:=by
 refine enter af Tryz.func130 rfl (by decide +kernel) rfl fun hok w0 σ0 φ0 M=>?_
 have h1:=hok.1.sl;have h2:=hok.2.1.sl;clear hok;simp only[WZ] at h1 h2;replace h1:=h1.1;replace h2:=h2.1
 repeat' (first|(refine h1H ?_;(refine h0H ?_;refine ae J J J J J J J J (Tt _ _) J ?_))|refine wG ?_|(refine h2H ?_;first|refine aj J (fun h=>?_) (fun h=>?_)|refine cu 2 J [(0,_),(1,_),(9,_),(10,_)] (q4Q J J J J) (fun (k:Nat)=>[(11,.one (.d (.int .i64 k)))]) (fun (k:Nat)=>k≤a.length∧k≤b.length∧bH a b=bH (a.drop k) (b.drop k)) (fun (k:Nat)=>a.length-k) 0 (q1Q J) ?_ (fun k ⟨hk,hq,hs⟩=>?_))|(show Exists _;refine Exists.intro (k+1) ⟨?_,?_,wK,(q1Q J),(q4Q J J J J)⟩))
 all_goals (try (((simp_all[bH,Kc,H7,au,W7])<;>exact wL);done))
theorem c35(a b:List Int):CallA Tryz.prog 35 [.one (.d (ar a)),.one (.d (ar b))] [] (.one (.d (.int .i64 (bH a b)))) []:=by
 refine enter af Tryz.func35 rfl (by decide +kernel) rfl fun hok w0 σ0 φ0 M=>?_
 repeat' (first|(refine h1H ?_;(refine h0H ?_;refine ae J J J J J J J J (Tu _ _) J ?_))|refine wG ?_)
 all_goals (try (((simp_all[au,W7])<;>exact wL);done))
def aK{α:Type}(p:α→Bool):List α→Nat→Int
 | [],_=>-1
 | x::r,k=>if p x then k else aK p r (k+1)
end Go.Proofs.YtpejdgkaapnekaaGreat
namespace Go.Proofs.YtpejdgkaapnekaaGreat
open Go Go.Abs
theorem oA:∀ a:List Int,bH a a=0
 | []=>rfl
 | x::a=>by simp only[bH,if_neg (Int.lt_irrefl x)];exact oA a
theorem jk:∀ a b:List Int,bH b a=- bH a b
 | [],[]=>rfl
 | [],_::_=>rfl
 | _::_,[]=>rfl
 | x::a,y::b=>by
   simp only[bH]
   by_cases h1:x<y
   ·rw[if_pos h1,if_neg (by omega),if_pos h1];rfl
   ·by_cases h2:y<x
    ·rw[if_pos h2,if_neg h1,if_pos h2]
    ·rw[if_neg h1,if_neg h2,if_neg h1,if_neg h2];exact jk a b
theorem iI:∀ a b c:List Int,bH a b≤0→bH b c≤0→bH a c≤0∧(bH a c=0→bH a b=0∧bH b c=0)
 | [],[],[],_,_=>by simp[bH]
 | [],[],_::_,_,_=>by simp[bH]
 | [],_::_,[],_,h=>by simp[bH] at h
 | [],_::_,_::_,_,_=>by simp[bH]
 | _::_,[],_,h,_=>by simp[bH] at h
 | _::_,_::_,[],_,h=>by simp[bH] at h
 | x::a,y::b,z::c,h1,h2=>by
   have ih:=iI a b c
   simp only[bH] at h1 h2 ⊢
   split at h1<;>split at h2<;>(try split at h1)<;>(try split at h2)<;>(try omega)
   all_goals first
    | (rw[if_pos (by omega)];omega)
    | (have:=ih h1 h2
       simp only[if_neg (show ¬ x<y by omega),if_neg (show ¬ y<x by omega),if_neg (show ¬ y<z by omega),if_neg (show ¬ z<y by omega),if_neg (show ¬ x<z by omega),if_neg (show ¬ z<x by omega)]
       exact this)
theorem Eo:∀ a b:List Int,bH a b=0→a=b
 | [],[],_=>rfl
 | [],_::_,h=>by simp[bH] at h
 | _::_,[],h=>by simp[bH] at h
 | x::a,y::b,h=>by
   simp only[bH] at h
   split at h
   ·omega
   ·split at h
    ·omega
    ·rw[Eo a b h,show x=y by omega]
end Go.Proofs.YtpejdgkaapnekaaGreat
namespace Go.Proofs.YtpejdgkaapnekaaGreat
open Go Go.Abs
attribute [local irreducible] aa OkC ak av aq aI
set_option maxRecDepth 10000
def gr(c:UInt8):Bool:=decide (32≤c.toNat)&&decide (c.toNat≤126)
def mO(k n d:Int)(s:List UInt8):Bool :=
 if k=0 then wb d s&&(decide (1≤n)&&decide (n≤255))
 else if k=1 then wb d s&&(n==0||n==1)
 else if k=2 then s==[]&&(decide (1≤d)&&(decide (d≤1099511627776)&&(decide (-1099511627776≤n)&&(decide (n≤1099511627776)&&((Nat.gcd n.natAbs d.toNat:Nat):Int)==1))))
 else if k=3 then n==0&&(d==0&&(decide ((s.length:Int)≤16)&&s.all gr))
 else false
def ml(k n d:Int)(s:List UInt8)(t:Int):Bool :=
 mO k n d s&&(decide (1≤t)&&(decide (t≤4)&&(if k=0 then true else if k=1 then t==1 else if k=2 then t==3||t==2&&d==1 else t==4)))
theorem S5(c:Int):CallA Tryz.prog 281 [.one (.d (.int .i32 c))] [] (.one (.d (.bool (decide (c<32)||decide (126<c))))) []:=by
 refine enter af Tryz.func281 rfl (by decide +kernel) rfl fun hok w0 σ0 φ0 M=>?_
 repeat' (first|refine wG ?_|(refine h1H ?_;(refine dv ?_;refine bx J J J J (fun h=>?_) (fun h=>?_))))
 all_goals (try (((simp_all[au,W7])<;>exact wL);done))
end Go.Proofs.YtpejdgkaapnekaaGreat
