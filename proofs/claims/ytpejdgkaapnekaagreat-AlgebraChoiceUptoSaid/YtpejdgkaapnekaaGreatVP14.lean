import Derived.Test.YtpejdgkaapnekaaGreatVP10
import Derived.Test.YtpejdgkaapnekaaGreatVPb
set_option linter.unusedVariables false
set_option linter.unusedSimpArgs false
set_option linter.unnecessarySimpa false
set_option maxHeartbeats 1000000
namespace Go.Abs
open Go
variable {P : Program} {V : Env} {T : Tab} {c : Ctx} {w0 : World} {σ0 : Sig} {φ0 : Pl} {M : Nat→Prop} {n : Nat} {rd : Option Nat} {mk : List Deferred} {ops : Array Oper} {o : Oper} {rest : List Oper} {fr : List (Nat×AV)} {sto : Sto} {K : St→Prop} {st st0 : St} {acc : List Tr}
theorem zM(hg : o.guard = none) : ({ o with guard:=none } : Oper) = o:=by obtain ⟨_,_,_,_,_,g⟩:=o; simp only at hg; subst hg; rfl
def Ag : Op→Bool
 | .binOp .add _ _ _ _ | .binOp .sub _ _ _ _ | .binOp .mul _ _ _ _ | .binOp .rem _ _ _ _ | .binOp .quo _ _ _ _ | .unOp .neg _ _ | .convert _ _ _ | .pick .. | .index .. | .indexAddr .. | .call { callee:=.value _,.. }=>false
 | _=>true
theorem Gu(hT : aI P T){d : Nat}{v : AV}(hp : Ag o.op = true)(hg : o.guard = none)(hdst : o.dst = some d)(hd : Nat.blt d n = true)(hv : bQ T ⟨fr,sto⟩ o.op = some v)
  (h : aa P ⟨w0,σ0,φ0,M,n,rd,mk⟩ ops rest ⟨(d,v)::fr,sto⟩ K) : aa P ⟨w0,σ0,φ0,M,n,rd,mk⟩ ops (o::rest) ⟨fr,sto⟩ K:=iz hT hg hdst hd hv h
theorem yc(hV : EnvOk P V){e : Ef}{dst : Option Nat}(hg : o.guard = none)(hdst : o.dst = dst)(hd : aB n dst = true)(h : aG V ⟨fr,sto⟩ o 0 = some e)(he : e.new = [])(hk : aa P ⟨w0,σ0,φ0,M,n,rd,mk⟩ ops rest ⟨bc dst e.v fr,cm e.wr sto⟩ K) :
  aa P ⟨w0,σ0,φ0,M,n,rd,mk⟩ ops (o::rest) ⟨fr,sto⟩ K:=by
 have:=od (c:=⟨w0,σ0,φ0,M,n,rd,mk⟩) hV (o:=o) (by rw [hdst]; exact hd) h rfl (fun i hi=>by rw [he] at hi; simp at hi) ops rest K (by rw [hdst]; exact hk)
 rwa [zM hg] at this
theorem aC{d j : Nat}{want b : Bool}(hg : o.guard = some (j,want))(hb : fE ⟨fr,sto⟩ ops j = some (some b))(hdst : o.dst = some d)(hd : Nat.blt d n = true)
  (h1 : b = want→aa P ⟨w0,σ0,φ0,M,n,rd,mk⟩ ops ({ o with guard:=none }::rest) ⟨fr,sto⟩ K) (h2 : b = !want→aa P ⟨w0,σ0,φ0,M,n,rd,mk⟩ ops rest ⟨(d,.tup [])::fr,sto⟩ K) :
  aa P ⟨w0,σ0,φ0,M,n,rd,mk⟩ ops (o::rest) ⟨fr,sto⟩ K:=by
 by_cases h : b = want
 ·exact zG hg hb h (h1 h)
 ·have h' : b = !want:=by cases b <;> cases want <;> simp at h ⊢
  exact FE hg hb h' hdst hd (h2 h')
theorem Ik{d j : Nat}{want : Bool}(hg : o.guard = some (j,want))(hb : fE ⟨fr,sto⟩ ops j = some none)(hdst : o.dst = some d)(hd : Nat.blt d n = true)
  (h : aa P ⟨w0,σ0,φ0,M,n,rd,mk⟩ ops rest ⟨(d,.tup [])::fr,sto⟩ K) : aa P ⟨w0,σ0,φ0,M,n,rd,mk⟩ ops (o::rest) ⟨fr,sto⟩ K :=
 o4 hg hb rfl (by rw [hdst]; exact hd) (by rw [hdst]; exact h)
theorem vY(id : Nat){d : Nat}{t : TypeId}{x : Operand}{v : AV}{cs : List AC}(ho : o.op = .box t x)(hg : o.guard = none)(hdst : o.dst = some d)(hd : (Nat.blt d n && (Nat.blt id 1000000 && (!aW sto id && !bh id fr && !ay id sto))) = true)
  (hx : ev ⟨fr,sto⟩ x = some v) (hc : (match cellsOf v with | some cs'=>bif bY id cs' then none else some cs' | none=>none) = some cs)
  (h : aa P ⟨w0,σ0,φ0,M,n,rd,mk⟩ ops rest ⟨(d,.one (.ref id 0))::fr,(id,.box cs)::sto⟩ K) : aa P ⟨w0,σ0,φ0,M,n,rd,mk⟩ ops (o::rest) ⟨fr,sto⟩ K:=by
 simp only [Bool.and_eq_true,Bool.not_eq_true'] at hd
 split at hc <;> (try (simp at hc; done))
 rename_i cs' hcs
 cases hm : bY id cs' <;> simp [hm] at hc
 subst hc
 exact uI ho hg hdst (by simp only [Bool.and_eq_true]; exact ⟨hd.1,hd.2.1⟩) hx hcs hd.2.2.1.2 hd.2.2.2 hm h
theorem ae{d : Nat}{fop : Operand}{args : Array Operand}{ats : Array TypeId}{f : FuncId}{caps : List D}{avs avs' : List AV}{rav : AV}{rsto : Sto}
  (ho : o.op = .call { callee:=.value fop,args:=args,argTypes:=ats }) (hg : o.guard = none) (hdst : o.dst = some d) (hd : Nat.blt d n = true) (hf : ev ⟨fr,sto⟩ fop = some (.one (.d (.fn f caps))))
  (ha : evL ⟨fr,sto⟩ args.toList = some avs) (hD : b9 avs = true) (hap : (avs ++ caps.map fun x=>.one (.d x)) = avs') (hC : CallA P f avs' [] rav rsto) (hfl : ep rav = true)
  (h : aa P ⟨w0,σ0,φ0,M,n,rd,mk⟩ ops rest ⟨(d,rav)::fr,sto⟩ K) : aa P ⟨w0,σ0,φ0,M,n,rd,mk⟩ ops (o::rest) ⟨fr,sto⟩ K:=by
 subst hap
 exact hJ ho hg (by rw [hdst]; exact hd) (Imp.refl _) hf ha hD hC hfl (by rw [hdst]; exact h)
theorem Jl(h1 : jL ops.toList st0 acc.reverse = true)(h2 : K st) : ak P c ops st0 [] st acc K:=⟨h1,h2⟩
theorem lW{tr : Tr}(hg : o.guard = none)(hl : Loc P c o st tr)(h : ak P c ops st0 rest ⟨bc o.dst tr.v st.fr,cm tr.wr st.sto⟩ (tr::acc) K) : ak P c ops st0 (o::rest) st acc K :=
 ⟨true,tr,by unfold fm; rw [hg],fun _=>hl,fun e=>by simp at e,fun e=>by simp at e,h⟩
theorem Gv{tr : Tr}{j : Nat}{want b : Bool}(hg : o.guard = some (j,want))(hb : fE st ops j = some (some b))(hw : b = want)
  (hl : Loc P c o st tr) (h : ak P c ops st0 rest ⟨bc o.dst tr.v st.fr,cm tr.wr st.sto⟩ (tr::acc) K) : ak P c ops st0 (o::rest) st acc K :=
 ⟨true,tr,by unfold fm; rw [hg]; exact ⟨_,hb,by subst hw; simp⟩,fun _=>hl,fun e=>by simp at e,fun e=>by simp at e,h⟩
theorem Jm{d j : Nat}{want b : Bool}(hg : o.guard = some (j,want))(hb : fE st ops j = some (some b))(hw : b = !want)(hdst : o.dst = some d)(hd : Nat.blt d c.n = true)
  (h : ak P c ops st0 rest ⟨(d,.tup [])::st.fr,st.sto⟩ (Tr.none::acc) K) : ak P c ops st0 (o::rest) st acc K :=
 ⟨false,Tr.none,by unfold fm; rw [hg]; exact ⟨_,hb,by subst hw; cases want <;> simp⟩,fun e=>by simp at e,fun _=>rfl,fun _=>by rw [hdst]; exact hd,by rw [hdst]; exact h⟩
theorem pR{j : Nat}{want b : Bool}(hg : o.guard = some (j,want))(hb : fE st ops j = some (some b))(h1 : b = want→ak P c ops st0 (o::rest) st acc K)(h2 : b = !want→ak P c ops st0 (o::rest) st acc K) : ak P c ops st0 (o::rest) st acc K:=by
 by_cases h : b = want
 ·exact h1 h
 ·exact h2 (by cases b <;> cases want <;> simp at h ⊢)
theorem Jn(hV : EnvOk P V){e : Ef}(hd : aB c.n o.dst = true)(h : aG V st o 0 = some e) : Loc P c o st (e.tr (re st o.op)):=lT hV hd h rfl
theorem cA{v : AV}(hv : bQ V.T st o.op = some v) : aG V st o 0 = some ⟨v,[],[]⟩:=by
 simp only [aG,cx,hv]
theorem ze{v : AV}(hp : Ag o.op = true)(hv : bQ V.T st o.op = some v) : aG V st o 0 = some ⟨v,[],[]⟩:=cA hv
theorem mH{op : BinOp}{t ty : TypeId}{x y : Operand}{k k' : IntKind}{a b z : Int}(ho : o.op = .binOp op t x y ty)(hop : zF op = true)
  (hx : ev st x = some (.one (.d (.int k a)))) (hy : ev st y = some (.one (.d (.int k' b)))) (hk : kEq k k' = true) (hz : k.wrap (FD op a b) = z) : aG V st o 0 = some ⟨.one (.d (.int k z)),[],[]⟩:=by
 refine cA ?_
 rw [ho]
 simp only [bQ,hx,hy,ny,hk,cond_true]
 cases op <;> simp [zF] at hop <;> simp only [iP,cond_false,rC,← hz,FD]
theorem sW{x y z : Operand}{b : Bool}{v : AV}(ho : o.op = .pick x y z)(hx : ev st x = some (.one (.d (.bool b))))(hv : ev st (if b then y else z) = some v) : aG V st o 0 = some ⟨v,[],[]⟩:=by
 simp only [aG,cx,bQ,ho,cg,hx,hv]
theorem qP{x y z : Operand}{b : Bool}{v : AV}(ho : o.op = .pick x y z)(hx : ev st x = some (.one (.d (.bool b))))(hb : b = true)(hv : ev st y = some v) : aG V st o 0 = some ⟨v,[],[]⟩:=sW ho hx (by rw [hb]; exact hv)
theorem qQ{x y z : Operand}{b : Bool}{v : AV}(ho : o.op = .pick x y z)(hx : ev st x = some (.one (.d (.bool b))))(hb : b = false)(hv : ev st z = some v) : aG V st o 0 = some ⟨v,[],[]⟩:=sW ho hx (by rw [hb]; exact hv)
theorem d_e(hV : EnvOk P V){d : Nat}{v : AV}(hg : o.guard = none)(hdst : o.dst = some d)(hd : Nat.blt d c.n = true)(h : aG V ⟨fr,sto⟩ o 0 = some ⟨v,[],[]⟩)
  (k : ak P c ops st0 rest ⟨(d,v)::fr,sto⟩ (⟨v,[],re ⟨fr,sto⟩ o.op,[]⟩::acc) K) : ak P c ops st0 (o::rest) ⟨fr,sto⟩ acc K :=
 lW hg (Jn hV (by rw [hdst]; exact hd) h) (by rw [hdst]; exact k)
theorem d_l{d : Nat}{v : AV}(hg : o.guard = none)(hdst : o.dst = some d)(hl : Loc P c o ⟨fr,sto⟩ ⟨v,[],[],[]⟩)
  (k : ak P c ops st0 rest ⟨(d,v)::fr,sto⟩ (⟨v,[],[],[]⟩::acc) K) : ak P c ops st0 (o::rest) ⟨fr,sto⟩ acc K :=
 lW hg hl (by rw [hdst]; exact k)
theorem Gw{j : Nat}{want b : Bool}(hg : o.guard = some (j,want))(hb : fE st ops j = some (some b))(hw : b = want)
  (h : ak P c ops st0 ({ o with guard:=none }::rest) st acc K) : ak P c ops st0 (o::rest) st acc K:=by
 obtain ⟨run,tr,h1,h2,h3,h4,h5⟩:=h
 have hr : run = true:=h1
 subst hr
 exact Gv hg hb hw (h2 rfl) h5
theorem eI{k b k' b' : Nat}{t e : TypeId}{z : List D}{x y : Operand}{xs : List (List D)}{ik : IntKind}{i : Int}{el : List D}
  (ho : o.op = .indexAddr t x y) (ht : aH V.T t = some (e,k',b',z)) (hx : ev st x = some (.one (.d (.sl k b xs)))) (hk : Nat.beq k k' = true)
  (hy : ev st y = some (.one (.d (.int ik i)))) (hi : 0≤i) (hel : xs[i.toNat]? = some el) : aG V st o 0 = some ⟨.one (.d (.ptr el)),[],[]⟩:=by
 simp only [aG,cx,bQ,ho,cg,hx,hy,nP,ht,hk,hi,decide_true,Bool.and_self,cond_true,fu,hel]
theorem yd{t : TypeId}{x y : Operand}{ik : IntKind}{i : Int}{s : List UInt8}{b : UInt8}
  (ho : o.op = .index t x y) (ht : fw V.T t = true) (hx : ev st x = some (.one (.d (.str s))))
  (hy : ev st y = some (.one (.d (.int ik i)))) (hi : 0≤i) (hb : s[i.toNat]? = some b) : aG V st o 0 = some ⟨.one (.d (.int .u8 (b.toNat : Int))),[],[]⟩:=by
 simp only [aG,cx,bQ,ho,cg,hx,hy,qi,ht,hi,decide_true,Bool.and_self,cond_true,fu,hb]
theorem bg{fop : Operand}{args : Array Operand}{ats : Array TypeId}{f : FuncId}{caps : List D}{avs avs' : List AV}{rav : AV}{rsto : Sto}
  (ho : o.op = .call { callee:=.value fop,args:=args,argTypes:=ats }) (hd : aB c.n o.dst = true) (hf : ev st fop = some (.one (.d (.fn f caps))))
  (ha : evL st args.toList = some avs) (hD : b9 avs = true) (hap : (avs ++ caps.map fun x=>.one (.d x)) = avs') (hC : CallA P f avs' [] rav rsto) (hfl : ep rav = true) : Loc P c o st ⟨rav,[],[],[]⟩:=by
 subst hap
 intro st2 hs hri hnew opsA rest K h
 have he : ∀ {x : Operand},x∈o.op.operands.toList→ev st2 x = ev st x:=fun hx=>dX hs hx
 rw [ho] at he
 have ha2 : evL st2 args.toList = some avs:=(iE fun x hx=>he (by simp [Op.operands,Call.operands]; exact .inr (by simpa using hx))).trans ha
 exact hJ (o:={ o with guard:=none }) ho rfl hd (Imp.refl _) ((he (by simp [Op.operands,Call.operands])).trans hf) ha2 hD hC hfl h
theorem pt{t ty : TypeId}{x y : Operand}{k k' : IntKind}{a b z : Int}(ho : o.op = .binOp .add t x y ty)
  (hx : ev st x = some (.one (.d (.int k a)))) (hy : ev st y = some (.one (.d (.int k' b)))) (hk : kEq k k' = true) (hz : k.wrap (a + b) = z) : aG V st o 0 = some ⟨.one (.d (.int k z)),[],[]⟩:=mH ho rfl hx hy hk hz
theorem px{t ty : TypeId}{x y : Operand}{k k' : IntKind}{a b z : Int}(ho : o.op = .binOp .sub t x y ty)
  (hx : ev st x = some (.one (.d (.int k a)))) (hy : ev st y = some (.one (.d (.int k' b)))) (hk : kEq k k' = true) (hz : k.wrap (a - b) = z) : aG V st o 0 = some ⟨.one (.d (.int k z)),[],[]⟩:=mH ho rfl hx hy hk hz
theorem vt{t ty : TypeId}{x y : Operand}{k k' : IntKind}{a b z : Int}(ho : o.op = .binOp .mul t x y ty)
  (hx : ev st x = some (.one (.d (.int k a)))) (hy : ev st y = some (.one (.d (.int k' b)))) (hk : kEq k k' = true) (hz : k.wrap (a * b) = z) : aG V st o 0 = some ⟨.one (.d (.int k z)),[],[]⟩:=mH ho rfl hx hy hk hz
theorem ve{t ty : TypeId}{x y : Operand}{k k' : IntKind}{a b : Int}(ho : o.op = .binOp .rem t x y ty)
  (hx : ev st x = some (.one (.d (.int k a)))) (hy : ev st y = some (.one (.d (.int k' b)))) (hk : kEq k k' = true) (h0 : ¬ b = 0) : aG V st o 0 = some ⟨.one (.d (.int k (a.tmod b))),[],[]⟩:=by
 simp only [aG,cx,bQ,ho,hx,hy,ny,iP,cond_false,hk,cond_true,rC,cg,kJ,gH,tW,h0,decide_false,Bool.not_false,Bool.and_self]
 cases o.dst <;> simp [fS]
theorem CT{t ty : TypeId}{x y : Operand}{k k' : IntKind}{a b z : Int}(ho : o.op = .binOp .quo t x y ty)
  (hx : ev st x = some (.one (.d (.int k a)))) (hy : ev st y = some (.one (.d (.int k' b)))) (hk : kEq k k' = true) (h0 : ¬ b = 0) (hz : k.wrap (a.tdiv b) = z) : aG V st o 0 = some ⟨.one (.d (.int k z)),[],[]⟩:=by
 subst hz
 simp only [aG,cx,bQ,ho,hx,hy,ny,iP,cond_false,hk,cond_true,rC,cg,kJ,gH,tW,h0,decide_false,Bool.not_false,Bool.and_self]
 cases o.dst <;> simp [fS]
theorem jY{z : Int}(h1 : 0≤z)(h2 : z≤18446744073709551615) : IntKind.u64.wrap z = z :=
 tM ⟨by simp [IntKind.min,IntKind.signed]; exact h1,by simp [IntKind.max,IntKind.signed,IntKind.bits]; exact h2⟩
theorem Gx{z : Int}(h1 : 0≤z)(h2 : z≤4294967295) : IntKind.u32.wrap z = z :=
 tM ⟨by simp [IntKind.min,IntKind.signed]; exact h1,by simp [IntKind.max,IntKind.signed,IntKind.bits]; exact h2⟩
def FM(T : Tab)(t : TypeId) : Bool:=match look T t with | some _=>true | none=>false
theorem Dm{t : TypeId}{x : Operand}{k : IntKind}{a z : Int}(ho : o.op = .unOp .neg t x)
  (hx : ev st x = some (.one (.d (.int k a)))) (hz : k.wrap (0 - a) = z) : aG V st o 0 = some ⟨.one (.d (.int k z)),[],[]⟩:=by
 subst hz
 exact cA (by simp only [ho,bQ,hx,unF])
def Dn(T : Tab)(t : TypeId)(k : IntKind) : Bool:=match look T t with | some ⟨.int k',_,_,_⟩=>kEq k' k | _=>false
theorem ox{src dst : TypeId}{x : Operand}{k k' : IntKind}{a z : Int}(ho : o.op = .convert src dst x)
  (hx : ev st x = some (.one (.d (.int k a)))) (hs : FM V.T src = true) (hd : Dn V.T dst k' = true) (hz : k'.wrap a = z) : aG V st o 0 = some ⟨.one (.d (.int k' z)),[],[]⟩:=by
 subst hz
 refine cA ?_
 unfold FM at hs
 unfold Dn at hd
 split at hs <;> (try (simp at hs; done))
 rename_i td hs'
 split at hd <;> (try (simp at hd; done))
 rename_i k'' h1 h2 h3 hd'
 obtain rfl:=eW hd
 simp only [ho,bQ,hx,vW,hs',hd']
theorem Gy(hT : aI P T){d : Nat}{src dst : TypeId}{x : Operand}{s : List UInt8}(ho : o.op = .convert src dst x)(hg : o.guard = none)(hdst : o.dst = some d)(hd : Nat.blt d n = true)(hb : (fw T src && lL T dst) = true)
  (hx : ev ⟨fr,sto⟩ x = some (.one (.d (.str s)))) (hl : s.length≤1000000) (h : aa P ⟨w0,σ0,φ0,M,n,rd,mk⟩ ops rest ⟨(d,.one (.d (nh s)))::fr,sto⟩ K) : aa P ⟨w0,σ0,φ0,M,n,rd,mk⟩ ops (o::rest) ⟨fr,sto⟩ K :=
 qR hT ho hg (by rw [hdst]; exact hd) hb hx (by omega) (by rw [hdst]; exact h)
theorem s_e(hV : EnvOk P V){d : Nat}{v : AV}(hg : o.guard = none)(hdst : o.dst = some d)(hd : Nat.blt d n = true)(h : aG V ⟨fr,sto⟩ o 0 = some ⟨v,[],[]⟩)
  (hk : aa P ⟨w0,σ0,φ0,M,n,rd,mk⟩ ops rest ⟨(d,v)::fr,sto⟩ K) : aa P ⟨w0,σ0,φ0,M,n,rd,mk⟩ ops (o::rest) ⟨fr,sto⟩ K :=
 yc hV (dst:=some d) hg hdst hd h rfl hk
theorem gK(hT : aI P T)(id : Nat){d : Nat}{t : TypeId}{td : TD}(ho : o.op = .alloc t)(hg : o.guard = none)(hdst : o.dst = some d)(hd : (Nat.blt d n && (Nat.blt id 1000000 && (!aW sto id && !bh id fr && !ay id sto))) = true)(ht : look T t = some td)
  (h : aa P ⟨w0,σ0,φ0,M,n,rd,mk⟩ ops rest ⟨(d,.one (.ref id 0))::fr,(id,.box (td.zero.map .d))::sto⟩ K) : aa P ⟨w0,σ0,φ0,M,n,rd,mk⟩ ops (o::rest) ⟨fr,sto⟩ K:=by
 simp only [Bool.and_eq_true,Bool.not_eq_true'] at hd
 exact qz hT ho hg hdst (by simp only [Bool.and_eq_true]; exact ⟨hd.1,hd.2.1⟩) ht hd.2.2.1.2 hd.2.2.2 h
theorem mN(hV : EnvOk P V){i : Nat}{ob : AObj}(hg : o.guard = none)(hdst : o.dst = none)(h : aG V ⟨fr,sto⟩ o 0 = some ⟨.any,[(i,some ob)],[]⟩)(hk : aa P ⟨w0,σ0,φ0,M,n,rd,mk⟩ ops rest ⟨fr,bE i ob sto⟩ K) :
  aa P ⟨w0,σ0,φ0,M,n,rd,mk⟩ ops (o::rest) ⟨fr,sto⟩ K:=yc hV (dst:=none) hg hdst rfl h rfl hk
theorem Jo(hV : EnvOk P V){d f : Nat}{caps : Array Operand}{v : AV}{wr : List (Nat×Option AObj)}(ho : o.op = .makeFunc (.func f) ⟨[]⟩ caps)(hg : o.guard = none)(hdst : o.dst = some d)(hd : Nat.blt d n = true)(h : aG V ⟨fr,sto⟩ o 0 = some ⟨v,wr,[]⟩)
  (hk : aa P ⟨w0,σ0,φ0,M,n,rd,mk⟩ ops rest ⟨(d,v)::fr,cm wr sto⟩ K) : aa P ⟨w0,σ0,φ0,M,n,rd,mk⟩ ops (o::rest) ⟨fr,sto⟩ K:=yc hV (dst:=some d) hg hdst hd h rfl hk
theorem ye{x : Operand}{p q : Code}{Q : Exit→St→Prop}(hx : ev st x = some (.one (.d (.bool true))))(ht : OkC P c p st Q) : OkC P c (.cond x p q) st Q:=ai hx (fun _=>ht) (fun h=>by simp at h)
theorem yg{x : Operand}{p q : Code}{Q : Exit→St→Prop}(hx : ev st x = some (.one (.d (.bool false))))(ht : OkC P c q st Q) : OkC P c (.cond x p q) st Q:=ai hx (fun h=>by simp at h) (fun _=>ht)
theorem Dp{x : Operand}{p q : Code}{Q : Exit→St→Prop}{b : Bool}(hx : ev st x = some (.one (.d (.bool b))))(hb : b = true)(ht : OkC P c p st Q) : OkC P c (.cond x p q) st Q:=ye (by rw [hx,hb]) ht
theorem Dq{x : Operand}{p q : Code}{Q : Exit→St→Prop}{b : Bool}(hx : ev st x = some (.one (.d (.bool b))))(hb : b = false)(ht : OkC P c q st Q) : OkC P c (.cond x p q) st Q:=yg (by rw [hx,hb]) ht
theorem iF{fr fr' : List (Nat×AV)}(h : SubL fr fr') : Imp c ⟨fr,sto⟩ ⟨fr',sto⟩:=fun a w σ φ hr=>by
 exact ⟨σ,φ,⟨hr.le,hr.fresh,hr.inv,hr.mine,fun s v hv=>hr.slot s v (h.look hv),hr.defers,hr.size,hr.fra,hr.pin⟩⟩
theorem aS{α : Type}{fr : List (Nat×α)} : SubL fr []:=trivial
theorem ah{α : Type}{fr r : List (Nat×α)}{s : Nat}{v : α}(h : look fr s = some v)(ht : SubL fr r) : SubL fr ((s,v)::r):=⟨h,ht⟩
theorem q1Q{α : Type}{fr : List (Nat×α)}{s0 : Nat}{v0 : α}(h0 : look fr s0 = some v0) : SubL fr [(s0,v0)]:=ah h0 aS
theorem q2Q{α : Type}{fr : List (Nat×α)}{s0 s1 : Nat}{v0 v1 : α}(h0 : look fr s0 = some v0)(h1 : look fr s1 = some v1) : SubL fr [(s0,v0),(s1,v1)]:=ah h0 (ah h1 aS)
theorem q3Q{α : Type}{fr : List (Nat×α)}{s0 s1 s2 : Nat}{v0 v1 v2 : α}(h0 : look fr s0 = some v0)(h1 : look fr s1 = some v1)(h2 : look fr s2 = some v2) : SubL fr [(s0,v0),(s1,v1),(s2,v2)]:=ah h0 (ah h1 (ah h2 aS))
theorem q4Q{α : Type}{fr : List (Nat×α)}{s0 s1 s2 s3 : Nat}{v0 v1 v2 v3 : α}(h0 : look fr s0 = some v0)(h1 : look fr s1 = some v1)(h2 : look fr s2 = some v2)(h3 : look fr s3 = some v3) : SubL fr [(s0,v0),(s1,v1),(s2,v2),(s3,v3)]:=ah h0 (ah h1 (ah h2 (ah h3 aS)))
theorem q5Q{α : Type}{fr : List (Nat×α)}{s0 s1 s2 s3 s4 : Nat}{v0 v1 v2 v3 v4 : α}(h0 : look fr s0 = some v0)(h1 : look fr s1 = some v1)(h2 : look fr s2 = some v2)(h3 : look fr s3 = some v3)(h4 : look fr s4 = some v4) : SubL fr [(s0,v0),(s1,v1),(s2,v2),(s3,v3),(s4,v4)]:=ah h0 (ah h1 (ah h2 (ah h3 (ah h4 aS))))
theorem q6Q{α : Type}{fr : List (Nat×α)}{s0 s1 s2 s3 s4 s5 : Nat}{v0 v1 v2 v3 v4 v5 : α}(h0 : look fr s0 = some v0)(h1 : look fr s1 = some v1)(h2 : look fr s2 = some v2)(h3 : look fr s3 = some v3)(h4 : look fr s4 = some v4)(h5 : look fr s5 = some v5) : SubL fr [(s0,v0),(s1,v1),(s2,v2),(s3,v3),(s4,v4),(s5,v5)]:=ah h0 (ah h1 (ah h2 (ah h3 (ah h4 (ah h5 aS)))))
theorem q7Q{α : Type}{fr : List (Nat×α)}{s0 s1 s2 s3 s4 s5 s6 : Nat}{v0 v1 v2 v3 v4 v5 v6 : α}(h0 : look fr s0 = some v0)(h1 : look fr s1 = some v1)(h2 : look fr s2 = some v2)(h3 : look fr s3 = some v3)(h4 : look fr s4 = some v4)(h5 : look fr s5 = some v5)(h6 : look fr s6 = some v6) : SubL fr [(s0,v0),(s1,v1),(s2,v2),(s3,v3),(s4,v4),(s5,v5),(s6,v6)]:=ah h0 (ah h1 (ah h2 (ah h3 (ah h4 (ah h5 (ah h6 aS))))))
theorem q8Q{α : Type}{fr : List (Nat×α)}{s0 s1 s2 s3 s4 s5 s6 s7 : Nat}{v0 v1 v2 v3 v4 v5 v6 v7 : α}(h0 : look fr s0 = some v0)(h1 : look fr s1 = some v1)(h2 : look fr s2 = some v2)(h3 : look fr s3 = some v3)(h4 : look fr s4 = some v4)(h5 : look fr s5 = some v5)(h6 : look fr s6 = some v6)(h7 : look fr s7 = some v7) : SubL fr [(s0,v0),(s1,v1),(s2,v2),(s3,v3),(s4,v4),(s5,v5),(s6,v6),(s7,v7)]:=ah h0 (ah h1 (ah h2 (ah h3 (ah h4 (ah h5 (ah h6 (ah h7 aS)))))))
theorem q9Q{α : Type}{fr : List (Nat×α)}{s0 s1 s2 s3 s4 s5 s6 s7 s8 : Nat}{v0 v1 v2 v3 v4 v5 v6 v7 v8 : α}(h0 : look fr s0 = some v0)(h1 : look fr s1 = some v1)(h2 : look fr s2 = some v2)(h3 : look fr s3 = some v3)(h4 : look fr s4 = some v4)(h5 : look fr s5 = some v5)(h6 : look fr s6 = some v6)(h7 : look fr s7 = some v7)(h8 : look fr s8 = some v8) : SubL fr [(s0,v0),(s1,v1),(s2,v2),(s3,v3),(s4,v4),(s5,v5),(s6,v6),(s7,v7),(s8,v8)]:=ah h0 (ah h1 (ah h2 (ah h3 (ah h4 (ah h5 (ah h6 (ah h7 (ah h8 aS))))))))
theorem a0A : type_of% @decide_eq_true_eq:=@decide_eq_true_eq
theorem a1A : type_of% @decide_eq_false_iff_not:=@decide_eq_false_iff_not
theorem a2A : type_of% @Bool.not_eq_true':=@Bool.not_eq_true'
theorem a3A : type_of% @Bool.not_true:=@Bool.not_true
theorem a4A : type_of% @Bool.not_false:=@Bool.not_false
theorem a5A : type_of% @List.length_map:=@List.length_map
theorem a6A : type_of% @List.length_set:=@List.length_set
theorem a7A : type_of% @bne_iff_ne:=@bne_iff_ne
theorem a8A : type_of% @ne_eq:=@ne_eq
theorem a9A : type_of% @beq_iff_eq:=@beq_iff_eq
theorem Eh : type_of% @bne_eq_false_iff_eq:=@bne_eq_false_iff_eq
theorem Ht : type_of% @beq_eq_false_iff_ne:=@beq_eq_false_iff_ne
theorem rJ : type_of% @List.length_cons:=@List.length_cons
theorem rK : type_of% @List.length_nil:=@List.length_nil
theorem tZ : type_of% @List.length_append:=@List.length_append
theorem ua : type_of% @List.length_take:=@List.length_take
theorem ub : type_of% @List.length_drop:=@List.length_drop
theorem rB : type_of% @Int.toNat_natCast:=@Int.toNat_natCast
def iH : Code→Nat
 | .region id _ _=>id
 | .seq x _=>iH x
 | .block _ x=>iH x
 | .loop x=>iH x
 | _=>0
theorem aY{α : Type}{body : Code}{Q : Exit→St→Prop}(rg : Nat)(hrg : iH body = rg)(kept : List (Nat×AV))(hk : SubL fr kept)(L : α→List (Nat×AV))(Inv : α→Prop)(μ : α→Nat)(x0 : α)(hL : SubL fr (L x0))(h0 : Inv x0)
  (hround : ∀ x,Inv x→OkC P c body ⟨L x ++ kept,sto⟩ (ar (fun st'=>∃ y,Inv y∧μ y < μ x∧SubL st'.sto sto∧SubL st'.fr (L y)∧SubL st'.fr kept) Q)) : OkC P c (.loop body) ⟨fr,sto⟩ Q:=by
 have hap : ∀ {f a b : List (Nat×AV)},SubL f a→SubL f b→SubL f (a ++ b):=by
  intro f a b h1 h2
  induction a with
  | nil=>exact h2
  | cons p r ih=>exact ⟨h1.1,ih h1.2⟩
 refine bL (st':=⟨L x0 ++ kept,sto⟩) (iF (hap hL hk)) ?_
 refine mO (fun n st=>∃ x,Inv x∧n = μ x∧st = ⟨L x ++ kept,sto⟩) (μ x0) ⟨x0,h0,rfl,rfl⟩ ?_
 rintro n st ⟨x,hx,rfl,rfl⟩
 refine iL (hround x hx) fun e st h=>?_
 cases e with
 | normal =>
   obtain ⟨y,hy,hlt,hs,h1,h2⟩:=h
   obtain ⟨f,s⟩:=st
   simp only at hs h1 h2
   exact ⟨μ y,_,hlt,⟨y,hy,rfl,rfl⟩,Imp.trans (iF (hap h1 h2)) (fun a w σ φ hr=>⟨σ,φ,hr.dropTo fun i e h=>hs.look h⟩)⟩
 | _=>exact h
theorem Il{f : St→Prop}{Q : Exit→St→Prop}(h : f st) : ar f Q .normal st:=h
theorem Im{f : St→Prop}{Q : Exit→St→Prop}(h : Q .ret st) : ar f Q .ret st:=h
theorem Io{f : St→Prop}{Q : Exit→St→Prop}{i : Nat}(h : Q (.exit i) st) : ar f Q (.exit i) st:=h
theorem Gz{i : Nat}{Q : Exit→St→Prop}(h : Q .normal st) : al i Q .normal st:=h
theorem GA{i : Nat}{Q : Exit→St→Prop}(h : Q .ret st) : al i Q .ret st:=h
theorem GB{i j : Nat}{Q : Exit→St→Prop}(hb : Nat.beq j i = true)(h : Q .normal st) : al i Q (.exit j) st:=by simp only [al,hb,cond_true]; exact h
theorem GC{i j : Nat}{Q : Exit→St→Prop}(hb : Nat.beq j i = false)(h : Q (.exit j) st) : al i Q (.exit j) st:=by simp only [al,hb,cond_false]; exact h
def OkD(d : D) : Prop:=∃ σ v,Rep σ d v
theorem OkD.str{s : List UInt8}(h : OkD (.str s)) : s.length < 281474976710656:=by
 obtain ⟨σ,v,h⟩:=h
 cases h with
 | str h=>simpa using h
theorem OkD.int{k : IntKind}{z : Int}(h : OkD (.int k z)) : inR k z:=by
 obtain ⟨σ,v,h⟩:=h
 cases h with
 | int h=>exact h
theorem OkD.i64{z : Int}(h : OkD (.int .i64 z)) : -9223372036854775808≤z∧z≤9223372036854775807:=by
 have:=h.int
 simpa [inR,IntKind.min,IntKind.max,IntKind.signed,IntKind.bits] using this
theorem OkD.sl{k b : Nat}{xs : List (List D)}(h : OkD (.sl k b xs)) : xs.length < 281474976710656∧xs.length * b≤140737488355328∧∀ x∈xs,x.length = k∧∀ d∈x,OkD d:=by
 obtain ⟨σ,v,h⟩:=h
 cases h with
 | sl vs hc h48 hb hk hA hh =>
   refine ⟨by simpa using h48,by simpa using hb,fun x hx=>⟨hk x hx,fun d hd=>?_⟩⟩
   obtain ⟨i,hi⟩:=List.getElem?_of_mem hx
   obtain ⟨j,hj⟩:=List.getElem?_of_mem hd
   exact ⟨σ,_,hh i j x d hi hj⟩
def ER : AC→Prop
 | .d d=>OkD d
 | _=>True
def MS : AV→Prop
 | .one c=>ER c
 | .agg cs=>∀ c∈cs,ER c
 | _=>True
def BF : List AV→Prop
 | []=>True
 | v::r=>MS v∧BF r
theorem yh{σ : Sig}{φ : Pl}{sto : Sto} : ∀ {avs : List AV} {vs : List Value},All2 (RepV σ φ sto) avs vs→BF avs
 | [],[],_=>trivial
 | v::r,u::us,h=>by
   refine ⟨?_,yh h.2⟩
   have h1:=h.1
   have key : ∀ {x : AC} {u : Value},RepC σ φ sto x u→ER x:=by
    intro x u h
    cases x with
    | d d=>exact ⟨σ,_,RepC.d_inv h⟩
    | _=>trivial
   cases v with
   | one x=>exact key h1
   | agg cs =>
     obtain ⟨vs,rfl,h2⟩:=h1
     intro x hx
     obtain ⟨j,hj⟩:=List.getElem?_of_mem hx
     obtain ⟨w,_,hr⟩:=h2.get hj
     exact key hr
   | _=>trivial
 | [],_::_,h=>h.elim
 | _::_,[],h=>h.elim
theorem enter(hT : aI P T){f : FuncId}{fn : Func}{code : Code}{args : List AV}{sto : Sto}{rav : AV}{rsto : Sto}(hf : P.funcs[f]? = some fn)(hb : fn.body = some code)
  (hname : (fn.name == "runtime.NumGoroutine") = false) (hn : Nat.ble args.length fn.ntmps = true)
  (h : BF args→∀ (w0 : World) (σ0 : Sig) (φ0 : Pl) (M : Nat→Prop),OkC P ⟨w0,σ0,φ0,M,fn.ntmps,none,[]⟩ code ⟨kD 0 args,sto⟩ (ax T fn.results.toList rav rsto)) : CallA P f args sto rav rsto :=
 ⟨⟨fn,hf,hname,by rw [hb]; rfl⟩,fun w σ φ vs hinv hargs=>(qS hT hf hb hname hn (h (yh hargs))).run w σ φ vs hinv hargs⟩
def at_{α : Type}[Inhabited α](l : List α)(i : Nat) : α:=l.getD i default
theorem ib{α : Type}[Inhabited α]{l : List α}{i : Nat}(h : i < l.length) : l[i]? = some (at_ l i):=by simp [at_,List.getD_eq_getElem?_getD,h]
theorem ji{α β : Type}[Inhabited α]{f : α→β}{l : List α}{i : Nat}(h : i < l.length) : (l.map f)[i]? = some (f (at_ l i)):=by simp [ib h]
theorem aj{α : Type}[Inhabited α]{l : List α}{i : Nat}(h : i < l.length) : l.drop i = at_ l i::l.drop (i + 1):=by
 rw [List.drop_eq_getElem_cons h]
 have:=ib h
 rw [List.getElem?_eq_getElem h] at this
 rw [Option.some.inj this]
theorem eD{α : Type}[Inhabited α]{l : List α}{i : Nat}(h : i < l.length) : l.take (i + 1) = l.take i ++ [at_ l i]:=by
 rw [List.take_add_one,ib h]; rfl
theorem dh{α : Type}[Inhabited α]{l : List α}{i : Nat}(h : i < l.length) : at_ l i∈l:=List.mem_of_getElem? (ib h)
theorem xG{α : Type}[Inhabited α]{l : List α}{n i : Nat}(h : i < n) : at_ (l.take n) i = at_ l i:=by
 simp only [at_,List.getD_eq_getElem?_getD,List.getElem?_take,h,if_true]
theorem jW{α β : Type}[Inhabited α][Inhabited β]{f : α→β}{l : List α}{i : Nat}(h : i < l.length) : at_ (l.map f) i = f (at_ l i):=by
 simp [at_,List.getD_eq_getElem?_getD,h]
theorem ES{α β : Type}[Inhabited α][BEq β][LawfulBEq β]{f : α→β}{l : List α}{j k : Nat}{x : β}(hj : j < k)(hk : k≤l.length)(h : f (at_ l j) = x) : ((l.take k).map f).contains x = true:=by
 subst h
 simp only [List.contains_iff_mem,List.mem_map]
 exact ⟨_,List.mem_of_getElem? (i:=j) (by rw [List.getElem?_take,if_pos hj]; exact ib (by omega)),rfl⟩
theorem ET{T : Tab}{rs : List ResultVar}{rav rav' : AV}{e : Exit}{st : St}{l : List (Bool×List AC)}(he : e = .ret∨e = .normal)(hl : lv T st rs = some l)(hr : nJ l = some rav')(h : rav' = rav) : ax T rs rav [] e st :=
 ⟨he,l,hl,by rw [hr,h],by first | exact SubL.nil | (intro i; simp [look]) | trivial⟩
theorem gQ0{Q : Prop}{x1 x2 x3 x4 x5 x6 x7 x8 x9 x10 x11 x12}(h : Q→aa x1 x2 x3 (Oper.mk x4 (x5) x6 x7 x8 (some x9)::x10) x11 x12) : Q→aa x1 x2 x3 (Oper.mk x4 (x5) x6 x7 x8 (some x9)::x10) x11 x12:=h
theorem gQ1{Q : Prop}{x1 x2 x3 x4 x5 x6 x7 x8 x9 x10 x11 x12}(h : Q→aa x1 x2 x3 (Oper.mk x4 (Op.call x5) x6 x7 x8 (x9)::x10) x11 x12) : Q→aa x1 x2 x3 (Oper.mk x4 (Op.call x5) x6 x7 x8 (x9)::x10) x11 x12:=h
theorem gQ2{Q : Prop}{x1 x2 x3 x4 x5 x6 x7 x8 x9 x10 x11 x12 x13 x14}(h : Q→aa x1 x2 x3 (Oper.mk x4 (Op.convert x5 x6 x7) x8 x9 x10 (x11)::x12) x13 x14) : Q→aa x1 x2 x3 (Oper.mk x4 (Op.convert x5 x6 x7) x8 x9 x10 (x11)::x12) x13 x14:=h
theorem gQ3{Q : Prop}{x1 x2 x3 x4 x5 x6 x7 x8 x9 x10 x11 x12 x13 x14 x15}(h : Q→aa x1 x2 x3 (Oper.mk x4 (Op.binOp .add x5 x6 x7 x8) x9 x10 x11 (x12)::x13) x14 x15) : Q→aa x1 x2 x3 (Oper.mk x4 (Op.binOp .add x5 x6 x7 x8) x9 x10 x11 (x12)::x13) x14 x15:=h
theorem gQ4{Q : Prop}{x1 x2 x3 x4 x5 x6 x7 x8 x9 x10 x11 x12 x13 x14 x15}(h : Q→aa x1 x2 x3 (Oper.mk x4 (Op.binOp .sub x5 x6 x7 x8) x9 x10 x11 (x12)::x13) x14 x15) : Q→aa x1 x2 x3 (Oper.mk x4 (Op.binOp .sub x5 x6 x7 x8) x9 x10 x11 (x12)::x13) x14 x15:=h
theorem gQ5{Q : Prop}{x1 x2 x3 x4 x5 x6 x7 x8 x9 x10 x11 x12 x13 x14 x15}(h : Q→aa x1 x2 x3 (Oper.mk x4 (Op.binOp .mul x5 x6 x7 x8) x9 x10 x11 (x12)::x13) x14 x15) : Q→aa x1 x2 x3 (Oper.mk x4 (Op.binOp .mul x5 x6 x7 x8) x9 x10 x11 (x12)::x13) x14 x15:=h
theorem gQ6{Q : Prop}{x1 x2 x3 x4 x5 x6 x7 x8 x9 x10 x11 x12 x13 x14 x15}(h : Q→aa x1 x2 x3 (Oper.mk x4 (Op.binOp .rem x5 x6 x7 x8) x9 x10 x11 (x12)::x13) x14 x15) : Q→aa x1 x2 x3 (Oper.mk x4 (Op.binOp .rem x5 x6 x7 x8) x9 x10 x11 (x12)::x13) x14 x15:=h
theorem gQ7{Q : Prop}{x1 x2 x3 x4 x5 x6 x7 x8 x9 x10 x11 x12 x13 x14 x15}(h : Q→aa x1 x2 x3 (Oper.mk x4 (Op.binOp .quo x5 x6 x7 x8) x9 x10 x11 (x12)::x13) x14 x15) : Q→aa x1 x2 x3 (Oper.mk x4 (Op.binOp .quo x5 x6 x7 x8) x9 x10 x11 (x12)::x13) x14 x15:=h
theorem gQ8{Q : Prop}{x1 x2 x3 x4 x5 x6 x7 x8 x9 x10 x11 x12 x13}(h : Q→aa x1 x2 x3 (Oper.mk x4 (Op.unOp .neg x5 x6) x7 x8 x9 (x10)::x11) x12 x13) : Q→aa x1 x2 x3 (Oper.mk x4 (Op.unOp .neg x5 x6) x7 x8 x9 (x10)::x11) x12 x13:=h
theorem gQ9{Q : Prop}{x1 x2 x3 x4 x5 x6 x7 x8 x9 x10 x11 x12 x13 x14}(h : Q→aa x1 x2 x3 (Oper.mk x4 (Op.pick x5 x6 x7) x8 x9 x10 (x11)::x12) x13 x14) : Q→aa x1 x2 x3 (Oper.mk x4 (Op.pick x5 x6 x7) x8 x9 x10 (x11)::x12) x13 x14:=h
theorem MT{Q : Prop}{x1 x2 x3 x4 x5 x6 x7 x8 x9 x10 x11 x12 x13 x14}(h : Q→aa x1 x2 x3 (Oper.mk x4 (Op.indexAddr x5 x6 x7) x8 x9 x10 (x11)::x12) x13 x14) : Q→aa x1 x2 x3 (Oper.mk x4 (Op.indexAddr x5 x6 x7) x8 x9 x10 (x11)::x12) x13 x14:=h
theorem MU{Q : Prop}{x1 x2 x3 x4 x5 x6 x7 x8 x9 x10 x11 x12 x13 x14}(h : Q→aa x1 x2 x3 (Oper.mk x4 (Op.index x5 x6 x7) x8 x9 x10 (x11)::x12) x13 x14) : Q→aa x1 x2 x3 (Oper.mk x4 (Op.index x5 x6 x7) x8 x9 x10 (x11)::x12) x13 x14:=h
theorem MV{Q : Prop}{x1 x2 x3 x4 x5 x6 x7 x8 x9 x10 x11 x12 x13}(h : Q→aa x1 x2 x3 (Oper.mk x4 (Op.load x5 x6) x7 x8 x9 (x10)::x11) x12 x13) : Q→aa x1 x2 x3 (Oper.mk x4 (Op.load x5 x6) x7 x8 x9 (x10)::x11) x12 x13:=h
theorem MW{Q : Prop}{x1 x2 x3 x4 x5 x6 x7 x8 x9 x10 x11 x12 x13}(h : Q→aa x1 x2 x3 (Oper.mk x4 (Op.box x5 x6) x7 x8 x9 (x10)::x11) x12 x13) : Q→aa x1 x2 x3 (Oper.mk x4 (Op.box x5 x6) x7 x8 x9 (x10)::x11) x12 x13:=h
theorem MX{Q : Prop}{x1 x2 x3 x4 x5 x6 x7 x8 x9 x10 x11 x12}(h : Q→aa x1 x2 x3 (Oper.mk x4 (Op.alloc x5) x6 x7 x8 (x9)::x10) x11 x12) : Q→aa x1 x2 x3 (Oper.mk x4 (Op.alloc x5) x6 x7 x8 (x9)::x10) x11 x12:=h
theorem MY{Q : Prop}{x1 x2 x3 x4 x5 x6}(h : Q→aa x1 x2 x3 x4 x5 x6) : Q→aa x1 x2 x3 x4 x5 x6:=h
theorem MZ{Q : Prop}{x1 x2 x3 x4 x5}(h : Q→OkC x1 x2 x3 x4 x5) : Q→OkC x1 x2 x3 x4 x5:=h
theorem M0{Q : Prop}{x1 x2 x3 x4 x5 x6 x7 x8 x9 x10 x11 x12 x13 x14}(h : Q→ak x1 x2 x3 x4 (Oper.mk x5 (Op.call x6) x7 x8 x9 (x10)::x11) x12 x13 x14) : Q→ak x1 x2 x3 x4 (Oper.mk x5 (Op.call x6) x7 x8 x9 (x10)::x11) x12 x13 x14:=h
theorem M3{Q : Prop}{x1 x2 x3 x4 x5 x6 x7 x8 x9 x10 x11 x12 x13 x14}(h : Q→ak x1 x2 x3 x4 (Oper.mk x5 (x6) x7 x8 x9 (some x10)::x11) x12 x13 x14) : Q→ak x1 x2 x3 x4 (Oper.mk x5 (x6) x7 x8 x9 (some x10)::x11) x12 x13 x14:=h
theorem M4{Q : Prop}{x1 x2 x3 x4 x5 x6 x7 x8 x9 x10 x11 x12 x13 x14 x15 x16 x17}(h : Q→ak x1 x2 x3 x4 (Oper.mk x5 (Op.binOp .add x6 x7 x8 x9) x10 x11 x12 (x13)::x14) x15 x16 x17) : Q→ak x1 x2 x3 x4 (Oper.mk x5 (Op.binOp .add x6 x7 x8 x9) x10 x11 x12 (x13)::x14) x15 x16 x17:=h
theorem M5{Q : Prop}{x1 x2 x3 x4 x5 x6 x7 x8 x9 x10 x11 x12 x13 x14 x15 x16 x17}(h : Q→ak x1 x2 x3 x4 (Oper.mk x5 (Op.binOp .sub x6 x7 x8 x9) x10 x11 x12 (x13)::x14) x15 x16 x17) : Q→ak x1 x2 x3 x4 (Oper.mk x5 (Op.binOp .sub x6 x7 x8 x9) x10 x11 x12 (x13)::x14) x15 x16 x17:=h
theorem M6{Q : Prop}{x1 x2 x3 x4 x5 x6 x7 x8 x9 x10 x11 x12 x13 x14 x15 x16 x17}(h : Q→ak x1 x2 x3 x4 (Oper.mk x5 (Op.binOp .mul x6 x7 x8 x9) x10 x11 x12 (x13)::x14) x15 x16 x17) : Q→ak x1 x2 x3 x4 (Oper.mk x5 (Op.binOp .mul x6 x7 x8 x9) x10 x11 x12 (x13)::x14) x15 x16 x17:=h
theorem M7{Q : Prop}{x1 x2 x3 x4 x5 x6 x7 x8 x9 x10 x11 x12 x13 x14 x15 x16 x17}(h : Q→ak x1 x2 x3 x4 (Oper.mk x5 (Op.binOp .rem x6 x7 x8 x9) x10 x11 x12 (x13)::x14) x15 x16 x17) : Q→ak x1 x2 x3 x4 (Oper.mk x5 (Op.binOp .rem x6 x7 x8 x9) x10 x11 x12 (x13)::x14) x15 x16 x17:=h
theorem M8{Q : Prop}{x1 x2 x3 x4 x5 x6 x7 x8 x9 x10 x11 x12 x13 x14 x15 x16 x17}(h : Q→ak x1 x2 x3 x4 (Oper.mk x5 (Op.binOp .quo x6 x7 x8 x9) x10 x11 x12 (x13)::x14) x15 x16 x17) : Q→ak x1 x2 x3 x4 (Oper.mk x5 (Op.binOp .quo x6 x7 x8 x9) x10 x11 x12 (x13)::x14) x15 x16 x17:=h
theorem M9{Q : Prop}{x1 x2 x3 x4 x5 x6 x7 x8 x9 x10 x11 x12 x13 x14 x15}(h : Q→ak x1 x2 x3 x4 (Oper.mk x5 (Op.unOp .neg x6 x7) x8 x9 x10 (x11)::x12) x13 x14 x15) : Q→ak x1 x2 x3 x4 (Oper.mk x5 (Op.unOp .neg x6 x7) x8 x9 x10 (x11)::x12) x13 x14 x15:=h
theorem Na{Q : Prop}{x1 x2 x3 x4 x5 x6 x7 x8 x9 x10 x11 x12 x13 x14 x15 x16}(h : Q→ak x1 x2 x3 x4 (Oper.mk x5 (Op.convert x6 x7 x8) x9 x10 x11 (x12)::x13) x14 x15 x16) : Q→ak x1 x2 x3 x4 (Oper.mk x5 (Op.convert x6 x7 x8) x9 x10 x11 (x12)::x13) x14 x15 x16:=h
theorem Nu{Q : Prop}{x1 x2 x3 x4 x5 x6 x7 x8 x9 x10 x11 x12 x13 x14 x15 x16}(h : Q→ak x1 x2 x3 x4 (Oper.mk x5 (Op.pick x6 x7 x8) x9 x10 x11 (x12)::x13) x14 x15 x16) : Q→ak x1 x2 x3 x4 (Oper.mk x5 (Op.pick x6 x7 x8) x9 x10 x11 (x12)::x13) x14 x15 x16:=h
theorem Nv{Q : Prop}{x1 x2 x3 x4 x5 x6 x7 x8 x9 x10 x11 x12 x13 x14 x15 x16}(h : Q→ak x1 x2 x3 x4 (Oper.mk x5 (Op.indexAddr x6 x7 x8) x9 x10 x11 (x12)::x13) x14 x15 x16) : Q→ak x1 x2 x3 x4 (Oper.mk x5 (Op.indexAddr x6 x7 x8) x9 x10 x11 (x12)::x13) x14 x15 x16:=h
theorem Nw{Q : Prop}{x1 x2 x3 x4 x5 x6 x7 x8 x9 x10 x11 x12 x13 x14 x15 x16}(h : Q→ak x1 x2 x3 x4 (Oper.mk x5 (Op.index x6 x7 x8) x9 x10 x11 (x12)::x13) x14 x15 x16) : Q→ak x1 x2 x3 x4 (Oper.mk x5 (Op.index x6 x7 x8) x9 x10 x11 (x12)::x13) x14 x15 x16:=h
theorem Nx{Q : Prop}{x1 x2 x3 x4 x5 x6 x7 x8 x9 x10 x11 x12 x13 x14 x15}(h : Q→ak x1 x2 x3 x4 (Oper.mk x5 (Op.load x6 x7) x8 x9 x10 (x11)::x12) x13 x14 x15) : Q→ak x1 x2 x3 x4 (Oper.mk x5 (Op.load x6 x7) x8 x9 x10 (x11)::x12) x13 x14 x15:=h
theorem Ny{Q : Prop}{x1 x2 x3 x4 x5 x6 x7 x8}(h : Q→ak x1 x2 x3 x4 x5 x6 x7 x8) : Q→ak x1 x2 x3 x4 x5 x6 x7 x8:=h
theorem wB{P : Prop}(h : P:=by first | omega | ((try simp only [a0A,a1A,a2A,a3A,a4A,a5A,a6A,a7A,a8A,a9A,Eh,Ht] at *); omega)) : P:=h
theorem wK{P : Prop}(h : P:=by first | (repeat' first | exact aS | refine ah rfl ?_) <;> fail | fail) : P:=h
theorem wL{P : Prop}(h : P:=by first | omega | (rw [Bool.eq_iff_iff]; simp; omega) | grind) : P:=h
theorem wS0{P : Prop}(h : P:=by first | exact zG rfl rfl (by first | assumption | rfl) | exact FE rfl rfl (by first | assumption | rfl) rfl rfl | exact Ik rfl rfl rfl rfl) : P:=h
theorem wS1{P : Prop}(h : P:=by exact dN af rfl rfl rfl rfl rfl rfl rfl rfl rfl rfl rfl rfl rfl (by first | omega | ((try simp only [a0A,a1A,a5A,rJ,rK,tZ,ua,ub,rB] at *); omega)) (by first | exact Nat.le_of_ble_eq_true rfl | omega | ((try simp only [a0A,a1A,a5A,rJ,rK,tZ,ua,ub,rB] at *); omega)) (Nat.le_of_ble_eq_true rfl)) : P:=h
theorem wS3{P : Prop}(h : P:=by first | exact s_e aq rfl rfl rfl (pt rfl rfl rfl rfl (im wB wB)) | exact s_e aq rfl rfl rfl (pt rfl rfl rfl rfl (jY wB wB)) | exact iz af rfl rfl rfl rfl) : P:=h
theorem wS4{P : Prop}(h : P:=by first | exact s_e aq rfl rfl rfl (px rfl rfl rfl rfl (im wB wB)) | exact s_e aq rfl rfl rfl (px rfl rfl rfl rfl (jY wB wB)) | exact iz af rfl rfl rfl rfl) : P:=h
theorem wS5{P : Prop}(h : P:=by first | exact s_e aq rfl rfl rfl (vt rfl rfl rfl rfl (im wB wB)) | exact s_e aq rfl rfl rfl (vt rfl rfl rfl rfl (jY wB wB)) | exact iz af rfl rfl rfl rfl) : P:=h
theorem wS8{P : Prop}(h : P:=by first | exact s_e aq rfl rfl rfl (Dm rfl rfl (im wB wB)) | exact iz af rfl rfl rfl rfl) : P:=h
theorem wS2{P : Prop}(h : P:=by first | exact s_e aq rfl rfl rfl (ox rfl rfl rfl rfl (im wB wB)) | exact s_e aq rfl rfl rfl (ox rfl rfl rfl rfl (jY wB wB)) | exact s_e aq rfl rfl rfl (ox rfl rfl rfl rfl (Gx wB wB)) | exact iz af rfl rfl rfl rfl) : P:=h
theorem wS9{P : Prop}(h : P:=by first | exact s_e aq rfl rfl rfl (qP rfl rfl (by first | rfl | assumption) rfl) | exact s_e aq rfl rfl rfl (qQ rfl rfl (by first | rfl | assumption) rfl) | exact iz af rfl rfl rfl rfl) : P:=h
theorem Nz{P : Prop}(h : P:=by first | exact s_e aq rfl rfl rfl (py rfl rfl rfl rfl rfl rfl wB wB) | exact s_e aq rfl rfl rfl (eI rfl rfl rfl rfl rfl wB (z7 wB)) | exact s_e aq rfl rfl rfl (eI rfl rfl rfl rfl rfl wB (ji wB)) | exact iz af rfl rfl rfl rfl) : P:=h
theorem NA{P : Prop}(h : P:=by first | exact s_e aq rfl rfl rfl (yd rfl rfl rfl rfl wB (ib wB)) | exact iz af rfl rfl rfl rfl) : P:=h
theorem NB{P : Prop}(h : P:=by first | exact s_e aq rfl rfl rfl (cS rfl rfl rfl rfl (ji wB) rfl) | exact s_e aq rfl rfl rfl (cS rfl rfl rfl rfl (fa (by assumption) wB) rfl) | exact s_e aq rfl rfl rfl (cS rfl rfl rfl rfl (uc wB) rfl) | exact iz af rfl rfl rfl rfl) : P:=h
theorem NC{P : Prop}(h : P:=by first | exact vY 0 rfl rfl rfl rfl rfl rfl | exact vY 1 rfl rfl rfl rfl rfl rfl | exact vY 2 rfl rfl rfl rfl rfl rfl) : P:=h
theorem ND{P : Prop}(h : P:=by first | exact gK af 0 rfl rfl rfl rfl rfl | exact gK af 1 rfl rfl rfl rfl rfl | exact gK af 2 rfl rfl rfl rfl rfl | exact gK af 3 rfl rfl rfl rfl rfl | exact gK af 4 rfl rfl rfl rfl rfl | exact gK af 5 rfl rfl rfl rfl rfl | exact gK af 6 rfl rfl rfl rfl rfl | exact gK af 8 rfl rfl rfl rfl rfl) : P:=h
theorem NF{P : Prop}(h : P:=by first | exact pz | exact Gu af rfl rfl rfl rfl rfl | (apply gQ0; exact wS0) | (apply gQ1; exact wS1) | (apply gQ2; exact Gy af rfl rfl rfl rfl rfl rfl wB) | (apply gQ3; exact wS3) | (apply gQ4; exact wS4) | (apply gQ5; exact wS5) | (apply gQ6; exact iz af rfl rfl rfl rfl) | (apply gQ7; exact iz af rfl rfl rfl rfl) | (apply gQ8; exact wS8) | (apply gQ2; exact wS2) | (apply gQ9; exact wS9) | (apply MT; exact Nz) | (apply MU; exact NA) | (apply MV; exact NB) | (apply MW; exact NC) | (apply MX; exact ND) | exact mN aq rfl rfl (dY rfl rfl rfl rfl rfl rfl rfl rfl rfl (ji wB) rfl) | exact mN aq rfl rfl (dY rfl rfl rfl rfl rfl rfl rfl rfl rfl (fa (by assumption) wB) rfl) | exact mN aq rfl rfl rfl | exact Jo aq rfl rfl rfl rfl rfl | exact s_e aq rfl rfl rfl rfl | exact fY aq 0 rfl rfl rfl rfl rfl rfl | exact fY aq 1 rfl rfl rfl rfl rfl rfl | exact fY aq 2 rfl rfl rfl rfl rfl rfl | exact fY aq 3 rfl rfl rfl rfl rfl rfl | exact fY aq 4 rfl rfl rfl rfl rfl rfl | exact fY aq 5 rfl rfl rfl rfl rfl rfl | exact CS aq rfl rfl rfl rfl rfl rfl rfl rfl rfl rfl rfl rfl | exact EG aq rfl rfl rfl rfl rfl rfl rfl rfl rfl rfl rfl (by assumption)) : P:=h
theorem NG{P : Prop}(h : P:=by first | exact Cq | exact Ip | exact vu | exact EU | exact Ah | exact cZ | exact Ai | exact ye rfl | exact yg rfl | exact Dp rfl (by assumption) | exact Dq rfl (by assumption) | exact sm progOk.mo) : P:=h
theorem NH{P : Prop}(h : P:=by first | exact fz aq 11 rfl rfl rfl (iy (i:=10) rfl rfl rfl rfl rfl rfl rfl rfl (by first | omega | ((try simp only [a0A,a1A,a5A,rJ,rK,tZ,ua,ub,rB] at *); omega)) (by first | exact Nat.le_of_ble_eq_true rfl | omega | ((try simp only [a0A,a1A,a5A,rJ,rK,tZ,ua,ub,rB] at *); omega)) (Nat.le_of_ble_eq_true rfl)) rfl rfl | exact fz aq 13 rfl rfl rfl (iy (i:=12) rfl rfl rfl rfl rfl rfl rfl rfl (by first | omega | ((try simp only [a0A,a1A,a5A,rJ,rK,tZ,ua,ub,rB] at *); omega)) (by first | exact Nat.le_of_ble_eq_true rfl | omega | ((try simp only [a0A,a1A,a5A,rJ,rK,tZ,ua,ub,rB] at *); omega)) (Nat.le_of_ble_eq_true rfl)) rfl rfl) : P:=h
theorem NI{P : Prop}(h : P:=by first | exact Gw rfl rfl (by first | assumption | rfl) | exact Jm rfl rfl (by first | assumption | rfl) rfl rfl) : P:=h
theorem NJ{P : Prop}(h : P:=by first | exact d_e aq rfl rfl rfl (pt rfl rfl rfl rfl (im wB wB)) | exact d_e aq rfl rfl rfl (cA rfl)) : P:=h
theorem NK{P : Prop}(h : P:=by first | exact d_e aq rfl rfl rfl (px rfl rfl rfl rfl (im wB wB)) | exact d_e aq rfl rfl rfl (cA rfl)) : P:=h
theorem NL{P : Prop}(h : P:=by first | exact d_e aq rfl rfl rfl (qP rfl rfl (by first | rfl | assumption) rfl) | exact d_e aq rfl rfl rfl (qQ rfl rfl (by first | rfl | assumption) rfl) | exact d_e aq rfl rfl rfl (cA rfl)) : P:=h
theorem NM{P : Prop}(h : P:=by first | exact d_e aq rfl rfl rfl (py rfl rfl rfl rfl rfl rfl wB wB) | exact d_e aq rfl rfl rfl (eI rfl rfl rfl rfl rfl wB (z7 wB)) | exact d_e aq rfl rfl rfl (eI rfl rfl rfl rfl rfl wB (ji wB)) | exact d_e aq rfl rfl rfl (cA rfl)) : P:=h
theorem NO{P : Prop}(h : P:=by first | exact d_e aq rfl rfl rfl (cS rfl rfl rfl rfl (ji wB) rfl) | exact d_e aq rfl rfl rfl (cS rfl rfl rfl rfl (fa (by assumption) wB) rfl) | exact d_e aq rfl rfl rfl (cS rfl rfl rfl rfl (uc wB) rfl) | exact d_e aq rfl rfl rfl (cA rfl)) : P:=h
theorem NP{P : Prop}(h : P:=by first | (apply M0; exact NH) | exact Jl (by kernel_rfl) | exact d_e aq rfl rfl rfl (ze rfl rfl) | (apply M3; exact NI) | (apply M4; exact NJ) | (apply M5; exact NK) | (apply M6; exact d_e aq rfl rfl rfl (cA rfl)) | (apply M7; exact d_e aq rfl rfl rfl (cA rfl)) | (apply M8; exact d_e aq rfl rfl rfl (cA rfl)) | (apply M9; exact d_e aq rfl rfl rfl (cA rfl)) | (apply Na; exact d_e aq rfl rfl rfl (cA rfl)) | (apply Nu; exact NL) | (apply Nv; exact NM) | (apply Nw; exact d_e aq rfl rfl rfl (cA rfl)) | (apply Nx; exact NO) | exact d_e aq rfl rfl rfl rfl | exact fz aq 0 rfl rfl rfl rfl rfl rfl | exact fz aq 1 rfl rfl rfl rfl rfl rfl | exact fz aq 2 rfl rfl rfl rfl rfl rfl | exact fz aq 3 rfl rfl rfl rfl rfl rfl | exact fz aq 4 rfl rfl rfl rfl rfl rfl | exact fz aq 5 rfl rfl rfl rfl rfl rfl | exact fz aq 7 rfl rfl rfl rfl rfl rfl | exact tv aq rfl rfl (dY rfl rfl rfl rfl rfl rfl rfl rfl rfl (fa (by assumption) wB) rfl) | exact tv aq rfl rfl (dY rfl rfl rfl rfl rfl rfl rfl rfl rfl (uc wB) rfl) | exact tv aq rfl rfl rfl) : P:=h
theorem wG {P Q : Prop} (k : Q) (h : Q→P:=by first
  | (apply MY; exact NF)
  | (apply MZ; exact NG)
  | exact Il
  | exact Im
  | exact Io
  | exact Gz
  | exact GA
  | exact GB rfl
  | exact GC rfl
  | exact ET (.inl rfl) rfl rfl
  | exact fun k=>iI (.inl rfl) rfl rfl k (by first | exact (q1Q rfl) | exact (q2Q rfl rfl))
  | (apply Ny; exact NP)
  | exact D5 rfl
  | exact Hh
  | exact Hp (by simp)
  | exact F2 (by simp)
  | exact Hg) : P:=h k
theorem h5H{x1 x2 x3 x4 x5}(h : OkC x1 x2 x3 x4 x5) : OkC x1 x2 x3 x4 x5:=h
end Go.Abs
namespace Go.Proofs.YtpejdgkaapnekaaGreat
open Go Go.Abs
attribute [local irreducible] aa OkC ak ar al ax
set_option maxRecDepth 10000
def gM(c : Nat) : Bool:=decide (97≤c) && decide (c≤122)
def gz(c : Nat) : Bool:=gM c || (decide (48≤c) && decide (c≤57)) || decide (c = 95)
theorem IA(c : Nat) : CallA Tryz.prog 208 [.one (.d (.int .u8 c))] [] (.one (.d (.bool (gM c)))) []:=by
 refine enter af Tryz.func208 rfl (by decide +kernel) rfl fun hok w0 σ0 φ0 M=>?_
 repeat' (first|refine wG ?_|(refine h1H ?_; (refine h4H ?_; refine aC J J J J (fun h=>?_) (fun h=>?_))))
 all_goals (try (((simp_all [gM,aj,List.drop_eq_nil_of_le]) <;> exact wL); done))
theorem NV(c : Nat) : CallA Tryz.prog 209 [.one (.d (.int .u8 c))] [] (.one (.d (.bool (gz c)))) []:=by
 refine enter af Tryz.func209 rfl (by decide +kernel) rfl fun hok w0 σ0 φ0 M=>?_
 repeat' (first|(refine h1H ?_; (refine h0H ?_; refine ae J J J J J J J J (IA _) J ?_))|refine wG ?_|(refine h1H ?_; (refine h4H ?_; refine aC J J J J (fun h=>?_) (fun h=>?_))))
 all_goals (try (((simp_all [gz,aj,List.drop_eq_nil_of_le]) <;> exact wL); done))
def fC(s : List UInt8) : Bool:=decide (1≤s.length) && decide (s.length≤12) && gM (at_ s 0).toNat && s.all (fun c=>gz c.toNat)
theorem IB(s : List UInt8) : CallA Tryz.prog 149 [.one (.d (.str s))] [] (.one (.d (.bool (fC s)))) []:=by
 refine enter af Tryz.func149 rfl (by decide +kernel) rfl fun hok w0 σ0 φ0 M=>?_
 have hl:=hok.1.str; clear hok
 repeat' (first|(refine h1H ?_; (refine h0H ?_; first|refine ae J J J J J J J J (IA _) J ?_|refine ae J J J J J J J J (NV _) J ?_))|refine wG ?_|(refine h1H ?_; (refine h4H ?_; refine aC J J J J (fun h=>?_) (fun h=>?_)))|(refine h5H ?_; first|refine ai J (fun h=>?_) (fun h=>?_)|refine aY 4 J [(0,_)] (q1Q J) (fun (k : Nat)=>[(3,.one (.d (.int .i64 k)))]) (fun (k : Nat)=>k≤s.length∧fC s = (s.drop k).all (fun c=>gz c.toNat)) (fun (k : Nat)=>s.length - k) 0 (q1Q J) ?_ (fun k ⟨hk,hs⟩=>?_))|(show Exists _; refine Exists.intro (k + 1) ⟨?_,?_,wK,(q1Q J),(q1Q J)⟩))
 all_goals (try (((simp_all [fC,aj,List.drop_eq_nil_of_le]) <;> exact wL); done))
structure Dim where
 name : List UInt8
 lo : Int
 hi : Int
 deriving Inhabited
structure Attr where
 name : List UInt8
 type : Int
 deriving Inhabited
def cG(d : Dim) : List D:=[.str d.name,.int .i64 d.lo,.int .i64 d.hi]
def aJ(l : List Dim) : D:=.sl 3 32 (l.map cG)
def jQ(a : Attr) : List D:=[.str a.name,.int .i64 a.type]
def aF(l : List Attr) : D:=.sl 2 24 (l.map jQ)
def aO(n : Int) : List D:=[.int .i64 n]
def az(l : List Int) : D:=.sl 1 8 (l.map aO)
def dv(hi : Int) : Int:=min hi 1073741824
theorem N4(nm : List UInt8)(lo hi : Int) : CallA Tryz.prog 183 [.agg [.d (.str nm),.d (.int .i64 lo),.d (.int .i64 hi)]] [] (.one (.d (.int .i64 (dv hi)))) []:=by
 refine enter af Tryz.func183 rfl (by decide +kernel) rfl fun hok w0 σ0 φ0 M=>?_
 repeat' (first|refine wG ?_)
 all_goals (try (((simp_all [dv,aj,List.drop_eq_nil_of_le]) <;> exact wL); done))
theorem Kp(nm : List UInt8)(lo hi : Int) : CallA Tryz.prog 247 [.agg [.d (.str nm),.d (.int .i64 lo),.d (.int .i64 hi)]] [] (.one (.d (.int .i64 (dv hi)))) []:=by
 refine enter af Tryz.func247 rfl (by decide +kernel) rfl fun hok w0 σ0 φ0 M=>?_
 repeat' (first|refine wG ?_)
 all_goals (try (((simp_all [dv,aj,List.drop_eq_nil_of_le]) <;> exact wL); done))
def fj(lo hi : Int) : Bool:=decide (-1073741824≤lo) && decide (lo≤1073741824) && decide (lo≤hi) && decide (hi≤1073741825)
theorem N5(nm : List UInt8)(lo hi : Int) : CallA Tryz.prog 243 [.agg [.d (.str nm),.d (.int .i64 lo),.d (.int .i64 hi)]] [] (.one (.d (.bool (fj lo hi)))) []:=by
 refine enter af Tryz.func243 rfl (by decide +kernel) rfl fun hok w0 σ0 φ0 M=>?_
 repeat' (first|refine wG ?_|(refine h1H ?_; (refine h4H ?_; refine aC J J J J (fun h=>?_) (fun h=>?_))))
 all_goals (try (((simp_all [fj,aj,List.drop_eq_nil_of_le]) <;> exact wL); done))
def bk : List Dim→List Int→Bool
 | d::ds,x::xs=>decide (d.lo≤x) && decide (x≤dv d.hi) && bk ds xs
 | _,_=>true
def ofF(ds : List Dim)(at' : List Int) : Bool:=decide (at'.length = ds.length) && bk ds at'
theorem JH(ds : List Dim)(at' : List Int) : CallA Tryz.prog 100 [.one (.d (aJ ds)),.one (.d (az at'))] [] (.one (.d (.bool (ofF ds at')))) []:=by
 refine enter af Tryz.func100 rfl (by decide +kernel) rfl fun hok w0 σ0 φ0 M=>?_
 have h1:=hok.1.sl; have h2:=hok.2.1.sl; clear hok; simp only [List.length_map] at h1 h2; replace h1:=h1.1; replace h2:=h2.1
 repeat' (first|(refine h3H ?_; (refine h2H ?_; refine d_l J J (bg J J J J J J (N4 _ _ _) J) ?_))|refine wG ?_|(refine h5H ?_; first|refine ai J (fun h=>?_) (fun h=>?_)|refine aY 4 J [(0,_),(1,_)] (q2Q J J) (fun (k : Nat)=>[(5,.one (.d (.int .i64 k)))]) (fun (k : Nat)=>k≤ds.length∧at'.length = ds.length∧bk ds at' = bk (ds.drop k) (at'.drop k)) (fun (k : Nat)=>ds.length - k) 0 (q1Q J) ?_ (fun k ⟨hk,hq,hs⟩=>?_))|(refine h3H ?_; (refine AR ?_; refine pR J J (fun h=>?_) (fun h=>?_)))|(show Exists _; refine Exists.intro (k + 1) ⟨?_,?_,wK,(q1Q J),(q2Q J J)⟩))
 all_goals (try (((simp_all [ofF,bk,aj,List.drop_eq_nil_of_le]) <;> exact wL); done))
def nr(ds : List Dim)(ats : List Attr)(name : List UInt8) : Bool:=ds.any (fun d=>d.name == name) || ats.any (fun a=>a.name == name)
theorem N6(ds : List Dim)(ats : List Attr)(n : Nat)(name : List UInt8)(hn : n≤ats.length) : CallA Tryz.prog 192 [.one (.d (aJ ds)),.one (.d (aF ats)),.one (.d (.int .i64 n)),.one (.d (.str name))] [] (.one (.d (.bool (nr ds (ats.take n) name)))) []:=by
 refine enter af Tryz.func192 rfl (by decide +kernel) rfl fun hok w0 σ0 φ0 M=>?_
 have h1:=hok.1.sl; have h2:=hok.2.1.sl; clear hok; simp only [List.length_map] at h1 h2; replace h1:=h1.1; replace h2:=h2.1
 repeat' (first|refine wG ?_|(refine h5H ?_; first|refine ai J (fun h=>?_) (fun h=>?_)|refine aY 2 J [(0,_),(1,_),(2,_),(3,_)] (q4Q J J J J) (fun (k : Nat)=>[(9,.one (.d (.int .i64 k)))]) (fun (k : Nat)=>k≤ds.length∧nr ds (ats.take n) name = ((ds.drop k).any (fun d=>d.name == name) || (ats.take n).any (fun a=>a.name == name))) (fun (k : Nat)=>ds.length - k) 0 (q1Q J) ?_ (fun k ⟨hk,hs⟩=>?_)|refine aY 7 J [(1,_),(2,_),(3,_)] (q3Q J J J) (fun (k : Nat)=>[(10,.one (.d (.int .i64 k)))]) (fun (k : Nat)=>k≤n∧nr ds (ats.take n) name = ((ats.take n).drop k).any (fun a=>a.name == name)) (fun (k : Nat)=>n - k) 0 (q1Q J) ?_ (fun k ⟨hk,hs⟩=>?_))|(show Exists _; first|refine Exists.intro (k + 1) ⟨?_,?_,wK,(q1Q J),(q3Q J J J)⟩|refine Exists.intro (k + 1) ⟨?_,?_,wK,(q1Q J),(q4Q J J J J)⟩))
 all_goals (try (((simp_all [nr,xG,Nat.min_eq_left hn,aj,List.drop_eq_nil_of_le]) <;> exact wL); done))
def fi : List (List UInt8)→List Dim→Int
 | _,[]=>0
 | met,d::r=>if !fC d.name || met.contains d.name then 11 else if !fj d.lo d.hi then 3 else fi (met ++ [d.name]) r
def du(ds : List Dim) : Int:=if (ds.length : Int) < 1∨4 < (ds.length : Int) then 13 else fi [] ds
theorem N7(ds : List Dim) : CallA Tryz.prog 191 [.one (.d (aJ ds))] [] (.one (.d (.int .i64 (du ds)))) []:=by
 refine enter af Tryz.func191 rfl (by decide +kernel) rfl fun hok w0 σ0 φ0 M=>?_
 have h1:=hok.1.sl; clear hok; simp only [List.length_map] at h1; replace h1:=h1.1
 repeat' (first|(refine h1H ?_; (refine h0H ?_; first|refine ae J J J J J J J J (IB _) J ?_|refine ae J J J J J J J J (N5 _ _ _) J ?_))|refine wG ?_|(refine h1H ?_; (refine h4H ?_; refine aC J J J J (fun h=>?_) (fun h=>?_)))|(refine h5H ?_; first|refine ai J (fun h=>?_) (fun h=>?_)|refine aY 4 J [(0,_)] (q1Q J) (fun (k : Nat)=>[(3,.one (.d (.int .i64 k)))]) (fun (k : Nat)=>k≤ds.length∧1≤ds.length∧ds.length≤4∧du ds = fi ((ds.take k).map Dim.name) (ds.drop k)) (fun (k : Nat)=>ds.length - k) 0 (q1Q J) ?_ (fun k ⟨hk,hq,hq2,hs⟩=>?_)|refine aY 9 J [(0,_),(3,_)] (q2Q J J) (fun (j : Nat)=>[(4,.one (.d (.int .i64 j)))]) (fun (j : Nat)=>j≤k∧k < ds.length∧fC (at_ ds k).name = true∧((ds.take j).map Dim.name).contains (at_ ds k).name = false) (fun (j : Nat)=>k - j) 0 (q1Q J) ?_ (fun j ⟨hj,hkl,hnm,hjs⟩=>?_))|(show Exists _; first|refine Exists.intro (j + 1) ⟨?_,?_,wK,(q1Q J),(q2Q J J)⟩|refine Exists.intro (k + 1) ⟨?_,?_,wK,(q1Q J),(q1Q J)⟩))
 all_goals (try (((simp_all [du,fi,eD,aj,List.drop_eq_nil_of_le]) <;> exact wL); done))
 ·rename_i hlt
  have hlt' : j < k:=by simpa using hlt
  have he : (at_ ds j).name = (at_ ds k).name:=by simpa using h
  rw [hs,aj hkl]; simp only [fi]; rw [ES hlt' hk he]; simp
 ·rename_i hlt
  have hlt' : j < k:=by simpa using hlt
  have he : ¬ (at_ ds j).name = (at_ ds k).name:=by simpa using h
  refine ⟨by omega,hkl,hnm,?_⟩
  rw [eD (by omega)]
  simp at hjs ⊢
  exact ⟨hjs,fun e=>he e.symm⟩
def iT : List (List UInt8)→List Attr→Int
 | _,[]=>0
 | met,a::r=>if !fC a.name || met.contains a.name then 11 else if a.type < 1∨4 < a.type then 12 else iT (met ++ [a.name]) r
def cN(ds : List Dim)(ats : List Attr) : Int:=if du ds≠0 then du ds else if (ats.length : Int) < 1∨6 < (ats.length : Int) then 9 else iT (ds.map Dim.name) ats
theorem Fm{ds : List Dim}{ats : List Attr}{x : List UInt8} : nr ds ats x = (ds.map Dim.name ++ ats.map Attr.name).contains x:=by
 rw [Bool.eq_iff_iff]
 simp [nr]
theorem Lf(ds : List Dim)(ats : List Attr) : CallA Tryz.prog 115 [.one (.d (aJ ds)),.one (.d (aF ats))] [] (.one (.d (.int .i64 (cN ds ats)))) []:=by
 refine enter af Tryz.func115 rfl (by decide +kernel) rfl fun hok w0 σ0 φ0 M=>?_
 have h1:=hok.1.sl; have h2:=hok.2.1.sl; clear hok; simp only [List.length_map] at h1 h2; replace h1:=h1.1; replace h2:=h2.1
 repeat' (first|(refine h1H ?_; (refine h0H ?_; first|refine ae J J J J J J J J (IB _) J ?_|refine ae J J J J J J J J (N7 _) J ?_|refine ae J J J J J J J J (N6 _ _ _ _ (by assumption)) J ?_))|refine wG ?_|(refine h1H ?_; (refine h4H ?_; refine aC J J J J (fun h=>?_) (fun h=>?_)))|(refine h5H ?_; first|refine ai J (fun h=>?_) (fun h=>?_)|refine aY 7 J [(0,_),(1,_)] (q2Q J J) (fun (k : Nat)=>[(6,.one (.d (.int .i64 k)))]) (fun (k : Nat)=>k≤ats.length∧du ds = 0∧1≤ats.length∧ats.length≤6∧cN ds ats = iT (ds.map Dim.name ++ (ats.take k).map Attr.name) (ats.drop k)) (fun (k : Nat)=>ats.length - k) 0 (q1Q J) ?_ (fun k ⟨hk,hd,hq,hq2,hs⟩=>?_))|(show Exists _; refine Exists.intro (k + 1) ⟨?_,?_,wK,(q1Q J),(q2Q J J)⟩))
 all_goals (try (((simp_all [cN,iT,eD,Fm,aj,List.drop_eq_nil_of_le]) <;> exact wL); done))
structure Val where
 kind : Int
 num : Int
 den : Int
 str : List UInt8
 deriving Inhabited
def aN(v : Val) : List D:=[.int .i64 v.kind,.int .i64 v.num,.int .i64 v.den,.str v.str]
def aT(l : List Val) : D:=.sl 4 40 (l.map aN)
def mS(d : Int)(s : List UInt8) : Bool:=d == 0 && s == []
theorem N2(k n d : Int)(s : List UInt8) : CallA Tryz.prog 279 [.agg [.d (.int .i64 k),.d (.int .i64 n),.d (.int .i64 d),.d (.str s)]] [] (.one (.d (.bool (mS d s)))) []:=by
 refine enter af Tryz.func279 rfl (by decide +kernel) rfl fun hok w0 σ0 φ0 M=>?_
 repeat' (first|refine wG ?_|(refine h1H ?_; (refine h4H ?_; refine aC J J J J (fun h=>?_) (fun h=>?_))))
 all_goals (try (((simp_all [mS,aj,List.drop_eq_nil_of_le]) <;> exact wL); done))
theorem N3(a b : Nat) : CallA Tryz.prog 280 [.one (.d (.int .i64 a)),.one (.d (.int .i64 b))] [] (.one (.d (.int .i64 (Nat.gcd a b)))) []:=by
 refine enter af Tryz.func280 rfl (by decide +kernel) rfl fun hok w0 σ0 φ0 M=>?_
 repeat' (first|(refine h3H ?_; (refine HL ?_; refine d_e aq J J J (ve J J J J wB) ?_))|refine wG ?_|(refine h5H ?_; first|refine ai J (fun h=>?_) (fun h=>?_)|refine aY 1 J [] aS (fun (p : Nat×Nat)=>[(0,.one (.d (.int .i64 (p.1 : Int)))),(1,.one (.d (.int .i64 (p.2 : Int))))]) (fun (p : Nat×Nat)=>Nat.gcd p.1 p.2 = Nat.gcd a b) (fun (p : Nat×Nat)=>p.2) (a,b) (q2Q J J) ?_ (fun p hg=>?_))|(show Exists _; refine Exists.intro ((p.2,p.1 % p.2)) ⟨?_,?_,wK,(q2Q J J),aS⟩))
 all_goals (try (((simp_all [aj,List.drop_eq_nil_of_le]) <;> exact wL); done))
 ·have h' : p.2≠0:=by simpa using h
  show Nat.gcd p.2 (p.1 % p.2) = _
  rw [Nat.gcd_comm,← Nat.gcd_rec,Nat.gcd_comm]; exact hg
 ·have h' : p.2≠0:=by simpa using h
  exact Nat.mod_lt _ (by omega)
end Go.Proofs.YtpejdgkaapnekaaGreat
