import Derived.Test.YtpejdgkaapnekaaGreatXP7
import Derived.Test.YtpejdgkaapnekaaGreatXPb
set_option linter.unusedVariables false
set_option linter.unusedSimpArgs false
set_option maxHeartbeats 1000000
namespace Go.Abs
open Go
variable {P : Program} {V : Env} {T : Tab} {c : Ctx} {w0 : World} {σ0 : Sig} {φ0 : Pl} {M : Nat→Prop} {n : Nat} {rd : Option Nat} {mk : List Deferred} {ops : Array Oper} {o : Oper} {rest : List Oper} {fr : List (Nat×AV)} {sto : Sto} {K : St→Prop} {st st0 : St} {acc : List Tr}
theorem Ca(hg : o.guard = none) : ({ o with guard:=none } : Oper) = o:=by obtain ⟨_,_,_,_,_,g⟩:=o; simp only at hg; subst hg; rfl
def CF : Op→Bool
 | .binOp .add _ _ _ _ | .binOp .sub _ _ _ _ | .binOp .mul _ _ _ _ | .binOp .rem _ _ _ _ | .binOp .quo _ _ _ _ | .unOp .neg _ _ | .convert _ _ _ | .pick .. | .index .. | .indexAddr .. | .call { callee:=.value _,.. }=>false
 | _=>true
theorem J2(hT : ba P T){d : Nat}{v : AV}(hp : CF o.op = true)(hg : o.guard = none)(hdst : o.dst = some d)(hd : Nat.blt d n = true)(hv : b6 T ⟨fr,sto⟩ o.op = some v)
  (h : ae P ⟨w0,σ0,φ0,M,n,rd,mk⟩ ops rest ⟨(d,v)::fr,sto⟩ K) : ae P ⟨w0,σ0,φ0,M,n,rd,mk⟩ ops (o::rest) ⟨fr,sto⟩ K:=jt hT hg hdst hd hv h
theorem AA(hV : EnvOk P V){e : Ef}{dst : Option Nat}(hg : o.guard = none)(hdst : o.dst = dst)(hd : aU n dst = true)(h : aV V ⟨fr,sto⟩ o 0 = some e)(he : e.new = [])(hk : ae P ⟨w0,σ0,φ0,M,n,rd,mk⟩ ops rest ⟨bt dst e.v fr,cM e.wr sto⟩ K) :
  ae P ⟨w0,σ0,φ0,M,n,rd,mk⟩ ops (o::rest) ⟨fr,sto⟩ K:=by
 have:=pT (c:=⟨w0,σ0,φ0,M,n,rd,mk⟩) hV (o:=o) (by rw [hdst]; exact hd) h rfl (fun i hi=>by rw [he] at hi; simp at hi) ops rest K (by rw [hdst]; exact hk)
 rwa [Ca hg] at this
theorem aJ{d j : Nat}{want b : Bool}(hg : o.guard = some (j,want))(hb : gA ⟨fr,sto⟩ ops j = some (some b))(hdst : o.dst = some d)(hd : Nat.blt d n = true)
  (h1 : b = want→ae P ⟨w0,σ0,φ0,M,n,rd,mk⟩ ops ({ o with guard:=none }::rest) ⟨fr,sto⟩ K) (h2 : b = !want→ae P ⟨w0,σ0,φ0,M,n,rd,mk⟩ ops rest ⟨(d,.tup [])::fr,sto⟩ K) :
  ae P ⟨w0,σ0,φ0,M,n,rd,mk⟩ ops (o::rest) ⟨fr,sto⟩ K:=by
 by_cases h : b = want
 ·exact B2 hg hb h (h1 h)
 ·have h' : b = !want:=by cases b <;> cases want <;> simp at h ⊢
  exact IQ hg hb h' hdst hd (h2 h')
theorem My{d j : Nat}{want : Bool}(hg : o.guard = some (j,want))(hb : gA ⟨fr,sto⟩ ops j = some none)(hdst : o.dst = some d)(hd : Nat.blt d n = true)
  (h : ae P ⟨w0,σ0,φ0,M,n,rd,mk⟩ ops rest ⟨(d,.tup [])::fr,sto⟩ K) : ae P ⟨w0,σ0,φ0,M,n,rd,mk⟩ ops (o::rest) ⟨fr,sto⟩ K :=
 qR hg hb rfl (by rw [hdst]; exact hd) (by rw [hdst]; exact h)
theorem yp(id : Nat){d : Nat}{t : TypeId}{x : Operand}{v : AV}{cs : List AC}(ho : o.op = .box t x)(hg : o.guard = none)(hdst : o.dst = some d)(hd : (Nat.blt d n && (Nat.blt id 1000000 && (!bo sto id && !bx id fr && !aR id sto))) = true)
  (hx : ev ⟨fr,sto⟩ x = some v) (hc : (match cellsOf v with | some cs'=>bif cq id cs' then none else some cs' | none=>none) = some cs)
  (h : ae P ⟨w0,σ0,φ0,M,n,rd,mk⟩ ops rest ⟨(d,.one (.ref id 0))::fr,(id,.box cs)::sto⟩ K) : ae P ⟨w0,σ0,φ0,M,n,rd,mk⟩ ops (o::rest) ⟨fr,sto⟩ K:=by
 simp only [Bool.and_eq_true,Bool.not_eq_true'] at hd
 split at hc <;> (try (simp at hc; done))
 rename_i cs' hcs
 cases hm : cq id cs' <;> simp [hm] at hc
 subst hc
 exact wZ ho hg hdst (by simp only [Bool.and_eq_true]; exact ⟨hd.1,hd.2.1⟩) hx hcs hd.2.2.1.2 hd.2.2.2 hm h
theorem aa{d : Nat}{fop : Operand}{args : Array Operand}{ats : Array TypeId}{f : FuncId}{caps : List D}{avs avs' : List AV}{rav : AV}{rsto : Sto}
  (ho : o.op = .call { callee:=.value fop,args:=args,argTypes:=ats }) (hg : o.guard = none) (hdst : o.dst = some d) (hd : Nat.blt d n = true) (hf : ev ⟨fr,sto⟩ fop = some (.one (.d (.fn f caps))))
  (ha : evL ⟨fr,sto⟩ args.toList = some avs) (hD : cw avs = true) (hap : (avs ++ caps.map fun x=>.one (.d x)) = avs') (hC : CallA P f avs' [] rav rsto) (hfl : fh rav = true)
  (h : ae P ⟨w0,σ0,φ0,M,n,rd,mk⟩ ops rest ⟨(d,rav)::fr,sto⟩ K) : ae P ⟨w0,σ0,φ0,M,n,rd,mk⟩ ops (o::rest) ⟨fr,sto⟩ K:=by
 subst hap
 exact ji ho hg (by rw [hdst]; exact hd) (Imp.refl _) hf ha hD hC hfl (by rw [hdst]; exact h)
theorem Od(h1 : kM ops.toList st0 acc.reverse = true)(h2 : K st) : ar P c ops st0 [] st acc K:=⟨h1,h2⟩
theorem mb{tr : Tr}(hg : o.guard = none)(hl : Loc P c o st tr)(h : ar P c ops st0 rest ⟨bt o.dst tr.v st.fr,cM tr.wr st.sto⟩ (tr::acc) K) : ar P c ops st0 (o::rest) st acc K :=
 ⟨true,tr,by unfold gh; rw [hg],fun _=>hl,fun e=>by simp at e,fun e=>by simp at e,h⟩
theorem J3{tr : Tr}{j : Nat}{want b : Bool}(hg : o.guard = some (j,want))(hb : gA st ops j = some (some b))(hw : b = want)
  (hl : Loc P c o st tr) (h : ar P c ops st0 rest ⟨bt o.dst tr.v st.fr,cM tr.wr st.sto⟩ (tr::acc) K) : ar P c ops st0 (o::rest) st acc K :=
 ⟨true,tr,by unfold gh; rw [hg]; exact ⟨_,hb,by subst hw; simp⟩,fun _=>hl,fun e=>by simp at e,fun e=>by simp at e,h⟩
theorem Oe{d j : Nat}{want b : Bool}(hg : o.guard = some (j,want))(hb : gA st ops j = some (some b))(hw : b = !want)(hdst : o.dst = some d)(hd : Nat.blt d c.n = true)
  (h : ar P c ops st0 rest ⟨(d,.tup [])::st.fr,st.sto⟩ (Tr.none::acc) K) : ar P c ops st0 (o::rest) st acc K :=
 ⟨false,Tr.none,by unfold gh; rw [hg]; exact ⟨_,hb,by subst hw; cases want <;> simp⟩,fun e=>by simp at e,fun _=>rfl,fun _=>by rw [hdst]; exact hd,by rw [hdst]; exact h⟩
theorem kN{j : Nat}{want b : Bool}(hg : o.guard = some (j,want))(hb : gA st ops j = some (some b))(h1 : b = want→ar P c ops st0 (o::rest) st acc K)(h2 : b = !want→ar P c ops st0 (o::rest) st acc K) : ar P c ops st0 (o::rest) st acc K:=by
 by_cases h : b = want
 ·exact h1 h
 ·exact h2 (by cases b <;> cases want <;> simp at h ⊢)
theorem Of(hV : EnvOk P V){e : Ef}(hd : aU c.n o.dst = true)(h : aV V st o 0 = some e) : Loc P c o st (e.tr (tf st o.op)):=nq hV hd h rfl
theorem c5{v : AV}(hv : b6 V.T st o.op = some v) : aV V st o 0 = some ⟨v,[],[]⟩:=by
 simp only [aV,cT,hv]
theorem BA{v : AV}(hp : CF o.op = true)(hv : b6 V.T st o.op = some v) : aV V st o 0 = some ⟨v,[],[]⟩:=c5 hv
theorem oh{op : BinOp}{t ty : TypeId}{x y : Operand}{k k' : IntKind}{a b z : Int}(ho : o.op = .binOp op t x y ty)(hop : B1 op = true)
  (hx : ev st x = some (.one (.d (.int k a)))) (hy : ev st y = some (.one (.d (.int k' b)))) (hk : kEq k k' = true) (hz : k.wrap (IP op a b) = z) : aV V st o 0 = some ⟨.one (.d (.int k z)),[],[]⟩:=by
 refine c5 ?_
 rw [ho]
 simp only [b6,hx,hy,pa,hk,cond_true]
 cases op <;> simp [B1] at hop <;> simp only [jN,cond_false,tz,← hz,IP]
theorem u9{x y z : Operand}{b : Bool}{v : AV}(ho : o.op = .pick x y z)(hx : ev st x = some (.one (.d (.bool b))))(hv : ev st (if b then y else z) = some v) : aV V st o 0 = some ⟨v,[],[]⟩:=by
 simp only [aV,cT,b6,ho,cD,hx,hv]
theorem sQ{x y z : Operand}{b : Bool}{v : AV}(ho : o.op = .pick x y z)(hx : ev st x = some (.one (.d (.bool b))))(hb : b = true)(hv : ev st y = some v) : aV V st o 0 = some ⟨v,[],[]⟩:=u9 ho hx (by rw [hb]; exact hv)
theorem sR{x y z : Operand}{b : Bool}{v : AV}(ho : o.op = .pick x y z)(hx : ev st x = some (.one (.d (.bool b))))(hb : b = false)(hv : ev st z = some v) : aV V st o 0 = some ⟨v,[],[]⟩:=u9 ho hx (by rw [hb]; exact hv)
theorem d_e(hV : EnvOk P V){d : Nat}{v : AV}(hg : o.guard = none)(hdst : o.dst = some d)(hd : Nat.blt d c.n = true)(h : aV V ⟨fr,sto⟩ o 0 = some ⟨v,[],[]⟩)
  (k : ar P c ops st0 rest ⟨(d,v)::fr,sto⟩ (⟨v,[],tf ⟨fr,sto⟩ o.op,[]⟩::acc) K) : ar P c ops st0 (o::rest) ⟨fr,sto⟩ acc K :=
 mb hg (Of hV (by rw [hdst]; exact hd) h) (by rw [hdst]; exact k)
theorem d_l{d : Nat}{v : AV}(hg : o.guard = none)(hdst : o.dst = some d)(hl : Loc P c o ⟨fr,sto⟩ ⟨v,[],[],[]⟩)
  (k : ar P c ops st0 rest ⟨(d,v)::fr,sto⟩ (⟨v,[],[],[]⟩::acc) K) : ar P c ops st0 (o::rest) ⟨fr,sto⟩ acc K :=
 mb hg hl (by rw [hdst]; exact k)
theorem J4{j : Nat}{want b : Bool}(hg : o.guard = some (j,want))(hb : gA st ops j = some (some b))(hw : b = want)
  (h : ar P c ops st0 ({ o with guard:=none }::rest) st acc K) : ar P c ops st0 (o::rest) st acc K:=by
 obtain ⟨run,tr,h1,h2,h3,h4,h5⟩:=h
 have hr : run = true:=h1
 subst hr
 exact J3 hg hb hw (h2 rfl) h5
theorem ch{k b k' b' : Nat}{t e : TypeId}{z : List D}{x y : Operand}{xs : List (List D)}{ik : IntKind}{i : Int}{el : List D}
  (ho : o.op = .indexAddr t x y) (ht : aW V.T t = some (e,k',b',z)) (hx : ev st x = some (.one (.d (.sl k b xs)))) (hk : Nat.beq k k' = true)
  (hy : ev st y = some (.one (.d (.int ik i)))) (hi : 0≤i) (hel : xs[i.toNat]? = some el) : aV V st o 0 = some ⟨.one (.d (.ptr el)),[],[]⟩:=by
 simp only [aV,cT,b6,ho,cD,hx,hy,px,ht,hk,hi,decide_true,Bool.and_self,cond_true,gl,hel]
theorem AB{t : TypeId}{x y : Operand}{ik : IntKind}{i : Int}{s : List UInt8}{b : UInt8}
  (ho : o.op = .index t x y) (ht : gm V.T t = true) (hx : ev st x = some (.one (.d (.str s))))
  (hy : ev st y = some (.one (.d (.int ik i)))) (hi : 0≤i) (hb : s[i.toNat]? = some b) : aV V st o 0 = some ⟨.one (.d (.int .u8 (b.toNat : Int))),[],[]⟩:=by
 simp only [aV,cT,b6,ho,cD,hx,hy,sf,ht,hi,decide_true,Bool.and_self,cond_true,gl,hb]
theorem aB{fop : Operand}{args : Array Operand}{ats : Array TypeId}{f : FuncId}{caps : List D}{avs avs' : List AV}{rav : AV}{rsto : Sto}
  (ho : o.op = .call { callee:=.value fop,args:=args,argTypes:=ats }) (hd : aU c.n o.dst = true) (hf : ev st fop = some (.one (.d (.fn f caps))))
  (ha : evL st args.toList = some avs) (hD : cw avs = true) (hap : (avs ++ caps.map fun x=>.one (.d x)) = avs') (hC : CallA P f avs' [] rav rsto) (hfl : fh rav = true) : Loc P c o st ⟨rav,[],[],[]⟩:=by
 subst hap
 intro st2 hs hri hnew opsA rest K h
 have he : ∀ {x : Operand},x∈o.op.operands.toList→ev st2 x = ev st x:=fun hx=>eQ hs hx
 rw [ho] at he
 have ha2 : evL st2 args.toList = some avs:=(jy fun x hx=>he (by simp [Op.operands,Call.operands]; exact .inr (by simpa using hx))).trans ha
 exact ji (o:={ o with guard:=none }) ho rfl hd (Imp.refl _) ((he (by simp [Op.operands,Call.operands])).trans hf) ha2 hD hC hfl h
theorem rB{t ty : TypeId}{x y : Operand}{k k' : IntKind}{a b z : Int}(ho : o.op = .binOp .add t x y ty)
  (hx : ev st x = some (.one (.d (.int k a)))) (hy : ev st y = some (.one (.d (.int k' b)))) (hk : kEq k k' = true) (hz : k.wrap (a + b) = z) : aV V st o 0 = some ⟨.one (.d (.int k z)),[],[]⟩:=oh ho rfl hx hy hk hz
theorem rC{t ty : TypeId}{x y : Operand}{k k' : IntKind}{a b z : Int}(ho : o.op = .binOp .sub t x y ty)
  (hx : ev st x = some (.one (.d (.int k a)))) (hy : ev st y = some (.one (.d (.int k' b)))) (hk : kEq k k' = true) (hz : k.wrap (a - b) = z) : aV V st o 0 = some ⟨.one (.d (.int k z)),[],[]⟩:=oh ho rfl hx hy hk hz
theorem xK{t ty : TypeId}{x y : Operand}{k k' : IntKind}{a b z : Int}(ho : o.op = .binOp .mul t x y ty)
  (hx : ev st x = some (.one (.d (.int k a)))) (hy : ev st y = some (.one (.d (.int k' b)))) (hk : kEq k k' = true) (hz : k.wrap (a * b) = z) : aV V st o 0 = some ⟨.one (.d (.int k z)),[],[]⟩:=oh ho rfl hx hy hk hz
theorem xx{t ty : TypeId}{x y : Operand}{k k' : IntKind}{a b : Int}(ho : o.op = .binOp .rem t x y ty)
  (hx : ev st x = some (.one (.d (.int k a)))) (hy : ev st y = some (.one (.d (.int k' b)))) (hk : kEq k k' = true) (h0 : ¬ b = 0) : aV V st o 0 = some ⟨.one (.d (.int k (a.tmod b))),[],[]⟩:=by
 simp only [aV,cT,b6,ho,hx,hy,pa,jN,cond_false,hk,cond_true,tz,cD,lY,iN,wq,h0,decide_false,Bool.not_false,Bool.and_self]
 cases o.dst <;> simp [gT]
theorem F2{t ty : TypeId}{x y : Operand}{k k' : IntKind}{a b z : Int}(ho : o.op = .binOp .quo t x y ty)
  (hx : ev st x = some (.one (.d (.int k a)))) (hy : ev st y = some (.one (.d (.int k' b)))) (hk : kEq k k' = true) (h0 : ¬ b = 0) (hz : k.wrap (a.tdiv b) = z) : aV V st o 0 = some ⟨.one (.d (.int k z)),[],[]⟩:=by
 subst hz
 simp only [aV,cT,b6,ho,hx,hy,pa,jN,cond_false,hk,cond_true,tz,cD,lY,iN,wq,h0,decide_false,Bool.not_false,Bool.and_self]
 cases o.dst <;> simp [gT]
theorem gP{z : Int}(h1 : 0≤z)(h2 : z≤18446744073709551615) : IntKind.u64.wrap z = z :=
 vX ⟨by simp [IntKind.min,IntKind.signed]; exact h1,by simp [IntKind.max,IntKind.signed,IntKind.bits]; exact h2⟩
theorem J5{z : Int}(h1 : 0≤z)(h2 : z≤4294967295) : IntKind.u32.wrap z = z :=
 vX ⟨by simp [IntKind.min,IntKind.signed]; exact h1,by simp [IntKind.max,IntKind.signed,IntKind.bits]; exact h2⟩
def IW(T : Tab)(t : TypeId) : Bool:=match look T t with | some _=>true | none=>false
theorem Gj{t : TypeId}{x : Operand}{k : IntKind}{a z : Int}(ho : o.op = .unOp .neg t x)
  (hx : ev st x = some (.one (.d (.int k a)))) (hz : k.wrap (0 - a) = z) : aV V st o 0 = some ⟨.one (.d (.int k z)),[],[]⟩:=by
 subst hz
 exact c5 (by simp only [ho,b6,hx,unF])
def Gk(T : Tab)(t : TypeId)(k : IntKind) : Bool:=match look T t with | some ⟨.int k',_,_,_⟩=>kEq k' k | _=>false
theorem qb{src dst : TypeId}{x : Operand}{k k' : IntKind}{a z : Int}(ho : o.op = .convert src dst x)
  (hx : ev st x = some (.one (.d (.int k a)))) (hs : IW V.T src = true) (hd : Gk V.T dst k' = true) (hz : k'.wrap a = z) : aV V st o 0 = some ⟨.one (.d (.int k' z)),[],[]⟩:=by
 subst hz
 refine c5 ?_
 unfold IW at hs
 unfold Gk at hd
 split at hs <;> (try (simp at hs; done))
 rename_i td hs'
 split at hd <;> (try (simp at hd; done))
 rename_i k'' h1 h2 h3 hd'
 obtain rfl:=fQ hd
 simp only [ho,b6,hx,yn,hs',hd']
theorem J6(hT : ba P T){d : Nat}{src dst : TypeId}{x : Operand}{s : List UInt8}(ho : o.op = .convert src dst x)(hg : o.guard = none)(hdst : o.dst = some d)(hd : Nat.blt d n = true)(hb : (gm T src && nc T dst) = true)
  (hx : ev ⟨fr,sto⟩ x = some (.one (.d (.str s)))) (hl : s.length≤1000000) (h : ae P ⟨w0,σ0,φ0,M,n,rd,mk⟩ ops rest ⟨(d,.one (.d (oR s)))::fr,sto⟩ K) : ae P ⟨w0,σ0,φ0,M,n,rd,mk⟩ ops (o::rest) ⟨fr,sto⟩ K :=
 sS hT ho hg (by rw [hdst]; exact hd) hb hx (by omega) (by rw [hdst]; exact h)
theorem s_e(hV : EnvOk P V){d : Nat}{v : AV}(hg : o.guard = none)(hdst : o.dst = some d)(hd : Nat.blt d n = true)(h : aV V ⟨fr,sto⟩ o 0 = some ⟨v,[],[]⟩)
  (hk : ae P ⟨w0,σ0,φ0,M,n,rd,mk⟩ ops rest ⟨(d,v)::fr,sto⟩ K) : ae P ⟨w0,σ0,φ0,M,n,rd,mk⟩ ops (o::rest) ⟨fr,sto⟩ K :=
 AA hV (dst:=some d) hg hdst hd h rfl hk
theorem my(hT : ba P T)(id : Nat){d : Nat}{t : TypeId}{td : TD}(ho : o.op = .alloc t)(hg : o.guard = none)(hdst : o.dst = some d)(hd : (Nat.blt d n && (Nat.blt id 1000000 && (!bo sto id && !bx id fr && !aR id sto))) = true)(ht : look T t = some td)
  (h : ae P ⟨w0,σ0,φ0,M,n,rd,mk⟩ ops rest ⟨(d,.one (.ref id 0))::fr,(id,.box (td.zero.map .d))::sto⟩ K) : ae P ⟨w0,σ0,φ0,M,n,rd,mk⟩ ops (o::rest) ⟨fr,sto⟩ K:=by
 simp only [Bool.and_eq_true,Bool.not_eq_true'] at hd
 exact sB hT ho hg hdst (by simp only [Bool.and_eq_true]; exact ⟨hd.1,hd.2.1⟩) ht hd.2.2.1.2 hd.2.2.2 h
theorem ov(hV : EnvOk P V){i : Nat}{ob : AObj}(hg : o.guard = none)(hdst : o.dst = none)(h : aV V ⟨fr,sto⟩ o 0 = some ⟨.any,[(i,some ob)],[]⟩)(hk : ae P ⟨w0,σ0,φ0,M,n,rd,mk⟩ ops rest ⟨fr,bS i ob sto⟩ K) :
  ae P ⟨w0,σ0,φ0,M,n,rd,mk⟩ ops (o::rest) ⟨fr,sto⟩ K:=AA hV (dst:=none) hg hdst rfl h rfl hk
theorem Og(hV : EnvOk P V){d f : Nat}{caps : Array Operand}{v : AV}{wr : List (Nat×Option AObj)}(ho : o.op = .makeFunc (.func f) ⟨[]⟩ caps)(hg : o.guard = none)(hdst : o.dst = some d)(hd : Nat.blt d n = true)(h : aV V ⟨fr,sto⟩ o 0 = some ⟨v,wr,[]⟩)
  (hk : ae P ⟨w0,σ0,φ0,M,n,rd,mk⟩ ops rest ⟨(d,v)::fr,cM wr sto⟩ K) : ae P ⟨w0,σ0,φ0,M,n,rd,mk⟩ ops (o::rest) ⟨fr,sto⟩ K:=AA hV (dst:=some d) hg hdst hd h rfl hk
theorem AD{x : Operand}{p q : Code}{Q : Exit→St→Prop}(hx : ev st x = some (.one (.d (.bool true))))(ht : OkC P c p st Q) : OkC P c (.cond x p q) st Q:=ah hx (fun _=>ht) (fun h=>by simp at h)
theorem AE{x : Operand}{p q : Code}{Q : Exit→St→Prop}(hx : ev st x = some (.one (.d (.bool false))))(ht : OkC P c q st Q) : OkC P c (.cond x p q) st Q:=ah hx (fun h=>by simp at h) (fun _=>ht)
theorem Gl{x : Operand}{p q : Code}{Q : Exit→St→Prop}{b : Bool}(hx : ev st x = some (.one (.d (.bool b))))(hb : b = true)(ht : OkC P c p st Q) : OkC P c (.cond x p q) st Q:=AD (by rw [hx,hb]) ht
theorem Gm{x : Operand}{p q : Code}{Q : Exit→St→Prop}{b : Bool}(hx : ev st x = some (.one (.d (.bool b))))(hb : b = false)(ht : OkC P c q st Q) : OkC P c (.cond x p q) st Q:=AE (by rw [hx,hb]) ht
theorem jz{fr fr' : List (Nat×AV)}(h : SubL fr fr') : Imp c ⟨fr,sto⟩ ⟨fr',sto⟩:=fun a w σ φ hr=>by
 exact ⟨σ,φ,⟨hr.le,hr.fresh,hr.inv,hr.mine,fun s v hv=>hr.slot s v (h.look hv),hr.defers,hr.size,hr.fra,hr.pin⟩⟩
theorem aZ{α : Type}{fr : List (Nat×α)} : SubL fr []:=trivial
theorem aj{α : Type}{fr r : List (Nat×α)}{s : Nat}{v : α}(h : look fr s = some v)(ht : SubL fr r) : SubL fr ((s,v)::r):=⟨h,ht⟩
theorem q1Q{α : Type}{fr : List (Nat×α)}{s0 : Nat}{v0 : α}(h0 : look fr s0 = some v0) : SubL fr [(s0,v0)]:=aj h0 aZ
theorem q2Q{α : Type}{fr : List (Nat×α)}{s0 s1 : Nat}{v0 v1 : α}(h0 : look fr s0 = some v0)(h1 : look fr s1 = some v1) : SubL fr [(s0,v0),(s1,v1)]:=aj h0 (aj h1 aZ)
theorem q3Q{α : Type}{fr : List (Nat×α)}{s0 s1 s2 : Nat}{v0 v1 v2 : α}(h0 : look fr s0 = some v0)(h1 : look fr s1 = some v1)(h2 : look fr s2 = some v2) : SubL fr [(s0,v0),(s1,v1),(s2,v2)]:=aj h0 (aj h1 (aj h2 aZ))
theorem q4Q{α : Type}{fr : List (Nat×α)}{s0 s1 s2 s3 : Nat}{v0 v1 v2 v3 : α}(h0 : look fr s0 = some v0)(h1 : look fr s1 = some v1)(h2 : look fr s2 = some v2)(h3 : look fr s3 = some v3) : SubL fr [(s0,v0),(s1,v1),(s2,v2),(s3,v3)]:=aj h0 (aj h1 (aj h2 (aj h3 aZ)))
theorem q5Q{α : Type}{fr : List (Nat×α)}{s0 s1 s2 s3 s4 : Nat}{v0 v1 v2 v3 v4 : α}(h0 : look fr s0 = some v0)(h1 : look fr s1 = some v1)(h2 : look fr s2 = some v2)(h3 : look fr s3 = some v3)(h4 : look fr s4 = some v4) : SubL fr [(s0,v0),(s1,v1),(s2,v2),(s3,v3),(s4,v4)]:=aj h0 (aj h1 (aj h2 (aj h3 (aj h4 aZ))))
theorem q6Q{α : Type}{fr : List (Nat×α)}{s0 s1 s2 s3 s4 s5 : Nat}{v0 v1 v2 v3 v4 v5 : α}(h0 : look fr s0 = some v0)(h1 : look fr s1 = some v1)(h2 : look fr s2 = some v2)(h3 : look fr s3 = some v3)(h4 : look fr s4 = some v4)(h5 : look fr s5 = some v5) : SubL fr [(s0,v0),(s1,v1),(s2,v2),(s3,v3),(s4,v4),(s5,v5)]:=aj h0 (aj h1 (aj h2 (aj h3 (aj h4 (aj h5 aZ)))))
theorem q7Q{α : Type}{fr : List (Nat×α)}{s0 s1 s2 s3 s4 s5 s6 : Nat}{v0 v1 v2 v3 v4 v5 v6 : α}(h0 : look fr s0 = some v0)(h1 : look fr s1 = some v1)(h2 : look fr s2 = some v2)(h3 : look fr s3 = some v3)(h4 : look fr s4 = some v4)(h5 : look fr s5 = some v5)(h6 : look fr s6 = some v6) : SubL fr [(s0,v0),(s1,v1),(s2,v2),(s3,v3),(s4,v4),(s5,v5),(s6,v6)]:=aj h0 (aj h1 (aj h2 (aj h3 (aj h4 (aj h5 (aj h6 aZ))))))
theorem q8Q{α : Type}{fr : List (Nat×α)}{s0 s1 s2 s3 s4 s5 s6 s7 : Nat}{v0 v1 v2 v3 v4 v5 v6 v7 : α}(h0 : look fr s0 = some v0)(h1 : look fr s1 = some v1)(h2 : look fr s2 = some v2)(h3 : look fr s3 = some v3)(h4 : look fr s4 = some v4)(h5 : look fr s5 = some v5)(h6 : look fr s6 = some v6)(h7 : look fr s7 = some v7) : SubL fr [(s0,v0),(s1,v1),(s2,v2),(s3,v3),(s4,v4),(s5,v5),(s6,v6),(s7,v7)]:=aj h0 (aj h1 (aj h2 (aj h3 (aj h4 (aj h5 (aj h6 (aj h7 aZ)))))))
theorem q9Q{α : Type}{fr : List (Nat×α)}{s0 s1 s2 s3 s4 s5 s6 s7 s8 : Nat}{v0 v1 v2 v3 v4 v5 v6 v7 v8 : α}(h0 : look fr s0 = some v0)(h1 : look fr s1 = some v1)(h2 : look fr s2 = some v2)(h3 : look fr s3 = some v3)(h4 : look fr s4 = some v4)(h5 : look fr s5 = some v5)(h6 : look fr s6 = some v6)(h7 : look fr s7 = some v7)(h8 : look fr s8 = some v8) : SubL fr [(s0,v0),(s1,v1),(s2,v2),(s3,v3),(s4,v4),(s5,v5),(s6,v6),(s7,v7),(s8,v8)]:=aj h0 (aj h1 (aj h2 (aj h3 (aj h4 (aj h5 (aj h6 (aj h7 (aj h8 aZ))))))))
theorem a0A : type_of% @decide_eq_true_eq:=@decide_eq_true_eq
theorem a1A : type_of% @decide_eq_false_iff_not:=@decide_eq_false_iff_not
theorem a2A : type_of% @Bool.not_eq_true':=@Bool.not_eq_true'
theorem a3A : type_of% @Bool.not_true:=@Bool.not_true
theorem a4A : type_of% @Bool.not_false:=@Bool.not_false
theorem a5A : type_of% @List.length_map:=@List.length_map
theorem a6A : type_of% @List.length_set:=@List.length_set
theorem a7A : type_of% @bne_iff_ne:=@bne_iff_ne
theorem a8A : type_of% @ne_eq:=@ne_eq
theorem a9A : type_of% @beq_iff_eq:=@beq_iff_eq
theorem Hl : type_of% @bne_eq_false_iff_eq:=@bne_eq_false_iff_eq
theorem K8 : type_of% @beq_eq_false_iff_ne:=@beq_eq_false_iff_ne
theorem zO : type_of% @List.length_cons:=@List.length_cons
theorem zP : type_of% @List.length_nil:=@List.length_nil
theorem Eo : type_of% @List.length_append:=@List.length_append
theorem Ep : type_of% @List.length_take:=@List.length_take
theorem Er : type_of% @List.length_drop:=@List.length_drop
theorem zl : type_of% @Int.toNat_natCast:=@Int.toNat_natCast
def jB : Code→Nat
 | .region id _ _=>id
 | .seq x _=>jB x
 | .block _ x=>jB x
 | .loop x=>jB x
 | _=>0
theorem aH{α : Type}{body : Code}{Q : Exit→St→Prop}(rg : Nat)(hrg : jB body = rg)(kept : List (Nat×AV))(hk : SubL fr kept)(L : α→List (Nat×AV))(Inv : α→Prop)(μ : α→Nat)(x0 : α)(hL : SubL fr (L x0))(h0 : Inv x0)
  (hround : ∀ x,Inv x→OkC P c body ⟨L x ++ kept,sto⟩ (aA (fun st'=>∃ y,Inv y∧μ y < μ x∧SubL st'.sto sto∧SubL st'.fr (L y)∧SubL st'.fr kept) Q)) : OkC P c (.loop body) ⟨fr,sto⟩ Q:=by
 have hap : ∀ {f a b : List (Nat×AV)},SubL f a→SubL f b→SubL f (a ++ b):=by
  intro f a b h1 h2
  induction a with
  | nil=>exact h2
  | cons p r ih=>exact ⟨h1.1,ih h1.2⟩
 refine bf (st':=⟨L x0 ++ kept,sto⟩) (jz (hap hL hk)) ?_
 refine ox (fun n st=>∃ x,Inv x∧n = μ x∧st = ⟨L x ++ kept,sto⟩) (μ x0) ⟨x0,h0,rfl,rfl⟩ ?_
 rintro n st ⟨x,hx,rfl,rfl⟩
 refine jI (hround x hx) fun e st h=>?_
 cases e with
 | normal =>
   obtain ⟨y,hy,hlt,hs,h1,h2⟩:=h
   obtain ⟨f,s⟩:=st
   simp only at hs h1 h2
   exact ⟨μ y,_,hlt,⟨y,hy,rfl,rfl⟩,Imp.trans (jz (hap h1 h2)) (fun a w σ φ hr=>⟨σ,φ,hr.dropTo fun i e h=>hs.look h⟩)⟩
 | _=>exact h
theorem Mz{f : St→Prop}{Q : Exit→St→Prop}(h : f st) : aA f Q .normal st:=h
theorem MA{f : St→Prop}{Q : Exit→St→Prop}(h : Q .ret st) : aA f Q .ret st:=h
theorem MB{f : St→Prop}{Q : Exit→St→Prop}{i : Nat}(h : Q (.exit i) st) : aA f Q (.exit i) st:=h
theorem J7{i : Nat}{Q : Exit→St→Prop}(h : Q .normal st) : av i Q .normal st:=h
theorem J8{i : Nat}{Q : Exit→St→Prop}(h : Q .ret st) : av i Q .ret st:=h
theorem J9{i j : Nat}{Q : Exit→St→Prop}(hb : Nat.beq j i = true)(h : Q .normal st) : av i Q (.exit j) st:=by simp only [av,hb,cond_true]; exact h
theorem Ka{i j : Nat}{Q : Exit→St→Prop}(hb : Nat.beq j i = false)(h : Q (.exit j) st) : av i Q (.exit j) st:=by simp only [av,hb,cond_false]; exact h
def OkD(d : D) : Prop:=∃ σ v,Rep σ d v
theorem OkD.str{s : List UInt8}(h : OkD (.str s)) : s.length < 281474976710656:=by
 obtain ⟨σ,v,h⟩:=h
 cases h with
 | str h=>simpa using h
theorem OkD.int{k : IntKind}{z : Int}(h : OkD (.int k z)) : inR k z:=by
 obtain ⟨σ,v,h⟩:=h
 cases h with
 | int h=>exact h
theorem OkD.i64{z : Int}(h : OkD (.int .i64 z)) : -9223372036854775808≤z∧z≤9223372036854775807:=by
 have:=h.int
 simpa [inR,IntKind.min,IntKind.max,IntKind.signed,IntKind.bits] using this
theorem OkD.sl{k b : Nat}{xs : List (List D)}(h : OkD (.sl k b xs)) : xs.length < 281474976710656∧xs.length * b≤140737488355328∧∀ x∈xs,x.length = k∧∀ d∈x,OkD d:=by
 obtain ⟨σ,v,h⟩:=h
 cases h with
 | sl vs hc h48 hb hk hA hh =>
   refine ⟨by simpa using h48,by simpa using hb,fun x hx=>⟨hk x hx,fun d hd=>?_⟩⟩
   obtain ⟨i,hi⟩:=List.getElem?_of_mem hx
   obtain ⟨j,hj⟩:=List.getElem?_of_mem hd
   exact ⟨σ,_,hh i j x d hi hj⟩
def H5 : AC→Prop
 | .d d=>OkD d
 | _=>True
def Ss : AV→Prop
 | .one c=>H5 c
 | .agg cs=>∀ c∈cs,H5 c
 | _=>True
def Es : List AV→Prop
 | []=>True
 | v::r=>Ss v∧Es r
theorem AF{σ : Sig}{φ : Pl}{sto : Sto} : ∀ {avs : List AV} {vs : List Value},All2 (RepV σ φ sto) avs vs→Es avs
 | [],[],_=>trivial
 | v::r,u::us,h=>by
   refine ⟨?_,AF h.2⟩
   have h1:=h.1
   have key : ∀ {x : AC} {u : Value},RepC σ φ sto x u→H5 x:=by
    intro x u h
    cases x with
    | d d=>exact ⟨σ,_,RepC.d_inv h⟩
    | _=>trivial
   cases v with
   | one x=>exact key h1
   | agg cs =>
     obtain ⟨vs,rfl,h2⟩:=h1
     intro x hx
     obtain ⟨j,hj⟩:=List.getElem?_of_mem hx
     obtain ⟨w,_,hr⟩:=h2.get hj
     exact key hr
   | _=>trivial
 | [],_::_,h=>h.elim
 | _::_,[],h=>h.elim
theorem enter(hT : ba P T){f : FuncId}{fn : Func}{code : Code}{args : List AV}{sto : Sto}{rav : AV}{rsto : Sto}(hf : P.funcs[f]? = some fn)(hb : fn.body = some code)
  (hname : (fn.name == "runtime.NumGoroutine") = false) (hn : Nat.ble args.length fn.ntmps = true)
  (h : Es args→∀ (w0 : World) (σ0 : Sig) (φ0 : Pl) (M : Nat→Prop),OkC P ⟨w0,σ0,φ0,M,fn.ntmps,none,[]⟩ code ⟨lQ 0 args,sto⟩ (aN T fn.results.toList rav rsto)) : CallA P f args sto rav rsto :=
 ⟨⟨fn,hf,hname,by rw [hb]; rfl⟩,fun w σ φ vs hinv hargs=>(sT hT hf hb hname hn (h (AF hargs))).run w σ φ vs hinv hargs⟩
def at_{α : Type}[Inhabited α](l : List α)(i : Nat) : α:=l.getD i default
theorem gH{α : Type}[Inhabited α]{l : List α}{i : Nat}(h : i < l.length) : l[i]? = some (at_ l i):=by simp [at_,List.getD_eq_getElem?_getD,h]
theorem fy{α β : Type}[Inhabited α]{f : α→β}{l : List α}{i : Nat}(h : i < l.length) : (l.map f)[i]? = some (f (at_ l i)):=by simp [gH h]
theorem ao{α : Type}[Inhabited α]{l : List α}{i : Nat}(h : i < l.length) : l.drop i = at_ l i::l.drop (i + 1):=by
 rw [List.drop_eq_getElem_cons h]
 have:=gH h
 rw [List.getElem?_eq_getElem h] at this
 rw [Option.some.inj this]
theorem ez{α : Type}[Inhabited α]{l : List α}{i : Nat}(h : i < l.length) : l.take (i + 1) = l.take i ++ [at_ l i]:=by
 rw [List.take_add_one,gH h]; rfl
theorem bT{α : Type}[Inhabited α]{l : List α}{i : Nat}(h : i < l.length) : at_ l i∈l:=List.mem_of_getElem? (gH h)
theorem tN{α : Type}[Inhabited α]{l : List α}{n i : Nat}(h : i < n) : at_ (l.take n) i = at_ l i:=by
 simp only [at_,List.getD_eq_getElem?_getD,List.getElem?_take,h,if_true]
theorem eV{α β : Type}[Inhabited α][Inhabited β]{f : α→β}{l : List α}{i : Nat}(h : i < l.length) : at_ (l.map f) i = f (at_ l i):=by
 simp [at_,List.getD_eq_getElem?_getD,h]
theorem H6{α β : Type}[Inhabited α][BEq β][LawfulBEq β]{f : α→β}{l : List α}{j k : Nat}{x : β}(hj : j < k)(hk : k≤l.length)(h : f (at_ l j) = x) : ((l.take k).map f).contains x = true:=by
 subst h
 simp only [List.contains_iff_mem,List.mem_map]
 exact ⟨_,List.mem_of_getElem? (i:=j) (by rw [List.getElem?_take,if_pos hj]; exact gH (by omega)),rfl⟩
theorem H7{T : Tab}{rs : List ResultVar}{rav rav' : AV}{e : Exit}{st : St}{l : List (Bool×List AC)}(he : e = .ret∨e = .normal)(hl : mJ T st rs = some l)(hr : pj l = some rav')(h : rav' = rav) : aN T rs rav [] e st :=
 ⟨he,l,hl,by rw [hr,h],by first | exact SubL.nil | (intro i; simp [look]) | trivial⟩
theorem gQ0{Q : Prop}{x1 x2 x3 x4 x5 x6 x7 x8 x9 x10 x11 x12}(h : Q→ae x1 x2 x3 (Oper.mk x4 (x5) x6 x7 x8 (some x9)::x10) x11 x12) : Q→ae x1 x2 x3 (Oper.mk x4 (x5) x6 x7 x8 (some x9)::x10) x11 x12:=h
theorem gQ1{Q : Prop}{x1 x2 x3 x4 x5 x6 x7 x8 x9 x10 x11 x12}(h : Q→ae x1 x2 x3 (Oper.mk x4 (Op.call x5) x6 x7 x8 (x9)::x10) x11 x12) : Q→ae x1 x2 x3 (Oper.mk x4 (Op.call x5) x6 x7 x8 (x9)::x10) x11 x12:=h
theorem gQ2{Q : Prop}{x1 x2 x3 x4 x5 x6 x7 x8 x9 x10 x11 x12 x13 x14}(h : Q→ae x1 x2 x3 (Oper.mk x4 (Op.convert x5 x6 x7) x8 x9 x10 (x11)::x12) x13 x14) : Q→ae x1 x2 x3 (Oper.mk x4 (Op.convert x5 x6 x7) x8 x9 x10 (x11)::x12) x13 x14:=h
theorem gQ3{Q : Prop}{x1 x2 x3 x4 x5 x6 x7 x8 x9 x10 x11 x12 x13 x14 x15}(h : Q→ae x1 x2 x3 (Oper.mk x4 (Op.binOp .add x5 x6 x7 x8) x9 x10 x11 (x12)::x13) x14 x15) : Q→ae x1 x2 x3 (Oper.mk x4 (Op.binOp .add x5 x6 x7 x8) x9 x10 x11 (x12)::x13) x14 x15:=h
theorem gQ4{Q : Prop}{x1 x2 x3 x4 x5 x6 x7 x8 x9 x10 x11 x12 x13 x14 x15}(h : Q→ae x1 x2 x3 (Oper.mk x4 (Op.binOp .sub x5 x6 x7 x8) x9 x10 x11 (x12)::x13) x14 x15) : Q→ae x1 x2 x3 (Oper.mk x4 (Op.binOp .sub x5 x6 x7 x8) x9 x10 x11 (x12)::x13) x14 x15:=h
theorem gQ5{Q : Prop}{x1 x2 x3 x4 x5 x6 x7 x8 x9 x10 x11 x12 x13 x14 x15}(h : Q→ae x1 x2 x3 (Oper.mk x4 (Op.binOp .mul x5 x6 x7 x8) x9 x10 x11 (x12)::x13) x14 x15) : Q→ae x1 x2 x3 (Oper.mk x4 (Op.binOp .mul x5 x6 x7 x8) x9 x10 x11 (x12)::x13) x14 x15:=h
theorem gQ6{Q : Prop}{x1 x2 x3 x4 x5 x6 x7 x8 x9 x10 x11 x12 x13 x14 x15}(h : Q→ae x1 x2 x3 (Oper.mk x4 (Op.binOp .rem x5 x6 x7 x8) x9 x10 x11 (x12)::x13) x14 x15) : Q→ae x1 x2 x3 (Oper.mk x4 (Op.binOp .rem x5 x6 x7 x8) x9 x10 x11 (x12)::x13) x14 x15:=h
theorem gQ7{Q : Prop}{x1 x2 x3 x4 x5 x6 x7 x8 x9 x10 x11 x12 x13 x14 x15}(h : Q→ae x1 x2 x3 (Oper.mk x4 (Op.binOp .quo x5 x6 x7 x8) x9 x10 x11 (x12)::x13) x14 x15) : Q→ae x1 x2 x3 (Oper.mk x4 (Op.binOp .quo x5 x6 x7 x8) x9 x10 x11 (x12)::x13) x14 x15:=h
theorem gQ8{Q : Prop}{x1 x2 x3 x4 x5 x6 x7 x8 x9 x10 x11 x12 x13}(h : Q→ae x1 x2 x3 (Oper.mk x4 (Op.unOp .neg x5 x6) x7 x8 x9 (x10)::x11) x12 x13) : Q→ae x1 x2 x3 (Oper.mk x4 (Op.unOp .neg x5 x6) x7 x8 x9 (x10)::x11) x12 x13:=h
theorem gQ9{Q : Prop}{x1 x2 x3 x4 x5 x6 x7 x8 x9 x10 x11 x12 x13 x14}(h : Q→ae x1 x2 x3 (Oper.mk x4 (Op.pick x5 x6 x7) x8 x9 x10 (x11)::x12) x13 x14) : Q→ae x1 x2 x3 (Oper.mk x4 (Op.pick x5 x6 x7) x8 x9 x10 (x11)::x12) x13 x14:=h
theorem Su{Q : Prop}{x1 x2 x3 x4 x5 x6 x7 x8 x9 x10 x11 x12 x13 x14}(h : Q→ae x1 x2 x3 (Oper.mk x4 (Op.indexAddr x5 x6 x7) x8 x9 x10 (x11)::x12) x13 x14) : Q→ae x1 x2 x3 (Oper.mk x4 (Op.indexAddr x5 x6 x7) x8 x9 x10 (x11)::x12) x13 x14:=h
theorem Sv{Q : Prop}{x1 x2 x3 x4 x5 x6 x7 x8 x9 x10 x11 x12 x13 x14}(h : Q→ae x1 x2 x3 (Oper.mk x4 (Op.index x5 x6 x7) x8 x9 x10 (x11)::x12) x13 x14) : Q→ae x1 x2 x3 (Oper.mk x4 (Op.index x5 x6 x7) x8 x9 x10 (x11)::x12) x13 x14:=h
theorem Sw{Q : Prop}{x1 x2 x3 x4 x5 x6 x7 x8 x9 x10 x11 x12 x13}(h : Q→ae x1 x2 x3 (Oper.mk x4 (Op.load x5 x6) x7 x8 x9 (x10)::x11) x12 x13) : Q→ae x1 x2 x3 (Oper.mk x4 (Op.load x5 x6) x7 x8 x9 (x10)::x11) x12 x13:=h
theorem Sy{Q : Prop}{x1 x2 x3 x4 x5 x6 x7 x8 x9 x10 x11 x12 x13}(h : Q→ae x1 x2 x3 (Oper.mk x4 (Op.box x5 x6) x7 x8 x9 (x10)::x11) x12 x13) : Q→ae x1 x2 x3 (Oper.mk x4 (Op.box x5 x6) x7 x8 x9 (x10)::x11) x12 x13:=h
theorem Sz{Q : Prop}{x1 x2 x3 x4 x5 x6 x7 x8 x9 x10 x11 x12}(h : Q→ae x1 x2 x3 (Oper.mk x4 (Op.alloc x5) x6 x7 x8 (x9)::x10) x11 x12) : Q→ae x1 x2 x3 (Oper.mk x4 (Op.alloc x5) x6 x7 x8 (x9)::x10) x11 x12:=h
theorem SA{Q : Prop}{x1 x2 x3 x4 x5 x6}(h : Q→ae x1 x2 x3 x4 x5 x6) : Q→ae x1 x2 x3 x4 x5 x6:=h
theorem SB{Q : Prop}{x1 x2 x3 x4 x5}(h : Q→OkC x1 x2 x3 x4 x5) : Q→OkC x1 x2 x3 x4 x5:=h
theorem SC{Q : Prop}{x1 x2 x3 x4 x5 x6 x7 x8 x9 x10 x11 x12 x13 x14}(h : Q→ar x1 x2 x3 x4 (Oper.mk x5 (Op.call x6) x7 x8 x9 (x10)::x11) x12 x13 x14) : Q→ar x1 x2 x3 x4 (Oper.mk x5 (Op.call x6) x7 x8 x9 (x10)::x11) x12 x13 x14:=h
theorem SD{Q : Prop}{x1 x2 x3 x4 x5 x6 x7 x8 x9 x10 x11 x12 x13 x14}(h : Q→ar x1 x2 x3 x4 (Oper.mk x5 (x6) x7 x8 x9 (some x10)::x11) x12 x13 x14) : Q→ar x1 x2 x3 x4 (Oper.mk x5 (x6) x7 x8 x9 (some x10)::x11) x12 x13 x14:=h
theorem SE{Q : Prop}{x1 x2 x3 x4 x5 x6 x7 x8 x9 x10 x11 x12 x13 x14 x15 x16 x17}(h : Q→ar x1 x2 x3 x4 (Oper.mk x5 (Op.binOp .add x6 x7 x8 x9) x10 x11 x12 (x13)::x14) x15 x16 x17) : Q→ar x1 x2 x3 x4 (Oper.mk x5 (Op.binOp .add x6 x7 x8 x9) x10 x11 x12 (x13)::x14) x15 x16 x17:=h
theorem SF{Q : Prop}{x1 x2 x3 x4 x5 x6 x7 x8 x9 x10 x11 x12 x13 x14 x15 x16 x17}(h : Q→ar x1 x2 x3 x4 (Oper.mk x5 (Op.binOp .sub x6 x7 x8 x9) x10 x11 x12 (x13)::x14) x15 x16 x17) : Q→ar x1 x2 x3 x4 (Oper.mk x5 (Op.binOp .sub x6 x7 x8 x9) x10 x11 x12 (x13)::x14) x15 x16 x17:=h
theorem SG{Q : Prop}{x1 x2 x3 x4 x5 x6 x7 x8 x9 x10 x11 x12 x13 x14 x15 x16 x17}(h : Q→ar x1 x2 x3 x4 (Oper.mk x5 (Op.binOp .mul x6 x7 x8 x9) x10 x11 x12 (x13)::x14) x15 x16 x17) : Q→ar x1 x2 x3 x4 (Oper.mk x5 (Op.binOp .mul x6 x7 x8 x9) x10 x11 x12 (x13)::x14) x15 x16 x17:=h
theorem SH{Q : Prop}{x1 x2 x3 x4 x5 x6 x7 x8 x9 x10 x11 x12 x13 x14 x15 x16 x17}(h : Q→ar x1 x2 x3 x4 (Oper.mk x5 (Op.binOp .rem x6 x7 x8 x9) x10 x11 x12 (x13)::x14) x15 x16 x17) : Q→ar x1 x2 x3 x4 (Oper.mk x5 (Op.binOp .rem x6 x7 x8 x9) x10 x11 x12 (x13)::x14) x15 x16 x17:=h
theorem SI{Q : Prop}{x1 x2 x3 x4 x5 x6 x7 x8 x9 x10 x11 x12 x13 x14 x15 x16 x17}(h : Q→ar x1 x2 x3 x4 (Oper.mk x5 (Op.binOp .quo x6 x7 x8 x9) x10 x11 x12 (x13)::x14) x15 x16 x17) : Q→ar x1 x2 x3 x4 (Oper.mk x5 (Op.binOp .quo x6 x7 x8 x9) x10 x11 x12 (x13)::x14) x15 x16 x17:=h
theorem SJ{Q : Prop}{x1 x2 x3 x4 x5 x6 x7 x8 x9 x10 x11 x12 x13 x14 x15}(h : Q→ar x1 x2 x3 x4 (Oper.mk x5 (Op.unOp .neg x6 x7) x8 x9 x10 (x11)::x12) x13 x14 x15) : Q→ar x1 x2 x3 x4 (Oper.mk x5 (Op.unOp .neg x6 x7) x8 x9 x10 (x11)::x12) x13 x14 x15:=h
theorem SK{Q : Prop}{x1 x2 x3 x4 x5 x6 x7 x8 x9 x10 x11 x12 x13 x14 x15 x16}(h : Q→ar x1 x2 x3 x4 (Oper.mk x5 (Op.convert x6 x7 x8) x9 x10 x11 (x12)::x13) x14 x15 x16) : Q→ar x1 x2 x3 x4 (Oper.mk x5 (Op.convert x6 x7 x8) x9 x10 x11 (x12)::x13) x14 x15 x16:=h
theorem SL{Q : Prop}{x1 x2 x3 x4 x5 x6 x7 x8 x9 x10 x11 x12 x13 x14 x15 x16}(h : Q→ar x1 x2 x3 x4 (Oper.mk x5 (Op.pick x6 x7 x8) x9 x10 x11 (x12)::x13) x14 x15 x16) : Q→ar x1 x2 x3 x4 (Oper.mk x5 (Op.pick x6 x7 x8) x9 x10 x11 (x12)::x13) x14 x15 x16:=h
theorem SM{Q : Prop}{x1 x2 x3 x4 x5 x6 x7 x8 x9 x10 x11 x12 x13 x14 x15 x16}(h : Q→ar x1 x2 x3 x4 (Oper.mk x5 (Op.indexAddr x6 x7 x8) x9 x10 x11 (x12)::x13) x14 x15 x16) : Q→ar x1 x2 x3 x4 (Oper.mk x5 (Op.indexAddr x6 x7 x8) x9 x10 x11 (x12)::x13) x14 x15 x16:=h
theorem SN{Q : Prop}{x1 x2 x3 x4 x5 x6 x7 x8 x9 x10 x11 x12 x13 x14 x15 x16}(h : Q→ar x1 x2 x3 x4 (Oper.mk x5 (Op.index x6 x7 x8) x9 x10 x11 (x12)::x13) x14 x15 x16) : Q→ar x1 x2 x3 x4 (Oper.mk x5 (Op.index x6 x7 x8) x9 x10 x11 (x12)::x13) x14 x15 x16:=h
theorem SO{Q : Prop}{x1 x2 x3 x4 x5 x6 x7 x8 x9 x10 x11 x12 x13 x14 x15}(h : Q→ar x1 x2 x3 x4 (Oper.mk x5 (Op.load x6 x7) x8 x9 x10 (x11)::x12) x13 x14 x15) : Q→ar x1 x2 x3 x4 (Oper.mk x5 (Op.load x6 x7) x8 x9 x10 (x11)::x12) x13 x14 x15:=h
theorem SP{Q : Prop}{x1 x2 x3 x4 x5 x6 x7 x8}(h : Q→ar x1 x2 x3 x4 x5 x6 x7 x8) : Q→ar x1 x2 x3 x4 x5 x6 x7 x8:=h
theorem wB{P : Prop}(h : P:=by first | omega | ((try simp only [a0A,a1A,a2A,a3A,a4A,a5A,a6A,a7A,a8A,a9A,Hl,K8] at *); omega)) : P:=h
theorem wK{P : Prop}(h : P:=by first | (repeat' first | exact aZ | refine aj rfl ?_) <;> fail | fail) : P:=h
theorem wL{P : Prop}(h : P:=by first | omega | (rw [Bool.eq_iff_iff]; simp; omega) | grind) : P:=h
theorem wS0{P : Prop}(h : P:=by first | exact B2 rfl rfl (by first | assumption | rfl) | exact IQ rfl rfl (by first | assumption | rfl) rfl rfl | exact My rfl rfl rfl rfl) : P:=h
theorem wS1{P : Prop}(h : P:=by exact eH af rfl rfl rfl rfl rfl rfl rfl rfl rfl rfl rfl rfl rfl (by first | omega | ((try simp only [a0A,a1A,a5A,zO,zP,Eo,Ep,Er,zl] at *); omega)) (by first | exact Nat.le_of_ble_eq_true rfl | omega | ((try simp only [a0A,a1A,a5A,zO,zP,Eo,Ep,Er,zl] at *); omega)) (Nat.le_of_ble_eq_true rfl)) : P:=h
theorem wS3{P : Prop}(h : P:=by first | exact s_e au rfl rfl rfl (rB rfl rfl rfl rfl (gJ wB wB)) | exact s_e au rfl rfl rfl (rB rfl rfl rfl rfl (gP wB wB)) | exact jt af rfl rfl rfl rfl) : P:=h
theorem wS4{P : Prop}(h : P:=by first | exact s_e au rfl rfl rfl (rC rfl rfl rfl rfl (gJ wB wB)) | exact s_e au rfl rfl rfl (rC rfl rfl rfl rfl (gP wB wB)) | exact jt af rfl rfl rfl rfl) : P:=h
theorem wS5{P : Prop}(h : P:=by first | exact s_e au rfl rfl rfl (xK rfl rfl rfl rfl (gJ wB wB)) | exact s_e au rfl rfl rfl (xK rfl rfl rfl rfl (gP wB wB)) | exact jt af rfl rfl rfl rfl) : P:=h
theorem wS8{P : Prop}(h : P:=by first | exact s_e au rfl rfl rfl (Gj rfl rfl (gJ wB wB)) | exact jt af rfl rfl rfl rfl) : P:=h
theorem wS2{P : Prop}(h : P:=by first | exact s_e au rfl rfl rfl (qb rfl rfl rfl rfl (gJ wB wB)) | exact s_e au rfl rfl rfl (qb rfl rfl rfl rfl (gP wB wB)) | exact s_e au rfl rfl rfl (qb rfl rfl rfl rfl (J5 wB wB)) | exact jt af rfl rfl rfl rfl) : P:=h
theorem wS9{P : Prop}(h : P:=by first | exact s_e au rfl rfl rfl (sQ rfl rfl (by first | rfl | assumption) rfl) | exact s_e au rfl rfl rfl (sR rfl rfl (by first | rfl | assumption) rfl) | exact jt af rfl rfl rfl rfl) : P:=h
theorem SQ{P : Prop}(h : P:=by first | exact s_e au rfl rfl rfl (rD rfl rfl rfl rfl rfl rfl wB wB) | exact s_e au rfl rfl rfl (ch rfl rfl rfl rfl rfl wB (Cx wB)) | exact s_e au rfl rfl rfl (ch rfl rfl rfl rfl rfl wB (fy wB)) | exact jt af rfl rfl rfl rfl) : P:=h
theorem SR{P : Prop}(h : P:=by first | exact s_e au rfl rfl rfl (AB rfl rfl rfl rfl wB (gH wB)) | exact jt af rfl rfl rfl rfl) : P:=h
theorem SS{P : Prop}(h : P:=by first | exact s_e au rfl rfl rfl (dS rfl rfl rfl rfl (fy wB) rfl) | exact s_e au rfl rfl rfl (dS rfl rfl rfl rfl (ea (by assumption) wB) rfl) | exact s_e au rfl rfl rfl (dS rfl rfl rfl rfl (CG wB) rfl) | exact jt af rfl rfl rfl rfl) : P:=h
theorem SU{P : Prop}(h : P:=by first | exact yp 0 rfl rfl rfl rfl rfl rfl | exact yp 1 rfl rfl rfl rfl rfl rfl | exact yp 2 rfl rfl rfl rfl rfl rfl) : P:=h
theorem SV{P : Prop}(h : P:=by first | exact my af 0 rfl rfl rfl rfl rfl | exact my af 1 rfl rfl rfl rfl rfl | exact my af 2 rfl rfl rfl rfl rfl | exact my af 3 rfl rfl rfl rfl rfl | exact my af 4 rfl rfl rfl rfl rfl) : P:=h
theorem SX{P : Prop}(h : P:=by first | exact rE | exact J2 af rfl rfl rfl rfl rfl | (apply gQ0; exact wS0) | (apply gQ1; exact wS1) | (apply gQ2; exact J6 af rfl rfl rfl rfl rfl rfl wB) | (apply gQ3; exact wS3) | (apply gQ4; exact wS4) | (apply gQ5; exact wS5) | (apply gQ6; exact jt af rfl rfl rfl rfl) | (apply gQ7; exact jt af rfl rfl rfl rfl) | (apply gQ8; exact wS8) | (apply gQ2; exact wS2) | (apply gQ9; exact wS9) | (apply Su; exact SQ) | (apply Sv; exact SR) | (apply Sw; exact SS) | (apply Sy; exact SU) | (apply Sz; exact SV) | exact ov au rfl rfl (dZ rfl rfl rfl rfl rfl rfl rfl rfl rfl (fy wB) rfl) | exact ov au rfl rfl (dZ rfl rfl rfl rfl rfl rfl rfl rfl rfl (ea (by assumption) wB) rfl) | exact ov au rfl rfl rfl | exact Og au rfl rfl rfl rfl rfl | exact s_e au rfl rfl rfl rfl | exact fi au 0 rfl rfl rfl rfl rfl rfl | exact fi au 1 rfl rfl rfl rfl rfl rfl | exact fi au 2 rfl rfl rfl rfl rfl rfl | exact fi au 3 rfl rfl rfl rfl rfl rfl | exact fi au 4 rfl rfl rfl rfl rfl rfl | exact fi au 5 rfl rfl rfl rfl rfl rfl | exact F0 au rfl rfl rfl rfl rfl rfl rfl rfl rfl rfl rfl rfl | exact HU au rfl rfl rfl rfl rfl rfl rfl rfl rfl rfl rfl (by assumption)) : P:=h
theorem SY{P : Prop}(h : P:=by first | exact Fi | exact MC | exact xL | exact H8 | exact CH | exact bH | exact CI | exact AD rfl | exact AE rfl | exact Gl rfl (by assumption) | exact Gm rfl (by assumption) | exact um progOk.mo) : P:=h
theorem SZ{P : Prop}(h : P:=by exact eM au 11 rfl rfl rfl (eF (i:=10) rfl rfl rfl rfl rfl rfl rfl rfl (by first | omega | ((try simp only [a0A,a1A,a5A,zO,zP,Eo,Ep,Er,zl] at *); omega)) (by first | exact Nat.le_of_ble_eq_true rfl | omega | ((try simp only [a0A,a1A,a5A,zO,zP,Eo,Ep,Er,zl] at *); omega)) (Nat.le_of_ble_eq_true rfl)) rfl rfl) : P:=h
theorem S5{P : Prop}(h : P:=by first | exact J4 rfl rfl (by first | assumption | rfl) | exact Oe rfl rfl (by first | assumption | rfl) rfl rfl) : P:=h
theorem S6{P : Prop}(h : P:=by first | exact d_e au rfl rfl rfl (rB rfl rfl rfl rfl (gJ wB wB)) | exact d_e au rfl rfl rfl (c5 rfl)) : P:=h
theorem S7{P : Prop}(h : P:=by first | exact d_e au rfl rfl rfl (rC rfl rfl rfl rfl (gJ wB wB)) | exact d_e au rfl rfl rfl (c5 rfl)) : P:=h
theorem S8{P : Prop}(h : P:=by first | exact d_e au rfl rfl rfl (sQ rfl rfl (by first | rfl | assumption) rfl) | exact d_e au rfl rfl rfl (sR rfl rfl (by first | rfl | assumption) rfl) | exact d_e au rfl rfl rfl (c5 rfl)) : P:=h
theorem S9{P : Prop}(h : P:=by first | exact d_e au rfl rfl rfl (rD rfl rfl rfl rfl rfl rfl wB wB) | exact d_e au rfl rfl rfl (ch rfl rfl rfl rfl rfl wB (Cx wB)) | exact d_e au rfl rfl rfl (ch rfl rfl rfl rfl rfl wB (fy wB)) | exact d_e au rfl rfl rfl (c5 rfl)) : P:=h
theorem Ta{P : Prop}(h : P:=by first | exact d_e au rfl rfl rfl (dS rfl rfl rfl rfl (fy wB) rfl) | exact d_e au rfl rfl rfl (dS rfl rfl rfl rfl (ea (by assumption) wB) rfl) | exact d_e au rfl rfl rfl (c5 rfl)) : P:=h
theorem Tb{P : Prop}(h : P:=by first | (apply SC; exact SZ) | exact Od (by kernel_rfl) | exact d_e au rfl rfl rfl (BA rfl rfl) | (apply SD; exact S5) | (apply SE; exact S6) | (apply SF; exact S7) | (apply SG; exact d_e au rfl rfl rfl (c5 rfl)) | (apply SH; exact d_e au rfl rfl rfl (c5 rfl)) | (apply SI; exact d_e au rfl rfl rfl (c5 rfl)) | (apply SJ; exact d_e au rfl rfl rfl (c5 rfl)) | (apply SK; exact d_e au rfl rfl rfl (c5 rfl)) | (apply SL; exact S8) | (apply SM; exact S9) | (apply SN; exact d_e au rfl rfl rfl (c5 rfl)) | (apply SO; exact Ta) | exact d_e au rfl rfl rfl rfl | exact eM au 0 rfl rfl rfl rfl rfl rfl | exact eM au 1 rfl rfl rfl rfl rfl rfl | exact eM au 2 rfl rfl rfl rfl rfl rfl | exact eM au 3 rfl rfl rfl rfl rfl rfl | exact eM au 4 rfl rfl rfl rfl rfl rfl | exact eM au 5 rfl rfl rfl rfl rfl rfl | exact rS au rfl rfl (dZ rfl rfl rfl rfl rfl rfl rfl rfl rfl (fy wB) rfl) | exact rS au rfl rfl (dZ rfl rfl rfl rfl rfl rfl rfl rfl rfl (ea (by assumption) wB) rfl) | exact rS au rfl rfl (dZ rfl rfl rfl rfl rfl rfl rfl rfl rfl (CG wB) rfl) | exact rS au rfl rfl rfl) : P:=h
theorem wG {P Q : Prop} (k : Q) (h : Q→P:=by first
  | (apply SA; exact SX)
  | (apply SB; exact SY)
  | exact Mz
  | exact MA
  | exact MB
  | exact J7
  | exact J8
  | exact J9 rfl
  | exact Ka rfl
  | exact H7 (.inl rfl) rfl rfl
  | exact fun k=>jF (.inl rfl) rfl rfl k (by first | exact (q1Q rfl) | exact (q2Q rfl rfl))
  | (apply SP; exact Tb)
  | exact G8 rfl
  | exact KM
  | exact KW (by simp)
  | exact Jk (by simp)
  | exact KL) : P:=h k
theorem h4H{x1 x2 x3 x4 x5}(h : OkC x1 x2 x3 x4 x5) : OkC x1 x2 x3 x4 x5:=h
end Go.Abs
namespace Go.Proofs.YtpejdgkaapnekaaGreat
open Go Go.Abs
attribute [local irreducible] ae OkC ar aA av aN
set_option maxRecDepth 10000
def iS(c : Nat) : Bool:=decide (97≤c) && decide (c≤122)
def iD(c : Nat) : Bool:=iS c || (decide (48≤c) && decide (c≤57)) || decide (c = 95)
theorem MO(c : Nat) : CallA Tryz.prog 208 [.one (.d (.int .u8 c))] [] (.one (.d (.bool (iS c)))) []:=by
 refine enter af Tryz.func208 rfl (by decide +kernel) rfl fun hok w0 σ0 φ0 M=>?_
 repeat' (first|refine wG ?_|(refine h1H ?_; (refine h5H ?_; refine aJ J J J J (fun h=>?_) (fun h=>?_))))
 all_goals (try (((simp_all [iS,ao,List.drop_eq_nil_of_le]) <;> exact wL); done))
theorem Tj(c : Nat) : CallA Tryz.prog 209 [.one (.d (.int .u8 c))] [] (.one (.d (.bool (iD c)))) []:=by
 refine enter af Tryz.func209 rfl (by decide +kernel) rfl fun hok w0 σ0 φ0 M=>?_
 repeat' (first|(refine h1H ?_; (refine h0H ?_; refine aa J J J J J J J J (MO _) J ?_))|refine wG ?_|(refine h1H ?_; (refine h5H ?_; refine aJ J J J J (fun h=>?_) (fun h=>?_))))
 all_goals (try (((simp_all [iD,ao,List.drop_eq_nil_of_le]) <;> exact wL); done))
def bP(s : List UInt8) : Bool:=decide (1≤s.length) && decide (s.length≤12) && iS (at_ s 0).toNat && s.all (fun c=>iD c.toNat)
theorem qG(s : List UInt8) : CallA Tryz.prog 149 [.one (.d (.str s))] [] (.one (.d (.bool (bP s)))) []:=by
 refine enter af Tryz.func149 rfl (by decide +kernel) rfl fun hok w0 σ0 φ0 M=>?_
 have hl:=hok.1.str; clear hok
 repeat' (first|(refine h1H ?_; (refine h0H ?_; first|refine aa J J J J J J J J (MO _) J ?_|refine aa J J J J J J J J (Tj _) J ?_))|refine wG ?_|(refine h1H ?_; (refine h5H ?_; refine aJ J J J J (fun h=>?_) (fun h=>?_)))|(refine h4H ?_; first|refine ah J (fun h=>?_) (fun h=>?_)|refine aH 4 J [(0,_)] (q1Q J) (fun (k : Nat)=>[(3,.one (.d (.int .i64 k)))]) (fun (k : Nat)=>k≤s.length∧bP s = (s.drop k).all (fun c=>iD c.toNat)) (fun (k : Nat)=>s.length - k) 0 (q1Q J) ?_ (fun k ⟨hk,hs⟩=>?_))|(show Exists _; refine Exists.intro (k + 1) ⟨?_,?_,wK,(q1Q J),(q1Q J)⟩))
 all_goals (try (((simp_all [bP,ao,List.drop_eq_nil_of_le]) <;> exact wL); done))
structure Dim where
 name : List UInt8
 lo : Int
 hi : Int
 deriving Inhabited
structure Attr where
 name : List UInt8
 type : Int
 deriving Inhabited
def cm(d : Dim) : List D:=[.str d.name,.int .i64 d.lo,.int .i64 d.hi]
def aF(l : List Dim) : D:=.sl 3 32 (l.map cm)
def aX(a : Attr) : List D:=[.str a.name,.int .i64 a.type]
def ax(l : List Attr) : D:=.sl 2 24 (l.map aX)
def bJ(n : Int) : List D:=[.int .i64 n]
def aM(l : List Int) : D:=.sl 1 8 (l.map bJ)
def hJ(hi : Int) : Int:=min hi 1073741824
theorem Tt(nm : List UInt8)(lo hi : Int) : CallA Tryz.prog 183 [.agg [.d (.str nm),.d (.int .i64 lo),.d (.int .i64 hi)]] [] (.one (.d (.int .i64 (hJ hi)))) []:=by
 refine enter af Tryz.func183 rfl (by decide +kernel) rfl fun hok w0 σ0 φ0 M=>?_
 repeat' (first|refine wG ?_)
 all_goals (try (((simp_all [hJ,ao,List.drop_eq_nil_of_le]) <;> exact wL); done))
theorem PI(nm : List UInt8)(lo hi : Int) : CallA Tryz.prog 247 [.agg [.d (.str nm),.d (.int .i64 lo),.d (.int .i64 hi)]] [] (.one (.d (.int .i64 (hJ hi)))) []:=by
 refine enter af Tryz.func247 rfl (by decide +kernel) rfl fun hok w0 σ0 φ0 M=>?_
 repeat' (first|refine wG ?_)
 all_goals (try (((simp_all [hJ,ao,List.drop_eq_nil_of_le]) <;> exact wL); done))
def eT(lo hi : Int) : Bool:=decide (-1073741824≤lo) && decide (lo≤1073741824) && decide (lo≤hi) && decide (hi≤1073741825)
theorem Tu(nm : List UInt8)(lo hi : Int) : CallA Tryz.prog 243 [.agg [.d (.str nm),.d (.int .i64 lo),.d (.int .i64 hi)]] [] (.one (.d (.bool (eT lo hi)))) []:=by
 refine enter af Tryz.func243 rfl (by decide +kernel) rfl fun hok w0 σ0 φ0 M=>?_
 repeat' (first|refine wG ?_|(refine h1H ?_; (refine h5H ?_; refine aJ J J J J (fun h=>?_) (fun h=>?_))))
 all_goals (try (((simp_all [eT,ao,List.drop_eq_nil_of_le]) <;> exact wL); done))
def eA : List Dim→List Int→Bool
 | d::ds,x::xs=>decide (d.lo≤x) && decide (x≤hJ d.hi) && eA ds xs
 | _,_=>true
def ofF(ds : List Dim)(at' : List Int) : Bool:=decide (at'.length = ds.length) && eA ds at'
theorem ON(ds : List Dim)(at' : List Int) : CallA Tryz.prog 100 [.one (.d (aF ds)),.one (.d (aM at'))] [] (.one (.d (.bool (ofF ds at')))) []:=by
 refine enter af Tryz.func100 rfl (by decide +kernel) rfl fun hok w0 σ0 φ0 M=>?_
 have h1:=hok.1.sl; have h2:=hok.2.1.sl; clear hok; simp only [List.length_map] at h1 h2; replace h1:=h1.1; replace h2:=h2.1
 repeat' (first|(refine h3H ?_; (refine h2H ?_; refine d_l J J (aB J J J J J J (Tt _ _ _) J) ?_))|refine wG ?_|(refine h4H ?_; first|refine ah J (fun h=>?_) (fun h=>?_)|refine aH 4 J [(0,_),(1,_)] (q2Q J J) (fun (k : Nat)=>[(5,.one (.d (.int .i64 k)))]) (fun (k : Nat)=>k≤ds.length∧at'.length = ds.length∧eA ds at' = eA (ds.drop k) (at'.drop k)) (fun (k : Nat)=>ds.length - k) 0 (q1Q J) ?_ (fun k ⟨hk,hq,hs⟩=>?_))|(refine h3H ?_; (refine tu ?_; refine kN J J (fun h=>?_) (fun h=>?_)))|(show Exists _; refine Exists.intro (k + 1) ⟨?_,?_,wK,(q1Q J),(q2Q J J)⟩))
 all_goals (try (((simp_all [ofF,eA,ao,List.drop_eq_nil_of_le]) <;> exact wL); done))
def oX(ds : List Dim)(ats : List Attr)(name : List UInt8) : Bool:=ds.any (fun d=>d.name == name) || ats.any (fun a=>a.name == name)
theorem Tv(ds : List Dim)(ats : List Attr)(n : Nat)(name : List UInt8)(hn : n≤ats.length) : CallA Tryz.prog 192 [.one (.d (aF ds)),.one (.d (ax ats)),.one (.d (.int .i64 n)),.one (.d (.str name))] [] (.one (.d (.bool (oX ds (ats.take n) name)))) []:=by
 refine enter af Tryz.func192 rfl (by decide +kernel) rfl fun hok w0 σ0 φ0 M=>?_
 have h1:=hok.1.sl; have h2:=hok.2.1.sl; clear hok; simp only [List.length_map] at h1 h2; replace h1:=h1.1; replace h2:=h2.1
 repeat' (first|refine wG ?_|(refine h4H ?_; first|refine ah J (fun h=>?_) (fun h=>?_)|refine aH 2 J [(0,_),(1,_),(2,_),(3,_)] (q4Q J J J J) (fun (k : Nat)=>[(9,.one (.d (.int .i64 k)))]) (fun (k : Nat)=>k≤ds.length∧oX ds (ats.take n) name = ((ds.drop k).any (fun d=>d.name == name) || (ats.take n).any (fun a=>a.name == name))) (fun (k : Nat)=>ds.length - k) 0 (q1Q J) ?_ (fun k ⟨hk,hs⟩=>?_)|refine aH 7 J [(1,_),(2,_),(3,_)] (q3Q J J J) (fun (k : Nat)=>[(10,.one (.d (.int .i64 k)))]) (fun (k : Nat)=>k≤n∧oX ds (ats.take n) name = ((ats.take n).drop k).any (fun a=>a.name == name)) (fun (k : Nat)=>n - k) 0 (q1Q J) ?_ (fun k ⟨hk,hs⟩=>?_))|(show Exists _; first|refine Exists.intro (k + 1) ⟨?_,?_,wK,(q1Q J),(q3Q J J J)⟩|refine Exists.intro (k + 1) ⟨?_,?_,wK,(q1Q J),(q4Q J J J J)⟩))
 all_goals (try (((simp_all [oX,tN,Nat.min_eq_left hn,ao,List.drop_eq_nil_of_le]) <;> exact wL); done))
def gg : List (List UInt8)→List Dim→Int
 | _,[]=>0
 | met,d::r=>if !bP d.name || met.contains d.name then 11 else if !eT d.lo d.hi then 3 else gg (met ++ [d.name]) r
def dB(ds : List Dim) : Int:=if (ds.length : Int) < 1∨4 < (ds.length : Int) then 13 else gg [] ds
theorem Tw(ds : List Dim) : CallA Tryz.prog 191 [.one (.d (aF ds))] [] (.one (.d (.int .i64 (dB ds)))) []:=by
 refine enter af Tryz.func191 rfl (by decide +kernel) rfl fun hok w0 σ0 φ0 M=>?_
 have h1:=hok.1.sl; clear hok; simp only [List.length_map] at h1; replace h1:=h1.1
 repeat' (first|(refine h1H ?_; (refine h0H ?_; first|refine aa J J J J J J J J (qG _) J ?_|refine aa J J J J J J J J (Tu _ _ _) J ?_))|refine wG ?_|(refine h1H ?_; (refine h5H ?_; refine aJ J J J J (fun h=>?_) (fun h=>?_)))|(refine h4H ?_; first|refine ah J (fun h=>?_) (fun h=>?_)|refine aH 4 J [(0,_)] (q1Q J) (fun (k : Nat)=>[(3,.one (.d (.int .i64 k)))]) (fun (k : Nat)=>k≤ds.length∧1≤ds.length∧ds.length≤4∧dB ds = gg ((ds.take k).map Dim.name) (ds.drop k)) (fun (k : Nat)=>ds.length - k) 0 (q1Q J) ?_ (fun k ⟨hk,hq,hq2,hs⟩=>?_)|refine aH 9 J [(0,_),(3,_)] (q2Q J J) (fun (j : Nat)=>[(4,.one (.d (.int .i64 j)))]) (fun (j : Nat)=>j≤k∧k < ds.length∧bP (at_ ds k).name = true∧((ds.take j).map Dim.name).contains (at_ ds k).name = false) (fun (j : Nat)=>k - j) 0 (q1Q J) ?_ (fun j ⟨hj,hkl,hnm,hjs⟩=>?_))|(show Exists _; first|refine Exists.intro (j + 1) ⟨?_,?_,wK,(q1Q J),(q2Q J J)⟩|refine Exists.intro (k + 1) ⟨?_,?_,wK,(q1Q J),(q1Q J)⟩))
 all_goals (try (((simp_all [dB,gg,ez,ao,List.drop_eq_nil_of_le]) <;> exact wL); done))
 ·rename_i hlt
  have hlt' : j < k:=by simpa using hlt
  have he : (at_ ds j).name = (at_ ds k).name:=by simpa using h
  rw [hs,ao hkl]; simp only [gg]; rw [H6 hlt' hk he]; simp
 ·rename_i hlt
  have hlt' : j < k:=by simpa using hlt
  have he : ¬ (at_ ds j).name = (at_ ds k).name:=by simpa using h
  refine ⟨by omega,hkl,hnm,?_⟩
  rw [ez (by omega)]
  simp at hjs ⊢
  exact ⟨hjs,fun e=>he e.symm⟩
def fu : List (List UInt8)→List Attr→Int
 | _,[]=>0
 | met,a::r=>if !bP a.name || met.contains a.name then 11 else if a.type < 1∨4 < a.type then 12 else fu (met ++ [a.name]) r
def c9(ds : List Dim)(ats : List Attr) : Int:=if dB ds≠0 then dB ds else if (ats.length : Int) < 1∨6 < (ats.length : Int) then 9 else fu (ds.map Dim.name) ats
theorem It{ds : List Dim}{ats : List Attr}{x : List UInt8} : oX ds ats x = (ds.map Dim.name ++ ats.map Attr.name).contains x:=by
 rw [Bool.eq_iff_iff]
 simp [oX]
theorem Qs(ds : List Dim)(ats : List Attr) : CallA Tryz.prog 115 [.one (.d (aF ds)),.one (.d (ax ats))] [] (.one (.d (.int .i64 (c9 ds ats)))) []:=by
 refine enter af Tryz.func115 rfl (by decide +kernel) rfl fun hok w0 σ0 φ0 M=>?_
 have h1:=hok.1.sl; have h2:=hok.2.1.sl; clear hok; simp only [List.length_map] at h1 h2; replace h1:=h1.1; replace h2:=h2.1
 repeat' (first|(refine h1H ?_; (refine h0H ?_; first|refine aa J J J J J J J J (qG _) J ?_|refine aa J J J J J J J J (Tw _) J ?_|refine aa J J J J J J J J (Tv _ _ _ _ (by assumption)) J ?_))|refine wG ?_|(refine h1H ?_; (refine h5H ?_; refine aJ J J J J (fun h=>?_) (fun h=>?_)))|(refine h4H ?_; first|refine ah J (fun h=>?_) (fun h=>?_)|refine aH 7 J [(0,_),(1,_)] (q2Q J J) (fun (k : Nat)=>[(6,.one (.d (.int .i64 k)))]) (fun (k : Nat)=>k≤ats.length∧dB ds = 0∧1≤ats.length∧ats.length≤6∧c9 ds ats = fu (ds.map Dim.name ++ (ats.take k).map Attr.name) (ats.drop k)) (fun (k : Nat)=>ats.length - k) 0 (q1Q J) ?_ (fun k ⟨hk,hd,hq,hq2,hs⟩=>?_))|(show Exists _; refine Exists.intro (k + 1) ⟨?_,?_,wK,(q1Q J),(q2Q J J)⟩))
 all_goals (try (((simp_all [c9,fu,ez,It,ao,List.drop_eq_nil_of_le]) <;> exact wL); done))
structure Val where
 kind : Int
 num : Int
 den : Int
 str : List UInt8
 deriving Inhabited
def ab(v : Val) : List D:=[.int .i64 v.kind,.int .i64 v.num,.int .i64 v.den,.str v.str]
def aG(l : List Val) : D:=.sl 4 40 (l.map ab)
def oC(d : Int)(s : List UInt8) : Bool:=d == 0 && s == []
theorem Tq(k n d : Int)(s : List UInt8) : CallA Tryz.prog 279 [.agg [.d (.int .i64 k),.d (.int .i64 n),.d (.int .i64 d),.d (.str s)]] [] (.one (.d (.bool (oC d s)))) []:=by
 refine enter af Tryz.func279 rfl (by decide +kernel) rfl fun hok w0 σ0 φ0 M=>?_
 repeat' (first|refine wG ?_|(refine h1H ?_; (refine h5H ?_; refine aJ J J J J (fun h=>?_) (fun h=>?_))))
 all_goals (try (((simp_all [oC,ao,List.drop_eq_nil_of_le]) <;> exact wL); done))
theorem Ts(a b : Nat) : CallA Tryz.prog 280 [.one (.d (.int .i64 a)),.one (.d (.int .i64 b))] [] (.one (.d (.int .i64 (Nat.gcd a b)))) []:=by
 refine enter af Tryz.func280 rfl (by decide +kernel) rfl fun hok w0 σ0 φ0 M=>?_
 repeat' (first|(refine h3H ?_; (refine Lu ?_; refine d_e au J J J (xx J J J J wB) ?_))|refine wG ?_|(refine h4H ?_; first|refine ah J (fun h=>?_) (fun h=>?_)|refine aH 1 J [] aZ (fun (p : Nat×Nat)=>[(0,.one (.d (.int .i64 (p.1 : Int)))),(1,.one (.d (.int .i64 (p.2 : Int))))]) (fun (p : Nat×Nat)=>Nat.gcd p.1 p.2 = Nat.gcd a b) (fun (p : Nat×Nat)=>p.2) (a,b) (q2Q J J) ?_ (fun p hg=>?_))|(show Exists _; refine Exists.intro ((p.2,p.1 % p.2)) ⟨?_,?_,wK,(q2Q J J),aZ⟩))
 all_goals (try (((simp_all [ao,List.drop_eq_nil_of_le]) <;> exact wL); done))
 ·have h' : p.2≠0:=by simpa using h
  show Nat.gcd p.2 (p.1 % p.2) = _
  rw [Nat.gcd_comm,← Nat.gcd_rec,Nat.gcd_comm]; exact hg
 ·have h' : p.2≠0:=by simpa using h
  exact Nat.mod_lt _ (by omega)
theorem Pf(ds : List Dim)(at' : List Int) : CallA Tryz.prog 204 [.one (.d (aF ds)),.one (.d (aM at'))] [] (.one (.d (.bool (ofF ds at')))) []:=by
 refine enter af Tryz.func204 rfl (by decide +kernel) rfl fun hok w0 σ0 φ0 M=>?_
 have h1:=hok.1.sl; have h2:=hok.2.1.sl; clear hok; simp only [List.length_map] at h1 h2; replace h1:=h1.1; replace h2:=h2.1
 repeat' (first|(refine h1H ?_; (refine h0H ?_; refine aa J J J J J J J J (PI _ _ _) J ?_))|refine wG ?_|(refine h1H ?_; (refine h5H ?_; refine aJ J J J J (fun h=>?_) (fun h=>?_)))|(refine h4H ?_; first|refine ah J (fun h=>?_) (fun h=>?_)|refine aH 4 J [(0,_),(12,_),(13,_)] (q3Q J J J) (fun (k : Nat)=>[(14,.one (.d (.int .i64 k)))]) (fun (k : Nat)=>k≤ds.length∧at'.length = ds.length∧eA ds at' = eA (ds.drop k) (at'.drop k)) (fun (k : Nat)=>ds.length - k) 0 (q1Q J) ?_ (fun k ⟨hk,hq,hs⟩=>?_))|(show Exists _; refine Exists.intro (k + 1) ⟨?_,?_,wK,(q1Q J),(q3Q J J J)⟩))
 all_goals (try (((simp_all [ofF,eA,ao,List.drop_eq_nil_of_le]) <;> exact wL); done))
def bn : List Int→List Int→Int
 | [],[]=>0
 | [],_::_=>-1
 | _::_,[]=>1
 | x::xs,y::ys=>if x < y then -1 else if y < x then 1 else bn xs ys
theorem zo{b : List Int} : bn [] b = if b = [] then 0 else -1:=by cases b <;> simp [bn]
theorem xi{a : List Int} : bn a [] = if a = [] then 0 else 1:=by cases a <;> simp [bn]
theorem KP(a b : List Int) : CallA Tryz.prog 176 [.one (.d (aM a)),.one (.d (aM b))] [] (.one (.d (.int .i64 (bn a b)))) []:=by
 refine enter af Tryz.func176 rfl (by decide +kernel) rfl fun hok w0 σ0 φ0 M=>?_
 have h1:=hok.1.sl; have h2:=hok.2.1.sl; clear hok; simp only [List.length_map] at h1 h2; replace h1:=h1.1; replace h2:=h2.1
 repeat' (first|refine wG ?_|(refine h1H ?_; (refine h5H ?_; refine aJ J J J J (fun h=>?_) (fun h=>?_)))|(refine h4H ?_; first|refine ah J (fun h=>?_) (fun h=>?_)|refine aH 2 J [(0,_),(1,_)] (q2Q J J) (fun (k : Nat)=>[(5,.one (.d (.int .i64 k)))]) (fun (k : Nat)=>k≤a.length∧k≤b.length∧bn a b = bn (a.drop k) (b.drop k)) (fun (k : Nat)=>a.length - k) 0 (q1Q J) ?_ (fun k ⟨hk,hq,hs⟩=>?_))|(show Exists _; refine Exists.intro (k + 1) ⟨?_,?_,wK,(q1Q J),(q2Q J J)⟩))
 all_goals (try (((simp_all [bn,zo,xi,ao,List.drop_eq_nil_of_le]) <;> exact wL); done))
theorem PJ(x : Int) : CallA Tryz.prog 246 [.one (.d (.int .i64 x))] [] (.one (.d (.bool false))) []:=by
 refine enter af Tryz.func246 rfl (by decide +kernel) rfl fun hok w0 σ0 φ0 M=>?_
 repeat' (first|refine wG ?_)
 all_goals (try (((simp_all [ao,List.drop_eq_nil_of_le]) <;> exact wL); done))
theorem PK(x y : Int) : CallA Tryz.prog 198 [.one (.d (.int .i64 x)),.one (.d (.int .i64 y))] [] (.one (.d (.int .i64 (if x < y then -1 else if y < x then 1 else 0)))) []:=by
 refine enter af Tryz.func198 rfl (by decide +kernel) rfl fun hok w0 σ0 φ0 M=>?_
 repeat' (first|(refine h1H ?_; (refine h0H ?_; refine aa J J J J J J J J (PJ _) J ?_))|refine wG ?_|(refine h4H ?_; refine ah J (fun h=>?_) (fun h=>?_)))
 all_goals (try (((simp_all [ao,List.drop_eq_nil_of_le]) <;> exact wL); done))
theorem PL(a b : List Int) : CallA Tryz.prog 130 [.one (.d (aM a)),.one (.d (aM b))] [] (.one (.d (.int .i64 (bn a b)))) []:=by
 refine enter af Tryz.func130 rfl (by decide +kernel) rfl fun hok w0 σ0 φ0 M=>?_
 have h1:=hok.1.sl; have h2:=hok.2.1.sl; clear hok; simp only [List.length_map] at h1 h2; replace h1:=h1.1; replace h2:=h2.1
 repeat' (first|(refine h1H ?_; (refine h0H ?_; refine aa J J J J J J J J (PK _ _) J ?_))|refine wG ?_|(refine h4H ?_; first|refine ah J (fun h=>?_) (fun h=>?_)|refine aH 2 J [(0,_),(1,_),(9,_),(10,_)] (q4Q J J J J) (fun (k : Nat)=>[(11,.one (.d (.int .i64 k)))]) (fun (k : Nat)=>k≤a.length∧k≤b.length∧bn a b = bn (a.drop k) (b.drop k)) (fun (k : Nat)=>a.length - k) 0 (q1Q J) ?_ (fun k ⟨hk,hq,hs⟩=>?_))|(show Exists _; refine Exists.intro (k + 1) ⟨?_,?_,wK,(q1Q J),(q4Q J J J J)⟩))
 all_goals (try (((simp_all [bn,zo,xi,ao,List.drop_eq_nil_of_le]) <;> exact wL); done))
theorem c35(a b : List Int) : CallA Tryz.prog 35 [.one (.d (aM a)),.one (.d (aM b))] [] (.one (.d (.int .i64 (bn a b)))) []:=by
 refine enter af Tryz.func35 rfl (by decide +kernel) rfl fun hok w0 σ0 φ0 M=>?_
 repeat' (first|(refine h1H ?_; (refine h0H ?_; refine aa J J J J J J J J (PL _ _) J ?_))|refine wG ?_)
 all_goals (try (((simp_all [ao,List.drop_eq_nil_of_le]) <;> exact wL); done))
def aL{α : Type}(p : α→Bool) : List α→Nat→Int
 | [],_=>-1
 | x::r,k=>if p x then k else aL p r (k + 1)
theorem qK(l : List Attr)(name : List UInt8) : CallA Tryz.prog 114 [.one (.d (ax l)),.one (.d (.str name))] [] (.one (.d (.int .i64 (aL (fun a : Attr=>a.name == name) l 0)))) []:=by
 refine enter af Tryz.func114 rfl (by decide +kernel) rfl fun hok w0 σ0 φ0 M=>?_
 have h1:=hok.1.sl; clear hok; simp only [List.length_map] at h1; replace h1:=h1.1
 repeat' (first|refine wG ?_|(refine h4H ?_; first|refine ah J (fun h=>?_) (fun h=>?_)|refine aH 2 J [(0,_),(1,_)] (q2Q J J) (fun (k : Nat)=>[(5,.one (.d (.int .i64 k)))]) (fun (k : Nat)=>k≤l.length∧aL (fun a : Attr=>a.name == name) l 0 = aL (fun a : Attr=>a.name == name) (l.drop k) k) (fun (k : Nat)=>l.length - k) 0 (q1Q J) ?_ (fun k ⟨hk,hs⟩=>?_))|(show Exists _; refine Exists.intro (k + 1) ⟨?_,?_,wK,(q1Q J),(q2Q J J)⟩))
 all_goals (try (((simp_all [aL,ao,List.drop_eq_nil_of_le]) <;> exact wL); done))
theorem vJ(l : List Dim)(name : List UInt8) : CallA Tryz.prog 118 [.one (.d (aF l)),.one (.d (.str name))] [] (.one (.d (.int .i64 (aL (fun a : Dim=>a.name == name) l 0)))) []:=by
 refine enter af Tryz.func118 rfl (by decide +kernel) rfl fun hok w0 σ0 φ0 M=>?_
 have h1:=hok.1.sl; clear hok; simp only [List.length_map] at h1; replace h1:=h1.1
 repeat' (first|refine wG ?_|(refine h4H ?_; first|refine ah J (fun h=>?_) (fun h=>?_)|refine aH 2 J [(0,_),(1,_)] (q2Q J J) (fun (k : Nat)=>[(5,.one (.d (.int .i64 k)))]) (fun (k : Nat)=>k≤l.length∧aL (fun a : Dim=>a.name == name) l 0 = aL (fun a : Dim=>a.name == name) (l.drop k) k) (fun (k : Nat)=>l.length - k) 0 (q1Q J) ?_ (fun k ⟨hk,hs⟩=>?_))|(show Exists _; refine Exists.intro (k + 1) ⟨?_,?_,wK,(q1Q J),(q2Q J J)⟩))
 all_goals (try (((simp_all [aL,ao,List.drop_eq_nil_of_le]) <;> exact wL); done))
end Go.Proofs.YtpejdgkaapnekaaGreat
namespace Go.Proofs.YtpejdgkaapnekaaGreat
open Go Go.Abs
theorem ni : ∀ a : List Int,bn a a = 0
 | []=>rfl
 | x::a=>by simp only [bn,if_neg (Int.lt_irrefl x)]; exact ni a
theorem il : ∀ a b : List Int,bn b a = - bn a b
 | [],[]=>rfl
 | [],_::_=>rfl
 | _::_,[]=>rfl
 | x::a,y::b=>by
   simp only [bn]
   by_cases h1 : x < y
   ·rw [if_pos h1,if_neg (by omega),if_pos h1]; rfl
   ·by_cases h2 : y < x
    ·rw [if_pos h2,if_neg h1,if_pos h2]
    ·rw [if_neg h1,if_neg h2,if_neg h1,if_neg h2]; exact il a b
theorem gE : ∀ a b c : List Int,bn a b≤0→bn b c≤0→bn a c≤0∧(bn a c = 0→bn a b = 0∧bn b c = 0)
 | [],[],[],_,_=>by simp [bn]
 | [],[],_::_,_,_=>by simp [bn]
 | [],_::_,[],_,h=>by simp [bn] at h
 | [],_::_,_::_,_,_=>by simp [bn]
 | _::_,[],_,h,_=>by simp [bn] at h
 | _::_,_::_,[],_,h=>by simp [bn] at h
 | x::a,y::b,z::c,h1,h2=>by
   have ih:=gE a b c
   simp only [bn] at h1 h2 ⊢
   split at h1 <;> split at h2 <;> (try split at h1) <;> (try split at h2) <;> (try omega)
   all_goals first
    | (rw [if_pos (by omega)]; omega)
    | (have:=ih h1 h2
       simp only [if_neg (show ¬ x < y by omega),if_neg (show ¬ y < x by omega),if_neg (show ¬ y < z by omega),if_neg (show ¬ z < y by omega),if_neg (show ¬ x < z by omega),if_neg (show ¬ z < x by omega)]
       exact this)
theorem BZ : ∀ a b : List Int,bn a b = 0→a = b
 | [],[],_=>rfl
 | [],_::_,h=>by simp [bn] at h
 | _::_,[],h=>by simp [bn] at h
 | x::a,y::b,h=>by
   simp only [bn] at h
   split at h
   ·omega
   ·split at h
    ·omega
    ·rw [BZ a b h,show x = y by omega]
end Go.Proofs.YtpejdgkaapnekaaGreat
namespace Go.Proofs.YtpejdgkaapnekaaGreat
open Go Go.Abs
attribute [local irreducible] ae OkC ar aA av aN
set_option maxRecDepth 10000
def dV(c : UInt8) : Bool:=decide (32≤c.toNat) && decide (c.toNat≤126)
def dK(k n d : Int)(s : List UInt8) : Bool :=
 if k = 0 then oC d s && (decide (1≤n) && decide (n≤255))
 else if k = 1 then oC d s && (n == 0 || n == 1)
 else if k = 2 then s == [] && (decide (1≤d) && (decide (d≤1099511627776) && (decide (-1099511627776≤n) && (decide (n≤1099511627776) && ((Nat.gcd n.natAbs d.toNat : Nat) : Int) == 1))))
 else if k = 3 then n == 0 && (d == 0 && (decide ((s.length : Int)≤16) && s.all dV))
 else false
def js(k n d : Int)(s : List UInt8)(t : Int) : Bool :=
 dK k n d s && (decide (1≤t) && (decide (t≤4) && (if k = 0 then true else if k = 1 then t == 1 else if k = 2 then t == 3 || t == 2 && d == 1 else t == 4)))
theorem Pk(c : Int) : CallA Tryz.prog 281 [.one (.d (.int .i32 c))] [] (.one (.d (.bool (decide (c < 32) || decide (126 < c))))) []:=by
 refine enter af Tryz.func281 rfl (by decide +kernel) rfl fun hok w0 σ0 φ0 M=>?_
 repeat' (first|refine wG ?_|(refine h1H ?_; (refine h5H ?_; refine aJ J J J J (fun h=>?_) (fun h=>?_))))
 all_goals (try (((simp_all [ao,List.drop_eq_nil_of_le]) <;> exact wL); done))
end Go.Proofs.YtpejdgkaapnekaaGreat
