import Derived.Test.YtpejdgkaapnekaaGreatGP10
import Derived.Test.YtpejdgkaapnekaaGreatGPb
set_option linter.unusedVariables false
set_option linter.unusedSimpArgs false
set_option linter.unnecessarySimpa false
set_option maxHeartbeats 1000000
namespace Go.Abs
open Go
variable {P : Program} {V : Env} {T : Tab} {c : Ctx} {w0 : World} {σ0 : Sig} {φ0 : Pl} {M : Nat→Prop} {n : Nat} {rd : Option Nat} {mk : List Deferred} {ops : Array Oper} {o : Oper} {rest : List Oper} {fr : List (Nat×AV)} {sto : Sto} {K : St→Prop} {st st0 : St} {acc : List Tr}
theorem AG(hg : o.guard = none) : ({ o with guard:=none } : Oper) = o:=by obtain ⟨_,_,_,_,_,g⟩:=o; simp only at hg; subst hg; rfl
def A9 : Op→Bool
 | .binOp .add _ _ _ _ | .binOp .sub _ _ _ _ | .binOp .mul _ _ _ _ | .binOp .rem _ _ _ _ | .binOp .quo _ _ _ _ | .unOp .neg _ _ | .convert _ _ _ | .pick .. | .index .. | .indexAddr .. | .call { callee:=.value _,.. }=>false
 | _=>true
theorem Il(hT : aU P T){d : Nat}{v : AV}(hp : A9 o.op = true)(hg : o.guard = none)(hdst : o.dst = some d)(hd : Nat.blt d n = true)(hv : bQ T ⟨fr,sto⟩ o.op = some v)
  (h : ac P ⟨w0,σ0,φ0,M,n,rd,mk⟩ ops rest ⟨(d,v)::fr,sto⟩ K) : ac P ⟨w0,σ0,φ0,M,n,rd,mk⟩ ops (o::rest) ⟨fr,sto⟩ K:=iW hT hg hdst hd hv h
theorem y0(hV : EnvOk P V){e : Ef}{dst : Option Nat}(hg : o.guard = none)(hdst : o.dst = dst)(hd : aP n dst = true)(h : aQ V ⟨fr,sto⟩ o 0 = some e)(he : e.new = [])(hk : ac P ⟨w0,σ0,φ0,M,n,rd,mk⟩ ops rest ⟨bj dst e.v fr,cC e.wr sto⟩ K) :
  ac P ⟨w0,σ0,φ0,M,n,rd,mk⟩ ops (o::rest) ⟨fr,sto⟩ K:=by
 have:=oO (c:=⟨w0,σ0,φ0,M,n,rd,mk⟩) hV (o:=o) (by rw [hdst]; exact hd) h rfl (fun i hi=>by rw [he] at hi; simp at hi) ops rest K (by rw [hdst]; exact hk)
 rwa [AG hg] at this
theorem aG{d j : Nat}{want b : Bool}(hg : o.guard = some (j,want))(hb : fW ⟨fr,sto⟩ ops j = some (some b))(hdst : o.dst = some d)(hd : Nat.blt d n = true)
  (h1 : b = want→ac P ⟨w0,σ0,φ0,M,n,rd,mk⟩ ops ({ o with guard:=none }::rest) ⟨fr,sto⟩ K) (h2 : b = !want→ac P ⟨w0,σ0,φ0,M,n,rd,mk⟩ ops rest ⟨(d,.tup [])::fr,sto⟩ K) :
  ac P ⟨w0,σ0,φ0,M,n,rd,mk⟩ ops (o::rest) ⟨fr,sto⟩ K:=by
 by_cases h : b = want
 ·exact Aw hg hb h (h1 h)
 ·have h' : b = !want:=by cases b <;> cases want <;> simp at h ⊢
  exact Ha hg hb h' hdst hd (h2 h')
theorem Kq{d j : Nat}{want : Bool}(hg : o.guard = some (j,want))(hb : fW ⟨fr,sto⟩ ops j = some none)(hdst : o.dst = some d)(hd : Nat.blt d n = true)
  (h : ac P ⟨w0,σ0,φ0,M,n,rd,mk⟩ ops rest ⟨(d,.tup [])::fr,sto⟩ K) : ac P ⟨w0,σ0,φ0,M,n,rd,mk⟩ ops (o::rest) ⟨fr,sto⟩ K :=
 pG hg hb rfl (by rw [hdst]; exact hd) (by rw [hdst]; exact h)
theorem wT(id : Nat){d : Nat}{t : TypeId}{x : Operand}{v : AV}{cs : List AC}(ho : o.op = .box t x)(hg : o.guard = none)(hdst : o.dst = some d)(hd : (Nat.blt d n && (Nat.blt id 1000000 && (!bf sto id && !bn id fr && !aM id sto))) = true)
  (hx : ev ⟨fr,sto⟩ x = some v) (hc : (match cellsOf v with | some cs'=>bif b6 id cs' then none else some cs' | none=>none) = some cs)
  (h : ac P ⟨w0,σ0,φ0,M,n,rd,mk⟩ ops rest ⟨(d,.one (.ref id 0))::fr,(id,.box cs)::sto⟩ K) : ac P ⟨w0,σ0,φ0,M,n,rd,mk⟩ ops (o::rest) ⟨fr,sto⟩ K:=by
 simp only [Bool.and_eq_true,Bool.not_eq_true'] at hd
 split at hc <;> (try (simp at hc; done))
 rename_i cs' hcs
 cases hm : b6 id cs' <;> simp [hm] at hc
 subst hc
 exact vD ho hg hdst (by simp only [Bool.and_eq_true]; exact ⟨hd.1,hd.2.1⟩) hx hcs hd.2.2.1.2 hd.2.2.2 hm h
theorem aa{d : Nat}{fop : Operand}{args : Array Operand}{ats : Array TypeId}{f : FuncId}{caps : List D}{avs avs' : List AV}{rav : AV}{rsto : Sto}
  (ho : o.op = .call { callee:=.value fop,args:=args,argTypes:=ats }) (hg : o.guard = none) (hdst : o.dst = some d) (hd : Nat.blt d n = true) (hf : ev ⟨fr,sto⟩ fop = some (.one (.d (.fn f caps))))
  (ha : evL ⟨fr,sto⟩ args.toList = some avs) (hD : cq avs = true) (hap : (avs ++ caps.map fun x=>.one (.d x)) = avs') (hC : CallA P f avs' [] rav rsto) (hfl : eH rav = true)
  (h : ac P ⟨w0,σ0,φ0,M,n,rd,mk⟩ ops rest ⟨(d,rav)::fr,sto⟩ K) : ac P ⟨w0,σ0,φ0,M,n,rd,mk⟩ ops (o::rest) ⟨fr,sto⟩ K:=by
 subst hap
 exact iK ho hg (by rw [hdst]; exact hd) (Imp.refl _) hf ha hD hC hfl (by rw [hdst]; exact h)
theorem LK(h1 : j8 ops.toList st0 acc.reverse = true)(h2 : K st) : ao P c ops st0 [] st acc K:=⟨h1,h2⟩
theorem mz{tr : Tr}(hg : o.guard = none)(hl : Loc P c o st tr)(h : ao P c ops st0 rest ⟨bj o.dst tr.v st.fr,cC tr.wr st.sto⟩ (tr::acc) K) : ao P c ops st0 (o::rest) st acc K :=
 ⟨true,tr,by unfold fK; rw [hg],fun _=>hl,fun e=>by simp at e,fun e=>by simp at e,h⟩
theorem Im{tr : Tr}{j : Nat}{want b : Bool}(hg : o.guard = some (j,want))(hb : fW st ops j = some (some b))(hw : b = want)
  (hl : Loc P c o st tr) (h : ao P c ops st0 rest ⟨bj o.dst tr.v st.fr,cC tr.wr st.sto⟩ (tr::acc) K) : ao P c ops st0 (o::rest) st acc K :=
 ⟨true,tr,by unfold fK; rw [hg]; exact ⟨_,hb,by subst hw; simp⟩,fun _=>hl,fun e=>by simp at e,fun e=>by simp at e,h⟩
theorem LL{d j : Nat}{want b : Bool}(hg : o.guard = some (j,want))(hb : fW st ops j = some (some b))(hw : b = !want)(hdst : o.dst = some d)(hd : Nat.blt d c.n = true)
  (h : ao P c ops st0 rest ⟨(d,.tup [])::st.fr,st.sto⟩ (Tr.none::acc) K) : ao P c ops st0 (o::rest) st acc K :=
 ⟨false,Tr.none,by unfold fK; rw [hg]; exact ⟨_,hb,by subst hw; cases want <;> simp⟩,fun e=>by simp at e,fun _=>rfl,fun _=>by rw [hdst]; exact hd,by rw [hdst]; exact h⟩
theorem j9{j : Nat}{want b : Bool}(hg : o.guard = some (j,want))(hb : fW st ops j = some (some b))(h1 : b = want→ao P c ops st0 (o::rest) st acc K)(h2 : b = !want→ao P c ops st0 (o::rest) st acc K) : ao P c ops st0 (o::rest) st acc K:=by
 by_cases h : b = want
 ·exact h1 h
 ·exact h2 (by cases b <;> cases want <;> simp at h ⊢)
theorem LM(hV : EnvOk P V){e : Ef}(hd : aP c.n o.dst = true)(h : aQ V st o 0 = some e) : Loc P c o st (e.tr (rR st o.op)):=mu hV hd h rfl
theorem cO{v : AV}(hv : bQ V.T st o.op = some v) : aQ V st o 0 = some ⟨v,[],[]⟩:=by
 simp only [aQ,cF,hv]
theorem z1{v : AV}(hp : A9 o.op = true)(hv : bQ V.T st o.op = some v) : aQ V st o 0 = some ⟨v,[],[]⟩:=cO hv
theorem nl{op : BinOp}{t ty : TypeId}{x y : Operand}{k k' : IntKind}{a b z : Int}(ho : o.op = .binOp op t x y ty)(hop : Av op = true)
  (hx : ev st x = some (.one (.d (.int k a)))) (hy : ev st y = some (.one (.d (.int k' b)))) (hk : kEq k k' = true) (hz : k.wrap (G9 op a b) = z) : aQ V st o 0 = some ⟨.one (.d (.int k z)),[],[]⟩:=by
 refine cO ?_
 rw [ho]
 simp only [bQ,hx,hy,nX,hk,cond_true]
 cases op <;> simp [Av] at hop <;> simp only [jh,cond_false,sc,← hz,G9]
theorem tS{x y z : Operand}{b : Bool}{v : AV}(ho : o.op = .pick x y z)(hx : ev st x = some (.one (.d (.bool b))))(hv : ev st (if b then y else z) = some v) : aQ V st o 0 = some ⟨v,[],[]⟩:=by
 simp only [aQ,cF,bQ,ho,cj,hx,hv]
theorem rC{x y z : Operand}{b : Bool}{v : AV}(ho : o.op = .pick x y z)(hx : ev st x = some (.one (.d (.bool b))))(hb : b = true)(hv : ev st y = some v) : aQ V st o 0 = some ⟨v,[],[]⟩:=tS ho hx (by rw [hb]; exact hv)
theorem rD{x y z : Operand}{b : Bool}{v : AV}(ho : o.op = .pick x y z)(hx : ev st x = some (.one (.d (.bool b))))(hb : b = false)(hv : ev st z = some v) : aQ V st o 0 = some ⟨v,[],[]⟩:=tS ho hx (by rw [hb]; exact hv)
theorem d_e(hV : EnvOk P V){d : Nat}{v : AV}(hg : o.guard = none)(hdst : o.dst = some d)(hd : Nat.blt d c.n = true)(h : aQ V ⟨fr,sto⟩ o 0 = some ⟨v,[],[]⟩)
  (k : ao P c ops st0 rest ⟨(d,v)::fr,sto⟩ (⟨v,[],rR ⟨fr,sto⟩ o.op,[]⟩::acc) K) : ao P c ops st0 (o::rest) ⟨fr,sto⟩ acc K :=
 mz hg (LM hV (by rw [hdst]; exact hd) h) (by rw [hdst]; exact k)
theorem d_l{d : Nat}{v : AV}(hg : o.guard = none)(hdst : o.dst = some d)(hl : Loc P c o ⟨fr,sto⟩ ⟨v,[],[],[]⟩)
  (k : ao P c ops st0 rest ⟨(d,v)::fr,sto⟩ (⟨v,[],[],[]⟩::acc) K) : ao P c ops st0 (o::rest) ⟨fr,sto⟩ acc K :=
 mz hg hl (by rw [hdst]; exact k)
theorem In{j : Nat}{want b : Bool}(hg : o.guard = some (j,want))(hb : fW st ops j = some (some b))(hw : b = want)
  (h : ao P c ops st0 ({ o with guard:=none }::rest) st acc K) : ao P c ops st0 (o::rest) st acc K:=by
 obtain ⟨run,tr,h1,h2,h3,h4,h5⟩:=h
 have hr : run = true:=h1
 subst hr
 exact Im hg hb hw (h2 rfl) h5
theorem c3{k b k' b' : Nat}{t e : TypeId}{z : List D}{x y : Operand}{xs : List (List D)}{ik : IntKind}{i : Int}{el : List D}
  (ho : o.op = .indexAddr t x y) (ht : aR V.T t = some (e,k',b',z)) (hx : ev st x = some (.one (.d (.sl k b xs)))) (hk : Nat.beq k k' = true)
  (hy : ev st y = some (.one (.d (.int ik i)))) (hi : 0≤i) (hel : xs[i.toNat]? = some el) : aQ V st o 0 = some ⟨.one (.d (.ptr el)),[],[]⟩:=by
 simp only [aQ,cF,bQ,ho,cj,hx,hy,oo,ht,hk,hi,decide_true,Bool.and_self,cond_true,fO,hel]
theorem y3{t : TypeId}{x y : Operand}{ik : IntKind}{i : Int}{s : List UInt8}{b : UInt8}
  (ho : o.op = .index t x y) (ht : fP V.T t = true) (hx : ev st x = some (.one (.d (.str s))))
  (hy : ev st y = some (.one (.d (.int ik i)))) (hi : 0≤i) (hb : s[i.toNat]? = some b) : aQ V st o 0 = some ⟨.one (.d (.int .u8 (b.toNat : Int))),[],[]⟩:=by
 simp only [aQ,cF,bQ,ho,cj,hx,hy,qQ,ht,hi,decide_true,Bool.and_self,cond_true,fO,hb]
theorem aA{fop : Operand}{args : Array Operand}{ats : Array TypeId}{f : FuncId}{caps : List D}{avs avs' : List AV}{rav : AV}{rsto : Sto}
  (ho : o.op = .call { callee:=.value fop,args:=args,argTypes:=ats }) (hd : aP c.n o.dst = true) (hf : ev st fop = some (.one (.d (.fn f caps))))
  (ha : evL st args.toList = some avs) (hD : cq avs = true) (hap : (avs ++ caps.map fun x=>.one (.d x)) = avs') (hC : CallA P f avs' [] rav rsto) (hfl : eH rav = true) : Loc P c o st ⟨rav,[],[],[]⟩:=by
 subst hap
 intro st2 hs hri hnew opsA rest K h
 have he : ∀ {x : Operand},x∈o.op.operands.toList→ev st2 x = ev st x:=fun hx=>eh hs hx
 rw [ho] at he
 have ha2 : evL st2 args.toList = some avs:=(i4 fun x hx=>he (by simp [Op.operands,Call.operands]; exact .inr (by simpa using hx))).trans ha
 exact iK (o:={ o with guard:=none }) ho rfl hd (Imp.refl _) ((he (by simp [Op.operands,Call.operands])).trans hf) ha2 hD hC hfl h
theorem p9{t ty : TypeId}{x y : Operand}{k k' : IntKind}{a b z : Int}(ho : o.op = .binOp .add t x y ty)
  (hx : ev st x = some (.one (.d (.int k a)))) (hy : ev st y = some (.one (.d (.int k' b)))) (hk : kEq k k' = true) (hz : k.wrap (a + b) = z) : aQ V st o 0 = some ⟨.one (.d (.int k z)),[],[]⟩:=nl ho rfl hx hy hk hz
theorem qb{t ty : TypeId}{x y : Operand}{k k' : IntKind}{a b z : Int}(ho : o.op = .binOp .sub t x y ty)
  (hx : ev st x = some (.one (.d (.int k a)))) (hy : ev st y = some (.one (.d (.int k' b)))) (hk : kEq k k' = true) (hz : k.wrap (a - b) = z) : aQ V st o 0 = some ⟨.one (.d (.int k z)),[],[]⟩:=nl ho rfl hx hy hk hz
theorem wo{t ty : TypeId}{x y : Operand}{k k' : IntKind}{a b z : Int}(ho : o.op = .binOp .mul t x y ty)
  (hx : ev st x = some (.one (.d (.int k a)))) (hy : ev st y = some (.one (.d (.int k' b)))) (hk : kEq k k' = true) (hz : k.wrap (a * b) = z) : aQ V st o 0 = some ⟨.one (.d (.int k z)),[],[]⟩:=nl ho rfl hx hy hk hz
theorem wd{t ty : TypeId}{x y : Operand}{k k' : IntKind}{a b : Int}(ho : o.op = .binOp .rem t x y ty)
  (hx : ev st x = some (.one (.d (.int k a)))) (hy : ev st y = some (.one (.d (.int k' b)))) (hk : kEq k k' = true) (h0 : ¬ b = 0) : aQ V st o 0 = some ⟨.one (.d (.int k (a.tmod b))),[],[]⟩:=by
 simp only [aQ,cF,bQ,ho,hx,hy,nX,jh,cond_false,hk,cond_true,sc,cj,lh,ij,uU,h0,decide_false,Bool.not_false,Bool.and_self]
 cases o.dst <;> simp [gq]
theorem En{t ty : TypeId}{x y : Operand}{k k' : IntKind}{a b z : Int}(ho : o.op = .binOp .quo t x y ty)
  (hx : ev st x = some (.one (.d (.int k a)))) (hy : ev st y = some (.one (.d (.int k' b)))) (hk : kEq k k' = true) (h0 : ¬ b = 0) (hz : k.wrap (a.tdiv b) = z) : aQ V st o 0 = some ⟨.one (.d (.int k z)),[],[]⟩:=by
 subst hz
 simp only [aQ,cF,bQ,ho,hx,hy,nX,jh,cond_false,hk,cond_true,sc,cj,lh,ij,uU,h0,decide_false,Bool.not_false,Bool.and_self]
 cases o.dst <;> simp [gq]
theorem gl{z : Int}(h1 : 0≤z)(h2 : z≤18446744073709551615) : IntKind.u64.wrap z = z :=
 uG ⟨by simp [IntKind.min,IntKind.signed]; exact h1,by simp [IntKind.max,IntKind.signed,IntKind.bits]; exact h2⟩
theorem Io{z : Int}(h1 : 0≤z)(h2 : z≤4294967295) : IntKind.u32.wrap z = z :=
 uG ⟨by simp [IntKind.min,IntKind.signed]; exact h1,by simp [IntKind.max,IntKind.signed,IntKind.bits]; exact h2⟩
def Hg(T : Tab)(t : TypeId) : Bool:=match look T t with | some _=>true | none=>false
theorem EE{t : TypeId}{x : Operand}{k : IntKind}{a z : Int}(ho : o.op = .unOp .neg t x)
  (hx : ev st x = some (.one (.d (.int k a)))) (hz : k.wrap (0 - a) = z) : aQ V st o 0 = some ⟨.one (.d (.int k z)),[],[]⟩:=by
 subst hz
 exact cO (by simp only [ho,bQ,hx,unF])
def EF(T : Tab)(t : TypeId)(k : IntKind) : Bool:=match look T t with | some ⟨.int k',_,_,_⟩=>kEq k' k | _=>false
theorem oY{src dst : TypeId}{x : Operand}{k k' : IntKind}{a z : Int}(ho : o.op = .convert src dst x)
  (hx : ev st x = some (.one (.d (.int k a)))) (hs : Hg V.T src = true) (hd : EF V.T dst k' = true) (hz : k'.wrap a = z) : aQ V st o 0 = some ⟨.one (.d (.int k' z)),[],[]⟩:=by
 subst hz
 refine cO ?_
 unfold Hg at hs
 unfold EF at hd
 split at hs <;> (try (simp at hs; done))
 rename_i td hs'
 split at hd <;> (try (simp at hd; done))
 rename_i k'' h1 h2 h3 hd'
 obtain rfl:=fp hd
 simp only [ho,bQ,hx,wR,hs',hd']
theorem Ip(hT : aU P T){d : Nat}{src dst : TypeId}{x : Operand}{s : List UInt8}(ho : o.op = .convert src dst x)(hg : o.guard = none)(hdst : o.dst = some d)(hd : Nat.blt d n = true)(hb : (fP T src && mj T dst) = true)
  (hx : ev ⟨fr,sto⟩ x = some (.one (.d (.str s)))) (hl : s.length≤1000000) (h : ac P ⟨w0,σ0,φ0,M,n,rd,mk⟩ ops rest ⟨(d,.one (.d (nM s)))::fr,sto⟩ K) : ac P ⟨w0,σ0,φ0,M,n,rd,mk⟩ ops (o::rest) ⟨fr,sto⟩ K :=
 rE hT ho hg (by rw [hdst]; exact hd) hb hx (by omega) (by rw [hdst]; exact h)
theorem s_e(hV : EnvOk P V){d : Nat}{v : AV}(hg : o.guard = none)(hdst : o.dst = some d)(hd : Nat.blt d n = true)(h : aQ V ⟨fr,sto⟩ o 0 = some ⟨v,[],[]⟩)
  (hk : ac P ⟨w0,σ0,φ0,M,n,rd,mk⟩ ops rest ⟨(d,v)::fr,sto⟩ K) : ac P ⟨w0,σ0,φ0,M,n,rd,mk⟩ ops (o::rest) ⟨fr,sto⟩ K :=
 y0 hV (dst:=some d) hg hdst hd h rfl hk
theorem lJ(hT : aU P T)(id : Nat){d : Nat}{t : TypeId}{td : TD}(ho : o.op = .alloc t)(hg : o.guard = none)(hdst : o.dst = some d)(hd : (Nat.blt d n && (Nat.blt id 1000000 && (!bf sto id && !bn id fr && !aM id sto))) = true)(ht : look T t = some td)
  (h : ac P ⟨w0,σ0,φ0,M,n,rd,mk⟩ ops rest ⟨(d,.one (.ref id 0))::fr,(id,.box (td.zero.map .d))::sto⟩ K) : ac P ⟨w0,σ0,φ0,M,n,rd,mk⟩ ops (o::rest) ⟨fr,sto⟩ K:=by
 simp only [Bool.and_eq_true,Bool.not_eq_true'] at hd
 exact rj hT ho hg hdst (by simp only [Bool.and_eq_true]; exact ⟨hd.1,hd.2.1⟩) ht hd.2.2.1.2 hd.2.2.2 h
theorem nv(hV : EnvOk P V){i : Nat}{ob : AObj}(hg : o.guard = none)(hdst : o.dst = none)(h : aQ V ⟨fr,sto⟩ o 0 = some ⟨.any,[(i,some ob)],[]⟩)(hk : ac P ⟨w0,σ0,φ0,M,n,rd,mk⟩ ops rest ⟨fr,bH i ob sto⟩ K) :
  ac P ⟨w0,σ0,φ0,M,n,rd,mk⟩ ops (o::rest) ⟨fr,sto⟩ K:=y0 hV (dst:=none) hg hdst rfl h rfl hk
theorem LN(hV : EnvOk P V){d f : Nat}{caps : Array Operand}{v : AV}{wr : List (Nat×Option AObj)}(ho : o.op = .makeFunc (.func f) ⟨[]⟩ caps)(hg : o.guard = none)(hdst : o.dst = some d)(hd : Nat.blt d n = true)(h : aQ V ⟨fr,sto⟩ o 0 = some ⟨v,wr,[]⟩)
  (hk : ac P ⟨w0,σ0,φ0,M,n,rd,mk⟩ ops rest ⟨(d,v)::fr,cC wr sto⟩ K) : ac P ⟨w0,σ0,φ0,M,n,rd,mk⟩ ops (o::rest) ⟨fr,sto⟩ K:=y0 hV (dst:=some d) hg hdst hd h rfl hk
theorem y4{x : Operand}{p q : Code}{Q : Exit→St→Prop}(hx : ev st x = some (.one (.d (.bool true))))(ht : OkC P c p st Q) : OkC P c (.cond x p q) st Q:=ag hx (fun _=>ht) (fun h=>by simp at h)
theorem y5{x : Operand}{p q : Code}{Q : Exit→St→Prop}(hx : ev st x = some (.one (.d (.bool false))))(ht : OkC P c q st Q) : OkC P c (.cond x p q) st Q:=ag hx (fun h=>by simp at h) (fun _=>ht)
theorem EG{x : Operand}{p q : Code}{Q : Exit→St→Prop}{b : Bool}(hx : ev st x = some (.one (.d (.bool b))))(hb : b = true)(ht : OkC P c p st Q) : OkC P c (.cond x p q) st Q:=y4 (by rw [hx,hb]) ht
theorem EH{x : Operand}{p q : Code}{Q : Exit→St→Prop}{b : Bool}(hx : ev st x = some (.one (.d (.bool b))))(hb : b = false)(ht : OkC P c q st Q) : OkC P c (.cond x p q) st Q:=y5 (by rw [hx,hb]) ht
theorem i5{fr fr' : List (Nat×AV)}(h : SubL fr fr') : Imp c ⟨fr,sto⟩ ⟨fr',sto⟩:=fun a w σ φ hr=>by
 exact ⟨σ,φ,⟨hr.le,hr.fresh,hr.inv,hr.mine,fun s v hv=>hr.slot s v (h.look hv),hr.defers,hr.size,hr.fra,hr.pin⟩⟩
theorem aT{α : Type}{fr : List (Nat×α)} : SubL fr []:=trivial
theorem ai{α : Type}{fr r : List (Nat×α)}{s : Nat}{v : α}(h : look fr s = some v)(ht : SubL fr r) : SubL fr ((s,v)::r):=⟨h,ht⟩
theorem q1Q{α : Type}{fr : List (Nat×α)}{s0 : Nat}{v0 : α}(h0 : look fr s0 = some v0) : SubL fr [(s0,v0)]:=ai h0 aT
theorem q2Q{α : Type}{fr : List (Nat×α)}{s0 s1 : Nat}{v0 v1 : α}(h0 : look fr s0 = some v0)(h1 : look fr s1 = some v1) : SubL fr [(s0,v0),(s1,v1)]:=ai h0 (ai h1 aT)
theorem q3Q{α : Type}{fr : List (Nat×α)}{s0 s1 s2 : Nat}{v0 v1 v2 : α}(h0 : look fr s0 = some v0)(h1 : look fr s1 = some v1)(h2 : look fr s2 = some v2) : SubL fr [(s0,v0),(s1,v1),(s2,v2)]:=ai h0 (ai h1 (ai h2 aT))
theorem q4Q{α : Type}{fr : List (Nat×α)}{s0 s1 s2 s3 : Nat}{v0 v1 v2 v3 : α}(h0 : look fr s0 = some v0)(h1 : look fr s1 = some v1)(h2 : look fr s2 = some v2)(h3 : look fr s3 = some v3) : SubL fr [(s0,v0),(s1,v1),(s2,v2),(s3,v3)]:=ai h0 (ai h1 (ai h2 (ai h3 aT)))
theorem q5Q{α : Type}{fr : List (Nat×α)}{s0 s1 s2 s3 s4 : Nat}{v0 v1 v2 v3 v4 : α}(h0 : look fr s0 = some v0)(h1 : look fr s1 = some v1)(h2 : look fr s2 = some v2)(h3 : look fr s3 = some v3)(h4 : look fr s4 = some v4) : SubL fr [(s0,v0),(s1,v1),(s2,v2),(s3,v3),(s4,v4)]:=ai h0 (ai h1 (ai h2 (ai h3 (ai h4 aT))))
theorem q6Q{α : Type}{fr : List (Nat×α)}{s0 s1 s2 s3 s4 s5 : Nat}{v0 v1 v2 v3 v4 v5 : α}(h0 : look fr s0 = some v0)(h1 : look fr s1 = some v1)(h2 : look fr s2 = some v2)(h3 : look fr s3 = some v3)(h4 : look fr s4 = some v4)(h5 : look fr s5 = some v5) : SubL fr [(s0,v0),(s1,v1),(s2,v2),(s3,v3),(s4,v4),(s5,v5)]:=ai h0 (ai h1 (ai h2 (ai h3 (ai h4 (ai h5 aT)))))
theorem q7Q{α : Type}{fr : List (Nat×α)}{s0 s1 s2 s3 s4 s5 s6 : Nat}{v0 v1 v2 v3 v4 v5 v6 : α}(h0 : look fr s0 = some v0)(h1 : look fr s1 = some v1)(h2 : look fr s2 = some v2)(h3 : look fr s3 = some v3)(h4 : look fr s4 = some v4)(h5 : look fr s5 = some v5)(h6 : look fr s6 = some v6) : SubL fr [(s0,v0),(s1,v1),(s2,v2),(s3,v3),(s4,v4),(s5,v5),(s6,v6)]:=ai h0 (ai h1 (ai h2 (ai h3 (ai h4 (ai h5 (ai h6 aT))))))
theorem q8Q{α : Type}{fr : List (Nat×α)}{s0 s1 s2 s3 s4 s5 s6 s7 : Nat}{v0 v1 v2 v3 v4 v5 v6 v7 : α}(h0 : look fr s0 = some v0)(h1 : look fr s1 = some v1)(h2 : look fr s2 = some v2)(h3 : look fr s3 = some v3)(h4 : look fr s4 = some v4)(h5 : look fr s5 = some v5)(h6 : look fr s6 = some v6)(h7 : look fr s7 = some v7) : SubL fr [(s0,v0),(s1,v1),(s2,v2),(s3,v3),(s4,v4),(s5,v5),(s6,v6),(s7,v7)]:=ai h0 (ai h1 (ai h2 (ai h3 (ai h4 (ai h5 (ai h6 (ai h7 aT)))))))
theorem q9Q{α : Type}{fr : List (Nat×α)}{s0 s1 s2 s3 s4 s5 s6 s7 s8 : Nat}{v0 v1 v2 v3 v4 v5 v6 v7 v8 : α}(h0 : look fr s0 = some v0)(h1 : look fr s1 = some v1)(h2 : look fr s2 = some v2)(h3 : look fr s3 = some v3)(h4 : look fr s4 = some v4)(h5 : look fr s5 = some v5)(h6 : look fr s6 = some v6)(h7 : look fr s7 = some v7)(h8 : look fr s8 = some v8) : SubL fr [(s0,v0),(s1,v1),(s2,v2),(s3,v3),(s4,v4),(s5,v5),(s6,v6),(s7,v7),(s8,v8)]:=ai h0 (ai h1 (ai h2 (ai h3 (ai h4 (ai h5 (ai h6 (ai h7 (ai h8 aT))))))))
theorem a0A : type_of% @decide_eq_true_eq:=@decide_eq_true_eq
theorem a1A : type_of% @decide_eq_false_iff_not:=@decide_eq_false_iff_not
theorem a2A : type_of% @Bool.not_eq_true':=@Bool.not_eq_true'
theorem a3A : type_of% @Bool.not_true:=@Bool.not_true
theorem a4A : type_of% @Bool.not_false:=@Bool.not_false
theorem a5A : type_of% @List.length_map:=@List.length_map
theorem a6A : type_of% @List.length_set:=@List.length_set
theorem a7A : type_of% @bne_iff_ne:=@bne_iff_ne
theorem a8A : type_of% @ne_eq:=@ne_eq
theorem a9A : type_of% @beq_iff_eq:=@beq_iff_eq
theorem FE : type_of% @bne_eq_false_iff_eq:=@bne_eq_false_iff_eq
theorem Ji : type_of% @beq_eq_false_iff_ne:=@beq_eq_false_iff_ne
theorem yq : type_of% @List.length_cons:=@List.length_cons
theorem yr : type_of% @List.length_nil:=@List.length_nil
theorem CE : type_of% @List.length_append:=@List.length_append
theorem CF : type_of% @List.length_take:=@List.length_take
theorem CG : type_of% @List.length_drop:=@List.length_drop
theorem xR : type_of% @Int.toNat_natCast:=@Int.toNat_natCast
def i7 : Code→Nat
 | .region id _ _=>id
 | .seq x _=>i7 x
 | .block _ x=>i7 x
 | .loop x=>i7 x
 | _=>0
theorem aB{α : Type}{body : Code}{Q : Exit→St→Prop}(rg : Nat)(hrg : i7 body = rg)(kept : List (Nat×AV))(hk : SubL fr kept)(L : α→List (Nat×AV))(Inv : α→Prop)(μ : α→Nat)(x0 : α)(hL : SubL fr (L x0))(h0 : Inv x0)
  (hround : ∀ x,Inv x→OkC P c body ⟨L x ++ kept,sto⟩ (ax (fun st'=>∃ y,Inv y∧μ y < μ x∧SubL st'.sto sto∧SubL st'.fr (L y)∧SubL st'.fr kept) Q)) : OkC P c (.loop body) ⟨fr,sto⟩ Q:=by
 have hap : ∀ {f a b : List (Nat×AV)},SubL f a→SubL f b→SubL f (a ++ b):=by
  intro f a b h1 h2
  induction a with
  | nil=>exact h2
  | cons p r ih=>exact ⟨h1.1,ih h1.2⟩
 refine bu (st':=⟨L x0 ++ kept,sto⟩) (i5 (hap hL hk)) ?_
 refine ny (fun n st=>∃ x,Inv x∧n = μ x∧st = ⟨L x ++ kept,sto⟩) (μ x0) ⟨x0,h0,rfl,rfl⟩ ?_
 rintro n st ⟨x,hx,rfl,rfl⟩
 refine je (hround x hx) fun e st h=>?_
 cases e with
 | normal =>
   obtain ⟨y,hy,hlt,hs,h1,h2⟩:=h
   obtain ⟨f,s⟩:=st
   simp only at hs h1 h2
   exact ⟨μ y,_,hlt,⟨y,hy,rfl,rfl⟩,Imp.trans (i5 (hap h1 h2)) (fun a w σ φ hr=>⟨σ,φ,hr.dropTo fun i e h=>hs.look h⟩)⟩
 | _=>exact h
theorem Kr{f : St→Prop}{Q : Exit→St→Prop}(h : f st) : ax f Q .normal st:=h
theorem Ks{f : St→Prop}{Q : Exit→St→Prop}(h : Q .ret st) : ax f Q .ret st:=h
theorem Kt{f : St→Prop}{Q : Exit→St→Prop}{i : Nat}(h : Q (.exit i) st) : ax f Q (.exit i) st:=h
theorem Iq{i : Nat}{Q : Exit→St→Prop}(h : Q .normal st) : ap i Q .normal st:=h
theorem Ir{i : Nat}{Q : Exit→St→Prop}(h : Q .ret st) : ap i Q .ret st:=h
theorem Is{i j : Nat}{Q : Exit→St→Prop}(hb : Nat.beq j i = true)(h : Q .normal st) : ap i Q (.exit j) st:=by simp only [ap,hb,cond_true]; exact h
theorem It{i j : Nat}{Q : Exit→St→Prop}(hb : Nat.beq j i = false)(h : Q (.exit j) st) : ap i Q (.exit j) st:=by simp only [ap,hb,cond_false]; exact h
def OkD(d : D) : Prop:=∃ σ v,Rep σ d v
theorem OkD.str{s : List UInt8}(h : OkD (.str s)) : s.length < 281474976710656:=by
 obtain ⟨σ,v,h⟩:=h
 cases h with
 | str h=>simpa using h
theorem OkD.int{k : IntKind}{z : Int}(h : OkD (.int k z)) : inR k z:=by
 obtain ⟨σ,v,h⟩:=h
 cases h with
 | int h=>exact h
theorem OkD.i64{z : Int}(h : OkD (.int .i64 z)) : -9223372036854775808≤z∧z≤9223372036854775807:=by
 have:=h.int
 simpa [inR,IntKind.min,IntKind.max,IntKind.signed,IntKind.bits] using this
theorem OkD.sl{k b : Nat}{xs : List (List D)}(h : OkD (.sl k b xs)) : xs.length < 281474976710656∧xs.length * b≤140737488355328∧∀ x∈xs,x.length = k∧∀ d∈x,OkD d:=by
 obtain ⟨σ,v,h⟩:=h
 cases h with
 | sl vs hc h48 hb hk hA hh =>
   refine ⟨by simpa using h48,by simpa using hb,fun x hx=>⟨hk x hx,fun d hd=>?_⟩⟩
   obtain ⟨i,hi⟩:=List.getElem?_of_mem hx
   obtain ⟨j,hj⟩:=List.getElem?_of_mem hd
   exact ⟨σ,_,hh i j x d hi hj⟩
def Gq : AC→Prop
 | .d d=>OkD d
 | _=>True
def PR : AV→Prop
 | .one c=>Gq c
 | .agg cs=>∀ c∈cs,Gq c
 | _=>True
def CH : List AV→Prop
 | []=>True
 | v::r=>PR v∧CH r
theorem y6{σ : Sig}{φ : Pl}{sto : Sto} : ∀ {avs : List AV} {vs : List Value},All2 (RepV σ φ sto) avs vs→CH avs
 | [],[],_=>trivial
 | v::r,u::us,h=>by
   refine ⟨?_,y6 h.2⟩
   have h1:=h.1
   have key : ∀ {x : AC} {u : Value},RepC σ φ sto x u→Gq x:=by
    intro x u h
    cases x with
    | d d=>exact ⟨σ,_,RepC.d_inv h⟩
    | _=>trivial
   cases v with
   | one x=>exact key h1
   | agg cs =>
     obtain ⟨vs,rfl,h2⟩:=h1
     intro x hx
     obtain ⟨j,hj⟩:=List.getElem?_of_mem hx
     obtain ⟨w,_,hr⟩:=h2.get hj
     exact key hr
   | _=>trivial
 | [],_::_,h=>h.elim
 | _::_,[],h=>h.elim
theorem enter(hT : aU P T){f : FuncId}{fn : Func}{code : Code}{args : List AV}{sto : Sto}{rav : AV}{rsto : Sto}(hf : P.funcs[f]? = some fn)(hb : fn.body = some code)
  (hname : (fn.name == "runtime.NumGoroutine") = false) (hn : Nat.ble args.length fn.ntmps = true)
  (h : CH args→∀ (w0 : World) (σ0 : Sig) (φ0 : Pl) (M : Nat→Prop),OkC P ⟨w0,σ0,φ0,M,fn.ntmps,none,[]⟩ code ⟨kV 0 args,sto⟩ (aJ T fn.results.toList rav rsto)) : CallA P f args sto rav rsto :=
 ⟨⟨fn,hf,hname,by rw [hb]; rfl⟩,fun w σ φ vs hinv hargs=>(rF hT hf hb hname hn (h (y6 hargs))).run w σ φ vs hinv hargs⟩
def at_{α : Type}[Inhabited α](l : List α)(i : Nat) : α:=l.getD i default
theorem gc{α : Type}[Inhabited α]{l : List α}{i : Nat}(h : i < l.length) : l[i]? = some (at_ l i):=by simp [at_,List.getD_eq_getElem?_getD,h]
theorem iL{α β : Type}[Inhabited α]{f : α→β}{l : List α}{i : Nat}(h : i < l.length) : (l.map f)[i]? = some (f (at_ l i)):=by simp [gc h]
theorem am{α : Type}[Inhabited α]{l : List α}{i : Nat}(h : i < l.length) : l.drop i = at_ l i::l.drop (i + 1):=by
 rw [List.drop_eq_getElem_cons h]
 have:=gc h
 rw [List.getElem?_eq_getElem h] at this
 rw [Option.some.inj this]
theorem eO{α : Type}[Inhabited α]{l : List α}{i : Nat}(h : i < l.length) : l.take (i + 1) = l.take i ++ [at_ l i]:=by
 rw [List.take_add_one,gc h]; rfl
theorem bM{α : Type}[Inhabited α]{l : List α}{i : Nat}(h : i < l.length) : at_ l i∈l:=List.mem_of_getElem? (gc h)
theorem sw{α : Type}[Inhabited α]{l : List α}{n i : Nat}(h : i < n) : at_ (l.take n) i = at_ l i:=by
 simp only [at_,List.getD_eq_getElem?_getD,List.getElem?_take,h,if_true]
theorem eQ{α β : Type}[Inhabited α][Inhabited β]{f : α→β}{l : List α}{i : Nat}(h : i < l.length) : at_ (l.map f) i = f (at_ l i):=by
 simp [at_,List.getD_eq_getElem?_getD,h]
theorem Gr{α β : Type}[Inhabited α][BEq β][LawfulBEq β]{f : α→β}{l : List α}{j k : Nat}{x : β}(hj : j < k)(hk : k≤l.length)(h : f (at_ l j) = x) : ((l.take k).map f).contains x = true:=by
 subst h
 simp only [List.contains_iff_mem,List.mem_map]
 exact ⟨_,List.mem_of_getElem? (i:=j) (by rw [List.getElem?_take,if_pos hj]; exact gc (by omega)),rfl⟩
theorem Gs{T : Tab}{rs : List ResultVar}{rav rav' : AV}{e : Exit}{st : St}{l : List (Bool×List AC)}(he : e = .ret∨e = .normal)(hl : lT T st rs = some l)(hr : oc l = some rav')(h : rav' = rav) : aJ T rs rav [] e st :=
 ⟨he,l,hl,by rw [hr,h],by first | exact SubL.nil | (intro i; simp [look]) | trivial⟩
theorem gQ0{Q : Prop}{x1 x2 x3 x4 x5 x6 x7 x8 x9 x10 x11 x12}(h : Q→ac x1 x2 x3 (Oper.mk x4 (x5) x6 x7 x8 (some x9)::x10) x11 x12) : Q→ac x1 x2 x3 (Oper.mk x4 (x5) x6 x7 x8 (some x9)::x10) x11 x12:=h
theorem gQ1{Q : Prop}{x1 x2 x3 x4 x5 x6 x7 x8 x9 x10 x11 x12}(h : Q→ac x1 x2 x3 (Oper.mk x4 (Op.call x5) x6 x7 x8 (x9)::x10) x11 x12) : Q→ac x1 x2 x3 (Oper.mk x4 (Op.call x5) x6 x7 x8 (x9)::x10) x11 x12:=h
theorem gQ2{Q : Prop}{x1 x2 x3 x4 x5 x6 x7 x8 x9 x10 x11 x12 x13 x14}(h : Q→ac x1 x2 x3 (Oper.mk x4 (Op.convert x5 x6 x7) x8 x9 x10 (x11)::x12) x13 x14) : Q→ac x1 x2 x3 (Oper.mk x4 (Op.convert x5 x6 x7) x8 x9 x10 (x11)::x12) x13 x14:=h
theorem gQ3{Q : Prop}{x1 x2 x3 x4 x5 x6 x7 x8 x9 x10 x11 x12 x13 x14 x15}(h : Q→ac x1 x2 x3 (Oper.mk x4 (Op.binOp .add x5 x6 x7 x8) x9 x10 x11 (x12)::x13) x14 x15) : Q→ac x1 x2 x3 (Oper.mk x4 (Op.binOp .add x5 x6 x7 x8) x9 x10 x11 (x12)::x13) x14 x15:=h
theorem gQ4{Q : Prop}{x1 x2 x3 x4 x5 x6 x7 x8 x9 x10 x11 x12 x13 x14 x15}(h : Q→ac x1 x2 x3 (Oper.mk x4 (Op.binOp .sub x5 x6 x7 x8) x9 x10 x11 (x12)::x13) x14 x15) : Q→ac x1 x2 x3 (Oper.mk x4 (Op.binOp .sub x5 x6 x7 x8) x9 x10 x11 (x12)::x13) x14 x15:=h
theorem gQ5{Q : Prop}{x1 x2 x3 x4 x5 x6 x7 x8 x9 x10 x11 x12 x13 x14 x15}(h : Q→ac x1 x2 x3 (Oper.mk x4 (Op.binOp .mul x5 x6 x7 x8) x9 x10 x11 (x12)::x13) x14 x15) : Q→ac x1 x2 x3 (Oper.mk x4 (Op.binOp .mul x5 x6 x7 x8) x9 x10 x11 (x12)::x13) x14 x15:=h
theorem gQ6{Q : Prop}{x1 x2 x3 x4 x5 x6 x7 x8 x9 x10 x11 x12 x13 x14 x15}(h : Q→ac x1 x2 x3 (Oper.mk x4 (Op.binOp .rem x5 x6 x7 x8) x9 x10 x11 (x12)::x13) x14 x15) : Q→ac x1 x2 x3 (Oper.mk x4 (Op.binOp .rem x5 x6 x7 x8) x9 x10 x11 (x12)::x13) x14 x15:=h
theorem gQ7{Q : Prop}{x1 x2 x3 x4 x5 x6 x7 x8 x9 x10 x11 x12 x13 x14 x15}(h : Q→ac x1 x2 x3 (Oper.mk x4 (Op.binOp .quo x5 x6 x7 x8) x9 x10 x11 (x12)::x13) x14 x15) : Q→ac x1 x2 x3 (Oper.mk x4 (Op.binOp .quo x5 x6 x7 x8) x9 x10 x11 (x12)::x13) x14 x15:=h
theorem gQ8{Q : Prop}{x1 x2 x3 x4 x5 x6 x7 x8 x9 x10 x11 x12 x13}(h : Q→ac x1 x2 x3 (Oper.mk x4 (Op.unOp .neg x5 x6) x7 x8 x9 (x10)::x11) x12 x13) : Q→ac x1 x2 x3 (Oper.mk x4 (Op.unOp .neg x5 x6) x7 x8 x9 (x10)::x11) x12 x13:=h
theorem gQ9{Q : Prop}{x1 x2 x3 x4 x5 x6 x7 x8 x9 x10 x11 x12 x13 x14}(h : Q→ac x1 x2 x3 (Oper.mk x4 (Op.pick x5 x6 x7) x8 x9 x10 (x11)::x12) x13 x14) : Q→ac x1 x2 x3 (Oper.mk x4 (Op.pick x5 x6 x7) x8 x9 x10 (x11)::x12) x13 x14:=h
theorem PS{Q : Prop}{x1 x2 x3 x4 x5 x6 x7 x8 x9 x10 x11 x12 x13 x14}(h : Q→ac x1 x2 x3 (Oper.mk x4 (Op.indexAddr x5 x6 x7) x8 x9 x10 (x11)::x12) x13 x14) : Q→ac x1 x2 x3 (Oper.mk x4 (Op.indexAddr x5 x6 x7) x8 x9 x10 (x11)::x12) x13 x14:=h
theorem PT{Q : Prop}{x1 x2 x3 x4 x5 x6 x7 x8 x9 x10 x11 x12 x13 x14}(h : Q→ac x1 x2 x3 (Oper.mk x4 (Op.index x5 x6 x7) x8 x9 x10 (x11)::x12) x13 x14) : Q→ac x1 x2 x3 (Oper.mk x4 (Op.index x5 x6 x7) x8 x9 x10 (x11)::x12) x13 x14:=h
theorem PU{Q : Prop}{x1 x2 x3 x4 x5 x6 x7 x8 x9 x10 x11 x12 x13}(h : Q→ac x1 x2 x3 (Oper.mk x4 (Op.load x5 x6) x7 x8 x9 (x10)::x11) x12 x13) : Q→ac x1 x2 x3 (Oper.mk x4 (Op.load x5 x6) x7 x8 x9 (x10)::x11) x12 x13:=h
theorem PV{Q : Prop}{x1 x2 x3 x4 x5 x6 x7 x8 x9 x10 x11 x12 x13}(h : Q→ac x1 x2 x3 (Oper.mk x4 (Op.box x5 x6) x7 x8 x9 (x10)::x11) x12 x13) : Q→ac x1 x2 x3 (Oper.mk x4 (Op.box x5 x6) x7 x8 x9 (x10)::x11) x12 x13:=h
theorem PW{Q : Prop}{x1 x2 x3 x4 x5 x6 x7 x8 x9 x10 x11 x12}(h : Q→ac x1 x2 x3 (Oper.mk x4 (Op.alloc x5) x6 x7 x8 (x9)::x10) x11 x12) : Q→ac x1 x2 x3 (Oper.mk x4 (Op.alloc x5) x6 x7 x8 (x9)::x10) x11 x12:=h
theorem PX{Q : Prop}{x1 x2 x3 x4 x5 x6}(h : Q→ac x1 x2 x3 x4 x5 x6) : Q→ac x1 x2 x3 x4 x5 x6:=h
theorem PY{Q : Prop}{x1 x2 x3 x4 x5}(h : Q→OkC x1 x2 x3 x4 x5) : Q→OkC x1 x2 x3 x4 x5:=h
theorem PZ{Q : Prop}{x1 x2 x3 x4 x5 x6 x7 x8 x9 x10 x11 x12 x13 x14}(h : Q→ao x1 x2 x3 x4 (Oper.mk x5 (Op.call x6) x7 x8 x9 (x10)::x11) x12 x13 x14) : Q→ao x1 x2 x3 x4 (Oper.mk x5 (Op.call x6) x7 x8 x9 (x10)::x11) x12 x13 x14:=h
theorem P2{Q : Prop}{x1 x2 x3 x4 x5 x6 x7 x8 x9 x10 x11 x12 x13 x14}(h : Q→ao x1 x2 x3 x4 (Oper.mk x5 (x6) x7 x8 x9 (some x10)::x11) x12 x13 x14) : Q→ao x1 x2 x3 x4 (Oper.mk x5 (x6) x7 x8 x9 (some x10)::x11) x12 x13 x14:=h
theorem P3{Q : Prop}{x1 x2 x3 x4 x5 x6 x7 x8 x9 x10 x11 x12 x13 x14 x15 x16 x17}(h : Q→ao x1 x2 x3 x4 (Oper.mk x5 (Op.binOp .add x6 x7 x8 x9) x10 x11 x12 (x13)::x14) x15 x16 x17) : Q→ao x1 x2 x3 x4 (Oper.mk x5 (Op.binOp .add x6 x7 x8 x9) x10 x11 x12 (x13)::x14) x15 x16 x17:=h
theorem P4{Q : Prop}{x1 x2 x3 x4 x5 x6 x7 x8 x9 x10 x11 x12 x13 x14 x15 x16 x17}(h : Q→ao x1 x2 x3 x4 (Oper.mk x5 (Op.binOp .sub x6 x7 x8 x9) x10 x11 x12 (x13)::x14) x15 x16 x17) : Q→ao x1 x2 x3 x4 (Oper.mk x5 (Op.binOp .sub x6 x7 x8 x9) x10 x11 x12 (x13)::x14) x15 x16 x17:=h
theorem P5{Q : Prop}{x1 x2 x3 x4 x5 x6 x7 x8 x9 x10 x11 x12 x13 x14 x15 x16 x17}(h : Q→ao x1 x2 x3 x4 (Oper.mk x5 (Op.binOp .mul x6 x7 x8 x9) x10 x11 x12 (x13)::x14) x15 x16 x17) : Q→ao x1 x2 x3 x4 (Oper.mk x5 (Op.binOp .mul x6 x7 x8 x9) x10 x11 x12 (x13)::x14) x15 x16 x17:=h
theorem P6{Q : Prop}{x1 x2 x3 x4 x5 x6 x7 x8 x9 x10 x11 x12 x13 x14 x15 x16 x17}(h : Q→ao x1 x2 x3 x4 (Oper.mk x5 (Op.binOp .rem x6 x7 x8 x9) x10 x11 x12 (x13)::x14) x15 x16 x17) : Q→ao x1 x2 x3 x4 (Oper.mk x5 (Op.binOp .rem x6 x7 x8 x9) x10 x11 x12 (x13)::x14) x15 x16 x17:=h
theorem P7{Q : Prop}{x1 x2 x3 x4 x5 x6 x7 x8 x9 x10 x11 x12 x13 x14 x15 x16 x17}(h : Q→ao x1 x2 x3 x4 (Oper.mk x5 (Op.binOp .quo x6 x7 x8 x9) x10 x11 x12 (x13)::x14) x15 x16 x17) : Q→ao x1 x2 x3 x4 (Oper.mk x5 (Op.binOp .quo x6 x7 x8 x9) x10 x11 x12 (x13)::x14) x15 x16 x17:=h
theorem P8{Q : Prop}{x1 x2 x3 x4 x5 x6 x7 x8 x9 x10 x11 x12 x13 x14 x15}(h : Q→ao x1 x2 x3 x4 (Oper.mk x5 (Op.unOp .neg x6 x7) x8 x9 x10 (x11)::x12) x13 x14 x15) : Q→ao x1 x2 x3 x4 (Oper.mk x5 (Op.unOp .neg x6 x7) x8 x9 x10 (x11)::x12) x13 x14 x15:=h
theorem P9{Q : Prop}{x1 x2 x3 x4 x5 x6 x7 x8 x9 x10 x11 x12 x13 x14 x15 x16}(h : Q→ao x1 x2 x3 x4 (Oper.mk x5 (Op.convert x6 x7 x8) x9 x10 x11 (x12)::x13) x14 x15 x16) : Q→ao x1 x2 x3 x4 (Oper.mk x5 (Op.convert x6 x7 x8) x9 x10 x11 (x12)::x13) x14 x15 x16:=h
theorem Qa{Q : Prop}{x1 x2 x3 x4 x5 x6 x7 x8 x9 x10 x11 x12 x13 x14 x15 x16}(h : Q→ao x1 x2 x3 x4 (Oper.mk x5 (Op.pick x6 x7 x8) x9 x10 x11 (x12)::x13) x14 x15 x16) : Q→ao x1 x2 x3 x4 (Oper.mk x5 (Op.pick x6 x7 x8) x9 x10 x11 (x12)::x13) x14 x15 x16:=h
theorem Qb{Q : Prop}{x1 x2 x3 x4 x5 x6 x7 x8 x9 x10 x11 x12 x13 x14 x15 x16}(h : Q→ao x1 x2 x3 x4 (Oper.mk x5 (Op.indexAddr x6 x7 x8) x9 x10 x11 (x12)::x13) x14 x15 x16) : Q→ao x1 x2 x3 x4 (Oper.mk x5 (Op.indexAddr x6 x7 x8) x9 x10 x11 (x12)::x13) x14 x15 x16:=h
theorem Qc{Q : Prop}{x1 x2 x3 x4 x5 x6 x7 x8 x9 x10 x11 x12 x13 x14 x15 x16}(h : Q→ao x1 x2 x3 x4 (Oper.mk x5 (Op.index x6 x7 x8) x9 x10 x11 (x12)::x13) x14 x15 x16) : Q→ao x1 x2 x3 x4 (Oper.mk x5 (Op.index x6 x7 x8) x9 x10 x11 (x12)::x13) x14 x15 x16:=h
theorem Qd{Q : Prop}{x1 x2 x3 x4 x5 x6 x7 x8 x9 x10 x11 x12 x13 x14 x15}(h : Q→ao x1 x2 x3 x4 (Oper.mk x5 (Op.load x6 x7) x8 x9 x10 (x11)::x12) x13 x14 x15) : Q→ao x1 x2 x3 x4 (Oper.mk x5 (Op.load x6 x7) x8 x9 x10 (x11)::x12) x13 x14 x15:=h
theorem Qe{Q : Prop}{x1 x2 x3 x4 x5 x6 x7 x8}(h : Q→ao x1 x2 x3 x4 x5 x6 x7 x8) : Q→ao x1 x2 x3 x4 x5 x6 x7 x8:=h
theorem wB{P : Prop}(h : P:=by first | omega | ((try simp only [a0A,a1A,a2A,a3A,a4A,a5A,a6A,a7A,a8A,a9A,FE,Ji] at *); omega)) : P:=h
theorem wK{P : Prop}(h : P:=by first | (repeat' first | exact aT | refine ai rfl ?_) <;> fail | fail) : P:=h
theorem wL{P : Prop}(h : P:=by first | omega | (rw [Bool.eq_iff_iff]; simp; omega) | grind) : P:=h
theorem wS0{P : Prop}(h : P:=by first | exact Aw rfl rfl (by first | assumption | rfl) | exact Ha rfl rfl (by first | assumption | rfl) rfl rfl | exact Kq rfl rfl rfl rfl) : P:=h
theorem wS1{P : Prop}(h : P:=by exact d7 ae rfl rfl rfl rfl rfl rfl rfl rfl rfl rfl rfl rfl rfl (by first | omega | ((try simp only [a0A,a1A,a5A,yq,yr,CE,CF,CG,xR] at *); omega)) (by first | exact Nat.le_of_ble_eq_true rfl | omega | ((try simp only [a0A,a1A,a5A,yq,yr,CE,CF,CG,xR] at *); omega)) (Nat.le_of_ble_eq_true rfl)) : P:=h
theorem wS3{P : Prop}(h : P:=by first | exact s_e aq rfl rfl rfl (p9 rfl rfl rfl rfl (gf wB wB)) | exact s_e aq rfl rfl rfl (p9 rfl rfl rfl rfl (gl wB wB)) | exact iW ae rfl rfl rfl rfl) : P:=h
theorem wS4{P : Prop}(h : P:=by first | exact s_e aq rfl rfl rfl (qb rfl rfl rfl rfl (gf wB wB)) | exact s_e aq rfl rfl rfl (qb rfl rfl rfl rfl (gl wB wB)) | exact iW ae rfl rfl rfl rfl) : P:=h
theorem wS5{P : Prop}(h : P:=by first | exact s_e aq rfl rfl rfl (wo rfl rfl rfl rfl (gf wB wB)) | exact s_e aq rfl rfl rfl (wo rfl rfl rfl rfl (gl wB wB)) | exact iW ae rfl rfl rfl rfl) : P:=h
theorem wS8{P : Prop}(h : P:=by first | exact s_e aq rfl rfl rfl (EE rfl rfl (gf wB wB)) | exact iW ae rfl rfl rfl rfl) : P:=h
theorem wS2{P : Prop}(h : P:=by first | exact s_e aq rfl rfl rfl (oY rfl rfl rfl rfl (gf wB wB)) | exact s_e aq rfl rfl rfl (oY rfl rfl rfl rfl (gl wB wB)) | exact s_e aq rfl rfl rfl (oY rfl rfl rfl rfl (Io wB wB)) | exact iW ae rfl rfl rfl rfl) : P:=h
theorem wS9{P : Prop}(h : P:=by first | exact s_e aq rfl rfl rfl (rC rfl rfl (by first | rfl | assumption) rfl) | exact s_e aq rfl rfl rfl (rD rfl rfl (by first | rfl | assumption) rfl) | exact iW ae rfl rfl rfl rfl) : P:=h
theorem Qf{P : Prop}(h : P:=by first | exact s_e aq rfl rfl rfl (qe rfl rfl rfl rfl rfl rfl wB wB) | exact s_e aq rfl rfl rfl (c3 rfl rfl rfl rfl rfl wB (AZ wB)) | exact s_e aq rfl rfl rfl (c3 rfl rfl rfl rfl rfl wB (iL wB)) | exact iW ae rfl rfl rfl rfl) : P:=h
theorem Qg{P : Prop}(h : P:=by first | exact s_e aq rfl rfl rfl (y3 rfl rfl rfl rfl wB (gc wB)) | exact iW ae rfl rfl rfl rfl) : P:=h
theorem Qh{P : Prop}(h : P:=by first | exact s_e aq rfl rfl rfl (db rfl rfl rfl rfl (iL wB) rfl) | exact s_e aq rfl rfl rfl (db rfl rfl rfl rfl (dJ (by assumption) wB) rfl) | exact s_e aq rfl rfl rfl (db rfl rfl rfl rfl (uW wB) rfl) | exact iW ae rfl rfl rfl rfl) : P:=h
theorem Qi{P : Prop}(h : P:=by first | exact wT 0 rfl rfl rfl rfl rfl rfl | exact wT 1 rfl rfl rfl rfl rfl rfl | exact wT 2 rfl rfl rfl rfl rfl rfl) : P:=h
theorem Qj{P : Prop}(h : P:=by first | exact lJ ae 0 rfl rfl rfl rfl rfl | exact lJ ae 1 rfl rfl rfl rfl rfl | exact lJ ae 2 rfl rfl rfl rfl rfl | exact lJ ae 3 rfl rfl rfl rfl rfl | exact lJ ae 4 rfl rfl rfl rfl rfl) : P:=h
theorem Qk{P : Prop}(h : P:=by first | exact qf | exact Il ae rfl rfl rfl rfl rfl | (apply gQ0; exact wS0) | (apply gQ1; exact wS1) | (apply gQ2; exact Ip ae rfl rfl rfl rfl rfl rfl wB) | (apply gQ3; exact wS3) | (apply gQ4; exact wS4) | (apply gQ5; exact wS5) | (apply gQ6; exact iW ae rfl rfl rfl rfl) | (apply gQ7; exact iW ae rfl rfl rfl rfl) | (apply gQ8; exact wS8) | (apply gQ2; exact wS2) | (apply gQ9; exact wS9) | (apply PS; exact Qf) | (apply PT; exact Qg) | (apply PU; exact Qh) | (apply PV; exact Qi) | (apply PW; exact Qj) | exact nv aq rfl rfl (dI rfl rfl rfl rfl rfl rfl rfl rfl rfl (iL wB) rfl) | exact nv aq rfl rfl (dI rfl rfl rfl rfl rfl rfl rfl rfl rfl (dJ (by assumption) wB) rfl) | exact nv aq rfl rfl rfl | exact LN aq rfl rfl rfl rfl rfl | exact s_e aq rfl rfl rfl rfl | exact fi aq 0 rfl rfl rfl rfl rfl rfl | exact fi aq 1 rfl rfl rfl rfl rfl rfl | exact fi aq 2 rfl rfl rfl rfl rfl rfl | exact fi aq 3 rfl rfl rfl rfl rfl rfl | exact fi aq 4 rfl rfl rfl rfl rfl rfl | exact fi aq 5 rfl rfl rfl rfl rfl rfl | exact Em aq rfl rfl rfl rfl rfl rfl rfl rfl rfl rfl rfl rfl | exact Gg aq rfl rfl rfl rfl rfl rfl rfl rfl rfl rfl rfl (by assumption)) : P:=h
theorem Ql{P : Prop}(h : P:=by first | exact DF | exact Ku | exact wp | exact Gt | exact Ba | exact cv | exact Bb | exact y4 rfl | exact y5 rfl | exact EG rfl (by assumption) | exact EH rfl (by assumption) | exact sZ progOk.mo) : P:=h
theorem Qm{P : Prop}(h : P:=by exact im aq 11 rfl rfl rfl (ld (i:=10) rfl rfl rfl rfl rfl rfl rfl rfl (by first | omega | ((try simp only [a0A,a1A,a5A,yq,yr,CE,CF,CG,xR] at *); omega)) (by first | exact Nat.le_of_ble_eq_true rfl | omega | ((try simp only [a0A,a1A,a5A,yq,yr,CE,CF,CG,xR] at *); omega)) (Nat.le_of_ble_eq_true rfl)) rfl rfl) : P:=h
theorem Qn{P : Prop}(h : P:=by first | exact In rfl rfl (by first | assumption | rfl) | exact LL rfl rfl (by first | assumption | rfl) rfl rfl) : P:=h
theorem Qo{P : Prop}(h : P:=by first | exact d_e aq rfl rfl rfl (p9 rfl rfl rfl rfl (gf wB wB)) | exact d_e aq rfl rfl rfl (cO rfl)) : P:=h
theorem Qp{P : Prop}(h : P:=by first | exact d_e aq rfl rfl rfl (qb rfl rfl rfl rfl (gf wB wB)) | exact d_e aq rfl rfl rfl (cO rfl)) : P:=h
theorem Qq{P : Prop}(h : P:=by first | exact d_e aq rfl rfl rfl (rC rfl rfl (by first | rfl | assumption) rfl) | exact d_e aq rfl rfl rfl (rD rfl rfl (by first | rfl | assumption) rfl) | exact d_e aq rfl rfl rfl (cO rfl)) : P:=h
theorem Qr{P : Prop}(h : P:=by first | exact d_e aq rfl rfl rfl (qe rfl rfl rfl rfl rfl rfl wB wB) | exact d_e aq rfl rfl rfl (c3 rfl rfl rfl rfl rfl wB (AZ wB)) | exact d_e aq rfl rfl rfl (c3 rfl rfl rfl rfl rfl wB (iL wB)) | exact d_e aq rfl rfl rfl (cO rfl)) : P:=h
theorem Qs{P : Prop}(h : P:=by first | exact d_e aq rfl rfl rfl (db rfl rfl rfl rfl (iL wB) rfl) | exact d_e aq rfl rfl rfl (db rfl rfl rfl rfl (dJ (by assumption) wB) rfl) | exact d_e aq rfl rfl rfl (db rfl rfl rfl rfl (uW wB) rfl) | exact d_e aq rfl rfl rfl (cO rfl)) : P:=h
theorem Qt{P : Prop}(h : P:=by first | (apply PZ; exact Qm) | exact LK (by kernel_rfl) | exact d_e aq rfl rfl rfl (z1 rfl rfl) | (apply P2; exact Qn) | (apply P3; exact Qo) | (apply P4; exact Qp) | (apply P5; exact d_e aq rfl rfl rfl (cO rfl)) | (apply P6; exact d_e aq rfl rfl rfl (cO rfl)) | (apply P7; exact d_e aq rfl rfl rfl (cO rfl)) | (apply P8; exact d_e aq rfl rfl rfl (cO rfl)) | (apply P9; exact d_e aq rfl rfl rfl (cO rfl)) | (apply Qa; exact Qq) | (apply Qb; exact Qr) | (apply Qc; exact d_e aq rfl rfl rfl (cO rfl)) | (apply Qd; exact Qs) | exact d_e aq rfl rfl rfl rfl | exact im aq 0 rfl rfl rfl rfl rfl rfl | exact im aq 1 rfl rfl rfl rfl rfl rfl | exact im aq 2 rfl rfl rfl rfl rfl rfl | exact im aq 3 rfl rfl rfl rfl rfl rfl | exact im aq 4 rfl rfl rfl rfl rfl rfl | exact im aq 5 rfl rfl rfl rfl rfl rfl | exact qx aq rfl rfl (dI rfl rfl rfl rfl rfl rfl rfl rfl rfl (iL wB) rfl) | exact qx aq rfl rfl (dI rfl rfl rfl rfl rfl rfl rfl rfl rfl (dJ (by assumption) wB) rfl) | exact qx aq rfl rfl (dI rfl rfl rfl rfl rfl rfl rfl rfl rfl (uW wB) rfl) | exact qx aq rfl rfl rfl) : P:=h
theorem wG {P Q : Prop} (k : Q) (h : Q→P:=by first
  | (apply PX; exact Qk)
  | (apply PY; exact Ql)
  | exact Kr
  | exact Ks
  | exact Kt
  | exact Iq
  | exact Ir
  | exact Is rfl
  | exact It rfl
  | exact Gs (.inl rfl) rfl rfl
  | exact fun k=>ja (.inl rfl) rfl rfl k (by first | exact (q1Q rfl) | exact (q2Q rfl rfl))
  | (apply Qe; exact Qt)
  | exact Fr rfl
  | exact I5
  | exact Je (by simp)
  | exact HE (by simp)
  | exact I4) : P:=h k
theorem h4H{x1 x2 x3 x4 x5}(h : OkC x1 x2 x3 x4 x5) : OkC x1 x2 x3 x4 x5:=h
end Go.Abs
namespace Go.Proofs.YtpejdgkaapnekaaGreat
open Go Go.Abs
attribute [local irreducible] ac OkC ao ax ap aJ
set_option maxRecDepth 10000
def ir(c : Nat) : Bool:=decide (97≤c) && decide (c≤122)
def gS(c : Nat) : Bool:=ir c || (decide (48≤c) && decide (c≤57)) || decide (c = 95)
theorem KG(c : Nat) : CallA Tryz.prog 208 [.one (.d (.int .u8 c))] [] (.one (.d (.bool (ir c)))) []:=by
 refine enter ae Tryz.func208 rfl (by decide +kernel) rfl fun hok w0 σ0 φ0 M=>?_
 repeat' (first|refine wG ?_|(refine h1H ?_; (refine h5H ?_; refine aG J J J J (fun h=>?_) (fun h=>?_))))
 all_goals (try (((simp_all [ir,am,List.drop_eq_nil_of_le]) <;> exact wL); done))
theorem QA(c : Nat) : CallA Tryz.prog 209 [.one (.d (.int .u8 c))] [] (.one (.d (.bool (gS c)))) []:=by
 refine enter ae Tryz.func209 rfl (by decide +kernel) rfl fun hok w0 σ0 φ0 M=>?_
 repeat' (first|(refine h1H ?_; (refine h0H ?_; refine aa J J J J J J J J (KG _) J ?_))|refine wG ?_|(refine h1H ?_; (refine h5H ?_; refine aG J J J J (fun h=>?_) (fun h=>?_))))
 all_goals (try (((simp_all [gS,am,List.drop_eq_nil_of_le]) <;> exact wL); done))
def eJ(s : List UInt8) : Bool:=decide (1≤s.length) && decide (s.length≤12) && ir (at_ s 0).toNat && s.all (fun c=>gS c.toNat)
theorem KH(s : List UInt8) : CallA Tryz.prog 149 [.one (.d (.str s))] [] (.one (.d (.bool (eJ s)))) []:=by
 refine enter ae Tryz.func149 rfl (by decide +kernel) rfl fun hok w0 σ0 φ0 M=>?_
 have hl:=hok.1.str; clear hok
 repeat' (first|(refine h1H ?_; (refine h0H ?_; first|refine aa J J J J J J J J (KG _) J ?_|refine aa J J J J J J J J (QA _) J ?_))|refine wG ?_|(refine h1H ?_; (refine h5H ?_; refine aG J J J J (fun h=>?_) (fun h=>?_)))|(refine h4H ?_; first|refine ag J (fun h=>?_) (fun h=>?_)|refine aB 4 J [(0,_)] (q1Q J) (fun (k : Nat)=>[(3,.one (.d (.int .i64 k)))]) (fun (k : Nat)=>k≤s.length∧eJ s = (s.drop k).all (fun c=>gS c.toNat)) (fun (k : Nat)=>s.length - k) 0 (q1Q J) ?_ (fun k ⟨hk,hs⟩=>?_))|(show Exists _; refine Exists.intro (k + 1) ⟨?_,?_,wK,(q1Q J),(q1Q J)⟩))
 all_goals (try (((simp_all [eJ,am,List.drop_eq_nil_of_le]) <;> exact wL); done))
structure Dim where
 name : List UInt8
 lo : Int
 hi : Int
 deriving Inhabited
structure Attr where
 name : List UInt8
 type : Int
 deriving Inhabited
def bv(d : Dim) : List D:=[.str d.name,.int .i64 d.lo,.int .i64 d.hi]
def aH(l : List Dim) : D:=.sl 3 32 (l.map bv)
def iz(a : Attr) : List D:=[.str a.name,.int .i64 a.type]
def aF(l : List Attr) : D:=.sl 2 24 (l.map iz)
def bD(n : Int) : List D:=[.int .i64 n]
def aL(l : List Int) : D:=.sl 1 8 (l.map bD)
def dX(hi : Int) : Int:=min hi 1073741824
theorem QI(nm : List UInt8)(lo hi : Int) : CallA Tryz.prog 183 [.agg [.d (.str nm),.d (.int .i64 lo),.d (.int .i64 hi)]] [] (.one (.d (.int .i64 (dX hi)))) []:=by
 refine enter ae Tryz.func183 rfl (by decide +kernel) rfl fun hok w0 σ0 φ0 M=>?_
 repeat' (first|refine wG ?_)
 all_goals (try (((simp_all [dX,am,List.drop_eq_nil_of_le]) <;> exact wL); done))
theorem Nu(nm : List UInt8)(lo hi : Int) : CallA Tryz.prog 247 [.agg [.d (.str nm),.d (.int .i64 lo),.d (.int .i64 hi)]] [] (.one (.d (.int .i64 (dX hi)))) []:=by
 refine enter ae Tryz.func247 rfl (by decide +kernel) rfl fun hok w0 σ0 φ0 M=>?_
 repeat' (first|refine wG ?_)
 all_goals (try (((simp_all [dX,am,List.drop_eq_nil_of_le]) <;> exact wL); done))
def eo(lo hi : Int) : Bool:=decide (-1073741824≤lo) && decide (lo≤1073741824) && decide (lo≤hi) && decide (hi≤1073741825)
theorem QJ(nm : List UInt8)(lo hi : Int) : CallA Tryz.prog 243 [.agg [.d (.str nm),.d (.int .i64 lo),.d (.int .i64 hi)]] [] (.one (.d (.bool (eo lo hi)))) []:=by
 refine enter ae Tryz.func243 rfl (by decide +kernel) rfl fun hok w0 σ0 φ0 M=>?_
 repeat' (first|refine wG ?_|(refine h1H ?_; (refine h5H ?_; refine aG J J J J (fun h=>?_) (fun h=>?_))))
 all_goals (try (((simp_all [eo,am,List.drop_eq_nil_of_le]) <;> exact wL); done))
def bo : List Dim→List Int→Bool
 | d::ds,x::xs=>decide (d.lo≤x) && decide (x≤dX d.hi) && bo ds xs
 | _,_=>true
def ofF(ds : List Dim)(at' : List Int) : Bool:=decide (at'.length = ds.length) && bo ds at'
theorem IW(ds : List Dim)(at' : List Int) : CallA Tryz.prog 100 [.one (.d (aH ds)),.one (.d (aL at'))] [] (.one (.d (.bool (ofF ds at')))) []:=by
 refine enter ae Tryz.func100 rfl (by decide +kernel) rfl fun hok w0 σ0 φ0 M=>?_
 have h1:=hok.1.sl; have h2:=hok.2.1.sl; clear hok; simp only [List.length_map] at h1 h2; replace h1:=h1.1; replace h2:=h2.1
 repeat' (first|(refine h3H ?_; (refine h2H ?_; refine d_l J J (aA J J J J J J (QI _ _ _) J) ?_))|refine wG ?_|(refine h4H ?_; first|refine ag J (fun h=>?_) (fun h=>?_)|refine aB 4 J [(0,_),(1,_)] (q2Q J J) (fun (k : Nat)=>[(5,.one (.d (.int .i64 k)))]) (fun (k : Nat)=>k≤ds.length∧at'.length = ds.length∧bo ds at' = bo (ds.drop k) (at'.drop k)) (fun (k : Nat)=>ds.length - k) 0 (q1Q J) ?_ (fun k ⟨hk,hq,hs⟩=>?_))|(refine h3H ?_; (refine r7 ?_; refine j9 J J (fun h=>?_) (fun h=>?_)))|(show Exists _; refine Exists.intro (k + 1) ⟨?_,?_,wK,(q1Q J),(q2Q J J)⟩))
 all_goals (try (((simp_all [ofF,bo,am,List.drop_eq_nil_of_le]) <;> exact wL); done))
def nT(ds : List Dim)(ats : List Attr)(name : List UInt8) : Bool:=ds.any (fun d=>d.name == name) || ats.any (fun a=>a.name == name)
theorem QK(ds : List Dim)(ats : List Attr)(n : Nat)(name : List UInt8)(hn : n≤ats.length) : CallA Tryz.prog 192 [.one (.d (aH ds)),.one (.d (aF ats)),.one (.d (.int .i64 n)),.one (.d (.str name))] [] (.one (.d (.bool (nT ds (ats.take n) name)))) []:=by
 refine enter ae Tryz.func192 rfl (by decide +kernel) rfl fun hok w0 σ0 φ0 M=>?_
 have h1:=hok.1.sl; have h2:=hok.2.1.sl; clear hok; simp only [List.length_map] at h1 h2; replace h1:=h1.1; replace h2:=h2.1
 repeat' (first|refine wG ?_|(refine h4H ?_; first|refine ag J (fun h=>?_) (fun h=>?_)|refine aB 2 J [(0,_),(1,_),(2,_),(3,_)] (q4Q J J J J) (fun (k : Nat)=>[(9,.one (.d (.int .i64 k)))]) (fun (k : Nat)=>k≤ds.length∧nT ds (ats.take n) name = ((ds.drop k).any (fun d=>d.name == name) || (ats.take n).any (fun a=>a.name == name))) (fun (k : Nat)=>ds.length - k) 0 (q1Q J) ?_ (fun k ⟨hk,hs⟩=>?_)|refine aB 7 J [(1,_),(2,_),(3,_)] (q3Q J J J) (fun (k : Nat)=>[(10,.one (.d (.int .i64 k)))]) (fun (k : Nat)=>k≤n∧nT ds (ats.take n) name = ((ats.take n).drop k).any (fun a=>a.name == name)) (fun (k : Nat)=>n - k) 0 (q1Q J) ?_ (fun k ⟨hk,hs⟩=>?_))|(show Exists _; first|refine Exists.intro (k + 1) ⟨?_,?_,wK,(q1Q J),(q3Q J J J)⟩|refine Exists.intro (k + 1) ⟨?_,?_,wK,(q1Q J),(q4Q J J J J)⟩))
 all_goals (try (((simp_all [nT,sw,Nat.min_eq_left hn,am,List.drop_eq_nil_of_le]) <;> exact wL); done))
def fJ : List (List UInt8)→List Dim→Int
 | _,[]=>0
 | met,d::r=>if !eJ d.name || met.contains d.name then 11 else if !eo d.lo d.hi then 3 else fJ (met ++ [d.name]) r
def dp(ds : List Dim) : Int:=if (ds.length : Int) < 1∨4 < (ds.length : Int) then 13 else fJ [] ds
theorem QL(ds : List Dim) : CallA Tryz.prog 191 [.one (.d (aH ds))] [] (.one (.d (.int .i64 (dp ds)))) []:=by
 refine enter ae Tryz.func191 rfl (by decide +kernel) rfl fun hok w0 σ0 φ0 M=>?_
 have h1:=hok.1.sl; clear hok; simp only [List.length_map] at h1; replace h1:=h1.1
 repeat' (first|(refine h1H ?_; (refine h0H ?_; first|refine aa J J J J J J J J (KH _) J ?_|refine aa J J J J J J J J (QJ _ _ _) J ?_))|refine wG ?_|(refine h1H ?_; (refine h5H ?_; refine aG J J J J (fun h=>?_) (fun h=>?_)))|(refine h4H ?_; first|refine ag J (fun h=>?_) (fun h=>?_)|refine aB 4 J [(0,_)] (q1Q J) (fun (k : Nat)=>[(3,.one (.d (.int .i64 k)))]) (fun (k : Nat)=>k≤ds.length∧1≤ds.length∧ds.length≤4∧dp ds = fJ ((ds.take k).map Dim.name) (ds.drop k)) (fun (k : Nat)=>ds.length - k) 0 (q1Q J) ?_ (fun k ⟨hk,hq,hq2,hs⟩=>?_)|refine aB 9 J [(0,_),(3,_)] (q2Q J J) (fun (j : Nat)=>[(4,.one (.d (.int .i64 j)))]) (fun (j : Nat)=>j≤k∧k < ds.length∧eJ (at_ ds k).name = true∧((ds.take j).map Dim.name).contains (at_ ds k).name = false) (fun (j : Nat)=>k - j) 0 (q1Q J) ?_ (fun j ⟨hj,hkl,hnm,hjs⟩=>?_))|(show Exists _; first|refine Exists.intro (j + 1) ⟨?_,?_,wK,(q1Q J),(q2Q J J)⟩|refine Exists.intro (k + 1) ⟨?_,?_,wK,(q1Q J),(q1Q J)⟩))
 all_goals (try (((simp_all [dp,fJ,eO,am,List.drop_eq_nil_of_le]) <;> exact wL); done))
 ·rename_i hlt
  have hlt' : j < k:=by simpa using hlt
  have he : (at_ ds j).name = (at_ ds k).name:=by simpa using h
  rw [hs,am hkl]; simp only [fJ]; rw [Gr hlt' hk he]; simp
 ·rename_i hlt
  have hlt' : j < k:=by simpa using hlt
  have he : ¬ (at_ ds j).name = (at_ ds k).name:=by simpa using h
  refine ⟨by omega,hkl,hnm,?_⟩
  rw [eO (by omega)]
  simp at hjs ⊢
  exact ⟨hjs,fun e=>he e.symm⟩
def eP : List (List UInt8)→List Attr→Int
 | _,[]=>0
 | met,a::r=>if !eJ a.name || met.contains a.name then 11 else if a.type < 1∨4 < a.type then 12 else eP (met ++ [a.name]) r
def cR(ds : List Dim)(ats : List Attr) : Int:=if dp ds≠0 then dp ds else if (ats.length : Int) < 1∨6 < (ats.length : Int) then 9 else eP (ds.map Dim.name) ats
theorem GO{ds : List Dim}{ats : List Attr}{x : List UInt8} : nT ds ats x = (ds.map Dim.name ++ ats.map Attr.name).contains x:=by
 rw [Bool.eq_iff_iff]
 simp [nT]
theorem Oc(ds : List Dim)(ats : List Attr) : CallA Tryz.prog 115 [.one (.d (aH ds)),.one (.d (aF ats))] [] (.one (.d (.int .i64 (cR ds ats)))) []:=by
 refine enter ae Tryz.func115 rfl (by decide +kernel) rfl fun hok w0 σ0 φ0 M=>?_
 have h1:=hok.1.sl; have h2:=hok.2.1.sl; clear hok; simp only [List.length_map] at h1 h2; replace h1:=h1.1; replace h2:=h2.1
 repeat' (first|(refine h1H ?_; (refine h0H ?_; first|refine aa J J J J J J J J (KH _) J ?_|refine aa J J J J J J J J (QL _) J ?_|refine aa J J J J J J J J (QK _ _ _ _ (by assumption)) J ?_))|refine wG ?_|(refine h1H ?_; (refine h5H ?_; refine aG J J J J (fun h=>?_) (fun h=>?_)))|(refine h4H ?_; first|refine ag J (fun h=>?_) (fun h=>?_)|refine aB 7 J [(0,_),(1,_)] (q2Q J J) (fun (k : Nat)=>[(6,.one (.d (.int .i64 k)))]) (fun (k : Nat)=>k≤ats.length∧dp ds = 0∧1≤ats.length∧ats.length≤6∧cR ds ats = eP (ds.map Dim.name ++ (ats.take k).map Attr.name) (ats.drop k)) (fun (k : Nat)=>ats.length - k) 0 (q1Q J) ?_ (fun k ⟨hk,hd,hq,hq2,hs⟩=>?_))|(show Exists _; refine Exists.intro (k + 1) ⟨?_,?_,wK,(q1Q J),(q2Q J J)⟩))
 all_goals (try (((simp_all [cR,eP,eO,GO,am,List.drop_eq_nil_of_le]) <;> exact wL); done))
structure Val where
 kind : Int
 num : Int
 den : Int
 str : List UInt8
 deriving Inhabited
def ab(v : Val) : List D:=[.int .i64 v.kind,.int .i64 v.num,.int .i64 v.den,.str v.str]
def az(l : List Val) : D:=.sl 4 40 (l.map ab)
def lV(d : Int)(s : List UInt8) : Bool:=d == 0 && s == []
theorem QG(k n d : Int)(s : List UInt8) : CallA Tryz.prog 279 [.agg [.d (.int .i64 k),.d (.int .i64 n),.d (.int .i64 d),.d (.str s)]] [] (.one (.d (.bool (lV d s)))) []:=by
 refine enter ae Tryz.func279 rfl (by decide +kernel) rfl fun hok w0 σ0 φ0 M=>?_
 repeat' (first|refine wG ?_|(refine h1H ?_; (refine h5H ?_; refine aG J J J J (fun h=>?_) (fun h=>?_))))
 all_goals (try (((simp_all [lV,am,List.drop_eq_nil_of_le]) <;> exact wL); done))
theorem QH(a b : Nat) : CallA Tryz.prog 280 [.one (.d (.int .i64 a)),.one (.d (.int .i64 b))] [] (.one (.d (.int .i64 (Nat.gcd a b)))) []:=by
 refine enter ae Tryz.func280 rfl (by decide +kernel) rfl fun hok w0 σ0 φ0 M=>?_
 repeat' (first|(refine h3H ?_; (refine Jz ?_; refine d_e aq J J J (wd J J J J wB) ?_))|refine wG ?_|(refine h4H ?_; first|refine ag J (fun h=>?_) (fun h=>?_)|refine aB 1 J [] aT (fun (p : Nat×Nat)=>[(0,.one (.d (.int .i64 (p.1 : Int)))),(1,.one (.d (.int .i64 (p.2 : Int))))]) (fun (p : Nat×Nat)=>Nat.gcd p.1 p.2 = Nat.gcd a b) (fun (p : Nat×Nat)=>p.2) (a,b) (q2Q J J) ?_ (fun p hg=>?_))|(show Exists _; refine Exists.intro ((p.2,p.1 % p.2)) ⟨?_,?_,wK,(q2Q J J),aT⟩))
 all_goals (try (((simp_all [am,List.drop_eq_nil_of_le]) <;> exact wL); done))
 ·have h' : p.2≠0:=by simpa using h
  show Nat.gcd p.2 (p.1 % p.2) = _
  rw [Nat.gcd_comm,← Nat.gcd_rec,Nat.gcd_comm]; exact hg
 ·have h' : p.2≠0:=by simpa using h
  exact Nat.mod_lt _ (by omega)
end Go.Proofs.YtpejdgkaapnekaaGreat
