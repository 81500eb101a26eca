import Derived.Test.YtpejdgkaapnekaaGreatJP10
import Derived.Test.YtpejdgkaapnekaaGreatJPb
set_option linter.unusedVariables false
set_option linter.unusedSimpArgs false
set_option maxHeartbeats 1000000
namespace Go.Abs
open Go
variable {P : Program} {V : Env} {T : Tab} {c : Ctx} {w0 : World} {σ0 : Sig} {φ0 : Pl} {M : Nat→Prop} {n : Nat} {rd : Option Nat} {mk : List Deferred} {ops : Array Oper} {o : Oper} {rest : List Oper} {fr : List (Nat×AV)} {sto : Sto} {K : St→Prop} {st st0 : St} {acc : List Tr}
theorem wP(hg : o.guard = none) : ({ o with guard:=none } : Oper) = o:=by obtain ⟨_,_,_,_,_,g⟩:=o; simp only at hg; subst hg; rfl
def w9 : Op→Bool
 | .binOp .add _ _ _ _ | .binOp .sub _ _ _ _ | .binOp .mul _ _ _ _ | .binOp .rem _ _ _ _ | .binOp .quo _ _ _ _ | .unOp .neg _ _ | .convert _ _ _ | .pick .. | .index .. | .indexAddr .. | .call { callee:=.value _,.. }=>false
 | _=>true
theorem Di(hT : aL P T){d : Nat}{v : AV}(hp : w9 o.op = true)(hg : o.guard = none)(hdst : o.dst = some d)(hd : Nat.blt d n = true)(hv : cj T ⟨fr,sto⟩ o.op = some v)
  (h : aa P ⟨w0,σ0,φ0,M,n,rd,mk⟩ ops rest ⟨(d,v)::fr,sto⟩ K) : aa P ⟨w0,σ0,φ0,M,n,rd,mk⟩ ops (o::rest) ⟨fr,sto⟩ K:=gm hT hg hdst hd hv h
theorem uZ(hV : EnvOk P V){e : Ef}{dst : Option Nat}(hg : o.guard = none)(hdst : o.dst = dst)(hd : aH n dst = true)(h : aM V ⟨fr,sto⟩ o 0 = some e)(he : e.new = [])(hk : aa P ⟨w0,σ0,φ0,M,n,rd,mk⟩ ops rest ⟨aU dst e.v fr,cn e.wr sto⟩ K) :
  aa P ⟨w0,σ0,φ0,M,n,rd,mk⟩ ops (o::rest) ⟨fr,sto⟩ K:=by
 have:=mE (c:=⟨w0,σ0,φ0,M,n,rd,mk⟩) hV (o:=o) (by rw [hdst]; exact hd) h rfl (fun i hi=>by rw [he] at hi; simp at hi) ops rest K (by rw [hdst]; exact hk)
 rwa [wP hg] at this
theorem bn{d j : Nat}{want b : Bool}(hg : o.guard = some (j,want))(hb : eV ⟨fr,sto⟩ ops j = some (some b))(hdst : o.dst = some d)(hd : Nat.blt d n = true)
  (h1 : b = want→aa P ⟨w0,σ0,φ0,M,n,rd,mk⟩ ops ({ o with guard:=none }::rest) ⟨fr,sto⟩ K) (h2 : b = !want→aa P ⟨w0,σ0,φ0,M,n,rd,mk⟩ ops rest ⟨(d,.tup [])::fr,sto⟩ K) :
  aa P ⟨w0,σ0,φ0,M,n,rd,mk⟩ ops (o::rest) ⟨fr,sto⟩ K:=by
 by_cases h : b = want
 ·exact wH hg hb h (h1 h)
 ·have h' : b = !want:=by cases b <;> cases want <;> simp at h ⊢
  exact Cn hg hb h' hdst hd (h2 h')
theorem Ek{d j : Nat}{want : Bool}(hg : o.guard = some (j,want))(hb : eV ⟨fr,sto⟩ ops j = some none)(hdst : o.dst = some d)(hd : Nat.blt d n = true)
  (h : aa P ⟨w0,σ0,φ0,M,n,rd,mk⟩ ops rest ⟨(d,.tup [])::fr,sto⟩ K) : aa P ⟨w0,σ0,φ0,M,n,rd,mk⟩ ops (o::rest) ⟨fr,sto⟩ K :=
 nv hg hb rfl (by rw [hdst]; exact hd) (by rw [hdst]; exact h)
theorem yH(id : Nat){d : Nat}{t : TypeId}{x : Operand}{v : AV}{cs : List AC}(ho : o.op = .box t x)(hg : o.guard = none)(hdst : o.dst = some d)(hd : (Nat.blt d n && (Nat.blt id 1000000 && (!aZ sto id && !aT id fr && !aK id sto))) = true)
  (hx : ev ⟨fr,sto⟩ x = some v) (hc : (match cellsOf v with | some cs'=>bif cv id cs' then none else some cs' | none=>none) = some cs)
  (h : aa P ⟨w0,σ0,φ0,M,n,rd,mk⟩ ops rest ⟨(d,.one (.ref id 0))::fr,(id,.box cs)::sto⟩ K) : aa P ⟨w0,σ0,φ0,M,n,rd,mk⟩ ops (o::rest) ⟨fr,sto⟩ K:=by
 simp only [Bool.and_eq_true,Bool.not_eq_true'] at hd
 split at hc <;> (try (simp at hc; done))
 rename_i cs' hcs
 cases hm : cv id cs' <;> simp [hm] at hc
 subst hc
 exact rU ho hg hdst (by simp only [Bool.and_eq_true]; exact ⟨hd.1,hd.2.1⟩) hx hcs hd.2.2.1.2 hd.2.2.2 hm h
theorem ab{d : Nat}{fop : Operand}{args : Array Operand}{ats : Array TypeId}{f : FuncId}{caps : List D}{avs avs' : List AV}{rav : AV}{rsto : Sto}
  (ho : o.op = .call { callee:=.value fop,args:=args,argTypes:=ats }) (hg : o.guard = none) (hdst : o.dst = some d) (hd : Nat.blt d n = true) (hf : ev ⟨fr,sto⟩ fop = some (.one (.d (.fn f caps))))
  (ha : evL ⟨fr,sto⟩ args.toList = some avs) (hD : cm avs = true) (hap : (avs ++ caps.map fun x=>.one (.d x)) = avs') (hC : CallA P f avs' [] rav rsto) (hfl : fN rav = true)
  (h : aa P ⟨w0,σ0,φ0,M,n,rd,mk⟩ ops rest ⟨(d,rav)::fr,sto⟩ K) : aa P ⟨w0,σ0,φ0,M,n,rd,mk⟩ ops (o::rest) ⟨fr,sto⟩ K:=by
 subst hap
 exact gb ho hg (by rw [hdst]; exact hd) (Imp.refl _) hf ha hD hC hfl (by rw [hdst]; exact h)
theorem EZ(h1 : iK ops.toList st0 acc.reverse = true)(h2 : K st) : aq P c ops st0 [] st acc K:=⟨h1,h2⟩
theorem nZ{tr : Tr}(hg : o.guard = none)(hl : Loc P c o st tr)(h : aq P c ops st0 rest ⟨aU o.dst tr.v st.fr,cn tr.wr st.sto⟩ (tr::acc) K) : aq P c ops st0 (o::rest) st acc K :=
 ⟨true,tr,by unfold eK; rw [hg],fun _=>hl,fun e=>by simp at e,fun e=>by simp at e,h⟩
theorem Dj{tr : Tr}{j : Nat}{want b : Bool}(hg : o.guard = some (j,want))(hb : eV st ops j = some (some b))(hw : b = want)
  (hl : Loc P c o st tr) (h : aq P c ops st0 rest ⟨aU o.dst tr.v st.fr,cn tr.wr st.sto⟩ (tr::acc) K) : aq P c ops st0 (o::rest) st acc K :=
 ⟨true,tr,by unfold eK; rw [hg]; exact ⟨_,hb,by subst hw; simp⟩,fun _=>hl,fun e=>by simp at e,fun e=>by simp at e,h⟩
theorem E0{d j : Nat}{want b : Bool}(hg : o.guard = some (j,want))(hb : eV st ops j = some (some b))(hw : b = !want)(hdst : o.dst = some d)(hd : Nat.blt d c.n = true)
  (h : aq P c ops st0 rest ⟨(d,.tup [])::st.fr,st.sto⟩ (Tr.none::acc) K) : aq P c ops st0 (o::rest) st acc K :=
 ⟨false,Tr.none,by unfold eK; rw [hg]; exact ⟨_,hb,by subst hw; cases want <;> simp⟩,fun e=>by simp at e,fun _=>rfl,fun _=>by rw [hdst]; exact hd,by rw [hdst]; exact h⟩
theorem gC{j : Nat}{want b : Bool}(hg : o.guard = some (j,want))(hb : eV st ops j = some (some b))(h1 : b = want→aq P c ops st0 (o::rest) st acc K)(h2 : b = !want→aq P c ops st0 (o::rest) st acc K) : aq P c ops st0 (o::rest) st acc K:=by
 by_cases h : b = want
 ·exact h1 h
 ·exact h2 (by cases b <;> cases want <;> simp at h ⊢)
theorem E1(hV : EnvOk P V){e : Ef}(hd : aH c.n o.dst = true)(h : aM V st o 0 = some e) : Loc P c o st (e.tr (o7 st o.op)):=ku hV hd h rfl
theorem kO{v : AV}(hv : cj V.T st o.op = some v) : aM V st o 0 = some ⟨v,[],[]⟩:=by
 simp only [aM,cV,hv]
theorem vW{v : AV}(hp : w9 o.op = true)(hv : cj V.T st o.op = some v) : aM V st o 0 = some ⟨v,[],[]⟩:=kO hv
theorem lv{op : BinOp}{t ty : TypeId}{x y : Operand}{k k' : IntKind}{a b z : Int}(ho : o.op = .binOp op t x y ty)(hop : wF op = true)
  (hx : ev st x = some (.one (.d (.int k a)))) (hy : ev st y = some (.one (.d (.int k' b)))) (hk : kEq k k' = true) (hz : k.wrap (Cl op a b) = z) : aM V st o 0 = some ⟨.one (.d (.int k z)),[],[]⟩:=by
 refine kO ?_
 rw [ho]
 simp only [cj,hx,hy,mU,hk,cond_true]
 cases op <;> simp [wF] at hop <;> simp only [iP,cond_false,rh,← hz,Cl]
theorem qI{x y z : Operand}{b : Bool}{v : AV}(ho : o.op = .pick x y z)(hx : ev st x = some (.one (.d (.bool b))))(hv : ev st (if b then y else z) = some v) : aM V st o 0 = some ⟨v,[],[]⟩:=by
 simp only [aM,cV,cj,ho,cQ,hx,hv]
theorem oQ{x y z : Operand}{b : Bool}{v : AV}(ho : o.op = .pick x y z)(hx : ev st x = some (.one (.d (.bool b))))(hb : b = true)(hv : ev st y = some v) : aM V st o 0 = some ⟨v,[],[]⟩:=qI ho hx (by rw [hb]; exact hv)
theorem oR{x y z : Operand}{b : Bool}{v : AV}(ho : o.op = .pick x y z)(hx : ev st x = some (.one (.d (.bool b))))(hb : b = false)(hv : ev st z = some v) : aM V st o 0 = some ⟨v,[],[]⟩:=qI ho hx (by rw [hb]; exact hv)
theorem d_e(hV : EnvOk P V){d : Nat}{v : AV}(hg : o.guard = none)(hdst : o.dst = some d)(hd : Nat.blt d c.n = true)(h : aM V ⟨fr,sto⟩ o 0 = some ⟨v,[],[]⟩)
  (k : aq P c ops st0 rest ⟨(d,v)::fr,sto⟩ (⟨v,[],o7 ⟨fr,sto⟩ o.op,[]⟩::acc) K) : aq P c ops st0 (o::rest) ⟨fr,sto⟩ acc K :=
 nZ hg (E1 hV (by rw [hdst]; exact hd) h) (by rw [hdst]; exact k)
theorem d_l{d : Nat}{v : AV}(hg : o.guard = none)(hdst : o.dst = some d)(hl : Loc P c o ⟨fr,sto⟩ ⟨v,[],[],[]⟩)
  (k : aq P c ops st0 rest ⟨(d,v)::fr,sto⟩ (⟨v,[],[],[]⟩::acc) K) : aq P c ops st0 (o::rest) ⟨fr,sto⟩ acc K :=
 nZ hg hl (by rw [hdst]; exact k)
theorem Dk{j : Nat}{want b : Bool}(hg : o.guard = some (j,want))(hb : eV st ops j = some (some b))(hw : b = want)
  (h : aq P c ops st0 ({ o with guard:=none }::rest) st acc K) : aq P c ops st0 (o::rest) st acc K:=by
 obtain ⟨run,tr,h1,h2,h3,h4,h5⟩:=h
 have hr : run = true:=h1
 subst hr
 exact Dj hg hb hw (h2 rfl) h5
theorem cr{k b k' b' : Nat}{t e : TypeId}{z : List D}{x y : Operand}{xs : List (List D)}{ik : IntKind}{i : Int}{el : List D}
  (ho : o.op = .indexAddr t x y) (ht : aN V.T t = some (e,k',b',z)) (hx : ev st x = some (.one (.d (.sl k b xs)))) (hk : Nat.beq k k' = true)
  (hy : ev st y = some (.one (.d (.int ik i)))) (hi : 0≤i) (hel : xs[i.toNat]? = some el) : aM V st o 0 = some ⟨.one (.d (.ptr el)),[],[]⟩:=by
 simp only [aM,cV,cj,ho,cQ,hx,hy,nj,ht,hk,hi,decide_true,Bool.and_self,cond_true,eO,hel]
theorem u0{t : TypeId}{x y : Operand}{ik : IntKind}{i : Int}{s : List UInt8}{b : UInt8}
  (ho : o.op = .index t x y) (ht : eP V.T t = true) (hx : ev st x = some (.one (.d (.str s))))
  (hy : ev st y = some (.one (.d (.int ik i)))) (hi : 0≤i) (hb : s[i.toNat]? = some b) : aM V st o 0 = some ⟨.one (.d (.int .u8 (b.toNat : Int))),[],[]⟩:=by
 simp only [aM,cV,cj,ho,cQ,hx,hy,oo,ht,hi,decide_true,Bool.and_self,cond_true,eO,hb]
theorem bw{fop : Operand}{args : Array Operand}{ats : Array TypeId}{f : FuncId}{caps : List D}{avs avs' : List AV}{rav : AV}{rsto : Sto}
  (ho : o.op = .call { callee:=.value fop,args:=args,argTypes:=ats }) (hd : aH c.n o.dst = true) (hf : ev st fop = some (.one (.d (.fn f caps))))
  (ha : evL st args.toList = some avs) (hD : cm avs = true) (hap : (avs ++ caps.map fun x=>.one (.d x)) = avs') (hC : CallA P f avs' [] rav rsto) (hfl : fN rav = true) : Loc P c o st ⟨rav,[],[],[]⟩:=by
 subst hap
 intro st2 hs hri hnew opsA rest K h
 have he : ∀ {x : Operand},x∈o.op.operands.toList→ev st2 x = ev st x:=fun hx=>ed hs hx
 rw [ho] at he
 have ha2 : evL st2 args.toList = some avs:=(iw fun x hx=>he (by simp [Op.operands,Call.operands]; exact .inr (by simpa using hx))).trans ha
 exact gb (o:={ o with guard:=none }) ho rfl hd (Imp.refl _) ((he (by simp [Op.operands,Call.operands])).trans hf) ha2 hD hC hfl h
theorem jn{t ty : TypeId}{x y : Operand}{k k' : IntKind}{a b z : Int}(ho : o.op = .binOp .add t x y ty)
  (hx : ev st x = some (.one (.d (.int k a)))) (hy : ev st y = some (.one (.d (.int k' b)))) (hk : kEq k k' = true) (hz : k.wrap (a + b) = z) : aM V st o 0 = some ⟨.one (.d (.int k z)),[],[]⟩:=lv ho rfl hx hy hk hz
theorem sK{t ty : TypeId}{x y : Operand}{k k' : IntKind}{a b z : Int}(ho : o.op = .binOp .sub t x y ty)
  (hx : ev st x = some (.one (.d (.int k a)))) (hy : ev st y = some (.one (.d (.int k' b)))) (hk : kEq k k' = true) (hz : k.wrap (a - b) = z) : aM V st o 0 = some ⟨.one (.d (.int k z)),[],[]⟩:=lv ho rfl hx hy hk hz
theorem Ac{t ty : TypeId}{x y : Operand}{k k' : IntKind}{a b z : Int}(ho : o.op = .binOp .mul t x y ty)
  (hx : ev st x = some (.one (.d (.int k a)))) (hy : ev st y = some (.one (.d (.int k' b)))) (hk : kEq k k' = true) (hz : k.wrap (a * b) = z) : aM V st o 0 = some ⟨.one (.d (.int k z)),[],[]⟩:=lv ho rfl hx hy hk hz
theorem sB{t ty : TypeId}{x y : Operand}{k k' : IntKind}{a b : Int}(ho : o.op = .binOp .rem t x y ty)
  (hx : ev st x = some (.one (.d (.int k a)))) (hy : ev st y = some (.one (.d (.int k' b)))) (hk : kEq k k' = true) (h0 : ¬ b = 0) : aM V st o 0 = some ⟨.one (.d (.int k (a.tmod b))),[],[]⟩:=by
 simp only [aM,cV,cj,ho,hx,hy,mU,iP,cond_false,hk,cond_true,rh,cQ,iM,gl,u3,h0,decide_false,Bool.not_false,Bool.and_self]
 cases o.dst <;> simp [fe]
theorem zS{t ty : TypeId}{x y : Operand}{k k' : IntKind}{a b z : Int}(ho : o.op = .binOp .quo t x y ty)
  (hx : ev st x = some (.one (.d (.int k a)))) (hy : ev st y = some (.one (.d (.int k' b)))) (hk : kEq k k' = true) (h0 : ¬ b = 0) (hz : k.wrap (a.tdiv b) = z) : aM V st o 0 = some ⟨.one (.d (.int k z)),[],[]⟩:=by
 subst hz
 simp only [aM,cV,cj,ho,hx,hy,mU,iP,cond_false,hk,cond_true,rh,cQ,iM,gl,u3,h0,decide_false,Bool.not_false,Bool.and_self]
 cases o.dst <;> simp [fe]
theorem jR{z : Int}(h1 : 0≤z)(h2 : z≤18446744073709551615) : IntKind.u64.wrap z = z :=
 rp ⟨by simp [IntKind.min,IntKind.signed]; exact h1,by simp [IntKind.max,IntKind.signed,IntKind.bits]; exact h2⟩
theorem Dl{z : Int}(h1 : 0≤z)(h2 : z≤4294967295) : IntKind.u32.wrap z = z :=
 rp ⟨by simp [IntKind.min,IntKind.signed]; exact h1,by simp [IntKind.max,IntKind.signed,IntKind.bits]; exact h2⟩
def Cr(T : Tab)(t : TypeId) : Bool:=match look T t with | some _=>true | none=>false
theorem Ad{t : TypeId}{x : Operand}{k : IntKind}{a z : Int}(ho : o.op = .unOp .neg t x)
  (hx : ev st x = some (.one (.d (.int k a)))) (hz : k.wrap (0 - a) = z) : aM V st o 0 = some ⟨.one (.d (.int k z)),[],[]⟩:=by
 subst hz
 exact kO (by simp only [ho,cj,hx,unF])
def Ae(T : Tab)(t : TypeId)(k : IntKind) : Bool:=match look T t with | some ⟨.int k',_,_,_⟩=>kEq k' k | _=>false
theorem qJ{src dst : TypeId}{x : Operand}{k k' : IntKind}{a z : Int}(ho : o.op = .convert src dst x)
  (hx : ev st x = some (.one (.d (.int k a)))) (hs : Cr V.T src = true) (hd : Ae V.T dst k' = true) (hz : k'.wrap a = z) : aM V st o 0 = some ⟨.one (.d (.int k' z)),[],[]⟩:=by
 subst hz
 refine kO ?_
 unfold Cr at hs
 unfold Ae at hd
 split at hs <;> (try (simp at hs; done))
 rename_i td hs'
 split at hd <;> (try (simp at hd; done))
 rename_i k'' h1 h2 h3 hd'
 obtain rfl:=eE hd
 simp only [ho,cj,hx,tk,hs',hd']
theorem Dm(hT : aL P T){d : Nat}{src dst : TypeId}{x : Operand}{s : List UInt8}(ho : o.op = .convert src dst x)(hg : o.guard = none)(hdst : o.dst = some d)(hd : Nat.blt d n = true)(hb : (eP T src && kn T dst) = true)
  (hx : ev ⟨fr,sto⟩ x = some (.one (.d (.str s)))) (hl : s.length≤1000000) (h : aa P ⟨w0,σ0,φ0,M,n,rd,mk⟩ ops rest ⟨(d,.one (.d (lS s)))::fr,sto⟩ K) : aa P ⟨w0,σ0,φ0,M,n,rd,mk⟩ ops (o::rest) ⟨fr,sto⟩ K :=
 oS hT ho hg (by rw [hdst]; exact hd) hb hx (by omega) (by rw [hdst]; exact h)
theorem s_e(hV : EnvOk P V){d : Nat}{v : AV}(hg : o.guard = none)(hdst : o.dst = some d)(hd : Nat.blt d n = true)(h : aM V ⟨fr,sto⟩ o 0 = some ⟨v,[],[]⟩)
  (hk : aa P ⟨w0,σ0,φ0,M,n,rd,mk⟩ ops rest ⟨(d,v)::fr,sto⟩ K) : aa P ⟨w0,σ0,φ0,M,n,rd,mk⟩ ops (o::rest) ⟨fr,sto⟩ K :=
 uZ hV (dst:=some d) hg hdst hd h rfl hk
theorem jS(hT : aL P T)(id : Nat){d : Nat}{t : TypeId}{td : TD}(ho : o.op = .alloc t)(hg : o.guard = none)(hdst : o.dst = some d)(hd : (Nat.blt d n && (Nat.blt id 1000000 && (!aZ sto id && !aT id fr && !aK id sto))) = true)(ht : look T t = some td)
  (h : aa P ⟨w0,σ0,φ0,M,n,rd,mk⟩ ops rest ⟨(d,.one (.ref id 0))::fr,(id,.box (td.zero.map .d))::sto⟩ K) : aa P ⟨w0,σ0,φ0,M,n,rd,mk⟩ ops (o::rest) ⟨fr,sto⟩ K:=by
 simp only [Bool.and_eq_true,Bool.not_eq_true'] at hd
 exact oG hT ho hg hdst (by simp only [Bool.and_eq_true]; exact ⟨hd.1,hd.2.1⟩) ht hd.2.2.1.2 hd.2.2.2 h
theorem lR(hV : EnvOk P V){i : Nat}{ob : AObj}(hg : o.guard = none)(hdst : o.dst = none)(h : aM V ⟨fr,sto⟩ o 0 = some ⟨.any,[(i,some ob)],[]⟩)(hk : aa P ⟨w0,σ0,φ0,M,n,rd,mk⟩ ops rest ⟨fr,cg i ob sto⟩ K) :
  aa P ⟨w0,σ0,φ0,M,n,rd,mk⟩ ops (o::rest) ⟨fr,sto⟩ K:=uZ hV (dst:=none) hg hdst rfl h rfl hk
theorem E2(hV : EnvOk P V){d f : Nat}{caps : Array Operand}{v : AV}{wr : List (Nat×Option AObj)}(ho : o.op = .makeFunc (.func f) ⟨[]⟩ caps)(hg : o.guard = none)(hdst : o.dst = some d)(hd : Nat.blt d n = true)(h : aM V ⟨fr,sto⟩ o 0 = some ⟨v,wr,[]⟩)
  (hk : aa P ⟨w0,σ0,φ0,M,n,rd,mk⟩ ops rest ⟨(d,v)::fr,cn wr sto⟩ K) : aa P ⟨w0,σ0,φ0,M,n,rd,mk⟩ ops (o::rest) ⟨fr,sto⟩ K:=uZ hV (dst:=some d) hg hdst hd h rfl hk
theorem u4{x : Operand}{p q : Code}{Q : Exit→St→Prop}(hx : ev st x = some (.one (.d (.bool true))))(ht : OkC P c p st Q) : OkC P c (.cond x p q) st Q:=ao hx (fun _=>ht) (fun h=>by simp at h)
theorem u5{x : Operand}{p q : Code}{Q : Exit→St→Prop}(hx : ev st x = some (.one (.d (.bool false))))(ht : OkC P c q st Q) : OkC P c (.cond x p q) st Q:=ao hx (fun h=>by simp at h) (fun _=>ht)
theorem Af{x : Operand}{p q : Code}{Q : Exit→St→Prop}{b : Bool}(hx : ev st x = some (.one (.d (.bool b))))(hb : b = true)(ht : OkC P c p st Q) : OkC P c (.cond x p q) st Q:=u4 (by rw [hx,hb]) ht
theorem Ag{x : Operand}{p q : Code}{Q : Exit→St→Prop}{b : Bool}(hx : ev st x = some (.one (.d (.bool b))))(hb : b = false)(ht : OkC P c q st Q) : OkC P c (.cond x p q) st Q:=u5 (by rw [hx,hb]) ht
theorem j7{fr fr' : List (Nat×AV)}(h : SubL fr fr') : Imp c ⟨fr,sto⟩ ⟨fr',sto⟩:=fun a w σ φ hr=>by
 exact ⟨σ,φ,⟨hr.le,hr.fresh,hr.inv,hr.mine,fun s v hv=>hr.slot s v (h.look hv),hr.defers,hr.size,hr.fra,hr.pin⟩⟩
theorem bL{α : Type}{fr : List (Nat×α)} : SubL fr []:=trivial
theorem ah{α : Type}{fr r : List (Nat×α)}{s : Nat}{v : α}(h : look fr s = some v)(ht : SubL fr r) : SubL fr ((s,v)::r):=⟨h,ht⟩
theorem q1Q{α : Type}{fr : List (Nat×α)}{s0 : Nat}{v0 : α}(h0 : look fr s0 = some v0) : SubL fr [(s0,v0)]:=ah h0 bL
theorem q2Q{α : Type}{fr : List (Nat×α)}{s0 s1 : Nat}{v0 v1 : α}(h0 : look fr s0 = some v0)(h1 : look fr s1 = some v1) : SubL fr [(s0,v0),(s1,v1)]:=ah h0 (ah h1 bL)
theorem q3Q{α : Type}{fr : List (Nat×α)}{s0 s1 s2 : Nat}{v0 v1 v2 : α}(h0 : look fr s0 = some v0)(h1 : look fr s1 = some v1)(h2 : look fr s2 = some v2) : SubL fr [(s0,v0),(s1,v1),(s2,v2)]:=ah h0 (ah h1 (ah h2 bL))
theorem q4Q{α : Type}{fr : List (Nat×α)}{s0 s1 s2 s3 : Nat}{v0 v1 v2 v3 : α}(h0 : look fr s0 = some v0)(h1 : look fr s1 = some v1)(h2 : look fr s2 = some v2)(h3 : look fr s3 = some v3) : SubL fr [(s0,v0),(s1,v1),(s2,v2),(s3,v3)]:=ah h0 (ah h1 (ah h2 (ah h3 bL)))
theorem q5Q{α : Type}{fr : List (Nat×α)}{s0 s1 s2 s3 s4 : Nat}{v0 v1 v2 v3 v4 : α}(h0 : look fr s0 = some v0)(h1 : look fr s1 = some v1)(h2 : look fr s2 = some v2)(h3 : look fr s3 = some v3)(h4 : look fr s4 = some v4) : SubL fr [(s0,v0),(s1,v1),(s2,v2),(s3,v3),(s4,v4)]:=ah h0 (ah h1 (ah h2 (ah h3 (ah h4 bL))))
theorem q6Q{α : Type}{fr : List (Nat×α)}{s0 s1 s2 s3 s4 s5 : Nat}{v0 v1 v2 v3 v4 v5 : α}(h0 : look fr s0 = some v0)(h1 : look fr s1 = some v1)(h2 : look fr s2 = some v2)(h3 : look fr s3 = some v3)(h4 : look fr s4 = some v4)(h5 : look fr s5 = some v5) : SubL fr [(s0,v0),(s1,v1),(s2,v2),(s3,v3),(s4,v4),(s5,v5)]:=ah h0 (ah h1 (ah h2 (ah h3 (ah h4 (ah h5 bL)))))
theorem q7Q{α : Type}{fr : List (Nat×α)}{s0 s1 s2 s3 s4 s5 s6 : Nat}{v0 v1 v2 v3 v4 v5 v6 : α}(h0 : look fr s0 = some v0)(h1 : look fr s1 = some v1)(h2 : look fr s2 = some v2)(h3 : look fr s3 = some v3)(h4 : look fr s4 = some v4)(h5 : look fr s5 = some v5)(h6 : look fr s6 = some v6) : SubL fr [(s0,v0),(s1,v1),(s2,v2),(s3,v3),(s4,v4),(s5,v5),(s6,v6)]:=ah h0 (ah h1 (ah h2 (ah h3 (ah h4 (ah h5 (ah h6 bL))))))
theorem q8Q{α : Type}{fr : List (Nat×α)}{s0 s1 s2 s3 s4 s5 s6 s7 : Nat}{v0 v1 v2 v3 v4 v5 v6 v7 : α}(h0 : look fr s0 = some v0)(h1 : look fr s1 = some v1)(h2 : look fr s2 = some v2)(h3 : look fr s3 = some v3)(h4 : look fr s4 = some v4)(h5 : look fr s5 = some v5)(h6 : look fr s6 = some v6)(h7 : look fr s7 = some v7) : SubL fr [(s0,v0),(s1,v1),(s2,v2),(s3,v3),(s4,v4),(s5,v5),(s6,v6),(s7,v7)]:=ah h0 (ah h1 (ah h2 (ah h3 (ah h4 (ah h5 (ah h6 (ah h7 bL)))))))
theorem q9Q{α : Type}{fr : List (Nat×α)}{s0 s1 s2 s3 s4 s5 s6 s7 s8 : Nat}{v0 v1 v2 v3 v4 v5 v6 v7 v8 : α}(h0 : look fr s0 = some v0)(h1 : look fr s1 = some v1)(h2 : look fr s2 = some v2)(h3 : look fr s3 = some v3)(h4 : look fr s4 = some v4)(h5 : look fr s5 = some v5)(h6 : look fr s6 = some v6)(h7 : look fr s7 = some v7)(h8 : look fr s8 = some v8) : SubL fr [(s0,v0),(s1,v1),(s2,v2),(s3,v3),(s4,v4),(s5,v5),(s6,v6),(s7,v7),(s8,v8)]:=ah h0 (ah h1 (ah h2 (ah h3 (ah h4 (ah h5 (ah h6 (ah h7 (ah h8 bL))))))))
theorem Fw{α : Type}{fr : List (Nat×α)}{s0 s1 s2 s3 s4 s5 s6 s7 s8 s9 : Nat}{v0 v1 v2 v3 v4 v5 v6 v7 v8 v9 : α}(h0 : look fr s0 = some v0)(h1 : look fr s1 = some v1)(h2 : look fr s2 = some v2)(h3 : look fr s3 = some v3)(h4 : look fr s4 = some v4)(h5 : look fr s5 = some v5)(h6 : look fr s6 = some v6)(h7 : look fr s7 = some v7)(h8 : look fr s8 = some v8)(h9 : look fr s9 = some v9) : SubL fr [(s0,v0),(s1,v1),(s2,v2),(s3,v3),(s4,v4),(s5,v5),(s6,v6),(s7,v7),(s8,v8),(s9,v9)]:=ah h0 (ah h1 (ah h2 (ah h3 (ah h4 (ah h5 (ah h6 (ah h7 (ah h8 (ah h9 bL)))))))))
theorem Em{α : Type}{fr : List (Nat×α)}{s0 s1 s2 s3 s4 s5 s6 s7 s8 s9 s10 : Nat}{v0 v1 v2 v3 v4 v5 v6 v7 v8 v9 v10 : α}(h0 : look fr s0 = some v0)(h1 : look fr s1 = some v1)(h2 : look fr s2 = some v2)(h3 : look fr s3 = some v3)(h4 : look fr s4 = some v4)(h5 : look fr s5 = some v5)(h6 : look fr s6 = some v6)(h7 : look fr s7 = some v7)(h8 : look fr s8 = some v8)(h9 : look fr s9 = some v9)(h10 : look fr s10 = some v10) : SubL fr [(s0,v0),(s1,v1),(s2,v2),(s3,v3),(s4,v4),(s5,v5),(s6,v6),(s7,v7),(s8,v8),(s9,v9),(s10,v10)]:=ah h0 (ah h1 (ah h2 (ah h3 (ah h4 (ah h5 (ah h6 (ah h7 (ah h8 (ah h9 (ah h10 bL))))))))))
theorem Fv{α : Type}{fr : List (Nat×α)}{s0 s1 s2 s3 s4 s5 s6 s7 s8 s9 s10 s11 : Nat}{v0 v1 v2 v3 v4 v5 v6 v7 v8 v9 v10 v11 : α}(h0 : look fr s0 = some v0)(h1 : look fr s1 = some v1)(h2 : look fr s2 = some v2)(h3 : look fr s3 = some v3)(h4 : look fr s4 = some v4)(h5 : look fr s5 = some v5)(h6 : look fr s6 = some v6)(h7 : look fr s7 = some v7)(h8 : look fr s8 = some v8)(h9 : look fr s9 = some v9)(h10 : look fr s10 = some v10)(h11 : look fr s11 = some v11) : SubL fr [(s0,v0),(s1,v1),(s2,v2),(s3,v3),(s4,v4),(s5,v5),(s6,v6),(s7,v7),(s8,v8),(s9,v9),(s10,v10),(s11,v11)]:=ah h0 (ah h1 (ah h2 (ah h3 (ah h4 (ah h5 (ah h6 (ah h7 (ah h8 (ah h9 (ah h10 (ah h11 bL)))))))))))
theorem A9{α : Type}{fr : List (Nat×α)}{s0 s1 s2 s3 s4 s5 s6 s7 s8 s9 s10 s11 s12 : Nat}{v0 v1 v2 v3 v4 v5 v6 v7 v8 v9 v10 v11 v12 : α}(h0 : look fr s0 = some v0)(h1 : look fr s1 = some v1)(h2 : look fr s2 = some v2)(h3 : look fr s3 = some v3)(h4 : look fr s4 = some v4)(h5 : look fr s5 = some v5)(h6 : look fr s6 = some v6)(h7 : look fr s7 = some v7)(h8 : look fr s8 = some v8)(h9 : look fr s9 = some v9)(h10 : look fr s10 = some v10)(h11 : look fr s11 = some v11)(h12 : look fr s12 = some v12) : SubL fr [(s0,v0),(s1,v1),(s2,v2),(s3,v3),(s4,v4),(s5,v5),(s6,v6),(s7,v7),(s8,v8),(s9,v9),(s10,v10),(s11,v11),(s12,v12)]:=ah h0 (ah h1 (ah h2 (ah h3 (ah h4 (ah h5 (ah h6 (ah h7 (ah h8 (ah h9 (ah h10 (ah h11 (ah h12 bL))))))))))))
theorem a0A : type_of% @decide_eq_true_eq:=@decide_eq_true_eq
theorem a1A : type_of% @decide_eq_false_iff_not:=@decide_eq_false_iff_not
theorem a2A : type_of% @Bool.not_eq_true':=@Bool.not_eq_true'
theorem a3A : type_of% @Bool.not_true:=@Bool.not_true
theorem a4A : type_of% @Bool.not_false:=@Bool.not_false
theorem a5A : type_of% @List.length_map:=@List.length_map
theorem a6A : type_of% @List.length_set:=@List.length_set
theorem a7A : type_of% @bne_iff_ne:=@bne_iff_ne
theorem a8A : type_of% @ne_eq:=@ne_eq
theorem a9A : type_of% @beq_iff_eq:=@beq_iff_eq
theorem Bm : type_of% @bne_eq_false_iff_eq:=@bne_eq_false_iff_eq
theorem DW : type_of% @beq_eq_false_iff_ne:=@beq_eq_false_iff_ne
theorem pE : type_of% @List.length_cons:=@List.length_cons
theorem pF : type_of% @List.length_nil:=@List.length_nil
theorem rC : type_of% @List.length_append:=@List.length_append
theorem rD : type_of% @List.length_take:=@List.length_take
theorem rE : type_of% @List.length_drop:=@List.length_drop
theorem pq : type_of% @Int.toNat_natCast:=@Int.toNat_natCast
def gr : Code→Nat
 | .region id _ _=>id
 | .seq x _=>gr x
 | .block _ x=>gr x
 | .loop x=>gr x
 | _=>0
theorem bc{α : Type}{body : Code}{Q : Exit→St→Prop}(rg : Nat)(hrg : gr body = rg)(kept : List (Nat×AV))(hk : SubL fr kept)(L : α→List (Nat×AV))(Inv : α→Prop)(μ : α→Nat)(x0 : α)(hL : SubL fr (L x0))(h0 : Inv x0)
  (hround : ∀ x,Inv x→OkC P c body ⟨L x ++ kept,sto⟩ (aC (fun st'=>∃ y,Inv y∧μ y < μ x∧SubL st'.sto sto∧SubL st'.fr (L y)∧SubL st'.fr kept) Q)) : OkC P c (.loop body) ⟨fr,sto⟩ Q:=by
 have hap : ∀ {f a b : List (Nat×AV)},SubL f a→SubL f b→SubL f (a ++ b):=by
  intro f a b h1 h2
  induction a with
  | nil=>exact h2
  | cons p r ih=>exact ⟨h1.1,ih h1.2⟩
 refine bm (st':=⟨L x0 ++ kept,sto⟩) (j7 (hap hL hk)) ?_
 refine nY (fun n st=>∃ x,Inv x∧n = μ x∧st = ⟨L x ++ kept,sto⟩) (μ x0) ⟨x0,h0,rfl,rfl⟩ ?_
 rintro n st ⟨x,hx,rfl,rfl⟩
 refine iJ (hround x hx) fun e st h=>?_
 cases e with
 | normal =>
   obtain ⟨y,hy,hlt,hs,h1,h2⟩:=h
   obtain ⟨f,s⟩:=st
   simp only at hs h1 h2
   exact ⟨μ y,_,hlt,⟨y,hy,rfl,rfl⟩,Imp.trans (j7 (hap h1 h2)) (fun a w σ φ hr=>⟨σ,φ,hr.dropTo fun i e h=>hs.look h⟩)⟩
 | _=>exact h
theorem zq{f : St→Prop}{Q : Exit→St→Prop}(h : f st) : aC f Q .normal st:=h
theorem En{f : St→Prop}{Q : Exit→St→Prop}(h : Q .ret st) : aC f Q .ret st:=h
theorem Eo{f : St→Prop}{Q : Exit→St→Prop}{i : Nat}(h : Q (.exit i) st) : aC f Q (.exit i) st:=h
theorem Dn{i : Nat}{Q : Exit→St→Prop}(h : Q .normal st) : ax i Q .normal st:=h
theorem Dp{i : Nat}{Q : Exit→St→Prop}(h : Q .ret st) : ax i Q .ret st:=h
theorem wu{i j : Nat}{Q : Exit→St→Prop}(hb : Nat.beq j i = true)(h : Q .normal st) : ax i Q (.exit j) st:=by simp only [ax,hb,cond_true]; exact h
def OkD(d : D) : Prop:=∃ σ v,Rep σ d v
theorem OkD.str{s : List UInt8}(h : OkD (.str s)) : s.length < 281474976710656:=by
 obtain ⟨σ,v,h⟩:=h
 cases h with
 | str h=>simpa using h
theorem OkD.int{k : IntKind}{z : Int}(h : OkD (.int k z)) : inR k z:=by
 obtain ⟨σ,v,h⟩:=h
 cases h with
 | int h=>exact h
theorem OkD.i64{z : Int}(h : OkD (.int .i64 z)) : -9223372036854775808≤z∧z≤9223372036854775807:=by
 have:=h.int
 simpa [inR,IntKind.min,IntKind.max,IntKind.signed,IntKind.bits] using this
theorem OkD.sl{k b : Nat}{xs : List (List D)}(h : OkD (.sl k b xs)) : xs.length < 281474976710656∧xs.length * b≤140737488355328∧∀ x∈xs,x.length = k∧∀ d∈x,OkD d:=by
 obtain ⟨σ,v,h⟩:=h
 cases h with
 | sl vs hc h48 hb hk hA hh =>
   refine ⟨by simpa using h48,by simpa using hb,fun x hx=>⟨hk x hx,fun d hd=>?_⟩⟩
   obtain ⟨i,hi⟩:=List.getElem?_of_mem hx
   obtain ⟨j,hj⟩:=List.getElem?_of_mem hd
   exact ⟨σ,_,hh i j x d hi hj⟩
def BI : AC→Prop
 | .d d=>OkD d
 | _=>True
def Hs : AV→Prop
 | .one c=>BI c
 | .agg cs=>∀ c∈cs,BI c
 | _=>True
def yI : List AV→Prop
 | []=>True
 | v::r=>Hs v∧yI r
theorem u6{σ : Sig}{φ : Pl}{sto : Sto} : ∀ {avs : List AV} {vs : List Value},All2 (RepV σ φ sto) avs vs→yI avs
 | [],[],_=>trivial
 | v::r,u::us,h=>by
   refine ⟨?_,u6 h.2⟩
   have h1:=h.1
   have key : ∀ {x : AC} {u : Value},RepC σ φ sto x u→BI x:=by
    intro x u h
    cases x with
    | d d=>exact ⟨σ,_,RepC.d_inv h⟩
    | _=>trivial
   cases v with
   | one x=>exact key h1
   | agg cs =>
     obtain ⟨vs,rfl,h2⟩:=h1
     intro x hx
     obtain ⟨j,hj⟩:=List.getElem?_of_mem hx
     obtain ⟨w,_,hr⟩:=h2.get hj
     exact key hr
   | _=>trivial
 | [],_::_,h=>h.elim
 | _::_,[],h=>h.elim
theorem enter(hT : aL P T){f : FuncId}{fn : Func}{code : Code}{args : List AV}{sto : Sto}{rav : AV}{rsto : Sto}(hf : P.funcs[f]? = some fn)(hb : fn.body = some code)
  (hname : (fn.name == "runtime.NumGoroutine") = false) (hn : Nat.ble args.length fn.ntmps = true)
  (h : yI args→∀ (w0 : World) (σ0 : Sig) (φ0 : Pl) (M : Nat→Prop),OkC P ⟨w0,σ0,φ0,M,fn.ntmps,none,[]⟩ code ⟨jo 0 args,sto⟩ (aS T fn.results.toList rav rsto)) : CallA P f args sto rav rsto :=
 ⟨⟨fn,hf,hname,by rw [hb]; rfl⟩,fun w σ φ vs hinv hargs=>(oT hT hf hb hname hn (h (u6 hargs))).run w σ φ vs hinv hargs⟩
def at_{α : Type}[Inhabited α](l : List α)(i : Nat) : α:=l.getD i default
theorem cZ{α : Type}[Inhabited α]{l : List α}{i : Nat}(h : i < l.length) : l[i]? = some (at_ l i):=by simp [at_,List.getD_eq_getElem?_getD,h]
theorem db{α β : Type}[Inhabited α]{f : α→β}{l : List α}{i : Nat}(h : i < l.length) : (l.map f)[i]? = some (f (at_ l i)):=by simp [cZ h]
theorem av{α : Type}[Inhabited α]{l : List α}{i : Nat}(h : i < l.length) : l.drop i = at_ l i::l.drop (i + 1):=by
 rw [List.drop_eq_getElem_cons h]
 have:=cZ h
 rw [List.getElem?_eq_getElem h] at this
 rw [Option.some.inj this]
theorem ch{α : Type}[Inhabited α]{l : List α}{i : Nat}(h : i < l.length) : l.take (i + 1) = l.take i ++ [at_ l i]:=by
 rw [List.take_add_one,cZ h]; rfl
theorem aX{α : Type}[Inhabited α]{l : List α}{i : Nat}(h : i < l.length) : at_ l i∈l:=List.mem_of_getElem? (cZ h)
theorem tL{α : Type}[Inhabited α]{l : List α}{n i : Nat}(h : i < n) : at_ (l.take n) i = at_ l i:=by
 simp only [at_,List.getD_eq_getElem?_getD,List.getElem?_take,h,if_true]
theorem bI{α β : Type}[Inhabited α][Inhabited β]{f : α→β}{l : List α}{i : Nat}(h : i < l.length) : at_ (l.map f) i = f (at_ l i):=by
 simp [at_,List.getD_eq_getElem?_getD,h]
theorem BJ{α β : Type}[Inhabited α][BEq β][LawfulBEq β]{f : α→β}{l : List α}{j k : Nat}{x : β}(hj : j < k)(hk : k≤l.length)(h : f (at_ l j) = x) : ((l.take k).map f).contains x = true:=by
 subst h
 simp only [List.contains_iff_mem,List.mem_map]
 exact ⟨_,List.mem_of_getElem? (i:=j) (by rw [List.getElem?_take,if_pos hj]; exact cZ (by omega)),rfl⟩
theorem BK{T : Tab}{rs : List ResultVar}{rav rav' : AV}{e : Exit}{st : St}{l : List (Bool×List AC)}(he : e = .ret∨e = .normal)(hl : ll T st rs = some l)(hr : oh l = some rav')(h : rav' = rav) : aS T rs rav [] e st :=
 ⟨he,l,hl,by rw [hr,h],by first | exact SubL.nil | (intro i; simp [look]) | trivial⟩
theorem gQ0{Q : Prop}{x1 x2 x3 x4 x5 x6 x7 x8 x9 x10 x11 x12}(h : Q→aa x1 x2 x3 (Oper.mk x4 (x5) x6 x7 x8 (some x9)::x10) x11 x12) : Q→aa x1 x2 x3 (Oper.mk x4 (x5) x6 x7 x8 (some x9)::x10) x11 x12:=h
theorem gQ1{Q : Prop}{x1 x2 x3 x4 x5 x6 x7 x8 x9 x10 x11 x12}(h : Q→aa x1 x2 x3 (Oper.mk x4 (Op.call x5) x6 x7 x8 (x9)::x10) x11 x12) : Q→aa x1 x2 x3 (Oper.mk x4 (Op.call x5) x6 x7 x8 (x9)::x10) x11 x12:=h
theorem gQ2{Q : Prop}{x1 x2 x3 x4 x5 x6 x7 x8 x9 x10 x11 x12 x13 x14}(h : Q→aa x1 x2 x3 (Oper.mk x4 (Op.convert x5 x6 x7) x8 x9 x10 (x11)::x12) x13 x14) : Q→aa x1 x2 x3 (Oper.mk x4 (Op.convert x5 x6 x7) x8 x9 x10 (x11)::x12) x13 x14:=h
theorem gQ3{Q : Prop}{x1 x2 x3 x4 x5 x6 x7 x8 x9 x10 x11 x12 x13 x14 x15}(h : Q→aa x1 x2 x3 (Oper.mk x4 (Op.binOp .add x5 x6 x7 x8) x9 x10 x11 (x12)::x13) x14 x15) : Q→aa x1 x2 x3 (Oper.mk x4 (Op.binOp .add x5 x6 x7 x8) x9 x10 x11 (x12)::x13) x14 x15:=h
theorem gQ4{Q : Prop}{x1 x2 x3 x4 x5 x6 x7 x8 x9 x10 x11 x12 x13 x14 x15}(h : Q→aa x1 x2 x3 (Oper.mk x4 (Op.binOp .sub x5 x6 x7 x8) x9 x10 x11 (x12)::x13) x14 x15) : Q→aa x1 x2 x3 (Oper.mk x4 (Op.binOp .sub x5 x6 x7 x8) x9 x10 x11 (x12)::x13) x14 x15:=h
theorem gQ5{Q : Prop}{x1 x2 x3 x4 x5 x6 x7 x8 x9 x10 x11 x12 x13 x14 x15}(h : Q→aa x1 x2 x3 (Oper.mk x4 (Op.binOp .mul x5 x6 x7 x8) x9 x10 x11 (x12)::x13) x14 x15) : Q→aa x1 x2 x3 (Oper.mk x4 (Op.binOp .mul x5 x6 x7 x8) x9 x10 x11 (x12)::x13) x14 x15:=h
theorem gQ6{Q : Prop}{x1 x2 x3 x4 x5 x6 x7 x8 x9 x10 x11 x12 x13 x14 x15}(h : Q→aa x1 x2 x3 (Oper.mk x4 (Op.binOp .rem x5 x6 x7 x8) x9 x10 x11 (x12)::x13) x14 x15) : Q→aa x1 x2 x3 (Oper.mk x4 (Op.binOp .rem x5 x6 x7 x8) x9 x10 x11 (x12)::x13) x14 x15:=h
theorem gQ7{Q : Prop}{x1 x2 x3 x4 x5 x6 x7 x8 x9 x10 x11 x12 x13 x14 x15}(h : Q→aa x1 x2 x3 (Oper.mk x4 (Op.binOp .quo x5 x6 x7 x8) x9 x10 x11 (x12)::x13) x14 x15) : Q→aa x1 x2 x3 (Oper.mk x4 (Op.binOp .quo x5 x6 x7 x8) x9 x10 x11 (x12)::x13) x14 x15:=h
theorem gQ8{Q : Prop}{x1 x2 x3 x4 x5 x6 x7 x8 x9 x10 x11 x12 x13}(h : Q→aa x1 x2 x3 (Oper.mk x4 (Op.unOp .neg x5 x6) x7 x8 x9 (x10)::x11) x12 x13) : Q→aa x1 x2 x3 (Oper.mk x4 (Op.unOp .neg x5 x6) x7 x8 x9 (x10)::x11) x12 x13:=h
theorem gQ9{Q : Prop}{x1 x2 x3 x4 x5 x6 x7 x8 x9 x10 x11 x12 x13 x14}(h : Q→aa x1 x2 x3 (Oper.mk x4 (Op.pick x5 x6 x7) x8 x9 x10 (x11)::x12) x13 x14) : Q→aa x1 x2 x3 (Oper.mk x4 (Op.pick x5 x6 x7) x8 x9 x10 (x11)::x12) x13 x14:=h
theorem Ht{Q : Prop}{x1 x2 x3 x4 x5 x6 x7 x8 x9 x10 x11 x12 x13 x14}(h : Q→aa x1 x2 x3 (Oper.mk x4 (Op.indexAddr x5 x6 x7) x8 x9 x10 (x11)::x12) x13 x14) : Q→aa x1 x2 x3 (Oper.mk x4 (Op.indexAddr x5 x6 x7) x8 x9 x10 (x11)::x12) x13 x14:=h
theorem Hu{Q : Prop}{x1 x2 x3 x4 x5 x6 x7 x8 x9 x10 x11 x12 x13 x14}(h : Q→aa x1 x2 x3 (Oper.mk x4 (Op.index x5 x6 x7) x8 x9 x10 (x11)::x12) x13 x14) : Q→aa x1 x2 x3 (Oper.mk x4 (Op.index x5 x6 x7) x8 x9 x10 (x11)::x12) x13 x14:=h
theorem Hv{Q : Prop}{x1 x2 x3 x4 x5 x6 x7 x8 x9 x10 x11 x12 x13}(h : Q→aa x1 x2 x3 (Oper.mk x4 (Op.load x5 x6) x7 x8 x9 (x10)::x11) x12 x13) : Q→aa x1 x2 x3 (Oper.mk x4 (Op.load x5 x6) x7 x8 x9 (x10)::x11) x12 x13:=h
theorem Hw{Q : Prop}{x1 x2 x3 x4 x5 x6 x7 x8 x9 x10 x11 x12 x13}(h : Q→aa x1 x2 x3 (Oper.mk x4 (Op.box x5 x6) x7 x8 x9 (x10)::x11) x12 x13) : Q→aa x1 x2 x3 (Oper.mk x4 (Op.box x5 x6) x7 x8 x9 (x10)::x11) x12 x13:=h
theorem Hx{Q : Prop}{x1 x2 x3 x4 x5 x6 x7 x8 x9 x10 x11 x12}(h : Q→aa x1 x2 x3 (Oper.mk x4 (Op.alloc x5) x6 x7 x8 (x9)::x10) x11 x12) : Q→aa x1 x2 x3 (Oper.mk x4 (Op.alloc x5) x6 x7 x8 (x9)::x10) x11 x12:=h
theorem Hy{Q : Prop}{x1 x2 x3 x4 x5 x6}(h : Q→aa x1 x2 x3 x4 x5 x6) : Q→aa x1 x2 x3 x4 x5 x6:=h
theorem Hz{Q : Prop}{x1 x2 x3 x4 x5}(h : Q→OkC x1 x2 x3 x4 x5) : Q→OkC x1 x2 x3 x4 x5:=h
theorem HA{Q : Prop}{x1 x2 x3 x4 x5 x6 x7 x8 x9 x10 x11 x12 x13 x14}(h : Q→aq x1 x2 x3 x4 (Oper.mk x5 (Op.call x6) x7 x8 x9 (x10)::x11) x12 x13 x14) : Q→aq x1 x2 x3 x4 (Oper.mk x5 (Op.call x6) x7 x8 x9 (x10)::x11) x12 x13 x14:=h
theorem HB{Q : Prop}{x1 x2 x3 x4 x5 x6 x7 x8 x9 x10 x11 x12 x13 x14}(h : Q→aq x1 x2 x3 x4 (Oper.mk x5 (x6) x7 x8 x9 (some x10)::x11) x12 x13 x14) : Q→aq x1 x2 x3 x4 (Oper.mk x5 (x6) x7 x8 x9 (some x10)::x11) x12 x13 x14:=h
theorem HC{Q : Prop}{x1 x2 x3 x4 x5 x6 x7 x8 x9 x10 x11 x12 x13 x14 x15 x16 x17}(h : Q→aq x1 x2 x3 x4 (Oper.mk x5 (Op.binOp .add x6 x7 x8 x9) x10 x11 x12 (x13)::x14) x15 x16 x17) : Q→aq x1 x2 x3 x4 (Oper.mk x5 (Op.binOp .add x6 x7 x8 x9) x10 x11 x12 (x13)::x14) x15 x16 x17:=h
theorem HD{Q : Prop}{x1 x2 x3 x4 x5 x6 x7 x8 x9 x10 x11 x12 x13 x14 x15 x16 x17}(h : Q→aq x1 x2 x3 x4 (Oper.mk x5 (Op.binOp .sub x6 x7 x8 x9) x10 x11 x12 (x13)::x14) x15 x16 x17) : Q→aq x1 x2 x3 x4 (Oper.mk x5 (Op.binOp .sub x6 x7 x8 x9) x10 x11 x12 (x13)::x14) x15 x16 x17:=h
theorem HE{Q : Prop}{x1 x2 x3 x4 x5 x6 x7 x8 x9 x10 x11 x12 x13 x14 x15 x16}(h : Q→aq x1 x2 x3 x4 (Oper.mk x5 (Op.pick x6 x7 x8) x9 x10 x11 (x12)::x13) x14 x15 x16) : Q→aq x1 x2 x3 x4 (Oper.mk x5 (Op.pick x6 x7 x8) x9 x10 x11 (x12)::x13) x14 x15 x16:=h
theorem HF{Q : Prop}{x1 x2 x3 x4 x5 x6 x7 x8 x9 x10 x11 x12 x13 x14 x15 x16}(h : Q→aq x1 x2 x3 x4 (Oper.mk x5 (Op.indexAddr x6 x7 x8) x9 x10 x11 (x12)::x13) x14 x15 x16) : Q→aq x1 x2 x3 x4 (Oper.mk x5 (Op.indexAddr x6 x7 x8) x9 x10 x11 (x12)::x13) x14 x15 x16:=h
theorem HG{Q : Prop}{x1 x2 x3 x4 x5 x6 x7 x8 x9 x10 x11 x12 x13 x14 x15}(h : Q→aq x1 x2 x3 x4 (Oper.mk x5 (Op.load x6 x7) x8 x9 x10 (x11)::x12) x13 x14 x15) : Q→aq x1 x2 x3 x4 (Oper.mk x5 (Op.load x6 x7) x8 x9 x10 (x11)::x12) x13 x14 x15:=h
theorem HH{Q : Prop}{x1 x2 x3 x4 x5 x6 x7 x8}(h : Q→aq x1 x2 x3 x4 x5 x6 x7 x8) : Q→aq x1 x2 x3 x4 x5 x6 x7 x8:=h
theorem wB{P : Prop}(h : P:=by first | omega | ((try simp only [a0A,a1A,a2A,a3A,a4A,a5A,a6A,a7A,a8A,a9A,Bm,DW] at *); omega)) : P:=h
theorem wK{P : Prop}(h : P:=by first | (repeat' first | exact bL | refine ah rfl ?_) <;> fail | fail) : P:=h
theorem wL{P : Prop}(h : P:=by first | omega | (rw [Bool.eq_iff_iff]; simp; omega) | grind) : P:=h
theorem wS0{P : Prop}(h : P:=by first | exact wH rfl rfl (by first | assumption | rfl) | exact Cn rfl rfl (by first | assumption | rfl) rfl rfl | exact Ek rfl rfl rfl rfl) : P:=h
theorem wS1{P : Prop}(h : P:=by exact iG ag rfl rfl rfl rfl rfl rfl rfl rfl rfl rfl rfl rfl rfl (by first | omega | ((try simp only [a0A,a1A,a5A,pE,pF,rC,rD,rE,pq] at *); omega)) (by first | exact Nat.le_of_ble_eq_true rfl | omega | ((try simp only [a0A,a1A,a5A,pE,pF,rC,rD,rE,pq] at *); omega)) (Nat.le_of_ble_eq_true rfl)) : P:=h
theorem wS3{P : Prop}(h : P:=by first | exact s_e envOk rfl rfl rfl (jn rfl rfl rfl rfl (ic wB wB)) | exact s_e envOk rfl rfl rfl (jn rfl rfl rfl rfl (jR wB wB)) | exact gm ag rfl rfl rfl rfl) : P:=h
theorem wS4{P : Prop}(h : P:=by first | exact s_e envOk rfl rfl rfl (sK rfl rfl rfl rfl (ic wB wB)) | exact gm ag rfl rfl rfl rfl) : P:=h
theorem wS5{P : Prop}(h : P:=by first | exact s_e envOk rfl rfl rfl (Ac rfl rfl rfl rfl (jR wB wB)) | exact gm ag rfl rfl rfl rfl) : P:=h
theorem wS8{P : Prop}(h : P:=by first | exact s_e envOk rfl rfl rfl (Ad rfl rfl (ic wB wB)) | exact gm ag rfl rfl rfl rfl) : P:=h
theorem wS2{P : Prop}(h : P:=by first | exact s_e envOk rfl rfl rfl (qJ rfl rfl rfl rfl (jR wB wB)) | exact s_e envOk rfl rfl rfl (qJ rfl rfl rfl rfl (Dl wB wB)) | exact gm ag rfl rfl rfl rfl) : P:=h
theorem wS9{P : Prop}(h : P:=by first | exact s_e envOk rfl rfl rfl (oQ rfl rfl (by first | rfl | assumption) rfl) | exact s_e envOk rfl rfl rfl (oR rfl rfl (by first | rfl | assumption) rfl) | exact gm ag rfl rfl rfl rfl) : P:=h
theorem HI{P : Prop}(h : P:=by first | exact s_e envOk rfl rfl rfl (eH rfl rfl rfl rfl rfl rfl wB wB) | exact s_e envOk rfl rfl rfl (cr rfl rfl rfl rfl rfl wB (C7 wB)) | exact s_e envOk rfl rfl rfl (cr rfl rfl rfl rfl rfl wB (db wB)) | exact gm ag rfl rfl rfl rfl) : P:=h
theorem HJ{P : Prop}(h : P:=by first | exact s_e envOk rfl rfl rfl (u0 rfl rfl rfl rfl wB (cZ wB)) | exact gm ag rfl rfl rfl rfl) : P:=h
theorem HK{P : Prop}(h : P:=by first | exact s_e envOk rfl rfl rfl (cW rfl rfl rfl rfl (iH wB) rfl) | exact gm ag rfl rfl rfl rfl) : P:=h
theorem HL{P : Prop}(h : P:=by first | exact yH 0 rfl rfl rfl rfl rfl rfl | exact yH 1 rfl rfl rfl rfl rfl rfl | exact yH 2 rfl rfl rfl rfl rfl rfl) : P:=h
theorem HM{P : Prop}(h : P:=by first | exact jS ag 0 rfl rfl rfl rfl rfl | exact jS ag 1 rfl rfl rfl rfl rfl | exact jS ag 2 rfl rfl rfl rfl rfl | exact jS ag 3 rfl rfl rfl rfl rfl | exact jS ag 4 rfl rfl rfl rfl rfl | exact jS ag 5 rfl rfl rfl rfl rfl) : P:=h
theorem HN{P : Prop}(h : P:=by first | exact nN | exact Di ag rfl rfl rfl rfl rfl | (apply gQ0; exact wS0) | (apply gQ1; exact wS1) | (apply gQ2; exact Dm ag rfl rfl rfl rfl rfl rfl wB) | (apply gQ3; exact wS3) | (apply gQ4; exact wS4) | (apply gQ5; exact wS5) | (apply gQ6; exact gm ag rfl rfl rfl rfl) | (apply gQ7; exact gm ag rfl rfl rfl rfl) | (apply gQ8; exact wS8) | (apply gQ2; exact wS2) | (apply gQ9; exact wS9) | (apply Ht; exact HI) | (apply Hu; exact HJ) | (apply Hv; exact HK) | (apply Hw; exact HL) | (apply Hx; exact HM) | exact lR envOk rfl rfl (b9 rfl rfl rfl rfl rfl rfl rfl rfl rfl (db wB) rfl) | exact lR envOk rfl rfl (b9 rfl rfl rfl rfl rfl rfl rfl rfl rfl (eI (by assumption) wB) rfl) | exact lR envOk rfl rfl rfl | exact E2 envOk rfl rfl rfl rfl rfl | exact s_e envOk rfl rfl rfl rfl | exact gX envOk 0 rfl rfl rfl rfl rfl rfl | exact gX envOk 1 rfl rfl rfl rfl rfl rfl | exact gX envOk 2 rfl rfl rfl rfl rfl rfl | exact gX envOk 3 rfl rfl rfl rfl rfl rfl | exact gX envOk 4 rfl rfl rfl rfl rfl rfl | exact gX envOk 5 rfl rfl rfl rfl rfl rfl | exact gX envOk 6 rfl rfl rfl rfl rfl rfl | exact zR envOk rfl rfl rfl rfl rfl rfl rfl rfl rfl rfl rfl rfl | exact BD envOk rfl rfl rfl rfl rfl rfl rfl rfl rfl rfl rfl (by assumption)) : P:=h
theorem HO{P : Prop}(h : P:=by first | exact zj | exact Ep | exact sL | exact BL | exact xa | exact bV | exact xb | exact u4 rfl | exact u5 rfl | exact Af rfl (by assumption) | exact Ag rfl (by assumption) | exact p9 progOk.mo) : P:=h
theorem HP{P : Prop}(h : P:=by first | exact dB envOk 11 rfl rfl rfl (b6 (i:=10) rfl rfl rfl rfl rfl rfl rfl rfl (by first | omega | ((try simp only [a0A,a1A,a5A,pE,pF,rC,rD,rE,pq] at *); omega)) (by first | exact Nat.le_of_ble_eq_true rfl | omega | ((try simp only [a0A,a1A,a5A,pE,pF,rC,rD,rE,pq] at *); omega)) (Nat.le_of_ble_eq_true rfl)) rfl rfl | exact dB envOk 13 rfl rfl rfl (b6 (i:=12) rfl rfl rfl rfl rfl rfl rfl rfl (by first | omega | ((try simp only [a0A,a1A,a5A,pE,pF,rC,rD,rE,pq] at *); omega)) (by first | exact Nat.le_of_ble_eq_true rfl | omega | ((try simp only [a0A,a1A,a5A,pE,pF,rC,rD,rE,pq] at *); omega)) (Nat.le_of_ble_eq_true rfl)) rfl rfl) : P:=h
theorem HQ{P : Prop}(h : P:=by first | exact Dk rfl rfl (by first | assumption | rfl) | exact E0 rfl rfl (by first | assumption | rfl) rfl rfl) : P:=h
theorem HR{P : Prop}(h : P:=by first | exact d_e envOk rfl rfl rfl (oQ rfl rfl (by first | rfl | assumption) rfl) | exact d_e envOk rfl rfl rfl (oR rfl rfl (by first | rfl | assumption) rfl)) : P:=h
theorem HS{P : Prop}(h : P:=by first | exact d_e envOk rfl rfl rfl (eH rfl rfl rfl rfl rfl rfl wB wB) | exact d_e envOk rfl rfl rfl (cr rfl rfl rfl rfl rfl wB (db wB))) : P:=h
theorem HT{P : Prop}(h : P:=by first | exact d_e envOk rfl rfl rfl (cW rfl rfl rfl rfl (eI (by assumption) wB) rfl) | exact d_e envOk rfl rfl rfl (cW rfl rfl rfl rfl (iH wB) rfl)) : P:=h
theorem HU{P : Prop}(h : P:=by first | (apply HA; exact HP) | exact EZ (by kernel_rfl) | exact d_e envOk rfl rfl rfl (vW rfl rfl) | (apply HB; exact HQ) | (apply HC; exact d_e envOk rfl rfl rfl (jn rfl rfl rfl rfl (ic wB wB))) | (apply HD; exact d_e envOk rfl rfl rfl (sK rfl rfl rfl rfl (ic wB wB))) | (apply HE; exact HR) | (apply HF; exact HS) | (apply HG; exact HT) | exact d_e envOk rfl rfl rfl rfl | exact dB envOk 2 rfl rfl rfl rfl rfl rfl | exact dB envOk 3 rfl rfl rfl rfl rfl rfl | exact dB envOk 5 rfl rfl rfl rfl rfl rfl | exact dB envOk 6 rfl rfl rfl rfl rfl rfl | exact fQ envOk rfl rfl (b9 rfl rfl rfl rfl rfl rfl rfl rfl rfl (db wB) rfl) | exact fQ envOk rfl rfl (b9 rfl rfl rfl rfl rfl rfl rfl rfl rfl (eI (by assumption) wB) rfl) | exact fQ envOk rfl rfl (b9 rfl rfl rfl rfl rfl rfl rfl rfl rfl (iH wB) rfl) | exact fQ envOk rfl rfl rfl) : P:=h
theorem wG {P Q : Prop} (k : Q) (h : Q→P:=by first
  | (apply Hy; exact HN)
  | (apply Hz; exact HO)
  | exact zq
  | exact En
  | exact Eo
  | exact Dn
  | exact Dp
  | exact wu rfl
  | exact BK (.inl rfl) rfl rfl
  | exact fun k=>si (.inl rfl) rfl rfl k (by first | exact (q1Q rfl) | exact (q2Q rfl rfl))
  | (apply HH; exact HU)
  | exact AX rfl
  | exact DK
  | exact DV (by simp)
  | exact CS (by simp)
  | exact DI) : P:=h k
theorem h5H{x1 x2 x3 x4 x5}(h : OkC x1 x2 x3 x4 x5) : OkC x1 x2 x3 x4 x5:=h
end Go.Abs
namespace Go.Proofs.YtpejdgkaapnekaaGreat
open Go Go.Abs
attribute [local irreducible] aa OkC aq aC ax aS
set_option maxRecDepth 10000
def fU(c : Nat) : Bool:=decide (97≤c) && decide (c≤122)
def fE(c : Nat) : Bool:=fU c || (decide (48≤c) && decide (c≤57)) || decide (c = 95)
theorem Ex(c : Nat) : CallA Tryz.prog 208 [.one (.d (.int .u8 c))] [] (.one (.d (.bool (fU c)))) []:=by
 refine enter ag Tryz.func208 rfl (by decide +kernel) rfl fun hok w0 σ0 φ0 M=>?_
 repeat' (first|refine wG ?_|(refine h1H ?_; (refine h4H ?_; refine bn J J J J (fun h=>?_) (fun h=>?_))))
 all_goals (try (((simp_all [fU,av,List.drop_eq_nil_of_le]) <;> exact wL); done))
theorem HY(c : Nat) : CallA Tryz.prog 209 [.one (.d (.int .u8 c))] [] (.one (.d (.bool (fE c)))) []:=by
 refine enter ag Tryz.func209 rfl (by decide +kernel) rfl fun hok w0 σ0 φ0 M=>?_
 repeat' (first|(refine h1H ?_; (refine h0H ?_; refine ab J J J J J J J J (Ex _) J ?_))|refine wG ?_|(refine h1H ?_; (refine h4H ?_; refine bn J J J J (fun h=>?_) (fun h=>?_))))
 all_goals (try (((simp_all [fE,av,List.drop_eq_nil_of_le]) <;> exact wL); done))
def ea(s : List UInt8) : Bool:=decide (1≤s.length) && decide (s.length≤12) && fU (at_ s 0).toNat && s.all (fun c=>fE c.toNat)
theorem Ey(s : List UInt8) : CallA Tryz.prog 149 [.one (.d (.str s))] [] (.one (.d (.bool (ea s)))) []:=by
 refine enter ag Tryz.func149 rfl (by decide +kernel) rfl fun hok w0 σ0 φ0 M=>?_
 have hl:=hok.1.str; clear hok
 repeat' (first|(refine h1H ?_; (refine h0H ?_; first|refine ab J J J J J J J J (Ex _) J ?_|refine ab J J J J J J J J (HY _) J ?_))|refine wG ?_|(refine h1H ?_; (refine h4H ?_; refine bn J J J J (fun h=>?_) (fun h=>?_)))|(refine h5H ?_; first|refine ao J (fun h=>?_) (fun h=>?_)|refine bc 4 J [(0,_)] (q1Q J) (fun (k : Nat)=>[(3,.one (.d (.int .i64 k)))]) (fun (k : Nat)=>k≤s.length∧ea s = (s.drop k).all (fun c=>fE c.toNat)) (fun (k : Nat)=>s.length - k) 0 (q1Q J) ?_ (fun k ⟨hk,hs⟩=>?_))|(show Exists _; refine Exists.intro (k + 1) ⟨?_,?_,wK,(q1Q J),(q1Q J)⟩))
 all_goals (try (((simp_all [ea,av,List.drop_eq_nil_of_le]) <;> exact wL); done))
structure Dim where
 name : List UInt8
 lo : Int
 hi : Int
 deriving Inhabited
structure Attr where
 name : List UInt8
 type : Int
 deriving Inhabited
def al(d : Dim) : List D:=[.str d.name,.int .i64 d.lo,.int .i64 d.hi]
def aj(l : List Dim) : D:=.sl 3 32 (l.map al)
def aA(a : Attr) : List D:=[.str a.name,.int .i64 a.type]
def ai(l : List Attr) : D:=.sl 2 24 (l.map aA)
def aB(n : Int) : List D:=[.int .i64 n]
def aF(l : List Int) : D:=.sl 1 8 (l.map aB)
def fj(hi : Int) : Int:=min hi 1073741824
theorem H5(nm : List UInt8)(lo hi : Int) : CallA Tryz.prog 183 [.agg [.d (.str nm),.d (.int .i64 lo),.d (.int .i64 hi)]] [] (.one (.d (.int .i64 (fj hi)))) []:=by
 refine enter ag Tryz.func183 rfl (by decide +kernel) rfl fun hok w0 σ0 φ0 M=>?_
 repeat' (first|refine wG ?_)
 all_goals (try (((simp_all [fj,av,List.drop_eq_nil_of_le]) <;> exact wL); done))
theorem FK(nm : List UInt8)(lo hi : Int) : CallA Tryz.prog 247 [.agg [.d (.str nm),.d (.int .i64 lo),.d (.int .i64 hi)]] [] (.one (.d (.int .i64 (fj hi)))) []:=by
 refine enter ag Tryz.func247 rfl (by decide +kernel) rfl fun hok w0 σ0 φ0 M=>?_
 repeat' (first|refine wG ?_)
 all_goals (try (((simp_all [fj,av,List.drop_eq_nil_of_le]) <;> exact wL); done))
def dV(lo hi : Int) : Bool:=decide (-1073741824≤lo) && decide (lo≤1073741824) && decide (lo≤hi) && decide (hi≤1073741825)
theorem H6(nm : List UInt8)(lo hi : Int) : CallA Tryz.prog 243 [.agg [.d (.str nm),.d (.int .i64 lo),.d (.int .i64 hi)]] [] (.one (.d (.bool (dV lo hi)))) []:=by
 refine enter ag Tryz.func243 rfl (by decide +kernel) rfl fun hok w0 σ0 φ0 M=>?_
 repeat' (first|refine wG ?_|(refine h1H ?_; (refine h4H ?_; refine bn J J J J (fun h=>?_) (fun h=>?_))))
 all_goals (try (((simp_all [dV,av,List.drop_eq_nil_of_le]) <;> exact wL); done))
def dK : List Dim→List Int→Bool
 | d::ds,x::xs=>decide (d.lo≤x) && decide (x≤fj d.hi) && dK ds xs
 | _,_=>true
def ofF(ds : List Dim)(at' : List Int) : Bool:=decide (at'.length = ds.length) && dK ds at'
theorem Fk(ds : List Dim)(at' : List Int) : CallA Tryz.prog 100 [.one (.d (aj ds)),.one (.d (aF at'))] [] (.one (.d (.bool (ofF ds at')))) []:=by
 refine enter ag Tryz.func100 rfl (by decide +kernel) rfl fun hok w0 σ0 φ0 M=>?_
 have h1:=hok.1.sl; have h2:=hok.2.1.sl; clear hok; simp only [List.length_map] at h1 h2; replace h1:=h1.1; replace h2:=h2.1
 repeat' (first|(refine h3H ?_; (refine h2H ?_; refine d_l J J (bw J J J J J J (H5 _ _ _) J) ?_))|refine wG ?_|(refine h5H ?_; first|refine ao J (fun h=>?_) (fun h=>?_)|refine bc 4 J [(0,_),(1,_)] (q2Q J J) (fun (k : Nat)=>[(5,.one (.d (.int .i64 k)))]) (fun (k : Nat)=>k≤ds.length∧at'.length = ds.length∧dK ds at' = dK (ds.drop k) (at'.drop k)) (fun (k : Nat)=>ds.length - k) 0 (q1Q J) ?_ (fun k ⟨hk,hq,hs⟩=>?_))|(refine h3H ?_; (refine ni ?_; refine gC J J (fun h=>?_) (fun h=>?_)))|(show Exists _; refine Exists.intro (k + 1) ⟨?_,?_,wK,(q1Q J),(q2Q J J)⟩))
 all_goals (try (((simp_all [ofF,dK,av,List.drop_eq_nil_of_le]) <;> exact wL); done))
def lW(ds : List Dim)(ats : List Attr)(name : List UInt8) : Bool:=ds.any (fun d=>d.name == name) || ats.any (fun a=>a.name == name)
theorem H7(ds : List Dim)(ats : List Attr)(n : Nat)(name : List UInt8)(hn : n≤ats.length) : CallA Tryz.prog 192 [.one (.d (aj ds)),.one (.d (ai ats)),.one (.d (.int .i64 n)),.one (.d (.str name))] [] (.one (.d (.bool (lW ds (ats.take n) name)))) []:=by
 refine enter ag Tryz.func192 rfl (by decide +kernel) rfl fun hok w0 σ0 φ0 M=>?_
 have h1:=hok.1.sl; have h2:=hok.2.1.sl; clear hok; simp only [List.length_map] at h1 h2; replace h1:=h1.1; replace h2:=h2.1
 repeat' (first|refine wG ?_|(refine h5H ?_; first|refine ao J (fun h=>?_) (fun h=>?_)|refine bc 2 J [(0,_),(1,_),(2,_),(3,_)] (q4Q J J J J) (fun (k : Nat)=>[(9,.one (.d (.int .i64 k)))]) (fun (k : Nat)=>k≤ds.length∧lW ds (ats.take n) name = ((ds.drop k).any (fun d=>d.name == name) || (ats.take n).any (fun a=>a.name == name))) (fun (k : Nat)=>ds.length - k) 0 (q1Q J) ?_ (fun k ⟨hk,hs⟩=>?_)|refine bc 7 J [(1,_),(2,_),(3,_)] (q3Q J J J) (fun (k : Nat)=>[(10,.one (.d (.int .i64 k)))]) (fun (k : Nat)=>k≤n∧lW ds (ats.take n) name = ((ats.take n).drop k).any (fun a=>a.name == name)) (fun (k : Nat)=>n - k) 0 (q1Q J) ?_ (fun k ⟨hk,hs⟩=>?_))|(show Exists _; first|refine Exists.intro (k + 1) ⟨?_,?_,wK,(q1Q J),(q3Q J J J)⟩|refine Exists.intro (k + 1) ⟨?_,?_,wK,(q1Q J),(q4Q J J J J)⟩))
 all_goals (try (((simp_all [lW,tL,Nat.min_eq_left hn,av,List.drop_eq_nil_of_le]) <;> exact wL); done))
def eJ : List (List UInt8)→List Dim→Int
 | _,[]=>0
 | met,d::r=>if !ea d.name || met.contains d.name then 11 else if !dV d.lo d.hi then 3 else eJ (met ++ [d.name]) r
def c5(ds : List Dim) : Int:=if (ds.length : Int) < 1∨4 < (ds.length : Int) then 13 else eJ [] ds
theorem H8(ds : List Dim) : CallA Tryz.prog 191 [.one (.d (aj ds))] [] (.one (.d (.int .i64 (c5 ds)))) []:=by
 refine enter ag Tryz.func191 rfl (by decide +kernel) rfl fun hok w0 σ0 φ0 M=>?_
 have h1:=hok.1.sl; clear hok; simp only [List.length_map] at h1; replace h1:=h1.1
 repeat' (first|(refine h1H ?_; (refine h0H ?_; first|refine ab J J J J J J J J (Ey _) J ?_|refine ab J J J J J J J J (H6 _ _ _) J ?_))|refine wG ?_|(refine h1H ?_; (refine h4H ?_; refine bn J J J J (fun h=>?_) (fun h=>?_)))|(refine h5H ?_; first|refine ao J (fun h=>?_) (fun h=>?_)|refine bc 4 J [(0,_)] (q1Q J) (fun (k : Nat)=>[(3,.one (.d (.int .i64 k)))]) (fun (k : Nat)=>k≤ds.length∧1≤ds.length∧ds.length≤4∧c5 ds = eJ ((ds.take k).map Dim.name) (ds.drop k)) (fun (k : Nat)=>ds.length - k) 0 (q1Q J) ?_ (fun k ⟨hk,hq,hq2,hs⟩=>?_)|refine bc 9 J [(0,_),(3,_)] (q2Q J J) (fun (j : Nat)=>[(4,.one (.d (.int .i64 j)))]) (fun (j : Nat)=>j≤k∧k < ds.length∧ea (at_ ds k).name = true∧((ds.take j).map Dim.name).contains (at_ ds k).name = false) (fun (j : Nat)=>k - j) 0 (q1Q J) ?_ (fun j ⟨hj,hkl,hnm,hjs⟩=>?_))|(show Exists _; first|refine Exists.intro (j + 1) ⟨?_,?_,wK,(q1Q J),(q2Q J J)⟩|refine Exists.intro (k + 1) ⟨?_,?_,wK,(q1Q J),(q1Q J)⟩))
 all_goals (try (((simp_all [c5,eJ,ch,av,List.drop_eq_nil_of_le]) <;> exact wL); done))
 ·rename_i hlt
  have hlt' : j < k:=by simpa using hlt
  have he : (at_ ds j).name = (at_ ds k).name:=by simpa using h
  rw [hs,av hkl]; simp only [eJ]; rw [BJ hlt' hk he]; simp
 ·rename_i hlt
  have hlt' : j < k:=by simpa using hlt
  have he : ¬ (at_ ds j).name = (at_ ds k).name:=by simpa using h
  refine ⟨by omega,hkl,hnm,?_⟩
  rw [ch (by omega)]
  simp at hjs ⊢
  exact ⟨hjs,fun e=>he e.symm⟩
def ee : List (List UInt8)→List Attr→Int
 | _,[]=>0
 | met,a::r=>if !ea a.name || met.contains a.name then 11 else if a.type < 1∨4 < a.type then 12 else ee (met ++ [a.name]) r
def cG(ds : List Dim)(ats : List Attr) : Int:=if c5 ds≠0 then c5 ds else if (ats.length : Int) < 1∨6 < (ats.length : Int) then 9 else ee (ds.map Dim.name) ats
theorem BZ{ds : List Dim}{ats : List Attr}{x : List UInt8} : lW ds ats x = (ds.map Dim.name ++ ats.map Attr.name).contains x:=by
 rw [Bool.eq_iff_iff]
 simp [lW]
theorem Gm(ds : List Dim)(ats : List Attr) : CallA Tryz.prog 115 [.one (.d (aj ds)),.one (.d (ai ats))] [] (.one (.d (.int .i64 (cG ds ats)))) []:=by
 refine enter ag Tryz.func115 rfl (by decide +kernel) rfl fun hok w0 σ0 φ0 M=>?_
 have h1:=hok.1.sl; have h2:=hok.2.1.sl; clear hok; simp only [List.length_map] at h1 h2; replace h1:=h1.1; replace h2:=h2.1
 repeat' (first|(refine h1H ?_; (refine h0H ?_; first|refine ab J J J J J J J J (Ey _) J ?_|refine ab J J J J J J J J (H8 _) J ?_|refine ab J J J J J J J J (H7 _ _ _ _ (by assumption)) J ?_))|refine wG ?_|(refine h1H ?_; (refine h4H ?_; refine bn J J J J (fun h=>?_) (fun h=>?_)))|(refine h5H ?_; first|refine ao J (fun h=>?_) (fun h=>?_)|refine bc 7 J [(0,_),(1,_)] (q2Q J J) (fun (k : Nat)=>[(6,.one (.d (.int .i64 k)))]) (fun (k : Nat)=>k≤ats.length∧c5 ds = 0∧1≤ats.length∧ats.length≤6∧cG ds ats = ee (ds.map Dim.name ++ (ats.take k).map Attr.name) (ats.drop k)) (fun (k : Nat)=>ats.length - k) 0 (q1Q J) ?_ (fun k ⟨hk,hd,hq,hq2,hs⟩=>?_))|(show Exists _; refine Exists.intro (k + 1) ⟨?_,?_,wK,(q1Q J),(q2Q J J)⟩))
 all_goals (try (((simp_all [cG,ee,ch,BZ,av,List.drop_eq_nil_of_le]) <;> exact wL); done))
structure Val where
 kind : Int
 num : Int
 den : Int
 str : List UInt8
 deriving Inhabited
def aQ(v : Val) : List D:=[.int .i64 v.kind,.int .i64 v.num,.int .i64 v.den,.str v.str]
def bM(l : List Val) : D:=.sl 4 40 (l.map aQ)
def nf(d : Int)(s : List UInt8) : Bool:=d == 0 && s == []
theorem HZ(k n d : Int)(s : List UInt8) : CallA Tryz.prog 279 [.agg [.d (.int .i64 k),.d (.int .i64 n),.d (.int .i64 d),.d (.str s)]] [] (.one (.d (.bool (nf d s)))) []:=by
 refine enter ag Tryz.func279 rfl (by decide +kernel) rfl fun hok w0 σ0 φ0 M=>?_
 repeat' (first|refine wG ?_|(refine h1H ?_; (refine h4H ?_; refine bn J J J J (fun h=>?_) (fun h=>?_))))
 all_goals (try (((simp_all [nf,av,List.drop_eq_nil_of_le]) <;> exact wL); done))
theorem H0(a b : Nat) : CallA Tryz.prog 280 [.one (.d (.int .i64 a)),.one (.d (.int .i64 b))] [] (.one (.d (.int .i64 (Nat.gcd a b)))) []:=by
 refine enter ag Tryz.func280 rfl (by decide +kernel) rfl fun hok w0 σ0 φ0 M=>?_
 repeat' (first|(refine h3H ?_; (refine F6 ?_; refine d_e envOk J J J (sB J J J J wB) ?_))|refine wG ?_|(refine h5H ?_; first|refine ao J (fun h=>?_) (fun h=>?_)|refine bc 1 J [] bL (fun (p : Nat×Nat)=>[(0,.one (.d (.int .i64 (p.1 : Int)))),(1,.one (.d (.int .i64 (p.2 : Int))))]) (fun (p : Nat×Nat)=>Nat.gcd p.1 p.2 = Nat.gcd a b) (fun (p : Nat×Nat)=>p.2) (a,b) (q2Q J J) ?_ (fun p hg=>?_))|(show Exists _; refine Exists.intro ((p.2,p.1 % p.2)) ⟨?_,?_,wK,(q2Q J J),bL⟩))
 all_goals (try (((simp_all [av,List.drop_eq_nil_of_le]) <;> exact wL); done))
 ·have h' : p.2≠0:=by simpa using h
  show Nat.gcd p.2 (p.1 % p.2) = _
  rw [Nat.gcd_comm,← Nat.gcd_rec,Nat.gcd_comm]; exact hg
 ·have h' : p.2≠0:=by simpa using h
  exact Nat.mod_lt _ (by omega)
end Go.Proofs.YtpejdgkaapnekaaGreat
